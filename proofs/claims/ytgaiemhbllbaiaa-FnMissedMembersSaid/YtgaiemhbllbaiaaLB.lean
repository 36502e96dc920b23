/- An abstract store and its logic for walks, second half. No condition. -/
import Derived.Test.YtgaiemhbllbaiaaLA
import Derived.Orders
import Derived.KernelRfl
import Derived.Laws.BitsAllLaws
import Derived.Laws.BitsLemmas
import Derived.ProofKit
import Derived.Deep.Slices
import Derived.Deep.Fields
import Derived.ChangeSame
import Derived.ChangeArms
import Derived.WideKeyArgs
set_option linter.unusedSimpArgs false
set_option linter.unusedVariables false
set_option linter.unusedSectionVars false
namespace Go.Proofs.Ytgaiemhbllbaiaa
open Go Go.RowKit

mutual
theorem VRel.on {μ μ' : Mu} : ∀ (x : AV) (c : Value), (∀ b ∈ nms x, ∀ L, μ b = some L → μ' b = some L) → VRel μ x c → VRel μ' x c
  | .any, _, _, _ => by simp [VRel]
  | .bl, c, _, hr => by simpa [VRel] using hr
  | .v x, c, _, hr => by simpa [VRel] using hr
  | .ptr b i k, c, h, hr => by
    simp only [VRel, nms, List.mem_singleton, forall_eq] at hr h ⊢
    obtain ⟨L, hL, hc⟩ := hr
    exact ⟨L, h _ hL, hc⟩
  | .sl b o n cap sz, c, h, hr => by
    simp only [VRel, nms] at hr h ⊢
    obtain ⟨x, m, hc, hn, hk, hm⟩ := hr
    refine ⟨x, m, hc, hn, hk, ?_⟩
    by_cases e : cap = some 0
    · exact .inl e
    · rcases hm with hm | ⟨L, h1, h2⟩
      · exact absurd hm e
      · exact .inr ⟨L, h _ (by simp [e]) _ h1, h2⟩
  | .agg l, c, h, hr => by
    simp only [VRel, nms] at hr h ⊢
    obtain ⟨cs, hc, hl⟩ := hr
    exact ⟨cs, hc, VRels.on l cs h hl⟩
  | .tup l, c, h, hr => by
    simp only [VRel, nms] at hr h ⊢
    obtain ⟨cs, hc, hl⟩ := hr
    exact ⟨cs, hc, VRels.on l cs h hl⟩
  | .fn f l, c, h, hr => by
    simp only [VRel, nms] at hr h ⊢
    obtain ⟨cs, hc, hl⟩ := hr
    exact ⟨cs, hc, VRels.on l cs h hl⟩
theorem VRels.on {μ μ' : Mu} : ∀ (l : List AV) (m : List Value), (∀ b ∈ nmss l, ∀ L, μ b = some L → μ' b = some L) → VRels μ l m → VRels μ' l m
  | [], [], _, _ => by simp [VRels]
  | x :: l, y :: m, h, hr => by
    simp only [VRels, nmss, List.mem_append] at hr h ⊢
    exact ⟨VRel.on x y (fun b hb => h b (.inl hb)) hr.1, VRels.on l m (fun b hb => h b (.inr hb)) hr.2⟩
  | [], _ :: _, _, hr => by simp [VRels] at hr
  | _ :: _, [], _, hr => by simp [VRels] at hr
end
mutual
theorem VRel.unren {μ μ' : Mu} {ρ : Nat → Nat} : ∀ (x : AV) (c : Value), (∀ b ∈ nms x, ∀ L, μ (ρ b) = some L → μ' b = some L) → VRel μ (ren ρ x) c → VRel μ' x c
  | .any, _, _, _ => by simp [VRel]
  | .bl, c, _, hr => by simpa [Go.Proofs.Ytgaiemhbllbaiaa.ren, VRel] using hr
  | .v x, c, _, hr => by simpa [Go.Proofs.Ytgaiemhbllbaiaa.ren, VRel] using hr
  | .ptr b i k, c, h, hr => by
    simp only [Go.Proofs.Ytgaiemhbllbaiaa.ren, VRel, nms, List.mem_singleton, forall_eq] at hr h ⊢
    obtain ⟨L, hL, hc⟩ := hr
    exact ⟨L, h _ hL, hc⟩
  | .sl b o n cap sz, c, h, hr => by
    simp only [Go.Proofs.Ytgaiemhbllbaiaa.ren, VRel, nms] at hr h ⊢
    obtain ⟨x, m, hc, hn, hk, hm⟩ := hr
    refine ⟨x, m, hc, hn, hk, ?_⟩
    by_cases e : cap = some 0
    · exact .inl e
    · rcases hm with hm | ⟨L, h1, h2⟩
      · exact absurd hm e
      · exact .inr ⟨L, h _ (by simp [e]) _ h1, h2⟩
  | .agg l, c, h, hr => by
    simp only [Go.Proofs.Ytgaiemhbllbaiaa.ren, VRel, nms] at hr h ⊢
    obtain ⟨cs, hc, hl⟩ := hr
    exact ⟨cs, hc, VRels.unren l cs h hl⟩
  | .tup l, c, h, hr => by
    simp only [Go.Proofs.Ytgaiemhbllbaiaa.ren, VRel, nms] at hr h ⊢
    obtain ⟨cs, hc, hl⟩ := hr
    exact ⟨cs, hc, VRels.unren l cs h hl⟩
  | .fn f l, c, h, hr => by
    simp only [Go.Proofs.Ytgaiemhbllbaiaa.ren, VRel, nms] at hr h ⊢
    obtain ⟨cs, hc, hl⟩ := hr
    exact ⟨cs, hc, VRels.unren l cs h hl⟩
theorem VRels.unren {μ μ' : Mu} {ρ : Nat → Nat} : ∀ (l : List AV) (m : List Value), (∀ b ∈ nmss l, ∀ L, μ (ρ b) = some L → μ' b = some L) → VRels μ (rens ρ l) m → VRels μ' l m
  | [], [], _, _ => by simp [VRels]
  | x :: l, y :: m, h, hr => by
    simp only [rens, VRels, nmss, List.mem_append] at hr h ⊢
    exact ⟨VRel.unren x y (fun b hb => h b (.inl hb)) hr.1, VRels.unren l m (fun b hb => h b (.inr hb)) hr.2⟩
  | [], _ :: _, _, hr => by simp [rens, VRels] at hr
  | _ :: _, [], _, hr => by simp [rens, VRels] at hr
end

section
variable {P : Program} {B N K : Nat} {w0 : World} {X : Nat → Prop} {E μ : Mu} {σ : Sto} {w : World} {τ : Tm} {M : Nat} {a : Act}

/-! results -/
def resV (P : Program) (τ : Tm) (σ : Sto) : ResultVar → Option AV
  | .tmp t => some (get τ t)
  | .cell t ty => fLoad (aggO P ty) (szO P ty) (get τ t) σ
def resL (P : Program) (τ : Tm) (σ : Sto) : List ResultVar → Option (List AV)
  | [] => some []
  | x :: l => match resV P τ σ x with
    | some v => match resL P τ σ l with
      | some vs => some (v :: vs)
      | none => none
    | none => none
def resO : List AV → AV
  | [x] => x
  | l => .tup l
theorem resL_ok {tmps : Array Value} (hR : Rel B w0 X μ σ w) (hT : TRel μ τ tmps) : ∀ (l : List ResultVar) (xs : List AV), resL P τ σ l = some xs →
    ∃ vs : List Value, (l.mapM (fun | .tmp t => pure (tmps.getD t undef) | .cell a t => do loadVar t (← asAddr (tmps.getD a undef)) : ResultVar → Sem Value)).run P w = .ok vs w ∧ VRels μ xs vs
  | [], xs, h => by simp [resL] at h; subst h; exact ⟨[], by simp, by simp [VRels]⟩
  | x :: l, xs, h => by
    simp only [resL] at h
    split at h <;> try (cases h; done)
    rename_i v hv
    split at h <;> try (cases h; done)
    rename_i vs hvs
    cases h
    obtain ⟨us, hu, hr⟩ := resL_ok hR hT l vs hvs
    cases x with
    | tmp t =>
      simp [resV] at hv
      subst hv
      exact ⟨tmps.getD t undef :: us, by simp only [List.mapM_cons, Sem.run_bind, Sem.run_pure, Result.andThen_ok, hu], by simp only [VRels]; exact ⟨hT t, hr⟩⟩
    | cell t ty =>
      simp only [resV] at hv
      obtain ⟨u, hrun, hvu⟩ := fLoad_ok hR (hT t) hv
      have hp : ∃ ad, tmps.getD t undef = .pointer (some ad) := by
        have := hT t
        unfold fLoad at hv
        split at hv <;> try (cases hv; done)
        rename_i b i c heq
        rw [heq] at this
        simp only [VRel] at this
        obtain ⟨L, _, hp⟩ := this
        exact ⟨_, hp⟩
      obtain ⟨ad, hp⟩ := hp
      rw [hp] at hrun
      have hrun' : (loadVar ty ad).run P w = .ok u w := by simpa [Instr.loadAt, Instr.sureAddr] using hrun
      have has : (asAddr (Value.pointer (some ad))).run P w = .ok ad w := rfl
      exact ⟨u :: us, by simp only [List.mapM_cons, Sem.run_bind, Sem.run_pure, Result.andThen_ok, hu, hp, has, hrun'], by simp only [VRels]; exact ⟨hvu, hr⟩⟩
theorem results_ok {fn : Func} {xs : List AV} {tmps : Array Value} (hR : Rel B w0 X μ σ w) (hT : TRel μ τ tmps) (h : resL P τ σ fn.results.toList = some xs) : ∃ v, (results fn tmps).run P w = .ok v w ∧ VRel μ (resO xs) v := by
  obtain ⟨vs, hu, hr⟩ := resL_ok hR hT _ _ h
  have hl := hr.length
  have hrun : (results fn tmps).run P w = .ok (if h : vs.toArray.size = 1 then vs.toArray[0] else .tuple vs.toArray) w := by
    unfold results
    rw [Array.mapM_eq_mapM_toList]
    simp only [Sem.run_bind, Sem.run_map]
    erw [hu]
    simp
  refine ⟨_, hrun, ?_⟩
  match xs, vs, hr with
  | [x], [v], hr => simp only [VRels, and_true] at hr; simpa [resO] using hr
  | [], [], _ => simp only [resO]; simp [VRel, VRels]
  | x :: y :: xs, v :: u :: vs, hr => simp only [resO]; simp only [VRel]; exact ⟨v :: u :: vs, by simp, hr⟩

/-! the contract out of the body -/
def argT : Nat → List AV → Tm
  | _, [] => []
  | i, x :: l => (i, x) :: argT (i + 1) l
theorem argT_rel (n : Nat) : ∀ (xs : List AV) (vs : List Value) (i : Nat), VRels μ xs vs → ∀ j, j < i ∨ VRel μ (get (argT i xs) j) ((vs ++ List.replicate n undef).getD (j - i) undef)
  | [], [], i, _, j => by simp [argT, get, VRel]
  | x :: xs, v :: vs, i, h, j => by
    simp only [VRels] at h
    rcases Nat.lt_or_ge j i with hj | hj
    · exact .inl hj
    · refine .inr ?_
      simp only [argT, get]
      by_cases e : j = i
      · subst e; simpa using h.1
      · rw [if_neg e]
        rcases argT_rel n xs vs (i + 1) h.2 j with h1 | h1
        · omega
        · have : j - i = (j - (i + 1)) + 1 := by omega
          rw [this]
          simpa using h1
  | [], _ :: _, _, h, _ => by simp [VRels] at h
  | _ :: _, [], _, h, _ => by simp [VRels] at h

/-- The callee's own view of the store: only the blocks of 'mods' may be written. -/
def View (mods : List Nat) (σ s : Sto) : Prop := ∀ b, s b = (σ b).map fun k => if b ∈ mods then k else { k with rw := false }
theorem View.ro {σ s : Sto} (h : View [] σ s) {b : Nat} {t sz : Nat} {es : List (List AV)} {rw_ : Bool} (hb : σ b = some ⟨t, sz, es, rw_⟩) : s b = some ⟨t, sz, es, false⟩ := by rw [h b, hb]; rfl

/-- All names lie below K. -/
def Bd (K : Nat) (s : Sto) : Prop := ∀ b k, s b = some k → b < K ∧ ∀ e ∈ k.es, ∀ v ∈ e, ∀ n ∈ nms v, n < K
mutual
theorem VRel.dom {μ : Mu} : ∀ (x : AV) (c : Value), VRel μ x c → ∀ n ∈ nms x, ∃ L, μ n = some L
  | .any, _, _, n, hn => by simp [nms] at hn
  | .bl, _, _, n, hn => by simp [nms] at hn
  | .v _, _, _, n, hn => by simp [nms] at hn
  | .ptr b i k, c, hr, n, hn => by
    simp only [VRel, nms, List.mem_singleton] at hr hn
    obtain ⟨L, hL, _⟩ := hr
    exact ⟨L, hn ▸ hL⟩
  | .sl b o m cap sz, c, hr, n, hn => by
    simp only [VRel, nms] at hr hn
    obtain ⟨_, _, _, _, _, hm⟩ := hr
    rcases hm with hm | ⟨L, hL, _⟩
    · simp [hm] at hn
    · split at hn
      · cases hn
      · simp at hn; exact ⟨L, hn ▸ hL⟩
  | .agg l, c, hr, n, hn => by
    simp only [VRel, nms] at hr hn
    obtain ⟨cs, _, hl⟩ := hr
    exact VRels.dom l cs hl n hn
  | .tup l, c, hr, n, hn => by
    simp only [VRel, nms] at hr hn
    obtain ⟨cs, _, hl⟩ := hr
    exact VRels.dom l cs hl n hn
  | .fn f l, c, hr, n, hn => by
    simp only [VRel, nms] at hr hn
    obtain ⟨cs, _, hl⟩ := hr
    exact VRels.dom l cs hl n hn
theorem VRels.dom {μ : Mu} : ∀ (l : List AV) (m : List Value), VRels μ l m → ∀ n ∈ nmss l, ∃ L, μ n = some L
  | [], [], _, n, hn => by simp [nmss] at hn
  | x :: l, y :: m, hr, n, hn => by
    simp only [VRels, nmss, List.mem_append] at hr hn
    rcases hn with hn | hn
    · exact VRel.dom x y hr.1 n hn
    · exact VRels.dom l m hr.2 n hn
  | [], _ :: _, hr, _, _ => by simp [VRels] at hr
  | _ :: _, [], hr, _, _ => by simp [VRels] at hr
end

def rho (c d ν : Nat) : Nat → Nat := fun b => if b = c then ν else if b = d then ν + 1 else b
def flatB (k : Blk) : Prop := ∀ e ∈ k.es, ∀ v ∈ e, nms v = []
def lowB (K : Nat) (k : Blk) : Prop := ∀ e ∈ k.es, ∀ v ∈ e, ∀ n ∈ nms v, n < K
theorem flatB.low {K : Nat} {k : Blk} (h : flatB k) : lowB K k := fun e he v hv n hn => by rw [h e he v hv] at hn; cases hn

/-- What a function hands back, said without its own names. -/
structure Fin (K ν : Nat) (mods : List Nat) (R : AV → Sto → Prop) (r' : AV) (σ' : Sto) (c d : Nat) (r : AV) (δ : Sto) : Prop where
  hR : R r δ
  hr : r = ren (rho c d ν) r'
  nm : ∀ b ∈ nms r', b < K ∨ b = c ∨ b = d
  cd : c ≠ d
  hc : K ≤ c
  hd : K ≤ d
  dl : ∀ b k, δ b = some k → (b = ν ∧ σ' c = some k ∧ k.rw = true ∧ lowB K k) ∨ (b = ν + 1 ∧ σ' d = some k ∧ k.rw = true ∧ lowB K k) ∨ (b ∈ mods ∧ σ' b = some k ∧ k.rw = true ∧ ∀ e ∈ k.es, ∀ v ∈ e, ∀ n ∈ nms v, n < K)
  md : ∀ b ∈ mods, ∃ k, σ' b = some k ∧ k.rw = true ∧ δ b = some k

mutual
/-- All names that are written in a value, those of slices without room too. -/
def nmA : AV → List Nat
  | .any => []
  | .bl => []
  | .v _ => []
  | .ptr b _ _ => [b]
  | .sl b _ _ _ _ => [b]
  | .agg l => nmAs l
  | .tup l => nmAs l
  | .fn _ l => nmAs l
def nmAs : List AV → List Nat
  | [] => []
  | x :: l => nmA x ++ nmAs l
end
theorem bound_of : ∀ l : List Nat, ∃ m, ∀ n ∈ l, n < m
  | [] => ⟨0, by simp⟩
  | x :: l => by
    obtain ⟨m, h⟩ := bound_of l
    refine ⟨max m (x + 1), fun n hn => ?_⟩
    rcases List.mem_cons.1 hn with rfl | hn
    · omega
    · have := h n hn; omega
variable [Side]
theorem AC.intro {f : FuncId} {fn : Func} {c : Code} {args : List AV} {ν : Nat} {R : AV → Sto → Prop} (mods : List Nat) (hent : Ent P f) (hf : P.funcs[f]? = some fn) (hb : fn.body = some c) (hN : args.length ≤ fn.ntmps)
    (hm : ∀ b ∈ mods, ∃ k, σ b = some k ∧ k.rw = true)
    (h : ∀ (K : Nat) (s : Sto), View mods σ s → Bd K s → (∀ n ∈ nmss args, n < K) → ν + 1 < K → (∀ n ∈ nmAs args, n < K) → (σ ν = none ∧ σ (ν + 1) = none) →
      AWP P fn.ntmps K c (fun e τ' σ' _ => (e = .normal ∨ e = .ret) ∧ ∃ xs, resL P τ' σ' fn.results.toList = some xs ∧ ∃ c d r δ, Fin K ν mods R (resO xs) σ' c d r δ) (argT 0 args) s K) : AC P f args σ ν R := by
  refine ⟨hent, fun B w0 X μ w vs hsd hR hν hν1 hv => ?_⟩
  obtain ⟨M0, hM0⟩ := hR.fin
  have hvl := hv.length
  -- the callee's own names begin at K
  have hK : ∃ K, ν + 1 < K ∧ (∀ b, K ≤ b → μ b = none) ∧ ∀ n ∈ nmAs args, n < K := by
    obtain ⟨m, hm⟩ := bound_of (nmAs args)
    exact ⟨max (max M0 (ν + 2)) m, by omega, fun b hb => hM0 b (by omega), fun n hn => by have := hm n hn; omega⟩
  obtain ⟨K, hKν, hKμ, hKA⟩ := hK
  have hlive : ∀ b k, σ b = some k → b < K := fun b k hb => by
    rcases Nat.lt_or_ge b K with h1 | h1
    · exact h1
    · obtain ⟨L, hL, _⟩ := hR.blk b k hb
      rw [hKμ b h1] at hL; cases hL
  let X' : Nat → Prop := fun g => ∃ b ∈ mods, ∃ L, μ b = some L ∧ 0 < L.C ∧ L.a.block = g
  let s : Sto := fun b => (σ b).map fun k => if b ∈ mods then k else { k with rw := false }
  have hs : View mods σ s := fun _ => rfl
  have hsσ : ∀ b k, s b = some k → ∃ k0, σ b = some k0 ∧ k = if b ∈ mods then k0 else { k0 with rw := false } := fun b k hb => by
    simp only [s, Option.map_eq_some_iff] at hb
    obtain ⟨k0, h1, h2⟩ := hb
    exact ⟨k0, h1, h2.symm⟩
  have hR' : Rel w.heap.size w X' μ s w := by
    refine ⟨Keep.refl _ _ _, Nat.le_refl _, fun b k hb => ?_, fun b b' k k' L L' hne hb hb' hL hL' hrw hC ho => ?_, hR.fin⟩
    · obtain ⟨k0, h0, rfl⟩ := hsσ b k hb
      obtain ⟨L, hL, hB⟩ := hR.blk b k0 h0
      refine ⟨L, hL, ?_⟩
      by_cases hbm : b ∈ mods
      · rw [if_pos hbm]
        refine ⟨hB.sz, hB.pos, hB.len, hB.rd, fun hrw => ?_⟩
        rcases hB.own hrw with h1 | ⟨g, cs, h1, h2, h3, h4, h5, h6⟩
        · exact .inl h1
        · exact .inr ⟨g, cs, h1, .inr ⟨b, hbm, L, hL, h6, by rw [h1]⟩, h3, h4, h5, h6⟩
      · rw [if_neg hbm]
        exact ⟨hB.sz, hB.pos, hB.len, hB.rd, fun hrw => by cases hrw⟩
    · obtain ⟨k0, h0, rfl⟩ := hsσ b k hb
      obtain ⟨k0', h0', rfl⟩ := hsσ b' k' hb'
      have hbm : b ∈ mods := by
        by_cases hbm : b ∈ mods
        · exact hbm
        · rw [if_neg hbm] at hrw; cases hrw
      rw [if_pos hbm] at hrw
      refine hR.sep b b' k0 k0' L L' hne h0 h0' hL hL' hrw hC ?_
      by_cases hbm' : b' ∈ mods
      · rwa [if_pos hbm'] at ho
      · rw [if_neg hbm'] at ho
        rcases ho with ho | ⟨ho, _⟩
        · exact .inl ho
        · cases ho
  have hsd' : Side.ok w.heap.size w X' := Side.on B w0 X _ w X' hsd hR.keep hR.big fun g hg hx => by
    rintro ⟨m, hmm, Lm, hLm, hCm, he⟩
    obtain ⟨km, hkm, hrm⟩ := hm m hmm
    obtain ⟨L0, hL0, hB0⟩ := hR.blk m km hkm
    rw [hLm] at hL0; cases hL0
    rcases hB0.own hrm with ⟨_, h0⟩ | ⟨g0, cs0, e1, e2, _⟩
    · omega
    · rw [e1] at he
      simp only at he
      subst he
      rcases e2 with e2 | e2
      · omega
      · exact hx e2
  refine calls_of_wp hf hb ?_
  have hT : TRel μ (argT 0 args) (vs.toArray ++ Array.replicate (fn.ntmps - vs.toArray.size) undef) := fun i => by
    rcases argT_rel (μ := μ) (fn.ntmps - vs.toArray.size) args vs 0 hv i with h1 | h1
    · omega
    · have e : (vs.toArray ++ Array.replicate (fn.ntmps - vs.toArray.size) undef).getD i undef = (vs ++ List.replicate (fn.ntmps - vs.toArray.size) undef).getD (i - 0) undef := by
        simp [Array.getD_eq_getD_getElem?, List.getD_eq_getElem?_getD, ← Array.getElem?_toList]
      rw [e]
      exact h1
  have hhs : HS w.heap.size w X' fn.ntmps K μ (argT 0 args) s K { tmps := vs.toArray ++ Array.replicate (fn.ntmps - vs.toArray.size) undef, defers := [] } w μ :=
    ⟨rfl, by simp; omega, hR', hKμ, fun _ _ => rfl, hT, Nat.le_refl _, hsd'⟩
  have hdom : ∀ n, (∃ L, μ n = some L) → n < K := fun n ⟨L, hL⟩ => by
    rcases Nat.lt_or_ge n K with h1 | h1
    · exact h1
    · rw [hKμ n h1] at hL; cases hL
  have hBd : Bd K s := fun b k hb => by
    obtain ⟨k0, h0, hk⟩ := hsσ b k hb
    refine ⟨hlive b k0 h0, fun e he v hv n hn => hdom n ?_⟩
    obtain ⟨L, hL, hB⟩ := hR'.blk b k hb
    obtain ⟨i, hi, rfl⟩ := List.mem_iff_getElem.1 he
    obtain ⟨j, hj, rfl⟩ := List.mem_iff_getElem.1 hv
    obtain ⟨u, _, _, hvu⟩ := hB.rd i _ (List.getElem?_eq_getElem hi) j _ (List.getElem?_eq_getElem hj)
    exact VRel.dom _ _ hvu n hn
  refine wp_mono (h K s hs hBd (fun n hn => hdom n (VRels.dom _ _ hv n hn)) hKν hKA ⟨free_of hR hν, free_of hR hν1⟩ _ _ _ _ _ _ _ hhs) ?_
  rintro e a' w' ⟨τ', σ', M', μe, ⟨he, xs, hxs, c0, d0, r, δ, hF⟩, hs'⟩
  obtain ⟨v', hrun, hvr⟩ := results_ok (fn := fn) hs'.rel hs'.tm hxs
  let μ' : Mu := fun b => if b = ν then μe c0 else if b = ν + 1 then μe d0 else μ b
  have hμν : μ' ν = μe c0 := by simp [μ']
  have hμν1 : μ' (ν + 1) = μe d0 := by simp [μ']
  have hμo : ∀ b, b ≠ ν → b ≠ ν + 1 → μ' b = μ b := fun b h1 h2 => by simp [μ', h1, h2]
  have hsub : Sub μ μ' := fun b L hb => by
    have h1 : b ≠ ν := fun e => by subst e; rw [hν] at hb; cases hb
    have h2 : b ≠ ν + 1 := fun e => by subst e; rw [hν1] at hb; cases hb
    rw [hμo b h1 h2]; exact hb
  have hext := hs'.ext
  have below : ∀ n, n < K → ∀ L, μe n = some L → μ' n = some L := fun n hn L hL => by
    rw [hext n hn] at hL
    exact hsub n L hL
  have hmodK : ∀ b ∈ mods, b < K := fun b hb => let ⟨k, hk, _⟩ := hm b hb; hlive b k hk
  have hold : ∀ b k L, σ b = some k → μ b = some L → occ k L → b ∉ mods → w'.heap[L.a.block]? = w.heap[L.a.block]? := fun b k L hb hL ho hbm => by
    obtain ⟨L0, hL0, hB⟩ := hR.blk b k hb
    rw [hL] at hL0; cases hL0
    refine hs'.rel.keep.block _ (hB.lt ho) ?_
    rintro ⟨m, hmm, Lm, hLm, hCm, he⟩
    obtain ⟨km, hkm, hrm⟩ := hm m hmm
    exact hR.sep m b km k Lm L (fun e => hbm (e ▸ hmm)) hkm hb hLm hL hrm hCm ho he
  -- what is new lies behind all that was there
  have hnew : ∀ c1, K ≤ c1 → ∀ k L, σ' c1 = some k → μe c1 = some L → k.rw = true → BRel w.heap.size X' μe w' L k → (k.es = [] ∧ L.C = 0) ∨ ∃ g cs, L.a = ⟨g, 0, none⟩ ∧ w.heap.size ≤ g ∧ w'.heap[g]? = some (.cells cs k.ty (0, 0)) ∧ cs.size = L.C * k.sz ∧ k.es.length ≤ L.C ∧ 0 < L.C := by
    intro c1 hc1 k L hk hL hrw hB
    rcases hB.own hrw with h1 | ⟨g, cs, h1, h2, h3, h4, h5, h6⟩
    · exact .inl h1
    · refine .inr ⟨g, cs, h1, ?_, h3, h4, h5, h6⟩
      rcases h2 with h2 | ⟨m, hmm, Lm, hLm, hCm, he⟩
      · exact h2
      · obtain ⟨km, hkm, hrm, _⟩ := hF.md m hmm
        have hmK := hmodK m hmm
        have hLm' : μe m = some Lm := by rw [hext m hmK]; exact hLm
        have := hs'.rel.sep c1 m k km L Lm (by omega) hk hkm hL hLm' hrw h6 (.inr ⟨hrm, hCm⟩)
        rw [h1, he] at this
        exact absurd rfl this
  have hcaller : Rel B w0 X μ' (ovr σ δ) w' := by
    have hBig := hR.big
    have hmodL : ∀ b ∈ mods, ∀ k L, σ' b = some k → μ b = some L → k.rw = true → BRel w.heap.size X' μe w' L k → (k.es = [] ∧ L.C = 0) ∨ ∃ g cs, L.a = ⟨g, 0, none⟩ ∧ (B ≤ g ∨ X g) ∧ w'.heap[g]? = some (.cells cs k.ty (0, 0)) ∧ cs.size = L.C * k.sz ∧ k.es.length ≤ L.C ∧ 0 < L.C := by
      intro b hbm k L hk hL hrw hB
      rcases hB.own hrw with h1 | ⟨g, cs, h1, h2, h3, h4, h5, h6⟩
      · exact .inl h1
      · obtain ⟨km, hkm, hrm⟩ := hm b hbm
        obtain ⟨L0, hL0, hB0⟩ := hR.blk b km hkm
        rw [hL] at hL0; cases hL0
        rcases hB0.own hrm with ⟨_, h0⟩ | ⟨g0, cs0, e1, e2, _⟩
        · omega
        · rw [e1] at h1
          cases h1
          exact .inr ⟨_, cs, e1, e2, h3, h4, h5, h6⟩
    -- each live block is an elder one or a new one
    have cls : ∀ b k L, ovr σ δ b = some k → μ' b = some L → (∃ k0, σ b = some k0 ∧ μ b = some L ∧ (k.rw = true → k0.rw = true) ∧ (occ k L → occ k0 L)) ∨
        (∃ c1, σ' c1 = some k ∧ μe c1 = some L ∧ K ≤ c1 ∧ k.rw = true ∧ (b = ν ∧ c1 = c0 ∨ b = ν + 1 ∧ c1 = d0) ∧ (0 < L.C → w.heap.size ≤ L.a.block)) := by
      intro b k L hb hL
      have newcase : ∀ c1, K ≤ c1 → σ' c1 = some k → μe c1 = some L → k.rw = true → (0 < L.C → w.heap.size ≤ L.a.block) := fun c1 hc1 hk hL hrw hC => by
        obtain ⟨L1, hL1, hB1⟩ := hs'.rel.blk c1 k hk
        rw [hL] at hL1; cases hL1
        rcases hnew c1 hc1 k L hk hL hrw hB1 with ⟨_, h0⟩ | ⟨g, cs, h1, h2, _⟩
        · omega
        · rw [h1]; exact h2
      simp only [ovr] at hb
      cases hδ : δ b with
      | some k1 =>
        rw [hδ] at hb
        simp only [Option.some.injEq] at hb
        subst hb
        rcases hF.dl b k1 hδ with ⟨rfl, h1, h2, _⟩ | ⟨rfl, h1, h2, _⟩ | ⟨hbm, h1, h2, _⟩
        · rw [hμν] at hL
          exact .inr ⟨c0, h1, hL, hF.hc, h2, .inl ⟨rfl, rfl⟩, newcase c0 hF.hc h1 hL h2⟩
        · rw [hμν1] at hL
          exact .inr ⟨d0, h1, hL, hF.hd, h2, .inr ⟨rfl, rfl⟩, newcase d0 hF.hd h1 hL h2⟩
        · obtain ⟨km, hkm, hrm⟩ := hm b hbm
          obtain ⟨L0, hL0, _⟩ := hR.blk b km hkm
          have hL' := hL
          rw [hsub b L0 hL0] at hL'
          cases hL'
          refine .inl ⟨km, hkm, hL0, fun _ => hrm, fun ho => .inr ⟨hrm, ?_⟩⟩
          obtain ⟨L1, hL1, hB1⟩ := hs'.rel.blk b k1 h1
          rw [hext b (hmodK b hbm), hL0] at hL1
          cases hL1
          rcases hmodL b hbm k1 _ h1 hL0 h2 hB1 with ⟨h3, h4⟩ | ⟨g, cs, _, _, _, _, _, h6⟩
          · rcases ho with ho | ⟨_, ho⟩
            · exact absurd h3 ho
            · exact ho
          · exact h6
      | none =>
        rw [hδ] at hb
        simp only at hb
        obtain ⟨L0, hL0, _⟩ := hR.blk b k hb
        have hL' := hL
        rw [hsub b L0 hL0] at hL'
        cases hL'
        exact .inl ⟨k, hb, hL0, id, id⟩
    refine ⟨hR.keep.trans ⟨hs'.rel.keep.os, hs'.rel.keep.tape, hs'.rel.keep.output, hs'.rel.keep.size, fun g hg hx => hs'.rel.keep.block g (by omega) ?_⟩, Nat.le_trans hBig hs'.rel.keep.size, fun b k hb => ?_, fun b b' k k' L L' hne hb hb' hL hL' hrw hC ho => ?_, ?_⟩
    · rintro ⟨m, hmm, Lm, hLm, hCm, he⟩
      obtain ⟨km, hkm, hrm⟩ := hm m hmm
      obtain ⟨L0, hL0, hB0⟩ := hR.blk m km hkm
      rw [hLm] at hL0; cases hL0
      rcases hB0.own hrm with ⟨_, h0⟩ | ⟨g0, cs0, e1, e2, _⟩
      · omega
      · rw [e1] at he
        simp only at he
        subst he
        rcases e2 with e2 | e2
        · omega
        · exact hx e2
    · have hb0 := hb
      simp only [ovr] at hb
      cases hδ : δ b with
      | some k1 =>
        rw [hδ] at hb
        simp only [Option.some.injEq] at hb
        subst hb
        have fresh : ∀ c1, K ≤ c1 → σ' c1 = some k1 → k1.rw = true → lowB K k1 → ∃ L, μe c1 = some L ∧ BRel B X μ' w' L k1 := fun c1 hc1 hk hrw hfl => by
          obtain ⟨L, hL, hB⟩ := hs'.rel.blk c1 k1 hk
          refine ⟨L, hL, hB.sz, hB.pos, hB.len, fun i e he c v hv => ?_, fun _ => ?_⟩
          · obtain ⟨u, hu, h1, h2⟩ := hB.rd i e he c v hv
            refine ⟨u, hu, h1, VRel.on v u (fun n hn => ?_) h2⟩
            exact below n (hfl e (List.mem_of_getElem? he) v (List.mem_of_getElem? hv) n hn)
          · rcases hnew c1 hc1 k1 L hk hL hrw hB with h1 | ⟨g, cs, h1, h2, h3⟩
            · exact .inl h1
            · exact .inr ⟨g, cs, h1, .inl (by omega), h3⟩
        rcases hF.dl b k1 hδ with ⟨rfl, h1, h2, h3⟩ | ⟨rfl, h1, h2, h3⟩ | ⟨hbm, h1, h2, h3⟩
        · obtain ⟨L, hL, hB⟩ := fresh c0 hF.hc h1 h2 h3
          exact ⟨L, hμν.trans hL, hB⟩
        · obtain ⟨L, hL, hB⟩ := fresh d0 hF.hd h1 h2 h3
          exact ⟨L, hμν1.trans hL, hB⟩
        · obtain ⟨L, hL, hB⟩ := hs'.rel.blk b k1 h1
          have hLμ : μ b = some L := by rw [← hext b (hmodK b hbm)]; exact hL
          refine ⟨L, hsub b L hLμ, hB.sz, hB.pos, hB.len, fun i e he c v hv => ?_, fun _ => hmodL b hbm k1 L h1 hLμ h2 hB⟩
          obtain ⟨u, hu, g1, g2⟩ := hB.rd i e he c v hv
          exact ⟨u, hu, g1, VRel.on v u (fun n hn => below n (h3 e (List.mem_of_getElem? he) v (List.mem_of_getElem? hv) n hn)) g2⟩
      | none =>
        rw [hδ] at hb
        simp only at hb
        have hbm : b ∉ mods := fun hbm => by
          obtain ⟨k', _, _, h3⟩ := hF.md b hbm
          rw [hδ] at h3; cases h3
        obtain ⟨L, hL, hB⟩ := hR.blk b k hb
        exact ⟨L, hsub b L hL, hB.keep hsub fun ho => hold b k L hb hL ho hbm⟩
    · rcases cls b k L hb hL with ⟨k0, h1, h2, h3, h4⟩ | ⟨c1, h1, h2, h3, h4, h5, h6⟩ <;> rcases cls b' k' L' hb' hL' with ⟨k0', g1, g2, g3, g4⟩ | ⟨c1', g1, g2, g3, g4, g5, g6⟩
      · exact hR.sep b b' k0 k0' L L' hne h1 g1 h2 g2 (h3 hrw) hC (g4 ho)
      · obtain ⟨L0, hL0, hB0⟩ := hR.blk b k0 h1
        rw [h2] at hL0; cases hL0
        have := hB0.lt (.inr ⟨h3 hrw, hC⟩)
        have hC' : 0 < L'.C := by
          obtain ⟨L1, hL1, hB1⟩ := hs'.rel.blk c1' k' g1
          rw [g2] at hL1; cases hL1
          rcases ho with ho | ⟨_, ho⟩
          · rcases hB1.own g4 with ⟨e1, _⟩ | ⟨_, _, _, _, _, _, _, e6⟩
            · exact absurd e1 ho
            · exact e6
          · exact ho
        have := g6 hC'
        omega
      · have h7 := h6 hC
        obtain ⟨L0, hL0, hB0⟩ := hR.blk b' k0' g1
        rw [g2] at hL0; cases hL0
        have := hB0.lt (g4 ho)
        omega
      · refine hs'.rel.sep c1 c1' k k' L L' ?_ h1 g1 h2 g2 hrw hC ho
        rcases h5 with ⟨e1, e2⟩ | ⟨e1, e2⟩ <;> rcases g5 with ⟨e3, e4⟩ | ⟨e3, e4⟩
        · exact absurd (e1.trans e3.symm) hne
        · rw [e2, e4]; exact hF.cd
        · rw [e2, e4]; exact Ne.symm hF.cd
        · exact absurd (e1.trans e3.symm) hne
    · refine ⟨K, fun b hb => ?_⟩
      rw [hμo b (by omega) (by omega)]
      exact hKμ b hb
  have hres : VRel μ' r v' := by
    rw [hF.hr]
    refine VRel.ren _ _ (fun b hb L hL => ?_) hvr
    rcases hF.nm b hb with h1 | rfl | rfl
    · have h2 : b ≠ c0 := fun e => by have := hF.hc; omega
      have h3 : b ≠ d0 := fun e => by have := hF.hd; omega
      simp only [rho, if_neg h2, if_neg h3]
      exact below b h1 L hL
    · simp only [rho, if_true]
      rw [hμν]; exact hL
    · have h2 : b ≠ c0 := Ne.symm hF.cd
      simp only [rho, if_neg h2, if_true]
      rw [hμν1]; exact hL
  have hpost : bodyPost P fn (fun e w' => ∃ r δ μ' v', e = .returned v' ∧ R r δ ∧ VRel μ' r v' ∧ Rel B w0 X μ' (ovr σ δ) w' ∧ Sub μ μ' ∧ ∀ b, b ≠ ν → b ≠ ν + 1 → μ' b = μ b) .ret a' w' :=
    ⟨hs'.dfr, v', hrun, r, δ, μ', v', rfl, hF.hR, hres, hcaller, hsub, hμo⟩
  rcases he with rfl | rfl
  · exact hpost
  · exact hpost

end
end Go.Proofs.Ytgaiemhbllbaiaa
namespace Go.Proofs.Ytgaiemhbllbaiaa
open Go Go.RowKit

def swl : List (Nat × Nat) → Nat → Nat
  | [], b => b
  | (c, c') :: l, b => if b = c then c' else swl l b
theorem swl_cases : ∀ (l : List (Nat × Nat)) (b : Nat), swl l b = b ∨ ∃ q ∈ l, q.1 = b ∧ swl l b = q.2
  | [], b => .inl rfl
  | (c, c') :: l, b => by
    simp only [swl]
    split
    · rename_i h; exact .inr ⟨(c, c'), by simp, h.symm, rfl⟩
    · rcases swl_cases l b with h | ⟨q, h1, h2, h3⟩
      · exact .inl h
      · exact .inr ⟨q, by simp [h1], h2, h3⟩
theorem swl_low {K : Nat} : ∀ {l : List (Nat × Nat)}, (∀ p ∈ l, K ≤ p.1) → ∀ b, b < K → swl l b = b := fun {l} h b hb => by
  rcases swl_cases l b with h1 | ⟨q, h1, h2, _⟩
  · exact h1
  · have := h q h1; omega
theorem swl_inj {M : Nat} : ∀ {l : List (Nat × Nat)}, (∀ p ∈ l, M ≤ p.2 ∨ p.2 = p.1) → l.Pairwise (fun p q => p.2 ≠ q.2) → ∀ b b', b < M → b' < M → swl l b = swl l b' → b = b'
  | [], _, _, b, b', _, _, h => h
  | (c, c') :: l, h1, h2, b, b', hb, hb', h => by
    simp only [swl] at h
    simp only [List.pairwise_cons] at h2
    have hc := h1 (c, c') (by simp)
    have key : ∀ d, d < M → d ≠ c → c' ≠ swl l d := fun d hd hdc e => by
      rcases swl_cases l d with h3 | ⟨q, h3, h4, h5⟩
      · rw [h3] at e
        rcases hc with hc | hc
        · simp only at hc; omega
        · simp only at hc; exact hdc (e.symm.trans hc)
      · exact h2.1 q h3 (e.trans h5)
    split at h <;> split at h
    · rename_i e1 e2; exact e1.trans e2.symm
    · rename_i e1 e2; exact absurd h (key b' hb' e2)
    · rename_i e1 e2; exact absurd h.symm (key b hb e1)
    · exact swl_inj (fun p hp => h1 p (by simp [hp])) h2.2 b b' hb hb' h

/-- A block said with other names. -/
def BLe (ρ : Nat → Nat) (M' : Nat) (k0 k : Blk) : Prop :=
  k0.ty = k.ty ∧ k0.sz = k.sz ∧ (k.rw = true → k0.rw = true) ∧
    ((k0.es = k.es ∧ ∀ e ∈ k.es, ∀ v ∈ e, ∀ n ∈ nms v, n < M' ∧ ρ n = n) ∨ (k0.es = k.es.map (List.map (ren ρ)) ∧ ∀ e ∈ k.es, ∀ v ∈ e, ∀ n ∈ nms v, n < M'))
def LeS (ρ : Nat → Nat) (M' : Nat) (σ σ' : Sto) : Prop := ∀ b k, σ' b = some k → b < M' ∧ ∃ k0, σ (ρ b) = some k0 ∧ BLe ρ M' k0 k
def LeT (ρ : Nat → Nat) (M' : Nat) (τ τ' : Tm) : Prop := ∀ p ∈ τ', p.2 = .any ∨ (get τ p.1 = ren ρ p.2 ∧ ∀ n ∈ nms p.2, n < M')
/-- All of the elder store is still there. -/
def Over (s σ : Sto) : Prop := ∀ b k, s b = some k → σ b = some k

theorem Over.refl (s : Sto) : Over s s := fun _ _ h => h
theorem Over.upd {s σ : Sto} {K b : Nat} {k : Blk} (h : Over s σ) (hs : Bd K s) (hb : K ≤ b) : Over s (upd σ b k) := fun c k' hc => by
  have := (hs c k' hc).1
  rw [upd_ne _ _ _ _ (by omega)]
  exact h c k' hc
theorem Over.del {s σ : Sto} {K b : Nat} (h : Over s σ) (hs : Bd K s) (hb : K ≤ b) : Over s (del σ b) := fun c k' hc => by
  have := (hs c k' hc).1
  rw [del_ne _ _ _ (by omega)]
  exact h c k' hc
theorem LeS.base {ρ : Nat → Nat} {K M' : Nat} {s σ : Sto} (hs : Bd K s) (hK : K ≤ M') (hρ : ∀ b, b < K → ρ b = b) (ho : Over s σ) : LeS ρ M' σ s := fun b k hb => by
  obtain ⟨h1, h2⟩ := hs b k hb
  refine ⟨by omega, k, by rw [hρ b h1]; exact ho b k hb, rfl, rfl, id, .inl ⟨rfl, fun e he v hv n hn => ?_⟩⟩
  have := h2 e he v hv n hn
  exact ⟨by omega, hρ n this⟩
theorem LeS.upd {ρ : Nat → Nat} {M' b : Nat} {σ σ' : Sto} {k0 k : Blk} (h : LeS ρ M' σ σ') (hb : b < M') (hk : σ (ρ b) = some k0) (hl : BLe ρ M' k0 k) : LeS ρ M' σ (upd σ' b k) := fun c k' hc => by
  by_cases e : c = b
  · subst e
    rw [upd_eq] at hc; cases hc
    exact ⟨hb, k0, hk, hl⟩
  · rw [upd_ne _ _ _ _ e] at hc
    exact h c k' hc
theorem BLe.flat {ρ : Nat → Nat} {M' ty sz : Nat} {es : List (List AV)} {r r' : Bool} (hr : r' = true → r = true) (hf : ∀ e ∈ es, ∀ v ∈ e, nms v = []) : BLe ρ M' ⟨ty, sz, es, r⟩ ⟨ty, sz, es, r'⟩ :=
  ⟨rfl, rfl, hr, .inl ⟨rfl, fun e he v hv n hn => by rw [hf e he v hv] at hn; cases hn⟩⟩
theorem BLe.low {ρ : Nat → Nat} {K M' ty sz : Nat} {es : List (List AV)} {r r' : Bool} (hr : r' = true → r = true) (hρ : ∀ b, b < K → ρ b = b) (hK : K ≤ M') (hf : ∀ e ∈ es, ∀ v ∈ e, ∀ n ∈ nms v, n < K) : BLe ρ M' ⟨ty, sz, es, r⟩ ⟨ty, sz, es, r'⟩ :=
  ⟨rfl, rfl, hr, .inl ⟨rfl, fun e he v hv n hn => by have := hf e he v hv n hn; exact ⟨by omega, hρ n this⟩⟩⟩
theorem BLe.ren {ρ : Nat → Nat} {M' ty sz : Nat} {es0 es : List (List AV)} {r r' : Bool} (hr : r' = true → r = true) (he : es0 = es.map (List.map (Go.Proofs.Ytgaiemhbllbaiaa.ren ρ))) (hf : ∀ e ∈ es, ∀ v ∈ e, ∀ n ∈ nms v, n < M') : BLe ρ M' ⟨ty, sz, es0, r⟩ ⟨ty, sz, es, r'⟩ :=
  ⟨rfl, rfl, hr, .inr ⟨he, hf⟩⟩

theorem get_mem : ∀ (τ : Tm) (i : Nat), get τ i = .any ∨ ∃ p ∈ τ, p.1 = i ∧ get τ i = p.2
  | [], i => .inl rfl
  | (j, x) :: r, i => by
    simp only [get]
    split
    · rename_i h; exact .inr ⟨(j, x), by simp, h.symm, rfl⟩
    · rcases get_mem r i with h | ⟨p, h1, h2, h3⟩
      · exact .inl h
      · exact .inr ⟨p, by simp [h1], h2, h3⟩

theorem Weak.mk [Side] {K M M' : Nat} {τ τ' : Tm} {σ σ' : Sto} (l : List (Nat × Nat)) (hl : ∀ p ∈ l, K ≤ p.1 ∧ (M' ≤ p.2 ∨ p.2 = p.1)) (hp : l.Pairwise (fun p q => p.2 ≠ q.2)) (hK : K ≤ M')
    (hT : LeT (swl l) M' τ τ') (hS : LeS (swl l) M' σ σ') : Weak K τ σ M τ' σ' M' := by
  intro B w0 X N E a w μ hs
  have hlow := swl_low (K := K) (l := l) fun p hp => (hl p hp).1
  have hinj := swl_inj (M := M') (l := l) (fun p hp => (hl p hp).2) hp
  let μ' : Mu := fun b => if b < M' then μ (swl l b) else none
  have hμ' : ∀ b, b < M' → μ' b = μ (swl l b) := fun b hb => by simp [μ', hb]
  have un : ∀ v u, (∀ n ∈ nms v, n < M') → VRel μ (ren (swl l) v) u → VRel μ' v u := fun v u hn h => VRel.unren v u (fun b hb L hL => by rw [hμ' b (hn b hb)]; exact hL) h
  refine ⟨μ', hs.dfr, hs.siz, ⟨hs.rel.keep, hs.rel.big, fun b k hb => ?_, fun b b' k k' L L' hne hb hb' hL hL' hrw hC ho => ?_, ⟨M', fun b hb => ?_⟩⟩, fun b hb => ?_, fun b hb => ?_, fun i => ?_, hK, hs.sd⟩
  · obtain ⟨hbM, k0, hk0, e1, e2, e3, e4⟩ := hS b k hb
    obtain ⟨L, hL, hB⟩ := hs.rel.blk _ k0 hk0
    refine ⟨L, by rw [hμ' b hbM]; exact hL, by rw [← e2]; exact hB.sz, by rw [← e2]; exact hB.pos, fun e he => ?_, fun i e he c v hv => ?_, fun hrw => ?_⟩
    · rcases e4 with ⟨e4, _⟩ | ⟨e4, _⟩
      · rw [← e2]; exact hB.len e (e4 ▸ he)
      · have := hB.len (e.map (ren (swl l))) (by rw [e4]; exact List.mem_map_of_mem he)
        rw [← e2, ← this]; simp
    · rcases e4 with ⟨e4, e5⟩ | ⟨e4, e5⟩
      · obtain ⟨u, hu, h1, h2⟩ := hB.rd i e (by rw [e4]; exact he) c v hv
        refine ⟨u, by rw [← e2]; exact hu, h1, VRel.on v u (fun n hn L hL => ?_) h2⟩
        obtain ⟨g1, g2⟩ := e5 e (List.mem_of_getElem? he) v (List.mem_of_getElem? hv) n hn
        rw [hμ' n g1, g2]; exact hL
      · obtain ⟨u, hu, h1, h2⟩ := hB.rd i (e.map (ren (swl l))) (by rw [e4, List.getElem?_map, he]; rfl) c (ren (swl l) v) (by rw [List.getElem?_map, hv]; rfl)
        exact ⟨u, by rw [← e2]; exact hu, h1, un v u (e5 e (List.mem_of_getElem? he) v (List.mem_of_getElem? hv)) h2⟩
    · have hlen : k0.es.length = k.es.length := by rcases e4 with ⟨e4, _⟩ | ⟨e4, _⟩ <;> simp [e4]
      rcases hB.own (e3 hrw) with ⟨h1, h2⟩ | ⟨g, cs, h1, h2, h3, h4, h5, h6⟩
      · exact .inl ⟨List.eq_nil_of_length_eq_zero (by rw [← hlen, h1]; rfl), h2⟩
      · exact .inr ⟨g, cs, h1, h2, by rw [← e1]; exact h3, by rw [← e2]; exact h4, by omega, h6⟩
  · obtain ⟨hbM, k0, hk0, _, _, e3, _⟩ := hS b k hb
    obtain ⟨hbM', k0', hk0', _, _, e3', e4'⟩ := hS b' k' hb'
    rw [hμ' b hbM] at hL
    rw [hμ' b' hbM'] at hL'
    refine hs.rel.sep _ _ k0 k0' L L' (fun e => hne (hinj b b' hbM hbM' e)) hk0 hk0' hL hL' (e3 hrw) hC (ho.imp (fun h1 h2 => h1 ?_) fun ⟨h1, h2⟩ => ⟨e3' h1, h2⟩)
    have hlen : k0'.es.length = k'.es.length := by rcases e4' with ⟨e4, _⟩ | ⟨e4, _⟩ <;> simp [e4]
    exact List.eq_nil_of_length_eq_zero (by rw [← hlen, h2]; rfl)
  · simp only [μ', if_neg (Nat.not_lt.2 hb)]
  · simp only [μ', if_neg (Nat.not_lt.2 hb)]
  · rw [hμ' b (by omega), hlow b hb]
    exact hs.ext b hb
  · rcases get_mem τ' i with h | ⟨p, h1, h2, h3⟩
    · rw [h]; simp [VRel]
    · rw [h3]
      rcases hT p h1 with h4 | ⟨h4, h5⟩
      · rw [h4]; simp [VRel]
      · refine un _ _ h5 ?_
        rw [← h4, h2]
        exact hs.tm i

/-! the ends of functions -/
section
variable {K ν : Nat} {R : AV → Sto → Prop} {r : AV} {σ' : Sto}
theorem fin0 (hR : R (ren (rho K (K + 1) ν) r) noS) (hn : ∀ n ∈ nms r, n < K) : ∃ c d r' δ, Fin K ν [] R r σ' c d r' δ :=
  ⟨K, K + 1, _, noS, hR, rfl, fun b hb => .inl (hn b hb), by omega, Nat.le_refl _, by omega, fun b k hb => by simp [noS] at hb, by simp⟩
theorem fin1 (c : Nat) (k : Blk) (hk : σ' c = some k) (hrw : k.rw = true) (hf : flatB k) (hR : R (ren (rho c (c + 1) ν) r) (upd noS ν k)) (hc : K ≤ c) (hn : ∀ n ∈ nms r, n < K ∨ n = c) : ∃ c d r' δ, Fin K ν [] R r σ' c d r' δ :=
  ⟨c, c + 1, _, upd noS ν k, hR, rfl, fun b hb => (hn b hb).imp id .inl, by omega, hc, by omega, fun b k' hb => by
    by_cases e : b = ν
    · subst e; rw [upd_eq] at hb; cases hb; exact .inl ⟨rfl, hk, hrw, hf.low⟩
    · rw [upd_ne _ _ _ _ e] at hb; simp [noS] at hb, by simp⟩
theorem fin2 (c d : Nat) (k k2 : Blk) (hk : σ' c = some k) (hrw : k.rw = true) (hf : flatB k) (hk2 : σ' d = some k2) (hrw2 : k2.rw = true) (hf2 : flatB k2) (hR : R (ren (rho c d ν) r) (upd (upd noS ν k) (ν + 1) k2)) (hc : K ≤ c) (hd : K ≤ d) (hcd : c ≠ d)
    (hn : ∀ n ∈ nms r, n < K ∨ n = c ∨ n = d) : ∃ c d r' δ, Fin K ν [] R r σ' c d r' δ :=
  ⟨c, d, _, _, hR, rfl, hn, hcd, hc, hd, fun b k' hb => by
    by_cases e : b = ν + 1
    · subst e; rw [upd_eq] at hb; cases hb; exact .inr (.inl ⟨rfl, hk2, hrw2, hf2.low⟩)
    · rw [upd_ne _ _ _ _ e] at hb
      by_cases e : b = ν
      · subst e; rw [upd_eq] at hb; cases hb; exact .inl ⟨rfl, hk, hrw, hf.low⟩
      · rw [upd_ne _ _ _ _ e] at hb; simp [noS] at hb, by simp⟩
/-- A new block that names elder ones. -/
theorem fin1L (c : Nat) (k : Blk) (hk : σ' c = some k) (hrw : k.rw = true) (hf : lowB K k) (hR : R (ren (rho c (c + 1) ν) r) (upd noS ν k)) (hc : K ≤ c) (hn : ∀ n ∈ nms r, n < K ∨ n = c) : ∃ c d r' δ, Fin K ν [] R r σ' c d r' δ :=
  ⟨c, c + 1, _, upd noS ν k, hR, rfl, fun b hb => (hn b hb).imp id .inl, by omega, hc, by omega, fun b k' hb => by
    by_cases e : b = ν
    · subst e; rw [upd_eq] at hb; cases hb; exact .inl ⟨rfl, hk, hrw, hf⟩
    · rw [upd_ne _ _ _ _ e] at hb; simp [noS] at hb, by simp⟩
/-- One elder block written. -/
theorem fin0M {b : Nat} (kb : Blk) (hkb : σ' b = some kb) (hrb : kb.rw = true) (hlb : lowB K kb) (hR : R (ren (rho K (K + 1) ν) r) (upd noS b kb)) (hn : ∀ n ∈ nms r, n < K) : ∃ c d r' δ, Fin K ν [b] R r σ' c d r' δ :=
  ⟨K, K + 1, _, upd noS b kb, hR, rfl, fun b hb => .inl (hn b hb), by omega, Nat.le_refl _, by omega, fun c k' hc => by
    by_cases e : c = b
    · subst e; rw [upd_eq] at hc; cases hc
      exact .inr (.inr ⟨by simp, hkb, hrb, hlb⟩)
    · rw [upd_ne _ _ _ _ e] at hc; simp [noS] at hc, fun c hc => by
    rw [List.mem_singleton] at hc
    subst hc
    exact ⟨kb, hkb, hrb, upd_eq _ _ _⟩⟩
/-- One elder block written, one new. -/
theorem fin1M {b : Nat} (c : Nat) (kb k : Blk) (hkb : σ' b = some kb) (hrb : kb.rw = true) (hlb : lowB K kb) (hk : σ' c = some k) (hrw : k.rw = true) (hf : lowB K k) (hbν : b ≠ ν) (hR : R (ren (rho c (c + 1) ν) r) (upd (upd noS b kb) ν k)) (hc : K ≤ c) (hn : ∀ n ∈ nms r, n < K ∨ n = c) :
    ∃ c d r' δ, Fin K ν [b] R r σ' c d r' δ :=
  ⟨c, c + 1, _, upd (upd noS b kb) ν k, hR, rfl, fun b hb => (hn b hb).imp id .inl, by omega, hc, by omega, fun x k' hx => by
    by_cases e : x = ν
    · subst e; rw [upd_eq] at hx; cases hx; exact .inl ⟨rfl, hk, hrw, hf⟩
    · rw [upd_ne _ _ _ _ e] at hx
      by_cases e2 : x = b
      · subst e2; rw [upd_eq] at hx; cases hx
        exact .inr (.inr ⟨by simp, hkb, hrb, hlb⟩)
      · rw [upd_ne _ _ _ _ e2] at hx; simp [noS] at hx, fun x hx => by
    rw [List.mem_singleton] at hx
    subst hx
    exact ⟨kb, hkb, hrb, by rw [upd_ne _ _ _ _ hbν, upd_eq]⟩⟩
/-- One elder block written, two new. -/
theorem fin2M {b : Nat} (c d : Nat) (kb k k2 : Blk) (hkb : σ' b = some kb) (hrb : kb.rw = true) (hlb : lowB K kb) (hk : σ' c = some k) (hrw : k.rw = true) (hf : lowB K k) (hk2 : σ' d = some k2) (hrw2 : k2.rw = true) (hf2 : lowB K k2) (hbν : b ≠ ν) (hbν1 : b ≠ ν + 1)
    (hR : R (ren (rho c d ν) r) (upd (upd (upd noS b kb) ν k) (ν + 1) k2)) (hc : K ≤ c) (hd : K ≤ d) (hcd : c ≠ d) (hn : ∀ n ∈ nms r, n < K ∨ n = c ∨ n = d) : ∃ c d r' δ, Fin K ν [b] R r σ' c d r' δ :=
  ⟨c, d, _, upd (upd (upd noS b kb) ν k) (ν + 1) k2, hR, rfl, hn, hcd, hc, hd, fun x k' hx => by
    by_cases e : x = ν + 1
    · subst e; rw [upd_eq] at hx; cases hx; exact .inr (.inl ⟨rfl, hk2, hrw2, hf2⟩)
    · rw [upd_ne _ _ _ _ e] at hx
      by_cases e : x = ν
      · subst e; rw [upd_eq] at hx; cases hx; exact .inl ⟨rfl, hk, hrw, hf⟩
      · rw [upd_ne _ _ _ _ e] at hx
        by_cases e2 : x = b
        · subst e2; rw [upd_eq] at hx; cases hx
          exact .inr (.inr ⟨by simp, hkb, hrb, hlb⟩)
        · rw [upd_ne _ _ _ _ e2] at hx; simp [noS] at hx, fun x hx => by
    rw [List.mem_singleton] at hx
    subst hx
    exact ⟨kb, hkb, hrb, by rw [upd_ne _ _ _ _ hbν1, upd_ne _ _ _ _ hbν, upd_eq]⟩⟩
theorem w64 (x : Int) (h1 : -9223372036854775808 ≤ x) (h2 : x ≤ 9223372036854775807) : IntKind.i64.wrap x = x := by rw [IntKind.wrap_i64]; omega
end
end Go.Proofs.Ytgaiemhbllbaiaa
namespace Go.Proofs.Ytgaiemhbllbaiaa
open Go Go.RowKit

def rdN : AV → List Nat
  | .ptr b _ _ => [b]
  | .sl b _ n cap _ => if n = 0 ∧ cap = some 0 then [] else [b]
  | _ => []
def wrN : AV → List Nat
  | .sl b _ _ cap _ => if cap = none then [b] else []
  | _ => []
def opR (τ : Tm) : Op → List Nat
  | .load _ x => rdN (ev τ x)
  | .store _ x _ => rdN (ev τ x)
  | .convert _ _ x => rdN (ev τ x)
  | .call c => match c.callee with
    | .builtin .append => (c.args.toList.map (ev τ)).flatMap rdN
    | _ => []
  | _ => []
def opW (τ : Tm) (M : Nat) : Op → List Nat
  | .store _ x _ => rdN (ev τ x)
  | .alloc _ => [M]
  | .box _ _ => [M]
  | .buildSlice _ n _ => if n = 0 then [] else [M]
  | .makeSlice _ _ _ => [M]
  | .call c => match c.callee with
    | .builtin .append => M :: ((c.args.toList.map (ev τ)).take 1).flatMap wrN
    | _ => []
  | _ => []
def app (W : List Nat) (s σ : Sto) : Sto := fun b => if b ∈ W then s b else σ b
theorem app_nil (s σ : Sto) : app [] s σ = σ := by funext b; simp [app]
theorem app_same {W : List Nat} {s σ : Sto} (h : ∀ b, b ∉ W → s b = σ b) : app W s σ = s := by
  funext b
  unfold app
  split
  · rfl
  · rename_i hb; exact (h b hb).symm

/-- The same, over another store. -/
def Loc2 (R W : List Nat) (σ : Sto) (f : Sto → Option Out) : Prop :=
  ∀ v σ' M', f σ = some (v, σ', M') → (∀ b, b ∉ W → σ' b = σ b) ∧ ∀ σ2 : Sto, (∀ b ∈ R, σ2 b = σ b) → f σ2 = some (v, app W σ' σ2, M')

section
variable {P : Program} {σ : Sto} {M : Nat}

theorem Loc2.pure {x : Option AV} {R W : List Nat} (hW : W = []) : Loc2 R W σ (fun σ => keepS σ M x) := by
  intro v σ' M' h
  subst hW
  obtain ⟨u, hu, he⟩ := keepS_ok h
  cases he
  exact ⟨fun _ _ => rfl, fun σ2 _ => by simp [keepS, hu, app_nil]⟩
theorem Loc2.read {g : Sto → Option AV} {R : List Nat} (hg : ∀ σ2 : Sto, (∀ b ∈ R, σ2 b = σ b) → g σ2 = g σ) : Loc2 R [] σ (fun σ => keepS σ M (g σ)) := by
  intro v σ' M' h
  obtain ⟨u, hu, he⟩ := keepS_ok h
  cases he
  exact ⟨fun _ _ => rfl, fun σ2 h2 => by simp [keepS, hg σ2 h2, hu, app_nil]⟩
theorem app_upd (σ σ2 : Sto) (b : Nat) (k : Blk) (W : List Nat) (hb : b ∈ W) (hW : ∀ c ∈ W, c ≠ b → σ2 c = σ c) : app W (upd σ b k) σ2 = upd σ2 b k := by
  funext c
  unfold app upd
  by_cases h : c = b
  · subst h; simp [hb]
  · simp only [if_neg h]
    split
    · rename_i hc; exact (hW c hc h).symm
    · rfl
theorem Loc2.fresh {x : Option (AV × Blk)} {R : List Nat} : Loc2 R [M] σ (fun σ => match x with | some (v, k) => some (v, upd σ M k, M + 1) | none => none) := by
  intro v σ' M' h
  cases x with
  | none => cases h
  | some p =>
    obtain ⟨u, k⟩ := p
    cases h
    exact ⟨fun b hb => upd_ne _ _ _ _ (by simpa using hb), fun σ2 _ => by simp [app_upd σ σ2 M k [M] (by simp) (by simp)]⟩

theorem elems_loc {s : Nat} {x : AV} {σ2 : Sto} (h : ∀ b ∈ rdN x, σ2 b = σ b) : elems s x σ2 = elems s x σ := by
  unfold elems
  split
  · rename_i b o n cap sz
    by_cases hc : n = 0 ∧ cap = some 0
    · obtain ⟨rfl, rfl⟩ := hc
      cases h1 : σ2 b <;> cases h2 : σ b <;> simp
    · rw [h b (by simp [rdN, hc])]
  · rfl
theorem fLoad_loc {ag : Option Bool} {sz : Option Nat} {x : AV} {σ2 : Sto} (h : ∀ b ∈ rdN x, σ2 b = σ b) : fLoad ag sz x σ2 = fLoad ag sz x σ := by
  unfold fLoad
  split
  · rename_i b i c
    rw [h b (by simp [rdN])]
  · rfl
theorem fConvX_loc {s t : TypeId} {x : AV} {σ2 : Sto} (h : ∀ b ∈ rdN x, σ2 b = σ b) : fConvX P s t x σ2 = fConvX P s t x σ := by
  unfold fConvX
  split
  · rw [elems_loc h]
  · rfl
theorem fStore_loc {sz : Option Nat} {x y : AV} {σ' : Sto} (h : fStore sz x y σ = some σ') : (∀ b, b ∉ rdN x → σ' b = σ b) ∧ ∀ σ2 : Sto, (∀ b ∈ rdN x, σ2 b = σ b) → fStore sz x y σ2 = some (app (rdN x) σ' σ2) := by
  unfold fStore at h
  split at h <;> try (cases h; done)
  rename_i b i c
  split at h <;> try (cases h; done)
  rename_i k hk
  split at h <;> try (cases h; done)
  rename_i e he
  split at h <;> try (cases h; done)
  rename_i l hl
  split at h <;> try (cases h; done)
  rename_i hc
  cases h
  refine ⟨fun d hd => upd_ne _ _ _ _ (by simpa [rdN] using hd), fun σ2 h2 => ?_⟩
  have e2 : σ2 b = some k := by rw [h2 b (by simp [rdN]), hk]
  unfold fStore
  simp only [e2, he, hl, if_pos hc]
  rw [app_upd σ σ2 b _ _ (by simp [rdN]) (by simp [rdN])]
theorem fApp_loc {e : Option TypeId} {s : Option Nat} {by_ : Nat} {x y : AV} : Loc2 (rdN x ++ rdN y) (M :: wrN x) σ (fun σ => fApp e s by_ x y σ M) := by
  intro v σ' M' h
  dsimp only at h
  unfold fApp at h
  split at h <;> try (cases h; done)
  rename_i e
  split at h <;> try (cases h; done)
  rename_i s
  split at h <;> try (cases h; done)
  rename_i b o n cap sz
  split at h <;> try (cases h; done)
  rename_i news hn
  split at h <;> try (cases h; done)
  rename_i hc
  have hloc : ∀ σ2 : Sto, (∀ d ∈ rdN (.sl b o n cap sz) ++ rdN y, σ2 d = σ d) → elems s y σ2 = some news := fun σ2 h2 => by
    rw [elems_loc fun d hd => h2 d (by simp [hd]), hn]
  split at h
  · rename_i c
    split at h
    · rename_i hz
      cases h
      refine ⟨fun d hd => upd_ne _ _ _ _ (by simp at hd; exact hd.1), fun σ2 h2 => ?_⟩
      unfold fApp
      simp only [hloc σ2 h2, if_pos hc, if_pos hz]
      rw [app_upd σ σ2 M _ _ (by simp) (by simp [wrN])]
    · rename_i hz
      split at h <;> try (cases h; done)
      rename_i hz2
      split at h <;> try (cases h; done)
      rename_i olds ho
      cases h
      refine ⟨fun d hd => upd_ne _ _ _ _ (by simp at hd; exact hd.1), fun σ2 h2 => ?_⟩
      have ho2 : elems s (.sl b o n (some c) sz) σ2 = some olds := by
        rw [elems_loc fun d hd => h2 d (by simp [hd]), ho]
      unfold fApp
      simp only [hloc σ2 h2, if_pos hc, if_neg hz, if_pos hz2, ho2]
      rw [app_upd σ σ2 M _ _ (by simp) (by simp [wrN])]
  · split at h <;> try (cases h; done)
    rename_i k hk
    split at h <;> try (cases h; done)
    rename_i hz
    cases h
    refine ⟨fun d hd => ?_, fun σ2 h2 => ?_⟩
    · simp [wrN] at hd
      rw [upd_ne _ _ _ _ hd.1, del_ne _ _ _ hd.2]
    · have hk2 : σ2 b = some k := by rw [h2 b (by simp [rdN]), hk]
      unfold fApp
      simp only [hloc σ2 h2, if_pos hc, hk2, if_pos hz]
      congr 3
      funext d
      unfold app upd del
      simp [wrN]
      by_cases h1 : d = M
      · simp [h1]
      · by_cases h3 : d = b
        · simp [h3]
        · simp [h1, h3]

theorem fAppZ_loc {e : Option TypeId} {s : Option Nat} {z : Option (List AV)} {by_ : Nat} {x y : AV} : Loc2 (rdN x ++ rdN y) (M :: wrN x) σ (fun σ => fAppZ e s z by_ x y σ M) := by
  intro v σ' M' h
  dsimp only at h
  unfold fAppZ at h
  split at h <;> try (cases h; done)
  split at h <;> try (cases h; done)
  split at h <;> try (cases h; done)
  split at h <;> try (cases h; done)
  rotate_left
  · split at h <;> try (cases h; done)
    rename_i kn q
    split at h <;> try (cases h; done)
    rename_i hc
    cases h
    refine ⟨fun d hd => ?_, fun σ2 h2 => ?_⟩
    · simp [wrN] at hd
      rw [upd_ne _ _ _ _ hd]
    · unfold fAppZ
      simp only [if_pos hc]
      congr 3
      funext d
      unfold app upd
      simp [wrN]
      by_cases h1 : d = M
      · simp [h1]
      · simp [h1]
  rename_i b o n sz
  split at h <;> try (cases h; done)
  rename_i kn q
  split at h <;> try (cases h; done)
  rename_i hc
  split at h <;> try (cases h; done)
  rename_i k hk
  split at h <;> try (cases h; done)
  rename_i hz
  cases h
  refine ⟨fun d hd => ?_, fun σ2 h2 => ?_⟩
  · simp [wrN] at hd
    rw [upd_ne _ _ _ _ hd.1, del_ne _ _ _ hd.2]
  · have hk2 : σ2 b = some k := by rw [h2 b (by simp [rdN]), hk]
    unfold fAppZ
    simp only [if_pos hc, hk2, if_pos hz]
    congr 3
    funext d
    unfold app upd del
    simp [wrN]
    by_cases h1 : d = M
    · simp [h1]
    · by_cases h3 : d = b
      · simp [h3]
      · simp [h1, h3]
theorem Loc2.congr {f g : Sto → Option Out} {R W : List Nat} (h : Loc2 R W σ g) (e : f = g) : Loc2 R W σ f := e ▸ h

theorem fCall_pure {b : Builtin} {ts : List TypeId} {xs : List AV} (hb : b ≠ .append) : ∃ g : Option AV, ∀ σ, fCall P b ts xs σ M = keepS σ M g := by
  unfold fCall
  split
  · exact ⟨_, fun _ => rfl⟩
  · rename_i t x
    cases elO P t with
    | none => exact ⟨none, fun _ => rfl⟩
    | some e => exact ⟨_, fun _ => rfl⟩
  · exact (hb rfl).elim
  · exact ⟨_, fun _ => rfl⟩
  · exact ⟨_, fun _ => rfl⟩
  · exact ⟨none, fun _ => rfl⟩
theorem fCall_app (ts : List TypeId) (xs : List AV) : Loc2 (xs.flatMap rdN) (M :: (xs.take 1).flatMap wrN) σ (fun σ => fCall P .append ts xs σ M) := by
  intro v σ' M' h
  match ts, xs, h with
  | [], _, h => simp [fCall] at h
  | [_], _, h => simp [fCall] at h
  | _ :: _ :: _ :: _, _, h => simp [fCall] at h
  | [_, _], [], h => simp [fCall] at h
  | [_, _], [_], h => simp [fCall] at h
  | [_, _], _ :: _ :: _ :: _, h => simp [fCall] at h
  | [t, t'], [x, y], h =>
    simp only [fCall] at h

    split at h <;> try (cases h; done)
    rename_i e s b he
    split at h <;> try (cases h; done)
    · rename_i b2 o2 n2 c2 z2
      split at h <;> try (cases h; done)
      rename_i ht
      obtain ⟨h1, h2⟩ := fApp_loc v σ' M' h
      have e : M :: List.flatMap wrN (List.take 1 [x, .sl b2 o2 n2 c2 z2]) = M :: wrN x := by simp
      rw [e]
      refine ⟨h1, fun σ2 h3 => ?_⟩
      simp only [fCall, he, if_pos ht]
      exact h2 σ2 fun b hb => h3 b (by simpa using hb)
    · rename_i q
      split at h <;> try (cases h; done)
      rename_i kz hin
      obtain ⟨h1, h2⟩ := fAppZ_loc v σ' M' h
      have e : M :: List.flatMap wrN (List.take 1 [x, .v q]) = M :: wrN x := by simp
      rw [e]
      refine ⟨h1, fun σ2 h3 => ?_⟩
      simp only [fCall, he, hin]
      exact h2 σ2 fun b hb => h3 b (by simpa using hb)
theorem fOp_loc (τ : Tm) (op : Op) : Loc2 (opR τ op) (opW τ M op) σ (fun σ => fOp P τ σ M op) := by
  cases op <;> try (intro v σ' M' h; cases h; done)
  case move x => exact Loc2.pure (x := some (ev τ x)) rfl
  case assign x => exact Loc2.pure (x := some (ev τ x)) rfl
  case pick => exact Loc2.pure rfl
  case alloc t =>
    refine (Loc2.fresh (x := match zrX P t with | some l => if 0 < l.length then some (.ptr M 0 0, ⟨t, l.length, [l], true⟩) else none | none => none)).congr ?_
    funext σ; simp only [fOp, fNew]
    cases zrX P t with
    | none => rfl
    | some l => by_cases h : 0 < l.length <;> simp [h]
  case box t x =>
    refine (Loc2.fresh (x := match cellsA (ev τ x) with | some l => if 0 < l.length then some (.ptr M 0 0, ⟨t, l.length, [l], true⟩) else none | none => none)).congr ?_
    funext σ; simp only [fOp, fNew]
    cases cellsA (ev τ x) with
    | none => rfl
    | some l => by_cases h : 0 < l.length <;> simp [h]
  case build => exact Loc2.pure rfl
  case buildSlice t n ps =>
    intro v σ' M' h
    simp only [fOp] at h
    split at h <;> try (cases h; done)
    rename_i e s b he
    unfold fBuildS at h
    simp only at h
    split at h <;> try (cases h; done)
    rename_i es hes
    split at h <;> try (cases h; done)
    rename_i hc
    split at h
    · rename_i h0
      cases h
      refine ⟨fun _ _ => rfl, fun σ2 h2 => ?_⟩
      simp only [fOp, he]
      unfold fBuildS
      simp only [hes, if_pos hc, if_pos h0, opW, app_nil]
    · rename_i h0
      cases h
      refine ⟨fun d hd => upd_ne _ _ _ _ (by simpa [opW, h0] using hd), fun σ2 h2 => ?_⟩
      simp only [fOp, he]
      unfold fBuildS
      simp only [hes, if_pos hc, if_neg h0, opW]
      rw [app_upd σ σ2 M _ _ (by simp) (by simp)]
  case load t x => exact Loc2.read fun σ2 h => fLoad_loc h
  case store t x y =>
    intro v σ' M' h
    simp only [fOp] at h
    split at h <;> try (cases h; done)
    rename_i s hs
    cases h
    obtain ⟨h1, h2⟩ := fStore_loc hs
    exact ⟨h1, fun σ2 h3 => by simp only [fOp, h2 σ2 h3]; rfl⟩
  case nilCheck => exact Loc2.pure rfl
  case binOp => exact Loc2.pure rfl
  case unOp => exact Loc2.pure rfl
  case convert s t x => exact Loc2.read fun σ2 h => fConvX_loc h
  case makeFunc fn first cap =>
    intro v σ' M' h
    simp only [fOp] at h
    split at h <;> try (cases h; done)
    split at h <;> try (cases h; done)
    rename_i hf
    cases h
    exact ⟨fun _ _ => rfl, fun σ2 _ => by simp [fOp, hf, opW, app_nil]⟩
  case makeSlice t l c =>
    intro v σ' M' h
    simp only [fOp] at h
    split at h <;> try (cases h; done)
    rename_i e s b he
    unfold fMake at h
    simp only at h
    split at h <;> try (cases h; done)
    rename_i z hz
    split at h <;> try (cases h; done)
    rename_i n hn
    split at h <;> try (cases h; done)
    rename_i m hm
    split at h <;> try (cases h; done)
    rename_i hc
    cases h
    refine ⟨fun d hd => upd_ne _ _ _ _ (by simpa [opW] using hd), fun σ2 h2 => ?_⟩
    simp only [fOp, he]
    unfold fMake
    simp only [hz, hn, hm, if_pos hc, opW]
    rw [app_upd σ σ2 M _ _ (by simp) (by simp)]
  case slice => exact Loc2.pure rfl
  case fieldAddr => exact Loc2.pure rfl
  case indexAddr t x i =>
    simp only [fOp]
    split
    · exact Loc2.pure rfl
    · intro v σ' M' h; cases h
  case index t x i =>
    simp only [fOp]
    split
    · exact Loc2.pure rfl
    · intro v σ' M' h; cases h
  case extract => exact Loc2.pure rfl
  case call c =>
    cases hc : c.callee with
    | value x => intro v σ' M' h; simp [fOp, hc] at h
    | invoke x m => intro v σ' M' h; simp [fOp, hc] at h
    | builtin b =>
      by_cases hb : b = .append
      · subst hb
        simp only [fOp, opR, opW, hc]
        exact fCall_app _ _
      · obtain ⟨g, hg⟩ := fCall_pure (P := P) (M := M) (ts := c.argTypes.toList) (xs := c.args.toList.map (ev τ)) hb
        have e1 : opR τ (.call c) = [] := by
          simp only [opR, hc]
          split
          · rename_i he; cases he; exact (hb rfl).elim
          · rfl
        have e2 : opW τ M (.call c) = [] := by
          simp only [opW, hc]
          split
          · rename_i he; cases he; exact (hb rfl).elim
          · rfl
        rw [e1, e2]
        refine (Loc2.pure (M := M) (x := g) rfl).congr ?_
        funext σ
        simp only [fOp, hc, hg]

end
end Go.Proofs.Ytgaiemhbllbaiaa
namespace Go.Proofs.Ytgaiemhbllbaiaa
open Go Go.RowKit

/-- What an operation did: its slot, what lies there, the blocks it wrote and what they are, the blocks it read. -/
structure En where
  d : Option Tmp
  v : AV
  W : List Nat
  s : Sto
  F : List Nat

def lkA (ds : List (Option Tmp)) (o : Oper) : List Tmp :=
  (o.op.operands.toList.filterMap fun | .tmp t => some t | _ => none) ++
  (match o.guard with
   | some (g, _) => (match nth ds g with | some (some d) => [d] | _ => [])
   | none => [])
def dirs (o : Oper) : List Nat := o.after.toList.filterMap fun e => if Region.binds .any e = true then some e.on else none
def force {α : Sort _} (m : Nat) (k : Nat → α) : α := match m with
  | 0 => k 0
  | n + 1 => k (n + 1)
theorem force_eq {α : Sort _} (m : Nat) (k : Nat → α) : force m k = k m := by cases m <;> rfl
def msk (l : List Nat) : Nat := l.foldl (fun m d => m ||| 1 <<< d) 0
/-- What lies ahead of each operation: 64 bits for each. -/
def mk (tab j : Nat) : Nat := (tab >>> (64 * j)) % 18446744073709551616
def ahead (tab : Nat) (ds : List Nat) : Nat := ds.foldl (fun m d => m ||| 1 <<< d ||| mk tab d) 0
def tabN : List Oper → Nat → Nat → Nat
  | [], _, acc => acc
  | o :: r, j, acc => force (acc ||| (ahead acc (dirs o)) <<< (64 * j)) fun acc => tabN r (j + 1) acc
def ordA (tab : Nat) (i j : Nat) : Bool := (mk tab j).testBit i
def chkT (tab : Nat) : Nat → List Oper → Bool
  | _, [] => true
  | j, o :: l => (dirs o).all (fun d => decide (d < j)) && Nat.beq (mk tab j) (ahead tab (dirs o)) && chkT tab (j + 1) l
def row (ds : List (Option Tmp)) (o : Oper) : Nat × Nat := (msk o.dst.toList, msk (lkA ds o))
def rowsK (ds : List (Option Tmp)) : List Oper → (List (Nat × Nat) → Bool) → Bool
  | [], k => k []
  | o :: l, k => force (row ds o).1 fun D => force (row ds o).2 fun L => rowsK ds l fun r => k ((D, L) :: r)
theorem rowsK_eq (ds : List (Option Tmp)) : ∀ (l : List Oper) (k : List (Nat × Nat) → Bool), rowsK ds l k = k (l.map (row ds))
  | [], _ => rfl
  | o :: l, k => by simp only [rowsK, force_eq, List.map_cons]; exact rowsK_eq ds l _
def apR (x y : Nat × Nat) : Bool := Nat.beq (x.1 &&& (y.2 ||| y.1)) 0 && Nat.beq (y.1 &&& x.2) 0
def chk1 (tab : Nat) (i : Nat) (x : Nat × Nat) : Nat → List (Nat × Nat) → Bool
  | _, [] => true
  | j, y :: l => (ordA tab i j || apR x y) && chk1 tab i x (j + 1) l
def chkA (tab : Nat) : Nat → List (Nat × Nat) → Bool
  | _, [] => true
  | i, x :: l => chk1 tab i x (i + 1) l && chkA tab (i + 1) l
def dchk (l : List Oper) : Bool := force (tabN l 0 0) fun tab => chkT tab 0 l && rowsK (l.map (·.dst)) l fun r => chkA tab 0 r
/-- Neither looks at what the other writes, and they do not write the same. -/
def apA (ds : List (Option Tmp)) (x y : Oper) : Prop :=
  (∀ d, x.dst = some d → d ∉ lkA ds y ∧ y.dst ≠ some d) ∧ (∀ d, y.dst = some d → d ∉ lkA ds x)
theorem foldl_bit {g : Nat → Nat} {i : Nat} : ∀ (ds : List Nat) (m : Nat), (ds.foldl (fun m d => m ||| g d) m).testBit i = true ↔ m.testBit i = true ∨ ∃ d ∈ ds, (g d).testBit i = true
  | [], m => by simp
  | d :: ds, m => by
    rw [List.foldl_cons, foldl_bit ds]
    simp only [Nat.testBit_or, Bool.or_eq_true, List.mem_cons, exists_eq_or_imp, or_assoc]
theorem one_bit {d i : Nat} : (1 <<< d).testBit i = true ↔ i = d := by
  rw [Nat.one_shiftLeft, Nat.testBit_two_pow]
  simp [eq_comm]
theorem msk_bit {l : List Nat} {i : Nat} : (msk l).testBit i = true ↔ i ∈ l := by
  unfold msk
  rw [foldl_bit]
  simp only [Nat.zero_testBit, Bool.false_eq_true, false_or, one_bit, exists_eq_right']
theorem ahead_bit {tab : Nat} {ds : List Nat} {i : Nat} : (ahead tab ds).testBit i = true ↔ ∃ d ∈ ds, i = d ∨ (mk tab d).testBit i = true := by
  unfold ahead
  have e : (fun m d => m ||| 1 <<< d ||| mk tab d) = fun m d => m ||| (1 <<< d ||| mk tab d) := by
    funext m d; rw [Nat.or_assoc]
  rw [e, foldl_bit]
  simp only [Nat.zero_testBit, Bool.false_eq_true, false_or, Nat.testBit_or, Bool.or_eq_true, one_bit]
theorem and_zero_bit {a b : Nat} (h : a &&& b = 0) {i : Nat} (ha : a.testBit i = true) : b.testBit i = false := by
  have := congrArg (fun n => n.testBit i) h
  simp only [Nat.testBit_and, Nat.zero_testBit, ha, Bool.true_and] at this
  exact this
theorem apR_ok {ds : List (Option Tmp)} {x y : Oper} (h : apR (row ds x) (row ds y) = true) : apA ds x y := by
  unfold apR at h
  simp only [Bool.and_eq_true, Nat.beq_eq, row] at h
  obtain ⟨h1, h2⟩ := h
  refine ⟨fun d hd => ?_, fun d hd => ?_⟩
  · have := and_zero_bit h1 (i := d) (msk_bit.2 (by simp [hd]))
    simp only [Nat.testBit_or, Bool.or_eq_false_iff] at this
    refine ⟨fun hm => ?_, fun hm => ?_⟩
    · rw [msk_bit.2 hm] at this; cases this.1
    · rw [(msk_bit (l := y.dst.toList)).2 (by simp [hm])] at this; cases this.2
  · have := and_zero_bit h2 (i := d) (msk_bit.2 (by simp [hd]))
    exact fun hm => by rw [msk_bit.2 hm] at this; cases this
def confl (e f : En) : Prop := (∀ b ∈ e.W, b ∉ f.F ∧ b ∉ f.W) ∧ (∀ b ∈ f.W, b ∉ e.F)
def mem1 (tab : Nat) (i : Nat) (e : En) : Nat → List En → Prop
  | _, [] => True
  | j, f :: fs => (ordA tab i j = true ∨ confl e f) ∧ mem1 tab i e (j + 1) fs
def memA (tab : Nat) : Nat → List En → Prop
  | _, [] => True
  | i, e :: es => mem1 tab i e (i + 1) es ∧ memA tab (i + 1) es
theorem mem1_ro {tab : Nat} {i : Nat} {e : En} (he : e.W = []) : ∀ (es : List En) (j : Nat), (∀ f ∈ es, f.W = []) → mem1 tab i e j es
  | [], _, _ => trivial
  | f :: fs, j, h => ⟨.inr ⟨by simp [he], by simp [h f (by simp)]⟩, mem1_ro he fs (j + 1) fun g hg => h g (by simp [hg])⟩
theorem memA_ro {tab : Nat} : ∀ (es : List En) (i : Nat), (∀ f ∈ es, f.W = []) → memA tab i es
  | [], _, _ => trivial
  | e :: es, i, h => ⟨mem1_ro (h e (by simp)) es (i + 1) fun g hg => h g (by simp [hg]), memA_ro es (i + 1) fun g hg => h g (by simp [hg])⟩

theorem chk1_spec {tab : Nat} {i : Nat} {x : Nat × Nat} : ∀ (l : List (Nat × Nat)) (j : Nat), chk1 tab i x j l = true → ∀ k y, l[k]? = some y → ordA tab i (j + k) = true ∨ apR x y = true
  | [], _, _, k, y, hy => by simp at hy
  | z :: l, j, h, 0, y, hy => by
    simp [chk1] at h hy
    subst hy
    exact h.1
  | z :: l, j, h, k + 1, y, hy => by
    simp only [chk1, Bool.and_eq_true] at h
    have := chk1_spec l (j + 1) h.2 k y (by simpa using hy)
    rwa [Nat.add_assoc, Nat.add_comm 1 k] at this
theorem chkA_spec {tab : Nat} : ∀ (l : List (Nat × Nat)) (i : Nat), chkA tab i l = true → ∀ k x, l[k]? = some x → ∀ m y, k < m → l[m]? = some y → ordA tab (i + k) (i + m) = true ∨ apR x y = true
  | [], _, _, k, x, hx => by simp at hx
  | z :: l, i, h, 0, x, hx => by
    simp only [chkA, Bool.and_eq_true] at h
    simp at hx
    subst hx
    intro m y hm hy
    obtain ⟨m, rfl⟩ : ∃ q, m = q + 1 := ⟨m - 1, by omega⟩
    have := chk1_spec l (i + 1) h.1 m y (by simpa using hy)
    rwa [Nat.add_assoc, Nat.add_comm 1 m] at this
  | z :: l, i, h, k + 1, x, hx => by
    simp only [chkA, Bool.and_eq_true] at h
    intro m y hm hy
    obtain ⟨m, rfl⟩ : ∃ q, m = q + 1 := ⟨m - 1, by omega⟩
    have := chkA_spec l (i + 1) h.2 k x (by simpa using hx) m y (by omega) (by simpa using hy)
    rwa [Nat.add_assoc, Nat.add_comm 1 k, Nat.add_assoc, Nat.add_comm 1 m] at this
theorem chkT_spec {tab : Nat} : ∀ (l : List Oper) (i : Nat), chkT tab i l = true → ∀ k x, l[k]? = some x → (∀ d ∈ dirs x, d < i + k) ∧ mk tab (i + k) = ahead tab (dirs x)
  | [], _, _, k, x, hx => by simp at hx
  | z :: l, i, h, 0, x, hx => by
    simp only [chkT, Bool.and_eq_true, List.all_eq_true, decide_eq_true_eq, Nat.beq_eq] at h
    simp at hx
    subst hx
    exact h.1
  | z :: l, i, h, k + 1, x, hx => by
    simp only [chkT, Bool.and_eq_true] at h
    have := chkT_spec l (i + 1) h.2 k x (by simpa using hx)
    rwa [Nat.add_assoc, Nat.add_comm 1 k] at this
theorem mem1_spec {tab : Nat} {i : Nat} {e : En} : ∀ (l : List En) (j : Nat), mem1 tab i e j l → ∀ k f, l[k]? = some f → ordA tab i (j + k) = true ∨ confl e f
  | [], _, _, k, y, hy => by simp at hy
  | z :: l, j, h, 0, y, hy => by
    simp [mem1] at h hy
    subst hy
    exact h.1
  | z :: l, j, h, k + 1, y, hy => by
    have := mem1_spec l (j + 1) h.2 k y (by simpa using hy)
    rwa [Nat.add_assoc, Nat.add_comm 1 k] at this
theorem memA_spec {tab : Nat} : ∀ (l : List En) (i : Nat), memA tab i l → ∀ k x, l[k]? = some x → ∀ m y, k < m → l[m]? = some y → ordA tab (i + k) (i + m) = true ∨ confl x y
  | [], _, _, k, x, hx => by simp at hx
  | z :: l, i, h, 0, x, hx => by
    simp at hx
    subst hx
    intro m y hm hy
    obtain ⟨m, rfl⟩ : ∃ q, m = q + 1 := ⟨m - 1, by omega⟩
    have := mem1_spec l (i + 1) h.1 m y (by simpa using hy)
    rwa [Nat.add_assoc, Nat.add_comm 1 m] at this
  | z :: l, i, h, k + 1, x, hx => by
    intro m y hm hy
    obtain ⟨m, rfl⟩ : ∃ q, m = q + 1 := ⟨m - 1, by omega⟩
    have := memA_spec l (i + 1) h.2 k x (by simpa using hx) m y (by omega) (by simpa using hy)
    rwa [Nat.add_assoc, Nat.add_comm 1 k, Nat.add_assoc, Nat.add_comm 1 m] at this

/-- A set of operations is closed: with each, those ahead of it. -/
def Closed (l : List Oper) (S : Nat → Bool) : Prop := ∀ k o, l[k]? = some o → S k = true → ∀ d ∈ dirs o, S d = true
theorem ord_ok {l : List Oper} {tab : Nat} (ht : chkT tab 0 l = true) {S : Nat → Bool} (hS : Closed l S) {i : Nat} : ∀ (j : Nat) (o : Oper), l[j]? = some o → ordA tab i j = true → (∀ d ∈ dirs o, S d = true) → S i = true := by
  intro j
  induction j using Nat.strongRecOn with
  | ind j ih =>
    intro o hj h hd
    obtain ⟨h1, h2⟩ := chkT_spec l 0 ht j o hj
    simp only [Nat.zero_add] at h1 h2
    unfold ordA at h
    rw [h2, ahead_bit] at h
    obtain ⟨d, hdm, h3⟩ := h
    rcases h3 with rfl | h3
    · exact hd _ hdm
    · have hlt := h1 d hdm
      have hjl : j < l.length := (List.getElem?_eq_some_iff.1 hj).1
      have hod : l[d]? = some (l[d]'(by omega)) := List.getElem?_eq_getElem _
      exact ih d hlt _ hod h3 (hS d _ hod (hd d hdm))

end Go.Proofs.Ytgaiemhbllbaiaa
namespace Go.Proofs.Ytgaiemhbllbaiaa
open Go Go.RowKit

variable [Side]
structure HF (B : Nat) (w0 : World) (X : Nat → Prop) (N K : Nat) (E : Mu) (τ : Tm) (σ : Sto) (fr : Nat → Prop) (a : Act) (w : World) (μ : Mu) : Prop where
  dfr : a.defers = []
  siz : a.tmps.size = N
  rel : Rel B w0 X μ σ w
  fre : ∀ b, fr b → μ b = none
  ext : ∀ b, b < K → μ b = E b
  tm : TRel μ τ a.tmps
  sd : Side.ok B w0 X

section
variable {P : Program} {B N K : Nat} {w0 : World} {X : Nat → Prop} {E μ : Mu} {σ σ' : Sto} {w : World} {τ τ' : Tm} {fr fr' : Nat → Prop} {a : Act}

theorem HF.alike (h : HF B w0 X N K E τ σ fr a w μ) (ht : ∀ t, get τ' t = get τ t) (hs : ∀ b, σ' b = σ b) (hf : ∀ b, fr' b → fr b) : HF B w0 X N K E τ' σ' fr' a w μ := by
  have e : σ' = σ := funext hs
  subst e
  exact ⟨h.dfr, h.siz, h.rel, fun b hb => h.fre b (hf b hb), h.ext, fun i => by rw [ht]; exact h.tm i, h.sd⟩
theorem HF.hs (h : HF B w0 X N K E τ σ fr a w μ) : ∃ M, HS B w0 X N K E τ σ M a w μ := by
  obtain ⟨M, hM⟩ := h.rel.fin
  exact ⟨max K M, h.dfr, h.siz, h.rel, fun b hb => hM b (by omega), h.ext, h.tm, by omega, h.sd⟩
theorem HF.step {d : Option Tmp} {v : AV} {u : Value} {w' : World} {μ' : Mu} {Mi : Nat} (h : HF B w0 X N K E τ σ fr a w μ) (hv : VRel μ' v u) (hr : Rel B w0 X μ' σ' w') (hs : Sub μ μ')
    (hold : ∀ b, b ≠ Mi → b ≠ Mi + 1 → μ' b = μ b) (hK : K ≤ Mi) (hd : ∀ x, d = some x → x < N) :
    HF B w0 X N K E (Go.Proofs.Ytgaiemhbllbaiaa.put d v τ) σ' (fun b => fr b ∧ b ≠ Mi ∧ b ≠ Mi + 1) (a.put d u) w' μ' := by
  refine ⟨?_, ?_, hr, fun b hb => (hold b hb.2.1 hb.2.2).trans (h.fre b hb.1), fun b hb => (hold b (by omega) (by omega)).trans (h.ext b hb), ?_, h.sd⟩
  · unfold Act.put; split <;> exact h.dfr
  · unfold Act.put; split
    · simpa using h.siz
    · exact h.siz
  · unfold Act.put Go.Proofs.Ytgaiemhbllbaiaa.put
    cases d with
    | none => exact h.tm.mono hs
    | some d => exact (h.tm.mono hs).put hv (by rw [h.siz]; exact hd d rfl)
end

/-- The operation does this, wherever what it looks at stands as here. -/
def GoodE (P : Program) (ops : Array Oper) (M0 i : Nat) (o : Oper) (τ : Tm) (σ : Sto) (e : En) : Prop :=
  e.d = o.dst ∧ ∀ (B N K : Nat) (w0 : World) (X : Nat → Prop) (E : Mu) (τ' : Tm) (σ' : Sto) (fr : Nat → Prop) (a : Act) (w : World) (μ : Mu) (Qc : Exit → Act → World → Prop) (Kc : Act → World → Prop),
    ops[i]? = some o → (∀ t ∈ lkA (ops.toList.map (·.dst)) o, get τ' t = get τ t) → (∀ b ∈ e.F, σ' b = σ b) → HF B w0 X N K E τ' σ' fr a w μ → fr (M0 + 2 * i) → fr (M0 + 2 * i + 1) → K ≤ M0 → (∀ d, o.dst = some d → d < N) →
    (∀ a' w' μ', HF B w0 X N K E (put o.dst e.v τ') (app e.W e.s σ') (fun b => fr b ∧ b ≠ M0 + 2 * i ∧ b ≠ M0 + 2 * i + 1) a' w' μ' → Kc a' w') → wpOp P ops Qc i Kc a w

def dOps (P : Program) (ds : List (Option Tmp)) (M0 : Nat) : List Oper → Nat → (List En → Tm → Sto → Prop) → List En → Tm → Sto → Prop
  | [], _, K, tr, τ, σ => K tr τ σ
  | o :: rest, i, K, tr, τ, σ => match gdA ds τ o.guard with
    | some true => match callOf o.op with
      | some (x, args) => match ev τ x with
        | .fn f caps => ∃ (F W : List Nat) (v : AV) (δ : Sto), (∀ σ' : Sto, (∀ b ∈ F, σ' b = σ b) → AC P f (args.map (ev τ) ++ caps) σ' (M0 + 2 * i) fun r δ' => r = v ∧ δ' = δ) ∧ (∀ b, b ∉ W → δ b = none) ∧ (∀ b ∈ W, δ b ≠ none) ∧
            dOps P ds M0 rest (i + 1) K (⟨o.dst, v, W, δ, F⟩ :: tr) (put o.dst v τ) (ovr σ δ)
        | _ => False
      | none => match fOp P τ σ (M0 + 2 * i) o.op with
        | some (v, σ', _) => dOps P ds M0 rest (i + 1) K (⟨o.dst, v, opW τ (M0 + 2 * i) o.op, σ', opR τ o.op⟩ :: tr) (put o.dst v τ) σ'
        | none => False
    | some false => dOps P ds M0 rest (i + 1) K (⟨o.dst, .v undef, [], noS, []⟩ :: tr) (put o.dst (.v undef) τ) σ
    | none => False

/-! what stands where, when some have been done -/
def fo {β : Type} (g : En → Option β) (S : Nat → Bool) : Nat → List En → β → β
  | _, [], x => x
  | i, e :: es, x => fo g S (i + 1) es (if S i = true then (g e).getD x else x)
def gT (t : Tmp) (e : En) : Option AV := if e.d = some t then some e.v else none
def gN (b : Nat) (e : En) : Option (Option Blk) := if b ∈ e.W then some (e.s b) else none
def fT (S : Nat → Bool) : Nat → List En → Tm → Tm
  | _, [], τ => τ
  | i, e :: es, τ => fT S (i + 1) es (if S i = true then put e.d e.v τ else τ)
def fS (S : Nat → Bool) (i : Nat) (es : List En) (σ : Sto) : Sto := fun b => fo (gN b) S i es (σ b)

section
variable {β : Type} {g : En → Option β} {S S' : Nat → Bool}
theorem fo_congr : ∀ (es : List En) (i : Nat) (x : β), (∀ j e, es[j]? = some e → (g e).isSome = true → S (i + j) = S' (i + j)) → fo g S i es x = fo g S' i es x
  | [], _, _, _ => rfl
  | e :: es, i, x, h => by
    simp only [fo]
    have e1 : (if S i = true then (g e).getD x else x) = if S' i = true then (g e).getD x else x := by
      cases hg : g e with
      | none => simp
      | some y =>
        have := h 0 e (by simp) (by simp [hg])
        simp only [Nat.add_zero] at this
        rw [this]
    rw [e1]
    exact fo_congr es (i + 1) _ fun j e' he hs => by
      have := h (j + 1) e' (by simpa using he) hs
      rwa [Nat.add_assoc, Nat.add_comm 1 j]
theorem fo_none : ∀ (es : List En) (i : Nat) (x : β), (∀ j e, es[j]? = some e → (g e).isSome = true → S (i + j) = false) → fo g S i es x = x
  | [], _, _, _ => rfl
  | e :: es, i, x, h => by
    simp only [fo]
    have e1 : (if S i = true then (g e).getD x else x) = x := by
      cases hg : g e with
      | none => simp
      | some y =>
        have := h 0 e (by simp) (by simp [hg])
        simp only [Nat.add_zero] at this
        simp [this]
    rw [e1]
    exact fo_none es (i + 1) _ fun j e' he hs => by
      have := h (j + 1) e' (by simpa using he) hs
      rwa [Nat.add_assoc, Nat.add_comm 1 j]
theorem fo_last : ∀ (es : List En) (i k : Nat) (x y : β) (e : En), es[k]? = some e → g e = some y → S (i + k) = true → (∀ j e', k < j → es[j]? = some e' → (g e').isSome = true → S (i + j) = false) → fo g S i es x = y
  | [], _, k, _, _, _, he, _, _, _ => by simp at he
  | z :: es, i, 0, x, y, e, he, hg, hS, h => by
    simp at he
    subst he
    simp only [Nat.add_zero] at hS
    simp only [fo, hS, if_true, hg, Option.getD_some]
    exact fo_none es (i + 1) y fun j e' he hs => by
      have := h (j + 1) e' (by omega) (by simpa using he) hs
      rwa [Nat.add_assoc, Nat.add_comm 1 j]
  | z :: es, i, k + 1, x, y, e, he, hg, hS, h => by
    simp only [fo]
    exact fo_last es (i + 1) k _ y e (by simpa using he) hg (by rwa [Nat.add_assoc, Nat.add_comm 1 k]) fun j e' hj he hs => by
      have := h (j + 1) e' (by omega) (by simpa using he) hs
      rwa [Nat.add_assoc, Nat.add_comm 1 j]
theorem get_put (d : Option Tmp) (v : AV) (τ : Tm) (t : Tmp) : get (put d v τ) t = if d = some t then v else get τ t := by
  cases d with
  | none => simp [put]
  | some d =>
    simp only [put, get]
    by_cases h : t = d
    · subst h; simp
    · simp [h, Ne.symm h]
theorem get_fT (t : Tmp) : ∀ (es : List En) (i : Nat) (τ : Tm), get (fT S i es τ) t = fo (gT t) S i es (get τ t)
  | [], _, _ => rfl
  | e :: es, i, τ => by
    simp only [fT, fo]
    rw [get_fT t es (i + 1)]
    congr 1
    by_cases h : S i = true
    · simp only [h, if_true, get_put, gT]
      by_cases h2 : e.d = some t <;> simp [h2]
    · simp [h]
end

def Goods (P : Program) (ops : Array Oper) (M0 : Nat) : Nat → List Oper → List En → Tm → Sto → Prop
  | _, [], [], _, _ => True
  | i, o :: l, e :: es, τ, σ => GoodE P ops M0 i o τ σ e ∧ Goods P ops M0 (i + 1) l es (put e.d e.v τ) (app e.W e.s σ)
  | _, _, _, _, _ => False

theorem Goods.len {P : Program} {ops : Array Oper} {M0 : Nat} : ∀ {l : List Oper} {es : List En} {i : Nat} {τ : Tm} {σ : Sto}, Goods P ops M0 i l es τ σ → l.length = es.length
  | [], [], _, _, _, _ => rfl
  | o :: l, e :: es, i, τ, σ, h => by simp [Goods.len h.2]
  | [], _ :: _, _, _, _, h => h.elim
  | _ :: _, [], _, _, _, h => h.elim

theorem Goods.at {P : Program} {ops : Array Oper} {M0 : Nat} : ∀ {l : List Oper} {es : List En} {i : Nat} {τ : Tm} {σ : Sto}, Goods P ops M0 i l es τ σ →
    ∀ k o e, l[k]? = some o → es[k]? = some e → ∃ τk σk, GoodE P ops M0 (i + k) o τk σk e ∧ (∀ t, get τk t = fo (gT t) (fun j => decide (j < i + k)) i es (get τ t)) ∧ ∀ b, σk b = fo (gN b) (fun j => decide (j < i + k)) i es (σ b)
  | [], [], _, _, _, _, k, o, e, ho, _ => by simp at ho
  | [], _ :: _, _, _, _, h, _, _, _, _, _ => h.elim
  | _ :: _, [], _, _, _, h, _, _, _, _, _ => h.elim
  | o :: l, e :: es, i, τ, σ, h, 0, o', e', ho, he => by
    simp at ho he
    subst ho; subst he
    refine ⟨τ, σ, h.1, fun t => ?_, fun b => ?_⟩
    · exact (fo_none _ _ _ fun j e _ _ => by simp).symm
    · exact (fo_none _ _ _ fun j e _ _ => by simp).symm
  | o :: l, e :: es, i, τ, σ, h, k + 1, o', e', ho, he => by
    obtain ⟨τk, σk, h1, h2, h3⟩ := Goods.at h.2 k o' e' (by simpa using ho) (by simpa using he)
    rw [Nat.add_assoc, Nat.add_comm 1 k] at h1
    refine ⟨τk, σk, h1, fun t => ?_, fun b => ?_⟩
    · rw [h2]
      simp only [fo]
      have e0 : decide (i < i + (k + 1)) = true := by simp
      rw [if_pos e0, get_put]
      rw [Nat.add_assoc, Nat.add_comm 1 k]
      congr 1
      unfold gT
      by_cases h2 : e.d = some t <;> simp [h2]
    · rw [h3]
      simp only [fo]
      have e0 : decide (i < i + (k + 1)) = true := by simp
      rw [if_pos e0]
      rw [Nat.add_assoc, Nat.add_comm 1 k]
      congr 1
      unfold gN app
      by_cases h2 : b ∈ e.W <;> simp [h2]

theorem fOp_congr {P : Program} {τ τ' : Tm} {σ : Sto} {M : Nat} (op : Op) (h : ∀ x ∈ op.operands, ev τ' x = ev τ x) : fOp P τ' σ M op = fOp P τ σ M op := by
  have pairs : ∀ ps : Array (Nat × Operand), (∀ x ∈ (ps.toList.map (·.2)).toArray, ev τ' x = ev τ x) → (ps.toList.map fun p => (p.1, ev τ' p.2)) = (ps.toList.map fun p => (p.1, ev τ p.2)) := fun ps hp =>
    List.map_congr_left fun p hm => by rw [hp p.2 (by simpa using ⟨p.1, by simpa using hm⟩)]
  cases op <;> simp only [Op.operands] at h <;> simp only [fOp]
  case build t ps => rw [pairs ps h]
  case buildSlice t n ps => rw [pairs ps h]
  case makeFunc fn first captured =>
    have : captured.toList.map (ev τ') = captured.toList.map (ev τ) := List.map_congr_left fun x hx => h x (by simp at hx ⊢; exact .inr hx)
    rw [this]
  case call c =>
    have : c.args.toList.map (ev τ') = c.args.toList.map (ev τ) := List.map_congr_left fun x hx => h x (by simp [Call.operands] at hx ⊢; exact .inr hx)
    rw [this]
  case slice t x lo hi mx => cases lo <;> cases hi <;> cases mx <;> simp_all
  all_goals (first | rfl | (simp_all; done))

theorem opRW_congr {τ τ' : Tm} {M : Nat} (op : Op) (h : ∀ x ∈ op.operands, ev τ' x = ev τ x) : opR τ' op = opR τ op ∧ opW τ' M op = opW τ M op := by
  cases op <;> simp only [Op.operands] at h <;> simp only [opR, opW, and_self]
  case call c =>
    have : c.args.toList.map (ev τ') = c.args.toList.map (ev τ) := List.map_congr_left fun x hx => h x (by simp [Call.operands] at hx ⊢; exact .inr hx)
    rw [this]
    exact ⟨rfl, rfl⟩
  all_goals (simp_all; done)

theorem gdA_congr {ds : List (Option Tmp)} {τ τ' : Tm} {o : Oper} (h : ∀ t ∈ lkA ds o, get τ' t = get τ t) : gdA ds τ' o.guard = gdA ds τ o.guard := by
  unfold lkA at h
  unfold gdA
  cases hg : o.guard with
  | none => rfl
  | some p =>
    obtain ⟨g, want⟩ := p
    simp only [hg] at h
    simp only
    unfold gdB
    split
    · rename_i want' d hd
      rw [h d (by simp [hd])]
    · rfl
theorem ev_congr {ds : List (Option Tmp)} {τ τ' : Tm} {o : Oper} (h : ∀ t ∈ lkA ds o, get τ' t = get τ t) : ∀ x ∈ o.op.operands, ev τ' x = ev τ x := by
  intro x hx
  cases x with
  | tmp t => exact h t (List.mem_append_left _ (List.mem_filterMap.2 ⟨.tmp t, by simpa using hx, rfl⟩))
  | _ => rfl

theorem GoodE.skip {P : Program} {ops : Array Oper} {M0 i : Nat} {o : Oper} {τ : Tm} {σ : Sto} (hg : gdA (ops.toList.map (·.dst)) τ o.guard = some false) : GoodE P ops M0 i o τ σ ⟨o.dst, .v undef, [], noS, []⟩ := by
  refine ⟨rfl, fun B N K w0 X E τ' σ' fr a w μ Qc Kc hi ht hs h hf1 hf2 hK hd hk => ?_⟩
  unfold wpOp
  simp only [hi]
  obtain ⟨M, hM⟩ := h.hs
  have hw := gdA_ok (ops := ops) (o := o) hM (by rw [gdA_congr ht]; exact hg)
  rw [if_neg (by rw [hw]; simp)]
  refine hk _ _ μ (h.step (by simp [VRel]) ?_ (Sub.refl _) (fun _ _ _ => rfl) (by omega) hd)
  rw [app_nil]; exact h.rel

theorem GoodE.op {P : Program} {ops : Array Oper} {M0 i : Nat} {o : Oper} {τ : Tm} {σ σ1 : Sto} {v : AV} {M' : Nat} (hg : gdA (ops.toList.map (·.dst)) τ o.guard = some true) (hop : fOp P τ σ (M0 + 2 * i) o.op = some (v, σ1, M')) :
    GoodE P ops M0 i o τ σ ⟨o.dst, v, opW τ (M0 + 2 * i) o.op, σ1, opR τ o.op⟩ := by
  refine ⟨rfl, fun B N K w0 X E τ' σ' fr a w μ Qc Kc hi ht hs h hf1 hf2 hK hd hk => ?_⟩
  unfold wpOp
  simp only [hi]
  obtain ⟨M, hM⟩ := h.hs
  have hw := gdA_ok (ops := ops) (o := o) hM (by rw [gdA_congr ht]; exact hg)
  rw [if_pos hw]
  left
  obtain ⟨_, h2⟩ := fOp_loc τ o.op v σ1 M' hop
  have h3 : fOp P τ σ' (M0 + 2 * i) o.op = some (v, app (opW τ (M0 + 2 * i) o.op) σ1 σ', M') := h2 σ' hs
  rw [← fOp_congr o.op (ev_congr ht)] at h3
  obtain ⟨nx, u, w', μ', hrun, hnx, ha⟩ := fOp_ok h.rel (h.fre _ hf1) h.tm h3
  have hst := h.step ha.val ha.rel ha.sub (Mi := M0 + 2 * i) (fun b h1 _ => by
    rcases ha.nm with ⟨_, e2⟩ | ⟨_, e2⟩
    · rw [e2]
    · exact e2 b h1) (by omega) hd
  unfold Oper.wp
  rw [hrun]
  rcases hnx with rfl | ⟨rfl, rfl⟩
  · rw [Oper.upon_value]
    exact hk _ _ μ' hst
  · rw [Oper.upon_skip]
    exact hk _ _ μ' hst

theorem GoodE.call {P : Program} {ops : Array Oper} {M0 i : Nat} {o : Oper} {τ : Tm} {σ δ : Sto} {v : AV} {F W : List Nat} {x : Operand} {args : List Operand} {f : FuncId} {caps : List AV} (hg : gdA (ops.toList.map (·.dst)) τ o.guard = some true)
    (hc : callOf o.op = some (x, args)) (hf : ev τ x = .fn f caps) (hac : ∀ σ' : Sto, (∀ b ∈ F, σ' b = σ b) → AC P f (args.map (ev τ) ++ caps) σ' (M0 + 2 * i) fun r δ' => r = v ∧ δ' = δ)
    (hw1 : ∀ b, b ∉ W → δ b = none) (hw2 : ∀ b ∈ W, δ b ≠ none) : GoodE P ops M0 i o τ σ ⟨o.dst, v, W, δ, F⟩ := by
  refine ⟨rfl, fun B N K w0 X E τ' σ' fr a w μ Qc Kc hi ht hs h hf1 hf2 hK hd hk => ?_⟩
  unfold wpOp
  simp only [hi]
  obtain ⟨M, hM⟩ := h.hs
  have hw := gdA_ok (ops := ops) (o := o) hM (by rw [gdA_congr ht]; exact hg)
  rw [if_pos hw]
  left
  obtain ⟨c, hop, hcal, hargs⟩ := callOf_ok hc
  have hev := ev_congr ht
  have hx := ev_rel h.tm x
  rw [hev x (by simp [hop, Op.operands, Call.operands, hcal]), hf] at hx
  simp only [VRel] at hx
  obtain ⟨cs, hx, hcs⟩ := hx
  have hk := hk
  have hAC := hac σ' hs
  have hrun : (execOp a.eval o).run P w = .ok (.enter f (args.map a.eval ++ cs).toArray) w := by
    simp only [execOp, hop, resolve, hcal, hx, Deferred.ofValue, Sem.run_bind, Sem.run_pure, Result.andThen_ok, invoke]
    rw [hAC.1]
    have e : (#[] ++ c.args.map a.eval ++ cs.toArray : Array Value) = (args.map a.eval ++ cs).toArray := by
      apply Array.toList_inj.1
      simp [← hargs]
    rw [e]
  unfold Oper.wp
  rw [hrun, Oper.upon_enter]
  have hargv : VRels μ (args.map (ev τ) ++ caps) (args.map a.eval ++ cs) := by
    have e : args.map (ev τ) = args.map (ev τ') := List.map_congr_left fun y hy => (hev y (by
      simp only [hop, Op.operands, Call.operands, Array.mem_append]
      right
      rw [← hargs] at hy
      simpa using hy)).symm
    rw [e]
    exact (evs_rel h.tm args).append hcs
  refine (hAC.2 B w0 X μ w (args.map a.eval ++ cs) h.sd h.rel (h.fre _ hf1) (h.fre _ hf2) hargv).mono ?_
  rintro e w' ⟨r, δ', μ', v', rfl, ⟨rfl, rfl⟩, hv, hrel, hsub, hold⟩
  refine hk _ _ μ' (h.step hv ?_ hsub hold (by omega) hd)
  have e : app W δ' σ' = ovr σ' δ' := by
    funext b
    unfold app ovr
    split
    · rename_i hb
      have := hw2 b hb
      cases hδ : δ' b with
      | none => exact (this hδ).elim
      | some k => rfl
    · rename_i hb
      rw [hw1 b hb]
  simp only [e]
  exact hrel

theorem dOps_ok {P : Program} {ops : Array Oper} {M0 : Nat} : ∀ (l : List Oper) (i : Nat) (K : List En → Tm → Sto → Prop) (tr : List En) (τ : Tm) (σ : Sto), dOps P (ops.toList.map (·.dst)) M0 l i K tr τ σ →
    ∃ es τ' σ', K (es.reverse ++ tr) τ' σ' ∧ Goods P ops M0 i l es τ σ ∧ (∀ t, get τ' t = fo (gT t) (fun _ => true) i es (get τ t)) ∧ ∀ b, σ' b = fo (gN b) (fun _ => true) i es (σ b)
  | [], i, K, tr, τ, σ, h => ⟨[], τ, σ, h, trivial, fun _ => rfl, fun _ => rfl⟩
  | o :: l, i, K, tr, τ, σ, h => by
    have next : ∀ (e : En) (σ1 : Sto), GoodE P ops M0 i o τ σ e → (∀ b, σ1 b = app e.W e.s σ b) → dOps P (ops.toList.map (·.dst)) M0 l (i + 1) K (e :: tr) (put o.dst e.v τ) σ1 →
        ∃ es τ' σ', K (es.reverse ++ tr) τ' σ' ∧ Goods P ops M0 i (o :: l) es τ σ ∧ (∀ t, get τ' t = fo (gT t) (fun _ => true) i es (get τ t)) ∧ ∀ b, σ' b = fo (gN b) (fun _ => true) i es (σ b) := fun e σ1 hg hσ hd => by
      obtain ⟨es, τ', σ', h1, h2, h3, h4⟩ := dOps_ok l (i + 1) K (e :: tr) (put o.dst e.v τ) σ1 hd
      have e1 : σ1 = app e.W e.s σ := funext hσ
      refine ⟨e :: es, τ', σ', by simpa using h1, ⟨hg, ?_⟩, fun t => ?_, fun b => ?_⟩
      · rw [hg.1, ← e1]; exact h2
      · rw [h3 t]
        simp only [fo, if_true]
        congr 1
        rw [get_put, ← hg.1]
        unfold gT
        by_cases h2 : e.d = some t <;> simp [h2]
      · rw [h4 b, hσ b]
        simp only [fo, if_true]
        congr 1
        unfold gN app
        by_cases h2 : b ∈ e.W <;> simp [h2]
    simp only [dOps] at h
    split at h <;> try (exact h.elim)
    · rename_i hg
      split at h
      · rename_i x args hc
        split at h <;> try (exact h.elim)
        rename_i f caps hf
        obtain ⟨F, W, v, δ, h1, h2, h3, h4⟩ := h
        refine next _ _ (GoodE.call hg hc hf h1 h2 h3) (fun b => ?_) h4
        unfold app ovr
        split
        · rename_i hδ
          have : b ∈ W := Classical.byContradiction fun hb => by rw [h2 b hb] at hδ; cases hδ
          rw [if_pos this]; exact hδ.symm
        · rename_i hδ
          have : b ∉ W := fun hb => h3 b hb hδ
          rw [if_neg this]
      · split at h <;> try (exact h.elim)
        rename_i v σ1 M' hop
        refine next _ _ (GoodE.op hg hop) (fun b => ?_) h
        obtain ⟨h1, _⟩ := fOp_loc τ o.op v σ1 M' hop
        simp only
        rw [app_same h1]
    · rename_i hg
      exact next _ _ (GoodE.skip hg) (fun b => by rw [app_nil]) h

/-- For two operations, neither bound ahead of the other: they have nothing in common. -/
structure Apart (tab : Nat) (l : List Oper) (tr : List En) : Prop where
  tb : chkT tab 0 l = true
  back : ∀ (j : Nat) (o : Oper), l[j]? = some o → ∀ d ∈ dirs o, d < j
  slot : ∀ (i j : Nat) (x y : Oper), i < j → l[i]? = some x → l[j]? = some y → ordA tab i j = true ∨ apA (l.map (·.dst)) x y
  mem : ∀ (i j : Nat) (x y : En), i < j → tr[i]? = some x → tr[j]? = some y → ordA tab i j = true ∨ confl x y
theorem apart_of {l : List Oper} {tr : List En} (h1 : dchk l = true) (h2 : memA (tabN l 0 0) 0 tr) : Apart (tabN l 0 0) l tr := by
  unfold dchk at h1
  rw [force_eq, rowsK_eq, Bool.and_eq_true] at h1
  refine ⟨h1.1, fun j o ho d hd => ?_, fun i j x y hij hx hy => ?_, fun i j x y hij hx hy => ?_⟩
  · simpa using (chkT_spec l 0 h1.1 j o ho).1 d hd
  · have := chkA_spec _ 0 h1.2 i _ (by rw [List.getElem?_map, hx]; rfl) j _ hij (by rw [List.getElem?_map, hy]; rfl)
    simp only [Nat.zero_add] at this
    exact this.imp id apR_ok
  · simpa using memA_spec tr 0 h2 i x hx j y hij hy

section
variable {P : Program} {ops : Array Oper} {Qc : Exit → Act → World → Prop} {tr : List En} {τ0 : Tm} {σ0 : Sto} {M0 N K B tab : Nat} {w0 : World} {X : Nat → Prop} {E : Mu}

def setS (S : Nat → Bool) (i : Nat) : Nat → Bool := fun j => if j = i then true else S j

structure Inv (ops : Array Oper) (tr : List En) (τ0 : Tm) (σ0 : Sto) (M0 N K B : Nat) (w0 : World) (X : Nat → Prop) (E : Mu) (S : Nat → Bool) (a : Act) (w : World) (μ : Mu) : Prop where
  cl : Closed ops.toList S
  hf : HF B w0 X N K E (fT S 0 tr τ0) (fS S 0 tr σ0) (fun b => M0 + 2 * ops.size ≤ b ∨ ∃ k, k < ops.size ∧ S k = false ∧ (b = M0 + 2 * k ∨ b = M0 + 2 * k + 1)) a w μ

theorem Inv.step (hA : Apart tab ops.toList tr) (hG : Goods P ops M0 0 ops.toList tr τ0 σ0) (hK : K ≤ M0) (hN : ∀ o ∈ ops.toList, ∀ d, o.dst = some d → d < N) {S : Nat → Bool} {a : Act} {w : World} {μ : Mu}
    (h : Inv ops tr τ0 σ0 M0 N K B w0 X E S a w μ) {i : Nat} {o : Oper} (ho : ops[i]? = some o) (hi : S i = false) (hd : ∀ d ∈ dirs o, S d = true) {Kc : Act → World → Prop}
    (hk : ∀ a' w' μ', Inv ops tr τ0 σ0 M0 N K B w0 X E (setS S i) a' w' μ' → Kc a' w') : wpOp P ops Qc i Kc a w := by
  have hlen := hG.len
  have hlt : i < ops.size := (Array.getElem?_eq_some_iff.1 ho).1
  have hol : ops.toList[i]? = some o := by simpa using ho
  obtain ⟨e, he⟩ : ∃ e, tr[i]? = some e := ⟨tr[i]'(by rw [← hlen]; simpa using hlt), List.getElem?_eq_getElem _⟩
  obtain ⟨τi, σi, ⟨hed, hgood⟩, hτ, hσ⟩ := hG.at i o e hol he
  simp only [Nat.zero_add] at hτ hσ hgood
  have dof : ∀ (j : Nat) (f : En), tr[j]? = some f → ∃ oj : Oper, ops.toList[j]? = some oj ∧ f.d = oj.dst := fun j f hf => by
    have hj : j < ops.toList.length := by rw [hlen]; exact (List.getElem?_eq_some_iff.1 hf).1
    obtain ⟨τj, σj, ⟨h1, _⟩, _⟩ := hG.at j _ f (List.getElem?_eq_getElem hj) hf
    exact ⟨_, List.getElem?_eq_getElem hj, h1⟩
  -- a writer of what the operation looks at stands as the order says
  have sync : ∀ (j : Nat) (oj : Oper), ops.toList[j]? = some oj → (j < i → ordA tab j i = true) → (i < j → ordA tab i j = true) → S j = decide (j < i) := fun j oj hj h1 h2 => by
    rcases Nat.lt_trichotomy j i with hji | hji | hji
    · rw [ord_ok hA.tb h.cl i o hol (h1 hji) hd]; simp [hji]
    · subst hji; simp [hi]
    · have : S j = false := by
        cases hs : S j with
        | false => rfl
        | true =>
          have := ord_ok hA.tb h.cl j oj hj (h2 hji) (h.cl j oj hj hs)
          rw [hi] at this; cases this
      rw [this]; simp; omega
  have syncT : ∀ t, (t ∈ lkA (ops.toList.map (·.dst)) o ∨ o.dst = some t) → ∀ (j : Nat) (f : En), tr[j]? = some f → (gT t f).isSome = true → S j = decide (j < i) := fun t ht j f hf hs => by
    obtain ⟨oj, hoj, hfd⟩ := dof j f hf
    have hfd2 : oj.dst = some t := by
      rw [← hfd]
      unfold gT at hs
      split at hs
      · assumption
      · cases hs
    refine sync j oj hoj (fun hji => ?_) fun hij => ?_
    · rcases hA.slot j i oj o hji hoj hol with h1 | h1
      · exact h1
      · rcases ht with ht | ht
        · exact ((h1.1 t hfd2).1 ht).elim
        · exact ((h1.1 t hfd2).2 ht).elim
    · rcases hA.slot i j o oj hij hol hoj with h1 | h1
      · exact h1
      · rcases ht with ht | ht
        · exact (h1.2 t hfd2 ht).elim
        · exact ((h1.1 t ht).2 hfd2).elim
  have syncN : ∀ b, (b ∈ e.F ∨ b ∈ e.W) → ∀ (j : Nat) (f : En), tr[j]? = some f → (gN b f).isSome = true → S j = decide (j < i) := fun b hb j f hf hs => by
    obtain ⟨oj, hoj, _⟩ := dof j f hf
    have hbf : b ∈ f.W := by
      unfold gN at hs
      split at hs
      · assumption
      · cases hs
    refine sync j oj hoj (fun hji => ?_) fun hij => ?_
    · rcases hA.mem j i f e hji hf he with h1 | h1
      · exact h1
      · rcases hb with hb | hb
        · exact ((h1.1 b hbf).1 hb).elim
        · exact ((h1.1 b hbf).2 hb).elim
    · rcases hA.mem i j e f hij he hf with h1 | h1
      · exact h1
      · rcases hb with hb | hb
        · exact (h1.2 b hbf hb).elim
        · exact ((h1.1 b hb).2 hbf).elim
  refine hgood B N K w0 X E (fT S 0 tr τ0) (fS S 0 tr σ0) _ a w μ Qc Kc ho (fun t ht => ?_) (fun b hb => ?_) h.hf (.inr ⟨i, hlt, hi, .inl rfl⟩) (.inr ⟨i, hlt, hi, .inr rfl⟩) hK (hN o (List.mem_of_getElem? hol)) fun a' w' μ' hf' => hk a' w' μ' ⟨?_, ?_⟩
  · rw [get_fT, hτ]
    exact fo_congr _ _ _ fun j f hf hs => by simpa using syncT t (.inl ht) j f hf hs
  · rw [hσ]
    exact fo_congr _ _ _ fun j f hf hs => by simpa using syncN b (.inl hb) j f hf hs
  · intro k ok hok hks d hdk
    unfold setS at hks ⊢
    split
    · rfl
    · split at hks
      · rename_i hki
        subst hki
        rw [hol] at hok; cases hok
        exact hd d hdk
      · exact h.cl k ok hok hks d hdk
  · refine hf'.alike (fun t => ?_) (fun b => ?_) ?_
    · rw [get_fT, get_put]
      split
      · rename_i ht
        refine fo_last tr 0 i _ _ e he (by simp [gT, hed, ht]) (by simp [setS]) fun j f hij hf hs => ?_
        have := syncT t (.inr ht) j f hf hs
        simp only [Nat.zero_add, setS, if_neg (show ¬ j = i by omega), this]
        simp; omega
      · rename_i ht
        rw [get_fT]
        refine fo_congr _ _ _ fun j f hf hs => ?_
        have : j ≠ i := fun hji => by
          subst hji
          rw [he] at hf; cases hf
          unfold gT at hs
          rw [hed, if_neg ht] at hs; cases hs
        simp [setS, this]
    · unfold app
      split
      · rename_i hb
        refine fo_last tr 0 i _ _ e he (by simp [gN, hb]) (by simp [setS]) fun j f hij hf hs => ?_
        have := syncN b (.inr hb) j f hf hs
        simp only [Nat.zero_add, setS, if_neg (show ¬ j = i by omega), this]
        simp; omega
      · rename_i hb
        refine fo_congr _ _ _ fun j f hf hs => ?_
        have : j ≠ i := fun hji => by
          subst hji
          rw [he] at hf; cases hf
          unfold gN at hs
          rw [if_neg hb] at hs; cases hs
        simp [setS, this]
    · rintro b (hb | ⟨k, hk1, hk2, hk3⟩)
      · exact ⟨.inl hb, by omega, by omega⟩
      · have hki : k ≠ i := fun e => by subst e; simp [setS] at hk2
        refine ⟨.inr ⟨k, hk1, by simpa [setS, hki] using hk2, hk3⟩, ?_, ?_⟩ <;> rcases hk3 with rfl | rfl <;> omega

theorem dAny (hA : Apart tab ops.toList tr) (hG : Goods P ops M0 0 ops.toList tr τ0 σ0) (hK : K ≤ M0) (hN : ∀ o ∈ ops.toList, ∀ d, o.dst = some d → d < N)
    (hQ : ∀ a w μ, Inv ops tr τ0 σ0 M0 N K B w0 X E (fun k => decide (k < ops.size)) a w μ → Qc .normal a w) :
    ∀ (fuel : Nat) (listed : Array Bool) (a : Act) (w : World) (μ : Mu), listed.size = ops.size → listed.toList.countP (fun b => !b) ≤ fuel → Inv ops tr τ0 σ0 M0 N K B w0 X E (fun k => listed.getD k false) a w μ →
      wpAny P .any ops Qc fuel listed a w := by
  have full : ∀ (listed : Array Bool) (a : Act) (w : World) (μ : Mu), listed.size = ops.size → (∀ k, k < ops.size → listed.getD k false = true) → Inv ops tr τ0 σ0 M0 N K B w0 X E (fun k => listed.getD k false) a w μ → Qc .normal a w := fun listed a w μ hs hall h => by
    have e : (fun k => listed.getD k false) = fun k => decide (k < ops.size) := by
      funext k
      by_cases hk : k < ops.size
      · rw [hall k hk]; simp [hk]
      · have : listed.size ≤ k := by omega
        simp [Array.getElem?_eq_none this, hk]
    rw [e] at h
    exact hQ a w μ h
  have none : ∀ (listed : Array Bool), listed.size = ops.size → Region.ready .any ops listed = [] → ∀ k, k < ops.size → listed.getD k false = true := fun listed hs hr k => by
    induction k using Nat.strongRecOn with
    | ind k ih =>
      intro hk
      cases hl : listed.getD k false with
      | true => rfl
      | false =>
        have hmem : k ∈ Region.ready .any ops listed := by
          rw [mem_ready]
          refine ⟨?_, ops[k], Array.getElem?_eq_getElem hk, fun e he hb => ?_⟩
          · have h1 : k < listed.size := by omega
            simpa [h1] using hl
          · have h2 : e.on ∈ dirs ops[k] := by
              unfold dirs
              rw [List.mem_filterMap]
              exact ⟨e, by simpa using he, by simp [hb]⟩
            have h3 := hA.back k ops[k] (by simp [hk]) _ h2
            exact ih e.on h3 (by omega)
        rw [hr] at hmem
        cases hmem
  intro fuel
  induction fuel with
  | zero =>
    intro listed a w μ hs hc h
    have hall : ∀ k, k < ops.size → listed.getD k false = true := fun k hk => by
      have h0 : ∀ b ∈ listed.toList, ¬ (!b) = true := List.countP_eq_zero.1 (Nat.le_zero.1 hc)
      have hk2 : k < listed.size := by omega
      have := h0 listed[k] (by simp)
      simpa [hk2] using this
    refine ⟨?_, full listed a w μ hs hall h⟩
    cases hr : Region.ready .any ops listed with
    | nil => rfl
    | cons j r =>
      have hj : j ∈ Region.ready .any ops listed := by rw [hr]; simp
      obtain ⟨h1, o, ho, _⟩ := mem_ready.1 hj
      have hlt : j < ops.size := (Array.getElem?_eq_some_iff.1 ho).1
      have h2 := hall j hlt
      have h3 : j < listed.size := by omega
      simp [h3] at h1 h2
      rw [h1] at h2; cases h2
  | succ fuel ih =>
    intro listed a w μ hs hc h
    refine ⟨fun hr => full listed a w μ hs (none listed hs hr) h, fun i hi => ?_⟩
    obtain ⟨h1, o, ho, hall⟩ := mem_ready.1 hi
    have hlt : i < ops.size := (Array.getElem?_eq_some_iff.1 ho).1
    have hlt2 : i < listed.size := by omega
    have hif : listed.getD i false = false := by simpa [hlt2] using h1
    refine h.step hA hG hK hN ho hif (fun d hd => ?_) fun a' w' μ' h' => ih _ a' w' μ' (by simp [hs]) ?_ ?_
    · unfold dirs at hd
      rw [List.mem_filterMap] at hd
      obtain ⟨e, he, hb⟩ := hd
      split at hb
      · rename_i hbb
        cases hb
        exact hall e (by simpa using he) hbb
      · cases hb
    · have hl : i < listed.toList.length := by simpa using hlt2
      rw [Array.toList_setIfInBounds, List.countP_set hl]
      have e0 : listed.toList[i] = false := by simpa [hlt2] using h1
      have : 0 < listed.toList.countP (fun b => !b) := List.countP_pos_iff.2 ⟨listed.toList[i], List.getElem_mem hl, by simp [e0]⟩
      simp [e0]
      simp at hc this
      omega
    · have e : (fun k => (listed.setIfInBounds i true).getD k false) = setS (fun k => listed.getD k false) i := by
        funext k
        unfold setS
        split
        · rename_i hk; subst hk; simp [hlt2]
        · rename_i hk; simp [Array.getElem?_setIfInBounds_ne (Ne.symm hk)]
      rw [e]
      exact h'
end

theorem AWP.draw {P : Program} {N K id : Nat} {ops : Array Oper} {Q : Exit → Tm → Sto → Nat → Prop} {τ : Tm} {σ : Sto} {M : Nat} (hm : P.follows .mixedOrders = true) (hd : (ops.toList.all fun o => match o.dst with | some d => decide (d < N) | none => true) = true) (hc : dchk ops.toList = true)
    (h : ∀ KK : Tm → Sto → Nat → Prop, (∀ τ' σ' M', Q .normal τ' σ' M' → KK τ' σ' M') → dOps P (ops.toList.map (·.dst)) M ops.toList 0 (fun tr τ σ => memA (tabN ops.toList 0 0) 0 tr.reverse ∧ KK τ σ (M + 2 * ops.toList.length)) [] τ σ) :
    AWP P N K (.region id ops true) Q τ σ M := by
  intro B w0 X E a w μ hs
  obtain ⟨es, τ1, σ1, ⟨hmem, hQ⟩, hG, hτ, hσ⟩ := dOps_ok _ _ _ _ _ _ (h (Q .normal) fun _ _ _ h => h)
  simp only [List.append_nil, List.reverse_reverse] at hmem
  have hA := apart_of hc hmem
  have hlen := hG.len
  refine wp_region_any hm (dAny (B := B) (w0 := w0) (X := X) (E := E) (N := N) hA hG hs.kM (fun o ho d hdd => ?_) (fun a' w' μ' h' => ?_) ops.size _ a _ μ (by simp) (Nat.le_trans List.countP_le_length (by simp)) ⟨fun k o hk hks => ?_, ?_⟩)
  · have := List.all_eq_true.1 hd o ho
    rw [hdd] at this
    simpa using this
  · have ht := h'.hf.alike (τ' := τ1) (σ' := σ1) (fr' := fun b => M + 2 * ops.size ≤ b) (fun t => ?_) (fun b => ?_) fun b hb => .inl hb
    · have hk := hs.kM
      have e : ops.toList.length = ops.size := by simp
      refine ⟨τ1, σ1, _, μ', hQ, ht.dfr, ht.siz, ht.rel, fun b hb => ht.fre b (by rw [← e]; exact hb), ht.ext, ht.tm, by omega, ht.sd⟩
    · rw [hτ, get_fT]
      refine fo_congr _ _ _ fun j e he _ => ?_
      have : j < ops.size := by
        have := (List.getElem?_eq_some_iff.1 he).1
        simp at hlen; omega
      simp [this]
    · rw [hσ]
      refine fo_congr _ _ _ fun j e he _ => ?_
      have : j < ops.size := by
        have := (List.getElem?_eq_some_iff.1 he).1
        simp at hlen; omega
      simp [this]
  · simp [Array.getElem?_replicate] at hks
    split at hks <;> simp at hks
  · have e0 : ∀ k, (Array.replicate ops.size false).getD k false = false := fun k => by
      simp [Array.getElem?_replicate]
      split <;> rfl
    refine ⟨hs.dfr, hs.siz, ?_, fun b hb => hs.fre b ?_, hs.ext, fun i => ?_, hs.sd⟩
    · have e : fS (fun k => (Array.replicate ops.size false).getD k false) 0 es σ = σ := by
        funext b
        exact fo_none _ _ _ fun j e _ _ => e0 _
      rw [e]
      exact hs.rel.drew
    · rcases hb with hb | ⟨k, _, _, rfl | rfl⟩ <;> omega
    · rw [get_fT, fo_none _ _ _ fun j e _ _ => e0 _]
      exact hs.tm i

end Go.Proofs.Ytgaiemhbllbaiaa
namespace Go.Proofs.Ytgaiemhbllbaiaa
open Go Go.RowKit
variable [Side]

abbrev DK := List En → Tm → Sto → Prop
def dStop (P : Program) (ds : List (Option Tmp)) (M0 : Nat) (f : FuncId) (args : List AV) (d : Option Tmp) (rest : List Oper) (i : Nat) (K : DK) (tr : List En) (τ : Tm) (σ : Sto) : Prop :=
  ∃ (F W : List Nat) (v : AV) (δ : Sto), (∀ σ' : Sto, (∀ b ∈ F, σ' b = σ b) → AC P f args σ' (M0 + 2 * i) fun r δ' => r = v ∧ δ' = δ) ∧ (∀ b, b ∉ W → δ b = none) ∧ (∀ b ∈ W, δ b ≠ none) ∧
    dOps P ds M0 rest (i + 1) K (⟨d, v, W, δ, F⟩ :: tr) (put d v τ) (ovr σ δ)
def dGo (P : Program) (ds : List (Option Tmp)) (M0 : Nat) (x : AV) (args : List AV) (d : Option Tmp) (rest : List Oper) (i : Nat) (K : DK) (tr : List En) (τ : Tm) (σ : Sto) : Prop :=
  match x with
  | .fn f caps => dStop P ds M0 f (args ++ caps) d rest i K tr τ σ
  | _ => False
def dCont (P : Program) (ds : List (Option Tmp)) (M0 : Nat) (o : Option Out) (W F : List Nat) (d : Option Tmp) (rest : List Oper) (i : Nat) (K : DK) (tr : List En) (τ : Tm) : Prop :=
  match o with
  | some (v, σ', _) => dOps P ds M0 rest (i + 1) K (⟨d, v, W, σ', F⟩ :: tr) (put d v τ) σ'
  | none => False
def dDo (P : Program) (ds : List (Option Tmp)) (M0 : Nat) (c : Option (Operand × List Operand)) (d : Option Tmp) (op : Op) (rest : List Oper) (i : Nat) (K : DK) (tr : List En) (τ : Tm) (σ : Sto) : Prop :=
  match c with
  | some (x, args) => dGo P ds M0 (ev τ x) (args.map (ev τ)) d rest i K tr τ σ
  | none => dCont P ds M0 (fOp P τ σ (M0 + 2 * i) op) (opW τ (M0 + 2 * i) op) (opR τ op) d rest i K tr τ
def dStep (P : Program) (ds : List (Option Tmp)) (M0 : Nat) (g : Option Bool) (d : Option Tmp) (op : Op) (rest : List Oper) (i : Nat) (K : DK) (tr : List En) (τ : Tm) (σ : Sto) : Prop :=
  match g with
  | some true => dDo P ds M0 (callOf op) d op rest i K tr τ σ
  | some false => dOps P ds M0 rest (i + 1) K (⟨d, .v undef, [], noS, []⟩ :: tr) (put d (.v undef) τ) σ
  | none => False
/-- The end of a drawn region. -/
def dEnd (tab : Nat) (M' : Nat) (KK : Tm → Sto → Nat → Prop) (tr : List En) (τ : Tm) (σ : Sto) : Prop := memA tab 0 tr.reverse ∧ KK τ σ M'

section
variable {P : Program} {ds : List (Option Tmp)} {M0 : Nat} {K : DK} {tr : List En} {τ : Tm} {σ : Sto} {i : Nat}
theorem dOps_nil : dOps P ds M0 [] i K tr τ σ = K tr τ σ := propext Iff.rfl
theorem dOps_cons (d : Option Tmp) (op : Op) (t : TypeId) (p : String) (aft : Array Edge) (g : Option (Nat × Bool)) (rest : List Oper) :
    dOps P ds M0 (⟨d, op, t, p, aft, g⟩ :: rest) i K tr τ σ = dStep P ds M0 (gdA ds τ g) d op rest i K tr τ σ := propext Iff.rfl
theorem dStep_yes (d : Option Tmp) (op : Op) (rest : List Oper) : dStep P ds M0 (some true) d op rest i K tr τ σ = dDo P ds M0 (callOf op) d op rest i K tr τ σ := propext Iff.rfl
theorem dStep_no (d : Option Tmp) (op : Op) (rest : List Oper) : dStep P ds M0 (some false) d op rest i K tr τ σ = dOps P ds M0 rest (i + 1) K (⟨d, .v undef, [], noS, []⟩ :: tr) (put d (.v undef) τ) σ := propext Iff.rfl
theorem dDo_call (d : Option Tmp) (op : Op) (x : Operand) (args : List Operand) (rest : List Oper) : dDo P ds M0 (some (x, args)) d op rest i K tr τ σ = dGo P ds M0 (ev τ x) (args.map (ev τ)) d rest i K tr τ σ := propext Iff.rfl
theorem dDo_op (d : Option Tmp) (op : Op) (rest : List Oper) : dDo P ds M0 none d op rest i K tr τ σ = dCont P ds M0 (fOp P τ σ (M0 + 2 * i) op) (opW τ (M0 + 2 * i) op) (opR τ op) d rest i K tr τ := propext Iff.rfl
theorem dCont_some (v : AV) (σ' : Sto) (M' : Nat) (W F : List Nat) (d : Option Tmp) (rest : List Oper) : dCont P ds M0 (some (v, σ', M')) W F d rest i K tr τ = dOps P ds M0 rest (i + 1) K (⟨d, v, W, σ', F⟩ :: tr) (put d v τ) σ' := propext Iff.rfl
theorem dGo_fn (f : FuncId) (caps args : List AV) (d : Option Tmp) (rest : List Oper) : dGo P ds M0 (.fn f caps) args d rest i K tr τ σ = dStop P ds M0 f (args ++ caps) d rest i K tr τ σ := propext Iff.rfl
theorem dStop_of {f : FuncId} {args : List AV} {d : Option Tmp} {rest : List Oper} (F W : List Nat) {v : AV} {δ : Sto} (h : ∀ σ' : Sto, (∀ b ∈ F, σ' b = σ b) → AC P f args σ' (M0 + 2 * i) fun r δ' => r = v ∧ δ' = δ)
    (h1 : ∀ b, b ∉ W → δ b = none) (h2 : ∀ b ∈ W, δ b ≠ none) (h3 : dOps P ds M0 rest (i + 1) K (⟨d, v, W, δ, F⟩ :: tr) (put d v τ) (ovr σ δ)) : dStop P ds M0 f args d rest i K tr τ σ := ⟨F, W, v, δ, h, h1, h2, h3⟩
/-- A call that changes nothing and looks at these blocks. -/
theorem dStop_ro {f : FuncId} {args : List AV} {d : Option Tmp} {rest : List Oper} (F : List Nat) {v : AV} (h : ∀ σ' : Sto, (∀ b ∈ F, σ' b = σ b) → AC P f args σ' (M0 + 2 * i) fun r δ' => r = v ∧ δ' = noS)
    (h3 : dOps P ds M0 rest (i + 1) K (⟨d, v, [], noS, F⟩ :: tr) (put d v τ) σ) : dStop P ds M0 f args d rest i K tr τ σ := ⟨F, [], v, noS, h, fun _ _ => rfl, by simp, by rw [ovr_none]; exact h3⟩
theorem dStop_pure {f : FuncId} {args : List AV} {d : Option Tmp} {rest : List Oper} {v : AV} (h : ∀ σ' : Sto, AC P f args σ' (M0 + 2 * i) fun r δ' => r = v ∧ δ' = noS)
    (h3 : dOps P ds M0 rest (i + 1) K (⟨d, v, [], noS, []⟩ :: tr) (put d v τ) σ) : dStop P ds M0 f args d rest i K tr τ σ := dStop_ro [] (fun σ' _ => h σ') h3
/-- A call that changes nothing and looks at the blocks that its arguments name. -/
theorem dStop_roA {f : FuncId} {args : List AV} {d : Option Tmp} {rest : List Oper} {v : AV} (h : ∀ σ' : Sto, (∀ b ∈ nmAs args, σ' b = σ b) → AC P f args σ' (M0 + 2 * i) fun r δ' => r = v ∧ δ' = noS)
    (h3 : dOps P ds M0 rest (i + 1) K (⟨d, v, [], noS, nmAs args⟩ :: tr) (put d v τ) σ) : dStop P ds M0 f args d rest i K tr τ σ := dStop_ro _ h h3
/-- A call that writes one block, its own new one or an elder one. -/
theorem dStop_modA {f : FuncId} {args : List AV} {d : Option Tmp} {rest : List Oper} (b : Nat) {v : AV} {k : Blk} (h : ∀ σ' : Sto, (∀ b ∈ nmAs args, σ' b = σ b) → AC P f args σ' (M0 + 2 * i) fun r δ' => r = v ∧ δ' = upd noS b k)
    (h3 : dOps P ds M0 rest (i + 1) K (⟨d, v, [b], upd noS b k, nmAs args⟩ :: tr) (put d v τ) (upd σ b k)) : dStop P ds M0 f args d rest i K tr τ σ :=
  ⟨nmAs args, [b], v, upd noS b k, h, fun c hc => by rw [upd_ne _ _ _ _ (by simpa using hc)]; rfl, by simp [upd_eq], by rw [ovr_one]; exact h3⟩
theorem dStop_modF {f : FuncId} {args : List AV} {d : Option Tmp} {rest : List Oper} (F : List Nat) (b : Nat) {v : AV} {k : Blk} (h : ∀ σ' : Sto, (∀ b ∈ F, σ' b = σ b) → AC P f args σ' (M0 + 2 * i) fun r δ' => r = v ∧ δ' = upd noS b k)
    (h3 : dOps P ds M0 rest (i + 1) K (⟨d, v, [b], upd noS b k, F⟩ :: tr) (put d v τ) (upd σ b k)) : dStop P ds M0 f args d rest i K tr τ σ :=
  ⟨F, [b], v, upd noS b k, h, fun c hc => by rw [upd_ne _ _ _ _ (by simpa using hc)]; rfl, by simp [upd_eq], by rw [ovr_one]; exact h3⟩
theorem dStop_newA {f : FuncId} {args : List AV} {d : Option Tmp} {rest : List Oper} {v : AV} {k : Blk} (h : ∀ σ' : Sto, (∀ b ∈ nmAs args, σ' b = σ b) → AC P f args σ' (M0 + 2 * i) fun r δ' => r = v ∧ δ' = upd noS (M0 + 2 * i) k)
    (h3 : dOps P ds M0 rest (i + 1) K (⟨d, v, [M0 + 2 * i], upd noS (M0 + 2 * i) k, nmAs args⟩ :: tr) (put d v τ) (upd σ (M0 + 2 * i) k)) : dStop P ds M0 f args d rest i K tr τ σ := dStop_modA _ h h3
theorem dEnd_ro {tab : Nat} {M' : Nat} {KK : Tm → Sto → Nat → Prop} (h : ∀ f ∈ tr, f.W = []) (hk : KK τ σ M') : dEnd tab M' KK tr τ σ := ⟨memA_ro _ _ fun f hf => h f (by simpa using hf), hk⟩
theorem dEnd_of {tab : Nat} {M' : Nat} {KK : Tm → Sto → Nat → Prop} (h : memA tab 0 tr.reverse) (hk : KK τ σ M') : dEnd tab M' KK tr τ σ := ⟨h, hk⟩
end

theorem AWP.draw' {P : Program} {N K id : Nat} {ops : Array Oper} {Q : Exit → Tm → Sto → Nat → Prop} {τ : Tm} {σ : Sto} {M : Nat} (hm : P.follows .mixedOrders = true) (hd : (ops.toList.all fun o => match o.dst with | some d => decide (d < N) | none => true) = true) (hc : dchk ops.toList = true)
    (h : ∀ (KK : Tm → Sto → Nat → Prop) (tab : Nat), (∀ τ' σ' M', Q .normal τ' σ' M' → KK τ' σ' M') → tab = tabN ops.toList 0 0 → dOps P (ops.toList.map (·.dst)) M ops.toList 0 (dEnd tab (M + 2 * ops.toList.length) KK) [] τ σ) :
    AWP P N K (.region id ops true) Q τ σ M := AWP.draw hm hd hc fun KK hKK => h KK _ hKK rfl

end Go.Proofs.Ytgaiemhbllbaiaa
namespace Go.Proofs.Ytgaiemhbllbaiaa
open Go Go.RowKit

theorem upd_upd (σ : Sto) (b : Nat) (k k' : Blk) : upd (upd σ b k) b k' = upd σ b k' := by funext c; by_cases h : c = b <;> simp [upd, h]
theorem get_hit (i : Nat) (v : AV) (r : Tm) : get ((i, v) :: r) i = v := by simp [get]
theorem get_miss (i j : Nat) (v : AV) (r : Tm) (h : j ≠ i) : get ((i, v) :: r) j = get r j := by simp [get, h]
theorem get_nil (j : Nat) : get [] j = .any := rfl
mutual
theorem ren_id : ∀ x : AV, ren (fun b => b) x = x
  | .any => rfl
  | .bl => rfl
  | .v _ => rfl
  | .ptr .. => rfl
  | .sl .. => rfl
  | .agg l => by simp [ren, rens_id l]
  | .tup l => by simp [ren, rens_id l]
  | .fn f l => by simp [ren, rens_id l]
theorem rens_id : ∀ l : List AV, rens (fun b => b) l = l
  | [] => rfl
  | x :: l => by simp [rens, ren_id x, rens_id l]
end
theorem swl_nil : swl [] = fun b => b := rfl

def LT (M : Nat) (τ : Tm) : Tm → Prop
  | [] => True
  | (i, v) :: r => get τ i = v ∧ (∀ n ∈ nms v, n < M) ∧ LT M τ r
theorem LT.le {M : Nat} {τ : Tm} : ∀ {τ' : Tm}, LT M τ τ' → LeT (swl []) M τ τ'
  | [], _, p, hp => by simp at hp
  | (i, v) :: r, h, p, hp => by
    rcases List.mem_cons.1 hp with rfl | hp
    · exact .inr ⟨by rw [swl_nil, ren_id]; exact h.1, h.2.1⟩
    · exact LT.le h.2.2 p hp
theorem Weak.base [Side] {K M : Nat} {τ τ' : Tm} {σ s : Sto} (hB : Bd K s) (ho : Over s σ) (h : LT K τ τ') : Weak K τ σ M τ' s K :=
  Weak.mk [] (by simp) (by simp) (Nat.le_refl _) h.le (LeS.base hB (Nat.le_refl _) (fun _ _ => rfl) ho)

/-- A loop that holds one new block: the block bears the name K again. -/
theorem Weak.keep [Side] {K M c : Nat} {τ τ' : Tm} {σ s : Sto} {k k0 : Blk} (hB : Bd K s) (ho : Over s σ) (hk : σ c = some k0) (he : k0 = k) (hf : flatB k) (hc : c = K ∨ K + 1 ≤ c) (h : LeT (swl [(K, c)]) (K + 1) τ τ') : Weak K τ σ M τ' (upd s K k) (K + 1) := by
  subst he
  refine Weak.mk [(K, c)] (fun p hp => ?_) (by simp) (by omega) h ((LeS.base hB (by omega) (fun b hb => ?_) ho).upd (by omega) (k0 := k0) ?_ (BLe.flat id hf))
  · simp only [List.mem_singleton] at hp
    subst hp
    exact ⟨Nat.le_refl _, by omega⟩
  · simp only [swl]
    rw [if_neg (by omega)]
  · simp only [swl, if_true]; exact hk
/-- Slots forgotten; the store stays. -/
def LQ (τ : Tm) : Tm → Prop
  | [] => True
  | (i, v) :: r => get τ i = v ∧ LQ τ r
theorem LQ.get {τ : Tm} : ∀ {τ' : Tm}, LQ τ τ' → ∀ p ∈ τ', Go.Proofs.Ytgaiemhbllbaiaa.get τ p.1 = p.2
  | [], _, p, hp => by simp at hp
  | (i, v) :: r, h, p, hp => by
    simp only [LQ] at h
    rcases List.mem_cons.1 hp with rfl | hp
    · exact h.1
    · exact LQ.get h.2 p hp
theorem Weak.tau [Side] {K M : Nat} {τ τ' : Tm} {σ : Sto} (h : LQ τ τ') : Weak K τ σ M τ' σ M := by
  intro B w0 X N E a w μ hs
  refine ⟨μ, hs.dfr, hs.siz, hs.rel, hs.fre, hs.ext, fun i => ?_, hs.kM, hs.sd⟩
  rcases get_mem τ' i with h1 | ⟨p, h1, h2, h3⟩
  · rw [h1]; simp [VRel]
  · rw [h3, ← h.get p h1, h2]
    exact hs.tm i
/-- A new name is not among the elder ones. -/
theorem Bd.none {K : Nat} {s : Sto} (h : Bd K s) {c : Nat} (hc : K ≤ c) : s c = none := by
  cases hs : s c with
  | none => rfl
  | some k => have := (h c k hs).1; omega
theorem LeS.baseM {ρ : Nat → Nat} {K M' : Nat} {s σ : Sto} (b : Nat) (hs : Bd K s) (hK : K ≤ M') (hρ : ∀ x, x < K → ρ x = x) (ho : ∀ x kx, x ≠ b → s x = some kx → σ x = some kx) : LeS ρ M' σ (del s b) := fun x kx hx => by
  by_cases e : x = b
  · subst e; rw [del_eq] at hx; cases hx
  · rw [del_ne _ _ _ e] at hx
    obtain ⟨h1, h2⟩ := hs x kx hx
    refine ⟨by omega, kx, by rw [hρ x h1]; exact ho x kx e hx, rfl, rfl, id, .inl ⟨rfl, fun e he v hv n hn => ?_⟩⟩
    have := h2 e he v hv n hn
    exact ⟨by omega, hρ n this⟩
theorem upd_del (σ : Sto) (b : Nat) (k : Blk) : upd (Go.Proofs.Ytgaiemhbllbaiaa.del σ b) b k = upd σ b k := by funext c; by_cases h : c = b <;> simp [upd, Go.Proofs.Ytgaiemhbllbaiaa.del, h]
/-- Loops that hold new blocks and write an elder one: the new ones bear the names K, K + 1, .. again. -/
theorem Weak.m0 [Side] {K M b : Nat} {τ τ' : Tm} {σ s : Sto} {kb : Blk} (hB : Bd K s) (hb : b < K) (ho : ∀ x kx, x ≠ b → s x = some kx → σ x = some kx) (hkb : σ b = some kb) (hf : lowB K kb) (h : LT K τ τ') : Weak K τ σ M τ' (upd s b kb) K := by
  rw [← upd_del]
  refine Weak.mk [] (by simp) (by simp) (Nat.le_refl _) h.le ((LeS.baseM b hB (Nat.le_refl _) (fun _ _ => rfl) ho).upd hb (k0 := kb) hkb (BLe.low id (fun _ _ => rfl) (Nat.le_refl _) hf))
theorem Weak.mod [Side] {K M b : Nat} {τ τ' : Tm} {σ s : Sto} {k : Blk} (hB : Bd K s) (hb : b < K) (ho : ∀ c kc, c ≠ b → s c = some kc → σ c = some kc) (hk : σ b = some k) (hf : flatB k) (h : LT K τ τ') : Weak K τ σ M τ' (upd s b k) K := Weak.m0 hB hb ho hk hf.low h
theorem Weak.m1 [Side] {K M b c : Nat} {τ τ' : Tm} {σ s : Sto} {kb kc : Blk} (hB : Bd K s) (hb : b < K) (ho : ∀ x kx, x ≠ b → s x = some kx → σ x = some kx) (hkb : σ b = some kb) (hf : lowB K kb) (hkc : σ c = some kc) (hfc : lowB K kc) (hc : c = K ∨ K + 1 ≤ c)
    (h : LeT (swl [(K, c)]) (K + 1) τ τ') : Weak K τ σ M τ' (upd (upd s b kb) K kc) (K + 1) := by
  rw [← upd_del s b kb]
  have hρ : ∀ x, x < K → swl [(K, c)] x = x := fun x hx => by simp only [swl]; rw [if_neg (by omega)]
  refine Weak.mk [(K, c)] (fun p hp => ?_) (by simp) (by omega) h (((LeS.baseM b hB (by omega) hρ ho).upd (by omega) (k0 := kb) (by rw [hρ b hb]; exact hkb) (BLe.low id hρ (by omega) hf)).upd (by omega) (k0 := kc) (by simp only [swl, if_true]; exact hkc) (BLe.low id hρ (by omega) hfc))
  simp only [List.mem_singleton] at hp
  subst hp
  exact ⟨Nat.le_refl _, by omega⟩
theorem Weak.k1 [Side] {K M c : Nat} {τ τ' : Tm} {σ s : Sto} {kc : Blk} (hB : Bd K s) (ho : Over s σ) (hkc : σ c = some kc) (hfc : lowB K kc) (hc : c = K ∨ K + 1 ≤ c) (h : LeT (swl [(K, c)]) (K + 1) τ τ') : Weak K τ σ M τ' (upd s K kc) (K + 1) := by
  have hρ : ∀ x, x < K → swl [(K, c)] x = x := fun x hx => by simp only [swl]; rw [if_neg (by omega)]
  refine Weak.mk [(K, c)] (fun p hp => ?_) (by simp) (by omega) h ((LeS.base hB (by omega) hρ ho).upd (by omega) (k0 := kc) (by simp only [swl, if_true]; exact hkc) (BLe.low id hρ (by omega) hfc))
  simp only [List.mem_singleton] at hp
  subst hp
  exact ⟨Nat.le_refl _, by omega⟩
theorem Weak.k2 [Side] {K M c d : Nat} {τ τ' : Tm} {σ s : Sto} {kc kd : Blk} (hB : Bd K s) (ho : Over s σ) (hkc : σ c = some kc) (hfc : lowB K kc) (hc : c = K ∨ K + 2 ≤ c) (hkd : σ d = some kd) (hfd : lowB K kd) (hd : d = K + 1 ∨ K + 2 ≤ d) (hcd : c ≠ d)
    (h : LeT (swl [(K, c), (K + 1, d)]) (K + 2) τ τ') : Weak K τ σ M τ' (upd (upd s K kc) (K + 1) kd) (K + 2) := by
  have hρ : ∀ x, x < K → swl [(K, c), (K + 1, d)] x = x := fun x hx => by simp only [swl]; rw [if_neg (by omega), if_neg (by omega)]
  refine Weak.mk [(K, c), (K + 1, d)] (fun p hp => ?_) (by simp [hcd]) (by omega) h (((LeS.base hB (by omega) hρ ho).upd (by omega) (k0 := kc) (by simp only [swl, if_true]; exact hkc) (BLe.low id hρ (by omega) hfc)).upd (by omega) (k0 := kd) (by simp only [swl, Nat.succ_ne_self, if_true, if_false]; exact hkd) (BLe.low id hρ (by omega) hfd))
  simp only [List.mem_cons, List.not_mem_nil, or_false] at hp
  rcases hp with rfl | rfl
  · exact ⟨Nat.le_refl _, by omega⟩
  · exact ⟨by simp, by omega⟩
theorem Weak.m2 [Side] {K M b c d : Nat} {τ τ' : Tm} {σ s : Sto} {kb kc kd : Blk} (hB : Bd K s) (hb : b < K) (ho : ∀ x kx, x ≠ b → s x = some kx → σ x = some kx) (hkb : σ b = some kb) (hf : lowB K kb) (hkc : σ c = some kc) (hfc : lowB K kc) (hc : c = K ∨ K + 2 ≤ c) (hkd : σ d = some kd) (hfd : lowB K kd) (hd : d = K + 1 ∨ K + 2 ≤ d) (hcd : c ≠ d)
    (h : LeT (swl [(K, c), (K + 1, d)]) (K + 2) τ τ') : Weak K τ σ M τ' (upd (upd (upd s b kb) K kc) (K + 1) kd) (K + 2) := by
  rw [← upd_del s b kb]
  have hρ : ∀ x, x < K → swl [(K, c), (K + 1, d)] x = x := fun x hx => by simp only [swl]; rw [if_neg (by omega), if_neg (by omega)]
  refine Weak.mk [(K, c), (K + 1, d)] (fun p hp => ?_) (by simp [hcd]) (by omega) h ((((LeS.baseM b hB (by omega) hρ ho).upd (by omega) (k0 := kb) (by rw [hρ b hb]; exact hkb) (BLe.low id hρ (by omega) hf)).upd (by omega) (k0 := kc) (by simp only [swl, if_true]; exact hkc) (BLe.low id hρ (by omega) hfc)).upd (by omega) (k0 := kd) (by simp only [swl, Nat.succ_ne_self, if_true, if_false]; exact hkd) (BLe.low id hρ (by omega) hfd))
  simp only [List.mem_cons, List.not_mem_nil, or_false] at hp
  rcases hp with rfl | rfl
  · exact ⟨Nat.le_refl _, by omega⟩
  · exact ⟨by simp, by omega⟩
theorem Weak.m3 [Side] {K M b c d e : Nat} {τ τ' : Tm} {σ s : Sto} {kb kc kd ke : Blk} (hB : Bd K s) (hb : b < K) (ho : ∀ x kx, x ≠ b → s x = some kx → σ x = some kx) (hkb : σ b = some kb) (hf : lowB K kb) (hkc : σ c = some kc) (hfc : lowB K kc) (hc : c = K ∨ K + 3 ≤ c) (hkd : σ d = some kd) (hfd : lowB K kd) (hd : d = K + 1 ∨ K + 3 ≤ d)
    (hke : σ e = some ke) (hfe : lowB K ke) (he : e = K + 2 ∨ K + 3 ≤ e) (hcd : c ≠ d) (hce : c ≠ e) (hde : d ≠ e)
    (h : LeT (swl [(K, c), (K + 1, d), (K + 2, e)]) (K + 3) τ τ') : Weak K τ σ M τ' (upd (upd (upd (upd s b kb) K kc) (K + 1) kd) (K + 2) ke) (K + 3) := by
  rw [← upd_del s b kb]
  have hρ : ∀ x, x < K → swl [(K, c), (K + 1, d), (K + 2, e)] x = x := fun x hx => by simp only [swl]; rw [if_neg (by omega), if_neg (by omega), if_neg (by omega)]
  refine Weak.mk [(K, c), (K + 1, d), (K + 2, e)] (fun p hp => ?_) (by simp [hcd, hce, hde]) (by omega) h (((((LeS.baseM b hB (by omega) hρ ho).upd (by omega) (k0 := kb) (by rw [hρ b hb]; exact hkb) (BLe.low id hρ (by omega) hf)).upd (by omega) (k0 := kc) (by simp only [swl, if_true]; exact hkc) (BLe.low id hρ (by omega) hfc)).upd (by omega) (k0 := kd) (by simp only [swl, Nat.succ_ne_self, if_true, if_false]; exact hkd) (BLe.low id hρ (by omega) hfd)).upd (by omega) (k0 := ke) (by simp only [swl]; rw [if_neg (by omega), if_neg (by omega)]; simpa using hke) (BLe.low id hρ (by omega) hfe))
  simp only [List.mem_cons, List.not_mem_nil, or_false] at hp
  rcases hp with rfl | rfl | rfl
  · exact ⟨Nat.le_refl _, by omega⟩
  · exact ⟨by simp, by omega⟩
  · exact ⟨by simp, by omega⟩
theorem finM {K ν b : Nat} {R : AV → Sto → Prop} {r : AV} {σ' : Sto} {k : Blk} (hk : σ' b = some k) (hrw : k.rw = true) (hf : flatB k) (hR : R (ren (rho K (K + 1) ν) r) (upd noS b k)) (hn : ∀ n ∈ nms r, n < K) : ∃ c d r' δ, Fin K ν [b] R r σ' c d r' δ := fin0M k hk hrw hf.low hR hn
/-- The store is the same but for the marks. -/
def Vw (σ s : Sto) : Prop := ∀ b k, σ b = some k → ∃ r, s b = some { k with rw := r }
theorem Vw.refl (σ : Sto) : Vw σ σ := fun _ k h => ⟨k.rw, h⟩
theorem Vw.new {σ : Sto} {ν : Nat} {k : Blk} (h : σ ν = none) : Vw σ (upd σ ν k) := fun b k' hb => ⟨k'.rw, by
  have : b ≠ ν := fun e => by subst e; rw [h] at hb; cases hb
  rw [upd_ne _ _ _ _ this]; exact hb⟩
theorem View.vw {mods : List Nat} {σ s : Sto} (h : View mods σ s) : Vw σ s := fun b k hb => by
  rw [h b, hb]
  simp only [Option.map_some]
  split
  · exact ⟨k.rw, rfl⟩
  · exact ⟨false, rfl⟩
theorem Vw.over {σ s s' : Sto} (h : Vw σ s) (ho : Over s s') : Vw σ s' := fun b k hb => by
  obtain ⟨r, hr⟩ := h b k hb
  exact ⟨r, ho _ _ hr⟩
theorem Vw.trans {σ s s' : Sto} (h : Vw σ s) (h' : Vw s s') : Vw σ s' := fun b k hb => by
  obtain ⟨r, hr⟩ := h b k hb
  obtain ⟨r', hr'⟩ := h' b _ hr
  exact ⟨r', hr'⟩

/-- The slice holds these elements, each of s cells. -/
def Sl (σ : Sto) (x : AV) (s : Nat) (l : List (List AV)) : Prop :=
  ∃ b o cap z, x = .sl b o l.length cap z ∧ (z = s ∨ cap = some 0) ∧ (l = [] ∨ z = s ∧ ∃ k, σ b = some k ∧ k.sz = s ∧ o + l.length ≤ k.es.length ∧ (k.es.drop o).take l.length = l)
theorem Sl.vw {σ s : Sto} {x : AV} {z : Nat} {l : List (List AV)} (h : Sl σ x z l) (hv : Vw σ s) : Sl s x z l := by
  obtain ⟨b, o, cap, y, h1, h2, h3⟩ := h
  refine ⟨b, o, cap, y, h1, h2, h3.imp id fun ⟨h4, k, h5, h6, h7, h8⟩ => ?_⟩
  obtain ⟨r, hr⟩ := hv b k h5
  exact ⟨h4, _, hr, h6, h7, h8⟩
theorem Sl.nil (σ : Sto) (b o z s : Nat) : Sl σ (.sl b o 0 (some 0) z) s [] := ⟨b, o, some 0, z, rfl, .inr rfl, .inl rfl⟩
theorem Sl.mk {σ : Sto} {b o n s : Nat} {cap : Option Nat} {k : Blk} {l : List (List AV)} (hb : σ b = some k) (hs : k.sz = s) (hn : n = l.length) (h : (k.es.drop o).take l.length = l) : Sl σ (.sl b o n cap s) s l := by
  subst hn
  refine ⟨b, o, cap, s, rfl, .inl rfl, ?_⟩
  by_cases he : l = []
  · exact .inl he
  · refine .inr ⟨rfl, k, hb, hs, ?_, h⟩
    have hl := congrArg List.length h
    have : 0 < l.length := List.length_pos_iff.2 he
    simp at hl
    omega
theorem Sl.whole {σ : Sto} {b n s t : Nat} {cap : Option Nat} {r : Bool} {l : List (List AV)} (hb : σ b = some ⟨t, s, l, r⟩) (hn : n = l.length) : Sl σ (.sl b 0 n cap s) s l := Sl.mk hb rfl hn (by simp)

/-- What stands at a place of a slice. -/
theorem Sl.at {σ : Sto} {b o n z s : Nat} {cap : Option Nat} {l : List (List AV)} (h : Sl σ (.sl b o n cap z) s l) {i : Nat} (hi : i < l.length) :
    n = l.length ∧ z = s ∧ ∃ k, σ b = some k ∧ k.es[o + i]? = some l[i] := by
  obtain ⟨b', o', cap', z', h1, h2, h3⟩ := h
  cases h1
  rcases h3 with h3 | ⟨h4, k, h5, h6, h7, h8⟩
  · subst h3; simp at hi
  · refine ⟨rfl, h4, k, h5, ?_⟩
    have : ((k.es.drop o).take l.length)[i]? = l[i]? := by rw [h8]
    rw [List.getElem?_take, if_pos hi, List.getElem?_drop] at this
    rw [this]; exact List.getElem?_eq_getElem hi
theorem Sl.len {σ : Sto} {b o n z s : Nat} {cap : Option Nat} {l : List (List AV)} (h : Sl σ (.sl b o n cap z) s l) : n = l.length := by
  obtain ⟨b', o', cap', z', h1, _⟩ := h
  cases h1; rfl
theorem Sl.zs {σ : Sto} {b o n z s : Nat} {cap : Option Nat} {l : List (List AV)} (h : Sl σ (.sl b o n cap z) s l) : z = s ∨ cap = some 0 := by
  obtain ⟨b', o', cap', z', h1, h2, _⟩ := h
  cases h1; exact h2
theorem Sl.out {σ : Sto} {x : AV} {s : Nat} {l : List (List AV)} (h : Sl σ x s l) : ∃ b o cap z, x = .sl b o l.length cap z := by
  obtain ⟨b', o', cap', z', h1, _⟩ := h
  exact ⟨_, _, _, _, h1⟩
theorem Sl.take {σ : Sto} {b o n z s : Nat} {cap : Option Nat} {l : List (List AV)} (h : Sl σ (.sl b o n cap z) s l) {i : Nat} (hi : i ≤ l.length) (cap' : Option Nat) (hc : cap = some 0 → cap' = some 0) : Sl σ (.sl b o i cap' z) s (l.take i) := by
  obtain ⟨b', o', cap2, z', h1, h2, h3⟩ := h
  cases h1
  have hl : i = (l.take i).length := by simp; omega
  refine ⟨b, o, cap', z, by rw [← hl], h2.imp id hc, h3.imp (fun h => by simp [h]) fun ⟨h4, k, h5, h6, h7, h8⟩ => ⟨h4, k, h5, h6, by omega, ?_⟩⟩
  rw [← hl]
  have := congrArg (List.take i) h8
  rwa [List.take_take, Nat.min_eq_left hi] at this
theorem Sl.drop {σ : Sto} {b o n z s : Nat} {cap : Option Nat} {l : List (List AV)} (h : Sl σ (.sl b o n cap z) s l) {i m : Nat} (hi : i ≤ l.length) (hm : m = l.length - i) (cap' : Option Nat) (hc : cap = some 0 → cap' = some 0) : Sl σ (.sl b (o + i) m cap' z) s (l.drop i) := by
  obtain ⟨b', o', cap2, z', h1, h2, h3⟩ := h
  cases h1
  subst hm
  have hl : l.length - i = (l.drop i).length := by simp
  refine ⟨b, o + i, cap', z, by rw [← hl], h2.imp id hc, h3.imp (fun h => by simp [h]) fun ⟨h4, k, h5, h6, h7, h8⟩ => ⟨h4, k, h5, h6, by omega, ?_⟩⟩
  rw [← hl]
  have := congrArg (List.drop i) h8
  rwa [List.drop_take, List.drop_drop] at this
theorem Sl.elems {σ : Sto} {b o n z s : Nat} {cap : Option Nat} {l : List (List AV)} (h : Sl σ (.sl b o n cap z) s l) : Go.Proofs.Ytgaiemhbllbaiaa.elems s (.sl b o n cap z) σ = some l := by
  obtain ⟨b', o', cap2, z', h1, h2, h3⟩ := h
  cases h1
  unfold Go.Proofs.Ytgaiemhbllbaiaa.elems
  rcases h3 with h3 | ⟨h4, k, h5, h6, h7, h8⟩
  · subst h3
    simp
    split <;> rfl
  · simp [h5, h4, h6, h7, h8]

theorem Sl.on {σ σ' : Sto} {b o n z s : Nat} {cap : Option Nat} {l : List (List AV)} (h : Sl σ (.sl b o n cap z) s l) (he : σ' b = σ b) : Sl σ' (.sl b o n cap z) s l := by
  obtain ⟨b', o', cap', z', h1, h2, h3⟩ := h
  cases h1
  exact ⟨b, o, cap, z, rfl, h2, h3.imp id fun ⟨h4, k, h5, h6⟩ => ⟨h4, k, he ▸ h5, h6⟩⟩
theorem Vw.upd {s : Sto} {K b : Nat} {k : Blk} (hB : Bd K s) (hb : K ≤ b) : Vw s (upd s b k) := (Vw.refl s).over ((Over.refl s).upd hB hb)
/-- A slice without room is a new slice without elements. -/
theorem Weak.virt [Side] {K M : Nat} {τ : Tm} {σ : Sto} (i : Tmp) (t s b o z : Nat) (hi : get τ i = .sl b o 0 (some 0) z) (hs : 0 < s) : Weak K τ σ M ((i, .sl M 0 0 none s) :: τ) (upd σ M ⟨t, s, [], true⟩) (M + 1) := by
  intro B w0 X N E a w μ h
  have hM : μ M = none := h.fre M (Nat.le_refl _)
  have hsub := Sub.upd hM ⟨⟨0, 0, none⟩, 0, s⟩
  have hk := h.kM
  refine ⟨upd μ M ⟨⟨0, 0, none⟩, 0, s⟩, h.dfr, h.siz, h.rel.virt hM t s hs (free_of h.rel hM) ⟨0, 0, none⟩, fun b hb => ?_, fun b hb => ?_, fun j => ?_, by omega, h.sd⟩
  · rw [upd_ne _ _ _ _ (by omega)]; exact h.fre b (by omega)
  · rw [upd_ne _ _ _ _ (by omega)]; exact h.ext b hb
  · simp only [get]
    split
    · rename_i hj
      subst hj
      have := h.tm j
      rw [hi] at this
      simp only [VRel] at this ⊢
      obtain ⟨x, m, h1, h2, h3, _⟩ := this
      have hm := h3 0 rfl
      exact ⟨x, m, h1, h2, fun k hk => (by cases hk), .inr ⟨_, upd_eq _ _ _, rfl, fun h => absurd h (by omega)⟩⟩
    · exact VRel.mono hsub _ _ (h.tm j)
/-- Where a search ends. -/
def idx {α : Type} (p : α → Bool) (l : List α) : Int := match l.findIdx? p with
  | some i => i
  | none => -1
theorem idx_at {α : Type} {p : α → Bool} {l : List α} {i : Nat} (hi : i < l.length) (h : ∀ e ∈ l.take i, p e = false) (hp : p l[i] = true) : idx p l = i := by
  have : l.findIdx? p = some i := by
    rw [List.findIdx?_eq_some_iff_getElem]
    refine ⟨hi, hp, fun j hj => ?_⟩
    have := h l[j] (by rw [List.mem_take_iff_getElem]; exact ⟨j, by omega, rfl⟩)
    simp [this]
  simp [idx, this]
theorem idx_no {α : Type} {p : α → Bool} {l : List α} (h : ∀ e ∈ l, p e = false) : idx p l = -1 := by
  have : l.findIdx? p = none := by
    rw [List.findIdx?_eq_none_iff]
    exact fun e he => h e he
  simp [idx, this]
theorem take_snoc {α : Type} {p : α → Bool} {l : List α} {i : Nat} (hi : i < l.length) (h : ∀ e ∈ l.take i, p e = false) (hp : p l[i] = false) : ∀ e ∈ l.take (i + 1), p e = false := by
  rw [List.take_succ_eq_append_getElem hi]
  intro e he
  rcases List.mem_append.1 he with he | he
  · exact h e he
  · rw [List.mem_singleton.1 he]; exact hp

end Go.Proofs.Ytgaiemhbllbaiaa
namespace Go.Proofs.Ytgaiemhbllbaiaa
open Go Go.RowKit

/-- A block whose cells are told in other words. -/
theorem Rel.recast {B : Nat} {w0 : World} {X : Nat → Prop} {μ : Mu} {σ : Sto} {w : World} (h : Rel B w0 X μ σ w) {b : Nat} {k k' : Blk} (hb : σ b = some k) (h1 : k'.ty = k.ty) (h2 : k'.sz = k.sz) (h3 : k'.rw = k.rw) (h4 : k'.es.length = k.es.length)
    (h5 : ∀ e ∈ k'.es, e.length = k'.sz) (h6 : ∀ L, μ b = some L → ∀ i e, k'.es[i]? = some e → ∀ c v, e[c]? = some v → ∃ u, w.cell? (L.a.add (i * k'.sz + c)) = some u ∧ u.oneCell' = true ∧ VRel μ v u) : Rel B w0 X μ (upd σ b k') w := by
  have hocc : ∀ L, occ k' L → occ k L := fun L ho => by
    rcases ho with ho | ho
    · exact .inl fun e => ho (List.eq_nil_of_length_eq_zero (by rw [h4, e]; rfl))
    · exact .inr (by rw [← h3]; exact ho)
  refine ⟨h.keep, h.big, fun c kc hc => ?_, fun c c' kc kc' L L' hne hc hc' hL hL' hr hCC ho => ?_, h.fin⟩
  · by_cases e : c = b
    · subst e
      rw [upd_eq] at hc; cases hc
      obtain ⟨L, hL, hR⟩ := h.blk c k hb
      refine ⟨L, hL, by rw [h2]; exact hR.sz, by rw [h2]; exact hR.pos, h5, h6 L hL, fun hrw => ?_⟩
      rcases hR.own (by rw [← h3]; exact hrw) with ⟨he, hC⟩ | ⟨g, cs, ha, hB, hg, hsz, hle, hC⟩
      · exact .inl ⟨List.eq_nil_of_length_eq_zero (by rw [h4, he]; rfl), hC⟩
      · exact .inr ⟨g, cs, ha, hB, by rw [h1]; exact hg, by rw [h2]; exact hsz, by rw [h4]; exact hle, hC⟩
    · rw [upd_ne _ _ _ _ e] at hc
      exact h.blk c kc hc
  · have key : ∀ d kd, upd σ b k' d = some kd → ∃ k0, σ d = some k0 ∧ (kd.rw = true → k0.rw = true) ∧ ∀ L, occ kd L → occ k0 L := fun d kd hd => by
      by_cases e : d = b
      · subst e
        rw [upd_eq] at hd; cases hd
        exact ⟨k, hb, by rw [h3]; exact id, hocc⟩
      · rw [upd_ne _ _ _ _ e] at hd
        exact ⟨kd, hd, id, fun _ => id⟩
    obtain ⟨k1, hk1, hr1, _⟩ := key c kc hc
    obtain ⟨k2, hk2, _, ho2⟩ := key c' kc' hc'
    exact h.sep c c' k1 k2 L L' hne hk1 hk2 hL hL' (hr1 hr) hCC (ho2 L' ho)

theorem Weak.virtE [Side] {K M : Nat} {τ : Tm} {σ : Sto} {b : Nat} (t te s b0 o0 z : Nat) (r : Bool) (hb : σ b = some ⟨t, 1, [[.sl b0 o0 0 (some 0) z]], r⟩) (hs : 0 < s) :
    Weak K τ σ M τ (upd (upd σ M ⟨te, s, [], true⟩) b ⟨t, 1, [[.sl M 0 0 none s]], r⟩) (M + 1) := by
  intro B w0 X N E a w μ h
  have hM : μ M = none := h.fre M (Nat.le_refl _)
  have hsM := free_of h.rel hM
  have hsub := Sub.upd hM ⟨⟨0, 0, none⟩, 0, s⟩
  have hk := h.kM
  have hbM : b ≠ M := fun e => by subst e; rw [hsM] at hb; cases hb
  have h1 := h.rel.virt hM te s hs hsM ⟨0, 0, none⟩
  refine ⟨upd μ M ⟨⟨0, 0, none⟩, 0, s⟩, h.dfr, h.siz, h1.recast (b := b) (k := ⟨t, 1, [[.sl b0 o0 0 (some 0) z]], r⟩) (by rw [upd_ne _ _ _ _ hbM]; exact hb) rfl rfl rfl rfl (by simp) ?_, fun c hc => ?_, fun c hc => ?_, fun j => VRel.mono hsub _ _ (h.tm j), by omega, h.sd⟩
  · intro L hL i e he c v hv
    rw [upd_ne _ _ _ _ hbM] at hL
    obtain ⟨L', hL', hR⟩ := h.rel.blk b _ hb
    have : L = L' := by rw [hL] at hL'; exact Option.some.inj hL'
    subst this
    match i, he with
    | 0, he =>
      cases he
      match c, hv with
      | 0, hv =>
        cases hv
        obtain ⟨u, hu, h1c, hv⟩ := hR.rd 0 _ rfl 0 _ rfl
        refine ⟨u, hu, h1c, ?_⟩
        simp only [VRel] at hv ⊢
        obtain ⟨x, m, q1, q2, q3, _⟩ := hv
        have hm := q3 0 rfl
        exact ⟨x, m, q1, q2, fun k hk => (by cases hk), .inr ⟨_, upd_eq _ _ _, rfl, fun h => absurd h (by omega)⟩⟩
      | n + 1, hv => simp at hv
    | n + 1, he => simp at he
  · rw [upd_ne _ _ _ _ (by omega)]; exact h.fre c (by omega)
  · rw [upd_ne _ _ _ _ (by omega)]; exact h.ext c hc
end Go.Proofs.Ytgaiemhbllbaiaa
namespace Go.Proofs.Ytgaiemhbllbaiaa
open Go
theorem rev_ind {α : Type} {P : List α → Prop} (nil : P []) (snoc : ∀ l a, P l → P (l ++ [a])) (l : List α) : P l := by
  have h : ∀ m : List α, P m.reverse := fun m => by
    induction m with
    | nil => exact nil
    | cons a m ih => rw [List.reverse_cons]; exact snoc _ _ ih
  have := h l.reverse
  rwa [List.reverse_reverse] at this
theorem tk_all {α : Type} {p : α → Prop} {l : List α} {i : Nat} (hi : i < l.length) (h : ∀ e ∈ l.take i, p e) (hp : p l[i]) : ∀ e ∈ l.take (i + 1), p e := by
  intro e he
  rw [List.take_succ_eq_append_getElem hi] at he
  rcases List.mem_append.1 he with he | he
  · exact h e he
  · rw [List.mem_singleton.1 he]; exact hp
theorem all_no' {α : Type} {p : α → Bool} {l : List α} {i : Nat} (h : i < l.length) (hp : p l[i] = false) : ¬ l.all p = true := by
  rw [List.all_eq_true]
  intro hh
  rw [hh _ (List.getElem_mem h)] at hp
  cases hp
theorem ofI (a : Nat) (ha : a < 18446744073709551616) : (BitVec.ofInt 64 (a : Int)).toNat = a := by
  rw [BitVec.ofInt_natCast, BitVec.toNat_ofNat]; exact Nat.mod_eq_of_lt (by omega)
theorem wrap_sm (n : Int) (h1 : -9223372036854775808 ≤ n) (h2 : n ≤ 9223372036854775807) : IntKind.wrap .i64 n = n := by
  rw [IntKind.wrap_i64]; omega
theorem i_and (a b : Nat) (ha : a < 9223372036854775808) (hb : b < 9223372036854775808) : bits .and .i64 (a : Int) (b : Int) = ((a &&& b : Nat) : Int) := by
  have h := Nat.and_le_left (n := a) (m := b)
  show IntKind.i64.wrap ((BitVec.ofInt 64 (a : Int) &&& BitVec.ofInt 64 (b : Int)).toNat : Int) = _
  rw [BitVec.toNat_and, ofI a (by omega), ofI b (by omega)]
  exact wrap_sm _ (by omega) (by omega)
theorem i_or (a b : Nat) (ha : a < 9223372036854775808) (hb : b < 9223372036854775808) : bits .or .i64 (a : Int) (b : Int) = ((a ||| b : Nat) : Int) := by
  have h : a ||| b < 2 ^ 63 := Nat.or_lt_two_pow ha hb
  show IntKind.i64.wrap ((BitVec.ofInt 64 (a : Int) ||| BitVec.ofInt 64 (b : Int)).toNat : Int) = _
  rw [BitVec.toNat_or, ofI a (by omega), ofI b (by omega)]
  exact wrap_sm _ (by omega) (by omega)
theorem add_xor : ∀ (x y : Nat), x + y = (x ^^^ y) + 2 * (x &&& y) := by
  intro x
  induction x using Nat.strongRecOn with
  | _ x ih =>
    intro y
    rcases Nat.eq_zero_or_pos x with rfl | hx
    · simp
    · have h := ih (x / 2) (by omega) (y / 2)
      have a1 := Nat.xor_div_two (a := x) (b := y)
      have a2 := Nat.and_div_two (a := x) (b := y)
      have b1 : (x ^^^ y) % 2 = 1 ↔ ¬ (x % 2 = 1 ↔ y % 2 = 1) := Nat.xor_mod_two_eq_one
      have b2 : (x &&& y) % 2 = 1 ↔ x % 2 = 1 ∧ y % 2 = 1 := Nat.and_mod_two_eq_one
      omega
/-- The bits of a that b does not have. -/
theorem and_not_nat {n : Nat} (a b : Nat) (ha : a < 2 ^ n) (hb : b < 2 ^ n) : a &&& (2 ^ n - 1 - b) = a - (a &&& b) := by
  have hk : (a &&& (2 ^ n - 1 - b)) + (a &&& b) = a := by
    have e : (a &&& (2 ^ n - 1 - b)) ^^^ (a &&& b) = a := by
      apply Nat.eq_of_testBit_eq
      intro i
      simp only [Nat.testBit_xor, Nat.testBit_and]
      rw [show 2 ^ n - 1 - b = 2 ^ n - (b + 1) by omega, Nat.testBit_two_pow_sub_succ hb]
      by_cases hi : i < n
      · simp only [hi, decide_true, Bool.true_and]
        cases a.testBit i <;> cases b.testBit i <;> rfl
      · have : a.testBit i = false := Nat.testBit_lt_two_pow (Nat.lt_of_lt_of_le ha (Nat.pow_le_pow_right (by omega) (by omega)))
        simp [this]
    have e2 : (a &&& (2 ^ n - 1 - b)) &&& (a &&& b) = 0 := by
      apply Nat.eq_of_testBit_eq
      intro i
      simp only [Nat.testBit_and, Nat.zero_testBit]
      rw [show 2 ^ n - 1 - b = 2 ^ n - (b + 1) by omega, Nat.testBit_two_pow_sub_succ hb]
      cases a.testBit i <;> cases b.testBit i <;> simp
    rw [add_xor, e2, e]
    omega
  omega
theorem i_andNot (a b : Nat) (ha : a < 9223372036854775808) (hb : b < 9223372036854775808) : bits .andNot .i64 (a : Int) (b : Int) = ((a - (a &&& b) : Nat) : Int) := by
  have h := Nat.and_le_left (n := a) (m := b)
  show IntKind.i64.wrap ((BitVec.ofInt 64 (a : Int) &&& ~~~BitVec.ofInt 64 (b : Int)).toNat : Int) = _
  rw [BitVec.toNat_and, BitVec.toNat_not, ofI a (by omega), ofI b (by omega)]
  rw [and_not_nat (n := 64) a b (by omega) (by omega)]
  exact wrap_sm _ (by omega) (by omega)
/-- A negative number keeps its sign without small bits. -/
theorem i_andNot_neg (x : Int) (b : Nat) (h1 : x < 0) (h2 : -9223372036854775808 ≤ x) (hb : b < 9223372036854775808) : bits .andNot .i64 x (b : Int) ≠ 0 := by
  have e : (BitVec.ofInt 64 x).toNat = (x + 18446744073709551616).toNat := by simp [BitVec.toNat_ofInt]; omega
  show ¬ IntKind.i64.wrap ((BitVec.ofInt 64 x &&& ~~~BitVec.ofInt 64 (b : Int)).toNat : Int) = 0
  rw [BitVec.toNat_and, BitVec.toNat_not, e, ofI b (by omega)]
  have hx : (x + 18446744073709551616).toNat < 2 ^ 64 := by omega
  rw [and_not_nat (n := 64) _ b hx (by omega)]
  have h := Nat.and_le_right (n := (x + 18446744073709551616).toNat) (m := b)
  rw [IntKind.wrap_i64]
  omega
end Go.Proofs.Ytgaiemhbllbaiaa
namespace Go.Proofs.Ytgaiemhbllbaiaa
open Go Go.RowKit Go.ChangeShapes Go.WideShapes Go.Deep

/-- A world that has not been touched yet, and read-only blocks in it. -/
structure Opn (W : World) (μ : Mu) (σ : Sto) (M : Nat) : Prop where
  rel : Rel W.heap.size W (fun _ => False) μ σ W
  fre : ∀ b, M ≤ b → μ b = none
  ro : ∀ b k, σ b = some k → k.rw = false
theorem Opn.start (W : World) : Opn W (fun _ => none) noS 0 :=
  ⟨⟨Keep.refl _ _ _, Nat.le_refl _, fun b k h => by simp [noS] at h, fun b b' k k' L L' _ h => by simp [noS] at h, ⟨0, fun _ _ => rfl⟩⟩, fun _ _ => rfl, fun b k h => by simp [noS] at h⟩
theorem Opn.more {W : World} {μ : Mu} {σ : Sto} {M : Nat} (h : Opn W μ σ M) : Opn W μ σ (M + 1) := ⟨h.rel, fun b hb => h.fre b (by omega), h.ro⟩
theorem Opn.add {W : World} {μ : Mu} {σ : Sto} {M : Nat} (h : Opn W μ σ M) {k : Blk} {L : Loc} (hk : k.rw = false) (hB : BRel W.heap.size (fun _ => False) μ W L k) : Opn W (upd μ M L) (upd σ M k) (M + 1) := by
  have h0 := h.fre M (Nat.le_refl _)
  have hs := Sub.upd h0 L
  have hro : ∀ b k', upd σ M k b = some k' → k'.rw = false := fun b k' hb => by
    by_cases e : b = M
    · subst e; rw [upd_eq] at hb; cases hb; exact hk
    · rw [upd_ne _ _ _ _ e] at hb; exact h.ro b k' hb
  refine ⟨⟨h.rel.keep, h.rel.big, fun b k' hb => ?_, fun b b' k1 k2 L1 L2 hne hb hb' hL hL' hr => ?_, ⟨M + 1, fun b hb => ?_⟩⟩, fun b hb => ?_, hro⟩
  · by_cases e : b = M
    · subst e; rw [upd_eq] at hb; cases hb
      exact ⟨L, upd_eq _ _ _, hB.keep hs fun _ => rfl⟩
    · rw [upd_ne _ _ _ _ e] at hb
      obtain ⟨L', hL', hB'⟩ := h.rel.blk b k' hb
      exact ⟨L', hs b L' hL', hB'.keep hs fun _ => rfl⟩
  · rw [hro b k1 hb] at hr; cases hr
  · rw [upd_ne _ _ _ _ (by omega)]; exact h.fre b (by omega)
  · rw [upd_ne _ _ _ _ (by omega)]; exact h.fre b (by omega)

/-- A cell of a plain type. -/
def okV (P : Program) (t : TypeId) (v : Value) : Prop :=
  (P.underlying t = some .bool ∧ ∃ b, v = .bool b) ∨ (∃ k, P.underlying t = some (.int k) ∧ ∃ n, v = .int k n ∧ (Lit.int k n).wf = true) ∨ (P.underlying t = some .string ∧ ∃ s : ByteArray, v = .string s ∧ s.size ≤ 9223372036854775807)
theorem okV_one {P : Program} {t : TypeId} {v : Value} (h : okV P t v) : v.oneCell' = true := by
  rcases h with ⟨_, b, rfl⟩ | ⟨k, _, n, rfl, _⟩ | ⟨_, s, rfl, _⟩ <;> rfl
theorem okV_int {P : Program} {t : TypeId} {v : Value} (ht : P.underlying t = some (.int .i64)) (h : okV P t v) : ∃ n, v = .int .i64 n ∧ -9223372036854775808 ≤ n ∧ n ≤ 9223372036854775807 := by
  rcases h with ⟨h, _⟩ | ⟨k, h, n, rfl, hw⟩ | ⟨h, _⟩ <;> rw [ht] at h
  · cases h
  · cases h
    simp [Lit.wf, IntKind.min, IntKind.max, IntKind.signed, IntKind.bits] at hw
    exact ⟨n, rfl, hw.1, hw.2⟩
  · cases h
theorem okV_u8 {P : Program} {t : TypeId} {v : Value} (ht : P.underlying t = some (.int .u8)) (h : okV P t v) : ∃ n, v = .int .u8 n ∧ 0 ≤ n ∧ n ≤ 255 := by
  rcases h with ⟨h, _⟩ | ⟨k, h, n, rfl, hw⟩ | ⟨h, _⟩ <;> rw [ht] at h
  · cases h
  · cases h
    simp [Lit.wf, IntKind.min, IntKind.max, IntKind.signed, IntKind.bits] at hw
    exact ⟨n, rfl, hw.1, hw.2⟩
  · cases h
theorem okV_str {P : Program} {t : TypeId} {v : Value} (ht : P.underlying t = some .string) (h : okV P t v) : ∃ s : ByteArray, v = .string s ∧ s.size ≤ 9223372036854775807 := by
  rcases h with ⟨h, _⟩ | ⟨k, h, _⟩ | ⟨h, s, h2⟩
  · rw [ht] at h; cases h
  · rw [ht] at h; cases h
  · exact ⟨s, h2⟩
theorem okV_bool {P : Program} {t : TypeId} {v : Value} (ht : P.underlying t = some .bool) (h : okV P t v) : ∃ b, v = .bool b := by
  rcases h with ⟨h, h2⟩ | ⟨k, h, _⟩ | ⟨h, _⟩
  · exact h2
  · rw [ht] at h; cases h
  · rw [ht] at h; cases h

/-- A row of plain cells. -/
def rowV (P : Program) : List TypeId → List Value → Prop
  | [], [] => True
  | t :: ts, v :: vs => okV P t v ∧ rowV P ts vs
  | _, _ => False
theorem rowV_len {P : Program} : ∀ {ts : List TypeId} {vs : List Value}, rowV P ts vs → vs.length = ts.length
  | [], [], _ => rfl
  | t :: ts, v :: vs, h => by simp only [rowV] at h; simp [rowV_len h.2]
  | [], _ :: _, h => by simp [rowV] at h
  | _ :: _, [], h => by simp [rowV] at h
theorem rowV_one {P : Program} : ∀ {ts : List TypeId} {vs : List Value}, rowV P ts vs → ∀ v ∈ vs, v.oneCell' = true
  | [], [], _, v, hv => by cases hv
  | t :: ts, u :: vs, h, v, hv => by
    simp only [rowV] at h
    rcases List.mem_cons.1 hv with rfl | hv
    · exact okV_one h.1
    · exact rowV_one h.2 v hv
  | [], _ :: _, h, _, _ => by simp [rowV] at h
  | _ :: _, [], h, _, _ => by simp [rowV] at h
theorem rowV_mk {P : Program} : ∀ {ts : List TypeId} {vs : List Value}, vs.length = ts.length → (∀ (j : Nat) (t : TypeId) (v : Value), ts[j]? = some t → vs[j]? = some v → okV P t v) → rowV P ts vs
  | [], [], _, _ => trivial
  | t :: ts, v :: vs, hl, h => ⟨h 0 t v rfl rfl, rowV_mk (by simpa using hl) fun j t v h1 h2 => h (j + 1) t v (by simpa using h1) (by simpa using h2)⟩
  | [], _ :: _, hl, _ => by simp at hl
  | _ :: _, [], hl, _ => by simp at hl
theorem listOf {Q : Nat → List Value → Prop} : ∀ n : Nat, (∀ i, i < n → ∃ c, Q i c) → ∃ l : List (List Value), l.length = n ∧ ∀ i c, l[i]? = some c → Q i c
  | 0, _ => ⟨[], rfl, fun i c h => by simp at h⟩
  | n + 1, h => by
    obtain ⟨l, h1, h2⟩ := listOf n fun i hi => h i (by omega)
    obtain ⟨c, hc⟩ := h n (by omega)
    refine ⟨l ++ [c], by simp [h1], fun i d hd => ?_⟩
    rcases Nat.lt_or_ge i n with hi | hi
    · rw [List.getElem?_append_left (by omega)] at hd; exact h2 i d hd
    · rw [List.getElem?_append_right (by omega)] at hd
      have : i = n := by
        rcases Nat.eq_zero_or_pos (i - l.length) with h0 | h0
        · omega
        · rw [List.getElem?_eq_none (by simp; omega)] at hd; cases hd
      subst this
      simp [h1] at hd
      exact hd ▸ hc

section
variable {H : Type} {enc : TypeId × Value → H} {P : Program} {W : World} {base : Nat} {spare : Nat → Bool} {held : Bool}

/-- What a type's cells read as. -/
def elemOk (P : Program) (e : TypeId) (ts : List TypeId) : Prop :=
  (∃ fs : Array Field, P.underlying e = some (.struct fs) ∧ ts = fs.toList.map (·.type) ∧ ∀ (j : Nat) (f : Field), fs[j]? = some f → f.offset = j ∧ P.cellsOf f.type = 1 ∧ ((P.underlying f.type = some .bool ∨ ∃ k, P.underlying f.type = some (.int k)) ∨ P.underlying f.type = some .string)) ∨
  (ts = [e] ∧ ((P.underlying e = some .bool ∨ ∃ k, P.underlying e = some (.int k)) ∨ P.underlying e = some .string))
theorem cell_okV {t : TypeId} {n : Nat} {cs : List Value} {x : DataW H × List MemPlace} (ht : (P.underlying t = some .bool ∨ ∃ k, P.underlying t = some (.int k)) ∨ P.underlying t = some .string) (h : DataW.trod enc P W base spare held n t cs = some x) : ∃ v, cs = [v] ∧ okV P t v := by
  rcases ht with (ht | ⟨k, ht⟩) | ht
  · obtain ⟨b, rfl, _⟩ := DataW.trod_bool ht h
    exact ⟨_, rfl, .inl ⟨ht, b, rfl⟩⟩
  · obtain ⟨m, rfl, _, hw⟩ := DataW.trod_int ht h
    exact ⟨_, rfl, .inr (.inl ⟨k, ht, m, rfl, hw⟩)⟩
  · obtain ⟨s, rfl, _, hs⟩ := DataW.trod_string ht h
    exact ⟨_, rfl, .inr (.inr ⟨ht, s, rfl, by unfold maxLen at hs; omega⟩)⟩
theorem row_of {e : TypeId} {ts : List TypeId} (he : elemOk P e ts) (hC : P.cellsOf e = ts.length) {n : Nat} {cs : List Value} {x : DataW H × List MemPlace} (h : DataW.trod enc P W base spare held n e cs = some x) : rowV P ts cs := by
  rcases he with ⟨fs, hu, rfl, hf⟩ | ⟨rfl, ht⟩
  · obtain ⟨xs, m, _, _, hl, hxl, hg⟩ := DataW.trod_struct hu h
    refine rowV_mk (by rw [hl, hC]) fun j t v hj hv => ?_
    simp only [List.getElem?_map, Option.map_eq_some_iff] at hj
    obtain ⟨f, hj, rfl⟩ := hj
    have hj' : fs[j]? = some f := by simpa using hj
    obtain ⟨ho, hc1, ht⟩ := hf j f hj'
    have hjl : j < fs.size := (Array.getElem?_eq_some_iff.1 hj').1
    have := hg j f hj'
    rw [List.getElem?_eq_getElem (by omega)] at this
    obtain ⟨u, hu2, hok⟩ := cell_okV ht this
    rw [ho, hc1] at hu2
    obtain ⟨hlt, hve⟩ := List.getElem?_eq_some_iff.1 hv
    rw [List.drop_eq_getElem_cons hlt, hve] at hu2
    simp at hu2
    exact hu2 ▸ hok
  · obtain ⟨v, rfl, hok⟩ := cell_okV ht h
    exact ⟨hok, trivial⟩

/-- What a slice of rows is. -/
def RowsV (P : Program) (W : World) (ts : List TypeId) (v : Value) : Prop :=
  ∃ (a : Option Addr) (m : Nat) (rs : List (List Value)), v = .slice a rs.length m ∧ rs.length ≤ m ∧ m ≤ 9223372036854775807 ∧ (a = none → m = 0) ∧ (∀ r ∈ rs, rowV P ts r) ∧
    ∀ a0, a = some a0 → ∀ i r, rs[i]? = some r → ∀ j u, r[j]? = some u → W.cell? (a0.add (i * ts.length + j)) = some u
theorem rows_of {t e : TypeId} {ts : List TypeId} {n : Nat} {v : Value} {x : DataW H × List MemPlace} (ht : P.underlying t = some (.slice e)) (he : elemOk P e ts) (hC : P.cellsOf e = ts.length) (h : DataW.trod enc P W base spare held n t [v] = some x) : RowsV P W ts v := by
  rcases open_slice ht h with ⟨hcs, _⟩ | ⟨a, len, cap, m, n', D, Pl, hcs, _, hl, hm, hmm, _, hi⟩
  · simp at hcs
    exact ⟨none, 0, [], by simpa using hcs, Nat.le_refl _, by omega, fun _ => rfl, by simp, (by intro a0 h; cases h)⟩
  · simp at hcs
    obtain ⟨l, hll, hlq⟩ := listOf (Q := fun i c => rowV P ts c ∧ ∀ j u, c[j]? = some u → W.cell? (a.add (i * ts.length + j)) = some u) len fun i hil => by
      have him : i < m := by rw [hmm]; split <;> omega
      obtain ⟨cs', hc, ht'⟩ := hi i him
      obtain ⟨_, hcl, hat⟩ := World.cells?_some hc
      refine ⟨cs', row_of he hC ht', fun j u hu => ?_⟩
      have hjl : j < P.cellsOf e := by rw [← hcl]; exact (List.getElem?_eq_some_iff.1 hu).1
      have := hat j hjl
      rw [hu, add_add] at this
      rw [← hC]
      exact this
    subst hll
    refine ⟨some a, cap, l, hcs, hl, by unfold maxLen at hm; omega, (by intro h; cases h), fun r hr => ?_, fun a0 h0 i r hr => ?_⟩
    · obtain ⟨i, hi, rfl⟩ := List.mem_iff_getElem.1 hr
      exact (hlq i _ (List.getElem?_eq_getElem hi)).1
    · cases h0
      exact (hlq i r hr).2
end

theorem Opn.rows {P : Program} {W : World} {μ : Mu} {σ : Sto} {M : Nat} {ts : List TypeId} {v : Value} (h : Opn W μ σ M) (hp : 0 < ts.length) (hv : RowsV P W ts v) :
    ∃ (μ' : Mu) (σ' : Sto) (x : AV) (rs : List (List Value)), Opn W μ' σ' (M + 1) ∧ Sub μ μ' ∧ Vw σ σ' ∧ VRel μ' x v ∧ Sl σ' x ts.length (rs.map (List.map AV.v)) ∧ rs.length ≤ 9223372036854775807 ∧ ∀ r ∈ rs, rowV P ts r := by
  obtain ⟨a, m, rs, rfl, hl, hm, h0, hr, hc⟩ := hv
  cases a with
  | none =>
    have hm0 := h0 rfl
    subst hm0
    have hrs : rs = [] := List.eq_nil_of_length_eq_zero (by omega)
    subst hrs
    refine ⟨μ, σ, .sl 0 0 0 (some 0) 0, [], h.more, Sub.refl _, Vw.refl _, ?_, Sl.nil _ _ _ _ _, by simp, by simp⟩
    simp only [VRel]
    exact ⟨none, 0, rfl, Nat.le_refl _, fun k hk => (by cases hk; rfl), .inl (by simp)⟩
  | some a =>
    have hM := h.fre M (Nat.le_refl _)
    have hB : BRel W.heap.size (fun _ => False) μ W ⟨a, m, ts.length⟩ ⟨0, ts.length, rs.map (List.map AV.v), false⟩ := by
      refine ⟨rfl, hp, fun e he => ?_, fun i e he c u hu => ?_, (by intro h; cases h)⟩
      · obtain ⟨r, hrm, rfl⟩ := List.mem_map.1 he
        simp [rowV_len (hr r hrm)]
      · simp only [List.getElem?_map, Option.map_eq_some_iff] at he
        obtain ⟨r, hri, rfl⟩ := he
        simp only [List.getElem?_map, Option.map_eq_some_iff] at hu
        obtain ⟨w, hw, rfl⟩ := hu
        exact ⟨w, hc a rfl i r hri c w hw, rowV_one (hr r (List.mem_of_getElem? hri)) w (List.mem_of_getElem? hw), by simp [VRel]⟩
    have hσM : σ M = none := free_of h.rel hM
    refine ⟨upd μ M ⟨a, m, ts.length⟩, upd σ M ⟨0, ts.length, rs.map (List.map AV.v), false⟩, .sl M 0 rs.length none ts.length, rs, h.add rfl hB, Sub.upd hM _, fun b k hb => ?_, ?_, ?_, by omega, hr⟩
    · have : b ≠ M := fun e => by subst e; rw [hσM] at hb; cases hb
      exact ⟨k.rw, by rw [upd_ne _ _ _ _ this]; simpa using hb⟩
    · simp only [VRel]
      exact ⟨some a, m, rfl, hl, fun k hk => (by cases hk), .inr ⟨_, upd_eq _ _ _, rfl, fun _ => ⟨by simp [Addr.add], by simp⟩⟩⟩
    · exact Sl.whole (upd_eq _ _ _) (by simp)

/-- The call, out of the contract. -/
theorem Opn.callsS [Side] {P : Program} {W : World} {μ : Mu} {σ : Sto} {M : Nat} (h : Opn W μ σ M) (hsd : Side.ok W.heap.size W (fun _ => False)) {f : FuncId} {args : List AV} {vs : List Value} (hc : AC P f args σ M fun r δ => r = .v (.bool true) ∧ δ = noS) (hv : VRels μ args vs) :
    Calls P f vs.toArray W fun e W' => e = .returned (.bool true) ∧ Below W.heap.size W W' := by
  refine (hc.2 W.heap.size W (fun _ => False) μ W vs hsd h.rel (h.fre M (Nat.le_refl _)) (h.fre (M + 1) (by omega)) hv).mono fun e W' => ?_
  rintro ⟨r, δ, μ', v', rfl, ⟨rfl, rfl⟩, hr, hR, _⟩
  simp only [VRel] at hr
  exact ⟨by rw [hr], hR.keep.below⟩
theorem Opn.calls {P : Program} {W : World} {μ : Mu} {σ : Sto} {M : Nat} (h : Opn W μ σ M) {f : FuncId} {args : List AV} {vs : List Value} (hc : AC P f args σ M fun r δ => r = .v (.bool true) ∧ δ = noS) (hv : VRels μ args vs) :
    Calls P f vs.toArray W fun e W' => e = .returned (.bool true) ∧ Below W.heap.size W W' := h.callsS trivial hc hv

section
variable {H : Type} {enc : TypeId × Value → H} {P : Program}

/-- The arguments read as before. -/
theorem trodAll_below (hl : laidOutB P = true) {W W' : World} (hb : Below W.heap.size W W') {sp : Nat → Bool} : ∀ {ts : List TypeId} {vs : List Value} {ds : List (DataW H)} {ps : List MemPlace}, (∀ t ∈ ts, P.readableRec t = true ∧ t < P.types.size) →
    DataW.TrodAll enc P W 0 (fun _ => true) true ts vs ds ps → (∀ x ∈ ps, x.block < W.heap.size ∧ sp x.block = true) → DataW.TrodAll enc P W' 0 sp true ts vs ds ps
  | [], vs, ds, ps, _, h, _ => by
    obtain ⟨rfl, rfl, rfl⟩ := trodAll_nil h
    exact trodAll_mk0
  | t :: ts, vs, ds, ps, hr, h, hp => by
    obtain ⟨v, vs', d, ds', p, q, rfl, rfl, rfl, h1, h2⟩ := trodAll_cons h
    have h3 := WideElems.Trod_stays (sp' := sp) hl (hr t (by simp)).1 (hr t (by simp)).2 h1 (fun x hx => hb.same (hp x (by simp [hx])).1) (fun x hx => (hp x (by simp [hx])).2)
    have h4 := trodAll_below hl hb (sp := sp) (fun t' ht' => hr t' (by simp [ht'])) h2 (fun x hx => hp x (by simp [hx]))
    exact ⟨p, q, h3, h4, rfl⟩

/-- The row's last step, for a law: it answers true, and what was there is as it was. -/
theorem law_post {f : Func} {s : ChangeSpec} {apart fresh handsOn again : Bool} {tb : TypeId} (hl : laidOutB P = true) (hr : ∀ t ∈ f.params.toList, P.readableRec t = true ∧ t < P.types.size) (hrt : f.resultTypes = #[tb]) (htb : P.underlying tb = some .bool)
    (hv : s.vars = []) {W W' : World} {args : Array Value} {ds gs : List (DataW H)} {before : List MemPlace} (hs : s.fn H ds = { results := [.lit (.bool true)], args := ds })
    (hW : DataW.Whole enc P f.params.toList s.vars apart W args.toList ds gs before) (hb : Below W.heap.size W W') :
    s.post enc P f apart fresh handsOn again W args (.bool true) W' := by
  have hW0 := hW
  have hlt : ∀ p ∈ before, p.block < W.heap.size := fun p hp => hW.lt p hp
  obtain ⟨p, q, hA, hV, hpq, hz, hn⟩ := hW
  rw [hv] at hV
  obtain ⟨rfl, rfl⟩ := trodVars_none hV
  simp only [List.append_nil] at hpq
  subst hpq
  have hres : ∀ (b : Nat) (sp : Nat → Bool) (hd : Bool), DataW.TrodAll enc P W' b sp hd f.resultTypes.toList ((Value.bool true).resultList f.resultTypes.size) (s.fn H (ds ++ [])).results [] := fun b sp hd => by
    rw [List.append_nil, hs, hrt]
    exact trodAll_mk1 ⟨1, by simp [DataW.trod, Value.cells, htb]⟩
  have hargs : ∀ sp : Nat → Bool, (∀ x ∈ before, sp x.block = true) → DataW.TrodAll enc P W' 0 sp true f.params.toList args.toList (s.fn H (ds ++ [])).args before := fun sp hsp => by
    rw [List.append_nil, hs]
    exact trodAll_below hl hb hr hA fun x hx => ⟨hlt x hx, hsp x hx⟩
  have hvars : ∀ sp : Nat → Bool, (∀ x ∈ before, sp x.block = true) → DataW.TrodVars enc P W' sp s.vars (s.fn H (ds ++ [])).vars [] := fun sp hsp => by
    rw [List.append_nil, hs, hv]
    simp [DataW.TrodVars]
  have hold : ∀ x ∈ before, (fun b => decide (b < W.heap.size)) x.block = true := fun x hx => by simpa using hlt x hx
  refine ⟨ds, [], before, [], before, [], hW0, hres _ _ _, hargs _ hold, hvars _ hold, World.keptBut_mono (fun x hx => ⟨hx, .inr (by simpa using hx)⟩) (hb.frame (· ∈ before)), fun _ => ?_⟩
  refine ⟨?_, _, _, ([] ++ before) ++ [], ⟨[] ++ before, [], trodAll_append (hargs _ (fun _ _ => rfl)) (hres _ _ _), hvars _ (fun _ _ => rfl), rfl, ?_, ?_⟩, ?_⟩
  · intro j t r hj hr'
    rw [hrt] at hj hr'
    match j, hj, hr' with
    | 0, hj, hr' =>
      simp [Value.resultList] at hj hr'
      subst hj; subst hr'
      simp [Value.okWide, htb, Cell.okWide, Cell.ok]
  · intro b off hp
    have hin : MemPlace.cell b off ∈ before := by simpa using hp
    rw [hb.frozen (hlt _ hin)]
    exact hz b off hin
  · intro ha
    simpa using hn ha
  · intro p hp _
    simpa using hp
end
end Go.Proofs.Ytgaiemhbllbaiaa
