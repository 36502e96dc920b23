/- An abstract store for walks, part 11: from a body's walk to the function's contract; what may be forgotten. No condition: nothing of a program stands here. -/
import Derived.Test.YthjjfdbkggiaeaaAb10
set_option linter.unusedSimpArgs false
set_option linter.unusedVariables false
namespace Go.Proofs.Ythjjfdbkggiaeaa
open Go Go.RowKit

mutual
theorem VRel.on {μ μ' : Mu} : ∀ (x : AV) (c : Value), (∀ b ∈ nms x, ∀ L, μ b = some L → μ' b = some L) → VRel μ x c → VRel μ' x c
  | .any, _, _, _ => by simp [VRel]
  | .bl, c, _, hr => by simpa [VRel] using hr
  | .v x, c, _, hr => by simpa [VRel] using hr
  | .ptr b i k, c, h, hr => by
    simp only [VRel, nms, List.mem_singleton, forall_eq] at hr h ⊢
    obtain ⟨L, hL, hc⟩ := hr
    exact ⟨L, h _ hL, hc⟩
  | .sl b o n cap sz, c, h, hr => by
    simp only [VRel, nms] at hr h ⊢
    obtain ⟨x, m, hc, hn, hk, hm⟩ := hr
    refine ⟨x, m, hc, hn, hk, ?_⟩
    by_cases e : cap = some 0
    · exact .inl e
    · rcases hm with hm | ⟨L, h1, h2⟩
      · exact absurd hm e
      · exact .inr ⟨L, h _ (by simp [e]) _ h1, h2⟩
  | .agg l, c, h, hr => by
    simp only [VRel, nms] at hr h ⊢
    obtain ⟨cs, hc, hl⟩ := hr
    exact ⟨cs, hc, VRels.on l cs h hl⟩
  | .tup l, c, h, hr => by
    simp only [VRel, nms] at hr h ⊢
    obtain ⟨cs, hc, hl⟩ := hr
    exact ⟨cs, hc, VRels.on l cs h hl⟩
  | .fn f l, c, h, hr => by
    simp only [VRel, nms] at hr h ⊢
    obtain ⟨cs, hc, hl⟩ := hr
    exact ⟨cs, hc, VRels.on l cs h hl⟩
theorem VRels.on {μ μ' : Mu} : ∀ (l : List AV) (m : List Value), (∀ b ∈ nmss l, ∀ L, μ b = some L → μ' b = some L) → VRels μ l m → VRels μ' l m
  | [], [], _, _ => by simp [VRels]
  | x :: l, y :: m, h, hr => by
    simp only [VRels, nmss, List.mem_append] at hr h ⊢
    exact ⟨VRel.on x y (fun b hb => h b (.inl hb)) hr.1, VRels.on l m (fun b hb => h b (.inr hb)) hr.2⟩
  | [], _ :: _, _, hr => by simp [VRels] at hr
  | _ :: _, [], _, hr => by simp [VRels] at hr
end
mutual
theorem VRel.unren {μ μ' : Mu} {ρ : Nat → Nat} : ∀ (x : AV) (c : Value), (∀ b ∈ nms x, ∀ L, μ (ρ b) = some L → μ' b = some L) → VRel μ (ren ρ x) c → VRel μ' x c
  | .any, _, _, _ => by simp [VRel]
  | .bl, c, _, hr => by simpa [Go.Proofs.Ythjjfdbkggiaeaa.ren, VRel] using hr
  | .v x, c, _, hr => by simpa [Go.Proofs.Ythjjfdbkggiaeaa.ren, VRel] using hr
  | .ptr b i k, c, h, hr => by
    simp only [Go.Proofs.Ythjjfdbkggiaeaa.ren, VRel, nms, List.mem_singleton, forall_eq] at hr h ⊢
    obtain ⟨L, hL, hc⟩ := hr
    exact ⟨L, h _ hL, hc⟩
  | .sl b o n cap sz, c, h, hr => by
    simp only [Go.Proofs.Ythjjfdbkggiaeaa.ren, VRel, nms] at hr h ⊢
    obtain ⟨x, m, hc, hn, hk, hm⟩ := hr
    refine ⟨x, m, hc, hn, hk, ?_⟩
    by_cases e : cap = some 0
    · exact .inl e
    · rcases hm with hm | ⟨L, h1, h2⟩
      · exact absurd hm e
      · exact .inr ⟨L, h _ (by simp [e]) _ h1, h2⟩
  | .agg l, c, h, hr => by
    simp only [Go.Proofs.Ythjjfdbkggiaeaa.ren, VRel, nms] at hr h ⊢
    obtain ⟨cs, hc, hl⟩ := hr
    exact ⟨cs, hc, VRels.unren l cs h hl⟩
  | .tup l, c, h, hr => by
    simp only [Go.Proofs.Ythjjfdbkggiaeaa.ren, VRel, nms] at hr h ⊢
    obtain ⟨cs, hc, hl⟩ := hr
    exact ⟨cs, hc, VRels.unren l cs h hl⟩
  | .fn f l, c, h, hr => by
    simp only [Go.Proofs.Ythjjfdbkggiaeaa.ren, VRel, nms] at hr h ⊢
    obtain ⟨cs, hc, hl⟩ := hr
    exact ⟨cs, hc, VRels.unren l cs h hl⟩
theorem VRels.unren {μ μ' : Mu} {ρ : Nat → Nat} : ∀ (l : List AV) (m : List Value), (∀ b ∈ nmss l, ∀ L, μ (ρ b) = some L → μ' b = some L) → VRels μ (rens ρ l) m → VRels μ' l m
  | [], [], _, _ => by simp [VRels]
  | x :: l, y :: m, h, hr => by
    simp only [rens, VRels, nmss, List.mem_append] at hr h ⊢
    exact ⟨VRel.unren x y (fun b hb => h b (.inl hb)) hr.1, VRels.unren l m (fun b hb => h b (.inr hb)) hr.2⟩
  | [], _ :: _, _, hr => by simp [rens, VRels] at hr
  | _ :: _, [], _, hr => by simp [rens, VRels] at hr
end

section
variable {P : Program} {B N K : Nat} {w0 : World} {X : Nat → Prop} {E μ : Mu} {σ : Sto} {w : World} {τ : Tm} {M : Nat} {a : Act}

/-! results -/
def resV (P : Program) (τ : Tm) (σ : Sto) : ResultVar → Option AV
  | .tmp t => some (get τ t)
  | .cell t ty => fLoad (aggO P ty) (szO P ty) (get τ t) σ
def resL (P : Program) (τ : Tm) (σ : Sto) : List ResultVar → Option (List AV)
  | [] => some []
  | x :: l => match resV P τ σ x with
    | some v => match resL P τ σ l with
      | some vs => some (v :: vs)
      | none => none
    | none => none
def resO : List AV → AV
  | [x] => x
  | l => .tup l
theorem resL_ok {tmps : Array Value} (hR : Rel B w0 X μ σ w) (hT : TRel μ τ tmps) : ∀ (l : List ResultVar) (xs : List AV), resL P τ σ l = some xs →
    ∃ vs : List Value, (l.mapM (fun | .tmp t => pure (tmps.getD t undef) | .cell a t => do loadVar t (← asAddr (tmps.getD a undef)) : ResultVar → Sem Value)).run P w = .ok vs w ∧ VRels μ xs vs
  | [], xs, h => by simp [resL] at h; subst h; exact ⟨[], by simp, by simp [VRels]⟩
  | x :: l, xs, h => by
    simp only [resL] at h
    split at h <;> try (cases h; done)
    rename_i v hv
    split at h <;> try (cases h; done)
    rename_i vs hvs
    cases h
    obtain ⟨us, hu, hr⟩ := resL_ok hR hT l vs hvs
    cases x with
    | tmp t =>
      simp [resV] at hv
      subst hv
      exact ⟨tmps.getD t undef :: us, by simp only [List.mapM_cons, Sem.run_bind, Sem.run_pure, Result.andThen_ok, hu], by simp only [VRels]; exact ⟨hT t, hr⟩⟩
    | cell t ty =>
      simp only [resV] at hv
      obtain ⟨u, hrun, hvu⟩ := fLoad_ok hR (hT t) hv
      have hp : ∃ ad, tmps.getD t undef = .pointer (some ad) := by
        have := hT t
        unfold fLoad at hv
        split at hv <;> try (cases hv; done)
        rename_i b i c heq
        rw [heq] at this
        simp only [VRel] at this
        obtain ⟨L, _, hp⟩ := this
        exact ⟨_, hp⟩
      obtain ⟨ad, hp⟩ := hp
      rw [hp] at hrun
      have hrun' : (loadVar ty ad).run P w = .ok u w := by simpa [Instr.loadAt, Instr.sureAddr] using hrun
      have has : (asAddr (Value.pointer (some ad))).run P w = .ok ad w := rfl
      exact ⟨u :: us, by simp only [List.mapM_cons, Sem.run_bind, Sem.run_pure, Result.andThen_ok, hu, hp, has, hrun'], by simp only [VRels]; exact ⟨hvu, hr⟩⟩
theorem results_ok {fn : Func} {xs : List AV} {tmps : Array Value} (hR : Rel B w0 X μ σ w) (hT : TRel μ τ tmps) (h : resL P τ σ fn.results.toList = some xs) : ∃ v, (results fn tmps).run P w = .ok v w ∧ VRel μ (resO xs) v := by
  obtain ⟨vs, hu, hr⟩ := resL_ok hR hT _ _ h
  have hl := hr.length
  have hrun : (results fn tmps).run P w = .ok (if h : vs.toArray.size = 1 then vs.toArray[0] else .tuple vs.toArray) w := by
    unfold results
    rw [Array.mapM_eq_mapM_toList]
    simp only [Sem.run_bind, Sem.run_map]
    erw [hu]
    simp
  refine ⟨_, hrun, ?_⟩
  match xs, vs, hr with
  | [x], [v], hr => simp only [VRels, and_true] at hr; simpa [resO] using hr
  | [], [], _ => simp only [resO]; simp [VRel, VRels]
  | x :: y :: xs, v :: u :: vs, hr => simp only [resO]; simp only [VRel]; exact ⟨v :: u :: vs, by simp, hr⟩

/-! the contract out of the body -/
def argT : Nat → List AV → Tm
  | _, [] => []
  | i, x :: l => (i, x) :: argT (i + 1) l
theorem argT_rel (n : Nat) : ∀ (xs : List AV) (vs : List Value) (i : Nat), VRels μ xs vs → ∀ j, j < i ∨ VRel μ (get (argT i xs) j) ((vs ++ List.replicate n undef).getD (j - i) undef)
  | [], [], i, _, j => by simp [argT, get, VRel]
  | x :: xs, v :: vs, i, h, j => by
    simp only [VRels] at h
    rcases Nat.lt_or_ge j i with hj | hj
    · exact .inl hj
    · refine .inr ?_
      simp only [argT, get]
      by_cases e : j = i
      · subst e; simpa using h.1
      · rw [if_neg e]
        rcases argT_rel n xs vs (i + 1) h.2 j with h1 | h1
        · omega
        · have : j - i = (j - (i + 1)) + 1 := by omega
          rw [this]
          simpa using h1
  | [], _ :: _, _, h, _ => by simp [VRels] at h
  | _ :: _, [], _, h, _ => by simp [VRels] at h

/-- The callee's own view of the store: only the blocks of 'mods' may be written. -/
def View (mods : List Nat) (σ s : Sto) : Prop := ∀ b, s b = (σ b).map fun k => if b ∈ mods then k else { k with rw := false }
theorem View.ro {σ s : Sto} (h : View [] σ s) {b : Nat} {t sz : Nat} {es : List (List AV)} {rw_ : Bool} (hb : σ b = some ⟨t, sz, es, rw_⟩) : s b = some ⟨t, sz, es, false⟩ := by rw [h b, hb]; rfl

/-- All names lie below K. -/
def Bd (K : Nat) (s : Sto) : Prop := ∀ b k, s b = some k → b < K ∧ ∀ e ∈ k.es, ∀ v ∈ e, ∀ n ∈ nms v, n < K
mutual
theorem VRel.dom {μ : Mu} : ∀ (x : AV) (c : Value), VRel μ x c → ∀ n ∈ nms x, ∃ L, μ n = some L
  | .any, _, _, n, hn => by simp [nms] at hn
  | .bl, _, _, n, hn => by simp [nms] at hn
  | .v _, _, _, n, hn => by simp [nms] at hn
  | .ptr b i k, c, hr, n, hn => by
    simp only [VRel, nms, List.mem_singleton] at hr hn
    obtain ⟨L, hL, _⟩ := hr
    exact ⟨L, hn ▸ hL⟩
  | .sl b o m cap sz, c, hr, n, hn => by
    simp only [VRel, nms] at hr hn
    obtain ⟨_, _, _, _, _, hm⟩ := hr
    rcases hm with hm | ⟨L, hL, _⟩
    · simp [hm] at hn
    · split at hn
      · cases hn
      · simp at hn; exact ⟨L, hn ▸ hL⟩
  | .agg l, c, hr, n, hn => by
    simp only [VRel, nms] at hr hn
    obtain ⟨cs, _, hl⟩ := hr
    exact VRels.dom l cs hl n hn
  | .tup l, c, hr, n, hn => by
    simp only [VRel, nms] at hr hn
    obtain ⟨cs, _, hl⟩ := hr
    exact VRels.dom l cs hl n hn
  | .fn f l, c, hr, n, hn => by
    simp only [VRel, nms] at hr hn
    obtain ⟨cs, _, hl⟩ := hr
    exact VRels.dom l cs hl n hn
theorem VRels.dom {μ : Mu} : ∀ (l : List AV) (m : List Value), VRels μ l m → ∀ n ∈ nmss l, ∃ L, μ n = some L
  | [], [], _, n, hn => by simp [nmss] at hn
  | x :: l, y :: m, hr, n, hn => by
    simp only [VRels, nmss, List.mem_append] at hr hn
    rcases hn with hn | hn
    · exact VRel.dom x y hr.1 n hn
    · exact VRels.dom l m hr.2 n hn
  | [], _ :: _, hr, _, _ => by simp [VRels] at hr
  | _ :: _, [], hr, _, _ => by simp [VRels] at hr
end

def rho (c d ν : Nat) : Nat → Nat := fun b => if b = c then ν else if b = d then ν + 1 else b
def flatB (k : Blk) : Prop := ∀ e ∈ k.es, ∀ v ∈ e, nms v = []
def lowB (K : Nat) (k : Blk) : Prop := ∀ e ∈ k.es, ∀ v ∈ e, ∀ n ∈ nms v, n < K
theorem flatB.low {K : Nat} {k : Blk} (h : flatB k) : lowB K k := fun e he v hv n hn => by rw [h e he v hv] at hn; cases hn

/-- What a function hands back, said without its own names. -/
structure Fin (K ν : Nat) (mods : List Nat) (R : AV → Sto → Prop) (r' : AV) (σ' : Sto) (c d : Nat) (r : AV) (δ : Sto) : Prop where
  hR : R r δ
  hr : r = ren (rho c d ν) r'
  nm : ∀ b ∈ nms r', b < K ∨ b = c ∨ b = d
  cd : c ≠ d
  hc : K ≤ c
  hd : K ≤ d
  dl : ∀ b k, δ b = some k → (b = ν ∧ σ' c = some k ∧ k.rw = true ∧ lowB K k) ∨ (b = ν + 1 ∧ σ' d = some k ∧ k.rw = true ∧ lowB K k) ∨ (b ∈ mods ∧ σ' b = some k ∧ k.rw = true ∧ ∀ e ∈ k.es, ∀ v ∈ e, ∀ n ∈ nms v, n < K)
  md : ∀ b ∈ mods, ∃ k, σ' b = some k ∧ k.rw = true ∧ δ b = some k

mutual
/-- All names that are written in a value, those of slices without room too. -/
def nmA : AV → List Nat
  | .any => []
  | .bl => []
  | .v _ => []
  | .ptr b _ _ => [b]
  | .sl b _ _ _ _ => [b]
  | .agg l => nmAs l
  | .tup l => nmAs l
  | .fn _ l => nmAs l
def nmAs : List AV → List Nat
  | [] => []
  | x :: l => nmA x ++ nmAs l
end
theorem bound_of : ∀ l : List Nat, ∃ m, ∀ n ∈ l, n < m
  | [] => ⟨0, by simp⟩
  | x :: l => by
    obtain ⟨m, h⟩ := bound_of l
    refine ⟨max m (x + 1), fun n hn => ?_⟩
    rcases List.mem_cons.1 hn with rfl | hn
    · omega
    · have := h n hn; omega
theorem AC.intro {f : FuncId} {fn : Func} {c : Code} {args : List AV} {ν : Nat} {R : AV → Sto → Prop} (mods : List Nat) (hent : Ent P f) (hf : P.funcs[f]? = some fn) (hb : fn.body = some c) (hN : args.length ≤ fn.ntmps)
    (hm : ∀ b ∈ mods, ∃ k, σ b = some k ∧ k.rw = true)
    (h : ∀ (K : Nat) (s : Sto), View mods σ s → Bd K s → (∀ n ∈ nmss args, n < K) → ν + 1 < K → (∀ n ∈ nmAs args, n < K) → (σ ν = none ∧ σ (ν + 1) = none) →
      AWP P fn.ntmps K c (fun e τ' σ' _ => (e = .normal ∨ e = .ret) ∧ ∃ xs, resL P τ' σ' fn.results.toList = some xs ∧ ∃ c d r δ, Fin K ν mods R (resO xs) σ' c d r δ) (argT 0 args) s K) : AC P f args σ ν R := by
  refine ⟨hent, fun B w0 X μ w vs hR hν hν1 hv => ?_⟩
  obtain ⟨M0, hM0⟩ := hR.fin
  have hvl := hv.length
  -- the callee's own names begin at K
  have hK : ∃ K, ν + 1 < K ∧ (∀ b, K ≤ b → μ b = none) ∧ ∀ n ∈ nmAs args, n < K := by
    obtain ⟨m, hm⟩ := bound_of (nmAs args)
    exact ⟨max (max M0 (ν + 2)) m, by omega, fun b hb => hM0 b (by omega), fun n hn => by have := hm n hn; omega⟩
  obtain ⟨K, hKν, hKμ, hKA⟩ := hK
  have hlive : ∀ b k, σ b = some k → b < K := fun b k hb => by
    rcases Nat.lt_or_ge b K with h1 | h1
    · exact h1
    · obtain ⟨L, hL, _⟩ := hR.blk b k hb
      rw [hKμ b h1] at hL; cases hL
  let X' : Nat → Prop := fun g => ∃ b ∈ mods, ∃ L, μ b = some L ∧ 0 < L.C ∧ L.a.block = g
  let s : Sto := fun b => (σ b).map fun k => if b ∈ mods then k else { k with rw := false }
  have hs : View mods σ s := fun _ => rfl
  have hsσ : ∀ b k, s b = some k → ∃ k0, σ b = some k0 ∧ k = if b ∈ mods then k0 else { k0 with rw := false } := fun b k hb => by
    simp only [s, Option.map_eq_some_iff] at hb
    obtain ⟨k0, h1, h2⟩ := hb
    exact ⟨k0, h1, h2.symm⟩
  have hR' : Rel w.heap.size w X' μ s w := by
    refine ⟨Keep.refl _ _ _, Nat.le_refl _, fun b k hb => ?_, fun b b' k k' L L' hne hb hb' hL hL' hrw hC ho => ?_, hR.fin⟩
    · obtain ⟨k0, h0, rfl⟩ := hsσ b k hb
      obtain ⟨L, hL, hB⟩ := hR.blk b k0 h0
      refine ⟨L, hL, ?_⟩
      by_cases hbm : b ∈ mods
      · rw [if_pos hbm]
        refine ⟨hB.sz, hB.pos, hB.len, hB.rd, fun hrw => ?_⟩
        rcases hB.own hrw with h1 | ⟨g, cs, h1, h2, h3, h4, h5, h6⟩
        · exact .inl h1
        · exact .inr ⟨g, cs, h1, .inr ⟨b, hbm, L, hL, h6, by rw [h1]⟩, h3, h4, h5, h6⟩
      · rw [if_neg hbm]
        exact ⟨hB.sz, hB.pos, hB.len, hB.rd, fun hrw => by cases hrw⟩
    · obtain ⟨k0, h0, rfl⟩ := hsσ b k hb
      obtain ⟨k0', h0', rfl⟩ := hsσ b' k' hb'
      have hbm : b ∈ mods := by
        by_cases hbm : b ∈ mods
        · exact hbm
        · rw [if_neg hbm] at hrw; cases hrw
      rw [if_pos hbm] at hrw
      refine hR.sep b b' k0 k0' L L' hne h0 h0' hL hL' hrw hC ?_
      by_cases hbm' : b' ∈ mods
      · rwa [if_pos hbm'] at ho
      · rw [if_neg hbm'] at ho
        rcases ho with ho | ⟨ho, _⟩
        · exact .inl ho
        · cases ho
  refine calls_of_wp hf hb ?_
  have hT : TRel μ (argT 0 args) (vs.toArray ++ Array.replicate (fn.ntmps - vs.toArray.size) undef) := fun i => by
    rcases argT_rel (μ := μ) (fn.ntmps - vs.toArray.size) args vs 0 hv i with h1 | h1
    · omega
    · have e : (vs.toArray ++ Array.replicate (fn.ntmps - vs.toArray.size) undef).getD i undef = (vs ++ List.replicate (fn.ntmps - vs.toArray.size) undef).getD (i - 0) undef := by
        simp [Array.getD_eq_getD_getElem?, List.getD_eq_getElem?_getD, ← Array.getElem?_toList]
      rw [e]
      exact h1
  have hhs : HS w.heap.size w X' fn.ntmps K μ (argT 0 args) s K { tmps := vs.toArray ++ Array.replicate (fn.ntmps - vs.toArray.size) undef, defers := [] } w μ :=
    ⟨rfl, by simp; omega, hR', hKμ, fun _ _ => rfl, hT, Nat.le_refl _⟩
  have hdom : ∀ n, (∃ L, μ n = some L) → n < K := fun n ⟨L, hL⟩ => by
    rcases Nat.lt_or_ge n K with h1 | h1
    · exact h1
    · rw [hKμ n h1] at hL; cases hL
  have hBd : Bd K s := fun b k hb => by
    obtain ⟨k0, h0, hk⟩ := hsσ b k hb
    refine ⟨hlive b k0 h0, fun e he v hv n hn => hdom n ?_⟩
    obtain ⟨L, hL, hB⟩ := hR'.blk b k hb
    obtain ⟨i, hi, rfl⟩ := List.mem_iff_getElem.1 he
    obtain ⟨j, hj, rfl⟩ := List.mem_iff_getElem.1 hv
    obtain ⟨u, _, _, hvu⟩ := hB.rd i _ (List.getElem?_eq_getElem hi) j _ (List.getElem?_eq_getElem hj)
    exact VRel.dom _ _ hvu n hn
  refine wp_mono (h K s hs hBd (fun n hn => hdom n (VRels.dom _ _ hv n hn)) hKν hKA ⟨free_of hR hν, free_of hR hν1⟩ _ _ _ _ _ _ _ hhs) ?_
  rintro e a' w' ⟨τ', σ', M', μe, ⟨he, xs, hxs, c0, d0, r, δ, hF⟩, hs'⟩
  obtain ⟨v', hrun, hvr⟩ := results_ok (fn := fn) hs'.rel hs'.tm hxs
  let μ' : Mu := fun b => if b = ν then μe c0 else if b = ν + 1 then μe d0 else μ b
  have hμν : μ' ν = μe c0 := by simp [μ']
  have hμν1 : μ' (ν + 1) = μe d0 := by simp [μ']
  have hμo : ∀ b, b ≠ ν → b ≠ ν + 1 → μ' b = μ b := fun b h1 h2 => by simp [μ', h1, h2]
  have hsub : Sub μ μ' := fun b L hb => by
    have h1 : b ≠ ν := fun e => by subst e; rw [hν] at hb; cases hb
    have h2 : b ≠ ν + 1 := fun e => by subst e; rw [hν1] at hb; cases hb
    rw [hμo b h1 h2]; exact hb
  have hext := hs'.ext
  have below : ∀ n, n < K → ∀ L, μe n = some L → μ' n = some L := fun n hn L hL => by
    rw [hext n hn] at hL
    exact hsub n L hL
  have hmodK : ∀ b ∈ mods, b < K := fun b hb => let ⟨k, hk, _⟩ := hm b hb; hlive b k hk
  have hold : ∀ b k L, σ b = some k → μ b = some L → occ k L → b ∉ mods → w'.heap[L.a.block]? = w.heap[L.a.block]? := fun b k L hb hL ho hbm => by
    obtain ⟨L0, hL0, hB⟩ := hR.blk b k hb
    rw [hL] at hL0; cases hL0
    refine hs'.rel.keep.block _ (hB.lt ho) ?_
    rintro ⟨m, hmm, Lm, hLm, hCm, he⟩
    obtain ⟨km, hkm, hrm⟩ := hm m hmm
    exact hR.sep m b km k Lm L (fun e => hbm (e ▸ hmm)) hkm hb hLm hL hrm hCm ho he
  -- what is new lies behind all that was there
  have hnew : ∀ c1, K ≤ c1 → ∀ k L, σ' c1 = some k → μe c1 = some L → k.rw = true → BRel w.heap.size X' μe w' L k → (k.es = [] ∧ L.C = 0) ∨ ∃ g cs, L.a = ⟨g, 0, none⟩ ∧ w.heap.size ≤ g ∧ w'.heap[g]? = some (.cells cs k.ty (0, 0)) ∧ cs.size = L.C * k.sz ∧ k.es.length ≤ L.C ∧ 0 < L.C := by
    intro c1 hc1 k L hk hL hrw hB
    rcases hB.own hrw with h1 | ⟨g, cs, h1, h2, h3, h4, h5, h6⟩
    · exact .inl h1
    · refine .inr ⟨g, cs, h1, ?_, h3, h4, h5, h6⟩
      rcases h2 with h2 | ⟨m, hmm, Lm, hLm, hCm, he⟩
      · exact h2
      · obtain ⟨km, hkm, hrm, _⟩ := hF.md m hmm
        have hmK := hmodK m hmm
        have hLm' : μe m = some Lm := by rw [hext m hmK]; exact hLm
        have := hs'.rel.sep c1 m k km L Lm (by omega) hk hkm hL hLm' hrw h6 (.inr ⟨hrm, hCm⟩)
        rw [h1, he] at this
        exact absurd rfl this
  have hcaller : Rel B w0 X μ' (ovr σ δ) w' := by
    have hBig := hR.big
    have hmodL : ∀ b ∈ mods, ∀ k L, σ' b = some k → μ b = some L → k.rw = true → BRel w.heap.size X' μe w' L k → (k.es = [] ∧ L.C = 0) ∨ ∃ g cs, L.a = ⟨g, 0, none⟩ ∧ (B ≤ g ∨ X g) ∧ w'.heap[g]? = some (.cells cs k.ty (0, 0)) ∧ cs.size = L.C * k.sz ∧ k.es.length ≤ L.C ∧ 0 < L.C := by
      intro b hbm k L hk hL hrw hB
      rcases hB.own hrw with h1 | ⟨g, cs, h1, h2, h3, h4, h5, h6⟩
      · exact .inl h1
      · obtain ⟨km, hkm, hrm⟩ := hm b hbm
        obtain ⟨L0, hL0, hB0⟩ := hR.blk b km hkm
        rw [hL] at hL0; cases hL0
        rcases hB0.own hrm with ⟨_, h0⟩ | ⟨g0, cs0, e1, e2, _⟩
        · omega
        · rw [e1] at h1
          cases h1
          exact .inr ⟨_, cs, e1, e2, h3, h4, h5, h6⟩
    -- each live block is an elder one or a new one
    have cls : ∀ b k L, ovr σ δ b = some k → μ' b = some L → (∃ k0, σ b = some k0 ∧ μ b = some L ∧ (k.rw = true → k0.rw = true) ∧ (occ k L → occ k0 L)) ∨
        (∃ c1, σ' c1 = some k ∧ μe c1 = some L ∧ K ≤ c1 ∧ k.rw = true ∧ (b = ν ∧ c1 = c0 ∨ b = ν + 1 ∧ c1 = d0) ∧ (0 < L.C → w.heap.size ≤ L.a.block)) := by
      intro b k L hb hL
      have newcase : ∀ c1, K ≤ c1 → σ' c1 = some k → μe c1 = some L → k.rw = true → (0 < L.C → w.heap.size ≤ L.a.block) := fun c1 hc1 hk hL hrw hC => by
        obtain ⟨L1, hL1, hB1⟩ := hs'.rel.blk c1 k hk
        rw [hL] at hL1; cases hL1
        rcases hnew c1 hc1 k L hk hL hrw hB1 with ⟨_, h0⟩ | ⟨g, cs, h1, h2, _⟩
        · omega
        · rw [h1]; exact h2
      simp only [ovr] at hb
      cases hδ : δ b with
      | some k1 =>
        rw [hδ] at hb
        simp only [Option.some.injEq] at hb
        subst hb
        rcases hF.dl b k1 hδ with ⟨rfl, h1, h2, _⟩ | ⟨rfl, h1, h2, _⟩ | ⟨hbm, h1, h2, _⟩
        · rw [hμν] at hL
          exact .inr ⟨c0, h1, hL, hF.hc, h2, .inl ⟨rfl, rfl⟩, newcase c0 hF.hc h1 hL h2⟩
        · rw [hμν1] at hL
          exact .inr ⟨d0, h1, hL, hF.hd, h2, .inr ⟨rfl, rfl⟩, newcase d0 hF.hd h1 hL h2⟩
        · obtain ⟨km, hkm, hrm⟩ := hm b hbm
          obtain ⟨L0, hL0, _⟩ := hR.blk b km hkm
          have hL' := hL
          rw [hsub b L0 hL0] at hL'
          cases hL'
          refine .inl ⟨km, hkm, hL0, fun _ => hrm, fun ho => .inr ⟨hrm, ?_⟩⟩
          obtain ⟨L1, hL1, hB1⟩ := hs'.rel.blk b k1 h1
          rw [hext b (hmodK b hbm), hL0] at hL1
          cases hL1
          rcases hmodL b hbm k1 _ h1 hL0 h2 hB1 with ⟨h3, h4⟩ | ⟨g, cs, _, _, _, _, _, h6⟩
          · rcases ho with ho | ⟨_, ho⟩
            · exact absurd h3 ho
            · exact ho
          · exact h6
      | none =>
        rw [hδ] at hb
        simp only at hb
        obtain ⟨L0, hL0, _⟩ := hR.blk b k hb
        have hL' := hL
        rw [hsub b L0 hL0] at hL'
        cases hL'
        exact .inl ⟨k, hb, hL0, id, id⟩
    refine ⟨hR.keep.trans ⟨hs'.rel.keep.os, hs'.rel.keep.tape, hs'.rel.keep.output, hs'.rel.keep.size, fun g hg hx => hs'.rel.keep.block g (by omega) ?_⟩, Nat.le_trans hBig hs'.rel.keep.size, fun b k hb => ?_, fun b b' k k' L L' hne hb hb' hL hL' hrw hC ho => ?_, ?_⟩
    · rintro ⟨m, hmm, Lm, hLm, hCm, he⟩
      obtain ⟨km, hkm, hrm⟩ := hm m hmm
      obtain ⟨L0, hL0, hB0⟩ := hR.blk m km hkm
      rw [hLm] at hL0; cases hL0
      rcases hB0.own hrm with ⟨_, h0⟩ | ⟨g0, cs0, e1, e2, _⟩
      · omega
      · rw [e1] at he
        simp only at he
        subst he
        rcases e2 with e2 | e2
        · omega
        · exact hx e2
    · have hb0 := hb
      simp only [ovr] at hb
      cases hδ : δ b with
      | some k1 =>
        rw [hδ] at hb
        simp only [Option.some.injEq] at hb
        subst hb
        have fresh : ∀ c1, K ≤ c1 → σ' c1 = some k1 → k1.rw = true → lowB K k1 → ∃ L, μe c1 = some L ∧ BRel B X μ' w' L k1 := fun c1 hc1 hk hrw hfl => by
          obtain ⟨L, hL, hB⟩ := hs'.rel.blk c1 k1 hk
          refine ⟨L, hL, hB.sz, hB.pos, hB.len, fun i e he c v hv => ?_, fun _ => ?_⟩
          · obtain ⟨u, hu, h1, h2⟩ := hB.rd i e he c v hv
            refine ⟨u, hu, h1, VRel.on v u (fun n hn => ?_) h2⟩
            exact below n (hfl e (List.mem_of_getElem? he) v (List.mem_of_getElem? hv) n hn)
          · rcases hnew c1 hc1 k1 L hk hL hrw hB with h1 | ⟨g, cs, h1, h2, h3⟩
            · exact .inl h1
            · exact .inr ⟨g, cs, h1, .inl (by omega), h3⟩
        rcases hF.dl b k1 hδ with ⟨rfl, h1, h2, h3⟩ | ⟨rfl, h1, h2, h3⟩ | ⟨hbm, h1, h2, h3⟩
        · obtain ⟨L, hL, hB⟩ := fresh c0 hF.hc h1 h2 h3
          exact ⟨L, hμν.trans hL, hB⟩
        · obtain ⟨L, hL, hB⟩ := fresh d0 hF.hd h1 h2 h3
          exact ⟨L, hμν1.trans hL, hB⟩
        · obtain ⟨L, hL, hB⟩ := hs'.rel.blk b k1 h1
          have hLμ : μ b = some L := by rw [← hext b (hmodK b hbm)]; exact hL
          refine ⟨L, hsub b L hLμ, hB.sz, hB.pos, hB.len, fun i e he c v hv => ?_, fun _ => hmodL b hbm k1 L h1 hLμ h2 hB⟩
          obtain ⟨u, hu, g1, g2⟩ := hB.rd i e he c v hv
          exact ⟨u, hu, g1, VRel.on v u (fun n hn => below n (h3 e (List.mem_of_getElem? he) v (List.mem_of_getElem? hv) n hn)) g2⟩
      | none =>
        rw [hδ] at hb
        simp only at hb
        have hbm : b ∉ mods := fun hbm => by
          obtain ⟨k', _, _, h3⟩ := hF.md b hbm
          rw [hδ] at h3; cases h3
        obtain ⟨L, hL, hB⟩ := hR.blk b k hb
        exact ⟨L, hsub b L hL, hB.keep hsub fun ho => hold b k L hb hL ho hbm⟩
    · rcases cls b k L hb hL with ⟨k0, h1, h2, h3, h4⟩ | ⟨c1, h1, h2, h3, h4, h5, h6⟩ <;> rcases cls b' k' L' hb' hL' with ⟨k0', g1, g2, g3, g4⟩ | ⟨c1', g1, g2, g3, g4, g5, g6⟩
      · exact hR.sep b b' k0 k0' L L' hne h1 g1 h2 g2 (h3 hrw) hC (g4 ho)
      · obtain ⟨L0, hL0, hB0⟩ := hR.blk b k0 h1
        rw [h2] at hL0; cases hL0
        have := hB0.lt (.inr ⟨h3 hrw, hC⟩)
        have hC' : 0 < L'.C := by
          obtain ⟨L1, hL1, hB1⟩ := hs'.rel.blk c1' k' g1
          rw [g2] at hL1; cases hL1
          rcases ho with ho | ⟨_, ho⟩
          · rcases hB1.own g4 with ⟨e1, _⟩ | ⟨_, _, _, _, _, _, _, e6⟩
            · exact absurd e1 ho
            · exact e6
          · exact ho
        have := g6 hC'
        omega
      · have h7 := h6 hC
        obtain ⟨L0, hL0, hB0⟩ := hR.blk b' k0' g1
        rw [g2] at hL0; cases hL0
        have := hB0.lt (g4 ho)
        omega
      · refine hs'.rel.sep c1 c1' k k' L L' ?_ h1 g1 h2 g2 hrw hC ho
        rcases h5 with ⟨e1, e2⟩ | ⟨e1, e2⟩ <;> rcases g5 with ⟨e3, e4⟩ | ⟨e3, e4⟩
        · exact absurd (e1.trans e3.symm) hne
        · rw [e2, e4]; exact hF.cd
        · rw [e2, e4]; exact Ne.symm hF.cd
        · exact absurd (e1.trans e3.symm) hne
    · refine ⟨K, fun b hb => ?_⟩
      rw [hμo b (by omega) (by omega)]
      exact hKμ b hb
  have hres : VRel μ' r v' := by
    rw [hF.hr]
    refine VRel.ren _ _ (fun b hb L hL => ?_) hvr
    rcases hF.nm b hb with h1 | rfl | rfl
    · have h2 : b ≠ c0 := fun e => by have := hF.hc; omega
      have h3 : b ≠ d0 := fun e => by have := hF.hd; omega
      simp only [rho, if_neg h2, if_neg h3]
      exact below b h1 L hL
    · simp only [rho, if_true]
      rw [hμν]; exact hL
    · have h2 : b ≠ c0 := Ne.symm hF.cd
      simp only [rho, if_neg h2, if_true]
      rw [hμν1]; exact hL
  have hpost : bodyPost P fn (fun e w' => ∃ r δ μ' v', e = .returned v' ∧ R r δ ∧ VRel μ' r v' ∧ Rel B w0 X μ' (ovr σ δ) w' ∧ Sub μ μ' ∧ ∀ b, b ≠ ν → b ≠ ν + 1 → μ' b = μ b) .ret a' w' :=
    ⟨hs'.dfr, v', hrun, r, δ, μ', v', rfl, hF.hR, hres, hcaller, hsub, hμo⟩
  rcases he with rfl | rfl
  · exact hpost
  · exact hpost

end
end Go.Proofs.Ythjjfdbkggiaeaa
