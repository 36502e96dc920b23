/- An abstract store for walks, part 13: what an operation reads and writes. No condition: nothing of a program stands here. -/
import Derived.Test.YthjjfdbkggiaeaaAb12
set_option linter.unusedSimpArgs false
set_option linter.unusedVariables false
namespace Go.Proofs.Ythjjfdbkggiaeaa
open Go Go.RowKit

def rdN : AV → List Nat
  | .ptr b _ _ => [b]
  | .sl b _ n cap _ => if n = 0 ∧ cap = some 0 then [] else [b]
  | _ => []
def wrN : AV → List Nat
  | .sl b _ _ cap _ => if cap = none then [b] else []
  | _ => []
def opR (τ : Tm) : Op → List Nat
  | .load _ x => rdN (ev τ x)
  | .store _ x _ => rdN (ev τ x)
  | .convert _ _ x => rdN (ev τ x)
  | .call c => match c.callee with
    | .builtin .append => (c.args.toList.map (ev τ)).flatMap rdN
    | _ => []
  | _ => []
def opW (τ : Tm) (M : Nat) : Op → List Nat
  | .store _ x _ => rdN (ev τ x)
  | .alloc _ => [M]
  | .box _ _ => [M]
  | .buildSlice _ n _ => if n = 0 then [] else [M]
  | .makeSlice _ _ _ => [M]
  | .call c => match c.callee with
    | .builtin .append => M :: ((c.args.toList.map (ev τ)).take 1).flatMap wrN
    | _ => []
  | _ => []
def app (W : List Nat) (s σ : Sto) : Sto := fun b => if b ∈ W then s b else σ b
theorem app_nil (s σ : Sto) : app [] s σ = σ := by funext b; simp [app]
theorem app_same {W : List Nat} {s σ : Sto} (h : ∀ b, b ∉ W → s b = σ b) : app W s σ = s := by
  funext b
  unfold app
  split
  · rfl
  · rename_i hb; exact (h b hb).symm

/-- The same, over another store. -/
def Loc2 (R W : List Nat) (σ : Sto) (f : Sto → Option Out) : Prop :=
  ∀ v σ' M', f σ = some (v, σ', M') → (∀ b, b ∉ W → σ' b = σ b) ∧ ∀ σ2 : Sto, (∀ b ∈ R, σ2 b = σ b) → f σ2 = some (v, app W σ' σ2, M')

section
variable {P : Program} {σ : Sto} {M : Nat}

theorem Loc2.pure {x : Option AV} {R W : List Nat} (hW : W = []) : Loc2 R W σ (fun σ => keepS σ M x) := by
  intro v σ' M' h
  subst hW
  obtain ⟨u, hu, he⟩ := keepS_ok h
  cases he
  exact ⟨fun _ _ => rfl, fun σ2 _ => by simp [keepS, hu, app_nil]⟩
theorem Loc2.read {g : Sto → Option AV} {R : List Nat} (hg : ∀ σ2 : Sto, (∀ b ∈ R, σ2 b = σ b) → g σ2 = g σ) : Loc2 R [] σ (fun σ => keepS σ M (g σ)) := by
  intro v σ' M' h
  obtain ⟨u, hu, he⟩ := keepS_ok h
  cases he
  exact ⟨fun _ _ => rfl, fun σ2 h2 => by simp [keepS, hg σ2 h2, hu, app_nil]⟩
theorem app_upd (σ σ2 : Sto) (b : Nat) (k : Blk) (W : List Nat) (hb : b ∈ W) (hW : ∀ c ∈ W, c ≠ b → σ2 c = σ c) : app W (upd σ b k) σ2 = upd σ2 b k := by
  funext c
  unfold app upd
  by_cases h : c = b
  · subst h; simp [hb]
  · simp only [if_neg h]
    split
    · rename_i hc; exact (hW c hc h).symm
    · rfl
theorem Loc2.fresh {x : Option (AV × Blk)} {R : List Nat} : Loc2 R [M] σ (fun σ => match x with | some (v, k) => some (v, upd σ M k, M + 1) | none => none) := by
  intro v σ' M' h
  cases x with
  | none => cases h
  | some p =>
    obtain ⟨u, k⟩ := p
    cases h
    exact ⟨fun b hb => upd_ne _ _ _ _ (by simpa using hb), fun σ2 _ => by simp [app_upd σ σ2 M k [M] (by simp) (by simp)]⟩

theorem elems_loc {s : Nat} {x : AV} {σ2 : Sto} (h : ∀ b ∈ rdN x, σ2 b = σ b) : elems s x σ2 = elems s x σ := by
  unfold elems
  split
  · rename_i b o n cap sz
    by_cases hc : n = 0 ∧ cap = some 0
    · obtain ⟨rfl, rfl⟩ := hc
      cases h1 : σ2 b <;> cases h2 : σ b <;> simp
    · rw [h b (by simp [rdN, hc])]
  · rfl
theorem fLoad_loc {ag : Option Bool} {sz : Option Nat} {x : AV} {σ2 : Sto} (h : ∀ b ∈ rdN x, σ2 b = σ b) : fLoad ag sz x σ2 = fLoad ag sz x σ := by
  unfold fLoad
  split
  · rename_i b i c
    rw [h b (by simp [rdN])]
  · rfl
theorem fConvX_loc {s t : TypeId} {x : AV} {σ2 : Sto} (h : ∀ b ∈ rdN x, σ2 b = σ b) : fConvX P s t x σ2 = fConvX P s t x σ := by
  unfold fConvX
  split
  · rw [elems_loc h]
  · rfl
theorem fStore_loc {sz : Option Nat} {x y : AV} {σ' : Sto} (h : fStore sz x y σ = some σ') : (∀ b, b ∉ rdN x → σ' b = σ b) ∧ ∀ σ2 : Sto, (∀ b ∈ rdN x, σ2 b = σ b) → fStore sz x y σ2 = some (app (rdN x) σ' σ2) := by
  unfold fStore at h
  split at h <;> try (cases h; done)
  rename_i b i c
  split at h <;> try (cases h; done)
  rename_i k hk
  split at h <;> try (cases h; done)
  rename_i e he
  split at h <;> try (cases h; done)
  rename_i l hl
  split at h <;> try (cases h; done)
  rename_i hc
  cases h
  refine ⟨fun d hd => upd_ne _ _ _ _ (by simpa [rdN] using hd), fun σ2 h2 => ?_⟩
  have e2 : σ2 b = some k := by rw [h2 b (by simp [rdN]), hk]
  unfold fStore
  simp only [e2, he, hl, if_pos hc]
  rw [app_upd σ σ2 b _ _ (by simp [rdN]) (by simp [rdN])]
theorem fApp_loc {e : Option TypeId} {s : Option Nat} {by_ : Nat} {x y : AV} : Loc2 (rdN x ++ rdN y) (M :: wrN x) σ (fun σ => fApp e s by_ x y σ M) := by
  intro v σ' M' h
  dsimp only at h
  unfold fApp at h
  split at h <;> try (cases h; done)
  rename_i e
  split at h <;> try (cases h; done)
  rename_i s
  split at h <;> try (cases h; done)
  rename_i b o n cap sz
  split at h <;> try (cases h; done)
  rename_i news hn
  split at h <;> try (cases h; done)
  rename_i hc
  have hloc : ∀ σ2 : Sto, (∀ d ∈ rdN (.sl b o n cap sz) ++ rdN y, σ2 d = σ d) → elems s y σ2 = some news := fun σ2 h2 => by
    rw [elems_loc fun d hd => h2 d (by simp [hd]), hn]
  split at h
  · rename_i c
    split at h
    · rename_i hz
      cases h
      refine ⟨fun d hd => upd_ne _ _ _ _ (by simp at hd; exact hd.1), fun σ2 h2 => ?_⟩
      unfold fApp
      simp only [hloc σ2 h2, if_pos hc, if_pos hz]
      rw [app_upd σ σ2 M _ _ (by simp) (by simp [wrN])]
    · rename_i hz
      split at h <;> try (cases h; done)
      rename_i hz2
      split at h <;> try (cases h; done)
      rename_i olds ho
      cases h
      refine ⟨fun d hd => upd_ne _ _ _ _ (by simp at hd; exact hd.1), fun σ2 h2 => ?_⟩
      have ho2 : elems s (.sl b o n (some c) sz) σ2 = some olds := by
        rw [elems_loc fun d hd => h2 d (by simp [hd]), ho]
      unfold fApp
      simp only [hloc σ2 h2, if_pos hc, if_neg hz, if_pos hz2, ho2]
      rw [app_upd σ σ2 M _ _ (by simp) (by simp [wrN])]
  · split at h <;> try (cases h; done)
    rename_i k hk
    split at h <;> try (cases h; done)
    rename_i hz
    cases h
    refine ⟨fun d hd => ?_, fun σ2 h2 => ?_⟩
    · simp [wrN] at hd
      rw [upd_ne _ _ _ _ hd.1, del_ne _ _ _ hd.2]
    · have hk2 : σ2 b = some k := by rw [h2 b (by simp [rdN]), hk]
      unfold fApp
      simp only [hloc σ2 h2, if_pos hc, hk2, if_pos hz]
      congr 3
      funext d
      unfold app upd del
      simp [wrN]
      by_cases h1 : d = M
      · simp [h1]
      · by_cases h3 : d = b
        · simp [h3]
        · simp [h1, h3]

theorem fAppZ_loc {e : Option TypeId} {s : Option Nat} {z : Option (List AV)} {by_ : Nat} {x y : AV} : Loc2 (rdN x ++ rdN y) (M :: wrN x) σ (fun σ => fAppZ e s z by_ x y σ M) := by
  intro v σ' M' h
  dsimp only at h
  unfold fAppZ at h
  split at h <;> try (cases h; done)
  split at h <;> try (cases h; done)
  split at h <;> try (cases h; done)
  split at h <;> try (cases h; done)
  rotate_left
  · split at h <;> try (cases h; done)
    rename_i kn q
    split at h <;> try (cases h; done)
    rename_i hc
    cases h
    refine ⟨fun d hd => ?_, fun σ2 h2 => ?_⟩
    · simp [wrN] at hd
      rw [upd_ne _ _ _ _ hd]
    · unfold fAppZ
      simp only [if_pos hc]
      congr 3
      funext d
      unfold app upd
      simp [wrN]
      by_cases h1 : d = M
      · simp [h1]
      · simp [h1]
  rename_i b o n sz
  split at h <;> try (cases h; done)
  rename_i kn q
  split at h <;> try (cases h; done)
  rename_i hc
  split at h <;> try (cases h; done)
  rename_i k hk
  split at h <;> try (cases h; done)
  rename_i hz
  cases h
  refine ⟨fun d hd => ?_, fun σ2 h2 => ?_⟩
  · simp [wrN] at hd
    rw [upd_ne _ _ _ _ hd.1, del_ne _ _ _ hd.2]
  · have hk2 : σ2 b = some k := by rw [h2 b (by simp [rdN]), hk]
    unfold fAppZ
    simp only [if_pos hc, hk2, if_pos hz]
    congr 3
    funext d
    unfold app upd del
    simp [wrN]
    by_cases h1 : d = M
    · simp [h1]
    · by_cases h3 : d = b
      · simp [h3]
      · simp [h1, h3]
theorem Loc2.congr {f g : Sto → Option Out} {R W : List Nat} (h : Loc2 R W σ g) (e : f = g) : Loc2 R W σ f := e ▸ h

theorem fCall_pure {b : Builtin} {ts : List TypeId} {xs : List AV} (hb : b ≠ .append) : ∃ g : Option AV, ∀ σ, fCall P b ts xs σ M = keepS σ M g := by
  unfold fCall
  split
  · exact ⟨_, fun _ => rfl⟩
  · rename_i t x
    cases elO P t with
    | none => exact ⟨none, fun _ => rfl⟩
    | some e => exact ⟨_, fun _ => rfl⟩
  · exact (hb rfl).elim
  · exact ⟨_, fun _ => rfl⟩
  · exact ⟨_, fun _ => rfl⟩
  · exact ⟨none, fun _ => rfl⟩
theorem fCall_app (ts : List TypeId) (xs : List AV) : Loc2 (xs.flatMap rdN) (M :: (xs.take 1).flatMap wrN) σ (fun σ => fCall P .append ts xs σ M) := by
  intro v σ' M' h
  match ts, xs, h with
  | [], _, h => simp [fCall] at h
  | [_], _, h => simp [fCall] at h
  | _ :: _ :: _ :: _, _, h => simp [fCall] at h
  | [_, _], [], h => simp [fCall] at h
  | [_, _], [_], h => simp [fCall] at h
  | [_, _], _ :: _ :: _ :: _, h => simp [fCall] at h
  | [t, t'], [x, y], h =>
    simp only [fCall] at h

    split at h <;> try (cases h; done)
    rename_i e s b he
    split at h <;> try (cases h; done)
    · rename_i b2 o2 n2 c2 z2
      split at h <;> try (cases h; done)
      rename_i ht
      obtain ⟨h1, h2⟩ := fApp_loc v σ' M' h
      have e : M :: List.flatMap wrN (List.take 1 [x, .sl b2 o2 n2 c2 z2]) = M :: wrN x := by simp
      rw [e]
      refine ⟨h1, fun σ2 h3 => ?_⟩
      simp only [fCall, he, if_pos ht]
      exact h2 σ2 fun b hb => h3 b (by simpa using hb)
    · rename_i q
      split at h <;> try (cases h; done)
      rename_i kz hin
      obtain ⟨h1, h2⟩ := fAppZ_loc v σ' M' h
      have e : M :: List.flatMap wrN (List.take 1 [x, .v q]) = M :: wrN x := by simp
      rw [e]
      refine ⟨h1, fun σ2 h3 => ?_⟩
      simp only [fCall, he, hin]
      exact h2 σ2 fun b hb => h3 b (by simpa using hb)
theorem fOp_loc (τ : Tm) (op : Op) : Loc2 (opR τ op) (opW τ M op) σ (fun σ => fOp P τ σ M op) := by
  cases op <;> try (intro v σ' M' h; cases h; done)
  case move x => exact Loc2.pure (x := some (ev τ x)) rfl
  case assign x => exact Loc2.pure (x := some (ev τ x)) rfl
  case pick => exact Loc2.pure rfl
  case alloc t =>
    refine (Loc2.fresh (x := match zrX P t with | some l => if 0 < l.length then some (.ptr M 0 0, ⟨t, l.length, [l], true⟩) else none | none => none)).congr ?_
    funext σ; simp only [fOp, fNew]
    cases zrX P t with
    | none => rfl
    | some l => by_cases h : 0 < l.length <;> simp [h]
  case box t x =>
    refine (Loc2.fresh (x := match cellsA (ev τ x) with | some l => if 0 < l.length then some (.ptr M 0 0, ⟨t, l.length, [l], true⟩) else none | none => none)).congr ?_
    funext σ; simp only [fOp, fNew]
    cases cellsA (ev τ x) with
    | none => rfl
    | some l => by_cases h : 0 < l.length <;> simp [h]
  case build => exact Loc2.pure rfl
  case buildSlice t n ps =>
    intro v σ' M' h
    simp only [fOp] at h
    split at h <;> try (cases h; done)
    rename_i e s b he
    unfold fBuildS at h
    simp only at h
    split at h <;> try (cases h; done)
    rename_i es hes
    split at h <;> try (cases h; done)
    rename_i hc
    split at h
    · rename_i h0
      cases h
      refine ⟨fun _ _ => rfl, fun σ2 h2 => ?_⟩
      simp only [fOp, he]
      unfold fBuildS
      simp only [hes, if_pos hc, if_pos h0, opW, app_nil]
    · rename_i h0
      cases h
      refine ⟨fun d hd => upd_ne _ _ _ _ (by simpa [opW, h0] using hd), fun σ2 h2 => ?_⟩
      simp only [fOp, he]
      unfold fBuildS
      simp only [hes, if_pos hc, if_neg h0, opW]
      rw [app_upd σ σ2 M _ _ (by simp) (by simp)]
  case load t x => exact Loc2.read fun σ2 h => fLoad_loc h
  case store t x y =>
    intro v σ' M' h
    simp only [fOp] at h
    split at h <;> try (cases h; done)
    rename_i s hs
    cases h
    obtain ⟨h1, h2⟩ := fStore_loc hs
    exact ⟨h1, fun σ2 h3 => by simp only [fOp, h2 σ2 h3]; rfl⟩
  case nilCheck => exact Loc2.pure rfl
  case binOp => exact Loc2.pure rfl
  case unOp => exact Loc2.pure rfl
  case convert s t x => exact Loc2.read fun σ2 h => fConvX_loc h
  case makeFunc fn first cap =>
    intro v σ' M' h
    simp only [fOp] at h
    split at h <;> try (cases h; done)
    split at h <;> try (cases h; done)
    rename_i hf
    cases h
    exact ⟨fun _ _ => rfl, fun σ2 _ => by simp [fOp, hf, opW, app_nil]⟩
  case makeSlice t l c =>
    intro v σ' M' h
    simp only [fOp] at h
    split at h <;> try (cases h; done)
    rename_i e s b he
    unfold fMake at h
    simp only at h
    split at h <;> try (cases h; done)
    rename_i z hz
    split at h <;> try (cases h; done)
    rename_i n hn
    split at h <;> try (cases h; done)
    rename_i m hm
    split at h <;> try (cases h; done)
    rename_i hc
    cases h
    refine ⟨fun d hd => upd_ne _ _ _ _ (by simpa [opW] using hd), fun σ2 h2 => ?_⟩
    simp only [fOp, he]
    unfold fMake
    simp only [hz, hn, hm, if_pos hc, opW]
    rw [app_upd σ σ2 M _ _ (by simp) (by simp)]
  case slice => exact Loc2.pure rfl
  case fieldAddr => exact Loc2.pure rfl
  case indexAddr t x i =>
    simp only [fOp]
    split
    · exact Loc2.pure rfl
    · intro v σ' M' h; cases h
  case index t x i =>
    simp only [fOp]
    split
    · exact Loc2.pure rfl
    · intro v σ' M' h; cases h
  case extract => exact Loc2.pure rfl
  case call c =>
    cases hc : c.callee with
    | value x => intro v σ' M' h; simp [fOp, hc] at h
    | invoke x m => intro v σ' M' h; simp [fOp, hc] at h
    | builtin b =>
      by_cases hb : b = .append
      · subst hb
        simp only [fOp, opR, opW, hc]
        exact fCall_app _ _
      · obtain ⟨g, hg⟩ := fCall_pure (P := P) (M := M) (ts := c.argTypes.toList) (xs := c.args.toList.map (ev τ)) hb
        have e1 : opR τ (.call c) = [] := by
          simp only [opR, hc]
          split
          · rename_i he; cases he; exact (hb rfl).elim
          · rfl
        have e2 : opW τ M (.call c) = [] := by
          simp only [opW, hc]
          split
          · rename_i he; cases he; exact (hb rfl).elim
          · rfl
        rw [e1, e2]
        refine (Loc2.pure (M := M) (x := g) rfl).congr ?_
        funext σ
        simp only [fOp, hc, hg]

end
end Go.Proofs.Ythjjfdbkggiaeaa
