/- An abstract store for walks, part 9: the operations are right, all in one. No condition: nothing of a program stands here. -/
import Derived.Test.YthjjfdbkggiaeaaAb8
set_option linter.unusedSimpArgs false
set_option linter.unusedVariables false
namespace Go.Proofs.Ythjjfdbkggiaeaa
open Go Go.RowKit

section
variable {P : Program} {B : Nat} {w0 : World} {X : Nat → Prop} {μ : Mu} {σ : Sto} {w : World}

theorem fCall_ok {b : Builtin} {ts : List TypeId} {xs : List AV} {cs : List Value} {M : Nat} {out : Out} {ty : TypeId} (hR : Rel B w0 X μ σ w) (hM : μ M = none) (hx : VRels μ xs cs) (h : fCall P b ts xs σ M = some out) :
    ∃ u w' μ', (∀ consts, (builtin b ts.toArray ty consts cs.toArray).run P w = .ok (.value u) w') ∧ After B w0 X μ M out u w' μ' := by
  unfold fCall at h
  split at h <;> try (cases h; done)
  · rename_i t x
    obtain ⟨v, hv, rfl⟩ := keepS_ok h
    match cs, hx with
    | [c], hx =>
      simp only [VRels, and_true] at hx
      unfold fLenX at hv
      split at hv <;> try (cases hv; done)
      · rename_i hs
        split at hv <;> try (cases hv; done)
        rename_i s _
        obtain ⟨u, hu, hr⟩ := fLen_ok (P := P) (ty := ty) (r := v) (by rw [hs]; rfl) ⟨fun _ => hs, fun _ => ⟨s, rfl⟩⟩ hx (by unfold fLen; exact hv) w
        exact ⟨u, w, μ, fun _ => by simp [builtin, hu], After.same hR hr⟩
      · rename_i z hs
        split at hv <;> try (cases hv; done)
        obtain ⟨u, hu, hr⟩ := fLen_ok (P := P) (ty := ty) (r := v) (by rw [hs]; rfl) ⟨fun ⟨s, e⟩ => (by cases e), fun e => (by rw [hs] at e; cases e)⟩ hx (by unfold fLen; exact hv) w
        exact ⟨u, w, μ, fun _ => by simp [builtin, hu], After.same hR hr⟩
  · rename_i t x
    split at h <;> try (cases h; done)
    rename_i e he
    obtain ⟨v, hv, rfl⟩ := keepS_ok h
    match cs, hx with
    | [c], hx =>
      simp only [VRels, and_true] at hx
      unfold elO at he
      split at he <;> try (cases he; done)
      rename_i hu
      obtain ⟨u, hu', hr⟩ := fCap_ok (ty := ty) hu hx hv w
      exact ⟨u, w, μ, fun _ => by simp [builtin, hu'], After.same hR hr⟩
  · rename_i t t' x y
    split at h <;> try (cases h; done)
    rename_i e s b he
    obtain ⟨h1, h2, h3, h4, h5⟩ := elX_ok he
    split at h <;> try (cases h; done)
    · rename_i b2 o2 n2 c2 z2
      split at h <;> try (cases h; done)
      rename_i htt
      subst htt
      match cs, hx with
      | [c, d], hx =>
        simp only [VRels, and_true] at hx
        obtain ⟨u, w', μ', hu, ha⟩ := fApp_ok (P := P) (t := t) (ty := ty) hR hM hx.1 hx.2 (fun e' he' => by rw [h1] at he'; cases he'; rw [h4, h2]) ⟨_, _, _, _, _, rfl⟩ (o := out) (by rw [h1]; simpa [h2, h5] using h)
        exact ⟨u, w', μ', fun _ => by simp [builtin, hu], ha⟩
    · rename_i q
      split at h <;> try (cases h; done)
      rename_i kz hin
      match cs, hx with
      | [c, d], hx =>
        simp only [VRels, and_true] at hx
        have hzx : zrX P e = zrO P e := by unfold zrX; rw [if_pos h3]
        obtain ⟨u, w', μ', hu, ha⟩ := fAppZ_ok (P := P) (t := t) (u := t') (ty := ty) (kz := kz) hR hM hx.1 hx.2 (inO_ok hin) (fun e' he' => by rw [h1] at he'; cases he'; exact h3) (o := out) (by rw [h1]; simpa [h2, h5, hzx] using h)
        exact ⟨u, w', μ', fun _ => by simp [builtin, hu], ha⟩
  · rename_i x y
    obtain ⟨v, hv, rfl⟩ := keepS_ok h
    match cs, hx with
    | [c, d], hx =>
      simp only [VRels, and_true] at hx
      obtain ⟨u, hu, hr⟩ := fMin_ok (P := P) (ts := ts.toArray) (ty := ty) hx.1 hx.2 hv w
      exact ⟨u, w, μ, fun _ => by simp [builtin, hu], After.same hR hr⟩
  · rename_i x y
    obtain ⟨v, hv, rfl⟩ := keepS_ok h
    match cs, hx with
    | [c, d], hx =>
      simp only [VRels, and_true] at hx
      obtain ⟨u, hu, hr⟩ := fMax_ok (P := P) (ts := ts.toArray) (ty := ty) hx.1 hx.2 hv w
      exact ⟨u, w, μ, fun _ => by simp [builtin, hu], After.same hR hr⟩

/-- **Every operation is right.** -/
theorem fOp_ok {τ : Tm} {a : Act} {o : Oper} {M : Nat} {out : Out} (hR : Rel B w0 X μ σ w) (hM : μ M = none) (hT : TRel μ τ a.tmps) (h : fOp P τ σ M o.op = some out) :
    ∃ nx u w' μ', (execOp a.eval o).run P w = .ok nx w' ∧ (nx = .value u ∨ nx = .skip ∧ u = undef) ∧ After B w0 X μ M out u w' μ' := by
  unfold fOp at h
  split at h <;> try (cases h; done)
  · rename_i x ho
    cases h
    exact ⟨_, _, w, μ, by simp [execOp, ho], .inl rfl, After.same hR (ev_rel hT x)⟩
  · rename_i x ho
    cases h
    exact ⟨_, _, w, μ, by simp [execOp, ho], .inl rfl, After.same hR (ev_rel hT x)⟩
  · rename_i c x y ho
    obtain ⟨v, hv, rfl⟩ := keepS_ok h
    obtain ⟨u, hu, hr⟩ := fPick_ok (P := P) (ev_rel hT c) (ev_rel hT x) (ev_rel hT y) hv w
    exact ⟨_, u, w, μ, by simpa [execOp, ho] using hu, .inl rfl, After.same hR hr⟩
  · rename_i t ho
    unfold zrX at h
    split at h <;> try (simp [fNew] at h; done)
    rename_i hz
    obtain ⟨u, w', μ', hu, ha⟩ := alloc_ok hR hM hz h
    exact ⟨_, u, w', μ', by simp [execOp, ho, hu], .inl rfl, ha⟩
  · rename_i t x ho
    obtain ⟨u, w', μ', hu, ha⟩ := box_ok (P := P) hR hM (ev_rel hT x) h
    exact ⟨_, u, w', μ', by simp [execOp, ho, hu], .inl rfl, ha⟩
  · rename_i t ps ho
    obtain ⟨v, hv, rfl⟩ := keepS_ok h
    obtain ⟨u, hu, hr⟩ := fBuild_ok (P := P) (evp_rel hT ps.toList) hv w
    have e : (List.map (fun p => (p.1, a.eval p.2)) ps.toList).toArray = ps.map fun (i, x) => (i, a.eval x) := by
      apply Array.toList_inj.1; simp
    rw [e] at hu
    exact ⟨_, u, w, μ, by simp [execOp, ho, hu], .inl rfl, After.same hR hr⟩
  · rename_i t n ps ho
    split at h <;> try (cases h; done)
    rename_i e s b he
    obtain ⟨h1, h2, h3, h4, h5⟩ := elX_ok he
    obtain ⟨u, w', μ', hu, ha⟩ := fBuildS_ok (P := P) (t := t) hR hM (evp_rel hT ps.toList) (fun e' he' => by rw [h1] at he'; cases he'; cases hz : zrO P e <;> simp_all) (o := out) (len := n) (by rw [h1]; simpa [h2] using h)
    have e : (List.map (fun p => (p.1, a.eval p.2)) ps.toList).toArray = ps.map fun (i, x) => (i, a.eval x) := by
      apply Array.toList_inj.1; simp
    rw [e] at hu
    exact ⟨_, u, w', μ', by simp [execOp, ho, hu], .inl rfl, ha⟩
  · rename_i t x ho
    obtain ⟨v, hv, rfl⟩ := keepS_ok h
    obtain ⟨u, hu, hr⟩ := fLoad_ok hR (ev_rel hT x) hv
    exact ⟨_, u, w, μ, by simp [execOp, ho, hu], .inl rfl, After.same hR hr⟩
  · rename_i t x y ho
    split at h <;> try (cases h; done)
    rename_i σ' hs
    cases h
    obtain ⟨w', hu, hr⟩ := fStore_ok hR (ev_rel hT x) (ev_rel hT y) hs
    exact ⟨_, undef, w', μ, by simp [execOp, ho, hu], .inr ⟨rfl, rfl⟩, by simp [VRel], hr, Sub.refl _, .inl ⟨rfl, rfl⟩⟩
  · rename_i x ho
    obtain ⟨v, hv, rfl⟩ := keepS_ok h
    have hx := ev_rel hT x
    unfold fNil at hv
    split at hv <;> try (cases hv; done)
    rename_i b i c heq
    cases hv
    rw [heq] at hx
    have hx' := hx
    simp only [VRel] at hx
    obtain ⟨L, hL, hp⟩ := hx
    exact ⟨.value (a.eval x), a.eval x, w, μ, by simp [execOp, ho, hp], .inl rfl, After.same hR hx'⟩
  · rename_i op t x y yt ho
    obtain ⟨v, hv, rfl⟩ := keepS_ok h
    obtain ⟨u, hu, hr⟩ := fBinX_ok hT hv w
    refine ⟨_, u, w, μ, ?_, .inl rfl, After.same hR hr⟩
    simp only [execOp, ho]
    rw [Sem.run_bind, hu]
    rfl
  · rename_i op t x ho
    obtain ⟨v, hv, rfl⟩ := keepS_ok h
    obtain ⟨u, hu, hr⟩ := fUn_ok (P := P) (ev_rel hT x) hv w
    exact ⟨_, u, w, μ, by simp [execOp, ho, hu], .inl rfl, After.same hR hr⟩
  · rename_i s t x ho
    obtain ⟨v, hv, rfl⟩ := keepS_ok h
    obtain ⟨u, hu, hr⟩ := fConvX_ok hR (ev_rel hT x) hv
    exact ⟨_, u, w, μ, by simp [execOp, ho, hu], .inl rfl, After.same hR hr⟩
  · rename_i fn first cap ho
    split at h <;> try (cases h; done)
    rename_i f
    split at h <;> try (cases h; done)
    rename_i hf
    cases h
    have hf' : first = #[] := by apply Array.toList_inj.1; simpa using hf
    subst hf'
    refine ⟨_, .func (.func f) #[] (cap.map a.eval), w, μ, by simp [execOp, ho, Instr.makeFunc], .inl rfl, After.same hR ?_⟩
    simp only [VRel]
    exact ⟨cap.toList.map a.eval, by congr 1; apply Array.toList_inj.1; simp, evs_rel hT _⟩
  · rename_i t l c ho
    split at h <;> try (cases h; done)
    rename_i e s b he
    obtain ⟨h1, h2, h3, h4, h5⟩ := elX_ok he
    obtain ⟨u, w', μ', hu, ha⟩ := fMake_ok (P := P) (t := t) hR hM (ev_rel hT l) (ev_rel hT c) (fun e' he' => by rw [h1] at he'; cases he'; exact ⟨h3, by rw [h4, h2]⟩) (o := out) (by rw [h1]; simpa [h5] using h)
    exact ⟨_, u, w', μ', by simp [execOp, ho, hu], .inl rfl, ha⟩
  · rename_i t x lo hi mx ho
    obtain ⟨v, hv, rfl⟩ := keepS_ok h
    have hx := ev_rel hT x
    unfold fSliceX at hv
    split at hv <;> try (cases hv; done)
    · rename_i hs
      split at hv <;> try (cases hv; done)
      rename_i s heq
      rw [heq] at hx
      obtain ⟨u, hu, hr⟩ := fSlice_ok (P := P) (w := w) hs hx (evo_rel hT lo) (evo_rel hT hi) (evo_rel hT mx) ⟨fun _ => rfl, fun _ => ⟨s, rfl⟩⟩ hv
      exact ⟨_, u, w, μ, by simp [execOp, ho, hu], .inl rfl, After.same hR hr⟩
    · rename_i z hs
      split at hv <;> try (cases hv; done)
      rename_i b o' n cap sz heq
      rw [heq] at hx
      obtain ⟨u, hu, hr⟩ := fSlice_ok (P := P) (w := w) hs hx (evo_rel hT lo) (evo_rel hT hi) (evo_rel hT mx) ⟨fun ⟨s, e⟩ => (by cases e), fun e => (by cases e)⟩ hv
      exact ⟨_, u, w, μ, by simp [execOp, ho, hu], .inl rfl, After.same hR hr⟩
  · rename_i t x f ho
    obtain ⟨v, hv, rfl⟩ := keepS_ok h
    obtain ⟨u, hu, hr⟩ := fFieldA_ok (P := P) (w := w) (ev_rel hT x) hv
    exact ⟨_, u, w, μ, by simp [execOp, ho, hu], .inl rfl, After.same hR hr⟩
  · rename_i t x i ho
    split at h <;> try (cases h; done)
    rename_i e s b he
    obtain ⟨h1, h2, h3, h4, h5⟩ := elX_ok he
    obtain ⟨v, hv, rfl⟩ := keepS_ok h
    obtain ⟨u, hu, hr⟩ := fIdxA_ok (P := P) (t := t) (w := w) (ev_rel hT x) (ev_rel hT i) (v := v) (by rw [h1]; simpa [h2] using hv)
    exact ⟨_, u, w, μ, by simp [execOp, ho, hu], .inl rfl, After.same hR hr⟩
  · rename_i t x i ho
    split at h <;> try (cases h; done)
    rename_i hs
    obtain ⟨v, hv, rfl⟩ := keepS_ok h
    have hu : P.underlying t = some .string := by
      unfold stO at hs
      split at hs <;> simp_all
    obtain ⟨u, hu, hr⟩ := fIdx_ok (P := P) (w := w) hu (ev_rel hT x) (ev_rel hT i) hv
    exact ⟨_, u, w, μ, by simp [execOp, ho, hu], .inl rfl, After.same hR hr⟩
  · rename_i x i ho
    obtain ⟨v, hv, rfl⟩ := keepS_ok h
    obtain ⟨u, hu, hr⟩ := fExt_ok (P := P) (ev_rel hT x) hv w
    exact ⟨_, u, w, μ, by simp [execOp, ho, hu], .inl rfl, After.same hR hr⟩
  · rename_i c ho
    split at h <;> try (cases h; done)
    rename_i b hb
    obtain ⟨u, w', μ', hu, ha⟩ := fCall_ok (P := P) (ty := o.type) hR hM (evs_rel hT c.args.toList) h
    refine ⟨_, u, w', μ', ?_, .inl rfl, ha⟩
    have e : (List.map a.eval c.args.toList).toArray = c.args.map a.eval := by
      apply Array.toList_inj.1; simp
    rw [e] at hu
    simp only [execOp, ho, resolve, hb, Sem.run_bind, Sem.run_pure, Result.andThen_ok, invoke]
    simpa using hu _

end
end Go.Proofs.Ythjjfdbkggiaeaa
