/- An abstract store for walks, part 5: new blocks, stores, append, each held against the model's own operation. No condition: nothing of a program stands here. -/
import Derived.Test.YthjjfdbkggiaeaaAb4
set_option linter.unusedSimpArgs false
set_option linter.unusedVariables false
namespace Go.Proofs.Ythjjfdbkggiaeaa
open Go Go.RowKit

section
variable {P : Program} {B : Nat} {w0 : World} {X : Nat → Prop} {μ : Mu} {σ : Sto} {w : World}

/-- What an operation leaves: a value, a store, the first name that is free. -/
abbrev Out := AV × Sto × Nat
/-- A world and a naming behind an operation. -/
structure After (B : Nat) (w0 : World) (X : Nat → Prop) (μ : Mu) (M : Nat) (o : Out) (u : Value) (w' : World) (μ' : Mu) : Prop where
  val : VRel μ' o.1 u
  rel : Rel B w0 X μ' o.2.1 w'
  sub : Sub μ μ'
  nm : (o.2.2 = M ∧ μ' = μ) ∨ (o.2.2 = M + 1 ∧ ∀ b, b ≠ M → μ' b = μ b)

theorem After.same {M : Nat} {v : AV} {u : Value} (hR : Rel B w0 X μ σ w) (hv : VRel μ v u) : After B w0 X μ M (v, σ, M) u w μ :=
  ⟨hv, hR, Sub.refl _, .inl ⟨rfl, rfl⟩⟩

theorem free_of (hR : Rel B w0 X μ σ w) {b : Nat} (h : μ b = none) : σ b = none := by
  cases hs : σ b with
  | none => rfl
  | some k => obtain ⟨L, hL, _⟩ := hR.blk b k hs; rw [h] at hL; cases hL

theorem After.alloc {M : Nat} (hR : Rel B w0 X μ σ w) (hM : μ M = none) {t : TypeId} {sz C : Nat} {es : List (List AV)} {cs : Array Value} (hp : 0 < sz) (hC : 0 < C) (hcs : cs.size = C * sz) (hn : es.length ≤ C)
    (hl : ∀ e ∈ es, e.length = sz) (hrd : ∀ i e, es[i]? = some e → ∀ c v, e[c]? = some v → ∃ u, cs[i * sz + c]? = some u ∧ u.oneCell' = true ∧ VRel μ v u) {v : AV} {u : Value}
    (hv : VRel (upd μ M ⟨⟨w.heap.size, 0, none⟩, C, sz⟩) v u) :
    After B w0 X μ M (v, upd σ M ⟨t, sz, es, true⟩, M + 1) u (w.alloc (.cells cs t)) (upd μ M ⟨⟨w.heap.size, 0, none⟩, C, sz⟩) := by
  have h0 := hM
  exact ⟨hv, hR.alloc h0 t sz C es cs hp hC hcs hn hl hrd (free_of hR h0), Sub.upd h0 _, .inr ⟨rfl, fun b hb => upd_ne _ _ _ _ hb⟩⟩

/-! a new variable -/
def fNew (t : TypeId) (l : Option (List AV)) (σ : Sto) (M : Nat) : Option Out :=
  match l with
  | some l => if 0 < l.length then some (.ptr M 0 0, upd σ M ⟨t, l.length, [l], true⟩, M + 1) else none
  | none => none
theorem fNew_ok {t : TypeId} {l : List AV} {M : Nat} {o : Out} {cs : List Value} (hR : Rel B w0 X μ σ w) (hM : μ M = none) (hc : VRels μ l cs) (h1 : ∀ u ∈ cs, u.oneCell' = true) (h : fNew t (some l) σ M = some o) :
    After B w0 X μ M o (.pointer (some ⟨w.heap.size, 0, none⟩)) (w.alloc (.cells cs.toArray t)) (upd μ M ⟨⟨w.heap.size, 0, none⟩, 1, l.length⟩) := by
  unfold fNew at h
  simp only at h
  split at h <;> try (cases h; done)
  rename_i hp
  cases h
  refine After.alloc hR hM hp Nat.one_pos (by simp [hc.length]) (by simp) (by simp) ?_ ?_
  · have h := rd_flat (s := l.length) (es := [l]) (cs := cs) (by simp) (by simpa using hc) h1
    intro i e he c v hv
    rw [List.getElem?_toArray]
    exact h i e he c v hv
  · simp only [VRel]
    exact ⟨_, upd_eq _ _ _, by simp [Addr.add]⟩
theorem alloc_ok {t : TypeId} {M : Nat} {o : Out} (hR : Rel B w0 X μ σ w) (hM : μ M = none) (hz1 : zrOk P t = true) (h : fNew t (zrO P t) σ M = some o) :
    ∃ u w' μ', (Instr.alloc t true (.tuple #[])).run P w = .ok u w' ∧ After B w0 X μ M o u w' μ' := by
  cases hz : zrO P t with
  | none => rw [hz] at h; simp [fNew] at h
  | some l =>
    rw [hz] at h
    unfold zrO at hz
    unfold zrOk at hz1
    cases hi : P.info? t with
    | none => simp [hi] at hz
    | some it =>
      cases hzz : it.zero with
      | none => simp [hi, hzz] at hz
      | some zv =>
        simp [hi, hzz] at hz hz1
        subst hz
        have := fNew_ok (t := t) hR hM (ofVs_rel μ zv.cells.toList) (fun u hu => by
          have hu' : u ∈ zv.cells := by simpa using hu
          obtain ⟨i, hi2, rfl⟩ := Array.mem_iff_getElem.1 hu'
          exact hz1 i hi2) h
        exact ⟨_, _, _, by simp [Instr.alloc, zeroValue, typeInfo, hi, hzz, newVar, newRow], this⟩
theorem box_ok {t : TypeId} {x : AV} {c : Value} {M : Nat} {o : Out} (hR : Rel B w0 X μ σ w) (hM : μ M = none) (hx : VRel μ x c) (h : fNew t (cellsA x) σ M = some o) :
    ∃ u w' μ', (Instr.box t c).run P w = .ok u w' ∧ After B w0 X μ M o u w' μ' := by
  cases hl : cellsA x with
  | none => rw [hl] at h; simp [fNew] at h
  | some l =>
    rw [hl] at h
    obtain ⟨h1, h2⟩ := cellsA_rel hl hx
    have := fNew_ok (t := t) hR hM h1 (one_of h1 h2) h
    exact ⟨_, _, _, by simp [Instr.box, newVar, newRow], this⟩

/-! a store -/
def fStore (sz : Option Nat) (x y : AV) (σ : Sto) : Option Sto :=
  match x with
  | .ptr b i c => match σ b with
    | some k => match k.es[i]? with
      | some e => match cellsA y with
        | some l => if k.rw = true ∧ sz = some l.length ∧ c + l.length ≤ e.length then some (upd σ b { k with es := k.es.set i (e.take c ++ l ++ e.drop (c + l.length)) }) else none
        | none => none
      | none => none
    | none => none
  | _ => none
theorem fStore_ok {t : TypeId} {x y : AV} {c d : Value} {σ' : Sto} (hR : Rel B w0 X μ σ w) (hx : VRel μ x c) (hy : VRel μ y d) (h : fStore (szO P t) x y σ = some σ') :
    ∃ w', (Instr.storeAt t c d).run P w = .ok () w' ∧ Rel B w0 X μ σ' w' := by
  unfold fStore at h
  split at h <;> try (cases h; done)
  rename_i b i o
  split at h <;> try (cases h; done)
  rename_i k hb
  split at h <;> try (cases h; done)
  rename_i e he
  split at h <;> try (cases h; done)
  rename_i l hl
  split at h <;> try (cases h; done)
  rename_i hc
  cases h
  obtain ⟨hrw, hsz, hle⟩ := hc
  obtain ⟨hv, hone⟩ := cellsA_rel hl hy
  simp only [VRel] at hx
  obtain ⟨L, hL, rfl⟩ := hx
  obtain ⟨L', hL', hB⟩ := hR.blk b k hb
  rw [hL] at hL'; cases hL'
  have hi : i < k.es.length := (List.getElem?_eq_some_iff.1 he).1
  have hel : e.length = k.sz := hB.len e (List.mem_of_getElem? he)
  rcases hB.own hrw with ⟨h0, _⟩ | ⟨g, cs, ha, hbx, hg, hcs, hen, hC⟩
  · rw [h0] at hi; simp at hi
  have hmul : i * k.sz + k.sz ≤ cs.size := by
    rw [hcs]
    have : (i + 1) * k.sz ≤ L.C * k.sz := Nat.mul_le_mul_right _ (by omega)
    rw [Nat.add_mul] at this
    omega
  have hvl := hv.length
  have hst := run_storeCells_at P g (i * L.sz + o) k.ty d.cells.toList 0 cs w hg (by rw [hB.sz, ← hvl]; omega) (one_of hv hone)
  refine ⟨w.setRow g (cs.toList.take (i * L.sz + o + 0) ++ d.cells.toList ++ cs.toList.drop (i * L.sz + o + 0 + d.cells.toList.length)).toArray, ?_, hR.setRow hb hL hrw ha hg hbx hC _ _ ?_ hcs (by simp; omega) ?_ ?_⟩
  · have hne : ¬ d.cells.size ≠ l.length := by rw [hvl]; simp
    rw [ha, add_row]
    simp only [Instr.storeAt, Instr.sureAddr, storeVar, Sem.run_bind, Sem.run_pure, Result.andThen_ok, run_sizeOfO hsz, Sem.run_ite, if_neg hne]
    exact hst
  · have : d.cells.toList.length = l.length := hvl.symm
    simp only [List.size_toArray, List.length_append, List.length_take, List.length_drop, Array.length_toList, this, hB.sz]
    omega
  · intro f hf
    rcases List.mem_or_eq_of_mem_set hf with hf | rfl
    · exact hB.len f hf
    · simp; omega
  · intro j f hf q v hq
    have hdl : d.cells.toList.length = l.length := hvl.symm
    have hpos := hB.pos
    have ht : (cs.toList.take (i * k.sz + o)).length = i * k.sz + o := by rw [List.length_take, Array.length_toList]; omega
    have hto : (e.take o).length = o := by rw [List.length_take]; omega
    by_cases e1 : j = i
    · subst e1
      rw [List.getElem?_set_self hi] at hf
      cases hf
      rcases Nat.lt_or_ge q o with hqo | hqo
      · rw [List.append_assoc, List.getElem?_append_left (by simp; omega), List.getElem?_take_of_lt hqo] at hq
        obtain ⟨u, hu, h1, h2⟩ := hB.rd j e he q v hq
        refine ⟨u, ?_, h1, h2⟩
        rw [ha, add_row, cell_of_row _ _ _ _ _ _ hg] at hu
        have hlt : j * k.sz + q < j * k.sz + o := by omega
        simp only [List.getElem?_toArray, hB.sz, Nat.add_zero, List.append_assoc]
        rw [List.getElem?_append_left (by rw [ht]; exact hlt), List.getElem?_take_of_lt hlt]
        simpa using hu
      · rcases Nat.lt_or_ge q (o + l.length) with hql | hql
        · rw [List.append_assoc, List.getElem?_append_right (by omega), List.getElem?_append_left (by omega)] at hq
          have hqq : q - (e.take o).length = q - o := by omega
          rw [hqq] at hq
          obtain ⟨u, hu, h2⟩ := hv.get _ _ hq
          refine ⟨u, ?_, one_of hv hone u (List.mem_of_getElem? hu), h2⟩
          simp only [List.getElem?_toArray, hB.sz, Nat.add_zero, List.append_assoc]
          rw [List.getElem?_append_right (by omega), List.getElem?_append_left (by omega)]
          have : j * k.sz + q - (cs.toList.take (j * k.sz + o)).length = q - o := by omega
          rw [this]
          exact hu
        · rw [List.getElem?_append_right (by rw [List.length_append]; omega)] at hq
          rw [List.getElem?_drop] at hq
          have hqq : o + l.length + (q - (e.take o ++ l).length) = q := by rw [List.length_append]; omega
          rw [hqq] at hq
          obtain ⟨u, hu, h1, h2⟩ := hB.rd j e he q v hq
          refine ⟨u, ?_, h1, h2⟩
          rw [ha, add_row, cell_of_row _ _ _ _ _ _ hg] at hu
          simp only [List.getElem?_toArray, hB.sz, Nat.add_zero]
          rw [List.getElem?_append_right (by rw [List.length_append]; omega), List.getElem?_drop]
          have : j * k.sz + o + d.cells.toList.length + (j * k.sz + q - (cs.toList.take (j * k.sz + o) ++ d.cells.toList).length) = j * k.sz + q := by
            rw [List.length_append]; omega
          rw [this]
          simpa using hu
    · rw [List.getElem?_set_ne (Ne.symm e1)] at hf
      obtain ⟨u, hu, h1, h2⟩ := hB.rd j f hf q v hq
      refine ⟨u, ?_, h1, h2⟩
      rw [ha, add_row, cell_of_row _ _ _ _ _ _ hg] at hu
      have hfl : f.length = k.sz := hB.len f (List.mem_of_getElem? hf)
      have hqf : q < k.sz := by rw [← hfl]; exact (List.getElem?_eq_some_iff.1 hq).1
      simp only [List.getElem?_toArray, hB.sz, Nat.add_zero, List.append_assoc]
      rcases Nat.lt_or_ge j i with hji | hji
      · have hlt : j * k.sz + q < i * k.sz := by
          have : (j + 1) * k.sz ≤ i * k.sz := Nat.mul_le_mul_right _ (by omega)
          rw [Nat.add_mul] at this
          omega
        rw [List.getElem?_append_left (by omega), List.getElem?_take_of_lt (by omega)]
        simpa using hu
      · have hlt : i * k.sz + k.sz ≤ j * k.sz := by
          have : (i + 1) * k.sz ≤ j * k.sz := Nat.mul_le_mul_right _ (by omega)
          rw [Nat.add_mul] at this
          omega
        rw [List.getElem?_append_right (by omega), List.getElem?_append_right (by omega), List.getElem?_drop]
        have : i * k.sz + o + d.cells.toList.length + (j * k.sz + q - (cs.toList.take (i * k.sz + o)).length - d.cells.toList.length) = j * k.sz + q := by omega
        rw [this]
        simpa using hu

end
end Go.Proofs.Ythjjfdbkggiaeaa
