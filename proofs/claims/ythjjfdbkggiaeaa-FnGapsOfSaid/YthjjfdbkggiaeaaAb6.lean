/- An abstract store for walks, part 6: slices built, made and appended to, each held against the model's own operation. No condition: nothing of a program stands here. -/
import Derived.Test.YthjjfdbkggiaeaaAb5
import Derived.Great.BuildSlice
set_option linter.unusedSimpArgs false
set_option linter.unusedVariables false
namespace Go.Proofs.Ythjjfdbkggiaeaa
open Go Go.RowKit

theorem foldSet (off : Nat) : ∀ (l : List Value) (k : Nat) (cs : Array Value), off + k + l.length ≤ cs.size →
    ((l.zipIdx k).foldl (fun (cs : Array Value) (x : Value × Nat) => cs.setIfInBounds (off + x.2) x.1) cs).toList = cs.toList.take (off + k) ++ l ++ cs.toList.drop (off + k + l.length)
  | [], k, cs, h => by simp
  | v :: l, k, cs, h => by
    simp only [List.zipIdx_cons, List.foldl_cons]
    simp only [List.length_cons] at h
    rw [foldSet off l (k + 1) _ (by simp; omega)]
    have hlt : off + k < cs.size := by omega
    simp only [Array.toList_setIfInBounds, List.length_cons]
    have e1 : (cs.toList.set (off + k) v).take (off + (k + 1)) = cs.toList.take (off + k) ++ [v] := by
      rw [← Nat.add_assoc, List.take_succ_eq_append_getElem (by simp; omega), List.take_set_of_le (by omega)]
      simp
    have e2 : (cs.toList.set (off + k) v).drop (off + (k + 1) + l.length) = cs.toList.drop (off + k + (l.length + 1)) := by
      rw [List.drop_set_of_lt (by omega)]
      congr 1
      omega
    rw [e1, e2]
    simp

section
variable {P : Program} {B : Nat} {w0 : World} {X : Nat → Prop} {μ : Mu} {σ : Sto} {w : World}

/-! a slice literal -/
def fElems (s : Nat) : Nat → List (Nat × AV) → Option (List (List AV))
  | _, [] => some []
  | j, (i, x) :: r => match cellsA x with
    | some l => match fElems s (j + 1) r with
      | some es => if i = j ∧ l.length = s then some (l :: es) else none
      | none => none
    | none => none
theorem fElems_ok {s : Nat} : ∀ {parts : List (Nat × AV)} {j : Nat} {qs : List (Nat × Value)} {es : List (List AV)} (cells : Array Value), PRel μ parts qs → fElems s j parts = some es → cells.size = (j + parts.length) * s →
    ∃ ds : List Value, Instr.fill (fun i => some (i * s, s)) cells qs = some (cells.toList.take (j * s) ++ ds).toArray ∧ VRels μ es.flatten ds ∧ (∀ u ∈ ds, u.oneCell' = true) ∧ (∀ e ∈ es, e.length = s) ∧ es.length = parts.length
  | [], j, [], es, cells, _, h, hc => by
    simp [fElems] at h
    subst h
    refine ⟨[], ?_, by simp [VRels], by simp, by simp, rfl⟩
    have : cells.toList.take (j * s) = cells.toList := List.take_of_length_le (by simp [hc])
    simp [Instr.fill, this]
  | (i, x) :: parts, j, (i', c) :: qs, es, cells, hp, h, hc => by
    simp only [PRel] at hp
    obtain ⟨rfl, hx, hp⟩ := hp
    simp only [fElems] at h
    split at h <;> try (cases h; done)
    rename_i l hl
    split at h <;> try (cases h; done)
    rename_i es' hes
    split at h <;> try (cases h; done)
    rename_i hij
    obtain ⟨rfl, hls⟩ := hij
    cases h
    obtain ⟨hv, hone⟩ := cellsA_rel hl hx
    have hvl := hv.length
    have hcl : c.cells.toList.length = s := by omega
    have hsz : (i + (parts.length + 1)) * s = i * s + (parts.length + 1) * s := Nat.add_mul _ _ _
    have hsz2 : (parts.length + 1) * s = parts.length * s + s := by rw [Nat.add_mul]; omega
    simp only [List.length_cons] at hc
    have hfit : i * s + 0 + c.cells.toList.length ≤ cells.size := by rw [hc, hcl]; omega
    have hfold := foldSet (i * s) c.cells.toList 0 cells hfit
    have hA : (c.cells.zipIdx.foldl (fun cs (x : Value × Nat) => cs.setIfInBounds (i * s + x.2) x.1) cells) = (cells.toList.take (i * s) ++ c.cells.toList ++ cells.toList.drop (i * s + s)).toArray := by
      rw [← Array.foldl_toList, Array.toList_zipIdx]
      apply Array.toList_inj.1
      rw [hfold, hcl]
      simp
    have hsize : (cells.toList.take (i * s) ++ c.cells.toList ++ cells.toList.drop (i * s + s)).toArray.size = (i + 1 + parts.length) * s := by
      simp only [List.size_toArray, List.length_append, List.length_take, List.length_drop, Array.length_toList, hcl, hc]
      have : (i + 1 + parts.length) * s = i * s + s + parts.length * s := by simp [Nat.add_mul]
      omega
    obtain ⟨ds, h1, h2, h3, h4, h5⟩ := fElems_ok (cells.toList.take (i * s) ++ c.cells.toList ++ cells.toList.drop (i * s + s)).toArray hp hes hsize
    refine ⟨c.cells.toList ++ ds, ?_, ?_, ?_, ?_, by simp [h5]⟩
    · have hcs : c.cells.size = s := by simpa using hcl
      have hb : ¬ (c.cells.size ≠ s || decide (i * s + c.cells.size > cells.size)) = true := by
        simp [hcs]
        rw [hc]
        omega
      simp only [Instr.fill, if_neg hb]
      have e : (cells.toList.take (i * s) ++ c.cells.toList ++ cells.toList.drop (i * s + s)).take ((i + 1) * s) = cells.toList.take (i * s) ++ c.cells.toList := by
        rw [List.take_append_of_le_length (by simp only [List.length_append, List.length_take, Array.length_toList, hcl, Nat.add_mul, hc]; omega)]
        exact List.take_of_length_le (by simp only [List.length_append, List.length_take, Array.length_toList, hcl, Nat.add_mul, hc]; omega)
      rw [show (cells.toList.take (i * s) ++ c.cells.toList ++ cells.toList.drop (i * s + s)).toArray.toList = cells.toList.take (i * s) ++ c.cells.toList ++ cells.toList.drop (i * s + s) from rfl, e] at h1
      show Instr.fill _ (c.cells.zipIdx.foldl (fun cs (x : Value × Nat) => cs.setIfInBounds (i * s + x.2) x.1) cells) qs = _
      rw [hA, h1, List.append_assoc]
    · rw [List.flatten_cons]
      exact hv.append h2
    · intro u hu
      rcases List.mem_append.1 hu with hu | hu
      · exact one_of hv hone u hu
      · exact h3 u hu
    · intro e he
      rcases List.mem_cons.1 he with rfl | he
      · exact hls
      · exact h4 e he
  | [], _, _ :: _, _, _, hp, _, _ => by simp [PRel] at hp
  | _ :: _, _, [], _, _, hp, _, _ => by simp [PRel] at hp

def fBuildS (e : Option TypeId) (s : Option Nat) (len : Nat) (parts : List (Nat × AV)) (σ : Sto) (M : Nat) : Option Out :=
  match e with
  | some e => match s with
    | some s => match fElems s 0 parts with
      | some es => if len = parts.length ∧ 0 < s ∧ len * s ≤ 16777216 then
          if len = 0 then some (.sl 0 0 0 (some 0) 0, σ, M) else some (.sl M 0 len (some len) s, upd σ M ⟨e, s, es, true⟩, M + 1)
        else none
      | none => none
    | none => none
  | none => none
theorem fBuildS_ok {t : TypeId} {len M : Nat} {parts : List (Nat × AV)} {qs : List (Nat × Value)} {o : Out} (hR : Rel B w0 X μ σ w) (hM : μ M = none) (hp : PRel μ parts qs) (hz : ∀ e, elO P t = some e → (zrO P e).isSome = true)
    (h : fBuildS (elO P t) ((elO P t).bind (szO P)) len parts σ M = some o) :
    ∃ u w' μ', (Instr.buildSlice t len qs.toArray).run P w = .ok u w' ∧ After B w0 X μ M o u w' μ' := by
  unfold fBuildS at h
  split at h <;> try (cases h; done)
  rename_i e he
  rw [he] at h
  simp only [Option.bind_some] at h
  split at h <;> try (cases h; done)
  rename_i s hs
  split at h <;> try (cases h; done)
  rename_i es hes
  split at h <;> try (cases h; done)
  rename_i hc
  obtain ⟨rfl, hs0, hsmall⟩ := hc
  have hz' := hz e he
  unfold elO at he
  split at he <;> try (cases he; done)
  rename_i hu
  cases he
  unfold szO at hs
  unfold zrO at hz'
  cases hi : P.info? e with
  | none => simp [hi] at hs
  | some ie =>
    cases hzz : ie.zero with
    | none => simp [hi, hzz] at hz'
    | some zv =>
      simp [hi] at hs
      have hns : ¬ parts.length * ie.size > 2 ^ 24 := by rw [hs]; omega
      split at h
      · rename_i h0
        cases h
        have hp0 : parts = [] := List.eq_nil_of_length_eq_zero h0
        subst hp0
        have e0 : ∀ f : Nat → Value, (Array.range 0).map f = #[] := fun f => Array.eq_empty_of_size_eq_zero (by simp)
        match qs, hp with
        | [], _ =>
          refine ⟨.slice (some ⟨w.heap.size, 0, none⟩) 0 0, w.alloc (.cells #[] e), μ, ?_, ?_, hR.moveB ((Below.refl _ _).alloc (Nat.le_refl _) _), Sub.refl _, .inl ⟨rfl, rfl⟩⟩
          · simp [Instr.buildSlice, run_underlying hu, sizeOf, typeInfo, hi, Instr.fill, newRow, e0]
          · simp only [VRel]
            exact ⟨some ⟨w.heap.size, 0, none⟩, 0, rfl, Nat.le_refl _, fun k hk => (by cases hk; rfl), .inl (by simp)⟩
      · rename_i h0
        cases h
        have hpos : ¬ parts.length * ie.size = 0 := by
          rw [hs]
          exact Nat.mul_ne_zero h0 (by omega)
        obtain ⟨ds, h1, h2, h3, h4, h5⟩ := fElems_ok (s := s) (j := 0) ((Array.range (parts.length * ie.size)).map (zv.cells[· % zv.cells.size]!)) hp hes (by simp [hs])
        simp only [Nat.zero_mul, List.take_zero, List.nil_append] at h1
        have hrun := run_buildSlice (P := P) w t e parts.length qs.toArray ds.toArray ie zv hu hi hzz hns hpos (by rw [hs] at h1 ⊢; simpa using h1)
        have hdl : ds.length = parts.length * s := by rw [← h2.length, flat_len h4, h5]
        refine ⟨_, _, _, hrun, After.alloc (C := parts.length) hR hM hs0 (by omega) (by simp [hdl]) (by omega) h4 (fun i e he c v hv => by rw [List.getElem?_toArray]; exact rd_flat h4 h2 h3 i e he c v hv) ?_⟩
        simp only [VRel]
        exact ⟨_, _, rfl, Nat.le_refl _, fun k hk => (by cases hk; rfl), .inr ⟨_, upd_eq _ _ _, rfl, fun _ => ⟨by simp [Addr.add], by simp⟩⟩⟩

/-! make -/
theorem made_get (z : Array Value) (n s : Nat) (hz : z.size = s) (i c : Nat) (hi : i < n) (hc : c < s) : (madeCells z (n * s))[i * s + c]? = z[c]? := by
  have hlt : i * s + c < n * s := by
    have : (i + 1) * s ≤ n * s := Nat.mul_le_mul_right _ (by omega)
    rw [Nat.add_mul] at this
    omega
  have hmod : (i * s + c) % s = c := by rw [Nat.add_comm, Nat.add_mul_mod_self_right]; exact Nat.mod_eq_of_lt hc
  simp [madeCells, hlt, hz, hmod]
  rw [Array.getElem?_eq_getElem (by omega), getElem!_pos _ _ (by omega)]

def fMake (e : Option TypeId) (z : Option (List AV)) (by_ : Nat) (l c : AV) (σ : Sto) (M : Nat) : Option Out :=
  match e with
  | some e => match z with
    | some z => match num l with
      | some n => match num c with
        | some m => if n = m ∧ 0 < z.length ∧ by_ * n ≤ 140737488355328 ∧ n ≤ 4611686018427387904 then some (.sl M 0 n (some n) z.length, upd σ M ⟨e, z.length, List.replicate n z, true⟩, M + 1) else none
        | none => none
      | none => none
    | none => none
  | none => none
theorem fMake_ok {t : TypeId} {M : Nat} {l c : AV} {cl cc : Value} {o : Out} (hR : Rel B w0 X μ σ w) (hM : μ M = none) (hl : VRel μ l cl) (hc : VRel μ c cc) (hz1 : ∀ e, elO P t = some e → zrOk P e = true ∧ (zrO P e).map (·.length) = szO P e)
    (h : fMake (elO P t) ((elO P t).bind (zrO P)) (((elO P t).map (byO P)).getD 0) l c σ M = some o) :
    ∃ u w' μ', (Instr.makeSlice t cl cc).run P w = .ok u w' ∧ After B w0 X μ M o u w' μ' := by
  unfold fMake at h
  split at h <;> try (cases h; done)
  rename_i e he
  rw [he] at h
  simp only [Option.bind_some, Option.map_some, Option.getD_some] at h
  split at h <;> try (cases h; done)
  rename_i z hz
  split at h <;> try (cases h; done)
  rename_i n hn
  split at h <;> try (cases h; done)
  rename_i m hm
  split at h <;> try (cases h; done)
  rename_i hcnd
  obtain ⟨rfl, hz0, hby, hbig⟩ := hcnd
  cases h
  obtain ⟨hz1, hz2⟩ := hz1 e he
  obtain ⟨k1, rfl⟩ := num_ok hn hl
  obtain ⟨k2, rfl⟩ := num_ok hm hc
  unfold elO at he
  split at he <;> try (cases he; done)
  rename_i hu
  cases he
  unfold zrO at hz hz2
  unfold zrOk at hz1
  unfold szO at hz2
  unfold byO at hby
  cases hi : P.info? e with
  | none => simp [hi] at hz
  | some ie =>
    cases hzz : ie.zero with
    | none => simp [hi, hzz] at hz
    | some zv =>
      simp only [hi, hzz, Option.bind_some, Option.map_some, Option.some.injEq, Option.getD_some, List.length_map, Array.length_toList] at hz hz1 hz2 hby
      subst hz
      have hsz : zv.cells.size = ie.size := by
        have := congrArg (fun x => x) hz2
        simpa using hz2
      simp only [List.length_map, Array.length_toList] at hz0 ⊢
      have hrun := run_make (P := P) w t e ie zv hu hi hzz k1 k2 n n (by omega) (by omega) (by
        have h : ((ie.bytes * n : Nat) : Int) ≤ 281474976710656 := by omega
        rwa [Int.natCast_mul] at h) (by omega)
      simp only [Int.toNat_natCast] at hrun
      have h0 := hM
      rcases Nat.eq_zero_or_pos n with rfl | hpos
      · refine ⟨_, _, _, hrun, ?_, (hR.moveB ((Below.refl _ _).alloc (Nat.le_refl _) _)).virt h0 e _ hz0 (free_of hR h0) ⟨w.heap.size, 0, none⟩, Sub.upd h0 _, .inr ⟨rfl, fun b hb => upd_ne _ _ _ _ hb⟩⟩
        simp only [VRel]
        exact ⟨_, _, rfl, Nat.le_refl _, fun k hk => (by cases hk; rfl), .inl (by simp)⟩
      · refine ⟨_, _, _, hrun, After.alloc (C := n) hR hM hz0 hpos (by rw [size_madeCells, hsz]) (by simp) ?_ ?_ ?_⟩
        · intro x hx
          have := List.eq_of_mem_replicate hx
          subst this
          simp
        · intro i x hx c v hv
          have hin : i < n := by
            have := (List.getElem?_eq_some_iff.1 hx).1
            simpa using this
          have hx' : x = zv.cells.toList.map ofV := List.eq_of_mem_replicate (List.mem_of_getElem? hx)
          subst hx'
          have hcl : c < zv.cells.size := by
            have := (List.getElem?_eq_some_iff.1 hv).1
            simpa using this
          obtain ⟨u, hu', hr⟩ := (ofVs_rel μ zv.cells.toList).get c v hv
          refine ⟨u, ?_, ?_, hr⟩
          · rw [← hsz, made_get zv.cells n _ rfl i c hin hcl]
            simpa using hu'
          · have := List.all_eq_true.1 hz1 u (List.mem_of_getElem? hu')
            exact this
        · simp only [VRel]
          exact ⟨_, _, rfl, Nat.le_refl _, fun k hk => (by cases hk; rfl), .inr ⟨_, upd_eq _ _ _, rfl, fun _ => ⟨by simp [Addr.add], by simp⟩⟩⟩

end
end Go.Proofs.Ythjjfdbkggiaeaa
