/- An abstract store for walks, part 4: operations that make and write memory, each held against the model's own operation. No condition: nothing of a program stands here. -/
import Derived.Test.YthjjfdbkggiaeaaAb3
set_option linter.unusedSimpArgs false
set_option linter.unusedVariables false
namespace Go.Proofs.Ythjjfdbkggiaeaa
open Go Go.RowKit

theorem flat_get {α : Type} {s : Nat} : ∀ {es : List (List α)}, (∀ e ∈ es, e.length = s) → ∀ (i : Nat) (e : List α), es[i]? = some e → ∀ (c : Nat) (v : α), e[c]? = some v → es.flatten[i * s + c]? = some v
  | [], _, i, e, h, _, _, _ => by simp at h
  | x :: es, hl, 0, e, h, c, v, hv => by
    simp at h
    subst h
    have hc : c < x.length := (List.getElem?_eq_some_iff.1 hv).1
    simp only [List.flatten_cons, Nat.zero_mul, Nat.zero_add]
    rw [List.getElem?_append_left hc]
    exact hv
  | x :: es, hl, i + 1, e, h, c, v, hv => by
    have hx := hl x (by simp)
    simp only [List.flatten_cons]
    rw [List.getElem?_append_right (by rw [hx, Nat.add_mul]; omega)]
    have : (i + 1) * s + c - x.length = i * s + c := by rw [hx, Nat.add_mul]; omega
    rw [this]
    exact flat_get (fun e he => hl e (by simp [he])) i e (by simpa using h) c v hv

theorem flat_len {α : Type} {s : Nat} : ∀ {es : List (List α)}, (∀ e ∈ es, e.length = s) → es.flatten.length = es.length * s
  | [], _ => by simp
  | x :: es, hl => by
    have h1 := hl x (by simp)
    have h2 := flat_len (s := s) (es := es) (fun e he => hl e (by simp [he]))
    rw [List.flatten_cons, List.length_append, h2, h1, List.length_cons, Nat.add_mul]
    omega

theorem rd_flat {μ : Mu} {s : Nat} {es : List (List AV)} {cs : List Value} (hl : ∀ e ∈ es, e.length = s) (h : VRels μ es.flatten cs) (h1 : ∀ u ∈ cs, u.oneCell' = true) :
    ∀ i e, es[i]? = some e → ∀ c v, e[c]? = some v → ∃ u, cs[i * s + c]? = some u ∧ u.oneCell' = true ∧ VRel μ v u := by
  intro i e he c v hv
  obtain ⟨u, hu, hr⟩ := h.get _ _ (flat_get hl i e he c v hv)
  exact ⟨u, hu, h1 u (List.mem_of_getElem? hu), hr⟩

theorem one_of {μ : Mu} : ∀ {l : List AV} {cs : List Value}, VRels μ l cs → l.all oneA = true → ∀ u ∈ cs, u.oneCell' = true
  | [], [], _, _ => by simp
  | x :: l, c :: cs, h, ha => by
    simp only [VRels] at h
    simp only [List.all_cons, Bool.and_eq_true] at ha
    intro u hu
    rcases List.mem_cons.1 hu with rfl | hu
    · exact oneA_rel ha.1 h.1
    · exact one_of h.2 ha.2 u hu
  | [], _ :: _, h, _ => by simp [VRels] at h
  | _ :: _, [], h, _ => by simp [VRels] at h

section
variable {P : Program} {B : Nat} {w0 : World} {X : Nat → Prop} {μ : Mu} {σ : Sto} {w : World}

/-- The cells of a stretch of a block. -/
theorem BRel.cells {L : Loc} {k : Blk} (h : BRel B X μ w L k) (o : Nat) : ∀ n, o + n ≤ k.es.length → ∃ cs : List Value, cs.length = n * k.sz ∧ (∀ j u, cs[j]? = some u → w.cell? ((L.a.add (o * k.sz)).add j) = some u) ∧ VRels μ ((k.es.drop o).take n).flatten cs ∧ ∀ u ∈ cs, u.oneCell' = true
  | 0, _ => ⟨[], by simp, by simp, by simp [VRels], by simp⟩
  | n + 1, hn => by
    obtain ⟨cs, h1, h2, h3, h4⟩ := h.cells o n (by omega)
    have hlt : o + n < k.es.length := by omega
    have hel : k.es[o + n].length = k.sz := h.len _ (List.getElem_mem hlt)
    have key : ∀ m, m ≤ k.sz → ∃ ds : List Value, ds.length = m ∧ (∀ j u, ds[j]? = some u → w.cell? (L.a.add ((o + n) * k.sz + j)) = some u) ∧ VRels μ (k.es[o + n].take m) ds ∧ ∀ u ∈ ds, u.oneCell' = true := by
      intro m
      induction m with
      | zero => intro _; exact ⟨[], rfl, by simp, by simp [VRels], by simp⟩
      | succ m ih =>
        intro hm
        obtain ⟨ds, g1, g2, g3, g4⟩ := ih (by omega)
        have hml : m < k.es[o + n].length := by omega
        obtain ⟨u, hu, hone, hv⟩ := h.rd (o + n) k.es[o + n] (List.getElem?_eq_getElem hlt) m _ (List.getElem?_eq_getElem hml)
        refine ⟨ds ++ [u], by simp [g1], fun j y hy => ?_, ?_, ?_⟩
        · rcases Nat.lt_or_ge j ds.length with hj | hj
          · rw [List.getElem?_append_left hj] at hy; exact g2 j y hy
          · rw [List.getElem?_append_right hj] at hy
            have : j = m := by
              rcases Nat.eq_zero_or_pos (j - ds.length) with h0 | h0
              · omega
              · rw [List.getElem?_eq_none (by simp; omega)] at hy; cases hy
            subst this
            simp [g1] at hy
            subst hy
            exact hu
        · rw [List.take_succ_eq_append_getElem hml]
          exact g3.append (by simp [VRels, hv])
        · intro y hy
          rcases List.mem_append.1 hy with hy | hy
          · exact g4 y hy
          · simp at hy; subst hy; exact hone
    obtain ⟨ds, g1, g2, g3, g4⟩ := key k.sz (Nat.le_refl _)
    refine ⟨cs ++ ds, by rw [List.length_append, h1, g1, Nat.add_mul]; omega, fun j u hu => ?_, ?_, ?_⟩
    · rcases Nat.lt_or_ge j cs.length with hj | hj
      · rw [List.getElem?_append_left hj] at hu; exact h2 j u hu
      · rw [List.getElem?_append_right hj] at hu
        have := g2 _ u hu
        rw [add_add]
        have e : (o + n) * k.sz + (j - cs.length) = o * k.sz + j := by rw [h1, Nat.add_mul] at *; omega
        rwa [e] at this
    · have : (k.es.drop o).take (n + 1) = (k.es.drop o).take n ++ [k.es[o + n]] := by
        rw [List.take_succ_eq_append_getElem (by simp; omega)]
        simp
      rw [this, List.flatten_append]
      refine h3.append ?_
      have e : k.es[o + n].take k.sz = k.es[o + n] := List.take_of_length_le (by omega)
      rw [e] at g3
      simpa using g3
    · intro y hy
      rcases List.mem_append.1 hy with hy | hy
      · exact h4 y hy
      · exact g4 y hy

/-! scalars that are left -/
def fNot (x : AV) : Option AV :=
  match x with
  | .v (.bool b) => some (.v (.bool (!b)))
  | .bl => some .bl
  | _ => none
def fUn (op : UnOp) (x : AV) : Option AV :=
  match op with
  | .not => fNot x
  | .neg => match x with
    | .v (.int k n) => some (.v (.int k (k.wrap (0 - n))))
    | _ => none
  | _ => none
theorem fUn_ok {op : UnOp} {x r : AV} {c : Value} (hx : VRel μ x c) (h : fUn op x = some r) (w : World) : ∃ u, (Op.unary op c).run P w = .ok u w ∧ VRel μ r u := by
  unfold fUn at h
  split at h <;> try (cases h; done)
  · unfold fNot at h
    split at h <;> try (cases h; done)
    · rename_i b
      cases h; simp only [VRel] at hx; subst hx
      exact ⟨.bool (!b), by simp [Op.unary], by simp [VRel]⟩
    · cases h; simp only [VRel] at hx; obtain ⟨t, rfl⟩ := hx
      exact ⟨.bool (!t), by simp [Op.unary], by simp [VRel]⟩
  · split at h <;> try (cases h; done)
    rename_i k n
    cases h; simp only [VRel] at hx; subst hx
    exact ⟨.int k (k.wrap (0 - n)), by simp [Op.unary, Op.intArith], by simp [VRel]⟩

def inO (P : Program) (t : TypeId) : Option IntKind := match P.underlying t with | some (.int k) => some k | _ => none
def fConv (k : Option IntKind) (x : AV) : Option AV :=
  match x with
  | .v (.int _ n) => match k with
    | some k => some (.v (.int k (k.wrap n)))
    | none => none
  | _ => none
theorem fConv_ok {s t : TypeId} {x r : AV} {c : Value} (hs : (P.underlying s).isSome = true) (hx : VRel μ x c) (h : fConv (inO P t) x = some r) (w : World) : ∃ u, (convert s t c).run P w = .ok u w ∧ VRel μ r u := by
  unfold fConv at h
  split at h <;> try (cases h; done)
  split at h <;> try (cases h; done)
  rename_i k hk
  cases h
  simp only [VRel] at hx
  subst hx
  unfold inO at hk
  split at hk <;> try (cases hk; done)
  rename_i k' hu
  cases hk
  obtain ⟨d, hd⟩ := Option.isSome_iff_exists.1 hs
  exact ⟨.int k _, by simp [convert, run_underlying hd, run_underlying hu, Conv.intToInt]; rfl, by simp [VRel]⟩

def fExt (x : AV) (i : Nat) : Option AV := match x with | .tup l => l[i]? | _ => none
theorem fExt_ok {x r : AV} {i : Nat} {c : Value} (hx : VRel μ x c) (h : fExt x i = some r) (w : World) : ∃ u, (Instr.extract c i).run P w = .ok u w ∧ VRel μ r u := by
  unfold fExt at h
  split at h <;> try (cases h; done)
  simp only [VRel] at hx
  obtain ⟨cs, rfl, hl⟩ := hx
  obtain ⟨u, hu, hr⟩ := hl.get _ _ h
  exact ⟨u, by simp [Instr.extract, hu], hr⟩

def fLen (x : AV) : Option AV :=
  match x with
  | .sl _ _ n _ _ => some (.v (.int .i64 n))
  | .v (.string s) => some (.v (.int .i64 s.size))
  | _ => none
theorem fLen_ok {t ty : TypeId} {x r : AV} {c : Value} (ht : (slO P t).isSome = true) (hs : (∃ s, x = .v (.string s)) ↔ slO P t = some none) (hx : VRel μ x c) (h : fLen x = some r) (w : World) : ∃ u, (Builtin.len_ #[t] ty #[c]).run P w = .ok u w ∧ VRel μ r u := by
  unfold fLen at h
  split at h <;> try (cases h; done)
  · rename_i b o n cap sz
    cases h
    simp only [VRel] at hx
    obtain ⟨y, m, rfl, _⟩ := hx
    have hn : slO P t ≠ some none := fun e => by have := hs.2 e; simp at this
    have : ∃ e, P.underlying t = some (.slice e) := by
      unfold slO at ht hn
      split at ht <;> simp_all
    obtain ⟨e, hu⟩ := this
    exact ⟨.int .i64 n, by simp [Builtin.len_, run_underlying hu, goInt], by simp [VRel]⟩
  · rename_i s
    cases h
    simp only [VRel] at hx
    subst hx
    have hn := hs.1 ⟨s, rfl⟩
    have hu : P.underlying t = some .string := by
      unfold slO at hn
      split at hn <;> simp_all
    exact ⟨.int .i64 s.size, by simp [Builtin.len_, run_underlying hu, goInt], by simp [VRel]⟩

def fCap (x : AV) : Option AV :=
  match x with
  | .sl _ _ _ (some c) _ => some (.v (.int .i64 c))
  | _ => none
theorem fCap_ok {t e ty : TypeId} {x r : AV} {c : Value} (ht : P.underlying t = some (.slice e)) (hx : VRel μ x c) (h : fCap x = some r) (w : World) : ∃ u, (Builtin.cap_ #[t] ty #[c]).run P w = .ok u w ∧ VRel μ r u := by
  unfold fCap at h
  split at h <;> try (cases h; done)
  rename_i b o n k sz
  cases h
  simp only [VRel] at hx
  obtain ⟨y, m, rfl, _, hm, _⟩ := hx
  have := hm k rfl
  subst this
  exact ⟨.int .i64 m, by simp [Builtin.cap_, run_underlying ht, goInt], by simp [VRel]⟩

def fMin (x y : AV) : Option AV :=
  match x, y with
  | .v (.int k a), .v (.int _ b) => some (.v (.int k (min a b)))
  | _, _ => none
def fMax (x y : AV) : Option AV :=
  match x, y with
  | .v (.int k a), .v (.int _ b) => some (.v (.int k (max a b)))
  | _, _ => none
theorem fMin_ok {ts : Array TypeId} {ty : TypeId} {x y r : AV} {c d : Value} (hx : VRel μ x c) (hy : VRel μ y d) (h : fMin x y = some r) (w : World) : ∃ u, (Builtin.min_ ts ty #[c, d]).run P w = .ok u w ∧ VRel μ r u := by
  unfold fMin at h
  split at h <;> try (cases h; done)
  rename_i k a k' b
  cases h
  simp only [VRel] at hx hy
  subst hx; subst hy
  refine ⟨.int k (min a b), ?_, by simp [VRel]⟩
  have e : (if b < a then b else a) = min a b := by split <;> omega
  simp [Builtin.min_, Builtin.min2, e]
theorem fMax_ok {ts : Array TypeId} {ty : TypeId} {x y r : AV} {c d : Value} (hx : VRel μ x c) (hy : VRel μ y d) (h : fMax x y = some r) (w : World) : ∃ u, (Builtin.max_ ts ty #[c, d]).run P w = .ok u w ∧ VRel μ r u := by
  unfold fMax at h
  split at h <;> try (cases h; done)
  rename_i k a k' b
  cases h
  simp only [VRel] at hx hy
  subst hx; subst hy
  refine ⟨.int k (max a b), ?_, by simp [VRel]⟩
  have e : (if b > a then b else a) = max a b := by split <;> omega
  simp [Builtin.max_, Builtin.max2, e]

/-! structs built -/
def plO (P : Program) (t : TypeId) : Option (List (Nat × Nat)) :=
  match P.underlying t with
  | some (.struct fs) => fs.toList.mapM (fun f => (P.info? f.type).map fun i => (f.offset, i.size))
  | _ => none
def fillA (pl : List (Nat × Nat)) : List AV → List (Nat × AV) → Option (List AV)
  | cells, [] => some cells
  | cells, (i, x) :: rest => match pl[i]? with
    | some (off, 1) => if oneA x = true ∧ off < cells.length then fillA pl (cells.set off x) rest else none
    | _ => none
def fBuild (z : Option (List AV)) (pl : Option (List (Nat × Nat))) (parts : List (Nat × AV)) : Option AV :=
  match z with
  | some z => match pl with
    | some pl => match fillA pl z parts with
      | some l => some (.agg l)
      | none => none
    | none => none
  | none => none
def PRel (μ : Mu) : List (Nat × AV) → List (Nat × Value) → Prop
  | [], [] => True
  | (i, x) :: l, (j, c) :: m => i = j ∧ VRel μ x c ∧ PRel μ l m
  | _, _ => False
theorem fillA_ok {pl : List (Nat × Nat)} : ∀ {parts : List (Nat × AV)} {qs : List (Nat × Value)} {cells r : List AV} {cs : List Value}, PRel μ parts qs → VRels μ cells cs → fillA pl cells parts = some r →
    ∃ ds : List Value, Instr.fill (pl.toArray[·]?) cs.toArray qs = some ds.toArray ∧ VRels μ r ds
  | [], [], cells, r, cs, _, hc, h => by simp [fillA] at h; subst h; exact ⟨cs, rfl, hc⟩
  | (i, x) :: l, (j, c) :: m, cells, r, cs, hp, hc, h => by
    simp only [PRel] at hp
    obtain ⟨rfl, hx, hp⟩ := hp
    simp only [fillA] at h
    split at h <;> try (cases h; done)
    rename_i off hpl
    split at h <;> try (cases h; done)
    rename_i ho
    have h1 := oneA_rel ho.1 hx
    have hlen := hc.length
    have hset : VRels μ (cells.set off x) (cs.set off c) := by
      refine VRels.mk (by simp [hlen]) fun k y hy => ?_
      by_cases e : k = off
      · subst e
        rw [List.getElem?_set_self ho.2] at hy
        cases hy
        exact ⟨c, by rw [List.getElem?_set_self (by omega)], hx⟩
      · rw [List.getElem?_set_ne (Ne.symm e)] at hy
        obtain ⟨u, hu, hr⟩ := hc.get k y hy
        exact ⟨u, by rw [List.getElem?_set_ne (Ne.symm e)]; exact hu, hr⟩
    obtain ⟨ds, hd, hr⟩ := fillA_ok hp hset h
    refine ⟨ds, ?_, hr⟩
    have hb : ¬ (cs.length < off + 1) := by omega
    simp [Instr.fill, hpl, cells_one h1, hb]
    simpa using hd
  | [], _ :: _, _, _, _, hp, _, _ => by simp [PRel] at hp
  | _ :: _, [], _, _, _, hp, _, _ => by simp [PRel] at hp
theorem ofVs_rel (μ : Mu) : ∀ l : List Value, VRels μ (l.map ofV) l
  | [] => by simp [VRels]
  | x :: l => by simp [VRels, ofV_rel, ofVs_rel μ l]
theorem fBuild_ok {t : TypeId} {parts : List (Nat × AV)} {qs : List (Nat × Value)} {r : AV} (hp : PRel μ parts qs) (h : fBuild (zrO P t) (plO P t) parts = some r) (w : World) :
    ∃ u, (Instr.build t qs.toArray).run P w = .ok u w ∧ VRel μ r u := by
  unfold fBuild at h
  split at h <;> try (cases h; done)
  rename_i z hz
  split at h <;> try (cases h; done)
  rename_i pl hpl
  split at h <;> try (cases h; done)
  rename_i l hl
  cases h
  unfold zrO at hz
  cases hi : P.info? t with
  | none => simp [hi] at hz
  | some it =>
    cases hzz : it.zero with
    | none => simp [hi, hzz] at hz
    | some zv =>
      simp [hi, hzz] at hz
      subst hz
      obtain ⟨ds, hd, hr⟩ := fillA_ok (μ := μ) hp (ofVs_rel μ zv.cells.toList) hl
      refine ⟨.agg ds.toArray, ?_, by simp only [VRel]; exact ⟨ds, rfl, hr⟩⟩
      refine run_build w t _ _ ?_
      unfold plO at hpl
      split at hpl <;> try (cases hpl; done)
      rename_i fs hu
      unfold Program.built
      simp only [hi, hu, hzz, hpl]
      simpa using hd

end
end Go.Proofs.Ythjjfdbkggiaeaa
