/- An abstract store for walks, part 2: what each operation does to it, each held against the model's own operation. No condition: nothing of a program stands here. -/
import Derived.Test.YthjjfdbkggiaeaaAb1
set_option linter.unusedSimpArgs false
set_option linter.unusedVariables false
namespace Go.Proofs.Ythjjfdbkggiaeaa
open Go Go.RowKit

def TRel (μ : Mu) (τ : Tm) (tmps : Array Value) : Prop := ∀ i, VRel μ (get τ i) (tmps.getD i undef)

def ofV : Value → AV
  | .slice none 0 0 => .sl 0 0 0 (some 0) 0
  | x => .v x
theorem ofV_rel (μ : Mu) (x : Value) : VRel μ (ofV x) x := by
  unfold ofV
  split
  · simp only [VRel]; exact ⟨none, 0, rfl, Nat.le_refl _, fun k hk => (by cases hk; rfl), .inl (by simp)⟩
  · simp [VRel]
def ev (τ : Tm) : Operand → AV
  | .tmp t => get τ t
  | .const v => ofV v
  | .global g => .v (.pointer (some ⟨g, 0, none⟩))
  | .func f => .fn f []
theorem ev_rel {μ : Mu} {τ : Tm} {a : Act} (h : TRel μ τ a.tmps) (x : Operand) : VRel μ (ev τ x) (a.eval x) := by
  cases x with
  | tmp t => exact h t
  | const v => exact ofV_rel μ v
  | global g => simp [ev, VRel, Act.eval]
  | func f => simp only [ev, VRel, Act.eval]; exact ⟨[], rfl, by simp [VRels]⟩

/-- One cell. -/
def oneA : AV → Bool
  | .v x => x.oneCell'
  | .bl | .ptr .. | .sl .. | .fn .. => true
  | _ => false
theorem oneA_rel {μ : Mu} {x : AV} {u : Value} (h : oneA x = true) (hr : VRel μ x u) : u.oneCell' = true := by
  cases x <;> simp [oneA, VRel] at h hr
  · rcases hr with rfl | rfl <;> rfl
  · subst hr; exact h
  · obtain ⟨L, _, rfl⟩ := hr; rfl
  · obtain ⟨x, m, rfl, _⟩ := hr; rfl
  · obtain ⟨cs, rfl, _⟩ := hr; rfl
theorem cells_one {u : Value} (h : u.oneCell' = true) : u.cells = #[u] := by cases u <;> simp [Value.oneCell'] at h <;> rfl
/-- The cells of a value. -/
def cellsA : AV → Option (List AV)
  | .agg l => if l.all oneA then some l else none
  | .v x => if x.oneCell' then some [.v x] else none
  | .bl => some [.bl]
  | .ptr b i c => some [.ptr b i c]
  | .sl b o n cap sz => some [.sl b o n cap sz]
  | .fn f l => some [.fn f l]
  | _ => none
theorem cellsA_rel {μ : Mu} {x : AV} {u : Value} {l : List AV} (h : cellsA x = some l) (hr : VRel μ x u) : VRels μ l u.cells.toList ∧ l.all oneA = true := by
  cases x <;> simp [cellsA] at h
  case v y => obtain ⟨h1, rfl⟩ := h; have : u = y := by simpa [VRel] using hr
              subst this; rw [cells_one h1]; simp [VRels, VRel, oneA, h1]
  case bl => subst h; rw [cells_one (oneA_rel (by rfl) hr)]; simp [VRels, oneA, hr]
  case ptr b i c => subst h; rw [cells_one (oneA_rel (by rfl) hr)]; simp [VRels, oneA, hr]
  case sl b o n cap sz => subst h; rw [cells_one (oneA_rel (by rfl) hr)]; simp [VRels, oneA, hr]
  case fn f m => subst h; rw [cells_one (oneA_rel (by rfl) hr)]; simp [VRels, oneA, hr]
  case agg m =>
    obtain ⟨h1, rfl⟩ := h
    simp only [VRel] at hr
    obtain ⟨cs, rfl, hl⟩ := hr
    exact ⟨by simpa [Value.cells] using hl, by simpa using h1⟩

/-! The program's tables. -/
def aggO (P : Program) (t : TypeId) : Option Bool := (P.underlying t).map fun | .struct _ | .array _ _ => true | _ => false
def szO (P : Program) (t : TypeId) : Option Nat := (P.info? t).map (·.size)
def byO (P : Program) (t : TypeId) : Nat := ((P.info? t).map (·.bytes)).getD 0
def zrO (P : Program) (t : TypeId) : Option (List AV) := ((P.info? t).bind (·.zero)).map fun z => z.cells.toList.map ofV
def zrOk (P : Program) (t : TypeId) : Bool := (((P.info? t).bind (·.zero)).map fun z => z.cells.toList.all (·.oneCell')).getD false
def elO (P : Program) (t : TypeId) : Option TypeId := match P.underlying t with | some (.slice e) => some e | _ => none
def fdO (P : Program) (t : TypeId) (f : Nat) : Option (Nat × Nat) := match P.underlying t with
  | some (.struct fs) => match fs[f]? with
    | some fd => match szO P fd.type with
      | some n => if n = 0 then none else some (fd.offset, n)
      | none => none
    | none => none
  | _ => none

section
variable {P : Program} {B : Nat} {w0 : World} {X : Nat → Prop} {μ : Mu} {σ : Sto} {w : World}

theorem run_isAggO {t : TypeId} {b : Bool} (h : aggO P t = some b) (w : World) : (isAgg t).run P w = .ok b w := by
  unfold aggO at h
  cases hd : P.underlying t with
  | none => simp [hd] at h
  | some d => cases d <;> simp_all [isAgg, run_underlying hd]
theorem run_sizeOfO {t : TypeId} {n : Nat} (h : szO P t = some n) (w : World) : (sizeOf t).run P w = .ok n w := by
  unfold szO at h
  cases hd : P.info? t with
  | none => simp [hd] at h
  | some d => simp [hd] at h; simp [sizeOf, typeInfo, hd, h]

/-! load -/
def fLoad (ag : Option Bool) (sz : Option Nat) (x : AV) (σ : Sto) : Option AV :=
  match x with
  | .ptr b i c => match σ b with
    | some k => match k.es[i]? with
      | some e => match ag with
        | some true => match sz with
          | some n => if c + n ≤ e.length then some (.agg ((e.drop c).take n)) else none
          | none => none
        | some false => e[c]?
        | none => none
      | none => none
    | none => none
  | _ => none
theorem fLoad_ok {t : TypeId} {x v : AV} {c : Value} (hR : Rel B w0 X μ σ w) (hx : VRel μ x c) (h : fLoad (aggO P t) (szO P t) x σ = some v) :
    ∃ u, (Instr.loadAt t c).run P w = .ok u w ∧ VRel μ v u := by
  unfold fLoad at h
  split at h <;> try (cases h; done)
  rename_i b i o
  split at h <;> try (cases h; done)
  rename_i k hb
  split at h <;> try (cases h; done)
  rename_i e he
  simp only [VRel] at hx
  obtain ⟨L, hL, rfl⟩ := hx
  obtain ⟨L', hL', hB⟩ := hR.blk b k hb
  rw [hL] at hL'; cases hL'
  have hsz := hB.sz
  split at h <;> try (cases h; done)
  · rename_i hag
    split at h <;> try (cases h; done)
    rename_i n hn
    split at h <;> try (cases h; done)
    rename_i hle
    cases h
    -- the cells
    have hcs : ∃ cs : List Value, cs.length = n ∧ (∀ j u, cs[j]? = some u → w.cell? ((L.a.add (i * L.sz + o)).add j) = some u) ∧ VRels μ ((e.drop o).take n) cs := by
      have key : ∀ m, m ≤ n → ∃ cs : List Value, cs.length = m ∧ (∀ j u, cs[j]? = some u → w.cell? ((L.a.add (i * L.sz + o)).add j) = some u) ∧ VRels μ ((e.drop o).take m) cs := by
        intro m
        induction m with
        | zero => intro _; exact ⟨[], rfl, by simp, by simp [VRels]⟩
        | succ m ih =>
          intro hm
          obtain ⟨cs, h1, h2, h3⟩ := ih (by omega)
          have hlt : o + m < e.length := by omega
          obtain ⟨u, hu, _, hv⟩ := hB.rd i e he (o + m) e[o + m] (List.getElem?_eq_getElem hlt)
          refine ⟨cs ++ [u], by simp [h1], fun j y hy => ?_, ?_⟩
          · rcases Nat.lt_or_ge j cs.length with hj | hj
            · rw [List.getElem?_append_left hj] at hy; exact h2 j y hy
            · rw [List.getElem?_append_right hj] at hy
              have : j = m := by
                rcases Nat.eq_zero_or_pos (j - cs.length) with h0 | h0
                · omega
                · rw [List.getElem?_eq_none (by simp; omega)] at hy; cases hy
              subst this
              simp [h1] at hy
              subst hy
              rw [add_add, hsz, Nat.add_assoc]
              exact hu
          · have : (e.drop o).take (m + 1) = (e.drop o).take m ++ [e[o + m]] := by
              rw [List.take_succ_eq_append_getElem (by simp; omega)]
              simp
            rw [this]
            exact VRels.append h3 (by simp [VRels, hv])
      exact key n (Nat.le_refl _)
    obtain ⟨cs, h1, h2, h3⟩ := hcs
    refine ⟨.agg cs.toArray, ?_, by simp only [VRel]; exact ⟨cs, rfl, h3⟩⟩
    have := run_loadCells_list (P := P) w (L.a.add (i * L.sz + o)) cs h2
    rw [h1] at this
    simp [Instr.loadAt, Instr.sureAddr, loadVar, run_isAggO hag, run_sizeOfO hn, this]
  · rename_i hag
    obtain ⟨u, hu, _, hv⟩ := hB.rd i e he o v h
    refine ⟨u, ?_, hv⟩
    have : w.cell? (L.a.add (i * L.sz + o)) = some u := by rw [hsz]; exact hu
    simp [Instr.loadAt, Instr.sureAddr, loadVar, run_isAggO hag, this]

/-! field and element addresses -/
def fFieldA (fd : Option (Nat × Nat)) (x : AV) : Option AV :=
  match fd with
  | some (off, _) => match x with
    | .ptr b i c => some (.ptr b i (c + off))
    | _ => none
  | none => none
theorem fFieldA_ok {t : TypeId} {f : Nat} {x v : AV} {c : Value} (hx : VRel μ x c) (h : fFieldA (fdO P t f) x = some v) :
    ∃ u, (Instr.fieldAt t c f).run P w = .ok u w ∧ VRel μ v u := by
  unfold fFieldA fdO at h
  split at h <;> try (cases h; done)
  rename_i off n hf
  split at h <;> try (cases h; done)
  rename_i b i o
  cases h
  split at hf <;> try (cases hf; done)
  rename_i fs hu
  split at hf <;> try (cases hf; done)
  rename_i fd hfd
  split at hf <;> try (cases hf; done)
  rename_i m hm
  split at hf <;> try (cases hf; done)
  rename_i hm0
  cases hf
  simp only [VRel] at hx ⊢
  obtain ⟨L, hL, rfl⟩ := hx
  refine ⟨.pointer (some ((L.a.add (i * L.sz + o)).add fd.offset)), ?_, L, hL, by rw [add_add, Nat.add_assoc]⟩
  simp [Instr.fieldAt, run_underlying hu, hfd, Instr.sureAddr, fieldPlace, run_sizeOfO hm, hm0]

def fIdxA (es : Option Nat) (x i : AV) : Option AV :=
  match x with
  | .sl b o n _ sz => match i with
    | .v (.int _ j) => if 0 ≤ j ∧ j < n ∧ es = some sz then some (.ptr b (o + j.toNat) 0) else none
    | _ => none
  | _ => none
theorem fIdxA_ok {t : TypeId} {x i v : AV} {c d : Value} (hx : VRel μ x c) (hi : VRel μ i d) (h : fIdxA ((elO P t).bind (szO P)) x i = some v) :
    ∃ u, (Instr.indexAt t c d).run P w = .ok u w ∧ VRel μ v u := by
  unfold fIdxA at h
  split at h <;> try (cases h; done)
  rename_i b o n cap sz
  split at h <;> try (cases h; done)
  rename_i k j
  split at h <;> try (cases h; done)
  rename_i hc
  obtain ⟨h0, h1, h2⟩ := hc
  cases h
  unfold elO at h2
  split at h2 <;> try (cases h2; done)
  rename_i e hu
  simp only [Option.bind_some] at h2
  simp only [VRel] at hx hi ⊢
  subst hi
  obtain ⟨y, m, rfl, hn, hcap, hm⟩ := hx
  obtain ⟨L, hL, hLs, hm⟩ := hm.resolve_left (fun e => by have := hcap 0 e; omega)
  obtain ⟨rfl, _⟩ := hm (by omega)
  refine ⟨.pointer (some ((L.a.add (o * sz)).add (j.toNat * sz))), ?_, L, hL, ?_⟩
  · simp [Instr.indexAt, asIntOf, run_underlying hu, run_sizeOfO h2, h0, h1]
  · rw [add_add, hLs, Nat.add_mul, Nat.add_zero]

def fIdx (x i : AV) : Option AV :=
  match x with
  | .v (.string s) => match i with
    | .v (.int _ j) => if 0 ≤ j then (s[j.toNat]?).map fun c => .v (.int .u8 c.toNat) else none
    | _ => none
  | _ => none
theorem fIdx_ok {t : TypeId} {x i v : AV} {c d : Value} (ht : P.underlying t = some .string) (hx : VRel μ x c) (hi : VRel μ i d) (h : fIdx x i = some v) :
    ∃ u, (Instr.index t c d).run P w = .ok u w ∧ VRel μ v u := by
  unfold fIdx at h
  split at h <;> try (cases h; done)
  rename_i s
  split at h <;> try (cases h; done)
  rename_i k j
  split at h <;> try (cases h; done)
  rename_i h0
  simp only [VRel] at hx hi
  subst hx; subst hi
  cases hs : s[j.toNat]? with
  | none => simp [hs] at h
  | some ch =>
    simp [hs] at h
    subst h
    exact ⟨.int .u8 ch.toNat, by simp [Instr.index, asIntOf, run_underlying ht, h0, hs], by simp [VRel]⟩

/-! slices of slices and of strings -/
def num : AV → Option Nat
  | .v (.int _ j) => if 0 ≤ j then some j.toNat else none
  | _ => none
theorem num_ok {x : AV} {n : Nat} {c : Value} (h : num x = some n) (hx : VRel μ x c) : ∃ k, c = .int k (n : Int) := by
  unfold num at h
  split at h <;> try (cases h; done)
  rename_i k j
  split at h <;> try (cases h; done)
  rename_i h0
  cases h
  simp only [VRel] at hx
  exact ⟨k, by rw [hx]; congr 1; omega⟩
theorem run_bound {k : IntKind} {n y : Nat} {code : BoundsCode} (h : n ≤ y) (w : World) : (Instr.sliceBound (.int k (n : Int)) y code).run P w = .ok n w := by
  have h' : (n : Int) ≤ (y : Int) := by omega
  simp [Instr.sliceBound, asIntOf, h]
def fSlice (es : Option Nat) (x : AV) (lo hi mx : Option AV) : Option AV :=
  match x with
  | .v (.string s) =>
    match (match lo with | none => some 0 | some a => num a), (match hi with | none => some s.size | some a => num a), mx with
    | some l, some h, none => if l ≤ h ∧ h ≤ s.size then some (.v (.string (s.extract l h))) else none
    | _, _, _ => none
  | .sl b o n cap sz =>
    match (match lo with | none => some 0 | some a => num a), (match hi with | none => some n | some a => num a), (match mx with | none => some none | some a => (num a).map some) with
    | some l, some h, some none => if l ≤ h ∧ (h ≤ n ∨ h ≤ cap.getD 0) ∧ (es = some sz ∨ cap = some 0) then some (.sl b (o + l) (h - l) (cap.map (· - l)) sz) else none
    | some l, some h, some (some m) => if hi.isSome = true ∧ l ≤ h ∧ h ≤ m ∧ m ≤ n ∧ (es = some sz ∨ cap = some 0) then some (.sl b (o + l) (h - l) (some (m - l)) sz) else none
    | _, _, _ => none
  | _ => none
/-- What kind of type a slice expression's operand has. -/
def slO (P : Program) (t : TypeId) : Option (Option Nat) := match P.underlying t with
  | some .string => some none
  | some (.slice e) => (szO P e).map some
  | _ => none
def ORel (μ : Mu) : Option AV → Option Value → Prop
  | none, none => True
  | some a, some v => VRel μ a v
  | _, _ => False
theorem optRel {lo : Option AV} {c : Option Value} {d n : Nat} (h : (match lo with | none => some d | some a => num a) = some n) (hr : ORel μ lo c) :
    (c = none ∧ n = d) ∨ ∃ k, c = some (.int k (n : Int)) := by
  cases lo <;> cases c <;> simp [ORel] at h hr
  · exact .inl ⟨rfl, h.symm⟩
  · obtain ⟨k, rfl⟩ := num_ok h hr
    exact .inr ⟨k, rfl⟩
theorem fSlice_ok {t : TypeId} {es : Option Nat} {x v : AV} {c : Value} {lo hi mx : Option AV} {cl ch cm : Option Value} (ht : slO P t = some es) (hx : VRel μ x c)
    (hl : ORel μ lo cl)
    (hh : ORel μ hi ch)
    (hm : ORel μ mx cm)
    (hs : (∃ s, x = .v (.string s)) ↔ es = none) (h : fSlice es x lo hi mx = some v) :
    ∃ u, (Instr.sliceAt t c cl ch cm).run P w = .ok u w ∧ VRel μ v u := by
  unfold fSlice at h
  split at h <;> try (cases h; done)
  · rename_i s
    have he : es = none := hs.1 ⟨s, rfl⟩
    subst he
    have hu : P.underlying t = some .string := by
      unfold slO at ht
      split at ht <;> simp_all
    simp only [VRel] at hx
    subst hx
    split at h <;> try (cases h; done)
    rename_i l h' el eh
    split at h <;> try (cases h; done)
    rename_i hc
    cases h
    cases cm with
    | some _ => simp [ORel] at hm
    | none =>
      refine ⟨.string (s.extract l h'), ?_, by simp [VRel]⟩
      have hm' : ∀ {A : Type} (a : A) (b : Nat → A), (if s.size = l then a else b 0) = (if s.size = l then a else b 0) := fun _ _ => rfl
      rcases optRel el hl with ⟨rfl, rfl⟩ | ⟨k1, rfl⟩ <;> rcases optRel eh hh with ⟨rfl, rfl⟩ | ⟨k2, rfl⟩ <;>
        simp [Instr.sliceAt, run_underlying hu, Instr.slice, Instr.sliceBounds, run_bound hc.1, run_bound hc.2]
  · rename_i b o n cap sz
    have hnn : es ≠ none := fun e => by have := hs.2 e; simp at this
    have hu : ∃ e z, P.underlying t = some (.slice e) ∧ szO P e = some z ∧ es = some z := by
      unfold slO at ht
      split at ht
      · simp at ht; exact absurd ht.symm hnn
      · rename_i e he
        cases hz : szO P e with
        | none => simp [hz] at ht
        | some z => simp [hz] at ht; exact ⟨e, z, he, hz, ht.symm⟩
      · simp at ht
    obtain ⟨e, z, hu, hz, rfl⟩ := hu
    simp only [VRel] at hx
    obtain ⟨y, m, rfl, hnm, hcap, haddr⟩ := hx
    have fin : ∀ l h' m' capo, l ≤ h' → h' ≤ m' → m' ≤ m → (∀ k, capo = some k → m' - l = k) → (some z = some sz ∨ cap = some 0) → (capo = cap.map (· - l) ∨ ∃ k, capo = some k) →
        VRel μ (.sl b (o + l) (h' - l) capo sz) (.slice (if m' = l then y else y.map (·.add (l * z))) (h' - l) (m' - l)) := by
      intro l h' m' capo h1 h2 h3 h4 h5 h6
      simp only [VRel]
      refine ⟨_, _, rfl, by omega, h4, ?_⟩
      rcases haddr with h0 | ⟨L, hL, hLs, haddr⟩
      · have := hcap 0 h0
        refine .inl ?_
        rcases h6 with h6 | ⟨k, h6⟩
        · rw [h6, h0]; simp
        · have := h4 k h6
          rw [h6]
          congr 1
          omega
      · refine .inr ⟨L, hL, hLs, fun h0 => ?_⟩
        have hmne : ¬ m' = l := by omega
        obtain ⟨hy, hC⟩ := haddr (by omega)
        refine ⟨?_, by omega⟩
        rcases h5 with h5 | h5
        · cases h5
          rw [if_neg hmne, hy, Option.map_some, add_add, Nat.add_mul]
        · have := hcap 0 h5
          omega
    split at h <;> try (cases h; done)
    · rename_i l h' el eh em
      split at h <;> try (cases h; done)
      rename_i hc
      cases h
      have hmn : cm = none := by
        cases mx with
        | none => cases cm <;> simp_all [ORel]
        | some a => cases hna : num a <;> simp [hna] at em
      subst hmn
      obtain ⟨hc1, hc2, hc3⟩ := hc
      have hle : h' ≤ m := by
        rcases hc2 with hc2 | hc2
        · omega
        · cases cap with
          | none => simp at hc2; omega
          | some k => have := hcap k rfl; simp at hc2; omega
      refine ⟨_, ?_, fin l h' m _ hc1 hle (Nat.le_refl _) (fun k hk => ?_) hc3 (.inl rfl)⟩
      · rcases optRel el hl with ⟨rfl, rfl⟩ | ⟨k1, rfl⟩ <;> rcases optRel eh hh with ⟨rfl, rfl⟩ | ⟨k2, rfl⟩ <;>
          simp [Instr.sliceAt, run_underlying hu, Instr.slice, Instr.sliceBounds, run_bound hc1, run_bound hle, run_sizeOfO hz]
      · cases cap with
        | none => simp at hk
        | some c => have := hcap c rfl; simp at hk; omega
    · rename_i l h' m' el eh em
      split at h <;> try (cases h; done)
      rename_i hc
      cases h
      obtain ⟨hc0, hc1, hc2, hc3, hc4⟩ := hc
      have hmn : ∃ k3, cm = some (.int k3 (m' : Int)) := by
        cases mx with
        | none => simp at em
        | some a =>
          cases hna : num a with
          | none => simp [hna] at em
          | some q =>
            simp [hna] at em
            subst em
            cases cm with
            | none => simp [ORel] at hm
            | some v => obtain ⟨k, rfl⟩ := num_ok hna (by simpa [ORel] using hm); exact ⟨k, rfl⟩
      obtain ⟨k3, rfl⟩ := hmn
      refine ⟨_, ?_, fin l h' m' _ hc1 hc2 (by omega) (fun k hk => by cases hk; rfl) hc4 (.inr ⟨_, rfl⟩)⟩
      have hb3 : m' ≤ m := by omega
      rcases optRel el hl with ⟨rfl, rfl⟩ | ⟨k1, rfl⟩ <;> rcases optRel eh hh with ⟨rfl, rfl⟩ | ⟨k2, rfl⟩
      · cases hi <;> simp [ORel] at hc0 hh
      · simp [Instr.sliceAt, run_underlying hu, Instr.slice, Instr.sliceBounds, run_bound hc1, run_bound hc2, run_bound hb3, run_sizeOfO hz]
      · cases hi <;> simp [ORel] at hc0 hh
      · simp [Instr.sliceAt, run_underlying hu, Instr.slice, Instr.sliceBounds, run_bound hc1, run_bound hc2, run_bound hb3, run_sizeOfO hz]

end
end Go.Proofs.Ythjjfdbkggiaeaa
