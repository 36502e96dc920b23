/- An abstract store for walks, part 8: one function for all operations but calls of Go functions, and that it is right. No condition: nothing of a program stands here. -/
import Derived.Test.YthjjfdbkggiaeaaAb18
set_option linter.unusedSimpArgs false
set_option linter.unusedVariables false
namespace Go.Proofs.Ythjjfdbkggiaeaa
open Go Go.RowKit

/-- A slice type's element type, its cells, its bytes. -/
def elX (P : Program) (t : TypeId) : Option (TypeId × Nat × Nat) :=
  match elO P t with
  | some e => match szO P e with
    | some s => if zrOk P e = true ∧ (zrO P e).map (·.length) = some s then some (e, s, byO P e) else none
    | none => none
  | none => none
def zrX (P : Program) (t : TypeId) : Option (List AV) := if zrOk P t = true then zrO P t else none
/-- Is it a slice of bytes; is it a string. -/
def u8O (P : Program) (t : TypeId) : Bool := match P.underlying t with | some (.slice e) => (match P.underlying e with | some (.int .u8) => true | _ => false) | _ => false
def stO (P : Program) (t : TypeId) : Bool := match P.underlying t with | some .string => true | _ => false
def knO (P : Program) (t : TypeId) : Bool := (P.underlying t).isSome
def u8s : List (List AV) → Option (List Int)
  | [] => some []
  | [.v (.int .u8 n)] :: r => match u8s r with
    | some l => some (n :: l)
    | none => none
  | _ => none
def strOf (ns : List Int) : ByteArray := ns.foldl (fun r n => r.push (UInt8.ofNat n.toNat)) ByteArray.empty

def keepS (σ : Sto) (M : Nat) : Option AV → Option Out
  | some v => some (v, σ, M)
  | none => none

def fConvX (P : Program) (s t : TypeId) (x : AV) (σ : Sto) : Option AV :=
  match x with
  | .sl b o n cap sz => if u8O P s = true ∧ stO P t = true then match elems 1 (.sl b o n cap sz) σ with
      | some es => match u8s es with
        | some l => some (.v (.string (strOf l)))
        | none => none
      | none => none
    else none
  | x => if knO P s = true then fConv (inO P t) x else none

def fBinX (P : Program) (op : BinOp) (t : TypeId) (x y : AV) (yo : Operand) : Option AV :=
  match x with
  | .sl _ _ n _ _ => match yo with
    | .const (.slice none 0 0) => match elO P t with
      | some _ => match op with
        | .eql => some (if n = 0 then .bl else .v (.bool false))
        | .neq => some (if n = 0 then .bl else .v (.bool true))
        | _ => none
      | none => none
    | _ => none
  | .v (.bool a) => if kdT P t = some 0 then fBin op none (.v (.bool a)) y else none
  | x => fBin op (kdO P t) x y

def fPick (c a b : AV) : Option AV :=
  match c with
  | .v (.bool t) => some (if t then a else b)
  | _ => none

def fNil (x : AV) : Option AV :=
  match x with
  | .ptr b i c => some (.ptr b i c)
  | _ => none

def fSliceX (es : Option (Option Nat)) (x : AV) (lo hi mx : Option AV) : Option AV :=
  match es with
  | some none => match x with
    | .v (.string s) => fSlice none (.v (.string s)) lo hi mx
    | _ => none
  | some (some z) => match x with
    | .sl b o n cap sz => fSlice (some z) (.sl b o n cap sz) lo hi mx
    | _ => none
  | none => none

def fLenX (es : Option (Option Nat)) (x : AV) : Option AV :=
  match es with
  | some none => match x with
    | .v (.string s) => some (.v (.int .i64 s.size))
    | _ => none
  | some (some _) => match x with
    | .sl _ _ n _ _ => some (.v (.int .i64 n))
    | _ => none
  | none => none

theorem inO_ok {P : Program} {t : TypeId} {k : IntKind} (h : inO P t = some k) : P.underlying t = some (.int k) := by
  unfold inO at h
  split at h <;> simp_all

def fCall (P : Program) (b : Builtin) (ts : List TypeId) (xs : List AV) (σ : Sto) (M : Nat) : Option Out :=
  match b, ts, xs with
  | .len, [t], [x] => keepS σ M (fLenX (slO P t) x)
  | .cap, [t], [x] => match elO P t with
    | some _ => keepS σ M (fCap x)
    | none => none
  | .append, [t, t'], [x, y] => match elX P t with
    | some (e, s, b) => match y with
      | .sl b2 o2 n2 c2 z2 => if t = t' then fApp (some e) (some s) b x (.sl b2 o2 n2 c2 z2) σ M else none
      | .v q => match inO P t' with
        | some _ => fAppZ (some e) (some s) (zrX P e) b x (.v q) σ M
        | none => none
      | _ => none
    | none => none
  | .min, _, [x, y] => keepS σ M (fMin x y)
  | .max, _, [x, y] => keepS σ M (fMax x y)
  | _, _, _ => none

def fOp (P : Program) (τ : Tm) (σ : Sto) (M : Nat) : Op → Option Out
  | .move x => some (ev τ x, σ, M)
  | .assign x => some (ev τ x, σ, M)
  | .pick c a b => keepS σ M (fPick (ev τ c) (ev τ a) (ev τ b))
  | .alloc t => fNew t (zrX P t) σ M
  | .box t x => fNew t (cellsA (ev τ x)) σ M
  | .build t ps => keepS σ M (fBuild (zrO P t) (plO P t) (ps.toList.map fun p => (p.1, ev τ p.2)))
  | .buildSlice t n ps => match elX P t with
    | some (e, s, _) => fBuildS (some e) (some s) n (ps.toList.map fun p => (p.1, ev τ p.2)) σ M
    | none => none
  | .load t x => keepS σ M (fLoad (aggO P t) (szO P t) (ev τ x) σ)
  | .store t x y => match fStore (szO P t) (ev τ x) (ev τ y) σ with
    | some σ' => some (.v undef, σ', M)
    | none => none
  | .nilCheck x => keepS σ M (fNil (ev τ x))
  | .binOp op t x y _ => keepS σ M (fBinX P op t (ev τ x) (ev τ y) y)
  | .unOp op _ x => keepS σ M (fUn op (ev τ x))
  | .convert s t x => keepS σ M (fConvX P s t (ev τ x) σ)
  | .makeFunc fn first cap => match fn with
    | .func f => match first.toList with
      | [] => some (.fn f (cap.toList.map (ev τ)), σ, M)
      | _ :: _ => none
    | _ => none
  | .makeSlice t l c => match elX P t with
    | some (e, _, b) => fMake (some e) (zrO P e) b (ev τ l) (ev τ c) σ M
    | none => none
  | .slice t x lo hi mx => keepS σ M (fSliceX (slO P t) (ev τ x) (lo.map (ev τ)) (hi.map (ev τ)) (mx.map (ev τ)))
  | .fieldAddr t x f => keepS σ M (fFieldA (fdO P t f) (ev τ x))
  | .indexAddr t x i => match elX P t with
    | some (_, s, _) => keepS σ M (fIdxA (some s) (ev τ x) (ev τ i))
    | none => none
  | .index t x i => match stO P t with
    | true => keepS σ M (fIdx (ev τ x) (ev τ i))
    | false => none
  | .extract x i => keepS σ M (fExt (ev τ x) i)
  | .call c => match c.callee with
    | .builtin b => fCall P b c.argTypes.toList (c.args.toList.map (ev τ)) σ M
    | _ => none
  | _ => none

section
variable {P : Program} {B : Nat} {w0 : World} {X : Nat → Prop} {μ : Mu} {σ : Sto} {w : World}

theorem elX_ok {t e : TypeId} {s b : Nat} (h : elX P t = some (e, s, b)) : elO P t = some e ∧ szO P e = some s ∧ zrOk P e = true ∧ (zrO P e).map (·.length) = some s ∧ b = byO P e := by
  unfold elX at h
  split at h <;> try (cases h; done)
  rename_i e' he
  split at h <;> try (cases h; done)
  rename_i s' hs
  split at h <;> try (cases h; done)
  rename_i hc
  cases h
  exact ⟨he, hs, hc.1, hc.2, rfl⟩

theorem keepS_ok {M : Nat} {o : Option AV} {out : Out} (h : keepS σ M o = some out) : ∃ v, o = some v ∧ out = (v, σ, M) := by
  unfold keepS at h
  split at h
  · cases h; exact ⟨_, rfl, rfl⟩
  · cases h

theorem evs_rel {τ : Tm} {a : Act} (h : TRel μ τ a.tmps) : ∀ l : List Operand, VRels μ (l.map (ev τ)) (l.map a.eval)
  | [] => by simp [VRels]
  | x :: l => by simp [VRels, ev_rel h x, evs_rel h l]
theorem evp_rel {τ : Tm} {a : Act} (h : TRel μ τ a.tmps) : ∀ l : List (Nat × Operand), PRel μ (l.map fun p => (p.1, ev τ p.2)) (l.map fun p => (p.1, a.eval p.2))
  | [] => by simp [PRel]
  | (i, x) :: l => by simp [PRel, ev_rel h x, evp_rel h l]
theorem evo_rel {τ : Tm} {a : Act} (h : TRel μ τ a.tmps) (x : Option Operand) : ORel μ (x.map (ev τ)) (x.map a.eval) := by
  cases x <;> simp [ORel, ev_rel h]

theorem u8s_ok : ∀ {es : List (List AV)} {l : List Int} {cs : List Value}, u8s es = some l → VRels μ es.flatten cs → cs = l.map (Value.int .u8) := by
  intro es
  induction es with
  | nil => intro l cs h hv; simp [u8s] at h; subst h; cases cs <;> simp [VRels] at hv ⊢
  | cons e es ih =>
    intro l cs h hv
    unfold u8s at h
    split at h <;> try (cases h; done)
    · rename_i heq
      cases heq
    · rename_i n r heq
      obtain ⟨rfl, rfl⟩ := List.cons.inj heq
      split at h <;> try (cases h; done)
      rename_i l' hl
      cases h
      cases cs with
      | nil => simp [VRels] at hv
      | cons c cs =>
        simp only [List.flatten_cons, List.singleton_append, VRels, VRel] at hv
        obtain ⟨rfl, hv⟩ := hv
        simp [ih hl hv]

theorem run_eq_nil {t e : TypeId} (hu : P.underlying t = some (.slice e)) (p : Option Addr) (n m d : Nat) (w : World) : ∃ q, (Op.equalIn (d + 1) t (.slice p n m) (.slice none 0 0)).run P w = .ok q w := by
  cases p <;> simp [Op.equalIn, run_underlying hu]

theorem run_eq_some {t e : TypeId} (hu : P.underlying t = some (.slice e)) (p : Addr) (n m d : Nat) (w : World) : (Op.equalIn (d + 1) t (.slice (some p) n m) (.slice none 0 0)).run P w = .ok false w := by
  simp [Op.equalIn, run_underlying hu]

theorem fBin_bool (op : BinOp) (kd : Option (List Nat)) (p : Bool) (y : AV) : fBin op kd (.v (.bool p)) y = fBin op none (.v (.bool p)) y := by
  cases y <;> try rfl
  rename_i z
  cases z <;> rfl

theorem fConvX_ok {s t : TypeId} {x r : AV} {c : Value} (hR : Rel B w0 X μ σ w) (hx : VRel μ x c) (h : fConvX P s t x σ = some r) : ∃ u, (convert s t c).run P w = .ok u w ∧ VRel μ r u := by
  unfold fConvX at h
  split at h
  · rename_i b o n cap sz
    split at h <;> try (cases h; done)
    rename_i hc
    obtain ⟨h8, hst⟩ := hc
    split at h <;> try (cases h; done)
    rename_i es hes
    split at h <;> try (cases h; done)
    rename_i l hl
    cases h
    obtain ⟨y, m, cs, rfl, _, hlen, hel, hcl, hv, _, ha⟩ := elems_ok hR hx hes
    have hcs := u8s_ok hl hv
    unfold u8O at h8
    split at h8 <;> try (cases h8; done)
    rename_i e hu
    split at h8 <;> try (cases h8; done)
    rename_i hue
    unfold stO at hst
    split at hst <;> try (cases hst; done)
    rename_i hut
    have hll : l.length = n := by
      have h1 : cs.length = n := by omega
      rw [hcs] at h1
      simpa using h1
    have hconv : (convert s t (.slice y n m)).run P w = (Conv.bytesToString (.slice y n m)).run P w := by
      cases y <;> simp [convert, run_underlying hu, run_underlying hut, run_underlying hue]
    refine ⟨.string (strOf l), ?_, by simp [VRel]⟩
    rw [hconv]
    rcases Nat.eq_zero_or_pos n with rfl | hpos
    · have : l = [] := List.eq_nil_of_length_eq_zero hll
      subst this
      cases y with
      | none => simp [Conv.bytesToString, strOf]
      | some a =>
        have := run_bytesToString (P := P) w a 0 m [] (by simp [loadCells, loadCellsFrom])
        simpa [strOf] using this
    · obtain ⟨a, rfl, hcell⟩ := ha hpos
      have hrl := run_loadCells_list (P := P) w a cs hcell
      have : cs.length = n := by omega
      rw [this] at hrl
      rw [hcs] at hrl
      exact run_bytesToString w a n m l hrl
  · split at h <;> try (cases h; done)
    rename_i hk
    exact fConv_ok hk hx h w

theorem fBinX_ok {op : BinOp} {t : TypeId} {τ : Tm} {a : Act} {x y : Operand} {r : AV} (hT : TRel μ τ a.tmps) (h : fBinX P op t (ev τ x) (ev τ y) y = some r) (w : World) :
    ∃ z, (do eqGuard op t x y (a.eval x) (a.eval y); binOp op t (a.eval x) (a.eval y) : Sem Value).run P w = .ok z w ∧ VRel μ r z := by
  have hx := ev_rel hT x
  have hy := ev_rel hT y
  unfold fBinX at h
  split at h
  · rename_i b o n cap sz heq
    split at h <;> try (cases h; done)
    split at h <;> try (cases h; done)
    rename_i e he
    rw [heq] at hx
    simp only [VRel] at hx
    obtain ⟨p, m, hp, hnm, hcap, hloc⟩ := hx
    have hsome : n ≠ 0 → ∃ a, p = some a := fun hn => by
      rcases hloc with hz | ⟨L, _, _, hL⟩
      · have := hcap 0 hz; omega
      · exact ⟨_, (hL (by omega)).1⟩
    unfold elO at he
    split at he <;> try (cases he; done)
    rename_i hu
    have hq : a.eval (.const (.slice none 0 0)) = .slice none 0 0 := rfl
    rw [hp, hq]
    have hg : ∀ op, (eqGuard op t x (.const (.slice none 0 0)) (.slice p n m) (.slice none 0 0)).run P w = .ok () w := fun op => by unfold eqGuard; split <;> rfl
    have hq : ∃ q, (Op.equalIn (9999 + 1) t (.slice p n m) (.slice none 0 0)).run P w = .ok q w ∧ (n ≠ 0 → q = false) := by
      by_cases hn : n = 0
      · obtain ⟨q, hq⟩ := run_eq_nil hu p n m 9999 w
        exact ⟨q, hq, fun h => (h hn).elim⟩
      · obtain ⟨a, rfl⟩ := hsome hn
        exact ⟨false, run_eq_some hu a n m 9999 w, fun _ => rfl⟩
    obtain ⟨q, hq, hqf⟩ := hq
    split at h <;> try (cases h; done)
    · cases h
      refine ⟨.bool q, ?_, ?_⟩
      · simp only [Sem.run_bind, hg, Result.andThen_ok]
        simp only [binOp]
        simp [Op.equal, Op.maxDepth, hq]
      · by_cases hn : n = 0
        · simp [hn, VRel]
        · simp [hn, VRel, hqf hn]
    · cases h
      refine ⟨.bool (!q), ?_, ?_⟩
      · simp only [Sem.run_bind, hg, Result.andThen_ok]
        simp only [binOp]
        simp [Op.equal, Op.maxDepth, hq]
      · by_cases hn : n = 0
        · simp [hn, VRel]
        · simp [hn, VRel, hqf hn]
  · rename_i p heq
    split at h <;> try (cases h; done)
    rename_i hk
    have hub : P.underlying t = some .bool := by
      unfold kdT at hk
      split at hk <;> simp_all
    rw [heq] at hx
    exact fBin_ok hx hy (fun _ _ _ _ => hub) (by rw [fBin_bool]; exact h) w
  · rename_i hns hnb
    refine fBin_ok hx hy (fun p q hp hq => ?_) h w
    exfalso
    have hxx := hx
    rw [hp] at hxx
    cases hxe : ev τ x with
    | v z =>
      rw [hxe] at hxx
      simp only [VRel] at hxx
      subst hxx
      exact hnb p hxe
    | any => rw [hxe] at h; simp [fBin] at h
    | bl => rw [hxe] at h; simp [fBin] at h
    | ptr => rw [hxe] at h; simp [fBin] at h
    | sl b o n c s => exact hns b o n c s hxe
    | agg l => rw [hxe] at hxx; simp [VRel] at hxx
    | tup l => rw [hxe] at h; simp [fBin] at h
    | fn => rw [hxe] at h; simp [fBin] at h

theorem fPick_ok {x y z r : AV} {c d e : Value} (hx : VRel μ x c) (hy : VRel μ y d) (hz : VRel μ z e) (h : fPick x y z = some r) (w : World) :
    ∃ u, (do pure (.value (if ← asBool c then d else e)) : Sem Next).run P w = .ok (.value u) w ∧ VRel μ r u := by
  unfold fPick at h
  split at h <;> try (cases h; done)
  rename_i t
  cases h
  simp only [VRel] at hx
  subst hx
  cases t
  · exact ⟨e, by simp [asBool], by simpa using hz⟩
  · exact ⟨d, by simp [asBool], by simpa using hy⟩

end
end Go.Proofs.Ythjjfdbkggiaeaa
