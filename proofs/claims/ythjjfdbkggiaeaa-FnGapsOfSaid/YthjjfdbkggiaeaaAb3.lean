/- An abstract store for walks, part 3: operations on scalars and on memory, each held against the model's own operation. No condition: nothing of a program stands here. -/
import Derived.Test.YthjjfdbkggiaeaaAb2
set_option linter.unusedSimpArgs false
set_option linter.unusedVariables false
namespace Go.Proofs.Ythjjfdbkggiaeaa
open Go Go.RowKit

theorem str_beq (a b : ByteArray) : (a.toList == b.toList) = decide (a = b) := by
  by_cases h : a = b
  · subst h; simp
  · have : a.toList ≠ b.toList := fun e => h (by
      rw [ByteArray.toList_eq, ByteArray.toList_eq] at e
      obtain ⟨⟨x⟩⟩ := a; obtain ⟨⟨y⟩⟩ := b
      simp at e; subst e; rfl)
    simp [h, this]

theorem beqD {α : Type} [BEq α] [LawfulBEq α] [DecidableEq α] (a b : α) : (a == b) = decide (a = b) := by by_cases h : a = b <;> simp [h]

section
variable {P : Program} {B : Nat} {w0 : World} {X : Nat → Prop} {μ : Mu} {σ : Sto} {w : World}

/-- The kind of a type: 0 a bool, 1 an integer, 2 a string. -/
def kdT (P : Program) (t : TypeId) : Option Nat :=
  match P.underlying t with | some .bool => some 0 | some (.int _) => some 1 | some .string => some 2 | _ => none
/-- Two cells of a kind, compared. -/
def eqv : Nat → AV → AV → Option Bool
  | 1, .v (.int k a), .v (.int k' b) => if k = k' then some (decide (a = b)) else none
  | 2, .v (.string a), .v (.string b) => some (decide (a = b))
  | 0, .v (.bool a), .v (.bool b) => some (decide (a = b))
  | _, _, _ => none
def eqvs : List Nat → List AV → List AV → Option Bool
  | [], _, _ => some true
  | k :: ks, x :: l, y :: m => match eqv k x y with
    | some a => match eqvs ks l m with
      | some b => some (a && b)
      | none => none
    | none => none
  | _, _, _ => none
/-- The kinds of a struct's fields, one cell each, in order. -/
def kdFs (P : Program) : Nat → List Field → Option (List Nat)
  | _, [] => some []
  | n, f :: fs => if f.offset = n ∧ f.name ≠ "_" then match kdT P f.type, kdFs P (n + 1) fs with
    | some k, some ks => some (k :: ks)
    | _, _ => none
    else none
def kdO (P : Program) (t : TypeId) : Option (List Nat) :=
  match P.underlying t with
  | some (.struct fs) => if P.stoodInHeld t = false ∧ P.eqGuardType P.depth t = false then kdFs P 0 fs.toList else none
  | _ => none
def fBin (op : BinOp) (kd : Option (List Nat)) (x y : AV) : Option AV :=
  match x, y with
  | .v (.int k a), .v (.int k' b) =>
    match op with
    | .shl => if 0 ≤ b then some (.v (.int k (k.wrap (a * 2 ^ (min b.toNat k.bits))))) else none
    | .shr => if 0 ≤ b then some (.v (.int k (a.fdiv (2 ^ (min b.toNat k.bits))))) else none
    | op => if k = k' then
        match op with
        | .add => some (.v (.int k (k.wrap (a + b))))
        | .sub => some (.v (.int k (k.wrap (a - b))))
        | .mul => some (.v (.int k (k.wrap (a * b))))
        | .quo => if b = 0 then none else some (.v (.int k (k.wrap (a.tdiv b))))
        | .rem => if b = 0 then none else some (.v (.int k (a.tmod b)))
        | .and => some (.v (.int k (bits .and k a b)))
        | .or => some (.v (.int k (bits .or k a b)))
        | .xor => some (.v (.int k (bits .xor k a b)))
        | .andNot => some (.v (.int k (bits .andNot k a b)))
        | .eql => some (.v (.bool (decide (a = b))))
        | .neq => some (.v (.bool (!decide (a = b))))
        | .lss => some (.v (.bool (decide (a < b))))
        | .leq => some (.v (.bool (decide (a ≤ b))))
        | .gtr => some (.v (.bool (decide (b < a))))
        | .geq => some (.v (.bool (decide (b ≤ a))))
        | _ => none
      else none
  | .v (.string a), .v (.string b) =>
    match op with
    | .add => if a.size + b.size ≤ 9223372036854775807 then some (.v (.string (a ++ b))) else none
    | .eql => some (.v (.bool (decide (a = b))))
    | .neq => some (.v (.bool (!decide (a = b))))
    | _ => none
  | .agg l, .agg m => match kd with
    | some ks => match op with
      | .eql => match eqvs ks l m with | some b => some (.v (.bool b)) | none => none
      | .neq => match eqvs ks l m with | some b => some (.v (.bool (!b))) | none => none
      | _ => none
    | none => none
  | .v (.bool a), .v (.bool b) =>
    match op with
    | .eql => some (.v (.bool (decide (a = b))))
    | .neq => some (.v (.bool (!decide (a = b))))
    | _ => none
  | _, _ => none

theorem eqv_ok {k : Nat} {x y : AV} {b : Bool} {c d : Value} {t : TypeId} {n : Nat} (h : eqv k x y = some b) (hx : VRel μ x c) (hy : VRel μ y d) (ht : kdT P t = some k) (w : World) :
    (Op.equalIn (n + 1) t c d).run P w = .ok b w := by
  unfold eqv at h
  unfold kdT at ht
  split at h <;> try (cases h; done)
  · split at h <;> try (cases h; done)
    rename_i hk
    subst hk
    cases h
    simp only [VRel] at hx hy
    subst hx; subst hy
    split at ht <;> try (simp at ht; done)
    rename_i hu
    simp [Op.equalIn, run_underlying hu, beqD]
  · cases h
    simp only [VRel] at hx hy
    subst hx; subst hy
    split at ht <;> try (simp at ht; done)
    rename_i hu
    rw [run_equalIn_string _ _ _ _ _ hu, str_beq]
  · cases h
    simp only [VRel] at hx hy
    subst hx; subst hy
    split at ht <;> try (simp at ht; done)
    rename_i hu
    simp [Op.equalIn, run_underlying hu, beqD]

theorem run_partO {t : TypeId} {k : Nat} (ht : kdT P t = some k) {cs : Array Value} {o : Nat} {v : Value} (h : cs[o]? = some v) (w : World) : (part t cs o).run P w = .ok v w := by
  have hag : aggO P t = some false := by
    unfold kdT at ht
    unfold aggO
    split at ht <;> simp_all
  simp [part, run_isAggO hag, h]

theorem eqvs_ok {n : Nat} (w : World) : ∀ (fs : List Field) (o : Nat) (ks : List Nat) (l m : List AV) (cs ds : List Value) (b : Bool), kdFs P o fs = some ks → VRels μ l cs → VRels μ m ds → eqvs ks l m = some b →
    ∀ (pre pre' : List Value), pre.length = o → pre'.length = o → (Op.eqFields (n + 1) (pre ++ cs).toArray (pre' ++ ds).toArray fs).run P w = .ok b w
  | [], o, ks, l, m, cs, ds, b, hk, hl, hm, h, pre, pre', h1, h2 => by
    simp [kdFs] at hk
    subst hk
    simp [eqvs] at h
    subst h
    simp [Op.eqFields]
  | f :: fs, o, ks, l, m, cs, ds, b, hk, hl, hm, h, pre, pre', h1, h2 => by
    simp only [kdFs] at hk
    split at hk <;> try (cases hk; done)
    rename_i hf
    split at hk <;> try (cases hk; done)
    rename_i k ks' hkt hks
    cases hk
    match l, cs, m, ds, hl, hm, h with
    | x :: l, c :: cs, y :: m, d :: ds, hl, hm, h =>
      simp only [VRels] at hl hm
      simp only [eqvs] at h
      split at h <;> try (cases h; done)
      rename_i a ha
      split at h <;> try (cases h; done)
      rename_i b' hb'
      cases h
      have hc : (pre ++ c :: cs).toArray[f.offset]? = some c := by simp [hf.1, ← h1]
      have hd : (pre' ++ d :: ds).toArray[f.offset]? = some d := by simp [hf.1, ← h2]
      have ih := eqvs_ok (n := n) w fs (o + 1) ks' l m cs ds b' hks hl.2 hm.2 hb' (pre ++ [c]) (pre' ++ [d]) (by simp [h1]) (by simp [h2])
      simp only [List.append_assoc, List.singleton_append] at ih
      simp only [Op.eqFields, Sem.run_bind, Sem.run_ite, run_partO hkt hc, run_partO hkt hd, Result.andThen_ok, eqv_ok ha hl.1 hm.1 hkt, bne_iff_ne, ne_eq, hf.2, not_false_eq_true, if_true]
      cases a
      · simp
      · simp [ih]
    | [], [], _, _, _, _, h => simp [eqvs] at h
    | x :: l, c :: cs, [], [], _, _, h => simp [eqvs] at h
    | [], _ :: _, _, _, hl, _, _ => simp [VRels] at hl
    | _ :: _, [], _, _, hl, _, _ => simp [VRels] at hl
    | _, _, [], _ :: _, _, hm, _ => simp [VRels] at hm
    | _, _, _ :: _, [], _, hm, _ => simp [VRels] at hm

theorem fBin_ok {op : BinOp} {t : TypeId} {x y : Operand} {u v r : AV} {c d : Value} (hx : VRel μ u c) (hy : VRel μ v d) (hb : ∀ p q : Bool, c = .bool p → d = .bool q → P.underlying t = some .bool) (h : fBin op (kdO P t) u v = some r) (w : World) :
    ∃ z, (do eqGuard op t x y c d; binOp op t c d : Sem Value).run P w = .ok z w ∧ VRel μ r z := by
  unfold fBin at h
  split at h <;> try (cases h; done)
  · rename_i k a k' b
    simp only [VRel] at hx hy
    subst hx; subst hy
    have hg : (eqGuard op t x y (.int k a) (.int k' b)).run P w = .ok () w := by unfold eqGuard; split <;> rfl
    split at h
    · split at h <;> try (cases h; done)
      rename_i h0
      cases h
      refine ⟨.int k (k.wrap (a * 2 ^ (min b.toNat k.bits))), ?_, by simp only [VRel]⟩
      have : ¬ b < 0 := by omega
      simp [hg, binOp, Op.shift, this]
    · split at h <;> try (cases h; done)
      rename_i h0
      cases h
      refine ⟨.int k (a.fdiv (2 ^ (min b.toNat k.bits))), ?_, by simp only [VRel]⟩
      have : ¬ b < 0 := by omega
      simp [hg, binOp, Op.shift, this]
    · split at h <;> try (cases h; done)
      rename_i hk
      subst hk
      split at h <;> try (cases h; done)
      all_goals first
        | (cases h
           refine ⟨_, ?_, (by simp only [VRel]; rfl : VRel μ (.v _) _)⟩
           simp only [Sem.run_bind, hg, Result.andThen_ok]
           simp [binOp, Op.intArith, Op.intBits, Op.intCmp, bits, beqD, bne]
           done)
        | (split at h <;> try (cases h; done)
           rename_i hz
           cases h
           refine ⟨_, ?_, (by simp only [VRel]; rfl : VRel μ (.v _) _)⟩
           simp only [Sem.run_bind, hg, Result.andThen_ok]
           simp [binOp, Op.intDiv, hz]
           done)
  · rename_i a b
    simp only [VRel] at hx hy
    subst hx; subst hy
    have hg : (eqGuard op t x y (.string a) (.string b)).run P w = .ok () w := by unfold eqGuard; split <;> rfl
    split at h <;> try (cases h; done)
    · split at h <;> try (cases h; done)
      rename_i hs
      cases h
      have : ¬ (9223372036854775807 < (a.size : Int) + (b.size : Int)) := by omega
      exact ⟨.string (a ++ b), by simp [hg, binOp, Op.stringOp, IntKind.max, IntKind.signed, IntKind.bits]; omega, by simp [VRel]⟩
    · cases h; exact ⟨.bool (decide (a = b)), by simp [hg, binOp, Op.stringOp, str_beq], by simp [VRel]⟩
    · cases h; exact ⟨.bool (!decide (a = b)), by simp [hg, binOp, Op.stringOp, str_beq], by simp [VRel]⟩
  · rename_i l m
    split at h <;> try (cases h; done)
    rename_i ks hks
    unfold kdO at hks
    split at hks <;> try (cases hks; done)
    rename_i fs hu
    split at hks <;> try (cases hks; done)
    rename_i hg
    simp only [VRel] at hx hy
    obtain ⟨cs, rfl, hl⟩ := hx
    obtain ⟨ds, rfl, hm⟩ := hy
    have hfs : P.underlying t = some (.struct (P.fieldsOf t)) := by simp [Program.fieldsOf, hu]
    have hfs' : (P.fieldsOf t).toList = fs.toList := by simp [Program.fieldsOf, hu]
    have key : ∀ b, eqvs ks l m = some b → (Op.equalIn 10000 t (.agg cs.toArray) (.agg ds.toArray)).run P w = .ok b w := fun b hb => by
      rw [run_equalIn_agg w 9999 t _ _ hfs hg.1, hfs']
      have := eqvs_ok (n := 9998) (P := P) (μ := μ) w fs.toList 0 ks l m cs ds b hks hl hm hb [] [] rfl rfl
      simpa using this
    split at h <;> try (cases h; done)
    · split at h <;> try (cases h; done)
      rename_i b hb
      cases h
      exact ⟨.bool b, by simp only [Sem.run_bind, run_eqGuard_agg _ _ _ _ _ _ _ hg.2, Result.andThen_ok, run_eql_struct, key b hb], by simp [VRel]⟩
    · split at h <;> try (cases h; done)
      rename_i b hb
      cases h
      exact ⟨.bool (!b), by simp only [Sem.run_bind, run_eqGuard_agg _ _ _ _ _ _ _ hg.2, Result.andThen_ok, run_neq_struct, key b hb], by simp [VRel]⟩
  · rename_i a b
    simp only [VRel] at hx hy
    subst hx; subst hy
    have hu := hb a b rfl rfl
    have hg : ∀ op, (eqGuard op t x y (.bool a) (.bool b)).run P w = .ok () w := fun op => by unfold eqGuard; split <;> rfl
    have he : (Op.equalIn 10000 t (.bool a) (.bool b)).run P w = .ok (a == b) w := run_equalIn_bool w 9999 t a b hu
    split at h <;> try (cases h; done)
    · cases h; exact ⟨.bool (decide (a = b)), by simp only [Sem.run_bind, hg, Result.andThen_ok]; simp only [binOp]; simp [Op.equal, Op.maxDepth, he, beqD], by simp [VRel]⟩
    · cases h; exact ⟨.bool (!decide (a = b)), by simp only [Sem.run_bind, hg, Result.andThen_ok]; simp only [binOp]; simp [Op.equal, Op.maxDepth, he, beqD], by simp [VRel]⟩

end
end Go.Proofs.Ythjjfdbkggiaeaa
