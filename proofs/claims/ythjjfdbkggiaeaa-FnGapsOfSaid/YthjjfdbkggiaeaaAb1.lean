/- An abstract store for walks, part 1: abstract values, abstract blocks, and what it means that a world and a frame match them. No condition: nothing of a program stands here. -/
import Derived.WalkKit
import Derived.WalkSpells
import Derived.WalkLawsBesides
set_option linter.unusedSimpArgs false
set_option linter.unusedVariables false
namespace Go.Proofs.Ythjjfdbkggiaeaa
open Go Go.RowKit

/-- Abstract values: 'any' (nothing known), 'bl' (some Bool), a value without addresses, a pointer into a named block (element i, cell c), a slice of a named block (from element o, n elements, its capacity if known, cells an element), structs, tuples, closures. -/
inductive AV where
  | any
  | bl
  | v (x : Value)
  | ptr (b i c : Nat)
  | sl (b o n : Nat) (cap : Option Nat) (sz : Nat)
  | agg (l : List AV)
  | tup (l : List AV)
  | fn (f : FuncId) (l : List AV)
  deriving Inhabited

/-- Where a named block lies: its address, how many elements fit, cells an element. -/
structure Loc where
  a : Addr
  C : Nat
  sz : Nat

abbrev Mu := Nat → Option Loc

mutual
def VRel (μ : Mu) : AV → Value → Prop
  | .any, _ => True
  | .bl, c => ∃ t : Bool, c = .bool t
  | .v x, c => c = x
  | .ptr b i k, c => ∃ L, μ b = some L ∧ c = .pointer (some (L.a.add (i * L.sz + k)))
  | .sl b o n cap sz, c => ∃ x m, c = .slice x n m ∧ n ≤ m ∧ (∀ k, cap = some k → m = k) ∧ (cap = some 0 ∨ ∃ L, μ b = some L ∧ L.sz = sz ∧ (0 < m → x = some (L.a.add (o * sz)) ∧ o + m ≤ L.C))
  | .agg l, c => ∃ cs : List Value, c = .agg cs.toArray ∧ VRels μ l cs
  | .tup l, c => ∃ cs : List Value, c = .tuple cs.toArray ∧ VRels μ l cs
  | .fn f l, c => ∃ cs : List Value, c = .func (.func f) #[] cs.toArray ∧ VRels μ l cs
def VRels (μ : Mu) : List AV → List Value → Prop
  | [], [] => True
  | x :: l, y :: m => VRel μ x y ∧ VRels μ l m
  | [], _ :: _ => False
  | _ :: _, [] => False
end

def Sub (μ μ' : Mu) : Prop := ∀ b L, μ b = some L → μ' b = some L
theorem Sub.refl (μ : Mu) : Sub μ μ := fun _ _ h => h
theorem Sub.trans {a b c : Mu} (h : Sub a b) (k : Sub b c) : Sub a c := fun x L hx => k x L (h x L hx)

mutual
theorem VRel.mono {μ μ' : Mu} (h : Sub μ μ') : ∀ (x : AV) (c : Value), VRel μ x c → VRel μ' x c
  | .any, _, _ => by simp [VRel]
  | .bl, c, hr => by simpa [VRel] using hr
  | .v x, c, hr => by simpa [VRel] using hr
  | .ptr b i k, c, hr => by
    simp only [VRel] at hr ⊢
    obtain ⟨L, hL, hc⟩ := hr
    exact ⟨L, h _ _ hL, hc⟩
  | .sl b o n cap sz, c, hr => by
    simp only [VRel] at hr ⊢
    obtain ⟨x, m, hc, hn, hk, hm⟩ := hr
    exact ⟨x, m, hc, hn, hk, hm.imp id fun ⟨L, h1, h2⟩ => ⟨L, h _ _ h1, h2⟩⟩
  | .agg l, c, hr => by
    simp only [VRel] at hr ⊢
    obtain ⟨cs, hc, hl⟩ := hr
    exact ⟨cs, hc, VRels.mono h l cs hl⟩
  | .tup l, c, hr => by
    simp only [VRel] at hr ⊢
    obtain ⟨cs, hc, hl⟩ := hr
    exact ⟨cs, hc, VRels.mono h l cs hl⟩
  | .fn f l, c, hr => by
    simp only [VRel] at hr ⊢
    obtain ⟨cs, hc, hl⟩ := hr
    exact ⟨cs, hc, VRels.mono h l cs hl⟩
theorem VRels.mono {μ μ' : Mu} (h : Sub μ μ') : ∀ (l : List AV) (m : List Value), VRels μ l m → VRels μ' l m
  | [], [], _ => by simp [VRels]
  | x :: l, y :: m, hr => by
    simp only [VRels] at hr ⊢
    exact ⟨VRel.mono h x y hr.1, VRels.mono h l m hr.2⟩
  | [], _ :: _, hr => by simp [VRels] at hr
  | _ :: _, [], hr => by simp [VRels] at hr
end

mutual
def ren (ρ : Nat → Nat) : AV → AV
  | .any => .any
  | .bl => .bl
  | .v x => .v x
  | .ptr b i k => .ptr (ρ b) i k
  | .sl b o n cap sz => .sl (ρ b) o n cap sz
  | .agg l => .agg (rens ρ l)
  | .tup l => .tup (rens ρ l)
  | .fn f l => .fn f (rens ρ l)
def rens (ρ : Nat → Nat) : List AV → List AV
  | [] => []
  | x :: l => ren ρ x :: rens ρ l
end

mutual
def nms : AV → List Nat
  | .any => []
  | .bl => []
  | .v _ => []
  | .ptr b _ _ => [b]
  | .sl b _ _ cap _ => if cap = some 0 then [] else [b]
  | .agg l => nmss l
  | .tup l => nmss l
  | .fn _ l => nmss l
def nmss : List AV → List Nat
  | [] => []
  | x :: l => nms x ++ nmss l
end

mutual
theorem VRel.ren {μ μ' : Mu} {ρ : Nat → Nat} : ∀ (x : AV) (c : Value), (∀ b ∈ nms x, ∀ L, μ b = some L → μ' (ρ b) = some L) → VRel μ x c → VRel μ' (ren ρ x) c
  | .any, _, _, _ => by simp [Go.Proofs.Ythjjfdbkggiaeaa.ren, VRel]
  | .bl, c, _, hr => by simpa [Go.Proofs.Ythjjfdbkggiaeaa.ren, VRel] using hr
  | .v x, c, _, hr => by simpa [Go.Proofs.Ythjjfdbkggiaeaa.ren, VRel] using hr
  | .ptr b i k, c, h, hr => by
    simp only [Go.Proofs.Ythjjfdbkggiaeaa.ren, VRel, nms, List.mem_singleton, forall_eq] at hr h ⊢
    obtain ⟨L, hL, hc⟩ := hr
    exact ⟨L, h _ hL, hc⟩
  | .sl b o n cap sz, c, h, hr => by
    simp only [Go.Proofs.Ythjjfdbkggiaeaa.ren, VRel, nms] at hr h ⊢
    obtain ⟨x, m, hc, hn, hk, hm⟩ := hr
    refine ⟨x, m, hc, hn, hk, ?_⟩
    by_cases e : cap = some 0
    · exact .inl e
    · rcases hm with hm | ⟨L, h1, h2⟩
      · exact absurd hm e
      · exact .inr ⟨L, h _ (by simp [e]) _ h1, h2⟩
  | .agg l, c, h, hr => by
    simp only [Go.Proofs.Ythjjfdbkggiaeaa.ren, VRel, nms] at hr h ⊢
    obtain ⟨cs, hc, hl⟩ := hr
    exact ⟨cs, hc, VRels.ren l cs h hl⟩
  | .tup l, c, h, hr => by
    simp only [Go.Proofs.Ythjjfdbkggiaeaa.ren, VRel, nms] at hr h ⊢
    obtain ⟨cs, hc, hl⟩ := hr
    exact ⟨cs, hc, VRels.ren l cs h hl⟩
  | .fn f l, c, h, hr => by
    simp only [Go.Proofs.Ythjjfdbkggiaeaa.ren, VRel, nms] at hr h ⊢
    obtain ⟨cs, hc, hl⟩ := hr
    exact ⟨cs, hc, VRels.ren l cs h hl⟩
theorem VRels.ren {μ μ' : Mu} {ρ : Nat → Nat} : ∀ (l : List AV) (m : List Value), (∀ b ∈ nmss l, ∀ L, μ b = some L → μ' (ρ b) = some L) → VRels μ l m → VRels μ' (rens ρ l) m
  | [], [], _, _ => by simp [rens, VRels]
  | x :: l, y :: m, h, hr => by
    simp only [rens, VRels, nmss, List.mem_append] at hr h ⊢
    exact ⟨VRel.ren x y (fun b hb => h b (.inl hb)) hr.1, VRels.ren l m (fun b hb => h b (.inr hb)) hr.2⟩
  | [], _ :: _, _, hr => by simp [VRels] at hr
  | _ :: _, [], _, hr => by simp [VRels] at hr
end

theorem VRels.length {μ : Mu} : ∀ {l : List AV} {m : List Value}, VRels μ l m → l.length = m.length
  | [], [], _ => rfl
  | x :: l, y :: m, h => by simp only [VRels] at h; simp [VRels.length h.2]
  | [], _ :: _, h => by simp [VRels] at h
  | _ :: _, [], h => by simp [VRels] at h
theorem VRels.get {μ : Mu} : ∀ {l : List AV} {m : List Value}, VRels μ l m → ∀ (i : Nat) (x : AV), l[i]? = some x → ∃ u, m[i]? = some u ∧ VRel μ x u
  | [], [], _, i, x, hx => by simp at hx
  | x :: l, y :: m, h, 0, z, hz => by simp only [VRels] at h; simp at hz; subst hz; exact ⟨y, by simp, h.1⟩
  | x :: l, y :: m, h, i + 1, z, hz => by simp only [VRels] at h; simp at hz; obtain ⟨u, hu, hr⟩ := VRels.get h.2 i z hz; exact ⟨u, by simpa using hu, hr⟩
  | [], _ :: _, h, _, _, _ => by simp [VRels] at h
  | _ :: _, [], h, _, _, _ => by simp [VRels] at h
theorem VRels.mk {μ : Mu} : ∀ {l : List AV} {m : List Value}, l.length = m.length → (∀ (i : Nat) (x : AV), l[i]? = some x → ∃ u, m[i]? = some u ∧ VRel μ x u) → VRels μ l m
  | [], [], _, _ => by simp [VRels]
  | x :: l, y :: m, hl, h => by
    simp only [VRels]
    obtain ⟨u, hu, hr⟩ := h 0 x (by simp)
    simp at hu
    subst hu
    exact ⟨hr, VRels.mk (by simpa using hl) fun i z hz => by simpa using h (i + 1) z (by simpa using hz)⟩
  | [], _ :: _, hl, _ => by simp at hl
  | _ :: _, [], hl, _ => by simp at hl
theorem VRels.append {μ : Mu} : ∀ {l l' : List AV} {m m' : List Value}, VRels μ l m → VRels μ l' m' → VRels μ (l ++ l') (m ++ m')
  | [], _, [], _, _, h' => by simpa using h'
  | x :: l, _, y :: m, _, h, h' => by simp only [VRels, List.cons_append] at h ⊢; exact ⟨h.1, VRels.append h.2 h'⟩
  | [], _, _ :: _, _, h, _ => by simp [VRels] at h
  | _ :: _, _, [], _, h, _ => by simp [VRels] at h

/-- A frame's slots, the newest first; what is not listed is not known. -/
abbrev Tm := List (Nat × AV)
def get : Tm → Nat → AV
  | [], _ => .any
  | (j, x) :: r, i => if i = j then x else get r i

structure Blk where
  ty : TypeId
  sz : Nat
  es : List (List AV)
  rw : Bool

abbrev Sto := Nat → Option Blk
def upd {α : Type} (σ : Nat → Option α) (b : Nat) (k : α) : Nat → Option α := fun c => if c = b then some k else σ c
theorem upd_eq {α : Type} (σ : Nat → Option α) (b : Nat) (k : α) : upd σ b k b = some k := by simp [upd]
theorem upd_ne {α : Type} (σ : Nat → Option α) (b : Nat) (k : α) (c : Nat) (h : c ≠ b) : upd σ b k c = σ c := by simp [upd, h]
def del {α : Type} (σ : Nat → Option α) (b : Nat) : Nat → Option α := fun c => if c = b then none else σ c
theorem del_eq {α : Type} (σ : Nat → Option α) (b : Nat) : del σ b b = none := by simp [del]
theorem del_ne {α : Type} (σ : Nat → Option α) (b : Nat) (c : Nat) (h : c ≠ b) : del σ b c = σ c := by simp [del, h]
/-- One store over another. -/
def ovr (σ δ : Sto) : Sto := fun b => match δ b with | some k => some k | none => σ b
def noS : Sto := fun _ => none
theorem ovr_none (σ : Sto) : ovr σ noS = σ := by funext b; simp [ovr, noS]
theorem ovr_one (σ : Sto) (b : Nat) (k : Blk) : ovr σ (upd noS b k) = upd σ b k := by funext c; by_cases h : c = b <;> simp [ovr, upd, noS, h]
theorem ovr_upd (σ δ : Sto) (b : Nat) (k : Blk) : ovr σ (upd δ b k) = upd (ovr σ δ) b k := by funext c; by_cases h : c = b <;> simp [ovr, upd, h]
theorem Sub.upd {μ : Mu} {b : Nat} (h : μ b = none) (L : Loc) : Sub μ (upd μ b L) := fun c K hc => by
  by_cases e : c = b
  · subst e; rw [h] at hc; cases hc
  · rw [upd_ne _ _ _ _ e]; exact hc

/-- What a world may turn: of the blocks below B those of X alone. -/
structure Keep (B : Nat) (X : Nat → Prop) (w w' : World) : Prop where
  os : w'.os = w.os
  tape : w'.tape = w.tape
  output : w'.output = w.output
  size : w.heap.size ≤ w'.heap.size
  block : ∀ k, k < B → ¬ X k → w'.heap[k]? = w.heap[k]?
theorem Keep.refl (B : Nat) (X : Nat → Prop) (w : World) : Keep B X w w := ⟨rfl, rfl, rfl, Nat.le_refl _, fun _ _ _ => rfl⟩
theorem Keep.trans {B : Nat} {X : Nat → Prop} {a b c : World} (h : Keep B X a b) (k : Keep B X b c) : Keep B X a c :=
  ⟨k.os.trans h.os, k.tape.trans h.tape, k.output.trans h.output, Nat.le_trans h.size k.size, fun i hi hx => (k.block i hi hx).trans (h.block i hi hx)⟩
theorem Keep.below {B : Nat} {w w' : World} (h : Keep B (fun _ => False) w w') : Below B w w' := ⟨h.os, h.tape, h.output, h.size, fun k hk => h.block k hk (fun h => h)⟩
theorem Keep.of_below {B : Nat} {X : Nat → Prop} {w w' : World} (h : Below B w w') : Keep B X w w' := ⟨h.os, h.tape, h.output, h.size, fun k hk _ => h.block k hk⟩

structure BRel (B : Nat) (X : Nat → Prop) (μ : Mu) (w : World) (L : Loc) (k : Blk) : Prop where
  sz : L.sz = k.sz
  pos : 0 < k.sz
  len : ∀ e ∈ k.es, e.length = k.sz
  rd : ∀ i e, k.es[i]? = some e → ∀ c v, e[c]? = some v → ∃ u, w.cell? (L.a.add (i * k.sz + c)) = some u ∧ u.oneCell' = true ∧ VRel μ v u
  own : k.rw = true → (k.es = [] ∧ L.C = 0) ∨ ∃ g cs, L.a = ⟨g, 0, none⟩ ∧ (B ≤ g ∨ X g) ∧ w.heap[g]? = some (.cells cs k.ty (0, 0)) ∧ cs.size = L.C * k.sz ∧ k.es.length ≤ L.C ∧ 0 < L.C

/-- The block lies somewhere. -/
def occ (k : Blk) (L : Loc) : Prop := k.es ≠ [] ∨ (k.rw = true ∧ 0 < L.C)

theorem add_block (a : Addr) (n : Nat) : (a.add n).block = a.block := by unfold Addr.add; split <;> rfl
theorem add_add (a : Addr) (i j : Nat) : (a.add i).add j = a.add (i + j) := by
  unfold Addr.add
  by_cases hi : i = 0 <;> by_cases hj : j = 0 <;> simp [hi, hj, Nat.add_assoc]
theorem add_row (g n : Nat) : (⟨g, 0, none⟩ : Addr).add n = ⟨g, n, none⟩ := by unfold Addr.add; split <;> simp_all

theorem BRel.lt {B : Nat} {X : Nat → Prop} {μ : Mu} {w : World} {L : Loc} {k : Blk} (h : BRel B X μ w L k) (ho : occ k L) : L.a.block < w.heap.size := by
  rcases ho with he | ⟨hr, hC⟩
  · cases hk : k.es with
    | nil => exact absurd hk he
    | cons e es =>
      have hl := h.len e (by simp [hk])
      have hp := h.pos
      obtain ⟨u, hu, _⟩ := h.rd 0 e (by simp [hk]) 0 (e[0]'(by omega)) (List.getElem?_eq_getElem (by omega))
      have := World.block_lt_of_cell? _ _ hu
      rwa [add_block] at this
  · rcases h.own hr with ⟨_, h0⟩ | ⟨g, cs, ha, _, hg, _⟩
    · omega
    · rw [ha]
      exact (Array.getElem?_eq_some_iff.1 hg).1

theorem BRel.keep {B : Nat} {X : Nat → Prop} {μ μ' : Mu} {w w' : World} {L : Loc} {k : Blk} (h : BRel B X μ w L k) (hs : Sub μ μ') (hw : occ k L → w'.heap[L.a.block]? = w.heap[L.a.block]?) : BRel B X μ' w' L k := by
  refine ⟨h.sz, h.pos, h.len, fun i e he c v hv => ?_, fun hr => ?_⟩
  · obtain ⟨u, hu, h1, h2⟩ := h.rd i e he c v hv
    have ho : occ k L := .inl (by intro h0; simp [h0] at he)
    exact ⟨u, (World.cell?_of_block (by rw [add_block]; exact hw ho)).trans hu, h1, VRel.mono hs _ _ h2⟩
  · rcases h.own hr with h0 | ⟨g, cs, ha, hb, hg, h3, h4, h5⟩
    · exact .inl h0
    · refine .inr ⟨g, cs, ha, hb, ?_, h3, h4, h5⟩
      have := hw (.inr ⟨hr, h5⟩)
      rw [ha] at this
      exact this.trans hg

/-- The world matches the store. -/
structure Rel (B : Nat) (w0 : World) (X : Nat → Prop) (μ : Mu) (σ : Sto) (w : World) : Prop where
  keep : Keep B X w0 w
  big : B ≤ w.heap.size
  blk : ∀ b k, σ b = some k → ∃ L, μ b = some L ∧ BRel B X μ w L k
  sep : ∀ b b' k k' L L', b ≠ b' → σ b = some k → σ b' = some k' → μ b = some L → μ b' = some L' → k.rw = true → 0 < L.C → occ k' L' → L.a.block ≠ L'.a.block
  fin : ∃ M, ∀ b, M ≤ b → μ b = none

section
variable {B : Nat} {w0 : World} {X : Nat → Prop} {μ μ' : Mu} {σ σ' : Sto} {w w' : World}

/-- A world that has left all blocks of the store alone. -/
theorem Rel.move (h : Rel B w0 X μ σ w) (hk : Keep B X w0 w') (hz : w.heap.size ≤ w'.heap.size) (hw : ∀ b k L, σ b = some k → μ b = some L → occ k L → w'.heap[L.a.block]? = w.heap[L.a.block]?) : Rel B w0 X μ σ w' := by
  refine ⟨hk, Nat.le_trans h.big hz, fun b k hb => ?_, h.sep, h.fin⟩
  obtain ⟨L, hL, hr⟩ := h.blk b k hb
  exact ⟨L, hL, hr.keep (Sub.refl _) (hw b k L hb hL)⟩

theorem Rel.moveB (h : Rel B w0 X μ σ w) (hb : Below w.heap.size w w') : Rel B w0 X μ σ w' := by
  have hB := h.big
  refine h.move (h.keep.trans (Keep.of_below (hb.mono (by omega)))) hb.size fun b k L hk hL ho => ?_
  obtain ⟨L', hL', hr⟩ := h.blk b k hk
  rw [hL] at hL'; cases hL'
  exact hb.block _ (hr.lt ho)

theorem Rel.drew (h : Rel B w0 X μ σ w) : Rel B w0 X μ σ w.drew := h.moveB ((Below.refl _ _).drew)

/-- Fewer blocks, weaker marks. -/
theorem Rel.less (h : Rel B w0 X μ σ w) (hs : ∀ b k, σ' b = some k → ∃ r, σ b = some { k with rw := r } ∧ (k.rw = true → r = true)) : Rel B w0 X μ σ' w := by
  refine ⟨h.keep, h.big, fun b k hb => ?_, fun b b' k k' L L' hne hb hb' hL hL' hr hC ho => ?_, h.fin⟩
  · obtain ⟨r, h1, h2⟩ := hs b k hb
    obtain ⟨L, hL, hR⟩ := h.blk b _ h1
    exact ⟨L, hL, hR.sz, hR.pos, hR.len, hR.rd, fun hk => hR.own (h2 hk)⟩
  · obtain ⟨r, h1, h2⟩ := hs b k hb
    obtain ⟨r', h1', h2'⟩ := hs b' k' hb'
    exact h.sep b b' _ _ L L' hne h1 h1' hL hL' (h2 hr) hC (ho.imp id fun ⟨x, y⟩ => ⟨h2' x, y⟩)

theorem Rel.sub (h : Rel B w0 X μ σ w) (hs : ∀ b k, σ' b = some k → σ b = some k) : Rel B w0 X μ σ' w :=
  h.less fun b k hb => ⟨k.rw, by simpa using hs b k hb, fun h => h⟩

theorem Rel.del (h : Rel B w0 X μ σ w) (b : Nat) : Rel B w0 X μ (del σ b) w :=
  h.sub fun c k hc => by
    by_cases e : c = b
    · subst e; rw [del_eq] at hc; cases hc
    · rwa [del_ne _ _ _ e] at hc

/-- A new row. -/
theorem Rel.alloc (h : Rel B w0 X μ σ w) {b : Nat} (hb : μ b = none) (t : TypeId) (sz C : Nat) (es : List (List AV)) (cs : Array Value) (hp : 0 < sz) (hC : 0 < C) (hcs : cs.size = C * sz) (hn : es.length ≤ C)
    (hl : ∀ e ∈ es, e.length = sz) (hrd : ∀ i e, es[i]? = some e → ∀ c v, e[c]? = some v → ∃ u, cs[i * sz + c]? = some u ∧ u.oneCell' = true ∧ VRel μ v u) (hσ : σ b = none) :
    Rel B w0 X (upd μ b ⟨⟨w.heap.size, 0, none⟩, C, sz⟩) (upd σ b ⟨t, sz, es, true⟩) (w.alloc (.cells cs t)) := by
  have hsub := Sub.upd hb ⟨⟨w.heap.size, 0, none⟩, C, sz⟩
  have hB := h.big
  refine ⟨h.keep.trans (Keep.of_below ((Below.refl _ _).alloc hB _)), by simp; omega, fun c k hc => ?_, fun c c' k k' L L' hne hc hc' hL hL' hr hCC ho => ?_, ?_⟩
  · by_cases e : c = b
    · subst e
      rw [upd_eq] at hc; cases hc
      refine ⟨_, upd_eq _ _ _, rfl, hp, hl, fun i e he c v hv => ?_, fun _ => .inr ⟨w.heap.size, cs, rfl, .inl hB, heap_alloc_new w _, hcs, hn, hC⟩⟩
      obtain ⟨u, hu, h1, h2⟩ := hrd i e he c v hv
      refine ⟨u, ?_, h1, VRel.mono hsub _ _ h2⟩
      rw [add_row, cell_of_row _ _ _ _ _ _ (heap_alloc_new w _)]
      exact hu
    · rw [upd_ne _ _ _ _ e] at hc
      obtain ⟨L, hL, hR⟩ := h.blk c k hc
      exact ⟨L, hsub _ _ hL, hR.keep hsub fun ho => Below.heap_alloc w _ _ (hR.lt ho)⟩
  · by_cases e : c = b
    · subst e
      rw [upd_eq] at hc hL; cases hc; cases hL
      rw [upd_ne _ _ _ _ (Ne.symm hne)] at hc' hL'
      obtain ⟨L2, hL2, hR⟩ := h.blk c' k' hc'
      rw [hL'] at hL2; cases hL2
      exact fun e => by have := hR.lt ho; simp only at e; omega
    · rw [upd_ne _ _ _ _ e] at hc hL
      by_cases e' : c' = b
      · subst e'
        rw [upd_eq] at hc' hL'; cases hc'; cases hL'
        obtain ⟨L2, hL2, hR⟩ := h.blk c k hc
        rw [hL] at hL2; cases hL2
        exact fun e => by have := hR.lt (.inr ⟨hr, hCC⟩); simp only at e; omega
      · rw [upd_ne _ _ _ _ e'] at hc' hL'
        exact h.sep c c' k k' L L' hne hc hc' hL hL' hr hCC ho
  · obtain ⟨M, hM⟩ := h.fin
    refine ⟨max M (b + 1), fun c hc => ?_⟩
    rw [upd_ne _ _ _ _ (by omega)]
    exact hM c (by omega)

/-- A name for a slice that lies nowhere. -/
theorem Rel.virt (h : Rel B w0 X μ σ w) {b : Nat} (hb : μ b = none) (t : TypeId) (sz : Nat) (hp : 0 < sz) (hσ : σ b = none) (a : Addr) :
    Rel B w0 X (upd μ b ⟨a, 0, sz⟩) (upd σ b ⟨t, sz, [], true⟩) w := by
  have hsub := Sub.upd hb ⟨a, 0, sz⟩
  refine ⟨h.keep, h.big, fun c k hc => ?_, fun c c' k k' L L' hne hc hc' hL hL' hr hCC ho => ?_, ?_⟩
  · by_cases e : c = b
    · subst e
      rw [upd_eq] at hc; cases hc
      exact ⟨_, upd_eq _ _ _, rfl, hp, by simp, by simp, fun _ => .inl ⟨rfl, rfl⟩⟩
    · rw [upd_ne _ _ _ _ e] at hc
      obtain ⟨L, hL, hR⟩ := h.blk c k hc
      exact ⟨L, hsub _ _ hL, hR.keep hsub fun _ => rfl⟩
  · by_cases e : c = b
    · subst e
      rw [upd_eq] at hc hL; cases hc; cases hL
      simp at hCC
    · rw [upd_ne _ _ _ _ e] at hc hL
      by_cases e' : c' = b
      · subst e'
        rw [upd_eq] at hc' hL'; cases hc'; cases hL'
        rcases ho with ho | ho <;> simp at ho
      · rw [upd_ne _ _ _ _ e'] at hc' hL'
        exact h.sep c c' k k' L L' hne hc hc' hL hL' hr hCC ho
  · obtain ⟨M, hM⟩ := h.fin
    refine ⟨max M (b + 1), fun c hc => ?_⟩
    rw [upd_ne _ _ _ _ (by omega)]
    exact hM c (by omega)

/-- A row of the store written anew. -/
theorem Rel.setRow (h : Rel B w0 X μ σ w) {b : Nat} {k : Blk} {L : Loc} (hb : σ b = some k) (hL : μ b = some L) (hr : k.rw = true) {g : Nat} {cs : Array Value} (ha : L.a = ⟨g, 0, none⟩) (hg : w.heap[g]? = some (.cells cs k.ty (0, 0)))
    (hx : B ≤ g ∨ X g) (hC : 0 < L.C) (cs' : Array Value) (es' : List (List AV)) (hcs : cs'.size = cs.size) (hcC : cs.size = L.C * k.sz) (hn : es'.length ≤ L.C) (hl : ∀ e ∈ es', e.length = k.sz)
    (hrd : ∀ i e, es'[i]? = some e → ∀ c v, e[c]? = some v → ∃ u, cs'[i * k.sz + c]? = some u ∧ u.oneCell' = true ∧ VRel μ v u) :
    Rel B w0 X μ (upd σ b { k with es := es' }) (w.setRow g cs') := by
  obtain ⟨L0, hL0, hR⟩ := h.blk b k hb
  rw [hL] at hL0; cases hL0
  have hgl : g < w.heap.size := (Array.getElem?_eq_some_iff.1 hg).1
  have hother : ∀ i, i ≠ g → (w.setRow g cs').heap[i]? = w.heap[i]? := fun i hi => setRow_other w g i _ hi
  refine ⟨h.keep.trans ⟨rfl, rfl, rfl, by simp, fun i hi hxi => hother i ?_⟩, by simpa using h.big, fun c k' hc => ?_, fun c c' k1 k2 L1 L2 hne hc hc' hL1 hL2 hr1 hC1 ho => ?_, h.fin⟩
  · rintro rfl
    rcases hx with hx | hx
    · omega
    · exact hxi hx
  · by_cases e : c = b
    · subst e
      rw [upd_eq] at hc; cases hc
      refine ⟨L, hL, hR.sz, hR.pos, hl, fun i e he c v hv => ?_, fun _ => .inr ⟨g, cs', ha, hx, setRow_heap w g cs _ _ _ hg, hcs.trans hcC, hn, hC⟩⟩
      obtain ⟨u, hu, h1, h2⟩ := hrd i e he c v hv
      refine ⟨u, ?_, h1, h2⟩
      rw [ha, add_row, cell_of_row _ _ _ _ _ _ (setRow_heap w g cs _ _ _ hg)]
      exact hu
    · rw [upd_ne _ _ _ _ e] at hc
      obtain ⟨L1, hL1, hR1⟩ := h.blk c k' hc
      refine ⟨L1, hL1, hR1.keep (Sub.refl _) fun ho => hother _ ?_⟩
      have := h.sep b c k k' L L1 (Ne.symm e) hb hc hL hL1 hr hC ho
      rw [ha] at this
      exact Ne.symm this
  · have fix : ∀ d kd, upd σ b { k with es := es' } d = some kd → ∃ k0, σ d = some k0 ∧ k0.rw = kd.rw ∧ (∀ Ld, occ kd Ld → (d = b ∧ Ld = L ∨ occ k0 Ld) ∨ d = b) := fun d kd hd => by
      by_cases e : d = b
      · subst e
        rw [upd_eq] at hd; cases hd
        exact ⟨k, hb, rfl, fun _ _ => .inr rfl⟩
      · rw [upd_ne _ _ _ _ e] at hd
        exact ⟨kd, hd, rfl, fun _ ho => .inl (.inr ho)⟩
    obtain ⟨k1', h1, e1, _⟩ := fix c k1 hc
    obtain ⟨k2', h2, e2, f2⟩ := fix c' k2 hc'
    refine h.sep c c' k1' k2' L1 L2 hne h1 h2 hL1 hL2 (e1.trans hr1) hC1 ?_
    rcases f2 L2 ho with (⟨e, _⟩ | ho') | e
    · subst e
      rw [hL] at hL2; cases hL2
      rw [hb] at h2; cases h2
      exact .inr ⟨hr, hC⟩
    · exact ho'
    · subst e
      rw [hL] at hL2; cases hL2
      rw [hb] at h2; cases h2
      exact .inr ⟨hr, hC⟩
end

end Go.Proofs.Ythjjfdbkggiaeaa
