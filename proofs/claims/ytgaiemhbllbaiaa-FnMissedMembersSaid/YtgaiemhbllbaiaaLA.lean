/- An abstract store and its logic for walks, first half. No condition: nothing of a program stands here. -/
import Derived.WalkKit
import Derived.WalkSpells
import Derived.WalkLawsBesides
import Derived.Great.BuildSlice
import Derived.Deep.LoopGhost
set_option linter.unusedSimpArgs false
set_option linter.unusedVariables false
set_option linter.unusedSectionVars false
namespace Go.Proofs.Ytgaiemhbllbaiaa
open Go Go.RowKit

/-- Abstract values: 'any' (nothing known), 'bl' (some Bool), a value without addresses, a pointer into a named block (element i, cell c), a slice of a named block (from element o, n elements, its capacity if known, cells an element), structs, tuples, closures. -/
inductive AV where
  | any
  | bl
  | v (x : Value)
  | ptr (b i c : Nat)
  | sl (b o n : Nat) (cap : Option Nat) (sz : Nat)
  | agg (l : List AV)
  | tup (l : List AV)
  | fn (f : FuncId) (l : List AV)
  deriving Inhabited

/-- Where a named block lies: its address, how many elements fit, cells an element. -/
structure Loc where
  a : Addr
  C : Nat
  sz : Nat

abbrev Mu := Nat → Option Loc

mutual
def VRel (μ : Mu) : AV → Value → Prop
  | .any, _ => True
  | .bl, c => ∃ t : Bool, c = .bool t
  | .v x, c => c = x
  | .ptr b i k, c => ∃ L, μ b = some L ∧ c = .pointer (some (L.a.add (i * L.sz + k)))
  | .sl b o n cap sz, c => ∃ x m, c = .slice x n m ∧ n ≤ m ∧ (∀ k, cap = some k → m = k) ∧ (cap = some 0 ∨ ∃ L, μ b = some L ∧ L.sz = sz ∧ (0 < m → x = some (L.a.add (o * sz)) ∧ o + m ≤ L.C))
  | .agg l, c => ∃ cs : List Value, c = .agg cs.toArray ∧ VRels μ l cs
  | .tup l, c => ∃ cs : List Value, c = .tuple cs.toArray ∧ VRels μ l cs
  | .fn f l, c => ∃ cs : List Value, c = .func (.func f) #[] cs.toArray ∧ VRels μ l cs
def VRels (μ : Mu) : List AV → List Value → Prop
  | [], [] => True
  | x :: l, y :: m => VRel μ x y ∧ VRels μ l m
  | [], _ :: _ => False
  | _ :: _, [] => False
end

def Sub (μ μ' : Mu) : Prop := ∀ b L, μ b = some L → μ' b = some L
theorem Sub.refl (μ : Mu) : Sub μ μ := fun _ _ h => h
theorem Sub.trans {a b c : Mu} (h : Sub a b) (k : Sub b c) : Sub a c := fun x L hx => k x L (h x L hx)

mutual
theorem VRel.mono {μ μ' : Mu} (h : Sub μ μ') : ∀ (x : AV) (c : Value), VRel μ x c → VRel μ' x c
  | .any, _, _ => by simp [VRel]
  | .bl, c, hr => by simpa [VRel] using hr
  | .v x, c, hr => by simpa [VRel] using hr
  | .ptr b i k, c, hr => by
    simp only [VRel] at hr ⊢
    obtain ⟨L, hL, hc⟩ := hr
    exact ⟨L, h _ _ hL, hc⟩
  | .sl b o n cap sz, c, hr => by
    simp only [VRel] at hr ⊢
    obtain ⟨x, m, hc, hn, hk, hm⟩ := hr
    exact ⟨x, m, hc, hn, hk, hm.imp id fun ⟨L, h1, h2⟩ => ⟨L, h _ _ h1, h2⟩⟩
  | .agg l, c, hr => by
    simp only [VRel] at hr ⊢
    obtain ⟨cs, hc, hl⟩ := hr
    exact ⟨cs, hc, VRels.mono h l cs hl⟩
  | .tup l, c, hr => by
    simp only [VRel] at hr ⊢
    obtain ⟨cs, hc, hl⟩ := hr
    exact ⟨cs, hc, VRels.mono h l cs hl⟩
  | .fn f l, c, hr => by
    simp only [VRel] at hr ⊢
    obtain ⟨cs, hc, hl⟩ := hr
    exact ⟨cs, hc, VRels.mono h l cs hl⟩
theorem VRels.mono {μ μ' : Mu} (h : Sub μ μ') : ∀ (l : List AV) (m : List Value), VRels μ l m → VRels μ' l m
  | [], [], _ => by simp [VRels]
  | x :: l, y :: m, hr => by
    simp only [VRels] at hr ⊢
    exact ⟨VRel.mono h x y hr.1, VRels.mono h l m hr.2⟩
  | [], _ :: _, hr => by simp [VRels] at hr
  | _ :: _, [], hr => by simp [VRels] at hr
end

mutual
def ren (ρ : Nat → Nat) : AV → AV
  | .any => .any
  | .bl => .bl
  | .v x => .v x
  | .ptr b i k => .ptr (ρ b) i k
  | .sl b o n cap sz => .sl (ρ b) o n cap sz
  | .agg l => .agg (rens ρ l)
  | .tup l => .tup (rens ρ l)
  | .fn f l => .fn f (rens ρ l)
def rens (ρ : Nat → Nat) : List AV → List AV
  | [] => []
  | x :: l => ren ρ x :: rens ρ l
end

mutual
def nms : AV → List Nat
  | .any => []
  | .bl => []
  | .v _ => []
  | .ptr b _ _ => [b]
  | .sl b _ _ cap _ => if cap = some 0 then [] else [b]
  | .agg l => nmss l
  | .tup l => nmss l
  | .fn _ l => nmss l
def nmss : List AV → List Nat
  | [] => []
  | x :: l => nms x ++ nmss l
end

mutual
theorem VRel.ren {μ μ' : Mu} {ρ : Nat → Nat} : ∀ (x : AV) (c : Value), (∀ b ∈ nms x, ∀ L, μ b = some L → μ' (ρ b) = some L) → VRel μ x c → VRel μ' (ren ρ x) c
  | .any, _, _, _ => by simp [Go.Proofs.Ytgaiemhbllbaiaa.ren, VRel]
  | .bl, c, _, hr => by simpa [Go.Proofs.Ytgaiemhbllbaiaa.ren, VRel] using hr
  | .v x, c, _, hr => by simpa [Go.Proofs.Ytgaiemhbllbaiaa.ren, VRel] using hr
  | .ptr b i k, c, h, hr => by
    simp only [Go.Proofs.Ytgaiemhbllbaiaa.ren, VRel, nms, List.mem_singleton, forall_eq] at hr h ⊢
    obtain ⟨L, hL, hc⟩ := hr
    exact ⟨L, h _ hL, hc⟩
  | .sl b o n cap sz, c, h, hr => by
    simp only [Go.Proofs.Ytgaiemhbllbaiaa.ren, VRel, nms] at hr h ⊢
    obtain ⟨x, m, hc, hn, hk, hm⟩ := hr
    refine ⟨x, m, hc, hn, hk, ?_⟩
    by_cases e : cap = some 0
    · exact .inl e
    · rcases hm with hm | ⟨L, h1, h2⟩
      · exact absurd hm e
      · exact .inr ⟨L, h _ (by simp [e]) _ h1, h2⟩
  | .agg l, c, h, hr => by
    simp only [Go.Proofs.Ytgaiemhbllbaiaa.ren, VRel, nms] at hr h ⊢
    obtain ⟨cs, hc, hl⟩ := hr
    exact ⟨cs, hc, VRels.ren l cs h hl⟩
  | .tup l, c, h, hr => by
    simp only [Go.Proofs.Ytgaiemhbllbaiaa.ren, VRel, nms] at hr h ⊢
    obtain ⟨cs, hc, hl⟩ := hr
    exact ⟨cs, hc, VRels.ren l cs h hl⟩
  | .fn f l, c, h, hr => by
    simp only [Go.Proofs.Ytgaiemhbllbaiaa.ren, VRel, nms] at hr h ⊢
    obtain ⟨cs, hc, hl⟩ := hr
    exact ⟨cs, hc, VRels.ren l cs h hl⟩
theorem VRels.ren {μ μ' : Mu} {ρ : Nat → Nat} : ∀ (l : List AV) (m : List Value), (∀ b ∈ nmss l, ∀ L, μ b = some L → μ' (ρ b) = some L) → VRels μ l m → VRels μ' (rens ρ l) m
  | [], [], _, _ => by simp [rens, VRels]
  | x :: l, y :: m, h, hr => by
    simp only [rens, VRels, nmss, List.mem_append] at hr h ⊢
    exact ⟨VRel.ren x y (fun b hb => h b (.inl hb)) hr.1, VRels.ren l m (fun b hb => h b (.inr hb)) hr.2⟩
  | [], _ :: _, _, hr => by simp [VRels] at hr
  | _ :: _, [], _, hr => by simp [VRels] at hr
end

theorem VRels.length {μ : Mu} : ∀ {l : List AV} {m : List Value}, VRels μ l m → l.length = m.length
  | [], [], _ => rfl
  | x :: l, y :: m, h => by simp only [VRels] at h; simp [VRels.length h.2]
  | [], _ :: _, h => by simp [VRels] at h
  | _ :: _, [], h => by simp [VRels] at h
theorem VRels.get {μ : Mu} : ∀ {l : List AV} {m : List Value}, VRels μ l m → ∀ (i : Nat) (x : AV), l[i]? = some x → ∃ u, m[i]? = some u ∧ VRel μ x u
  | [], [], _, i, x, hx => by simp at hx
  | x :: l, y :: m, h, 0, z, hz => by simp only [VRels] at h; simp at hz; subst hz; exact ⟨y, by simp, h.1⟩
  | x :: l, y :: m, h, i + 1, z, hz => by simp only [VRels] at h; simp at hz; obtain ⟨u, hu, hr⟩ := VRels.get h.2 i z hz; exact ⟨u, by simpa using hu, hr⟩
  | [], _ :: _, h, _, _, _ => by simp [VRels] at h
  | _ :: _, [], h, _, _, _ => by simp [VRels] at h
theorem VRels.mk {μ : Mu} : ∀ {l : List AV} {m : List Value}, l.length = m.length → (∀ (i : Nat) (x : AV), l[i]? = some x → ∃ u, m[i]? = some u ∧ VRel μ x u) → VRels μ l m
  | [], [], _, _ => by simp [VRels]
  | x :: l, y :: m, hl, h => by
    simp only [VRels]
    obtain ⟨u, hu, hr⟩ := h 0 x (by simp)
    simp at hu
    subst hu
    exact ⟨hr, VRels.mk (by simpa using hl) fun i z hz => by simpa using h (i + 1) z (by simpa using hz)⟩
  | [], _ :: _, hl, _ => by simp at hl
  | _ :: _, [], hl, _ => by simp at hl
theorem VRels.append {μ : Mu} : ∀ {l l' : List AV} {m m' : List Value}, VRels μ l m → VRels μ l' m' → VRels μ (l ++ l') (m ++ m')
  | [], _, [], _, _, h' => by simpa using h'
  | x :: l, _, y :: m, _, h, h' => by simp only [VRels, List.cons_append] at h ⊢; exact ⟨h.1, VRels.append h.2 h'⟩
  | [], _, _ :: _, _, h, _ => by simp [VRels] at h
  | _ :: _, _, [], _, h, _ => by simp [VRels] at h

/-- A frame's slots, the newest first; what is not listed is not known. -/
abbrev Tm := List (Nat × AV)
def get : Tm → Nat → AV
  | [], _ => .any
  | (j, x) :: r, i => if i = j then x else get r i

structure Blk where
  ty : TypeId
  sz : Nat
  es : List (List AV)
  rw : Bool

abbrev Sto := Nat → Option Blk
def upd {α : Type} (σ : Nat → Option α) (b : Nat) (k : α) : Nat → Option α := fun c => if c = b then some k else σ c
theorem upd_eq {α : Type} (σ : Nat → Option α) (b : Nat) (k : α) : upd σ b k b = some k := by simp [upd]
theorem upd_ne {α : Type} (σ : Nat → Option α) (b : Nat) (k : α) (c : Nat) (h : c ≠ b) : upd σ b k c = σ c := by simp [upd, h]
def del {α : Type} (σ : Nat → Option α) (b : Nat) : Nat → Option α := fun c => if c = b then none else σ c
theorem del_eq {α : Type} (σ : Nat → Option α) (b : Nat) : del σ b b = none := by simp [del]
theorem del_ne {α : Type} (σ : Nat → Option α) (b : Nat) (c : Nat) (h : c ≠ b) : del σ b c = σ c := by simp [del, h]
/-- One store over another. -/
def ovr (σ δ : Sto) : Sto := fun b => match δ b with | some k => some k | none => σ b
def noS : Sto := fun _ => none
theorem ovr_none (σ : Sto) : ovr σ noS = σ := by funext b; simp [ovr, noS]
theorem ovr_one (σ : Sto) (b : Nat) (k : Blk) : ovr σ (upd noS b k) = upd σ b k := by funext c; by_cases h : c = b <;> simp [ovr, upd, noS, h]
theorem ovr_upd (σ δ : Sto) (b : Nat) (k : Blk) : ovr σ (upd δ b k) = upd (ovr σ δ) b k := by funext c; by_cases h : c = b <;> simp [ovr, upd, h]
theorem Sub.upd {μ : Mu} {b : Nat} (h : μ b = none) (L : Loc) : Sub μ (upd μ b L) := fun c K hc => by
  by_cases e : c = b
  · subst e; rw [h] at hc; cases hc
  · rw [upd_ne _ _ _ _ e]; exact hc

/-- What a world may turn: of the blocks below B those of X alone. -/
structure Keep (B : Nat) (X : Nat → Prop) (w w' : World) : Prop where
  os : w'.os = w.os
  tape : w'.tape = w.tape
  output : w'.output = w.output
  size : w.heap.size ≤ w'.heap.size
  block : ∀ k, k < B → ¬ X k → w'.heap[k]? = w.heap[k]?
theorem Keep.refl (B : Nat) (X : Nat → Prop) (w : World) : Keep B X w w := ⟨rfl, rfl, rfl, Nat.le_refl _, fun _ _ _ => rfl⟩
theorem Keep.trans {B : Nat} {X : Nat → Prop} {a b c : World} (h : Keep B X a b) (k : Keep B X b c) : Keep B X a c :=
  ⟨k.os.trans h.os, k.tape.trans h.tape, k.output.trans h.output, Nat.le_trans h.size k.size, fun i hi hx => (k.block i hi hx).trans (h.block i hi hx)⟩
theorem Keep.below {B : Nat} {w w' : World} (h : Keep B (fun _ => False) w w') : Below B w w' := ⟨h.os, h.tape, h.output, h.size, fun k hk => h.block k hk (fun h => h)⟩
theorem Keep.of_below {B : Nat} {X : Nat → Prop} {w w' : World} (h : Below B w w') : Keep B X w w' := ⟨h.os, h.tape, h.output, h.size, fun k hk _ => h.block k hk⟩

structure BRel (B : Nat) (X : Nat → Prop) (μ : Mu) (w : World) (L : Loc) (k : Blk) : Prop where
  sz : L.sz = k.sz
  pos : 0 < k.sz
  len : ∀ e ∈ k.es, e.length = k.sz
  rd : ∀ i e, k.es[i]? = some e → ∀ c v, e[c]? = some v → ∃ u, w.cell? (L.a.add (i * k.sz + c)) = some u ∧ u.oneCell' = true ∧ VRel μ v u
  own : k.rw = true → (k.es = [] ∧ L.C = 0) ∨ ∃ g cs, L.a = ⟨g, 0, none⟩ ∧ (B ≤ g ∨ X g) ∧ w.heap[g]? = some (.cells cs k.ty (0, 0)) ∧ cs.size = L.C * k.sz ∧ k.es.length ≤ L.C ∧ 0 < L.C

/-- The block lies somewhere. -/
def occ (k : Blk) (L : Loc) : Prop := k.es ≠ [] ∨ (k.rw = true ∧ 0 < L.C)

theorem add_block (a : Addr) (n : Nat) : (a.add n).block = a.block := by unfold Addr.add; split <;> rfl
theorem add_add (a : Addr) (i j : Nat) : (a.add i).add j = a.add (i + j) := by
  unfold Addr.add
  by_cases hi : i = 0 <;> by_cases hj : j = 0 <;> simp [hi, hj, Nat.add_assoc]
theorem add_row (g n : Nat) : (⟨g, 0, none⟩ : Addr).add n = ⟨g, n, none⟩ := by unfold Addr.add; split <;> simp_all

theorem BRel.lt {B : Nat} {X : Nat → Prop} {μ : Mu} {w : World} {L : Loc} {k : Blk} (h : BRel B X μ w L k) (ho : occ k L) : L.a.block < w.heap.size := by
  rcases ho with he | ⟨hr, hC⟩
  · cases hk : k.es with
    | nil => exact absurd hk he
    | cons e es =>
      have hl := h.len e (by simp [hk])
      have hp := h.pos
      obtain ⟨u, hu, _⟩ := h.rd 0 e (by simp [hk]) 0 (e[0]'(by omega)) (List.getElem?_eq_getElem (by omega))
      have := World.block_lt_of_cell? _ _ hu
      rwa [add_block] at this
  · rcases h.own hr with ⟨_, h0⟩ | ⟨g, cs, ha, _, hg, _⟩
    · omega
    · rw [ha]
      exact (Array.getElem?_eq_some_iff.1 hg).1

theorem BRel.keep {B : Nat} {X : Nat → Prop} {μ μ' : Mu} {w w' : World} {L : Loc} {k : Blk} (h : BRel B X μ w L k) (hs : Sub μ μ') (hw : occ k L → w'.heap[L.a.block]? = w.heap[L.a.block]?) : BRel B X μ' w' L k := by
  refine ⟨h.sz, h.pos, h.len, fun i e he c v hv => ?_, fun hr => ?_⟩
  · obtain ⟨u, hu, h1, h2⟩ := h.rd i e he c v hv
    have ho : occ k L := .inl (by intro h0; simp [h0] at he)
    exact ⟨u, (World.cell?_of_block (by rw [add_block]; exact hw ho)).trans hu, h1, VRel.mono hs _ _ h2⟩
  · rcases h.own hr with h0 | ⟨g, cs, ha, hb, hg, h3, h4, h5⟩
    · exact .inl h0
    · refine .inr ⟨g, cs, ha, hb, ?_, h3, h4, h5⟩
      have := hw (.inr ⟨hr, h5⟩)
      rw [ha] at this
      exact this.trans hg

/-- The world matches the store. -/
structure Rel (B : Nat) (w0 : World) (X : Nat → Prop) (μ : Mu) (σ : Sto) (w : World) : Prop where
  keep : Keep B X w0 w
  big : B ≤ w.heap.size
  blk : ∀ b k, σ b = some k → ∃ L, μ b = some L ∧ BRel B X μ w L k
  sep : ∀ b b' k k' L L', b ≠ b' → σ b = some k → σ b' = some k' → μ b = some L → μ b' = some L' → k.rw = true → 0 < L.C → occ k' L' → L.a.block ≠ L'.a.block
  fin : ∃ M, ∀ b, M ≤ b → μ b = none

section
variable {B : Nat} {w0 : World} {X : Nat → Prop} {μ μ' : Mu} {σ σ' : Sto} {w w' : World}

/-- A world that has left all blocks of the store alone. -/
theorem Rel.move (h : Rel B w0 X μ σ w) (hk : Keep B X w0 w') (hz : w.heap.size ≤ w'.heap.size) (hw : ∀ b k L, σ b = some k → μ b = some L → occ k L → w'.heap[L.a.block]? = w.heap[L.a.block]?) : Rel B w0 X μ σ w' := by
  refine ⟨hk, Nat.le_trans h.big hz, fun b k hb => ?_, h.sep, h.fin⟩
  obtain ⟨L, hL, hr⟩ := h.blk b k hb
  exact ⟨L, hL, hr.keep (Sub.refl _) (hw b k L hb hL)⟩

theorem Rel.moveB (h : Rel B w0 X μ σ w) (hb : Below w.heap.size w w') : Rel B w0 X μ σ w' := by
  have hB := h.big
  refine h.move (h.keep.trans (Keep.of_below (hb.mono (by omega)))) hb.size fun b k L hk hL ho => ?_
  obtain ⟨L', hL', hr⟩ := h.blk b k hk
  rw [hL] at hL'; cases hL'
  exact hb.block _ (hr.lt ho)

theorem Rel.drew (h : Rel B w0 X μ σ w) : Rel B w0 X μ σ w.drew := h.moveB ((Below.refl _ _).drew)

/-- Fewer blocks, weaker marks. -/
theorem Rel.less (h : Rel B w0 X μ σ w) (hs : ∀ b k, σ' b = some k → ∃ r, σ b = some { k with rw := r } ∧ (k.rw = true → r = true)) : Rel B w0 X μ σ' w := by
  refine ⟨h.keep, h.big, fun b k hb => ?_, fun b b' k k' L L' hne hb hb' hL hL' hr hC ho => ?_, h.fin⟩
  · obtain ⟨r, h1, h2⟩ := hs b k hb
    obtain ⟨L, hL, hR⟩ := h.blk b _ h1
    exact ⟨L, hL, hR.sz, hR.pos, hR.len, hR.rd, fun hk => hR.own (h2 hk)⟩
  · obtain ⟨r, h1, h2⟩ := hs b k hb
    obtain ⟨r', h1', h2'⟩ := hs b' k' hb'
    exact h.sep b b' _ _ L L' hne h1 h1' hL hL' (h2 hr) hC (ho.imp id fun ⟨x, y⟩ => ⟨h2' x, y⟩)

theorem Rel.sub (h : Rel B w0 X μ σ w) (hs : ∀ b k, σ' b = some k → σ b = some k) : Rel B w0 X μ σ' w :=
  h.less fun b k hb => ⟨k.rw, by simpa using hs b k hb, fun h => h⟩

theorem Rel.del (h : Rel B w0 X μ σ w) (b : Nat) : Rel B w0 X μ (del σ b) w :=
  h.sub fun c k hc => by
    by_cases e : c = b
    · subst e; rw [del_eq] at hc; cases hc
    · rwa [del_ne _ _ _ e] at hc

/-- A new row. -/
theorem Rel.alloc (h : Rel B w0 X μ σ w) {b : Nat} (hb : μ b = none) (t : TypeId) (sz C : Nat) (es : List (List AV)) (cs : Array Value) (hp : 0 < sz) (hC : 0 < C) (hcs : cs.size = C * sz) (hn : es.length ≤ C)
    (hl : ∀ e ∈ es, e.length = sz) (hrd : ∀ i e, es[i]? = some e → ∀ c v, e[c]? = some v → ∃ u, cs[i * sz + c]? = some u ∧ u.oneCell' = true ∧ VRel μ v u) (hσ : σ b = none) :
    Rel B w0 X (upd μ b ⟨⟨w.heap.size, 0, none⟩, C, sz⟩) (upd σ b ⟨t, sz, es, true⟩) (w.alloc (.cells cs t)) := by
  have hsub := Sub.upd hb ⟨⟨w.heap.size, 0, none⟩, C, sz⟩
  have hB := h.big
  refine ⟨h.keep.trans (Keep.of_below ((Below.refl _ _).alloc hB _)), by simp; omega, fun c k hc => ?_, fun c c' k k' L L' hne hc hc' hL hL' hr hCC ho => ?_, ?_⟩
  · by_cases e : c = b
    · subst e
      rw [upd_eq] at hc; cases hc
      refine ⟨_, upd_eq _ _ _, rfl, hp, hl, fun i e he c v hv => ?_, fun _ => .inr ⟨w.heap.size, cs, rfl, .inl hB, heap_alloc_new w _, hcs, hn, hC⟩⟩
      obtain ⟨u, hu, h1, h2⟩ := hrd i e he c v hv
      refine ⟨u, ?_, h1, VRel.mono hsub _ _ h2⟩
      rw [add_row, cell_of_row _ _ _ _ _ _ (heap_alloc_new w _)]
      exact hu
    · rw [upd_ne _ _ _ _ e] at hc
      obtain ⟨L, hL, hR⟩ := h.blk c k hc
      exact ⟨L, hsub _ _ hL, hR.keep hsub fun ho => Below.heap_alloc w _ _ (hR.lt ho)⟩
  · by_cases e : c = b
    · subst e
      rw [upd_eq] at hc hL; cases hc; cases hL
      rw [upd_ne _ _ _ _ (Ne.symm hne)] at hc' hL'
      obtain ⟨L2, hL2, hR⟩ := h.blk c' k' hc'
      rw [hL'] at hL2; cases hL2
      exact fun e => by have := hR.lt ho; simp only at e; omega
    · rw [upd_ne _ _ _ _ e] at hc hL
      by_cases e' : c' = b
      · subst e'
        rw [upd_eq] at hc' hL'; cases hc'; cases hL'
        obtain ⟨L2, hL2, hR⟩ := h.blk c k hc
        rw [hL] at hL2; cases hL2
        exact fun e => by have := hR.lt (.inr ⟨hr, hCC⟩); simp only at e; omega
      · rw [upd_ne _ _ _ _ e'] at hc' hL'
        exact h.sep c c' k k' L L' hne hc hc' hL hL' hr hCC ho
  · obtain ⟨M, hM⟩ := h.fin
    refine ⟨max M (b + 1), fun c hc => ?_⟩
    rw [upd_ne _ _ _ _ (by omega)]
    exact hM c (by omega)

/-- A name for a slice that lies nowhere. -/
theorem Rel.virt (h : Rel B w0 X μ σ w) {b : Nat} (hb : μ b = none) (t : TypeId) (sz : Nat) (hp : 0 < sz) (hσ : σ b = none) (a : Addr) :
    Rel B w0 X (upd μ b ⟨a, 0, sz⟩) (upd σ b ⟨t, sz, [], true⟩) w := by
  have hsub := Sub.upd hb ⟨a, 0, sz⟩
  refine ⟨h.keep, h.big, fun c k hc => ?_, fun c c' k k' L L' hne hc hc' hL hL' hr hCC ho => ?_, ?_⟩
  · by_cases e : c = b
    · subst e
      rw [upd_eq] at hc; cases hc
      exact ⟨_, upd_eq _ _ _, rfl, hp, by simp, by simp, fun _ => .inl ⟨rfl, rfl⟩⟩
    · rw [upd_ne _ _ _ _ e] at hc
      obtain ⟨L, hL, hR⟩ := h.blk c k hc
      exact ⟨L, hsub _ _ hL, hR.keep hsub fun _ => rfl⟩
  · by_cases e : c = b
    · subst e
      rw [upd_eq] at hc hL; cases hc; cases hL
      simp at hCC
    · rw [upd_ne _ _ _ _ e] at hc hL
      by_cases e' : c' = b
      · subst e'
        rw [upd_eq] at hc' hL'; cases hc'; cases hL'
        rcases ho with ho | ho <;> simp at ho
      · rw [upd_ne _ _ _ _ e'] at hc' hL'
        exact h.sep c c' k k' L L' hne hc hc' hL hL' hr hCC ho
  · obtain ⟨M, hM⟩ := h.fin
    refine ⟨max M (b + 1), fun c hc => ?_⟩
    rw [upd_ne _ _ _ _ (by omega)]
    exact hM c (by omega)

/-- A row of the store written anew. -/
theorem Rel.setRow (h : Rel B w0 X μ σ w) {b : Nat} {k : Blk} {L : Loc} (hb : σ b = some k) (hL : μ b = some L) (hr : k.rw = true) {g : Nat} {cs : Array Value} (ha : L.a = ⟨g, 0, none⟩) (hg : w.heap[g]? = some (.cells cs k.ty (0, 0)))
    (hx : B ≤ g ∨ X g) (hC : 0 < L.C) (cs' : Array Value) (es' : List (List AV)) (hcs : cs'.size = cs.size) (hcC : cs.size = L.C * k.sz) (hn : es'.length ≤ L.C) (hl : ∀ e ∈ es', e.length = k.sz)
    (hrd : ∀ i e, es'[i]? = some e → ∀ c v, e[c]? = some v → ∃ u, cs'[i * k.sz + c]? = some u ∧ u.oneCell' = true ∧ VRel μ v u) :
    Rel B w0 X μ (upd σ b { k with es := es' }) (w.setRow g cs') := by
  obtain ⟨L0, hL0, hR⟩ := h.blk b k hb
  rw [hL] at hL0; cases hL0
  have hgl : g < w.heap.size := (Array.getElem?_eq_some_iff.1 hg).1
  have hother : ∀ i, i ≠ g → (w.setRow g cs').heap[i]? = w.heap[i]? := fun i hi => setRow_other w g i _ hi
  refine ⟨h.keep.trans ⟨rfl, rfl, rfl, by simp, fun i hi hxi => hother i ?_⟩, by simpa using h.big, fun c k' hc => ?_, fun c c' k1 k2 L1 L2 hne hc hc' hL1 hL2 hr1 hC1 ho => ?_, h.fin⟩
  · rintro rfl
    rcases hx with hx | hx
    · omega
    · exact hxi hx
  · by_cases e : c = b
    · subst e
      rw [upd_eq] at hc; cases hc
      refine ⟨L, hL, hR.sz, hR.pos, hl, fun i e he c v hv => ?_, fun _ => .inr ⟨g, cs', ha, hx, setRow_heap w g cs _ _ _ hg, hcs.trans hcC, hn, hC⟩⟩
      obtain ⟨u, hu, h1, h2⟩ := hrd i e he c v hv
      refine ⟨u, ?_, h1, h2⟩
      rw [ha, add_row, cell_of_row _ _ _ _ _ _ (setRow_heap w g cs _ _ _ hg)]
      exact hu
    · rw [upd_ne _ _ _ _ e] at hc
      obtain ⟨L1, hL1, hR1⟩ := h.blk c k' hc
      refine ⟨L1, hL1, hR1.keep (Sub.refl _) fun ho => hother _ ?_⟩
      have := h.sep b c k k' L L1 (Ne.symm e) hb hc hL hL1 hr hC ho
      rw [ha] at this
      exact Ne.symm this
  · have fix : ∀ d kd, upd σ b { k with es := es' } d = some kd → ∃ k0, σ d = some k0 ∧ k0.rw = kd.rw ∧ (∀ Ld, occ kd Ld → (d = b ∧ Ld = L ∨ occ k0 Ld) ∨ d = b) := fun d kd hd => by
      by_cases e : d = b
      · subst e
        rw [upd_eq] at hd; cases hd
        exact ⟨k, hb, rfl, fun _ _ => .inr rfl⟩
      · rw [upd_ne _ _ _ _ e] at hd
        exact ⟨kd, hd, rfl, fun _ ho => .inl (.inr ho)⟩
    obtain ⟨k1', h1, e1, _⟩ := fix c k1 hc
    obtain ⟨k2', h2, e2, f2⟩ := fix c' k2 hc'
    refine h.sep c c' k1' k2' L1 L2 hne h1 h2 hL1 hL2 (e1.trans hr1) hC1 ?_
    rcases f2 L2 ho with (⟨e, _⟩ | ho') | e
    · subst e
      rw [hL] at hL2; cases hL2
      rw [hb] at h2; cases h2
      exact .inr ⟨hr, hC⟩
    · exact ho'
    · subst e
      rw [hL] at hL2; cases hL2
      rw [hb] at h2; cases h2
      exact .inr ⟨hr, hC⟩
end

end Go.Proofs.Ytgaiemhbllbaiaa
namespace Go.Proofs.Ytgaiemhbllbaiaa
open Go Go.RowKit

def TRel (μ : Mu) (τ : Tm) (tmps : Array Value) : Prop := ∀ i, VRel μ (get τ i) (tmps.getD i undef)

def ofV : Value → AV
  | .slice none 0 0 => .sl 0 0 0 (some 0) 0
  | x => .v x
theorem ofV_rel (μ : Mu) (x : Value) : VRel μ (ofV x) x := by
  unfold ofV
  split
  · simp only [VRel]; exact ⟨none, 0, rfl, Nat.le_refl _, fun k hk => (by cases hk; rfl), .inl (by simp)⟩
  · simp [VRel]
def ev (τ : Tm) : Operand → AV
  | .tmp t => get τ t
  | .const v => ofV v
  | .global g => .v (.pointer (some ⟨g, 0, none⟩))
  | .func f => .fn f []
theorem ev_rel {μ : Mu} {τ : Tm} {a : Act} (h : TRel μ τ a.tmps) (x : Operand) : VRel μ (ev τ x) (a.eval x) := by
  cases x with
  | tmp t => exact h t
  | const v => exact ofV_rel μ v
  | global g => simp [ev, VRel, Act.eval]
  | func f => simp only [ev, VRel, Act.eval]; exact ⟨[], rfl, by simp [VRels]⟩

/-- One cell. -/
def oneA : AV → Bool
  | .v x => x.oneCell'
  | .bl | .ptr .. | .sl .. | .fn .. => true
  | _ => false
theorem oneA_rel {μ : Mu} {x : AV} {u : Value} (h : oneA x = true) (hr : VRel μ x u) : u.oneCell' = true := by
  cases x <;> simp [oneA, VRel] at h hr
  · rcases hr with rfl | rfl <;> rfl
  · subst hr; exact h
  · obtain ⟨L, _, rfl⟩ := hr; rfl
  · obtain ⟨x, m, rfl, _⟩ := hr; rfl
  · obtain ⟨cs, rfl, _⟩ := hr; rfl
theorem cells_one {u : Value} (h : u.oneCell' = true) : u.cells = #[u] := by cases u <;> simp [Value.oneCell'] at h <;> rfl
/-- The cells of a value. -/
def cellsA : AV → Option (List AV)
  | .agg l => if l.all oneA then some l else none
  | .v x => if x.oneCell' then some [.v x] else none
  | .bl => some [.bl]
  | .ptr b i c => some [.ptr b i c]
  | .sl b o n cap sz => some [.sl b o n cap sz]
  | .fn f l => some [.fn f l]
  | _ => none
theorem cellsA_rel {μ : Mu} {x : AV} {u : Value} {l : List AV} (h : cellsA x = some l) (hr : VRel μ x u) : VRels μ l u.cells.toList ∧ l.all oneA = true := by
  cases x <;> simp [cellsA] at h
  case v y => obtain ⟨h1, rfl⟩ := h; have : u = y := by simpa [VRel] using hr
              subst this; rw [cells_one h1]; simp [VRels, VRel, oneA, h1]
  case bl => subst h; rw [cells_one (oneA_rel (by rfl) hr)]; simp [VRels, oneA, hr]
  case ptr b i c => subst h; rw [cells_one (oneA_rel (by rfl) hr)]; simp [VRels, oneA, hr]
  case sl b o n cap sz => subst h; rw [cells_one (oneA_rel (by rfl) hr)]; simp [VRels, oneA, hr]
  case fn f m => subst h; rw [cells_one (oneA_rel (by rfl) hr)]; simp [VRels, oneA, hr]
  case agg m =>
    obtain ⟨h1, rfl⟩ := h
    simp only [VRel] at hr
    obtain ⟨cs, rfl, hl⟩ := hr
    exact ⟨by simpa [Value.cells] using hl, by simpa using h1⟩

/-! The program's tables. -/
def aggO (P : Program) (t : TypeId) : Option Bool := (P.underlying t).map fun | .struct _ | .array _ _ => true | _ => false
def szO (P : Program) (t : TypeId) : Option Nat := (P.info? t).map (·.size)
def byO (P : Program) (t : TypeId) : Nat := ((P.info? t).map (·.bytes)).getD 0
def zrO (P : Program) (t : TypeId) : Option (List AV) := ((P.info? t).bind (·.zero)).map fun z => z.cells.toList.map ofV
def zrOk (P : Program) (t : TypeId) : Bool := (((P.info? t).bind (·.zero)).map fun z => z.cells.toList.all (·.oneCell')).getD false
def elO (P : Program) (t : TypeId) : Option TypeId := match P.underlying t with | some (.slice e) => some e | _ => none
def fdO (P : Program) (t : TypeId) (f : Nat) : Option (Nat × Nat) := match P.underlying t with
  | some (.struct fs) => match fs[f]? with
    | some fd => match szO P fd.type with
      | some n => if n = 0 then none else some (fd.offset, n)
      | none => none
    | none => none
  | _ => none

section
variable {P : Program} {B : Nat} {w0 : World} {X : Nat → Prop} {μ : Mu} {σ : Sto} {w : World}

theorem run_isAggO {t : TypeId} {b : Bool} (h : aggO P t = some b) (w : World) : (isAgg t).run P w = .ok b w := by
  unfold aggO at h
  cases hd : P.underlying t with
  | none => simp [hd] at h
  | some d => cases d <;> simp_all [isAgg, run_underlying hd]
theorem run_sizeOfO {t : TypeId} {n : Nat} (h : szO P t = some n) (w : World) : (sizeOf t).run P w = .ok n w := by
  unfold szO at h
  cases hd : P.info? t with
  | none => simp [hd] at h
  | some d => simp [hd] at h; simp [sizeOf, typeInfo, hd, h]

/-! load -/
def fLoad (ag : Option Bool) (sz : Option Nat) (x : AV) (σ : Sto) : Option AV :=
  match x with
  | .ptr b i c => match σ b with
    | some k => match k.es[i]? with
      | some e => match ag with
        | some true => match sz with
          | some n => if c + n ≤ e.length then some (.agg ((e.drop c).take n)) else none
          | none => none
        | some false => e[c]?
        | none => none
      | none => none
    | none => none
  | _ => none
theorem fLoad_ok {t : TypeId} {x v : AV} {c : Value} (hR : Rel B w0 X μ σ w) (hx : VRel μ x c) (h : fLoad (aggO P t) (szO P t) x σ = some v) :
    ∃ u, (Instr.loadAt t c).run P w = .ok u w ∧ VRel μ v u := by
  unfold fLoad at h
  split at h <;> try (cases h; done)
  rename_i b i o
  split at h <;> try (cases h; done)
  rename_i k hb
  split at h <;> try (cases h; done)
  rename_i e he
  simp only [VRel] at hx
  obtain ⟨L, hL, rfl⟩ := hx
  obtain ⟨L', hL', hB⟩ := hR.blk b k hb
  rw [hL] at hL'; cases hL'
  have hsz := hB.sz
  split at h <;> try (cases h; done)
  · rename_i hag
    split at h <;> try (cases h; done)
    rename_i n hn
    split at h <;> try (cases h; done)
    rename_i hle
    cases h
    -- the cells
    have hcs : ∃ cs : List Value, cs.length = n ∧ (∀ j u, cs[j]? = some u → w.cell? ((L.a.add (i * L.sz + o)).add j) = some u) ∧ VRels μ ((e.drop o).take n) cs := by
      have key : ∀ m, m ≤ n → ∃ cs : List Value, cs.length = m ∧ (∀ j u, cs[j]? = some u → w.cell? ((L.a.add (i * L.sz + o)).add j) = some u) ∧ VRels μ ((e.drop o).take m) cs := by
        intro m
        induction m with
        | zero => intro _; exact ⟨[], rfl, by simp, by simp [VRels]⟩
        | succ m ih =>
          intro hm
          obtain ⟨cs, h1, h2, h3⟩ := ih (by omega)
          have hlt : o + m < e.length := by omega
          obtain ⟨u, hu, _, hv⟩ := hB.rd i e he (o + m) e[o + m] (List.getElem?_eq_getElem hlt)
          refine ⟨cs ++ [u], by simp [h1], fun j y hy => ?_, ?_⟩
          · rcases Nat.lt_or_ge j cs.length with hj | hj
            · rw [List.getElem?_append_left hj] at hy; exact h2 j y hy
            · rw [List.getElem?_append_right hj] at hy
              have : j = m := by
                rcases Nat.eq_zero_or_pos (j - cs.length) with h0 | h0
                · omega
                · rw [List.getElem?_eq_none (by simp; omega)] at hy; cases hy
              subst this
              simp [h1] at hy
              subst hy
              rw [add_add, hsz, Nat.add_assoc]
              exact hu
          · have : (e.drop o).take (m + 1) = (e.drop o).take m ++ [e[o + m]] := by
              rw [List.take_succ_eq_append_getElem (by simp; omega)]
              simp
            rw [this]
            exact VRels.append h3 (by simp [VRels, hv])
      exact key n (Nat.le_refl _)
    obtain ⟨cs, h1, h2, h3⟩ := hcs
    refine ⟨.agg cs.toArray, ?_, by simp only [VRel]; exact ⟨cs, rfl, h3⟩⟩
    have := run_loadCells_list (P := P) w (L.a.add (i * L.sz + o)) cs h2
    rw [h1] at this
    simp [Instr.loadAt, Instr.sureAddr, loadVar, run_isAggO hag, run_sizeOfO hn, this]
  · rename_i hag
    obtain ⟨u, hu, _, hv⟩ := hB.rd i e he o v h
    refine ⟨u, ?_, hv⟩
    have : w.cell? (L.a.add (i * L.sz + o)) = some u := by rw [hsz]; exact hu
    simp [Instr.loadAt, Instr.sureAddr, loadVar, run_isAggO hag, this]

/-! field and element addresses -/
def fFieldA (fd : Option (Nat × Nat)) (x : AV) : Option AV :=
  match fd with
  | some (off, _) => match x with
    | .ptr b i c => some (.ptr b i (c + off))
    | _ => none
  | none => none
theorem fFieldA_ok {t : TypeId} {f : Nat} {x v : AV} {c : Value} (hx : VRel μ x c) (h : fFieldA (fdO P t f) x = some v) :
    ∃ u, (Instr.fieldAt t c f).run P w = .ok u w ∧ VRel μ v u := by
  unfold fFieldA fdO at h
  split at h <;> try (cases h; done)
  rename_i off n hf
  split at h <;> try (cases h; done)
  rename_i b i o
  cases h
  split at hf <;> try (cases hf; done)
  rename_i fs hu
  split at hf <;> try (cases hf; done)
  rename_i fd hfd
  split at hf <;> try (cases hf; done)
  rename_i m hm
  split at hf <;> try (cases hf; done)
  rename_i hm0
  cases hf
  simp only [VRel] at hx ⊢
  obtain ⟨L, hL, rfl⟩ := hx
  refine ⟨.pointer (some ((L.a.add (i * L.sz + o)).add fd.offset)), ?_, L, hL, by rw [add_add, Nat.add_assoc]⟩
  simp [Instr.fieldAt, run_underlying hu, hfd, Instr.sureAddr, fieldPlace, run_sizeOfO hm, hm0]

def fIdxA (es : Option Nat) (x i : AV) : Option AV :=
  match x with
  | .sl b o n _ sz => match i with
    | .v (.int _ j) => if 0 ≤ j ∧ j < n ∧ es = some sz then some (.ptr b (o + j.toNat) 0) else none
    | _ => none
  | _ => none
theorem fIdxA_ok {t : TypeId} {x i v : AV} {c d : Value} (hx : VRel μ x c) (hi : VRel μ i d) (h : fIdxA ((elO P t).bind (szO P)) x i = some v) :
    ∃ u, (Instr.indexAt t c d).run P w = .ok u w ∧ VRel μ v u := by
  unfold fIdxA at h
  split at h <;> try (cases h; done)
  rename_i b o n cap sz
  split at h <;> try (cases h; done)
  rename_i k j
  split at h <;> try (cases h; done)
  rename_i hc
  obtain ⟨h0, h1, h2⟩ := hc
  cases h
  unfold elO at h2
  split at h2 <;> try (cases h2; done)
  rename_i e hu
  simp only [Option.bind_some] at h2
  simp only [VRel] at hx hi ⊢
  subst hi
  obtain ⟨y, m, rfl, hn, hcap, hm⟩ := hx
  obtain ⟨L, hL, hLs, hm⟩ := hm.resolve_left (fun e => by have := hcap 0 e; omega)
  obtain ⟨rfl, _⟩ := hm (by omega)
  refine ⟨.pointer (some ((L.a.add (o * sz)).add (j.toNat * sz))), ?_, L, hL, ?_⟩
  · simp [Instr.indexAt, asIntOf, run_underlying hu, run_sizeOfO h2, h0, h1]
  · rw [add_add, hLs, Nat.add_mul, Nat.add_zero]

def fIdx (x i : AV) : Option AV :=
  match x with
  | .v (.string s) => match i with
    | .v (.int _ j) => if 0 ≤ j then (s[j.toNat]?).map fun c => .v (.int .u8 c.toNat) else none
    | _ => none
  | _ => none
theorem fIdx_ok {t : TypeId} {x i v : AV} {c d : Value} (ht : P.underlying t = some .string) (hx : VRel μ x c) (hi : VRel μ i d) (h : fIdx x i = some v) :
    ∃ u, (Instr.index t c d).run P w = .ok u w ∧ VRel μ v u := by
  unfold fIdx at h
  split at h <;> try (cases h; done)
  rename_i s
  split at h <;> try (cases h; done)
  rename_i k j
  split at h <;> try (cases h; done)
  rename_i h0
  simp only [VRel] at hx hi
  subst hx; subst hi
  cases hs : s[j.toNat]? with
  | none => simp [hs] at h
  | some ch =>
    simp [hs] at h
    subst h
    exact ⟨.int .u8 ch.toNat, by simp [Instr.index, asIntOf, run_underlying ht, h0, hs], by simp [VRel]⟩

/-! slices of slices and of strings -/
def num : AV → Option Nat
  | .v (.int _ j) => if 0 ≤ j then some j.toNat else none
  | _ => none
theorem num_ok {x : AV} {n : Nat} {c : Value} (h : num x = some n) (hx : VRel μ x c) : ∃ k, c = .int k (n : Int) := by
  unfold num at h
  split at h <;> try (cases h; done)
  rename_i k j
  split at h <;> try (cases h; done)
  rename_i h0
  cases h
  simp only [VRel] at hx
  exact ⟨k, by rw [hx]; congr 1; omega⟩
theorem run_bound {k : IntKind} {n y : Nat} {code : BoundsCode} (h : n ≤ y) (w : World) : (Instr.sliceBound (.int k (n : Int)) y code).run P w = .ok n w := by
  have h' : (n : Int) ≤ (y : Int) := by omega
  simp [Instr.sliceBound, asIntOf, h]
def fSlice (es : Option Nat) (x : AV) (lo hi mx : Option AV) : Option AV :=
  match x with
  | .v (.string s) =>
    match (match lo with | none => some 0 | some a => num a), (match hi with | none => some s.size | some a => num a), mx with
    | some l, some h, none => if l ≤ h ∧ h ≤ s.size then some (.v (.string (s.extract l h))) else none
    | _, _, _ => none
  | .sl b o n cap sz =>
    match (match lo with | none => some 0 | some a => num a), (match hi with | none => some n | some a => num a), (match mx with | none => some none | some a => (num a).map some) with
    | some l, some h, some none => if l ≤ h ∧ (h ≤ n ∨ h ≤ cap.getD 0) ∧ (es = some sz ∨ cap = some 0) then some (.sl b (o + l) (h - l) (cap.map (· - l)) sz) else none
    | some l, some h, some (some m) => if hi.isSome = true ∧ l ≤ h ∧ h ≤ m ∧ m ≤ n ∧ (es = some sz ∨ cap = some 0) then some (.sl b (o + l) (h - l) (some (m - l)) sz) else none
    | _, _, _ => none
  | _ => none
/-- What kind of type a slice expression's operand has. -/
def slO (P : Program) (t : TypeId) : Option (Option Nat) := match P.underlying t with
  | some .string => some none
  | some (.slice e) => (szO P e).map some
  | _ => none
def ORel (μ : Mu) : Option AV → Option Value → Prop
  | none, none => True
  | some a, some v => VRel μ a v
  | _, _ => False
theorem optRel {lo : Option AV} {c : Option Value} {d n : Nat} (h : (match lo with | none => some d | some a => num a) = some n) (hr : ORel μ lo c) :
    (c = none ∧ n = d) ∨ ∃ k, c = some (.int k (n : Int)) := by
  cases lo <;> cases c <;> simp [ORel] at h hr
  · exact .inl ⟨rfl, h.symm⟩
  · obtain ⟨k, rfl⟩ := num_ok h hr
    exact .inr ⟨k, rfl⟩
theorem fSlice_ok {t : TypeId} {es : Option Nat} {x v : AV} {c : Value} {lo hi mx : Option AV} {cl ch cm : Option Value} (ht : slO P t = some es) (hx : VRel μ x c)
    (hl : ORel μ lo cl)
    (hh : ORel μ hi ch)
    (hm : ORel μ mx cm)
    (hs : (∃ s, x = .v (.string s)) ↔ es = none) (h : fSlice es x lo hi mx = some v) :
    ∃ u, (Instr.sliceAt t c cl ch cm).run P w = .ok u w ∧ VRel μ v u := by
  unfold fSlice at h
  split at h <;> try (cases h; done)
  · rename_i s
    have he : es = none := hs.1 ⟨s, rfl⟩
    subst he
    have hu : P.underlying t = some .string := by
      unfold slO at ht
      split at ht <;> simp_all
    simp only [VRel] at hx
    subst hx
    split at h <;> try (cases h; done)
    rename_i l h' el eh
    split at h <;> try (cases h; done)
    rename_i hc
    cases h
    cases cm with
    | some _ => simp [ORel] at hm
    | none =>
      refine ⟨.string (s.extract l h'), ?_, by simp [VRel]⟩
      have hm' : ∀ {A : Type} (a : A) (b : Nat → A), (if s.size = l then a else b 0) = (if s.size = l then a else b 0) := fun _ _ => rfl
      rcases optRel el hl with ⟨rfl, rfl⟩ | ⟨k1, rfl⟩ <;> rcases optRel eh hh with ⟨rfl, rfl⟩ | ⟨k2, rfl⟩ <;>
        simp [Instr.sliceAt, run_underlying hu, Instr.slice, Instr.sliceBounds, run_bound hc.1, run_bound hc.2]
  · rename_i b o n cap sz
    have hnn : es ≠ none := fun e => by have := hs.2 e; simp at this
    have hu : ∃ e z, P.underlying t = some (.slice e) ∧ szO P e = some z ∧ es = some z := by
      unfold slO at ht
      split at ht
      · simp at ht; exact absurd ht.symm hnn
      · rename_i e he
        cases hz : szO P e with
        | none => simp [hz] at ht
        | some z => simp [hz] at ht; exact ⟨e, z, he, hz, ht.symm⟩
      · simp at ht
    obtain ⟨e, z, hu, hz, rfl⟩ := hu
    simp only [VRel] at hx
    obtain ⟨y, m, rfl, hnm, hcap, haddr⟩ := hx
    have fin : ∀ l h' m' capo, l ≤ h' → h' ≤ m' → m' ≤ m → (∀ k, capo = some k → m' - l = k) → (some z = some sz ∨ cap = some 0) → (capo = cap.map (· - l) ∨ ∃ k, capo = some k) →
        VRel μ (.sl b (o + l) (h' - l) capo sz) (.slice (if m' = l then y else y.map (·.add (l * z))) (h' - l) (m' - l)) := by
      intro l h' m' capo h1 h2 h3 h4 h5 h6
      simp only [VRel]
      refine ⟨_, _, rfl, by omega, h4, ?_⟩
      rcases haddr with h0 | ⟨L, hL, hLs, haddr⟩
      · have := hcap 0 h0
        refine .inl ?_
        rcases h6 with h6 | ⟨k, h6⟩
        · rw [h6, h0]; simp
        · have := h4 k h6
          rw [h6]
          congr 1
          omega
      · refine .inr ⟨L, hL, hLs, fun h0 => ?_⟩
        have hmne : ¬ m' = l := by omega
        obtain ⟨hy, hC⟩ := haddr (by omega)
        refine ⟨?_, by omega⟩
        rcases h5 with h5 | h5
        · cases h5
          rw [if_neg hmne, hy, Option.map_some, add_add, Nat.add_mul]
        · have := hcap 0 h5
          omega
    split at h <;> try (cases h; done)
    · rename_i l h' el eh em
      split at h <;> try (cases h; done)
      rename_i hc
      cases h
      have hmn : cm = none := by
        cases mx with
        | none => cases cm <;> simp_all [ORel]
        | some a => cases hna : num a <;> simp [hna] at em
      subst hmn
      obtain ⟨hc1, hc2, hc3⟩ := hc
      have hle : h' ≤ m := by
        rcases hc2 with hc2 | hc2
        · omega
        · cases cap with
          | none => simp at hc2; omega
          | some k => have := hcap k rfl; simp at hc2; omega
      refine ⟨_, ?_, fin l h' m _ hc1 hle (Nat.le_refl _) (fun k hk => ?_) hc3 (.inl rfl)⟩
      · rcases optRel el hl with ⟨rfl, rfl⟩ | ⟨k1, rfl⟩ <;> rcases optRel eh hh with ⟨rfl, rfl⟩ | ⟨k2, rfl⟩ <;>
          simp [Instr.sliceAt, run_underlying hu, Instr.slice, Instr.sliceBounds, run_bound hc1, run_bound hle, run_sizeOfO hz]
      · cases cap with
        | none => simp at hk
        | some c => have := hcap c rfl; simp at hk; omega
    · rename_i l h' m' el eh em
      split at h <;> try (cases h; done)
      rename_i hc
      cases h
      obtain ⟨hc0, hc1, hc2, hc3, hc4⟩ := hc
      have hmn : ∃ k3, cm = some (.int k3 (m' : Int)) := by
        cases mx with
        | none => simp at em
        | some a =>
          cases hna : num a with
          | none => simp [hna] at em
          | some q =>
            simp [hna] at em
            subst em
            cases cm with
            | none => simp [ORel] at hm
            | some v => obtain ⟨k, rfl⟩ := num_ok hna (by simpa [ORel] using hm); exact ⟨k, rfl⟩
      obtain ⟨k3, rfl⟩ := hmn
      refine ⟨_, ?_, fin l h' m' _ hc1 hc2 (by omega) (fun k hk => by cases hk; rfl) hc4 (.inr ⟨_, rfl⟩)⟩
      have hb3 : m' ≤ m := by omega
      rcases optRel el hl with ⟨rfl, rfl⟩ | ⟨k1, rfl⟩ <;> rcases optRel eh hh with ⟨rfl, rfl⟩ | ⟨k2, rfl⟩
      · cases hi <;> simp [ORel] at hc0 hh
      · simp [Instr.sliceAt, run_underlying hu, Instr.slice, Instr.sliceBounds, run_bound hc1, run_bound hc2, run_bound hb3, run_sizeOfO hz]
      · cases hi <;> simp [ORel] at hc0 hh
      · simp [Instr.sliceAt, run_underlying hu, Instr.slice, Instr.sliceBounds, run_bound hc1, run_bound hc2, run_bound hb3, run_sizeOfO hz]

end
end Go.Proofs.Ytgaiemhbllbaiaa
namespace Go.Proofs.Ytgaiemhbllbaiaa
open Go Go.RowKit

theorem str_beq (a b : ByteArray) : (a.toList == b.toList) = decide (a = b) := by
  by_cases h : a = b
  · subst h; simp
  · have : a.toList ≠ b.toList := fun e => h (by
      rw [ByteArray.toList_eq, ByteArray.toList_eq] at e
      obtain ⟨⟨x⟩⟩ := a; obtain ⟨⟨y⟩⟩ := b
      simp at e; subst e; rfl)
    simp [h, this]

theorem beqD {α : Type} [BEq α] [LawfulBEq α] [DecidableEq α] (a b : α) : (a == b) = decide (a = b) := by by_cases h : a = b <;> simp [h]

section
variable {P : Program} {B : Nat} {w0 : World} {X : Nat → Prop} {μ : Mu} {σ : Sto} {w : World}

/-- The kind of a type: 0 a bool, 1 an integer, 2 a string. -/
def kdT (P : Program) (t : TypeId) : Option Nat :=
  match P.underlying t with | some .bool => some 0 | some (.int _) => some 1 | some .string => some 2 | _ => none
/-- Two cells of a kind, compared. -/
def eqv : Nat → AV → AV → Option Bool
  | 1, .v (.int k a), .v (.int k' b) => if k = k' then some (decide (a = b)) else none
  | 2, .v (.string a), .v (.string b) => some (decide (a = b))
  | 0, .v (.bool a), .v (.bool b) => some (decide (a = b))
  | _, _, _ => none
def eqvs : List Nat → List AV → List AV → Option Bool
  | [], _, _ => some true
  | k :: ks, x :: l, y :: m => match eqv k x y with
    | some a => match eqvs ks l m with
      | some b => some (a && b)
      | none => none
    | none => none
  | _, _, _ => none
/-- The kinds of a struct's fields, one cell each, in order. -/
def kdFs (P : Program) : Nat → List Field → Option (List Nat)
  | _, [] => some []
  | n, f :: fs => if f.offset = n ∧ f.name ≠ "_" then match kdT P f.type, kdFs P (n + 1) fs with
    | some k, some ks => some (k :: ks)
    | _, _ => none
    else none
def kdO (P : Program) (t : TypeId) : Option (List Nat) :=
  match P.underlying t with
  | some (.struct fs) => if P.stoodInHeld t = false ∧ P.eqGuardType P.depth t = false then kdFs P 0 fs.toList else none
  | _ => none
def fBin (op : BinOp) (kd : Option (List Nat)) (x y : AV) : Option AV :=
  match x, y with
  | .v (.int k a), .v (.int k' b) =>
    match op with
    | .shl => if 0 ≤ b then some (.v (.int k (k.wrap (a * 2 ^ (min b.toNat k.bits))))) else none
    | .shr => if 0 ≤ b then some (.v (.int k (a.fdiv (2 ^ (min b.toNat k.bits))))) else none
    | op => if k = k' then
        match op with
        | .add => some (.v (.int k (k.wrap (a + b))))
        | .sub => some (.v (.int k (k.wrap (a - b))))
        | .mul => some (.v (.int k (k.wrap (a * b))))
        | .quo => if b = 0 then none else some (.v (.int k (k.wrap (a.tdiv b))))
        | .rem => if b = 0 then none else some (.v (.int k (a.tmod b)))
        | .and => some (.v (.int k (bits .and k a b)))
        | .or => some (.v (.int k (bits .or k a b)))
        | .xor => some (.v (.int k (bits .xor k a b)))
        | .andNot => some (.v (.int k (bits .andNot k a b)))
        | .eql => some (.v (.bool (decide (a = b))))
        | .neq => some (.v (.bool (!decide (a = b))))
        | .lss => some (.v (.bool (decide (a < b))))
        | .leq => some (.v (.bool (decide (a ≤ b))))
        | .gtr => some (.v (.bool (decide (b < a))))
        | .geq => some (.v (.bool (decide (b ≤ a))))
        | _ => none
      else none
  | .v (.string a), .v (.string b) =>
    match op with
    | .add => if a.size + b.size ≤ 9223372036854775807 then some (.v (.string (a ++ b))) else none
    | .eql => some (.v (.bool (decide (a = b))))
    | .neq => some (.v (.bool (!decide (a = b))))
    | _ => none
  | .agg l, .agg m => match kd with
    | some ks => match op with
      | .eql => match eqvs ks l m with | some b => some (.v (.bool b)) | none => none
      | .neq => match eqvs ks l m with | some b => some (.v (.bool (!b))) | none => none
      | _ => none
    | none => none
  | .v (.bool a), .v (.bool b) =>
    match op with
    | .eql => some (.v (.bool (decide (a = b))))
    | .neq => some (.v (.bool (!decide (a = b))))
    | _ => none
  | _, _ => none

theorem eqv_ok {k : Nat} {x y : AV} {b : Bool} {c d : Value} {t : TypeId} {n : Nat} (h : eqv k x y = some b) (hx : VRel μ x c) (hy : VRel μ y d) (ht : kdT P t = some k) (w : World) :
    (Op.equalIn (n + 1) t c d).run P w = .ok b w := by
  unfold eqv at h
  unfold kdT at ht
  split at h <;> try (cases h; done)
  · split at h <;> try (cases h; done)
    rename_i hk
    subst hk
    cases h
    simp only [VRel] at hx hy
    subst hx; subst hy
    split at ht <;> try (simp at ht; done)
    rename_i hu
    simp [Op.equalIn, run_underlying hu, beqD]
  · cases h
    simp only [VRel] at hx hy
    subst hx; subst hy
    split at ht <;> try (simp at ht; done)
    rename_i hu
    rw [run_equalIn_string _ _ _ _ _ hu, str_beq]
  · cases h
    simp only [VRel] at hx hy
    subst hx; subst hy
    split at ht <;> try (simp at ht; done)
    rename_i hu
    simp [Op.equalIn, run_underlying hu, beqD]

theorem run_partO {t : TypeId} {k : Nat} (ht : kdT P t = some k) {cs : Array Value} {o : Nat} {v : Value} (h : cs[o]? = some v) (w : World) : (part t cs o).run P w = .ok v w := by
  have hag : aggO P t = some false := by
    unfold kdT at ht
    unfold aggO
    split at ht <;> simp_all
  simp [part, run_isAggO hag, h]

theorem eqvs_ok {n : Nat} (w : World) : ∀ (fs : List Field) (o : Nat) (ks : List Nat) (l m : List AV) (cs ds : List Value) (b : Bool), kdFs P o fs = some ks → VRels μ l cs → VRels μ m ds → eqvs ks l m = some b →
    ∀ (pre pre' : List Value), pre.length = o → pre'.length = o → (Op.eqFields (n + 1) (pre ++ cs).toArray (pre' ++ ds).toArray fs).run P w = .ok b w
  | [], o, ks, l, m, cs, ds, b, hk, hl, hm, h, pre, pre', h1, h2 => by
    simp [kdFs] at hk
    subst hk
    simp [eqvs] at h
    subst h
    simp [Op.eqFields]
  | f :: fs, o, ks, l, m, cs, ds, b, hk, hl, hm, h, pre, pre', h1, h2 => by
    simp only [kdFs] at hk
    split at hk <;> try (cases hk; done)
    rename_i hf
    split at hk <;> try (cases hk; done)
    rename_i k ks' hkt hks
    cases hk
    match l, cs, m, ds, hl, hm, h with
    | x :: l, c :: cs, y :: m, d :: ds, hl, hm, h =>
      simp only [VRels] at hl hm
      simp only [eqvs] at h
      split at h <;> try (cases h; done)
      rename_i a ha
      split at h <;> try (cases h; done)
      rename_i b' hb'
      cases h
      have hc : (pre ++ c :: cs).toArray[f.offset]? = some c := by simp [hf.1, ← h1]
      have hd : (pre' ++ d :: ds).toArray[f.offset]? = some d := by simp [hf.1, ← h2]
      have ih := eqvs_ok (n := n) w fs (o + 1) ks' l m cs ds b' hks hl.2 hm.2 hb' (pre ++ [c]) (pre' ++ [d]) (by simp [h1]) (by simp [h2])
      simp only [List.append_assoc, List.singleton_append] at ih
      simp only [Op.eqFields, Sem.run_bind, Sem.run_ite, run_partO hkt hc, run_partO hkt hd, Result.andThen_ok, eqv_ok ha hl.1 hm.1 hkt, bne_iff_ne, ne_eq, hf.2, not_false_eq_true, if_true]
      cases a
      · simp
      · simp [ih]
    | [], [], _, _, _, _, h => simp [eqvs] at h
    | x :: l, c :: cs, [], [], _, _, h => simp [eqvs] at h
    | [], _ :: _, _, _, hl, _, _ => simp [VRels] at hl
    | _ :: _, [], _, _, hl, _, _ => simp [VRels] at hl
    | _, _, [], _ :: _, _, hm, _ => simp [VRels] at hm
    | _, _, _ :: _, [], _, hm, _ => simp [VRels] at hm

theorem fBin_ok {op : BinOp} {t : TypeId} {x y : Operand} {u v r : AV} {c d : Value} (hx : VRel μ u c) (hy : VRel μ v d) (hb : ∀ p q : Bool, c = .bool p → d = .bool q → P.underlying t = some .bool) (h : fBin op (kdO P t) u v = some r) (w : World) :
    ∃ z, (do eqGuard op t x y c d; binOp op t c d : Sem Value).run P w = .ok z w ∧ VRel μ r z := by
  unfold fBin at h
  split at h <;> try (cases h; done)
  · rename_i k a k' b
    simp only [VRel] at hx hy
    subst hx; subst hy
    have hg : (eqGuard op t x y (.int k a) (.int k' b)).run P w = .ok () w := by unfold eqGuard; split <;> rfl
    split at h
    · split at h <;> try (cases h; done)
      rename_i h0
      cases h
      refine ⟨.int k (k.wrap (a * 2 ^ (min b.toNat k.bits))), ?_, by simp only [VRel]⟩
      have : ¬ b < 0 := by omega
      simp [hg, binOp, Op.shift, this]
    · split at h <;> try (cases h; done)
      rename_i h0
      cases h
      refine ⟨.int k (a.fdiv (2 ^ (min b.toNat k.bits))), ?_, by simp only [VRel]⟩
      have : ¬ b < 0 := by omega
      simp [hg, binOp, Op.shift, this]
    · split at h <;> try (cases h; done)
      rename_i hk
      subst hk
      split at h <;> try (cases h; done)
      all_goals first
        | (cases h
           refine ⟨_, ?_, (by simp only [VRel]; rfl : VRel μ (.v _) _)⟩
           simp only [Sem.run_bind, hg, Result.andThen_ok]
           simp [binOp, Op.intArith, Op.intBits, Op.intCmp, bits, beqD, bne]
           done)
        | (split at h <;> try (cases h; done)
           rename_i hz
           cases h
           refine ⟨_, ?_, (by simp only [VRel]; rfl : VRel μ (.v _) _)⟩
           simp only [Sem.run_bind, hg, Result.andThen_ok]
           simp [binOp, Op.intDiv, hz]
           done)
  · rename_i a b
    simp only [VRel] at hx hy
    subst hx; subst hy
    have hg : (eqGuard op t x y (.string a) (.string b)).run P w = .ok () w := by unfold eqGuard; split <;> rfl
    split at h <;> try (cases h; done)
    · split at h <;> try (cases h; done)
      rename_i hs
      cases h
      have : ¬ (9223372036854775807 < (a.size : Int) + (b.size : Int)) := by omega
      exact ⟨.string (a ++ b), by simp [hg, binOp, Op.stringOp, IntKind.max, IntKind.signed, IntKind.bits]; omega, by simp [VRel]⟩
    · cases h; exact ⟨.bool (decide (a = b)), by simp [hg, binOp, Op.stringOp, str_beq], by simp [VRel]⟩
    · cases h; exact ⟨.bool (!decide (a = b)), by simp [hg, binOp, Op.stringOp, str_beq], by simp [VRel]⟩
  · rename_i l m
    split at h <;> try (cases h; done)
    rename_i ks hks
    unfold kdO at hks
    split at hks <;> try (cases hks; done)
    rename_i fs hu
    split at hks <;> try (cases hks; done)
    rename_i hg
    simp only [VRel] at hx hy
    obtain ⟨cs, rfl, hl⟩ := hx
    obtain ⟨ds, rfl, hm⟩ := hy
    have hfs : P.underlying t = some (.struct (P.fieldsOf t)) := by simp [Program.fieldsOf, hu]
    have hfs' : (P.fieldsOf t).toList = fs.toList := by simp [Program.fieldsOf, hu]
    have key : ∀ b, eqvs ks l m = some b → (Op.equalIn 10000 t (.agg cs.toArray) (.agg ds.toArray)).run P w = .ok b w := fun b hb => by
      rw [run_equalIn_agg w 9999 t _ _ hfs hg.1, hfs']
      have := eqvs_ok (n := 9998) (P := P) (μ := μ) w fs.toList 0 ks l m cs ds b hks hl hm hb [] [] rfl rfl
      simpa using this
    split at h <;> try (cases h; done)
    · split at h <;> try (cases h; done)
      rename_i b hb
      cases h
      exact ⟨.bool b, by simp only [Sem.run_bind, run_eqGuard_agg _ _ _ _ _ _ _ hg.2, Result.andThen_ok, run_eql_struct, key b hb], by simp [VRel]⟩
    · split at h <;> try (cases h; done)
      rename_i b hb
      cases h
      exact ⟨.bool (!b), by simp only [Sem.run_bind, run_eqGuard_agg _ _ _ _ _ _ _ hg.2, Result.andThen_ok, run_neq_struct, key b hb], by simp [VRel]⟩
  · rename_i a b
    simp only [VRel] at hx hy
    subst hx; subst hy
    have hu := hb a b rfl rfl
    have hg : ∀ op, (eqGuard op t x y (.bool a) (.bool b)).run P w = .ok () w := fun op => by unfold eqGuard; split <;> rfl
    have he : (Op.equalIn 10000 t (.bool a) (.bool b)).run P w = .ok (a == b) w := run_equalIn_bool w 9999 t a b hu
    split at h <;> try (cases h; done)
    · cases h; exact ⟨.bool (decide (a = b)), by simp only [Sem.run_bind, hg, Result.andThen_ok]; simp only [binOp]; simp [Op.equal, Op.maxDepth, he, beqD], by simp [VRel]⟩
    · cases h; exact ⟨.bool (!decide (a = b)), by simp only [Sem.run_bind, hg, Result.andThen_ok]; simp only [binOp]; simp [Op.equal, Op.maxDepth, he, beqD], by simp [VRel]⟩

end
end Go.Proofs.Ytgaiemhbllbaiaa
namespace Go.Proofs.Ytgaiemhbllbaiaa
open Go Go.RowKit

theorem flat_get {α : Type} {s : Nat} : ∀ {es : List (List α)}, (∀ e ∈ es, e.length = s) → ∀ (i : Nat) (e : List α), es[i]? = some e → ∀ (c : Nat) (v : α), e[c]? = some v → es.flatten[i * s + c]? = some v
  | [], _, i, e, h, _, _, _ => by simp at h
  | x :: es, hl, 0, e, h, c, v, hv => by
    simp at h
    subst h
    have hc : c < x.length := (List.getElem?_eq_some_iff.1 hv).1
    simp only [List.flatten_cons, Nat.zero_mul, Nat.zero_add]
    rw [List.getElem?_append_left hc]
    exact hv
  | x :: es, hl, i + 1, e, h, c, v, hv => by
    have hx := hl x (by simp)
    simp only [List.flatten_cons]
    rw [List.getElem?_append_right (by rw [hx, Nat.add_mul]; omega)]
    have : (i + 1) * s + c - x.length = i * s + c := by rw [hx, Nat.add_mul]; omega
    rw [this]
    exact flat_get (fun e he => hl e (by simp [he])) i e (by simpa using h) c v hv

theorem flat_len {α : Type} {s : Nat} : ∀ {es : List (List α)}, (∀ e ∈ es, e.length = s) → es.flatten.length = es.length * s
  | [], _ => by simp
  | x :: es, hl => by
    have h1 := hl x (by simp)
    have h2 := flat_len (s := s) (es := es) (fun e he => hl e (by simp [he]))
    rw [List.flatten_cons, List.length_append, h2, h1, List.length_cons, Nat.add_mul]
    omega

theorem rd_flat {μ : Mu} {s : Nat} {es : List (List AV)} {cs : List Value} (hl : ∀ e ∈ es, e.length = s) (h : VRels μ es.flatten cs) (h1 : ∀ u ∈ cs, u.oneCell' = true) :
    ∀ i e, es[i]? = some e → ∀ c v, e[c]? = some v → ∃ u, cs[i * s + c]? = some u ∧ u.oneCell' = true ∧ VRel μ v u := by
  intro i e he c v hv
  obtain ⟨u, hu, hr⟩ := h.get _ _ (flat_get hl i e he c v hv)
  exact ⟨u, hu, h1 u (List.mem_of_getElem? hu), hr⟩

theorem one_of {μ : Mu} : ∀ {l : List AV} {cs : List Value}, VRels μ l cs → l.all oneA = true → ∀ u ∈ cs, u.oneCell' = true
  | [], [], _, _ => by simp
  | x :: l, c :: cs, h, ha => by
    simp only [VRels] at h
    simp only [List.all_cons, Bool.and_eq_true] at ha
    intro u hu
    rcases List.mem_cons.1 hu with rfl | hu
    · exact oneA_rel ha.1 h.1
    · exact one_of h.2 ha.2 u hu
  | [], _ :: _, h, _ => by simp [VRels] at h
  | _ :: _, [], h, _ => by simp [VRels] at h

section
variable {P : Program} {B : Nat} {w0 : World} {X : Nat → Prop} {μ : Mu} {σ : Sto} {w : World}

/-- The cells of a stretch of a block. -/
theorem BRel.cells {L : Loc} {k : Blk} (h : BRel B X μ w L k) (o : Nat) : ∀ n, o + n ≤ k.es.length → ∃ cs : List Value, cs.length = n * k.sz ∧ (∀ j u, cs[j]? = some u → w.cell? ((L.a.add (o * k.sz)).add j) = some u) ∧ VRels μ ((k.es.drop o).take n).flatten cs ∧ ∀ u ∈ cs, u.oneCell' = true
  | 0, _ => ⟨[], by simp, by simp, by simp [VRels], by simp⟩
  | n + 1, hn => by
    obtain ⟨cs, h1, h2, h3, h4⟩ := h.cells o n (by omega)
    have hlt : o + n < k.es.length := by omega
    have hel : k.es[o + n].length = k.sz := h.len _ (List.getElem_mem hlt)
    have key : ∀ m, m ≤ k.sz → ∃ ds : List Value, ds.length = m ∧ (∀ j u, ds[j]? = some u → w.cell? (L.a.add ((o + n) * k.sz + j)) = some u) ∧ VRels μ (k.es[o + n].take m) ds ∧ ∀ u ∈ ds, u.oneCell' = true := by
      intro m
      induction m with
      | zero => intro _; exact ⟨[], rfl, by simp, by simp [VRels], by simp⟩
      | succ m ih =>
        intro hm
        obtain ⟨ds, g1, g2, g3, g4⟩ := ih (by omega)
        have hml : m < k.es[o + n].length := by omega
        obtain ⟨u, hu, hone, hv⟩ := h.rd (o + n) k.es[o + n] (List.getElem?_eq_getElem hlt) m _ (List.getElem?_eq_getElem hml)
        refine ⟨ds ++ [u], by simp [g1], fun j y hy => ?_, ?_, ?_⟩
        · rcases Nat.lt_or_ge j ds.length with hj | hj
          · rw [List.getElem?_append_left hj] at hy; exact g2 j y hy
          · rw [List.getElem?_append_right hj] at hy
            have : j = m := by
              rcases Nat.eq_zero_or_pos (j - ds.length) with h0 | h0
              · omega
              · rw [List.getElem?_eq_none (by simp; omega)] at hy; cases hy
            subst this
            simp [g1] at hy
            subst hy
            exact hu
        · rw [List.take_succ_eq_append_getElem hml]
          exact g3.append (by simp [VRels, hv])
        · intro y hy
          rcases List.mem_append.1 hy with hy | hy
          · exact g4 y hy
          · simp at hy; subst hy; exact hone
    obtain ⟨ds, g1, g2, g3, g4⟩ := key k.sz (Nat.le_refl _)
    refine ⟨cs ++ ds, by rw [List.length_append, h1, g1, Nat.add_mul]; omega, fun j u hu => ?_, ?_, ?_⟩
    · rcases Nat.lt_or_ge j cs.length with hj | hj
      · rw [List.getElem?_append_left hj] at hu; exact h2 j u hu
      · rw [List.getElem?_append_right hj] at hu
        have := g2 _ u hu
        rw [add_add]
        have e : (o + n) * k.sz + (j - cs.length) = o * k.sz + j := by rw [h1, Nat.add_mul] at *; omega
        rwa [e] at this
    · have : (k.es.drop o).take (n + 1) = (k.es.drop o).take n ++ [k.es[o + n]] := by
        rw [List.take_succ_eq_append_getElem (by simp; omega)]
        simp
      rw [this, List.flatten_append]
      refine h3.append ?_
      have e : k.es[o + n].take k.sz = k.es[o + n] := List.take_of_length_le (by omega)
      rw [e] at g3
      simpa using g3
    · intro y hy
      rcases List.mem_append.1 hy with hy | hy
      · exact h4 y hy
      · exact g4 y hy

/-! scalars that are left -/
def fNot (x : AV) : Option AV :=
  match x with
  | .v (.bool b) => some (.v (.bool (!b)))
  | .bl => some .bl
  | _ => none
def fUn (op : UnOp) (x : AV) : Option AV :=
  match op with
  | .not => fNot x
  | .neg => match x with
    | .v (.int k n) => some (.v (.int k (k.wrap (0 - n))))
    | _ => none
  | _ => none
theorem fUn_ok {op : UnOp} {x r : AV} {c : Value} (hx : VRel μ x c) (h : fUn op x = some r) (w : World) : ∃ u, (Op.unary op c).run P w = .ok u w ∧ VRel μ r u := by
  unfold fUn at h
  split at h <;> try (cases h; done)
  · unfold fNot at h
    split at h <;> try (cases h; done)
    · rename_i b
      cases h; simp only [VRel] at hx; subst hx
      exact ⟨.bool (!b), by simp [Op.unary], by simp [VRel]⟩
    · cases h; simp only [VRel] at hx; obtain ⟨t, rfl⟩ := hx
      exact ⟨.bool (!t), by simp [Op.unary], by simp [VRel]⟩
  · split at h <;> try (cases h; done)
    rename_i k n
    cases h; simp only [VRel] at hx; subst hx
    exact ⟨.int k (k.wrap (0 - n)), by simp [Op.unary, Op.intArith], by simp [VRel]⟩

def inO (P : Program) (t : TypeId) : Option IntKind := match P.underlying t with | some (.int k) => some k | _ => none
def fConv (k : Option IntKind) (x : AV) : Option AV :=
  match x with
  | .v (.int _ n) => match k with
    | some k => some (.v (.int k (k.wrap n)))
    | none => none
  | _ => none
theorem fConv_ok {s t : TypeId} {x r : AV} {c : Value} (hs : (P.underlying s).isSome = true) (hx : VRel μ x c) (h : fConv (inO P t) x = some r) (w : World) : ∃ u, (convert s t c).run P w = .ok u w ∧ VRel μ r u := by
  unfold fConv at h
  split at h <;> try (cases h; done)
  split at h <;> try (cases h; done)
  rename_i k hk
  cases h
  simp only [VRel] at hx
  subst hx
  unfold inO at hk
  split at hk <;> try (cases hk; done)
  rename_i k' hu
  cases hk
  obtain ⟨d, hd⟩ := Option.isSome_iff_exists.1 hs
  exact ⟨.int k _, by simp [convert, run_underlying hd, run_underlying hu, Conv.intToInt]; rfl, by simp [VRel]⟩

def fExt (x : AV) (i : Nat) : Option AV := match x with | .tup l => l[i]? | _ => none
theorem fExt_ok {x r : AV} {i : Nat} {c : Value} (hx : VRel μ x c) (h : fExt x i = some r) (w : World) : ∃ u, (Instr.extract c i).run P w = .ok u w ∧ VRel μ r u := by
  unfold fExt at h
  split at h <;> try (cases h; done)
  simp only [VRel] at hx
  obtain ⟨cs, rfl, hl⟩ := hx
  obtain ⟨u, hu, hr⟩ := hl.get _ _ h
  exact ⟨u, by simp [Instr.extract, hu], hr⟩

def fLen (x : AV) : Option AV :=
  match x with
  | .sl _ _ n _ _ => some (.v (.int .i64 n))
  | .v (.string s) => some (.v (.int .i64 s.size))
  | _ => none
theorem fLen_ok {t ty : TypeId} {x r : AV} {c : Value} (ht : (slO P t).isSome = true) (hs : (∃ s, x = .v (.string s)) ↔ slO P t = some none) (hx : VRel μ x c) (h : fLen x = some r) (w : World) : ∃ u, (Builtin.len_ #[t] ty #[c]).run P w = .ok u w ∧ VRel μ r u := by
  unfold fLen at h
  split at h <;> try (cases h; done)
  · rename_i b o n cap sz
    cases h
    simp only [VRel] at hx
    obtain ⟨y, m, rfl, _⟩ := hx
    have hn : slO P t ≠ some none := fun e => by have := hs.2 e; simp at this
    have : ∃ e, P.underlying t = some (.slice e) := by
      unfold slO at ht hn
      split at ht <;> simp_all
    obtain ⟨e, hu⟩ := this
    exact ⟨.int .i64 n, by simp [Builtin.len_, run_underlying hu, goInt], by simp [VRel]⟩
  · rename_i s
    cases h
    simp only [VRel] at hx
    subst hx
    have hn := hs.1 ⟨s, rfl⟩
    have hu : P.underlying t = some .string := by
      unfold slO at hn
      split at hn <;> simp_all
    exact ⟨.int .i64 s.size, by simp [Builtin.len_, run_underlying hu, goInt], by simp [VRel]⟩

def fCap (x : AV) : Option AV :=
  match x with
  | .sl _ _ _ (some c) _ => some (.v (.int .i64 c))
  | _ => none
theorem fCap_ok {t e ty : TypeId} {x r : AV} {c : Value} (ht : P.underlying t = some (.slice e)) (hx : VRel μ x c) (h : fCap x = some r) (w : World) : ∃ u, (Builtin.cap_ #[t] ty #[c]).run P w = .ok u w ∧ VRel μ r u := by
  unfold fCap at h
  split at h <;> try (cases h; done)
  rename_i b o n k sz
  cases h
  simp only [VRel] at hx
  obtain ⟨y, m, rfl, _, hm, _⟩ := hx
  have := hm k rfl
  subst this
  exact ⟨.int .i64 m, by simp [Builtin.cap_, run_underlying ht, goInt], by simp [VRel]⟩

def fMin (x y : AV) : Option AV :=
  match x, y with
  | .v (.int k a), .v (.int _ b) => some (.v (.int k (min a b)))
  | _, _ => none
def fMax (x y : AV) : Option AV :=
  match x, y with
  | .v (.int k a), .v (.int _ b) => some (.v (.int k (max a b)))
  | _, _ => none
theorem fMin_ok {ts : Array TypeId} {ty : TypeId} {x y r : AV} {c d : Value} (hx : VRel μ x c) (hy : VRel μ y d) (h : fMin x y = some r) (w : World) : ∃ u, (Builtin.min_ ts ty #[c, d]).run P w = .ok u w ∧ VRel μ r u := by
  unfold fMin at h
  split at h <;> try (cases h; done)
  rename_i k a k' b
  cases h
  simp only [VRel] at hx hy
  subst hx; subst hy
  refine ⟨.int k (min a b), ?_, by simp [VRel]⟩
  have e : (if b < a then b else a) = min a b := by split <;> omega
  simp [Builtin.min_, Builtin.min2, e]
theorem fMax_ok {ts : Array TypeId} {ty : TypeId} {x y r : AV} {c d : Value} (hx : VRel μ x c) (hy : VRel μ y d) (h : fMax x y = some r) (w : World) : ∃ u, (Builtin.max_ ts ty #[c, d]).run P w = .ok u w ∧ VRel μ r u := by
  unfold fMax at h
  split at h <;> try (cases h; done)
  rename_i k a k' b
  cases h
  simp only [VRel] at hx hy
  subst hx; subst hy
  refine ⟨.int k (max a b), ?_, by simp [VRel]⟩
  have e : (if b > a then b else a) = max a b := by split <;> omega
  simp [Builtin.max_, Builtin.max2, e]

/-! structs built -/
def plO (P : Program) (t : TypeId) : Option (List (Nat × Nat)) :=
  match P.underlying t with
  | some (.struct fs) => fs.toList.mapM (fun f => (P.info? f.type).map fun i => (f.offset, i.size))
  | _ => none
def fillA (pl : List (Nat × Nat)) : List AV → List (Nat × AV) → Option (List AV)
  | cells, [] => some cells
  | cells, (i, x) :: rest => match pl[i]? with
    | some (off, 1) => if oneA x = true ∧ off < cells.length then fillA pl (cells.set off x) rest else none
    | _ => none
def fBuild (z : Option (List AV)) (pl : Option (List (Nat × Nat))) (parts : List (Nat × AV)) : Option AV :=
  match z with
  | some z => match pl with
    | some pl => match fillA pl z parts with
      | some l => some (.agg l)
      | none => none
    | none => none
  | none => none
def PRel (μ : Mu) : List (Nat × AV) → List (Nat × Value) → Prop
  | [], [] => True
  | (i, x) :: l, (j, c) :: m => i = j ∧ VRel μ x c ∧ PRel μ l m
  | _, _ => False
theorem fillA_ok {pl : List (Nat × Nat)} : ∀ {parts : List (Nat × AV)} {qs : List (Nat × Value)} {cells r : List AV} {cs : List Value}, PRel μ parts qs → VRels μ cells cs → fillA pl cells parts = some r →
    ∃ ds : List Value, Instr.fill (pl.toArray[·]?) cs.toArray qs = some ds.toArray ∧ VRels μ r ds
  | [], [], cells, r, cs, _, hc, h => by simp [fillA] at h; subst h; exact ⟨cs, rfl, hc⟩
  | (i, x) :: l, (j, c) :: m, cells, r, cs, hp, hc, h => by
    simp only [PRel] at hp
    obtain ⟨rfl, hx, hp⟩ := hp
    simp only [fillA] at h
    split at h <;> try (cases h; done)
    rename_i off hpl
    split at h <;> try (cases h; done)
    rename_i ho
    have h1 := oneA_rel ho.1 hx
    have hlen := hc.length
    have hset : VRels μ (cells.set off x) (cs.set off c) := by
      refine VRels.mk (by simp [hlen]) fun k y hy => ?_
      by_cases e : k = off
      · subst e
        rw [List.getElem?_set_self ho.2] at hy
        cases hy
        exact ⟨c, by rw [List.getElem?_set_self (by omega)], hx⟩
      · rw [List.getElem?_set_ne (Ne.symm e)] at hy
        obtain ⟨u, hu, hr⟩ := hc.get k y hy
        exact ⟨u, by rw [List.getElem?_set_ne (Ne.symm e)]; exact hu, hr⟩
    obtain ⟨ds, hd, hr⟩ := fillA_ok hp hset h
    refine ⟨ds, ?_, hr⟩
    have hb : ¬ (cs.length < off + 1) := by omega
    simp [Instr.fill, hpl, cells_one h1, hb]
    simpa using hd
  | [], _ :: _, _, _, _, hp, _, _ => by simp [PRel] at hp
  | _ :: _, [], _, _, _, hp, _, _ => by simp [PRel] at hp
theorem ofVs_rel (μ : Mu) : ∀ l : List Value, VRels μ (l.map ofV) l
  | [] => by simp [VRels]
  | x :: l => by simp [VRels, ofV_rel, ofVs_rel μ l]
theorem fBuild_ok {t : TypeId} {parts : List (Nat × AV)} {qs : List (Nat × Value)} {r : AV} (hp : PRel μ parts qs) (h : fBuild (zrO P t) (plO P t) parts = some r) (w : World) :
    ∃ u, (Instr.build t qs.toArray).run P w = .ok u w ∧ VRel μ r u := by
  unfold fBuild at h
  split at h <;> try (cases h; done)
  rename_i z hz
  split at h <;> try (cases h; done)
  rename_i pl hpl
  split at h <;> try (cases h; done)
  rename_i l hl
  cases h
  unfold zrO at hz
  cases hi : P.info? t with
  | none => simp [hi] at hz
  | some it =>
    cases hzz : it.zero with
    | none => simp [hi, hzz] at hz
    | some zv =>
      simp [hi, hzz] at hz
      subst hz
      obtain ⟨ds, hd, hr⟩ := fillA_ok (μ := μ) hp (ofVs_rel μ zv.cells.toList) hl
      refine ⟨.agg ds.toArray, ?_, by simp only [VRel]; exact ⟨ds, rfl, hr⟩⟩
      refine run_build w t _ _ ?_
      unfold plO at hpl
      split at hpl <;> try (cases hpl; done)
      rename_i fs hu
      unfold Program.built
      simp only [hi, hu, hzz, hpl]
      simpa using hd

end
end Go.Proofs.Ytgaiemhbllbaiaa
namespace Go.Proofs.Ytgaiemhbllbaiaa
open Go Go.RowKit

section
variable {P : Program} {B : Nat} {w0 : World} {X : Nat → Prop} {μ : Mu} {σ : Sto} {w : World}

/-- What an operation leaves: a value, a store, the first name that is free. -/
abbrev Out := AV × Sto × Nat
/-- A world and a naming behind an operation. -/
structure After (B : Nat) (w0 : World) (X : Nat → Prop) (μ : Mu) (M : Nat) (o : Out) (u : Value) (w' : World) (μ' : Mu) : Prop where
  val : VRel μ' o.1 u
  rel : Rel B w0 X μ' o.2.1 w'
  sub : Sub μ μ'
  nm : (o.2.2 = M ∧ μ' = μ) ∨ (o.2.2 = M + 1 ∧ ∀ b, b ≠ M → μ' b = μ b)

theorem After.same {M : Nat} {v : AV} {u : Value} (hR : Rel B w0 X μ σ w) (hv : VRel μ v u) : After B w0 X μ M (v, σ, M) u w μ :=
  ⟨hv, hR, Sub.refl _, .inl ⟨rfl, rfl⟩⟩

theorem free_of (hR : Rel B w0 X μ σ w) {b : Nat} (h : μ b = none) : σ b = none := by
  cases hs : σ b with
  | none => rfl
  | some k => obtain ⟨L, hL, _⟩ := hR.blk b k hs; rw [h] at hL; cases hL

theorem After.alloc {M : Nat} (hR : Rel B w0 X μ σ w) (hM : μ M = none) {t : TypeId} {sz C : Nat} {es : List (List AV)} {cs : Array Value} (hp : 0 < sz) (hC : 0 < C) (hcs : cs.size = C * sz) (hn : es.length ≤ C)
    (hl : ∀ e ∈ es, e.length = sz) (hrd : ∀ i e, es[i]? = some e → ∀ c v, e[c]? = some v → ∃ u, cs[i * sz + c]? = some u ∧ u.oneCell' = true ∧ VRel μ v u) {v : AV} {u : Value}
    (hv : VRel (upd μ M ⟨⟨w.heap.size, 0, none⟩, C, sz⟩) v u) :
    After B w0 X μ M (v, upd σ M ⟨t, sz, es, true⟩, M + 1) u (w.alloc (.cells cs t)) (upd μ M ⟨⟨w.heap.size, 0, none⟩, C, sz⟩) := by
  have h0 := hM
  exact ⟨hv, hR.alloc h0 t sz C es cs hp hC hcs hn hl hrd (free_of hR h0), Sub.upd h0 _, .inr ⟨rfl, fun b hb => upd_ne _ _ _ _ hb⟩⟩

/-! a new variable -/
def fNew (t : TypeId) (l : Option (List AV)) (σ : Sto) (M : Nat) : Option Out :=
  match l with
  | some l => if 0 < l.length then some (.ptr M 0 0, upd σ M ⟨t, l.length, [l], true⟩, M + 1) else none
  | none => none
theorem fNew_ok {t : TypeId} {l : List AV} {M : Nat} {o : Out} {cs : List Value} (hR : Rel B w0 X μ σ w) (hM : μ M = none) (hc : VRels μ l cs) (h1 : ∀ u ∈ cs, u.oneCell' = true) (h : fNew t (some l) σ M = some o) :
    After B w0 X μ M o (.pointer (some ⟨w.heap.size, 0, none⟩)) (w.alloc (.cells cs.toArray t)) (upd μ M ⟨⟨w.heap.size, 0, none⟩, 1, l.length⟩) := by
  unfold fNew at h
  simp only at h
  split at h <;> try (cases h; done)
  rename_i hp
  cases h
  refine After.alloc hR hM hp Nat.one_pos (by simp [hc.length]) (by simp) (by simp) ?_ ?_
  · have h := rd_flat (s := l.length) (es := [l]) (cs := cs) (by simp) (by simpa using hc) h1
    intro i e he c v hv
    rw [List.getElem?_toArray]
    exact h i e he c v hv
  · simp only [VRel]
    exact ⟨_, upd_eq _ _ _, by simp [Addr.add]⟩
theorem alloc_ok {t : TypeId} {M : Nat} {o : Out} (hR : Rel B w0 X μ σ w) (hM : μ M = none) (hz1 : zrOk P t = true) (h : fNew t (zrO P t) σ M = some o) :
    ∃ u w' μ', (Instr.alloc t true (.tuple #[])).run P w = .ok u w' ∧ After B w0 X μ M o u w' μ' := by
  cases hz : zrO P t with
  | none => rw [hz] at h; simp [fNew] at h
  | some l =>
    rw [hz] at h
    unfold zrO at hz
    unfold zrOk at hz1
    cases hi : P.info? t with
    | none => simp [hi] at hz
    | some it =>
      cases hzz : it.zero with
      | none => simp [hi, hzz] at hz
      | some zv =>
        simp [hi, hzz] at hz hz1
        subst hz
        have := fNew_ok (t := t) hR hM (ofVs_rel μ zv.cells.toList) (fun u hu => by
          have hu' : u ∈ zv.cells := by simpa using hu
          obtain ⟨i, hi2, rfl⟩ := Array.mem_iff_getElem.1 hu'
          exact hz1 i hi2) h
        exact ⟨_, _, _, by simp [Instr.alloc, zeroValue, typeInfo, hi, hzz, newVar, newRow], this⟩
theorem box_ok {t : TypeId} {x : AV} {c : Value} {M : Nat} {o : Out} (hR : Rel B w0 X μ σ w) (hM : μ M = none) (hx : VRel μ x c) (h : fNew t (cellsA x) σ M = some o) :
    ∃ u w' μ', (Instr.box t c).run P w = .ok u w' ∧ After B w0 X μ M o u w' μ' := by
  cases hl : cellsA x with
  | none => rw [hl] at h; simp [fNew] at h
  | some l =>
    rw [hl] at h
    obtain ⟨h1, h2⟩ := cellsA_rel hl hx
    have := fNew_ok (t := t) hR hM h1 (one_of h1 h2) h
    exact ⟨_, _, _, by simp [Instr.box, newVar, newRow], this⟩

/-! a store -/
def fStore (sz : Option Nat) (x y : AV) (σ : Sto) : Option Sto :=
  match x with
  | .ptr b i c => match σ b with
    | some k => match k.es[i]? with
      | some e => match cellsA y with
        | some l => if k.rw = true ∧ sz = some l.length ∧ c + l.length ≤ e.length then some (upd σ b { k with es := k.es.set i (e.take c ++ l ++ e.drop (c + l.length)) }) else none
        | none => none
      | none => none
    | none => none
  | _ => none
theorem fStore_ok {t : TypeId} {x y : AV} {c d : Value} {σ' : Sto} (hR : Rel B w0 X μ σ w) (hx : VRel μ x c) (hy : VRel μ y d) (h : fStore (szO P t) x y σ = some σ') :
    ∃ w', (Instr.storeAt t c d).run P w = .ok () w' ∧ Rel B w0 X μ σ' w' := by
  unfold fStore at h
  split at h <;> try (cases h; done)
  rename_i b i o
  split at h <;> try (cases h; done)
  rename_i k hb
  split at h <;> try (cases h; done)
  rename_i e he
  split at h <;> try (cases h; done)
  rename_i l hl
  split at h <;> try (cases h; done)
  rename_i hc
  cases h
  obtain ⟨hrw, hsz, hle⟩ := hc
  obtain ⟨hv, hone⟩ := cellsA_rel hl hy
  simp only [VRel] at hx
  obtain ⟨L, hL, rfl⟩ := hx
  obtain ⟨L', hL', hB⟩ := hR.blk b k hb
  rw [hL] at hL'; cases hL'
  have hi : i < k.es.length := (List.getElem?_eq_some_iff.1 he).1
  have hel : e.length = k.sz := hB.len e (List.mem_of_getElem? he)
  rcases hB.own hrw with ⟨h0, _⟩ | ⟨g, cs, ha, hbx, hg, hcs, hen, hC⟩
  · rw [h0] at hi; simp at hi
  have hmul : i * k.sz + k.sz ≤ cs.size := by
    rw [hcs]
    have : (i + 1) * k.sz ≤ L.C * k.sz := Nat.mul_le_mul_right _ (by omega)
    rw [Nat.add_mul] at this
    omega
  have hvl := hv.length
  have hst := run_storeCells_at P g (i * L.sz + o) k.ty d.cells.toList 0 cs w hg (by rw [hB.sz, ← hvl]; omega) (one_of hv hone)
  refine ⟨w.setRow g (cs.toList.take (i * L.sz + o + 0) ++ d.cells.toList ++ cs.toList.drop (i * L.sz + o + 0 + d.cells.toList.length)).toArray, ?_, hR.setRow hb hL hrw ha hg hbx hC _ _ ?_ hcs (by simp; omega) ?_ ?_⟩
  · have hne : ¬ d.cells.size ≠ l.length := by rw [hvl]; simp
    rw [ha, add_row]
    simp only [Instr.storeAt, Instr.sureAddr, storeVar, Sem.run_bind, Sem.run_pure, Result.andThen_ok, run_sizeOfO hsz, Sem.run_ite, if_neg hne]
    exact hst
  · have : d.cells.toList.length = l.length := hvl.symm
    simp only [List.size_toArray, List.length_append, List.length_take, List.length_drop, Array.length_toList, this, hB.sz]
    omega
  · intro f hf
    rcases List.mem_or_eq_of_mem_set hf with hf | rfl
    · exact hB.len f hf
    · simp; omega
  · intro j f hf q v hq
    have hdl : d.cells.toList.length = l.length := hvl.symm
    have hpos := hB.pos
    have ht : (cs.toList.take (i * k.sz + o)).length = i * k.sz + o := by rw [List.length_take, Array.length_toList]; omega
    have hto : (e.take o).length = o := by rw [List.length_take]; omega
    by_cases e1 : j = i
    · subst e1
      rw [List.getElem?_set_self hi] at hf
      cases hf
      rcases Nat.lt_or_ge q o with hqo | hqo
      · rw [List.append_assoc, List.getElem?_append_left (by simp; omega), List.getElem?_take_of_lt hqo] at hq
        obtain ⟨u, hu, h1, h2⟩ := hB.rd j e he q v hq
        refine ⟨u, ?_, h1, h2⟩
        rw [ha, add_row, cell_of_row _ _ _ _ _ _ hg] at hu
        have hlt : j * k.sz + q < j * k.sz + o := by omega
        simp only [List.getElem?_toArray, hB.sz, Nat.add_zero, List.append_assoc]
        rw [List.getElem?_append_left (by rw [ht]; exact hlt), List.getElem?_take_of_lt hlt]
        simpa using hu
      · rcases Nat.lt_or_ge q (o + l.length) with hql | hql
        · rw [List.append_assoc, List.getElem?_append_right (by omega), List.getElem?_append_left (by omega)] at hq
          have hqq : q - (e.take o).length = q - o := by omega
          rw [hqq] at hq
          obtain ⟨u, hu, h2⟩ := hv.get _ _ hq
          refine ⟨u, ?_, one_of hv hone u (List.mem_of_getElem? hu), h2⟩
          simp only [List.getElem?_toArray, hB.sz, Nat.add_zero, List.append_assoc]
          rw [List.getElem?_append_right (by omega), List.getElem?_append_left (by omega)]
          have : j * k.sz + q - (cs.toList.take (j * k.sz + o)).length = q - o := by omega
          rw [this]
          exact hu
        · rw [List.getElem?_append_right (by rw [List.length_append]; omega)] at hq
          rw [List.getElem?_drop] at hq
          have hqq : o + l.length + (q - (e.take o ++ l).length) = q := by rw [List.length_append]; omega
          rw [hqq] at hq
          obtain ⟨u, hu, h1, h2⟩ := hB.rd j e he q v hq
          refine ⟨u, ?_, h1, h2⟩
          rw [ha, add_row, cell_of_row _ _ _ _ _ _ hg] at hu
          simp only [List.getElem?_toArray, hB.sz, Nat.add_zero]
          rw [List.getElem?_append_right (by rw [List.length_append]; omega), List.getElem?_drop]
          have : j * k.sz + o + d.cells.toList.length + (j * k.sz + q - (cs.toList.take (j * k.sz + o) ++ d.cells.toList).length) = j * k.sz + q := by
            rw [List.length_append]; omega
          rw [this]
          simpa using hu
    · rw [List.getElem?_set_ne (Ne.symm e1)] at hf
      obtain ⟨u, hu, h1, h2⟩ := hB.rd j f hf q v hq
      refine ⟨u, ?_, h1, h2⟩
      rw [ha, add_row, cell_of_row _ _ _ _ _ _ hg] at hu
      have hfl : f.length = k.sz := hB.len f (List.mem_of_getElem? hf)
      have hqf : q < k.sz := by rw [← hfl]; exact (List.getElem?_eq_some_iff.1 hq).1
      simp only [List.getElem?_toArray, hB.sz, Nat.add_zero, List.append_assoc]
      rcases Nat.lt_or_ge j i with hji | hji
      · have hlt : j * k.sz + q < i * k.sz := by
          have : (j + 1) * k.sz ≤ i * k.sz := Nat.mul_le_mul_right _ (by omega)
          rw [Nat.add_mul] at this
          omega
        rw [List.getElem?_append_left (by omega), List.getElem?_take_of_lt (by omega)]
        simpa using hu
      · have hlt : i * k.sz + k.sz ≤ j * k.sz := by
          have : (i + 1) * k.sz ≤ j * k.sz := Nat.mul_le_mul_right _ (by omega)
          rw [Nat.add_mul] at this
          omega
        rw [List.getElem?_append_right (by omega), List.getElem?_append_right (by omega), List.getElem?_drop]
        have : i * k.sz + o + d.cells.toList.length + (j * k.sz + q - (cs.toList.take (i * k.sz + o)).length - d.cells.toList.length) = j * k.sz + q := by omega
        rw [this]
        simpa using hu

end
end Go.Proofs.Ytgaiemhbllbaiaa
namespace Go.Proofs.Ytgaiemhbllbaiaa
open Go Go.RowKit

theorem foldSet (off : Nat) : ∀ (l : List Value) (k : Nat) (cs : Array Value), off + k + l.length ≤ cs.size →
    ((l.zipIdx k).foldl (fun (cs : Array Value) (x : Value × Nat) => cs.setIfInBounds (off + x.2) x.1) cs).toList = cs.toList.take (off + k) ++ l ++ cs.toList.drop (off + k + l.length)
  | [], k, cs, h => by simp
  | v :: l, k, cs, h => by
    simp only [List.zipIdx_cons, List.foldl_cons]
    simp only [List.length_cons] at h
    rw [foldSet off l (k + 1) _ (by simp; omega)]
    have hlt : off + k < cs.size := by omega
    simp only [Array.toList_setIfInBounds, List.length_cons]
    have e1 : (cs.toList.set (off + k) v).take (off + (k + 1)) = cs.toList.take (off + k) ++ [v] := by
      rw [← Nat.add_assoc, List.take_succ_eq_append_getElem (by simp; omega), List.take_set_of_le (by omega)]
      simp
    have e2 : (cs.toList.set (off + k) v).drop (off + (k + 1) + l.length) = cs.toList.drop (off + k + (l.length + 1)) := by
      rw [List.drop_set_of_lt (by omega)]
      congr 1
      omega
    rw [e1, e2]
    simp

section
variable {P : Program} {B : Nat} {w0 : World} {X : Nat → Prop} {μ : Mu} {σ : Sto} {w : World}

/-! a slice literal -/
def fElems (s : Nat) : Nat → List (Nat × AV) → Option (List (List AV))
  | _, [] => some []
  | j, (i, x) :: r => match cellsA x with
    | some l => match fElems s (j + 1) r with
      | some es => if i = j ∧ l.length = s then some (l :: es) else none
      | none => none
    | none => none
theorem fElems_ok {s : Nat} : ∀ {parts : List (Nat × AV)} {j : Nat} {qs : List (Nat × Value)} {es : List (List AV)} (cells : Array Value), PRel μ parts qs → fElems s j parts = some es → cells.size = (j + parts.length) * s →
    ∃ ds : List Value, Instr.fill (fun i => some (i * s, s)) cells qs = some (cells.toList.take (j * s) ++ ds).toArray ∧ VRels μ es.flatten ds ∧ (∀ u ∈ ds, u.oneCell' = true) ∧ (∀ e ∈ es, e.length = s) ∧ es.length = parts.length
  | [], j, [], es, cells, _, h, hc => by
    simp [fElems] at h
    subst h
    refine ⟨[], ?_, by simp [VRels], by simp, by simp, rfl⟩
    have : cells.toList.take (j * s) = cells.toList := List.take_of_length_le (by simp [hc])
    simp [Instr.fill, this]
  | (i, x) :: parts, j, (i', c) :: qs, es, cells, hp, h, hc => by
    simp only [PRel] at hp
    obtain ⟨rfl, hx, hp⟩ := hp
    simp only [fElems] at h
    split at h <;> try (cases h; done)
    rename_i l hl
    split at h <;> try (cases h; done)
    rename_i es' hes
    split at h <;> try (cases h; done)
    rename_i hij
    obtain ⟨rfl, hls⟩ := hij
    cases h
    obtain ⟨hv, hone⟩ := cellsA_rel hl hx
    have hvl := hv.length
    have hcl : c.cells.toList.length = s := by omega
    have hsz : (i + (parts.length + 1)) * s = i * s + (parts.length + 1) * s := Nat.add_mul _ _ _
    have hsz2 : (parts.length + 1) * s = parts.length * s + s := by rw [Nat.add_mul]; omega
    simp only [List.length_cons] at hc
    have hfit : i * s + 0 + c.cells.toList.length ≤ cells.size := by rw [hc, hcl]; omega
    have hfold := foldSet (i * s) c.cells.toList 0 cells hfit
    have hA : (c.cells.zipIdx.foldl (fun cs (x : Value × Nat) => cs.setIfInBounds (i * s + x.2) x.1) cells) = (cells.toList.take (i * s) ++ c.cells.toList ++ cells.toList.drop (i * s + s)).toArray := by
      rw [← Array.foldl_toList, Array.toList_zipIdx]
      apply Array.toList_inj.1
      rw [hfold, hcl]
      simp
    have hsize : (cells.toList.take (i * s) ++ c.cells.toList ++ cells.toList.drop (i * s + s)).toArray.size = (i + 1 + parts.length) * s := by
      simp only [List.size_toArray, List.length_append, List.length_take, List.length_drop, Array.length_toList, hcl, hc]
      have : (i + 1 + parts.length) * s = i * s + s + parts.length * s := by simp [Nat.add_mul]
      omega
    obtain ⟨ds, h1, h2, h3, h4, h5⟩ := fElems_ok (cells.toList.take (i * s) ++ c.cells.toList ++ cells.toList.drop (i * s + s)).toArray hp hes hsize
    refine ⟨c.cells.toList ++ ds, ?_, ?_, ?_, ?_, by simp [h5]⟩
    · have hcs : c.cells.size = s := by simpa using hcl
      have hb : ¬ (c.cells.size ≠ s || decide (i * s + c.cells.size > cells.size)) = true := by
        simp [hcs]
        rw [hc]
        omega
      simp only [Instr.fill, if_neg hb]
      have e : (cells.toList.take (i * s) ++ c.cells.toList ++ cells.toList.drop (i * s + s)).take ((i + 1) * s) = cells.toList.take (i * s) ++ c.cells.toList := by
        rw [List.take_append_of_le_length (by simp only [List.length_append, List.length_take, Array.length_toList, hcl, Nat.add_mul, hc]; omega)]
        exact List.take_of_length_le (by simp only [List.length_append, List.length_take, Array.length_toList, hcl, Nat.add_mul, hc]; omega)
      rw [show (cells.toList.take (i * s) ++ c.cells.toList ++ cells.toList.drop (i * s + s)).toArray.toList = cells.toList.take (i * s) ++ c.cells.toList ++ cells.toList.drop (i * s + s) from rfl, e] at h1
      show Instr.fill _ (c.cells.zipIdx.foldl (fun cs (x : Value × Nat) => cs.setIfInBounds (i * s + x.2) x.1) cells) qs = _
      rw [hA, h1, List.append_assoc]
    · rw [List.flatten_cons]
      exact hv.append h2
    · intro u hu
      rcases List.mem_append.1 hu with hu | hu
      · exact one_of hv hone u hu
      · exact h3 u hu
    · intro e he
      rcases List.mem_cons.1 he with rfl | he
      · exact hls
      · exact h4 e he
  | [], _, _ :: _, _, _, hp, _, _ => by simp [PRel] at hp
  | _ :: _, _, [], _, _, hp, _, _ => by simp [PRel] at hp

def fBuildS (e : Option TypeId) (s : Option Nat) (len : Nat) (parts : List (Nat × AV)) (σ : Sto) (M : Nat) : Option Out :=
  match e with
  | some e => match s with
    | some s => match fElems s 0 parts with
      | some es => if len = parts.length ∧ 0 < s ∧ len * s ≤ 16777216 then
          if len = 0 then some (.sl 0 0 0 (some 0) 0, σ, M) else some (.sl M 0 len (some len) s, upd σ M ⟨e, s, es, true⟩, M + 1)
        else none
      | none => none
    | none => none
  | none => none
theorem fBuildS_ok {t : TypeId} {len M : Nat} {parts : List (Nat × AV)} {qs : List (Nat × Value)} {o : Out} (hR : Rel B w0 X μ σ w) (hM : μ M = none) (hp : PRel μ parts qs) (hz : ∀ e, elO P t = some e → (zrO P e).isSome = true)
    (h : fBuildS (elO P t) ((elO P t).bind (szO P)) len parts σ M = some o) :
    ∃ u w' μ', (Instr.buildSlice t len qs.toArray).run P w = .ok u w' ∧ After B w0 X μ M o u w' μ' := by
  unfold fBuildS at h
  split at h <;> try (cases h; done)
  rename_i e he
  rw [he] at h
  simp only [Option.bind_some] at h
  split at h <;> try (cases h; done)
  rename_i s hs
  split at h <;> try (cases h; done)
  rename_i es hes
  split at h <;> try (cases h; done)
  rename_i hc
  obtain ⟨rfl, hs0, hsmall⟩ := hc
  have hz' := hz e he
  unfold elO at he
  split at he <;> try (cases he; done)
  rename_i hu
  cases he
  unfold szO at hs
  unfold zrO at hz'
  cases hi : P.info? e with
  | none => simp [hi] at hs
  | some ie =>
    cases hzz : ie.zero with
    | none => simp [hi, hzz] at hz'
    | some zv =>
      simp [hi] at hs
      have hns : ¬ parts.length * ie.size > 2 ^ 24 := by rw [hs]; omega
      split at h
      · rename_i h0
        cases h
        have hp0 : parts = [] := List.eq_nil_of_length_eq_zero h0
        subst hp0
        have e0 : ∀ f : Nat → Value, (Array.range 0).map f = #[] := fun f => Array.eq_empty_of_size_eq_zero (by simp)
        match qs, hp with
        | [], _ =>
          refine ⟨.slice (some ⟨w.heap.size, 0, none⟩) 0 0, w.alloc (.cells #[] e), μ, ?_, ?_, hR.moveB ((Below.refl _ _).alloc (Nat.le_refl _) _), Sub.refl _, .inl ⟨rfl, rfl⟩⟩
          · simp [Instr.buildSlice, run_underlying hu, sizeOf, typeInfo, hi, Instr.fill, newRow, e0]
          · simp only [VRel]
            exact ⟨some ⟨w.heap.size, 0, none⟩, 0, rfl, Nat.le_refl _, fun k hk => (by cases hk; rfl), .inl (by simp)⟩
      · rename_i h0
        cases h
        have hpos : ¬ parts.length * ie.size = 0 := by
          rw [hs]
          exact Nat.mul_ne_zero h0 (by omega)
        obtain ⟨ds, h1, h2, h3, h4, h5⟩ := fElems_ok (s := s) (j := 0) ((Array.range (parts.length * ie.size)).map (zv.cells[· % zv.cells.size]!)) hp hes (by simp [hs])
        simp only [Nat.zero_mul, List.take_zero, List.nil_append] at h1
        have hrun := run_buildSlice (P := P) w t e parts.length qs.toArray ds.toArray ie zv hu hi hzz hns hpos (by rw [hs] at h1 ⊢; simpa using h1)
        have hdl : ds.length = parts.length * s := by rw [← h2.length, flat_len h4, h5]
        refine ⟨_, _, _, hrun, After.alloc (C := parts.length) hR hM hs0 (by omega) (by simp [hdl]) (by omega) h4 (fun i e he c v hv => by rw [List.getElem?_toArray]; exact rd_flat h4 h2 h3 i e he c v hv) ?_⟩
        simp only [VRel]
        exact ⟨_, _, rfl, Nat.le_refl _, fun k hk => (by cases hk; rfl), .inr ⟨_, upd_eq _ _ _, rfl, fun _ => ⟨by simp [Addr.add], by simp⟩⟩⟩

/-! make -/
theorem made_get (z : Array Value) (n s : Nat) (hz : z.size = s) (i c : Nat) (hi : i < n) (hc : c < s) : (madeCells z (n * s))[i * s + c]? = z[c]? := by
  have hlt : i * s + c < n * s := by
    have : (i + 1) * s ≤ n * s := Nat.mul_le_mul_right _ (by omega)
    rw [Nat.add_mul] at this
    omega
  have hmod : (i * s + c) % s = c := by rw [Nat.add_comm, Nat.add_mul_mod_self_right]; exact Nat.mod_eq_of_lt hc
  simp [madeCells, hlt, hz, hmod]
  rw [Array.getElem?_eq_getElem (by omega), getElem!_pos _ _ (by omega)]

def fMake (e : Option TypeId) (z : Option (List AV)) (by_ : Nat) (l c : AV) (σ : Sto) (M : Nat) : Option Out :=
  match e with
  | some e => match z with
    | some z => match num l with
      | some n => match num c with
        | some m => if n = m ∧ 0 < z.length ∧ by_ * n ≤ 140737488355328 ∧ n ≤ 4611686018427387904 then some (.sl M 0 n (some n) z.length, upd σ M ⟨e, z.length, List.replicate n z, true⟩, M + 1) else none
        | none => none
      | none => none
    | none => none
  | none => none
theorem fMake_ok {t : TypeId} {M : Nat} {l c : AV} {cl cc : Value} {o : Out} (hR : Rel B w0 X μ σ w) (hM : μ M = none) (hl : VRel μ l cl) (hc : VRel μ c cc) (hz1 : ∀ e, elO P t = some e → zrOk P e = true ∧ (zrO P e).map (·.length) = szO P e)
    (h : fMake (elO P t) ((elO P t).bind (zrO P)) (((elO P t).map (byO P)).getD 0) l c σ M = some o) :
    ∃ u w' μ', (Instr.makeSlice t cl cc).run P w = .ok u w' ∧ After B w0 X μ M o u w' μ' := by
  unfold fMake at h
  split at h <;> try (cases h; done)
  rename_i e he
  rw [he] at h
  simp only [Option.bind_some, Option.map_some, Option.getD_some] at h
  split at h <;> try (cases h; done)
  rename_i z hz
  split at h <;> try (cases h; done)
  rename_i n hn
  split at h <;> try (cases h; done)
  rename_i m hm
  split at h <;> try (cases h; done)
  rename_i hcnd
  obtain ⟨rfl, hz0, hby, hbig⟩ := hcnd
  cases h
  obtain ⟨hz1, hz2⟩ := hz1 e he
  obtain ⟨k1, rfl⟩ := num_ok hn hl
  obtain ⟨k2, rfl⟩ := num_ok hm hc
  unfold elO at he
  split at he <;> try (cases he; done)
  rename_i hu
  cases he
  unfold zrO at hz hz2
  unfold zrOk at hz1
  unfold szO at hz2
  unfold byO at hby
  cases hi : P.info? e with
  | none => simp [hi] at hz
  | some ie =>
    cases hzz : ie.zero with
    | none => simp [hi, hzz] at hz
    | some zv =>
      simp only [hi, hzz, Option.bind_some, Option.map_some, Option.some.injEq, Option.getD_some, List.length_map, Array.length_toList] at hz hz1 hz2 hby
      subst hz
      have hsz : zv.cells.size = ie.size := by
        have := congrArg (fun x => x) hz2
        simpa using hz2
      simp only [List.length_map, Array.length_toList] at hz0 ⊢
      have hrun := run_make (P := P) w t e ie zv hu hi hzz k1 k2 n n (by omega) (by omega) (by
        have h : ((ie.bytes * n : Nat) : Int) ≤ 281474976710656 := by omega
        rwa [Int.natCast_mul] at h) (by omega)
      simp only [Int.toNat_natCast] at hrun
      have h0 := hM
      rcases Nat.eq_zero_or_pos n with rfl | hpos
      · refine ⟨_, _, _, hrun, ?_, (hR.moveB ((Below.refl _ _).alloc (Nat.le_refl _) _)).virt h0 e _ hz0 (free_of hR h0) ⟨w.heap.size, 0, none⟩, Sub.upd h0 _, .inr ⟨rfl, fun b hb => upd_ne _ _ _ _ hb⟩⟩
        simp only [VRel]
        exact ⟨_, _, rfl, Nat.le_refl _, fun k hk => (by cases hk; rfl), .inl (by simp)⟩
      · refine ⟨_, _, _, hrun, After.alloc (C := n) hR hM hz0 hpos (by rw [size_madeCells, hsz]) (by simp) ?_ ?_ ?_⟩
        · intro x hx
          have := List.eq_of_mem_replicate hx
          subst this
          simp
        · intro i x hx c v hv
          have hin : i < n := by
            have := (List.getElem?_eq_some_iff.1 hx).1
            simpa using this
          have hx' : x = zv.cells.toList.map ofV := List.eq_of_mem_replicate (List.mem_of_getElem? hx)
          subst hx'
          have hcl : c < zv.cells.size := by
            have := (List.getElem?_eq_some_iff.1 hv).1
            simpa using this
          obtain ⟨u, hu', hr⟩ := (ofVs_rel μ zv.cells.toList).get c v hv
          refine ⟨u, ?_, ?_, hr⟩
          · rw [← hsz, made_get zv.cells n _ rfl i c hin hcl]
            simpa using hu'
          · have := List.all_eq_true.1 hz1 u (List.mem_of_getElem? hu')
            exact this
        · simp only [VRel]
          exact ⟨_, _, rfl, Nat.le_refl _, fun k hk => (by cases hk; rfl), .inr ⟨_, upd_eq _ _ _, rfl, fun _ => ⟨by simp [Addr.add], by simp⟩⟩⟩

end
end Go.Proofs.Ytgaiemhbllbaiaa
namespace Go.Proofs.Ytgaiemhbllbaiaa
open Go Go.RowKit

section
variable {P : Program} {B : Nat} {w0 : World} {X : Nat → Prop} {μ : Mu} {σ : Sto} {w : World}

theorem Rel.trunc (h : Rel B w0 X μ σ w) {b : Nat} {k : Blk} (hb : σ b = some k) (n : Nat) : Rel B w0 X μ (upd σ b { k with es := k.es.take n }) w := by
  have look : ∀ c kc, upd σ b { k with es := k.es.take n } c = some kc → ∃ k0, σ c = some k0 ∧ kc.rw = k0.rw ∧ (∀ L, occ kc L → occ k0 L) := fun c kc hc => by
    by_cases e : c = b
    · subst e
      rw [upd_eq] at hc; cases hc
      exact ⟨k, hb, rfl, fun L ho => ho.imp (fun h1 h2 => h1 (by simp [h2])) id⟩
    · rw [upd_ne _ _ _ _ e] at hc
      exact ⟨kc, hc, rfl, fun L ho => ho⟩
  refine ⟨h.keep, h.big, fun c kc hc => ?_, fun c c' k1 k2 L1 L2 hne hc hc' hL1 hL2 hr hC ho => ?_, h.fin⟩
  · by_cases e : c = b
    · subst e
      rw [upd_eq] at hc; cases hc
      obtain ⟨L, hL, hR⟩ := h.blk c k hb
      refine ⟨L, hL, hR.sz, hR.pos, fun e he => hR.len e (List.mem_of_mem_take he), fun i e he => hR.rd i e ?_, fun hr => ?_⟩
      · rw [List.getElem?_take] at he
        split at he
        · exact he
        · cases he
      · rcases hR.own hr with ⟨h1, h2⟩ | ⟨g, cs, h1, h2, h3, h4, h5, h6⟩
        · exact .inl ⟨by simp [h1], h2⟩
        · exact .inr ⟨g, cs, h1, h2, h3, h4, by simp; omega, h6⟩
    · rw [upd_ne _ _ _ _ e] at hc
      exact h.blk c kc hc
  · obtain ⟨k1', h1, e1, _⟩ := look c k1 hc
    obtain ⟨k2', h2, _, f2⟩ := look c' k2 hc'
    exact h.sep c c' k1' k2' L1 L2 hne h1 h2 hL1 hL2 (e1 ▸ hr) hC (f2 _ ho)

/-- A block under another name. -/
theorem Rel.rename (h : Rel B w0 X μ σ w) {b M : Nat} {k : Blk} {L : Loc} (hb : σ b = some k) (hL : μ b = some L) (hM : μ M = none) : Rel B w0 X (upd μ M L) (upd (Go.Proofs.Ytgaiemhbllbaiaa.del σ b) M k) w := by
  have hbM : b ≠ M := fun e => by subst e; rw [hM] at hL; cases hL
  have hsub := Sub.upd hM L
  have look : ∀ c kc Lc, upd (Go.Proofs.Ytgaiemhbllbaiaa.del σ b) M k c = some kc → upd μ M L c = some Lc → ∃ d, σ d = some kc ∧ μ d = some Lc ∧ (c = M ∧ d = b ∨ c ≠ M ∧ c ≠ b ∧ d = c) := fun c kc Lc hc hLc => by
    by_cases e : c = M
    · subst e
      rw [upd_eq] at hc hLc; cases hc; cases hLc
      exact ⟨b, hb, hL, .inl ⟨rfl, rfl⟩⟩
    · rw [upd_ne _ _ _ _ e] at hc hLc
      by_cases e2 : c = b
      · subst e2; rw [del_eq] at hc; cases hc
      · rw [del_ne _ _ _ e2] at hc
        exact ⟨c, hc, hLc, .inr ⟨e, e2, rfl⟩⟩
  refine ⟨h.keep, h.big, fun c kc hc => ?_, fun c c' k1 k2 L1 L2 hne hc hc' hL1 hL2 hr hC ho => ?_, ?_⟩
  · by_cases e : c = M
    · subst e
      rw [upd_eq] at hc; cases hc
      obtain ⟨L0, hL0, hR⟩ := h.blk b k hb
      rw [hL] at hL0; cases hL0
      exact ⟨L, upd_eq _ _ _, hR.keep hsub fun _ => rfl⟩
    · rw [upd_ne _ _ _ _ e] at hc
      by_cases e2 : c = b
      · subst e2; rw [del_eq] at hc; cases hc
      · rw [del_ne _ _ _ e2] at hc
        obtain ⟨L0, hL0, hR⟩ := h.blk c kc hc
        exact ⟨L0, hsub _ _ hL0, hR.keep hsub fun _ => rfl⟩
  · obtain ⟨d1, s1, m1, c1⟩ := look c k1 L1 hc hL1
    obtain ⟨d2, s2, m2, c2⟩ := look c' k2 L2 hc' hL2
    refine h.sep d1 d2 k1 k2 L1 L2 ?_ s1 s2 m1 m2 hr hC ho
    rcases c1 with ⟨a1, a2⟩ | ⟨a1, a2, a3⟩ <;> rcases c2 with ⟨b1, b2⟩ | ⟨b1, b2, b3⟩
    · exact absurd (a1.trans b1.symm) hne
    · rw [a2, b3]; exact Ne.symm b2
    · rw [a3, b2]; exact a2
    · rw [a3, b3]; exact hne
  · obtain ⟨K, hK⟩ := h.fin
    refine ⟨max K (M + 1), fun c hc => ?_⟩
    rw [upd_ne _ _ _ _ (by omega)]
    exact hK c (by omega)

theorem run_append_zero {t ty e : TypeId} {i : TypeInfo} (ht : P.underlying t = some (.slice e)) (hi : P.info? e = some i) (base y : Option Addr) (n m c : Nat) (hnm : n ≤ m) (w : World) :
    (Builtin.append_ #[t, t] ty #[.slice base n m, .slice y 0 c]).run P w = .ok (.slice base n m) w := by
  cases base <;> cases y <;> simp [Builtin.append_, run_underlying ht, sizeOf, typeInfo, hi, Builtin.lenOf, Builtin.firstCells, loadCells, loadCellsFrom, storeCells, hnm]

/-- The elements of a slice. -/
def elems (s : Nat) (x : AV) (σ : Sto) : Option (List (List AV)) :=
  match x with
  | .sl b o n _ sz => match σ b with
    | some k => if sz = s ∧ k.sz = s ∧ o + n ≤ k.es.length then some ((k.es.drop o).take n) else if n = 0 then some [] else none
    | none => if n = 0 then some [] else none
  | _ => none
theorem elems_ok {s : Nat} {b o n : Nat} {cap : Option Nat} {sz : Nat} {c : Value} {es : List (List AV)} (hR : Rel B w0 X μ σ w) (hx : VRel μ (.sl b o n cap sz) c) (h : elems s (.sl b o n cap sz) σ = some es) :
    ∃ (y : Option Addr) (m : Nat) (cs : List Value), c = .slice y n m ∧ n ≤ m ∧ es.length = n ∧ (∀ e ∈ es, e.length = s) ∧ cs.length = n * s ∧ VRels μ es.flatten cs ∧ (∀ u ∈ cs, u.oneCell' = true) ∧
      (0 < n → ∃ a, y = some a ∧ ∀ j u, cs[j]? = some u → w.cell? (a.add j) = some u) := by
  simp only [VRel] at hx
  obtain ⟨y, m, rfl, hnm, hcap, hm⟩ := hx
  have zero : es = [] → n = 0 → ∃ (y' : Option Addr) (m' : Nat) (cs : List Value), Value.slice y n m = .slice y' n m' ∧ n ≤ m' ∧ es.length = n ∧ (∀ e ∈ es, e.length = s) ∧ cs.length = n * s ∧ VRels μ es.flatten cs ∧ (∀ u ∈ cs, u.oneCell' = true) ∧
      (0 < n → ∃ a, y' = some a ∧ ∀ j u, cs[j]? = some u → w.cell? (a.add j) = some u) := fun h1 h2 => by
    subst h1; subst h2
    exact ⟨y, m, [], rfl, hnm, rfl, by simp, by simp, by simp [VRels], by simp, fun h => absurd h (by omega)⟩
  unfold elems at h
  simp only at h
  split at h
  · rename_i k hk
    split at h
    · rename_i hc
      obtain ⟨rfl, hks, hle⟩ := hc
      cases h
      obtain ⟨L, hL, hB⟩ := hR.blk b k hk
      obtain ⟨cs, h1, h2, h3, h4⟩ := hB.cells o n hle
      refine ⟨y, m, cs, rfl, hnm, by simp; omega, fun e he => by rw [← hks]; exact hB.len e (List.mem_of_mem_drop (List.mem_of_mem_take he)), by rw [h1, hks], h3, h4, fun h0 => ?_⟩
      obtain ⟨L', hL', _, hy⟩ := hm.resolve_left (fun e => by have := hcap 0 e; omega)
      obtain ⟨hy, _⟩ := hy (by omega)
      rw [hL] at hL'; cases hL'
      refine ⟨_, hy, ?_⟩
      rw [hks] at h2
      exact h2
    · split at h <;> try (cases h; done)
      rename_i h0
      cases h
      exact zero rfl h0
  · split at h <;> try (cases h; done)
    rename_i h0
    cases h
    exact zero rfl h0

theorem After.grown {M : Nat} (hR : Rel B w0 X μ σ w) (hM : μ M = none) {e : TypeId} {s n : Nat} (hs : 0 < s) {es : List (List AV)} {cs : List Value} {z : Array Value} {cap : Nat} (hn : 0 < n) (hcap : n ≤ cap) (hz : z.size = s)
    (hes : es.length = n) (hl : ∀ e ∈ es, e.length = s) (hc : cs.length = n * s) (hv : VRels μ es.flatten cs) (h1 : ∀ u ∈ cs, u.oneCell' = true) (A : Array Value) (hA : A = cs.toArray) :
    After B w0 X μ M (.sl M 0 n none s, upd σ M ⟨e, s, es, true⟩, M + 1) (.slice (some ⟨w.heap.size, 0, none⟩) n cap) (w.drew.alloc (.cells (A ++ Builtin.zeroCells z (cap - n)) e)) (upd μ M ⟨⟨w.heap.size, 0, none⟩, cap, s⟩) := by
  subst hA
  have := After.alloc (M := M) hR.drew hM (t := e) (sz := s) (C := cap) (es := es) (cs := cs.toArray ++ Builtin.zeroCells z (cap - n)) hs (by omega) ?_ (by omega) hl ?_ (v := .sl M 0 n none s) (u := .slice (some ⟨w.heap.size, 0, none⟩) n cap) ?_
  · exact this
  · rw [Array.size_append, List.size_toArray, size_zeroCells, hc, hz, ← Nat.add_mul]
    congr 1
    omega
  · intro i e he c v hq
    obtain ⟨u, hu, h2, h3⟩ := rd_flat hl hv h1 i e he c v hq
    refine ⟨u, ?_, h2, h3⟩
    have hlt := (List.getElem?_eq_some_iff.1 hu).1
    rw [Array.getElem?_append_left (by simpa using hlt)]
    simpa using hu
  · simp only [VRel]
    exact ⟨_, _, rfl, hcap, fun k hk => (by cases hk), .inr ⟨_, upd_eq _ _ _, rfl, fun _ => ⟨by simp [Addr.add], by simp⟩⟩⟩

def fApp (e : Option TypeId) (s : Option Nat) (by_ : Nat) (x y : AV) (σ : Sto) (M : Nat) : Option Out :=
  match e with
  | some e => match s with
    | some s => match x with
      | .sl b o n cap sz => match elems s y σ with
        | some news =>
          if 0 < s ∧ (n + news.length) * by_ ≤ 140737488355328 ∧ n + news.length ≤ 4611686018427387904 then
            match cap with
            | some c => if n = 0 ∧ c = 0 then some (.sl M 0 news.length none s, upd σ M ⟨e, s, news, true⟩, M + 1)
              else if c < n + news.length ∧ 0 < news.length then match elems s (.sl b o n cap sz) σ with
                | some olds => some (.sl M 0 (n + news.length) none s, upd σ M ⟨e, s, olds ++ news, true⟩, M + 1)
                | none => none
              else none
            | none => match σ b with
              | some k => if o = 0 ∧ k.rw = true ∧ sz = s ∧ k.sz = s ∧ k.ty = e ∧ n ≤ k.es.length then some (.sl M 0 (n + news.length) none s, upd (del σ b) M ⟨e, s, k.es.take n ++ news, true⟩, M + 1) else none
              | none => none
          else none
        | none => none
      | _ => none
    | none => none
  | none => none

theorem fApp_ok {t ty : TypeId} {M : Nat} {x y : AV} {c d : Value} {o : Out} (hR : Rel B w0 X μ σ w) (hM : μ M = none) (hx : VRel μ x c) (hy : VRel μ y d)
    (hz : ∀ e, elO P t = some e → (zrO P e).map (·.length) = szO P e) (hy2 : ∃ b o n cap sz, y = .sl b o n cap sz)
    (h : fApp (elO P t) ((elO P t).bind (szO P)) (((elO P t).map (byO P)).getD 0) x y σ M = some o) :
    ∃ u w' μ', (Builtin.append_ #[t, t] ty #[c, d]).run P w = .ok u w' ∧ After B w0 X μ M o u w' μ' := by
  obtain ⟨b2, o2, n2, cap2, sz2, rfl⟩ := hy2
  unfold fApp at h
  split at h <;> try (cases h; done)
  rename_i e he
  rw [he] at h
  simp only [Option.bind_some, Option.map_some, Option.getD_some] at h
  split at h <;> try (cases h; done)
  rename_i s hs
  split at h <;> try (cases h; done)
  rename_i b o' n cap sz
  split at h <;> try (cases h; done)
  rename_i news hnews
  split at h <;> try (cases h; done)
  rename_i hcnd
  obtain ⟨hs0, hby, hbig⟩ := hcnd
  have hz' := hz e he
  unfold elO at he
  split at he <;> try (cases he; done)
  rename_i hu
  cases he
  obtain ⟨y2, m2, ns, rfl, hnm2, hnl, hne, hnsl, hnv, hn1, hna⟩ := elems_ok hR hy hnews
  unfold byO at hby
  unfold zrO at hz'
  unfold szO at hs hz'
  cases hi : P.info? e with
  | none => simp [hi] at hs
  | some ie =>
    cases hzz : ie.zero with
    | none => simp [hi, hzz] at hz'
    | some zv =>
      simp only [hi, hzz, Option.bind_some, Option.map_some, Option.some.injEq, Option.getD_some, List.length_map, Array.length_toList] at hz' hs hby
      have hzs : zv.cells.size = s := by rw [← hs]; exact hz'
      have hlen := hnl
      rw [hlen] at h hby hbig
      have h0 := hM
      split at h
      · rename_i cp
        split at h
        · -- nothing is there yet
          rename_i hc0
          obtain ⟨rfl, rfl⟩ := hc0
          cases h
          simp only [VRel] at hx
          obtain ⟨y1, m1, rfl, _, hm1, _⟩ := hx
          have := hm1 0 rfl
          subst this
          rcases Nat.eq_zero_or_pos n2 with rfl | hpos
          · have hnil : news = [] := List.eq_nil_of_length_eq_zero hlen
            subst hnil
            refine ⟨_, _, _, run_append_zero hu hi y1 y2 0 0 m2 (Nat.le_refl _) w, ?_, hR.virt h0 e s hs0 (free_of hR h0) ⟨0, 0, none⟩, Sub.upd h0 _, .inr ⟨rfl, fun b hb => upd_ne _ _ _ _ hb⟩⟩
            simp only [VRel]
            exact ⟨_, _, rfl, Nat.le_refl _, fun k hk => (by cases hk), .inr ⟨_, upd_eq _ _ _, rfl, fun h => absurd h (by omega)⟩⟩
          · obtain ⟨a2, rfl, hcells⟩ := hna hpos
            have hA : ns.toArray = ns.toArray := rfl
            cases y1 with
            | none =>
              have hrun := run_append_nil (P := P) w t ty e ie zv hu hi hzz a2 n2 m2 ns (by rw [hnsl, hs]) hcells hpos (by omega) (by have := hby; rw [Nat.zero_add] at this; omega)
              exact ⟨_, _, _, hrun, After.grown hR hM hs0 hpos (grownCap_ge _ _ _ _) hzs hlen hne hnsl hnv hn1 _ rfl⟩
            | some a1 =>
              have hrun := run_append_grow (P := P) w t ty e ie zv hu hi hzz a1 0 0 [] (by simp) (by simp) a2 n2 m2 ns (by rw [hnsl, hs]) hcells (by omega) (by omega) (growslice_fits (by omega) (by simpa using hby))
              simp only [Nat.zero_add] at hrun
              exact ⟨_, _, _, hrun, After.grown hR hM hs0 hpos (grownCap_ge _ _ _ _) hzs hlen hne hnsl hnv hn1 _ (by simp)⟩
        · split at h <;> try (cases h; done)
          rename_i hnc hgr
          obtain ⟨hlt, hpos⟩ := hgr
          split at h <;> try (cases h; done)
          rename_i olds holds
          cases h
          obtain ⟨y1, m1, os, hc1, hnm1, hol, hoe, hosl, hov, ho1, hoa⟩ := elems_ok hR hx holds
          subst hc1
          obtain ⟨a2, rfl, hcells⟩ := hna hpos
          have hm1 : m1 = cp := by
            simp only [VRel] at hx
            obtain ⟨y', m', hyy, _, hk, _⟩ := hx
            cases hyy
            exact hk cp rfl
          subst hm1
          have hes : (olds ++ news).length = n + n2 := by simp [hol, hlen]
          have hle : ∀ e ∈ olds ++ news, e.length = s := fun e he => by
            rcases List.mem_append.1 he with he | he
            · exact hoe e he
            · exact hne e he
          have hvv : VRels μ (olds ++ news).flatten (os ++ ns) := by rw [List.flatten_append]; exact hov.append hnv
          have h11 : ∀ u ∈ os ++ ns, u.oneCell' = true := fun u hu => by
            rcases List.mem_append.1 hu with hu | hu
            · exact ho1 u hu
            · exact hn1 u hu
          have hcl : (os ++ ns).length = (n + n2) * s := by rw [List.length_append, hosl, hnsl, Nat.add_mul]
          cases y1 with
          | none =>
            have hn0 : n = 0 := by
              rcases Nat.eq_zero_or_pos n with h | h
              · exact h
              · obtain ⟨a, ha, _⟩ := hoa h; cases ha
            subst hn0
            have hm0 : m1 = 0 := by
              simp only [VRel] at hx
              obtain ⟨y', m', hyy, _, hk0, hk⟩ := hx
              cases hyy
              rcases hk with hk | ⟨_, _, _, hk⟩
              · exact hk0 0 hk
              · rcases Nat.eq_zero_or_pos m1 with h | h
                · exact h
                · obtain ⟨ha, _⟩ := hk h; cases ha
            subst hm0
            exact absurd ⟨rfl, rfl⟩ hnc
          | some a1 =>
            have hoc : ∀ j u, os[j]? = some u → w.cell? (a1.add j) = some u := fun j u hu => by
              rcases Nat.eq_zero_or_pos n with h | h
              · have : os = [] := List.eq_nil_of_length_eq_zero (by rw [hosl, h]; simp)
                rw [this] at hu; simp at hu
              · obtain ⟨a, ha, hb⟩ := hoa h
                cases ha
                exact hb j u hu
            have hrun := run_append_grow (P := P) w t ty e ie zv hu hi hzz a1 n m1 os (by rw [hosl, hs]) hoc a2 n2 m2 ns (by rw [hnsl, hs]) hcells (by omega) (by omega) (growslice_fits (by omega) hby)
            exact ⟨_, _, _, hrun, After.grown hR hM hs0 (by omega) (grownCap_ge _ _ _ _) hzs hes hle hcl hvv h11 _ (by simp)⟩
      · split at h <;> try (cases h; done)
        rename_i k hk
        split at h <;> try (cases h; done)
        rename_i hkc
        obtain ⟨rfl, hrw, rfl, hks, hkt, hkn⟩ := hkc
        cases h
        obtain ⟨L, hL, hB⟩ := hR.blk b k hk
        have hx' := hx
        simp only [VRel] at hx
        obtain ⟨y1, m1, rfl, hnm1, _, hm1⟩ := hx
        have hm1 := hm1.resolve_left (by simp)
        have hbM : b ≠ M := fun e => by subst e; rw [h0] at hL; cases hL
        obtain ⟨os, hosl, hoc, hov, ho1⟩ := hB.cells 0 n (by omega)
        simp only [Nat.zero_mul, List.drop_zero, add_add, Nat.zero_add] at hoc hov
        rw [hks] at hosl
        have hol : (k.es.take n).length = n := by simp; omega
        have hes : (k.es.take n ++ news).length = n + n2 := by simp [hlen]; omega
        have hle : ∀ e ∈ k.es.take n ++ news, e.length = sz := fun e he => by
          rcases List.mem_append.1 he with he | he
          · rw [← hks]; exact hB.len e (List.mem_of_mem_take he)
          · exact hne e he
        have hvv : VRels μ (k.es.take n ++ news).flatten (os ++ ns) := by rw [List.flatten_append]; exact hov.append hnv
        have h11 : ∀ u ∈ os ++ ns, u.oneCell' = true := fun u hu => by
          rcases List.mem_append.1 hu with hu | hu
          · exact ho1 u hu
          · exact hn1 u hu
        have hcl : (os ++ ns).length = (n + n2) * sz := by rw [List.length_append, hosl, hnsl, Nat.add_mul]
        by_cases hroom : n + n2 ≤ m1
        · -- in place
          rcases Nat.eq_zero_or_pos n2 with hz2 | hpos
          · subst hz2
            have hnil : news = [] := List.eq_nil_of_length_eq_zero hlen
            subst hnil
            have ht := (hR.trunc hk n).rename (M := M) (upd_eq _ _ _) hL h0
            have e1 : upd (del (upd σ b { k with es := k.es.take n }) b) M { k with es := k.es.take n } = upd (del σ b) M ⟨e, sz, k.es.take n ++ [], true⟩ := by
              have hblk : ({ k with es := k.es.take n } : Blk) = ⟨e, sz, k.es.take n ++ [], true⟩ := by
                show Blk.mk k.ty k.sz _ k.rw = _
                rw [hkt, hks, hrw]; simp
              rw [hblk]
              congr 1
              funext c
              by_cases hc : c = b
              · subst hc; simp [del_eq]
              · rw [del_ne _ _ _ hc, del_ne _ _ _ hc, upd_ne _ _ _ _ hc]
            rw [e1] at ht
            refine ⟨_, _, _, run_append_zero hu hi y1 y2 n m1 m2 hnm1 w, ?_, ht, Sub.upd h0 _, .inr ⟨rfl, fun b hb => upd_ne _ _ _ _ hb⟩⟩
            simp only [VRel]
            refine ⟨_, _, rfl, hnm1, fun k hk => (by cases hk), ?_⟩
            obtain ⟨L', hL', h2, h3⟩ := hm1
            rw [hL] at hL'; cases hL'
            exact .inr ⟨L, upd_eq _ _ _, h2, h3⟩
          · obtain ⟨a2, rfl, hcells⟩ := hna hpos
            obtain ⟨L', hL', hLs, hm1⟩ := hm1
            obtain ⟨hy1, hC⟩ := hm1 (by omega)
            rw [hL] at hL'; cases hL'
            rcases hB.own hrw with ⟨_, hC0⟩ | ⟨g, cs, ha, hbx, hg, hcs, hen, hC0⟩
            · omega
            have hy1' : y1 = some ⟨g, 0, none⟩ := by rw [hy1, ha]; simp [Addr.add]
            subst hy1'
            rw [hkt] at hg
            have hfit : n * ie.size + ns.length ≤ cs.size := by
              rw [hnsl, hcs, hks, hs, ← Nat.add_mul]
              exact Nat.mul_le_mul_right _ (by omega)
            have hrun := run_append_room (P := P) w t ty e ie hu hi g n m1 cs hg a2 n2 m2 ns (by rw [hnsl, hs]) hcells hn1 hroom hfit
            have hcsl : (cs.toList.take (n * ie.size)).length = n * sz := by rw [List.length_take, Array.length_toList, hs]; rw [hs] at hfit; omega
            have htk : cs.toList.take (n * ie.size) = os := by
              apply List.ext_getElem?
              intro j
              rcases Nat.lt_or_ge j (n * sz) with hj | hj
              · have hjo : j < os.length := by omega
                have := hoc j os[j] (List.getElem?_eq_getElem hjo)
                rw [ha, add_row, cell_of_row _ _ _ _ _ _ hg] at this
                rw [List.getElem?_take_of_lt (by rw [hs]; exact hj), List.getElem?_eq_getElem hjo]
                simpa using this
              · rw [List.getElem?_eq_none (by omega), List.getElem?_eq_none (by omega)]
            have hset := hR.setRow hk hL hrw ha (by rw [hkt]; exact hg) hbx hC0 (cs.toList.take (n * ie.size) ++ ns ++ cs.toList.drop (n * ie.size + ns.length)).toArray (k.es.take n ++ news)
              (by simp only [List.size_toArray, List.length_append, List.length_drop, Array.length_toList, hcsl]; rw [hs] at hfit ⊢; omega) hcs (by rw [hes]; omega) (by rw [hks]; exact hle) (by
                intro i e' he' c v hv
                rw [htk, hks]
                obtain ⟨u, hu', h2, h3⟩ := rd_flat hle hvv h11 i e' he' c v hv
                refine ⟨u, ?_, h2, h3⟩
                rw [List.getElem?_toArray, List.getElem?_append_left (List.getElem?_eq_some_iff.1 hu').1]
                exact hu')
            have ht := hset.rename (M := M) (upd_eq _ _ _) hL h0
            have e1 : upd (del (upd σ b { k with es := k.es.take n ++ news }) b) M { k with es := k.es.take n ++ news } = upd (del σ b) M ⟨e, sz, k.es.take n ++ news, true⟩ := by
              have hblk : ({ k with es := k.es.take n ++ news } : Blk) = ⟨e, sz, k.es.take n ++ news, true⟩ := by
                show Blk.mk k.ty k.sz _ k.rw = _
                rw [hkt, hks, hrw]
              rw [hblk]
              congr 1
              funext c
              by_cases hc : c = b
              · subst hc; simp [del_eq]
              · rw [del_ne _ _ _ hc, del_ne _ _ _ hc, upd_ne _ _ _ _ hc]
            rw [e1] at ht
            refine ⟨_, _, _, hrun, ?_, ht, Sub.upd h0 _, .inr ⟨rfl, fun b hb => upd_ne _ _ _ _ hb⟩⟩
            simp only [VRel]
            exact ⟨_, _, rfl, by omega, fun k hk => (by cases hk), .inr ⟨L, upd_eq _ _ _, hLs, fun _ => ⟨by rw [ha]; simp [Addr.add], hC⟩⟩⟩
        · have hpos : 0 < n2 := by omega
          obtain ⟨a2, rfl, hcells⟩ := hna hpos
          have hR' := hR.del b
          have hoc' : ∀ a1, y1 = some a1 → ∀ j u, os[j]? = some u → w.cell? (a1.add j) = some u := fun a1 hy j u hu => by
            rcases Nat.eq_zero_or_pos n with h | h
            · have : os = [] := List.eq_nil_of_length_eq_zero (by rw [hosl, h]; simp)
              rw [this] at hu; simp at hu
            · obtain ⟨L', hL', _, hm2⟩ := hm1
              obtain ⟨hy1, _⟩ := hm2 (by omega)
              rw [hL] at hL'; cases hL'
              rw [hy1] at hy; cases hy
              rw [add_add]
              simpa using hoc j u hu
          cases y1 with
          | none =>
            have hm0 : m1 = 0 := by
              obtain ⟨_, _, _, hm2⟩ := hm1
              rcases Nat.eq_zero_or_pos m1 with h | h
              · exact h
              · obtain ⟨ha, _⟩ := hm2 h; cases ha
            subst hm0
            have hn0 : n = 0 := by omega
            subst hn0
            have hos0 : os = [] := List.eq_nil_of_length_eq_zero (by simpa using hosl)
            subst hos0
            have hrun := run_append_nil (P := P) w t ty e ie zv hu hi hzz a2 n2 m2 ns (by rw [hnsl, hs]) hcells hpos (by omega) (by have := hby; rw [Nat.zero_add] at this; omega)
            simp only [Nat.zero_add, List.nil_append] at hes hcl hvv h11 ⊢
            exact ⟨_, _, _, hrun, After.grown hR' hM hs0 hpos (grownCap_ge _ _ _ _) hzs hes hle hcl hvv h11 _ rfl⟩
          | some a1 =>
            have hrun := run_append_grow (P := P) w t ty e ie zv hu hi hzz a1 n m1 os (by rw [hosl, hs]) (hoc' a1 rfl) a2 n2 m2 ns (by rw [hnsl, hs]) hcells (by omega) (by omega) (growslice_fits (by omega) hby)
            exact ⟨_, _, _, hrun, After.grown hR' hM hs0 (by omega) (grownCap_ge _ _ _ _) hzs hes hle hcl hvv h11 _ (by simp)⟩

end
end Go.Proofs.Ytgaiemhbllbaiaa
namespace Go.Proofs.Ytgaiemhbllbaiaa
open Go Go.RowKit

section
variable {P : Program}
theorem run_appendz_room (w : World) (t u ty e : TypeId) (i : TypeInfo) (z : Value) (kz : IntKind) (ht : P.underlying t = some (.slice e)) (hu : P.underlying u = some (.int kz)) (hi : P.info? e = some i) (hz : i.zero = some z)
    (g sLen sCap : Nat) (cur : Array Value) (hg : w.heap[g]? = some (.cells cur e (0, 0))) (k : IntKind) (n : Nat) (ns : List Value) (hns : (Builtin.zeroCells z.cells n).toList = ns) (hn : 0 < n) (hs : 0 < i.size) (hb : (n : Int) * i.bytes ≤ 281474976710656 ∧ n ≤ 4611686018427387904) (h1 : ∀ u ∈ ns, u.oneCell' = true)
    (hroom : sLen + n ≤ sCap) (hfit : sLen * i.size + ns.length ≤ cur.size) :
    (Builtin.append_ #[t, u] ty #[.slice (some ⟨g, 0, none⟩) sLen sCap, .int k (n : Int)]).run P w =
      .ok (.slice (some ⟨g, 0, none⟩) (sLen + n) sCap) (w.setRow g (cur.toList.take (sLen * i.size) ++ ns ++ cur.toList.drop (sLen * i.size + ns.length)).toArray) := by
  have hst := run_storeCells_at P g (sLen * i.size) e ns 0 cur w hg (by simpa using hfit) h1
  simp only [Nat.add_zero] at hst
  have hw : IntKind.i64.wrap (n : Int) = (n : Int) := by rw [IntKind.wrap_i64]; omega
  have hneg : ¬ ((n : Int) < 0) := by omega
  have hbig : ¬ (281474976710656 < (n : Int) * i.bytes) := by omega
  have h0 : ¬ (n * i.size = 0) := Nat.mul_ne_zero (by omega) (by omega)
  have h0' : ¬ (n = 0 ∨ i.size = 0) := by omega
  have h0m : ¬ (n * i.size = 0) := Nat.mul_ne_zero (by omega) (by omega)
  simp [Builtin.append_, run_underlying ht, run_underlying hu, sizeOf, typeInfo, zeroValue, hi, hz, asInt, asIntOf, hw, hneg, hbig, h0', h0m, hroom, Addr.add_lit, hns, hst]
theorem run_appendz_grow (w : World) (t u ty e : TypeId) (i : TypeInfo) (z : Value) (kz : IntKind) (ht : P.underlying t = some (.slice e)) (hu : P.underlying u = some (.int kz)) (hi : P.info? e = some i) (hz : i.zero = some z)
    (b : Addr) (sLen sCap : Nat) (olds : List Value) (hlo : olds.length = sLen * i.size) (holds : ∀ (j : Nat) (v : Value), olds[j]? = some v → w.cell? (b.add j) = some v)
    (k : IntKind) (n : Nat) (ns : List Value) (hns : (Builtin.zeroCells z.cells n).toList = ns) (hn : 0 < n) (hs : 0 < i.size) (hb : (n : Int) * i.bytes ≤ 281474976710656 ∧ n ≤ 4611686018427387904)
    (hg : sCap < sLen + n) (h63 : ((sLen + n : Nat) : Int) ≤ 9223372036854775807) (hfit : Builtin.nextslicecap (sLen + n) sCap * i.bytes ≤ 281474976710656) :
    (Builtin.append_ #[t, u] ty #[.slice (some b) sLen sCap, .int k (n : Int)]).run P w =
      .ok (.slice (some ⟨w.heap.size, 0, none⟩) (sLen + n) (grownCap w (sLen + n) sCap e))
        (w.drew.alloc (.cells (olds.toArray ++ ns.toArray ++ Builtin.zeroCells z.cells (grownCap w (sLen + n) sCap e - (sLen + n))) e)) := by
  have hn' : ¬ (sLen + n ≤ sCap) := by omega
  have h63' : ¬ (9223372036854775807 < ((sLen : Int) + (n : Int))) := by omega
  have h48' : ¬ (281474976710656 < Builtin.nextslicecap (sLen + n) sCap * i.bytes) := by omega
  have hfo := run_firstCells_some (P := P) w.drew i.size sLen b sLen sCap olds hlo (by simpa using holds)
  have hw : IntKind.i64.wrap (n : Int) = (n : Int) := by rw [IntKind.wrap_i64]; omega
  have hneg : ¬ ((n : Int) < 0) := by omega
  have hbig : ¬ (281474976710656 < (n : Int) * i.bytes) := by omega
  have h0' : ¬ (n = 0 ∨ i.size = 0) := by omega
  have h0m : ¬ (n * i.size = 0) := Nat.mul_ne_zero (by omega) (by omega)
  have hmx : ¬ (IntKind.i64.max < (sLen : Int) + (n : Int)) := by show ¬ (9223372036854775807 < _); omega
  simp [Builtin.append_, run_underlying ht, run_underlying hu, sizeOf, typeInfo, zeroValue, hi, hz, asInt, asIntOf, hw, hneg, hbig, h0', h0m, hn', h63', h48', hmx, Question.forced, hfo, newRow, grownCap]
  subst hns
  congr 2
  apply Array.ext'
  simp [List.append_assoc]
theorem run_appendz_nil (w : World) (t u ty e : TypeId) (i : TypeInfo) (z : Value) (kz : IntKind) (ht : P.underlying t = some (.slice e)) (hu : P.underlying u = some (.int kz)) (hi : P.info? e = some i) (hz : i.zero = some z)
    (k : IntKind) (n : Nat) (ns : List Value) (hns : (Builtin.zeroCells z.cells n).toList = ns) (hn : 0 < n) (hs : 0 < i.size) (hb : (n : Int) * i.bytes ≤ 281474976710656 ∧ n ≤ 4611686018427387904)
    (h63 : (n : Int) ≤ 9223372036854775807) (hfit : Builtin.nextslicecap n 0 * i.bytes ≤ 281474976710656) :
    (Builtin.append_ #[t, u] ty #[.slice none 0 0, .int k (n : Int)]).run P w =
      .ok (.slice (some ⟨w.heap.size, 0, none⟩) n (grownCap w n 0 e))
        (w.drew.alloc (.cells (ns.toArray ++ Builtin.zeroCells z.cells (grownCap w n 0 e - n)) e)) := by
  have hn' : ¬ (n ≤ 0) := by omega
  have h63' : ¬ (9223372036854775807 < (n : Int)) := by omega
  have h48' : ¬ (281474976710656 < Builtin.nextslicecap n 0 * i.bytes) := by omega
  have hw : IntKind.i64.wrap (n : Int) = (n : Int) := by rw [IntKind.wrap_i64]; omega
  have hneg : ¬ ((n : Int) < 0) := by omega
  have hbig : ¬ (281474976710656 < (n : Int) * i.bytes) := by omega
  have h0' : ¬ (n = 0 ∨ i.size = 0) := by omega
  have h0m : ¬ (n * i.size = 0) := Nat.mul_ne_zero (by omega) (by omega)
  have h00 : ¬ n = 0 := by omega
  have hmx : ¬ (IntKind.i64.max < (n : Int)) := by show ¬ (9223372036854775807 < _); omega
  simp [Builtin.append_, Builtin.firstCells, loadCells, loadCellsFrom, run_underlying ht, run_underlying hu, sizeOf, typeInfo, zeroValue, hi, hz, asInt, asIntOf, hw, hneg, hbig, h0', h0m, h00, hn', h63', h48', hmx, Question.forced, newRow, grownCap]
  subst hns
  rfl
end
section
variable {P : Program} {B : Nat} {w0 : World} {X : Nat → Prop} {μ : Mu} {σ : Sto} {w : World}
def fAppZ (e : Option TypeId) (s : Option Nat) (z : Option (List AV)) (by_ : Nat) (x y : AV) (σ : Sto) (M : Nat) : Option Out :=
  match e with
  | some e => match s with
    | some s => match z with
      | some z => match x with
        | .sl b o n none sz => match y with
          | .v (.int _ q) => if 0 < q ∧ 0 < s ∧ z.length = s ∧ (n + q.toNat) * by_ ≤ 140737488355328 ∧ n + q.toNat ≤ 4611686018427387904 then
              match σ b with
              | some k => if o = 0 ∧ k.rw = true ∧ sz = s ∧ k.sz = s ∧ k.ty = e ∧ n ≤ k.es.length then some (.sl M 0 (n + q.toNat) none s, upd (del σ b) M ⟨e, s, k.es.take n ++ List.replicate q.toNat z, true⟩, M + 1) else none
              | none => none
            else none
          | _ => none
        | .sl _ _ 0 (some 0) _ => match y with
          | .v (.int _ q) => if 0 < q ∧ 0 < s ∧ z.length = s ∧ q.toNat * by_ ≤ 140737488355328 ∧ q.toNat ≤ 4611686018427387904 then some (.sl M 0 q.toNat none s, upd σ M ⟨e, s, List.replicate q.toNat z, true⟩, M + 1) else none
          | _ => none
        | _ => none
      | none => none
    | none => none
  | none => none
theorem zc_list (z : Array Value) : ∀ n : Nat, (Builtin.zeroCells z n).toList = (List.replicate n z.toList).flatten := by
  intro n
  simp only [Builtin.zeroCells, Array.toList_map, Array.toList_range]
  induction n with
  | zero => simp
  | succ n ih =>
    rw [Nat.add_mul, Nat.one_mul, List.range_add, List.map_append, ih, List.replicate_succ', List.flatten_append]
    congr 1
    simp only [List.map_map, List.flatten_cons, List.flatten_nil, List.append_nil]
    apply List.ext_getElem
    · simp
    · intro i h1 h2
      simp at h1
      have : (n * z.size + i) % z.size = i := by rw [Nat.mul_comm, Nat.mul_add_mod, Nat.mod_eq_of_lt h1]
      simp [this, h1]
theorem rel_rep {μ : Mu} {l : List AV} {cs : List Value} (h : VRels μ l cs) : ∀ n : Nat, VRels μ (List.replicate n l).flatten (List.replicate n cs).flatten
  | 0 => by simp [VRels]
  | n + 1 => by
    simp only [List.replicate_succ, List.flatten_cons]
    exact h.append (rel_rep h n)
theorem fAppZ_ok {t u ty : TypeId} {kz : IntKind} {M : Nat} {x y : AV} {c d : Value} {o : Out} (hR : Rel B w0 X μ σ w) (hM : μ M = none) (hx : VRel μ x c) (hy : VRel μ y d) (hut : P.underlying u = some (.int kz))
    (hz1 : ∀ e, elO P t = some e → zrOk P e = true)
    (h : fAppZ (elO P t) ((elO P t).bind (szO P)) ((elO P t).bind (zrO P)) (((elO P t).map (byO P)).getD 0) x y σ M = some o) :
    ∃ u' w' μ', (Builtin.append_ #[t, u] ty #[c, d]).run P w = .ok u' w' ∧ After B w0 X μ M o u' w' μ' := by
  unfold fAppZ at h
  split at h <;> try (cases h; done)
  rename_i e he
  have hz1' := hz1 e he
  rw [he] at h
  simp only [Option.bind_some, Option.map_some, Option.getD_some] at h
  split at h <;> try (cases h; done)
  rename_i s hs
  split at h <;> try (cases h; done)
  rename_i z hz
  split at h <;> try (cases h; done)
  rotate_left
  · -- nothing is there yet
    split at h <;> try (cases h; done)
    rename_i kn q
    split at h <;> try (cases h; done)
    rename_i hcnd
    obtain ⟨hq0, hs0, hzl, hby, hbig⟩ := hcnd
    cases h
    obtain ⟨n2, rfl⟩ := Int.eq_ofNat_of_zero_le (show 0 ≤ q by omega)
    simp only [VRel] at hy
    subst hy
    have e0 : (Int.ofNat n2).toNat = n2 := rfl
    simp only [Int.toNat_natCast] at hby hbig ⊢
    have hpos : 0 < n2 := by omega
    unfold elO at he
    split at he <;> try (cases he; done)
    rename_i hu
    cases he
    unfold byO at hby
    unfold zrO at hz
    unfold szO at hs
    unfold zrOk at hz1'
    cases hi : P.info? e with
    | none => simp [hi] at hs
    | some ie =>
    cases hzz : ie.zero with
    | none => simp [hi, hzz] at hz
    | some zv =>
    simp only [hi, hzz, Option.bind_some, Option.map_some, Option.some.injEq, Option.getD_some] at hz hs hby hz1'
    have hzs : zv.cells.size = s := by rw [← hzl, ← hz]; simp
    have hzc : (Builtin.zeroCells zv.cells n2).toList = (List.replicate n2 zv.cells.toList).flatten := zc_list _ _
    have hbz : ((n2 : Nat) : Int) * ie.bytes ≤ 281474976710656 ∧ n2 ≤ 4611686018427387904 := by
      have h2 : ((n2 * ie.bytes : Nat) : Int) ≤ 281474976710656 := by omega
      rw [Int.natCast_mul] at h2
      exact ⟨h2, by omega⟩
    generalize hnw : List.replicate n2 z = news at *
    generalize hng : (List.replicate n2 zv.cells.toList).flatten = ns at *
    have hlen : news.length = n2 := by rw [← hnw]; simp
    have hnsl : ns.length = n2 * s := by rw [← hng]; simp [hzs]
    have hne : ∀ e ∈ news, e.length = s := fun e he => by
      rw [← hnw] at he
      rw [(List.mem_replicate.1 he).2, hzl]
    have hnv : VRels μ news.flatten ns := by
      rw [← hnw, ← hng, ← hz]
      exact rel_rep (ofVs_rel μ _) n2
    have hn1 : ∀ u ∈ ns, u.oneCell' = true := fun u hu' => by
      rw [← hng] at hu'
      obtain ⟨l, hl, hul⟩ := List.mem_flatten.1 hu'
      rw [(List.mem_replicate.1 hl).2] at hul
      exact List.all_eq_true.1 hz1' u hul
    simp only [VRel] at hx
    obtain ⟨y1, m1, rfl, _, hm1, _⟩ := hx
    have := hm1 0 rfl
    subst this
    cases y1 with
    | none =>
      have hrun := run_appendz_nil (P := P) w t u ty e ie zv kz hu hut hi hzz kn n2 ns hzc hpos (by rw [hs]; omega) hbz (by omega) (growslice_fits (by omega) (by have := hby; simpa using this))
      exact ⟨_, _, _, hrun, After.grown hR hM hs0 hpos (grownCap_ge _ _ _ _) hzs hlen hne hnsl hnv hn1 _ rfl⟩
    | some a1 =>
      have hrun := run_appendz_grow (P := P) w t u ty e ie zv kz hu hut hi hzz a1 0 0 [] (by simp) (by simp) kn n2 ns hzc hpos (by rw [hs]; omega) hbz (by omega) (by omega) (growslice_fits (by omega) (by simpa using hby))
      simp only [Nat.zero_add] at hrun
      exact ⟨_, _, _, hrun, After.grown hR hM hs0 hpos (grownCap_ge _ _ _ _) hzs hlen hne hnsl hnv hn1 _ (by simp)⟩
  rename_i b o' n sz
  split at h <;> try (cases h; done)
  rename_i kn q
  split at h <;> try (cases h; done)
  rename_i hcnd
  obtain ⟨hq0, hs0, hzl, hby, hbig⟩ := hcnd
  split at h <;> try (cases h; done)
  rename_i k hk
  split at h <;> try (cases h; done)
  rename_i hkc
  obtain ⟨rfl, hrw, rfl, hks, hkt, hkn⟩ := hkc
  cases h
  obtain ⟨n2, rfl⟩ := Int.eq_ofNat_of_zero_le (show 0 ≤ q by omega)
  simp only [VRel] at hy
  subst hy
  have e0 : (Int.ofNat n2).toNat = n2 := rfl
  simp only [Int.toNat_natCast] at hby hbig ⊢
  have hpos : 0 < n2 := by omega
  unfold elO at he
  split at he <;> try (cases he; done)
  rename_i hu
  cases he
  unfold byO at hby
  unfold zrO at hz
  unfold szO at hs
  unfold zrOk at hz1'
  cases hi : P.info? e with
  | none => simp [hi] at hs
  | some ie =>
  cases hzz : ie.zero with
  | none => simp [hi, hzz] at hz
  | some zv =>
  simp only [hi, hzz, Option.bind_some, Option.map_some, Option.some.injEq, Option.getD_some] at hz hs hby hz1'
  have hzs : zv.cells.size = sz := by rw [← hzl, ← hz]; simp
  have hzc : (Builtin.zeroCells zv.cells n2).toList = (List.replicate n2 zv.cells.toList).flatten := zc_list _ _
  have hbz : ((n2 : Nat) : Int) * ie.bytes ≤ 281474976710656 ∧ n2 ≤ 4611686018427387904 := by
    have h1 : n2 * ie.bytes ≤ (n + n2) * ie.bytes := Nat.mul_le_mul_right _ (by omega)
    have h2 : ((n2 * ie.bytes : Nat) : Int) ≤ 281474976710656 := by omega
    rw [Int.natCast_mul] at h2
    exact ⟨h2, by omega⟩
  have h0 := hM
  generalize hnw : List.replicate n2 z = news at *
  generalize hng : (List.replicate n2 zv.cells.toList).flatten = ns at *
  have hlen : news.length = n2 := by rw [← hnw]; simp
  have hnsl : ns.length = n2 * sz := by rw [← hng]; simp [hzs]
  have hne : ∀ e ∈ news, e.length = sz := fun e he => by
    rw [← hnw] at he
    rw [(List.mem_replicate.1 he).2, hzl]
  have hnv : VRels μ news.flatten ns := by
    rw [← hnw, ← hng, ← hz]
    exact rel_rep (ofVs_rel μ _) n2
  have hn1 : ∀ u ∈ ns, u.oneCell' = true := fun u hu' => by
    rw [← hng] at hu'
    obtain ⟨l, hl, hul⟩ := List.mem_flatten.1 hu'
    rw [(List.mem_replicate.1 hl).2] at hul
    exact List.all_eq_true.1 hz1' u hul
  obtain ⟨L, hL, hB⟩ := hR.blk b k hk
  have hx' := hx
  simp only [VRel] at hx
  obtain ⟨y1, m1, rfl, hnm1, _, hm1⟩ := hx
  have hm1 := hm1.resolve_left (by simp)
  have hbM : b ≠ M := fun e => by subst e; rw [h0] at hL; cases hL
  obtain ⟨os, hosl, hoc, hov, ho1⟩ := hB.cells 0 n (by omega)
  simp only [Nat.zero_mul, List.drop_zero, add_add, Nat.zero_add] at hoc hov
  rw [hks] at hosl
  have hol : (k.es.take n).length = n := by simp; omega
  have hes : (k.es.take n ++ news).length = n + n2 := by simp [hlen]; omega
  have hle : ∀ e ∈ k.es.take n ++ news, e.length = sz := fun e he => by
    rcases List.mem_append.1 he with he | he
    · rw [← hks]; exact hB.len e (List.mem_of_mem_take he)
    · exact hne e he
  have hvv : VRels μ (k.es.take n ++ news).flatten (os ++ ns) := by rw [List.flatten_append]; exact hov.append hnv
  have h11 : ∀ u ∈ os ++ ns, u.oneCell' = true := fun u hu => by
    rcases List.mem_append.1 hu with hu | hu
    · exact ho1 u hu
    · exact hn1 u hu
  have hcl : (os ++ ns).length = (n + n2) * sz := by rw [List.length_append, hosl, hnsl, Nat.add_mul]
  by_cases hroom : n + n2 ≤ m1
  · -- in place
    · skip
      obtain ⟨L', hL', hLs, hm1⟩ := hm1
      obtain ⟨hy1, hC⟩ := hm1 (by omega)
      rw [hL] at hL'; cases hL'
      rcases hB.own hrw with ⟨_, hC0⟩ | ⟨g, cs, ha, hbx, hg, hcs, hen, hC0⟩
      · omega
      have hy1' : y1 = some ⟨g, 0, none⟩ := by rw [hy1, ha]; simp [Addr.add]
      subst hy1'
      rw [hkt] at hg
      have hfit : n * ie.size + ns.length ≤ cs.size := by
        rw [hnsl, hcs, hks, hs, ← Nat.add_mul]
        exact Nat.mul_le_mul_right _ (by omega)
      have hrun := run_appendz_room (P := P) w t u ty e ie zv kz hu hut hi hzz g n m1 cs hg kn n2 ns hzc hpos (by rw [hs]; omega) hbz hn1 hroom hfit
      have hcsl : (cs.toList.take (n * ie.size)).length = n * sz := by rw [List.length_take, Array.length_toList, hs]; rw [hs] at hfit; omega
      have htk : cs.toList.take (n * ie.size) = os := by
        apply List.ext_getElem?
        intro j
        rcases Nat.lt_or_ge j (n * sz) with hj | hj
        · have hjo : j < os.length := by omega
          have := hoc j os[j] (List.getElem?_eq_getElem hjo)
          rw [ha, add_row, cell_of_row _ _ _ _ _ _ hg] at this
          rw [List.getElem?_take_of_lt (by rw [hs]; exact hj), List.getElem?_eq_getElem hjo]
          simpa using this
        · rw [List.getElem?_eq_none (by omega), List.getElem?_eq_none (by omega)]
      have hset := hR.setRow hk hL hrw ha (by rw [hkt]; exact hg) hbx hC0 (cs.toList.take (n * ie.size) ++ ns ++ cs.toList.drop (n * ie.size + ns.length)).toArray (k.es.take n ++ news)
        (by simp only [List.size_toArray, List.length_append, List.length_drop, Array.length_toList, hcsl]; rw [hs] at hfit ⊢; omega) hcs (by rw [hes]; omega) (by rw [hks]; exact hle) (by
          intro i e' he' c v hv
          rw [htk, hks]
          obtain ⟨u, hu', h2, h3⟩ := rd_flat hle hvv h11 i e' he' c v hv
          refine ⟨u, ?_, h2, h3⟩
          rw [List.getElem?_toArray, List.getElem?_append_left (List.getElem?_eq_some_iff.1 hu').1]
          exact hu')
      have ht := hset.rename (M := M) (upd_eq _ _ _) hL h0
      have e1 : upd (del (upd σ b { k with es := k.es.take n ++ news }) b) M { k with es := k.es.take n ++ news } = upd (del σ b) M ⟨e, sz, k.es.take n ++ news, true⟩ := by
        have hblk : ({ k with es := k.es.take n ++ news } : Blk) = ⟨e, sz, k.es.take n ++ news, true⟩ := by
          show Blk.mk k.ty k.sz _ k.rw = _
          rw [hkt, hks, hrw]
        rw [hblk]
        congr 1
        funext c
        by_cases hc : c = b
        · subst hc; simp [del_eq]
        · rw [del_ne _ _ _ hc, del_ne _ _ _ hc, upd_ne _ _ _ _ hc]
      rw [e1] at ht
      refine ⟨_, _, _, hrun, ?_, ht, Sub.upd h0 _, .inr ⟨rfl, fun b hb => upd_ne _ _ _ _ hb⟩⟩
      simp only [VRel]
      exact ⟨_, _, rfl, by omega, fun k hk => (by cases hk), .inr ⟨L, upd_eq _ _ _, hLs, fun _ => ⟨by rw [ha]; simp [Addr.add], hC⟩⟩⟩
  · have hR' := hR.del b
    have hoc' : ∀ a1, y1 = some a1 → ∀ j u, os[j]? = some u → w.cell? (a1.add j) = some u := fun a1 hy j u hu => by
      rcases Nat.eq_zero_or_pos n with h | h
      · have : os = [] := List.eq_nil_of_length_eq_zero (by rw [hosl, h]; simp)
        rw [this] at hu; simp at hu
      · obtain ⟨L', hL', _, hm2⟩ := hm1
        obtain ⟨hy1, _⟩ := hm2 (by omega)
        rw [hL] at hL'; cases hL'
        rw [hy1] at hy; cases hy
        rw [add_add]
        simpa using hoc j u hu
    cases y1 with
    | none =>
      have hm0 : m1 = 0 := by
        obtain ⟨_, _, _, hm2⟩ := hm1
        rcases Nat.eq_zero_or_pos m1 with h | h
        · exact h
        · obtain ⟨ha, _⟩ := hm2 h; cases ha
      subst hm0
      have hn0 : n = 0 := by omega
      subst hn0
      have hos0 : os = [] := List.eq_nil_of_length_eq_zero (by simpa using hosl)
      subst hos0
      have hrun := run_appendz_nil (P := P) w t u ty e ie zv kz hu hut hi hzz kn n2 ns hzc hpos (by rw [hs]; omega) hbz (by omega) (growslice_fits (by omega) (by have := hby; rwa [Nat.zero_add] at this))
      simp only [Nat.zero_add, List.nil_append] at hes hcl hvv h11 ⊢
      exact ⟨_, _, _, hrun, After.grown hR' hM hs0 hpos (grownCap_ge _ _ _ _) hzs hes hle hcl hvv h11 _ rfl⟩
    | some a1 =>
      have hrun := run_appendz_grow (P := P) w t u ty e ie zv kz hu hut hi hzz a1 n m1 os (by rw [hosl, hs]) (hoc' a1 rfl) kn n2 ns hzc hpos (by rw [hs]; omega) hbz (by omega) (by omega) (growslice_fits (by omega) hby)
      exact ⟨_, _, _, hrun, After.grown hR' hM hs0 (by omega) (grownCap_ge _ _ _ _) hzs hes hle hcl hvv h11 _ (by simp)⟩

end
end Go.Proofs.Ytgaiemhbllbaiaa
namespace Go.Proofs.Ytgaiemhbllbaiaa
open Go Go.RowKit

/-- A slice type's element type, its cells, its bytes. -/
def elX (P : Program) (t : TypeId) : Option (TypeId × Nat × Nat) :=
  match elO P t with
  | some e => match szO P e with
    | some s => if zrOk P e = true ∧ (zrO P e).map (·.length) = some s then some (e, s, byO P e) else none
    | none => none
  | none => none
def zrX (P : Program) (t : TypeId) : Option (List AV) := if zrOk P t = true then zrO P t else none
/-- Is it a slice of bytes; is it a string. -/
def u8O (P : Program) (t : TypeId) : Bool := match P.underlying t with | some (.slice e) => (match P.underlying e with | some (.int .u8) => true | _ => false) | _ => false
def stO (P : Program) (t : TypeId) : Bool := match P.underlying t with | some .string => true | _ => false
def knO (P : Program) (t : TypeId) : Bool := (P.underlying t).isSome
def u8s : List (List AV) → Option (List Int)
  | [] => some []
  | [.v (.int .u8 n)] :: r => match u8s r with
    | some l => some (n :: l)
    | none => none
  | _ => none
def strOf (ns : List Int) : ByteArray := ns.foldl (fun r n => r.push (UInt8.ofNat n.toNat)) ByteArray.empty

def keepS (σ : Sto) (M : Nat) : Option AV → Option Out
  | some v => some (v, σ, M)
  | none => none

def fConvX (P : Program) (s t : TypeId) (x : AV) (σ : Sto) : Option AV :=
  match x with
  | .sl b o n cap sz => if u8O P s = true ∧ stO P t = true then match elems 1 (.sl b o n cap sz) σ with
      | some es => match u8s es with
        | some l => some (.v (.string (strOf l)))
        | none => none
      | none => none
    else none
  | x => if knO P s = true then fConv (inO P t) x else none

def fBinX (P : Program) (op : BinOp) (t : TypeId) (x y : AV) (yo : Operand) : Option AV :=
  match x with
  | .sl _ _ n _ _ => match yo with
    | .const (.slice none 0 0) => match elO P t with
      | some _ => match op with
        | .eql => some (if n = 0 then .bl else .v (.bool false))
        | .neq => some (if n = 0 then .bl else .v (.bool true))
        | _ => none
      | none => none
    | _ => none
  | .v (.bool a) => if kdT P t = some 0 then fBin op none (.v (.bool a)) y else none
  | x => fBin op (kdO P t) x y

def fPick (c a b : AV) : Option AV :=
  match c with
  | .v (.bool t) => some (if t then a else b)
  | _ => none

def fNil (x : AV) : Option AV :=
  match x with
  | .ptr b i c => some (.ptr b i c)
  | _ => none

def fSliceX (es : Option (Option Nat)) (x : AV) (lo hi mx : Option AV) : Option AV :=
  match es with
  | some none => match x with
    | .v (.string s) => fSlice none (.v (.string s)) lo hi mx
    | _ => none
  | some (some z) => match x with
    | .sl b o n cap sz => fSlice (some z) (.sl b o n cap sz) lo hi mx
    | _ => none
  | none => none

def fLenX (es : Option (Option Nat)) (x : AV) : Option AV :=
  match es with
  | some none => match x with
    | .v (.string s) => some (.v (.int .i64 s.size))
    | _ => none
  | some (some _) => match x with
    | .sl _ _ n _ _ => some (.v (.int .i64 n))
    | _ => none
  | none => none

theorem inO_ok {P : Program} {t : TypeId} {k : IntKind} (h : inO P t = some k) : P.underlying t = some (.int k) := by
  unfold inO at h
  split at h <;> simp_all

def fCall (P : Program) (b : Builtin) (ts : List TypeId) (xs : List AV) (σ : Sto) (M : Nat) : Option Out :=
  match b, ts, xs with
  | .len, [t], [x] => keepS σ M (fLenX (slO P t) x)
  | .cap, [t], [x] => match elO P t with
    | some _ => keepS σ M (fCap x)
    | none => none
  | .append, [t, t'], [x, y] => match elX P t with
    | some (e, s, b) => match y with
      | .sl b2 o2 n2 c2 z2 => if t = t' then fApp (some e) (some s) b x (.sl b2 o2 n2 c2 z2) σ M else none
      | .v q => match inO P t' with
        | some _ => fAppZ (some e) (some s) (zrX P e) b x (.v q) σ M
        | none => none
      | _ => none
    | none => none
  | .min, _, [x, y] => keepS σ M (fMin x y)
  | .max, _, [x, y] => keepS σ M (fMax x y)
  | _, _, _ => none

def fOp (P : Program) (τ : Tm) (σ : Sto) (M : Nat) : Op → Option Out
  | .move x => some (ev τ x, σ, M)
  | .assign x => some (ev τ x, σ, M)
  | .pick c a b => keepS σ M (fPick (ev τ c) (ev τ a) (ev τ b))
  | .alloc t => fNew t (zrX P t) σ M
  | .box t x => fNew t (cellsA (ev τ x)) σ M
  | .build t ps => keepS σ M (fBuild (zrO P t) (plO P t) (ps.toList.map fun p => (p.1, ev τ p.2)))
  | .buildSlice t n ps => match elX P t with
    | some (e, s, _) => fBuildS (some e) (some s) n (ps.toList.map fun p => (p.1, ev τ p.2)) σ M
    | none => none
  | .load t x => keepS σ M (fLoad (aggO P t) (szO P t) (ev τ x) σ)
  | .store t x y => match fStore (szO P t) (ev τ x) (ev τ y) σ with
    | some σ' => some (.v undef, σ', M)
    | none => none
  | .nilCheck x => keepS σ M (fNil (ev τ x))
  | .binOp op t x y _ => keepS σ M (fBinX P op t (ev τ x) (ev τ y) y)
  | .unOp op _ x => keepS σ M (fUn op (ev τ x))
  | .convert s t x => keepS σ M (fConvX P s t (ev τ x) σ)
  | .makeFunc fn first cap => match fn with
    | .func f => match first.toList with
      | [] => some (.fn f (cap.toList.map (ev τ)), σ, M)
      | _ :: _ => none
    | _ => none
  | .makeSlice t l c => match elX P t with
    | some (e, _, b) => fMake (some e) (zrO P e) b (ev τ l) (ev τ c) σ M
    | none => none
  | .slice t x lo hi mx => keepS σ M (fSliceX (slO P t) (ev τ x) (lo.map (ev τ)) (hi.map (ev τ)) (mx.map (ev τ)))
  | .fieldAddr t x f => keepS σ M (fFieldA (fdO P t f) (ev τ x))
  | .indexAddr t x i => match elX P t with
    | some (_, s, _) => keepS σ M (fIdxA (some s) (ev τ x) (ev τ i))
    | none => none
  | .index t x i => match stO P t with
    | true => keepS σ M (fIdx (ev τ x) (ev τ i))
    | false => none
  | .extract x i => keepS σ M (fExt (ev τ x) i)
  | .call c => match c.callee with
    | .builtin b => fCall P b c.argTypes.toList (c.args.toList.map (ev τ)) σ M
    | _ => none
  | _ => none

section
variable {P : Program} {B : Nat} {w0 : World} {X : Nat → Prop} {μ : Mu} {σ : Sto} {w : World}

theorem elX_ok {t e : TypeId} {s b : Nat} (h : elX P t = some (e, s, b)) : elO P t = some e ∧ szO P e = some s ∧ zrOk P e = true ∧ (zrO P e).map (·.length) = some s ∧ b = byO P e := by
  unfold elX at h
  split at h <;> try (cases h; done)
  rename_i e' he
  split at h <;> try (cases h; done)
  rename_i s' hs
  split at h <;> try (cases h; done)
  rename_i hc
  cases h
  exact ⟨he, hs, hc.1, hc.2, rfl⟩

theorem keepS_ok {M : Nat} {o : Option AV} {out : Out} (h : keepS σ M o = some out) : ∃ v, o = some v ∧ out = (v, σ, M) := by
  unfold keepS at h
  split at h
  · cases h; exact ⟨_, rfl, rfl⟩
  · cases h

theorem evs_rel {τ : Tm} {a : Act} (h : TRel μ τ a.tmps) : ∀ l : List Operand, VRels μ (l.map (ev τ)) (l.map a.eval)
  | [] => by simp [VRels]
  | x :: l => by simp [VRels, ev_rel h x, evs_rel h l]
theorem evp_rel {τ : Tm} {a : Act} (h : TRel μ τ a.tmps) : ∀ l : List (Nat × Operand), PRel μ (l.map fun p => (p.1, ev τ p.2)) (l.map fun p => (p.1, a.eval p.2))
  | [] => by simp [PRel]
  | (i, x) :: l => by simp [PRel, ev_rel h x, evp_rel h l]
theorem evo_rel {τ : Tm} {a : Act} (h : TRel μ τ a.tmps) (x : Option Operand) : ORel μ (x.map (ev τ)) (x.map a.eval) := by
  cases x <;> simp [ORel, ev_rel h]

theorem u8s_ok : ∀ {es : List (List AV)} {l : List Int} {cs : List Value}, u8s es = some l → VRels μ es.flatten cs → cs = l.map (Value.int .u8) := by
  intro es
  induction es with
  | nil => intro l cs h hv; simp [u8s] at h; subst h; cases cs <;> simp [VRels] at hv ⊢
  | cons e es ih =>
    intro l cs h hv
    unfold u8s at h
    split at h <;> try (cases h; done)
    · rename_i heq
      cases heq
    · rename_i n r heq
      obtain ⟨rfl, rfl⟩ := List.cons.inj heq
      split at h <;> try (cases h; done)
      rename_i l' hl
      cases h
      cases cs with
      | nil => simp [VRels] at hv
      | cons c cs =>
        simp only [List.flatten_cons, List.singleton_append, VRels, VRel] at hv
        obtain ⟨rfl, hv⟩ := hv
        simp [ih hl hv]

theorem run_eq_nil {t e : TypeId} (hu : P.underlying t = some (.slice e)) (p : Option Addr) (n m d : Nat) (w : World) : ∃ q, (Op.equalIn (d + 1) t (.slice p n m) (.slice none 0 0)).run P w = .ok q w := by
  cases p <;> simp [Op.equalIn, run_underlying hu]

theorem run_eq_some {t e : TypeId} (hu : P.underlying t = some (.slice e)) (p : Addr) (n m d : Nat) (w : World) : (Op.equalIn (d + 1) t (.slice (some p) n m) (.slice none 0 0)).run P w = .ok false w := by
  simp [Op.equalIn, run_underlying hu]

theorem fBin_bool (op : BinOp) (kd : Option (List Nat)) (p : Bool) (y : AV) : fBin op kd (.v (.bool p)) y = fBin op none (.v (.bool p)) y := by
  cases y <;> try rfl
  rename_i z
  cases z <;> rfl

theorem fConvX_ok {s t : TypeId} {x r : AV} {c : Value} (hR : Rel B w0 X μ σ w) (hx : VRel μ x c) (h : fConvX P s t x σ = some r) : ∃ u, (convert s t c).run P w = .ok u w ∧ VRel μ r u := by
  unfold fConvX at h
  split at h
  · rename_i b o n cap sz
    split at h <;> try (cases h; done)
    rename_i hc
    obtain ⟨h8, hst⟩ := hc
    split at h <;> try (cases h; done)
    rename_i es hes
    split at h <;> try (cases h; done)
    rename_i l hl
    cases h
    obtain ⟨y, m, cs, rfl, _, hlen, hel, hcl, hv, _, ha⟩ := elems_ok hR hx hes
    have hcs := u8s_ok hl hv
    unfold u8O at h8
    split at h8 <;> try (cases h8; done)
    rename_i e hu
    split at h8 <;> try (cases h8; done)
    rename_i hue
    unfold stO at hst
    split at hst <;> try (cases hst; done)
    rename_i hut
    have hll : l.length = n := by
      have h1 : cs.length = n := by omega
      rw [hcs] at h1
      simpa using h1
    have hconv : (convert s t (.slice y n m)).run P w = (Conv.bytesToString (.slice y n m)).run P w := by
      cases y <;> simp [convert, run_underlying hu, run_underlying hut, run_underlying hue]
    refine ⟨.string (strOf l), ?_, by simp [VRel]⟩
    rw [hconv]
    rcases Nat.eq_zero_or_pos n with rfl | hpos
    · have : l = [] := List.eq_nil_of_length_eq_zero hll
      subst this
      cases y with
      | none => simp [Conv.bytesToString, strOf]
      | some a =>
        have := run_bytesToString (P := P) w a 0 m [] (by simp [loadCells, loadCellsFrom])
        simpa [strOf] using this
    · obtain ⟨a, rfl, hcell⟩ := ha hpos
      have hrl := run_loadCells_list (P := P) w a cs hcell
      have : cs.length = n := by omega
      rw [this] at hrl
      rw [hcs] at hrl
      exact run_bytesToString w a n m l hrl
  · split at h <;> try (cases h; done)
    rename_i hk
    exact fConv_ok hk hx h w

theorem fBinX_ok {op : BinOp} {t : TypeId} {τ : Tm} {a : Act} {x y : Operand} {r : AV} (hT : TRel μ τ a.tmps) (h : fBinX P op t (ev τ x) (ev τ y) y = some r) (w : World) :
    ∃ z, (do eqGuard op t x y (a.eval x) (a.eval y); binOp op t (a.eval x) (a.eval y) : Sem Value).run P w = .ok z w ∧ VRel μ r z := by
  have hx := ev_rel hT x
  have hy := ev_rel hT y
  unfold fBinX at h
  split at h
  · rename_i b o n cap sz heq
    split at h <;> try (cases h; done)
    split at h <;> try (cases h; done)
    rename_i e he
    rw [heq] at hx
    simp only [VRel] at hx
    obtain ⟨p, m, hp, hnm, hcap, hloc⟩ := hx
    have hsome : n ≠ 0 → ∃ a, p = some a := fun hn => by
      rcases hloc with hz | ⟨L, _, _, hL⟩
      · have := hcap 0 hz; omega
      · exact ⟨_, (hL (by omega)).1⟩
    unfold elO at he
    split at he <;> try (cases he; done)
    rename_i hu
    have hq : a.eval (.const (.slice none 0 0)) = .slice none 0 0 := rfl
    rw [hp, hq]
    have hg : ∀ op, (eqGuard op t x (.const (.slice none 0 0)) (.slice p n m) (.slice none 0 0)).run P w = .ok () w := fun op => by unfold eqGuard; split <;> rfl
    have hq : ∃ q, (Op.equalIn (9999 + 1) t (.slice p n m) (.slice none 0 0)).run P w = .ok q w ∧ (n ≠ 0 → q = false) := by
      by_cases hn : n = 0
      · obtain ⟨q, hq⟩ := run_eq_nil hu p n m 9999 w
        exact ⟨q, hq, fun h => (h hn).elim⟩
      · obtain ⟨a, rfl⟩ := hsome hn
        exact ⟨false, run_eq_some hu a n m 9999 w, fun _ => rfl⟩
    obtain ⟨q, hq, hqf⟩ := hq
    split at h <;> try (cases h; done)
    · cases h
      refine ⟨.bool q, ?_, ?_⟩
      · simp only [Sem.run_bind, hg, Result.andThen_ok]
        simp only [binOp]
        simp [Op.equal, Op.maxDepth, hq]
      · by_cases hn : n = 0
        · simp [hn, VRel]
        · simp [hn, VRel, hqf hn]
    · cases h
      refine ⟨.bool (!q), ?_, ?_⟩
      · simp only [Sem.run_bind, hg, Result.andThen_ok]
        simp only [binOp]
        simp [Op.equal, Op.maxDepth, hq]
      · by_cases hn : n = 0
        · simp [hn, VRel]
        · simp [hn, VRel, hqf hn]
  · rename_i p heq
    split at h <;> try (cases h; done)
    rename_i hk
    have hub : P.underlying t = some .bool := by
      unfold kdT at hk
      split at hk <;> simp_all
    rw [heq] at hx
    exact fBin_ok hx hy (fun _ _ _ _ => hub) (by rw [fBin_bool]; exact h) w
  · rename_i hns hnb
    refine fBin_ok hx hy (fun p q hp hq => ?_) h w
    exfalso
    have hxx := hx
    rw [hp] at hxx
    cases hxe : ev τ x with
    | v z =>
      rw [hxe] at hxx
      simp only [VRel] at hxx
      subst hxx
      exact hnb p hxe
    | any => rw [hxe] at h; simp [fBin] at h
    | bl => rw [hxe] at h; simp [fBin] at h
    | ptr => rw [hxe] at h; simp [fBin] at h
    | sl b o n c s => exact hns b o n c s hxe
    | agg l => rw [hxe] at hxx; simp [VRel] at hxx
    | tup l => rw [hxe] at h; simp [fBin] at h
    | fn => rw [hxe] at h; simp [fBin] at h

theorem fPick_ok {x y z r : AV} {c d e : Value} (hx : VRel μ x c) (hy : VRel μ y d) (hz : VRel μ z e) (h : fPick x y z = some r) (w : World) :
    ∃ u, (do pure (.value (if ← asBool c then d else e)) : Sem Next).run P w = .ok (.value u) w ∧ VRel μ r u := by
  unfold fPick at h
  split at h <;> try (cases h; done)
  rename_i t
  cases h
  simp only [VRel] at hx
  subst hx
  cases t
  · exact ⟨e, by simp [asBool], by simpa using hz⟩
  · exact ⟨d, by simp [asBool], by simpa using hy⟩

end
end Go.Proofs.Ytgaiemhbllbaiaa
namespace Go.Proofs.Ytgaiemhbllbaiaa
open Go Go.RowKit

section
variable {P : Program} {B : Nat} {w0 : World} {X : Nat → Prop} {μ : Mu} {σ : Sto} {w : World}

theorem fCall_ok {b : Builtin} {ts : List TypeId} {xs : List AV} {cs : List Value} {M : Nat} {out : Out} {ty : TypeId} (hR : Rel B w0 X μ σ w) (hM : μ M = none) (hx : VRels μ xs cs) (h : fCall P b ts xs σ M = some out) :
    ∃ u w' μ', (∀ consts, (builtin b ts.toArray ty consts cs.toArray).run P w = .ok (.value u) w') ∧ After B w0 X μ M out u w' μ' := by
  unfold fCall at h
  split at h <;> try (cases h; done)
  · rename_i t x
    obtain ⟨v, hv, rfl⟩ := keepS_ok h
    match cs, hx with
    | [c], hx =>
      simp only [VRels, and_true] at hx
      unfold fLenX at hv
      split at hv <;> try (cases hv; done)
      · rename_i hs
        split at hv <;> try (cases hv; done)
        rename_i s _
        obtain ⟨u, hu, hr⟩ := fLen_ok (P := P) (ty := ty) (r := v) (by rw [hs]; rfl) ⟨fun _ => hs, fun _ => ⟨s, rfl⟩⟩ hx (by unfold fLen; exact hv) w
        exact ⟨u, w, μ, fun _ => by simp [builtin, hu], After.same hR hr⟩
      · rename_i z hs
        split at hv <;> try (cases hv; done)
        obtain ⟨u, hu, hr⟩ := fLen_ok (P := P) (ty := ty) (r := v) (by rw [hs]; rfl) ⟨fun ⟨s, e⟩ => (by cases e), fun e => (by rw [hs] at e; cases e)⟩ hx (by unfold fLen; exact hv) w
        exact ⟨u, w, μ, fun _ => by simp [builtin, hu], After.same hR hr⟩
  · rename_i t x
    split at h <;> try (cases h; done)
    rename_i e he
    obtain ⟨v, hv, rfl⟩ := keepS_ok h
    match cs, hx with
    | [c], hx =>
      simp only [VRels, and_true] at hx
      unfold elO at he
      split at he <;> try (cases he; done)
      rename_i hu
      obtain ⟨u, hu', hr⟩ := fCap_ok (ty := ty) hu hx hv w
      exact ⟨u, w, μ, fun _ => by simp [builtin, hu'], After.same hR hr⟩
  · rename_i t t' x y
    split at h <;> try (cases h; done)
    rename_i e s b he
    obtain ⟨h1, h2, h3, h4, h5⟩ := elX_ok he
    split at h <;> try (cases h; done)
    · rename_i b2 o2 n2 c2 z2
      split at h <;> try (cases h; done)
      rename_i htt
      subst htt
      match cs, hx with
      | [c, d], hx =>
        simp only [VRels, and_true] at hx
        obtain ⟨u, w', μ', hu, ha⟩ := fApp_ok (P := P) (t := t) (ty := ty) hR hM hx.1 hx.2 (fun e' he' => by rw [h1] at he'; cases he'; rw [h4, h2]) ⟨_, _, _, _, _, rfl⟩ (o := out) (by rw [h1]; simpa [h2, h5] using h)
        exact ⟨u, w', μ', fun _ => by simp [builtin, hu], ha⟩
    · rename_i q
      split at h <;> try (cases h; done)
      rename_i kz hin
      match cs, hx with
      | [c, d], hx =>
        simp only [VRels, and_true] at hx
        have hzx : zrX P e = zrO P e := by unfold zrX; rw [if_pos h3]
        obtain ⟨u, w', μ', hu, ha⟩ := fAppZ_ok (P := P) (t := t) (u := t') (ty := ty) (kz := kz) hR hM hx.1 hx.2 (inO_ok hin) (fun e' he' => by rw [h1] at he'; cases he'; exact h3) (o := out) (by rw [h1]; simpa [h2, h5, hzx] using h)
        exact ⟨u, w', μ', fun _ => by simp [builtin, hu], ha⟩
  · rename_i x y
    obtain ⟨v, hv, rfl⟩ := keepS_ok h
    match cs, hx with
    | [c, d], hx =>
      simp only [VRels, and_true] at hx
      obtain ⟨u, hu, hr⟩ := fMin_ok (P := P) (ts := ts.toArray) (ty := ty) hx.1 hx.2 hv w
      exact ⟨u, w, μ, fun _ => by simp [builtin, hu], After.same hR hr⟩
  · rename_i x y
    obtain ⟨v, hv, rfl⟩ := keepS_ok h
    match cs, hx with
    | [c, d], hx =>
      simp only [VRels, and_true] at hx
      obtain ⟨u, hu, hr⟩ := fMax_ok (P := P) (ts := ts.toArray) (ty := ty) hx.1 hx.2 hv w
      exact ⟨u, w, μ, fun _ => by simp [builtin, hu], After.same hR hr⟩

/-- **Every operation is right.** -/
theorem fOp_ok {τ : Tm} {a : Act} {o : Oper} {M : Nat} {out : Out} (hR : Rel B w0 X μ σ w) (hM : μ M = none) (hT : TRel μ τ a.tmps) (h : fOp P τ σ M o.op = some out) :
    ∃ nx u w' μ', (execOp a.eval o).run P w = .ok nx w' ∧ (nx = .value u ∨ nx = .skip ∧ u = undef) ∧ After B w0 X μ M out u w' μ' := by
  unfold fOp at h
  split at h <;> try (cases h; done)
  · rename_i x ho
    cases h
    exact ⟨_, _, w, μ, by simp [execOp, ho], .inl rfl, After.same hR (ev_rel hT x)⟩
  · rename_i x ho
    cases h
    exact ⟨_, _, w, μ, by simp [execOp, ho], .inl rfl, After.same hR (ev_rel hT x)⟩
  · rename_i c x y ho
    obtain ⟨v, hv, rfl⟩ := keepS_ok h
    obtain ⟨u, hu, hr⟩ := fPick_ok (P := P) (ev_rel hT c) (ev_rel hT x) (ev_rel hT y) hv w
    exact ⟨_, u, w, μ, by simpa [execOp, ho] using hu, .inl rfl, After.same hR hr⟩
  · rename_i t ho
    unfold zrX at h
    split at h <;> try (simp [fNew] at h; done)
    rename_i hz
    obtain ⟨u, w', μ', hu, ha⟩ := alloc_ok hR hM hz h
    exact ⟨_, u, w', μ', by simp [execOp, ho, hu], .inl rfl, ha⟩
  · rename_i t x ho
    obtain ⟨u, w', μ', hu, ha⟩ := box_ok (P := P) hR hM (ev_rel hT x) h
    exact ⟨_, u, w', μ', by simp [execOp, ho, hu], .inl rfl, ha⟩
  · rename_i t ps ho
    obtain ⟨v, hv, rfl⟩ := keepS_ok h
    obtain ⟨u, hu, hr⟩ := fBuild_ok (P := P) (evp_rel hT ps.toList) hv w
    have e : (List.map (fun p => (p.1, a.eval p.2)) ps.toList).toArray = ps.map fun (i, x) => (i, a.eval x) := by
      apply Array.toList_inj.1; simp
    rw [e] at hu
    exact ⟨_, u, w, μ, by simp [execOp, ho, hu], .inl rfl, After.same hR hr⟩
  · rename_i t n ps ho
    split at h <;> try (cases h; done)
    rename_i e s b he
    obtain ⟨h1, h2, h3, h4, h5⟩ := elX_ok he
    obtain ⟨u, w', μ', hu, ha⟩ := fBuildS_ok (P := P) (t := t) hR hM (evp_rel hT ps.toList) (fun e' he' => by rw [h1] at he'; cases he'; cases hz : zrO P e <;> simp_all) (o := out) (len := n) (by rw [h1]; simpa [h2] using h)
    have e : (List.map (fun p => (p.1, a.eval p.2)) ps.toList).toArray = ps.map fun (i, x) => (i, a.eval x) := by
      apply Array.toList_inj.1; simp
    rw [e] at hu
    exact ⟨_, u, w', μ', by simp [execOp, ho, hu], .inl rfl, ha⟩
  · rename_i t x ho
    obtain ⟨v, hv, rfl⟩ := keepS_ok h
    obtain ⟨u, hu, hr⟩ := fLoad_ok hR (ev_rel hT x) hv
    exact ⟨_, u, w, μ, by simp [execOp, ho, hu], .inl rfl, After.same hR hr⟩
  · rename_i t x y ho
    split at h <;> try (cases h; done)
    rename_i σ' hs
    cases h
    obtain ⟨w', hu, hr⟩ := fStore_ok hR (ev_rel hT x) (ev_rel hT y) hs
    exact ⟨_, undef, w', μ, by simp [execOp, ho, hu], .inr ⟨rfl, rfl⟩, by simp [VRel], hr, Sub.refl _, .inl ⟨rfl, rfl⟩⟩
  · rename_i x ho
    obtain ⟨v, hv, rfl⟩ := keepS_ok h
    have hx := ev_rel hT x
    unfold fNil at hv
    split at hv <;> try (cases hv; done)
    rename_i b i c heq
    cases hv
    rw [heq] at hx
    have hx' := hx
    simp only [VRel] at hx
    obtain ⟨L, hL, hp⟩ := hx
    exact ⟨.value (a.eval x), a.eval x, w, μ, by simp [execOp, ho, hp], .inl rfl, After.same hR hx'⟩
  · rename_i op t x y yt ho
    obtain ⟨v, hv, rfl⟩ := keepS_ok h
    obtain ⟨u, hu, hr⟩ := fBinX_ok hT hv w
    refine ⟨_, u, w, μ, ?_, .inl rfl, After.same hR hr⟩
    simp only [execOp, ho]
    rw [Sem.run_bind, hu]
    rfl
  · rename_i op t x ho
    obtain ⟨v, hv, rfl⟩ := keepS_ok h
    obtain ⟨u, hu, hr⟩ := fUn_ok (P := P) (ev_rel hT x) hv w
    exact ⟨_, u, w, μ, by simp [execOp, ho, hu], .inl rfl, After.same hR hr⟩
  · rename_i s t x ho
    obtain ⟨v, hv, rfl⟩ := keepS_ok h
    obtain ⟨u, hu, hr⟩ := fConvX_ok hR (ev_rel hT x) hv
    exact ⟨_, u, w, μ, by simp [execOp, ho, hu], .inl rfl, After.same hR hr⟩
  · rename_i fn first cap ho
    split at h <;> try (cases h; done)
    rename_i f
    split at h <;> try (cases h; done)
    rename_i hf
    cases h
    have hf' : first = #[] := by apply Array.toList_inj.1; simpa using hf
    subst hf'
    refine ⟨_, .func (.func f) #[] (cap.map a.eval), w, μ, by simp [execOp, ho, Instr.makeFunc], .inl rfl, After.same hR ?_⟩
    simp only [VRel]
    exact ⟨cap.toList.map a.eval, by congr 1; apply Array.toList_inj.1; simp, evs_rel hT _⟩
  · rename_i t l c ho
    split at h <;> try (cases h; done)
    rename_i e s b he
    obtain ⟨h1, h2, h3, h4, h5⟩ := elX_ok he
    obtain ⟨u, w', μ', hu, ha⟩ := fMake_ok (P := P) (t := t) hR hM (ev_rel hT l) (ev_rel hT c) (fun e' he' => by rw [h1] at he'; cases he'; exact ⟨h3, by rw [h4, h2]⟩) (o := out) (by rw [h1]; simpa [h5] using h)
    exact ⟨_, u, w', μ', by simp [execOp, ho, hu], .inl rfl, ha⟩
  · rename_i t x lo hi mx ho
    obtain ⟨v, hv, rfl⟩ := keepS_ok h
    have hx := ev_rel hT x
    unfold fSliceX at hv
    split at hv <;> try (cases hv; done)
    · rename_i hs
      split at hv <;> try (cases hv; done)
      rename_i s heq
      rw [heq] at hx
      obtain ⟨u, hu, hr⟩ := fSlice_ok (P := P) (w := w) hs hx (evo_rel hT lo) (evo_rel hT hi) (evo_rel hT mx) ⟨fun _ => rfl, fun _ => ⟨s, rfl⟩⟩ hv
      exact ⟨_, u, w, μ, by simp [execOp, ho, hu], .inl rfl, After.same hR hr⟩
    · rename_i z hs
      split at hv <;> try (cases hv; done)
      rename_i b o' n cap sz heq
      rw [heq] at hx
      obtain ⟨u, hu, hr⟩ := fSlice_ok (P := P) (w := w) hs hx (evo_rel hT lo) (evo_rel hT hi) (evo_rel hT mx) ⟨fun ⟨s, e⟩ => (by cases e), fun e => (by cases e)⟩ hv
      exact ⟨_, u, w, μ, by simp [execOp, ho, hu], .inl rfl, After.same hR hr⟩
  · rename_i t x f ho
    obtain ⟨v, hv, rfl⟩ := keepS_ok h
    obtain ⟨u, hu, hr⟩ := fFieldA_ok (P := P) (w := w) (ev_rel hT x) hv
    exact ⟨_, u, w, μ, by simp [execOp, ho, hu], .inl rfl, After.same hR hr⟩
  · rename_i t x i ho
    split at h <;> try (cases h; done)
    rename_i e s b he
    obtain ⟨h1, h2, h3, h4, h5⟩ := elX_ok he
    obtain ⟨v, hv, rfl⟩ := keepS_ok h
    obtain ⟨u, hu, hr⟩ := fIdxA_ok (P := P) (t := t) (w := w) (ev_rel hT x) (ev_rel hT i) (v := v) (by rw [h1]; simpa [h2] using hv)
    exact ⟨_, u, w, μ, by simp [execOp, ho, hu], .inl rfl, After.same hR hr⟩
  · rename_i t x i ho
    split at h <;> try (cases h; done)
    rename_i hs
    obtain ⟨v, hv, rfl⟩ := keepS_ok h
    have hu : P.underlying t = some .string := by
      unfold stO at hs
      split at hs <;> simp_all
    obtain ⟨u, hu, hr⟩ := fIdx_ok (P := P) (w := w) hu (ev_rel hT x) (ev_rel hT i) hv
    exact ⟨_, u, w, μ, by simp [execOp, ho, hu], .inl rfl, After.same hR hr⟩
  · rename_i x i ho
    obtain ⟨v, hv, rfl⟩ := keepS_ok h
    obtain ⟨u, hu, hr⟩ := fExt_ok (P := P) (ev_rel hT x) hv w
    exact ⟨_, u, w, μ, by simp [execOp, ho, hu], .inl rfl, After.same hR hr⟩
  · rename_i c ho
    split at h <;> try (cases h; done)
    rename_i b hb
    obtain ⟨u, w', μ', hu, ha⟩ := fCall_ok (P := P) (ty := o.type) hR hM (evs_rel hT c.args.toList) h
    refine ⟨_, u, w', μ', ?_, .inl rfl, ha⟩
    have e : (List.map a.eval c.args.toList).toArray = c.args.map a.eval := by
      apply Array.toList_inj.1; simp
    rw [e] at hu
    simp only [execOp, ho, resolve, hb, Sem.run_bind, Sem.run_pure, Result.andThen_ok, invoke]
    simpa using hu _

end
end Go.Proofs.Ytgaiemhbllbaiaa
namespace Go.Proofs.Ytgaiemhbllbaiaa
open Go Go.RowKit

def Ent (P : Program) (f : FuncId) : Prop := ∀ (args : Array Value) (w : World), (callFunc f args).run P w = .ok (.enter f args) w
theorem ent_of {P : Program} {f : FuncId} {fn : Func} {c : Code} (hf : P.funcs[f]? = some fn) (hname : (fn.name == "runtime.NumGoroutine") = false) (hb : fn.body = some c) : Ent P f := by
  intro args w
  have h1 : fn.name ≠ "runtime.NumGoroutine" := by simpa using hname
  simp [callFunc, hf, h1, hb, mark]

/-- What stands besides the store: a fact on the world at a call, which stays true while what it speaks of is left alone. -/
class Side where
  ok : Nat → World → (Nat → Prop) → Prop
  on : ∀ (B : Nat) (w0 : World) (X : Nat → Prop) (B' : Nat) (w : World) (X' : Nat → Prop), ok B w0 X → Keep B X w0 w → B ≤ B' → (∀ k, k < B → ¬ X k → ¬ X' k) → ok B' w X'
/-- Nothing stands besides. -/
instance (priority := low) noSide : Side := ⟨fun _ _ _ => True, fun _ _ _ _ _ _ _ _ _ _ => trivial⟩
variable [Side]

/-- **What a call does to the store**: called with these values over this store, the function returns some r, and δ lies over the store behind it; new blocks bear the names ν and ν + 1. -/
def AC (P : Program) (f : FuncId) (args : List AV) (σ : Sto) (ν : Nat) (R : AV → Sto → Prop) : Prop :=
  Ent P f ∧ ∀ (B : Nat) (w0 : World) (X : Nat → Prop) (μ : Mu) (w : World) (vs : List Value), Side.ok B w0 X → Rel B w0 X μ σ w → μ ν = none → μ (ν + 1) = none → VRels μ args vs →
    Calls P f vs.toArray w fun e w' => ∃ r δ μ' v', e = .returned v' ∧ R r δ ∧ VRel μ' r v' ∧ Rel B w0 X μ' (ovr σ δ) w' ∧ Sub μ μ' ∧ ∀ b, b ≠ ν → b ≠ ν + 1 → μ' b = μ b

theorem AC.mono {P : Program} {f : FuncId} {args : List AV} {σ : Sto} {ν : Nat} {R R' : AV → Sto → Prop} (h : AC P f args σ ν R) (hr : ∀ r δ, R r δ → R' r δ) : AC P f args σ ν R' :=
  ⟨h.1, fun B w0 X μ w vs h0 h1 h2 h3 h4 => (h.2 B w0 X μ w vs h0 h1 h2 h3 h4).mono fun _ _ ⟨r, δ, μ', v', e, hR, rest⟩ => ⟨r, δ, μ', v', e, hr r δ hR, rest⟩⟩

/-- What holds with nothing besides holds with something besides. -/
theorem AC.side {P : Program} {f : FuncId} {args : List AV} {σ : Sto} {ν : Nat} {R : AV → Sto → Prop} (h : @AC noSide P f args σ ν R) : AC P f args σ ν R :=
  ⟨h.1, fun B w0 X μ w vs _ h1 h2 h3 h4 => h.2 B w0 X μ w vs trivial h1 h2 h3 h4⟩

/-- A frame and a world match slots and store. -/
structure HS (B : Nat) (w0 : World) (X : Nat → Prop) (N K : Nat) (E : Mu) (τ : Tm) (σ : Sto) (M : Nat) (a : Act) (w : World) (μ : Mu) : Prop where
  dfr : a.defers = []
  siz : a.tmps.size = N
  rel : Rel B w0 X μ σ w
  fre : ∀ b, M ≤ b → μ b = none
  ext : ∀ b, b < K → μ b = E b
  tm : TRel μ τ a.tmps
  kM : K ≤ M
  sd : Side.ok B w0 X

def AWP (P : Program) (N K : Nat) (c : Code) (Q : Exit → Tm → Sto → Nat → Prop) (τ : Tm) (σ : Sto) (M : Nat) : Prop :=
  ∀ (B : Nat) (w0 : World) (X : Nat → Prop) (E : Mu) (a : Act) (w : World) (μ : Mu), HS B w0 X N K E τ σ M a w μ →
    c.wp P (fun e a' w' => ∃ τ' σ' M' μ', Q e τ' σ' M' ∧ HS B w0 X N K E τ' σ' M' a' w' μ') a w

def put (d : Option Tmp) (v : AV) (τ : Tm) : Tm := match d with | some d => (d, v) :: τ | none => τ
def nth {α : Type} : List α → Nat → Option α
  | [], _ => none
  | x :: _, 0 => some x
  | _ :: l, n + 1 => nth l n
theorem nth_eq {α : Type} : ∀ (l : List α) (n : Nat), nth l n = l[n]?
  | [], n => by simp [nth]
  | x :: l, 0 => by simp [nth]
  | x :: l, n + 1 => by simp [nth, nth_eq l n]
def gdC : AV → Bool → Option Bool
  | .v (.bool b), want => some (b == want)
  | .v (.tuple _), _ => some false
  | _, _ => none
def gdB (τ : Tm) : Option (Option Tmp) → Bool → Option Bool
  | some (some d), want => gdC (get τ d) want
  | _, _ => none
def gdA (ds : List (Option Tmp)) (τ : Tm) : Option (Nat × Bool) → Option Bool
  | none => some true
  | some (j, want) => gdB τ (nth ds j) want
def callOf : Op → Option (Operand × List Operand)
  | .call c => match c.callee with
    | .value x => some (x, c.args.toList)
    | _ => none
  | _ => none

/-- The operations of a region, one behind the other. -/
def aOps (P : Program) (ds : List (Option Tmp)) : List Oper → (Tm → Sto → Nat → Prop) → Tm → Sto → Nat → Prop
  | [], K, τ, σ, M => K τ σ M
  | o :: rest, K, τ, σ, M => match gdA ds τ o.guard with
    | some true => match callOf o.op with
      | some (x, args) => match ev τ x with
        | .fn f caps => AC P f (args.map (ev τ) ++ caps) σ M fun r δ => aOps P ds rest K (put o.dst r τ) (ovr σ δ) (M + 2)
        | _ => False
      | none => match fOp P τ σ M o.op with
        | some (v, σ', M') => aOps P ds rest K (put o.dst v τ) σ' M'
        | none => False
    | some false => aOps P ds rest K (put o.dst (.v undef) τ) σ M
    | none => False
/-- It stands at a call. -/
def aStop (P : Program) (ds : List (Option Tmp)) (f : FuncId) (args : List AV) (d : Option Tmp) (rest : List Oper) (K : Tm → Sto → Nat → Prop) (τ : Tm) (σ : Sto) (M : Nat) : Prop :=
  AC P f args σ M fun r δ => aOps P ds rest K (put d r τ) (ovr σ δ) (M + 2)
def aGo (P : Program) (ds : List (Option Tmp)) (x : AV) (args : List AV) (d : Option Tmp) (rest : List Oper) (K : Tm → Sto → Nat → Prop) (τ : Tm) (σ : Sto) (M : Nat) : Prop :=
  match x with
  | .fn f caps => aStop P ds f (args ++ caps) d rest K τ σ M
  | _ => False
def aCont (P : Program) (ds : List (Option Tmp)) (o : Option Out) (d : Option Tmp) (rest : List Oper) (K : Tm → Sto → Nat → Prop) (τ : Tm) : Prop :=
  match o with
  | some (v, σ', M') => aOps P ds rest K (put d v τ) σ' M'
  | none => False
def aDo (P : Program) (ds : List (Option Tmp)) (c : Option (Operand × List Operand)) (d : Option Tmp) (op : Op) (rest : List Oper) (K : Tm → Sto → Nat → Prop) (τ : Tm) (σ : Sto) (M : Nat) : Prop :=
  match c with
  | some (x, args) => aGo P ds (ev τ x) (args.map (ev τ)) d rest K τ σ M
  | none => aCont P ds (fOp P τ σ M op) d rest K τ
def aStep (P : Program) (ds : List (Option Tmp)) (g : Option Bool) (d : Option Tmp) (op : Op) (rest : List Oper) (K : Tm → Sto → Nat → Prop) (τ : Tm) (σ : Sto) (M : Nat) : Prop :=
  match g with
  | some true => aDo P ds (callOf op) d op rest K τ σ M
  | some false => aOps P ds rest K (put d (.v undef) τ) σ M
  | none => False

section
variable {P : Program} {ds : List (Option Tmp)} {K : Tm → Sto → Nat → Prop} {τ : Tm} {σ : Sto} {M : Nat}
theorem aOps_nil : aOps P ds [] K τ σ M = K τ σ M := propext Iff.rfl
theorem aOps_cons (d : Option Tmp) (op : Op) (t : TypeId) (p : String) (aft : Array Edge) (g : Option (Nat × Bool)) (rest : List Oper) :
    aOps P ds (⟨d, op, t, p, aft, g⟩ :: rest) K τ σ M = aStep P ds (gdA ds τ g) d op rest K τ σ M := propext Iff.rfl
theorem aStep_yes (d : Option Tmp) (op : Op) (rest : List Oper) : aStep P ds (some true) d op rest K τ σ M = aDo P ds (callOf op) d op rest K τ σ M := propext Iff.rfl
theorem aStep_no (d : Option Tmp) (op : Op) (rest : List Oper) : aStep P ds (some false) d op rest K τ σ M = aOps P ds rest K (put d (.v undef) τ) σ M := propext Iff.rfl
theorem aDo_call (d : Option Tmp) (op : Op) (x : Operand) (args : List Operand) (rest : List Oper) : aDo P ds (some (x, args)) d op rest K τ σ M = aGo P ds (ev τ x) (args.map (ev τ)) d rest K τ σ M := propext Iff.rfl
theorem aDo_op (d : Option Tmp) (op : Op) (rest : List Oper) : aDo P ds none d op rest K τ σ M = aCont P ds (fOp P τ σ M op) d rest K τ := propext Iff.rfl
theorem aCont_some (v : AV) (σ' : Sto) (M' : Nat) (d : Option Tmp) (rest : List Oper) : aCont P ds (some (v, σ', M')) d rest K τ = aOps P ds rest K (put d v τ) σ' M' := propext Iff.rfl
theorem aGo_fn (f : FuncId) (caps args : List AV) (d : Option Tmp) (rest : List Oper) : aGo P ds (.fn f caps) args d rest K τ σ M = aStop P ds f (args ++ caps) d rest K τ σ M := propext Iff.rfl
theorem aStop_of {f : FuncId} {args : List AV} {d : Option Tmp} {rest : List Oper} {R : AV → Sto → Prop} (h : AC P f args σ M R) (hr : ∀ r δ, R r δ → aOps P ds rest K (put d r τ) (ovr σ δ) (M + 2)) : aStop P ds f args d rest K τ σ M := h.mono hr
end

section
variable {P : Program} {B N K : Nat} {w0 : World} {X : Nat → Prop} {E μ : Mu} {σ : Sto} {w : World} {τ : Tm} {M : Nat} {a : Act}

theorem TRel.put {tmps : Array Value} (h : TRel μ τ tmps) {v : AV} {u : Value} (hv : VRel μ v u) {d : Nat} (hd : d < tmps.size) : TRel μ ((d, v) :: τ) (tmps.setIfInBounds d u) := by
  intro i
  by_cases e : i = d
  · subst e
    simp only [get, if_true]
    simpa [Array.getD, hd] using hv
  · simp only [get, if_neg e]
    have : (tmps.setIfInBounds d u).getD i undef = tmps.getD i undef := by
      simp only [Array.getD_eq_getD_getElem?, Array.getElem?_setIfInBounds_ne (Ne.symm e)]
    rw [this]
    exact h i

theorem TRel.mono {μ' : Mu} {tmps : Array Value} (h : TRel μ τ tmps) (hs : Sub μ μ') : TRel μ' τ tmps := fun i => VRel.mono hs _ _ (h i)

theorem HS.step {d : Option Tmp} {v : AV} {u : Value} {w' : World} {μ' : Mu} {σ' : Sto} {M' : Nat} (h : HS B w0 X N K E τ σ M a w μ) (hv : VRel μ' v u) (hr : Rel B w0 X μ' σ' w') (hs : Sub μ μ')
    (hold : ∀ b, b < M → μ' b = μ b) (hnew : ∀ b, M' ≤ b → μ' b = none) (hle : M ≤ M') (hd : ∀ x, d = some x → x < N) :
    HS B w0 X N K E (Go.Proofs.Ytgaiemhbllbaiaa.put d v τ) σ' M' (a.put d u) w' μ' := by
  have hk := h.kM
  refine ⟨?_, ?_, hr, hnew, fun b hb => (hold b (by omega)).trans (h.ext b hb), ?_, by omega, h.sd⟩
  · unfold Act.put; split <;> exact h.dfr
  · unfold Act.put; split
    · simpa using h.siz
    · exact h.siz
  · unfold Act.put Go.Proofs.Ytgaiemhbllbaiaa.put
    cases d with
    | none => exact h.tm.mono hs
    | some d => exact (h.tm.mono hs).put hv (by rw [h.siz]; exact hd d rfl)
theorem HS.put {d : Option Tmp} {v : AV} {u : Value} {w' : World} {μ' : Mu} {σ' : Sto} {M' : Nat} (h : HS B w0 X N K E τ σ M a w μ) (ha : After B w0 X μ M (v, σ', M') u w' μ') (hd : ∀ x, d = some x → x < N) :
    HS B w0 X N K E (Go.Proofs.Ytgaiemhbllbaiaa.put d v τ) σ' M' (a.put d u) w' μ' := by
  rcases ha.nm with ⟨e1, e2⟩ | ⟨e1, e2⟩
  · simp only at e1
    subst e1; subst e2
    exact h.step ha.val ha.rel ha.sub (fun _ _ => rfl) h.fre (Nat.le_refl _) hd
  · simp only at e1
    subst e1
    exact h.step ha.val ha.rel ha.sub (fun b hb => e2 b (by omega)) (fun b hb => (e2 b (by omega)).trans (h.fre b (by omega))) (by omega) hd

theorem gdA_ok {ops : Array Oper} {o : Oper} {b : Bool} (h : HS B w0 X N K E τ σ M a w μ) (hg : gdA (ops.toList.map (·.dst)) τ o.guard = some b) : Region.wanted o (yielded ops a.tmps) = b := by
  unfold gdA at hg
  unfold Region.wanted
  split at hg
  · rename_i hn; rw [hn]; cases hg; rfl
  · rename_i j want hj
    rw [hj]
    simp only
    rw [nth_eq] at hg
    unfold gdB at hg
    split at hg <;> try (cases hg; done)
    rename_i want d hd
    have hds : (ops[j]?).bind (·.dst) = some d := by
      rw [List.getElem?_map] at hd
      cases hx : ops[j]? with
      | none => simp [hx] at hd
      | some x => simp [hx] at hd; simp [hd]
    have ht := h.tm d
    unfold gdC at hg
    split at hg <;> try (cases hg; done)
    · rename_i want p hp
      rw [hp] at ht
      simp only [VRel] at ht
      have hlt : d < a.tmps.size := by
        rcases Nat.lt_or_ge d a.tmps.size with h1 | h1
        · exact h1
        · rw [Array.getD_eq_getD_getElem?, Array.getElem?_eq_none h1] at ht; cases ht
      have : a.tmps[d]? = some (.bool p) := by
        rw [Array.getElem?_eq_getElem hlt]
        rw [Array.getD_eq_getD_getElem?, Array.getElem?_eq_getElem hlt] at ht
        simpa using ht
      cases hg
      simp [yielded, hds, this]
    · rename_i want p hp
      rw [hp] at ht
      simp only [VRel] at ht
      cases hg
      have : ∀ q, a.tmps[d]? ≠ some (.bool q) := fun q hq => by
        rw [Array.getD_eq_getD_getElem?, hq] at ht
        cases ht
      have hy : yielded ops a.tmps j = none := by
        unfold yielded
        rw [hds]
        cases hq : a.tmps[d]? with
        | none => simp [hq]
        | some z =>
          cases z <;> first
            | exact absurd hq (this _)
            | simp [hq]
      rw [hy]
      rfl

theorem callOf_ok {op : Op} {x : Operand} {args : List Operand} (h : callOf op = some (x, args)) : ∃ c : Call, op = .call c ∧ c.callee = .value x ∧ c.args.toList = args := by
  unfold callOf at h
  split at h <;> try (cases h; done)
  rename_i c
  split at h <;> try (cases h; done)
  rename_i y hy
  cases h
  exact ⟨c, rfl, hy, rfl⟩

theorem aOps_okT {ops : Array Oper} {Qc : Exit → Act → World → Prop} {KK : Tm → Sto → Nat → Prop} (t : List Oper) : ∀ (l : List Oper) (τ : Tm) (σ : Sto) (M : Nat) (a : Act) (w : World) (μ : Mu), HS B w0 X N K E τ σ M a w μ → (∀ o ∈ l, ∀ d, o.dst = some d → d < N) →
    aOps P (ops.toList.map (·.dst)) l KK τ σ M → (∀ τ' σ' M' a' w' μ', KK τ' σ' M' → HS B w0 X N K E τ' σ' M' a' w' μ' → wpList P ops Qc t a' w') → wpList P ops Qc (l ++ t) a w
  | [], τ, σ, M, a, w, μ, h, _, hk, hq => hq _ _ _ _ _ _ hk h
  | o :: l, τ, σ, M, a, w, μ, h, hd, hk, hq => by
    refine wpList_step fun KC hKC => ?_
    have hdo := hd o (by simp)
    have ih := fun τ σ M a w μ h hk => hKC a w (aOps_okT t l τ σ M a w μ h (fun o ho => hd o (by simp [ho])) hk hq)
    simp only [aOps] at hk
    split at hk <;> try (exact hk.elim)
    · rename_i hg
      rw [if_pos (gdA_ok h hg)]
      split at hk
      · rename_i x args hc
        obtain ⟨c, hop, hcal, hargs⟩ := callOf_ok hc
        split at hk <;> try (exact hk.elim)
        rename_i f caps hf
        have hx := ev_rel h.tm x
        rw [hf] at hx
        simp only [VRel] at hx
        obtain ⟨cs, hx, hcs⟩ := hx
        have hrun : (execOp a.eval o).run P w = .ok (.enter f (args.map a.eval ++ cs).toArray) w := by
          simp only [execOp, hop, resolve, hcal, hx, Deferred.ofValue, Sem.run_bind, Sem.run_pure, Result.andThen_ok, invoke]
          rw [hk.1]
          have e : (#[] ++ c.args.map a.eval ++ cs.toArray : Array Value) = (args.map a.eval ++ cs).toArray := by
            apply Array.toList_inj.1
            simp [← hargs]
          rw [e]
        unfold Oper.wp
        rw [hrun, Oper.upon_enter]
        refine (hk.2 B w0 X μ w (args.map a.eval ++ cs) h.sd h.rel (h.fre _ (Nat.le_refl _)) (h.fre _ (by omega)) ((evs_rel h.tm args).append hcs)).mono ?_
        rintro e w' ⟨r, δ, μ', v', rfl, hR, hv, hrel, hsub, hold⟩
        have hk' := h.kM
        exact ih _ _ _ _ _ μ' (h.step hv hrel hsub (fun b hb => hold b (by omega) (by omega)) (fun b hb => (hold b (by omega) (by omega)).trans (h.fre b (by omega))) (by omega) hdo) hR
      · split at hk <;> try (exact hk.elim)
        rename_i v σ' M' hf
        obtain ⟨nx, u, w', μ', hrun, hnx, ha⟩ := fOp_ok h.rel (h.fre _ (Nat.le_refl _)) h.tm hf
        unfold Oper.wp
        rw [hrun]
        rcases hnx with rfl | ⟨rfl, rfl⟩
        · rw [Oper.upon_value]
          exact ih _ _ _ _ _ μ' (h.put ha hdo) hk
        · rw [Oper.upon_skip]
          exact ih _ _ _ _ _ μ' (h.put ha hdo) hk
    · rename_i hg
      have hw := gdA_ok h hg
      rw [if_neg (by rw [hw]; simp)]
      exact ih _ _ _ _ _ μ (h.put (After.same h.rel (by simp [VRel])) hdo) hk

theorem aOps_ok {ops : Array Oper} {Qc : Exit → Act → World → Prop} {KK : Tm → Sto → Nat → Prop} (l : List Oper) (τ : Tm) (σ : Sto) (M : Nat) (a : Act) (w : World) (μ : Mu) (h : HS B w0 X N K E τ σ M a w μ) (hd : ∀ o ∈ l, ∀ d, o.dst = some d → d < N)
    (hk : aOps P (ops.toList.map (·.dst)) l KK τ σ M) (hq : ∀ τ' σ' M' a' w' μ', KK τ' σ' M' → HS B w0 X N K E τ' σ' M' a' w' μ' → Qc .normal a' w') : wpList P ops Qc l a w := by
  have := aOps_okT (Qc := Qc) [] l τ σ M a w μ h hd hk fun τ' σ' M' a' w' μ' h1 h2 => wpList_nil (hq τ' σ' M' a' w' μ' h1 h2)
  rwa [List.append_nil] at this

theorem AWP.region {id : Nat} {ops : Array Oper} {Q : Exit → Tm → Sto → Nat → Prop} (hd : (ops.toList.all fun o => match o.dst with | some d => decide (d < N) | none => true) = true)
    (h : ∀ KK : Tm → Sto → Nat → Prop, (∀ τ' σ' M', Q .normal τ' σ' M' → KK τ' σ' M') → aOps P (ops.toList.map (·.dst)) ops.toList KK τ σ M) : AWP P N K (.region id ops false) Q τ σ M := by
  intro B w0 X E a w μ hs
  refine wp_region_list (aOps_ok ops.toList τ σ M a w μ hs (fun o ho d hdd => ?_) (h (Q .normal) fun _ _ _ h => h) fun τ' σ' M' a' w' μ' hq hs' => ⟨τ', σ', M', μ', hq, hs'⟩)
  have := List.all_eq_true.1 hd o ho
  rw [hdd] at this
  simpa using this

theorem AWP.skip {Q : Exit → Tm → Sto → Nat → Prop} (h : Q .normal τ σ M) : AWP P N K .skip Q τ σ M := fun _ _ _ _ _ _ μ hs => wp_skip ⟨τ, σ, M, μ, h, hs⟩
theorem AWP.exit {id : Nat} {Q : Exit → Tm → Sto → Nat → Prop} (h : Q (.exit id) τ σ M) : AWP P N K (.exit id) Q τ σ M := fun _ _ _ _ _ _ μ hs => wp_exit ⟨τ, σ, M, μ, h, hs⟩
theorem AWP.ret {Q : Exit → Tm → Sto → Nat → Prop} (h : Q .ret τ σ M) : AWP P N K .ret Q τ σ M := fun _ _ _ _ _ _ μ hs => wp_ret ⟨τ, σ, M, μ, h, hs⟩

def thenA (next : Tm → Sto → Nat → Prop) (Q : Exit → Tm → Sto → Nat → Prop) : Exit → Tm → Sto → Nat → Prop
  | .normal, τ, σ, M => next τ σ M
  | e, τ, σ, M => Q e τ σ M
theorem AWP.seq {x y : Code} {Q : Exit → Tm → Sto → Nat → Prop} (h : AWP P N K x (thenA (AWP P N K y Q) Q) τ σ M) : AWP P N K (.seq x y) Q τ σ M := by
  intro B w0 X E a w μ hs
  refine wp_seq (wp_mono (h B w0 X E a w μ hs) ?_)
  rintro e a' w' ⟨τ', σ', M', μ', hq, hs'⟩
  cases e with
  | normal => exact hq B w0 X E a' w' μ' hs'
  | _ => exact ⟨τ', σ', M', μ', hq, hs'⟩

def blockA (id : Nat) (Q : Exit → Tm → Sto → Nat → Prop) : Exit → Tm → Sto → Nat → Prop
  | .exit id', τ, σ, M => if id' = id then Q .normal τ σ M else Q (.exit id') τ σ M
  | e, τ, σ, M => Q e τ σ M
theorem AWP.block {id : Nat} {c : Code} {Q : Exit → Tm → Sto → Nat → Prop} (h : AWP P N K c (blockA id Q) τ σ M) : AWP P N K (.block id c) Q τ σ M := by
  intro B w0 X E a w μ hs
  refine wp_block (wp_mono (h B w0 X E a w μ hs) ?_)
  rintro e a' w' ⟨τ', σ', M', μ', hq, hs'⟩
  cases e with
  | exit id' =>
    simp only [blockA] at hq
    simp only [Exit.inBlock]
    split at hq
    · rename_i he; rw [if_pos he]; exact ⟨τ', σ', M', μ', hq, hs'⟩
    · rename_i he; rw [if_neg he]; exact ⟨τ', σ', M', μ', hq, hs'⟩
  | _ => exact ⟨τ', σ', M', μ', hq, hs'⟩

theorem AWP.if_ {c : Operand} {x y : Code} {t : Bool} {Q : Exit → Tm → Sto → Nat → Prop} (hc : ev τ c = .v (.bool t)) (h1 : t = true → AWP P N K x Q τ σ M) (h2 : t = false → AWP P N K y Q τ σ M) : AWP P N K (.cond c x y) Q τ σ M := by
  intro B w0 X E a w μ hs
  have := ev_rel hs.tm c
  rw [hc] at this
  simp only [VRel] at this
  exact wp_cond_split this (fun ht => h1 ht B w0 X E a w μ hs) (fun ht => h2 ht B w0 X E a w μ hs)
theorem AWP.if_t {c : Operand} {x y : Code} {Q : Exit → Tm → Sto → Nat → Prop} (hc : ev τ c = .v (.bool true)) (h : AWP P N K x Q τ σ M) : AWP P N K (.cond c x y) Q τ σ M := AWP.if_ hc (fun _ => h) (fun h => by cases h)
theorem AWP.if_f {c : Operand} {x y : Code} {Q : Exit → Tm → Sto → Nat → Prop} (hc : ev τ c = .v (.bool false)) (h : AWP P N K y Q τ σ M) : AWP P N K (.cond c x y) Q τ σ M := AWP.if_ hc (fun h => by cases h) (fun _ => h)
theorem AWP.if_b {c : Operand} {x y : Code} {Q : Exit → Tm → Sto → Nat → Prop} (hc : ev τ c = .bl) (h1 : AWP P N K x Q τ σ M) (h2 : AWP P N K y Q τ σ M) : AWP P N K (.cond c x y) Q τ σ M := by
  intro B w0 X E a w μ hs
  have := ev_rel hs.tm c
  rw [hc] at this
  simp only [VRel] at this
  obtain ⟨t, ht⟩ := this
  exact wp_cond_split ht (fun _ => h1 B w0 X E a w μ hs) (fun _ => h2 B w0 X E a w μ hs)

/-- What is known of a frame and a world may be said otherwise. -/
def Weak (K : Nat) (τ : Tm) (σ : Sto) (M : Nat) (τ' : Tm) (σ' : Sto) (M' : Nat) : Prop :=
  ∀ (B : Nat) (w0 : World) (X : Nat → Prop) (N : Nat) (E : Mu) (a : Act) (w : World) (μ : Mu), HS B w0 X N K E τ σ M a w μ → ∃ μ', HS B w0 X N K E τ' σ' M' a w μ'

theorem AWP.weak {c : Code} {Q : Exit → Tm → Sto → Nat → Prop} {τ' : Tm} {σ' : Sto} {M' : Nat} (hw : Weak K τ σ M τ' σ' M') (h : AWP P N K c Q τ' σ' M') : AWP P N K c Q τ σ M := by
  intro B w0 X E a w μ hs
  obtain ⟨μ', hs'⟩ := hw B w0 X N E a w μ hs
  exact h B w0 X E a w μ' hs'

/-- What a loop's round owes: another state of the relation, with a smaller number. -/
def Again (K : Nat) (I : Nat → Tm → Sto → Nat → Prop) (n : Nat) (τ : Tm) (σ : Sto) (M : Nat) : Prop :=
  ∃ m τ' σ' M', m < n ∧ I m τ' σ' M' ∧ Weak K τ σ M τ' σ' M'

theorem AWP.loop {c : Code} {Q : Exit → Tm → Sto → Nat → Prop} (I : Nat → Tm → Sto → Nat → Prop) (h0 : ∃ n τ' σ' M', I n τ' σ' M' ∧ Weak K τ σ M τ' σ' M')
    (h : ∀ n τ σ M, I n τ σ M → AWP P N K c (thenA (Again K I n) Q) τ σ M) : AWP P N K (.loop c) Q τ σ M := by
  intro B w0 X E a w μ hs
  obtain ⟨n, τ', σ', M', hI, hw⟩ := h0
  obtain ⟨μ', hs'⟩ := hw B w0 X N E a w μ hs
  refine wp_loop_ghost (fun n a w => ∃ τ σ M μ, I n τ σ M ∧ HS B w0 X N K E τ σ M a w μ) n ⟨τ', σ', M', μ', hI, hs'⟩ ?_
  rintro n a w ⟨τ, σ, M, μ, hI, hs⟩
  refine wp_mono (h n τ σ M hI B w0 X E a w μ hs) ?_
  rintro e a' w' ⟨τ', σ', M', μ', hq, hs'⟩
  cases e with
  | normal =>
    obtain ⟨m, τ2, σ2, M2, hm, hI2, hw2⟩ := hq
    obtain ⟨μ2, hs2⟩ := hw2 B w0 X N E a' w' μ' hs'
    exact ⟨m, hm, τ2, σ2, M2, μ2, hI2, hs2⟩
  | _ => exact ⟨τ', σ', M', μ', hq, hs'⟩
end

end Go.Proofs.Ytgaiemhbllbaiaa
