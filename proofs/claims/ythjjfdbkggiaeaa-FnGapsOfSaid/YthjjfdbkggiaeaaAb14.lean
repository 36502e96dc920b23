/- An abstract store for walks, part 14: a region that draws its order, walked in the text's order. No condition: nothing of a program stands here. -/
import Derived.Test.YthjjfdbkggiaeaaAb13
import Derived.Orders
set_option linter.unusedSimpArgs false
set_option linter.unusedVariables false
namespace Go.Proofs.Ythjjfdbkggiaeaa
open Go Go.RowKit

/-- What an operation did: its slot, what lies there, the blocks it wrote and what they are, the blocks it read. -/
structure En where
  d : Option Tmp
  v : AV
  W : List Nat
  s : Sto
  F : List Nat

def lkA (ds : List (Option Tmp)) (o : Oper) : List Tmp :=
  (o.op.operands.toList.filterMap fun | .tmp t => some t | _ => none) ++
  (match o.guard with
   | some (g, _) => (match nth ds g with | some (some d) => [d] | _ => [])
   | none => [])
def dirs (o : Oper) : List Nat := o.after.toList.filterMap fun e => if Region.binds .any e = true then some e.on else none
def force {α : Sort _} (m : Nat) (k : Nat → α) : α := match m with
  | 0 => k 0
  | n + 1 => k (n + 1)
theorem force_eq {α : Sort _} (m : Nat) (k : Nat → α) : force m k = k m := by cases m <;> rfl
def msk (l : List Nat) : Nat := l.foldl (fun m d => m ||| 1 <<< d) 0
/-- What lies ahead of each operation: 64 bits for each. -/
def mk (tab j : Nat) : Nat := (tab >>> (64 * j)) % 18446744073709551616
def ahead (tab : Nat) (ds : List Nat) : Nat := ds.foldl (fun m d => m ||| 1 <<< d ||| mk tab d) 0
def tabN : List Oper → Nat → Nat → Nat
  | [], _, acc => acc
  | o :: r, j, acc => force (acc ||| (ahead acc (dirs o)) <<< (64 * j)) fun acc => tabN r (j + 1) acc
def ordA (tab : Nat) (i j : Nat) : Bool := (mk tab j).testBit i
def chkT (tab : Nat) : Nat → List Oper → Bool
  | _, [] => true
  | j, o :: l => (dirs o).all (fun d => decide (d < j)) && Nat.beq (mk tab j) (ahead tab (dirs o)) && chkT tab (j + 1) l
def row (ds : List (Option Tmp)) (o : Oper) : Nat × Nat := (msk o.dst.toList, msk (lkA ds o))
def rowsK (ds : List (Option Tmp)) : List Oper → (List (Nat × Nat) → Bool) → Bool
  | [], k => k []
  | o :: l, k => force (row ds o).1 fun D => force (row ds o).2 fun L => rowsK ds l fun r => k ((D, L) :: r)
theorem rowsK_eq (ds : List (Option Tmp)) : ∀ (l : List Oper) (k : List (Nat × Nat) → Bool), rowsK ds l k = k (l.map (row ds))
  | [], _ => rfl
  | o :: l, k => by simp only [rowsK, force_eq, List.map_cons]; exact rowsK_eq ds l _
def apR (x y : Nat × Nat) : Bool := Nat.beq (x.1 &&& (y.2 ||| y.1)) 0 && Nat.beq (y.1 &&& x.2) 0
def chk1 (tab : Nat) (i : Nat) (x : Nat × Nat) : Nat → List (Nat × Nat) → Bool
  | _, [] => true
  | j, y :: l => (ordA tab i j || apR x y) && chk1 tab i x (j + 1) l
def chkA (tab : Nat) : Nat → List (Nat × Nat) → Bool
  | _, [] => true
  | i, x :: l => chk1 tab i x (i + 1) l && chkA tab (i + 1) l
def dchk (l : List Oper) : Bool := force (tabN l 0 0) fun tab => chkT tab 0 l && rowsK (l.map (·.dst)) l fun r => chkA tab 0 r
/-- Neither looks at what the other writes, and they do not write the same. -/
def apA (ds : List (Option Tmp)) (x y : Oper) : Prop :=
  (∀ d, x.dst = some d → d ∉ lkA ds y ∧ y.dst ≠ some d) ∧ (∀ d, y.dst = some d → d ∉ lkA ds x)
theorem foldl_bit {g : Nat → Nat} {i : Nat} : ∀ (ds : List Nat) (m : Nat), (ds.foldl (fun m d => m ||| g d) m).testBit i = true ↔ m.testBit i = true ∨ ∃ d ∈ ds, (g d).testBit i = true
  | [], m => by simp
  | d :: ds, m => by
    rw [List.foldl_cons, foldl_bit ds]
    simp only [Nat.testBit_or, Bool.or_eq_true, List.mem_cons, exists_eq_or_imp, or_assoc]
theorem one_bit {d i : Nat} : (1 <<< d).testBit i = true ↔ i = d := by
  rw [Nat.one_shiftLeft, Nat.testBit_two_pow]
  simp [eq_comm]
theorem msk_bit {l : List Nat} {i : Nat} : (msk l).testBit i = true ↔ i ∈ l := by
  unfold msk
  rw [foldl_bit]
  simp only [Nat.zero_testBit, Bool.false_eq_true, false_or, one_bit, exists_eq_right']
theorem ahead_bit {tab : Nat} {ds : List Nat} {i : Nat} : (ahead tab ds).testBit i = true ↔ ∃ d ∈ ds, i = d ∨ (mk tab d).testBit i = true := by
  unfold ahead
  have e : (fun m d => m ||| 1 <<< d ||| mk tab d) = fun m d => m ||| (1 <<< d ||| mk tab d) := by
    funext m d; rw [Nat.or_assoc]
  rw [e, foldl_bit]
  simp only [Nat.zero_testBit, Bool.false_eq_true, false_or, Nat.testBit_or, Bool.or_eq_true, one_bit]
theorem and_zero_bit {a b : Nat} (h : a &&& b = 0) {i : Nat} (ha : a.testBit i = true) : b.testBit i = false := by
  have := congrArg (fun n => n.testBit i) h
  simp only [Nat.testBit_and, Nat.zero_testBit, ha, Bool.true_and] at this
  exact this
theorem apR_ok {ds : List (Option Tmp)} {x y : Oper} (h : apR (row ds x) (row ds y) = true) : apA ds x y := by
  unfold apR at h
  simp only [Bool.and_eq_true, Nat.beq_eq, row] at h
  obtain ⟨h1, h2⟩ := h
  refine ⟨fun d hd => ?_, fun d hd => ?_⟩
  · have := and_zero_bit h1 (i := d) (msk_bit.2 (by simp [hd]))
    simp only [Nat.testBit_or, Bool.or_eq_false_iff] at this
    refine ⟨fun hm => ?_, fun hm => ?_⟩
    · rw [msk_bit.2 hm] at this; cases this.1
    · rw [(msk_bit (l := y.dst.toList)).2 (by simp [hm])] at this; cases this.2
  · have := and_zero_bit h2 (i := d) (msk_bit.2 (by simp [hd]))
    exact fun hm => by rw [msk_bit.2 hm] at this; cases this
def confl (e f : En) : Prop := (∀ b ∈ e.W, b ∉ f.F ∧ b ∉ f.W) ∧ (∀ b ∈ f.W, b ∉ e.F)
def mem1 (tab : Nat) (i : Nat) (e : En) : Nat → List En → Prop
  | _, [] => True
  | j, f :: fs => (ordA tab i j = true ∨ confl e f) ∧ mem1 tab i e (j + 1) fs
def memA (tab : Nat) : Nat → List En → Prop
  | _, [] => True
  | i, e :: es => mem1 tab i e (i + 1) es ∧ memA tab (i + 1) es
theorem mem1_ro {tab : Nat} {i : Nat} {e : En} (he : e.W = []) : ∀ (es : List En) (j : Nat), (∀ f ∈ es, f.W = []) → mem1 tab i e j es
  | [], _, _ => trivial
  | f :: fs, j, h => ⟨.inr ⟨by simp [he], by simp [h f (by simp)]⟩, mem1_ro he fs (j + 1) fun g hg => h g (by simp [hg])⟩
theorem memA_ro {tab : Nat} : ∀ (es : List En) (i : Nat), (∀ f ∈ es, f.W = []) → memA tab i es
  | [], _, _ => trivial
  | e :: es, i, h => ⟨mem1_ro (h e (by simp)) es (i + 1) fun g hg => h g (by simp [hg]), memA_ro es (i + 1) fun g hg => h g (by simp [hg])⟩

theorem chk1_spec {tab : Nat} {i : Nat} {x : Nat × Nat} : ∀ (l : List (Nat × Nat)) (j : Nat), chk1 tab i x j l = true → ∀ k y, l[k]? = some y → ordA tab i (j + k) = true ∨ apR x y = true
  | [], _, _, k, y, hy => by simp at hy
  | z :: l, j, h, 0, y, hy => by
    simp [chk1] at h hy
    subst hy
    exact h.1
  | z :: l, j, h, k + 1, y, hy => by
    simp only [chk1, Bool.and_eq_true] at h
    have := chk1_spec l (j + 1) h.2 k y (by simpa using hy)
    rwa [Nat.add_assoc, Nat.add_comm 1 k] at this
theorem chkA_spec {tab : Nat} : ∀ (l : List (Nat × Nat)) (i : Nat), chkA tab i l = true → ∀ k x, l[k]? = some x → ∀ m y, k < m → l[m]? = some y → ordA tab (i + k) (i + m) = true ∨ apR x y = true
  | [], _, _, k, x, hx => by simp at hx
  | z :: l, i, h, 0, x, hx => by
    simp only [chkA, Bool.and_eq_true] at h
    simp at hx
    subst hx
    intro m y hm hy
    obtain ⟨m, rfl⟩ : ∃ q, m = q + 1 := ⟨m - 1, by omega⟩
    have := chk1_spec l (i + 1) h.1 m y (by simpa using hy)
    rwa [Nat.add_assoc, Nat.add_comm 1 m] at this
  | z :: l, i, h, k + 1, x, hx => by
    simp only [chkA, Bool.and_eq_true] at h
    intro m y hm hy
    obtain ⟨m, rfl⟩ : ∃ q, m = q + 1 := ⟨m - 1, by omega⟩
    have := chkA_spec l (i + 1) h.2 k x (by simpa using hx) m y (by omega) (by simpa using hy)
    rwa [Nat.add_assoc, Nat.add_comm 1 k, Nat.add_assoc, Nat.add_comm 1 m] at this
theorem chkT_spec {tab : Nat} : ∀ (l : List Oper) (i : Nat), chkT tab i l = true → ∀ k x, l[k]? = some x → (∀ d ∈ dirs x, d < i + k) ∧ mk tab (i + k) = ahead tab (dirs x)
  | [], _, _, k, x, hx => by simp at hx
  | z :: l, i, h, 0, x, hx => by
    simp only [chkT, Bool.and_eq_true, List.all_eq_true, decide_eq_true_eq, Nat.beq_eq] at h
    simp at hx
    subst hx
    exact h.1
  | z :: l, i, h, k + 1, x, hx => by
    simp only [chkT, Bool.and_eq_true] at h
    have := chkT_spec l (i + 1) h.2 k x (by simpa using hx)
    rwa [Nat.add_assoc, Nat.add_comm 1 k] at this
theorem mem1_spec {tab : Nat} {i : Nat} {e : En} : ∀ (l : List En) (j : Nat), mem1 tab i e j l → ∀ k f, l[k]? = some f → ordA tab i (j + k) = true ∨ confl e f
  | [], _, _, k, y, hy => by simp at hy
  | z :: l, j, h, 0, y, hy => by
    simp [mem1] at h hy
    subst hy
    exact h.1
  | z :: l, j, h, k + 1, y, hy => by
    have := mem1_spec l (j + 1) h.2 k y (by simpa using hy)
    rwa [Nat.add_assoc, Nat.add_comm 1 k] at this
theorem memA_spec {tab : Nat} : ∀ (l : List En) (i : Nat), memA tab i l → ∀ k x, l[k]? = some x → ∀ m y, k < m → l[m]? = some y → ordA tab (i + k) (i + m) = true ∨ confl x y
  | [], _, _, k, x, hx => by simp at hx
  | z :: l, i, h, 0, x, hx => by
    simp at hx
    subst hx
    intro m y hm hy
    obtain ⟨m, rfl⟩ : ∃ q, m = q + 1 := ⟨m - 1, by omega⟩
    have := mem1_spec l (i + 1) h.1 m y (by simpa using hy)
    rwa [Nat.add_assoc, Nat.add_comm 1 m] at this
  | z :: l, i, h, k + 1, x, hx => by
    intro m y hm hy
    obtain ⟨m, rfl⟩ : ∃ q, m = q + 1 := ⟨m - 1, by omega⟩
    have := memA_spec l (i + 1) h.2 k x (by simpa using hx) m y (by omega) (by simpa using hy)
    rwa [Nat.add_assoc, Nat.add_comm 1 k, Nat.add_assoc, Nat.add_comm 1 m] at this

/-- A set of operations is closed: with each, those ahead of it. -/
def Closed (l : List Oper) (S : Nat → Bool) : Prop := ∀ k o, l[k]? = some o → S k = true → ∀ d ∈ dirs o, S d = true
theorem ord_ok {l : List Oper} {tab : Nat} (ht : chkT tab 0 l = true) {S : Nat → Bool} (hS : Closed l S) {i : Nat} : ∀ (j : Nat) (o : Oper), l[j]? = some o → ordA tab i j = true → (∀ d ∈ dirs o, S d = true) → S i = true := by
  intro j
  induction j using Nat.strongRecOn with
  | ind j ih =>
    intro o hj h hd
    obtain ⟨h1, h2⟩ := chkT_spec l 0 ht j o hj
    simp only [Nat.zero_add] at h1 h2
    unfold ordA at h
    rw [h2, ahead_bit] at h
    obtain ⟨d, hdm, h3⟩ := h
    rcases h3 with rfl | h3
    · exact hd _ hdm
    · have hlt := h1 d hdm
      have hjl : j < l.length := (List.getElem?_eq_some_iff.1 hj).1
      have hod : l[d]? = some (l[d]'(by omega)) := List.getElem?_eq_getElem _
      exact ih d hlt _ hod h3 (hS d _ hod (hd d hdm))

end Go.Proofs.Ythjjfdbkggiaeaa
