/- Plain facts on arms: two sets of bits. No condition: nothing of the program stands here. -/
import Derived.Test.YtbdehnjbglpfjaaF9
set_option linter.unusedSimpArgs false
set_option linter.unusedVariables false
namespace Go.Proofs.Ytbdehnjbglpfjaa
open Go Go.RowKit

theorem w0_iff (x : BitVec 64) : IntKind.wrap .i64 (x.toNat : Int) = 0 ↔ x = 0#64 := by
  have h := x.isLt
  rw [IntKind.wrap_i64]
  constructor
  · intro e
    apply BitVec.eq_of_toNat_eq
    simp only [BitVec.toNat_ofNat]
    omega
  · intro e
    subst e
    simp
theorem of_wrap (x : BitVec 64) : BitVec.ofInt 64 (IntKind.wrap .i64 (x.toNat : Int)) = x := by
  have h := x.isLt
  apply BitVec.eq_of_toNat_eq
  rw [BitVec.toNat_ofInt, IntKind.wrap_i64]
  omega
theorem of_small {p : Int} (hp : i64R p) {k : Nat} (hk : k < 4096) (h : (BitVec.ofInt 64 p).toNat ≤ k) : 0 ≤ p ∧ (BitVec.ofInt 64 p).toNat = p.toNat := by
  obtain ⟨h1, h2⟩ := hp
  rw [BitVec.toNat_ofInt] at h ⊢
  omega
theorem or_not {m : Nat} (hm : m < 4096) {p q : Int} (hp : i64R p) (hq : i64R q) (h : bits .andNot .i64 (bits .or .i64 p q) m = 0) : 0 ≤ p ∧ 0 ≤ q ∧ p.toNat &&& m = p.toNat ∧ q.toNat &&& m = q.toNat := by
  have h1 : IntKind.wrap .i64 (((BitVec.ofInt 64 (IntKind.wrap .i64 ((BitVec.ofInt 64 p ||| BitVec.ofInt 64 q).toNat : Int)) &&& ~~~ BitVec.ofInt 64 (m : Int)).toNat : Nat) : Int) = 0 := h
  rw [w0_iff, of_wrap] at h1
  have hM : (BitVec.ofInt 64 (m : Int)).toNat = m := ofI m (by omega)
  generalize hPe : BitVec.ofInt 64 p = P at *
  generalize hQe : BitVec.ofInt 64 q = Q at *
  generalize BitVec.ofInt 64 (m : Int) = M at *
  have hb : ∀ i, ((P.getLsbD i || Q.getLsbD i) && !M.getLsbD i) = false := fun i => by
    have e := congrArg (fun x : BitVec 64 => x.getLsbD i) h1
    simp only [BitVec.getLsbD_and, BitVec.getLsbD_or, BitVec.getLsbD_not, BitVec.getLsbD_zero] at e
    by_cases hi : i < 64
    · simpa [hi] using e
    · have a : P.getLsbD i = false := BitVec.getLsbD_of_ge _ _ (by omega)
      have b : Q.getLsbD i = false := BitVec.getLsbD_of_ge _ _ (by omega)
      rw [a, b]
      rfl
  have hP : P &&& M = P := by
    apply BitVec.eq_of_getLsbD_eq
    intro i hi
    have e := hb i
    rw [BitVec.getLsbD_and]
    cases h1 : P.getLsbD i <;> cases h2 : M.getLsbD i <;> simp_all
  have hQ : Q &&& M = Q := by
    apply BitVec.eq_of_getLsbD_eq
    intro i hi
    have e := hb i
    rw [BitVec.getLsbD_and]
    cases h1 : Q.getLsbD i <;> cases h2 : M.getLsbD i <;> simp_all
  have eP : P.toNat &&& m = P.toNat := by rw [← hM, ← BitVec.toNat_and, hP]
  have eQ : Q.toNat &&& m = Q.toNat := by rw [← hM, ← BitVec.toNat_and, hQ]
  have lP : P.toNat ≤ m := by rw [← eP]; exact Nat.and_le_right
  have lQ : Q.toNat ≤ m := by rw [← eQ]; exact Nat.and_le_right
  subst hPe
  subst hQe
  obtain ⟨p0, p1⟩ := of_small hp hm lP
  obtain ⟨q0, q1⟩ := of_small hq hm lQ
  rw [p1] at eP
  rw [q1] at eQ
  exact ⟨p0, q0, eP, eQ⟩

/-- An arm of a class whose bits are m. -/
def aokB (m : Nat) (p q : Int) : Bool := decide (0 ≤ p ∧ 0 ≤ q ∧ p.toNat &&& m = p.toNat ∧ q.toNat &&& m = q.toNat ∧ p.toNat &&& q.toNat = 0)
theorem aokB_ok {m : Nat} (hm : m < 4096) {p q : Int} (h : aokB m p q = true) : ∃ a b : Nat, p = a ∧ q = b ∧ a < 4096 ∧ b < 4096 ∧ a &&& m = a ∧ b &&& m = b ∧ a &&& b = 0 := by
  simp only [aokB, decide_eq_true_eq] at h
  obtain ⟨h1, h2, h3, h4, h5⟩ := h
  have l1 : p.toNat ≤ m := by rw [← h3]; exact Nat.and_le_right
  have l2 : q.toNat ≤ m := by rw [← h4]; exact Nat.and_le_right
  exact ⟨p.toNat, q.toNat, by omega, by omega, by omega, by omega, h3, h4, h5⟩
theorem aokB_nat {m a b : Nat} : aokB m a b = decide (a &&& m = a ∧ b &&& m = b ∧ a &&& b = 0) := by
  simp [aokB]
theorem aok_no1 {m : Nat} (hm : m < 4096) {p q : Int} (hp : i64R p) (hq : i64R q) (h : ¬ bits .andNot .i64 (bits .or .i64 p q) m = 0) : aokB m p q = false := by
  cases hk : aokB m p q with
  | false => rfl
  | true =>
    obtain ⟨a, b, rfl, rfl, ha, hb, h1, h2, _⟩ := aokB_ok hm hk
    refine absurd ?_ h
    rw [i_or a b (by omega) (by omega), i_andNot (a ||| b) m (by have := or_lt ha hb; omega) (by omega), Nat.and_or_distrib_right, h1, h2]
    omega
theorem aok_yes1 {m : Nat} (hm : m < 4096) {p q : Int} (hp : i64R p) (hq : i64R q) (h : bits .andNot .i64 (bits .or .i64 p q) m = 0) : ∃ a b : Nat, p = a ∧ q = b ∧ a < 4096 ∧ b < 4096 ∧ bits .and .i64 p q = ((a &&& b : Nat) : Int) ∧ aokB m p q = decide (a &&& b = 0) := by
  obtain ⟨p0, q0, h1, h2⟩ := or_not hm hp hq h
  obtain ⟨a, rfl⟩ := Int.eq_ofNat_of_zero_le p0
  obtain ⟨b, rfl⟩ := Int.eq_ofNat_of_zero_le q0
  simp only [Int.toNat_natCast] at h1 h2
  have l1 : a ≤ m := by rw [← h1]; exact Nat.and_le_right
  have l2 : b ≤ m := by rw [← h2]; exact Nat.and_le_right
  refine ⟨a, b, rfl, rfl, by omega, by omega, i_and a b (by omega) (by omega), ?_⟩
  rw [aokB_nat, decide_eq_decide]
  exact ⟨fun h => h.2.2, fun h => ⟨h1, h2, h⟩⟩
end Go.Proofs.Ytbdehnjbglpfjaa
