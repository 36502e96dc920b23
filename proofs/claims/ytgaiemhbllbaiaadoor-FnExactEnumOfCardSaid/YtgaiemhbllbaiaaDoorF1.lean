/- Plain facts on bits: what the reference's arithmetic of bits computes. No condition. -/
import Derived.Test.YtgaiemhbllbaiaaDoorLB
import Derived.Test.YtgaiemhbllbaiaaDoorLC
set_option linter.unusedSimpArgs false
set_option linter.unusedVariables false
namespace Go.Proofs.YtgaiemhbllbaiaaDoor
open Go Go.RowKit

/-- The bits below bit k that both numbers have. -/
def btF (a b : Int) : Nat → Int
  | 0 => 0
  | k + 1 => btF a b k + if (a.tdiv (2 ^ k)).tmod 2 = 1 ∧ (b.tdiv (2 ^ k)).tmod 2 = 1 then 2 ^ k else 0
def bothI (a b : Int) : Int := btF a b 12
theorem btF_bd (a b : Int) : ∀ k, 0 ≤ btF a b k ∧ btF a b k < 2 ^ k
  | 0 => by simp [btF]
  | k + 1 => by
    have h := btF_bd a b k
    have e : (2 : Int) ^ (k + 1) = 2 ^ k + 2 ^ k := by rw [Int.pow_succ]; omega
    simp only [btF]
    rw [e]
    split <;> omega
theorem bothI_bd (a b : Int) : 0 ≤ bothI a b ∧ bothI a b ≤ 4095 := by
  have h := btF_bd a b 12
  unfold bothI
  exact ⟨h.1, by have := h.2; omega⟩
theorem pow_cast (k : Nat) : (2 : Int) ^ k = ((2 ^ k : Nat) : Int) := by
  rw [Int.natCast_pow]; rfl
theorem tdv_nat (a k : Nat) : ((a : Int).tdiv (2 ^ k)).tmod 2 = ((a / 2 ^ k % 2 : Nat) : Int) := by
  rw [pow_cast, ← Int.ofNat_tdiv]
  exact (Int.ofNat_tmod (a / 2 ^ k) 2).symm
theorem and_bit (a b k : Nat) : (a &&& b) / 2 ^ k % 2 = 1 ↔ a / 2 ^ k % 2 = 1 ∧ b / 2 ^ k % 2 = 1 := by
  have h := Nat.testBit_and a b k
  rw [Nat.testBit_eq_decide_div_mod_eq, Nat.testBit_eq_decide_div_mod_eq, Nat.testBit_eq_decide_div_mod_eq] at h
  by_cases h1 : a / 2 ^ k % 2 = 1 <;> by_cases h2 : b / 2 ^ k % 2 = 1 <;> simp_all
theorem btF_nat (a b : Nat) : ∀ k, btF a b k = (((a &&& b) % 2 ^ k : Nat) : Int)
  | 0 => by simp [btF, Nat.mod_one]
  | k + 1 => by
    simp only [btF]
    rw [btF_nat a b k, tdv_nat, tdv_nat, Nat.mod_pow_succ]
    have h := and_bit a b k
    have h3 := Nat.mod_two_eq_zero_or_one ((a &&& b) / 2 ^ k)
    rw [pow_cast]
    split
    · rename_i hc
      have hc' : (a &&& b) / 2 ^ k % 2 = 1 := h.2 ⟨by omega, by omega⟩
      rw [hc']
      simp
    · rename_i hc
      have hc' : (a &&& b) / 2 ^ k % 2 = 0 := by
        rcases h3 with h3 | h3
        · exact h3
        · exact absurd (h.1 h3) (fun ⟨x, y⟩ => hc ⟨by omega, by omega⟩)
      rw [hc']
      simp
theorem bothI_nat {a b : Nat} (h : a < 4096 ∨ b < 4096) : bothI a b = ((a &&& b : Nat) : Int) := by
  unfold bothI
  rw [btF_nat, Nat.mod_eq_of_lt]
  rcases h with h | h
  · exact Nat.lt_of_le_of_lt Nat.and_le_left h
  · exact Nat.lt_of_le_of_lt Nat.and_le_right h
theorem or_and_add : ∀ x y : Nat, (x ||| y) + (x &&& y) = x + y := by
  intro x
  induction x using Nat.strongRecOn with
  | _ x ih =>
    intro y
    rcases Nat.eq_zero_or_pos x with rfl | hx
    · simp
    · have h := ih (x / 2) (by omega) (y / 2)
      have a1 := Nat.or_div_two (a := x) (b := y)
      have a2 := Nat.and_div_two (a := x) (b := y)
      have b1 : (x ||| y) % 2 = 1 ↔ x % 2 = 1 ∨ y % 2 = 1 := Nat.or_mod_two_eq_one
      have b2 : (x &&& y) % 2 = 1 ↔ x % 2 = 1 ∧ y % 2 = 1 := Nat.and_mod_two_eq_one
      omega
def eitherI (a b : Int) : Int := IntKind.wrap .i64 (IntKind.wrap .i64 (a + b) - bothI a b)
def lessI (a b : Int) : Int := IntKind.wrap .i64 (a - bothI a b)
theorem wrap_rg (n : Int) : -9223372036854775808 ≤ IntKind.wrap .i64 n ∧ IntKind.wrap .i64 n ≤ 9223372036854775807 := by
  rw [IntKind.wrap_i64]; omega
theorem eitherI_nat {a b : Nat} (h1 : a < 4096) (h2 : b < 4096) : eitherI a b = ((a ||| b : Nat) : Int) := by
  unfold eitherI
  have h := or_and_add a b
  have h4 := Nat.and_le_left (n := a) (m := b)
  rw [bothI_nat (.inl h1), wrap_sm ((a : Int) + b) (by omega) (by omega), wrap_sm _ (by omega) (by omega)]
  omega
theorem lessI_nat {a b : Nat} (h1 : a < 4611686018427387904) (h : a < 4096 ∨ b < 4096) : lessI a b = ((a - (a &&& b) : Nat) : Int) := by
  unfold lessI
  have h4 := Nat.and_le_left (n := a) (m := b)
  rw [bothI_nat h, wrap_sm _ (by omega) (by omega)]
  omega
theorem or_lt {a b : Nat} (h1 : a < 4096) (h2 : b < 4096) : a ||| b < 4096 := Nat.or_lt_two_pow (n := 12) h1 h2

/-- All bits of definitions. -/
def mkN (ds : List Df) : Nat := ds.foldl (fun m d => m ||| d.2.toNat) 0
def mkS (ds : List Df) : Int := ds.foldl (fun m d => eitherI m d.2) 0
theorem mkN_snoc (ds : List Df) (d : Df) : mkN (ds ++ [d]) = mkN ds ||| d.2.toNat := by simp [mkN]
theorem mkS_snoc (ds : List Df) (d : Df) : mkS (ds ++ [d]) = eitherI (mkS ds) d.2 := by simp [mkS]
theorem mkN_take {ds : List Df} {k : Nat} (h : k < ds.length) : mkN (ds.take (k + 1)) = mkN (ds.take k) ||| ds[k].2.toNat := by
  rw [List.take_succ_eq_append_getElem h, mkN_snoc]
theorem mkS_take {ds : List Df} {k : Nat} (h : k < ds.length) : mkS (ds.take (k + 1)) = eitherI (mkS (ds.take k)) ds[k].2 := by
  rw [List.take_succ_eq_append_getElem h, mkS_snoc]
theorem mkN_lt : ∀ ds : List Df, (∀ d ∈ ds, 0 ≤ d.2 ∧ d.2 ≤ 4095) → mkN ds < 4096 := by
  intro ds
  induction ds using rev_ind with
  | nil => intro _; simp [mkN]
  | snoc l d ih =>
    intro h
    have h1 := h d (by simp)
    rw [mkN_snoc]
    exact or_lt (ih fun e he => h e (by simp [he])) (by omega)
theorem mkS_rg : ∀ ds : List Df, -9223372036854775808 ≤ mkS ds ∧ mkS ds ≤ 9223372036854775807 := by
  intro ds
  induction ds using rev_ind with
  | nil => simp [mkS]
  | snoc l d ih => rw [mkS_snoc]; exact wrap_rg _
theorem mkS_eq : ∀ ds : List Df, (∀ d ∈ ds, 0 ≤ d.2 ∧ d.2 ≤ 4095) → mkS ds = (mkN ds : Int) := by
  intro ds
  induction ds using rev_ind with
  | nil => intro _; simp [mkS, mkN]
  | snoc l d ih =>
    intro h
    have h1 := h d (by simp)
    have h2 := mkN_lt l fun e he => h e (by simp [he])
    rw [mkS_snoc, mkN_snoc, ih fun e he => h e (by simp [he])]
    obtain ⟨n, hn⟩ := Int.eq_ofNat_of_zero_le h1.1
    rw [hn, eitherI_nat h2 (by omega)]
    simp

/-- How many bits a number has; how long it is. -/
def pcF : Nat → Nat → Nat
  | 0, _ => 0
  | f + 1, n => n % 2 + pcF f (n / 2)
def pcN (n : Nat) : Nat := pcF 12 n
theorem pcF_le : ∀ f n, pcF f n ≤ f
  | 0, _ => Nat.le_refl _
  | f + 1, n => by have := pcF_le f (n / 2); simp only [pcF]; omega
theorem pcF_zero : ∀ f, pcF f 0 = 0
  | 0 => rfl
  | f + 1 => by simp [pcF, pcF_zero f]
def lnN (n : Nat) : Nat := if n = 0 then 0 else n.log2 + 1
theorem lnN_le {n k : Nat} : lnN n ≤ k ↔ n < 2 ^ k := by
  unfold lnN
  split
  · rename_i h
    subst h
    simp [Nat.two_pow_pos]
  · rename_i h
    rw [← Nat.log2_lt h]
    omega
theorem lnN_or (a b : Nat) : lnN (a ||| b) = max (lnN a) (lnN b) := by
  have h1 : ∀ k, lnN (a ||| b) ≤ k ↔ lnN a ≤ k ∧ lnN b ≤ k := fun k => by
    rw [lnN_le, lnN_le, lnN_le]
    constructor
    · intro h
      exact ⟨Nat.lt_of_le_of_lt Nat.left_le_or h, Nat.lt_of_le_of_lt Nat.right_le_or h⟩
    · rintro ⟨h, h'⟩
      exact Nat.or_lt_two_pow h h'
  have h2 := (h1 (lnN (a ||| b))).1 (Nat.le_refl _)
  have h3 := (h1 (max (lnN a) (lnN b))).2 ⟨by omega, by omega⟩
  omega
theorem lnN_12 {n : Nat} (h : n < 4096) : lnN n ≤ 12 := lnN_le.2 h
/-- All bits up to the highest one. -/
def hiN (n : Nat) : Nat := 2 ^ lnN n - 1
theorem hiN_lt {n : Nat} (h : n < 4096) : hiN n < 4096 ∧ n ≤ hiN n := by
  have h1 := lnN_12 h
  have h2 : 2 ^ lnN n ≤ 2 ^ 12 := Nat.pow_le_pow_right (by omega) h1
  have h3 : n < 2 ^ lnN n := lnN_le.1 (Nat.le_refl _)
  unfold hiN
  omega
end Go.Proofs.YtgaiemhbllbaiaaDoor
