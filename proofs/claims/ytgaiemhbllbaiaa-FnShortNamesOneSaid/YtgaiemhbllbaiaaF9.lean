/- Plain laws of values: inverses, unions, parts. No condition: nothing of the program stands here. -/
import Derived.Test.YtgaiemhbllbaiaaF5
import Derived.Test.YtgaiemhbllbaiaaF8
set_option linter.unusedSimpArgs false
set_option linter.unusedVariables false
namespace Go.Proofs.Ytgaiemhbllbaiaa
open Go Go.RowKit

theorem tb_big {a i : Nat} (ha : a < 4096) (hi : ¬ i < 12) : a.testBit i = false :=
  Nat.testBit_lt_two_pow (Nat.lt_of_lt_of_le ha (by have := Nat.pow_le_pow_right (n := 2) (by omega) (show 12 ≤ i by omega); omega))
theorem tb_sub {a b : Nat} (ha : a < 4096) (hb : b < 4096) (i : Nat) : (a - (a &&& b)).testBit i = (a.testBit i && !b.testBit i) := by
  rw [← and_not_nat (n := 12) a b (by omega) (by omega), Nat.testBit_and, show 2 ^ 12 - 1 - b = 2 ^ 12 - (b + 1) by omega, Nat.testBit_two_pow_sub_succ (by omega)]
  by_cases hi : i < 12
  · simp [hi]
  · simp [hi, tb_big ha hi]
theorem sub_zero_iff (a b : Nat) : a - (a &&& b) = 0 ↔ a &&& b = a := by
  have := Nat.and_le_left (n := a) (m := b)
  omega
theorem sub_lt {a b : Nat} (ha : a < 4096) : a - (a &&& b) < 4096 := by omega
theorem tb_of {x y : Nat} (h : x &&& y = x) (i : Nat) : (x.testBit i && y.testBit i) = x.testBit i := by rw [← Nat.testBit_and, h]
theorem isv_iff {ds : List Df} {bd : Int} {m : Nat} (hok : okFl ds bd = true) (hm : m < 4096) : isv ds bd m = true ↔ bd = 3 ∨ m &&& mkN ds = m := by
  rw [← sub_zero_iff]
  simp only [isv, hok, Bool.true_and, Bool.and_eq_true, Bool.or_eq_true, decide_eq_true_eq, Int.toNat_natCast]
  constructor
  · exact fun h => h.2
  · exact fun h => ⟨⟨by omega, by omega⟩, h⟩
theorem isv_nat {ds : List Df} {bd n : Int} (h : isv ds bd n = true) : ∃ m : Nat, n = m ∧ m < 4096 := by
  obtain ⟨_, h0, h1, _⟩ := isv_ok h
  exact ⟨n.toNat, by omega, by omega⟩
theorem mk_hi {n : Nat} : n &&& hiN n = n := by
  unfold hiN
  rw [Nat.and_two_pow_sub_one_eq_mod]
  exact Nat.mod_eq_of_lt (lnN_le.1 (Nat.le_refl _))
theorem mk_wh (ds : List Df) (bd : Int) : mkN ds &&& whN ds bd = mkN ds := by
  unfold whN
  split
  · exact mk_hi
  · exact Nat.and_self _
theorem wh_hi (ds : List Df) (bd : Int) : whN ds bd &&& hiN (mkN ds) = whN ds bd := by
  unfold whN
  split
  · exact Nat.and_self _
  · exact mk_hi
theorem ivI_nat {ds : List Df} {bd : Int} {m : Nat} (h : isv ds bd m = true) : ivI ds bd m = ((whN ds bd - (whN ds bd &&& m) : Nat) : Int) := by
  unfold ivI
  rw [if_pos h, Int.toNat_natCast]
theorem ivI_no {ds : List Df} {bd n : Int} (h : isv ds bd n = false) : ivI ds bd n = -1 := by
  unfold ivI
  rw [h]
  rfl
theorem isv_all {ds : List Df} (hok : okFl ds 3 = true) {m : Nat} (hm : m < 4096) : isv ds 3 m = true := (isv_iff hok hm).2 (.inl rfl)
theorem isv_sub {ds : List Df} {bd : Int} (hok : okFl ds bd = true) {m : Nat} (hm : m < 4096) : isv ds bd ((whN ds bd - (whN ds bd &&& m) : Nat) : Int) = true := by
  have hw := whN_lt (bd := bd) (okFl_rg hok)
  have hk := mkN_lt ds (okFl_rg hok)
  refine (isv_iff hok (sub_lt hw)).2 ?_
  by_cases h3 : bd = 3
  · exact .inl h3
  · refine .inr ?_
    have e : whN ds bd = mkN ds := if_neg h3
    rw [e]
    apply Nat.eq_of_testBit_eq
    intro i
    rw [Nat.testBit_and, tb_sub hk hm]
    cases (mkN ds).testBit i <;> cases m.testBit i <;> rfl
theorem isv_or {ds : List Df} {bd : Int} (hok : okFl ds bd = true) {a b : Nat} (ha : a < 4096) (hb : b < 4096) (h1 : isv ds bd a = true) (h2 : isv ds bd b = true) : isv ds bd ((a ||| b : Nat) : Int) = true := by
  refine (isv_iff hok (or_lt ha hb)).2 ?_
  rcases (isv_iff hok ha).1 h1 with h | h
  · exact .inl h
  · rcases (isv_iff hok hb).1 h2 with h' | h'
    · exact .inl h'
    · refine .inr ?_
      rw [Nat.and_or_distrib_right, h, h']
theorem isv_and {ds : List Df} {bd : Int} (hok : okFl ds bd = true) {a b : Nat} (ha : a < 4096) (h1 : isv ds bd a = true) : isv ds bd ((a &&& b : Nat) : Int) = true := by
  refine (isv_iff hok (Nat.lt_of_le_of_lt Nat.and_le_left ha)).2 ?_
  rcases (isv_iff hok ha).1 h1 with h | h
  · exact .inl h
  · refine .inr ?_
    rw [Nat.and_assoc, Nat.and_comm b, ← Nat.and_assoc, h]
theorem isv_mk {ds : List Df} {bd : Int} (hok : okFl ds bd = true) : isv ds bd (mkN ds) = true := (isv_iff hok (okFl_lt hok)).2 (.inr (Nat.and_self _))
theorem sub_or {w a b : Nat} (hw : w < 4096) (ha : a < 4096) (hb : b < 4096) : w - (w &&& (a ||| b)) = (w - (w &&& a)) &&& (w - (w &&& b)) := by
  apply Nat.eq_of_testBit_eq
  intro i
  rw [tb_sub hw (or_lt ha hb), Nat.testBit_and, tb_sub hw ha, tb_sub hw hb, Nat.testBit_or]
  cases w.testBit i <;> cases a.testBit i <;> cases b.testBit i <;> rfl
theorem sub_and {w a b : Nat} (hw : w < 4096) (ha : a < 4096) (hb : b < 4096) : w - (w &&& (a &&& b)) = (w - (w &&& a)) ||| (w - (w &&& b)) := by
  apply Nat.eq_of_testBit_eq
  intro i
  rw [tb_sub hw (Nat.lt_of_le_of_lt Nat.and_le_left ha), Nat.testBit_or, tb_sub hw ha, tb_sub hw hb, Nat.testBit_and]
  cases w.testBit i <;> cases a.testBit i <;> cases b.testBit i <;> rfl
theorem sub_sub {w a : Nat} (hw : w < 4096) (ha : a < 4096) (h : a &&& w = a) : w - (w &&& (w - (w &&& a))) = a := by
  apply Nat.eq_of_testBit_eq
  intro i
  have e := tb_of h i
  rw [tb_sub hw (sub_lt hw), tb_sub hw ha]
  cases hx : w.testBit i <;> cases hy : a.testBit i <;> simp_all
theorem sub_disj {w a : Nat} (hw : w < 4096) (ha : a < 4096) : a &&& (w - (w &&& a)) = 0 := by
  apply Nat.eq_of_testBit_eq
  intro i
  rw [Nat.testBit_and, tb_sub hw ha, Nat.zero_testBit]
  cases w.testBit i <;> cases a.testBit i <;> rfl
theorem sub_full {w a k : Nat} (hw : w < 4096) (ha : a < 4096) (h : k &&& w = k) : k &&& (a ||| (w - (w &&& a))) = k := by
  apply Nat.eq_of_testBit_eq
  intro i
  have e := tb_of h i
  rw [Nat.testBit_and, Nat.testBit_or, tb_sub hw ha]
  cases hx : w.testBit i <;> cases hy : a.testBit i <;> cases hz : k.testBit i <;> simp_all
theorem sub_in {w a k : Nat} (hw : w < 4096) (ha : a < 4096) (h : w &&& k = w) : (w - (w &&& a)) &&& k = w - (w &&& a) := by
  apply Nat.eq_of_testBit_eq
  intro i
  have e := tb_of h i
  rw [Nat.testBit_and, tb_sub hw ha]
  cases hx : w.testBit i <;> cases hy : a.testBit i <;> cases hz : k.testBit i <;> simp_all

theorem mvV_isv {ds : List Df} {bd : Int} {m : Nat} (hm : m < 4096) (h : isv ds bd m = true) : mvV ds bd m = ((m : Int), 0) := by
  have hok := (isv_ok h).1
  rw [mvV_pos hok (by omega)]
  rcases (isv_iff hok hm).1 h with h3 | h3
  · rw [if_pos (.inr h3)]
  · rw [if_pos (.inl ((sub_zero_iff _ _).2 h3))]
theorem mvV_ok {ds : List Df} {bd n : Int} (h : (mvV ds bd n).2 = 0) : ∃ m : Nat, m < 4096 ∧ (mvV ds bd n).1 = m ∧ isv ds bd m = true := by
  by_cases hc : okFl ds bd = true ∧ -4096 ≤ n ∧ n ≤ 4095
  · obtain ⟨hok, h1, h2⟩ := hc
    have hw := whN_lt (bd := bd) (okFl_rg hok)
    by_cases hn : n < 0
    · rw [mvV_neg hok h1 hn]
      exact ⟨_, sub_lt hw, rfl, isv_sub hok (by omega)⟩
    · obtain ⟨m, rfl⟩ := Int.eq_ofNat_of_zero_le (show 0 ≤ n by omega)
      have hm : m < 4096 := by omega
      rw [mvV_pos hok (by omega)] at h ⊢
      by_cases c1 : m - (m &&& mkN ds) = 0 ∨ bd = 3
      · rw [if_pos c1]
        exact ⟨m, hm, rfl, (isv_iff hok hm).2 (c1.symm.imp id (sub_zero_iff _ _).1)⟩
      · rw [if_neg c1] at h ⊢
        by_cases b1 : bd = 1
        · rw [if_pos b1]
          refine ⟨m &&& mkN ds, Nat.lt_of_le_of_lt Nat.and_le_left hm, rfl, (isv_iff hok (Nat.lt_of_le_of_lt Nat.and_le_left hm)).2 (.inr ?_)⟩
          rw [Nat.and_assoc, Nat.and_self]
        · rw [if_neg b1] at h
          by_cases b2 : bd = 2
          · rw [if_pos b2] at h; cases h
          · rw [if_neg b2] at h; cases h
  · rw [mvV_no hc] at h
    cases h
theorem mvV_not {ds : List Df} {bd : Int} {m : Nat} (hm : m < 4096) (h : isv ds bd m = true) : mvV ds bd (-1 - (m : Int)) = (ivI ds bd m, 0) := by
  have hok := (isv_ok h).1
  rw [mvV_neg hok (by omega) (by omega), ivI_nat h]
  have e : (-(-1 - (m : Int)) - 1).toNat = m := by omega
  rw [e]
end Go.Proofs.Ytgaiemhbllbaiaa
