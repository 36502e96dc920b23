/- Plain laws of arms: how many numbers they match, which bits are free. No condition: nothing of the program stands here. -/
import Derived.Test.YtbdehnjbglpfjaaA4
import Derived.Test.YtbdehnjbglpfjaaA5
set_option linter.unusedSimpArgs false
set_option linter.unusedVariables false
namespace Go.Proofs.Ytbdehnjbglpfjaa
open Go Go.RowKit

theorem pcN_part {m a : Nat} (h : a &&& m = a) : pcN (m - a) + pcN a = pcN m := pcF_sub 12 m a h
theorem pcN_mono {m a : Nat} (h : a &&& m = a) : pcN a ≤ pcN m := by
  have := pcN_part h
  omega
theorem pcN_pow : ∀ j, j < 12 → pcN (2 ^ j) = 1 := by decide
theorem pow_lt12 {j : Nat} (h : j < 12) : 2 ^ j < 4096 := by
  have := Nat.pow_lt_pow_right (a := 2) (by omega) h
  omega
theorem low_bit {n : Nat} (h : n < 4096) (h0 : n ≠ 0) : ∃ t, t < 12 ∧ n.testBit t = true := by
  obtain ⟨t, ht⟩ := Nat.exists_testBit_of_ne_zero h0
  refine ⟨t, ?_, ht⟩
  rcases Nat.lt_or_ge t 12 with h1 | h1
  · exact h1
  · rw [tb_big h (by omega)] at ht
    cases ht
theorem pow_in {n j : Nat} : 2 ^ j &&& n = 2 ^ j ↔ n.testBit j = true := by
  constructor
  · intro h
    have e := tb_of h j
    rw [Nat.testBit_two_pow] at e
    simpa using e
  · intro h
    apply Nat.eq_of_testBit_eq
    intro i
    rw [Nat.testBit_and, Nat.testBit_two_pow]
    by_cases e : j = i
    · subst e
      simp [h]
    · simp [e]
/-- One more bit of an arm. -/
theorem or_add {a b : Nat} (h : a &&& b = 0) : a + b = a ||| b := by
  have := or_and_add a b
  omega
theorem bit_free {m a b p : Nat} (hm : m < 4096) (ha : a < 4096) (hb : b < 4096) (hp : p &&& (m - (m &&& (a ||| b))) = p) (i : Nat) : p.testBit i = true → m.testBit i = true ∧ a.testBit i = false ∧ b.testBit i = false := by
  intro h
  have e := tb_of hp i
  rw [tb_sub hm (or_lt ha hb), Nat.testBit_or] at e
  cases h1 : m.testBit i <;> cases h2 : a.testBit i <;> cases h3 : b.testBit i <;> simp_all
theorem free_disj {m a b p : Nat} (hm : m < 4096) (ha : a < 4096) (hb : b < 4096) (hp : p &&& (m - (m &&& (a ||| b))) = p) : a &&& p = 0 ∧ b &&& p = 0 ∧ p &&& m = p := by
  have h := bit_free hm ha hb hp
  refine ⟨?_, ?_, ?_⟩ <;> apply Nat.eq_of_testBit_eq <;> intro i <;> have hi := h i <;> rw [Nat.testBit_and] <;> cases h1 : p.testBit i <;> simp_all
theorem free_less {m a b p : Nat} (hm : m < 4096) (ha : a < 4096) (hb : b < 4096) (hpl : p < 4096) (hp : p &&& (m - (m &&& (a ||| b))) = p) : m - (m &&& ((a ||| p) ||| b)) = (m - (m &&& (a ||| b))) - p := by
  have e1 : (m - (m &&& (a ||| b))) - p = (m - (m &&& (a ||| b))) - ((m - (m &&& (a ||| b))) &&& p) := by rw [Nat.and_comm _ p, hp]
  rw [e1]
  have hf := sub_lt (b := a ||| b) hm
  apply Nat.eq_of_testBit_eq
  intro i
  rw [tb_sub hf hpl, tb_sub hm (or_lt (or_lt ha hpl) hb), tb_sub hm (or_lt ha hb), Nat.testBit_or, Nat.testBit_or, Nat.testBit_or]
  cases m.testBit i <;> cases a.testBit i <;> cases b.testBit i <;> cases p.testBit i <;> rfl
theorem vaB_nat {ds : List Df} {bd : Int} {a b : Nat} (hok : okFl ds bd = true) (h1 : a &&& mkN ds = a) (h2 : b &&& mkN ds = b) (h3 : a &&& b = 0) : vaB ds bd a b = true := by
  unfold vaB
  rw [hok, Bool.true_and, aokB_nat]
  exact decide_eq_true ⟨h1, h2, h3⟩
theorem caI_nat {ds : List Df} {bd : Int} {a b : Nat} (h : vaB ds bd a b = true) : caI ds bd a b = ((2 ^ pcN (mkN ds - (mkN ds &&& (a ||| b))) : Nat) : Int) := by
  unfold caI
  rw [if_pos h, Int.toNat_natCast, Int.toNat_natCast]
/-- An arm with one bit more matches half as many. -/
theorem half {m a b p j : Nat} (hm : m < 4096) (ha : a < 4096) (hb : b < 4096) (hj : j < 12) (hpe : p = 2 ^ j) (hp : p &&& (m - (m &&& (a ||| b))) = p) :
    2 ^ pcN (m - (m &&& ((a ||| p) ||| b))) + 2 ^ pcN (m - (m &&& ((a ||| p) ||| b))) = 2 ^ pcN (m - (m &&& (a ||| b))) := by
  have hpl : p < 4096 := by rw [hpe]; exact pow_lt12 hj
  rw [free_less hm ha hb hpl hp]
  have h1 := pcN_part hp
  have h2 : pcN p = 1 := by rw [hpe]; exact pcN_pow j hj
  rw [← h1, h2, Nat.pow_succ]
  omega
theorem count_all {ds : List Df} {bd : Int} {a b j : Nat} (hv : vaB ds bd a b = true) (ha : a < 4096) (hb : b < 4096) (hj : j < 12) (hp : 2 ^ j &&& (mkN ds - (mkN ds &&& (a ||| b))) = 2 ^ j) :
    caI ds bd ((a + 2 ^ j : Nat) : Int) b = caI ds bd a ((b + 2 ^ j : Nat) : Int) ∧ caI ds bd ((a + 2 ^ j : Nat) : Int) b + caI ds bd a ((b + 2 ^ j : Nat) : Int) = caI ds bd a b := by
  obtain ⟨hfl, a', b', e1, e2, _, _, h1, h2, h3⟩ := vaB_ok hv
  obtain rfl : a = a' := by omega
  obtain rfl : b = b' := by omega
  have hm := okFl_lt hfl
  have hpl := pow_lt12 hj
  obtain ⟨d1, d2, d3⟩ := free_disj hm ha hb hp
  have hp2 : 2 ^ j &&& (mkN ds - (mkN ds &&& (b ||| a))) = 2 ^ j := by rw [Nat.or_comm b a]; exact hp
  rw [or_add d1, or_add d2]
  have v1 : vaB ds bd ((a ||| 2 ^ j : Nat) : Int) b = true := vaB_nat hfl (by rw [Nat.and_or_distrib_right, h1, d3]) h2 (by rw [Nat.and_or_distrib_right, h3, Nat.and_comm, d2]; rfl)
  have v2 : vaB ds bd a ((b ||| 2 ^ j : Nat) : Int) = true := vaB_nat hfl h1 (by rw [Nat.and_or_distrib_right, h2, d3]) (by rw [Nat.and_or_distrib_left, h3, d1]; rfl)
  rw [caI_nat v1, caI_nat v2, caI_nat hv]
  have e3 : a ||| (b ||| 2 ^ j) = (b ||| 2 ^ j) ||| a := Nat.or_comm _ _
  have e4 : (a ||| 2 ^ j) ||| b = a ||| (b ||| 2 ^ j) := by rw [Nat.or_assoc, Nat.or_comm (2 ^ j) b]
  have hh := half hm ha hb hj rfl hp
  rw [e4] at hh ⊢
  refine ⟨rfl, ?_⟩
  omega
theorem lv_mask {m : Nat} : m - (m &&& m) = 0 := by rw [Nat.and_self]; omega

/-- Arms that meet; arms that cover. -/
theorem ma_nat {ds : List Df} {bd : Int} {a b n : Nat} (hv : vaB ds bd a b = true) (hn : isv ds bd n = true) : maB ds bd a b n = mtB a b n := by simp [maB, hv, hn]
theorem meets {a b a2 b2 : Nat} (h : a &&& b = 0) (h2 : a2 &&& b2 = 0) : (decide (a &&& b2 = 0) && decide (a2 &&& b = 0)) = (mtB a b (a ||| a2) && mtB a2 b2 (a ||| a2)) := by
  have k1 : a &&& (a ||| a2) = a := by
    apply Nat.eq_of_testBit_eq
    intro i
    rw [Nat.testBit_and, Nat.testBit_or]
    cases a.testBit i <;> rfl
  have k2 : a2 &&& (a ||| a2) = a2 := by
    apply Nat.eq_of_testBit_eq
    intro i
    rw [Nat.testBit_and, Nat.testBit_or]
    cases a2.testBit i <;> cases a.testBit i <;> rfl
  have k3 : b &&& (a ||| a2) = a2 &&& b := by rw [Nat.and_or_distrib_left, Nat.and_comm b a, h, Nat.zero_or, Nat.and_comm]
  have k4 : b2 &&& (a ||| a2) = a &&& b2 := by rw [Nat.and_or_distrib_left, Nat.and_comm b2 a2, h2, Nat.or_zero, Nat.and_comm]
  unfold mtB
  rw [k1, k2, k3, k4, decide_eq_true rfl, decide_eq_true rfl, Bool.true_and, Bool.true_and, Bool.and_comm]
theorem mt_all {a b : Nat} (h : a &&& b = 0) : mtB a b a = true := by
  unfold mtB
  rw [Nat.and_self, Nat.and_comm b a, h]
  simp
theorem mt_not {m a b : Nat} (hm : m < 4096) (hb : b < 4096) (h1 : a &&& m = a) (h : a &&& b = 0) : mtB a b (m - (m &&& b)) = true := by
  unfold mtB
  rw [sub_disj hm hb, Bool.and_eq_true]
  refine ⟨decide_eq_true ?_, rfl⟩
  apply Nat.eq_of_testBit_eq
  intro i
  have e1 := tb_of h1 i
  have e2 := congrArg (fun x : Nat => x.testBit i) h
  simp only [Nat.testBit_and, Nat.zero_testBit] at e2
  rw [Nat.testBit_and, tb_sub hm hb]
  cases h1 : a.testBit i <;> cases h2 : m.testBit i <;> cases h3 : b.testBit i <;> simp_all
theorem cv_mt {m a b a2 b2 : Nat} (hm : m < 4096) (hb2 : b2 < 4096) (h1 : a &&& m = a) (h2 : b &&& m = b) (h3 : a &&& b = 0) (h4 : a2 &&& b2 = 0) : cvB a b a2 b2 = (mtB a b a2 && mtB a b (m - (m &&& b2))) := by
  have key : cvB a b a2 b2 = true ↔ (mtB a b a2 && mtB a b (m - (m &&& b2))) = true := by
    simp only [cvB, mtB, Bool.and_eq_true, decide_eq_true_eq]
    have t1 := tb_of h1
    have t2 := tb_of h2
    have t3 : ∀ i, (a.testBit i && b.testBit i) = false := fun i => by
      have := congrArg (fun x : Nat => x.testBit i) h3
      simpa only [Nat.testBit_and, Nat.zero_testBit] using this
    have t4 : ∀ i, (a2.testBit i && b2.testBit i) = false := fun i => by
      have := congrArg (fun x : Nat => x.testBit i) h4
      simpa only [Nat.testBit_and, Nat.zero_testBit] using this
    constructor
    · rintro ⟨u1, u2⟩
      have u1 := tb_of u1
      have u2 := tb_of u2
      refine ⟨⟨?_, ?_⟩, ?_, ?_⟩ <;> apply Nat.eq_of_testBit_eq <;> intro i <;> have t1 := t1 i <;> have t2 := t2 i <;> have t3 := t3 i <;> have t4 := t4 i <;> have u1 := u1 i <;> have u2 := u2 i <;> simp only [Nat.testBit_and, tb_sub hm hb2, Nat.zero_testBit] <;>
        cases e1 : a.testBit i <;> cases e2 : b.testBit i <;> cases e3 : a2.testBit i <;> cases e4 : b2.testBit i <;> cases e5 : m.testBit i <;> simp_all
    · rintro ⟨⟨u1, u2⟩, u3, u4⟩
      have u1 := tb_of u1
      have u4 : ∀ i, (b.testBit i && (m.testBit i && !b2.testBit i)) = false := fun i => by
        have := congrArg (fun x : Nat => x.testBit i) u4
        simpa only [Nat.testBit_and, tb_sub hm hb2, Nat.zero_testBit] using this
      refine ⟨?_, ?_⟩ <;> apply Nat.eq_of_testBit_eq <;> intro i <;> have t2 := t2 i <;> have u1 := u1 i <;> have u4 := u4 i <;> simp only [Nat.testBit_and] <;>
        cases e1 : a.testBit i <;> cases e2 : b.testBit i <;> cases e3 : a2.testBit i <;> cases e4 : b2.testBit i <;> cases e5 : m.testBit i <;> simp_all
  cases h : cvB a b a2 b2 with
  | true => exact (key.1 h).symm
  | false =>
    cases h' : (mtB a b a2 && mtB a b (m - (m &&& b2))) with
    | false => rfl
    | true => rw [key.2 h'] at h; cases h
theorem cv_count {m a b a2 b2 : Nat} (hm : m < 4096) (ha : a < 4096) (hb : b < 4096) (ha2 : a2 < 4096) (hb2 : b2 < 4096) (h : cvB a b a2 b2 = true) : 2 ^ pcN (m - (m &&& (a2 ||| b2))) ≤ 2 ^ pcN (m - (m &&& (a ||| b))) := by
  simp only [cvB, Bool.and_eq_true, decide_eq_true_eq] at h
  have u1 := tb_of h.1
  have u2 := tb_of h.2
  refine Nat.pow_le_pow_right (by omega) (pcN_mono ?_)
  apply Nat.eq_of_testBit_eq
  intro i
  have u1 := u1 i
  have u2 := u2 i
  rw [Nat.testBit_and, tb_sub hm (or_lt ha2 hb2), tb_sub hm (or_lt ha hb), Nat.testBit_or, Nat.testBit_or]
  cases e1 : a.testBit i <;> cases e2 : b.testBit i <;> cases e3 : a2.testBit i <;> cases e4 : b2.testBit i <;> cases e5 : m.testBit i <;> simp_all
theorem cv_meet {a b a2 b2 : Nat} (h4 : a2 &&& b2 = 0) (h : cvB a b a2 b2 = true) : a &&& b2 = 0 ∧ a2 &&& b = 0 := by
  simp only [cvB, Bool.and_eq_true, decide_eq_true_eq] at h
  constructor
  · rw [← h.1, Nat.and_assoc, h4, Nat.and_zero]
  · rw [← h.2, ← Nat.and_assoc, Nat.and_comm a2 b, Nat.and_assoc, h4, Nat.and_zero]
end Go.Proofs.Ytbdehnjbglpfjaa
