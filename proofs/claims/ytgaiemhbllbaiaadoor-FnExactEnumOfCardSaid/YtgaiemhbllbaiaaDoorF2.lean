/- Contracts: bits, in the reference and in Go's library. No condition but sizes. -/
import Derived.Test.YtgaiemhbllbaiaaDoorF1
import Derived.Test.YtgaiemhbllbaiaaDoorLC
set_option linter.unusedSimpArgs false
set_option linter.unusedVariables false
namespace Go.Proofs.YtgaiemhbllbaiaaDoor
open Go Go.RowKit

abbrev i64R (a : Int) : Prop := -9223372036854775808 ≤ a ∧ a ≤ 9223372036854775807
theorem pow2_bd {k : Nat} (h : k ≤ 12) : 1 ≤ (2 : Int) ^ k ∧ (k < 12 → (2 : Int) ^ k ≤ 2048) ∧ (k = 12 → (2 : Int) ^ k = 4096) := by
  have h0 : 1 ≤ 2 ^ k := Nat.one_le_two_pow
  rw [pow_cast]
  refine ⟨by omega, fun h1 => ?_, fun h1 => by subst h1; rfl⟩
  have : 2 ^ k ≤ 2 ^ 11 := Nat.pow_le_pow_right (by omega) (by omega)
  omega
theorem tdv_wrap {a p : Int} (ha : i64R a) (hp : 1 ≤ p) : IntKind.wrap .i64 (a.tdiv p) = a.tdiv p := by
  rcases Int.lt_or_le a 0 with h | h
  · have e : a.tdiv p = -((-a).tdiv p) := by rw [Int.neg_tdiv]; omega
    have h1 : (-a).tdiv p = (-a) / p := Int.tdiv_eq_ediv_of_nonneg (by omega)
    have h2 : 0 ≤ (-a) / p := Int.ediv_nonneg (by omega) (by omega)
    have h3 : (-a) / p ≤ -a := Int.ediv_le_self _ (by omega)
    have := ha.1
    exact w64 _ (by omega) (by omega)
  · have h1 : a.tdiv p = a / p := Int.tdiv_eq_ediv_of_nonneg h
    have h2 : 0 ≤ a / p := Int.ediv_nonneg h (by omega)
    have h3 : a / p ≤ a := Int.ediv_le_self _ h
    have := ha.2
    exact w64 _ (by omega) (by omega)

theorem pcF_half (f n : Nat) : pcF (f + 1) n = n % 2 + pcF f (n / 2) := rfl
set_option maxRecDepth 10000 in
set_option maxHeartbeats 1000000 in
theorem bitCount_c (σ : Sto) (ν : Nat) (m : Nat) (hm : m < 4096) :
    AC Tryd.prog 15 [.v (.int .i64 m)] σ ν fun r δ => r = .v (.int .i64 (pcN m)) ∧ δ = noS := by
  refine AC.intro [] ent_15 Tryd.func15 rfl (by simp [Tryd.f15]) (by simp) ?_
  intro K s hs hB hn hν hA hFr
  simp only [argT, Nat.zero_add, Nat.reduceAdd]
  repeat' (first
    | refine AWP.seq ?_
    | refine AWP.block ?_
    | (refine AWP.skip ?_; simp only [thenA, blockA, reduceIte])
    | (refine AWP.exit ?_; simp only [thenA, blockA, eq_self, reduceIte, Nat.reduceEqDiff, Nat.succ_ne_zero])
    | (refine AWP.ret ?_; simp only [thenA, blockA, reduceIte])
    | (refine AWP.region (by rfl) (fun KK hKK => ?_); (repeat (simp (disch := omega) [])); first | (refine hKK _ _ _ ?_; clear hKK KK; simp only [thenA, blockA, reduceIte]) | skip)
    | (refine AWP.if_t ?_ ?_; focus (simp (disch := omega) []; done))
    | (refine AWP.if_f ?_ ?_; focus (simp (disch := omega) []; done)))
  refine AWP.loop (fun n τ σ' M => ∃ j f out : Nat, f ≤ 12 ∧ n = f ∧ j < 2 ^ f ∧ out + pcF f j = pcN m ∧ τ = [(0, .v (.int .i64 j)), (3, .v (.int .i64 out))] ∧ σ' = s ∧ M = K) ⟨_, _, _, _, ⟨m, 12, 0, by omega, rfl, hm, by simp [pcN], rfl, rfl, rfl⟩, Weak.tau (by simp [LQ])⟩ ?_
  rintro n τ σ' M ⟨j, f, out, hf, rfl, hj, hpc, rfl, rfl, rfl⟩
  have hpl : pcN m ≤ 12 := pcF_le 12 m
  have hj2 : j < 4096 := Nat.lt_of_lt_of_le hj (Nat.pow_le_pow_right (by omega) hf)
  by_cases hlt : (0 : Int) < j
  · match n, hj, hpc with
    | 0, hj, _ => simp at hj; omega
    | f + 1, hj, hpc =>
      rw [pcF_half] at hpc
      have hq : ((j : Int)).tdiv 2 = ((j / 2 : Nat) : Int) := by rw [Int.tdiv_eq_ediv_of_nonneg (by omega)]; omega
      have hr : ((j : Int)).tmod 2 = ((j % 2 : Nat) : Int) := by rw [Int.tmod_eq_emod_of_nonneg (by omega)]; omega
      have hln : 0 < j := by omega
      repeat' (first
        | refine AWP.seq ?_
        | refine AWP.block ?_
        | (refine AWP.skip ?_; simp only [thenA, blockA, reduceIte])
        | (refine AWP.exit ?_; simp only [thenA, blockA, eq_self, reduceIte, Nat.reduceEqDiff, Nat.succ_ne_zero])
        | (refine AWP.ret ?_; simp only [thenA, blockA, reduceIte])
        | (refine AWP.region (by rfl) (fun KK hKK => ?_); (repeat (simp (disch := omega) [hlt, hln, hq, hr])); first | (refine hKK _ _ _ ?_; clear hKK KK; simp only [thenA, blockA, reduceIte]) | skip)
        | (refine AWP.if_t ?_ ?_; focus (simp (disch := omega) [hlt, hln, hq, hr]; done))
        | (refine AWP.if_f ?_ ?_; focus (simp (disch := omega) [hlt, hln, hq, hr]; done)))
      refine ⟨_, _, _, _, ?_, ⟨j / 2, f, out + j % 2, by omega, rfl, by rw [Nat.pow_succ] at hj; omega, by omega, rfl, rfl, rfl⟩, Weak.tau (by simp [LQ])⟩
      omega
  · have hj0 : j = 0 := by omega
    subst hj0
    rw [pcF_zero, Nat.add_zero] at hpc
    repeat' (first
      | refine AWP.seq ?_
      | refine AWP.block ?_
      | (refine AWP.skip ?_; simp only [thenA, blockA, reduceIte])
      | (refine AWP.exit ?_; simp only [thenA, blockA, eq_self, reduceIte, Nat.reduceEqDiff, Nat.succ_ne_zero])
      | (refine AWP.ret ?_; simp only [thenA, blockA, reduceIte])
      | (refine AWP.region (by rfl) (fun KK hKK => ?_); (repeat (simp (disch := omega) [hlt])); first | (refine hKK _ _ _ ?_; clear hKK KK; simp only [thenA, blockA, reduceIte]) | skip)
      | (refine AWP.if_t ?_ ?_; focus (simp (disch := omega) [hlt]; done))
      | (refine AWP.if_f ?_ ?_; focus (simp (disch := omega) [hlt]; done)))
    refine ⟨by simp, _, rfl, fin0 ⟨?_, rfl⟩ (by simp [resO, get, nms, nmss]; try (simp [nms, nmss] at hn; simp_all))⟩
    simp [resO, get, ren, rens, hpc]

/-- The next bit behind all values. -/
theorem pw_nat {j : Nat} (h : j ≤ 12) : 1 ≤ 2 ^ j ∧ 2 ^ j ≤ 4096 := ⟨Nat.one_le_two_pow, by have := Nat.pow_le_pow_right (n := 2) (by omega) h; omega⟩
end Go.Proofs.YtgaiemhbllbaiaaDoor
