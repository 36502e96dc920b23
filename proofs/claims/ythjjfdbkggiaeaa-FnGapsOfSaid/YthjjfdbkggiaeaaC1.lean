/- Contracts of the leaves: names, ranges. No condition. -/
import Derived.Test.YthjjfdbkggiaeaaAbF
set_option linter.unusedSimpArgs false
set_option linter.unusedVariables false
namespace Go.Proofs.Ythjjfdbkggiaeaa
open Go Go.RowKit
set_option maxRecDepth 10000 in
set_option maxHeartbeats 400000 in
theorem in_c (σ : Sto) (ν : Nat) (n lo hi : Int) : AC Try.prog 108 [.v (.int .i64 n), .v (.int .i64 lo), .v (.int .i64 hi)] σ ν fun r δ => r = .v (.bool (decide (lo ≤ n ∧ n ≤ hi))) ∧ δ = noS := by
  refine AC.intro [] ent_108 Try.func108 rfl (by simp [Try.f108]) (by simp) ?_
  intro K s hs hB hn hν hA hFr
  simp only [argT, Nat.zero_add, Nat.reduceAdd]
  by_cases h1 : lo ≤ n
  · repeat' (first
      | refine AWP.seq ?_
      | refine AWP.block ?_
      | (refine AWP.skip ?_; simp only [thenA, blockA, reduceIte])
      | (refine AWP.exit ?_; simp only [thenA, blockA, eq_self, reduceIte, Nat.reduceEqDiff, Nat.succ_ne_zero])
      | (refine AWP.ret ?_; simp only [thenA, blockA, reduceIte])
      | (refine AWP.region (by rfl) (fun KK hKK => ?_); (repeat (simp (disch := omega) [h1])); first | (refine hKK _ _ _ ?_; clear hKK KK; simp only [thenA, blockA, reduceIte]) | skip)
      | (refine AWP.if_t ?_ ?_; focus (simp (disch := omega) [h1]; done))
      | (refine AWP.if_f ?_ ?_; focus (simp (disch := omega) [h1]; done)))
    refine ⟨by simp, _, rfl, fin0 ⟨?_, rfl⟩ (by simp [resO, get, nms, nmss]; try (simp [nms, nmss] at hn; simp_all))⟩
    simp [resO, get, ren, rens, h1]
  · repeat' (first
      | refine AWP.seq ?_
      | refine AWP.block ?_
      | (refine AWP.skip ?_; simp only [thenA, blockA, reduceIte])
      | (refine AWP.exit ?_; simp only [thenA, blockA, eq_self, reduceIte, Nat.reduceEqDiff, Nat.succ_ne_zero])
      | (refine AWP.ret ?_; simp only [thenA, blockA, reduceIte])
      | (refine AWP.region (by rfl) (fun KK hKK => ?_); (repeat (simp (disch := omega) [h1])); first | (refine hKK _ _ _ ?_; clear hKK KK; simp only [thenA, blockA, reduceIte]) | skip)
      | (refine AWP.if_t ?_ ?_; focus (simp (disch := omega) [h1]; done))
      | (refine AWP.if_f ?_ ?_; focus (simp (disch := omega) [h1]; done)))
    refine ⟨by simp, _, rfl, fin0 ⟨?_, rfl⟩ (by simp [resO, get, nms, nmss]; try (simp [nms, nmss] at hn; simp_all))⟩
    simp [resO, get, ren, rens, h1]

/-- The letters of a name, from k on. -/
def lower (l : List UInt8) : Bool := l.all fun c => decide (97 ≤ c.toNat ∧ c.toNat ≤ 122)
def vname (s : ByteArray) : Bool := lower s.data.toList && decide (1 ≤ (s.size : Int) ∧ (s.size : Int) ≤ 6)

theorem lower_snoc (t : ByteArray) (k : Nat) (h : k < t.size) : lower (t.data.toList.take (k + 1)) = (lower (t.data.toList.take k) && decide (97 ≤ t[k].toNat ∧ t[k].toNat ≤ 122)) := by
  rw [List.take_succ_eq_append_getElem (by simpa using h)]
  unfold lower
  rw [List.all_append]
  simp
  rfl
theorem lower_take (l : List UInt8) (k : Nat) (h : lower l = true) : lower (l.take k) = true := by
  unfold lower at *
  rw [List.all_eq_true] at *
  exact fun x hx => h x (List.mem_of_mem_take hx)

set_option maxRecDepth 10000 in
set_option maxHeartbeats 400000 in
theorem validName_c (σ : Sto) (ν : Nat) (t : ByteArray) (ht : t.size ≤ 9223372036854775807) : AC Try.prog 107 [.v (.string t)] σ ν fun r δ => r = .v (.bool (vname t)) ∧ δ = noS := by
  refine AC.intro [] ent_107 Try.func107 rfl (by simp [Try.f107]) (by simp) ?_
  intro K s hs hB hn hν hA hFr
  simp only [argT, Nat.zero_add, Nat.reduceAdd]
  repeat' (first
    | refine AWP.seq ?_
    | refine AWP.block ?_
    | (refine AWP.skip ?_; simp only [thenA, blockA, reduceIte])
    | (refine AWP.exit ?_; simp only [thenA, blockA, eq_self, reduceIte, Nat.reduceEqDiff, Nat.succ_ne_zero])
    | (refine AWP.ret ?_; simp only [thenA, blockA, reduceIte])
    | (refine AWP.region (by rfl) (fun KK hKK => ?_); (repeat (simp (disch := omega) [])); first | (refine hKK _ _ _ ?_; clear hKK KK; simp only [thenA, blockA, reduceIte]) | skip)
    | (refine AWP.if_t ?_ ?_; focus (simp (disch := omega) []; done))
    | (refine AWP.if_f ?_ ?_; focus (simp (disch := omega) []; done)))
  refine AWP.loop (fun n τ σ' M => ∃ k : Nat, k ≤ t.size ∧ n = t.size - k ∧ lower (t.data.toList.take k) = true ∧ τ = [(0, .v (.string t)), (3, .v (.int .i64 k))] ∧ σ' = s ∧ M = K) ⟨_, _, _, _, ⟨0, by omega, rfl, by simp [lower], rfl, rfl, rfl⟩, (Weak.mk [] (by simp) (by simp) (by omega) (by simp [LeT, ren, rens, swl, nms, nmss]) (LeS.base hB (by omega) (fun _ _ => rfl) (Over.refl _)))⟩ ?_
  rintro n τ σ' M ⟨k, hk, rfl, hl, rfl, rfl, rfl⟩
  by_cases hlt : k < t.size
  · have hs := lower_snoc t k hlt
    rw [hl, Bool.true_and] at hs
    by_cases h1 : (t[k].toNat : Int) < 97
    · have hv : vname t = false := by
        unfold vname
        cases hh : lower t.data.toList with
        | false => rfl
        | true =>
          have := lower_take _ (k + 1) hh
          rw [hs] at this
          simp at this
          omega
      repeat' (first
        | refine AWP.seq ?_
        | refine AWP.block ?_
        | (refine AWP.skip ?_; simp only [thenA, blockA, reduceIte])
        | (refine AWP.exit ?_; simp only [thenA, blockA, eq_self, reduceIte, Nat.reduceEqDiff, Nat.succ_ne_zero])
        | (refine AWP.ret ?_; simp only [thenA, blockA, reduceIte])
        | (refine AWP.region (by rfl) (fun KK hKK => ?_); (repeat (simp (disch := omega) [hlt, h1])); first | (refine hKK _ _ _ ?_; clear hKK KK; simp only [thenA, blockA, reduceIte]) | skip)
        | (refine AWP.if_t ?_ ?_; focus (simp (disch := omega) [hlt, h1]; done))
        | (refine AWP.if_f ?_ ?_; focus (simp (disch := omega) [hlt, h1]; done)))
      refine ⟨by simp, _, rfl, fin0 ⟨?_, rfl⟩ (by simp [resO, get, nms, nmss]; try (simp [nms, nmss] at hn; simp_all))⟩
      simp [resO, get, ren, rens, hv]
    · by_cases h2 : 122 < (t[k].toNat : Int)
      · have hv : vname t = false := by
          unfold vname
          cases hh : lower t.data.toList with
          | false => rfl
          | true =>
            have := lower_take _ (k + 1) hh
            rw [hs] at this
            simp at this
            omega
        repeat' (first
          | refine AWP.seq ?_
          | refine AWP.block ?_
          | (refine AWP.skip ?_; simp only [thenA, blockA, reduceIte])
          | (refine AWP.exit ?_; simp only [thenA, blockA, eq_self, reduceIte, Nat.reduceEqDiff, Nat.succ_ne_zero])
          | (refine AWP.ret ?_; simp only [thenA, blockA, reduceIte])
          | (refine AWP.region (by rfl) (fun KK hKK => ?_); (repeat (simp (disch := omega) [hlt, h1, h2])); first | (refine hKK _ _ _ ?_; clear hKK KK; simp only [thenA, blockA, reduceIte]) | skip)
          | (refine AWP.if_t ?_ ?_; focus (simp (disch := omega) [hlt, h1, h2]; done))
          | (refine AWP.if_f ?_ ?_; focus (simp (disch := omega) [hlt, h1, h2]; done)))
        refine ⟨by simp, _, rfl, fin0 ⟨?_, rfl⟩ (by simp [resO, get, nms, nmss]; try (simp [nms, nmss] at hn; simp_all))⟩
        simp [resO, get, ren, rens, hv]
      · repeat' (first
          | refine AWP.seq ?_
          | refine AWP.block ?_
          | (refine AWP.skip ?_; simp only [thenA, blockA, reduceIte])
          | (refine AWP.exit ?_; simp only [thenA, blockA, eq_self, reduceIte, Nat.reduceEqDiff, Nat.succ_ne_zero])
          | (refine AWP.ret ?_; simp only [thenA, blockA, reduceIte])
          | (refine AWP.region (by rfl) (fun KK hKK => ?_); (repeat (simp (disch := omega) [hlt, h1, h2])); first | (refine hKK _ _ _ ?_; clear hKK KK; simp only [thenA, blockA, reduceIte]) | skip)
          | (refine AWP.if_t ?_ ?_; focus (simp (disch := omega) [hlt, h1, h2]; done))
          | (refine AWP.if_f ?_ ?_; focus (simp (disch := omega) [hlt, h1, h2]; done)))
        refine ⟨_, _, _, _, ?_, ⟨k + 1, by omega, rfl, by rw [hs]; simp; omega, rfl, rfl, rfl⟩, (Weak.mk [] (by simp) (by simp) (by omega) (by simp [LeT, ren, rens, swl, nms, nmss]) (LeS.base hB (by omega) (fun _ _ => rfl) (Over.refl _)))⟩
        omega
  · have hk' : k = t.size := by omega
    subst hk'
    repeat' (first
      | refine AWP.seq ?_
      | refine AWP.block ?_
      | (refine AWP.skip ?_; simp only [thenA, blockA, reduceIte])
      | (refine AWP.exit ?_; simp only [thenA, blockA, eq_self, reduceIte, Nat.reduceEqDiff, Nat.succ_ne_zero])
      | (refine AWP.ret ?_; simp only [thenA, blockA, reduceIte])
      | (refine AWP.region (by rfl) (fun KK hKK => ?_); (repeat (simp (disch := omega) [])); first | (refine hKK _ _ _ ?_; clear hKK KK; simp only [thenA, blockA, reduceIte]) | skip)
      | (refine AWP.if_t ?_ ?_; focus (simp (disch := omega) []; done))
      | (refine AWP.if_f ?_ ?_; focus (simp (disch := omega) []; done)))
    refine aStop_of (in_c _ _ _ _ _) ?_
    rintro r δ ⟨rfl, rfl⟩
    (repeat (simp (disch := omega) []))
    first | (refine hKK _ _ _ ?_; clear hKK KK; simp only [thenA, blockA, reduceIte]) | skip
    have hl' : lower t.data.toList = true := by
      rw [← hl, List.take_of_length_le (by simp)]
    repeat' (first
      | refine AWP.seq ?_
      | refine AWP.block ?_
      | (refine AWP.skip ?_; simp only [thenA, blockA, reduceIte])
      | (refine AWP.exit ?_; simp only [thenA, blockA, eq_self, reduceIte, Nat.reduceEqDiff, Nat.succ_ne_zero])
      | (refine AWP.ret ?_; simp only [thenA, blockA, reduceIte])
      | (refine AWP.region (by rfl) (fun KK hKK => ?_); (repeat (simp (disch := omega) [])); first | (refine hKK _ _ _ ?_; clear hKK KK; simp only [thenA, blockA, reduceIte]) | skip)
      | (refine AWP.if_t ?_ ?_; focus (simp (disch := omega) []; done))
      | (refine AWP.if_f ?_ ?_; focus (simp (disch := omega) []; done)))
    refine ⟨by simp, _, rfl, fin0 ⟨?_, rfl⟩ (by simp [resO, get, nms, nmss]; try (simp [nms, nmss] at hn; simp_all))⟩
    simp [resO, get, ren, rens, vname, hl']
end Go.Proofs.Ythjjfdbkggiaeaa
