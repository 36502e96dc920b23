/- Contracts: bits, in the reference and in Go's library. No condition but sizes. -/
import Derived.Test.YtbdehnjbglpfjaaF1
import Derived.Test.YtbdehnjbglpfjaaLC
set_option linter.unusedSimpArgs false
set_option linter.unusedVariables false
namespace Go.Proofs.Ytbdehnjbglpfjaa
open Go Go.RowKit

abbrev i64R (a : Int) : Prop := -9223372036854775808 ≤ a ∧ a ≤ 9223372036854775807
theorem pow2_bd {k : Nat} (h : k ≤ 12) : 1 ≤ (2 : Int) ^ k ∧ (k < 12 → (2 : Int) ^ k ≤ 2048) ∧ (k = 12 → (2 : Int) ^ k = 4096) := by
  have h0 : 1 ≤ 2 ^ k := Nat.one_le_two_pow
  rw [pow_cast]
  refine ⟨by omega, fun h1 => ?_, fun h1 => by subst h1; rfl⟩
  have : 2 ^ k ≤ 2 ^ 11 := Nat.pow_le_pow_right (by omega) (by omega)
  omega
theorem tdv_wrap {a p : Int} (ha : i64R a) (hp : 1 ≤ p) : IntKind.wrap .i64 (a.tdiv p) = a.tdiv p := by
  rcases Int.lt_or_le a 0 with h | h
  · have e : a.tdiv p = -((-a).tdiv p) := by rw [Int.neg_tdiv]; omega
    have h1 : (-a).tdiv p = (-a) / p := Int.tdiv_eq_ediv_of_nonneg (by omega)
    have h2 : 0 ≤ (-a) / p := Int.ediv_nonneg (by omega) (by omega)
    have h3 : (-a) / p ≤ -a := Int.ediv_le_self _ (by omega)
    have := ha.1
    exact w64 _ (by omega) (by omega)
  · have h1 : a.tdiv p = a / p := Int.tdiv_eq_ediv_of_nonneg h
    have h2 : 0 ≤ a / p := Int.ediv_nonneg h (by omega)
    have h3 : a / p ≤ a := Int.ediv_le_self _ h
    have := ha.2
    exact w64 _ (by omega) (by omega)

set_option maxRecDepth 10000 in
set_option maxHeartbeats 1000000 in
theorem both_c (σ : Sto) (ν : Nat) (a b : Int) (ha : i64R a) (hb : i64R b) :
    AC Try.prog 68 [.v (.int .i64 a), .v (.int .i64 b)] σ ν fun r δ => r = .v (.int .i64 (bothI a b)) ∧ δ = noS := by
  refine AC.intro [] ent_68 Try.func68 rfl (by simp [Try.f68]) (by simp) ?_
  intro K s hs hB hn hν hA hFr
  simp only [argT, Nat.zero_add, Nat.reduceAdd]
  repeat' (first
    | refine AWP.seq ?_
    | refine AWP.block ?_
    | (refine AWP.skip ?_; simp only [thenA, blockA, reduceIte])
    | (refine AWP.exit ?_; simp only [thenA, blockA, eq_self, reduceIte, Nat.reduceEqDiff, Nat.succ_ne_zero])
    | (refine AWP.ret ?_; simp only [thenA, blockA, reduceIte])
    | (refine AWP.region (by rfl) (fun KK hKK => ?_); (repeat (simp (disch := omega) [])); first | (refine hKK _ _ _ ?_; clear hKK KK; simp only [thenA, blockA, reduceIte]) | skip)
    | (refine AWP.if_t ?_ ?_; focus (simp (disch := omega) []; done))
    | (refine AWP.if_f ?_ ?_; focus (simp (disch := omega) []; done)))
  refine AWP.loop (fun n τ σ' M => ∃ k : Nat, k ≤ 12 ∧ n = 12 - k ∧ τ = [(0, .v (.int .i64 a)), (1, .v (.int .i64 b)), (5, .v (.int .i64 (btF a b k))), (6, .v (.int .i64 (2 ^ k)))] ∧ σ' = s ∧ M = K) ⟨_, _, _, _, ⟨0, by omega, rfl, rfl, rfl, rfl⟩, Weak.tau (by simp [LQ, btF])⟩ ?_
  rintro n τ σ' M ⟨k, hk, rfl, rfl, rfl, rfl⟩
  obtain ⟨hp1, hp2, hp3⟩ := pow2_bd hk
  obtain ⟨hb0, hb1⟩ := btF_bd a b k
  by_cases hlt : k < 12
  · have hp2 := hp2 hlt
    have e2 : (2 : Int) ^ (k + 1) = 2 ^ k * 2 := Int.pow_succ _ _
    have hs : btF a b (k + 1) = btF a b k + if (a.tdiv (2 ^ k)).tmod 2 = 1 ∧ (b.tdiv (2 ^ k)).tmod 2 = 1 then 2 ^ k else 0 := rfl
    have hd1 := tdv_wrap (p := 2 ^ k) ha hp1
    have hd2 := tdv_wrap (p := 2 ^ k) hb hp1
    generalize (2 : Int) ^ k = p at *
    have hle : p ≤ 4095 := by omega
    have hp0 : ¬ p = 0 := by omega
    by_cases c1 : (a.tdiv p).tmod 2 = 1
    · by_cases c2 : (b.tdiv p).tmod 2 = 1
      · rw [if_pos ⟨c1, c2⟩] at hs
        repeat' (first
          | refine AWP.seq ?_
          | refine AWP.block ?_
          | (refine AWP.skip ?_; simp only [thenA, blockA, reduceIte])
          | (refine AWP.exit ?_; simp only [thenA, blockA, eq_self, reduceIte, Nat.reduceEqDiff, Nat.succ_ne_zero])
          | (refine AWP.ret ?_; simp only [thenA, blockA, reduceIte])
          | (refine AWP.region (by rfl) (fun KK hKK => ?_); (repeat (simp (disch := omega) [hle, hp0, hd1, hd2, c1, c2])); first | (refine hKK _ _ _ ?_; clear hKK KK; simp only [thenA, blockA, reduceIte]) | skip)
          | (refine AWP.if_t ?_ ?_; focus (simp (disch := omega) [hle, hp0, hd1, hd2, c1, c2]; done))
          | (refine AWP.if_f ?_ ?_; focus (simp (disch := omega) [hle, hp0, hd1, hd2, c1, c2]; done)))
        refine ⟨_, _, _, _, ?_, ⟨k + 1, by omega, rfl, rfl, rfl, rfl⟩, Weak.tau (by simp [LQ, hs, e2])⟩
        omega
      · rw [if_neg (fun h => c2 h.2)] at hs
        repeat' (first
          | refine AWP.seq ?_
          | refine AWP.block ?_
          | (refine AWP.skip ?_; simp only [thenA, blockA, reduceIte])
          | (refine AWP.exit ?_; simp only [thenA, blockA, eq_self, reduceIte, Nat.reduceEqDiff, Nat.succ_ne_zero])
          | (refine AWP.ret ?_; simp only [thenA, blockA, reduceIte])
          | (refine AWP.region (by rfl) (fun KK hKK => ?_); (repeat (simp (disch := omega) [hle, hp0, hd1, hd2, c1, c2])); first | (refine hKK _ _ _ ?_; clear hKK KK; simp only [thenA, blockA, reduceIte]) | skip)
          | (refine AWP.if_t ?_ ?_; focus (simp (disch := omega) [hle, hp0, hd1, hd2, c1, c2]; done))
          | (refine AWP.if_f ?_ ?_; focus (simp (disch := omega) [hle, hp0, hd1, hd2, c1, c2]; done)))
        refine ⟨_, _, _, _, ?_, ⟨k + 1, by omega, rfl, rfl, rfl, rfl⟩, Weak.tau (by simp [LQ, hs, e2])⟩
        omega
    · rw [if_neg (fun h => c1 h.1)] at hs
      repeat' (first
        | refine AWP.seq ?_
        | refine AWP.block ?_
        | (refine AWP.skip ?_; simp only [thenA, blockA, reduceIte])
        | (refine AWP.exit ?_; simp only [thenA, blockA, eq_self, reduceIte, Nat.reduceEqDiff, Nat.succ_ne_zero])
        | (refine AWP.ret ?_; simp only [thenA, blockA, reduceIte])
        | (refine AWP.region (by rfl) (fun KK hKK => ?_); (repeat (simp (disch := omega) [hle, hp0, hd1, hd2, c1])); first | (refine hKK _ _ _ ?_; clear hKK KK; simp only [thenA, blockA, reduceIte]) | skip)
        | (refine AWP.if_t ?_ ?_; focus (simp (disch := omega) [hle, hp0, hd1, hd2, c1]; done))
        | (refine AWP.if_f ?_ ?_; focus (simp (disch := omega) [hle, hp0, hd1, hd2, c1]; done)))
      refine ⟨_, _, _, _, ?_, ⟨k + 1, by omega, rfl, rfl, rfl, rfl⟩, Weak.tau (by simp [LQ, hs, e2])⟩
      omega
  · have hk' : k = 12 := by omega
    have hp3 := hp3 hk'
    subst hk'
    repeat' (first
      | refine AWP.seq ?_
      | refine AWP.block ?_
      | (refine AWP.skip ?_; simp only [thenA, blockA, reduceIte])
      | (refine AWP.exit ?_; simp only [thenA, blockA, eq_self, reduceIte, Nat.reduceEqDiff, Nat.succ_ne_zero])
      | (refine AWP.ret ?_; simp only [thenA, blockA, reduceIte])
      | (refine AWP.region (by rfl) (fun KK hKK => ?_); (repeat (simp (disch := omega) [])); first | (refine hKK _ _ _ ?_; clear hKK KK; simp only [thenA, blockA, reduceIte]) | skip)
      | (refine AWP.if_t ?_ ?_; focus (simp (disch := omega) []; done))
      | (refine AWP.if_f ?_ ?_; focus (simp (disch := omega) []; done)))
    refine ⟨by simp, _, rfl, fin0 ⟨?_, rfl⟩ (by simp [resO, get, nms, nmss]; try (simp [nms, nmss] at hn; simp_all))⟩
    simp [resO, get, ren, rens, bothI]

set_option maxRecDepth 10000 in
set_option maxHeartbeats 400000 in
theorem either_c (σ : Sto) (ν : Nat) (a b : Int) (ha : i64R a) (hb : i64R b) :
    AC Try.prog 117 [.v (.int .i64 a), .v (.int .i64 b)] σ ν fun r δ => r = .v (.int .i64 (eitherI a b)) ∧ δ = noS := by
  refine AC.intro [] ent_117 Try.func117 rfl (by simp [Try.f117]) (by simp) ?_
  intro K s hs hB hn hν hA hFr
  simp only [argT, Nat.zero_add, Nat.reduceAdd]
  repeat' (first
    | refine AWP.seq ?_
    | refine AWP.block ?_
    | (refine AWP.skip ?_; simp only [thenA, blockA, reduceIte])
    | (refine AWP.exit ?_; simp only [thenA, blockA, eq_self, reduceIte, Nat.reduceEqDiff, Nat.succ_ne_zero])
    | (refine AWP.ret ?_; simp only [thenA, blockA, reduceIte])
    | (refine AWP.region (by rfl) (fun KK hKK => ?_); (repeat (simp (disch := omega) [])); first | (refine hKK _ _ _ ?_; clear hKK KK; simp only [thenA, blockA, reduceIte]) | skip)
    | (refine AWP.if_t ?_ ?_; focus (simp (disch := omega) []; done))
    | (refine AWP.if_f ?_ ?_; focus (simp (disch := omega) []; done)))
  refine aStop_of (both_c _ _ a b ha hb) ?_
  rintro r δ ⟨rfl, rfl⟩
  (repeat (simp (disch := omega) []))
  first | (refine hKK _ _ _ ?_; clear hKK KK; simp only [thenA, blockA, reduceIte]) | skip
  repeat' (first
    | refine AWP.seq ?_
    | refine AWP.block ?_
    | (refine AWP.skip ?_; simp only [thenA, blockA, reduceIte])
    | (refine AWP.exit ?_; simp only [thenA, blockA, eq_self, reduceIte, Nat.reduceEqDiff, Nat.succ_ne_zero])
    | (refine AWP.ret ?_; simp only [thenA, blockA, reduceIte])
    | (refine AWP.region (by rfl) (fun KK hKK => ?_); (repeat (simp (disch := omega) [])); first | (refine hKK _ _ _ ?_; clear hKK KK; simp only [thenA, blockA, reduceIte]) | skip)
    | (refine AWP.if_t ?_ ?_; focus (simp (disch := omega) []; done))
    | (refine AWP.if_f ?_ ?_; focus (simp (disch := omega) []; done)))
  refine ⟨by simp, _, rfl, fin0 ⟨?_, rfl⟩ (by simp [resO, get, nms, nmss]; try (simp [nms, nmss] at hn; simp_all))⟩
  simp [resO, get, ren, rens, eitherI]
set_option maxRecDepth 10000 in
set_option maxHeartbeats 400000 in
theorem less_c (σ : Sto) (ν : Nat) (a b : Int) (ha : i64R a) (hb : i64R b) :
    AC Try.prog 118 [.v (.int .i64 a), .v (.int .i64 b)] σ ν fun r δ => r = .v (.int .i64 (lessI a b)) ∧ δ = noS := by
  refine AC.intro [] ent_118 Try.func118 rfl (by simp [Try.f118]) (by simp) ?_
  intro K s hs hB hn hν hA hFr
  simp only [argT, Nat.zero_add, Nat.reduceAdd]
  repeat' (first
    | refine AWP.seq ?_
    | refine AWP.block ?_
    | (refine AWP.skip ?_; simp only [thenA, blockA, reduceIte])
    | (refine AWP.exit ?_; simp only [thenA, blockA, eq_self, reduceIte, Nat.reduceEqDiff, Nat.succ_ne_zero])
    | (refine AWP.ret ?_; simp only [thenA, blockA, reduceIte])
    | (refine AWP.region (by rfl) (fun KK hKK => ?_); (repeat (simp (disch := omega) [])); first | (refine hKK _ _ _ ?_; clear hKK KK; simp only [thenA, blockA, reduceIte]) | skip)
    | (refine AWP.if_t ?_ ?_; focus (simp (disch := omega) []; done))
    | (refine AWP.if_f ?_ ?_; focus (simp (disch := omega) []; done)))
  refine aStop_of (both_c _ _ a b ha hb) ?_
  rintro r δ ⟨rfl, rfl⟩
  (repeat (simp (disch := omega) []))
  first | (refine hKK _ _ _ ?_; clear hKK KK; simp only [thenA, blockA, reduceIte]) | skip
  repeat' (first
    | refine AWP.seq ?_
    | refine AWP.block ?_
    | (refine AWP.skip ?_; simp only [thenA, blockA, reduceIte])
    | (refine AWP.exit ?_; simp only [thenA, blockA, eq_self, reduceIte, Nat.reduceEqDiff, Nat.succ_ne_zero])
    | (refine AWP.ret ?_; simp only [thenA, blockA, reduceIte])
    | (refine AWP.region (by rfl) (fun KK hKK => ?_); (repeat (simp (disch := omega) [])); first | (refine hKK _ _ _ ?_; clear hKK KK; simp only [thenA, blockA, reduceIte]) | skip)
    | (refine AWP.if_t ?_ ?_; focus (simp (disch := omega) []; done))
    | (refine AWP.if_f ?_ ?_; focus (simp (disch := omega) []; done)))
  refine ⟨by simp, _, rfl, fin0 ⟨?_, rfl⟩ (by simp [resO, get, nms, nmss]; try (simp [nms, nmss] at hn; simp_all))⟩
  simp [resO, get, ren, rens, lessI]

set_option maxRecDepth 10000 in
set_option maxHeartbeats 1000000 in
theorem maskS_c (σ : Sto) (ν : Nat) (x : AV) (ds : List Df) (hx : Sl σ x 2 (rowsD ds)) (hlen : ds.length ≤ 9223372036854775807) (hv : ∀ d ∈ ds, i64R d.2) :
    AC Try.prog 76 [x] σ ν fun r δ => r = .v (.int .i64 (mkS ds)) ∧ δ = noS := by
  obtain ⟨b, o, cap, z, rfl⟩ := hx.out
  simp only [rowsD_len] at hx ⊢
  refine AC.intro [] ent_76 Try.func76 rfl (by simp [Try.f76]) (by simp) ?_
  intro K s hs hB hn hν hA hFr
  simp only [argT, Nat.zero_add, Nat.reduceAdd]
  have hx' := hx.vw hs.vw
  repeat' (first
    | refine AWP.seq ?_
    | refine AWP.block ?_
    | (refine AWP.skip ?_; simp only [thenA, blockA, reduceIte])
    | (refine AWP.exit ?_; simp only [thenA, blockA, eq_self, reduceIte, Nat.reduceEqDiff, Nat.succ_ne_zero])
    | (refine AWP.ret ?_; simp only [thenA, blockA, reduceIte])
    | (refine AWP.region (by rfl) (fun KK hKK => ?_); (repeat (simp (disch := omega) [])); first | (refine hKK _ _ _ ?_; clear hKK KK; simp only [thenA, blockA, reduceIte]) | skip)
    | (refine AWP.if_t ?_ ?_; focus (simp (disch := omega) []; done))
    | (refine AWP.if_f ?_ ?_; focus (simp (disch := omega) []; done)))
  refine AWP.loop (fun n τ σ' M => ∃ k : Nat, k ≤ ds.length ∧ n = ds.length - k ∧ τ = [(0, .sl b o ds.length cap z), (3, .v (.int .i64 (mkS (ds.take k)))), (4, .v (.int .i64 k))] ∧ σ' = s ∧ K ≤ M) ⟨_, _, _, _, ⟨0, by omega, rfl, rfl, rfl, Nat.le_refl _⟩, Weak.tau (by simp [LQ, mkS])⟩ ?_
  rintro n τ σ' M ⟨k, hk, rfl, rfl, rfl, hM⟩
  by_cases hlt : k < ds.length
  · obtain ⟨_, rfl, kb, hkb, hat⟩ := hx'.at (i := k) (by rw [rowsD_len]; exact hlt)
    have hrow : (rowsD ds)[k]'(by rw [rowsD_len]; exact hlt) = [.v (.string ds[k].1), .v (.int .i64 ds[k].2)] := by simp [rowsD, rowD]
    rw [hrow] at hat
    have hst := mkS_take hlt
    repeat' (first
      | refine AWP.seq ?_
      | refine AWP.block ?_
      | (refine AWP.skip ?_; simp only [thenA, blockA, reduceIte])
      | (refine AWP.exit ?_; simp only [thenA, blockA, eq_self, reduceIte, Nat.reduceEqDiff, Nat.succ_ne_zero])
      | (refine AWP.ret ?_; simp only [thenA, blockA, reduceIte])
      | (refine AWP.region (by rfl) (fun KK hKK => ?_); (repeat (simp (disch := omega) [hlt, hkb, hat])); first | (refine hKK _ _ _ ?_; clear hKK KK; simp only [thenA, blockA, reduceIte]) | skip)
      | (refine AWP.if_t ?_ ?_; focus (simp (disch := omega) [hlt, hkb, hat]; done))
      | (refine AWP.if_f ?_ ?_; focus (simp (disch := omega) [hlt, hkb, hat]; done)))
    refine aStop_of (either_c _ _ _ _ (mkS_rg _) (hv _ (List.getElem_mem hlt))) ?_
    rintro r δ ⟨rfl, rfl⟩
    (repeat (simp (disch := omega) []))
    first | (refine hKK _ _ _ ?_; clear hKK KK; simp only [thenA, blockA, reduceIte]) | skip
    repeat' (first
      | refine AWP.seq ?_
      | refine AWP.block ?_
      | (refine AWP.skip ?_; simp only [thenA, blockA, reduceIte])
      | (refine AWP.exit ?_; simp only [thenA, blockA, eq_self, reduceIte, Nat.reduceEqDiff, Nat.succ_ne_zero])
      | (refine AWP.ret ?_; simp only [thenA, blockA, reduceIte])
      | (refine AWP.region (by rfl) (fun KK hKK => ?_); (repeat (simp (disch := omega) [])); first | (refine hKK _ _ _ ?_; clear hKK KK; simp only [thenA, blockA, reduceIte]) | skip)
      | (refine AWP.if_t ?_ ?_; focus (simp (disch := omega) []; done))
      | (refine AWP.if_f ?_ ?_; focus (simp (disch := omega) []; done)))
    refine ⟨_, _, _, _, ?_, ⟨k + 1, by omega, rfl, rfl, rfl, by omega⟩, Weak.tau (by simp [LQ, hst])⟩
    omega
  · have hk' : k = ds.length := by omega
    subst hk'
    repeat' (first
      | refine AWP.seq ?_
      | refine AWP.block ?_
      | (refine AWP.skip ?_; simp only [thenA, blockA, reduceIte])
      | (refine AWP.exit ?_; simp only [thenA, blockA, eq_self, reduceIte, Nat.reduceEqDiff, Nat.succ_ne_zero])
      | (refine AWP.ret ?_; simp only [thenA, blockA, reduceIte])
      | (refine AWP.region (by rfl) (fun KK hKK => ?_); (repeat (simp (disch := omega) [])); first | (refine hKK _ _ _ ?_; clear hKK KK; simp only [thenA, blockA, reduceIte]) | skip)
      | (refine AWP.if_t ?_ ?_; focus (simp (disch := omega) []; done))
      | (refine AWP.if_f ?_ ?_; focus (simp (disch := omega) []; done)))
    refine ⟨by simp, _, rfl, fin0 ⟨?_, rfl⟩ (by simp [resO, get, nms, nmss]; try (simp [nms, nmss] at hn; simp_all))⟩
    simp [resO, get, ren, rens]

theorem pcF_half (f n : Nat) : pcF (f + 1) n = n % 2 + pcF f (n / 2) := rfl
set_option maxRecDepth 10000 in
set_option maxHeartbeats 1000000 in
theorem bitCount_c (σ : Sto) (ν : Nat) (m : Nat) (hm : m < 4096) :
    AC Try.prog 75 [.v (.int .i64 m)] σ ν fun r δ => r = .v (.int .i64 (pcN m)) ∧ δ = noS := by
  refine AC.intro [] ent_75 Try.func75 rfl (by simp [Try.f75]) (by simp) ?_
  intro K s hs hB hn hν hA hFr
  simp only [argT, Nat.zero_add, Nat.reduceAdd]
  repeat' (first
    | refine AWP.seq ?_
    | refine AWP.block ?_
    | (refine AWP.skip ?_; simp only [thenA, blockA, reduceIte])
    | (refine AWP.exit ?_; simp only [thenA, blockA, eq_self, reduceIte, Nat.reduceEqDiff, Nat.succ_ne_zero])
    | (refine AWP.ret ?_; simp only [thenA, blockA, reduceIte])
    | (refine AWP.region (by rfl) (fun KK hKK => ?_); (repeat (simp (disch := omega) [])); first | (refine hKK _ _ _ ?_; clear hKK KK; simp only [thenA, blockA, reduceIte]) | skip)
    | (refine AWP.if_t ?_ ?_; focus (simp (disch := omega) []; done))
    | (refine AWP.if_f ?_ ?_; focus (simp (disch := omega) []; done)))
  refine AWP.loop (fun n τ σ' M => ∃ j f out : Nat, f ≤ 12 ∧ n = f ∧ j < 2 ^ f ∧ out + pcF f j = pcN m ∧ τ = [(0, .v (.int .i64 j)), (3, .v (.int .i64 out))] ∧ σ' = s ∧ M = K) ⟨_, _, _, _, ⟨m, 12, 0, by omega, rfl, hm, by simp [pcN], rfl, rfl, rfl⟩, Weak.tau (by simp [LQ])⟩ ?_
  rintro n τ σ' M ⟨j, f, out, hf, rfl, hj, hpc, rfl, rfl, rfl⟩
  have hpl : pcN m ≤ 12 := pcF_le 12 m
  have hj2 : j < 4096 := Nat.lt_of_lt_of_le hj (Nat.pow_le_pow_right (by omega) hf)
  by_cases hlt : (0 : Int) < j
  · match n, hj, hpc with
    | 0, hj, _ => simp at hj; omega
    | f + 1, hj, hpc =>
      rw [pcF_half] at hpc
      have hq : ((j : Int)).tdiv 2 = ((j / 2 : Nat) : Int) := by rw [Int.tdiv_eq_ediv_of_nonneg (by omega)]; omega
      have hr : ((j : Int)).tmod 2 = ((j % 2 : Nat) : Int) := by rw [Int.tmod_eq_emod_of_nonneg (by omega)]; omega
      have hln : 0 < j := by omega
      repeat' (first
        | refine AWP.seq ?_
        | refine AWP.block ?_
        | (refine AWP.skip ?_; simp only [thenA, blockA, reduceIte])
        | (refine AWP.exit ?_; simp only [thenA, blockA, eq_self, reduceIte, Nat.reduceEqDiff, Nat.succ_ne_zero])
        | (refine AWP.ret ?_; simp only [thenA, blockA, reduceIte])
        | (refine AWP.region (by rfl) (fun KK hKK => ?_); (repeat (simp (disch := omega) [hlt, hln, hq, hr])); first | (refine hKK _ _ _ ?_; clear hKK KK; simp only [thenA, blockA, reduceIte]) | skip)
        | (refine AWP.if_t ?_ ?_; focus (simp (disch := omega) [hlt, hln, hq, hr]; done))
        | (refine AWP.if_f ?_ ?_; focus (simp (disch := omega) [hlt, hln, hq, hr]; done)))
      refine ⟨_, _, _, _, ?_, ⟨j / 2, f, out + j % 2, by omega, rfl, by rw [Nat.pow_succ] at hj; omega, by omega, rfl, rfl, rfl⟩, Weak.tau (by simp [LQ])⟩
      omega
  · have hj0 : j = 0 := by omega
    subst hj0
    rw [pcF_zero, Nat.add_zero] at hpc
    repeat' (first
      | refine AWP.seq ?_
      | refine AWP.block ?_
      | (refine AWP.skip ?_; simp only [thenA, blockA, reduceIte])
      | (refine AWP.exit ?_; simp only [thenA, blockA, eq_self, reduceIte, Nat.reduceEqDiff, Nat.succ_ne_zero])
      | (refine AWP.ret ?_; simp only [thenA, blockA, reduceIte])
      | (refine AWP.region (by rfl) (fun KK hKK => ?_); (repeat (simp (disch := omega) [hlt])); first | (refine hKK _ _ _ ?_; clear hKK KK; simp only [thenA, blockA, reduceIte]) | skip)
      | (refine AWP.if_t ?_ ?_; focus (simp (disch := omega) [hlt]; done))
      | (refine AWP.if_f ?_ ?_; focus (simp (disch := omega) [hlt]; done)))
    refine ⟨by simp, _, rfl, fin0 ⟨?_, rfl⟩ (by simp [resO, get, nms, nmss]; try (simp [nms, nmss] at hn; simp_all))⟩
    simp [resO, get, ren, rens, hpc]

/-- The next bit behind all values. -/
theorem pw_nat {j : Nat} (h : j ≤ 12) : 1 ≤ 2 ^ j ∧ 2 ^ j ≤ 4096 := ⟨Nat.one_le_two_pow, by have := Nat.pow_le_pow_right (n := 2) (by omega) h; omega⟩
end Go.Proofs.Ytbdehnjbglpfjaa
