/- Contracts: bits, in the reference and in Go's library. No condition but sizes. -/
import Derived.Test.YtbcooikoaplhcaaF1
import Derived.Test.YtbcooikoaplhcaaLC
set_option linter.unusedSimpArgs false
set_option linter.unusedVariables false
namespace Go.Proofs.Ytbcooikoaplhcaa
open Go Go.RowKit

abbrev i64R (a : Int) : Prop := -9223372036854775808 ≤ a ∧ a ≤ 9223372036854775807
theorem pow2_bd {k : Nat} (h : k ≤ 12) : 1 ≤ (2 : Int) ^ k ∧ (k < 12 → (2 : Int) ^ k ≤ 2048) ∧ (k = 12 → (2 : Int) ^ k = 4096) := by
  have h0 : 1 ≤ 2 ^ k := Nat.one_le_two_pow
  rw [pow_cast]
  refine ⟨by omega, fun h1 => ?_, fun h1 => by subst h1; rfl⟩
  have : 2 ^ k ≤ 2 ^ 11 := Nat.pow_le_pow_right (by omega) (by omega)
  omega
theorem tdv_wrap {a p : Int} (ha : i64R a) (hp : 1 ≤ p) : IntKind.wrap .i64 (a.tdiv p) = a.tdiv p := by
  rcases Int.lt_or_le a 0 with h | h
  · have e : a.tdiv p = -((-a).tdiv p) := by rw [Int.neg_tdiv]; omega
    have h1 : (-a).tdiv p = (-a) / p := Int.tdiv_eq_ediv_of_nonneg (by omega)
    have h2 : 0 ≤ (-a) / p := Int.ediv_nonneg (by omega) (by omega)
    have h3 : (-a) / p ≤ -a := Int.ediv_le_self _ (by omega)
    have := ha.1
    exact w64 _ (by omega) (by omega)
  · have h1 : a.tdiv p = a / p := Int.tdiv_eq_ediv_of_nonneg h
    have h2 : 0 ≤ a / p := Int.ediv_nonneg h (by omega)
    have h3 : a / p ≤ a := Int.ediv_le_self _ h
    have := ha.2
    exact w64 _ (by omega) (by omega)

set_option maxRecDepth 10000 in
set_option maxHeartbeats 1000000 in
theorem both_c (σ : Sto) (ν : Nat) (a b : Int) (ha : i64R a) (hb : i64R b) :
    AC Try.prog 98 [.v (.int .i64 a), .v (.int .i64 b)] σ ν fun r δ => r = .v (.int .i64 (bothI a b)) ∧ δ = noS := by
  refine AC.intro [] ent_98 Try.func98 rfl (by simp [Try.f98]) (by simp) ?_
  intro K s hs hB hn hν hA hFr
  simp only [argT, Nat.zero_add, Nat.reduceAdd]
  repeat' (first
    | refine AWP.seq ?_
    | refine AWP.block ?_
    | (refine AWP.skip ?_; simp only [thenA, blockA, reduceIte])
    | (refine AWP.exit ?_; simp only [thenA, blockA, eq_self, reduceIte, Nat.reduceEqDiff, Nat.succ_ne_zero])
    | (refine AWP.ret ?_; simp only [thenA, blockA, reduceIte])
    | (refine AWP.region (by rfl) (fun KK hKK => ?_); (repeat (simp (disch := omega) [])); first | (refine hKK _ _ _ ?_; clear hKK KK; simp only [thenA, blockA, reduceIte]) | skip)
    | (refine AWP.if_t ?_ ?_; focus (simp (disch := omega) []; done))
    | (refine AWP.if_f ?_ ?_; focus (simp (disch := omega) []; done)))
  refine AWP.loop (fun n τ σ' M => ∃ k : Nat, k ≤ 12 ∧ n = 12 - k ∧ τ = [(0, .v (.int .i64 a)), (1, .v (.int .i64 b)), (5, .v (.int .i64 (btF a b k))), (6, .v (.int .i64 (2 ^ k)))] ∧ σ' = s ∧ M = K) ⟨_, _, _, _, ⟨0, by omega, rfl, rfl, rfl, rfl⟩, Weak.tau (by simp [LQ, btF])⟩ ?_
  rintro n τ σ' M ⟨k, hk, rfl, rfl, rfl, rfl⟩
  obtain ⟨hp1, hp2, hp3⟩ := pow2_bd hk
  obtain ⟨hb0, hb1⟩ := btF_bd a b k
  by_cases hlt : k < 12
  · have hp2 := hp2 hlt
    have e2 : (2 : Int) ^ (k + 1) = 2 ^ k * 2 := Int.pow_succ _ _
    have hs : btF a b (k + 1) = btF a b k + if (a.tdiv (2 ^ k)).tmod 2 = 1 ∧ (b.tdiv (2 ^ k)).tmod 2 = 1 then 2 ^ k else 0 := rfl
    have hd1 := tdv_wrap (p := 2 ^ k) ha hp1
    have hd2 := tdv_wrap (p := 2 ^ k) hb hp1
    generalize (2 : Int) ^ k = p at *
    have hle : p ≤ 4095 := by omega
    have hp0 : ¬ p = 0 := by omega
    by_cases c1 : (a.tdiv p).tmod 2 = 1
    · by_cases c2 : (b.tdiv p).tmod 2 = 1
      · rw [if_pos ⟨c1, c2⟩] at hs
        repeat' (first
          | refine AWP.seq ?_
          | refine AWP.block ?_
          | (refine AWP.skip ?_; simp only [thenA, blockA, reduceIte])
          | (refine AWP.exit ?_; simp only [thenA, blockA, eq_self, reduceIte, Nat.reduceEqDiff, Nat.succ_ne_zero])
          | (refine AWP.ret ?_; simp only [thenA, blockA, reduceIte])
          | (refine AWP.region (by rfl) (fun KK hKK => ?_); (repeat (simp (disch := omega) [hle, hp0, hd1, hd2, c1, c2])); first | (refine hKK _ _ _ ?_; clear hKK KK; simp only [thenA, blockA, reduceIte]) | skip)
          | (refine AWP.if_t ?_ ?_; focus (simp (disch := omega) [hle, hp0, hd1, hd2, c1, c2]; done))
          | (refine AWP.if_f ?_ ?_; focus (simp (disch := omega) [hle, hp0, hd1, hd2, c1, c2]; done)))
        refine ⟨_, _, _, _, ?_, ⟨k + 1, by omega, rfl, rfl, rfl, rfl⟩, Weak.tau (by simp [LQ, hs, e2])⟩
        omega
      · rw [if_neg (fun h => c2 h.2)] at hs
        repeat' (first
          | refine AWP.seq ?_
          | refine AWP.block ?_
          | (refine AWP.skip ?_; simp only [thenA, blockA, reduceIte])
          | (refine AWP.exit ?_; simp only [thenA, blockA, eq_self, reduceIte, Nat.reduceEqDiff, Nat.succ_ne_zero])
          | (refine AWP.ret ?_; simp only [thenA, blockA, reduceIte])
          | (refine AWP.region (by rfl) (fun KK hKK => ?_); (repeat (simp (disch := omega) [hle, hp0, hd1, hd2, c1, c2])); first | (refine hKK _ _ _ ?_; clear hKK KK; simp only [thenA, blockA, reduceIte]) | skip)
          | (refine AWP.if_t ?_ ?_; focus (simp (disch := omega) [hle, hp0, hd1, hd2, c1, c2]; done))
          | (refine AWP.if_f ?_ ?_; focus (simp (disch := omega) [hle, hp0, hd1, hd2, c1, c2]; done)))
        refine ⟨_, _, _, _, ?_, ⟨k + 1, by omega, rfl, rfl, rfl, rfl⟩, Weak.tau (by simp [LQ, hs, e2])⟩
        omega
    · rw [if_neg (fun h => c1 h.1)] at hs
      repeat' (first
        | refine AWP.seq ?_
        | refine AWP.block ?_
        | (refine AWP.skip ?_; simp only [thenA, blockA, reduceIte])
        | (refine AWP.exit ?_; simp only [thenA, blockA, eq_self, reduceIte, Nat.reduceEqDiff, Nat.succ_ne_zero])
        | (refine AWP.ret ?_; simp only [thenA, blockA, reduceIte])
        | (refine AWP.region (by rfl) (fun KK hKK => ?_); (repeat (simp (disch := omega) [hle, hp0, hd1, hd2, c1])); first | (refine hKK _ _ _ ?_; clear hKK KK; simp only [thenA, blockA, reduceIte]) | skip)
        | (refine AWP.if_t ?_ ?_; focus (simp (disch := omega) [hle, hp0, hd1, hd2, c1]; done))
        | (refine AWP.if_f ?_ ?_; focus (simp (disch := omega) [hle, hp0, hd1, hd2, c1]; done)))
      refine ⟨_, _, _, _, ?_, ⟨k + 1, by omega, rfl, rfl, rfl, rfl⟩, Weak.tau (by simp [LQ, hs, e2])⟩
      omega
  · have hk' : k = 12 := by omega
    have hp3 := hp3 hk'
    subst hk'
    repeat' (first
      | refine AWP.seq ?_
      | refine AWP.block ?_
      | (refine AWP.skip ?_; simp only [thenA, blockA, reduceIte])
      | (refine AWP.exit ?_; simp only [thenA, blockA, eq_self, reduceIte, Nat.reduceEqDiff, Nat.succ_ne_zero])
      | (refine AWP.ret ?_; simp only [thenA, blockA, reduceIte])
      | (refine AWP.region (by rfl) (fun KK hKK => ?_); (repeat (simp (disch := omega) [])); first | (refine hKK _ _ _ ?_; clear hKK KK; simp only [thenA, blockA, reduceIte]) | skip)
      | (refine AWP.if_t ?_ ?_; focus (simp (disch := omega) []; done))
      | (refine AWP.if_f ?_ ?_; focus (simp (disch := omega) []; done)))
    refine ⟨by simp, _, rfl, fin0 ⟨?_, rfl⟩ (by simp [resO, get, nms, nmss]; try (simp [nms, nmss] at hn; simp_all))⟩
    simp [resO, get, ren, rens, bothI]

set_option maxRecDepth 10000 in
set_option maxHeartbeats 400000 in
theorem either_c (σ : Sto) (ν : Nat) (a b : Int) (ha : i64R a) (hb : i64R b) :
    AC Try.prog 72 [.v (.int .i64 a), .v (.int .i64 b)] σ ν fun r δ => r = .v (.int .i64 (eitherI a b)) ∧ δ = noS := by
  refine AC.intro [] ent_72 Try.func72 rfl (by simp [Try.f72]) (by simp) ?_
  intro K s hs hB hn hν hA hFr
  simp only [argT, Nat.zero_add, Nat.reduceAdd]
  repeat' (first
    | refine AWP.seq ?_
    | refine AWP.block ?_
    | (refine AWP.skip ?_; simp only [thenA, blockA, reduceIte])
    | (refine AWP.exit ?_; simp only [thenA, blockA, eq_self, reduceIte, Nat.reduceEqDiff, Nat.succ_ne_zero])
    | (refine AWP.ret ?_; simp only [thenA, blockA, reduceIte])
    | (refine AWP.region (by rfl) (fun KK hKK => ?_); (repeat (simp (disch := omega) [])); first | (refine hKK _ _ _ ?_; clear hKK KK; simp only [thenA, blockA, reduceIte]) | skip)
    | (refine AWP.if_t ?_ ?_; focus (simp (disch := omega) []; done))
    | (refine AWP.if_f ?_ ?_; focus (simp (disch := omega) []; done)))
  refine aStop_of (both_c _ _ a b ha hb) ?_
  rintro r δ ⟨rfl, rfl⟩
  (repeat (simp (disch := omega) []))
  first | (refine hKK _ _ _ ?_; clear hKK KK; simp only [thenA, blockA, reduceIte]) | skip
  repeat' (first
    | refine AWP.seq ?_
    | refine AWP.block ?_
    | (refine AWP.skip ?_; simp only [thenA, blockA, reduceIte])
    | (refine AWP.exit ?_; simp only [thenA, blockA, eq_self, reduceIte, Nat.reduceEqDiff, Nat.succ_ne_zero])
    | (refine AWP.ret ?_; simp only [thenA, blockA, reduceIte])
    | (refine AWP.region (by rfl) (fun KK hKK => ?_); (repeat (simp (disch := omega) [])); first | (refine hKK _ _ _ ?_; clear hKK KK; simp only [thenA, blockA, reduceIte]) | skip)
    | (refine AWP.if_t ?_ ?_; focus (simp (disch := omega) []; done))
    | (refine AWP.if_f ?_ ?_; focus (simp (disch := omega) []; done)))
  refine ⟨by simp, _, rfl, fin0 ⟨?_, rfl⟩ (by simp [resO, get, nms, nmss]; try (simp [nms, nmss] at hn; simp_all))⟩
  simp [resO, get, ren, rens, eitherI]
set_option maxRecDepth 10000 in
set_option maxHeartbeats 400000 in
theorem less_c (σ : Sto) (ν : Nat) (a b : Int) (ha : i64R a) (hb : i64R b) :
    AC Try.prog 65 [.v (.int .i64 a), .v (.int .i64 b)] σ ν fun r δ => r = .v (.int .i64 (lessI a b)) ∧ δ = noS := by
  refine AC.intro [] ent_65 Try.func65 rfl (by simp [Try.f65]) (by simp) ?_
  intro K s hs hB hn hν hA hFr
  simp only [argT, Nat.zero_add, Nat.reduceAdd]
  repeat' (first
    | refine AWP.seq ?_
    | refine AWP.block ?_
    | (refine AWP.skip ?_; simp only [thenA, blockA, reduceIte])
    | (refine AWP.exit ?_; simp only [thenA, blockA, eq_self, reduceIte, Nat.reduceEqDiff, Nat.succ_ne_zero])
    | (refine AWP.ret ?_; simp only [thenA, blockA, reduceIte])
    | (refine AWP.region (by rfl) (fun KK hKK => ?_); (repeat (simp (disch := omega) [])); first | (refine hKK _ _ _ ?_; clear hKK KK; simp only [thenA, blockA, reduceIte]) | skip)
    | (refine AWP.if_t ?_ ?_; focus (simp (disch := omega) []; done))
    | (refine AWP.if_f ?_ ?_; focus (simp (disch := omega) []; done)))
  refine aStop_of (both_c _ _ a b ha hb) ?_
  rintro r δ ⟨rfl, rfl⟩
  (repeat (simp (disch := omega) []))
  first | (refine hKK _ _ _ ?_; clear hKK KK; simp only [thenA, blockA, reduceIte]) | skip
  repeat' (first
    | refine AWP.seq ?_
    | refine AWP.block ?_
    | (refine AWP.skip ?_; simp only [thenA, blockA, reduceIte])
    | (refine AWP.exit ?_; simp only [thenA, blockA, eq_self, reduceIte, Nat.reduceEqDiff, Nat.succ_ne_zero])
    | (refine AWP.ret ?_; simp only [thenA, blockA, reduceIte])
    | (refine AWP.region (by rfl) (fun KK hKK => ?_); (repeat (simp (disch := omega) [])); first | (refine hKK _ _ _ ?_; clear hKK KK; simp only [thenA, blockA, reduceIte]) | skip)
    | (refine AWP.if_t ?_ ?_; focus (simp (disch := omega) []; done))
    | (refine AWP.if_f ?_ ?_; focus (simp (disch := omega) []; done)))
  refine ⟨by simp, _, rfl, fin0 ⟨?_, rfl⟩ (by simp [resO, get, nms, nmss]; try (simp [nms, nmss] at hn; simp_all))⟩
  simp [resO, get, ren, rens, lessI]

set_option maxRecDepth 10000 in
set_option maxHeartbeats 1000000 in
theorem maskS_c (σ : Sto) (ν : Nat) (x : AV) (ds : List Df) (hx : Sl σ x 2 (rowsD ds)) (hlen : ds.length ≤ 9223372036854775807) (hv : ∀ d ∈ ds, i64R d.2) :
    AC Try.prog 66 [x] σ ν fun r δ => r = .v (.int .i64 (mkS ds)) ∧ δ = noS := by
  obtain ⟨b, o, cap, z, rfl⟩ := hx.out
  simp only [rowsD_len] at hx ⊢
  refine AC.intro [] ent_66 Try.func66 rfl (by simp [Try.f66]) (by simp) ?_
  intro K s hs hB hn hν hA hFr
  simp only [argT, Nat.zero_add, Nat.reduceAdd]
  have hx' := hx.vw hs.vw
  repeat' (first
    | refine AWP.seq ?_
    | refine AWP.block ?_
    | (refine AWP.skip ?_; simp only [thenA, blockA, reduceIte])
    | (refine AWP.exit ?_; simp only [thenA, blockA, eq_self, reduceIte, Nat.reduceEqDiff, Nat.succ_ne_zero])
    | (refine AWP.ret ?_; simp only [thenA, blockA, reduceIte])
    | (refine AWP.region (by rfl) (fun KK hKK => ?_); (repeat (simp (disch := omega) [])); first | (refine hKK _ _ _ ?_; clear hKK KK; simp only [thenA, blockA, reduceIte]) | skip)
    | (refine AWP.if_t ?_ ?_; focus (simp (disch := omega) []; done))
    | (refine AWP.if_f ?_ ?_; focus (simp (disch := omega) []; done)))
  refine AWP.loop (fun n τ σ' M => ∃ k : Nat, k ≤ ds.length ∧ n = ds.length - k ∧ τ = [(0, .sl b o ds.length cap z), (3, .v (.int .i64 (mkS (ds.take k)))), (4, .v (.int .i64 k))] ∧ σ' = s ∧ K ≤ M) ⟨_, _, _, _, ⟨0, by omega, rfl, rfl, rfl, Nat.le_refl _⟩, Weak.tau (by simp [LQ, mkS])⟩ ?_
  rintro n τ σ' M ⟨k, hk, rfl, rfl, rfl, hM⟩
  by_cases hlt : k < ds.length
  · obtain ⟨_, rfl, kb, hkb, hat⟩ := hx'.at (i := k) (by rw [rowsD_len]; exact hlt)
    have hrow : (rowsD ds)[k]'(by rw [rowsD_len]; exact hlt) = [.v (.string ds[k].1), .v (.int .i64 ds[k].2)] := by simp [rowsD, rowD]
    rw [hrow] at hat
    have hst := mkS_take hlt
    repeat' (first
      | refine AWP.seq ?_
      | refine AWP.block ?_
      | (refine AWP.skip ?_; simp only [thenA, blockA, reduceIte])
      | (refine AWP.exit ?_; simp only [thenA, blockA, eq_self, reduceIte, Nat.reduceEqDiff, Nat.succ_ne_zero])
      | (refine AWP.ret ?_; simp only [thenA, blockA, reduceIte])
      | (refine AWP.region (by rfl) (fun KK hKK => ?_); (repeat (simp (disch := omega) [hlt, hkb, hat])); first | (refine hKK _ _ _ ?_; clear hKK KK; simp only [thenA, blockA, reduceIte]) | skip)
      | (refine AWP.if_t ?_ ?_; focus (simp (disch := omega) [hlt, hkb, hat]; done))
      | (refine AWP.if_f ?_ ?_; focus (simp (disch := omega) [hlt, hkb, hat]; done)))
    refine aStop_of (either_c _ _ _ _ (mkS_rg _) (hv _ (List.getElem_mem hlt))) ?_
    rintro r δ ⟨rfl, rfl⟩
    (repeat (simp (disch := omega) []))
    first | (refine hKK _ _ _ ?_; clear hKK KK; simp only [thenA, blockA, reduceIte]) | skip
    repeat' (first
      | refine AWP.seq ?_
      | refine AWP.block ?_
      | (refine AWP.skip ?_; simp only [thenA, blockA, reduceIte])
      | (refine AWP.exit ?_; simp only [thenA, blockA, eq_self, reduceIte, Nat.reduceEqDiff, Nat.succ_ne_zero])
      | (refine AWP.ret ?_; simp only [thenA, blockA, reduceIte])
      | (refine AWP.region (by rfl) (fun KK hKK => ?_); (repeat (simp (disch := omega) [])); first | (refine hKK _ _ _ ?_; clear hKK KK; simp only [thenA, blockA, reduceIte]) | skip)
      | (refine AWP.if_t ?_ ?_; focus (simp (disch := omega) []; done))
      | (refine AWP.if_f ?_ ?_; focus (simp (disch := omega) []; done)))
    refine ⟨_, _, _, _, ?_, ⟨k + 1, by omega, rfl, rfl, rfl, by omega⟩, Weak.tau (by simp [LQ, hst])⟩
    omega
  · have hk' : k = ds.length := by omega
    subst hk'
    repeat' (first
      | refine AWP.seq ?_
      | refine AWP.block ?_
      | (refine AWP.skip ?_; simp only [thenA, blockA, reduceIte])
      | (refine AWP.exit ?_; simp only [thenA, blockA, eq_self, reduceIte, Nat.reduceEqDiff, Nat.succ_ne_zero])
      | (refine AWP.ret ?_; simp only [thenA, blockA, reduceIte])
      | (refine AWP.region (by rfl) (fun KK hKK => ?_); (repeat (simp (disch := omega) [])); first | (refine hKK _ _ _ ?_; clear hKK KK; simp only [thenA, blockA, reduceIte]) | skip)
      | (refine AWP.if_t ?_ ?_; focus (simp (disch := omega) []; done))
      | (refine AWP.if_f ?_ ?_; focus (simp (disch := omega) []; done)))
    refine ⟨by simp, _, rfl, fin0 ⟨?_, rfl⟩ (by simp [resO, get, nms, nmss]; try (simp [nms, nmss] at hn; simp_all))⟩
    simp [resO, get, ren, rens]

theorem pcF_half (f n : Nat) : pcF (f + 1) n = n % 2 + pcF f (n / 2) := rfl
set_option maxRecDepth 10000 in
set_option maxHeartbeats 1000000 in
theorem bitCount_c (σ : Sto) (ν : Nat) (m : Nat) (hm : m < 4096) :
    AC Try.prog 61 [.v (.int .i64 m)] σ ν fun r δ => r = .v (.int .i64 (pcN m)) ∧ δ = noS := by
  refine AC.intro [] ent_61 Try.func61 rfl (by simp [Try.f61]) (by simp) ?_
  intro K s hs hB hn hν hA hFr
  simp only [argT, Nat.zero_add, Nat.reduceAdd]
  repeat' (first
    | refine AWP.seq ?_
    | refine AWP.block ?_
    | (refine AWP.skip ?_; simp only [thenA, blockA, reduceIte])
    | (refine AWP.exit ?_; simp only [thenA, blockA, eq_self, reduceIte, Nat.reduceEqDiff, Nat.succ_ne_zero])
    | (refine AWP.ret ?_; simp only [thenA, blockA, reduceIte])
    | (refine AWP.region (by rfl) (fun KK hKK => ?_); (repeat (simp (disch := omega) [])); first | (refine hKK _ _ _ ?_; clear hKK KK; simp only [thenA, blockA, reduceIte]) | skip)
    | (refine AWP.if_t ?_ ?_; focus (simp (disch := omega) []; done))
    | (refine AWP.if_f ?_ ?_; focus (simp (disch := omega) []; done)))
  refine AWP.loop (fun n τ σ' M => ∃ j f out : Nat, f ≤ 12 ∧ n = f ∧ j < 2 ^ f ∧ out + pcF f j = pcN m ∧ τ = [(0, .v (.int .i64 j)), (3, .v (.int .i64 out))] ∧ σ' = s ∧ M = K) ⟨_, _, _, _, ⟨m, 12, 0, by omega, rfl, hm, by simp [pcN], rfl, rfl, rfl⟩, Weak.tau (by simp [LQ])⟩ ?_
  rintro n τ σ' M ⟨j, f, out, hf, rfl, hj, hpc, rfl, rfl, rfl⟩
  have hpl : pcN m ≤ 12 := pcF_le 12 m
  have hj2 : j < 4096 := Nat.lt_of_lt_of_le hj (Nat.pow_le_pow_right (by omega) hf)
  by_cases hlt : (0 : Int) < j
  · match n, hj, hpc with
    | 0, hj, _ => simp at hj; omega
    | f + 1, hj, hpc =>
      rw [pcF_half] at hpc
      have hq : ((j : Int)).tdiv 2 = ((j / 2 : Nat) : Int) := by rw [Int.tdiv_eq_ediv_of_nonneg (by omega)]; omega
      have hr : ((j : Int)).tmod 2 = ((j % 2 : Nat) : Int) := by rw [Int.tmod_eq_emod_of_nonneg (by omega)]; omega
      have hln : 0 < j := by omega
      repeat' (first
        | refine AWP.seq ?_
        | refine AWP.block ?_
        | (refine AWP.skip ?_; simp only [thenA, blockA, reduceIte])
        | (refine AWP.exit ?_; simp only [thenA, blockA, eq_self, reduceIte, Nat.reduceEqDiff, Nat.succ_ne_zero])
        | (refine AWP.ret ?_; simp only [thenA, blockA, reduceIte])
        | (refine AWP.region (by rfl) (fun KK hKK => ?_); (repeat (simp (disch := omega) [hlt, hln, hq, hr])); first | (refine hKK _ _ _ ?_; clear hKK KK; simp only [thenA, blockA, reduceIte]) | skip)
        | (refine AWP.if_t ?_ ?_; focus (simp (disch := omega) [hlt, hln, hq, hr]; done))
        | (refine AWP.if_f ?_ ?_; focus (simp (disch := omega) [hlt, hln, hq, hr]; done)))
      refine ⟨_, _, _, _, ?_, ⟨j / 2, f, out + j % 2, by omega, rfl, by rw [Nat.pow_succ] at hj; omega, by omega, rfl, rfl, rfl⟩, Weak.tau (by simp [LQ])⟩
      omega
  · have hj0 : j = 0 := by omega
    subst hj0
    rw [pcF_zero, Nat.add_zero] at hpc
    repeat' (first
      | refine AWP.seq ?_
      | refine AWP.block ?_
      | (refine AWP.skip ?_; simp only [thenA, blockA, reduceIte])
      | (refine AWP.exit ?_; simp only [thenA, blockA, eq_self, reduceIte, Nat.reduceEqDiff, Nat.succ_ne_zero])
      | (refine AWP.ret ?_; simp only [thenA, blockA, reduceIte])
      | (refine AWP.region (by rfl) (fun KK hKK => ?_); (repeat (simp (disch := omega) [hlt])); first | (refine hKK _ _ _ ?_; clear hKK KK; simp only [thenA, blockA, reduceIte]) | skip)
      | (refine AWP.if_t ?_ ?_; focus (simp (disch := omega) [hlt]; done))
      | (refine AWP.if_f ?_ ?_; focus (simp (disch := omega) [hlt]; done)))
    refine ⟨by simp, _, rfl, fin0 ⟨?_, rfl⟩ (by simp [resO, get, nms, nmss]; try (simp [nms, nmss] at hn; simp_all))⟩
    simp [resO, get, ren, rens, hpc]

/-- The next bit behind all values. -/
theorem pw_nat {j : Nat} (h : j ≤ 12) : 1 ≤ 2 ^ j ∧ 2 ^ j ≤ 4096 := ⟨Nat.one_le_two_pow, by have := Nat.pow_le_pow_right (n := 2) (by omega) h; omega⟩
set_option maxRecDepth 10000 in
set_option maxHeartbeats 2000000 in
theorem nextBit_c (σ : Sto) (ν : Nat) (x : AV) (ds : List Df) (hx : Sl σ x 2 (rowsD ds)) (hlen : ds.length ≤ 9223372036854775807) (hv : ∀ d ∈ ds, 0 ≤ d.2 ∧ d.2 ≤ 4095) :
    AC Try.prog 92 [x] σ ν fun r δ => r = .v (.int .i64 ((2 ^ lnN (mkN ds) : Nat) : Int)) ∧ δ = noS := by
  obtain ⟨b, o, cap, z, rfl⟩ := hx.out
  simp only [rowsD_len] at hx ⊢
  refine AC.intro [] ent_92 Try.func92 rfl (by simp [Try.f92]) (by simp) ?_
  intro K s hs hB hn hν hA hFr
  simp only [argT, Nat.zero_add, Nat.reduceAdd]
  have hx' := hx.vw hs.vw
  repeat' (first
    | refine AWP.seq ?_
    | refine AWP.block ?_
    | (refine AWP.skip ?_; simp only [thenA, blockA, reduceIte])
    | (refine AWP.exit ?_; simp only [thenA, blockA, eq_self, reduceIte, Nat.reduceEqDiff, Nat.succ_ne_zero])
    | (refine AWP.ret ?_; simp only [thenA, blockA, reduceIte])
    | (refine AWP.region (by rfl) (fun KK hKK => ?_); (repeat (simp (disch := omega) [])); first | (refine hKK _ _ _ ?_; clear hKK KK; simp only [thenA, blockA, reduceIte]) | skip)
    | (refine AWP.if_t ?_ ?_; focus (simp (disch := omega) []; done))
    | (refine AWP.if_f ?_ ?_; focus (simp (disch := omega) []; done)))
  refine AWP.loop (fun n τ σ' M => ∃ k p : Nat, k ≤ ds.length ∧ n = ds.length - k ∧ p = 2 ^ lnN (mkN (ds.take k)) ∧ τ = [(0, .sl b o ds.length cap z), (3, .v (.int .i64 p)), (4, .v (.int .i64 k))] ∧ σ' = s ∧ M = K) ⟨_, _, _, _, ⟨0, 1, by omega, rfl, by simp [mkN, lnN], rfl, rfl, rfl⟩, Weak.tau (by simp [LQ])⟩ ?_
  rintro n τ σ' M ⟨k, p, hk, rfl, hp, rfl, rfl, rfl⟩
  by_cases hlt : k < ds.length
  · obtain ⟨_, rfl, kb, hkb, hat⟩ := hx'.at (i := k) (by rw [rowsD_len]; exact hlt)
    have hrow : (rowsD ds)[k]'(by rw [rowsD_len]; exact hlt) = [.v (.string ds[k].1), .v (.int .i64 ds[k].2)] := by simp [rowsD, rowD]
    rw [hrow] at hat
    have hvk := hv _ (List.getElem_mem hlt)
    have hml := mkN_lt (ds.take k) fun d hd => hv d (List.mem_of_mem_take hd)
    have hst := mkN_take hlt
    have hlo := lnN_or (mkN (ds.take k)) ds[k].2.toNat
    have hl1 := lnN_12 hml
    have hl2 : lnN ds[k].2.toNat ≤ 12 := lnN_12 (by omega)
    have hbK : b < M := (hB b _ hkb).1
    rw [← hst] at hlo
    repeat' (first
      | refine AWP.seq ?_
      | refine AWP.block ?_
      | (refine AWP.skip ?_; simp only [thenA, blockA, reduceIte])
      | (refine AWP.exit ?_; simp only [thenA, blockA, eq_self, reduceIte, Nat.reduceEqDiff, Nat.succ_ne_zero])
      | (refine AWP.ret ?_; simp only [thenA, blockA, reduceIte])
      | (refine AWP.region (by rfl) (fun KK hKK => ?_); (repeat (simp (disch := omega) [hlt])); first | (refine hKK _ _ _ ?_; clear hKK KK; simp only [thenA, blockA, reduceIte]) | skip)
      | (refine AWP.if_t ?_ ?_; focus (simp (disch := omega) [hlt]; done))
      | (refine AWP.if_f ?_ ?_; focus (simp (disch := omega) [hlt]; done)))
    refine AWP.loop (fun n τ σ2 M1 => ∃ j q : Nat, lnN (mkN (ds.take k)) ≤ j ∧ j ≤ lnN (mkN (ds.take (k + 1))) ∧ n = lnN (mkN (ds.take (k + 1))) - j ∧ q = 2 ^ j ∧ τ = [(0, .sl b o ds.length cap 2), (3, .v (.int .i64 q)), (4, .v (.int .i64 k))] ∧ σ2 = σ' ∧ M1 = M) ⟨_, _, _, _, ⟨lnN (mkN (ds.take k)), p, by omega, by omega, rfl, hp, rfl, rfl, rfl⟩, Weak.tau (by simp [LQ])⟩ ?_
    rintro n τ σ2 M1 ⟨j, q, hj1, hj2, rfl, hq, rfl, rfl, rfl⟩
    have hj12 : j ≤ 12 := by omega
    have hqb := pw_nat hj12
    rw [← hq] at hqb
    by_cases hle : (q : Int) ≤ ds[k].2
    · have hjl : j < lnN ds[k].2.toNat := by
        rcases Nat.lt_or_ge j (lnN ds[k].2.toNat) with h | h
        · exact h
        · have := lnN_le.1 h
          omega
      have hq2 : q * 2 = 2 ^ (j + 1) := by rw [hq, Nat.pow_succ]
      repeat' (first
        | refine AWP.seq ?_
        | refine AWP.block ?_
        | (refine AWP.skip ?_; simp only [thenA, blockA, reduceIte])
        | (refine AWP.exit ?_; simp only [thenA, blockA, eq_self, reduceIte, Nat.reduceEqDiff, Nat.succ_ne_zero])
        | (refine AWP.ret ?_; simp only [thenA, blockA, reduceIte])
        | (refine AWP.region (by rfl) (fun KK hKK => ?_); (repeat (simp (disch := omega) [hlt, hkb, hat, hle])); first | (refine hKK _ _ _ ?_; clear hKK KK; simp only [thenA, blockA, reduceIte]) | skip)
        | (refine AWP.if_t ?_ ?_; focus (simp (disch := omega) [hlt, hkb, hat, hle]; done))
        | (refine AWP.if_f ?_ ?_; focus (simp (disch := omega) [hlt, hkb, hat, hle]; done)))
      refine ⟨_, _, _, _, ?_, ⟨j + 1, q * 2, by omega, by omega, rfl, hq2, rfl, rfl, rfl⟩, Weak.tau (by simp [LQ])⟩
      omega
    · have hjl : lnN ds[k].2.toNat ≤ j := lnN_le.2 (by omega)
      have hje : j = lnN (mkN (ds.take (k + 1))) := by omega
      repeat' (first
        | refine AWP.seq ?_
        | refine AWP.block ?_
        | (refine AWP.skip ?_; simp only [thenA, blockA, reduceIte])
        | (refine AWP.exit ?_; simp only [thenA, blockA, eq_self, reduceIte, Nat.reduceEqDiff, Nat.succ_ne_zero])
        | (refine AWP.ret ?_; simp only [thenA, blockA, reduceIte])
        | (refine AWP.region (by rfl) (fun KK hKK => ?_); (repeat (simp (disch := omega) [hlt, hkb, hat, hle])); first | (refine hKK _ _ _ ?_; clear hKK KK; simp only [thenA, blockA, reduceIte]) | skip)
        | (refine AWP.if_t ?_ ?_; focus (simp (disch := omega) [hlt, hkb, hat, hle]; done))
        | (refine AWP.if_f ?_ ?_; focus (simp (disch := omega) [hlt, hkb, hat, hle]; done)))
      refine ⟨_, _, _, _, ?_, ⟨k + 1, q, by omega, rfl, by rw [hq, hje], rfl, rfl, rfl⟩, Weak.tau (by simp [LQ])⟩
      omega
  · have hk' : k = ds.length := by omega
    subst hk'
    rw [List.take_length] at hp
    repeat' (first
      | refine AWP.seq ?_
      | refine AWP.block ?_
      | (refine AWP.skip ?_; simp only [thenA, blockA, reduceIte])
      | (refine AWP.exit ?_; simp only [thenA, blockA, eq_self, reduceIte, Nat.reduceEqDiff, Nat.succ_ne_zero])
      | (refine AWP.ret ?_; simp only [thenA, blockA, reduceIte])
      | (refine AWP.region (by rfl) (fun KK hKK => ?_); (repeat (simp (disch := omega) [])); first | (refine hKK _ _ _ ?_; clear hKK KK; simp only [thenA, blockA, reduceIte]) | skip)
      | (refine AWP.if_t ?_ ?_; focus (simp (disch := omega) []; done))
      | (refine AWP.if_f ?_ ?_; focus (simp (disch := omega) []; done)))
    refine ⟨by simp, _, rfl, fin0 ⟨?_, rfl⟩ (by simp [resO, get, nms, nmss]; try (simp [nms, nmss] at hn; simp_all))⟩
    simp [resO, get, ren, rens, hp]
end Go.Proofs.Ytbcooikoaplhcaa
