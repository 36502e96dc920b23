/- Contracts of the reference: names, definitions. No condition. -/
import Derived.Test.YthjjfdbkggiaeaaC3
set_option linter.unusedSimpArgs false
set_option linter.unusedVariables false
namespace Go.Proofs.Ythjjfdbkggiaeaa
open Go Go.RowKit

set_option maxRecDepth 10000 in
set_option maxHeartbeats 400000 in
theorem inRange_c (σ : Sto) (ν : Nat) (n lo hi : Int) : AC Try.prog 122 [.v (.int .i64 n), .v (.int .i64 lo), .v (.int .i64 hi)] σ ν fun r δ => r = .v (.bool (decide (lo ≤ n ∧ n ≤ hi))) ∧ δ = noS := by
  refine AC.intro [] ent_122 Try.func122 rfl (by simp [Try.f122]) (by simp) ?_
  intro K s hs hB hn hν hA hFr
  simp only [argT, Nat.zero_add, Nat.reduceAdd]
  by_cases h1 : lo ≤ n
  · repeat' (first
      | refine AWP.seq ?_
      | refine AWP.block ?_
      | (refine AWP.skip ?_; simp only [thenA, blockA, reduceIte])
      | (refine AWP.exit ?_; simp only [thenA, blockA, eq_self, reduceIte, Nat.reduceEqDiff, Nat.succ_ne_zero])
      | (refine AWP.ret ?_; simp only [thenA, blockA, reduceIte])
      | (refine AWP.region (by rfl) (fun KK hKK => ?_); (repeat (simp (disch := omega) [h1])); first | (refine hKK _ _ _ ?_; clear hKK KK; simp only [thenA, blockA, reduceIte]) | skip)
      | (refine AWP.if_t ?_ ?_; focus (simp (disch := omega) [h1]; done))
      | (refine AWP.if_f ?_ ?_; focus (simp (disch := omega) [h1]; done)))
    refine ⟨by simp, _, rfl, fin0 ⟨?_, rfl⟩ (by simp [resO, get, nms, nmss]; try (simp [nms, nmss] at hn; simp_all))⟩
    simp [resO, get, ren, rens, h1]
  · repeat' (first
      | refine AWP.seq ?_
      | refine AWP.block ?_
      | (refine AWP.skip ?_; simp only [thenA, blockA, reduceIte])
      | (refine AWP.exit ?_; simp only [thenA, blockA, eq_self, reduceIte, Nat.reduceEqDiff, Nat.succ_ne_zero])
      | (refine AWP.ret ?_; simp only [thenA, blockA, reduceIte])
      | (refine AWP.region (by rfl) (fun KK hKK => ?_); (repeat (simp (disch := omega) [h1])); first | (refine hKK _ _ _ ?_; clear hKK KK; simp only [thenA, blockA, reduceIte]) | skip)
      | (refine AWP.if_t ?_ ?_; focus (simp (disch := omega) [h1]; done))
      | (refine AWP.if_f ?_ ?_; focus (simp (disch := omega) [h1]; done)))
    refine ⟨by simp, _, rfl, fin0 ⟨?_, rfl⟩ (by simp [resO, get, nms, nmss]; try (simp [nms, nmss] at hn; simp_all))⟩
    simp [resO, get, ren, rens, h1]

set_option maxRecDepth 10000 in
set_option maxHeartbeats 400000 in
theorem validNameS_c (σ : Sto) (ν : Nat) (t : ByteArray) (ht : t.size ≤ 9223372036854775807) : AC Try.prog 121 [.v (.string t)] σ ν fun r δ => r = .v (.bool (vname t)) ∧ δ = noS := by
  refine AC.intro [] ent_121 Try.func121 rfl (by simp [Try.f121]) (by simp) ?_
  intro K s hs hB hn hν hA hFr
  simp only [argT, Nat.zero_add, Nat.reduceAdd]
  repeat' (first
    | refine AWP.seq ?_
    | refine AWP.block ?_
    | (refine AWP.skip ?_; simp only [thenA, blockA, reduceIte])
    | (refine AWP.exit ?_; simp only [thenA, blockA, eq_self, reduceIte, Nat.reduceEqDiff, Nat.succ_ne_zero])
    | (refine AWP.ret ?_; simp only [thenA, blockA, reduceIte])
    | (refine AWP.region (by rfl) (fun KK hKK => ?_); (repeat (simp (disch := omega) [])); first | (refine hKK _ _ _ ?_; clear hKK KK; simp only [thenA, blockA, reduceIte]) | skip)
    | (refine AWP.if_t ?_ ?_; focus (simp (disch := omega) []; done))
    | (refine AWP.if_f ?_ ?_; focus (simp (disch := omega) []; done)))
  refine AWP.loop (fun n τ σ' M => ∃ k : Nat, k ≤ t.size ∧ n = t.size - k ∧ lower (t.data.toList.take k) = true ∧ τ = [(0, .v (.string t)), (3, .v (.int .i64 k))] ∧ σ' = s ∧ M = K) ⟨_, _, _, _, ⟨0, by omega, rfl, by simp [lower], rfl, rfl, rfl⟩, (Weak.mk [] (by simp) (by simp) (by omega) (by simp [LeT, ren, rens, swl, nms, nmss]) (LeS.base hB (by omega) (fun _ _ => rfl) (Over.refl _)))⟩ ?_
  rintro n τ σ' M ⟨k, hk, rfl, hl, rfl, rfl, rfl⟩
  by_cases hlt : k < t.size
  · have hs := lower_snoc t k hlt
    rw [hl, Bool.true_and] at hs
    by_cases h1 : (t[k].toNat : Int) < 97
    · have hv : vname t = false := by
        unfold vname
        cases hh : lower t.data.toList with
        | false => rfl
        | true =>
          have := lower_take _ (k + 1) hh
          rw [hs] at this
          simp at this
          omega
      repeat' (first
        | refine AWP.seq ?_
        | refine AWP.block ?_
        | (refine AWP.skip ?_; simp only [thenA, blockA, reduceIte])
        | (refine AWP.exit ?_; simp only [thenA, blockA, eq_self, reduceIte, Nat.reduceEqDiff, Nat.succ_ne_zero])
        | (refine AWP.ret ?_; simp only [thenA, blockA, reduceIte])
        | (refine AWP.region (by rfl) (fun KK hKK => ?_); (repeat (simp (disch := omega) [hlt, h1])); first | (refine hKK _ _ _ ?_; clear hKK KK; simp only [thenA, blockA, reduceIte]) | skip)
        | (refine AWP.if_t ?_ ?_; focus (simp (disch := omega) [hlt, h1]; done))
        | (refine AWP.if_f ?_ ?_; focus (simp (disch := omega) [hlt, h1]; done)))
      refine ⟨by simp, _, rfl, fin0 ⟨?_, rfl⟩ (by simp [resO, get, nms, nmss]; try (simp [nms, nmss] at hn; simp_all))⟩
      simp [resO, get, ren, rens, hv]
    · by_cases h2 : 122 < (t[k].toNat : Int)
      · have hv : vname t = false := by
          unfold vname
          cases hh : lower t.data.toList with
          | false => rfl
          | true =>
            have := lower_take _ (k + 1) hh
            rw [hs] at this
            simp at this
            omega
        repeat' (first
          | refine AWP.seq ?_
          | refine AWP.block ?_
          | (refine AWP.skip ?_; simp only [thenA, blockA, reduceIte])
          | (refine AWP.exit ?_; simp only [thenA, blockA, eq_self, reduceIte, Nat.reduceEqDiff, Nat.succ_ne_zero])
          | (refine AWP.ret ?_; simp only [thenA, blockA, reduceIte])
          | (refine AWP.region (by rfl) (fun KK hKK => ?_); (repeat (simp (disch := omega) [hlt, h1, h2])); first | (refine hKK _ _ _ ?_; clear hKK KK; simp only [thenA, blockA, reduceIte]) | skip)
          | (refine AWP.if_t ?_ ?_; focus (simp (disch := omega) [hlt, h1, h2]; done))
          | (refine AWP.if_f ?_ ?_; focus (simp (disch := omega) [hlt, h1, h2]; done)))
        refine ⟨by simp, _, rfl, fin0 ⟨?_, rfl⟩ (by simp [resO, get, nms, nmss]; try (simp [nms, nmss] at hn; simp_all))⟩
        simp [resO, get, ren, rens, hv]
      · repeat' (first
          | refine AWP.seq ?_
          | refine AWP.block ?_
          | (refine AWP.skip ?_; simp only [thenA, blockA, reduceIte])
          | (refine AWP.exit ?_; simp only [thenA, blockA, eq_self, reduceIte, Nat.reduceEqDiff, Nat.succ_ne_zero])
          | (refine AWP.ret ?_; simp only [thenA, blockA, reduceIte])
          | (refine AWP.region (by rfl) (fun KK hKK => ?_); (repeat (simp (disch := omega) [hlt, h1, h2])); first | (refine hKK _ _ _ ?_; clear hKK KK; simp only [thenA, blockA, reduceIte]) | skip)
          | (refine AWP.if_t ?_ ?_; focus (simp (disch := omega) [hlt, h1, h2]; done))
          | (refine AWP.if_f ?_ ?_; focus (simp (disch := omega) [hlt, h1, h2]; done)))
        refine ⟨_, _, _, _, ?_, ⟨k + 1, by omega, rfl, by rw [hs]; simp; omega, rfl, rfl, rfl⟩, (Weak.mk [] (by simp) (by simp) (by omega) (by simp [LeT, ren, rens, swl, nms, nmss]) (LeS.base hB (by omega) (fun _ _ => rfl) (Over.refl _)))⟩
        omega
  · have hk' : k = t.size := by omega
    subst hk'
    repeat' (first
      | refine AWP.seq ?_
      | refine AWP.block ?_
      | (refine AWP.skip ?_; simp only [thenA, blockA, reduceIte])
      | (refine AWP.exit ?_; simp only [thenA, blockA, eq_self, reduceIte, Nat.reduceEqDiff, Nat.succ_ne_zero])
      | (refine AWP.ret ?_; simp only [thenA, blockA, reduceIte])
      | (refine AWP.region (by rfl) (fun KK hKK => ?_); (repeat (simp (disch := omega) [])); first | (refine hKK _ _ _ ?_; clear hKK KK; simp only [thenA, blockA, reduceIte]) | skip)
      | (refine AWP.if_t ?_ ?_; focus (simp (disch := omega) []; done))
      | (refine AWP.if_f ?_ ?_; focus (simp (disch := omega) []; done)))
    refine aStop_of (inRange_c _ _ _ _ _) ?_
    rintro r δ ⟨rfl, rfl⟩
    (repeat (simp (disch := omega) []))
    first | (refine hKK _ _ _ ?_; clear hKK KK; simp only [thenA, blockA, reduceIte]) | skip
    have hl' : lower t.data.toList = true := by
      rw [← hl, List.take_of_length_le (by simp)]
    repeat' (first
      | refine AWP.seq ?_
      | refine AWP.block ?_
      | (refine AWP.skip ?_; simp only [thenA, blockA, reduceIte])
      | (refine AWP.exit ?_; simp only [thenA, blockA, eq_self, reduceIte, Nat.reduceEqDiff, Nat.succ_ne_zero])
      | (refine AWP.ret ?_; simp only [thenA, blockA, reduceIte])
      | (refine AWP.region (by rfl) (fun KK hKK => ?_); (repeat (simp (disch := omega) [])); first | (refine hKK _ _ _ ?_; clear hKK KK; simp only [thenA, blockA, reduceIte]) | skip)
      | (refine AWP.if_t ?_ ?_; focus (simp (disch := omega) []; done))
      | (refine AWP.if_f ?_ ?_; focus (simp (disch := omega) []; done)))
    refine ⟨by simp, _, rfl, fin0 ⟨?_, rfl⟩ (by simp [resO, get, nms, nmss]; try (simp [nms, nmss] at hn; simp_all))⟩
    simp [resO, get, ren, rens, vname, hl']

set_option maxRecDepth 10000 in
set_option maxHeartbeats 400000 in
theorem indexOf_c (σ : Sto) (ν : Nat) (x : AV) (ds : List Df) (t : ByteArray) (hx : Sl σ x 2 (rowsD ds)) (hlen : ds.length ≤ 9223372036854775807) :
    AC Try.prog 68 [x, .v (.string t)] σ ν fun r δ => r = .v (.int .i64 (nameIx ds t)) ∧ δ = noS := by
  obtain ⟨b, o, cap, z, rfl⟩ := hx.out
  simp only [rowsD_len] at hx ⊢
  refine AC.intro [] ent_68 Try.func68 rfl (by simp [Try.f68]) (by simp) ?_
  intro K s hs hB hn hν hA hFr
  simp only [argT, Nat.zero_add, Nat.reduceAdd]
  have hx' := hx.vw hs.vw
  repeat' (first
    | refine AWP.seq ?_
    | refine AWP.block ?_
    | (refine AWP.skip ?_; simp only [thenA, blockA, reduceIte])
    | (refine AWP.exit ?_; simp only [thenA, blockA, eq_self, reduceIte, Nat.reduceEqDiff, Nat.succ_ne_zero])
    | (refine AWP.ret ?_; simp only [thenA, blockA, reduceIte])
    | (refine AWP.region (by rfl) (fun KK hKK => ?_); (repeat (simp (disch := omega) [])); first | (refine hKK _ _ _ ?_; clear hKK KK; simp only [thenA, blockA, reduceIte]) | skip)
    | (refine AWP.if_t ?_ ?_; focus (simp (disch := omega) []; done))
    | (refine AWP.if_f ?_ ?_; focus (simp (disch := omega) []; done)))
  refine AWP.loop (fun n τ σ' M => ∃ k : Nat, k ≤ ds.length ∧ n = ds.length - k ∧ (∀ e ∈ ds.take k, (fun d => decide (d.1 = t)) e = false) ∧ τ = [(0, .sl b o ds.length cap z), (1, .v (.string t)), (5, .v (.int .i64 k))] ∧ σ' = s ∧ M = K) ⟨_, _, _, _, ⟨0, by omega, rfl, by simp, rfl, rfl, rfl⟩, (Weak.base hB (by repeat (first | exact Over.refl _ | exact hov | refine Over.upd ?_ hB (by omega) | refine Over.del ?_ hB (by omega))) (by simp [LT, get, nms, nmss]; try (simp [nms, nmss] at hn; simp_all)))⟩ ?_
  rintro n τ σ' M ⟨k, hk, rfl, hl, rfl, rfl, rfl⟩
  by_cases hlt : k < ds.length
  · obtain ⟨_, rfl, kb, hkb, hat⟩ := hx'.at (i := k) (by rw [rowsD_len]; exact hlt)
    have hrow : (rowsD ds)[k]'(by rw [rowsD_len]; exact hlt) = [.v (.string ds[k].1), .v (.int .i64 ds[k].2)] := by simp [rowsD, rowD]
    rw [hrow] at hat
    by_cases hp : ds[k].1 = t
    · have e : nameIx ds t = k := idx_at hlt hl (by simp [hp])
      repeat' (first
        | refine AWP.seq ?_
        | refine AWP.block ?_
        | (refine AWP.skip ?_; simp only [thenA, blockA, reduceIte])
        | (refine AWP.exit ?_; simp only [thenA, blockA, eq_self, reduceIte, Nat.reduceEqDiff, Nat.succ_ne_zero])
        | (refine AWP.ret ?_; simp only [thenA, blockA, reduceIte])
        | (refine AWP.region (by rfl) (fun KK hKK => ?_); (repeat (simp (disch := omega) [hlt, hkb, hat, hp])); first | (refine hKK _ _ _ ?_; clear hKK KK; simp only [thenA, blockA, reduceIte]) | skip)
        | (refine AWP.if_t ?_ ?_; focus (simp (disch := omega) [hlt, hkb, hat, hp]; done))
        | (refine AWP.if_f ?_ ?_; focus (simp (disch := omega) [hlt, hkb, hat, hp]; done)))
      refine ⟨by simp, _, rfl, fin0 ⟨?_, rfl⟩ (by simp [resO, get, nms, nmss]; try (simp [nms, nmss] at hn; simp_all))⟩
      simp [resO, get, ren, rens, e]
    · repeat' (first
        | refine AWP.seq ?_
        | refine AWP.block ?_
        | (refine AWP.skip ?_; simp only [thenA, blockA, reduceIte])
        | (refine AWP.exit ?_; simp only [thenA, blockA, eq_self, reduceIte, Nat.reduceEqDiff, Nat.succ_ne_zero])
        | (refine AWP.ret ?_; simp only [thenA, blockA, reduceIte])
        | (refine AWP.region (by rfl) (fun KK hKK => ?_); (repeat (simp (disch := omega) [hlt, hkb, hat, hp])); first | (refine hKK _ _ _ ?_; clear hKK KK; simp only [thenA, blockA, reduceIte]) | skip)
        | (refine AWP.if_t ?_ ?_; focus (simp (disch := omega) [hlt, hkb, hat, hp]; done))
        | (refine AWP.if_f ?_ ?_; focus (simp (disch := omega) [hlt, hkb, hat, hp]; done)))
      refine ⟨_, _, _, _, ?_, ⟨k + 1, by omega, rfl, take_snoc hlt hl (by simp [hp]), rfl, rfl, rfl⟩, (Weak.base hB (by repeat (first | exact Over.refl _ | exact hov | refine Over.upd ?_ hB (by omega) | refine Over.del ?_ hB (by omega))) (by simp [LT, get, nms, nmss]; try (simp [nms, nmss] at hn; simp_all)))⟩
      omega
  · have hk' : k = ds.length := by omega
    subst hk'
    have e : nameIx ds t = -1 := idx_no (fun e he => hl e (by rw [List.take_length]; exact he))
    repeat' (first
      | refine AWP.seq ?_
      | refine AWP.block ?_
      | (refine AWP.skip ?_; simp only [thenA, blockA, reduceIte])
      | (refine AWP.exit ?_; simp only [thenA, blockA, eq_self, reduceIte, Nat.reduceEqDiff, Nat.succ_ne_zero])
      | (refine AWP.ret ?_; simp only [thenA, blockA, reduceIte])
      | (refine AWP.region (by rfl) (fun KK hKK => ?_); (repeat (simp (disch := omega) [])); first | (refine hKK _ _ _ ?_; clear hKK KK; simp only [thenA, blockA, reduceIte]) | skip)
      | (refine AWP.if_t ?_ ?_; focus (simp (disch := omega) []; done))
      | (refine AWP.if_f ?_ ?_; focus (simp (disch := omega) []; done)))
    refine ⟨by simp, _, rfl, fin0 ⟨?_, rfl⟩ (by simp [resO, get, nms, nmss]; try (simp [nms, nmss] at hn; simp_all))⟩
    simp [resO, get, ren, rens, e]

set_option maxRecDepth 10000 in
set_option maxHeartbeats 1000000 in
theorem validDefs_c (σ : Sto) (ν : Nat) (x : AV) (ds : List Df) (lo hi : Int) (hx : Sl σ x 2 (rowsD ds)) (hlen : ds.length ≤ 9223372036854775807) (hsz : ∀ d ∈ ds, d.1.size ≤ 9223372036854775807) :
    AC Try.prog 106 [x, .v (.int .i64 lo), .v (.int .i64 hi)] σ ν fun r δ => r = .v (.bool (okDs lo hi ds)) ∧ δ = noS := by
  obtain ⟨b, o, cap, z, rfl⟩ := hx.out
  simp only [rowsD_len] at hx ⊢
  refine AC.intro [] ent_106 Try.func106 rfl (by simp [Try.f106]) (by simp) ?_
  intro K s hs hB hn hν hA hFr
  simp only [argT, Nat.zero_add, Nat.reduceAdd]
  have hx' := hx.vw hs.vw
  repeat' (first
    | refine AWP.seq ?_
    | refine AWP.block ?_
    | (refine AWP.skip ?_; simp only [thenA, blockA, reduceIte])
    | (refine AWP.exit ?_; simp only [thenA, blockA, eq_self, reduceIte, Nat.reduceEqDiff, Nat.succ_ne_zero])
    | (refine AWP.ret ?_; simp only [thenA, blockA, reduceIte])
    | (refine AWP.region (by rfl) (fun KK hKK => ?_); (repeat (simp (disch := omega) [])); first | (refine hKK _ _ _ ?_; clear hKK KK; simp only [thenA, blockA, reduceIte]) | skip)
    | (refine AWP.draw' mixd (by rfl) (by kernel_rfl) (fun KK tab hKK htab => ?_); (repeat (simp (disch := omega) [])); first | (refine dEnd_ro ?_ (hKK _ _ _ ?_); (focus (simp; done)); clear htab tab hKK KK; simp only [thenA, blockA, reduceIte]) | (refine dEnd_of ?_ (hKK _ _ _ ?_); (focus (simp only [List.reverse_cons, List.reverse_nil, List.nil_append, List.cons_append, memA, mem1, and_true, true_and]; (repeat' apply And.intro); (all_goals (first | trivial | (refine .inr ⟨?_, ?_⟩ <;> (simp; done)) | (refine .inr ⟨?_, ?_⟩ <;> (simp <;> omega)) | (refine .inl ?_; rw [htab]; kernel_rfl))); done)); clear htab tab hKK KK; simp only [thenA, blockA, reduceIte]) | skip)
    | (refine AWP.if_t ?_ ?_; focus (simp (disch := omega) []; done))
    | (refine AWP.if_f ?_ ?_; focus (simp (disch := omega) []; done)))
  refine AWP.loop (fun n τ σ' M => ∃ k : Nat, k ≤ ds.length ∧ n = ds.length - k ∧ okTo lo hi ds k = true ∧ τ = [(0, .sl b o ds.length cap z), (1, .v (.int .i64 lo)), (2, .v (.int .i64 hi)), (7, .v (.int .i64 k))] ∧ σ' = s ∧ M = K) ⟨_, _, _, _, ⟨0, by omega, rfl, by simp [okTo], rfl, rfl, rfl⟩, (Weak.base hB (by repeat (first | exact Over.refl _ | exact hov | refine Over.upd ?_ hB (by omega) | refine Over.del ?_ hB (by omega))) (by simp [LT, get, nms, nmss]; try (simp [nms, nmss] at hn; simp_all)))⟩ ?_
  rintro n τ σ' M ⟨k, hk, rfl, hl, rfl, rfl, rfl⟩
  by_cases hlt : k < ds.length
  · obtain ⟨_, rfl, kb, hkb, hat⟩ := hx'.at (i := k) (by rw [rowsD_len]; exact hlt)
    have hrow : (rowsD ds)[k]'(by rw [rowsD_len]; exact hlt) = [.v (.string ds[k].1), .v (.int .i64 ds[k].2)] := by simp [rowsD, rowD]
    rw [hrow] at hat
    have hmem : ds[k] ∈ ds := List.getElem_mem hlt
    have hbK : b < M := (hB b _ hkb).1
    have hok := okAt_eq lo hi ds k hlt
    have hxk : Sl σ' (.sl b o k cap 2) 2 (rowsD (ds.take k)) := by
      have := hx'.take (i := k) (by rw [rowsD_len]; omega) cap id
      simpa [rowsD, List.map_take] using this
    cases h1 : vname ds[k].1 with
    | false =>
      have hbad := okTo_bad lo hi ds k hlt (by rw [hok, h1]; rfl)
      repeat' (first
        | refine AWP.seq ?_
        | refine AWP.block ?_
        | (refine AWP.skip ?_; simp only [thenA, blockA, reduceIte])
        | (refine AWP.exit ?_; simp only [thenA, blockA, eq_self, reduceIte, Nat.reduceEqDiff, Nat.succ_ne_zero])
        | (refine AWP.ret ?_; simp only [thenA, blockA, reduceIte])
        | (refine AWP.region (by rfl) (fun KK hKK => ?_); (repeat (simp (disch := omega) [hlt, hkb, hat])); first | (refine hKK _ _ _ ?_; clear hKK KK; simp only [thenA, blockA, reduceIte]) | skip)
        | (refine AWP.draw' mixd (by rfl) (by kernel_rfl) (fun KK tab hKK htab => ?_); (repeat (simp (disch := omega) [hlt, hkb, hat])); first | (refine dEnd_ro ?_ (hKK _ _ _ ?_); (focus (simp; done)); clear htab tab hKK KK; simp only [thenA, blockA, reduceIte]) | (refine dEnd_of ?_ (hKK _ _ _ ?_); (focus (simp only [List.reverse_cons, List.reverse_nil, List.nil_append, List.cons_append, memA, mem1, and_true, true_and]; (repeat' apply And.intro); (all_goals (first | trivial | (refine .inr ⟨?_, ?_⟩ <;> (simp; done)) | (refine .inr ⟨?_, ?_⟩ <;> (simp <;> omega)) | (refine .inl ?_; rw [htab]; kernel_rfl))); done)); clear htab tab hKK KK; simp only [thenA, blockA, reduceIte]) | skip)
        | (refine AWP.if_t ?_ ?_; focus (simp (disch := omega) [hlt, hkb, hat]; done))
        | (refine AWP.if_f ?_ ?_; focus (simp (disch := omega) [hlt, hkb, hat]; done)))
      refine dStop_pure (fun σ' => validNameS_c σ' _ _ (hsz _ hmem)) ?_
      (repeat (simp (disch := omega) [h1]))
      first | (refine dEnd_ro ?_ (hKK _ _ _ ?_); (focus (simp; done)); clear htab tab hKK KK; simp only [thenA, blockA, reduceIte]) | (refine dEnd_of ?_ (hKK _ _ _ ?_); (focus (simp only [List.reverse_cons, List.reverse_nil, List.nil_append, List.cons_append, memA, mem1, and_true, true_and]; (repeat' apply And.intro); (all_goals (first | trivial | (refine .inr ⟨?_, ?_⟩ <;> (simp; done)) | (refine .inr ⟨?_, ?_⟩ <;> (simp <;> omega)) | (refine .inl ?_; rw [htab]; kernel_rfl))); done)); clear htab tab hKK KK; simp only [thenA, blockA, reduceIte]) | skip
      repeat' (first
        | refine AWP.seq ?_
        | refine AWP.block ?_
        | (refine AWP.skip ?_; simp only [thenA, blockA, reduceIte])
        | (refine AWP.exit ?_; simp only [thenA, blockA, eq_self, reduceIte, Nat.reduceEqDiff, Nat.succ_ne_zero])
        | (refine AWP.ret ?_; simp only [thenA, blockA, reduceIte])
        | (refine AWP.region (by rfl) (fun KK hKK => ?_); (repeat (simp (disch := omega) [])); first | (refine hKK _ _ _ ?_; clear hKK KK; simp only [thenA, blockA, reduceIte]) | skip)
        | (refine AWP.draw' mixd (by rfl) (by kernel_rfl) (fun KK tab hKK htab => ?_); (repeat (simp (disch := omega) [])); first | (refine dEnd_ro ?_ (hKK _ _ _ ?_); (focus (simp; done)); clear htab tab hKK KK; simp only [thenA, blockA, reduceIte]) | (refine dEnd_of ?_ (hKK _ _ _ ?_); (focus (simp only [List.reverse_cons, List.reverse_nil, List.nil_append, List.cons_append, memA, mem1, and_true, true_and]; (repeat' apply And.intro); (all_goals (first | trivial | (refine .inr ⟨?_, ?_⟩ <;> (simp; done)) | (refine .inr ⟨?_, ?_⟩ <;> (simp <;> omega)) | (refine .inl ?_; rw [htab]; kernel_rfl))); done)); clear htab tab hKK KK; simp only [thenA, blockA, reduceIte]) | skip)
        | (refine AWP.if_t ?_ ?_; focus (simp (disch := omega) []; done))
        | (refine AWP.if_f ?_ ?_; focus (simp (disch := omega) []; done)))
      refine ⟨by simp, _, rfl, fin0 ⟨?_, rfl⟩ (by simp [resO, get, nms, nmss]; try (simp [nms, nmss] at hn; simp_all))⟩
      simp [resO, get, ren, rens, okDs, hbad]
    | true =>
      by_cases h2 : lo ≤ ds[k].2 ∧ ds[k].2 ≤ hi
      · by_cases h3 : nameIx (ds.take k) ds[k].1 < 0
        · have hgood : okTo lo hi ds (k + 1) = true := by rw [okTo_succ, hl, hok]; simp [h1, h2, h3]
          have h3' : ¬ (0 ≤ nameIx (ds.take k) ds[k].1) := by omega
          repeat' (first
            | refine AWP.seq ?_
            | refine AWP.block ?_
            | (refine AWP.skip ?_; simp only [thenA, blockA, reduceIte])
            | (refine AWP.exit ?_; simp only [thenA, blockA, eq_self, reduceIte, Nat.reduceEqDiff, Nat.succ_ne_zero])
            | (refine AWP.ret ?_; simp only [thenA, blockA, reduceIte])
            | (refine AWP.region (by rfl) (fun KK hKK => ?_); (repeat (simp (disch := omega) [hlt, hkb, hat])); first | (refine hKK _ _ _ ?_; clear hKK KK; simp only [thenA, blockA, reduceIte]) | skip)
            | (refine AWP.draw' mixd (by rfl) (by kernel_rfl) (fun KK tab hKK htab => ?_); (repeat (simp (disch := omega) [hlt, hkb, hat])); first | (refine dEnd_ro ?_ (hKK _ _ _ ?_); (focus (simp; done)); clear htab tab hKK KK; simp only [thenA, blockA, reduceIte]) | (refine dEnd_of ?_ (hKK _ _ _ ?_); (focus (simp only [List.reverse_cons, List.reverse_nil, List.nil_append, List.cons_append, memA, mem1, and_true, true_and]; (repeat' apply And.intro); (all_goals (first | trivial | (refine .inr ⟨?_, ?_⟩ <;> (simp; done)) | (refine .inr ⟨?_, ?_⟩ <;> (simp <;> omega)) | (refine .inl ?_; rw [htab]; kernel_rfl))); done)); clear htab tab hKK KK; simp only [thenA, blockA, reduceIte]) | skip)
            | (refine AWP.if_t ?_ ?_; focus (simp (disch := omega) [hlt, hkb, hat]; done))
            | (refine AWP.if_f ?_ ?_; focus (simp (disch := omega) [hlt, hkb, hat]; done)))
          refine dStop_pure (fun σ' => validNameS_c σ' _ _ (hsz _ hmem)) ?_
          (repeat (simp (disch := omega) [h1, hlt, hkb, hat]))
          first | (refine dEnd_ro ?_ (hKK _ _ _ ?_); (focus (simp; done)); clear htab tab hKK KK; simp only [thenA, blockA, reduceIte]) | (refine dEnd_of ?_ (hKK _ _ _ ?_); (focus (simp only [List.reverse_cons, List.reverse_nil, List.nil_append, List.cons_append, memA, mem1, and_true, true_and]; (repeat' apply And.intro); (all_goals (first | trivial | (refine .inr ⟨?_, ?_⟩ <;> (simp; done)) | (refine .inr ⟨?_, ?_⟩ <;> (simp <;> omega)) | (refine .inl ?_; rw [htab]; kernel_rfl))); done)); clear htab tab hKK KK; simp only [thenA, blockA, reduceIte]) | skip
          refine dStop_pure (fun σ' => inRange_c σ' _ _ _ _) ?_
          (repeat (simp (disch := omega) [h2, hlt, hk, hkb, hat]))
          first | (refine dEnd_ro ?_ (hKK _ _ _ ?_); (focus (simp; done)); clear htab tab hKK KK; simp only [thenA, blockA, reduceIte]) | (refine dEnd_of ?_ (hKK _ _ _ ?_); (focus (simp only [List.reverse_cons, List.reverse_nil, List.nil_append, List.cons_append, memA, mem1, and_true, true_and]; (repeat' apply And.intro); (all_goals (first | trivial | (refine .inr ⟨?_, ?_⟩ <;> (simp; done)) | (refine .inr ⟨?_, ?_⟩ <;> (simp <;> omega)) | (refine .inl ?_; rw [htab]; kernel_rfl))); done)); clear htab tab hKK KK; simp only [thenA, blockA, reduceIte]) | skip
          refine dStop_ro [b] (fun σ' hσ' => indexOf_c σ' _ _ (ds.take k) _ (hxk.on (by rw [hσ' b (by simp)])) (by simp; omega)) ?_
          (repeat (simp (disch := omega) [h3']))
          first | (refine dEnd_ro ?_ (hKK _ _ _ ?_); (focus (simp; done)); clear htab tab hKK KK; simp only [thenA, blockA, reduceIte]) | (refine dEnd_of ?_ (hKK _ _ _ ?_); (focus (simp only [List.reverse_cons, List.reverse_nil, List.nil_append, List.cons_append, memA, mem1, and_true, true_and]; (repeat' apply And.intro); (all_goals (first | trivial | (refine .inr ⟨?_, ?_⟩ <;> (simp; done)) | (refine .inr ⟨?_, ?_⟩ <;> (simp <;> omega)) | (refine .inl ?_; rw [htab]; kernel_rfl))); done)); clear htab tab hKK KK; simp only [thenA, blockA, reduceIte]) | skip
          repeat' (first
            | refine AWP.seq ?_
            | refine AWP.block ?_
            | (refine AWP.skip ?_; simp only [thenA, blockA, reduceIte])
            | (refine AWP.exit ?_; simp only [thenA, blockA, eq_self, reduceIte, Nat.reduceEqDiff, Nat.succ_ne_zero])
            | (refine AWP.ret ?_; simp only [thenA, blockA, reduceIte])
            | (refine AWP.region (by rfl) (fun KK hKK => ?_); (repeat (simp (disch := omega) [])); first | (refine hKK _ _ _ ?_; clear hKK KK; simp only [thenA, blockA, reduceIte]) | skip)
            | (refine AWP.draw' mixd (by rfl) (by kernel_rfl) (fun KK tab hKK htab => ?_); (repeat (simp (disch := omega) [])); first | (refine dEnd_ro ?_ (hKK _ _ _ ?_); (focus (simp; done)); clear htab tab hKK KK; simp only [thenA, blockA, reduceIte]) | (refine dEnd_of ?_ (hKK _ _ _ ?_); (focus (simp only [List.reverse_cons, List.reverse_nil, List.nil_append, List.cons_append, memA, mem1, and_true, true_and]; (repeat' apply And.intro); (all_goals (first | trivial | (refine .inr ⟨?_, ?_⟩ <;> (simp; done)) | (refine .inr ⟨?_, ?_⟩ <;> (simp <;> omega)) | (refine .inl ?_; rw [htab]; kernel_rfl))); done)); clear htab tab hKK KK; simp only [thenA, blockA, reduceIte]) | skip)
            | (refine AWP.if_t ?_ ?_; focus (simp (disch := omega) []; done))
            | (refine AWP.if_f ?_ ?_; focus (simp (disch := omega) []; done)))
          refine ⟨_, _, _, _, ?_, ⟨k + 1, by omega, rfl, hgood, rfl, rfl, rfl⟩, (Weak.base hB (by repeat (first | exact Over.refl _ | exact hov | refine Over.upd ?_ hB (by omega) | refine Over.del ?_ hB (by omega))) (by simp [LT, get, nms, nmss]; try (simp [nms, nmss] at hn; simp_all)))⟩
          omega
        · have hbad := okTo_bad lo hi ds k hlt (by rw [hok]; simp [h3])
          have h3' : 0 ≤ nameIx (ds.take k) ds[k].1 := by omega
          repeat' (first
            | refine AWP.seq ?_
            | refine AWP.block ?_
            | (refine AWP.skip ?_; simp only [thenA, blockA, reduceIte])
            | (refine AWP.exit ?_; simp only [thenA, blockA, eq_self, reduceIte, Nat.reduceEqDiff, Nat.succ_ne_zero])
            | (refine AWP.ret ?_; simp only [thenA, blockA, reduceIte])
            | (refine AWP.region (by rfl) (fun KK hKK => ?_); (repeat (simp (disch := omega) [hlt, hkb, hat])); first | (refine hKK _ _ _ ?_; clear hKK KK; simp only [thenA, blockA, reduceIte]) | skip)
            | (refine AWP.draw' mixd (by rfl) (by kernel_rfl) (fun KK tab hKK htab => ?_); (repeat (simp (disch := omega) [hlt, hkb, hat])); first | (refine dEnd_ro ?_ (hKK _ _ _ ?_); (focus (simp; done)); clear htab tab hKK KK; simp only [thenA, blockA, reduceIte]) | (refine dEnd_of ?_ (hKK _ _ _ ?_); (focus (simp only [List.reverse_cons, List.reverse_nil, List.nil_append, List.cons_append, memA, mem1, and_true, true_and]; (repeat' apply And.intro); (all_goals (first | trivial | (refine .inr ⟨?_, ?_⟩ <;> (simp; done)) | (refine .inr ⟨?_, ?_⟩ <;> (simp <;> omega)) | (refine .inl ?_; rw [htab]; kernel_rfl))); done)); clear htab tab hKK KK; simp only [thenA, blockA, reduceIte]) | skip)
            | (refine AWP.if_t ?_ ?_; focus (simp (disch := omega) [hlt, hkb, hat]; done))
            | (refine AWP.if_f ?_ ?_; focus (simp (disch := omega) [hlt, hkb, hat]; done)))
          refine dStop_pure (fun σ' => validNameS_c σ' _ _ (hsz _ hmem)) ?_
          (repeat (simp (disch := omega) [h1, hlt, hkb, hat]))
          first | (refine dEnd_ro ?_ (hKK _ _ _ ?_); (focus (simp; done)); clear htab tab hKK KK; simp only [thenA, blockA, reduceIte]) | (refine dEnd_of ?_ (hKK _ _ _ ?_); (focus (simp only [List.reverse_cons, List.reverse_nil, List.nil_append, List.cons_append, memA, mem1, and_true, true_and]; (repeat' apply And.intro); (all_goals (first | trivial | (refine .inr ⟨?_, ?_⟩ <;> (simp; done)) | (refine .inr ⟨?_, ?_⟩ <;> (simp <;> omega)) | (refine .inl ?_; rw [htab]; kernel_rfl))); done)); clear htab tab hKK KK; simp only [thenA, blockA, reduceIte]) | skip
          refine dStop_pure (fun σ' => inRange_c σ' _ _ _ _) ?_
          (repeat (simp (disch := omega) [h2, hlt, hk, hkb, hat]))
          first | (refine dEnd_ro ?_ (hKK _ _ _ ?_); (focus (simp; done)); clear htab tab hKK KK; simp only [thenA, blockA, reduceIte]) | (refine dEnd_of ?_ (hKK _ _ _ ?_); (focus (simp only [List.reverse_cons, List.reverse_nil, List.nil_append, List.cons_append, memA, mem1, and_true, true_and]; (repeat' apply And.intro); (all_goals (first | trivial | (refine .inr ⟨?_, ?_⟩ <;> (simp; done)) | (refine .inr ⟨?_, ?_⟩ <;> (simp <;> omega)) | (refine .inl ?_; rw [htab]; kernel_rfl))); done)); clear htab tab hKK KK; simp only [thenA, blockA, reduceIte]) | skip
          refine dStop_ro [b] (fun σ' hσ' => indexOf_c σ' _ _ (ds.take k) _ (hxk.on (by rw [hσ' b (by simp)])) (by simp; omega)) ?_
          (repeat (simp (disch := omega) [h3']))
          first | (refine dEnd_ro ?_ (hKK _ _ _ ?_); (focus (simp; done)); clear htab tab hKK KK; simp only [thenA, blockA, reduceIte]) | (refine dEnd_of ?_ (hKK _ _ _ ?_); (focus (simp only [List.reverse_cons, List.reverse_nil, List.nil_append, List.cons_append, memA, mem1, and_true, true_and]; (repeat' apply And.intro); (all_goals (first | trivial | (refine .inr ⟨?_, ?_⟩ <;> (simp; done)) | (refine .inr ⟨?_, ?_⟩ <;> (simp <;> omega)) | (refine .inl ?_; rw [htab]; kernel_rfl))); done)); clear htab tab hKK KK; simp only [thenA, blockA, reduceIte]) | skip
          repeat' (first
            | refine AWP.seq ?_
            | refine AWP.block ?_
            | (refine AWP.skip ?_; simp only [thenA, blockA, reduceIte])
            | (refine AWP.exit ?_; simp only [thenA, blockA, eq_self, reduceIte, Nat.reduceEqDiff, Nat.succ_ne_zero])
            | (refine AWP.ret ?_; simp only [thenA, blockA, reduceIte])
            | (refine AWP.region (by rfl) (fun KK hKK => ?_); (repeat (simp (disch := omega) [])); first | (refine hKK _ _ _ ?_; clear hKK KK; simp only [thenA, blockA, reduceIte]) | skip)
            | (refine AWP.draw' mixd (by rfl) (by kernel_rfl) (fun KK tab hKK htab => ?_); (repeat (simp (disch := omega) [])); first | (refine dEnd_ro ?_ (hKK _ _ _ ?_); (focus (simp; done)); clear htab tab hKK KK; simp only [thenA, blockA, reduceIte]) | (refine dEnd_of ?_ (hKK _ _ _ ?_); (focus (simp only [List.reverse_cons, List.reverse_nil, List.nil_append, List.cons_append, memA, mem1, and_true, true_and]; (repeat' apply And.intro); (all_goals (first | trivial | (refine .inr ⟨?_, ?_⟩ <;> (simp; done)) | (refine .inr ⟨?_, ?_⟩ <;> (simp <;> omega)) | (refine .inl ?_; rw [htab]; kernel_rfl))); done)); clear htab tab hKK KK; simp only [thenA, blockA, reduceIte]) | skip)
            | (refine AWP.if_t ?_ ?_; focus (simp (disch := omega) []; done))
            | (refine AWP.if_f ?_ ?_; focus (simp (disch := omega) []; done)))
          refine ⟨by simp, _, rfl, fin0 ⟨?_, rfl⟩ (by simp [resO, get, nms, nmss]; try (simp [nms, nmss] at hn; simp_all))⟩
          simp [resO, get, ren, rens, okDs, hbad]
      · have hbad := okTo_bad lo hi ds k hlt (by rw [hok]; simp [h2])
        repeat' (first
          | refine AWP.seq ?_
          | refine AWP.block ?_
          | (refine AWP.skip ?_; simp only [thenA, blockA, reduceIte])
          | (refine AWP.exit ?_; simp only [thenA, blockA, eq_self, reduceIte, Nat.reduceEqDiff, Nat.succ_ne_zero])
          | (refine AWP.ret ?_; simp only [thenA, blockA, reduceIte])
          | (refine AWP.region (by rfl) (fun KK hKK => ?_); (repeat (simp (disch := omega) [hlt, hkb, hat])); first | (refine hKK _ _ _ ?_; clear hKK KK; simp only [thenA, blockA, reduceIte]) | skip)
          | (refine AWP.draw' mixd (by rfl) (by kernel_rfl) (fun KK tab hKK htab => ?_); (repeat (simp (disch := omega) [hlt, hkb, hat])); first | (refine dEnd_ro ?_ (hKK _ _ _ ?_); (focus (simp; done)); clear htab tab hKK KK; simp only [thenA, blockA, reduceIte]) | (refine dEnd_of ?_ (hKK _ _ _ ?_); (focus (simp only [List.reverse_cons, List.reverse_nil, List.nil_append, List.cons_append, memA, mem1, and_true, true_and]; (repeat' apply And.intro); (all_goals (first | trivial | (refine .inr ⟨?_, ?_⟩ <;> (simp; done)) | (refine .inr ⟨?_, ?_⟩ <;> (simp <;> omega)) | (refine .inl ?_; rw [htab]; kernel_rfl))); done)); clear htab tab hKK KK; simp only [thenA, blockA, reduceIte]) | skip)
          | (refine AWP.if_t ?_ ?_; focus (simp (disch := omega) [hlt, hkb, hat]; done))
          | (refine AWP.if_f ?_ ?_; focus (simp (disch := omega) [hlt, hkb, hat]; done)))
        refine dStop_pure (fun σ' => validNameS_c σ' _ _ (hsz _ hmem)) ?_
        (repeat (simp (disch := omega) [h1, hlt, hkb, hat]))
        first | (refine dEnd_ro ?_ (hKK _ _ _ ?_); (focus (simp; done)); clear htab tab hKK KK; simp only [thenA, blockA, reduceIte]) | (refine dEnd_of ?_ (hKK _ _ _ ?_); (focus (simp only [List.reverse_cons, List.reverse_nil, List.nil_append, List.cons_append, memA, mem1, and_true, true_and]; (repeat' apply And.intro); (all_goals (first | trivial | (refine .inr ⟨?_, ?_⟩ <;> (simp; done)) | (refine .inr ⟨?_, ?_⟩ <;> (simp <;> omega)) | (refine .inl ?_; rw [htab]; kernel_rfl))); done)); clear htab tab hKK KK; simp only [thenA, blockA, reduceIte]) | skip
        refine dStop_pure (fun σ' => inRange_c σ' _ _ _ _) ?_
        (repeat (simp (disch := omega) [h2, hlt, hk, hkb, hat]))
        first | (refine dEnd_ro ?_ (hKK _ _ _ ?_); (focus (simp; done)); clear htab tab hKK KK; simp only [thenA, blockA, reduceIte]) | (refine dEnd_of ?_ (hKK _ _ _ ?_); (focus (simp only [List.reverse_cons, List.reverse_nil, List.nil_append, List.cons_append, memA, mem1, and_true, true_and]; (repeat' apply And.intro); (all_goals (first | trivial | (refine .inr ⟨?_, ?_⟩ <;> (simp; done)) | (refine .inr ⟨?_, ?_⟩ <;> (simp <;> omega)) | (refine .inl ?_; rw [htab]; kernel_rfl))); done)); clear htab tab hKK KK; simp only [thenA, blockA, reduceIte]) | skip
        repeat' (first
          | refine AWP.seq ?_
          | refine AWP.block ?_
          | (refine AWP.skip ?_; simp only [thenA, blockA, reduceIte])
          | (refine AWP.exit ?_; simp only [thenA, blockA, eq_self, reduceIte, Nat.reduceEqDiff, Nat.succ_ne_zero])
          | (refine AWP.ret ?_; simp only [thenA, blockA, reduceIte])
          | (refine AWP.region (by rfl) (fun KK hKK => ?_); (repeat (simp (disch := omega) [])); first | (refine hKK _ _ _ ?_; clear hKK KK; simp only [thenA, blockA, reduceIte]) | skip)
          | (refine AWP.draw' mixd (by rfl) (by kernel_rfl) (fun KK tab hKK htab => ?_); (repeat (simp (disch := omega) [])); first | (refine dEnd_ro ?_ (hKK _ _ _ ?_); (focus (simp; done)); clear htab tab hKK KK; simp only [thenA, blockA, reduceIte]) | (refine dEnd_of ?_ (hKK _ _ _ ?_); (focus (simp only [List.reverse_cons, List.reverse_nil, List.nil_append, List.cons_append, memA, mem1, and_true, true_and]; (repeat' apply And.intro); (all_goals (first | trivial | (refine .inr ⟨?_, ?_⟩ <;> (simp; done)) | (refine .inr ⟨?_, ?_⟩ <;> (simp <;> omega)) | (refine .inl ?_; rw [htab]; kernel_rfl))); done)); clear htab tab hKK KK; simp only [thenA, blockA, reduceIte]) | skip)
          | (refine AWP.if_t ?_ ?_; focus (simp (disch := omega) []; done))
          | (refine AWP.if_f ?_ ?_; focus (simp (disch := omega) []; done)))
        refine ⟨by simp, _, rfl, fin0 ⟨?_, rfl⟩ (by simp [resO, get, nms, nmss]; try (simp [nms, nmss] at hn; simp_all))⟩
        simp [resO, get, ren, rens, okDs, hbad]
  · have hk' : k = ds.length := by omega
    subst hk'
    repeat' (first
      | refine AWP.seq ?_
      | refine AWP.block ?_
      | (refine AWP.skip ?_; simp only [thenA, blockA, reduceIte])
      | (refine AWP.exit ?_; simp only [thenA, blockA, eq_self, reduceIte, Nat.reduceEqDiff, Nat.succ_ne_zero])
      | (refine AWP.ret ?_; simp only [thenA, blockA, reduceIte])
      | (refine AWP.region (by rfl) (fun KK hKK => ?_); (repeat (simp (disch := omega) [])); first | (refine hKK _ _ _ ?_; clear hKK KK; simp only [thenA, blockA, reduceIte]) | skip)
      | (refine AWP.draw' mixd (by rfl) (by kernel_rfl) (fun KK tab hKK htab => ?_); (repeat (simp (disch := omega) [])); first | (refine dEnd_ro ?_ (hKK _ _ _ ?_); (focus (simp; done)); clear htab tab hKK KK; simp only [thenA, blockA, reduceIte]) | (refine dEnd_of ?_ (hKK _ _ _ ?_); (focus (simp only [List.reverse_cons, List.reverse_nil, List.nil_append, List.cons_append, memA, mem1, and_true, true_and]; (repeat' apply And.intro); (all_goals (first | trivial | (refine .inr ⟨?_, ?_⟩ <;> (simp; done)) | (refine .inr ⟨?_, ?_⟩ <;> (simp <;> omega)) | (refine .inl ?_; rw [htab]; kernel_rfl))); done)); clear htab tab hKK KK; simp only [thenA, blockA, reduceIte]) | skip)
      | (refine AWP.if_t ?_ ?_; focus (simp (disch := omega) []; done))
      | (refine AWP.if_f ?_ ?_; focus (simp (disch := omega) []; done)))
    refine ⟨by simp, _, rfl, fin0 ⟨?_, rfl⟩ (by simp [resO, get, nms, nmss]; try (simp [nms, nmss] at hn; simp_all))⟩
    simp [resO, get, ren, rens, okDs, hl]

set_option maxRecDepth 10000 in
set_option maxHeartbeats 400000 in
theorem validEnumS_c (σ : Sto) (ν : Nat) (x : AV) (ds : List Df) (hx : Sl σ x 2 (rowsD ds)) (hlen : ds.length ≤ 9223372036854775807) (hsz : ∀ d ∈ ds, d.1.size ≤ 9223372036854775807) :
    AC Try.prog 65 [.agg [x]] σ ν fun r δ => r = .v (.bool (okDs (-1000) 1000 ds)) ∧ δ = noS := by
  obtain ⟨b, o, cap, z, rfl⟩ := hx.out
  refine AC.intro [] ent_65 Try.func65 rfl (by simp [Try.f65]) (by simp) ?_
  intro K s hs hB hn hν hA hFr
  simp only [argT, Nat.zero_add, Nat.reduceAdd]
  have hx' := hx.vw hs.vw
  repeat' (first
    | refine AWP.seq ?_
    | refine AWP.block ?_
    | (refine AWP.skip ?_; simp only [thenA, blockA, reduceIte])
    | (refine AWP.exit ?_; simp only [thenA, blockA, eq_self, reduceIte, Nat.reduceEqDiff, Nat.succ_ne_zero])
    | (refine AWP.ret ?_; simp only [thenA, blockA, reduceIte])
    | (refine AWP.region (by rfl) (fun KK hKK => ?_); (repeat (simp (disch := omega) [])); first | (refine hKK _ _ _ ?_; clear hKK KK; simp only [thenA, blockA, reduceIte]) | skip)
    | (refine AWP.if_t ?_ ?_; focus (simp (disch := omega) []; done))
    | (refine AWP.if_f ?_ ?_; focus (simp (disch := omega) []; done)))
  refine aStop_of (validDefs_c _ _ _ ds _ _ (hx'.vw ((Vw.refl _).over (by repeat (first | exact Over.refl _ | exact hov | refine Over.upd ?_ hB (by omega) | refine Over.del ?_ hB (by omega))))) hlen hsz) ?_
  rintro r δ ⟨rfl, rfl⟩
  (repeat (simp (disch := omega) []))
  first | (refine hKK _ _ _ ?_; clear hKK KK; simp only [thenA, blockA, reduceIte]) | skip
  repeat' (first
    | refine AWP.seq ?_
    | refine AWP.block ?_
    | (refine AWP.skip ?_; simp only [thenA, blockA, reduceIte])
    | (refine AWP.exit ?_; simp only [thenA, blockA, eq_self, reduceIte, Nat.reduceEqDiff, Nat.succ_ne_zero])
    | (refine AWP.ret ?_; simp only [thenA, blockA, reduceIte])
    | (refine AWP.region (by rfl) (fun KK hKK => ?_); (repeat (simp (disch := omega) [])); first | (refine hKK _ _ _ ?_; clear hKK KK; simp only [thenA, blockA, reduceIte]) | skip)
    | (refine AWP.if_t ?_ ?_; focus (simp (disch := omega) []; done))
    | (refine AWP.if_f ?_ ?_; focus (simp (disch := omega) []; done)))
  refine ⟨by simp, _, rfl, fin0 ⟨?_, rfl⟩ (by simp [resO, get, nms, nmss]; try (simp [nms, nmss] at hn; simp_all))⟩
  simp [resO, get, ren, rens]
end Go.Proofs.Ythjjfdbkggiaeaa
