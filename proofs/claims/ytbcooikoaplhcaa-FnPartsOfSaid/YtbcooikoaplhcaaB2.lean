/- Contracts: lists of numbers: equal, ascending. No condition. -/
import Derived.Test.YtbcooikoaplhcaaCE4
set_option linter.unusedSimpArgs false
set_option linter.unusedVariables false
namespace Go.Proofs.Ytbcooikoaplhcaa
open Go Go.RowKit

theorem rowsI_get (l : List Int) (i : Nat) (h : i < l.length) : (rowsI l)[i]'(by rw [rowsI_len]; exact h) = [.v (.int .i64 l[i])] := by simp [rowsI]
set_option maxRecDepth 10000 in
set_option maxHeartbeats 1000000 in
theorem equalInts_c (σ : Sto) (ν : Nat) (x y : AV) (l m : List Int) (hx : Sl σ x 1 (rowsI l)) (hy : Sl σ y 1 (rowsI m)) (h1 : l.length ≤ 4294967296) (h2 : m.length ≤ 4294967296) :
    AC Try.prog 44 [x, y] σ ν fun r δ => r = .v (.bool (decide (l = m))) ∧ δ = noS := by
  obtain ⟨b, o, cap, z, rfl⟩ := hx.out
  obtain ⟨b2, o2, cap2, z2, rfl⟩ := hy.out
  simp only [rowsI_len] at hx hy ⊢
  refine AC.intro [] ent_44 Try.func44 rfl (by simp [Try.f44]) (by simp) ?_
  intro K s hs hB hn hν hA hFr
  simp only [argT, Nat.zero_add, Nat.reduceAdd]
  have hx' := hx.vw hs.vw
  have hy' := hy.vw hs.vw
  have hbK : b < K := hA b (by simp [nmAs, nmA])
  have hbK2 : b2 < K := hA b2 (by simp [nmAs, nmA])
  by_cases hl : ¬ l.length = m.length
  · have hne : l ≠ m := fun e => hl (by rw [e])
    have hl' : ¬ ((l.length : Int) = m.length) := by omega
    repeat' (first
      | refine AWP.seq ?_
      | refine AWP.block ?_
      | (refine AWP.skip ?_; simp only [thenA, blockA, reduceIte])
      | (refine AWP.exit ?_; simp only [thenA, blockA, eq_self, reduceIte, Nat.reduceEqDiff, Nat.succ_ne_zero])
      | (refine AWP.ret ?_; simp only [thenA, blockA, reduceIte])
      | (refine AWP.region (by rfl) (fun KK hKK => ?_); (repeat (simp (disch := omega) [hl, hl'])); first | (refine hKK _ _ _ ?_; clear hKK KK; simp only [thenA, blockA, reduceIte]) | skip)
      | (refine AWP.draw' mixd (by rfl) (by kernel_rfl) (fun KK tab hKK htab => ?_); (repeat (simp (disch := omega) [hl, hl'])); first | (refine dEnd_ro ?_ (hKK _ _ _ ?_); (focus (simp; done)); clear htab tab hKK KK; simp only [thenA, blockA, reduceIte]) | skip)
      | (refine AWP.if_t ?_ ?_; focus (simp (disch := omega) [hl, hl']; done))
      | (refine AWP.if_f ?_ ?_; focus (simp (disch := omega) [hl, hl']; done)))
    refine ⟨by simp, _, rfl, fin0 ⟨?_, rfl⟩ (by simp [resO, get, nms, nmss]; try (simp [nms, nmss] at hn; simp_all))⟩
    simp [resO, get, ren, rens, hne]
  have hl : l.length = m.length := by omega
  have hl' : ((l.length : Int) = m.length) := by omega
  repeat' (first
    | refine AWP.seq ?_
    | refine AWP.block ?_
    | (refine AWP.skip ?_; simp only [thenA, blockA, reduceIte])
    | (refine AWP.exit ?_; simp only [thenA, blockA, eq_self, reduceIte, Nat.reduceEqDiff, Nat.succ_ne_zero])
    | (refine AWP.ret ?_; simp only [thenA, blockA, reduceIte])
    | (refine AWP.region (by rfl) (fun KK hKK => ?_); (repeat (simp (disch := omega) [hl, hl'])); first | (refine hKK _ _ _ ?_; clear hKK KK; simp only [thenA, blockA, reduceIte]) | skip)
    | (refine AWP.draw' mixd (by rfl) (by kernel_rfl) (fun KK tab hKK htab => ?_); (repeat (simp (disch := omega) [hl, hl'])); first | (refine dEnd_ro ?_ (hKK _ _ _ ?_); (focus (simp; done)); clear htab tab hKK KK; simp only [thenA, blockA, reduceIte]) | skip)
    | (refine AWP.if_t ?_ ?_; focus (simp (disch := omega) [hl, hl']; done))
    | (refine AWP.if_f ?_ ?_; focus (simp (disch := omega) [hl, hl']; done)))
  refine AWP.loop (fun n τ σ' M => ∃ k : Nat, k ≤ l.length ∧ n = l.length - k ∧ l.take k = m.take k ∧ τ = [(0, .sl b o l.length cap z), (1, .sl b2 o2 m.length cap2 z2), (5, .v (.int .i64 k))] ∧ σ' = s ∧ M = K) ⟨_, _, _, _, ⟨0, by omega, rfl, rfl, rfl, rfl, rfl⟩, (Weak.base hB (by repeat (first | exact Over.refl _ | exact hov | refine Over.upd ?_ hB (by omega) | refine Over.del ?_ hB (by omega))) (by simp [LT, get, nms, nmss, hbK, hbK2] <;> omega))⟩ ?_
  rintro n τ σ' M ⟨k, hk, rfl, he, rfl, rfl, rfl⟩
  by_cases hlt : k < l.length
  · have hlt2 : k < m.length := by omega
    obtain ⟨_, rfl, kb, hkb, hat⟩ := hx'.at (i := k) (by rw [rowsI_len]; exact hlt)
    obtain ⟨_, rfl, kb2, hkb2, hat2⟩ := hy'.at (i := k) (by rw [rowsI_len]; exact hlt2)
    rw [rowsI_get _ _ hlt] at hat
    rw [rowsI_get _ _ hlt2] at hat2
    by_cases hq : l[k] = m[k]
    · repeat' (first
        | refine AWP.seq ?_
        | refine AWP.block ?_
        | (refine AWP.skip ?_; simp only [thenA, blockA, reduceIte])
        | (refine AWP.exit ?_; simp only [thenA, blockA, eq_self, reduceIte, Nat.reduceEqDiff, Nat.succ_ne_zero])
        | (refine AWP.ret ?_; simp only [thenA, blockA, reduceIte])
        | (refine AWP.region (by rfl) (fun KK hKK => ?_); (repeat (simp (disch := omega) [hlt, hlt2, hkb, hat, hkb2, hat2, hq])); first | (refine hKK _ _ _ ?_; clear hKK KK; simp only [thenA, blockA, reduceIte]) | skip)
        | (refine AWP.draw' mixd (by rfl) (by kernel_rfl) (fun KK tab hKK htab => ?_); (repeat (simp (disch := omega) [hlt, hlt2, hkb, hat, hkb2, hat2, hq])); first | (refine dEnd_ro ?_ (hKK _ _ _ ?_); (focus (simp; done)); clear htab tab hKK KK; simp only [thenA, blockA, reduceIte]) | skip)
        | (refine AWP.if_t ?_ ?_; focus (simp (disch := omega) [hlt, hlt2, hkb, hat, hkb2, hat2, hq]; done))
        | (refine AWP.if_f ?_ ?_; focus (simp (disch := omega) [hlt, hlt2, hkb, hat, hkb2, hat2, hq]; done)))
      refine ⟨_, _, _, _, ?_, ⟨k + 1, by omega, rfl, take_eq_snoc hlt hlt2 he hq, rfl, rfl, rfl⟩, (Weak.base hB (by repeat (first | exact Over.refl _ | exact hov | refine Over.upd ?_ hB (by omega) | refine Over.del ?_ hB (by omega))) (by simp [LT, get, nms, nmss, hbK, hbK2] <;> omega))⟩
      omega
    · have hne := list_ne_of k hlt hlt2 hq
      repeat' (first
        | refine AWP.seq ?_
        | refine AWP.block ?_
        | (refine AWP.skip ?_; simp only [thenA, blockA, reduceIte])
        | (refine AWP.exit ?_; simp only [thenA, blockA, eq_self, reduceIte, Nat.reduceEqDiff, Nat.succ_ne_zero])
        | (refine AWP.ret ?_; simp only [thenA, blockA, reduceIte])
        | (refine AWP.region (by rfl) (fun KK hKK => ?_); (repeat (simp (disch := omega) [hlt, hlt2, hkb, hat, hkb2, hat2, hq])); first | (refine hKK _ _ _ ?_; clear hKK KK; simp only [thenA, blockA, reduceIte]) | skip)
        | (refine AWP.draw' mixd (by rfl) (by kernel_rfl) (fun KK tab hKK htab => ?_); (repeat (simp (disch := omega) [hlt, hlt2, hkb, hat, hkb2, hat2, hq])); first | (refine dEnd_ro ?_ (hKK _ _ _ ?_); (focus (simp; done)); clear htab tab hKK KK; simp only [thenA, blockA, reduceIte]) | skip)
        | (refine AWP.if_t ?_ ?_; focus (simp (disch := omega) [hlt, hlt2, hkb, hat, hkb2, hat2, hq]; done))
        | (refine AWP.if_f ?_ ?_; focus (simp (disch := omega) [hlt, hlt2, hkb, hat, hkb2, hat2, hq]; done)))
      refine ⟨by simp, _, rfl, fin0 ⟨?_, rfl⟩ (by simp [resO, get, nms, nmss]; try (simp [nms, nmss] at hn; simp_all))⟩
      simp [resO, get, ren, rens, hne]
  · have hk' : k = l.length := by omega
    subst hk'
    rw [List.take_length, hl, List.take_length] at he
    repeat' (first
      | refine AWP.seq ?_
      | refine AWP.block ?_
      | (refine AWP.skip ?_; simp only [thenA, blockA, reduceIte])
      | (refine AWP.exit ?_; simp only [thenA, blockA, eq_self, reduceIte, Nat.reduceEqDiff, Nat.succ_ne_zero])
      | (refine AWP.ret ?_; simp only [thenA, blockA, reduceIte])
      | (refine AWP.region (by rfl) (fun KK hKK => ?_); (repeat (simp (disch := omega) [])); first | (refine hKK _ _ _ ?_; clear hKK KK; simp only [thenA, blockA, reduceIte]) | skip)
      | (refine AWP.draw' mixd (by rfl) (by kernel_rfl) (fun KK tab hKK htab => ?_); (repeat (simp (disch := omega) [])); first | (refine dEnd_ro ?_ (hKK _ _ _ ?_); (focus (simp; done)); clear htab tab hKK KK; simp only [thenA, blockA, reduceIte]) | skip)
      | (refine AWP.if_t ?_ ?_; focus (simp (disch := omega) []; done))
      | (refine AWP.if_f ?_ ?_; focus (simp (disch := omega) []; done)))
    refine ⟨by simp, _, rfl, fin0 ⟨?_, rfl⟩ (by simp [resO, get, nms, nmss]; try (simp [nms, nmss] at hn; simp_all))⟩
    simp [resO, get, ren, rens, he]
def ascI (l : List Int) : Bool := (List.range (l.length - 1)).all fun i => decide (l.getD i 0 < l.getD (i + 1) 0)
set_option maxRecDepth 10000 in
set_option maxHeartbeats 1000000 in
/-- Where the list ascends. -/
theorem ascends_yes (σ : Sto) (ν : Nat) (x : AV) (l : List Int) (hx : Sl σ x 1 (rowsI l)) (h1 : l.length ≤ 4294967296) (hasc : ∀ i, ∀ h : i + 1 < l.length, l[i] < l[i + 1]) :
    AC Try.prog 46 [x] σ ν fun r δ => r = .v (.bool true) ∧ δ = noS := by
  obtain ⟨b, o, cap, z, rfl⟩ := hx.out
  simp only [rowsI_len] at hx ⊢
  refine AC.intro [] ent_46 Try.func46 rfl (by simp [Try.f46]) (by simp) ?_
  intro K s hs hB hn hν hA hFr
  simp only [argT, Nat.zero_add, Nat.reduceAdd]
  have hx' := hx.vw hs.vw
  repeat' (first
    | refine AWP.seq ?_
    | refine AWP.block ?_
    | (refine AWP.skip ?_; simp only [thenA, blockA, reduceIte])
    | (refine AWP.exit ?_; simp only [thenA, blockA, eq_self, reduceIte, Nat.reduceEqDiff, Nat.succ_ne_zero])
    | (refine AWP.ret ?_; simp only [thenA, blockA, reduceIte])
    | (refine AWP.region (by rfl) (fun KK hKK => ?_); (repeat (simp (disch := omega) [])); first | (refine hKK _ _ _ ?_; clear hKK KK; simp only [thenA, blockA, reduceIte]) | skip)
    | (refine AWP.draw' mixd (by rfl) (by kernel_rfl) (fun KK tab hKK htab => ?_); (repeat (simp (disch := omega) [])); first | (refine dEnd_ro ?_ (hKK _ _ _ ?_); (focus (simp; done)); clear htab tab hKK KK; simp only [thenA, blockA, reduceIte]) | skip)
    | (refine AWP.if_t ?_ ?_; focus (simp (disch := omega) []; done))
    | (refine AWP.if_f ?_ ?_; focus (simp (disch := omega) []; done)))
  refine AWP.loop (fun n τ σ' M => ∃ k : Nat, n = l.length - (k + 1) ∧ τ = [(0, .sl b o l.length cap z), (3, .v (.int .i64 (k + 1 : Nat)))] ∧ σ' = s ∧ M = K) ⟨_, _, _, _, ⟨0, rfl, rfl, rfl, rfl⟩, Weak.tau (by simp [LQ])⟩ ?_
  rintro n τ σ' M ⟨k, rfl, rfl, rfl, rfl⟩
  by_cases hlt : k + 1 < l.length
  · obtain ⟨_, rfl, kb, hkb, hat⟩ := hx'.at (i := k + 1) (by rw [rowsI_len]; exact hlt)
    obtain ⟨_, _, kb2, hkb2, hat2⟩ := hx'.at (i := k) (by rw [rowsI_len]; omega)
    rw [rowsI_get _ _ hlt] at hat
    rw [rowsI_get _ _ (by omega)] at hat2
    obtain rfl : kb = kb2 := by rw [hkb] at hkb2; exact Option.some.inj hkb2
    have e1 : o + (k + 1) = o + k + 1 := by omega
    have hat' : kb.es[o + k + 1]? = some [.v (.int .i64 l[k + 1])] := by rw [← e1]; exact hat
    have h0k : 0 ≤ (k : Int) + 1 := by omega
    have hkd : ((k : Int) + 1 - 1) = k := by omega
    have hq := hasc k hlt
    have hq2 : ¬ l[k + 1] ≤ l[k] := by omega
    have hlt0 : k < l.length := by omega
    have hlti : (k : Int) + 1 < l.length := by omega
    repeat' (first
      | refine AWP.seq ?_
      | refine AWP.block ?_
      | (refine AWP.skip ?_; simp only [thenA, blockA, reduceIte])
      | (refine AWP.exit ?_; simp only [thenA, blockA, eq_self, reduceIte, Nat.reduceEqDiff, Nat.succ_ne_zero])
      | (refine AWP.ret ?_; simp only [thenA, blockA, reduceIte])
      | (refine AWP.region (by rfl) (fun KK hKK => ?_); (repeat (simp (disch := omega) [hlt, hlti, hlt0, hkb, hat, hat', hat2, hq2, hkd, h0k])); first | (refine hKK _ _ _ ?_; clear hKK KK; simp only [thenA, blockA, reduceIte]) | skip)
      | (refine AWP.draw' mixd (by rfl) (by kernel_rfl) (fun KK tab hKK htab => ?_); (repeat (simp (disch := omega) [hlt, hlti, hlt0, hkb, hat, hat', hat2, hq2, hkd, h0k])); first | (refine dEnd_ro ?_ (hKK _ _ _ ?_); (focus (simp; done)); clear htab tab hKK KK; simp only [thenA, blockA, reduceIte]) | skip)
      | (refine AWP.if_t ?_ ?_; focus (simp (disch := omega) [hlt, hlti, hlt0, hkb, hat, hat', hat2, hq2, hkd, h0k]; done))
      | (refine AWP.if_f ?_ ?_; focus (simp (disch := omega) [hlt, hlti, hlt0, hkb, hat, hat', hat2, hq2, hkd, h0k]; done)))
    have hbK : b < M := (hB b _ hkb).1
    refine ⟨_, _, _, _, ?_, ⟨k + 1, rfl, rfl, rfl, rfl⟩, (Weak.base hB (by repeat (first | exact Over.refl _ | exact hov | refine Over.upd ?_ hB (by omega) | refine Over.del ?_ hB (by omega))) (by simp [LT, get, nms, nmss, hbK] <;> omega))⟩
    omega
  · have hlti : ¬ (k : Int) + 1 < l.length := by omega
    repeat' (first
      | refine AWP.seq ?_
      | refine AWP.block ?_
      | (refine AWP.skip ?_; simp only [thenA, blockA, reduceIte])
      | (refine AWP.exit ?_; simp only [thenA, blockA, eq_self, reduceIte, Nat.reduceEqDiff, Nat.succ_ne_zero])
      | (refine AWP.ret ?_; simp only [thenA, blockA, reduceIte])
      | (refine AWP.region (by rfl) (fun KK hKK => ?_); (repeat (simp (disch := omega) [hlt, hlti])); first | (refine hKK _ _ _ ?_; clear hKK KK; simp only [thenA, blockA, reduceIte]) | skip)
      | (refine AWP.draw' mixd (by rfl) (by kernel_rfl) (fun KK tab hKK htab => ?_); (repeat (simp (disch := omega) [hlt, hlti])); first | (refine dEnd_ro ?_ (hKK _ _ _ ?_); (focus (simp; done)); clear htab tab hKK KK; simp only [thenA, blockA, reduceIte]) | skip)
      | (refine AWP.if_t ?_ ?_; focus (simp (disch := omega) [hlt, hlti]; done))
      | (refine AWP.if_f ?_ ?_; focus (simp (disch := omega) [hlt, hlti]; done)))
    refine ⟨by simp, _, rfl, fin0 ⟨?_, rfl⟩ (by simp [resO, get, nms, nmss]; try (simp [nms, nmss] at hn; simp_all))⟩
    simp [resO, get, ren, rens]
end Go.Proofs.Ytbcooikoaplhcaa
