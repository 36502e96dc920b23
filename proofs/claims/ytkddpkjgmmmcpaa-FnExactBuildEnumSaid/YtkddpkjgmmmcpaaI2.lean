/- Contracts: items of enumerations, in the reference. No condition. -/
import Derived.Test.YtkddpkjgmmmcpaaI1
import Derived.Test.YtkddpkjgmmmcpaaLC
import Derived.Test.YtkddpkjgmmmcpaaM4
set_option linter.unusedSimpArgs false
set_option linter.unusedVariables false
namespace Go.Proofs.Ytkddpkjgmmmcpaa
open Go Go.RowKit

def vAt (lo hi : Int) (its : List It) (i : Nat) : Bool := match its[i]? with
  | some t => vname t.1 && itOk t && decide (lo ≤ t.2.2 ∧ t.2.2 ≤ hi) && decide (∀ x ∈ its.take i, x.1 ≠ t.1)
  | none => false
def vTo (lo hi : Int) (its : List It) (k : Nat) : Bool := (List.range k).all (vAt lo hi its)
def vIt (lo hi : Int) (its : List It) : Bool := vTo lo hi its its.length && decide ((its.length : Int) ≤ 12)
theorem vTo_succ (lo hi : Int) (its : List It) (k : Nat) : vTo lo hi its (k + 1) = (vTo lo hi its k && vAt lo hi its k) := by simp [vTo, List.range_succ, List.all_append]
theorem vAt_eq (lo hi : Int) (its : List It) (k : Nat) (h : k < its.length) : vAt lo hi its k = (vname its[k].1 && itOk its[k] && decide (lo ≤ its[k].2.2 ∧ its[k].2.2 ≤ hi) && decide (∀ x ∈ its.take k, x.1 ≠ its[k].1)) := by simp [vAt, List.getElem?_eq_getElem h]
theorem vTo_bad (lo hi : Int) (its : List It) (k : Nat) (h : k < its.length) (hb : vAt lo hi its k = false) : vTo lo hi its its.length = false := by
  unfold vTo
  rw [List.all_eq_false]
  exact ⟨k, by simpa using h, by simp [hb]⟩

set_option maxRecDepth 10000 in
set_option maxHeartbeats 4000000 in
theorem validItems_c (σ : Sto) (ν : Nat) (x : AV) (its : List It) (lo hi : Int) (hx : Sl σ x 3 (rowsT its)) (hlen : its.length ≤ 9223372036854775807) (hsz : ∀ t ∈ its, t.1.size ≤ 9223372036854775807) :
    AC Try.prog 99 [x, .v (.int .i64 lo), .v (.int .i64 hi)] σ ν fun r δ => r = .v (.bool (vIt lo hi its)) ∧ δ = noS := by
  obtain ⟨b, o, cap, z, rfl⟩ := hx.out
  simp only [rowsT_len] at hx ⊢
  refine AC.intro [] ent_99 Try.func99 rfl (by simp [Try.f99]) (by simp) ?_
  intro K s hs hB hn hν hA hFr
  simp only [argT, Nat.zero_add, Nat.reduceAdd]
  have hx' := hx.vw hs.vw
  repeat' (first
    | refine AWP.seq ?_
    | refine AWP.block ?_
    | (refine AWP.skip ?_; simp only [thenA, blockA, reduceIte])
    | (refine AWP.exit ?_; simp only [thenA, blockA, eq_self, reduceIte, Nat.reduceEqDiff, Nat.succ_ne_zero])
    | (refine AWP.ret ?_; simp only [thenA, blockA, reduceIte])
    | (refine AWP.region (by rfl) (fun KK hKK => ?_); (repeat (simp (disch := omega) [])); first | (refine hKK _ _ _ ?_; clear hKK KK; simp only [thenA, blockA, reduceIte]) | skip)
    | (refine AWP.draw' mixd (by rfl) (by kernel_rfl) (fun KK tab hKK htab => ?_); (repeat (simp (disch := omega) [])); first | (refine dEnd_ro ?_ (hKK _ _ _ ?_); (focus (simp; done)); clear htab tab hKK KK; simp only [thenA, blockA, reduceIte]) | skip)
    | (refine AWP.if_t ?_ ?_; focus (simp (disch := omega) []; done))
    | (refine AWP.if_f ?_ ?_; focus (simp (disch := omega) []; done)))
  refine AWP.loop (fun n τ σ' M => ∃ k : Nat, k ≤ its.length ∧ n = its.length - k ∧ vTo lo hi its k = true ∧ τ = [(0, .sl b o its.length cap z), (1, .v (.int .i64 lo)), (2, .v (.int .i64 hi)), (7, .v (.int .i64 k))] ∧ σ' = s ∧ M = K)
    ⟨_, _, _, _, ⟨0, by omega, rfl, rfl, rfl, rfl, rfl⟩, Weak.tau (by simp [LQ])⟩ ?_
  rintro n τ σ1 M ⟨k, hk, rfl, hv, rfl, rfl, rfl⟩
  by_cases hlt : k < its.length
  · obtain ⟨_, rfl, kb, hkb, hat⟩ := hx'.at (i := k) (by rw [rowsT_len]; exact hlt)
    rw [rowsT_get _ _ hlt] at hat
    have hbK : b < M := (hB b _ hkb).1
    have hsk : its[k].1.size ≤ 9223372036854775807 := hsz _ (List.getElem_mem hlt)
    have hbad : vAt lo hi its k = false → vIt lo hi its = false := fun h => by simp [vIt, vTo_bad lo hi its k hlt h]
    have hae := vAt_eq lo hi its k hlt
    generalize its[k] = t at *
    obtain ⟨nm, au, v⟩ := t
    simp only at hat hsk hae
    cases hn1 : vname nm with
    | false =>
      have hf := hbad (by rw [hae, hn1]; simp)
      repeat' (first
        | refine AWP.seq ?_
        | refine AWP.block ?_
        | (refine AWP.skip ?_; simp only [thenA, blockA, reduceIte])
        | (refine AWP.exit ?_; simp only [thenA, blockA, eq_self, reduceIte, Nat.reduceEqDiff, Nat.succ_ne_zero])
        | (refine AWP.ret ?_; simp only [thenA, blockA, reduceIte])
        | (refine AWP.region (by rfl) (fun KK hKK => ?_); (repeat (simp (disch := omega) [hlt, hkb, hat])); first | (refine hKK _ _ _ ?_; clear hKK KK; simp only [thenA, blockA, reduceIte]) | skip)
        | (refine AWP.draw' mixd (by rfl) (by kernel_rfl) (fun KK tab hKK htab => ?_); (repeat (simp (disch := omega) [hlt, hkb, hat])); first | (refine dEnd_ro ?_ (hKK _ _ _ ?_); (focus (simp; done)); clear htab tab hKK KK; simp only [thenA, blockA, reduceIte]) | skip)
        | (refine AWP.if_t ?_ ?_; focus (simp (disch := omega) [hlt, hkb, hat]; done))
        | (refine AWP.if_f ?_ ?_; focus (simp (disch := omega) [hlt, hkb, hat]; done)))
      refine aStop_of (validNameS_c _ _ _ hsk) ?_
      rintro r δ ⟨rfl, rfl⟩
      (repeat (simp (disch := omega) [hn1]))
      first | (refine hKK _ _ _ ?_; clear hKK KK; simp only [thenA, blockA, reduceIte]) | skip
      repeat' (first
        | refine AWP.seq ?_
        | refine AWP.block ?_
        | (refine AWP.skip ?_; simp only [thenA, blockA, reduceIte])
        | (refine AWP.exit ?_; simp only [thenA, blockA, eq_self, reduceIte, Nat.reduceEqDiff, Nat.succ_ne_zero])
        | (refine AWP.ret ?_; simp only [thenA, blockA, reduceIte])
        | (refine AWP.region (by rfl) (fun KK hKK => ?_); (repeat (simp (disch := omega) [])); first | (refine hKK _ _ _ ?_; clear hKK KK; simp only [thenA, blockA, reduceIte]) | skip)
        | (refine AWP.draw' mixd (by rfl) (by kernel_rfl) (fun KK tab hKK htab => ?_); (repeat (simp (disch := omega) [])); first | (refine dEnd_ro ?_ (hKK _ _ _ ?_); (focus (simp; done)); clear htab tab hKK KK; simp only [thenA, blockA, reduceIte]) | skip)
        | (refine AWP.if_t ?_ ?_; focus (simp (disch := omega) []; done))
        | (refine AWP.if_f ?_ ?_; focus (simp (disch := omega) []; done)))
      refine ⟨by simp, _, rfl, fin0 ⟨?_, rfl⟩ (by simp [resO, get, nms, nmss]; try (simp [nms, nmss] at hn; simp_all))⟩
      simp [resO, get, ren, rens, hf]
    | true =>
      repeat' (first
        | refine AWP.seq ?_
        | refine AWP.block ?_
        | (refine AWP.skip ?_; simp only [thenA, blockA, reduceIte])
        | (refine AWP.exit ?_; simp only [thenA, blockA, eq_self, reduceIte, Nat.reduceEqDiff, Nat.succ_ne_zero])
        | (refine AWP.ret ?_; simp only [thenA, blockA, reduceIte])
        | (refine AWP.region (by rfl) (fun KK hKK => ?_); (repeat (simp (disch := omega) [hlt, hkb, hat])); first | (refine hKK _ _ _ ?_; clear hKK KK; simp only [thenA, blockA, reduceIte]) | skip)
        | (refine AWP.draw' mixd (by rfl) (by kernel_rfl) (fun KK tab hKK htab => ?_); (repeat (simp (disch := omega) [hlt, hkb, hat])); first | (refine dEnd_ro ?_ (hKK _ _ _ ?_); (focus (simp; done)); clear htab tab hKK KK; simp only [thenA, blockA, reduceIte]) | skip)
        | (refine AWP.if_t ?_ ?_; focus (simp (disch := omega) [hlt, hkb, hat]; done))
        | (refine AWP.if_f ?_ ?_; focus (simp (disch := omega) [hlt, hkb, hat]; done)))
      cases au with
      | true =>
        by_cases h0 : v = 0
        · subst h0
          refine aStop_of (validNameS_c _ _ _ hsk) ?_
          rintro r δ ⟨rfl, rfl⟩
          (repeat (simp (disch := omega) [hn1, hlt, hkb, hat]))
          first | (refine hKK _ _ _ ?_; clear hKK KK; simp only [thenA, blockA, reduceIte]) | skip
          by_cases hr : lo ≤ 0 ∧ 0 ≤ hi
          · refine aStop_of (inRange_c _ _ _ _ _) ?_
            rintro r δ ⟨rfl, rfl⟩
            (repeat (simp (disch := omega) [hr]))
            first | (refine hKK _ _ _ ?_; clear hKK KK; simp only [thenA, blockA, reduceIte]) | skip
            repeat' (first
              | refine AWP.seq ?_
              | refine AWP.block ?_
              | (refine AWP.skip ?_; simp only [thenA, blockA, reduceIte])
              | (refine AWP.exit ?_; simp only [thenA, blockA, eq_self, reduceIte, Nat.reduceEqDiff, Nat.succ_ne_zero])
              | (refine AWP.ret ?_; simp only [thenA, blockA, reduceIte])
              | (refine AWP.region (by rfl) (fun KK hKK => ?_); (repeat (simp (disch := omega) [])); first | (refine hKK _ _ _ ?_; clear hKK KK; simp only [thenA, blockA, reduceIte]) | skip)
              | (refine AWP.draw' mixd (by rfl) (by kernel_rfl) (fun KK tab hKK htab => ?_); (repeat (simp (disch := omega) [])); first | (refine dEnd_ro ?_ (hKK _ _ _ ?_); (focus (simp; done)); clear htab tab hKK KK; simp only [thenA, blockA, reduceIte]) | skip)
              | (refine AWP.if_t ?_ ?_; focus (simp (disch := omega) []; done))
              | (refine AWP.if_f ?_ ?_; focus (simp (disch := omega) []; done)))
            refine AWP.loop (fun n τ σ' M1 => ∃ j : Nat, j ≤ k ∧ n = k - j ∧ (∀ x ∈ its.take j, x.1 ≠ nm) ∧ τ = [(0, .sl b o its.length cap 3), (1, .v (.int .i64 lo)), (2, .v (.int .i64 hi)), (7, .v (.int .i64 k)), (8, .v (.int .i64 j))] ∧ σ' = σ1 ∧ M1 = M)
              ⟨_, _, _, _, ⟨0, by omega, rfl, by simp, rfl, rfl, rfl⟩, (Weak.base hB (by repeat (first | exact Over.refl _ | exact hov | refine Over.upd ?_ hB (by omega) | refine Over.del ?_ hB (by omega))) (by simp [LT, get, nms, nmss, hbK] <;> omega))⟩ ?_
            rintro n τ σ' M1 ⟨j, hj, rfl, hne, rfl, rfl, rfl⟩
            by_cases hjk : j < k
            · have hjl : j < its.length := by omega
              obtain ⟨_, _, kb2, hkb2, hat2⟩ := hx'.at (i := j) (by rw [rowsT_len]; exact hjl)
              rw [rowsT_get _ _ hjl] at hat2
              obtain rfl : kb = kb2 := by rw [hkb] at hkb2; exact Option.some.inj hkb2
              by_cases hq : its[j].1 = nm
              · have hf := hbad (by
                  rw [hae]
                  have : ¬ ∀ x ∈ its.take k, x.1 ≠ nm := fun h => h its[j] (List.mem_take_iff_getElem.2 ⟨j, by omega, rfl⟩) hq
                  simp only [this, decide_false, Bool.and_false])
                repeat' (first
                  | refine AWP.seq ?_
                  | refine AWP.block ?_
                  | (refine AWP.skip ?_; simp only [thenA, blockA, reduceIte])
                  | (refine AWP.exit ?_; simp only [thenA, blockA, eq_self, reduceIte, Nat.reduceEqDiff, Nat.succ_ne_zero])
                  | (refine AWP.ret ?_; simp only [thenA, blockA, reduceIte])
                  | (refine AWP.region (by rfl) (fun KK hKK => ?_); (repeat (simp (disch := omega) [hlt, hjl, hjk, hkb, hat, hkb2, hat2, hq])); first | (refine hKK _ _ _ ?_; clear hKK KK; simp only [thenA, blockA, reduceIte]) | skip)
                  | (refine AWP.draw' mixd (by rfl) (by kernel_rfl) (fun KK tab hKK htab => ?_); (repeat (simp (disch := omega) [hlt, hjl, hjk, hkb, hat, hkb2, hat2, hq])); first | (refine dEnd_ro ?_ (hKK _ _ _ ?_); (focus (simp; done)); clear htab tab hKK KK; simp only [thenA, blockA, reduceIte]) | skip)
                  | (refine AWP.if_t ?_ ?_; focus (simp (disch := omega) [hlt, hjl, hjk, hkb, hat, hkb2, hat2, hq]; done))
                  | (refine AWP.if_f ?_ ?_; focus (simp (disch := omega) [hlt, hjl, hjk, hkb, hat, hkb2, hat2, hq]; done)))
                refine ⟨by simp, _, rfl, fin0 ⟨?_, rfl⟩ (by simp [resO, get, nms, nmss]; try (simp [nms, nmss] at hn; simp_all))⟩
                simp [resO, get, ren, rens, hf]
              · repeat' (first
                  | refine AWP.seq ?_
                  | refine AWP.block ?_
                  | (refine AWP.skip ?_; simp only [thenA, blockA, reduceIte])
                  | (refine AWP.exit ?_; simp only [thenA, blockA, eq_self, reduceIte, Nat.reduceEqDiff, Nat.succ_ne_zero])
                  | (refine AWP.ret ?_; simp only [thenA, blockA, reduceIte])
                  | (refine AWP.region (by rfl) (fun KK hKK => ?_); (repeat (simp (disch := omega) [hlt, hjl, hjk, hkb, hat, hkb2, hat2, hq])); first | (refine hKK _ _ _ ?_; clear hKK KK; simp only [thenA, blockA, reduceIte]) | skip)
                  | (refine AWP.draw' mixd (by rfl) (by kernel_rfl) (fun KK tab hKK htab => ?_); (repeat (simp (disch := omega) [hlt, hjl, hjk, hkb, hat, hkb2, hat2, hq])); first | (refine dEnd_ro ?_ (hKK _ _ _ ?_); (focus (simp; done)); clear htab tab hKK KK; simp only [thenA, blockA, reduceIte]) | skip)
                  | (refine AWP.if_t ?_ ?_; focus (simp (disch := omega) [hlt, hjl, hjk, hkb, hat, hkb2, hat2, hq]; done))
                  | (refine AWP.if_f ?_ ?_; focus (simp (disch := omega) [hlt, hjl, hjk, hkb, hat, hkb2, hat2, hq]; done)))
                refine ⟨_, _, _, _, ?_, ⟨j + 1, by omega, rfl, tk_all hjl hne hq, rfl, rfl, rfl⟩, (Weak.base hB (by repeat (first | exact Over.refl _ | exact hov | refine Over.upd ?_ hB (by omega) | refine Over.del ?_ hB (by omega))) (by simp [LT, get, nms, nmss, hbK] <;> omega))⟩
                omega
            · have hj' : j = k := by omega
              subst hj'
              have hvk : vTo lo hi its (j + 1) = true := by
                rw [vTo_succ, hv, hae, hn1]
                simp only [itOk, hr, Bool.true_and, Bool.and_eq_true, decide_eq_true_eq, and_self, true_and]
                exact ⟨by simp, hne⟩
              repeat' (first
                | refine AWP.seq ?_
                | refine AWP.block ?_
                | (refine AWP.skip ?_; simp only [thenA, blockA, reduceIte])
                | (refine AWP.exit ?_; simp only [thenA, blockA, eq_self, reduceIte, Nat.reduceEqDiff, Nat.succ_ne_zero])
                | (refine AWP.ret ?_; simp only [thenA, blockA, reduceIte])
                | (refine AWP.region (by rfl) (fun KK hKK => ?_); (repeat (simp (disch := omega) [hjk])); first | (refine hKK _ _ _ ?_; clear hKK KK; simp only [thenA, blockA, reduceIte]) | skip)
                | (refine AWP.draw' mixd (by rfl) (by kernel_rfl) (fun KK tab hKK htab => ?_); (repeat (simp (disch := omega) [hjk])); first | (refine dEnd_ro ?_ (hKK _ _ _ ?_); (focus (simp; done)); clear htab tab hKK KK; simp only [thenA, blockA, reduceIte]) | skip)
                | (refine AWP.if_t ?_ ?_; focus (simp (disch := omega) [hjk]; done))
                | (refine AWP.if_f ?_ ?_; focus (simp (disch := omega) [hjk]; done)))
              refine ⟨_, _, _, _, ?_, ⟨j + 1, by omega, rfl, hvk, rfl, rfl, rfl⟩, (Weak.base hB (by repeat (first | exact Over.refl _ | exact hov | refine Over.upd ?_ hB (by omega) | refine Over.del ?_ hB (by omega))) (by simp [LT, get, nms, nmss, hbK] <;> omega))⟩
              omega
          · have hf := hbad (by rw [hae]; simp only [hr, decide_false, Bool.and_false, Bool.false_and])
            refine aStop_of (inRange_c _ _ _ _ _) ?_
            rintro r δ ⟨rfl, rfl⟩
            (repeat (simp (disch := omega) [hr]))
            first | (refine hKK _ _ _ ?_; clear hKK KK; simp only [thenA, blockA, reduceIte]) | skip
            repeat' (first
              | refine AWP.seq ?_
              | refine AWP.block ?_
              | (refine AWP.skip ?_; simp only [thenA, blockA, reduceIte])
              | (refine AWP.exit ?_; simp only [thenA, blockA, eq_self, reduceIte, Nat.reduceEqDiff, Nat.succ_ne_zero])
              | (refine AWP.ret ?_; simp only [thenA, blockA, reduceIte])
              | (refine AWP.region (by rfl) (fun KK hKK => ?_); (repeat (simp (disch := omega) [])); first | (refine hKK _ _ _ ?_; clear hKK KK; simp only [thenA, blockA, reduceIte]) | skip)
              | (refine AWP.draw' mixd (by rfl) (by kernel_rfl) (fun KK tab hKK htab => ?_); (repeat (simp (disch := omega) [])); first | (refine dEnd_ro ?_ (hKK _ _ _ ?_); (focus (simp; done)); clear htab tab hKK KK; simp only [thenA, blockA, reduceIte]) | skip)
              | (refine AWP.if_t ?_ ?_; focus (simp (disch := omega) []; done))
              | (refine AWP.if_f ?_ ?_; focus (simp (disch := omega) []; done)))
            refine ⟨by simp, _, rfl, fin0 ⟨?_, rfl⟩ (by simp [resO, get, nms, nmss]; try (simp [nms, nmss] at hn; simp_all))⟩
            simp [resO, get, ren, rens, hf]
        · have hf := hbad (by rw [hae]; simp [itOk, h0])
          refine aStop_of (validNameS_c _ _ _ hsk) ?_
          rintro r δ ⟨rfl, rfl⟩
          (repeat (simp (disch := omega) [hn1, hlt, hkb, hat, h0]))
          first | (refine hKK _ _ _ ?_; clear hKK KK; simp only [thenA, blockA, reduceIte]) | skip
          repeat' (first
            | refine AWP.seq ?_
            | refine AWP.block ?_
            | (refine AWP.skip ?_; simp only [thenA, blockA, reduceIte])
            | (refine AWP.exit ?_; simp only [thenA, blockA, eq_self, reduceIte, Nat.reduceEqDiff, Nat.succ_ne_zero])
            | (refine AWP.ret ?_; simp only [thenA, blockA, reduceIte])
            | (refine AWP.region (by rfl) (fun KK hKK => ?_); (repeat (simp (disch := omega) [])); first | (refine hKK _ _ _ ?_; clear hKK KK; simp only [thenA, blockA, reduceIte]) | skip)
            | (refine AWP.draw' mixd (by rfl) (by kernel_rfl) (fun KK tab hKK htab => ?_); (repeat (simp (disch := omega) [])); first | (refine dEnd_ro ?_ (hKK _ _ _ ?_); (focus (simp; done)); clear htab tab hKK KK; simp only [thenA, blockA, reduceIte]) | skip)
            | (refine AWP.if_t ?_ ?_; focus (simp (disch := omega) []; done))
            | (refine AWP.if_f ?_ ?_; focus (simp (disch := omega) []; done)))
          refine ⟨by simp, _, rfl, fin0 ⟨?_, rfl⟩ (by simp [resO, get, nms, nmss]; try (simp [nms, nmss] at hn; simp_all))⟩
          simp [resO, get, ren, rens, hf]
      | false =>
        refine aStop_of (validNameS_c _ _ _ hsk) ?_
        rintro r δ ⟨rfl, rfl⟩
        (repeat (simp (disch := omega) [hn1, hlt, hkb, hat]))
        first | (refine hKK _ _ _ ?_; clear hKK KK; simp only [thenA, blockA, reduceIte]) | skip
        by_cases hr : lo ≤ v ∧ v ≤ hi
        · refine aStop_of (inRange_c _ _ _ _ _) ?_
          rintro r δ ⟨rfl, rfl⟩
          (repeat (simp (disch := omega) [hr]))
          first | (refine hKK _ _ _ ?_; clear hKK KK; simp only [thenA, blockA, reduceIte]) | skip
          repeat' (first
            | refine AWP.seq ?_
            | refine AWP.block ?_
            | (refine AWP.skip ?_; simp only [thenA, blockA, reduceIte])
            | (refine AWP.exit ?_; simp only [thenA, blockA, eq_self, reduceIte, Nat.reduceEqDiff, Nat.succ_ne_zero])
            | (refine AWP.ret ?_; simp only [thenA, blockA, reduceIte])
            | (refine AWP.region (by rfl) (fun KK hKK => ?_); (repeat (simp (disch := omega) [])); first | (refine hKK _ _ _ ?_; clear hKK KK; simp only [thenA, blockA, reduceIte]) | skip)
            | (refine AWP.draw' mixd (by rfl) (by kernel_rfl) (fun KK tab hKK htab => ?_); (repeat (simp (disch := omega) [])); first | (refine dEnd_ro ?_ (hKK _ _ _ ?_); (focus (simp; done)); clear htab tab hKK KK; simp only [thenA, blockA, reduceIte]) | skip)
            | (refine AWP.if_t ?_ ?_; focus (simp (disch := omega) []; done))
            | (refine AWP.if_f ?_ ?_; focus (simp (disch := omega) []; done)))
          refine AWP.loop (fun n τ σ' M1 => ∃ j : Nat, j ≤ k ∧ n = k - j ∧ (∀ x ∈ its.take j, x.1 ≠ nm) ∧ τ = [(0, .sl b o its.length cap 3), (1, .v (.int .i64 lo)), (2, .v (.int .i64 hi)), (7, .v (.int .i64 k)), (8, .v (.int .i64 j))] ∧ σ' = σ1 ∧ M1 = M)
            ⟨_, _, _, _, ⟨0, by omega, rfl, by simp, rfl, rfl, rfl⟩, (Weak.base hB (by repeat (first | exact Over.refl _ | exact hov | refine Over.upd ?_ hB (by omega) | refine Over.del ?_ hB (by omega))) (by simp [LT, get, nms, nmss, hbK] <;> omega))⟩ ?_
          rintro n τ σ' M1 ⟨j, hj, rfl, hne, rfl, rfl, rfl⟩
          by_cases hjk : j < k
          · have hjl : j < its.length := by omega
            obtain ⟨_, _, kb2, hkb2, hat2⟩ := hx'.at (i := j) (by rw [rowsT_len]; exact hjl)
            rw [rowsT_get _ _ hjl] at hat2
            obtain rfl : kb = kb2 := by rw [hkb] at hkb2; exact Option.some.inj hkb2
            by_cases hq : its[j].1 = nm
            · have hf := hbad (by
                rw [hae]
                have : ¬ ∀ x ∈ its.take k, x.1 ≠ nm := fun h => h its[j] (List.mem_take_iff_getElem.2 ⟨j, by omega, rfl⟩) hq
                simp only [this, decide_false, Bool.and_false])
              repeat' (first
                | refine AWP.seq ?_
                | refine AWP.block ?_
                | (refine AWP.skip ?_; simp only [thenA, blockA, reduceIte])
                | (refine AWP.exit ?_; simp only [thenA, blockA, eq_self, reduceIte, Nat.reduceEqDiff, Nat.succ_ne_zero])
                | (refine AWP.ret ?_; simp only [thenA, blockA, reduceIte])
                | (refine AWP.region (by rfl) (fun KK hKK => ?_); (repeat (simp (disch := omega) [hlt, hjl, hjk, hkb, hat, hkb2, hat2, hq])); first | (refine hKK _ _ _ ?_; clear hKK KK; simp only [thenA, blockA, reduceIte]) | skip)
                | (refine AWP.draw' mixd (by rfl) (by kernel_rfl) (fun KK tab hKK htab => ?_); (repeat (simp (disch := omega) [hlt, hjl, hjk, hkb, hat, hkb2, hat2, hq])); first | (refine dEnd_ro ?_ (hKK _ _ _ ?_); (focus (simp; done)); clear htab tab hKK KK; simp only [thenA, blockA, reduceIte]) | skip)
                | (refine AWP.if_t ?_ ?_; focus (simp (disch := omega) [hlt, hjl, hjk, hkb, hat, hkb2, hat2, hq]; done))
                | (refine AWP.if_f ?_ ?_; focus (simp (disch := omega) [hlt, hjl, hjk, hkb, hat, hkb2, hat2, hq]; done)))
              refine ⟨by simp, _, rfl, fin0 ⟨?_, rfl⟩ (by simp [resO, get, nms, nmss]; try (simp [nms, nmss] at hn; simp_all))⟩
              simp [resO, get, ren, rens, hf]
            · repeat' (first
                | refine AWP.seq ?_
                | refine AWP.block ?_
                | (refine AWP.skip ?_; simp only [thenA, blockA, reduceIte])
                | (refine AWP.exit ?_; simp only [thenA, blockA, eq_self, reduceIte, Nat.reduceEqDiff, Nat.succ_ne_zero])
                | (refine AWP.ret ?_; simp only [thenA, blockA, reduceIte])
                | (refine AWP.region (by rfl) (fun KK hKK => ?_); (repeat (simp (disch := omega) [hlt, hjl, hjk, hkb, hat, hkb2, hat2, hq])); first | (refine hKK _ _ _ ?_; clear hKK KK; simp only [thenA, blockA, reduceIte]) | skip)
                | (refine AWP.draw' mixd (by rfl) (by kernel_rfl) (fun KK tab hKK htab => ?_); (repeat (simp (disch := omega) [hlt, hjl, hjk, hkb, hat, hkb2, hat2, hq])); first | (refine dEnd_ro ?_ (hKK _ _ _ ?_); (focus (simp; done)); clear htab tab hKK KK; simp only [thenA, blockA, reduceIte]) | skip)
                | (refine AWP.if_t ?_ ?_; focus (simp (disch := omega) [hlt, hjl, hjk, hkb, hat, hkb2, hat2, hq]; done))
                | (refine AWP.if_f ?_ ?_; focus (simp (disch := omega) [hlt, hjl, hjk, hkb, hat, hkb2, hat2, hq]; done)))
              refine ⟨_, _, _, _, ?_, ⟨j + 1, by omega, rfl, tk_all hjl hne hq, rfl, rfl, rfl⟩, (Weak.base hB (by repeat (first | exact Over.refl _ | exact hov | refine Over.upd ?_ hB (by omega) | refine Over.del ?_ hB (by omega))) (by simp [LT, get, nms, nmss, hbK] <;> omega))⟩
              omega
          · have hj' : j = k := by omega
            subst hj'
            have hvk : vTo lo hi its (j + 1) = true := by
              rw [vTo_succ, hv, hae, hn1]
              simp only [itOk, hr, Bool.true_and, Bool.and_eq_true, decide_eq_true_eq, and_self, true_and]
              exact ⟨by simp, hne⟩
            repeat' (first
              | refine AWP.seq ?_
              | refine AWP.block ?_
              | (refine AWP.skip ?_; simp only [thenA, blockA, reduceIte])
              | (refine AWP.exit ?_; simp only [thenA, blockA, eq_self, reduceIte, Nat.reduceEqDiff, Nat.succ_ne_zero])
              | (refine AWP.ret ?_; simp only [thenA, blockA, reduceIte])
              | (refine AWP.region (by rfl) (fun KK hKK => ?_); (repeat (simp (disch := omega) [hjk])); first | (refine hKK _ _ _ ?_; clear hKK KK; simp only [thenA, blockA, reduceIte]) | skip)
              | (refine AWP.draw' mixd (by rfl) (by kernel_rfl) (fun KK tab hKK htab => ?_); (repeat (simp (disch := omega) [hjk])); first | (refine dEnd_ro ?_ (hKK _ _ _ ?_); (focus (simp; done)); clear htab tab hKK KK; simp only [thenA, blockA, reduceIte]) | skip)
              | (refine AWP.if_t ?_ ?_; focus (simp (disch := omega) [hjk]; done))
              | (refine AWP.if_f ?_ ?_; focus (simp (disch := omega) [hjk]; done)))
            refine ⟨_, _, _, _, ?_, ⟨j + 1, by omega, rfl, hvk, rfl, rfl, rfl⟩, (Weak.base hB (by repeat (first | exact Over.refl _ | exact hov | refine Over.upd ?_ hB (by omega) | refine Over.del ?_ hB (by omega))) (by simp [LT, get, nms, nmss, hbK] <;> omega))⟩
            omega
        · have hf := hbad (by rw [hae]; simp only [hr, decide_false, Bool.and_false, Bool.false_and])
          refine aStop_of (inRange_c _ _ _ _ _) ?_
          rintro r δ ⟨rfl, rfl⟩
          (repeat (simp (disch := omega) [hr]))
          first | (refine hKK _ _ _ ?_; clear hKK KK; simp only [thenA, blockA, reduceIte]) | skip
          repeat' (first
            | refine AWP.seq ?_
            | refine AWP.block ?_
            | (refine AWP.skip ?_; simp only [thenA, blockA, reduceIte])
            | (refine AWP.exit ?_; simp only [thenA, blockA, eq_self, reduceIte, Nat.reduceEqDiff, Nat.succ_ne_zero])
            | (refine AWP.ret ?_; simp only [thenA, blockA, reduceIte])
            | (refine AWP.region (by rfl) (fun KK hKK => ?_); (repeat (simp (disch := omega) [])); first | (refine hKK _ _ _ ?_; clear hKK KK; simp only [thenA, blockA, reduceIte]) | skip)
            | (refine AWP.draw' mixd (by rfl) (by kernel_rfl) (fun KK tab hKK htab => ?_); (repeat (simp (disch := omega) [])); first | (refine dEnd_ro ?_ (hKK _ _ _ ?_); (focus (simp; done)); clear htab tab hKK KK; simp only [thenA, blockA, reduceIte]) | skip)
            | (refine AWP.if_t ?_ ?_; focus (simp (disch := omega) []; done))
            | (refine AWP.if_f ?_ ?_; focus (simp (disch := omega) []; done)))
          refine ⟨by simp, _, rfl, fin0 ⟨?_, rfl⟩ (by simp [resO, get, nms, nmss]; try (simp [nms, nmss] at hn; simp_all))⟩
          simp [resO, get, ren, rens, hf]
  · have hk' : k = its.length := by omega
    subst hk'
    repeat' (first
      | refine AWP.seq ?_
      | refine AWP.block ?_
      | (refine AWP.skip ?_; simp only [thenA, blockA, reduceIte])
      | (refine AWP.exit ?_; simp only [thenA, blockA, eq_self, reduceIte, Nat.reduceEqDiff, Nat.succ_ne_zero])
      | (refine AWP.ret ?_; simp only [thenA, blockA, reduceIte])
      | (refine AWP.region (by rfl) (fun KK hKK => ?_); (repeat (simp (disch := omega) [hlt])); first | (refine hKK _ _ _ ?_; clear hKK KK; simp only [thenA, blockA, reduceIte]) | skip)
      | (refine AWP.draw' mixd (by rfl) (by kernel_rfl) (fun KK tab hKK htab => ?_); (repeat (simp (disch := omega) [hlt])); first | (refine dEnd_ro ?_ (hKK _ _ _ ?_); (focus (simp; done)); clear htab tab hKK KK; simp only [thenA, blockA, reduceIte]) | skip)
      | (refine AWP.if_t ?_ ?_; focus (simp (disch := omega) [hlt]; done))
      | (refine AWP.if_f ?_ ?_; focus (simp (disch := omega) [hlt]; done)))
    refine ⟨by simp, _, rfl, fin0 ⟨?_, rfl⟩ (by simp [resO, get, nms, nmss]; try (simp [nms, nmss] at hn; simp_all))⟩
    simp [resO, get, ren, rens, vIt, hv]
end Go.Proofs.Ytkddpkjgmmmcpaa
