/- Contracts: the program's GapsOf. No condition. -/
import Derived.Test.YtkddpkjgmmmcpaaB4
import Derived.Test.YtkddpkjgmmmcpaaLC
set_option linter.unusedSimpArgs false
set_option linter.unusedVariables false
namespace Go.Proofs.Ytkddpkjgmmmcpaa
open Go Go.RowKit

def gpI (ds : List Df) : Option (List Int) := if ds = [] then none else gpO ds
set_option maxRecDepth 10000 in
set_option maxHeartbeats 2000000 in
theorem gaps_c (σ : Sto) (ν : Nat) (x : AV) (ds : List Df) (hx : Sl σ x 2 (rowsD ds)) (hlen : ds.length ≤ 4294967296) (hsz : ∀ d ∈ ds, d.1.size ≤ 9223372036854775807) :
    AC Try.prog 38 [.agg [x]] σ ν fun r δ => r = iOut ν some (gpI ds) ∧ δ = dOutI ν (gpI ds) := by
  obtain ⟨b, o, cap, z, rfl⟩ := hx.out
  simp only [rowsD_len] at hx ⊢
  cases hok : okDs (-1000) 1000 ds with
  | false =>
    have ho : gpI ds = none := by unfold gpI gpO; split; rfl; rw [if_neg (by simp [hok])]
    rw [ho, iOut_none, dOutI_none]
    refine AC.intro [] ent_38 Try.func38 rfl (by simp [Try.f38]) (by simp) ?_
    intro K s hs hB hn hν hA hFr
    simp only [argT, Nat.zero_add, Nat.reduceAdd]
    have hx' := hx.vw hs.vw
    have hK0 : ¬ 0 = K := by omega
    repeat' (first
      | refine AWP.seq ?_
      | refine AWP.block ?_
      | (refine AWP.skip ?_; simp only [thenA, blockA, reduceIte])
      | (refine AWP.exit ?_; simp only [thenA, blockA, eq_self, reduceIte, Nat.reduceEqDiff, Nat.succ_ne_zero])
      | (refine AWP.ret ?_; simp only [thenA, blockA, reduceIte])
      | (refine AWP.region (by rfl) (fun KK hKK => ?_); (repeat (simp (disch := omega) [])); first | (refine hKK _ _ _ ?_; clear hKK KK; simp only [thenA, blockA, reduceIte]) | skip)
      | (refine AWP.if_t ?_ ?_; focus (simp (disch := omega) []; done))
      | (refine AWP.if_f ?_ ?_; focus (simp (disch := omega) []; done)))
    refine aStop_of (validEnum_c _ _ _ ds (hx'.vw ((Vw.refl _).over (by repeat (first | exact Over.refl _ | exact hov | refine Over.upd ?_ hB (by omega) | refine Over.del ?_ hB (by omega))))) (by omega) hsz) ?_
    rintro r δ ⟨rfl, rfl⟩
    (repeat (simp (disch := omega) [hok]))
    first | (refine hKK _ _ _ ?_; clear hKK KK; simp only [thenA, blockA, reduceIte]) | skip
    repeat' (first
      | refine AWP.seq ?_
      | refine AWP.block ?_
      | (refine AWP.skip ?_; simp only [thenA, blockA, reduceIte])
      | (refine AWP.exit ?_; simp only [thenA, blockA, eq_self, reduceIte, Nat.reduceEqDiff, Nat.succ_ne_zero])
      | (refine AWP.ret ?_; simp only [thenA, blockA, reduceIte])
      | (refine AWP.region (by rfl) (fun KK hKK => ?_); (repeat (simp (disch := omega) [])); first | (refine hKK _ _ _ ?_; clear hKK KK; simp only [thenA, blockA, reduceIte]) | skip)
      | (refine AWP.if_t ?_ ?_; focus (simp (disch := omega) []; done))
      | (refine AWP.if_f ?_ ?_; focus (simp (disch := omega) []; done)))
    refine ⟨by simp, _, rfl, fin0 ⟨?_, rfl⟩ (by simp [resO, get, nms, nmss]; try (simp [nms, nmss] at hn; simp_all))⟩
    simp [resO, get, ren, rens, rho, hK0]
  | true =>
    by_cases he : ds = []
    · subst he
      have ho : gpI [] = none := if_pos rfl
      rw [ho, iOut_none, dOutI_none]
      refine AC.intro [] ent_38 Try.func38 rfl (by simp [Try.f38]) (by simp) ?_
      intro K s hs hB hn hν hA hFr
      simp only [argT, Nat.zero_add, Nat.reduceAdd]
      have hx' := hx.vw hs.vw
      have hK0 : ¬ 0 = K := by omega
      repeat' (first
        | refine AWP.seq ?_
        | refine AWP.block ?_
        | (refine AWP.skip ?_; simp only [thenA, blockA, reduceIte])
        | (refine AWP.exit ?_; simp only [thenA, blockA, eq_self, reduceIte, Nat.reduceEqDiff, Nat.succ_ne_zero])
        | (refine AWP.ret ?_; simp only [thenA, blockA, reduceIte])
        | (refine AWP.region (by rfl) (fun KK hKK => ?_); (repeat (simp (disch := omega) [])); first | (refine hKK _ _ _ ?_; clear hKK KK; simp only [thenA, blockA, reduceIte]) | skip)
        | (refine AWP.if_t ?_ ?_; focus (simp (disch := omega) []; done))
        | (refine AWP.if_f ?_ ?_; focus (simp (disch := omega) []; done)))
      refine aStop_of (validEnum_c _ _ _ [] (hx'.vw ((Vw.refl _).over (by repeat (first | exact Over.refl _ | exact hov | refine Over.upd ?_ hB (by omega) | refine Over.del ?_ hB (by omega))))) (by simp) hsz) ?_
      rintro r δ ⟨rfl, rfl⟩
      (repeat (simp (disch := omega) [hok]))
      first | (refine hKK _ _ _ ?_; clear hKK KK; simp only [thenA, blockA, reduceIte]) | skip
      repeat' (first
        | refine AWP.seq ?_
        | refine AWP.block ?_
        | (refine AWP.skip ?_; simp only [thenA, blockA, reduceIte])
        | (refine AWP.exit ?_; simp only [thenA, blockA, eq_self, reduceIte, Nat.reduceEqDiff, Nat.succ_ne_zero])
        | (refine AWP.ret ?_; simp only [thenA, blockA, reduceIte])
        | (refine AWP.region (by rfl) (fun KK hKK => ?_); (repeat (simp (disch := omega) [])); first | (refine hKK _ _ _ ?_; clear hKK KK; simp only [thenA, blockA, reduceIte]) | skip)
        | (refine AWP.if_t ?_ ?_; focus (simp (disch := omega) []; done))
        | (refine AWP.if_f ?_ ?_; focus (simp (disch := omega) []; done)))
      refine ⟨by simp, _, rfl, fin0 ⟨?_, rfl⟩ (by simp [resO, get, nms, nmss]; try (simp [nms, nmss] at hn; simp_all))⟩
      simp [resO, get, ren, rens, rho, hK0]
    · have ho : gpI ds = gpO ds := if_neg he
      rw [ho]
      refine AC.intro [] ent_38 Try.func38 rfl (by simp [Try.f38]) (by simp) ?_
      intro K s hs hB hn hν hA hFr
      simp only [argT, Nat.zero_add, Nat.reduceAdd]
      have hx' := hx.vw hs.vw
      have hbK : b < K := hA b (by simp [nmAs, nmA])
      have hK0 : ¬ 0 = K := by omega
      have hv := okDs_bd hok
      obtain ⟨q1, q2⟩ := grV_bd (by decide) ds hv
      obtain ⟨q3, q4⟩ := loV_bd (by decide) ds hv
      have h0 : 0 < ds.length := List.length_pos_iff.2 he
      have h0i : ¬ ((ds.length : Int) = 0) := by omega
      obtain ⟨_, rfl, kb, hkb, hat⟩ := hx'.at (i := 0) (by rw [rowsD_len]; exact h0)
      have hrow : (rowsD ds)[0]'(by rw [rowsD_len]; exact h0) = [.v (.string ds[0].1), .v (.int .i64 ds[0].2)] := by simp [rowsD, rowD]
      rw [hrow, Nat.add_zero] at hat
      repeat' (first
        | refine AWP.seq ?_
        | refine AWP.block ?_
        | (refine AWP.skip ?_; simp only [thenA, blockA, reduceIte])
        | (refine AWP.exit ?_; simp only [thenA, blockA, eq_self, reduceIte, Nat.reduceEqDiff, Nat.succ_ne_zero])
        | (refine AWP.ret ?_; simp only [thenA, blockA, reduceIte])
        | (refine AWP.region (by rfl) (fun KK hKK => ?_); (repeat (simp (disch := omega) [])); first | (refine hKK _ _ _ ?_; clear hKK KK; simp only [thenA, blockA, reduceIte]) | skip)
        | (refine AWP.if_t ?_ ?_; focus (simp (disch := omega) []; done))
        | (refine AWP.if_f ?_ ?_; focus (simp (disch := omega) []; done)))
      refine aStop_of (validEnum_c _ _ _ ds (hx'.vw ((Vw.refl _).over (by repeat (first | exact Over.refl _ | exact hov | refine Over.upd ?_ hB (by omega) | refine Over.del ?_ hB (by omega))))) (by omega) hsz) ?_
      rintro r δ ⟨rfl, rfl⟩
      (repeat (simp (disch := omega) [hok, he, h0i]))
      first | (refine hKK _ _ _ ?_; clear hKK KK; simp only [thenA, blockA, reduceIte]) | skip
      repeat' (first
        | refine AWP.seq ?_
        | refine AWP.block ?_
        | (refine AWP.skip ?_; simp only [thenA, blockA, reduceIte])
        | (refine AWP.exit ?_; simp only [thenA, blockA, eq_self, reduceIte, Nat.reduceEqDiff, Nat.succ_ne_zero])
        | (refine AWP.ret ?_; simp only [thenA, blockA, reduceIte])
        | (refine AWP.region (by rfl) (fun KK hKK => ?_); (repeat (simp (disch := omega) [he, h0, h0i, hkb, hat])); first | (refine hKK _ _ _ ?_; clear hKK KK; simp only [thenA, blockA, reduceIte]) | skip)
        | (refine AWP.if_t ?_ ?_; focus (simp (disch := omega) [he, h0, h0i, hkb, hat]; done))
        | (refine AWP.if_f ?_ ?_; focus (simp (disch := omega) [he, h0, h0i, hkb, hat]; done)))
      refine AWP.loop (fun n τ σ' M => ∃ k : Nat, k ≤ ds.length ∧ n = ds.length - k ∧ τ = [(1, .ptr K 0 0), (3, .v (.int .i64 (ltV (ds.take k) ds[0].2))), (23, .sl b o ds.length cap 2), (24, .v (.int .i64 ds.length)), (25, .v (.int .i64 k))] ∧ σ' K = some (blkE (.sl b o ds.length cap 2)) ∧ K + 1 ≤ M ∧ Over s σ')
        ⟨_, _, _, _, ⟨0, by omega, rfl, rfl, by simp (disch := omega) only [upd_eq, upd_ne], by omega, (by repeat (first | exact Over.refl _ | exact hov | refine Over.upd ?_ hB (by omega) | refine Over.del ?_ hB (by omega)))⟩, Weak.tau (by simp [LQ, ltV])⟩ ?_
      rintro n τ σ1 M1 ⟨k, hk, rfl, rfl, hd0, hM, hov⟩
      by_cases hlt : k < ds.length
      · obtain ⟨_, _, kb2, hkb2, hat2⟩ := hx'.at (i := k) (by rw [rowsD_len]; exact hlt)
        have hrow2 : (rowsD ds)[k]'(by rw [rowsD_len]; exact hlt) = [.v (.string ds[k].1), .v (.int .i64 ds[k].2)] := by simp [rowsD, rowD]
        rw [hrow2] at hat2
        have hkb2' := hov _ _ hkb2
        have hg := ltV_snoc hlt ds[0].2
        have hm : min (ltV (ds.take k) ds[0].2) ds[k].2 = ltV (ds.take (k + 1)) ds[0].2 := by rw [hg]; split <;> omega
        repeat' (first
          | refine AWP.seq ?_
          | refine AWP.block ?_
          | (refine AWP.skip ?_; simp only [thenA, blockA, reduceIte])
          | (refine AWP.exit ?_; simp only [thenA, blockA, eq_self, reduceIte, Nat.reduceEqDiff, Nat.succ_ne_zero])
          | (refine AWP.ret ?_; simp only [thenA, blockA, reduceIte])
          | (refine AWP.region (by rfl) (fun KK hKK => ?_); (repeat (simp (disch := omega) [hlt, hkb2', hat2, hm])); first | (refine hKK _ _ _ ?_; clear hKK KK; simp only [thenA, blockA, reduceIte]) | skip)
          | (refine AWP.if_t ?_ ?_; focus (simp (disch := omega) [hlt, hkb2', hat2, hm]; done))
          | (refine AWP.if_f ?_ ?_; focus (simp (disch := omega) [hlt, hkb2', hat2, hm]; done)))
        refine ⟨_, _, _, _, ?_, ⟨k + 1, by omega, rfl, rfl, by simp (disch := omega) only [upd_eq, upd_ne, hd0], by omega, (by repeat (first | exact Over.refl _ | exact hov | refine Over.upd ?_ hB (by omega) | refine Over.del ?_ hB (by omega)))⟩, Weak.tau (by simp [LQ])⟩
        omega
      · have hk' : k = ds.length := by omega
        subst hk'
        have hlo := ltV_head h0
        rw [List.take_length, hlo]
        repeat' (first
          | refine AWP.seq ?_
          | refine AWP.block ?_
          | (refine AWP.skip ?_; simp only [thenA, blockA, reduceIte])
          | (refine AWP.exit ?_; simp only [thenA, blockA, eq_self, reduceIte, Nat.reduceEqDiff, Nat.succ_ne_zero])
          | (refine AWP.ret ?_; simp only [thenA, blockA, reduceIte])
          | (refine AWP.region (by rfl) (fun KK hKK => ?_); (repeat (simp (disch := omega) [])); first | (refine hKK _ _ _ ?_; clear hKK KK; simp only [thenA, blockA, reduceIte]) | skip)
          | (refine AWP.if_t ?_ ?_; focus (simp (disch := omega) []; done))
          | (refine AWP.if_f ?_ ?_; focus (simp (disch := omega) []; done)))
        refine AWP.weak (Weak.virt 6 3 1 0 0 0 (by simp) (by omega)) ?_
        have hN : gpN ds ≤ 2000 := by unfold gpN; omega
        refine AWP.loop (fun n τ σ' M => ∃ (k cb : Nat), k ≤ gpN ds ∧ n = gpN ds - k ∧ τ = [(1, .ptr K 0 0), (6, .sl cb 0 (gpL ds (loV ds) k).length none 1), (7, .v (.int .i64 (loV ds + k)))] ∧ σ' cb = some (blkI (gpL ds (loV ds) k)) ∧ σ' K = some (blkE (.sl b o ds.length cap 2)) ∧ K + 1 ≤ cb ∧ cb < M ∧ Over s σ')
          ⟨_, _, _, _, ⟨0, M1, by omega, rfl, rfl, (by simp only [upd_eq]; simp [gpL]; rfl), by simp (disch := omega) only [upd_eq, upd_ne, hd0], by omega, by omega, (by repeat (first | exact Over.refl _ | exact hov | refine Over.upd ?_ hB (by omega) | refine Over.del ?_ hB (by omega)))⟩, Weak.tau (by simp [LQ, gpL])⟩ ?_
        rintro n τ σ' M ⟨k, cb, hk, rfl, rfl, hc0, hc3, hc1, hc2, hov⟩
        have hgl := gpL_len ds (loV ds) k
        have hz1 : ((gpL ds (loV ds) k).length + 1) * 8 ≤ 140737488355328 := by omega
        have hz2 : (gpL ds (loV ds) k).length + 1 ≤ 4611686018427387904 := by omega
        by_cases hlt : k < gpN ds
        · have hlt2 : loV ds + (k : Int) < grV ds 0 := by unfold gpN at hlt; omega
          have hst := gpL_succ ds (loV ds) k
          repeat' (first
            | refine AWP.seq ?_
            | refine AWP.block ?_
            | (refine AWP.skip ?_; simp only [thenA, blockA, reduceIte])
            | (refine AWP.exit ?_; simp only [thenA, blockA, eq_self, reduceIte, Nat.reduceEqDiff, Nat.succ_ne_zero])
            | (refine AWP.ret ?_; simp only [thenA, blockA, reduceIte])
            | (refine AWP.region (by rfl) (fun KK hKK => ?_); (repeat (simp (disch := omega) [hc3])); first | (refine hKK _ _ _ ?_; clear hKK KK; simp only [thenA, blockA, reduceIte]) | skip)
            | (refine AWP.if_t ?_ ?_; focus (simp (disch := omega) [hc3]; done))
            | (refine AWP.if_f ?_ ?_; focus (simp (disch := omega) [hc3]; done)))
          refine aStop_of (greatest_c _ _ _ ds 0 (hx'.vw ((Vw.refl _).over (by repeat (first | exact Over.refl _ | exact hov | refine Over.upd ?_ hB (by omega) | refine Over.del ?_ hB (by omega))))) (by omega)) ?_
          rintro r δ ⟨rfl, rfl⟩
          (repeat (simp (disch := omega) [hlt2]))
          first | (refine hKK _ _ _ ?_; clear hKK KK; simp only [thenA, blockA, reduceIte]) | skip
          repeat' (first
            | refine AWP.seq ?_
            | refine AWP.block ?_
            | (refine AWP.skip ?_; simp only [thenA, blockA, reduceIte])
            | (refine AWP.exit ?_; simp only [thenA, blockA, eq_self, reduceIte, Nat.reduceEqDiff, Nat.succ_ne_zero])
            | (refine AWP.ret ?_; simp only [thenA, blockA, reduceIte])
            | (refine AWP.region (by rfl) (fun KK hKK => ?_); (repeat (simp (disch := omega) [hlt2, hc3])); first | (refine hKK _ _ _ ?_; clear hKK KK; simp only [thenA, blockA, reduceIte]) | skip)
            | (refine AWP.if_t ?_ ?_; focus (simp (disch := omega) [hlt2, hc3]; done))
            | (refine AWP.if_f ?_ ?_; focus (simp (disch := omega) [hlt2, hc3]; done)))
          refine aStop_of (valued_c _ _ _ ds _ (hx'.vw ((Vw.refl _).over (by repeat (first | exact Over.refl _ | exact hov | refine Over.upd ?_ hB (by omega) | refine Over.del ?_ hB (by omega))))) (by omega)) ?_
          rintro r δ ⟨rfl, rfl⟩
          (repeat (simp (disch := omega) []))
          first | (refine hKK _ _ _ ?_; clear hKK KK; simp only [thenA, blockA, reduceIte]) | skip
          by_cases hq : valueIx ds (loV ds + k) < 0
          · rw [if_pos hq] at hst
            repeat' (first
              | refine AWP.seq ?_
              | refine AWP.block ?_
              | (refine AWP.skip ?_; simp only [thenA, blockA, reduceIte])
              | (refine AWP.exit ?_; simp only [thenA, blockA, eq_self, reduceIte, Nat.reduceEqDiff, Nat.succ_ne_zero])
              | (refine AWP.ret ?_; simp only [thenA, blockA, reduceIte])
              | (refine AWP.region (by rfl) (fun KK hKK => ?_); (repeat (simp (disch := omega) [hq, elems, rowsI_len, rowsI_snoc, rowsI_take, hz1, hz2, hc0])); first | (refine hKK _ _ _ ?_; clear hKK KK; simp only [thenA, blockA, reduceIte]) | skip)
              | (refine AWP.if_t ?_ ?_; focus (simp (disch := omega) [hq, elems, rowsI_len, rowsI_snoc, rowsI_take, hz1, hz2, hc0]; done))
              | (refine AWP.if_f ?_ ?_; focus (simp (disch := omega) [hq, elems, rowsI_len, rowsI_snoc, rowsI_take, hz1, hz2, hc0]; done)))
            refine ⟨_, _, _, _, ?_, ⟨k + 1, M + 2 + 2 + 1, by omega, rfl, rfl, by rw [hst]; simp (disch := omega) only [upd_eq, upd_ne, del_ne], by simp (disch := omega) only [upd_eq, upd_ne, del_ne, hc3], by omega, by omega, (by repeat (first | exact Over.refl _ | exact hov | refine Over.upd ?_ hB (by omega) | refine Over.del ?_ hB (by omega)))⟩, Weak.tau (by rw [hst]; simp [LQ]; omega)⟩
            omega
          · rw [if_neg hq] at hst
            repeat' (first
              | refine AWP.seq ?_
              | refine AWP.block ?_
              | (refine AWP.skip ?_; simp only [thenA, blockA, reduceIte])
              | (refine AWP.exit ?_; simp only [thenA, blockA, eq_self, reduceIte, Nat.reduceEqDiff, Nat.succ_ne_zero])
              | (refine AWP.ret ?_; simp only [thenA, blockA, reduceIte])
              | (refine AWP.region (by rfl) (fun KK hKK => ?_); (repeat (simp (disch := omega) [hq])); first | (refine hKK _ _ _ ?_; clear hKK KK; simp only [thenA, blockA, reduceIte]) | skip)
              | (refine AWP.if_t ?_ ?_; focus (simp (disch := omega) [hq]; done))
              | (refine AWP.if_f ?_ ?_; focus (simp (disch := omega) [hq]; done)))
            refine ⟨_, _, _, _, ?_, ⟨k + 1, cb, by omega, rfl, rfl, by rw [hst]; simp (disch := omega) only [upd_eq, upd_ne, del_ne, hc0], by simp (disch := omega) only [upd_eq, upd_ne, del_ne, hc3], by omega, by omega, (by repeat (first | exact Over.refl _ | exact hov | refine Over.upd ?_ hB (by omega) | refine Over.del ?_ hB (by omega)))⟩, Weak.tau (by rw [hst]; simp [LQ]; omega)⟩
            omega
        · have hk' : k = gpN ds := by omega
          subst hk'
          have hlt2 : ¬ loV ds + (gpN ds : Int) < grV ds 0 := by unfold gpN; omega
          have hga : gpL ds (loV ds) (gpN ds) = gpA ds := rfl
          rw [hga] at *
          by_cases h31 : (gpA ds).length ≤ 30
          · have h31i : ¬ ((30 : Int) < (gpA ds).length) := by omega
            have ho : gpO ds = some (gpA ds) := by unfold gpO; rw [if_pos ⟨hok, h31⟩]
            repeat' (first
              | refine AWP.seq ?_
              | refine AWP.block ?_
              | (refine AWP.skip ?_; simp only [thenA, blockA, reduceIte])
              | (refine AWP.exit ?_; simp only [thenA, blockA, eq_self, reduceIte, Nat.reduceEqDiff, Nat.succ_ne_zero])
              | (refine AWP.ret ?_; simp only [thenA, blockA, reduceIte])
              | (refine AWP.region (by rfl) (fun KK hKK => ?_); (repeat (simp (disch := omega) [hc3])); first | (refine hKK _ _ _ ?_; clear hKK KK; simp only [thenA, blockA, reduceIte]) | skip)
              | (refine AWP.if_t ?_ ?_; focus (simp (disch := omega) [hc3]; done))
              | (refine AWP.if_f ?_ ?_; focus (simp (disch := omega) [hc3]; done)))
            refine aStop_of (greatest_c _ _ _ ds 0 (hx'.vw ((Vw.refl _).over (by repeat (first | exact Over.refl _ | exact hov | refine Over.upd ?_ hB (by omega) | refine Over.del ?_ hB (by omega))))) (by omega)) ?_
            rintro r δ ⟨rfl, rfl⟩
            (repeat (simp (disch := omega) [hlt2]))
            first | (refine hKK _ _ _ ?_; clear hKK KK; simp only [thenA, blockA, reduceIte]) | skip
            repeat' (first
              | refine AWP.seq ?_
              | refine AWP.block ?_
              | (refine AWP.skip ?_; simp only [thenA, blockA, reduceIte])
              | (refine AWP.exit ?_; simp only [thenA, blockA, eq_self, reduceIte, Nat.reduceEqDiff, Nat.succ_ne_zero])
              | (refine AWP.ret ?_; simp only [thenA, blockA, reduceIte])
              | (refine AWP.region (by rfl) (fun KK hKK => ?_); (repeat (simp (disch := omega) [hlt2, h31i])); first | (refine hKK _ _ _ ?_; clear hKK KK; simp only [thenA, blockA, reduceIte]) | skip)
              | (refine AWP.if_t ?_ ?_; focus (simp (disch := omega) [hlt2, h31i]; done))
              | (refine AWP.if_f ?_ ?_; focus (simp (disch := omega) [hlt2, h31i]; done)))
            refine aStop_of (clipI_c _ _ cb 0 _ (by omega)) ?_
            rintro r δ ⟨rfl, rfl⟩
            (repeat (simp (disch := omega) []))
            first | (refine hKK _ _ _ ?_; clear hKK KK; simp only [thenA, blockA, reduceIte]) | skip
            repeat' (first
              | refine AWP.seq ?_
              | refine AWP.block ?_
              | (refine AWP.skip ?_; simp only [thenA, blockA, reduceIte])
              | (refine AWP.exit ?_; simp only [thenA, blockA, eq_self, reduceIte, Nat.reduceEqDiff, Nat.succ_ne_zero])
              | (refine AWP.ret ?_; simp only [thenA, blockA, reduceIte])
              | (refine AWP.region (by rfl) (fun KK hKK => ?_); (repeat (simp (disch := omega) [])); first | (refine hKK _ _ _ ?_; clear hKK KK; simp only [thenA, blockA, reduceIte]) | skip)
              | (refine AWP.if_t ?_ ?_; focus (simp (disch := omega) []; done))
              | (refine AWP.if_f ?_ ?_; focus (simp (disch := omega) []; done)))
            refine ⟨by simp, _, rfl, fin1 cb (blkI (gpA ds)) (by simp (disch := omega) only [upd_eq, upd_ne, del_ne, hc0]; try rfl) rfl (flatI _) ⟨by rw [ho, iOut_some]; simp [resO, get, ren, rho], by rw [ho, dOutI_some]⟩ (by omega) (by simp [resO, get, nms])⟩
          · have h31i : ((30 : Int) < (gpA ds).length) := by omega
            have ho : gpO ds = none := by unfold gpO; rw [if_neg (by omega)]
            repeat' (first
              | refine AWP.seq ?_
              | refine AWP.block ?_
              | (refine AWP.skip ?_; simp only [thenA, blockA, reduceIte])
              | (refine AWP.exit ?_; simp only [thenA, blockA, eq_self, reduceIte, Nat.reduceEqDiff, Nat.succ_ne_zero])
              | (refine AWP.ret ?_; simp only [thenA, blockA, reduceIte])
              | (refine AWP.region (by rfl) (fun KK hKK => ?_); (repeat (simp (disch := omega) [hc3])); first | (refine hKK _ _ _ ?_; clear hKK KK; simp only [thenA, blockA, reduceIte]) | skip)
              | (refine AWP.if_t ?_ ?_; focus (simp (disch := omega) [hc3]; done))
              | (refine AWP.if_f ?_ ?_; focus (simp (disch := omega) [hc3]; done)))
            refine aStop_of (greatest_c _ _ _ ds 0 (hx'.vw ((Vw.refl _).over (by repeat (first | exact Over.refl _ | exact hov | refine Over.upd ?_ hB (by omega) | refine Over.del ?_ hB (by omega))))) (by omega)) ?_
            rintro r δ ⟨rfl, rfl⟩
            (repeat (simp (disch := omega) [hlt2]))
            first | (refine hKK _ _ _ ?_; clear hKK KK; simp only [thenA, blockA, reduceIte]) | skip
            repeat' (first
              | refine AWP.seq ?_
              | refine AWP.block ?_
              | (refine AWP.skip ?_; simp only [thenA, blockA, reduceIte])
              | (refine AWP.exit ?_; simp only [thenA, blockA, eq_self, reduceIte, Nat.reduceEqDiff, Nat.succ_ne_zero])
              | (refine AWP.ret ?_; simp only [thenA, blockA, reduceIte])
              | (refine AWP.region (by rfl) (fun KK hKK => ?_); (repeat (simp (disch := omega) [hlt2, h31i])); first | (refine hKK _ _ _ ?_; clear hKK KK; simp only [thenA, blockA, reduceIte]) | skip)
              | (refine AWP.if_t ?_ ?_; focus (simp (disch := omega) [hlt2, h31i]; done))
              | (refine AWP.if_f ?_ ?_; focus (simp (disch := omega) [hlt2, h31i]; done)))
            rw [ho, iOut_none, dOutI_none]
            refine ⟨by simp, _, rfl, fin0 ⟨?_, rfl⟩ (by simp [resO, get, nms, nmss]; try (simp [nms, nmss] at hn; simp_all))⟩
            simp [resO, get, ren, rens, rho, hK0]
end Go.Proofs.Ytkddpkjgmmmcpaa
