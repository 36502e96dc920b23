/- Contracts: the reference's GapsOf. No condition. -/
import Derived.Test.YtkddpkjgmmmcpaaB3
set_option linter.unusedSimpArgs false
set_option linter.unusedVariables false
namespace Go.Proofs.Ytkddpkjgmmmcpaa
open Go Go.RowKit

def iOut (ν : Nat) (cap : Nat → Option Nat) : Option (List Int) → AV
  | some l => .sl ν 0 l.length (cap l.length) 1
  | none => nilA
def dOutI (ν : Nat) : Option (List Int) → Sto
  | some l => upd noS ν (blkI l)
  | none => noS
theorem iOut_some (ν : Nat) (cap : Nat → Option Nat) (l : List Int) : iOut ν cap (some l) = .sl ν 0 l.length (cap l.length) 1 := by simp only [iOut]
theorem iOut_none (ν : Nat) (cap : Nat → Option Nat) : iOut ν cap none = nilA := by simp only [iOut]
theorem dOutI_some (ν : Nat) (l : List Int) : dOutI ν (some l) = upd noS ν (blkI l) := by simp only [dOutI]
theorem dOutI_none (ν : Nat) : dOutI ν none = noS := by simp only [dOutI]
def gpN (ds : List Df) : Nat := (grV ds 0 - loV ds).toNat
def gpA (ds : List Df) : List Int := gpL ds (loV ds) (gpN ds)
def gpO (ds : List Df) : Option (List Int) := if okDs (-1000) 1000 ds = true ∧ (gpA ds).length ≤ 30 then some (gpA ds) else none
theorem grV_bd {lo hi : Int} (h0 : lo ≤ 0 ∧ 0 ≤ hi) (ds : List Df) (h : ∀ d ∈ ds, lo ≤ d.2 ∧ d.2 ≤ hi) : lo ≤ grV ds 0 ∧ grV ds 0 ≤ hi := by
  cases ds with
  | nil => exact h0
  | cons d l => exact gtV_bd l d.2 (fun e he => h e (by simp [he])) (h d (by simp))
theorem loV_bd {lo hi : Int} (h0 : lo ≤ 0 ∧ 0 ≤ hi) (ds : List Df) (h : ∀ d ∈ ds, lo ≤ d.2 ∧ d.2 ≤ hi) : lo ≤ loV ds ∧ loV ds ≤ hi := by
  cases ds with
  | nil => exact h0
  | cons d l => exact ltV_bd l d.2 (fun e he => h e (by simp [he])) (h d (by simp))
theorem okDs_bd {lo hi : Int} {ds : List Df} (h : okDs lo hi ds = true) : ∀ d ∈ ds, lo ≤ d.2 ∧ d.2 ≤ hi := fun d hd => by
  obtain ⟨i, hi', rfl⟩ := List.mem_iff_getElem.1 hd
  obtain ⟨_, a, b, _⟩ := okDs_at h hi'
  exact ⟨a, b⟩

set_option maxRecDepth 10000 in
set_option maxHeartbeats 2000000 in
theorem gapsS_c (σ : Sto) (ν : Nat) (x : AV) (ds : List Df) (hx : Sl σ x 2 (rowsD ds)) (hlen : ds.length ≤ 4294967296) (hsz : ∀ d ∈ ds, d.1.size ≤ 9223372036854775807) :
    AC Try.prog 37 [.agg [x]] σ ν fun r δ => r = iOut ν (fun _ => none) (gpO ds) ∧ δ = dOutI ν (gpO ds) := by
  obtain ⟨b, o, cap, z, rfl⟩ := hx.out
  simp only [rowsD_len] at hx ⊢
  cases hok : okDs (-1000) 1000 ds with
  | false =>
    have ho : gpO ds = none := by unfold gpO; rw [if_neg (by simp [hok])]
    rw [ho, iOut_none, dOutI_none]
    refine AC.intro [] ent_37 Try.func37 rfl (by simp [Try.f37]) (by simp) ?_
    intro K s hs hB hn hν hA hFr
    simp only [argT, Nat.zero_add, Nat.reduceAdd]
    have hx' := hx.vw hs.vw
    have hK0 : ¬ 0 = K := by omega
    repeat' (first
      | refine AWP.seq ?_
      | refine AWP.block ?_
      | (refine AWP.skip ?_; simp only [thenA, blockA, reduceIte])
      | (refine AWP.exit ?_; simp only [thenA, blockA, eq_self, reduceIte, Nat.reduceEqDiff, Nat.succ_ne_zero])
      | (refine AWP.ret ?_; simp only [thenA, blockA, reduceIte])
      | (refine AWP.region (by rfl) (fun KK hKK => ?_); (repeat (simp (disch := omega) [])); first | (refine hKK _ _ _ ?_; clear hKK KK; simp only [thenA, blockA, reduceIte]) | skip)
      | (refine AWP.if_t ?_ ?_; focus (simp (disch := omega) []; done))
      | (refine AWP.if_f ?_ ?_; focus (simp (disch := omega) []; done)))
    refine aStop_of (validEnumS_c _ _ _ ds (hx'.vw ((Vw.refl _).over (by repeat (first | exact Over.refl _ | exact hov | refine Over.upd ?_ hB (by omega) | refine Over.del ?_ hB (by omega))))) (by omega) hsz) ?_
    rintro r δ ⟨rfl, rfl⟩
    (repeat (simp (disch := omega) [hok]))
    first | (refine hKK _ _ _ ?_; clear hKK KK; simp only [thenA, blockA, reduceIte]) | skip
    repeat' (first
      | refine AWP.seq ?_
      | refine AWP.block ?_
      | (refine AWP.skip ?_; simp only [thenA, blockA, reduceIte])
      | (refine AWP.exit ?_; simp only [thenA, blockA, eq_self, reduceIte, Nat.reduceEqDiff, Nat.succ_ne_zero])
      | (refine AWP.ret ?_; simp only [thenA, blockA, reduceIte])
      | (refine AWP.region (by rfl) (fun KK hKK => ?_); (repeat (simp (disch := omega) [])); first | (refine hKK _ _ _ ?_; clear hKK KK; simp only [thenA, blockA, reduceIte]) | skip)
      | (refine AWP.if_t ?_ ?_; focus (simp (disch := omega) []; done))
      | (refine AWP.if_f ?_ ?_; focus (simp (disch := omega) []; done)))
    refine ⟨by simp, _, rfl, fin0 ⟨?_, rfl⟩ (by simp [resO, get, nms, nmss]; try (simp [nms, nmss] at hn; simp_all))⟩
    simp [resO, get, ren, rens, rho, hK0]
  | true =>
    refine AC.intro [] ent_37 Try.func37 rfl (by simp [Try.f37]) (by simp) ?_
    intro K s hs hB hn hν hA hFr
    simp only [argT, Nat.zero_add, Nat.reduceAdd]
    have hx' := hx.vw hs.vw
    have hK0 : ¬ 0 = K := by omega
    have hv := okDs_bd hok
    have hv2 : ∀ d ∈ ds, -1000000 ≤ d.2 ∧ d.2 ≤ 1000000 := fun d hd => by have := hv d hd; omega
    obtain ⟨q1, q2⟩ := grV_bd (by decide) ds hv
    obtain ⟨q3, q4⟩ := loV_bd (by decide) ds hv
    repeat' (first
      | refine AWP.seq ?_
      | refine AWP.block ?_
      | (refine AWP.skip ?_; simp only [thenA, blockA, reduceIte])
      | (refine AWP.exit ?_; simp only [thenA, blockA, eq_self, reduceIte, Nat.reduceEqDiff, Nat.succ_ne_zero])
      | (refine AWP.ret ?_; simp only [thenA, blockA, reduceIte])
      | (refine AWP.region (by rfl) (fun KK hKK => ?_); (repeat (simp (disch := omega) [])); first | (refine hKK _ _ _ ?_; clear hKK KK; simp only [thenA, blockA, reduceIte]) | skip)
      | (refine AWP.if_t ?_ ?_; focus (simp (disch := omega) []; done))
      | (refine AWP.if_f ?_ ?_; focus (simp (disch := omega) []; done)))
    refine aStop_of (validEnumS_c _ _ _ ds (hx'.vw ((Vw.refl _).over (by repeat (first | exact Over.refl _ | exact hov | refine Over.upd ?_ hB (by omega) | refine Over.del ?_ hB (by omega))))) (by omega) hsz) ?_
    rintro r δ ⟨rfl, rfl⟩
    (repeat (simp (disch := omega) [hok]))
    first | (refine hKK _ _ _ ?_; clear hKK KK; simp only [thenA, blockA, reduceIte]) | skip
    repeat' (first
      | refine AWP.seq ?_
      | refine AWP.block ?_
      | (refine AWP.skip ?_; simp only [thenA, blockA, reduceIte])
      | (refine AWP.exit ?_; simp only [thenA, blockA, eq_self, reduceIte, Nat.reduceEqDiff, Nat.succ_ne_zero])
      | (refine AWP.ret ?_; simp only [thenA, blockA, reduceIte])
      | (refine AWP.region (by rfl) (fun KK hKK => ?_); (repeat (simp (disch := omega) [])); first | (refine hKK _ _ _ ?_; clear hKK KK; simp only [thenA, blockA, reduceIte]) | skip)
      | (refine AWP.if_t ?_ ?_; focus (simp (disch := omega) []; done))
      | (refine AWP.if_f ?_ ?_; focus (simp (disch := omega) []; done)))
    refine aStop_of (lowest_c _ _ _ ds (hx'.vw ((Vw.refl _).over (by repeat (first | exact Over.refl _ | exact hov | refine Over.upd ?_ hB (by omega) | refine Over.del ?_ hB (by omega))))) (by omega) hv2) ?_
    rintro r δ ⟨rfl, rfl⟩
    (repeat (simp (disch := omega) []))
    first | (refine hKK _ _ _ ?_; clear hKK KK; simp only [thenA, blockA, reduceIte]) | skip
    repeat' (first
      | refine AWP.seq ?_
      | refine AWP.block ?_
      | (refine AWP.skip ?_; simp only [thenA, blockA, reduceIte])
      | (refine AWP.exit ?_; simp only [thenA, blockA, eq_self, reduceIte, Nat.reduceEqDiff, Nat.succ_ne_zero])
      | (refine AWP.ret ?_; simp only [thenA, blockA, reduceIte])
      | (refine AWP.region (by rfl) (fun KK hKK => ?_); (repeat (simp (disch := omega) [])); first | (refine hKK _ _ _ ?_; clear hKK KK; simp only [thenA, blockA, reduceIte]) | skip)
      | (refine AWP.if_t ?_ ?_; focus (simp (disch := omega) []; done))
      | (refine AWP.if_f ?_ ?_; focus (simp (disch := omega) []; done)))
    refine AWP.weak (Weak.virt 3 3 1 0 0 0 (by simp) (by omega)) ?_
    have hN : gpN ds ≤ 2000 := by unfold gpN; omega
    refine AWP.loop (fun n τ σ' M => ∃ (k cb : Nat), k ≤ gpN ds ∧ n = gpN ds - k ∧ (gpL ds (loV ds) k).length ≤ 30 ∧ τ = [(1, .ptr K 0 0), (3, .sl cb 0 (gpL ds (loV ds) k).length none 1), (4, .v (.int .i64 (loV ds + k)))] ∧ σ' cb = some (blkI (gpL ds (loV ds) k)) ∧ σ' K = some (blkE (.sl b o ds.length cap z)) ∧ K + 1 ≤ cb ∧ cb < M ∧ Over s σ')
      ⟨_, _, _, _, ⟨0, K + 1 + 2 + 2, by omega, rfl, by simp [gpL], rfl, (by simp only [upd_eq]; simp [gpL]; rfl), by simp (disch := omega) only [upd_eq, upd_ne], by omega, by omega, (by repeat (first | exact Over.refl _ | exact hov | refine Over.upd ?_ hB (by omega) | refine Over.del ?_ hB (by omega)))⟩, Weak.tau (by simp [LQ, gpL])⟩ ?_
    rintro n τ σ' M ⟨k, cb, hk, rfl, h30, rfl, hc0, hc3, hc1, hc2, hov⟩
    have hgm : 1 + grV ds 0 - 1 = grV ds 0 := by omega
    have hz1 : ((gpL ds (loV ds) k).length + 1) * 8 ≤ 140737488355328 := by omega
    have hz2 : (gpL ds (loV ds) k).length + 1 ≤ 4611686018427387904 := by omega
    by_cases hlt : k < gpN ds
    · have hlt2 : loV ds + (k : Int) < grV ds 0 := by unfold gpN at hlt; omega
      have hst := gpL_succ ds (loV ds) k
      have hmo := gpL_mono ds (loV ds) (j := k + 1) (k := gpN ds) (by omega)
      repeat' (first
        | refine AWP.seq ?_
        | refine AWP.block ?_
        | (refine AWP.skip ?_; simp only [thenA, blockA, reduceIte])
        | (refine AWP.exit ?_; simp only [thenA, blockA, eq_self, reduceIte, Nat.reduceEqDiff, Nat.succ_ne_zero])
        | (refine AWP.ret ?_; simp only [thenA, blockA, reduceIte])
        | (refine AWP.region (by rfl) (fun KK hKK => ?_); (repeat (simp (disch := omega) [hc3])); first | (refine hKK _ _ _ ?_; clear hKK KK; simp only [thenA, blockA, reduceIte]) | skip)
        | (refine AWP.if_t ?_ ?_; focus (simp (disch := omega) [hc3]; done))
        | (refine AWP.if_f ?_ ?_; focus (simp (disch := omega) [hc3]; done)))
      refine aStop_of (highest_c _ _ _ ds (hx'.vw ((Vw.refl _).over (by repeat (first | exact Over.refl _ | exact hov | refine Over.upd ?_ hB (by omega) | refine Over.del ?_ hB (by omega))))) (by omega) hv2) ?_
      rintro r δ ⟨rfl, rfl⟩
      (repeat (simp (disch := omega) [hlt2]))
      first | (refine hKK _ _ _ ?_; clear hKK KK; simp only [thenA, blockA, reduceIte]) | skip
      repeat' (first
        | refine AWP.seq ?_
        | refine AWP.block ?_
        | (refine AWP.skip ?_; simp only [thenA, blockA, reduceIte])
        | (refine AWP.exit ?_; simp only [thenA, blockA, eq_self, reduceIte, Nat.reduceEqDiff, Nat.succ_ne_zero])
        | (refine AWP.ret ?_; simp only [thenA, blockA, reduceIte])
        | (refine AWP.region (by rfl) (fun KK hKK => ?_); (repeat (simp (disch := omega) [hlt2, hc3])); first | (refine hKK _ _ _ ?_; clear hKK KK; simp only [thenA, blockA, reduceIte]) | skip)
        | (refine AWP.if_t ?_ ?_; focus (simp (disch := omega) [hlt2, hc3]; done))
        | (refine AWP.if_f ?_ ?_; focus (simp (disch := omega) [hlt2, hc3]; done)))
      refine aStop_of (valueAt_c _ _ _ ds _ (hx'.vw ((Vw.refl _).over (by repeat (first | exact Over.refl _ | exact hov | refine Over.upd ?_ hB (by omega) | refine Over.del ?_ hB (by omega))))) (by omega)) ?_
      rintro r δ ⟨rfl, rfl⟩
      (repeat (simp (disch := omega) []))
      first | (refine hKK _ _ _ ?_; clear hKK KK; simp only [thenA, blockA, reduceIte]) | skip
      by_cases hq : valueIx ds (loV ds + k) < 0
      · rw [if_pos hq] at hst
        have hln : (gpL ds (loV ds) (k + 1)).length = (gpL ds (loV ds) k).length + 1 := by rw [hst]; simp
        by_cases h31 : (gpL ds (loV ds) k).length + 1 ≤ 30
        · have h31i : ¬ ((30 : Int) < (gpL ds (loV ds) k).length + 1) := by omega
          repeat' (first
            | refine AWP.seq ?_
            | refine AWP.block ?_
            | (refine AWP.skip ?_; simp only [thenA, blockA, reduceIte])
            | (refine AWP.exit ?_; simp only [thenA, blockA, eq_self, reduceIte, Nat.reduceEqDiff, Nat.succ_ne_zero])
            | (refine AWP.ret ?_; simp only [thenA, blockA, reduceIte])
            | (refine AWP.region (by rfl) (fun KK hKK => ?_); (repeat (simp (disch := omega) [hq, elems, rowsI_len, rowsI_snoc, rowsI_take, hz1, hz2, hc0, h31i])); first | (refine hKK _ _ _ ?_; clear hKK KK; simp only [thenA, blockA, reduceIte]) | skip)
            | (refine AWP.if_t ?_ ?_; focus (simp (disch := omega) [hq, elems, rowsI_len, rowsI_snoc, rowsI_take, hz1, hz2, hc0, h31i]; done))
            | (refine AWP.if_f ?_ ?_; focus (simp (disch := omega) [hq, elems, rowsI_len, rowsI_snoc, rowsI_take, hz1, hz2, hc0, h31i]; done)))
          refine ⟨_, _, _, _, ?_, ⟨k + 1, M + 2 + 2 + 1, by omega, rfl, by omega, rfl, by rw [hst]; simp (disch := omega) only [upd_eq, upd_ne, del_ne], by simp (disch := omega) only [upd_eq, upd_ne, del_ne, hc3], by omega, by omega, (by repeat (first | exact Over.refl _ | exact hov | refine Over.upd ?_ hB (by omega) | refine Over.del ?_ hB (by omega)))⟩, Weak.tau (by rw [hst]; simp [LQ]; omega)⟩
          omega
        · have h31i : ((30 : Int) < (gpL ds (loV ds) k).length + 1) := by omega
          have ho : gpO ds = none := by unfold gpO gpA; rw [if_neg (by omega)]
          repeat' (first
            | refine AWP.seq ?_
            | refine AWP.block ?_
            | (refine AWP.skip ?_; simp only [thenA, blockA, reduceIte])
            | (refine AWP.exit ?_; simp only [thenA, blockA, eq_self, reduceIte, Nat.reduceEqDiff, Nat.succ_ne_zero])
            | (refine AWP.ret ?_; simp only [thenA, blockA, reduceIte])
            | (refine AWP.region (by rfl) (fun KK hKK => ?_); (repeat (simp (disch := omega) [hq, elems, rowsI_len, rowsI_snoc, rowsI_take, hz1, hz2, hc0, h31i])); first | (refine hKK _ _ _ ?_; clear hKK KK; simp only [thenA, blockA, reduceIte]) | skip)
            | (refine AWP.if_t ?_ ?_; focus (simp (disch := omega) [hq, elems, rowsI_len, rowsI_snoc, rowsI_take, hz1, hz2, hc0, h31i]; done))
            | (refine AWP.if_f ?_ ?_; focus (simp (disch := omega) [hq, elems, rowsI_len, rowsI_snoc, rowsI_take, hz1, hz2, hc0, h31i]; done)))
          rw [ho, iOut_none, dOutI_none]
          refine ⟨by simp, _, rfl, fin0 ⟨?_, rfl⟩ (by simp [resO, get, nms, nmss]; try (simp [nms, nmss] at hn; simp_all))⟩
          simp [resO, get, ren, rens, rho, hK0]
      · rw [if_neg hq] at hst
        have h31i : ¬ ((30 : Int) < (gpL ds (loV ds) k).length) := by omega
        repeat' (first
          | refine AWP.seq ?_
          | refine AWP.block ?_
          | (refine AWP.skip ?_; simp only [thenA, blockA, reduceIte])
          | (refine AWP.exit ?_; simp only [thenA, blockA, eq_self, reduceIte, Nat.reduceEqDiff, Nat.succ_ne_zero])
          | (refine AWP.ret ?_; simp only [thenA, blockA, reduceIte])
          | (refine AWP.region (by rfl) (fun KK hKK => ?_); (repeat (simp (disch := omega) [hq, h31i])); first | (refine hKK _ _ _ ?_; clear hKK KK; simp only [thenA, blockA, reduceIte]) | skip)
          | (refine AWP.if_t ?_ ?_; focus (simp (disch := omega) [hq, h31i]; done))
          | (refine AWP.if_f ?_ ?_; focus (simp (disch := omega) [hq, h31i]; done)))
        refine ⟨_, _, _, _, ?_, ⟨k + 1, cb, by omega, rfl, by rw [hst]; exact h30, rfl, by rw [hst]; simp (disch := omega) only [upd_eq, upd_ne, del_ne, hc0], by simp (disch := omega) only [upd_eq, upd_ne, del_ne, hc3], by omega, by omega, (by repeat (first | exact Over.refl _ | exact hov | refine Over.upd ?_ hB (by omega) | refine Over.del ?_ hB (by omega)))⟩, Weak.tau (by rw [hst]; simp [LQ]; omega)⟩
        omega
    · have hk' : k = gpN ds := by omega
      subst hk'
      have hlt2 : ¬ loV ds + (gpN ds : Int) < grV ds 0 := by unfold gpN; omega
      have ho : gpO ds = some (gpA ds) := by unfold gpO; rw [if_pos ⟨hok, h30⟩]
      repeat' (first
        | refine AWP.seq ?_
        | refine AWP.block ?_
        | (refine AWP.skip ?_; simp only [thenA, blockA, reduceIte])
        | (refine AWP.exit ?_; simp only [thenA, blockA, eq_self, reduceIte, Nat.reduceEqDiff, Nat.succ_ne_zero])
        | (refine AWP.ret ?_; simp only [thenA, blockA, reduceIte])
        | (refine AWP.region (by rfl) (fun KK hKK => ?_); (repeat (simp (disch := omega) [hc3])); first | (refine hKK _ _ _ ?_; clear hKK KK; simp only [thenA, blockA, reduceIte]) | skip)
        | (refine AWP.if_t ?_ ?_; focus (simp (disch := omega) [hc3]; done))
        | (refine AWP.if_f ?_ ?_; focus (simp (disch := omega) [hc3]; done)))
      refine aStop_of (highest_c _ _ _ ds (hx'.vw ((Vw.refl _).over (by repeat (first | exact Over.refl _ | exact hov | refine Over.upd ?_ hB (by omega) | refine Over.del ?_ hB (by omega))))) (by omega) hv2) ?_
      rintro r δ ⟨rfl, rfl⟩
      (repeat (simp (disch := omega) [hlt2]))
      first | (refine hKK _ _ _ ?_; clear hKK KK; simp only [thenA, blockA, reduceIte]) | skip
      repeat' (first
        | refine AWP.seq ?_
        | refine AWP.block ?_
        | (refine AWP.skip ?_; simp only [thenA, blockA, reduceIte])
        | (refine AWP.exit ?_; simp only [thenA, blockA, eq_self, reduceIte, Nat.reduceEqDiff, Nat.succ_ne_zero])
        | (refine AWP.ret ?_; simp only [thenA, blockA, reduceIte])
        | (refine AWP.region (by rfl) (fun KK hKK => ?_); (repeat (simp (disch := omega) [hlt2])); first | (refine hKK _ _ _ ?_; clear hKK KK; simp only [thenA, blockA, reduceIte]) | skip)
        | (refine AWP.if_t ?_ ?_; focus (simp (disch := omega) [hlt2]; done))
        | (refine AWP.if_f ?_ ?_; focus (simp (disch := omega) [hlt2]; done)))
      refine ⟨by simp, _, rfl, fin1 cb (blkI (gpA ds)) (by simp (disch := omega) only [upd_eq, upd_ne, del_ne, hc0]; rfl) rfl (flatI _) ⟨by rw [ho, iOut_some]; simp [resO, get, ren, rho, gpA], by rw [ho, dOutI_some]⟩ (by omega) (by simp [resO, get, nms])⟩
end Go.Proofs.Ytkddpkjgmmmcpaa
