/- Contracts of the generators: lists of names. No condition. -/
import Derived.Test.YtgaiemhbllbaiaaBo
import Derived.Test.YtgaiemhbllbaiaaG5
import Derived.Test.YtgaiemhbllbaiaaT4
import Derived.Test.YtgaiemhbllbaiaaCE2
set_option linter.unusedSimpArgs false
set_option linter.unusedVariables false
namespace Go.Proofs.Ytgaiemhbllbaiaa
open Go Go.RowKit

/-- One name of a list, and where the reader stands behind it. -/
def s1N (bs : List Int) (ds : List Df) (q : Int) : ByteArray × Int :=
  if 0 < ds.length then (if 0 < pk bs q 12 then ((ds.getD (pk bs (q + 1) ds.length).toNat (ByteArray.empty, 0)).1, q + 1 + 1) else (anyNameF bs (q + 1), q + 1 + 2))
  else (anyNameF bs q, q + 2)
theorem s1N_bd (bs : List Int) (ds : List Df) (q : Int) : q ≤ (s1N bs ds q).2 ∧ (s1N bs ds q).2 ≤ q + 3 := by
  unfold s1N
  split
  · split
    · simp only; omega
    · simp only; omega
  · simp only; omega
def sNF (bs : List Int) (ds : List Df) (p : Int) : Nat → List ByteArray × Int
  | 0 => ([], p)
  | k + 1 => ((sNF bs ds p k).1 ++ [(s1N bs ds (sNF bs ds p k).2).1], (s1N bs ds (sNF bs ds p k).2).2)
theorem sNF_bd (bs : List Int) (ds : List Df) (p : Int) : ∀ k, (sNF bs ds p k).1.length = k ∧ p ≤ (sNF bs ds p k).2 ∧ (sNF bs ds p k).2 ≤ p + 3 * k
  | 0 => by simp [sNF]
  | k + 1 => by
    obtain ⟨i1, i3, i4⟩ := sNF_bd bs ds p k
    obtain ⟨j3, j4⟩ := s1N_bd bs ds (sNF bs ds p k).2
    unfold sNF
    refine ⟨by simp [i1], ?_, ?_⟩
    · simp only; omega
    · simp only; omega
def sN0 (bs : List Int) (p : Int) : Nat := (pk bs p 4).toNat
def sNA (bs : List Int) (p : Int) (ds : List Df) : List ByteArray × Int := sNF bs ds (p + 1) (sN0 bs p)
theorem sN0_bd {bs : List Int} (h8 : Code8 bs) {p : Int} (hp : 0 ≤ p ∧ p ≤ 90000) : sN0 bs p ≤ 3 ∧ ((sN0 bs p : Nat) : Int) = pk bs p 4 := by
  have k1 := pk_bd h8 (p := p) (n := 4) (by omega) (by omega)
  unfold sN0
  omega
theorem sNA_bd {bs : List Int} (h8 : Code8 bs) {p : Int} (hp : 0 ≤ p ∧ p ≤ 70000) (ds : List Df) : (sNA bs p ds).1.length ≤ 3 ∧ p ≤ (sNA bs p ds).2 ∧ (sNA bs p ds).2 ≤ p + 10 := by
  have hn := (sN0_bd h8 (p := p) (by omega)).1
  obtain ⟨i1, i3, i4⟩ := sNF_bd bs ds (p + 1) (sN0 bs p)
  unfold sNA
  omega

set_option maxRecDepth 10000 in
set_option maxHeartbeats 8000000 in
theorem someNames_c (σ : Sto) (ν rb : Nat) (x : AV) (b2 o2 z2 : Nat) (cap2 : Option Nat) (bs : List Int) (p : Int) (ds : List Df) (hb : σ rb = some (rdB x p)) (hx : Sl σ x 1 (rowsB bs)) (h8 : Code8 bs) (hp : 0 ≤ p ∧ p ≤ 70000) (hy : Sl σ (.sl b2 o2 ds.length cap2 z2) 2 (rowsD ds)) (hbr : b2 ≠ rb) (hlen : ds.length ≤ 4294967296) :
    AC Try.prog 70 [.ptr rb 0 0, .sl b2 o2 ds.length cap2 z2] σ ν fun r δ => r = .sl ν 0 (sNA bs p ds).1.length none 1 ∧ δ = upd (upd noS rb (rdB x (sNA bs p ds).2)) ν (blkS (sNA bs p ds).1) := by
  obtain ⟨bx, ox, capx, zx, rfl⟩ := hx.out
  simp only [rowsB_len] at hx hb ⊢
  refine AC.intro [rb] ent_70 Try.func70 rfl (by simp [Try.f70]) (by simp [hb]) ?_
  intro K s hs hB hn hν hA hFr
  simp only [argT, Nat.zero_add, Nat.reduceAdd]
  have hrb : s rb = some (rdB (.sl bx ox bs.length capx zx) p) := by rw [hs rb, hb]; simp
  obtain ⟨hrK, hlo⟩ := hB rb _ hrb
  have hx' := hx.vw hs.vw
  have hrν : rb ≠ ν := fun e => by rw [e] at hb; rw [hFr.1] at hb; cases hb
  have hy' := hy.vw hs.vw
  have hbK2 : b2 < K := hA b2 (by simp [nmAs, nmA])
  obtain ⟨hn3, hnI⟩ := sN0_bd h8 (p := p) (by omega)
  have hres0 : sNA bs p ds = sNF bs ds (p + 1) (sN0 bs p) := rfl
  repeat' (first
    | refine AWP.seq ?_
    | refine AWP.block ?_
    | (refine AWP.skip ?_; simp only [thenA, blockA, reduceIte])
    | (refine AWP.exit ?_; simp only [thenA, blockA, eq_self, reduceIte, Nat.reduceEqDiff, Nat.succ_ne_zero])
    | (refine AWP.ret ?_; simp only [thenA, blockA, reduceIte])
    | (refine AWP.region (by rfl) (fun KK hKK => ?_); (repeat (simp (disch := omega) [])); first | (refine hKK _ _ _ ?_; clear hKK KK; simp only [thenA, blockA, reduceIte]) | skip)
    | (refine AWP.if_t ?_ ?_; focus (simp (disch := omega) []; done))
    | (refine AWP.if_f ?_ ?_; focus (simp (disch := omega) []; done)))
  refine aStop_of (pick_c _ _ rb _ bs p 4 (by simp (disch := omega) only [upd_eq, upd_ne, del_ne, hrb]) (hx'.ovb hrb (fun c kc hc h => by have := (hB c kc h).1; first | exact h | (simp (disch := omega) only [upd_ne, del_ne]; exact h))) h8 (by omega)) ?_
  rintro r δ ⟨rfl, rfl⟩
  (repeat (simp (disch := omega) []))
  first | (refine hKK _ _ _ ?_; clear hKK KK; simp only [thenA, blockA, reduceIte]) | skip
  generalize hn0 : sN0 bs p = n0 at *
  rw [← hnI]
  repeat' (first
    | refine AWP.seq ?_
    | refine AWP.block ?_
    | (refine AWP.skip ?_; simp only [thenA, blockA, reduceIte])
    | (refine AWP.exit ?_; simp only [thenA, blockA, eq_self, reduceIte, Nat.reduceEqDiff, Nat.succ_ne_zero])
    | (refine AWP.ret ?_; simp only [thenA, blockA, reduceIte])
    | (refine AWP.region (by rfl) (fun KK hKK => ?_); (repeat (simp (disch := omega) [])); first | (refine hKK _ _ _ ?_; clear hKK KK; simp only [thenA, blockA, reduceIte]) | skip)
    | (refine AWP.if_t ?_ ?_; focus (simp (disch := omega) []; done))
    | (refine AWP.if_f ?_ ?_; focus (simp (disch := omega) []; done)))
  refine AWP.weak (Weak.virt 5 9 1 0 0 0 (by simp) (by omega)) ?_
  refine AWP.loop (fun n τ σ' M => ∃ (k : Nat) (m : Int) (cb : Nat), k ≤ n0 ∧ n = n0 - k ∧ m = n0 - k ∧ τ = [(0, .ptr rb 0 0), (1, .sl b2 o2 ds.length cap2 z2), (5, .sl cb 0 (sNF bs ds (p + 1) k).1.length none 1), (6, .v (.int .i64 m))] ∧
    σ' rb = some (rdB (.sl bx ox bs.length capx zx) (sNF bs ds (p + 1) k).2) ∧ σ' cb = some (blkS (sNF bs ds (p + 1) k).1) ∧ K ≤ cb ∧ cb < M ∧ ∀ c kc, c < K → c ≠ rb → s c = some kc → σ' c = some kc)
    ⟨_, _, _, _, ⟨0, n0, K + 2, by omega, rfl, by omega, rfl, by simp (disch := omega) only [upd_eq, upd_ne]; rfl, by simp only [upd_eq]; rfl, by omega, by omega, fun c kc hc hc2 hk => by simp (disch := omega) only [upd_ne]; exact hk⟩, Weak.tau (by simp [LQ, sNF])⟩ ?_
  rintro n τ σ1 M ⟨k, m, cb, hk, rfl, hm, rfl, h1, h3, hc1, hc2, hov⟩
  obtain ⟨i1, i3, i4⟩ := sNF_bd bs ds (p + 1) k
  have hz1 : ((sNF bs ds (p + 1) k).1.length + 1) * 16 ≤ 140737488355328 := by omega
  have hz2 : (sNF bs ds (p + 1) k).1.length + 1 ≤ 4611686018427387904 := by omega
  by_cases hlt : k < n0
  · have hm0 : 0 < m := by omega
    have hs0 : sNF bs ds (p + 1) (k + 1) = ((sNF bs ds (p + 1) k).1 ++ [(s1N bs ds (sNF bs ds (p + 1) k).2).1], (s1N bs ds (sNF bs ds (p + 1) k).2).2) := rfl
    generalize sNF bs ds (p + 1) k = w at *
    obtain ⟨l, q⟩ := w
    simp only at h1 h3 i1 i3 i4 hz1 hz2 hs0 ⊢
    by_cases hl0 : ¬ 0 < ds.length
    · have hs1 : s1N bs ds q = (anyNameF bs q, q + 2) := by unfold s1N; rw [if_neg hl0]
      rw [hs1] at hs0
      repeat' (first
        | refine AWP.seq ?_
        | refine AWP.block ?_
        | (refine AWP.skip ?_; simp only [thenA, blockA, reduceIte])
        | (refine AWP.exit ?_; simp only [thenA, blockA, eq_self, reduceIte, Nat.reduceEqDiff, Nat.succ_ne_zero])
        | (refine AWP.ret ?_; simp only [thenA, blockA, reduceIte])
        | (refine AWP.region (by rfl) (fun KK hKK => ?_); (repeat (simp (disch := omega) [hm0, hl0])); first | (refine hKK _ _ _ ?_; clear hKK KK; simp only [thenA, blockA, reduceIte]) | skip)
        | (refine AWP.if_t ?_ ?_; focus (simp (disch := omega) [hm0, hl0]; done))
        | (refine AWP.if_f ?_ ?_; focus (simp (disch := omega) [hm0, hl0]; done)))
      refine aStop_of (anyName_c _ _ rb _ bs q (by simp (disch := omega) only [upd_eq, upd_ne, del_ne, h1]) (hx'.ovb hrb (fun c kc hc h => by have := (hB c kc h).1; have h2 := hov c kc this hc h; first | exact h2 | (simp (disch := omega) only [upd_ne, del_ne]; exact h2))) h8 (by omega)) ?_
      rintro r δ ⟨rfl, rfl⟩
      (repeat (simp (disch := omega) [elems, rowsS_len, rowsS_snoc, rowsS_take, hz1, hz2, h3]))
      first | (refine hKK _ _ _ ?_; clear hKK KK; simp only [thenA, blockA, reduceIte]) | skip
      repeat' (first
        | refine AWP.seq ?_
        | refine AWP.block ?_
        | (refine AWP.skip ?_; simp only [thenA, blockA, reduceIte])
        | (refine AWP.exit ?_; simp only [thenA, blockA, eq_self, reduceIte, Nat.reduceEqDiff, Nat.succ_ne_zero])
        | (refine AWP.ret ?_; simp only [thenA, blockA, reduceIte])
        | (refine AWP.region (by rfl) (fun KK hKK => ?_); (repeat (simp (disch := omega) [])); first | (refine hKK _ _ _ ?_; clear hKK KK; simp only [thenA, blockA, reduceIte]) | skip)
        | (refine AWP.if_t ?_ ?_; focus (simp (disch := omega) []; done))
        | (refine AWP.if_f ?_ ?_; focus (simp (disch := omega) []; done)))
      refine ⟨_, _, _, _, ?_, ⟨k + 1, m - 1, M + 2 + 1, by omega, rfl, by omega, rfl, by rw [hs0]; simp (disch := omega) only [upd_eq, upd_ne, del_ne], by rw [hs0]; simp (disch := omega) only [upd_eq, upd_ne, del_ne], by omega, by omega, fun c kc hc hc2 hk => by have hh := hov c kc hc hc2 hk; first | exact hh | (simp (disch := omega) only [upd_ne, del_ne]; exact hh)⟩, Weak.tau (by rw [hs0]; simp [LQ])⟩
      omega
    have hl0 : 0 < ds.length := by omega
    by_cases c12 : 0 < pk bs q 12
    · have hpk := pk_bd h8 (p := q + 1) (n := ds.length) (by omega) (by omega)
      have k0 := hpk.1
      have k1 := hpk.2
      have hil : (pk bs (q + 1) ds.length).toNat < ds.length := by omega
      have hs1 : s1N bs ds q = (ds[(pk bs (q + 1) ds.length).toNat].1, q + 1 + 1) := by unfold s1N; rw [if_pos hl0, if_pos c12]; simp [List.getD_eq_getElem?_getD, List.getElem?_eq_getElem hil]
      rw [hs1] at hs0
      obtain ⟨_, rfl, kb, hkb, hat⟩ := hy'.at (i := (pk bs (q + 1) ds.length).toNat) (by rw [rowsD_len]; exact hil)
      have hrow : (rowsD ds)[(pk bs (q + 1) ds.length).toNat]'(by rw [rowsD_len]; exact hil) = [.v (.string ds[(pk bs (q + 1) ds.length).toNat].1), .v (.int .i64 ds[(pk bs (q + 1) ds.length).toNat].2)] := by simp [rowsD, rowD]
      rw [hrow] at hat
      have hkb' := hov _ _ hbK2 hbr hkb
      repeat' (first
        | refine AWP.seq ?_
        | refine AWP.block ?_
        | (refine AWP.skip ?_; simp only [thenA, blockA, reduceIte])
        | (refine AWP.exit ?_; simp only [thenA, blockA, eq_self, reduceIte, Nat.reduceEqDiff, Nat.succ_ne_zero])
        | (refine AWP.ret ?_; simp only [thenA, blockA, reduceIte])
        | (refine AWP.region (by rfl) (fun KK hKK => ?_); (repeat (simp (disch := omega) [hm0, hl0])); first | (refine hKK _ _ _ ?_; clear hKK KK; simp only [thenA, blockA, reduceIte]) | skip)
        | (refine AWP.if_t ?_ ?_; focus (simp (disch := omega) [hm0, hl0]; done))
        | (refine AWP.if_f ?_ ?_; focus (simp (disch := omega) [hm0, hl0]; done)))
      refine aStop_of (pick_c _ _ rb _ bs q 12 (by simp (disch := omega) only [upd_eq, upd_ne, del_ne, h1]) (hx'.ovb hrb (fun c kc hc h => by have := (hB c kc h).1; have h2 := hov c kc this hc h; first | exact h2 | (simp (disch := omega) only [upd_ne, del_ne]; exact h2))) h8 (by omega)) ?_
      rintro r δ ⟨rfl, rfl⟩
      (repeat (simp (disch := omega) [c12]))
      first | (refine hKK _ _ _ ?_; clear hKK KK; simp only [thenA, blockA, reduceIte]) | skip
      repeat' (first
        | refine AWP.seq ?_
        | refine AWP.block ?_
        | (refine AWP.skip ?_; simp only [thenA, blockA, reduceIte])
        | (refine AWP.exit ?_; simp only [thenA, blockA, eq_self, reduceIte, Nat.reduceEqDiff, Nat.succ_ne_zero])
        | (refine AWP.ret ?_; simp only [thenA, blockA, reduceIte])
        | (refine AWP.region (by rfl) (fun KK hKK => ?_); (repeat (simp (disch := omega) [c12])); first | (refine hKK _ _ _ ?_; clear hKK KK; simp only [thenA, blockA, reduceIte]) | skip)
        | (refine AWP.if_t ?_ ?_; focus (simp (disch := omega) [c12]; done))
        | (refine AWP.if_f ?_ ?_; focus (simp (disch := omega) [c12]; done)))
      refine aStop_of (pick_c _ _ rb _ bs (q + 1) ds.length (by simp (disch := omega) only [upd_eq, upd_ne]) (hx'.ovb hrb (fun c kc hc h => by have := (hB c kc h).1; have h2 := hov c kc this hc h; first | exact h2 | (simp (disch := omega) only [upd_ne, del_ne]; exact h2))) h8 (by omega)) ?_
      rintro r δ ⟨rfl, rfl⟩
      (repeat (simp (disch := omega) [k0, k1, hkb', hat, elems, rowsS_len, rowsS_snoc, rowsS_take, hz1, hz2, h3]))
      first | (refine hKK _ _ _ ?_; clear hKK KK; simp only [thenA, blockA, reduceIte]) | skip
      repeat' (first
        | refine AWP.seq ?_
        | refine AWP.block ?_
        | (refine AWP.skip ?_; simp only [thenA, blockA, reduceIte])
        | (refine AWP.exit ?_; simp only [thenA, blockA, eq_self, reduceIte, Nat.reduceEqDiff, Nat.succ_ne_zero])
        | (refine AWP.ret ?_; simp only [thenA, blockA, reduceIte])
        | (refine AWP.region (by rfl) (fun KK hKK => ?_); (repeat (simp (disch := omega) [])); first | (refine hKK _ _ _ ?_; clear hKK KK; simp only [thenA, blockA, reduceIte]) | skip)
        | (refine AWP.if_t ?_ ?_; focus (simp (disch := omega) []; done))
        | (refine AWP.if_f ?_ ?_; focus (simp (disch := omega) []; done)))
      refine ⟨_, _, _, _, ?_, ⟨k + 1, m - 1, M + 2 + 2 + 1, by omega, rfl, by omega, rfl, by rw [hs0]; simp (disch := omega) only [upd_eq, upd_ne, del_ne], by rw [hs0]; simp (disch := omega) only [upd_eq, upd_ne, del_ne], by omega, by omega, fun c kc hc hc2 hk => by have hh := hov c kc hc hc2 hk; first | exact hh | (simp (disch := omega) only [upd_ne, del_ne]; exact hh)⟩, Weak.tau (by rw [hs0]; simp [LQ])⟩
      omega
    · have hs1 : s1N bs ds q = (anyNameF bs (q + 1), q + 1 + 2) := by unfold s1N; rw [if_pos hl0, if_neg c12]
      rw [hs1] at hs0
      repeat' (first
        | refine AWP.seq ?_
        | refine AWP.block ?_
        | (refine AWP.skip ?_; simp only [thenA, blockA, reduceIte])
        | (refine AWP.exit ?_; simp only [thenA, blockA, eq_self, reduceIte, Nat.reduceEqDiff, Nat.succ_ne_zero])
        | (refine AWP.ret ?_; simp only [thenA, blockA, reduceIte])
        | (refine AWP.region (by rfl) (fun KK hKK => ?_); (repeat (simp (disch := omega) [hm0, hl0])); first | (refine hKK _ _ _ ?_; clear hKK KK; simp only [thenA, blockA, reduceIte]) | skip)
        | (refine AWP.if_t ?_ ?_; focus (simp (disch := omega) [hm0, hl0]; done))
        | (refine AWP.if_f ?_ ?_; focus (simp (disch := omega) [hm0, hl0]; done)))
      refine aStop_of (pick_c _ _ rb _ bs q 12 (by simp (disch := omega) only [upd_eq, upd_ne, del_ne, h1]) (hx'.ovb hrb (fun c kc hc h => by have := (hB c kc h).1; have h2 := hov c kc this hc h; first | exact h2 | (simp (disch := omega) only [upd_ne, del_ne]; exact h2))) h8 (by omega)) ?_
      rintro r δ ⟨rfl, rfl⟩
      (repeat (simp (disch := omega) [c12]))
      first | (refine hKK _ _ _ ?_; clear hKK KK; simp only [thenA, blockA, reduceIte]) | skip
      repeat' (first
        | refine AWP.seq ?_
        | refine AWP.block ?_
        | (refine AWP.skip ?_; simp only [thenA, blockA, reduceIte])
        | (refine AWP.exit ?_; simp only [thenA, blockA, eq_self, reduceIte, Nat.reduceEqDiff, Nat.succ_ne_zero])
        | (refine AWP.ret ?_; simp only [thenA, blockA, reduceIte])
        | (refine AWP.region (by rfl) (fun KK hKK => ?_); (repeat (simp (disch := omega) [c12])); first | (refine hKK _ _ _ ?_; clear hKK KK; simp only [thenA, blockA, reduceIte]) | skip)
        | (refine AWP.if_t ?_ ?_; focus (simp (disch := omega) [c12]; done))
        | (refine AWP.if_f ?_ ?_; focus (simp (disch := omega) [c12]; done)))
      refine aStop_of (anyName_c _ _ rb _ bs (q + 1) (by simp (disch := omega) only [upd_eq, upd_ne]) (hx'.ovb hrb (fun c kc hc h => by have := (hB c kc h).1; have h2 := hov c kc this hc h; first | exact h2 | (simp (disch := omega) only [upd_ne, del_ne]; exact h2))) h8 (by omega)) ?_
      rintro r δ ⟨rfl, rfl⟩
      (repeat (simp (disch := omega) [elems, rowsS_len, rowsS_snoc, rowsS_take, hz1, hz2, h3]))
      first | (refine hKK _ _ _ ?_; clear hKK KK; simp only [thenA, blockA, reduceIte]) | skip
      repeat' (first
        | refine AWP.seq ?_
        | refine AWP.block ?_
        | (refine AWP.skip ?_; simp only [thenA, blockA, reduceIte])
        | (refine AWP.exit ?_; simp only [thenA, blockA, eq_self, reduceIte, Nat.reduceEqDiff, Nat.succ_ne_zero])
        | (refine AWP.ret ?_; simp only [thenA, blockA, reduceIte])
        | (refine AWP.region (by rfl) (fun KK hKK => ?_); (repeat (simp (disch := omega) [])); first | (refine hKK _ _ _ ?_; clear hKK KK; simp only [thenA, blockA, reduceIte]) | skip)
        | (refine AWP.if_t ?_ ?_; focus (simp (disch := omega) []; done))
        | (refine AWP.if_f ?_ ?_; focus (simp (disch := omega) []; done)))
      refine ⟨_, _, _, _, ?_, ⟨k + 1, m - 1, M + 2 + 2 + 1, by omega, rfl, by omega, rfl, by rw [hs0]; simp (disch := omega) only [upd_eq, upd_ne, del_ne], by rw [hs0]; simp (disch := omega) only [upd_eq, upd_ne, del_ne], by omega, by omega, fun c kc hc hc2 hk => by have hh := hov c kc hc hc2 hk; first | exact hh | (simp (disch := omega) only [upd_ne, del_ne]; exact hh)⟩, Weak.tau (by rw [hs0]; simp [LQ])⟩
      omega
  · have hkn : k = n0 := by omega
    subst hkn
    have hm0 : ¬ 0 < m := by omega
    generalize sNF bs ds (p + 1) k = w at *
    obtain ⟨l, q⟩ := w
    simp only at h1 h3 i1 i3 i4 hz1 hz2 hres0 ⊢
    repeat' (first
      | refine AWP.seq ?_
      | refine AWP.block ?_
      | (refine AWP.skip ?_; simp only [thenA, blockA, reduceIte])
      | (refine AWP.exit ?_; simp only [thenA, blockA, eq_self, reduceIte, Nat.reduceEqDiff, Nat.succ_ne_zero])
      | (refine AWP.ret ?_; simp only [thenA, blockA, reduceIte])
      | (refine AWP.region (by rfl) (fun KK hKK => ?_); (repeat (simp (disch := omega) [hm0])); first | (refine hKK _ _ _ ?_; clear hKK KK; simp only [thenA, blockA, reduceIte]) | skip)
      | (refine AWP.if_t ?_ ?_; focus (simp (disch := omega) [hm0]; done))
      | (refine AWP.if_f ?_ ?_; focus (simp (disch := omega) [hm0]; done)))
    refine ⟨by simp, _, rfl, fin1M cb (rdB (.sl bx ox bs.length capx zx) q) (blkS l) (by simp (disch := omega) only [upd_eq, upd_ne, del_ne, h1]) rfl (low_rd hlo) (by simp (disch := omega) only [upd_eq, upd_ne, del_ne, h3]) rfl (flatS _).low hrν ⟨?_, ?_⟩ (by omega) (by simp [resO, get, nms])⟩
    · rw [hres0]; simp [resO, get, ren, rho]
    · rw [hres0]
end Go.Proofs.Ytgaiemhbllbaiaa
