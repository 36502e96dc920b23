/- Contracts of the generators: definitions of an enumeration, as a function of the bytes. No condition. -/
import Derived.Test.YtgaiemhbllbaiaaG4
set_option linter.unusedSimpArgs false
set_option linter.unusedVariables false
namespace Go.Proofs.Ytgaiemhbllbaiaa
open Go Go.RowKit

def vlF (bs : List Int) (q : Int) : Int := iAt [1, 2, 3, 4, 5, 0, 8, pk bs (q + 1) 12, -1, 7, 1000, 16] (pk bs (q + 1 + 1) 12)
def gfS (bs : List Int) (p : Int) : Nat → List Df × Int
  | 0 => ([], p + 1)
  | k + 1 => (if nameIx (gfS bs p k).1 (aNameF bs (gfS bs p k).2) < 0 then (gfS bs p k).1 ++ [(aNameF bs (gfS bs p k).2, vlF bs (gfS bs p k).2)] else (gfS bs p k).1, (gfS bs p k).2 + 1 + 1 + 1)
def gfN (bs : List Int) (p : Int) : Nat := (iAt [4, 3, 5, 2, 6, 1, 0, 12] (pk bs p 8)).toNat
def gfD (bs : List Int) (p : Int) : List Df × Int := gfS bs p (gfN bs p)
theorem vlF_bd {bs : List Int} (h8 : Code8 bs) {q : Int} (hq : 0 ≤ q ∧ q ≤ 200000) : -1 ≤ vlF bs q ∧ vlF bs q ≤ 1000 := by
  have hpk := pk_bd h8 (p := q + 1) (n := 12) (by omega) (by omega)
  have hpk2 := pk_bd h8 (p := q + 1 + 1) (n := 12) (by omega) (by omega)
  have hv := iAt_mem (l := [1, 2, 3, 4, 5, 0, 8, pk bs (q + 1) 12, -1, 7, 1000, 16]) hpk2.1 hpk2.2
  simp only [List.mem_cons, List.not_mem_nil, or_false] at hv
  unfold vlF
  omega
theorem gfS_ok {bs : List Int} (h8 : Code8 bs) {p : Int} (hp : 0 ≤ p ∧ p ≤ 100000) : ∀ k, k ≤ 12 → Gd (gfS bs p k).1 k ∧ (gfS bs p k).2 = p + 1 + 3 * k
  | 0, _ => ⟨Gd.nil, by simp [gfS]⟩
  | k + 1, hk => by
    obtain ⟨h1, h2⟩ := gfS_ok h8 hp k (by omega)
    have hv := vlF_bd h8 (q := (gfS bs p k).2) (by omega)
    have hs := aNameF_sz h8 (p := (gfS bs p k).2) (by omega)
    refine ⟨?_, by simp only [gfS]; omega⟩
    simp only [gfS]
    split
    · exact h1.snoc hs (by omega) (by omega)
    · exact h1.more (by omega)
theorem gfN_bd {bs : List Int} (h8 : Code8 bs) {p : Int} (hp : 0 ≤ p ∧ p ≤ 100000) : gfN bs p ≤ 12 ∧ ((gfN bs p : Nat) : Int) = iAt [4, 3, 5, 2, 6, 1, 0, 12] (pk bs p 8) := by
  have k1 := pk_bd h8 (p := p) (n := 8) (by omega) (by omega)
  have v1 := iAt_mem (l := [4, 3, 5, 2, 6, 1, 0, 12]) k1.1 k1.2
  simp only [List.mem_cons, List.not_mem_nil, or_false] at v1
  unfold gfN
  omega
theorem gfD_ok {bs : List Int} (h8 : Code8 bs) {p : Int} (hp : 0 ≤ p ∧ p ≤ 100000) : Gd (gfD bs p).1 12 ∧ p ≤ (gfD bs p).2 ∧ (gfD bs p).2 ≤ p + 37 := by
  have hn1 := (gfN_bd h8 hp).1
  obtain ⟨h1, h2⟩ := gfS_ok h8 hp _ hn1
  unfold gfD
  exact ⟨h1.more hn1, by omega, by omega⟩
set_option maxRecDepth 10000 in
set_option maxHeartbeats 4000000 in
theorem goodDefsF_c (σ : Sto) (ν rb : Nat) (x : AV) (bs : List Int) (p : Int) (hb : σ rb = some (rdB x p)) (hx : Sl σ x 1 (rowsB bs)) (h8 : Code8 bs) (hp : 0 ≤ p ∧ p ≤ 100000) :
    AC Try.prog 112 [.ptr rb 0 0, .v (.int .i64 1000)] σ ν fun r δ => r = .sl ν 0 (gfD bs p).1.length none 2 ∧ δ = upd (upd noS rb (rdB x (gfD bs p).2)) ν (blkD (gfD bs p).1) := by
  obtain ⟨bx, ox, capx, zx, rfl⟩ := hx.out
  simp only [rowsB_len] at hx hb ⊢
  refine AC.intro [rb] ent_112 Try.func112 rfl (by simp [Try.f112]) (by simp [hb]) ?_
  intro K s hs hB hn hν hA hFr
  simp only [argT, Nat.zero_add, Nat.reduceAdd]
  have hrb : s rb = some (rdB (.sl bx ox bs.length capx zx) p) := by rw [hs rb, hb]; simp
  obtain ⟨hrK, hlo⟩ := hB rb _ hrb
  have hx' := hx.vw hs.vw
  have hrb1 : ¬ rb = K := by omega
  have hrν : rb ≠ ν := fun e => by rw [e] at hb; rw [hFr.1] at hb; cases hb
  obtain ⟨hn6, hnI⟩ := gfN_bd h8 hp
  have hfin : gfD bs p = gfS bs p (gfN bs p) := rfl
  rw [hfin]
  repeat' (first
    | refine AWP.seq ?_
    | refine AWP.block ?_
    | (refine AWP.skip ?_; simp only [thenA, blockA, reduceIte])
    | (refine AWP.exit ?_; simp only [thenA, blockA, eq_self, reduceIte, Nat.reduceEqDiff, Nat.succ_ne_zero])
    | (refine AWP.ret ?_; simp only [thenA, blockA, reduceIte])
    | (refine AWP.region (by rfl) (fun KK hKK => ?_); (repeat (simp (disch := omega) [])); first | (refine hKK _ _ _ ?_; clear hKK KK; simp only [thenA, blockA, reduceIte]) | skip)
    | (refine AWP.if_t ?_ ?_; focus (simp (disch := omega) []; done))
    | (refine AWP.if_f ?_ ?_; focus (simp (disch := omega) []; done)))
  refine aStop_of (one_c _ _ rb _ _ bs p [4, 3, 5, 2, 6, 1, 0, 12] (by simp (disch := omega) only [upd_eq, upd_ne, del_ne, hrb]) (hx'.ovb hrb (fun c kc hc h => by have := (hB c kc h).1; first | exact h | (simp (disch := omega) only [upd_ne, del_ne]; exact h))) h8 (by omega) (Sl.whole (t := 3) (r := true) (by simp only [upd_eq]; rfl) rfl) (by decide) (by decide)) ?_
  rintro r δ ⟨rfl, rfl⟩
  (repeat (simp (disch := omega) []))
  first | (refine hKK _ _ _ ?_; clear hKK KK; simp only [thenA, blockA, reduceIte]) | skip
  generalize hn0 : gfN bs p = n0 at *
  rw [← hnI]
  repeat' (first
    | refine AWP.seq ?_
    | refine AWP.block ?_
    | (refine AWP.skip ?_; simp only [thenA, blockA, reduceIte])
    | (refine AWP.exit ?_; simp only [thenA, blockA, eq_self, reduceIte, Nat.reduceEqDiff, Nat.succ_ne_zero])
    | (refine AWP.ret ?_; simp only [thenA, blockA, reduceIte])
    | (refine AWP.region (by rfl) (fun KK hKK => ?_); (repeat (simp (disch := omega) [])); first | (refine hKK _ _ _ ?_; clear hKK KK; simp only [thenA, blockA, reduceIte]) | skip)
    | (refine AWP.if_t ?_ ?_; focus (simp (disch := omega) []; done))
    | (refine AWP.if_f ?_ ?_; focus (simp (disch := omega) []; done)))
  refine AWP.weak (Weak.virt 5 34 2 0 0 0 (by simp) (by omega)) ?_
  refine AWP.loop (fun n τ σ' M => ∃ (k : Nat) (m : Int), k ≤ n0 ∧ n = n0 - k ∧ m = n0 - k ∧ τ = [(0, .ptr rb 0 0), (1, .v (.int .i64 1000)), (5, .sl K 0 (gfS bs p k).1.length none 2), (6, .v (.int .i64 m))] ∧ σ' = upd (upd s rb (rdB (.sl bx ox bs.length capx zx) (gfS bs p k).2)) K (blkD (gfS bs p k).1) ∧ M = K + 1)
    ⟨_, _, _, _, ⟨0, n0, by omega, rfl, by omega, rfl, rfl, rfl⟩, Weak.m1 (c := K + 1 + 2) hB hrK (fun c kc hc h => by have := (hB c kc h).1; first | exact h | (simp (disch := omega) only [upd_ne, del_ne]; exact h)) (by simp (disch := omega) only [upd_eq, upd_ne, del_ne, hrb]; rfl) (low_rd hlo) (by simp only [upd_eq]; rfl) (flatD []).low (by omega) (by simp [LeT, ren, swl, nms, hrb1, gfS]; omega)⟩ ?_
  rintro n τ σ' M ⟨k, m, hk, rfl, hm, rfl, rfl, rfl⟩
  obtain ⟨hgd, hq⟩ := gfS_ok h8 hp k (by omega)
  by_cases hlt : k < n0
  · have hm0 : 0 < m := by omega
    have hst0 : gfS bs p (k + 1) = (if nameIx (gfS bs p k).1 (aNameF bs (gfS bs p k).2) < 0 then (gfS bs p k).1 ++ [(aNameF bs (gfS bs p k).2, vlF bs (gfS bs p k).2)] else (gfS bs p k).1, (gfS bs p k).2 + 1 + 1 + 1) := rfl
    generalize gfS bs p k = w at *
    obtain ⟨ds, q⟩ := w
    simp only at hgd hq hst0 ⊢
    have hve : vlF bs q = iAt [1, 2, 3, 4, 5, 0, 8, pk bs (q + 1) 12, -1, 7, 1000, 16] (pk bs (q + 1 + 1) 12) := rfl
    have hvb := vlF_bd h8 (q := q) (by omega)
    repeat' (first
      | refine AWP.seq ?_
      | refine AWP.block ?_
      | (refine AWP.skip ?_; simp only [thenA, blockA, reduceIte])
      | (refine AWP.exit ?_; simp only [thenA, blockA, eq_self, reduceIte, Nat.reduceEqDiff, Nat.succ_ne_zero])
      | (refine AWP.ret ?_; simp only [thenA, blockA, reduceIte])
      | (refine AWP.region (by rfl) (fun KK hKK => ?_); (repeat (simp (disch := omega) [hm0])); first | (refine hKK _ _ _ ?_; clear hKK KK; simp only [thenA, blockA, reduceIte]) | skip)
      | (refine AWP.if_t ?_ ?_; focus (simp (disch := omega) [hm0]; done))
      | (refine AWP.if_f ?_ ?_; focus (simp (disch := omega) [hm0]; done)))
    refine aStop_of (aName_c _ _ rb _ bs q (by simp (disch := omega) only [upd_eq, upd_ne, del_ne, hrb]) (hx'.ovb hrb (fun c kc hc h => by have := (hB c kc h).1; first | exact h | (simp (disch := omega) only [upd_ne, del_ne]; exact h))) h8 (by omega)) ?_
    rintro r δ ⟨rfl, rfl⟩
    (repeat (simp (disch := omega) []))
    first | (refine hKK _ _ _ ?_; clear hKK KK; simp only [thenA, blockA, reduceIte]) | skip
    refine aStop_of (pick_c _ _ rb _ bs (q + 1) 12 (by simp (disch := omega) only [upd_eq, upd_ne, del_ne, hrb]) (hx'.ovb hrb (fun c kc hc h => by have := (hB c kc h).1; first | exact h | (simp (disch := omega) only [upd_ne, del_ne]; exact h))) h8 (by omega)) ?_
    rintro r δ ⟨rfl, rfl⟩
    (repeat (simp (disch := omega) []))
    first | (refine hKK _ _ _ ?_; clear hKK KK; simp only [thenA, blockA, reduceIte]) | skip
    refine aStop_of (one_c _ _ rb _ _ bs (q + 1 + 1) [1, 2, 3, 4, 5, 0, 8, pk bs (q + 1) 12, -1, 7, 1000, 16] (by simp (disch := omega) only [upd_eq, upd_ne, del_ne, hrb]) (hx'.ovb hrb (fun c kc hc h => by have := (hB c kc h).1; first | exact h | (simp (disch := omega) only [upd_ne, del_ne]; exact h))) h8 (by omega) (Sl.whole (t := 3) (r := true) (by simp only [upd_eq]; rfl) rfl) (by simp) (by simp)) ?_
    rintro r δ ⟨rfl, rfl⟩
    (repeat (simp (disch := omega) []))
    first | (refine hKK _ _ _ ?_; clear hKK KK; simp only [thenA, blockA, reduceIte]) | skip
    repeat' (first
      | refine AWP.seq ?_
      | refine AWP.block ?_
      | (refine AWP.skip ?_; simp only [thenA, blockA, reduceIte])
      | (refine AWP.exit ?_; simp only [thenA, blockA, eq_self, reduceIte, Nat.reduceEqDiff, Nat.succ_ne_zero])
      | (refine AWP.ret ?_; simp only [thenA, blockA, reduceIte])
      | (refine AWP.region (by rfl) (fun KK hKK => ?_); (repeat (simp (disch := omega) [])); first | (refine hKK _ _ _ ?_; clear hKK KK; simp only [thenA, blockA, reduceIte]) | skip)
      | (refine AWP.if_t ?_ ?_; focus (simp (disch := omega) []; done))
      | (refine AWP.if_f ?_ ?_; focus (simp (disch := omega) []; done)))
    have hlen : ds.length ≤ 4294967296 := by have := hgd.len; omega
    have hz1 : (ds.length + 1) * 24 ≤ 140737488355328 := by have := hgd.len; omega
    have hz2 : ds.length + 1 ≤ 4611686018427387904 := by have := hgd.len; omega
    rw [← hve]
    generalize vlF bs q = v at *
    generalize aNameF bs q = nm at *
    by_cases h5 : nameIx ds nm < 0
    · rw [if_pos h5] at hst0
      have hst := hst0
      by_cases h0 : 0 ≤ v
      · repeat' (first
          | refine AWP.seq ?_
          | refine AWP.block ?_
          | (refine AWP.skip ?_; simp only [thenA, blockA, reduceIte])
          | (refine AWP.exit ?_; simp only [thenA, blockA, eq_self, reduceIte, Nat.reduceEqDiff, Nat.succ_ne_zero])
          | (refine AWP.ret ?_; simp only [thenA, blockA, reduceIte])
          | (refine AWP.region (by rfl) (fun KK hKK => ?_); (repeat (simp (disch := omega) [h5, h0])); first | (refine hKK _ _ _ ?_; clear hKK KK; simp only [thenA, blockA, reduceIte]) | skip)
          | (refine AWP.if_t ?_ ?_; focus (simp (disch := omega) [h5, h0]; done))
          | (refine AWP.if_f ?_ ?_; focus (simp (disch := omega) [h5, h0]; done)))
        refine aStop_of (indexOf_c _ _ _ ds nm (Sl.whole (t := 34) (r := true) (by simp (disch := omega) only [upd_eq, upd_ne]) (by simp [rowsD_len])) (by omega)) ?_
        rintro r δ ⟨rfl, rfl⟩
        (repeat (simp (disch := omega) [h5, h0]))
        first | (refine hKK _ _ _ ?_; clear hKK KK; simp only [thenA, blockA, reduceIte]) | skip
        repeat' (first
          | refine AWP.seq ?_
          | refine AWP.block ?_
          | (refine AWP.skip ?_; simp only [thenA, blockA, reduceIte])
          | (refine AWP.exit ?_; simp only [thenA, blockA, eq_self, reduceIte, Nat.reduceEqDiff, Nat.succ_ne_zero])
          | (refine AWP.ret ?_; simp only [thenA, blockA, reduceIte])
          | (refine AWP.region (by rfl) (fun KK hKK => ?_); (repeat (simp (disch := omega) [h5, h0, rowsD_len, rowsD_snoc, rowsD_take, elems, hz1, hz2])); first | (refine hKK _ _ _ ?_; clear hKK KK; simp only [thenA, blockA, reduceIte]) | skip)
          | (refine AWP.if_t ?_ ?_; focus (simp (disch := omega) [h5, h0, rowsD_len, rowsD_snoc, rowsD_take, elems, hz1, hz2]; done))
          | (refine AWP.if_f ?_ ?_; focus (simp (disch := omega) [h5, h0, rowsD_len, rowsD_snoc, rowsD_take, elems, hz1, hz2]; done)))
        refine ⟨_, _, _, _, ?_, ⟨k + 1, m - 1, by omega, rfl, by omega, rfl, rfl, rfl⟩, Weak.m1 (c := K + 1 + 2 + 2 + 1 + 2 + 1 + 2 + 1) hB hrK (fun c kc hc h => by have := (hB c kc h).1; first | exact h | (simp (disch := omega) only [upd_ne, del_ne]; exact h)) (by rw [hst]; simp (disch := omega) only [upd_eq, upd_ne, del_ne, hrb]) (low_rd hlo) (by rw [hst]; simp (disch := omega) only [upd_eq, upd_ne, del_ne]) (flatD _).low (by omega) (by rw [hst]; simp [LeT, ren, swl, nms, hrb1]; omega)⟩
        omega
      · repeat' (first
          | refine AWP.seq ?_
          | refine AWP.block ?_
          | (refine AWP.skip ?_; simp only [thenA, blockA, reduceIte])
          | (refine AWP.exit ?_; simp only [thenA, blockA, eq_self, reduceIte, Nat.reduceEqDiff, Nat.succ_ne_zero])
          | (refine AWP.ret ?_; simp only [thenA, blockA, reduceIte])
          | (refine AWP.region (by rfl) (fun KK hKK => ?_); (repeat (simp (disch := omega) [h5, h0])); first | (refine hKK _ _ _ ?_; clear hKK KK; simp only [thenA, blockA, reduceIte]) | skip)
          | (refine AWP.if_t ?_ ?_; focus (simp (disch := omega) [h5, h0]; done))
          | (refine AWP.if_f ?_ ?_; focus (simp (disch := omega) [h5, h0]; done)))
        refine aStop_of (indexOf_c _ _ _ ds nm (Sl.whole (t := 34) (r := true) (by simp (disch := omega) only [upd_eq, upd_ne]) (by simp [rowsD_len])) (by omega)) ?_
        rintro r δ ⟨rfl, rfl⟩
        (repeat (simp (disch := omega) [h5, h0]))
        first | (refine hKK _ _ _ ?_; clear hKK KK; simp only [thenA, blockA, reduceIte]) | skip
        repeat' (first
          | refine AWP.seq ?_
          | refine AWP.block ?_
          | (refine AWP.skip ?_; simp only [thenA, blockA, reduceIte])
          | (refine AWP.exit ?_; simp only [thenA, blockA, eq_self, reduceIte, Nat.reduceEqDiff, Nat.succ_ne_zero])
          | (refine AWP.ret ?_; simp only [thenA, blockA, reduceIte])
          | (refine AWP.region (by rfl) (fun KK hKK => ?_); (repeat (simp (disch := omega) [h5, h0, rowsD_len, rowsD_snoc, rowsD_take, elems, hz1, hz2])); first | (refine hKK _ _ _ ?_; clear hKK KK; simp only [thenA, blockA, reduceIte]) | skip)
          | (refine AWP.if_t ?_ ?_; focus (simp (disch := omega) [h5, h0, rowsD_len, rowsD_snoc, rowsD_take, elems, hz1, hz2]; done))
          | (refine AWP.if_f ?_ ?_; focus (simp (disch := omega) [h5, h0, rowsD_len, rowsD_snoc, rowsD_take, elems, hz1, hz2]; done)))
        refine ⟨_, _, _, _, ?_, ⟨k + 1, m - 1, by omega, rfl, by omega, rfl, rfl, rfl⟩, Weak.m1 (c := K + 1 + 2 + 2 + 1 + 2 + 1 + 2 + 1) hB hrK (fun c kc hc h => by have := (hB c kc h).1; first | exact h | (simp (disch := omega) only [upd_ne, del_ne]; exact h)) (by rw [hst]; simp (disch := omega) only [upd_eq, upd_ne, del_ne, hrb]) (low_rd hlo) (by rw [hst]; simp (disch := omega) only [upd_eq, upd_ne, del_ne]) (flatD _).low (by omega) (by rw [hst]; simp [LeT, ren, swl, nms, hrb1]; omega)⟩
        omega
    · rw [if_neg h5] at hst0
      have hst := hst0
      repeat' (first
        | refine AWP.seq ?_
        | refine AWP.block ?_
        | (refine AWP.skip ?_; simp only [thenA, blockA, reduceIte])
        | (refine AWP.exit ?_; simp only [thenA, blockA, eq_self, reduceIte, Nat.reduceEqDiff, Nat.succ_ne_zero])
        | (refine AWP.ret ?_; simp only [thenA, blockA, reduceIte])
        | (refine AWP.region (by rfl) (fun KK hKK => ?_); (repeat (simp (disch := omega) [h5])); first | (refine hKK _ _ _ ?_; clear hKK KK; simp only [thenA, blockA, reduceIte]) | skip)
        | (refine AWP.if_t ?_ ?_; focus (simp (disch := omega) [h5]; done))
        | (refine AWP.if_f ?_ ?_; focus (simp (disch := omega) [h5]; done)))
      refine aStop_of (indexOf_c _ _ _ ds nm (Sl.whole (t := 34) (r := true) (by simp (disch := omega) only [upd_eq, upd_ne]) (by simp [rowsD_len])) (by omega)) ?_
      rintro r δ ⟨rfl, rfl⟩
      (repeat (simp (disch := omega) [h5]))
      first | (refine hKK _ _ _ ?_; clear hKK KK; simp only [thenA, blockA, reduceIte]) | skip
      repeat' (first
        | refine AWP.seq ?_
        | refine AWP.block ?_
        | (refine AWP.skip ?_; simp only [thenA, blockA, reduceIte])
        | (refine AWP.exit ?_; simp only [thenA, blockA, eq_self, reduceIte, Nat.reduceEqDiff, Nat.succ_ne_zero])
        | (refine AWP.ret ?_; simp only [thenA, blockA, reduceIte])
        | (refine AWP.region (by rfl) (fun KK hKK => ?_); (repeat (simp (disch := omega) [h5, rowsD_len, rowsD_snoc, rowsD_take, elems, hz1, hz2])); first | (refine hKK _ _ _ ?_; clear hKK KK; simp only [thenA, blockA, reduceIte]) | skip)
        | (refine AWP.if_t ?_ ?_; focus (simp (disch := omega) [h5, rowsD_len, rowsD_snoc, rowsD_take, elems, hz1, hz2]; done))
        | (refine AWP.if_f ?_ ?_; focus (simp (disch := omega) [h5, rowsD_len, rowsD_snoc, rowsD_take, elems, hz1, hz2]; done)))
      refine ⟨_, _, _, _, ?_, ⟨k + 1, m - 1, by omega, rfl, by omega, rfl, rfl, rfl⟩, Weak.m1 (c := K) hB hrK (fun c kc hc h => by have := (hB c kc h).1; first | exact h | (simp (disch := omega) only [upd_ne, del_ne]; exact h)) (by rw [hst]; simp (disch := omega) only [upd_eq, upd_ne, del_ne, hrb]) (low_rd hlo) (by rw [hst]; simp (disch := omega) only [upd_eq, upd_ne, del_ne]) (flatD _).low (by omega) (by rw [hst]; simp [LeT, ren, swl, nms, hrb1]; omega)⟩
      omega
  · have hkn : k = n0 := by omega
    subst hkn
    have hm0 : ¬ 0 < m := by omega
    repeat' (first
      | refine AWP.seq ?_
      | refine AWP.block ?_
      | (refine AWP.skip ?_; simp only [thenA, blockA, reduceIte])
      | (refine AWP.exit ?_; simp only [thenA, blockA, eq_self, reduceIte, Nat.reduceEqDiff, Nat.succ_ne_zero])
      | (refine AWP.ret ?_; simp only [thenA, blockA, reduceIte])
      | (refine AWP.region (by rfl) (fun KK hKK => ?_); (repeat (simp (disch := omega) [hm0])); first | (refine hKK _ _ _ ?_; clear hKK KK; simp only [thenA, blockA, reduceIte]) | skip)
      | (refine AWP.if_t ?_ ?_; focus (simp (disch := omega) [hm0]; done))
      | (refine AWP.if_f ?_ ?_; focus (simp (disch := omega) [hm0]; done)))
    refine ⟨by simp, _, rfl, fin1M K (rdB (.sl bx ox bs.length capx zx) (gfS bs p k).2) (blkD (gfS bs p k).1) (by simp (disch := omega) only [upd_eq, upd_ne, del_ne, hrb]) rfl (low_rd hlo) (by simp only [upd_eq]) rfl (flatD _).low hrν ⟨by simp [resO, get, ren, rho], rfl⟩ (Nat.le_refl _) (by simp [resO, get, nms])⟩
set_option maxRecDepth 10000 in
set_option maxHeartbeats 1000000 in
theorem goodEnumF_c (σ : Sto) (ν rb : Nat) (x : AV) (bs : List Int) (p : Int) (hb : σ rb = some (rdB x p)) (hx : Sl σ x 1 (rowsB bs)) (h8 : Code8 bs) (hp : 0 ≤ p ∧ p ≤ 100000) :
    AC Try.prog 86 [.ptr rb 0 0] σ ν fun r δ => r = .agg [.sl ν 0 (gfD bs p).1.length none 2] ∧ δ = upd (upd noS rb (rdB x (gfD bs p).2)) ν (blkD (gfD bs p).1) := by
  obtain ⟨bx, ox, capx, zx, rfl⟩ := hx.out
  simp only [rowsB_len] at hx hb ⊢
  refine AC.intro [rb] ent_86 Try.func86 rfl (by simp [Try.f86]) (by simp [hb]) ?_
  intro K s hs hB hn hν hA hFr
  simp only [argT, Nat.zero_add, Nat.reduceAdd]
  have hrb : s rb = some (rdB (.sl bx ox bs.length capx zx) p) := by rw [hs rb, hb]; simp
  obtain ⟨hrK, hlo⟩ := hB rb _ hrb
  have hx' := hx.vw hs.vw
  have hrν : rb ≠ ν := fun e => by rw [e] at hb; rw [hFr.1] at hb; cases hb
  repeat' (first
    | refine AWP.seq ?_
    | refine AWP.block ?_
    | (refine AWP.skip ?_; simp only [thenA, blockA, reduceIte])
    | (refine AWP.exit ?_; simp only [thenA, blockA, eq_self, reduceIte, Nat.reduceEqDiff, Nat.succ_ne_zero])
    | (refine AWP.ret ?_; simp only [thenA, blockA, reduceIte])
    | (refine AWP.region (by rfl) (fun KK hKK => ?_); (repeat (simp (disch := omega) [])); first | (refine hKK _ _ _ ?_; clear hKK KK; simp only [thenA, blockA, reduceIte]) | skip)
    | (refine AWP.if_t ?_ ?_; focus (simp (disch := omega) []; done))
    | (refine AWP.if_f ?_ ?_; focus (simp (disch := omega) []; done)))
  refine aStop_of (goodDefsF_c _ _ rb _ bs p (by simp (disch := omega) only [upd_eq, upd_ne, del_ne, hrb]) (hx'.ovb hrb (fun c kc hc h => by have := (hB c kc h).1; first | exact h | (simp (disch := omega) only [upd_ne, del_ne]; exact h))) h8 hp) ?_
  rintro r δ ⟨rfl, rfl⟩
  (repeat (simp (disch := omega) []))
  first | (refine hKK _ _ _ ?_; clear hKK KK; simp only [thenA, blockA, reduceIte]) | skip
  generalize gfD bs p = w at *
  repeat' (first
    | refine AWP.seq ?_
    | refine AWP.block ?_
    | (refine AWP.skip ?_; simp only [thenA, blockA, reduceIte])
    | (refine AWP.exit ?_; simp only [thenA, blockA, eq_self, reduceIte, Nat.reduceEqDiff, Nat.succ_ne_zero])
    | (refine AWP.ret ?_; simp only [thenA, blockA, reduceIte])
    | (refine AWP.region (by rfl) (fun KK hKK => ?_); (repeat (simp (disch := omega) [])); first | (refine hKK _ _ _ ?_; clear hKK KK; simp only [thenA, blockA, reduceIte]) | skip)
    | (refine AWP.if_t ?_ ?_; focus (simp (disch := omega) []; done))
    | (refine AWP.if_f ?_ ?_; focus (simp (disch := omega) []; done)))
  refine ⟨by simp, ?_⟩
  have hres : Try.f86.results.toList = [.cell 2 25] := rfl
  rw [hres]
  simp (disch := omega) []
  refine fin1M (K + 1) (rdB (.sl bx ox bs.length capx zx) w.2) (blkD w.1) (by simp (disch := omega) only [upd_eq, upd_ne, del_ne, hrb]) rfl (low_rd hlo) (by simp (disch := omega) only [upd_eq, upd_ne]) rfl (flatD _).low hrν ⟨by simp [resO, ren, rens, rho], rfl⟩ (by omega) (by simp [resO, nms, nmss])
end Go.Proofs.Ytgaiemhbllbaiaa
