/- Contracts of the generators: definitions. No condition. -/
import Derived.Test.YtgaiemhbllbaiaaG2
import Derived.Test.YtgaiemhbllbaiaaLC
set_option linter.unusedSimpArgs false
set_option linter.unusedVariables false
namespace Go.Proofs.Ytgaiemhbllbaiaa
open Go Go.RowKit

/-- Definitions that a generator makes. -/
structure Gd (ds : List Df) (m : Nat) : Prop where
  len : ds.length ≤ m
  sz : ∀ d ∈ ds, d.1.size ≤ 7
  lo : ∀ d ∈ ds, -4096 ≤ d.2
  hi : ∀ d ∈ ds, d.2 ≤ 4096
theorem Gd.nil : Gd [] 0 := ⟨Nat.le_refl _, by simp, by simp, by simp⟩
theorem Gd.snoc {ds : List Df} {m : Nat} (h : Gd ds m) {s : ByteArray} {n : Int} (hs : s.size ≤ 7) (h1 : -4096 ≤ n) (h2 : n ≤ 4096) : Gd (ds ++ [(s, n)]) (m + 1) :=
  ⟨by simp [h.len], fun d hd => by
    rcases List.mem_append.1 hd with hd | hd
    · exact h.sz d hd
    · rw [List.mem_singleton.1 hd]; exact hs, fun d hd => by
    rcases List.mem_append.1 hd with hd | hd
    · exact h.lo d hd
    · rw [List.mem_singleton.1 hd]; exact h1, fun d hd => by
    rcases List.mem_append.1 hd with hd | hd
    · exact h.hi d hd
    · rw [List.mem_singleton.1 hd]; exact h2⟩
theorem Gd.more {ds : List Df} {m m' : Nat} (h : Gd ds m) (hm : m ≤ m') : Gd ds m' := ⟨Nat.le_trans h.len hm, h.sz, h.lo, h.hi⟩

set_option maxRecDepth 10000 in
set_option maxHeartbeats 4000000 in
theorem goodDefs_c (σ : Sto) (ν rb : Nat) (x : AV) (bs : List Int) (p high : Int) (hb : σ rb = some (rdB x p)) (hx : Sl σ x 1 (rowsB bs)) (h8 : Code8 bs) (hp : 0 ≤ p ∧ p ≤ 100000) :
    AC Try.prog 112 [.ptr rb 0 0, .v (.int .i64 high)] σ ν fun r δ => ∃ (ds : List Df) (q : Int), Gd ds 12 ∧ p ≤ q ∧ q ≤ p + 100 ∧ r = .sl ν 0 ds.length none 2 ∧ δ = upd (upd noS rb (rdB x q)) ν (blkD ds) := by
  obtain ⟨bx, ox, capx, zx, rfl⟩ := hx.out
  simp only [rowsB_len] at hx hb ⊢
  refine AC.intro [rb] ent_112 Try.func112 rfl (by simp [Try.f112]) (by simp [hb]) ?_
  intro K s hs hB hn hν hA hFr
  simp only [argT, Nat.zero_add, Nat.reduceAdd]
  have hrb : s rb = some (rdB (.sl bx ox bs.length capx zx) p) := by rw [hs rb, hb]; simp
  obtain ⟨hrK, hlo⟩ := hB rb _ hrb
  have hx' := hx.vw hs.vw
  have hrb1 : ¬ rb = K := by omega
  have hrν : rb ≠ ν := fun e => by rw [e] at hb; rw [hFr.1] at hb; cases hb
  have hi := pk_bd h8 (p := p) (n := 8) (by omega) (by omega)
  have hn0 := iAt_mem (l := [4, 3, 5, 2, 6, 1, 0, 12]) hi.1 hi.2
  repeat' (first
    | refine AWP.seq ?_
    | refine AWP.block ?_
    | (refine AWP.skip ?_; simp only [thenA, blockA, reduceIte])
    | (refine AWP.exit ?_; simp only [thenA, blockA, eq_self, reduceIte, Nat.reduceEqDiff, Nat.succ_ne_zero])
    | (refine AWP.ret ?_; simp only [thenA, blockA, reduceIte])
    | (refine AWP.region (by rfl) (fun KK hKK => ?_); (repeat (simp (disch := omega) [])); first | (refine hKK _ _ _ ?_; clear hKK KK; simp only [thenA, blockA, reduceIte]) | skip)
    | (refine AWP.if_t ?_ ?_; focus (simp (disch := omega) []; done))
    | (refine AWP.if_f ?_ ?_; focus (simp (disch := omega) []; done)))
  refine aStop_of (one_c _ _ rb _ _ bs p [4, 3, 5, 2, 6, 1, 0, 12] (by simp (disch := omega) only [upd_eq, upd_ne, del_ne, hrb]) (hx'.ovb hrb (fun c kc hc h => by have := (hB c kc h).1; first | exact h | (simp (disch := omega) only [upd_ne, del_ne]; exact h))) h8 (by omega) (Sl.whole (t := 3) (r := true) (by simp only [upd_eq]; rfl) rfl) (by decide) (by decide)) ?_
  rintro r δ ⟨rfl, rfl⟩
  (repeat (simp (disch := omega) []))
  first | (refine hKK _ _ _ ?_; clear hKK KK; simp only [thenA, blockA, reduceIte]) | skip
  generalize iAt [4, 3, 5, 2, 6, 1, 0, 12] _ = n0 at *
  have hn1 : 0 ≤ n0 ∧ n0 ≤ 12 := by
    simp at hn0
    omega
  repeat' (first
    | refine AWP.seq ?_
    | refine AWP.block ?_
    | (refine AWP.skip ?_; simp only [thenA, blockA, reduceIte])
    | (refine AWP.exit ?_; simp only [thenA, blockA, eq_self, reduceIte, Nat.reduceEqDiff, Nat.succ_ne_zero])
    | (refine AWP.ret ?_; simp only [thenA, blockA, reduceIte])
    | (refine AWP.region (by rfl) (fun KK hKK => ?_); (repeat (simp (disch := omega) [])); first | (refine hKK _ _ _ ?_; clear hKK KK; simp only [thenA, blockA, reduceIte]) | skip)
    | (refine AWP.if_t ?_ ?_; focus (simp (disch := omega) []; done))
    | (refine AWP.if_f ?_ ?_; focus (simp (disch := omega) []; done)))
  refine AWP.weak (Weak.virt 5 34 2 0 0 0 (by simp) (by omega)) ?_
  refine AWP.loop (fun n τ σ' M => ∃ (ds : List Df) (q m : Int), n = m.toNat ∧ 0 ≤ m ∧ m ≤ 12 ∧ Gd ds (12 - m.toNat) ∧ p ≤ q ∧ q ≤ p + 1 + 8 * (12 - m) ∧ τ = [(0, .ptr rb 0 0), (1, .v (.int .i64 high)), (5, .sl K 0 ds.length none 2), (6, .v (.int .i64 m))] ∧ σ' = upd (upd s rb (rdB (.sl bx ox bs.length capx zx) q)) K (blkD ds) ∧ M = K + 1)
    ⟨_, _, _, _, ⟨[], p + 1, n0, rfl, hn1.1, hn1.2, Gd.nil.more (by omega), by omega, by omega, rfl, rfl, rfl⟩, Weak.m1 (c := K + 1 + 2) hB hrK (fun c kc hc h => by have := (hB c kc h).1; first | exact h | (simp (disch := omega) only [upd_ne, del_ne]; exact h)) (by simp (disch := omega) only [upd_eq, upd_ne, del_ne, hrb]) (low_rd hlo) (by simp only [upd_eq]; rfl) (flatD []).low (by omega) (by simp [LeT, ren, swl, nms, hrb1]; omega)⟩ ?_
  rintro n τ σ' M ⟨ds, q, m, rfl, hm0, hm1, hgd, hq0, hq1, rfl, rfl, rfl⟩
  by_cases hlt : ¬ 0 < m
  · have hm : m = 0 := by omega
    subst hm
    repeat' (first
      | refine AWP.seq ?_
      | refine AWP.block ?_
      | (refine AWP.skip ?_; simp only [thenA, blockA, reduceIte])
      | (refine AWP.exit ?_; simp only [thenA, blockA, eq_self, reduceIte, Nat.reduceEqDiff, Nat.succ_ne_zero])
      | (refine AWP.ret ?_; simp only [thenA, blockA, reduceIte])
      | (refine AWP.region (by rfl) (fun KK hKK => ?_); (repeat (simp (disch := omega) [])); first | (refine hKK _ _ _ ?_; clear hKK KK; simp only [thenA, blockA, reduceIte]) | skip)
      | (refine AWP.if_t ?_ ?_; focus (simp (disch := omega) []; done))
      | (refine AWP.if_f ?_ ?_; focus (simp (disch := omega) []; done)))
    refine ⟨by simp, _, rfl, fin1M K (rdB (.sl bx ox bs.length capx zx) q) (blkD ds) (by simp (disch := omega) only [upd_eq, upd_ne, del_ne, hrb]) rfl (low_rd hlo) (by simp only [upd_eq]) rfl (flatD _).low hrν ⟨ds, q, hgd.more (by omega), by omega, by omega, by simp [resO, get, ren, rho], rfl⟩ (Nat.le_refl _) (by simp [resO, get, nms])⟩
  · have hlt : 0 < m := by omega
    repeat' (first
      | refine AWP.seq ?_
      | refine AWP.block ?_
      | (refine AWP.skip ?_; simp only [thenA, blockA, reduceIte])
      | (refine AWP.exit ?_; simp only [thenA, blockA, eq_self, reduceIte, Nat.reduceEqDiff, Nat.succ_ne_zero])
      | (refine AWP.ret ?_; simp only [thenA, blockA, reduceIte])
      | (refine AWP.region (by rfl) (fun KK hKK => ?_); (repeat (simp (disch := omega) [hlt])); first | (refine hKK _ _ _ ?_; clear hKK KK; simp only [thenA, blockA, reduceIte]) | skip)
      | (refine AWP.if_t ?_ ?_; focus (simp (disch := omega) [hlt]; done))
      | (refine AWP.if_f ?_ ?_; focus (simp (disch := omega) [hlt]; done)))
    refine aStop_of (aName_c _ _ rb _ bs q (by simp (disch := omega) only [upd_eq, upd_ne, del_ne, hrb]) (hx'.ovb hrb (fun c kc hc h => by have := (hB c kc h).1; first | exact h | (simp (disch := omega) only [upd_ne, del_ne]; exact h))) h8 (by omega)) ?_
    rintro r δ ⟨rfl, rfl⟩
    (repeat (simp (disch := omega) []))
    first | (refine hKK _ _ _ ?_; clear hKK KK; simp only [thenA, blockA, reduceIte]) | skip
    refine aStop_of (pick_c _ _ rb _ bs (q + 1) 12 (by simp (disch := omega) only [upd_eq, upd_ne, del_ne, hrb]) (hx'.ovb hrb (fun c kc hc h => by have := (hB c kc h).1; first | exact h | (simp (disch := omega) only [upd_ne, del_ne]; exact h))) h8 (by omega)) ?_
    rintro r δ ⟨rfl, rfl⟩
    (repeat (simp (disch := omega) []))
    first | (refine hKK _ _ _ ?_; clear hKK KK; simp only [thenA, blockA, reduceIte]) | skip
    refine aStop_of (one_c _ _ rb _ _ bs (q + 1 + 1) [1, 2, 3, 4, 5, 0, 8, pk bs (q + 1) 12, -1, 7, 1000, 16] (by simp (disch := omega) only [upd_eq, upd_ne, del_ne, hrb]) (hx'.ovb hrb (fun c kc hc h => by have := (hB c kc h).1; first | exact h | (simp (disch := omega) only [upd_ne, del_ne]; exact h))) h8 (by omega) (Sl.whole (t := 3) (r := true) (by simp only [upd_eq]; rfl) rfl) (by simp) (by simp)) ?_
    rintro r δ ⟨rfl, rfl⟩
    (repeat (simp (disch := omega) []))
    first | (refine hKK _ _ _ ?_; clear hKK KK; simp only [thenA, blockA, reduceIte]) | skip
    repeat' (first
      | refine AWP.seq ?_
      | refine AWP.block ?_
      | (refine AWP.skip ?_; simp only [thenA, blockA, reduceIte])
      | (refine AWP.exit ?_; simp only [thenA, blockA, eq_self, reduceIte, Nat.reduceEqDiff, Nat.succ_ne_zero])
      | (refine AWP.ret ?_; simp only [thenA, blockA, reduceIte])
      | (refine AWP.region (by rfl) (fun KK hKK => ?_); (repeat (simp (disch := omega) [])); first | (refine hKK _ _ _ ?_; clear hKK KK; simp only [thenA, blockA, reduceIte]) | skip)
      | (refine AWP.if_t ?_ ?_; focus (simp (disch := omega) []; done))
      | (refine AWP.if_f ?_ ?_; focus (simp (disch := omega) []; done)))
    have hpk := pk_bd h8 (p := q + 1) (n := 12) (by omega) (by omega)
    have hpk2 := pk_bd h8 (p := q + 1 + 1) (n := 12) (by omega) (by omega)
    have hv := iAt_mem (l := [1, 2, 3, 4, 5, 0, 8, pk bs (q + 1) 12, -1, 7, 1000, 16]) hpk2.1 hpk2.2
    have hs7 := aNameF_sz h8 (p := q) (by omega)
    have hlen : ds.length ≤ 4294967296 := by have := hgd.len; omega
    have hz1 : (ds.length + 1) * 24 ≤ 140737488355328 := by have := hgd.len; omega
    have hz2 : ds.length + 1 ≤ 4611686018427387904 := by have := hgd.len; omega
    generalize iAt [1, 2, 3, 4, 5, 0, 8, pk bs (q + 1) 12, -1, 7, 1000, 16] (pk bs (q + 1 + 1) 12) = v at *
    generalize aNameF bs q = nm at *
    have hvb : -1 ≤ v ∧ v ≤ 1000 := by
      simp at hv
      omega
    by_cases hh : high = 4095
    · repeat' (first
        | refine AWP.seq ?_
        | refine AWP.block ?_
        | (refine AWP.skip ?_; simp only [thenA, blockA, reduceIte])
        | (refine AWP.exit ?_; simp only [thenA, blockA, eq_self, reduceIte, Nat.reduceEqDiff, Nat.succ_ne_zero])
        | (refine AWP.ret ?_; simp only [thenA, blockA, reduceIte])
        | (refine AWP.region (by rfl) (fun KK hKK => ?_); (repeat (simp (disch := omega) [hh])); first | (refine hKK _ _ _ ?_; clear hKK KK; simp only [thenA, blockA, reduceIte]) | skip)
        | (refine AWP.if_t ?_ ?_; focus (simp (disch := omega) [hh]; done))
        | (refine AWP.if_f ?_ ?_; focus (simp (disch := omega) [hh]; done)))
      refine aStop_of (pick_c _ _ rb _ bs (q + 1 + 1 + 1) 64 (by simp (disch := omega) only [upd_eq, upd_ne, del_ne, hrb]) (hx'.ovb hrb (fun c kc hc h => by have := (hB c kc h).1; first | exact h | (simp (disch := omega) only [upd_ne, del_ne]; exact h))) h8 (by omega)) ?_
      rintro r δ ⟨rfl, rfl⟩
      (repeat (simp (disch := omega) []))
      first | (refine hKK _ _ _ ?_; clear hKK KK; simp only [thenA, blockA, reduceIte]) | skip
      refine aStop_of (one_c _ _ rb _ _ bs (q + 1 + 1 + 1 + 1) [1, 2, 4, 8, 3, 16, 0, 6, 7, pk bs (q + 1 + 1 + 1) 64, 2048, 5, 1, 2, 4] (by simp (disch := omega) only [upd_eq, upd_ne, del_ne, hrb]) (hx'.ovb hrb (fun c kc hc h => by have := (hB c kc h).1; first | exact h | (simp (disch := omega) only [upd_ne, del_ne]; exact h))) h8 (by omega) (Sl.whole (t := 3) (r := true) (by simp only [upd_eq]; rfl) rfl) (by simp) (by simp)) ?_
      rintro r δ ⟨rfl, rfl⟩
      (repeat (simp (disch := omega) []))
      first | (refine hKK _ _ _ ?_; clear hKK KK; simp only [thenA, blockA, reduceIte]) | skip
      have hpk := pk_bd h8 (p := q + 1 + 1 + 1) (n := 64) (by omega) (by omega)
      have hpk2 := pk_bd h8 (p := q + 1 + 1 + 1 + 1) (n := 15) (by omega) (by omega)
      have hv := iAt_mem (l := [1, 2, 4, 8, 3, 16, 0, 6, 7, pk bs (q + 1 + 1 + 1) 64, 2048, 5, 1, 2, 4]) hpk2.1 hpk2.2
      generalize iAt [1, 2, 4, 8, 3, 16, 0, 6, 7, pk bs (q + 1 + 1 + 1) 64, 2048, 5, 1, 2, 4] _ = v2 at *
      have hvb2 : 0 ≤ v2 ∧ v2 ≤ 2048 := by
        simp at hv
        omega
      have h0 := hvb2.1
      by_cases h5 : nameIx ds nm < 0
      · repeat' (first
          | refine AWP.seq ?_
          | refine AWP.block ?_
          | (refine AWP.skip ?_; simp only [thenA, blockA, reduceIte])
          | (refine AWP.exit ?_; simp only [thenA, blockA, eq_self, reduceIte, Nat.reduceEqDiff, Nat.succ_ne_zero])
          | (refine AWP.ret ?_; simp only [thenA, blockA, reduceIte])
          | (refine AWP.region (by rfl) (fun KK hKK => ?_); (repeat (simp (disch := omega) [hh, h5, h0])); first | (refine hKK _ _ _ ?_; clear hKK KK; simp only [thenA, blockA, reduceIte]) | skip)
          | (refine AWP.if_t ?_ ?_; focus (simp (disch := omega) [hh, h5, h0]; done))
          | (refine AWP.if_f ?_ ?_; focus (simp (disch := omega) [hh, h5, h0]; done)))
        refine aStop_of (indexOf_c _ _ _ ds nm (Sl.whole (t := 34) (r := true) (by simp (disch := omega) only [upd_eq, upd_ne]) (by simp [rowsD_len])) (by omega)) ?_
        rintro r δ ⟨rfl, rfl⟩
        (repeat (simp (disch := omega) [hh, h5, h0]))
        first | (refine hKK _ _ _ ?_; clear hKK KK; simp only [thenA, blockA, reduceIte]) | skip
        repeat' (first
          | refine AWP.seq ?_
          | refine AWP.block ?_
          | (refine AWP.skip ?_; simp only [thenA, blockA, reduceIte])
          | (refine AWP.exit ?_; simp only [thenA, blockA, eq_self, reduceIte, Nat.reduceEqDiff, Nat.succ_ne_zero])
          | (refine AWP.ret ?_; simp only [thenA, blockA, reduceIte])
          | (refine AWP.region (by rfl) (fun KK hKK => ?_); (repeat (simp (disch := omega) [hh, h5, h0, rowsD_len, rowsD_snoc, rowsD_take, elems, hz1, hz2])); first | (refine hKK _ _ _ ?_; clear hKK KK; simp only [thenA, blockA, reduceIte]) | skip)
          | (refine AWP.if_t ?_ ?_; focus (simp (disch := omega) [hh, h5, h0, rowsD_len, rowsD_snoc, rowsD_take, elems, hz1, hz2]; done))
          | (refine AWP.if_f ?_ ?_; focus (simp (disch := omega) [hh, h5, h0, rowsD_len, rowsD_snoc, rowsD_take, elems, hz1, hz2]; done)))
        refine ⟨_, _, _, _, ?_, ⟨(ds ++ [(nm, v2)]), q + 1 + 1 + 1 + 1 + 1, m - 1, rfl, by omega, by omega, (hgd.snoc hs7 (by omega) (by omega)).more (by omega), by omega, by omega, rfl, rfl, rfl⟩, Weak.m1 (c := K + 1 + 2 + 2 + 1 + 2 + 1 + 2 + 1 + 2 + 2 + 1) hB hrK (fun c kc hc h => by have := (hB c kc h).1; first | exact h | (simp (disch := omega) only [upd_ne, del_ne]; exact h)) (by simp (disch := omega) only [upd_eq, upd_ne, del_ne, hrb]) (low_rd hlo) (by simp (disch := omega) only [upd_eq, upd_ne, del_ne]) (flatD _).low (by omega) (by simp [LeT, ren, swl, nms, hrb1]; omega)⟩
        omega
      · repeat' (first
          | refine AWP.seq ?_
          | refine AWP.block ?_
          | (refine AWP.skip ?_; simp only [thenA, blockA, reduceIte])
          | (refine AWP.exit ?_; simp only [thenA, blockA, eq_self, reduceIte, Nat.reduceEqDiff, Nat.succ_ne_zero])
          | (refine AWP.ret ?_; simp only [thenA, blockA, reduceIte])
          | (refine AWP.region (by rfl) (fun KK hKK => ?_); (repeat (simp (disch := omega) [hh, h5, h0])); first | (refine hKK _ _ _ ?_; clear hKK KK; simp only [thenA, blockA, reduceIte]) | skip)
          | (refine AWP.if_t ?_ ?_; focus (simp (disch := omega) [hh, h5, h0]; done))
          | (refine AWP.if_f ?_ ?_; focus (simp (disch := omega) [hh, h5, h0]; done)))
        refine aStop_of (indexOf_c _ _ _ ds nm (Sl.whole (t := 34) (r := true) (by simp (disch := omega) only [upd_eq, upd_ne]) (by simp [rowsD_len])) (by omega)) ?_
        rintro r δ ⟨rfl, rfl⟩
        (repeat (simp (disch := omega) [hh, h5, h0]))
        first | (refine hKK _ _ _ ?_; clear hKK KK; simp only [thenA, blockA, reduceIte]) | skip
        repeat' (first
          | refine AWP.seq ?_
          | refine AWP.block ?_
          | (refine AWP.skip ?_; simp only [thenA, blockA, reduceIte])
          | (refine AWP.exit ?_; simp only [thenA, blockA, eq_self, reduceIte, Nat.reduceEqDiff, Nat.succ_ne_zero])
          | (refine AWP.ret ?_; simp only [thenA, blockA, reduceIte])
          | (refine AWP.region (by rfl) (fun KK hKK => ?_); (repeat (simp (disch := omega) [hh, h5, h0, rowsD_len, rowsD_snoc, rowsD_take, elems, hz1, hz2])); first | (refine hKK _ _ _ ?_; clear hKK KK; simp only [thenA, blockA, reduceIte]) | skip)
          | (refine AWP.if_t ?_ ?_; focus (simp (disch := omega) [hh, h5, h0, rowsD_len, rowsD_snoc, rowsD_take, elems, hz1, hz2]; done))
          | (refine AWP.if_f ?_ ?_; focus (simp (disch := omega) [hh, h5, h0, rowsD_len, rowsD_snoc, rowsD_take, elems, hz1, hz2]; done)))
        refine ⟨_, _, _, _, ?_, ⟨ds, q + 1 + 1 + 1 + 1 + 1, m - 1, rfl, by omega, by omega, hgd.more (by omega), by omega, by omega, rfl, rfl, rfl⟩, Weak.m1 (c := K) hB hrK (fun c kc hc h => by have := (hB c kc h).1; first | exact h | (simp (disch := omega) only [upd_ne, del_ne]; exact h)) (by simp (disch := omega) only [upd_eq, upd_ne, del_ne, hrb]) (low_rd hlo) (by simp (disch := omega) only [upd_eq, upd_ne, del_ne]) (flatD _).low (by omega) (by simp [LeT, ren, swl, nms, hrb1]; omega)⟩
        omega
    · by_cases h5 : nameIx ds nm < 0
      · by_cases h0 : 0 ≤ v
        · repeat' (first
            | refine AWP.seq ?_
            | refine AWP.block ?_
            | (refine AWP.skip ?_; simp only [thenA, blockA, reduceIte])
            | (refine AWP.exit ?_; simp only [thenA, blockA, eq_self, reduceIte, Nat.reduceEqDiff, Nat.succ_ne_zero])
            | (refine AWP.ret ?_; simp only [thenA, blockA, reduceIte])
            | (refine AWP.region (by rfl) (fun KK hKK => ?_); (repeat (simp (disch := omega) [hh, h5, h0])); first | (refine hKK _ _ _ ?_; clear hKK KK; simp only [thenA, blockA, reduceIte]) | skip)
            | (refine AWP.if_t ?_ ?_; focus (simp (disch := omega) [hh, h5, h0]; done))
            | (refine AWP.if_f ?_ ?_; focus (simp (disch := omega) [hh, h5, h0]; done)))
          refine aStop_of (indexOf_c _ _ _ ds nm (Sl.whole (t := 34) (r := true) (by simp (disch := omega) only [upd_eq, upd_ne]) (by simp [rowsD_len])) (by omega)) ?_
          rintro r δ ⟨rfl, rfl⟩
          (repeat (simp (disch := omega) [hh, h5, h0]))
          first | (refine hKK _ _ _ ?_; clear hKK KK; simp only [thenA, blockA, reduceIte]) | skip
          repeat' (first
            | refine AWP.seq ?_
            | refine AWP.block ?_
            | (refine AWP.skip ?_; simp only [thenA, blockA, reduceIte])
            | (refine AWP.exit ?_; simp only [thenA, blockA, eq_self, reduceIte, Nat.reduceEqDiff, Nat.succ_ne_zero])
            | (refine AWP.ret ?_; simp only [thenA, blockA, reduceIte])
            | (refine AWP.region (by rfl) (fun KK hKK => ?_); (repeat (simp (disch := omega) [hh, h5, h0, rowsD_len, rowsD_snoc, rowsD_take, elems, hz1, hz2])); first | (refine hKK _ _ _ ?_; clear hKK KK; simp only [thenA, blockA, reduceIte]) | skip)
            | (refine AWP.if_t ?_ ?_; focus (simp (disch := omega) [hh, h5, h0, rowsD_len, rowsD_snoc, rowsD_take, elems, hz1, hz2]; done))
            | (refine AWP.if_f ?_ ?_; focus (simp (disch := omega) [hh, h5, h0, rowsD_len, rowsD_snoc, rowsD_take, elems, hz1, hz2]; done)))
          refine ⟨_, _, _, _, ?_, ⟨(ds ++ [(nm, v)]), q + 1 + 1 + 1, m - 1, rfl, by omega, by omega, (hgd.snoc hs7 (by omega) (by omega)).more (by omega), by omega, by omega, rfl, rfl, rfl⟩, Weak.m1 (c := K + 1 + 2 + 2 + 1 + 2 + 1 + 2 + 1) hB hrK (fun c kc hc h => by have := (hB c kc h).1; first | exact h | (simp (disch := omega) only [upd_ne, del_ne]; exact h)) (by simp (disch := omega) only [upd_eq, upd_ne, del_ne, hrb]) (low_rd hlo) (by simp (disch := omega) only [upd_eq, upd_ne, del_ne]) (flatD _).low (by omega) (by simp [LeT, ren, swl, nms, hrb1]; omega)⟩
          omega
        · repeat' (first
            | refine AWP.seq ?_
            | refine AWP.block ?_
            | (refine AWP.skip ?_; simp only [thenA, blockA, reduceIte])
            | (refine AWP.exit ?_; simp only [thenA, blockA, eq_self, reduceIte, Nat.reduceEqDiff, Nat.succ_ne_zero])
            | (refine AWP.ret ?_; simp only [thenA, blockA, reduceIte])
            | (refine AWP.region (by rfl) (fun KK hKK => ?_); (repeat (simp (disch := omega) [hh, h5, h0])); first | (refine hKK _ _ _ ?_; clear hKK KK; simp only [thenA, blockA, reduceIte]) | skip)
            | (refine AWP.if_t ?_ ?_; focus (simp (disch := omega) [hh, h5, h0]; done))
            | (refine AWP.if_f ?_ ?_; focus (simp (disch := omega) [hh, h5, h0]; done)))
          refine aStop_of (indexOf_c _ _ _ ds nm (Sl.whole (t := 34) (r := true) (by simp (disch := omega) only [upd_eq, upd_ne]) (by simp [rowsD_len])) (by omega)) ?_
          rintro r δ ⟨rfl, rfl⟩
          (repeat (simp (disch := omega) [hh, h5, h0]))
          first | (refine hKK _ _ _ ?_; clear hKK KK; simp only [thenA, blockA, reduceIte]) | skip
          repeat' (first
            | refine AWP.seq ?_
            | refine AWP.block ?_
            | (refine AWP.skip ?_; simp only [thenA, blockA, reduceIte])
            | (refine AWP.exit ?_; simp only [thenA, blockA, eq_self, reduceIte, Nat.reduceEqDiff, Nat.succ_ne_zero])
            | (refine AWP.ret ?_; simp only [thenA, blockA, reduceIte])
            | (refine AWP.region (by rfl) (fun KK hKK => ?_); (repeat (simp (disch := omega) [hh, h5, h0, rowsD_len, rowsD_snoc, rowsD_take, elems, hz1, hz2])); first | (refine hKK _ _ _ ?_; clear hKK KK; simp only [thenA, blockA, reduceIte]) | skip)
            | (refine AWP.if_t ?_ ?_; focus (simp (disch := omega) [hh, h5, h0, rowsD_len, rowsD_snoc, rowsD_take, elems, hz1, hz2]; done))
            | (refine AWP.if_f ?_ ?_; focus (simp (disch := omega) [hh, h5, h0, rowsD_len, rowsD_snoc, rowsD_take, elems, hz1, hz2]; done)))
          refine ⟨_, _, _, _, ?_, ⟨(ds ++ [(nm, v)]), q + 1 + 1 + 1, m - 1, rfl, by omega, by omega, (hgd.snoc hs7 (by omega) (by omega)).more (by omega), by omega, by omega, rfl, rfl, rfl⟩, Weak.m1 (c := K + 1 + 2 + 2 + 1 + 2 + 1 + 2 + 1) hB hrK (fun c kc hc h => by have := (hB c kc h).1; first | exact h | (simp (disch := omega) only [upd_ne, del_ne]; exact h)) (by simp (disch := omega) only [upd_eq, upd_ne, del_ne, hrb]) (low_rd hlo) (by simp (disch := omega) only [upd_eq, upd_ne, del_ne]) (flatD _).low (by omega) (by simp [LeT, ren, swl, nms, hrb1]; omega)⟩
          omega
      · repeat' (first
          | refine AWP.seq ?_
          | refine AWP.block ?_
          | (refine AWP.skip ?_; simp only [thenA, blockA, reduceIte])
          | (refine AWP.exit ?_; simp only [thenA, blockA, eq_self, reduceIte, Nat.reduceEqDiff, Nat.succ_ne_zero])
          | (refine AWP.ret ?_; simp only [thenA, blockA, reduceIte])
          | (refine AWP.region (by rfl) (fun KK hKK => ?_); (repeat (simp (disch := omega) [hh, h5])); first | (refine hKK _ _ _ ?_; clear hKK KK; simp only [thenA, blockA, reduceIte]) | skip)
          | (refine AWP.if_t ?_ ?_; focus (simp (disch := omega) [hh, h5]; done))
          | (refine AWP.if_f ?_ ?_; focus (simp (disch := omega) [hh, h5]; done)))
        refine aStop_of (indexOf_c _ _ _ ds nm (Sl.whole (t := 34) (r := true) (by simp (disch := omega) only [upd_eq, upd_ne]) (by simp [rowsD_len])) (by omega)) ?_
        rintro r δ ⟨rfl, rfl⟩
        (repeat (simp (disch := omega) [hh, h5]))
        first | (refine hKK _ _ _ ?_; clear hKK KK; simp only [thenA, blockA, reduceIte]) | skip
        repeat' (first
          | refine AWP.seq ?_
          | refine AWP.block ?_
          | (refine AWP.skip ?_; simp only [thenA, blockA, reduceIte])
          | (refine AWP.exit ?_; simp only [thenA, blockA, eq_self, reduceIte, Nat.reduceEqDiff, Nat.succ_ne_zero])
          | (refine AWP.ret ?_; simp only [thenA, blockA, reduceIte])
          | (refine AWP.region (by rfl) (fun KK hKK => ?_); (repeat (simp (disch := omega) [hh, h5, rowsD_len, rowsD_snoc, rowsD_take, elems, hz1, hz2])); first | (refine hKK _ _ _ ?_; clear hKK KK; simp only [thenA, blockA, reduceIte]) | skip)
          | (refine AWP.if_t ?_ ?_; focus (simp (disch := omega) [hh, h5, rowsD_len, rowsD_snoc, rowsD_take, elems, hz1, hz2]; done))
          | (refine AWP.if_f ?_ ?_; focus (simp (disch := omega) [hh, h5, rowsD_len, rowsD_snoc, rowsD_take, elems, hz1, hz2]; done)))
        refine ⟨_, _, _, _, ?_, ⟨ds, q + 1 + 1 + 1, m - 1, rfl, by omega, by omega, hgd.more (by omega), by omega, by omega, rfl, rfl, rfl⟩, Weak.m1 (c := K) hB hrK (fun c kc hc h => by have := (hB c kc h).1; first | exact h | (simp (disch := omega) only [upd_ne, del_ne]; exact h)) (by simp (disch := omega) only [upd_eq, upd_ne, del_ne, hrb]) (low_rd hlo) (by simp (disch := omega) only [upd_eq, upd_ne, del_ne]) (flatD _).low (by omega) (by simp [LeT, ren, swl, nms, hrb1]; omega)⟩
        omega
end Go.Proofs.Ytgaiemhbllbaiaa
