/- Contracts of the generators: enumerations with tables. No condition. -/
import Derived.Test.YtkddpkjgmmmcpaaG5
import Derived.Test.YtkddpkjgmmmcpaaCE2
import Derived.Test.YtkddpkjgmmmcpaaB3
import Derived.Test.YtkddpkjgmmmcpaaC5b
set_option linter.unusedSimpArgs false
set_option linter.unusedVariables false
namespace Go.Proofs.Ytkddpkjgmmmcpaa
open Go Go.RowKit

/-- Numbers that a generator makes. -/
structure Gi (l : List Int) (m : Nat) : Prop where
  len : l.length ≤ m
  ok : ∀ n ∈ l, -4096 ≤ n ∧ n ≤ 4096
theorem Gi.snoc {l : List Int} {m : Nat} (h : Gi l m) {n : Int} (h1 : -4096 ≤ n) (h2 : n ≤ 4096) : Gi (l ++ [n]) (m + 1) :=
  ⟨by simp [h.len], fun d hd => by
    rcases List.mem_append.1 hd with hd | hd
    · exact h.ok d hd
    · rw [List.mem_singleton.1 hd]; exact ⟨h1, h2⟩⟩
theorem Gi.drop {l : List Int} {m : Nat} (h : Gi l m) (o : Nat) : Gi (l.drop o) m := ⟨by simp; have := h.len; omega, fun d hd => h.ok d (List.mem_of_mem_drop hd)⟩
theorem sl_drop {σ : Sto} {b o : Nat} {l : List Int} {r : Bool} (hb : σ b = some ⟨3, 1, rowsI l, r⟩) (ho : o ≤ l.length) : Sl σ (.sl b o (l.drop o).length none 1) 1 (rowsI (l.drop o)) := by
  refine Sl.mk hb rfl (by rw [rowsI_len]) ?_
  have e : (rowsI l).drop o = rowsI (l.drop o) := by simp [rowsI, List.map_drop]
  rw [e, List.take_length]

/-- An enumeration and a table, at most N picks. -/
def GotEI (ν rb : Nat) (x : AV) (p : Int) (r : AV) (δ : Sto) : Prop := ∃ (ds : List Df) (l : List Int) (o : Nat) (q : Int), Gd ds 25 ∧ Gi l 26 ∧ o ≤ l.length ∧ p ≤ q ∧ q ≤ p + 300 ∧ r = .tup [.agg [.sl ν 0 ds.length none 2], .sl (ν + 1) o (l.drop o).length none 1] ∧ δ = upd (upd (upd noS rb (rdB x q)) ν (blkD ds)) (ν + 1) (blkI l)

set_option maxRecDepth 10000 in
set_option maxHeartbeats 4000000 in
theorem tableIn_c (σ : Sto) (ν rb : Nat) (x : AV) (bs : List Int) (p : Int) (hb : σ rb = some (rdB x p)) (hx : Sl σ x 1 (rowsB bs)) (h8 : Code8 bs) (hp : 0 ≤ p ∧ p ≤ 80000) :
    AC Try.prog 66 [.ptr rb 0 0] σ ν (GotEI ν rb x p) := by
  obtain ⟨bx, ox, capx, zx, rfl⟩ := hx.out
  simp only [rowsB_len] at hx hb ⊢
  refine AC.intro [rb] ent_66 Try.func66 rfl (by simp [Try.f66]) (by simp [hb]) ?_
  intro K s hs hB hn hν hA hFr
  simp only [argT, Nat.zero_add, Nat.reduceAdd]
  have hrb : s rb = some (rdB (.sl bx ox bs.length capx zx) p) := by rw [hs rb, hb]; simp
  obtain ⟨hrK, hlo⟩ := hB rb _ hrb
  have hx' := hx.vw hs.vw
  have hrν : rb ≠ ν := fun e => by rw [e] at hb; rw [hFr.1] at hb; cases hb
  have hrν1 : rb ≠ ν + 1 := fun e => by rw [e] at hb; rw [hFr.2] at hb; cases hb
  repeat' (first
    | refine AWP.seq ?_
    | refine AWP.block ?_
    | (refine AWP.skip ?_; simp only [thenA, blockA, reduceIte])
    | (refine AWP.exit ?_; simp only [thenA, blockA, eq_self, reduceIte, Nat.reduceEqDiff, Nat.succ_ne_zero])
    | (refine AWP.ret ?_; simp only [thenA, blockA, reduceIte])
    | (refine AWP.region (by rfl) (fun KK hKK => ?_); (repeat (simp (disch := omega) [])); first | (refine hKK _ _ _ ?_; clear hKK KK; simp only [thenA, blockA, reduceIte]) | skip)
    | (refine AWP.if_t ?_ ?_; focus (simp (disch := omega) []; done))
    | (refine AWP.if_f ?_ ?_; focus (simp (disch := omega) []; done)))
  refine aStop_of (someEnum_c _ _ rb _ bs p (by simp (disch := omega) only [upd_eq, upd_ne, del_ne, hrb]) (hx'.ovb hrb (fun c kc hc h => by have := (hB c kc h).1; first | exact h | (simp (disch := omega) only [upd_ne, del_ne]; exact h))) h8 (by omega)) ?_
  rintro r δ ⟨ds, q1, hgd, hq0, hq1, rfl, rfl⟩
  (repeat (simp (disch := omega) []))
  first | (refine hKK _ _ _ ?_; clear hKK KK; simp only [thenA, blockA, reduceIte]) | skip
  have hdl := hgd.len
  have hml := memF_len ds
  repeat' (first
    | refine AWP.seq ?_
    | refine AWP.block ?_
    | (refine AWP.skip ?_; simp only [thenA, blockA, reduceIte])
    | (refine AWP.exit ?_; simp only [thenA, blockA, eq_self, reduceIte, Nat.reduceEqDiff, Nat.succ_ne_zero])
    | (refine AWP.ret ?_; simp only [thenA, blockA, reduceIte])
    | (refine AWP.region (by rfl) (fun KK hKK => ?_); (repeat (simp (disch := omega) [])); first | (refine hKK _ _ _ ?_; clear hKK KK; simp only [thenA, blockA, reduceIte]) | skip)
    | (refine AWP.if_t ?_ ?_; focus (simp (disch := omega) []; done))
    | (refine AWP.if_f ?_ ?_; focus (simp (disch := omega) []; done)))
  refine aStop_of (membersS_c _ _ _ ds (Sl.whole (t := 61) (r := true) (by simp (disch := omega)) (by simp [rowsD_len])) (by omega)) ?_
  rintro r δ ⟨rfl, rfl⟩
  (repeat (simp (disch := omega) []))
  first | (refine hKK _ _ _ ?_; clear hKK KK; simp only [thenA, blockA, reduceIte]) | skip
  repeat' (first
    | refine AWP.seq ?_
    | refine AWP.block ?_
    | (refine AWP.skip ?_; simp only [thenA, blockA, reduceIte])
    | (refine AWP.exit ?_; simp only [thenA, blockA, eq_self, reduceIte, Nat.reduceEqDiff, Nat.succ_ne_zero])
    | (refine AWP.ret ?_; simp only [thenA, blockA, reduceIte])
    | (refine AWP.region (by rfl) (fun KK hKK => ?_); (repeat (simp (disch := omega) [])); first | (refine hKK _ _ _ ?_; clear hKK KK; simp only [thenA, blockA, reduceIte]) | skip)
    | (refine AWP.if_t ?_ ?_; focus (simp (disch := omega) []; done))
    | (refine AWP.if_f ?_ ?_; focus (simp (disch := omega) []; done)))
  refine AWP.weak (Weak.virt 5 3 1 0 0 0 (by simp) (by omega)) ?_
  refine AWP.loop (fun n τ σ' M => ∃ (l : List Int) (q m : Int) (cb : Nat), n = m.toNat ∧ 0 ≤ m ∧ m ≤ 25 ∧ Gi l 25 ∧ (l.length : Int) + m ≤ 25 ∧ q1 ≤ q ∧ q ≤ q1 + 2 * (25 - m) ∧ τ = [(0, .ptr rb 0 0), (2, .ptr K 0 0), (4, .ptr (K + 1 + 2) 0 0), (5, .sl cb 0 l.length none 1), (6, .v (.int .i64 m))] ∧
    σ' rb = some (rdB (.sl bx ox bs.length capx zx) q) ∧ σ' K = some (blkE nilA) ∧ σ' (K + 1) = some (blkD ds) ∧ σ' (K + 1 + 2) = some (blkE (.sl (K + 1) 0 ds.length none 2)) ∧ σ' cb = some (blkI l) ∧ K + 1 + 2 < cb ∧ cb < M ∧ ∀ c kc, c < K → c ≠ rb → s c = some kc → σ' c = some kc)
    ⟨_, _, _, _, ⟨[], q1, (memF ds).length, K + 1 + 2 + 1 + 2, rfl, by omega, by omega, ⟨by simp, by simp⟩, by simp; omega, by omega, by omega, rfl, by simp (disch := omega) only [upd_eq, upd_ne], by simp (disch := omega) only [upd_eq, upd_ne], by simp (disch := omega) only [upd_eq, upd_ne], by simp (disch := omega) only [upd_eq, upd_ne], by simp only [upd_eq]; rfl, by omega, by omega, fun c kc hc hc2 hk => by simp (disch := omega) only [upd_ne]; exact hk⟩, Weak.tau (by simp [LQ])⟩ ?_
  rintro n τ σ1 M ⟨l, q, m, cb, rfl, hm0, hm1, hgi, hlm, hqa, hqb, rfl, h1, h2, h3, h4, h5, hc1, hc2, hov⟩
  have hil := hgi.len
  have hz1 : (l.length + 1) * 8 ≤ 140737488355328 := by omega
  have hz2 : l.length + 1 ≤ 4611686018427387904 := by omega
  by_cases hlt : 0 < m
  · repeat' (first
      | refine AWP.seq ?_
      | refine AWP.block ?_
      | (refine AWP.skip ?_; simp only [thenA, blockA, reduceIte])
      | (refine AWP.exit ?_; simp only [thenA, blockA, eq_self, reduceIte, Nat.reduceEqDiff, Nat.succ_ne_zero])
      | (refine AWP.ret ?_; simp only [thenA, blockA, reduceIte])
      | (refine AWP.region (by rfl) (fun KK hKK => ?_); (repeat (simp (disch := omega) [hlt])); first | (refine hKK _ _ _ ?_; clear hKK KK; simp only [thenA, blockA, reduceIte]) | skip)
      | (refine AWP.if_t ?_ ?_; focus (simp (disch := omega) [hlt]; done))
      | (refine AWP.if_f ?_ ?_; focus (simp (disch := omega) [hlt]; done)))
    refine aStop_of (pick_c _ _ rb _ bs q 20 (by simp (disch := omega) only [upd_eq, upd_ne, del_ne, h1]) (hx'.ovb hrb (fun c kc hc h => by have := (hB c kc h).1; have h2 := hov c kc this hc h; first | exact h2 | (simp (disch := omega) only [upd_ne, del_ne]; exact h2))) h8 (by omega)) ?_
    rintro r δ ⟨rfl, rfl⟩
    (repeat (simp (disch := omega) []))
    first | (refine hKK _ _ _ ?_; clear hKK KK; simp only [thenA, blockA, reduceIte]) | skip
    refine aStop_of (one_c _ _ rb _ _ bs (q + 1) [1, 5, pk bs q 20, -3, 1000, 2] (by simp (disch := omega) only [upd_eq, upd_ne, del_ne, h1]) (hx'.ovb hrb (fun c kc hc h => by have := (hB c kc h).1; have h2 := hov c kc this hc h; first | exact h2 | (simp (disch := omega) only [upd_ne, del_ne]; exact h2))) h8 (by omega) (Sl.whole (t := 3) (r := true) (by simp only [upd_eq]; rfl) rfl) (by simp) (by simp)) ?_
    rintro r δ ⟨rfl, rfl⟩
    (repeat (simp (disch := omega) [elems, rowsI_len, rowsI_snoc, rowsI_take, hz1, hz2, h5]))
    first | (refine hKK _ _ _ ?_; clear hKK KK; simp only [thenA, blockA, reduceIte]) | skip
    have hpk := pk_bd h8 (p := q) (n := 20) (by omega) (by omega)
    have hpk2 := pk_bd h8 (p := q + 1) (n := 6) (by omega) (by omega)
    have hv := iAt_mem (l := [1, 5, pk bs q 20, -3, 1000, 2]) hpk2.1 hpk2.2
    simp only [List.mem_cons, List.not_mem_nil, or_false] at hv
    generalize iAt [1, 5, pk bs q 20, -3, 1000, 2] _ = v at *
    repeat' (first
      | refine AWP.seq ?_
      | refine AWP.block ?_
      | (refine AWP.skip ?_; simp only [thenA, blockA, reduceIte])
      | (refine AWP.exit ?_; simp only [thenA, blockA, eq_self, reduceIte, Nat.reduceEqDiff, Nat.succ_ne_zero])
      | (refine AWP.ret ?_; simp only [thenA, blockA, reduceIte])
      | (refine AWP.region (by rfl) (fun KK hKK => ?_); (repeat (simp (disch := omega) [])); first | (refine hKK _ _ _ ?_; clear hKK KK; simp only [thenA, blockA, reduceIte]) | skip)
      | (refine AWP.if_t ?_ ?_; focus (simp (disch := omega) []; done))
      | (refine AWP.if_f ?_ ?_; focus (simp (disch := omega) []; done)))
    refine ⟨_, _, _, _, ?_, ⟨l ++ [v], q + 1 + 1, m - 1, M + 2 + 1 + 2 + 1, rfl, by omega, by omega, ⟨by simp; omega, (hgi.snoc (by omega) (by omega)).ok⟩, by simp; omega, by omega, by omega, rfl, by simp (disch := omega) only [upd_eq, upd_ne, del_ne], by simp (disch := omega) only [upd_eq, upd_ne, del_ne, h2], by simp (disch := omega) only [upd_eq, upd_ne, del_ne, h3], by simp (disch := omega) only [upd_eq, upd_ne, del_ne, h4], by simp (disch := omega) only [upd_eq, upd_ne, del_ne], by omega, by omega, fun c kc hc hc2 hk => by have hh := hov c kc hc hc2 hk; first | exact hh | (simp (disch := omega) only [upd_ne, del_ne]; exact hh)⟩, Weak.tau (by simp [LQ])⟩
    omega
  · have hmz : m = 0 := by omega
    subst hmz
    have hcK : ¬ cb = K + 1 := by omega
    by_cases hl0 : ¬ 0 < l.length
    · repeat' (first
        | refine AWP.seq ?_
        | refine AWP.block ?_
        | (refine AWP.skip ?_; simp only [thenA, blockA, reduceIte])
        | (refine AWP.exit ?_; simp only [thenA, blockA, eq_self, reduceIte, Nat.reduceEqDiff, Nat.succ_ne_zero])
        | (refine AWP.ret ?_; simp only [thenA, blockA, reduceIte])
        | (refine AWP.region (by rfl) (fun KK hKK => ?_); (repeat (simp (disch := omega) [hl0, h2, h4])); first | (refine hKK _ _ _ ?_; clear hKK KK; simp only [thenA, blockA, reduceIte]) | skip)
        | (refine AWP.if_t ?_ ?_; focus (simp (disch := omega) [hl0, h2, h4]; done))
        | (refine AWP.if_f ?_ ?_; focus (simp (disch := omega) [hl0, h2, h4]; done)))
      refine ⟨by simp, ?_⟩
      have hres : Try.f66.results.toList = [.cell 2 31, .tmp 3] := rfl
      rw [hres]
      simp (disch := omega) []
      refine fin2M (K + 1) (cb) (rdB (.sl bx ox bs.length capx zx) (q)) (blkD ds) (blkI (l)) (by simp (disch := omega) only [upd_eq, upd_ne, del_ne, h1]) rfl (low_rd hlo) (by simp (disch := omega) only [upd_eq, upd_ne, del_ne, h3]) rfl (flatD _).low (by simp (disch := omega) only [upd_eq, upd_ne, del_ne, h5]) rfl (flatI _).low hrν hrν1 ⟨ds, l, 0, q, hgd, ⟨by omega, hgi.ok⟩, by simp, by omega, by omega, by simp (disch := omega) [ren, rens, rho, hcK], rfl⟩ (by omega) (by omega) (by omega) (by simp [nms, nmss])
    have hl0 : 0 < l.length := by omega
    by_cases c0 : ¬ pk bs q 12 = 0
    · repeat' (first
        | refine AWP.seq ?_
        | refine AWP.block ?_
        | (refine AWP.skip ?_; simp only [thenA, blockA, reduceIte])
        | (refine AWP.exit ?_; simp only [thenA, blockA, eq_self, reduceIte, Nat.reduceEqDiff, Nat.succ_ne_zero])
        | (refine AWP.ret ?_; simp only [thenA, blockA, reduceIte])
        | (refine AWP.region (by rfl) (fun KK hKK => ?_); (repeat (simp (disch := omega) [hl0])); first | (refine hKK _ _ _ ?_; clear hKK KK; simp only [thenA, blockA, reduceIte]) | skip)
        | (refine AWP.if_t ?_ ?_; focus (simp (disch := omega) [hl0]; done))
        | (refine AWP.if_f ?_ ?_; focus (simp (disch := omega) [hl0]; done)))
      refine aStop_of (pick_c _ _ rb _ bs q 12 (by simp (disch := omega) only [upd_eq, upd_ne, del_ne, h1]) (hx'.ovb hrb (fun c kc hc h => by have := (hB c kc h).1; have h2 := hov c kc this hc h; first | exact h2 | (simp (disch := omega) only [upd_ne, del_ne]; exact h2))) h8 (by omega)) ?_
      rintro r δ ⟨rfl, rfl⟩
      (repeat (simp (disch := omega) [hl0, c0]))
      first | (refine hKK _ _ _ ?_; clear hKK KK; simp only [thenA, blockA, reduceIte]) | skip
      repeat' (first
        | refine AWP.seq ?_
        | refine AWP.block ?_
        | (refine AWP.skip ?_; simp only [thenA, blockA, reduceIte])
        | (refine AWP.exit ?_; simp only [thenA, blockA, eq_self, reduceIte, Nat.reduceEqDiff, Nat.succ_ne_zero])
        | (refine AWP.ret ?_; simp only [thenA, blockA, reduceIte])
        | (refine AWP.region (by rfl) (fun KK hKK => ?_); (repeat (simp (disch := omega) [h2, h4])); first | (refine hKK _ _ _ ?_; clear hKK KK; simp only [thenA, blockA, reduceIte]) | skip)
        | (refine AWP.if_t ?_ ?_; focus (simp (disch := omega) [h2, h4]; done))
        | (refine AWP.if_f ?_ ?_; focus (simp (disch := omega) [h2, h4]; done)))
      refine ⟨by simp, ?_⟩
      have hres : Try.f66.results.toList = [.cell 2 31, .tmp 3] := rfl
      rw [hres]
      simp (disch := omega) []
      refine fin2M (K + 1) (cb) (rdB (.sl bx ox bs.length capx zx) (q + 1)) (blkD ds) (blkI (l)) (by simp (disch := omega) only [upd_eq, upd_ne, del_ne, h1]) rfl (low_rd hlo) (by simp (disch := omega) only [upd_eq, upd_ne, del_ne, h3]) rfl (flatD _).low (by simp (disch := omega) only [upd_eq, upd_ne, del_ne, h5]) rfl (flatI _).low hrν hrν1 ⟨ds, l, 0, q + 1, hgd, ⟨by omega, hgi.ok⟩, by simp, by omega, by omega, by simp (disch := omega) [ren, rens, rho, hcK], rfl⟩ (by omega) (by omega) (by omega) (by simp [nms, nmss])
    have c0 : pk bs q 12 = 0 := by omega
    repeat' (first
      | refine AWP.seq ?_
      | refine AWP.block ?_
      | (refine AWP.skip ?_; simp only [thenA, blockA, reduceIte])
      | (refine AWP.exit ?_; simp only [thenA, blockA, eq_self, reduceIte, Nat.reduceEqDiff, Nat.succ_ne_zero])
      | (refine AWP.ret ?_; simp only [thenA, blockA, reduceIte])
      | (refine AWP.region (by rfl) (fun KK hKK => ?_); (repeat (simp (disch := omega) [hl0])); first | (refine hKK _ _ _ ?_; clear hKK KK; simp only [thenA, blockA, reduceIte]) | skip)
      | (refine AWP.if_t ?_ ?_; focus (simp (disch := omega) [hl0]; done))
      | (refine AWP.if_f ?_ ?_; focus (simp (disch := omega) [hl0]; done)))
    refine aStop_of (pick_c _ _ rb _ bs q 12 (by simp (disch := omega) only [upd_eq, upd_ne, del_ne, h1]) (hx'.ovb hrb (fun c kc hc h => by have := (hB c kc h).1; have h2 := hov c kc this hc h; first | exact h2 | (simp (disch := omega) only [upd_ne, del_ne]; exact h2))) h8 (by omega)) ?_
    rintro r δ ⟨rfl, rfl⟩
    (repeat (simp (disch := omega) [hl0, c0]))
    first | (refine hKK _ _ _ ?_; clear hKK KK; simp only [thenA, blockA, reduceIte]) | skip
    repeat' (first
      | refine AWP.seq ?_
      | refine AWP.block ?_
      | (refine AWP.skip ?_; simp only [thenA, blockA, reduceIte])
      | (refine AWP.exit ?_; simp only [thenA, blockA, eq_self, reduceIte, Nat.reduceEqDiff, Nat.succ_ne_zero])
      | (refine AWP.ret ?_; simp only [thenA, blockA, reduceIte])
      | (refine AWP.region (by rfl) (fun KK hKK => ?_); (repeat (simp (disch := omega) [])); first | (refine hKK _ _ _ ?_; clear hKK KK; simp only [thenA, blockA, reduceIte]) | skip)
      | (refine AWP.if_t ?_ ?_; focus (simp (disch := omega) []; done))
      | (refine AWP.if_f ?_ ?_; focus (simp (disch := omega) []; done)))
    refine aStop_of (one_c _ _ rb _ _ bs (q + 1) [1, 1001] (by simp (disch := omega) only [upd_eq, upd_ne, del_ne, h1]) (hx'.ovb hrb (fun c kc hc h => by have := (hB c kc h).1; have h2 := hov c kc this hc h; first | exact h2 | (simp (disch := omega) only [upd_ne, del_ne]; exact h2))) h8 (by omega) (Sl.whole (t := 3) (r := true) (by simp only [upd_eq]; rfl) rfl) (by decide) (by decide)) ?_
    rintro r δ ⟨rfl, rfl⟩
    (repeat (simp (disch := omega) [elems, rowsI_len, rowsI_snoc, rowsI_take, hz1, hz2, h5]))
    first | (refine hKK _ _ _ ?_; clear hKK KK; simp only [thenA, blockA, reduceIte]) | skip
    have hpk2 := pk_bd h8 (p := q + 1) (n := 2) (by omega) (by omega)
    have hv := iAt_mem (l := [1, 1001]) hpk2.1 hpk2.2
    simp only [List.mem_cons, List.not_mem_nil, or_false] at hv
    generalize iAt [1, 1001] _ = v at *
    have hg2 : Gi (l ++ [v]) 26 := hgi.snoc (by omega) (by omega)
    have hcK : ¬ M + 2 + 1 + 2 = K := by omega
    repeat' (first
      | refine AWP.seq ?_
      | refine AWP.block ?_
      | (refine AWP.skip ?_; simp only [thenA, blockA, reduceIte])
      | (refine AWP.exit ?_; simp only [thenA, blockA, eq_self, reduceIte, Nat.reduceEqDiff, Nat.succ_ne_zero])
      | (refine AWP.ret ?_; simp only [thenA, blockA, reduceIte])
      | (refine AWP.region (by rfl) (fun KK hKK => ?_); (repeat (simp (disch := omega) [])); first | (refine hKK _ _ _ ?_; clear hKK KK; simp only [thenA, blockA, reduceIte]) | skip)
      | (refine AWP.if_t ?_ ?_; focus (simp (disch := omega) []; done))
      | (refine AWP.if_f ?_ ?_; focus (simp (disch := omega) []; done)))
    by_cases c1 : pk bs (q + 1 + 1) 2 = 0
    · refine aStop_of (pick_c _ _ rb _ bs (q + 1 + 1) 2 (by simp (disch := omega) only [upd_eq, upd_ne, del_ne, h1]) (hx'.ovb hrb (fun c kc hc h => by have := (hB c kc h).1; have h2 := hov c kc this hc h; first | exact h2 | (simp (disch := omega) only [upd_ne, del_ne]; exact h2))) h8 (by omega)) ?_
      rintro r δ ⟨rfl, rfl⟩
      (repeat (simp (disch := omega) [c1]))
      first | (refine hKK _ _ _ ?_; clear hKK KK; simp only [thenA, blockA, reduceIte]) | skip
      have hle : 1 ≤ l.length + 1 := by omega
      repeat' (first
        | refine AWP.seq ?_
        | refine AWP.block ?_
        | (refine AWP.skip ?_; simp only [thenA, blockA, reduceIte])
        | (refine AWP.exit ?_; simp only [thenA, blockA, eq_self, reduceIte, Nat.reduceEqDiff, Nat.succ_ne_zero])
        | (refine AWP.ret ?_; simp only [thenA, blockA, reduceIte])
        | (refine AWP.region (by rfl) (fun KK hKK => ?_); (repeat (simp (disch := omega) [hle, h2, h4])); first | (refine hKK _ _ _ ?_; clear hKK KK; simp only [thenA, blockA, reduceIte]) | skip)
        | (refine AWP.if_t ?_ ?_; focus (simp (disch := omega) [hle, h2, h4]; done))
        | (refine AWP.if_f ?_ ?_; focus (simp (disch := omega) [hle, h2, h4]; done)))
      refine ⟨by simp, ?_⟩
      have hres : Try.f66.results.toList = [.cell 2 31, .tmp 3] := rfl
      rw [hres]
      simp (disch := omega) []
      refine fin2M (K + 1) (M + 2 + 1 + 2 + 1) (rdB (.sl bx ox bs.length capx zx) (q + 1 + 1 + 1)) (blkD ds) (blkI (l ++ [v])) (by simp (disch := omega) only [upd_eq, upd_ne, del_ne, h1]) rfl (low_rd hlo) (by simp (disch := omega) only [upd_eq, upd_ne, del_ne, h3]) rfl (flatD _).low (by simp (disch := omega) only [upd_eq, upd_ne, del_ne, h5]) rfl (flatI _).low hrν hrν1 ⟨ds, l ++ [v], 1, q + 1 + 1 + 1, hgd, hg2, by simp, by omega, by omega, by simp (disch := omega) [ren, rens, rho, hcK], rfl⟩ (by omega) (by omega) (by omega) (by simp [nms, nmss])
    · refine aStop_of (pick_c _ _ rb _ bs (q + 1 + 1) 2 (by simp (disch := omega) only [upd_eq, upd_ne, del_ne, h1]) (hx'.ovb hrb (fun c kc hc h => by have := (hB c kc h).1; have h2 := hov c kc this hc h; first | exact h2 | (simp (disch := omega) only [upd_ne, del_ne]; exact h2))) h8 (by omega)) ?_
      rintro r δ ⟨rfl, rfl⟩
      (repeat (simp (disch := omega) [c1]))
      first | (refine hKK _ _ _ ?_; clear hKK KK; simp only [thenA, blockA, reduceIte]) | skip
      repeat' (first
        | refine AWP.seq ?_
        | refine AWP.block ?_
        | (refine AWP.skip ?_; simp only [thenA, blockA, reduceIte])
        | (refine AWP.exit ?_; simp only [thenA, blockA, eq_self, reduceIte, Nat.reduceEqDiff, Nat.succ_ne_zero])
        | (refine AWP.ret ?_; simp only [thenA, blockA, reduceIte])
        | (refine AWP.region (by rfl) (fun KK hKK => ?_); (repeat (simp (disch := omega) [h2, h4])); first | (refine hKK _ _ _ ?_; clear hKK KK; simp only [thenA, blockA, reduceIte]) | skip)
        | (refine AWP.if_t ?_ ?_; focus (simp (disch := omega) [h2, h4]; done))
        | (refine AWP.if_f ?_ ?_; focus (simp (disch := omega) [h2, h4]; done)))
      refine ⟨by simp, ?_⟩
      have hres : Try.f66.results.toList = [.cell 2 31, .tmp 3] := rfl
      rw [hres]
      simp (disch := omega) []
      refine fin2M (K + 1) (M + 2 + 1 + 2 + 1) (rdB (.sl bx ox bs.length capx zx) (q + 1 + 1 + 1)) (blkD ds) (blkI (l ++ [v])) (by simp (disch := omega) only [upd_eq, upd_ne, del_ne, h1]) rfl (low_rd hlo) (by simp (disch := omega) only [upd_eq, upd_ne, del_ne, h3]) rfl (flatD _).low (by simp (disch := omega) only [upd_eq, upd_ne, del_ne, h5]) rfl (flatI _).low hrν hrν1 ⟨ds, l ++ [v], 0, q + 1 + 1 + 1, hgd, hg2, by simp, by omega, by omega, by simp (disch := omega) [ren, rens, rho, hcK], rfl⟩ (by omega) (by omega) (by omega) (by simp [nms, nmss])

/-- A reader is made out of the code's own bytes. -/
theorem newReader2_c (σ : Sto) (ν : Nat) (b o : Nat) (cap : Option Nat) (z : Nat) (bs : List Int) (hx : Sl σ (.sl b o bs.length cap z) 1 (rowsB bs)) (h8 : ∀ y ∈ bs, 0 ≤ y ∧ y ≤ 255) (hl : bs.length ≤ 9223372036854775807) :
    AC Try.prog 65 [.sl b o bs.length cap z] σ ν fun r δ => ∃ b8 : List Int, Sl σ (.sl b o b8.length cap z) 1 (rowsB b8) ∧ Code8 b8 ∧ r = .ptr ν 0 0 ∧ δ = upd noS ν (rdB (.sl b o b8.length cap z) 0) := by
  refine AC.intro [] ent_65 Try.func65 rfl (by simp [Try.f65]) (by simp) ?_
  intro K s hs hB hn hν hA hFr
  simp only [argT, Nat.zero_add, Nat.reduceAdd]
  have hbK : b < K := hA b (by simp [nmAs, nmA])
  have e1 : b ≠ K := by omega
  have e2 : b ≠ K + 1 := by omega
  by_cases h : (2000 : Int) < bs.length
  · obtain ⟨_, rfl, _⟩ := hx.at (i := 0) (by rw [rowsB_len]; omega)
    have hle : 2000 ≤ bs.length := by omega
    repeat' (first
      | refine AWP.seq ?_
      | refine AWP.block ?_
      | (refine AWP.skip ?_; simp only [thenA, blockA, reduceIte])
      | (refine AWP.exit ?_; simp only [thenA, blockA, eq_self, reduceIte, Nat.reduceEqDiff, Nat.succ_ne_zero])
      | (refine AWP.ret ?_; simp only [thenA, blockA, reduceIte])
      | (refine AWP.region (by rfl) (fun KK hKK => ?_); (repeat (simp (disch := omega) [h, hle])); first | (refine hKK _ _ _ ?_; clear hKK KK; simp only [thenA, blockA, reduceIte]) | skip)
      | (refine AWP.if_t ?_ ?_; focus (simp (disch := omega) [h, hle]; done))
      | (refine AWP.if_f ?_ ?_; focus (simp (disch := omega) [h, hle]; done)))
    have ht := hx.take (i := 2000) (by rw [rowsB_len]; exact hle) cap id
    have e : (rowsB bs).take 2000 = rowsB (bs.take 2000) := by simp [rowsB, List.map_take]
    have el : (bs.take 2000).length = 2000 := by rw [List.length_take]; omega
    rw [e] at ht
    refine ⟨by simp, _, rfl, fin1L K (rdB (.sl b o 2000 cap 1) 0) (by simp) rfl ?_ ⟨bs.take 2000, by rw [el]; exact ht, ⟨fun y hy => h8 y (List.mem_of_mem_take hy), by simp; omega⟩, ?_, by rw [el]⟩ (by omega) (by simp [resO, get, nms, nmss])⟩
    · intro e he v hv n hn'
      simp only [List.mem_singleton] at he
      subst he
      simp only [List.mem_cons, List.not_mem_nil, or_false] at hv
      rcases hv with rfl | rfl
      · exact hn n (by simp [nmss, nms] at hn' ⊢; exact hn')
      · simp [nms] at hn'
    · simp [resO, get, ren, rho]
  · repeat' (first
      | refine AWP.seq ?_
      | refine AWP.block ?_
      | (refine AWP.skip ?_; simp only [thenA, blockA, reduceIte])
      | (refine AWP.exit ?_; simp only [thenA, blockA, eq_self, reduceIte, Nat.reduceEqDiff, Nat.succ_ne_zero])
      | (refine AWP.ret ?_; simp only [thenA, blockA, reduceIte])
      | (refine AWP.region (by rfl) (fun KK hKK => ?_); (repeat (simp (disch := omega) [h])); first | (refine hKK _ _ _ ?_; clear hKK KK; simp only [thenA, blockA, reduceIte]) | skip)
      | (refine AWP.if_t ?_ ?_; focus (simp (disch := omega) [h]; done))
      | (refine AWP.if_f ?_ ?_; focus (simp (disch := omega) [h]; done)))
    refine ⟨by simp, _, rfl, fin1L K (rdB (.sl b o bs.length cap z) 0) (by simp) rfl ?_ ⟨bs, hx, ⟨h8, by omega⟩, ?_, rfl⟩ (by omega) (by simp [resO, get, nms, nmss])⟩
    · intro e he v hv n hn'
      simp only [List.mem_singleton] at he
      subst he
      simp only [List.mem_cons, List.not_mem_nil, or_false] at hv
      rcases hv with rfl | rfl
      · exact hn n (by simp [nmss, hn'])
      · simp [nms] at hn'
    · simp [resO, get, ren, rho]
end Go.Proofs.Ytkddpkjgmmmcpaa
