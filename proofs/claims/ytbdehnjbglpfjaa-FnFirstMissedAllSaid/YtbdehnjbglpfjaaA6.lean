/- Contracts of the generators: arms of classes of flags. No condition. -/
import Derived.Test.YtbdehnjbglpfjaaF4
import Derived.Test.YtbdehnjbglpfjaaA2
import Derived.Test.YtbdehnjbglpfjaaT4
set_option linter.unusedSimpArgs false
set_option linter.unusedVariables false
namespace Go.Proofs.Ytbdehnjbglpfjaa
open Go Go.RowKit

/-- The definitions of one bit below bit j. -/
def dAt (ds : List Df) (i : Int) : Df := ds.getD i.toNat (ByteArray.empty, 0)
def sgF (ds : List Df) : Nat → List Df
  | 0 => []
  | j + 1 => if valueIx ds ((2 ^ j : Nat) : Int) < 0 then sgF ds j else sgF ds j ++ [dAt ds (valueIx ds ((2 ^ j : Nat) : Int))]
def sgL (ds : List Df) : List Df := sgF ds 12
theorem dAt_ix {ds : List Df} {n : Int} (h : ¬ valueIx ds n < 0) : ∃ i : Nat, ∃ hi : i < ds.length, valueIx ds n = i ∧ dAt ds (valueIx ds n) = ds[i] ∧ ds[i].2 = n := by
  rcases valueIx_cases ds n with ⟨h1, _⟩ | ⟨i, hi, h1, h2, _⟩
  · omega
  · refine ⟨i, hi, h1, ?_, h2⟩
    rw [h1]
    unfold dAt
    rw [Int.toNat_natCast, List.getD_eq_getElem?_getD, List.getElem?_eq_getElem hi]
    rfl
theorem sgF_ok (ds : List Df) : ∀ j, j ≤ 12 → (sgF ds j).length ≤ j ∧ ∀ d ∈ sgF ds j, 1 ≤ d.2 ∧ d.2 ≤ 2048
  | 0, _ => ⟨by simp [sgF], by simp [sgF]⟩
  | j + 1, hj => by
    obtain ⟨h1, h2⟩ := sgF_ok ds j (by omega)
    have hp := pw_nat (j := j) (by omega)
    have hp2 : 2 ^ j ≤ 2048 := by have := Nat.pow_le_pow_right (n := 2) (by omega) (show j ≤ 11 by omega); omega
    unfold sgF
    split
    · exact ⟨by omega, h2⟩
    · rename_i h
      obtain ⟨i, hi, _, e, e2⟩ := dAt_ix h
      rw [e]
      refine ⟨by simp; omega, fun d hd => ?_⟩
      rcases List.mem_append.1 hd with hd | hd
      · exact h2 d hd
      · have : d = ds[i] := by simpa using hd
        rw [this, e2]
        omega
theorem sgL_ok (ds : List Df) : (sgL ds).length ≤ 12 ∧ ∀ d ∈ sgL ds, 1 ≤ d.2 ∧ d.2 ≤ 2048 := sgF_ok ds 12 (by omega)
set_option maxRecDepth 10000 in
set_option maxHeartbeats 2000000 in
theorem singles_c (σ : Sto) (ν : Nat) (x : AV) (ds : List Df) (hx : Sl σ x 2 (rowsD ds)) (hlen : ds.length ≤ 4294967296) :
    AC Try.prog 152 [x] σ ν fun r δ => r = .sl ν 0 (sgL ds).length none 2 ∧ δ = upd noS ν (blkD (sgL ds)) := by
  obtain ⟨b, o, cap, z, rfl⟩ := hx.out
  simp only [rowsD_len] at hx ⊢
  refine AC.intro [] ent_152 Try.func152 rfl (by simp [Try.f152]) (by simp) ?_
  intro K s hs hB hn hν hA hFr
  simp only [argT, Nat.zero_add, Nat.reduceAdd]
  have hx' := hx.vw hs.vw
  have hbK : b < K := hA b (by simp [nmAs, nmA])
  repeat' (first
    | refine AWP.seq ?_
    | refine AWP.block ?_
    | (refine AWP.skip ?_; simp only [thenA, blockA, reduceIte])
    | (refine AWP.exit ?_; simp only [thenA, blockA, eq_self, reduceIte, Nat.reduceEqDiff, Nat.succ_ne_zero])
    | (refine AWP.ret ?_; simp only [thenA, blockA, reduceIte])
    | (refine AWP.region (by rfl) (fun KK hKK => ?_); (repeat (simp (disch := omega) [])); first | (refine hKK _ _ _ ?_; clear hKK KK; simp only [thenA, blockA, reduceIte]) | skip)
    | (refine AWP.if_t ?_ ?_; focus (simp (disch := omega) []; done))
    | (refine AWP.if_f ?_ ?_; focus (simp (disch := omega) []; done)))
  refine AWP.weak (Weak.virt 3 133 2 0 0 0 (by simp) (by omega)) ?_
  refine AWP.loop (fun n τ σ' M => ∃ (j cb q : Nat), j ≤ 12 ∧ n = 12 - j ∧ q = 2 ^ j ∧ τ = [(0, .sl b o ds.length cap z), (3, .sl cb 0 (sgF ds j).length none 2), (4, .v (.int .i64 q))] ∧ σ' cb = some (blkD (sgF ds j)) ∧ K ≤ cb ∧ cb < M ∧ Over s σ')
    ⟨_, _, _, _, ⟨0, K, 1, by omega, rfl, rfl, rfl, (by simp only [upd_eq]; rfl), by omega, by omega, (by repeat (first | exact Over.refl _ | exact hov | refine Over.upd ?_ hB (by omega) | refine Over.del ?_ hB (by omega)))⟩, Weak.tau (by simp [LQ, sgF])⟩ ?_
  rintro n τ σ' M ⟨j, cb, q, hj, rfl, hq, rfl, hc0, hc1, hc2, hov⟩
  have hp := pw_nat (j := j) (by omega)
  rw [← hq] at hp
  by_cases hlt : j < 12
  · have hq4 : q ≤ 4095 := by
      have := Nat.pow_le_pow_right (n := 2) (by omega) (show j ≤ 11 by omega)
      omega
    have hq2 : q * 2 = 2 ^ (j + 1) := by rw [hq, Nat.pow_succ]
    have hqi : (q : Int) ≤ 4095 := by omega
    have hgl := (sgF_ok ds j (by omega)).1
    have hz1 : ((sgF ds j).length + 1) * 24 ≤ 140737488355328 := by omega
    have hz2 : (sgF ds j).length + 1 ≤ 4611686018427387904 := by omega
    have hstep : sgF ds (j + 1) = if valueIx ds (q : Int) < 0 then sgF ds j else sgF ds j ++ [dAt ds (valueIx ds (q : Int))] := by rw [hq]; rfl
    by_cases hv : valueIx ds (q : Int) < 0
    · rw [if_pos hv] at hstep
      have hvi : ¬ 0 ≤ valueIx ds (q : Int) := by omega
      repeat' (first
        | refine AWP.seq ?_
        | refine AWP.block ?_
        | (refine AWP.skip ?_; simp only [thenA, blockA, reduceIte])
        | (refine AWP.exit ?_; simp only [thenA, blockA, eq_self, reduceIte, Nat.reduceEqDiff, Nat.succ_ne_zero])
        | (refine AWP.ret ?_; simp only [thenA, blockA, reduceIte])
        | (refine AWP.region (by rfl) (fun KK hKK => ?_); (repeat (simp (disch := omega) [hqi, hq4])); first | (refine hKK _ _ _ ?_; clear hKK KK; simp only [thenA, blockA, reduceIte]) | skip)
        | (refine AWP.if_t ?_ ?_; focus (simp (disch := omega) [hqi, hq4]; done))
        | (refine AWP.if_f ?_ ?_; focus (simp (disch := omega) [hqi, hq4]; done)))
      refine aStop_of (valueAt_c _ _ _ ds q (hx'.vw ((Vw.refl _).over (by repeat (first | exact Over.refl _ | exact hov | refine Over.upd ?_ hB (by omega) | refine Over.del ?_ hB (by omega))))) (by omega)) ?_
      rintro r δ ⟨rfl, rfl⟩
      (repeat (simp (disch := omega) [hv, hvi]))
      first | (refine hKK _ _ _ ?_; clear hKK KK; simp only [thenA, blockA, reduceIte]) | skip
      repeat' (first
        | refine AWP.seq ?_
        | refine AWP.block ?_
        | (refine AWP.skip ?_; simp only [thenA, blockA, reduceIte])
        | (refine AWP.exit ?_; simp only [thenA, blockA, eq_self, reduceIte, Nat.reduceEqDiff, Nat.succ_ne_zero])
        | (refine AWP.ret ?_; simp only [thenA, blockA, reduceIte])
        | (refine AWP.region (by rfl) (fun KK hKK => ?_); (repeat (simp (disch := omega) [hv, hvi, hqi, hq4])); first | (refine hKK _ _ _ ?_; clear hKK KK; simp only [thenA, blockA, reduceIte]) | skip)
        | (refine AWP.if_t ?_ ?_; focus (simp (disch := omega) [hv, hvi, hqi, hq4]; done))
        | (refine AWP.if_f ?_ ?_; focus (simp (disch := omega) [hv, hvi, hqi, hq4]; done)))
      refine ⟨_, _, _, _, ?_, ⟨j + 1, cb, q * 2, by omega, rfl, hq2, rfl, by rw [hstep]; simp (disch := omega) only [upd_eq, upd_ne, del_ne, hc0], by omega, by omega, (by repeat (first | exact Over.refl _ | exact hov | refine Over.upd ?_ hB (by omega) | refine Over.del ?_ hB (by omega)))⟩, Weak.tau (by rw [hstep]; simp [LQ])⟩
      omega
    · rw [if_neg hv] at hstep
      obtain ⟨i, hi, e1, e2, e3⟩ := dAt_ix hv
      rw [e2] at hstep
      obtain ⟨_, rfl, kb, hkb, hat⟩ := hx'.at (i := i) (by rw [rowsD_len]; exact hi)
      have hrow : (rowsD ds)[i]'(by rw [rowsD_len]; exact hi) = [.v (.string ds[i].1), .v (.int .i64 ds[i].2)] := by simp [rowsD, rowD]
      rw [hrow] at hat
      have hkb' := hov _ _ hkb
      repeat' (first
        | refine AWP.seq ?_
        | refine AWP.block ?_
        | (refine AWP.skip ?_; simp only [thenA, blockA, reduceIte])
        | (refine AWP.exit ?_; simp only [thenA, blockA, eq_self, reduceIte, Nat.reduceEqDiff, Nat.succ_ne_zero])
        | (refine AWP.ret ?_; simp only [thenA, blockA, reduceIte])
        | (refine AWP.region (by rfl) (fun KK hKK => ?_); (repeat (simp (disch := omega) [hqi, hq4])); first | (refine hKK _ _ _ ?_; clear hKK KK; simp only [thenA, blockA, reduceIte]) | skip)
        | (refine AWP.if_t ?_ ?_; focus (simp (disch := omega) [hqi, hq4]; done))
        | (refine AWP.if_f ?_ ?_; focus (simp (disch := omega) [hqi, hq4]; done)))
      refine aStop_of (valueAt_c _ _ _ ds q (hx'.vw ((Vw.refl _).over (by repeat (first | exact Over.refl _ | exact hov | refine Over.upd ?_ hB (by omega) | refine Over.del ?_ hB (by omega))))) (by omega)) ?_
      rintro r δ ⟨rfl, rfl⟩
      (repeat (simp (disch := omega) [e1, hi]))
      first | (refine hKK _ _ _ ?_; clear hKK KK; simp only [thenA, blockA, reduceIte]) | skip
      repeat' (first
        | refine AWP.seq ?_
        | refine AWP.block ?_
        | (refine AWP.skip ?_; simp only [thenA, blockA, reduceIte])
        | (refine AWP.exit ?_; simp only [thenA, blockA, eq_self, reduceIte, Nat.reduceEqDiff, Nat.succ_ne_zero])
        | (refine AWP.ret ?_; simp only [thenA, blockA, reduceIte])
        | (refine AWP.region (by rfl) (fun KK hKK => ?_); (repeat (simp (disch := omega) [hqi, hq4, e1, hi, hkb', hat, elems, rowsD_len, rowsD_snoc, rowsD_take, hz1, hz2, hc0])); first | (refine hKK _ _ _ ?_; clear hKK KK; simp only [thenA, blockA, reduceIte]) | skip)
        | (refine AWP.if_t ?_ ?_; focus (simp (disch := omega) [hqi, hq4, e1, hi, hkb', hat, elems, rowsD_len, rowsD_snoc, rowsD_take, hz1, hz2, hc0]; done))
        | (refine AWP.if_f ?_ ?_; focus (simp (disch := omega) [hqi, hq4, e1, hi, hkb', hat, elems, rowsD_len, rowsD_snoc, rowsD_take, hz1, hz2, hc0]; done)))
      refine ⟨_, _, _, _, ?_, ⟨j + 1, M + 2 + 1, q * 2, by omega, rfl, hq2, rfl, by rw [hstep]; simp (disch := omega) only [upd_eq, upd_ne, del_ne], by omega, by omega, (by repeat (first | exact Over.refl _ | exact hov | refine Over.upd ?_ hB (by omega) | refine Over.del ?_ hB (by omega)))⟩, Weak.tau (by rw [hstep]; simp [LQ])⟩
      omega
  · have hje : j = 12 := by omega
    subst hje
    have hq4 : ¬ q ≤ 4095 := by omega
    have hqi : ¬ (q : Int) ≤ 4095 := by omega
    repeat' (first
      | refine AWP.seq ?_
      | refine AWP.block ?_
      | (refine AWP.skip ?_; simp only [thenA, blockA, reduceIte])
      | (refine AWP.exit ?_; simp only [thenA, blockA, eq_self, reduceIte, Nat.reduceEqDiff, Nat.succ_ne_zero])
      | (refine AWP.ret ?_; simp only [thenA, blockA, reduceIte])
      | (refine AWP.region (by rfl) (fun KK hKK => ?_); (repeat (simp (disch := omega) [hqi, hq4])); first | (refine hKK _ _ _ ?_; clear hKK KK; simp only [thenA, blockA, reduceIte]) | skip)
      | (refine AWP.if_t ?_ ?_; focus (simp (disch := omega) [hqi, hq4]; done))
      | (refine AWP.if_f ?_ ?_; focus (simp (disch := omega) [hqi, hq4]; done)))
    refine ⟨by simp, _, rfl, fin1 cb (blkD (sgL ds)) (by simp (disch := omega) only [upd_eq, upd_ne, del_ne, hc0]; try rfl) rfl (flatD _) ⟨by simp [resO, get, ren, rho, sgL], rfl⟩ (by omega) (by simp [resO, get, nms])⟩

/-- The arm that anArm draws. -/
def anF (bs : List Int) (p : Int) (sg : List Df) : Nat → Int × Int
  | 0 => (0, 0)
  | k + 1 => if pk bs (p + k) 4 = 0 then ((anF bs p sg k).1 + (dAt sg k).2, (anF bs p sg k).2) else if pk bs (p + k) 4 = 1 then ((anF bs p sg k).1, (anF bs p sg k).2 + (dAt sg k).2) else anF bs p sg k
theorem dAt_nat {ds : List Df} {k : Nat} (h : k < ds.length) : dAt ds k = ds[k] := by
  unfold dAt
  rw [Int.toNat_natCast, List.getD_eq_getElem?_getD, List.getElem?_eq_getElem h]
  rfl
theorem anF_bd {bs : List Int} {p : Int} {sg : List Df} (h : ∀ d ∈ sg, 1 ≤ d.2 ∧ d.2 ≤ 2048) : ∀ k, k ≤ sg.length → 0 ≤ (anF bs p sg k).1 ∧ (anF bs p sg k).1 ≤ 2048 * k ∧ 0 ≤ (anF bs p sg k).2 ∧ (anF bs p sg k).2 ≤ 2048 * k
  | 0, _ => by simp [anF]
  | k + 1, hk => by
    have ih := anF_bd (bs := bs) (p := p) h k (by omega)
    have hd := h _ (List.getElem_mem (show k < sg.length by omega))
    rw [← dAt_nat] at hd
    unfold anF
    split
    · simp only; omega
    · split
      · simp only; omega
      · omega
def anA (bs : List Int) (p : Int) (ds : List Df) : Int × Int := anF bs p (sgL ds) (sgL ds).length
theorem anA_bd (bs : List Int) (p : Int) (ds : List Df) : 0 ≤ (anA bs p ds).1 ∧ (anA bs p ds).1 ≤ 24576 ∧ 0 ≤ (anA bs p ds).2 ∧ (anA bs p ds).2 ≤ 24576 := by
  have h := sgL_ok ds
  have := anF_bd (bs := bs) (p := p) h.2 _ (Nat.le_refl _)
  unfold anA
  omega
abbrev blkAr (p q : Int) : Blk := ⟨27, 2, [[.v (.int .i64 p), .v (.int .i64 q)]], true⟩
set_option maxRecDepth 10000 in
set_option maxHeartbeats 4000000 in
theorem anArm_c (σ : Sto) (ν rb : Nat) (x : AV) (b2 o2 z2 : Nat) (cap2 : Option Nat) (bs : List Int) (p : Int) (ds : List Df) (bd : Int) (hb : σ rb = some (rdB x p)) (hx : Sl σ x 1 (rowsB bs)) (h8 : Code8 bs) (hp : 0 ≤ p ∧ p ≤ 90000) (hy : Sl σ (.sl b2 o2 ds.length cap2 z2) 2 (rowsD ds)) (hbr : b2 ≠ rb) (hlen : ds.length ≤ 4294967296) :
    AC Try.prog 135 [.ptr rb 0 0, .agg [.sl b2 o2 ds.length cap2 z2, .v (.int .i64 bd)]] σ ν fun r δ => r = .agg [.v (.int .i64 (anA bs p ds).1), .v (.int .i64 (anA bs p ds).2)] ∧ δ = upd noS rb (rdB x (p + (sgL ds).length)) := by
  obtain ⟨bx, ox, capx, zx, rfl⟩ := hx.out
  simp only [rowsB_len] at hx hb ⊢
  refine AC.intro [rb] ent_135 Try.func135 rfl (by simp [Try.f135]) (by simp [hb]) ?_
  intro K s hs hB hn hν hA hFr
  simp only [argT, Nat.zero_add, Nat.reduceAdd]
  have hrb : s rb = some (rdB (.sl bx ox bs.length capx zx) p) := by rw [hs rb, hb]; simp
  obtain ⟨hrK, hlo⟩ := hB rb _ hrb
  have hx' := hx.vw hs.vw
  have hrν : rb ≠ ν := fun e => by rw [e] at hb; rw [hFr.1] at hb; cases hb
  have hy' := hy.vw hs.vw
  obtain ⟨hgl, hgv⟩ := sgL_ok ds
  have e00 : (anF bs p (sgL ds) 0) = (0, 0) := rfl
  repeat' (first
    | refine AWP.seq ?_
    | refine AWP.block ?_
    | (refine AWP.skip ?_; simp only [thenA, blockA, reduceIte])
    | (refine AWP.exit ?_; simp only [thenA, blockA, eq_self, reduceIte, Nat.reduceEqDiff, Nat.succ_ne_zero])
    | (refine AWP.ret ?_; simp only [thenA, blockA, reduceIte])
    | (refine AWP.region (by rfl) (fun KK hKK => ?_); (repeat (simp (disch := omega) [])); first | (refine hKK _ _ _ ?_; clear hKK KK; simp only [thenA, blockA, reduceIte]) | skip)
    | (refine AWP.draw' mixd (by rfl) (by kernel_rfl) (fun KK tab hKK htab => ?_); (repeat (simp (disch := omega) [])); first | (refine dEnd_ro ?_ (hKK _ _ _ ?_); (focus (simp; done)); clear htab tab hKK KK; simp only [thenA, blockA, reduceIte]) | (refine dEnd_of ?_ (hKK _ _ _ ?_); (focus (simp only [List.reverse_cons, List.reverse_nil, List.nil_append, List.cons_append, memA, mem1, and_true, true_and]; (repeat' apply And.intro); (all_goals (first | trivial | (refine .inr ⟨?_, ?_⟩ <;> (simp; done)) | (refine .inr ⟨?_, ?_⟩ <;> (simp <;> omega)) | (refine .inl ?_; rw [htab]; kernel_rfl))); done)); clear htab tab hKK KK; simp only [thenA, blockA, reduceIte]) | skip)
    | (refine AWP.if_t ?_ ?_; focus (simp (disch := omega) []; done))
    | (refine AWP.if_f ?_ ?_; focus (simp (disch := omega) []; done)))
  refine aStop_of (singles_c _ _ _ ds (hy'.ovo hbr (fun c kc hc h => by have := (hB c kc h).1; first | exact h | (simp (disch := omega) only [upd_ne, del_ne]; exact h))) hlen) ?_
  rintro r δ ⟨rfl, rfl⟩
  (repeat (simp (disch := omega) []))
  first | (refine hKK _ _ _ ?_; clear hKK KK; simp only [thenA, blockA, reduceIte]) | skip
  generalize hSg : sgL ds = sg at *
  repeat' (first
    | refine AWP.seq ?_
    | refine AWP.block ?_
    | (refine AWP.skip ?_; simp only [thenA, blockA, reduceIte])
    | (refine AWP.exit ?_; simp only [thenA, blockA, eq_self, reduceIte, Nat.reduceEqDiff, Nat.succ_ne_zero])
    | (refine AWP.ret ?_; simp only [thenA, blockA, reduceIte])
    | (refine AWP.region (by rfl) (fun KK hKK => ?_); (repeat (simp (disch := omega) [])); first | (refine hKK _ _ _ ?_; clear hKK KK; simp only [thenA, blockA, reduceIte]) | skip)
    | (refine AWP.draw' mixd (by rfl) (by kernel_rfl) (fun KK tab hKK htab => ?_); (repeat (simp (disch := omega) [])); first | (refine dEnd_ro ?_ (hKK _ _ _ ?_); (focus (simp; done)); clear htab tab hKK KK; simp only [thenA, blockA, reduceIte]) | (refine dEnd_of ?_ (hKK _ _ _ ?_); (focus (simp only [List.reverse_cons, List.reverse_nil, List.nil_append, List.cons_append, memA, mem1, and_true, true_and]; (repeat' apply And.intro); (all_goals (first | trivial | (refine .inr ⟨?_, ?_⟩ <;> (simp; done)) | (refine .inr ⟨?_, ?_⟩ <;> (simp <;> omega)) | (refine .inl ?_; rw [htab]; kernel_rfl))); done)); clear htab tab hKK KK; simp only [thenA, blockA, reduceIte]) | skip)
    | (refine AWP.if_t ?_ ?_; focus (simp (disch := omega) []; done))
    | (refine AWP.if_f ?_ ?_; focus (simp (disch := omega) []; done)))
  refine AWP.loop (fun n τ σ' M => ∃ (k : Nat), k ≤ sg.length ∧ n = sg.length - k ∧ τ = [(0, .ptr rb 0 0), (4, .ptr (K + 1) 0 0), (5, .ptr (K + 1 + 1) 0 0), (6, .sl (K + 1 + 1 + 1) 0 sg.length none 2), (7, .v (.int .i64 k))] ∧
    σ' rb = some (rdB (.sl bx ox bs.length capx zx) (p + k)) ∧ σ' (K + 1) = some (blkAr 0 0) ∧ σ' (K + 1 + 1) = some (blkAr (anF bs p sg k).1 (anF bs p sg k).2) ∧ σ' (K + 1 + 1 + 1) = some (blkD sg) ∧ K + 1 + 1 + 1 < M ∧ ∀ c kc, c < K → c ≠ rb → s c = some kc → σ' c = some kc)
    ⟨_, _, _, _, ⟨0, by omega, rfl, rfl, by simp (disch := omega) only [upd_eq, upd_ne, hrb]; simp, by simp (disch := omega) only [upd_eq, upd_ne], by simp (disch := omega) only [upd_eq, upd_ne, e00], by simp (disch := omega) only [upd_eq, upd_ne], by omega, fun c kc hc hc2 hk => by simp (disch := omega) only [upd_ne]; exact hk⟩, Weak.tau (by simp [LQ])⟩ ?_
  rintro n τ σ1 M ⟨k, hk, rfl, rfl, h1, h2, h3, h4, hM, hov⟩
  by_cases hlt : k < sg.length
  · have ep : p + (k : Int) + 1 = p + ((k + 1 : Nat) : Int) := by omega
    have hrow : (rowsD sg)[k]? = some [.v (.string sg[k].1), .v (.int .i64 sg[k].2)] := by simp [rowsD, rowD, hlt]
    obtain ⟨a1, a2, a3, a4⟩ := anF_bd (bs := bs) (p := p) hgv k (by omega)
    have hdv := hgv _ (List.getElem_mem hlt)
    have hst : anF bs p sg (k + 1) = if pk bs (p + k) 4 = 0 then ((anF bs p sg k).1 + sg[k].2, (anF bs p sg k).2) else if pk bs (p + k) 4 = 1 then ((anF bs p sg k).1, (anF bs p sg k).2 + sg[k].2) else anF bs p sg k := by rw [← dAt_nat hlt]; rfl
    generalize anF bs p sg k = acc at *
    generalize sg[k].2 = v at *
    have w1 : IntKind.wrap .i64 (acc.1 + v) = acc.1 + v := wrap_sm _ (by omega) (by omega)
    have w2 : IntKind.wrap .i64 (acc.2 + v) = acc.2 + v := wrap_sm _ (by omega) (by omega)
    by_cases c0 : pk bs (p + k) 4 = 0
    · rw [if_pos c0] at hst
      repeat' (first
        | refine AWP.seq ?_
        | refine AWP.block ?_
        | (refine AWP.skip ?_; simp only [thenA, blockA, reduceIte])
        | (refine AWP.exit ?_; simp only [thenA, blockA, eq_self, reduceIte, Nat.reduceEqDiff, Nat.succ_ne_zero])
        | (refine AWP.ret ?_; simp only [thenA, blockA, reduceIte])
        | (refine AWP.region (by rfl) (fun KK hKK => ?_); (repeat (simp (disch := omega) [hlt, h1])); first | (refine hKK _ _ _ ?_; clear hKK KK; simp only [thenA, blockA, reduceIte]) | skip)
        | (refine AWP.draw' mixd (by rfl) (by kernel_rfl) (fun KK tab hKK htab => ?_); (repeat (simp (disch := omega) [hlt, h1])); first | (refine dEnd_ro ?_ (hKK _ _ _ ?_); (focus (simp; done)); clear htab tab hKK KK; simp only [thenA, blockA, reduceIte]) | (refine dEnd_of ?_ (hKK _ _ _ ?_); (focus (simp only [List.reverse_cons, List.reverse_nil, List.nil_append, List.cons_append, memA, mem1, and_true, true_and]; (repeat' apply And.intro); (all_goals (first | trivial | (refine .inr ⟨?_, ?_⟩ <;> (simp; done)) | (refine .inr ⟨?_, ?_⟩ <;> (simp <;> omega)) | (refine .inl ?_; rw [htab]; kernel_rfl))); done)); clear htab tab hKK KK; simp only [thenA, blockA, reduceIte]) | skip)
        | (refine AWP.if_t ?_ ?_; focus (simp (disch := omega) [hlt, h1]; done))
        | (refine AWP.if_f ?_ ?_; focus (simp (disch := omega) [hlt, h1]; done)))
      refine aStop_of (pick_c _ _ rb _ bs (p + k) 4 (by simp (disch := omega) only [upd_eq, upd_ne, del_ne, h1]) (hx'.ovb hrb (fun c kc hc h => by have := (hB c kc h).1; have h2 := hov c kc this hc h; first | exact h2 | (simp (disch := omega) only [upd_ne, del_ne]; exact h2))) h8 (by omega)) ?_
      rintro r δ ⟨rfl, rfl⟩
      (repeat (simp (disch := omega) [c0, hlt, h3, h4, hrow, w1]))
      first | (refine hKK _ _ _ ?_; clear hKK KK; simp only [thenA, blockA, reduceIte]) | skip
      repeat' (first
        | refine AWP.seq ?_
        | refine AWP.block ?_
        | (refine AWP.skip ?_; simp only [thenA, blockA, reduceIte])
        | (refine AWP.exit ?_; simp only [thenA, blockA, eq_self, reduceIte, Nat.reduceEqDiff, Nat.succ_ne_zero])
        | (refine AWP.ret ?_; simp only [thenA, blockA, reduceIte])
        | (refine AWP.region (by rfl) (fun KK hKK => ?_); (repeat (simp (disch := omega) [c0, hlt, h3, h4, hrow, w1])); first | (refine hKK _ _ _ ?_; clear hKK KK; simp only [thenA, blockA, reduceIte]) | skip)
        | (refine AWP.draw' mixd (by rfl) (by kernel_rfl) (fun KK tab hKK htab => ?_); (repeat (simp (disch := omega) [c0, hlt, h3, h4, hrow, w1])); first | (refine dEnd_ro ?_ (hKK _ _ _ ?_); (focus (simp; done)); clear htab tab hKK KK; simp only [thenA, blockA, reduceIte]) | (refine dEnd_of ?_ (hKK _ _ _ ?_); (focus (simp only [List.reverse_cons, List.reverse_nil, List.nil_append, List.cons_append, memA, mem1, and_true, true_and]; (repeat' apply And.intro); (all_goals (first | trivial | (refine .inr ⟨?_, ?_⟩ <;> (simp; done)) | (refine .inr ⟨?_, ?_⟩ <;> (simp <;> omega)) | (refine .inl ?_; rw [htab]; kernel_rfl))); done)); clear htab tab hKK KK; simp only [thenA, blockA, reduceIte]) | skip)
        | (refine AWP.if_t ?_ ?_; focus (simp (disch := omega) [c0, hlt, h3, h4, hrow, w1]; done))
        | (refine AWP.if_f ?_ ?_; focus (simp (disch := omega) [c0, hlt, h3, h4, hrow, w1]; done)))
      refine ⟨_, _, _, _, ?_, ⟨k + 1, by omega, rfl, rfl, by simp (disch := omega) only [upd_eq, upd_ne, del_ne]; rw [ep], by simp (disch := omega) only [upd_eq, upd_ne, del_ne, h2], by rw [hst]; simp (disch := omega) only [upd_eq, upd_ne, del_ne, h3], by simp (disch := omega) only [upd_eq, upd_ne, del_ne, h4], by omega, fun c kc hc hc2 hk => by have hh := hov c kc hc hc2 hk; first | exact hh | (simp (disch := omega) only [upd_ne, del_ne]; exact hh)⟩, Weak.tau (by simp [LQ])⟩
      omega
    · rw [if_neg c0] at hst
      by_cases c1 : pk bs (p + k) 4 = 1
      · rw [if_pos c1] at hst
        repeat' (first
          | refine AWP.seq ?_
          | refine AWP.block ?_
          | (refine AWP.skip ?_; simp only [thenA, blockA, reduceIte])
          | (refine AWP.exit ?_; simp only [thenA, blockA, eq_self, reduceIte, Nat.reduceEqDiff, Nat.succ_ne_zero])
          | (refine AWP.ret ?_; simp only [thenA, blockA, reduceIte])
          | (refine AWP.region (by rfl) (fun KK hKK => ?_); (repeat (simp (disch := omega) [hlt, h1])); first | (refine hKK _ _ _ ?_; clear hKK KK; simp only [thenA, blockA, reduceIte]) | skip)
          | (refine AWP.draw' mixd (by rfl) (by kernel_rfl) (fun KK tab hKK htab => ?_); (repeat (simp (disch := omega) [hlt, h1])); first | (refine dEnd_ro ?_ (hKK _ _ _ ?_); (focus (simp; done)); clear htab tab hKK KK; simp only [thenA, blockA, reduceIte]) | (refine dEnd_of ?_ (hKK _ _ _ ?_); (focus (simp only [List.reverse_cons, List.reverse_nil, List.nil_append, List.cons_append, memA, mem1, and_true, true_and]; (repeat' apply And.intro); (all_goals (first | trivial | (refine .inr ⟨?_, ?_⟩ <;> (simp; done)) | (refine .inr ⟨?_, ?_⟩ <;> (simp <;> omega)) | (refine .inl ?_; rw [htab]; kernel_rfl))); done)); clear htab tab hKK KK; simp only [thenA, blockA, reduceIte]) | skip)
          | (refine AWP.if_t ?_ ?_; focus (simp (disch := omega) [hlt, h1]; done))
          | (refine AWP.if_f ?_ ?_; focus (simp (disch := omega) [hlt, h1]; done)))
        refine aStop_of (pick_c _ _ rb _ bs (p + k) 4 (by simp (disch := omega) only [upd_eq, upd_ne, del_ne, h1]) (hx'.ovb hrb (fun c kc hc h => by have := (hB c kc h).1; have h2 := hov c kc this hc h; first | exact h2 | (simp (disch := omega) only [upd_ne, del_ne]; exact h2))) h8 (by omega)) ?_
        rintro r δ ⟨rfl, rfl⟩
        (repeat (simp (disch := omega) [c1, hlt, h3, h4, hrow, w2]))
        first | (refine hKK _ _ _ ?_; clear hKK KK; simp only [thenA, blockA, reduceIte]) | skip
        repeat' (first
          | refine AWP.seq ?_
          | refine AWP.block ?_
          | (refine AWP.skip ?_; simp only [thenA, blockA, reduceIte])
          | (refine AWP.exit ?_; simp only [thenA, blockA, eq_self, reduceIte, Nat.reduceEqDiff, Nat.succ_ne_zero])
          | (refine AWP.ret ?_; simp only [thenA, blockA, reduceIte])
          | (refine AWP.region (by rfl) (fun KK hKK => ?_); (repeat (simp (disch := omega) [c1, hlt, h3, h4, hrow, w2])); first | (refine hKK _ _ _ ?_; clear hKK KK; simp only [thenA, blockA, reduceIte]) | skip)
          | (refine AWP.draw' mixd (by rfl) (by kernel_rfl) (fun KK tab hKK htab => ?_); (repeat (simp (disch := omega) [c1, hlt, h3, h4, hrow, w2])); first | (refine dEnd_ro ?_ (hKK _ _ _ ?_); (focus (simp; done)); clear htab tab hKK KK; simp only [thenA, blockA, reduceIte]) | (refine dEnd_of ?_ (hKK _ _ _ ?_); (focus (simp only [List.reverse_cons, List.reverse_nil, List.nil_append, List.cons_append, memA, mem1, and_true, true_and]; (repeat' apply And.intro); (all_goals (first | trivial | (refine .inr ⟨?_, ?_⟩ <;> (simp; done)) | (refine .inr ⟨?_, ?_⟩ <;> (simp <;> omega)) | (refine .inl ?_; rw [htab]; kernel_rfl))); done)); clear htab tab hKK KK; simp only [thenA, blockA, reduceIte]) | skip)
          | (refine AWP.if_t ?_ ?_; focus (simp (disch := omega) [c1, hlt, h3, h4, hrow, w2]; done))
          | (refine AWP.if_f ?_ ?_; focus (simp (disch := omega) [c1, hlt, h3, h4, hrow, w2]; done)))
        refine ⟨_, _, _, _, ?_, ⟨k + 1, by omega, rfl, rfl, by simp (disch := omega) only [upd_eq, upd_ne, del_ne]; rw [ep], by simp (disch := omega) only [upd_eq, upd_ne, del_ne, h2], by rw [hst]; simp (disch := omega) only [upd_eq, upd_ne, del_ne, h3], by simp (disch := omega) only [upd_eq, upd_ne, del_ne, h4], by omega, fun c kc hc hc2 hk => by have hh := hov c kc hc hc2 hk; first | exact hh | (simp (disch := omega) only [upd_ne, del_ne]; exact hh)⟩, Weak.tau (by simp [LQ])⟩
        omega
      · rw [if_neg c1] at hst
        repeat' (first
          | refine AWP.seq ?_
          | refine AWP.block ?_
          | (refine AWP.skip ?_; simp only [thenA, blockA, reduceIte])
          | (refine AWP.exit ?_; simp only [thenA, blockA, eq_self, reduceIte, Nat.reduceEqDiff, Nat.succ_ne_zero])
          | (refine AWP.ret ?_; simp only [thenA, blockA, reduceIte])
          | (refine AWP.region (by rfl) (fun KK hKK => ?_); (repeat (simp (disch := omega) [hlt, h1])); first | (refine hKK _ _ _ ?_; clear hKK KK; simp only [thenA, blockA, reduceIte]) | skip)
          | (refine AWP.draw' mixd (by rfl) (by kernel_rfl) (fun KK tab hKK htab => ?_); (repeat (simp (disch := omega) [hlt, h1])); first | (refine dEnd_ro ?_ (hKK _ _ _ ?_); (focus (simp; done)); clear htab tab hKK KK; simp only [thenA, blockA, reduceIte]) | (refine dEnd_of ?_ (hKK _ _ _ ?_); (focus (simp only [List.reverse_cons, List.reverse_nil, List.nil_append, List.cons_append, memA, mem1, and_true, true_and]; (repeat' apply And.intro); (all_goals (first | trivial | (refine .inr ⟨?_, ?_⟩ <;> (simp; done)) | (refine .inr ⟨?_, ?_⟩ <;> (simp <;> omega)) | (refine .inl ?_; rw [htab]; kernel_rfl))); done)); clear htab tab hKK KK; simp only [thenA, blockA, reduceIte]) | skip)
          | (refine AWP.if_t ?_ ?_; focus (simp (disch := omega) [hlt, h1]; done))
          | (refine AWP.if_f ?_ ?_; focus (simp (disch := omega) [hlt, h1]; done)))
        refine aStop_of (pick_c _ _ rb _ bs (p + k) 4 (by simp (disch := omega) only [upd_eq, upd_ne, del_ne, h1]) (hx'.ovb hrb (fun c kc hc h => by have := (hB c kc h).1; have h2 := hov c kc this hc h; first | exact h2 | (simp (disch := omega) only [upd_ne, del_ne]; exact h2))) h8 (by omega)) ?_
        rintro r δ ⟨rfl, rfl⟩
        (repeat (simp (disch := omega) [c0, c1, hlt, h3, h4, hrow, w2]))
        first | (refine hKK _ _ _ ?_; clear hKK KK; simp only [thenA, blockA, reduceIte]) | skip
        repeat' (first
          | refine AWP.seq ?_
          | refine AWP.block ?_
          | (refine AWP.skip ?_; simp only [thenA, blockA, reduceIte])
          | (refine AWP.exit ?_; simp only [thenA, blockA, eq_self, reduceIte, Nat.reduceEqDiff, Nat.succ_ne_zero])
          | (refine AWP.ret ?_; simp only [thenA, blockA, reduceIte])
          | (refine AWP.region (by rfl) (fun KK hKK => ?_); (repeat (simp (disch := omega) [c0, c1, hlt])); first | (refine hKK _ _ _ ?_; clear hKK KK; simp only [thenA, blockA, reduceIte]) | skip)
          | (refine AWP.draw' mixd (by rfl) (by kernel_rfl) (fun KK tab hKK htab => ?_); (repeat (simp (disch := omega) [c0, c1, hlt])); first | (refine dEnd_ro ?_ (hKK _ _ _ ?_); (focus (simp; done)); clear htab tab hKK KK; simp only [thenA, blockA, reduceIte]) | (refine dEnd_of ?_ (hKK _ _ _ ?_); (focus (simp only [List.reverse_cons, List.reverse_nil, List.nil_append, List.cons_append, memA, mem1, and_true, true_and]; (repeat' apply And.intro); (all_goals (first | trivial | (refine .inr ⟨?_, ?_⟩ <;> (simp; done)) | (refine .inr ⟨?_, ?_⟩ <;> (simp <;> omega)) | (refine .inl ?_; rw [htab]; kernel_rfl))); done)); clear htab tab hKK KK; simp only [thenA, blockA, reduceIte]) | skip)
          | (refine AWP.if_t ?_ ?_; focus (simp (disch := omega) [c0, c1, hlt]; done))
          | (refine AWP.if_f ?_ ?_; focus (simp (disch := omega) [c0, c1, hlt]; done)))
        refine ⟨_, _, _, _, ?_, ⟨k + 1, by omega, rfl, rfl, by simp (disch := omega) only [upd_eq, upd_ne, del_ne]; rw [ep], by simp (disch := omega) only [upd_eq, upd_ne, del_ne, h2], by rw [hst]; simp (disch := omega) only [upd_eq, upd_ne, del_ne, h3], by simp (disch := omega) only [upd_eq, upd_ne, del_ne, h4], by omega, fun c kc hc hc2 hk => by have hh := hov c kc hc hc2 hk; first | exact hh | (simp (disch := omega) only [upd_ne, del_ne]; exact hh)⟩, Weak.tau (by simp [LQ])⟩
        omega
  · have hk' : k = sg.length := by omega
    subst hk'
    repeat' (first
      | refine AWP.seq ?_
      | refine AWP.block ?_
      | (refine AWP.skip ?_; simp only [thenA, blockA, reduceIte])
      | (refine AWP.exit ?_; simp only [thenA, blockA, eq_self, reduceIte, Nat.reduceEqDiff, Nat.succ_ne_zero])
      | (refine AWP.ret ?_; simp only [thenA, blockA, reduceIte])
      | (refine AWP.region (by rfl) (fun KK hKK => ?_); (repeat (simp (disch := omega) [hlt, h2, h3])); first | (refine hKK _ _ _ ?_; clear hKK KK; simp only [thenA, blockA, reduceIte]) | skip)
      | (refine AWP.draw' mixd (by rfl) (by kernel_rfl) (fun KK tab hKK htab => ?_); (repeat (simp (disch := omega) [hlt, h2, h3])); first | (refine dEnd_ro ?_ (hKK _ _ _ ?_); (focus (simp; done)); clear htab tab hKK KK; simp only [thenA, blockA, reduceIte]) | (refine dEnd_of ?_ (hKK _ _ _ ?_); (focus (simp only [List.reverse_cons, List.reverse_nil, List.nil_append, List.cons_append, memA, mem1, and_true, true_and]; (repeat' apply And.intro); (all_goals (first | trivial | (refine .inr ⟨?_, ?_⟩ <;> (simp; done)) | (refine .inr ⟨?_, ?_⟩ <;> (simp <;> omega)) | (refine .inl ?_; rw [htab]; kernel_rfl))); done)); clear htab tab hKK KK; simp only [thenA, blockA, reduceIte]) | skip)
      | (refine AWP.if_t ?_ ?_; focus (simp (disch := omega) [hlt, h2, h3]; done))
      | (refine AWP.if_f ?_ ?_; focus (simp (disch := omega) [hlt, h2, h3]; done)))
    refine ⟨by simp, ?_⟩
    have hres : Try.f135.results.toList = [.cell 4 27] := rfl
    rw [hres]
    simp (disch := omega) []
    refine fin0M (rdB (.sl bx ox bs.length capx zx) (p + sg.length)) (by simp (disch := omega) only [upd_eq, upd_ne, del_ne, h1]) rfl (low_rd hlo) ⟨?_, rfl⟩ (by simp [resO, nms, nmss])
    simp [resO, ren, rens, anA, hSg]
end Go.Proofs.Ytbdehnjbglpfjaa
