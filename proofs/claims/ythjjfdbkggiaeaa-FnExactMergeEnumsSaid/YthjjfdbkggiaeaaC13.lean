/- Contracts of the exact laws' helpers: marks in lists. No condition. -/
import Derived.Test.YthjjfdbkggiaeaaC12
set_option linter.unusedSimpArgs false
set_option linter.unusedVariables false
namespace Go.Proofs.Ythjjfdbkggiaeaa
open Go Go.RowKit

def mkL (n : Nat) (k : Int) : List Df := (List.range n).map fun i : Nat => (mT (k + 2 * (i : Int)), k + 2 * (i : Int) + 1)
theorem mkL_len (n : Nat) (k : Int) : (mkL n k).length = n := by simp [mkL]
theorem mkL_succ (n : Nat) (k : Int) : mkL (n + 1) k = mkL n k ++ [(mT (k + 2 * n), k + 2 * n + 1)] := by simp [mkL, List.range_succ]
theorem mkL_get (n : Nat) (k : Int) (i : Nat) (h : i < (mkL n k).length) : (mkL n k)[i] = (mT (k + 2 * i), k + 2 * i + 1) := by simp [mkL]
def rowsM (ds : List Df) (k : Int) (i : Nat) : List (List AV) := rowsD (mkL i k ++ ds.drop i)
theorem rowsM_at (ds : List Df) (k : Int) (i : Nat) (h : i < ds.length) : (rowsM ds k i)[i]? = some [.v (.string ds[i].1), .v (.int .i64 ds[i].2)] := by
  unfold rowsM rowsD
  rw [List.getElem?_map, List.getElem?_append_right (by rw [mkL_len]; omega), mkL_len]
  simp [rowD, List.getElem?_eq_getElem h]
theorem rowsM_set (ds : List Df) (k : Int) (i : Nat) (h : i < ds.length) : (rowsM ds k i).set i [.v (.string (mT (k + 2 * i))), .v (.int .i64 (k + 2 * i + 1))] = rowsM ds k (i + 1) := by
  unfold rowsM rowsD
  rw [mkL_succ, List.drop_eq_getElem_cons h, List.map_append, List.set_append_right _ _ (by simp [mkL_len])]
  simp only [List.length_map, mkL_len, Nat.sub_self, List.map_cons, List.set_cons_zero, List.map_append, List.append_assoc, List.cons_append, List.nil_append, List.map_nil, rowD]
theorem rowsM_flat (ds : List Df) (k : Int) (i : Nat) : flatB ⟨33, 2, rowsM ds k i, true⟩ := flatD _
theorem rowsM_len (ds : List Df) (k : Int) (i : Nat) (h : i ≤ ds.length) : (rowsM ds k i).length = ds.length := by simp [rowsM, rowsD, mkL_len]; omega

set_option maxRecDepth 10000 in
set_option maxHeartbeats 1000000 in
theorem markDefS_c (σ : Sto) (ν : Nat) (b : Nat) (cap : Option Nat) (ds : List Df) (k : Int) (hb : σ b = some (blkD ds)) (hlen : ds.length ≤ 4294967296) (hk : 0 ≤ k ∧ k ≤ 4294967296) :
    AC Try.prog 79 [.sl b 0 ds.length cap 2, .v (.int .i64 k)] σ ν fun r δ => r = .v (.int .i64 (k + 2 * ds.length)) ∧ δ = upd noS b (blkD (mkL ds.length k)) := by
  refine AC.intro [b] ent_79 Try.func79 rfl (by simp [Try.f79]) (by simp [hb]) ?_
  intro K s hs hB hn hν hA hFr
  simp only [argT, Nat.zero_add, Nat.reduceAdd]
  have hsb : s b = some (blkD ds) := by rw [hs b, hb]; simp
  have hbK : b < K := hA b (by simp [nmAs, nmA])
  have hb1 : ¬ b = K := by omega
  have hk0 := hk.1
  have hk1 := hk.2
  repeat' (first
    | refine AWP.seq ?_
    | refine AWP.block ?_
    | (refine AWP.skip ?_; simp only [thenA, blockA, reduceIte])
    | (refine AWP.exit ?_; simp only [thenA, blockA, eq_self, reduceIte, Nat.reduceEqDiff, Nat.succ_ne_zero])
    | (refine AWP.ret ?_; simp only [thenA, blockA, reduceIte])
    | (refine AWP.region (by rfl) (fun KK hKK => ?_); (repeat (simp (disch := omega) [])); first | (refine hKK _ _ _ ?_; clear hKK KK; simp only [thenA, blockA, reduceIte]) | skip)
    | (refine AWP.if_t ?_ ?_; focus (simp (disch := omega) []; done))
    | (refine AWP.if_f ?_ ?_; focus (simp (disch := omega) []; done)))
  refine AWP.loop (fun n τ σ' M => ∃ i : Nat, i ≤ ds.length ∧ n = ds.length - i ∧ τ = [(0, .sl b 0 ds.length cap 2), (1, .v (.int .i64 (k + 2 * i))), (5, .v (.int .i64 i))] ∧ σ' = upd s b ⟨33, 2, rowsM ds k i, true⟩ ∧ M = K) ⟨_, _, _, _, ⟨0, by omega, rfl, rfl, rfl, rfl⟩, Weak.mod hB hbK (fun c kc hc h => h) (by rw [hsb]; simp [rowsM, mkL]) (rowsM_flat ds k 0) (by simp [LT, get, nms]; omega)⟩ ?_
  rintro n τ σ' M ⟨i, hi, rfl, rfl, rfl, rfl⟩
  by_cases hlt : i < ds.length
  · have h1 := rowsM_at ds k i hlt
    have h2 := rowsM_set ds k i hlt
    have h3 : ((rowsM ds k i).set i [.v (.string (mT (k + 2 * i))), .v (.int .i64 ds[i].2)])[i]? = some [.v (.string (mT (k + 2 * i))), .v (.int .i64 ds[i].2)] := by
      rw [List.getElem?_set_self (by rw [rowsM_len ds k i (by omega)]; exact hlt)]
    repeat' (first
      | refine AWP.seq ?_
      | refine AWP.block ?_
      | (refine AWP.skip ?_; simp only [thenA, blockA, reduceIte])
      | (refine AWP.exit ?_; simp only [thenA, blockA, eq_self, reduceIte, Nat.reduceEqDiff, Nat.succ_ne_zero])
      | (refine AWP.ret ?_; simp only [thenA, blockA, reduceIte])
      | (refine AWP.region (by rfl) (fun KK hKK => ?_); (repeat (simp (disch := omega) [hlt])); first | (refine hKK _ _ _ ?_; clear hKK KK; simp only [thenA, blockA, reduceIte]) | skip)
      | (refine AWP.if_t ?_ ?_; focus (simp (disch := omega) [hlt]; done))
      | (refine AWP.if_f ?_ ?_; focus (simp (disch := omega) [hlt]; done)))
    refine aStop_of (markText_c _ _ _ (by omega)) ?_
    rintro r δ ⟨rfl, rfl⟩
    (repeat (simp (disch := omega) [hlt, h1]))
    first | (refine hKK _ _ _ ?_; clear hKK KK; simp only [thenA, blockA, reduceIte]) | skip
    repeat' (first
      | refine AWP.seq ?_
      | refine AWP.block ?_
      | (refine AWP.skip ?_; simp only [thenA, blockA, reduceIte])
      | (refine AWP.exit ?_; simp only [thenA, blockA, eq_self, reduceIte, Nat.reduceEqDiff, Nat.succ_ne_zero])
      | (refine AWP.ret ?_; simp only [thenA, blockA, reduceIte])
      | (refine AWP.region (by rfl) (fun KK hKK => ?_); (repeat (simp (disch := omega) [hlt, h3])); first | (refine hKK _ _ _ ?_; clear hKK KK; simp only [thenA, blockA, reduceIte]) | skip)
      | (refine AWP.if_t ?_ ?_; focus (simp (disch := omega) [hlt, h3]; done))
      | (refine AWP.if_f ?_ ?_; focus (simp (disch := omega) [hlt, h3]; done)))
    refine ⟨_, _, _, _, ?_, ⟨i + 1, by omega, rfl, rfl, rfl, rfl⟩, Weak.mod hB hbK (fun c kc hc h => by simp [upd, hc, h]) (by simp [h2]) (rowsM_flat ds k (i + 1)) (by simp [LT, get, nms]; omega)⟩
    omega
  · have hi' : i = ds.length := by omega
    subst hi'
    have h4 : rowsM ds k ds.length = rowsD (mkL ds.length k) := by simp [rowsM]
    repeat' (first
      | refine AWP.seq ?_
      | refine AWP.block ?_
      | (refine AWP.skip ?_; simp only [thenA, blockA, reduceIte])
      | (refine AWP.exit ?_; simp only [thenA, blockA, eq_self, reduceIte, Nat.reduceEqDiff, Nat.succ_ne_zero])
      | (refine AWP.ret ?_; simp only [thenA, blockA, reduceIte])
      | (refine AWP.region (by rfl) (fun KK hKK => ?_); (repeat (simp (disch := omega) [])); first | (refine hKK _ _ _ ?_; clear hKK KK; simp only [thenA, blockA, reduceIte]) | skip)
      | (refine AWP.if_t ?_ ?_; focus (simp (disch := omega) []; done))
      | (refine AWP.if_f ?_ ?_; focus (simp (disch := omega) []; done)))
    refine ⟨by simp, _, rfl, finM (k := blkD (mkL ds.length k)) (by simp [h4]) rfl (flatD _) ⟨?_, rfl⟩ (by simp [resO, get, nms, nmss])⟩
    simp [resO, get, ren]

set_option maxRecDepth 10000 in
set_option maxHeartbeats 400000 in
theorem markDefS_nil (σ : Sto) (ν : Nat) (b o z : Nat) (cap : Option Nat) (k : Int) :
    AC Try.prog 79 [.sl b o 0 cap z, .v (.int .i64 k)] σ ν fun r δ => r = .v (.int .i64 k) ∧ δ = noS := by
  refine AC.intro [] ent_79 Try.func79 rfl (by simp [Try.f79]) (by simp) ?_
  intro K s hs hB hn hν hA hFr
  simp only [argT, Nat.zero_add, Nat.reduceAdd]
  repeat' (first
    | refine AWP.seq ?_
    | refine AWP.block ?_
    | (refine AWP.skip ?_; simp only [thenA, blockA, reduceIte])
    | (refine AWP.exit ?_; simp only [thenA, blockA, eq_self, reduceIte, Nat.reduceEqDiff, Nat.succ_ne_zero])
    | (refine AWP.ret ?_; simp only [thenA, blockA, reduceIte])
    | (refine AWP.region (by rfl) (fun KK hKK => ?_); (repeat (simp (disch := omega) [])); first | (refine hKK _ _ _ ?_; clear hKK KK; simp only [thenA, blockA, reduceIte]) | skip)
    | (refine AWP.if_t ?_ ?_; focus (simp (disch := omega) []; done))
    | (refine AWP.if_f ?_ ?_; focus (simp (disch := omega) []; done)))
  refine AWP.loop (fun n τ σ' M => n = 0 ∧ τ = [(0, .sl b o 0 cap z), (1, .v (.int .i64 k)), (5, .v (.int .i64 0))] ∧ σ' = s ∧ M = K) ⟨_, _, _, _, ⟨rfl, rfl, rfl, rfl⟩, (Weak.base hB (by repeat (first | exact Over.refl _ | exact hov | refine Over.upd ?_ hB (by omega) | refine Over.del ?_ hB (by omega))) (by simp [LT, get, nms, nmss]; try (simp [nms, nmss] at hn; simp_all)))⟩ ?_
  rintro n τ σ' M ⟨rfl, rfl, rfl, rfl⟩
  repeat' (first
    | refine AWP.seq ?_
    | refine AWP.block ?_
    | (refine AWP.skip ?_; simp only [thenA, blockA, reduceIte])
    | (refine AWP.exit ?_; simp only [thenA, blockA, eq_self, reduceIte, Nat.reduceEqDiff, Nat.succ_ne_zero])
    | (refine AWP.ret ?_; simp only [thenA, blockA, reduceIte])
    | (refine AWP.region (by rfl) (fun KK hKK => ?_); (repeat (simp (disch := omega) [])); first | (refine hKK _ _ _ ?_; clear hKK KK; simp only [thenA, blockA, reduceIte]) | skip)
    | (refine AWP.if_t ?_ ?_; focus (simp (disch := omega) []; done))
    | (refine AWP.if_f ?_ ?_; focus (simp (disch := omega) []; done)))
  refine ⟨by simp, _, rfl, fin0 ⟨?_, rfl⟩ (by simp [resO, get, nms, nmss]; try (simp [nms, nmss] at hn; simp_all))⟩
  simp [resO, get, ren, rens]

set_option maxRecDepth 10000 in
set_option maxHeartbeats 1000000 in
/-- The marks stand in the list. -/
theorem heldDefS_c (σ : Sto) (ν : Nat) (x : AV) (n0 : Nat) (k : Int) (hx : Sl σ x 2 (rowsD (mkL n0 k))) (hlen : n0 ≤ 4294967296) (hk : 0 ≤ k ∧ k ≤ 4294967296) :
    AC Try.prog 80 [x, .v (.int .i64 k)] σ ν fun r δ => r = .v (.int .i64 (k + 2 * n0)) ∧ δ = noS := by
  obtain ⟨b, o, cap, z, rfl⟩ := hx.out
  simp only [rowsD_len, mkL_len] at hx ⊢
  refine AC.intro [] ent_80 Try.func80 rfl (by simp [Try.f80]) (by simp) ?_
  intro K s hs hB hn hν hA hFr
  simp only [argT, Nat.zero_add, Nat.reduceAdd]
  have hx' := hx.vw hs.vw
  have hk0 := hk.1
  have hk1 := hk.2
  repeat' (first
    | refine AWP.seq ?_
    | refine AWP.block ?_
    | (refine AWP.skip ?_; simp only [thenA, blockA, reduceIte])
    | (refine AWP.exit ?_; simp only [thenA, blockA, eq_self, reduceIte, Nat.reduceEqDiff, Nat.succ_ne_zero])
    | (refine AWP.ret ?_; simp only [thenA, blockA, reduceIte])
    | (refine AWP.region (by rfl) (fun KK hKK => ?_); (repeat (simp (disch := omega) [])); first | (refine hKK _ _ _ ?_; clear hKK KK; simp only [thenA, blockA, reduceIte]) | skip)
    | (refine AWP.draw' mixd (by rfl) (by kernel_rfl) (fun KK tab hKK htab => ?_); (repeat (simp (disch := omega) [])); first | (refine dEnd_ro ?_ (hKK _ _ _ ?_); (focus (simp; done)); clear htab tab hKK KK; simp only [thenA, blockA, reduceIte]) | (refine dEnd_of ?_ (hKK _ _ _ ?_); (focus (simp only [List.reverse_cons, List.reverse_nil, List.nil_append, List.cons_append, memA, mem1, and_true, true_and]; (repeat' apply And.intro); (all_goals (first | trivial | (refine .inr ⟨?_, ?_⟩ <;> (simp; done)) | (refine .inr ⟨?_, ?_⟩ <;> (simp <;> omega)) | (refine .inl ?_; rw [htab]; kernel_rfl))); done)); clear htab tab hKK KK; simp only [thenA, blockA, reduceIte]) | skip)
    | (refine AWP.if_t ?_ ?_; focus (simp (disch := omega) []; done))
    | (refine AWP.if_f ?_ ?_; focus (simp (disch := omega) []; done)))
  refine AWP.loop (fun n τ σ' M => ∃ i : Nat, i ≤ n0 ∧ n = n0 - i ∧ τ = [(0, .sl b o n0 cap z), (1, .v (.int .i64 (k + 2 * i))), (5, .v (.int .i64 i))] ∧ σ' = s ∧ M = K) ⟨_, _, _, _, ⟨0, by omega, rfl, rfl, rfl, rfl⟩, (Weak.base hB (by repeat (first | exact Over.refl _ | exact hov | refine Over.upd ?_ hB (by omega) | refine Over.del ?_ hB (by omega))) (by simp [LT, get, nms, nmss]; try (simp [nms, nmss] at hn; simp_all)))⟩ ?_
  rintro n τ σ' M ⟨i, hi, rfl, rfl, rfl, rfl⟩
  by_cases hlt : i < n0
  · obtain ⟨_, rfl, kb, hkb, hat⟩ := hx'.at (i := i) (by rw [rowsD_len, mkL_len]; exact hlt)
    have hrow : (rowsD (mkL n0 k))[i]'(by rw [rowsD_len, mkL_len]; exact hlt) = [.v (.string (mT (k + 2 * i))), .v (.int .i64 (k + 2 * i + 1))] := by simp [rowsD, rowD, mkL_get]
    rw [hrow] at hat
    repeat' (first
      | refine AWP.seq ?_
      | refine AWP.block ?_
      | (refine AWP.skip ?_; simp only [thenA, blockA, reduceIte])
      | (refine AWP.exit ?_; simp only [thenA, blockA, eq_self, reduceIte, Nat.reduceEqDiff, Nat.succ_ne_zero])
      | (refine AWP.ret ?_; simp only [thenA, blockA, reduceIte])
      | (refine AWP.region (by rfl) (fun KK hKK => ?_); (repeat (simp (disch := omega) [hlt, hkb, hat])); first | (refine hKK _ _ _ ?_; clear hKK KK; simp only [thenA, blockA, reduceIte]) | skip)
      | (refine AWP.draw' mixd (by rfl) (by kernel_rfl) (fun KK tab hKK htab => ?_); (repeat (simp (disch := omega) [hlt, hkb, hat])); first | (refine dEnd_ro ?_ (hKK _ _ _ ?_); (focus (simp; done)); clear htab tab hKK KK; simp only [thenA, blockA, reduceIte]) | (refine dEnd_of ?_ (hKK _ _ _ ?_); (focus (simp only [List.reverse_cons, List.reverse_nil, List.nil_append, List.cons_append, memA, mem1, and_true, true_and]; (repeat' apply And.intro); (all_goals (first | trivial | (refine .inr ⟨?_, ?_⟩ <;> (simp; done)) | (refine .inr ⟨?_, ?_⟩ <;> (simp <;> omega)) | (refine .inl ?_; rw [htab]; kernel_rfl))); done)); clear htab tab hKK KK; simp only [thenA, blockA, reduceIte]) | skip)
      | (refine AWP.if_t ?_ ?_; focus (simp (disch := omega) [hlt, hkb, hat]; done))
      | (refine AWP.if_f ?_ ?_; focus (simp (disch := omega) [hlt, hkb, hat]; done)))
    refine dStop_pure (fun σ' => markText_c σ' _ (k + 2 * i) (by omega)) ?_
    (repeat (simp (disch := omega) [hlt, hkb, hat]))
    first | (refine dEnd_ro ?_ (hKK _ _ _ ?_); (focus (simp; done)); clear htab tab hKK KK; simp only [thenA, blockA, reduceIte]) | (refine dEnd_of ?_ (hKK _ _ _ ?_); (focus (simp only [List.reverse_cons, List.reverse_nil, List.nil_append, List.cons_append, memA, mem1, and_true, true_and]; (repeat' apply And.intro); (all_goals (first | trivial | (refine .inr ⟨?_, ?_⟩ <;> (simp; done)) | (refine .inr ⟨?_, ?_⟩ <;> (simp <;> omega)) | (refine .inl ?_; rw [htab]; kernel_rfl))); done)); clear htab tab hKK KK; simp only [thenA, blockA, reduceIte]) | skip
    repeat' (first
      | refine AWP.seq ?_
      | refine AWP.block ?_
      | (refine AWP.skip ?_; simp only [thenA, blockA, reduceIte])
      | (refine AWP.exit ?_; simp only [thenA, blockA, eq_self, reduceIte, Nat.reduceEqDiff, Nat.succ_ne_zero])
      | (refine AWP.ret ?_; simp only [thenA, blockA, reduceIte])
      | (refine AWP.region (by rfl) (fun KK hKK => ?_); (repeat (simp (disch := omega) [hlt, hkb, hat])); first | (refine hKK _ _ _ ?_; clear hKK KK; simp only [thenA, blockA, reduceIte]) | skip)
      | (refine AWP.draw' mixd (by rfl) (by kernel_rfl) (fun KK tab hKK htab => ?_); (repeat (simp (disch := omega) [hlt, hkb, hat])); first | (refine dEnd_ro ?_ (hKK _ _ _ ?_); (focus (simp; done)); clear htab tab hKK KK; simp only [thenA, blockA, reduceIte]) | (refine dEnd_of ?_ (hKK _ _ _ ?_); (focus (simp only [List.reverse_cons, List.reverse_nil, List.nil_append, List.cons_append, memA, mem1, and_true, true_and]; (repeat' apply And.intro); (all_goals (first | trivial | (refine .inr ⟨?_, ?_⟩ <;> (simp; done)) | (refine .inr ⟨?_, ?_⟩ <;> (simp <;> omega)) | (refine .inl ?_; rw [htab]; kernel_rfl))); done)); clear htab tab hKK KK; simp only [thenA, blockA, reduceIte]) | skip)
      | (refine AWP.if_t ?_ ?_; focus (simp (disch := omega) [hlt, hkb, hat]; done))
      | (refine AWP.if_f ?_ ?_; focus (simp (disch := omega) [hlt, hkb, hat]; done)))
    have hbK : b < M := (hB b _ hkb).1
    refine ⟨_, _, _, _, ?_, ⟨i + 1, by omega, rfl, rfl, rfl, rfl⟩, (Weak.base hB (by repeat (first | exact Over.refl _ | exact hov | refine Over.upd ?_ hB (by omega) | refine Over.del ?_ hB (by omega))) (by simp [LT, get, nms, nmss, hbK] <;> omega))⟩
    omega
  · have hi' : i = n0 := by omega
    subst hi'
    repeat' (first
      | refine AWP.seq ?_
      | refine AWP.block ?_
      | (refine AWP.skip ?_; simp only [thenA, blockA, reduceIte])
      | (refine AWP.exit ?_; simp only [thenA, blockA, eq_self, reduceIte, Nat.reduceEqDiff, Nat.succ_ne_zero])
      | (refine AWP.ret ?_; simp only [thenA, blockA, reduceIte])
      | (refine AWP.region (by rfl) (fun KK hKK => ?_); (repeat (simp (disch := omega) [])); first | (refine hKK _ _ _ ?_; clear hKK KK; simp only [thenA, blockA, reduceIte]) | skip)
      | (refine AWP.draw' mixd (by rfl) (by kernel_rfl) (fun KK tab hKK htab => ?_); (repeat (simp (disch := omega) [])); first | (refine dEnd_ro ?_ (hKK _ _ _ ?_); (focus (simp; done)); clear htab tab hKK KK; simp only [thenA, blockA, reduceIte]) | (refine dEnd_of ?_ (hKK _ _ _ ?_); (focus (simp only [List.reverse_cons, List.reverse_nil, List.nil_append, List.cons_append, memA, mem1, and_true, true_and]; (repeat' apply And.intro); (all_goals (first | trivial | (refine .inr ⟨?_, ?_⟩ <;> (simp; done)) | (refine .inr ⟨?_, ?_⟩ <;> (simp <;> omega)) | (refine .inl ?_; rw [htab]; kernel_rfl))); done)); clear htab tab hKK KK; simp only [thenA, blockA, reduceIte]) | skip)
      | (refine AWP.if_t ?_ ?_; focus (simp (disch := omega) []; done))
      | (refine AWP.if_f ?_ ?_; focus (simp (disch := omega) []; done)))
    refine ⟨by simp, _, rfl, fin0 ⟨?_, rfl⟩ (by simp [resO, get, nms, nmss]; try (simp [nms, nmss] at hn; simp_all))⟩
    simp [resO, get, ren, rens]

set_option maxRecDepth 10000 in
set_option maxHeartbeats 400000 in
theorem markEnum_c (σ : Sto) (ν : Nat) (b : Nat) (cap : Option Nat) (ds : List Df) (k : Int) (hb : σ b = some (blkD ds)) (hlen : ds.length ≤ 4294967296) (hk : 0 ≤ k ∧ k ≤ 4294967296) :
    AC Try.prog 26 [.agg [.sl b 0 ds.length cap 2], .v (.int .i64 k)] σ ν fun r δ => r = .v (.int .i64 (k + 2 * ds.length)) ∧ δ = upd noS b (blkD (mkL ds.length k)) := by
  refine AC.intro [b] ent_26 Try.func26 rfl (by simp [Try.f26]) (by simp [hb]) ?_
  intro K s hs hB hn hν hA hFr
  simp only [argT, Nat.zero_add, Nat.reduceAdd]
  have hsb : s b = some (blkD ds) := by rw [hs b, hb]; simp
  have hbK : b < K := hA b (by simp [nmAs, nmAs, nmA])
  have hb1 : ¬ b = K := by omega
  repeat' (first
    | refine AWP.seq ?_
    | refine AWP.block ?_
    | (refine AWP.skip ?_; simp only [thenA, blockA, reduceIte])
    | (refine AWP.exit ?_; simp only [thenA, blockA, eq_self, reduceIte, Nat.reduceEqDiff, Nat.succ_ne_zero])
    | (refine AWP.ret ?_; simp only [thenA, blockA, reduceIte])
    | (refine AWP.region (by rfl) (fun KK hKK => ?_); (repeat (simp (disch := omega) [])); first | (refine hKK _ _ _ ?_; clear hKK KK; simp only [thenA, blockA, reduceIte]) | skip)
    | (refine AWP.if_t ?_ ?_; focus (simp (disch := omega) []; done))
    | (refine AWP.if_f ?_ ?_; focus (simp (disch := omega) []; done)))
  refine aStop_of (markDefS_c _ _ b cap ds k (by simp (disch := omega) [hsb]) hlen hk) ?_
  rintro r δ ⟨rfl, rfl⟩
  (repeat (simp (disch := omega) []))
  first | (refine hKK _ _ _ ?_; clear hKK KK; simp only [thenA, blockA, reduceIte]) | skip
  repeat' (first
    | refine AWP.seq ?_
    | refine AWP.block ?_
    | (refine AWP.skip ?_; simp only [thenA, blockA, reduceIte])
    | (refine AWP.exit ?_; simp only [thenA, blockA, eq_self, reduceIte, Nat.reduceEqDiff, Nat.succ_ne_zero])
    | (refine AWP.ret ?_; simp only [thenA, blockA, reduceIte])
    | (refine AWP.region (by rfl) (fun KK hKK => ?_); (repeat (simp (disch := omega) [])); first | (refine hKK _ _ _ ?_; clear hKK KK; simp only [thenA, blockA, reduceIte]) | skip)
    | (refine AWP.if_t ?_ ?_; focus (simp (disch := omega) []; done))
    | (refine AWP.if_f ?_ ?_; focus (simp (disch := omega) []; done)))
  refine ⟨by simp, _, rfl, finM (k := blkD (mkL ds.length k)) (by simp (disch := omega)) rfl (flatD _) ⟨?_, rfl⟩ (by simp [resO, get, nms, nmss])⟩
  simp [resO, get, ren]

set_option maxRecDepth 10000 in
set_option maxHeartbeats 400000 in
theorem markEnum_nil (σ : Sto) (ν : Nat) (b o z : Nat) (cap : Option Nat) (k : Int) :
    AC Try.prog 26 [.agg [.sl b o 0 cap z], .v (.int .i64 k)] σ ν fun r δ => r = .v (.int .i64 k) ∧ δ = noS := by
  refine AC.intro [] ent_26 Try.func26 rfl (by simp [Try.f26]) (by simp) ?_
  intro K s hs hB hn hν hA hFr
  simp only [argT, Nat.zero_add, Nat.reduceAdd]
  repeat' (first
    | refine AWP.seq ?_
    | refine AWP.block ?_
    | (refine AWP.skip ?_; simp only [thenA, blockA, reduceIte])
    | (refine AWP.exit ?_; simp only [thenA, blockA, eq_self, reduceIte, Nat.reduceEqDiff, Nat.succ_ne_zero])
    | (refine AWP.ret ?_; simp only [thenA, blockA, reduceIte])
    | (refine AWP.region (by rfl) (fun KK hKK => ?_); (repeat (simp (disch := omega) [])); first | (refine hKK _ _ _ ?_; clear hKK KK; simp only [thenA, blockA, reduceIte]) | skip)
    | (refine AWP.if_t ?_ ?_; focus (simp (disch := omega) []; done))
    | (refine AWP.if_f ?_ ?_; focus (simp (disch := omega) []; done)))
  refine aStop_of (markDefS_nil _ _ b o z cap k) ?_
  rintro r δ ⟨rfl, rfl⟩
  (repeat (simp (disch := omega) []))
  first | (refine hKK _ _ _ ?_; clear hKK KK; simp only [thenA, blockA, reduceIte]) | skip
  repeat' (first
    | refine AWP.seq ?_
    | refine AWP.block ?_
    | (refine AWP.skip ?_; simp only [thenA, blockA, reduceIte])
    | (refine AWP.exit ?_; simp only [thenA, blockA, eq_self, reduceIte, Nat.reduceEqDiff, Nat.succ_ne_zero])
    | (refine AWP.ret ?_; simp only [thenA, blockA, reduceIte])
    | (refine AWP.region (by rfl) (fun KK hKK => ?_); (repeat (simp (disch := omega) [])); first | (refine hKK _ _ _ ?_; clear hKK KK; simp only [thenA, blockA, reduceIte]) | skip)
    | (refine AWP.if_t ?_ ?_; focus (simp (disch := omega) []; done))
    | (refine AWP.if_f ?_ ?_; focus (simp (disch := omega) []; done)))
  refine ⟨by simp, _, rfl, fin0 ⟨?_, rfl⟩ (by simp [resO, get, nms, nmss]; try (simp [nms, nmss] at hn; simp_all))⟩
  simp [resO, get, ren, rens]

set_option maxRecDepth 10000 in
set_option maxHeartbeats 400000 in
theorem heldEnum_c (σ : Sto) (ν : Nat) (x : AV) (n0 : Nat) (k : Int) (hx : Sl σ x 2 (rowsD (mkL n0 k))) (hlen : n0 ≤ 4294967296) (hk : 0 ≤ k ∧ k ≤ 4294967296) :
    AC Try.prog 27 [.agg [x], .v (.int .i64 k)] σ ν fun r δ => r = .v (.int .i64 (k + 2 * n0)) ∧ δ = noS := by
  obtain ⟨b, o, cap, z, rfl⟩ := hx.out
  refine AC.intro [] ent_27 Try.func27 rfl (by simp [Try.f27]) (by simp) ?_
  intro K s hs hB hn hν hA hFr
  simp only [argT, Nat.zero_add, Nat.reduceAdd]
  have hx' := hx.vw hs.vw
  have hk0 := hk.1
  have hk2 : ¬ (k + 2 * (n0 : Int) < 0) := by omega
  repeat' (first
    | refine AWP.seq ?_
    | refine AWP.block ?_
    | (refine AWP.skip ?_; simp only [thenA, blockA, reduceIte])
    | (refine AWP.exit ?_; simp only [thenA, blockA, eq_self, reduceIte, Nat.reduceEqDiff, Nat.succ_ne_zero])
    | (refine AWP.ret ?_; simp only [thenA, blockA, reduceIte])
    | (refine AWP.region (by rfl) (fun KK hKK => ?_); (repeat (simp (disch := omega) [])); first | (refine hKK _ _ _ ?_; clear hKK KK; simp only [thenA, blockA, reduceIte]) | skip)
    | (refine AWP.if_t ?_ ?_; focus (simp (disch := omega) []; done))
    | (refine AWP.if_f ?_ ?_; focus (simp (disch := omega) []; done)))
  refine aStop_of (heldDefS_c _ _ _ n0 k (hx'.vw ((Vw.refl _).over (by repeat (first | exact Over.refl _ | exact hov | refine Over.upd ?_ hB (by omega) | refine Over.del ?_ hB (by omega))))) hlen hk) ?_
  rintro r δ ⟨rfl, rfl⟩
  (repeat (simp (disch := omega) []))
  first | (refine hKK _ _ _ ?_; clear hKK KK; simp only [thenA, blockA, reduceIte]) | skip
  repeat' (first
    | refine AWP.seq ?_
    | refine AWP.block ?_
    | (refine AWP.skip ?_; simp only [thenA, blockA, reduceIte])
    | (refine AWP.exit ?_; simp only [thenA, blockA, eq_self, reduceIte, Nat.reduceEqDiff, Nat.succ_ne_zero])
    | (refine AWP.ret ?_; simp only [thenA, blockA, reduceIte])
    | (refine AWP.region (by rfl) (fun KK hKK => ?_); (repeat (simp (disch := omega) [hk2])); first | (refine hKK _ _ _ ?_; clear hKK KK; simp only [thenA, blockA, reduceIte]) | skip)
    | (refine AWP.if_t ?_ ?_; focus (simp (disch := omega) [hk2]; done))
    | (refine AWP.if_f ?_ ?_; focus (simp (disch := omega) [hk2]; done)))
  refine ⟨by simp, _, rfl, fin0 ⟨?_, rfl⟩ (by simp [resO, get, nms, nmss]; try (simp [nms, nmss] at hn; simp_all))⟩
  simp [resO, get, ren, rens]
end Go.Proofs.Ythjjfdbkggiaeaa
