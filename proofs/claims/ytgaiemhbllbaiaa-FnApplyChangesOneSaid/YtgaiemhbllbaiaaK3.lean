/- Contracts: the changes from one enumeration to another one, in the program and in the reference; the same meaning. No condition but sizes. -/
import Derived.Test.YtgaiemhbllbaiaaK1
import Derived.Test.YtgaiemhbllbaiaaK2
set_option linter.unusedSimpArgs false
set_option linter.unusedVariables false
namespace Go.Proofs.Ytgaiemhbllbaiaa
open Go Go.RowKit

set_option maxRecDepth 10000 in
set_option maxHeartbeats 8000000 in
theorem differ_c (σ : Sto) (ν : Nat) (x y : AV) (ds es : List Df) (hx : Sl σ x 2 (rowsD ds)) (hy : Sl σ y 2 (rowsD es)) (hl1 : ds.length ≤ 1073741824) (hl2 : es.length ≤ 1073741824) :
    AC Try.prog 58 [x, y] σ ν fun r δ => r = .sl ν 0 (dfL ds es).length none 4 ∧ δ = upd noS ν (blkC (dfL ds es)) := by
  obtain ⟨b, o, cap, z, rfl⟩ := hx.out
  obtain ⟨b2, o2, cap2, z2, rfl⟩ := hy.out
  simp only [rowsD_len] at hx hy ⊢
  refine AC.intro [] ent_58 Try.func58 rfl (by simp [Try.f58]) (by simp) ?_
  intro K s hs hB hn hν hA hFr
  simp only [argT, Nat.zero_add, Nat.reduceAdd]
  have hx' := hx.vw hs.vw
  have hy' := hy.vw hs.vw
  have hbK : b < K := hA b (by simp [nmAs, nmA])
  have hbK2 : b2 < K := hA b2 (by simp [nmAs, nmA])
  have hfin : dfL ds es = ds.filterMap (chD es) ++ ds.filterMap (chT es) ++ es.filterMap (chA ds) := rfl
  have hlA1 := fm_len (chD es) ds
  have hlA2 := fm_len (chT es) ds
  repeat' (first
    | refine AWP.seq ?_
    | refine AWP.block ?_
    | (refine AWP.skip ?_; simp only [thenA, blockA, reduceIte])
    | (refine AWP.exit ?_; simp only [thenA, blockA, eq_self, reduceIte, Nat.reduceEqDiff, Nat.succ_ne_zero])
    | (refine AWP.ret ?_; simp only [thenA, blockA, reduceIte])
    | (refine AWP.region (by rfl) (fun KK hKK => ?_); (repeat (simp (disch := omega) [])); first | (refine hKK _ _ _ ?_; clear hKK KK; simp only [thenA, blockA, reduceIte]) | skip)
    | (refine AWP.draw' mixd (by rfl) (by kernel_rfl) (fun KK tab hKK htab => ?_); (repeat (simp (disch := omega) [])); first | (refine dEnd_ro ?_ (hKK _ _ _ ?_); (focus (simp; done)); clear htab tab hKK KK; simp only [thenA, blockA, reduceIte]) | (refine dEnd_of ?_ (hKK _ _ _ ?_); (focus (simp only [List.reverse_cons, List.reverse_nil, List.nil_append, List.cons_append, memA, mem1, and_true, true_and]; (repeat' apply And.intro); (all_goals (first | trivial | (refine .inr ⟨?_, ?_⟩ <;> (simp; done)) | (refine .inr ⟨?_, ?_⟩ <;> (simp <;> omega)) | (refine .inl ?_; rw [htab]; kernel_rfl))); done)); clear htab tab hKK KK; simp only [thenA, blockA, reduceIte]) | skip)
    | (refine AWP.if_t ?_ ?_; focus (simp (disch := omega) []; done))
    | (refine AWP.if_f ?_ ?_; focus (simp (disch := omega) []; done)))
  refine AWP.weak (Weak.virt 5 77 4 0 0 0 (by simp) (by omega)) ?_
  refine AWP.loop (fun n τ σ' M => ∃ (k cb : Nat), k ≤ ds.length ∧ n = ds.length - k ∧ τ = [(0, .sl b o ds.length cap z), (1, .sl b2 o2 es.length cap2 z2), (5, .sl cb 0 (([] : List Ch) ++ (ds.take k).filterMap (chD es)).length none 4), (6, .v (.int .i64 k))] ∧ σ' cb = some (blkC (([] : List Ch) ++ (ds.take k).filterMap (chD es))) ∧ K ≤ cb ∧ cb < M ∧ Over s σ')
    ⟨_, _, _, _, ⟨0, K, by omega, rfl, rfl, by simp [rowsC], by omega, by omega, (by repeat (first | exact Over.refl _ | exact hov | refine Over.upd ?_ hB (by omega) | refine Over.del ?_ hB (by omega)))⟩, Weak.tau (by simp [LQ])⟩ ?_
  rintro n τ σ' M ⟨k, cb, hk, rfl, rfl, hc0, hc1, hc2, hov⟩
  have hfl := fm_len (chD es) (ds.take k)
  have htk : (ds.take k).length ≤ ds.length := by simp; omega
  simp only [List.nil_append] at hc0 ⊢
  have hz1 : (((ds.take k).filterMap (chD es)).length + 1) * 40 ≤ 140737488355328 := by omega
  have hz2 : ((ds.take k).filterMap (chD es)).length + 1 ≤ 4611686018427387904 := by omega
  by_cases hlt : k < ds.length
  · obtain ⟨_, rfl, kb, hkb, hat⟩ := hx'.at (i := k) (by rw [rowsD_len]; exact hlt)
    have hrow : (rowsD ds)[k]'(by rw [rowsD_len]; exact hlt) = [.v (.string ds[k].1), .v (.int .i64 ds[k].2)] := by simp [rowsD, rowD]
    rw [hrow] at hat
    have hkb2 := hov _ _ hkb
    by_cases hnx : nameIx es ds[k].1 < 0
    · have he : chD es ds[k] = some (1, ds[k].1, ds[k].2, 0) := if_pos hnx
      have hst0 := fm_take (chD es) hlt
      rw [he] at hst0
      have hst : ([] : List Ch) ++ (ds.take (k + 1)).filterMap (chD es) = (ds.take k).filterMap (chD es) ++ [(1, ds[k].1, ds[k].2, 0)] := by rw [hst0]; simp
      rw [List.nil_append] at hst
      repeat' (first
        | refine AWP.seq ?_
        | refine AWP.block ?_
        | (refine AWP.skip ?_; simp only [thenA, blockA, reduceIte])
        | (refine AWP.exit ?_; simp only [thenA, blockA, eq_self, reduceIte, Nat.reduceEqDiff, Nat.succ_ne_zero])
        | (refine AWP.ret ?_; simp only [thenA, blockA, reduceIte])
        | (refine AWP.region (by rfl) (fun KK hKK => ?_); (repeat (simp (disch := omega) [hlt, hkb2, hat])); first | (refine hKK _ _ _ ?_; clear hKK KK; simp only [thenA, blockA, reduceIte]) | skip)
        | (refine AWP.draw' mixd (by rfl) (by kernel_rfl) (fun KK tab hKK htab => ?_); (repeat (simp (disch := omega) [hlt, hkb2, hat])); first | (refine dEnd_ro ?_ (hKK _ _ _ ?_); (focus (simp; done)); clear htab tab hKK KK; simp only [thenA, blockA, reduceIte]) | (refine dEnd_of ?_ (hKK _ _ _ ?_); (focus (simp only [List.reverse_cons, List.reverse_nil, List.nil_append, List.cons_append, memA, mem1, and_true, true_and]; (repeat' apply And.intro); (all_goals (first | trivial | (refine .inr ⟨?_, ?_⟩ <;> (simp; done)) | (refine .inr ⟨?_, ?_⟩ <;> (simp <;> omega)) | (refine .inl ?_; rw [htab]; kernel_rfl))); done)); clear htab tab hKK KK; simp only [thenA, blockA, reduceIte]) | skip)
        | (refine AWP.if_t ?_ ?_; focus (simp (disch := omega) [hlt, hkb2, hat]; done))
        | (refine AWP.if_f ?_ ?_; focus (simp (disch := omega) [hlt, hkb2, hat]; done)))
      refine aStop_of (indexOf_c _ _ _ es _ (hy'.vw ((Vw.refl _).over (by repeat (first | exact Over.refl _ | exact hov | refine Over.upd ?_ hB (by omega) | refine Over.del ?_ hB (by omega))))) (by omega)) ?_
      rintro r δ ⟨rfl, rfl⟩
      (repeat (simp (disch := omega) [hnx, hlt, hkb2, hat]))
      first | (refine hKK _ _ _ ?_; clear hKK KK; simp only [thenA, blockA, reduceIte]) | skip
      repeat' (first
        | refine AWP.seq ?_
        | refine AWP.block ?_
        | (refine AWP.skip ?_; simp only [thenA, blockA, reduceIte])
        | (refine AWP.exit ?_; simp only [thenA, blockA, eq_self, reduceIte, Nat.reduceEqDiff, Nat.succ_ne_zero])
        | (refine AWP.ret ?_; simp only [thenA, blockA, reduceIte])
        | (refine AWP.region (by rfl) (fun KK hKK => ?_); (repeat (simp (disch := omega) [hnx, hlt, hkb2, hat, elems, rowsC_len, rowsC_snoc, rowsC_take, hz1, hz2, hc0])); first | (refine hKK _ _ _ ?_; clear hKK KK; simp only [thenA, blockA, reduceIte]) | skip)
        | (refine AWP.draw' mixd (by rfl) (by kernel_rfl) (fun KK tab hKK htab => ?_); (repeat (simp (disch := omega) [hnx, hlt, hkb2, hat, elems, rowsC_len, rowsC_snoc, rowsC_take, hz1, hz2, hc0])); first | (refine dEnd_ro ?_ (hKK _ _ _ ?_); (focus (simp; done)); clear htab tab hKK KK; simp only [thenA, blockA, reduceIte]) | (refine dEnd_of ?_ (hKK _ _ _ ?_); (focus (simp only [List.reverse_cons, List.reverse_nil, List.nil_append, List.cons_append, memA, mem1, and_true, true_and]; (repeat' apply And.intro); (all_goals (first | trivial | (refine .inr ⟨?_, ?_⟩ <;> (simp; done)) | (refine .inr ⟨?_, ?_⟩ <;> (simp <;> omega)) | (refine .inl ?_; rw [htab]; kernel_rfl))); done)); clear htab tab hKK KK; simp only [thenA, blockA, reduceIte]) | skip)
        | (refine AWP.if_t ?_ ?_; focus (simp (disch := omega) [hnx, hlt, hkb2, hat, elems, rowsC_len, rowsC_snoc, rowsC_take, hz1, hz2, hc0]; done))
        | (refine AWP.if_f ?_ ?_; focus (simp (disch := omega) [hnx, hlt, hkb2, hat, elems, rowsC_len, rowsC_snoc, rowsC_take, hz1, hz2, hc0]; done)))
      refine ⟨_, _, _, _, ?_, ⟨k + 1, M + 2 + 26, by omega, rfl, rfl, by rw [hst]; simp (disch := omega) only [upd_eq, upd_ne, del_ne], by omega, by omega, (by repeat (first | exact Over.refl _ | exact hov | refine Over.upd ?_ hB (by omega) | refine Over.del ?_ hB (by omega)))⟩, Weak.tau (by rw [hst]; simp [LQ])⟩
      omega
    · have he : chD es ds[k] = none := if_neg hnx
      have hst0 := fm_take (chD es) hlt
      rw [he] at hst0
      have hst : ([] : List Ch) ++ (ds.take (k + 1)).filterMap (chD es) = (ds.take k).filterMap (chD es) := by rw [hst0]; simp
      rw [List.nil_append] at hst
      repeat' (first
        | refine AWP.seq ?_
        | refine AWP.block ?_
        | (refine AWP.skip ?_; simp only [thenA, blockA, reduceIte])
        | (refine AWP.exit ?_; simp only [thenA, blockA, eq_self, reduceIte, Nat.reduceEqDiff, Nat.succ_ne_zero])
        | (refine AWP.ret ?_; simp only [thenA, blockA, reduceIte])
        | (refine AWP.region (by rfl) (fun KK hKK => ?_); (repeat (simp (disch := omega) [hlt, hkb2, hat])); first | (refine hKK _ _ _ ?_; clear hKK KK; simp only [thenA, blockA, reduceIte]) | skip)
        | (refine AWP.draw' mixd (by rfl) (by kernel_rfl) (fun KK tab hKK htab => ?_); (repeat (simp (disch := omega) [hlt, hkb2, hat])); first | (refine dEnd_ro ?_ (hKK _ _ _ ?_); (focus (simp; done)); clear htab tab hKK KK; simp only [thenA, blockA, reduceIte]) | (refine dEnd_of ?_ (hKK _ _ _ ?_); (focus (simp only [List.reverse_cons, List.reverse_nil, List.nil_append, List.cons_append, memA, mem1, and_true, true_and]; (repeat' apply And.intro); (all_goals (first | trivial | (refine .inr ⟨?_, ?_⟩ <;> (simp; done)) | (refine .inr ⟨?_, ?_⟩ <;> (simp <;> omega)) | (refine .inl ?_; rw [htab]; kernel_rfl))); done)); clear htab tab hKK KK; simp only [thenA, blockA, reduceIte]) | skip)
        | (refine AWP.if_t ?_ ?_; focus (simp (disch := omega) [hlt, hkb2, hat]; done))
        | (refine AWP.if_f ?_ ?_; focus (simp (disch := omega) [hlt, hkb2, hat]; done)))
      refine aStop_of (indexOf_c _ _ _ es _ (hy'.vw ((Vw.refl _).over (by repeat (first | exact Over.refl _ | exact hov | refine Over.upd ?_ hB (by omega) | refine Over.del ?_ hB (by omega))))) (by omega)) ?_
      rintro r δ ⟨rfl, rfl⟩
      (repeat (simp (disch := omega) [hnx]))
      first | (refine hKK _ _ _ ?_; clear hKK KK; simp only [thenA, blockA, reduceIte]) | skip
      repeat' (first
        | refine AWP.seq ?_
        | refine AWP.block ?_
        | (refine AWP.skip ?_; simp only [thenA, blockA, reduceIte])
        | (refine AWP.exit ?_; simp only [thenA, blockA, eq_self, reduceIte, Nat.reduceEqDiff, Nat.succ_ne_zero])
        | (refine AWP.ret ?_; simp only [thenA, blockA, reduceIte])
        | (refine AWP.region (by rfl) (fun KK hKK => ?_); (repeat (simp (disch := omega) [hnx, hlt])); first | (refine hKK _ _ _ ?_; clear hKK KK; simp only [thenA, blockA, reduceIte]) | skip)
        | (refine AWP.draw' mixd (by rfl) (by kernel_rfl) (fun KK tab hKK htab => ?_); (repeat (simp (disch := omega) [hnx, hlt])); first | (refine dEnd_ro ?_ (hKK _ _ _ ?_); (focus (simp; done)); clear htab tab hKK KK; simp only [thenA, blockA, reduceIte]) | (refine dEnd_of ?_ (hKK _ _ _ ?_); (focus (simp only [List.reverse_cons, List.reverse_nil, List.nil_append, List.cons_append, memA, mem1, and_true, true_and]; (repeat' apply And.intro); (all_goals (first | trivial | (refine .inr ⟨?_, ?_⟩ <;> (simp; done)) | (refine .inr ⟨?_, ?_⟩ <;> (simp <;> omega)) | (refine .inl ?_; rw [htab]; kernel_rfl))); done)); clear htab tab hKK KK; simp only [thenA, blockA, reduceIte]) | skip)
        | (refine AWP.if_t ?_ ?_; focus (simp (disch := omega) [hnx, hlt]; done))
        | (refine AWP.if_f ?_ ?_; focus (simp (disch := omega) [hnx, hlt]; done)))
      refine ⟨_, _, _, _, ?_, ⟨k + 1, cb, by omega, rfl, rfl, by rw [hst]; simp (disch := omega) only [upd_eq, upd_ne, del_ne, hc0], by omega, by omega, (by repeat (first | exact Over.refl _ | exact hov | refine Over.upd ?_ hB (by omega) | refine Over.del ?_ hB (by omega)))⟩, Weak.tau (by rw [hst]; simp [LQ])⟩
      omega
  · have hk' : k = ds.length := by omega
    subst hk'
    rw [List.take_length] at *
    generalize ds.filterMap (chD es) = A1 at *
    repeat' (first
      | refine AWP.seq ?_
      | refine AWP.block ?_
      | (refine AWP.skip ?_; simp only [thenA, blockA, reduceIte])
      | (refine AWP.exit ?_; simp only [thenA, blockA, eq_self, reduceIte, Nat.reduceEqDiff, Nat.succ_ne_zero])
      | (refine AWP.ret ?_; simp only [thenA, blockA, reduceIte])
      | (refine AWP.region (by rfl) (fun KK hKK => ?_); (repeat (simp (disch := omega) [hlt])); first | (refine hKK _ _ _ ?_; clear hKK KK; simp only [thenA, blockA, reduceIte]) | skip)
      | (refine AWP.draw' mixd (by rfl) (by kernel_rfl) (fun KK tab hKK htab => ?_); (repeat (simp (disch := omega) [hlt])); first | (refine dEnd_ro ?_ (hKK _ _ _ ?_); (focus (simp; done)); clear htab tab hKK KK; simp only [thenA, blockA, reduceIte]) | (refine dEnd_of ?_ (hKK _ _ _ ?_); (focus (simp only [List.reverse_cons, List.reverse_nil, List.nil_append, List.cons_append, memA, mem1, and_true, true_and]; (repeat' apply And.intro); (all_goals (first | trivial | (refine .inr ⟨?_, ?_⟩ <;> (simp; done)) | (refine .inr ⟨?_, ?_⟩ <;> (simp <;> omega)) | (refine .inl ?_; rw [htab]; kernel_rfl))); done)); clear htab tab hKK KK; simp only [thenA, blockA, reduceIte]) | skip)
      | (refine AWP.if_t ?_ ?_; focus (simp (disch := omega) [hlt]; done))
      | (refine AWP.if_f ?_ ?_; focus (simp (disch := omega) [hlt]; done)))
    refine AWP.loop (fun n τ σ' M => ∃ (k cb : Nat), k ≤ ds.length ∧ n = ds.length - k ∧ τ = [(0, .sl b o ds.length cap z), (1, .sl b2 o2 es.length cap2 z2), (5, .sl cb 0 (A1 ++ (ds.take k).filterMap (chT es)).length none 4), (7, .v (.int .i64 k))] ∧ σ' cb = some (blkC (A1 ++ (ds.take k).filterMap (chT es))) ∧ K ≤ cb ∧ cb < M ∧ Over s σ')
      ⟨_, _, _, _, ⟨0, cb, by omega, rfl, rfl, ?_, hc1, hc2, hov⟩, Weak.tau ?_⟩ ?_
    · simp [hc0]
    · simp [LQ]
    clear hfl htk hc0 hc1 hc2 hov hz1 hz2
    rintro n τ σ' M ⟨k, cb, hk, rfl, rfl, hc0, hc1, hc2, hov⟩
    have hfl := fm_len (chT es) (ds.take k)
    have htk : (ds.take k).length ≤ ds.length := by simp; omega
    have hle : (A1 ++ (ds.take k).filterMap (chT es)).length ≤ 2147483648 := by rw [List.length_append]; omega
    have hz1 : ((A1 ++ (ds.take k).filterMap (chT es)).length + 1) * 40 ≤ 140737488355328 := by generalize (A1 ++ (ds.take k).filterMap (chT es)).length = q at hle ⊢; omega
    have hz2 : (A1 ++ (ds.take k).filterMap (chT es)).length + 1 ≤ 4611686018427387904 := by generalize (A1 ++ (ds.take k).filterMap (chT es)).length = q at hle ⊢; omega
    by_cases hlt : k < ds.length
    · obtain ⟨_, rfl, kb, hkb, hat⟩ := hx'.at (i := k) (by rw [rowsD_len]; exact hlt)
      have hrow : (rowsD ds)[k]'(by rw [rowsD_len]; exact hlt) = [.v (.string ds[k].1), .v (.int .i64 ds[k].2)] := by simp [rowsD, rowD]
      rw [hrow] at hat
      have hkb2 := hov _ _ hkb
      by_cases hnx : nameIx es ds[k].1 < 0
      · have he : chT es ds[k] = none := if_pos hnx
        have hni : ¬ 0 ≤ nameIx es ds[k].1 := by omega
        have hst0 := fm_take (chT es) hlt
        rw [he] at hst0
        have hst : A1 ++ (ds.take (k + 1)).filterMap (chT es) = A1 ++ (ds.take k).filterMap (chT es) := by rw [hst0]; simp
        generalize A1 ++ (ds.take k).filterMap (chT es) = B at *
        repeat' (first
          | refine AWP.seq ?_
          | refine AWP.block ?_
          | (refine AWP.skip ?_; simp only [thenA, blockA, reduceIte])
          | (refine AWP.exit ?_; simp only [thenA, blockA, eq_self, reduceIte, Nat.reduceEqDiff, Nat.succ_ne_zero])
          | (refine AWP.ret ?_; simp only [thenA, blockA, reduceIte])
          | (refine AWP.region (by rfl) (fun KK hKK => ?_); (repeat (simp (disch := omega) [hlt, hkb2, hat])); first | (refine hKK _ _ _ ?_; clear hKK KK; simp only [thenA, blockA, reduceIte]) | skip)
          | (refine AWP.draw' mixd (by rfl) (by kernel_rfl) (fun KK tab hKK htab => ?_); (repeat (simp (disch := omega) [hlt, hkb2, hat])); first | (refine dEnd_ro ?_ (hKK _ _ _ ?_); (focus (simp; done)); clear htab tab hKK KK; simp only [thenA, blockA, reduceIte]) | (refine dEnd_of ?_ (hKK _ _ _ ?_); (focus (simp only [List.reverse_cons, List.reverse_nil, List.nil_append, List.cons_append, memA, mem1, and_true, true_and]; (repeat' apply And.intro); (all_goals (first | trivial | (refine .inr ⟨?_, ?_⟩ <;> (simp; done)) | (refine .inr ⟨?_, ?_⟩ <;> (simp <;> omega)) | (refine .inl ?_; rw [htab]; kernel_rfl))); done)); clear htab tab hKK KK; simp only [thenA, blockA, reduceIte]) | skip)
          | (refine AWP.if_t ?_ ?_; focus (simp (disch := omega) [hlt, hkb2, hat]; done))
          | (refine AWP.if_f ?_ ?_; focus (simp (disch := omega) [hlt, hkb2, hat]; done)))
        refine aStop_of (indexOf_c _ _ _ es _ (hy'.vw ((Vw.refl _).over (by repeat (first | exact Over.refl _ | exact hov | refine Over.upd ?_ hB (by omega) | refine Over.del ?_ hB (by omega))))) (by omega)) ?_
        rintro r δ ⟨rfl, rfl⟩
        (repeat (simp (disch := omega) [hnx, hni]))
        first | (refine hKK _ _ _ ?_; clear hKK KK; simp only [thenA, blockA, reduceIte]) | skip
        repeat' (first
          | refine AWP.seq ?_
          | refine AWP.block ?_
          | (refine AWP.skip ?_; simp only [thenA, blockA, reduceIte])
          | (refine AWP.exit ?_; simp only [thenA, blockA, eq_self, reduceIte, Nat.reduceEqDiff, Nat.succ_ne_zero])
          | (refine AWP.ret ?_; simp only [thenA, blockA, reduceIte])
          | (refine AWP.region (by rfl) (fun KK hKK => ?_); (repeat (simp (disch := omega) [hnx, hni, hlt])); first | (refine hKK _ _ _ ?_; clear hKK KK; simp only [thenA, blockA, reduceIte]) | skip)
          | (refine AWP.draw' mixd (by rfl) (by kernel_rfl) (fun KK tab hKK htab => ?_); (repeat (simp (disch := omega) [hnx, hni, hlt])); first | (refine dEnd_ro ?_ (hKK _ _ _ ?_); (focus (simp; done)); clear htab tab hKK KK; simp only [thenA, blockA, reduceIte]) | (refine dEnd_of ?_ (hKK _ _ _ ?_); (focus (simp only [List.reverse_cons, List.reverse_nil, List.nil_append, List.cons_append, memA, mem1, and_true, true_and]; (repeat' apply And.intro); (all_goals (first | trivial | (refine .inr ⟨?_, ?_⟩ <;> (simp; done)) | (refine .inr ⟨?_, ?_⟩ <;> (simp <;> omega)) | (refine .inl ?_; rw [htab]; kernel_rfl))); done)); clear htab tab hKK KK; simp only [thenA, blockA, reduceIte]) | skip)
          | (refine AWP.if_t ?_ ?_; focus (simp (disch := omega) [hnx, hni, hlt]; done))
          | (refine AWP.if_f ?_ ?_; focus (simp (disch := omega) [hnx, hni, hlt]; done)))
        refine ⟨_, _, _, _, ?_, ⟨k + 1, cb, by omega, rfl, rfl, by rw [hst]; simp (disch := omega) only [upd_eq, upd_ne, del_ne, hc0], by omega, by omega, (by repeat (first | exact Over.refl _ | exact hov | refine Over.upd ?_ hB (by omega) | refine Over.del ?_ hB (by omega)))⟩, Weak.tau (by rw [hst]; simp [LQ])⟩
        omega
      · obtain ⟨i, hi, e1, e2, e3⟩ := name_mem hnx
        have hni : 0 ≤ nameIx es ds[k].1 := by omega
        obtain ⟨_, rfl, kb3, hkb3, hat3⟩ := hy'.at (i := i) (by rw [rowsD_len]; exact hi)
        have hrow3 : (rowsD es)[i]'(by rw [rowsD_len]; exact hi) = [.v (.string es[i].1), .v (.int .i64 es[i].2)] := by simp [rowsD, rowD]
        rw [hrow3] at hat3
        have hkb4 := hov _ _ hkb3
        by_cases hv : es[i].2 = ds[k].2
        · have he : chT es ds[k] = none := by unfold chT; rw [if_neg hnx, e3, if_pos hv]
          have hst0 := fm_take (chT es) hlt
          rw [he] at hst0
          have hst : A1 ++ (ds.take (k + 1)).filterMap (chT es) = A1 ++ (ds.take k).filterMap (chT es) := by rw [hst0]; simp
          generalize A1 ++ (ds.take k).filterMap (chT es) = B at *
          repeat' (first
            | refine AWP.seq ?_
            | refine AWP.block ?_
            | (refine AWP.skip ?_; simp only [thenA, blockA, reduceIte])
            | (refine AWP.exit ?_; simp only [thenA, blockA, eq_self, reduceIte, Nat.reduceEqDiff, Nat.succ_ne_zero])
            | (refine AWP.ret ?_; simp only [thenA, blockA, reduceIte])
            | (refine AWP.region (by rfl) (fun KK hKK => ?_); (repeat (simp (disch := omega) [hlt, hkb2, hat])); first | (refine hKK _ _ _ ?_; clear hKK KK; simp only [thenA, blockA, reduceIte]) | skip)
            | (refine AWP.draw' mixd (by rfl) (by kernel_rfl) (fun KK tab hKK htab => ?_); (repeat (simp (disch := omega) [hlt, hkb2, hat])); first | (refine dEnd_ro ?_ (hKK _ _ _ ?_); (focus (simp; done)); clear htab tab hKK KK; simp only [thenA, blockA, reduceIte]) | (refine dEnd_of ?_ (hKK _ _ _ ?_); (focus (simp only [List.reverse_cons, List.reverse_nil, List.nil_append, List.cons_append, memA, mem1, and_true, true_and]; (repeat' apply And.intro); (all_goals (first | trivial | (refine .inr ⟨?_, ?_⟩ <;> (simp; done)) | (refine .inr ⟨?_, ?_⟩ <;> (simp <;> omega)) | (refine .inl ?_; rw [htab]; kernel_rfl))); done)); clear htab tab hKK KK; simp only [thenA, blockA, reduceIte]) | skip)
            | (refine AWP.if_t ?_ ?_; focus (simp (disch := omega) [hlt, hkb2, hat]; done))
            | (refine AWP.if_f ?_ ?_; focus (simp (disch := omega) [hlt, hkb2, hat]; done)))
          refine aStop_of (indexOf_c _ _ _ es _ (hy'.vw ((Vw.refl _).over (by repeat (first | exact Over.refl _ | exact hov | refine Over.upd ?_ hB (by omega) | refine Over.del ?_ hB (by omega))))) (by omega)) ?_
          rintro r δ ⟨rfl, rfl⟩
          (repeat (simp (disch := omega) [e1, hi, hlt, hkb2, hat, hkb4, hat3, hv]))
          first | (refine hKK _ _ _ ?_; clear hKK KK; simp only [thenA, blockA, reduceIte]) | skip
          repeat' (first
            | refine AWP.seq ?_
            | refine AWP.block ?_
            | (refine AWP.skip ?_; simp only [thenA, blockA, reduceIte])
            | (refine AWP.exit ?_; simp only [thenA, blockA, eq_self, reduceIte, Nat.reduceEqDiff, Nat.succ_ne_zero])
            | (refine AWP.ret ?_; simp only [thenA, blockA, reduceIte])
            | (refine AWP.region (by rfl) (fun KK hKK => ?_); (repeat (simp (disch := omega) [e1, hi, hlt, hkb2, hat, hkb4, hat3, hv])); first | (refine hKK _ _ _ ?_; clear hKK KK; simp only [thenA, blockA, reduceIte]) | skip)
            | (refine AWP.draw' mixd (by rfl) (by kernel_rfl) (fun KK tab hKK htab => ?_); (repeat (simp (disch := omega) [e1, hi, hlt, hkb2, hat, hkb4, hat3, hv])); first | (refine dEnd_ro ?_ (hKK _ _ _ ?_); (focus (simp; done)); clear htab tab hKK KK; simp only [thenA, blockA, reduceIte]) | (refine dEnd_of ?_ (hKK _ _ _ ?_); (focus (simp only [List.reverse_cons, List.reverse_nil, List.nil_append, List.cons_append, memA, mem1, and_true, true_and]; (repeat' apply And.intro); (all_goals (first | trivial | (refine .inr ⟨?_, ?_⟩ <;> (simp; done)) | (refine .inr ⟨?_, ?_⟩ <;> (simp <;> omega)) | (refine .inl ?_; rw [htab]; kernel_rfl))); done)); clear htab tab hKK KK; simp only [thenA, blockA, reduceIte]) | skip)
            | (refine AWP.if_t ?_ ?_; focus (simp (disch := omega) [e1, hi, hlt, hkb2, hat, hkb4, hat3, hv]; done))
            | (refine AWP.if_f ?_ ?_; focus (simp (disch := omega) [e1, hi, hlt, hkb2, hat, hkb4, hat3, hv]; done)))
          refine ⟨_, _, _, _, ?_, ⟨k + 1, cb, by omega, rfl, rfl, by rw [hst]; simp (disch := omega) only [upd_eq, upd_ne, del_ne, hc0], by omega, by omega, (by repeat (first | exact Over.refl _ | exact hov | refine Over.upd ?_ hB (by omega) | refine Over.del ?_ hB (by omega)))⟩, Weak.tau (by rw [hst]; simp [LQ])⟩
          omega
        · have he : chT es ds[k] = some (2, ds[k].1, ds[k].2, es[i].2) := by unfold chT; rw [if_neg hnx, e3, if_neg hv]
          have hst0 := fm_take (chT es) hlt
          rw [he] at hst0
          have hst : A1 ++ (ds.take (k + 1)).filterMap (chT es) = A1 ++ (ds.take k).filterMap (chT es) ++ [(2, ds[k].1, ds[k].2, es[i].2)] := by rw [hst0]; simp
          generalize A1 ++ (ds.take k).filterMap (chT es) = B at *
          repeat' (first
            | refine AWP.seq ?_
            | refine AWP.block ?_
            | (refine AWP.skip ?_; simp only [thenA, blockA, reduceIte])
            | (refine AWP.exit ?_; simp only [thenA, blockA, eq_self, reduceIte, Nat.reduceEqDiff, Nat.succ_ne_zero])
            | (refine AWP.ret ?_; simp only [thenA, blockA, reduceIte])
            | (refine AWP.region (by rfl) (fun KK hKK => ?_); (repeat (simp (disch := omega) [hlt, hkb2, hat])); first | (refine hKK _ _ _ ?_; clear hKK KK; simp only [thenA, blockA, reduceIte]) | skip)
            | (refine AWP.draw' mixd (by rfl) (by kernel_rfl) (fun KK tab hKK htab => ?_); (repeat (simp (disch := omega) [hlt, hkb2, hat])); first | (refine dEnd_ro ?_ (hKK _ _ _ ?_); (focus (simp; done)); clear htab tab hKK KK; simp only [thenA, blockA, reduceIte]) | (refine dEnd_of ?_ (hKK _ _ _ ?_); (focus (simp only [List.reverse_cons, List.reverse_nil, List.nil_append, List.cons_append, memA, mem1, and_true, true_and]; (repeat' apply And.intro); (all_goals (first | trivial | (refine .inr ⟨?_, ?_⟩ <;> (simp; done)) | (refine .inr ⟨?_, ?_⟩ <;> (simp <;> omega)) | (refine .inl ?_; rw [htab]; kernel_rfl))); done)); clear htab tab hKK KK; simp only [thenA, blockA, reduceIte]) | skip)
            | (refine AWP.if_t ?_ ?_; focus (simp (disch := omega) [hlt, hkb2, hat]; done))
            | (refine AWP.if_f ?_ ?_; focus (simp (disch := omega) [hlt, hkb2, hat]; done)))
          refine aStop_of (indexOf_c _ _ _ es _ (hy'.vw ((Vw.refl _).over (by repeat (first | exact Over.refl _ | exact hov | refine Over.upd ?_ hB (by omega) | refine Over.del ?_ hB (by omega))))) (by omega)) ?_
          rintro r δ ⟨rfl, rfl⟩
          (repeat (simp (disch := omega) [e1, hi, hlt, hkb2, hat, hkb4, hat3, hv]))
          first | (refine hKK _ _ _ ?_; clear hKK KK; simp only [thenA, blockA, reduceIte]) | skip
          repeat' (first
            | refine AWP.seq ?_
            | refine AWP.block ?_
            | (refine AWP.skip ?_; simp only [thenA, blockA, reduceIte])
            | (refine AWP.exit ?_; simp only [thenA, blockA, eq_self, reduceIte, Nat.reduceEqDiff, Nat.succ_ne_zero])
            | (refine AWP.ret ?_; simp only [thenA, blockA, reduceIte])
            | (refine AWP.region (by rfl) (fun KK hKK => ?_); (repeat (simp (disch := omega) [e1, hi, hlt, hkb2, hat, hkb4, hat3, hv, elems, rowsC_len, rowsC_snoc, rowsC_take, hz1, hz2, hc0])); first | (refine hKK _ _ _ ?_; clear hKK KK; simp only [thenA, blockA, reduceIte]) | skip)
            | (refine AWP.draw' mixd (by rfl) (by kernel_rfl) (fun KK tab hKK htab => ?_); (repeat (simp (disch := omega) [e1, hi, hlt, hkb2, hat, hkb4, hat3, hv, elems, rowsC_len, rowsC_snoc, rowsC_take, hz1, hz2, hc0])); first | (refine dEnd_ro ?_ (hKK _ _ _ ?_); (focus (simp; done)); clear htab tab hKK KK; simp only [thenA, blockA, reduceIte]) | (refine dEnd_of ?_ (hKK _ _ _ ?_); (focus (simp only [List.reverse_cons, List.reverse_nil, List.nil_append, List.cons_append, memA, mem1, and_true, true_and]; (repeat' apply And.intro); (all_goals (first | trivial | (refine .inr ⟨?_, ?_⟩ <;> (simp; done)) | (refine .inr ⟨?_, ?_⟩ <;> (simp <;> omega)) | (refine .inl ?_; rw [htab]; kernel_rfl))); done)); clear htab tab hKK KK; simp only [thenA, blockA, reduceIte]) | skip)
            | (refine AWP.if_t ?_ ?_; focus (simp (disch := omega) [e1, hi, hlt, hkb2, hat, hkb4, hat3, hv, elems, rowsC_len, rowsC_snoc, rowsC_take, hz1, hz2, hc0]; done))
            | (refine AWP.if_f ?_ ?_; focus (simp (disch := omega) [e1, hi, hlt, hkb2, hat, hkb4, hat3, hv, elems, rowsC_len, rowsC_snoc, rowsC_take, hz1, hz2, hc0]; done)))
          refine ⟨_, _, _, _, ?_, ⟨k + 1, M + 2 + 30 + 36, by omega, rfl, rfl, by rw [hst]; simp (disch := omega) only [upd_eq, upd_ne, del_ne], by omega, by omega, (by repeat (first | exact Over.refl _ | exact hov | refine Over.upd ?_ hB (by omega) | refine Over.del ?_ hB (by omega)))⟩, Weak.tau (by rw [hst]; simp [LQ])⟩
          omega
    · have hk' : k = ds.length := by omega
      subst hk'
      rw [List.take_length] at *
      generalize ds.filterMap (chT es) = A2 at *
      repeat' (first
        | refine AWP.seq ?_
        | refine AWP.block ?_
        | (refine AWP.skip ?_; simp only [thenA, blockA, reduceIte])
        | (refine AWP.exit ?_; simp only [thenA, blockA, eq_self, reduceIte, Nat.reduceEqDiff, Nat.succ_ne_zero])
        | (refine AWP.ret ?_; simp only [thenA, blockA, reduceIte])
        | (refine AWP.region (by rfl) (fun KK hKK => ?_); (repeat (simp (disch := omega) [hlt])); first | (refine hKK _ _ _ ?_; clear hKK KK; simp only [thenA, blockA, reduceIte]) | skip)
        | (refine AWP.draw' mixd (by rfl) (by kernel_rfl) (fun KK tab hKK htab => ?_); (repeat (simp (disch := omega) [hlt])); first | (refine dEnd_ro ?_ (hKK _ _ _ ?_); (focus (simp; done)); clear htab tab hKK KK; simp only [thenA, blockA, reduceIte]) | (refine dEnd_of ?_ (hKK _ _ _ ?_); (focus (simp only [List.reverse_cons, List.reverse_nil, List.nil_append, List.cons_append, memA, mem1, and_true, true_and]; (repeat' apply And.intro); (all_goals (first | trivial | (refine .inr ⟨?_, ?_⟩ <;> (simp; done)) | (refine .inr ⟨?_, ?_⟩ <;> (simp <;> omega)) | (refine .inl ?_; rw [htab]; kernel_rfl))); done)); clear htab tab hKK KK; simp only [thenA, blockA, reduceIte]) | skip)
        | (refine AWP.if_t ?_ ?_; focus (simp (disch := omega) [hlt]; done))
        | (refine AWP.if_f ?_ ?_; focus (simp (disch := omega) [hlt]; done)))
      refine AWP.loop (fun n τ σ' M => ∃ (k cb : Nat), k ≤ es.length ∧ n = es.length - k ∧ τ = [(0, .sl b o ds.length cap z), (1, .sl b2 o2 es.length cap2 z2), (5, .sl cb 0 ((A1 ++ A2) ++ (es.take k).filterMap (chA ds)).length none 4), (9, .v (.int .i64 k))] ∧ σ' cb = some (blkC ((A1 ++ A2) ++ (es.take k).filterMap (chA ds))) ∧ K ≤ cb ∧ cb < M ∧ Over s σ')
        ⟨_, _, _, _, ⟨0, cb, by omega, rfl, rfl, ?_, hc1, hc2, hov⟩, Weak.tau ?_⟩ ?_
      · simp [hc0]
      · simp [LQ]
      clear hfl htk hc0 hc1 hc2 hov hz1 hz2
      rintro n τ σ' M ⟨k, cb, hk, rfl, rfl, hc0, hc1, hc2, hov⟩
      have hfl := fm_len (chA ds) (es.take k)
      have htk : (es.take k).length ≤ es.length := by simp; omega
      have hle : (A1 ++ A2 ++ (es.take k).filterMap (chA ds)).length ≤ 3221225472 := by rw [List.length_append, List.length_append]; omega
      have hz1 : ((A1 ++ A2 ++ (es.take k).filterMap (chA ds)).length + 1) * 40 ≤ 140737488355328 := by generalize (A1 ++ A2 ++ (es.take k).filterMap (chA ds)).length = q at hle ⊢; omega
      have hz2 : (A1 ++ A2 ++ (es.take k).filterMap (chA ds)).length + 1 ≤ 4611686018427387904 := by generalize (A1 ++ A2 ++ (es.take k).filterMap (chA ds)).length = q at hle ⊢; omega
      by_cases hlt : k < es.length
      · obtain ⟨_, rfl, kb3, hkb3, hat3⟩ := hy'.at (i := k) (by rw [rowsD_len]; exact hlt)
        have hrow3 : (rowsD es)[k]'(by rw [rowsD_len]; exact hlt) = [.v (.string es[k].1), .v (.int .i64 es[k].2)] := by simp [rowsD, rowD]
        rw [hrow3] at hat3
        have hkb4 := hov _ _ hkb3
        by_cases hnx : nameIx ds es[k].1 < 0
        · have he : chA ds es[k] = some (0, es[k].1, 0, es[k].2) := if_pos hnx
          have hst0 := fm_take (chA ds) hlt
          rw [he] at hst0
          have hst : (A1 ++ A2) ++ (es.take (k + 1)).filterMap (chA ds) = A1 ++ A2 ++ (es.take k).filterMap (chA ds) ++ [(0, es[k].1, 0, es[k].2)] := by rw [hst0]; simp
          generalize A1 ++ A2 ++ (es.take k).filterMap (chA ds) = B at *
          repeat' (first
            | refine AWP.seq ?_
            | refine AWP.block ?_
            | (refine AWP.skip ?_; simp only [thenA, blockA, reduceIte])
            | (refine AWP.exit ?_; simp only [thenA, blockA, eq_self, reduceIte, Nat.reduceEqDiff, Nat.succ_ne_zero])
            | (refine AWP.ret ?_; simp only [thenA, blockA, reduceIte])
            | (refine AWP.region (by rfl) (fun KK hKK => ?_); (repeat (simp (disch := omega) [hlt, hkb4, hat3])); first | (refine hKK _ _ _ ?_; clear hKK KK; simp only [thenA, blockA, reduceIte]) | skip)
            | (refine AWP.draw' mixd (by rfl) (by kernel_rfl) (fun KK tab hKK htab => ?_); (repeat (simp (disch := omega) [hlt, hkb4, hat3])); first | (refine dEnd_ro ?_ (hKK _ _ _ ?_); (focus (simp; done)); clear htab tab hKK KK; simp only [thenA, blockA, reduceIte]) | (refine dEnd_of ?_ (hKK _ _ _ ?_); (focus (simp only [List.reverse_cons, List.reverse_nil, List.nil_append, List.cons_append, memA, mem1, and_true, true_and]; (repeat' apply And.intro); (all_goals (first | trivial | (refine .inr ⟨?_, ?_⟩ <;> (simp; done)) | (refine .inr ⟨?_, ?_⟩ <;> (simp <;> omega)) | (refine .inl ?_; rw [htab]; kernel_rfl))); done)); clear htab tab hKK KK; simp only [thenA, blockA, reduceIte]) | skip)
            | (refine AWP.if_t ?_ ?_; focus (simp (disch := omega) [hlt, hkb4, hat3]; done))
            | (refine AWP.if_f ?_ ?_; focus (simp (disch := omega) [hlt, hkb4, hat3]; done)))
          refine aStop_of (indexOf_c _ _ _ ds _ (hx'.vw ((Vw.refl _).over (by repeat (first | exact Over.refl _ | exact hov | refine Over.upd ?_ hB (by omega) | refine Over.del ?_ hB (by omega))))) (by omega)) ?_
          rintro r δ ⟨rfl, rfl⟩
          (repeat (simp (disch := omega) [hnx, hlt, hkb4, hat3]))
          first | (refine hKK _ _ _ ?_; clear hKK KK; simp only [thenA, blockA, reduceIte]) | skip
          repeat' (first
            | refine AWP.seq ?_
            | refine AWP.block ?_
            | (refine AWP.skip ?_; simp only [thenA, blockA, reduceIte])
            | (refine AWP.exit ?_; simp only [thenA, blockA, eq_self, reduceIte, Nat.reduceEqDiff, Nat.succ_ne_zero])
            | (refine AWP.ret ?_; simp only [thenA, blockA, reduceIte])
            | (refine AWP.region (by rfl) (fun KK hKK => ?_); (repeat (simp (disch := omega) [hnx, hlt, hkb4, hat3, elems, rowsC_len, rowsC_snoc, rowsC_take, hz1, hz2, hc0])); first | (refine hKK _ _ _ ?_; clear hKK KK; simp only [thenA, blockA, reduceIte]) | skip)
            | (refine AWP.draw' mixd (by rfl) (by kernel_rfl) (fun KK tab hKK htab => ?_); (repeat (simp (disch := omega) [hnx, hlt, hkb4, hat3, elems, rowsC_len, rowsC_snoc, rowsC_take, hz1, hz2, hc0])); first | (refine dEnd_ro ?_ (hKK _ _ _ ?_); (focus (simp; done)); clear htab tab hKK KK; simp only [thenA, blockA, reduceIte]) | (refine dEnd_of ?_ (hKK _ _ _ ?_); (focus (simp only [List.reverse_cons, List.reverse_nil, List.nil_append, List.cons_append, memA, mem1, and_true, true_and]; (repeat' apply And.intro); (all_goals (first | trivial | (refine .inr ⟨?_, ?_⟩ <;> (simp; done)) | (refine .inr ⟨?_, ?_⟩ <;> (simp <;> omega)) | (refine .inl ?_; rw [htab]; kernel_rfl))); done)); clear htab tab hKK KK; simp only [thenA, blockA, reduceIte]) | skip)
            | (refine AWP.if_t ?_ ?_; focus (simp (disch := omega) [hnx, hlt, hkb4, hat3, elems, rowsC_len, rowsC_snoc, rowsC_take, hz1, hz2, hc0]; done))
            | (refine AWP.if_f ?_ ?_; focus (simp (disch := omega) [hnx, hlt, hkb4, hat3, elems, rowsC_len, rowsC_snoc, rowsC_take, hz1, hz2, hc0]; done)))
          refine ⟨_, _, _, _, ?_, ⟨k + 1, M + 2 + 26, by omega, rfl, rfl, by rw [hst]; simp (disch := omega) only [upd_eq, upd_ne, del_ne], by omega, by omega, (by repeat (first | exact Over.refl _ | exact hov | refine Over.upd ?_ hB (by omega) | refine Over.del ?_ hB (by omega)))⟩, Weak.tau (by rw [hst]; simp [LQ])⟩
          omega
        · have he : chA ds es[k] = none := if_neg hnx
          have hst0 := fm_take (chA ds) hlt
          rw [he] at hst0
          have hst : (A1 ++ A2) ++ (es.take (k + 1)).filterMap (chA ds) = A1 ++ A2 ++ (es.take k).filterMap (chA ds) := by rw [hst0]; simp
          generalize A1 ++ A2 ++ (es.take k).filterMap (chA ds) = B at *
          repeat' (first
            | refine AWP.seq ?_
            | refine AWP.block ?_
            | (refine AWP.skip ?_; simp only [thenA, blockA, reduceIte])
            | (refine AWP.exit ?_; simp only [thenA, blockA, eq_self, reduceIte, Nat.reduceEqDiff, Nat.succ_ne_zero])
            | (refine AWP.ret ?_; simp only [thenA, blockA, reduceIte])
            | (refine AWP.region (by rfl) (fun KK hKK => ?_); (repeat (simp (disch := omega) [hlt, hkb4, hat3])); first | (refine hKK _ _ _ ?_; clear hKK KK; simp only [thenA, blockA, reduceIte]) | skip)
            | (refine AWP.draw' mixd (by rfl) (by kernel_rfl) (fun KK tab hKK htab => ?_); (repeat (simp (disch := omega) [hlt, hkb4, hat3])); first | (refine dEnd_ro ?_ (hKK _ _ _ ?_); (focus (simp; done)); clear htab tab hKK KK; simp only [thenA, blockA, reduceIte]) | (refine dEnd_of ?_ (hKK _ _ _ ?_); (focus (simp only [List.reverse_cons, List.reverse_nil, List.nil_append, List.cons_append, memA, mem1, and_true, true_and]; (repeat' apply And.intro); (all_goals (first | trivial | (refine .inr ⟨?_, ?_⟩ <;> (simp; done)) | (refine .inr ⟨?_, ?_⟩ <;> (simp <;> omega)) | (refine .inl ?_; rw [htab]; kernel_rfl))); done)); clear htab tab hKK KK; simp only [thenA, blockA, reduceIte]) | skip)
            | (refine AWP.if_t ?_ ?_; focus (simp (disch := omega) [hlt, hkb4, hat3]; done))
            | (refine AWP.if_f ?_ ?_; focus (simp (disch := omega) [hlt, hkb4, hat3]; done)))
          refine aStop_of (indexOf_c _ _ _ ds _ (hx'.vw ((Vw.refl _).over (by repeat (first | exact Over.refl _ | exact hov | refine Over.upd ?_ hB (by omega) | refine Over.del ?_ hB (by omega))))) (by omega)) ?_
          rintro r δ ⟨rfl, rfl⟩
          (repeat (simp (disch := omega) [hnx]))
          first | (refine hKK _ _ _ ?_; clear hKK KK; simp only [thenA, blockA, reduceIte]) | skip
          repeat' (first
            | refine AWP.seq ?_
            | refine AWP.block ?_
            | (refine AWP.skip ?_; simp only [thenA, blockA, reduceIte])
            | (refine AWP.exit ?_; simp only [thenA, blockA, eq_self, reduceIte, Nat.reduceEqDiff, Nat.succ_ne_zero])
            | (refine AWP.ret ?_; simp only [thenA, blockA, reduceIte])
            | (refine AWP.region (by rfl) (fun KK hKK => ?_); (repeat (simp (disch := omega) [hnx, hlt])); first | (refine hKK _ _ _ ?_; clear hKK KK; simp only [thenA, blockA, reduceIte]) | skip)
            | (refine AWP.draw' mixd (by rfl) (by kernel_rfl) (fun KK tab hKK htab => ?_); (repeat (simp (disch := omega) [hnx, hlt])); first | (refine dEnd_ro ?_ (hKK _ _ _ ?_); (focus (simp; done)); clear htab tab hKK KK; simp only [thenA, blockA, reduceIte]) | (refine dEnd_of ?_ (hKK _ _ _ ?_); (focus (simp only [List.reverse_cons, List.reverse_nil, List.nil_append, List.cons_append, memA, mem1, and_true, true_and]; (repeat' apply And.intro); (all_goals (first | trivial | (refine .inr ⟨?_, ?_⟩ <;> (simp; done)) | (refine .inr ⟨?_, ?_⟩ <;> (simp <;> omega)) | (refine .inl ?_; rw [htab]; kernel_rfl))); done)); clear htab tab hKK KK; simp only [thenA, blockA, reduceIte]) | skip)
            | (refine AWP.if_t ?_ ?_; focus (simp (disch := omega) [hnx, hlt]; done))
            | (refine AWP.if_f ?_ ?_; focus (simp (disch := omega) [hnx, hlt]; done)))
          refine ⟨_, _, _, _, ?_, ⟨k + 1, cb, by omega, rfl, rfl, by rw [hst]; simp (disch := omega) only [upd_eq, upd_ne, del_ne, hc0], by omega, by omega, (by repeat (first | exact Over.refl _ | exact hov | refine Over.upd ?_ hB (by omega) | refine Over.del ?_ hB (by omega)))⟩, Weak.tau (by rw [hst]; simp [LQ])⟩
          omega
      · have hk' : k = es.length := by omega
        subst hk'
        rw [List.take_length] at *
        repeat' (first
          | refine AWP.seq ?_
          | refine AWP.block ?_
          | (refine AWP.skip ?_; simp only [thenA, blockA, reduceIte])
          | (refine AWP.exit ?_; simp only [thenA, blockA, eq_self, reduceIte, Nat.reduceEqDiff, Nat.succ_ne_zero])
          | (refine AWP.ret ?_; simp only [thenA, blockA, reduceIte])
          | (refine AWP.region (by rfl) (fun KK hKK => ?_); (repeat (simp (disch := omega) [hlt])); first | (refine hKK _ _ _ ?_; clear hKK KK; simp only [thenA, blockA, reduceIte]) | skip)
          | (refine AWP.draw' mixd (by rfl) (by kernel_rfl) (fun KK tab hKK htab => ?_); (repeat (simp (disch := omega) [hlt])); first | (refine dEnd_ro ?_ (hKK _ _ _ ?_); (focus (simp; done)); clear htab tab hKK KK; simp only [thenA, blockA, reduceIte]) | (refine dEnd_of ?_ (hKK _ _ _ ?_); (focus (simp only [List.reverse_cons, List.reverse_nil, List.nil_append, List.cons_append, memA, mem1, and_true, true_and]; (repeat' apply And.intro); (all_goals (first | trivial | (refine .inr ⟨?_, ?_⟩ <;> (simp; done)) | (refine .inr ⟨?_, ?_⟩ <;> (simp <;> omega)) | (refine .inl ?_; rw [htab]; kernel_rfl))); done)); clear htab tab hKK KK; simp only [thenA, blockA, reduceIte]) | skip)
          | (refine AWP.if_t ?_ ?_; focus (simp (disch := omega) [hlt]; done))
          | (refine AWP.if_f ?_ ?_; focus (simp (disch := omega) [hlt]; done)))
        rw [hfin]
        refine ⟨by simp, _, rfl, fin1 cb (blkC (A1 ++ A2 ++ es.filterMap (chA ds))) (by simp (disch := omega) only [upd_eq, upd_ne, del_ne, hc0]) rfl (flatC _) ⟨by simp [resO, get, ren, rho], rfl⟩ hc1 (by simp [resO, get, nms])⟩
end Go.Proofs.Ytgaiemhbllbaiaa
