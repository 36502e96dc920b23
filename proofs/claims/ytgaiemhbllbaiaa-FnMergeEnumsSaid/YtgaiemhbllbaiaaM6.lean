/- Contracts: MergeEnums in the reference. No condition. -/
import Derived.Test.YtgaiemhbllbaiaaM5
set_option linter.unusedSimpArgs false
set_option linter.unusedVariables false
namespace Go.Proofs.Ytgaiemhbllbaiaa
open Go Go.RowKit

set_option maxRecDepth 10000 in
set_option maxHeartbeats 4000000 in
theorem mergeS_c (σ : Sto) (ν : Nat) (x y : AV) (ds es : List Df) (hx : Sl σ x 2 (rowsD ds)) (hy : Sl σ y 2 (rowsD es)) (hl1 : ds.length ≤ 1073741824) (hl2 : es.length ≤ 1073741824)
    (hs1 : ∀ d ∈ ds, d.1.size ≤ 9223372036854775807) (hs2 : ∀ d ∈ es, d.1.size ≤ 9223372036854775807) :
    AC Try.prog 12 [.agg [x], .agg [y]] σ ν fun r δ => r = .tup [.agg [eOut ν (fun _ => none) (mgO ds es)], .v (.bool (mgO ds es).isSome)] ∧ δ = dOut ν (mgO ds es) := by
  obtain ⟨b, o, cap, z, rfl⟩ := hx.out
  obtain ⟨b2, o2, cap2, z2, rfl⟩ := hy.out
  simp only [rowsD_len] at hx hy ⊢
  cases hok : okDs (-1000) 1000 ds with
  | false =>
    have ho : mgO ds es = none := by unfold mgO; rw [if_neg (by simp [hok])]
    rw [ho, eOut_none, dOut_none]
    refine AC.intro [] ent_12 Try.func12 rfl (by simp [Try.f12]) (by simp) ?_
    intro K s hs hB hn hν hA hFr
    simp only [argT, Nat.zero_add, Nat.reduceAdd]
    have hx' := hx.vw hs.vw
    have hy' := hy.vw hs.vw
    have hK0 : ¬ 0 = K := by omega
    have hK1 : ¬ 0 = K + 1 := by omega
    have hK2 : ¬ 0 = K + 1 + 1 := by omega
    repeat' (first
      | refine AWP.seq ?_
      | refine AWP.block ?_
      | (refine AWP.skip ?_; simp only [thenA, blockA, reduceIte])
      | (refine AWP.exit ?_; simp only [thenA, blockA, eq_self, reduceIte, Nat.reduceEqDiff, Nat.succ_ne_zero])
      | (refine AWP.ret ?_; simp only [thenA, blockA, reduceIte])
      | (refine AWP.region (by rfl) (fun KK hKK => ?_); (repeat (simp (disch := omega) [])); first | (refine hKK _ _ _ ?_; clear hKK KK; simp only [thenA, blockA, reduceIte]) | skip)
      | (refine AWP.draw' mixd (by rfl) (by kernel_rfl) (fun KK tab hKK htab => ?_); (repeat (simp (disch := omega) [])); first | (refine dEnd_ro ?_ (hKK _ _ _ ?_); (focus (simp; done)); clear htab tab hKK KK; simp only [thenA, blockA, reduceIte]) | (refine dEnd_of ?_ (hKK _ _ _ ?_); (focus (simp only [List.reverse_cons, List.reverse_nil, List.nil_append, List.cons_append, memA, mem1, and_true, true_and]; (repeat' apply And.intro); (all_goals (first | trivial | (refine .inr ⟨?_, ?_⟩ <;> (simp; done)) | (refine .inr ⟨?_, ?_⟩ <;> (simp <;> omega)) | (refine .inl ?_; rw [htab]; kernel_rfl))); done)); clear htab tab hKK KK; simp only [thenA, blockA, reduceIte]) | skip)
      | (refine AWP.if_t ?_ ?_; focus (simp (disch := omega) []; done))
      | (refine AWP.if_f ?_ ?_; focus (simp (disch := omega) []; done)))
    refine aStop_of (validEnumS_c _ _ _ ds (hx'.vw ((Vw.refl _).over (by repeat (first | exact Over.refl _ | exact hov | refine Over.upd ?_ hB (by omega) | refine Over.del ?_ hB (by omega))))) (by omega) hs1) ?_
    rintro r δ ⟨rfl, rfl⟩
    (repeat (simp (disch := omega) [hok]))
    first | (refine hKK _ _ _ ?_; clear hKK KK; simp only [thenA, blockA, reduceIte]) | skip
    repeat' (first
      | refine AWP.seq ?_
      | refine AWP.block ?_
      | (refine AWP.skip ?_; simp only [thenA, blockA, reduceIte])
      | (refine AWP.exit ?_; simp only [thenA, blockA, eq_self, reduceIte, Nat.reduceEqDiff, Nat.succ_ne_zero])
      | (refine AWP.ret ?_; simp only [thenA, blockA, reduceIte])
      | (refine AWP.region (by rfl) (fun KK hKK => ?_); (repeat (simp (disch := omega) [])); first | (refine hKK _ _ _ ?_; clear hKK KK; simp only [thenA, blockA, reduceIte]) | skip)
      | (refine AWP.draw' mixd (by rfl) (by kernel_rfl) (fun KK tab hKK htab => ?_); (repeat (simp (disch := omega) [])); first | (refine dEnd_ro ?_ (hKK _ _ _ ?_); (focus (simp; done)); clear htab tab hKK KK; simp only [thenA, blockA, reduceIte]) | (refine dEnd_of ?_ (hKK _ _ _ ?_); (focus (simp only [List.reverse_cons, List.reverse_nil, List.nil_append, List.cons_append, memA, mem1, and_true, true_and]; (repeat' apply And.intro); (all_goals (first | trivial | (refine .inr ⟨?_, ?_⟩ <;> (simp; done)) | (refine .inr ⟨?_, ?_⟩ <;> (simp <;> omega)) | (refine .inl ?_; rw [htab]; kernel_rfl))); done)); clear htab tab hKK KK; simp only [thenA, blockA, reduceIte]) | skip)
      | (refine AWP.if_t ?_ ?_; focus (simp (disch := omega) []; done))
      | (refine AWP.if_f ?_ ?_; focus (simp (disch := omega) []; done)))
    refine ⟨by simp, ?_⟩
    have hres : Try.f12.results.toList = [.cell 4 25, .tmp 5] := rfl
    rw [hres]
    simp (disch := omega) []
    refine fin0 ⟨?_, rfl⟩ (by simp [resO, nms, nmss])
    simp [resO, ren, rens, rho, hK0, hK1, hK2]
  | true =>
    cases hok2 : okDs (-1000) 1000 es with
    | false =>
      have ho : mgO ds es = none := by unfold mgO; rw [if_neg (by simp [hok2])]
      rw [ho, eOut_none, dOut_none]
      refine AC.intro [] ent_12 Try.func12 rfl (by simp [Try.f12]) (by simp) ?_
      intro K s hs hB hn hν hA hFr
      simp only [argT, Nat.zero_add, Nat.reduceAdd]
      have hx' := hx.vw hs.vw
      have hy' := hy.vw hs.vw
      have hK0 : ¬ 0 = K := by omega
      have hK1 : ¬ 0 = K + 1 := by omega
      have hK2 : ¬ 0 = K + 1 + 1 := by omega
      repeat' (first
        | refine AWP.seq ?_
        | refine AWP.block ?_
        | (refine AWP.skip ?_; simp only [thenA, blockA, reduceIte])
        | (refine AWP.exit ?_; simp only [thenA, blockA, eq_self, reduceIte, Nat.reduceEqDiff, Nat.succ_ne_zero])
        | (refine AWP.ret ?_; simp only [thenA, blockA, reduceIte])
        | (refine AWP.region (by rfl) (fun KK hKK => ?_); (repeat (simp (disch := omega) [])); first | (refine hKK _ _ _ ?_; clear hKK KK; simp only [thenA, blockA, reduceIte]) | skip)
        | (refine AWP.draw' mixd (by rfl) (by kernel_rfl) (fun KK tab hKK htab => ?_); (repeat (simp (disch := omega) [])); first | (refine dEnd_ro ?_ (hKK _ _ _ ?_); (focus (simp; done)); clear htab tab hKK KK; simp only [thenA, blockA, reduceIte]) | (refine dEnd_of ?_ (hKK _ _ _ ?_); (focus (simp only [List.reverse_cons, List.reverse_nil, List.nil_append, List.cons_append, memA, mem1, and_true, true_and]; (repeat' apply And.intro); (all_goals (first | trivial | (refine .inr ⟨?_, ?_⟩ <;> (simp; done)) | (refine .inr ⟨?_, ?_⟩ <;> (simp <;> omega)) | (refine .inl ?_; rw [htab]; kernel_rfl))); done)); clear htab tab hKK KK; simp only [thenA, blockA, reduceIte]) | skip)
        | (refine AWP.if_t ?_ ?_; focus (simp (disch := omega) []; done))
        | (refine AWP.if_f ?_ ?_; focus (simp (disch := omega) []; done)))
      refine aStop_of (validEnumS_c _ _ _ ds (hx'.vw ((Vw.refl _).over (by repeat (first | exact Over.refl _ | exact hov | refine Over.upd ?_ hB (by omega) | refine Over.del ?_ hB (by omega))))) (by omega) hs1) ?_
      rintro r δ ⟨rfl, rfl⟩
      (repeat (simp (disch := omega) [hok]))
      first | (refine hKK _ _ _ ?_; clear hKK KK; simp only [thenA, blockA, reduceIte]) | skip
      repeat' (first
        | refine AWP.seq ?_
        | refine AWP.block ?_
        | (refine AWP.skip ?_; simp only [thenA, blockA, reduceIte])
        | (refine AWP.exit ?_; simp only [thenA, blockA, eq_self, reduceIte, Nat.reduceEqDiff, Nat.succ_ne_zero])
        | (refine AWP.ret ?_; simp only [thenA, blockA, reduceIte])
        | (refine AWP.region (by rfl) (fun KK hKK => ?_); (repeat (simp (disch := omega) [])); first | (refine hKK _ _ _ ?_; clear hKK KK; simp only [thenA, blockA, reduceIte]) | skip)
        | (refine AWP.draw' mixd (by rfl) (by kernel_rfl) (fun KK tab hKK htab => ?_); (repeat (simp (disch := omega) [])); first | (refine dEnd_ro ?_ (hKK _ _ _ ?_); (focus (simp; done)); clear htab tab hKK KK; simp only [thenA, blockA, reduceIte]) | (refine dEnd_of ?_ (hKK _ _ _ ?_); (focus (simp only [List.reverse_cons, List.reverse_nil, List.nil_append, List.cons_append, memA, mem1, and_true, true_and]; (repeat' apply And.intro); (all_goals (first | trivial | (refine .inr ⟨?_, ?_⟩ <;> (simp; done)) | (refine .inr ⟨?_, ?_⟩ <;> (simp <;> omega)) | (refine .inl ?_; rw [htab]; kernel_rfl))); done)); clear htab tab hKK KK; simp only [thenA, blockA, reduceIte]) | skip)
        | (refine AWP.if_t ?_ ?_; focus (simp (disch := omega) []; done))
        | (refine AWP.if_f ?_ ?_; focus (simp (disch := omega) []; done)))
      refine aStop_of (validEnumS_c _ _ _ es (hy'.vw ((Vw.refl _).over (by repeat (first | exact Over.refl _ | exact hov | refine Over.upd ?_ hB (by omega) | refine Over.del ?_ hB (by omega))))) (by omega) hs2) ?_
      rintro r δ ⟨rfl, rfl⟩
      (repeat (simp (disch := omega) [hok2]))
      first | (refine hKK _ _ _ ?_; clear hKK KK; simp only [thenA, blockA, reduceIte]) | skip
      repeat' (first
        | refine AWP.seq ?_
        | refine AWP.block ?_
        | (refine AWP.skip ?_; simp only [thenA, blockA, reduceIte])
        | (refine AWP.exit ?_; simp only [thenA, blockA, eq_self, reduceIte, Nat.reduceEqDiff, Nat.succ_ne_zero])
        | (refine AWP.ret ?_; simp only [thenA, blockA, reduceIte])
        | (refine AWP.region (by rfl) (fun KK hKK => ?_); (repeat (simp (disch := omega) [])); first | (refine hKK _ _ _ ?_; clear hKK KK; simp only [thenA, blockA, reduceIte]) | skip)
        | (refine AWP.draw' mixd (by rfl) (by kernel_rfl) (fun KK tab hKK htab => ?_); (repeat (simp (disch := omega) [])); first | (refine dEnd_ro ?_ (hKK _ _ _ ?_); (focus (simp; done)); clear htab tab hKK KK; simp only [thenA, blockA, reduceIte]) | (refine dEnd_of ?_ (hKK _ _ _ ?_); (focus (simp only [List.reverse_cons, List.reverse_nil, List.nil_append, List.cons_append, memA, mem1, and_true, true_and]; (repeat' apply And.intro); (all_goals (first | trivial | (refine .inr ⟨?_, ?_⟩ <;> (simp; done)) | (refine .inr ⟨?_, ?_⟩ <;> (simp <;> omega)) | (refine .inl ?_; rw [htab]; kernel_rfl))); done)); clear htab tab hKK KK; simp only [thenA, blockA, reduceIte]) | skip)
        | (refine AWP.if_t ?_ ?_; focus (simp (disch := omega) []; done))
        | (refine AWP.if_f ?_ ?_; focus (simp (disch := omega) []; done)))
      refine ⟨by simp, ?_⟩
      have hres : Try.f12.results.toList = [.cell 4 25, .tmp 5] := rfl
      rw [hres]
      simp (disch := omega) []
      refine fin0 ⟨?_, rfl⟩ (by simp [resO, nms, nmss])
      simp [resO, ren, rens, rho, hK0, hK1, hK2]
    | true =>
      refine AC.intro [] ent_12 Try.func12 rfl (by simp [Try.f12]) (by simp) ?_
      intro K s hs hB hn hν hA hFr
      simp only [argT, Nat.zero_add, Nat.reduceAdd]
      have hx' := hx.vw hs.vw
      have hy' := hy.vw hs.vw
      have hbK : b < K := hA b (by simp [nmAs, nmA])
      have hbK2 : b2 < K := hA b2 (by simp [nmAs, nmA])
      have hK0 : ¬ 0 = K := by omega
      have hK1 : ¬ 0 = K + 1 := by omega
      have hK2 : ¬ 0 = K + 1 + 1 := by omega
      repeat' (first
        | refine AWP.seq ?_
        | refine AWP.block ?_
        | (refine AWP.skip ?_; simp only [thenA, blockA, reduceIte])
        | (refine AWP.exit ?_; simp only [thenA, blockA, eq_self, reduceIte, Nat.reduceEqDiff, Nat.succ_ne_zero])
        | (refine AWP.ret ?_; simp only [thenA, blockA, reduceIte])
        | (refine AWP.region (by rfl) (fun KK hKK => ?_); (repeat (simp (disch := omega) [])); first | (refine hKK _ _ _ ?_; clear hKK KK; simp only [thenA, blockA, reduceIte]) | skip)
        | (refine AWP.draw' mixd (by rfl) (by kernel_rfl) (fun KK tab hKK htab => ?_); (repeat (simp (disch := omega) [])); first | (refine dEnd_ro ?_ (hKK _ _ _ ?_); (focus (simp; done)); clear htab tab hKK KK; simp only [thenA, blockA, reduceIte]) | (refine dEnd_of ?_ (hKK _ _ _ ?_); (focus (simp only [List.reverse_cons, List.reverse_nil, List.nil_append, List.cons_append, memA, mem1, and_true, true_and]; (repeat' apply And.intro); (all_goals (first | trivial | (refine .inr ⟨?_, ?_⟩ <;> (simp; done)) | (refine .inr ⟨?_, ?_⟩ <;> (simp <;> omega)) | (refine .inl ?_; rw [htab]; kernel_rfl))); done)); clear htab tab hKK KK; simp only [thenA, blockA, reduceIte]) | skip)
        | (refine AWP.if_t ?_ ?_; focus (simp (disch := omega) []; done))
        | (refine AWP.if_f ?_ ?_; focus (simp (disch := omega) []; done)))
      refine aStop_of (validEnumS_c _ _ _ ds (hx'.vw ((Vw.refl _).over (by repeat (first | exact Over.refl _ | exact hov | refine Over.upd ?_ hB (by omega) | refine Over.del ?_ hB (by omega))))) (by omega) hs1) ?_
      rintro r δ ⟨rfl, rfl⟩
      (repeat (simp (disch := omega) [hok]))
      first | (refine hKK _ _ _ ?_; clear hKK KK; simp only [thenA, blockA, reduceIte]) | skip
      repeat' (first
        | refine AWP.seq ?_
        | refine AWP.block ?_
        | (refine AWP.skip ?_; simp only [thenA, blockA, reduceIte])
        | (refine AWP.exit ?_; simp only [thenA, blockA, eq_self, reduceIte, Nat.reduceEqDiff, Nat.succ_ne_zero])
        | (refine AWP.ret ?_; simp only [thenA, blockA, reduceIte])
        | (refine AWP.region (by rfl) (fun KK hKK => ?_); (repeat (simp (disch := omega) [])); first | (refine hKK _ _ _ ?_; clear hKK KK; simp only [thenA, blockA, reduceIte]) | skip)
        | (refine AWP.draw' mixd (by rfl) (by kernel_rfl) (fun KK tab hKK htab => ?_); (repeat (simp (disch := omega) [])); first | (refine dEnd_ro ?_ (hKK _ _ _ ?_); (focus (simp; done)); clear htab tab hKK KK; simp only [thenA, blockA, reduceIte]) | (refine dEnd_of ?_ (hKK _ _ _ ?_); (focus (simp only [List.reverse_cons, List.reverse_nil, List.nil_append, List.cons_append, memA, mem1, and_true, true_and]; (repeat' apply And.intro); (all_goals (first | trivial | (refine .inr ⟨?_, ?_⟩ <;> (simp; done)) | (refine .inr ⟨?_, ?_⟩ <;> (simp <;> omega)) | (refine .inl ?_; rw [htab]; kernel_rfl))); done)); clear htab tab hKK KK; simp only [thenA, blockA, reduceIte]) | skip)
        | (refine AWP.if_t ?_ ?_; focus (simp (disch := omega) []; done))
        | (refine AWP.if_f ?_ ?_; focus (simp (disch := omega) []; done)))
      refine aStop_of (validEnumS_c _ _ _ es (hy'.vw ((Vw.refl _).over (by repeat (first | exact Over.refl _ | exact hov | refine Over.upd ?_ hB (by omega) | refine Over.del ?_ hB (by omega))))) (by omega) hs2) ?_
      rintro r δ ⟨rfl, rfl⟩
      (repeat (simp (disch := omega) [hok2]))
      first | (refine hKK _ _ _ ?_; clear hKK KK; simp only [thenA, blockA, reduceIte]) | skip
      repeat' (first
        | refine AWP.seq ?_
        | refine AWP.block ?_
        | (refine AWP.skip ?_; simp only [thenA, blockA, reduceIte])
        | (refine AWP.exit ?_; simp only [thenA, blockA, eq_self, reduceIte, Nat.reduceEqDiff, Nat.succ_ne_zero])
        | (refine AWP.ret ?_; simp only [thenA, blockA, reduceIte])
        | (refine AWP.region (by rfl) (fun KK hKK => ?_); (repeat (simp (disch := omega) [])); first | (refine hKK _ _ _ ?_; clear hKK KK; simp only [thenA, blockA, reduceIte]) | skip)
        | (refine AWP.draw' mixd (by rfl) (by kernel_rfl) (fun KK tab hKK htab => ?_); (repeat (simp (disch := omega) [])); first | (refine dEnd_ro ?_ (hKK _ _ _ ?_); (focus (simp; done)); clear htab tab hKK KK; simp only [thenA, blockA, reduceIte]) | (refine dEnd_of ?_ (hKK _ _ _ ?_); (focus (simp only [List.reverse_cons, List.reverse_nil, List.nil_append, List.cons_append, memA, mem1, and_true, true_and]; (repeat' apply And.intro); (all_goals (first | trivial | (refine .inr ⟨?_, ?_⟩ <;> (simp; done)) | (refine .inr ⟨?_, ?_⟩ <;> (simp <;> omega)) | (refine .inl ?_; rw [htab]; kernel_rfl))); done)); clear htab tab hKK KK; simp only [thenA, blockA, reduceIte]) | skip)
        | (refine AWP.if_t ?_ ?_; focus (simp (disch := omega) []; done))
        | (refine AWP.if_f ?_ ?_; focus (simp (disch := omega) []; done)))
      refine aStop_of (copyDefs_c _ _ _ ds (hx'.vw ((Vw.refl _).over (by repeat (first | exact Over.refl _ | exact hov | refine Over.upd ?_ hB (by omega) | refine Over.del ?_ hB (by omega))))) (by omega)) ?_
      rintro r δ ⟨rfl, rfl⟩
      (repeat (simp (disch := omega) []))
      first | (refine hKK _ _ _ ?_; clear hKK KK; simp only [thenA, blockA, reduceIte]) | skip
      repeat' (first
        | refine AWP.seq ?_
        | refine AWP.block ?_
        | (refine AWP.skip ?_; simp only [thenA, blockA, reduceIte])
        | (refine AWP.exit ?_; simp only [thenA, blockA, eq_self, reduceIte, Nat.reduceEqDiff, Nat.succ_ne_zero])
        | (refine AWP.ret ?_; simp only [thenA, blockA, reduceIte])
        | (refine AWP.region (by rfl) (fun KK hKK => ?_); (repeat (simp (disch := omega) [])); first | (refine hKK _ _ _ ?_; clear hKK KK; simp only [thenA, blockA, reduceIte]) | skip)
        | (refine AWP.draw' mixd (by rfl) (by kernel_rfl) (fun KK tab hKK htab => ?_); (repeat (simp (disch := omega) [])); first | (refine dEnd_ro ?_ (hKK _ _ _ ?_); (focus (simp; done)); clear htab tab hKK KK; simp only [thenA, blockA, reduceIte]) | (refine dEnd_of ?_ (hKK _ _ _ ?_); (focus (simp only [List.reverse_cons, List.reverse_nil, List.nil_append, List.cons_append, memA, mem1, and_true, true_and]; (repeat' apply And.intro); (all_goals (first | trivial | (refine .inr ⟨?_, ?_⟩ <;> (simp; done)) | (refine .inr ⟨?_, ?_⟩ <;> (simp <;> omega)) | (refine .inl ?_; rw [htab]; kernel_rfl))); done)); clear htab tab hKK KK; simp only [thenA, blockA, reduceIte]) | skip)
        | (refine AWP.if_t ?_ ?_; focus (simp (disch := omega) []; done))
        | (refine AWP.if_f ?_ ?_; focus (simp (disch := omega) []; done)))
      refine AWP.loop (fun n τ τ2 M => ∃ (k cb : Nat), k ≤ es.length ∧ n = es.length - k ∧ (∀ e ∈ es.take k, conf ds e = false) ∧ τ = [(2, .ptr K 0 0), (3, .ptr (K + 1) 0 0), (4, .ptr (K + 1 + 1) 0 0), (5, .v (.bool false)), (6, .sl cb 0 (mgL ds (es.take k)).length none 2), (7, .v (.int .i64 k))] ∧ τ2 K = some (blkE (.sl b o ds.length cap z)) ∧ τ2 (K + 1) = some (blkE (.sl b2 o2 es.length cap2 z2)) ∧ τ2 (K + 1 + 1) = some (blkE nilA) ∧ τ2 cb = some (blkD (mgL ds (es.take k))) ∧ K + 1 + 1 < cb ∧ cb < M ∧ Over s τ2)
        ⟨_, _, _, _, ⟨0, K + 1 + 1 + 1 + 2 + 2, by omega, rfl, by simp, rfl, by simp (disch := omega) only [upd_eq, upd_ne], by simp (disch := omega) only [upd_eq, upd_ne], by simp (disch := omega) only [upd_eq, upd_ne], by (simp (disch := omega) only [upd_eq, upd_ne]; simp [mgL, rowsD]), by omega, by omega, (by repeat (first | exact Over.refl _ | exact hov | refine Over.upd ?_ hB (by omega) | refine Over.del ?_ hB (by omega)))⟩, Weak.tau (by simp [LQ, mgL])⟩ ?_
      rintro n τ σ2 M ⟨k, cb, hk, rfl, hnc, rfl, hb0, hb1, hb2, hc0, hc1, hc2, hov⟩
      have hml := mgL_len ds (es.take k)
      have htk : (es.take k).length = k := by simp; omega
      by_cases hlt : k < es.length
      · obtain ⟨_, rfl, kb2, hkb2, hat2⟩ := hy'.at (i := k) (by rw [rowsD_len]; exact hlt)
        have hrow2 : (rowsD es)[k]'(by rw [rowsD_len]; exact hlt) = [.v (.string es[k].1), .v (.int .i64 es[k].2)] := by simp [rowsD, rowD]
        rw [hrow2] at hat2
        have hkb2' := hov _ _ hkb2
        have hst := mgL_take (ds := ds) hlt
        have hz1 : ((mgL ds (es.take k)).length + 1) * 24 ≤ 140737488355328 := by omega
        have hz2 : (mgL ds (es.take k)).length + 1 ≤ 4611686018427387904 := by omega
        repeat' (first
          | refine AWP.seq ?_
          | refine AWP.block ?_
          | (refine AWP.skip ?_; simp only [thenA, blockA, reduceIte])
          | (refine AWP.exit ?_; simp only [thenA, blockA, eq_self, reduceIte, Nat.reduceEqDiff, Nat.succ_ne_zero])
          | (refine AWP.ret ?_; simp only [thenA, blockA, reduceIte])
          | (refine AWP.region (by rfl) (fun KK hKK => ?_); (repeat (simp (disch := omega) [hlt, hkb2', hat2, hb0, hb1])); first | (refine hKK _ _ _ ?_; clear hKK KK; simp only [thenA, blockA, reduceIte]) | skip)
          | (refine AWP.draw' mixd (by rfl) (by kernel_rfl) (fun KK tab hKK htab => ?_); (repeat (simp (disch := omega) [hlt, hkb2', hat2, hb0, hb1])); first | (refine dEnd_ro ?_ (hKK _ _ _ ?_); (focus (simp; done)); clear htab tab hKK KK; simp only [thenA, blockA, reduceIte]) | (refine dEnd_of ?_ (hKK _ _ _ ?_); (focus (simp only [List.reverse_cons, List.reverse_nil, List.nil_append, List.cons_append, memA, mem1, and_true, true_and]; (repeat' apply And.intro); (all_goals (first | trivial | (refine .inr ⟨?_, ?_⟩ <;> (simp; done)) | (refine .inr ⟨?_, ?_⟩ <;> (simp <;> omega)) | (refine .inl ?_; rw [htab]; kernel_rfl))); done)); clear htab tab hKK KK; simp only [thenA, blockA, reduceIte]) | skip)
          | (refine AWP.if_t ?_ ?_; focus (simp (disch := omega) [hlt, hkb2', hat2, hb0, hb1]; done))
          | (refine AWP.if_f ?_ ?_; focus (simp (disch := omega) [hlt, hkb2', hat2, hb0, hb1]; done)))
        refine dStop_ro [b] (fun σ' hσ' => indexOf_c σ' _ _ ds _ ((hx'.vw ((Vw.refl _).over (by repeat (first | exact Over.refl _ | exact hov | refine Over.upd ?_ hB (by omega) | refine Over.del ?_ hB (by omega))))).on (hσ' _ (by simp))) (by omega)) ?_
        (repeat (simp (disch := omega) []))
        first | (refine dEnd_ro ?_ (hKK _ _ _ ?_); (focus (simp; done)); clear htab tab hKK KK; simp only [thenA, blockA, reduceIte]) | (refine dEnd_of ?_ (hKK _ _ _ ?_); (focus (simp only [List.reverse_cons, List.reverse_nil, List.nil_append, List.cons_append, memA, mem1, and_true, true_and]; (repeat' apply And.intro); (all_goals (first | trivial | (refine .inr ⟨?_, ?_⟩ <;> (simp; done)) | (refine .inr ⟨?_, ?_⟩ <;> (simp <;> omega)) | (refine .inl ?_; rw [htab]; kernel_rfl))); done)); clear htab tab hKK KK; simp only [thenA, blockA, reduceIte]) | skip
        rcases nameIx_cases ds es[k].1 with hni | ⟨j, hj, hni, _⟩
        · have hcf : conf ds es[k] = false := by simp [conf, hni]
          have hnd : newD ds es[k] = true := by simp [newD, hni]
          rw [if_pos hnd] at hst
          repeat' (first
            | refine AWP.seq ?_
            | refine AWP.block ?_
            | (refine AWP.skip ?_; simp only [thenA, blockA, reduceIte])
            | (refine AWP.exit ?_; simp only [thenA, blockA, eq_self, reduceIte, Nat.reduceEqDiff, Nat.succ_ne_zero])
            | (refine AWP.ret ?_; simp only [thenA, blockA, reduceIte])
            | (refine AWP.region (by rfl) (fun KK hKK => ?_); (repeat (simp (disch := omega) [hni, hlt, hkb2', hat2, hb0, hb1, elems, rowsD_len, rowsD_snoc, rowsD_take, hz1, hz2, hc0])); first | (refine hKK _ _ _ ?_; clear hKK KK; simp only [thenA, blockA, reduceIte]) | skip)
            | (refine AWP.draw' mixd (by rfl) (by kernel_rfl) (fun KK tab hKK htab => ?_); (repeat (simp (disch := omega) [hni, hlt, hkb2', hat2, hb0, hb1, elems, rowsD_len, rowsD_snoc, rowsD_take, hz1, hz2, hc0])); first | (refine dEnd_ro ?_ (hKK _ _ _ ?_); (focus (simp; done)); clear htab tab hKK KK; simp only [thenA, blockA, reduceIte]) | (refine dEnd_of ?_ (hKK _ _ _ ?_); (focus (simp only [List.reverse_cons, List.reverse_nil, List.nil_append, List.cons_append, memA, mem1, and_true, true_and]; (repeat' apply And.intro); (all_goals (first | trivial | (refine .inr ⟨?_, ?_⟩ <;> (simp; done)) | (refine .inr ⟨?_, ?_⟩ <;> (simp <;> omega)) | (refine .inl ?_; rw [htab]; kernel_rfl))); done)); clear htab tab hKK KK; simp only [thenA, blockA, reduceIte]) | skip)
            | (refine AWP.if_t ?_ ?_; focus (simp (disch := omega) [hni, hlt, hkb2', hat2, hb0, hb1, elems, rowsD_len, rowsD_snoc, rowsD_take, hz1, hz2, hc0]; done))
            | (refine AWP.if_f ?_ ?_; focus (simp (disch := omega) [hni, hlt, hkb2', hat2, hb0, hb1, elems, rowsD_len, rowsD_snoc, rowsD_take, hz1, hz2, hc0]; done)))
          refine ⟨_, _, _, _, ?_, ⟨k + 1, M + 20 + 34 + 1, by omega, rfl, take_snoc hlt hnc hcf, rfl, by simp (disch := omega) only [upd_eq, upd_ne, del_ne, hb0], by simp (disch := omega) only [upd_eq, upd_ne, del_ne, hb1], by simp (disch := omega) only [upd_eq, upd_ne, del_ne, hb2], by rw [hst]; simp (disch := omega) only [upd_eq], by omega, by omega, (by repeat (first | exact Over.refl _ | exact hov | refine Over.upd ?_ hB (by omega) | refine Over.del ?_ hB (by omega)))⟩, Weak.tau (by rw [hst]; simp [LQ])⟩
          omega
        · have hnd : newD ds es[k] = false := by simp [newD, hni]
          rw [hnd, if_neg (by simp)] at hst
          obtain ⟨_, rfl, kb, hkb, hat⟩ := hx'.at (i := j) (by rw [rowsD_len]; exact hj)
          have hrow : (rowsD ds)[j]'(by rw [rowsD_len]; exact hj) = [.v (.string ds[j].1), .v (.int .i64 ds[j].2)] := by simp [rowsD, rowD]
          rw [hrow] at hat
          have hkb' := hov _ _ hkb
          have hj0 : ¬ ((j : Int) < 0) := by omega
          have hgd : (ds.getD ((j : Int)).toNat (⟨#[]⟩, 0)).2 = ds[j].2 := by simp [List.getD_eq_getElem?_getD, List.getElem?_eq_getElem hj]
          by_cases hq : ds[j].2 = es[k].2
          · have hcf : conf ds es[k] = false := by unfold conf; rw [hni, hgd]; simp [hq]
            repeat' (first
              | refine AWP.seq ?_
              | refine AWP.block ?_
              | (refine AWP.skip ?_; simp only [thenA, blockA, reduceIte])
              | (refine AWP.exit ?_; simp only [thenA, blockA, eq_self, reduceIte, Nat.reduceEqDiff, Nat.succ_ne_zero])
              | (refine AWP.ret ?_; simp only [thenA, blockA, reduceIte])
              | (refine AWP.region (by rfl) (fun KK hKK => ?_); (repeat (simp (disch := omega) [hni, hj0, hj, hb0, hb1, hkb', hat, hlt, hkb2', hat2, hq])); first | (refine hKK _ _ _ ?_; clear hKK KK; simp only [thenA, blockA, reduceIte]) | skip)
              | (refine AWP.draw' mixd (by rfl) (by kernel_rfl) (fun KK tab hKK htab => ?_); (repeat (simp (disch := omega) [hni, hj0, hj, hb0, hb1, hkb', hat, hlt, hkb2', hat2, hq])); first | (refine dEnd_ro ?_ (hKK _ _ _ ?_); (focus (simp; done)); clear htab tab hKK KK; simp only [thenA, blockA, reduceIte]) | (refine dEnd_of ?_ (hKK _ _ _ ?_); (focus (simp only [List.reverse_cons, List.reverse_nil, List.nil_append, List.cons_append, memA, mem1, and_true, true_and]; (repeat' apply And.intro); (all_goals (first | trivial | (refine .inr ⟨?_, ?_⟩ <;> (simp; done)) | (refine .inr ⟨?_, ?_⟩ <;> (simp <;> omega)) | (refine .inl ?_; rw [htab]; kernel_rfl))); done)); clear htab tab hKK KK; simp only [thenA, blockA, reduceIte]) | skip)
              | (refine AWP.if_t ?_ ?_; focus (simp (disch := omega) [hni, hj0, hj, hb0, hb1, hkb', hat, hlt, hkb2', hat2, hq]; done))
              | (refine AWP.if_f ?_ ?_; focus (simp (disch := omega) [hni, hj0, hj, hb0, hb1, hkb', hat, hlt, hkb2', hat2, hq]; done)))
            refine ⟨_, _, _, _, ?_, ⟨k + 1, cb, by omega, rfl, take_snoc hlt hnc hcf, rfl, by simp (disch := omega) only [upd_eq, upd_ne, hb0], by simp (disch := omega) only [upd_eq, upd_ne, hb1], by simp (disch := omega) only [upd_eq, upd_ne, hb2], by rw [hst]; simp (disch := omega) only [upd_eq, upd_ne, hc0], by omega, by omega, (by repeat (first | exact Over.refl _ | exact hov | refine Over.upd ?_ hB (by omega) | refine Over.del ?_ hB (by omega)))⟩, Weak.tau (by rw [hst]; simp [LQ])⟩
            omega
          · have hcf : conf ds es[k] = true := by unfold conf; rw [hni, hgd]; simp [hq]
            have ho : mgO ds es = none := by unfold mgO; rw [if_neg (by simp [any_yes hlt hcf])]
            repeat' (first
              | refine AWP.seq ?_
              | refine AWP.block ?_
              | (refine AWP.skip ?_; simp only [thenA, blockA, reduceIte])
              | (refine AWP.exit ?_; simp only [thenA, blockA, eq_self, reduceIte, Nat.reduceEqDiff, Nat.succ_ne_zero])
              | (refine AWP.ret ?_; simp only [thenA, blockA, reduceIte])
              | (refine AWP.region (by rfl) (fun KK hKK => ?_); (repeat (simp (disch := omega) [hni, hj0, hj, hb0, hb1, hb2, hkb', hat, hlt, hkb2', hat2, hq])); first | (refine hKK _ _ _ ?_; clear hKK KK; simp only [thenA, blockA, reduceIte]) | skip)
              | (refine AWP.draw' mixd (by rfl) (by kernel_rfl) (fun KK tab hKK htab => ?_); (repeat (simp (disch := omega) [hni, hj0, hj, hb0, hb1, hb2, hkb', hat, hlt, hkb2', hat2, hq])); first | (refine dEnd_ro ?_ (hKK _ _ _ ?_); (focus (simp; done)); clear htab tab hKK KK; simp only [thenA, blockA, reduceIte]) | (refine dEnd_of ?_ (hKK _ _ _ ?_); (focus (simp only [List.reverse_cons, List.reverse_nil, List.nil_append, List.cons_append, memA, mem1, and_true, true_and]; (repeat' apply And.intro); (all_goals (first | trivial | (refine .inr ⟨?_, ?_⟩ <;> (simp; done)) | (refine .inr ⟨?_, ?_⟩ <;> (simp <;> omega)) | (refine .inl ?_; rw [htab]; kernel_rfl))); done)); clear htab tab hKK KK; simp only [thenA, blockA, reduceIte]) | skip)
              | (refine AWP.if_t ?_ ?_; focus (simp (disch := omega) [hni, hj0, hj, hb0, hb1, hb2, hkb', hat, hlt, hkb2', hat2, hq]; done))
              | (refine AWP.if_f ?_ ?_; focus (simp (disch := omega) [hni, hj0, hj, hb0, hb1, hb2, hkb', hat, hlt, hkb2', hat2, hq]; done)))
            refine ⟨by simp, ?_⟩
            have hres : Try.f12.results.toList = [.cell 4 25, .tmp 5] := rfl
            rw [hres]
            simp (disch := omega) [hb2, ho, eOut_none, dOut_none]
            refine fin0 ⟨?_, rfl⟩ (by simp [resO, nms, nmss])
            simp [resO, ren, rens, rho, hK0, hK1, hK2]
      · have hk' : k = es.length := by omega
        subst hk'
        have hany := any_no_of_take hnc
        rw [List.take_length] at *
        have hmsz := mgL_sz hs1 hs2
        repeat' (first
          | refine AWP.seq ?_
          | refine AWP.block ?_
          | (refine AWP.skip ?_; simp only [thenA, blockA, reduceIte])
          | (refine AWP.exit ?_; simp only [thenA, blockA, eq_self, reduceIte, Nat.reduceEqDiff, Nat.succ_ne_zero])
          | (refine AWP.ret ?_; simp only [thenA, blockA, reduceIte])
          | (refine AWP.region (by rfl) (fun KK hKK => ?_); (repeat (simp (disch := omega) [hb0, hb1])); first | (refine hKK _ _ _ ?_; clear hKK KK; simp only [thenA, blockA, reduceIte]) | skip)
          | (refine AWP.draw' mixd (by rfl) (by kernel_rfl) (fun KK tab hKK htab => ?_); (repeat (simp (disch := omega) [hb0, hb1])); first | (refine dEnd_ro ?_ (hKK _ _ _ ?_); (focus (simp; done)); clear htab tab hKK KK; simp only [thenA, blockA, reduceIte]) | (refine dEnd_of ?_ (hKK _ _ _ ?_); (focus (simp only [List.reverse_cons, List.reverse_nil, List.nil_append, List.cons_append, memA, mem1, and_true, true_and]; (repeat' apply And.intro); (all_goals (first | trivial | (refine .inr ⟨?_, ?_⟩ <;> (simp; done)) | (refine .inr ⟨?_, ?_⟩ <;> (simp <;> omega)) | (refine .inl ?_; rw [htab]; kernel_rfl))); done)); clear htab tab hKK KK; simp only [thenA, blockA, reduceIte]) | skip)
          | (refine AWP.if_t ?_ ?_; focus (simp (disch := omega) [hb0, hb1]; done))
          | (refine AWP.if_f ?_ ?_; focus (simp (disch := omega) [hb0, hb1]; done)))
        cases hok3 : okDs (-1000) 1000 (mgL ds es) with
        | false =>
          have ho : mgO ds es = none := by unfold mgO; rw [if_neg (by simp [hok3])]
          refine aStop_of (checkedEnum_c _ _ cb (mgL ds es).length (mgL ds es) (Sl.whole (t := 34) (r := true) (by simp (disch := omega) only [upd_eq, upd_ne, del_ne, hc0]) (by simp [rowsD_len])) (by omega) hmsz) ?_
          rintro r δ ⟨rfl, rfl⟩
          (repeat (simp (disch := omega) [hok3, hb2]))
          first | (refine hKK _ _ _ ?_; clear hKK KK; simp only [thenA, blockA, reduceIte]) | skip
          repeat' (first
            | refine AWP.seq ?_
            | refine AWP.block ?_
            | (refine AWP.skip ?_; simp only [thenA, blockA, reduceIte])
            | (refine AWP.exit ?_; simp only [thenA, blockA, eq_self, reduceIte, Nat.reduceEqDiff, Nat.succ_ne_zero])
            | (refine AWP.ret ?_; simp only [thenA, blockA, reduceIte])
            | (refine AWP.region (by rfl) (fun KK hKK => ?_); (repeat (simp (disch := omega) [])); first | (refine hKK _ _ _ ?_; clear hKK KK; simp only [thenA, blockA, reduceIte]) | skip)
            | (refine AWP.draw' mixd (by rfl) (by kernel_rfl) (fun KK tab hKK htab => ?_); (repeat (simp (disch := omega) [])); first | (refine dEnd_ro ?_ (hKK _ _ _ ?_); (focus (simp; done)); clear htab tab hKK KK; simp only [thenA, blockA, reduceIte]) | (refine dEnd_of ?_ (hKK _ _ _ ?_); (focus (simp only [List.reverse_cons, List.reverse_nil, List.nil_append, List.cons_append, memA, mem1, and_true, true_and]; (repeat' apply And.intro); (all_goals (first | trivial | (refine .inr ⟨?_, ?_⟩ <;> (simp; done)) | (refine .inr ⟨?_, ?_⟩ <;> (simp <;> omega)) | (refine .inl ?_; rw [htab]; kernel_rfl))); done)); clear htab tab hKK KK; simp only [thenA, blockA, reduceIte]) | skip)
            | (refine AWP.if_t ?_ ?_; focus (simp (disch := omega) []; done))
            | (refine AWP.if_f ?_ ?_; focus (simp (disch := omega) []; done)))
          refine ⟨by simp, ?_⟩
          have hres : Try.f12.results.toList = [.cell 4 25, .tmp 5] := rfl
          rw [hres]
          simp (disch := omega) [ho, eOut_none, dOut_none]
          refine fin0 ⟨?_, rfl⟩ (by simp [resO, nms, nmss])
          simp [resO, ren, rens, rho, hK0, hK1, hK2]
        | true =>
          have ho : mgO ds es = some (mgL ds es) := by unfold mgO; rw [if_pos ⟨hok, hok2, hany, hok3⟩]
          refine aStop_of (checkedEnum_c _ _ cb (mgL ds es).length (mgL ds es) (Sl.whole (t := 34) (r := true) (by simp (disch := omega) only [upd_eq, upd_ne, del_ne, hc0]) (by simp [rowsD_len])) (by omega) hmsz) ?_
          rintro r δ ⟨rfl, rfl⟩
          (repeat (simp (disch := omega) [hok3, hb2]))
          first | (refine hKK _ _ _ ?_; clear hKK KK; simp only [thenA, blockA, reduceIte]) | skip
          repeat' (first
            | refine AWP.seq ?_
            | refine AWP.block ?_
            | (refine AWP.skip ?_; simp only [thenA, blockA, reduceIte])
            | (refine AWP.exit ?_; simp only [thenA, blockA, eq_self, reduceIte, Nat.reduceEqDiff, Nat.succ_ne_zero])
            | (refine AWP.ret ?_; simp only [thenA, blockA, reduceIte])
            | (refine AWP.region (by rfl) (fun KK hKK => ?_); (repeat (simp (disch := omega) [])); first | (refine hKK _ _ _ ?_; clear hKK KK; simp only [thenA, blockA, reduceIte]) | skip)
            | (refine AWP.draw' mixd (by rfl) (by kernel_rfl) (fun KK tab hKK htab => ?_); (repeat (simp (disch := omega) [])); first | (refine dEnd_ro ?_ (hKK _ _ _ ?_); (focus (simp; done)); clear htab tab hKK KK; simp only [thenA, blockA, reduceIte]) | (refine dEnd_of ?_ (hKK _ _ _ ?_); (focus (simp only [List.reverse_cons, List.reverse_nil, List.nil_append, List.cons_append, memA, mem1, and_true, true_and]; (repeat' apply And.intro); (all_goals (first | trivial | (refine .inr ⟨?_, ?_⟩ <;> (simp; done)) | (refine .inr ⟨?_, ?_⟩ <;> (simp <;> omega)) | (refine .inl ?_; rw [htab]; kernel_rfl))); done)); clear htab tab hKK KK; simp only [thenA, blockA, reduceIte]) | skip)
            | (refine AWP.if_t ?_ ?_; focus (simp (disch := omega) []; done))
            | (refine AWP.if_f ?_ ?_; focus (simp (disch := omega) []; done)))
          refine ⟨by simp, ?_⟩
          have hres : Try.f12.results.toList = [.cell 4 25, .tmp 5] := rfl
          rw [hres]
          simp (disch := omega) [ho, eOut_some, dOut_some]
          refine fin1 cb (blkD (mgL ds es)) (by simp (disch := omega) only [upd_eq, upd_ne, hc0]) rfl (flatD _) ⟨?_, rfl⟩ (by omega) (by simp [resO, nms, nmss] <;> (intros; omega))
          simp [resO, ren, rens, rho]
end Go.Proofs.Ytgaiemhbllbaiaa
