/- Contracts of the reference: a definition left out. No condition. -/
import Derived.Test.YtgaiemhbllbaiaaLC
set_option linter.unusedSimpArgs false
set_option linter.unusedVariables false
namespace Go.Proofs.Ytgaiemhbllbaiaa
open Go Go.RowKit

set_option maxRecDepth 10000 in
set_option maxHeartbeats 1000000 in
theorem dropped_c (σ : Sto) (ν : Nat) (x : AV) (ds : List Df) (i : Nat) (hx : Sl σ x 2 (rowsD ds)) (hlen : ds.length ≤ 4294967296) (hi : i < ds.length) :
    AC Try.prog 88 [x, .v (.int .i64 i)] σ ν fun r δ => r = .sl ν 0 (ds.eraseIdx i).length none 2 ∧ δ = upd noS ν (blkD (ds.eraseIdx i)) := by
  obtain ⟨b, o, cap, z, rfl⟩ := hx.out
  simp only [rowsD_len] at hx ⊢
  obtain ⟨_, rfl, _⟩ := hx.at (i := i) (by rw [rowsD_len]; exact hi)
  refine AC.intro [] ent_88 Try.func88 rfl (by simp [Try.f88]) (by simp) ?_
  intro K s hs hB hn hν hA hFr
  simp only [argT, Nat.zero_add, Nat.reduceAdd]
  have hx' := hx.vw hs.vw
  have hbK : b < K := hA b (by simp [nmAs, nmA])
  have h1 : i + 1 ≤ ds.length := hi
  have h2 : i ≤ ds.length := by omega
  have ht := hx'.take (i := i) (by rw [rowsD_len]; exact h2) cap id
  have e1 : (rowsD ds).take i = rowsD (ds.take i) := by simp [rowsD, List.map_take]
  rw [e1] at ht
  have hti : (ds.take i).length = i := by simp; omega
  have h3 : 0 ≤ (i : Int) + 1 := by omega
  have hd := hx'.drop (i := i + 1) (m := ds.length - (i + 1)) (by rw [rowsD_len]; exact h1) (by rw [rowsD_len]) (cap.map (fun x => x - (i + 1))) (fun h => by rw [h]; simp)
  have e2 : (rowsD ds).drop (i + 1) = rowsD (ds.drop (i + 1)) := by simp [rowsD, List.map_drop]
  rw [e2] at hd
  have hel := (hd.on (σ' := upd s (K + 6) (blkD (ds.take i))) (by rw [upd_ne _ _ _ _ (by omega)])).elems
  have hdl : (rowsD (ds.drop (i + 1))).length = ds.length - (i + 1) := by simp [rowsD]
  have hz1 : (i + (ds.length - (i + 1))) * 24 ≤ 140737488355328 := by omega
  have hz2 : i + (ds.length - (i + 1)) ≤ 4611686018427387904 := by omega
  have hee : (ds.eraseIdx i).length = i + (ds.length - (i + 1)) := by rw [List.length_eraseIdx_of_lt hi]; omega
  have hti2 : (rowsD (ds.take i)).take i = rowsD (ds.take i) := List.take_of_length_le (by rw [rowsD_len, hti]; exact Nat.le_refl _)
  have e4 : rowsD (ds.take i) ++ rowsD (ds.drop (i + 1)) = rowsD (ds.eraseIdx i) := by rw [List.eraseIdx_eq_take_drop_succ]; simp [rowsD]
  have hti3 : (rowsD (ds.take i)).length = i := by rw [rowsD_len, hti]
  repeat' (first
    | refine AWP.seq ?_
    | refine AWP.block ?_
    | (refine AWP.skip ?_; simp only [thenA, blockA, reduceIte])
    | (refine AWP.exit ?_; simp only [thenA, blockA, eq_self, reduceIte, Nat.reduceEqDiff, Nat.succ_ne_zero])
    | (refine AWP.ret ?_; simp only [thenA, blockA, reduceIte])
    | (refine AWP.region (by rfl) (fun KK hKK => ?_); (repeat (simp (disch := omega) [h1, h2])); first | (refine hKK _ _ _ ?_; clear hKK KK; simp only [thenA, blockA, reduceIte]) | skip)
    | (refine AWP.draw' mixd (by rfl) (by kernel_rfl) (fun KK tab hKK htab => ?_); (repeat (simp (disch := omega) [h1, h2])); first | (refine dEnd_ro ?_ (hKK _ _ _ ?_); (focus (simp; done)); clear htab tab hKK KK; simp only [thenA, blockA, reduceIte]) | (refine dEnd_of ?_ (hKK _ _ _ ?_); (focus (simp only [List.reverse_cons, List.reverse_nil, List.nil_append, List.cons_append, memA, mem1, and_true, true_and]; (repeat' apply And.intro); (all_goals (first | trivial | (refine .inr ⟨?_, ?_⟩ <;> (simp; done)) | (refine .inr ⟨?_, ?_⟩ <;> (simp <;> omega)) | (refine .inl ?_; rw [htab]; kernel_rfl))); done)); clear htab tab hKK KK; simp only [thenA, blockA, reduceIte]) | skip)
    | (refine AWP.if_t ?_ ?_; focus (simp (disch := omega) [h1, h2]; done))
    | (refine AWP.if_f ?_ ?_; focus (simp (disch := omega) [h1, h2]; done)))
  refine dStop_newA (fun σ' hσ' => copyDefs_c σ' _ _ (ds.take i) (ht.on (hσ' _ (by simp))) (by omega)) ?_
  (repeat (simp (disch := omega) [h1, h2, hti, h3, hel, hdl, hz1, hz2, hti2, e4, hti3]))
  first | (refine dEnd_ro ?_ (hKK _ _ _ ?_); (focus (simp; done)); clear htab tab hKK KK; simp only [thenA, blockA, reduceIte]) | (refine dEnd_of ?_ (hKK _ _ _ ?_); (focus (simp only [List.reverse_cons, List.reverse_nil, List.nil_append, List.cons_append, memA, mem1, and_true, true_and]; (repeat' apply And.intro); (all_goals (first | trivial | (refine .inr ⟨?_, ?_⟩ <;> (simp; done)) | (refine .inr ⟨?_, ?_⟩ <;> (simp <;> omega)) | (refine .inl ?_; rw [htab]; kernel_rfl))); done)); clear htab tab hKK KK; simp only [thenA, blockA, reduceIte]) | skip
  repeat' (first
    | refine AWP.seq ?_
    | refine AWP.block ?_
    | (refine AWP.skip ?_; simp only [thenA, blockA, reduceIte])
    | (refine AWP.exit ?_; simp only [thenA, blockA, eq_self, reduceIte, Nat.reduceEqDiff, Nat.succ_ne_zero])
    | (refine AWP.ret ?_; simp only [thenA, blockA, reduceIte])
    | (refine AWP.region (by rfl) (fun KK hKK => ?_); (repeat (simp (disch := omega) [])); first | (refine hKK _ _ _ ?_; clear hKK KK; simp only [thenA, blockA, reduceIte]) | skip)
    | (refine AWP.draw' mixd (by rfl) (by kernel_rfl) (fun KK tab hKK htab => ?_); (repeat (simp (disch := omega) [])); first | (refine dEnd_ro ?_ (hKK _ _ _ ?_); (focus (simp; done)); clear htab tab hKK KK; simp only [thenA, blockA, reduceIte]) | (refine dEnd_of ?_ (hKK _ _ _ ?_); (focus (simp only [List.reverse_cons, List.reverse_nil, List.nil_append, List.cons_append, memA, mem1, and_true, true_and]; (repeat' apply And.intro); (all_goals (first | trivial | (refine .inr ⟨?_, ?_⟩ <;> (simp; done)) | (refine .inr ⟨?_, ?_⟩ <;> (simp <;> omega)) | (refine .inl ?_; rw [htab]; kernel_rfl))); done)); clear htab tab hKK KK; simp only [thenA, blockA, reduceIte]) | skip)
    | (refine AWP.if_t ?_ ?_; focus (simp (disch := omega) []; done))
    | (refine AWP.if_f ?_ ?_; focus (simp (disch := omega) []; done)))
  refine ⟨by simp, _, rfl, fin1 (K + 16) (blkD (ds.eraseIdx i)) (by simp (disch := omega) only [upd_eq, upd_ne, del_ne]) rfl (flatD _) ⟨by simp [resO, get, ren, rho, hee], rfl⟩ (by omega) (by simp [resO, get, nms])⟩
end Go.Proofs.Ytgaiemhbllbaiaa
