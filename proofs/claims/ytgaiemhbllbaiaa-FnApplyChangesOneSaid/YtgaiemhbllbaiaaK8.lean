/- Contracts: a change made, changes made, in the program. No condition but sizes. -/
import Derived.Test.YtgaiemhbllbaiaaK1
import Derived.Test.YtgaiemhbllbaiaaM1
import Derived.Test.YtgaiemhbllbaiaaM4
set_option linter.unusedSimpArgs false
set_option linter.unusedVariables false
namespace Go.Proofs.Ytgaiemhbllbaiaa
open Go Go.RowKit

set_option maxRecDepth 10000 in
set_option maxHeartbeats 8000000 in
theorem apply_c (σ : Sto) (ν : Nat) (x : AV) (ds : List Df) (kd : Int) (t : ByteArray) (ol nw : Int) (hx : Sl σ x 2 (rowsD ds)) (hlen : ds.length ≤ 4294967295) (hsz : ∀ d ∈ ds, d.1.size ≤ 9223372036854775807) (ht : t.size ≤ 9223372036854775807) (hok : okDs (-1000) 1000 ds = true) :
    AC Try.prog 60 [.agg [x], .agg [.v (.int .i64 kd), .v (.string t), .v (.int .i64 ol), .v (.int .i64 nw)]] σ ν fun r δ => r = .tup [.agg [eOut ν some (apF ds (kd, t, ol, nw))], .v (.bool (apF ds (kd, t, ol, nw)).isSome)] ∧ δ = dOut ν (apF ds (kd, t, ol, nw)) := by
  obtain ⟨b, o, cap, z, rfl⟩ := hx.out
  simp only [rowsD_len] at hx ⊢
  by_cases h0 : kd = 0
  · subst h0
    by_cases hnx : nameIx ds t < 0
    · have hni : ¬ 0 ≤ nameIx ds t := by omega
      by_cases hol : ol = 0
      · subst hol
        have e : apF ds (0, t, 0, nw) = addO ds (t, nw) := by
          unfold apF apC addO okO
          rw [if_pos rfl, if_pos ⟨hnx, rfl⟩]
          simp only [hok, true_and]
        rw [e]
        cases hA0 : addO ds (t, nw) with
        | none =>
          rw [eOut_none, dOut_none]
          refine AC.intro [] ent_60 Try.func60 rfl (by simp [Try.f60]) (by simp) ?_
          intro K s hs hB hn hν hA hFr
          simp only [argT, Nat.zero_add, Nat.reduceAdd]
          have hK0 : ¬ 0 = K := by omega
          have hK1 : ¬ 0 = K + 1 := by omega
          have hK2 : ¬ 0 = K + 1 + 1 := by omega
          have hx' := hx.vw hs.vw
          have hbK : b < K := hA b (by simp [nmAs, nmA])
          repeat' (first
            | refine AWP.seq ?_
            | refine AWP.block ?_
            | (refine AWP.skip ?_; simp only [thenA, blockA, reduceIte])
            | (refine AWP.exit ?_; simp only [thenA, blockA, eq_self, reduceIte, Nat.reduceEqDiff, Nat.succ_ne_zero])
            | (refine AWP.ret ?_; simp only [thenA, blockA, reduceIte])
            | (refine AWP.region (by rfl) (fun KK hKK => ?_); (repeat (simp (disch := omega) [])); first | (refine hKK _ _ _ ?_; clear hKK KK; simp only [thenA, blockA, reduceIte]) | skip)
            | (refine AWP.draw' mixd (by rfl) (by kernel_rfl) (fun KK tab hKK htab => ?_); (repeat (simp (disch := omega) [])); first | (refine dEnd_ro ?_ (hKK _ _ _ ?_); (focus (simp; done)); clear htab tab hKK KK; simp only [thenA, blockA, reduceIte]) | (refine dEnd_of ?_ (hKK _ _ _ ?_); (focus (simp only [List.reverse_cons, List.reverse_nil, List.nil_append, List.cons_append, memA, mem1, and_true, true_and]; (repeat' apply And.intro); (all_goals (first | trivial | (refine .inr ⟨?_, ?_⟩ <;> (simp; done)) | (refine .inr ⟨?_, ?_⟩ <;> (simp <;> omega)) | (refine .inl ?_; rw [htab]; kernel_rfl))); done)); clear htab tab hKK KK; simp only [thenA, blockA, reduceIte]) | skip)
            | (refine AWP.if_t ?_ ?_; focus (simp (disch := omega) []; done))
            | (refine AWP.if_f ?_ ?_; focus (simp (disch := omega) []; done)))
          refine aStop_of (named_c _ _ _ ds _ (hx'.vw ((Vw.refl _).over (by repeat (first | exact Over.refl _ | exact hov | refine Over.upd ?_ hB (by omega) | refine Over.del ?_ hB (by omega))))) (by omega)) ?_
          rintro r δ ⟨rfl, rfl⟩
          (repeat (simp (disch := omega) [hnx, hni]))
          first | (refine hKK _ _ _ ?_; clear hKK KK; simp only [thenA, blockA, reduceIte]) | skip
          repeat' (first
            | refine AWP.seq ?_
            | refine AWP.block ?_
            | (refine AWP.skip ?_; simp only [thenA, blockA, reduceIte])
            | (refine AWP.exit ?_; simp only [thenA, blockA, eq_self, reduceIte, Nat.reduceEqDiff, Nat.succ_ne_zero])
            | (refine AWP.ret ?_; simp only [thenA, blockA, reduceIte])
            | (refine AWP.region (by rfl) (fun KK hKK => ?_); (repeat (simp (disch := omega) [hnx, hni])); first | (refine hKK _ _ _ ?_; clear hKK KK; simp only [thenA, blockA, reduceIte]) | skip)
            | (refine AWP.draw' mixd (by rfl) (by kernel_rfl) (fun KK tab hKK htab => ?_); (repeat (simp (disch := omega) [hnx, hni])); first | (refine dEnd_ro ?_ (hKK _ _ _ ?_); (focus (simp; done)); clear htab tab hKK KK; simp only [thenA, blockA, reduceIte]) | (refine dEnd_of ?_ (hKK _ _ _ ?_); (focus (simp only [List.reverse_cons, List.reverse_nil, List.nil_append, List.cons_append, memA, mem1, and_true, true_and]; (repeat' apply And.intro); (all_goals (first | trivial | (refine .inr ⟨?_, ?_⟩ <;> (simp; done)) | (refine .inr ⟨?_, ?_⟩ <;> (simp <;> omega)) | (refine .inl ?_; rw [htab]; kernel_rfl))); done)); clear htab tab hKK KK; simp only [thenA, blockA, reduceIte]) | skip)
            | (refine AWP.if_t ?_ ?_; focus (simp (disch := omega) [hnx, hni]; done))
            | (refine AWP.if_f ?_ ?_; focus (simp (disch := omega) [hnx, hni]; done)))
          refine aStop_of (addDef_o _ _ _ ds (t, nw) (hx'.vw ((Vw.refl _).over (by repeat (first | exact Over.refl _ | exact hov | refine Over.upd ?_ hB (by omega) | refine Over.del ?_ hB (by omega))))) hlen hsz ht) ?_
          rintro r δ ⟨rfl, rfl⟩
          (repeat (simp (disch := omega) [hA0, eOut_none, dOut_none]))
          first | (refine hKK _ _ _ ?_; clear hKK KK; simp only [thenA, blockA, reduceIte]) | skip
          repeat' (first
            | refine AWP.seq ?_
            | refine AWP.block ?_
            | (refine AWP.skip ?_; simp only [thenA, blockA, reduceIte])
            | (refine AWP.exit ?_; simp only [thenA, blockA, eq_self, reduceIte, Nat.reduceEqDiff, Nat.succ_ne_zero])
            | (refine AWP.ret ?_; simp only [thenA, blockA, reduceIte])
            | (refine AWP.region (by rfl) (fun KK hKK => ?_); (repeat (simp (disch := omega) [])); first | (refine hKK _ _ _ ?_; clear hKK KK; simp only [thenA, blockA, reduceIte]) | skip)
            | (refine AWP.draw' mixd (by rfl) (by kernel_rfl) (fun KK tab hKK htab => ?_); (repeat (simp (disch := omega) [])); first | (refine dEnd_ro ?_ (hKK _ _ _ ?_); (focus (simp; done)); clear htab tab hKK KK; simp only [thenA, blockA, reduceIte]) | (refine dEnd_of ?_ (hKK _ _ _ ?_); (focus (simp only [List.reverse_cons, List.reverse_nil, List.nil_append, List.cons_append, memA, mem1, and_true, true_and]; (repeat' apply And.intro); (all_goals (first | trivial | (refine .inr ⟨?_, ?_⟩ <;> (simp; done)) | (refine .inr ⟨?_, ?_⟩ <;> (simp <;> omega)) | (refine .inl ?_; rw [htab]; kernel_rfl))); done)); clear htab tab hKK KK; simp only [thenA, blockA, reduceIte]) | skip)
            | (refine AWP.if_t ?_ ?_; focus (simp (disch := omega) []; done))
            | (refine AWP.if_f ?_ ?_; focus (simp (disch := omega) []; done)))
          refine ⟨by simp, ?_⟩
          have hres : Try.f60.results.toList = [.cell 4 25, .tmp 5] := rfl
          rw [hres]
          simp (disch := omega) []
          refine fin0 ⟨?_, rfl⟩ (by simp [resO, nms, nmss])
          simp [resO, ren, rens, rho, hK0, hK1, hK2]
        | some l =>
          rw [eOut_some, dOut_some]
          refine AC.intro [] ent_60 Try.func60 rfl (by simp [Try.f60]) (by simp) ?_
          intro K s hs hB hn hν hA hFr
          simp only [argT, Nat.zero_add, Nat.reduceAdd]
          have hK0 : ¬ 0 = K := by omega
          have hK1 : ¬ 0 = K + 1 := by omega
          have hK2 : ¬ 0 = K + 1 + 1 := by omega
          have hx' := hx.vw hs.vw
          have hbK : b < K := hA b (by simp [nmAs, nmA])
          repeat' (first
            | refine AWP.seq ?_
            | refine AWP.block ?_
            | (refine AWP.skip ?_; simp only [thenA, blockA, reduceIte])
            | (refine AWP.exit ?_; simp only [thenA, blockA, eq_self, reduceIte, Nat.reduceEqDiff, Nat.succ_ne_zero])
            | (refine AWP.ret ?_; simp only [thenA, blockA, reduceIte])
            | (refine AWP.region (by rfl) (fun KK hKK => ?_); (repeat (simp (disch := omega) [])); first | (refine hKK _ _ _ ?_; clear hKK KK; simp only [thenA, blockA, reduceIte]) | skip)
            | (refine AWP.draw' mixd (by rfl) (by kernel_rfl) (fun KK tab hKK htab => ?_); (repeat (simp (disch := omega) [])); first | (refine dEnd_ro ?_ (hKK _ _ _ ?_); (focus (simp; done)); clear htab tab hKK KK; simp only [thenA, blockA, reduceIte]) | (refine dEnd_of ?_ (hKK _ _ _ ?_); (focus (simp only [List.reverse_cons, List.reverse_nil, List.nil_append, List.cons_append, memA, mem1, and_true, true_and]; (repeat' apply And.intro); (all_goals (first | trivial | (refine .inr ⟨?_, ?_⟩ <;> (simp; done)) | (refine .inr ⟨?_, ?_⟩ <;> (simp <;> omega)) | (refine .inl ?_; rw [htab]; kernel_rfl))); done)); clear htab tab hKK KK; simp only [thenA, blockA, reduceIte]) | skip)
            | (refine AWP.if_t ?_ ?_; focus (simp (disch := omega) []; done))
            | (refine AWP.if_f ?_ ?_; focus (simp (disch := omega) []; done)))
          refine aStop_of (named_c _ _ _ ds _ (hx'.vw ((Vw.refl _).over (by repeat (first | exact Over.refl _ | exact hov | refine Over.upd ?_ hB (by omega) | refine Over.del ?_ hB (by omega))))) (by omega)) ?_
          rintro r δ ⟨rfl, rfl⟩
          (repeat (simp (disch := omega) [hnx, hni]))
          first | (refine hKK _ _ _ ?_; clear hKK KK; simp only [thenA, blockA, reduceIte]) | skip
          repeat' (first
            | refine AWP.seq ?_
            | refine AWP.block ?_
            | (refine AWP.skip ?_; simp only [thenA, blockA, reduceIte])
            | (refine AWP.exit ?_; simp only [thenA, blockA, eq_self, reduceIte, Nat.reduceEqDiff, Nat.succ_ne_zero])
            | (refine AWP.ret ?_; simp only [thenA, blockA, reduceIte])
            | (refine AWP.region (by rfl) (fun KK hKK => ?_); (repeat (simp (disch := omega) [hnx, hni])); first | (refine hKK _ _ _ ?_; clear hKK KK; simp only [thenA, blockA, reduceIte]) | skip)
            | (refine AWP.draw' mixd (by rfl) (by kernel_rfl) (fun KK tab hKK htab => ?_); (repeat (simp (disch := omega) [hnx, hni])); first | (refine dEnd_ro ?_ (hKK _ _ _ ?_); (focus (simp; done)); clear htab tab hKK KK; simp only [thenA, blockA, reduceIte]) | (refine dEnd_of ?_ (hKK _ _ _ ?_); (focus (simp only [List.reverse_cons, List.reverse_nil, List.nil_append, List.cons_append, memA, mem1, and_true, true_and]; (repeat' apply And.intro); (all_goals (first | trivial | (refine .inr ⟨?_, ?_⟩ <;> (simp; done)) | (refine .inr ⟨?_, ?_⟩ <;> (simp <;> omega)) | (refine .inl ?_; rw [htab]; kernel_rfl))); done)); clear htab tab hKK KK; simp only [thenA, blockA, reduceIte]) | skip)
            | (refine AWP.if_t ?_ ?_; focus (simp (disch := omega) [hnx, hni]; done))
            | (refine AWP.if_f ?_ ?_; focus (simp (disch := omega) [hnx, hni]; done)))
          refine aStop_of (addDef_o _ _ _ ds (t, nw) (hx'.vw ((Vw.refl _).over (by repeat (first | exact Over.refl _ | exact hov | refine Over.upd ?_ hB (by omega) | refine Over.del ?_ hB (by omega))))) hlen hsz ht) ?_
          rintro r δ ⟨rfl, rfl⟩
          (repeat (simp (disch := omega) [hA0, eOut_some, dOut_some]))
          first | (refine hKK _ _ _ ?_; clear hKK KK; simp only [thenA, blockA, reduceIte]) | skip
          repeat' (first
            | refine AWP.seq ?_
            | refine AWP.block ?_
            | (refine AWP.skip ?_; simp only [thenA, blockA, reduceIte])
            | (refine AWP.exit ?_; simp only [thenA, blockA, eq_self, reduceIte, Nat.reduceEqDiff, Nat.succ_ne_zero])
            | (refine AWP.ret ?_; simp only [thenA, blockA, reduceIte])
            | (refine AWP.region (by rfl) (fun KK hKK => ?_); (repeat (simp (disch := omega) [])); first | (refine hKK _ _ _ ?_; clear hKK KK; simp only [thenA, blockA, reduceIte]) | skip)
            | (refine AWP.draw' mixd (by rfl) (by kernel_rfl) (fun KK tab hKK htab => ?_); (repeat (simp (disch := omega) [])); first | (refine dEnd_ro ?_ (hKK _ _ _ ?_); (focus (simp; done)); clear htab tab hKK KK; simp only [thenA, blockA, reduceIte]) | (refine dEnd_of ?_ (hKK _ _ _ ?_); (focus (simp only [List.reverse_cons, List.reverse_nil, List.nil_append, List.cons_append, memA, mem1, and_true, true_and]; (repeat' apply And.intro); (all_goals (first | trivial | (refine .inr ⟨?_, ?_⟩ <;> (simp; done)) | (refine .inr ⟨?_, ?_⟩ <;> (simp <;> omega)) | (refine .inl ?_; rw [htab]; kernel_rfl))); done)); clear htab tab hKK KK; simp only [thenA, blockA, reduceIte]) | skip)
            | (refine AWP.if_t ?_ ?_; focus (simp (disch := omega) []; done))
            | (refine AWP.if_f ?_ ?_; focus (simp (disch := omega) []; done)))
          refine ⟨by simp, ?_⟩
          have hres : Try.f60.results.toList = [.cell 4 25, .tmp 5] := rfl
          rw [hres]
          simp (disch := omega) []
          refine fin1 (K + 1 + 1 + 1 + 2) (blkD (l)) (by simp (disch := omega) only [upd_eq, upd_ne]) rfl (flatD _) ⟨?_, rfl⟩ (by omega) (by simp [resO, nms, nmss]; try (intros; omega))
          simp [resO, ren, rens, rho]
      · have e : apF ds (0, t, ol, nw) = none := by
          unfold apF apC okO
          rw [if_pos rfl, if_neg (fun h => hol h.2)]
        rw [e, eOut_none, dOut_none]
        refine AC.intro [] ent_60 Try.func60 rfl (by simp [Try.f60]) (by simp) ?_
        intro K s hs hB hn hν hA hFr
        simp only [argT, Nat.zero_add, Nat.reduceAdd]
        have hK0 : ¬ 0 = K := by omega
        have hK1 : ¬ 0 = K + 1 := by omega
        have hK2 : ¬ 0 = K + 1 + 1 := by omega
        have hx' := hx.vw hs.vw
        have hbK : b < K := hA b (by simp [nmAs, nmA])
        repeat' (first
          | refine AWP.seq ?_
          | refine AWP.block ?_
          | (refine AWP.skip ?_; simp only [thenA, blockA, reduceIte])
          | (refine AWP.exit ?_; simp only [thenA, blockA, eq_self, reduceIte, Nat.reduceEqDiff, Nat.succ_ne_zero])
          | (refine AWP.ret ?_; simp only [thenA, blockA, reduceIte])
          | (refine AWP.region (by rfl) (fun KK hKK => ?_); (repeat (simp (disch := omega) [])); first | (refine hKK _ _ _ ?_; clear hKK KK; simp only [thenA, blockA, reduceIte]) | skip)
          | (refine AWP.draw' mixd (by rfl) (by kernel_rfl) (fun KK tab hKK htab => ?_); (repeat (simp (disch := omega) [])); first | (refine dEnd_ro ?_ (hKK _ _ _ ?_); (focus (simp; done)); clear htab tab hKK KK; simp only [thenA, blockA, reduceIte]) | (refine dEnd_of ?_ (hKK _ _ _ ?_); (focus (simp only [List.reverse_cons, List.reverse_nil, List.nil_append, List.cons_append, memA, mem1, and_true, true_and]; (repeat' apply And.intro); (all_goals (first | trivial | (refine .inr ⟨?_, ?_⟩ <;> (simp; done)) | (refine .inr ⟨?_, ?_⟩ <;> (simp <;> omega)) | (refine .inl ?_; rw [htab]; kernel_rfl))); done)); clear htab tab hKK KK; simp only [thenA, blockA, reduceIte]) | skip)
          | (refine AWP.if_t ?_ ?_; focus (simp (disch := omega) []; done))
          | (refine AWP.if_f ?_ ?_; focus (simp (disch := omega) []; done)))
        refine aStop_of (named_c _ _ _ ds _ (hx'.vw ((Vw.refl _).over (by repeat (first | exact Over.refl _ | exact hov | refine Over.upd ?_ hB (by omega) | refine Over.del ?_ hB (by omega))))) (by omega)) ?_
        rintro r δ ⟨rfl, rfl⟩
        (repeat (simp (disch := omega) [hnx, hni, hol]))
        first | (refine hKK _ _ _ ?_; clear hKK KK; simp only [thenA, blockA, reduceIte]) | skip
        repeat' (first
          | refine AWP.seq ?_
          | refine AWP.block ?_
          | (refine AWP.skip ?_; simp only [thenA, blockA, reduceIte])
          | (refine AWP.exit ?_; simp only [thenA, blockA, eq_self, reduceIte, Nat.reduceEqDiff, Nat.succ_ne_zero])
          | (refine AWP.ret ?_; simp only [thenA, blockA, reduceIte])
          | (refine AWP.region (by rfl) (fun KK hKK => ?_); (repeat (simp (disch := omega) [hnx, hni, hol])); first | (refine hKK _ _ _ ?_; clear hKK KK; simp only [thenA, blockA, reduceIte]) | skip)
          | (refine AWP.draw' mixd (by rfl) (by kernel_rfl) (fun KK tab hKK htab => ?_); (repeat (simp (disch := omega) [hnx, hni, hol])); first | (refine dEnd_ro ?_ (hKK _ _ _ ?_); (focus (simp; done)); clear htab tab hKK KK; simp only [thenA, blockA, reduceIte]) | (refine dEnd_of ?_ (hKK _ _ _ ?_); (focus (simp only [List.reverse_cons, List.reverse_nil, List.nil_append, List.cons_append, memA, mem1, and_true, true_and]; (repeat' apply And.intro); (all_goals (first | trivial | (refine .inr ⟨?_, ?_⟩ <;> (simp; done)) | (refine .inr ⟨?_, ?_⟩ <;> (simp <;> omega)) | (refine .inl ?_; rw [htab]; kernel_rfl))); done)); clear htab tab hKK KK; simp only [thenA, blockA, reduceIte]) | skip)
          | (refine AWP.if_t ?_ ?_; focus (simp (disch := omega) [hnx, hni, hol]; done))
          | (refine AWP.if_f ?_ ?_; focus (simp (disch := omega) [hnx, hni, hol]; done)))
        refine ⟨by simp, ?_⟩
        have hres : Try.f60.results.toList = [.cell 4 25, .tmp 5] := rfl
        rw [hres]
        simp (disch := omega) []
        refine fin0 ⟨?_, rfl⟩ (by simp [resO, nms, nmss])
        simp [resO, ren, rens, rho, hK0, hK1, hK2]
    · have hni : 0 ≤ nameIx ds t := by omega
      have e : apF ds (0, t, ol, nw) = none := by
        unfold apF apC okO
        rw [if_pos rfl, if_neg (fun h => hnx h.1)]
      rw [e, eOut_none, dOut_none]
      refine AC.intro [] ent_60 Try.func60 rfl (by simp [Try.f60]) (by simp) ?_
      intro K s hs hB hn hν hA hFr
      simp only [argT, Nat.zero_add, Nat.reduceAdd]
      have hK0 : ¬ 0 = K := by omega
      have hK1 : ¬ 0 = K + 1 := by omega
      have hK2 : ¬ 0 = K + 1 + 1 := by omega
      have hx' := hx.vw hs.vw
      have hbK : b < K := hA b (by simp [nmAs, nmA])
      repeat' (first
        | refine AWP.seq ?_
        | refine AWP.block ?_
        | (refine AWP.skip ?_; simp only [thenA, blockA, reduceIte])
        | (refine AWP.exit ?_; simp only [thenA, blockA, eq_self, reduceIte, Nat.reduceEqDiff, Nat.succ_ne_zero])
        | (refine AWP.ret ?_; simp only [thenA, blockA, reduceIte])
        | (refine AWP.region (by rfl) (fun KK hKK => ?_); (repeat (simp (disch := omega) [])); first | (refine hKK _ _ _ ?_; clear hKK KK; simp only [thenA, blockA, reduceIte]) | skip)
        | (refine AWP.draw' mixd (by rfl) (by kernel_rfl) (fun KK tab hKK htab => ?_); (repeat (simp (disch := omega) [])); first | (refine dEnd_ro ?_ (hKK _ _ _ ?_); (focus (simp; done)); clear htab tab hKK KK; simp only [thenA, blockA, reduceIte]) | (refine dEnd_of ?_ (hKK _ _ _ ?_); (focus (simp only [List.reverse_cons, List.reverse_nil, List.nil_append, List.cons_append, memA, mem1, and_true, true_and]; (repeat' apply And.intro); (all_goals (first | trivial | (refine .inr ⟨?_, ?_⟩ <;> (simp; done)) | (refine .inr ⟨?_, ?_⟩ <;> (simp <;> omega)) | (refine .inl ?_; rw [htab]; kernel_rfl))); done)); clear htab tab hKK KK; simp only [thenA, blockA, reduceIte]) | skip)
        | (refine AWP.if_t ?_ ?_; focus (simp (disch := omega) []; done))
        | (refine AWP.if_f ?_ ?_; focus (simp (disch := omega) []; done)))
      refine aStop_of (named_c _ _ _ ds _ (hx'.vw ((Vw.refl _).over (by repeat (first | exact Over.refl _ | exact hov | refine Over.upd ?_ hB (by omega) | refine Over.del ?_ hB (by omega))))) (by omega)) ?_
      rintro r δ ⟨rfl, rfl⟩
      (repeat (simp (disch := omega) [hnx, hni]))
      first | (refine hKK _ _ _ ?_; clear hKK KK; simp only [thenA, blockA, reduceIte]) | skip
      repeat' (first
        | refine AWP.seq ?_
        | refine AWP.block ?_
        | (refine AWP.skip ?_; simp only [thenA, blockA, reduceIte])
        | (refine AWP.exit ?_; simp only [thenA, blockA, eq_self, reduceIte, Nat.reduceEqDiff, Nat.succ_ne_zero])
        | (refine AWP.ret ?_; simp only [thenA, blockA, reduceIte])
        | (refine AWP.region (by rfl) (fun KK hKK => ?_); (repeat (simp (disch := omega) [hnx, hni])); first | (refine hKK _ _ _ ?_; clear hKK KK; simp only [thenA, blockA, reduceIte]) | skip)
        | (refine AWP.draw' mixd (by rfl) (by kernel_rfl) (fun KK tab hKK htab => ?_); (repeat (simp (disch := omega) [hnx, hni])); first | (refine dEnd_ro ?_ (hKK _ _ _ ?_); (focus (simp; done)); clear htab tab hKK KK; simp only [thenA, blockA, reduceIte]) | (refine dEnd_of ?_ (hKK _ _ _ ?_); (focus (simp only [List.reverse_cons, List.reverse_nil, List.nil_append, List.cons_append, memA, mem1, and_true, true_and]; (repeat' apply And.intro); (all_goals (first | trivial | (refine .inr ⟨?_, ?_⟩ <;> (simp; done)) | (refine .inr ⟨?_, ?_⟩ <;> (simp <;> omega)) | (refine .inl ?_; rw [htab]; kernel_rfl))); done)); clear htab tab hKK KK; simp only [thenA, blockA, reduceIte]) | skip)
        | (refine AWP.if_t ?_ ?_; focus (simp (disch := omega) [hnx, hni]; done))
        | (refine AWP.if_f ?_ ?_; focus (simp (disch := omega) [hnx, hni]; done)))
      refine ⟨by simp, ?_⟩
      have hres : Try.f60.results.toList = [.cell 4 25, .tmp 5] := rfl
      rw [hres]
      simp (disch := omega) []
      refine fin0 ⟨?_, rfl⟩ (by simp [resO, nms, nmss])
      simp [resO, ren, rens, rho, hK0, hK1, hK2]
  · by_cases hnx : nameIx ds t < 0
    · have e : apF ds (kd, t, ol, nw) = none := by
        unfold apF apC okO
        rw [if_neg h0, if_pos hnx]
      rw [e, eOut_none, dOut_none]
      refine AC.intro [] ent_60 Try.func60 rfl (by simp [Try.f60]) (by simp) ?_
      intro K s hs hB hn hν hA hFr
      simp only [argT, Nat.zero_add, Nat.reduceAdd]
      have hK0 : ¬ 0 = K := by omega
      have hK1 : ¬ 0 = K + 1 := by omega
      have hK2 : ¬ 0 = K + 1 + 1 := by omega
      have hx' := hx.vw hs.vw
      have hbK : b < K := hA b (by simp [nmAs, nmA])
      repeat' (first
        | refine AWP.seq ?_
        | refine AWP.block ?_
        | (refine AWP.skip ?_; simp only [thenA, blockA, reduceIte])
        | (refine AWP.exit ?_; simp only [thenA, blockA, eq_self, reduceIte, Nat.reduceEqDiff, Nat.succ_ne_zero])
        | (refine AWP.ret ?_; simp only [thenA, blockA, reduceIte])
        | (refine AWP.region (by rfl) (fun KK hKK => ?_); (repeat (simp (disch := omega) [])); first | (refine hKK _ _ _ ?_; clear hKK KK; simp only [thenA, blockA, reduceIte]) | skip)
        | (refine AWP.draw' mixd (by rfl) (by kernel_rfl) (fun KK tab hKK htab => ?_); (repeat (simp (disch := omega) [])); first | (refine dEnd_ro ?_ (hKK _ _ _ ?_); (focus (simp; done)); clear htab tab hKK KK; simp only [thenA, blockA, reduceIte]) | (refine dEnd_of ?_ (hKK _ _ _ ?_); (focus (simp only [List.reverse_cons, List.reverse_nil, List.nil_append, List.cons_append, memA, mem1, and_true, true_and]; (repeat' apply And.intro); (all_goals (first | trivial | (refine .inr ⟨?_, ?_⟩ <;> (simp; done)) | (refine .inr ⟨?_, ?_⟩ <;> (simp <;> omega)) | (refine .inl ?_; rw [htab]; kernel_rfl))); done)); clear htab tab hKK KK; simp only [thenA, blockA, reduceIte]) | skip)
        | (refine AWP.if_t ?_ ?_; focus (simp (disch := omega) []; done))
        | (refine AWP.if_f ?_ ?_; focus (simp (disch := omega) []; done)))
      refine aStop_of (named_c _ _ _ ds _ (hx'.vw ((Vw.refl _).over (by repeat (first | exact Over.refl _ | exact hov | refine Over.upd ?_ hB (by omega) | refine Over.del ?_ hB (by omega))))) (by omega)) ?_
      rintro r δ ⟨rfl, rfl⟩
      (repeat (simp (disch := omega) [h0, hnx]))
      first | (refine hKK _ _ _ ?_; clear hKK KK; simp only [thenA, blockA, reduceIte]) | skip
      repeat' (first
        | refine AWP.seq ?_
        | refine AWP.block ?_
        | (refine AWP.skip ?_; simp only [thenA, blockA, reduceIte])
        | (refine AWP.exit ?_; simp only [thenA, blockA, eq_self, reduceIte, Nat.reduceEqDiff, Nat.succ_ne_zero])
        | (refine AWP.ret ?_; simp only [thenA, blockA, reduceIte])
        | (refine AWP.region (by rfl) (fun KK hKK => ?_); (repeat (simp (disch := omega) [h0, hnx])); first | (refine hKK _ _ _ ?_; clear hKK KK; simp only [thenA, blockA, reduceIte]) | skip)
        | (refine AWP.draw' mixd (by rfl) (by kernel_rfl) (fun KK tab hKK htab => ?_); (repeat (simp (disch := omega) [h0, hnx])); first | (refine dEnd_ro ?_ (hKK _ _ _ ?_); (focus (simp; done)); clear htab tab hKK KK; simp only [thenA, blockA, reduceIte]) | (refine dEnd_of ?_ (hKK _ _ _ ?_); (focus (simp only [List.reverse_cons, List.reverse_nil, List.nil_append, List.cons_append, memA, mem1, and_true, true_and]; (repeat' apply And.intro); (all_goals (first | trivial | (refine .inr ⟨?_, ?_⟩ <;> (simp; done)) | (refine .inr ⟨?_, ?_⟩ <;> (simp <;> omega)) | (refine .inl ?_; rw [htab]; kernel_rfl))); done)); clear htab tab hKK KK; simp only [thenA, blockA, reduceIte]) | skip)
        | (refine AWP.if_t ?_ ?_; focus (simp (disch := omega) [h0, hnx]; done))
        | (refine AWP.if_f ?_ ?_; focus (simp (disch := omega) [h0, hnx]; done)))
      refine ⟨by simp, ?_⟩
      have hres : Try.f60.results.toList = [.cell 4 25, .tmp 5] := rfl
      rw [hres]
      simp (disch := omega) []
      refine fin0 ⟨?_, rfl⟩ (by simp [resO, nms, nmss])
      simp [resO, ren, rens, rho, hK0, hK1, hK2]
    · obtain ⟨i, hi, e1, e2, e3⟩ := name_mem hnx
      obtain ⟨_, rfl, _⟩ := hx.at (i := i) (by rw [rowsD_len]; exact hi)
      by_cases hol : ds[i].2 = ol
      · by_cases h1 : kd = 1
        · subst h1
          by_cases hw : nw = 0
          · subst hw
            have hsub : okDs (-1000) 1000 (ds.eraseIdx i) = true := okDs_sub hok (List.eraseIdx_sublist ds i)
            have e : apF ds (1, t, ol, 0) = some (ds.eraseIdx i) := by
              unfold apF apC okO
              rw [if_neg h0, if_neg hnx, e3, if_pos hol, if_pos rfl, if_pos rfl, e1, Int.toNat_natCast]
              exact if_pos hsub
            have hd : dropO ds t = some (ds.eraseIdx i) := by
              unfold dropO
              rw [if_pos ⟨hok, by omega⟩, e1, Int.toNat_natCast]
            rw [e, eOut_some, dOut_some]
            refine AC.intro [] ent_60 Try.func60 rfl (by simp [Try.f60]) (by simp) ?_
            intro K s hs hB hn hν hA hFr
            simp only [argT, Nat.zero_add, Nat.reduceAdd]
            have hK0 : ¬ 0 = K := by omega
            have hK1 : ¬ 0 = K + 1 := by omega
            have hK2 : ¬ 0 = K + 1 + 1 := by omega
            have hx' := hx.vw hs.vw
            have hbK : b < K := hA b (by simp [nmAs, nmA])
            obtain ⟨_, _, kb, hkb, hat⟩ := hx'.at (i := i) (by rw [rowsD_len]; exact hi)
            have hrow : (rowsD ds)[i]'(by rw [rowsD_len]; exact hi) = [.v (.string ds[i].1), .v (.int .i64 ds[i].2)] := by simp [rowsD, rowD]
            rw [hrow] at hat
            have hni : ¬ ((i : Int) < 0) := by omega
            repeat' (first
              | refine AWP.seq ?_
              | refine AWP.block ?_
              | (refine AWP.skip ?_; simp only [thenA, blockA, reduceIte])
              | (refine AWP.exit ?_; simp only [thenA, blockA, eq_self, reduceIte, Nat.reduceEqDiff, Nat.succ_ne_zero])
              | (refine AWP.ret ?_; simp only [thenA, blockA, reduceIte])
              | (refine AWP.region (by rfl) (fun KK hKK => ?_); (repeat (simp (disch := omega) [])); first | (refine hKK _ _ _ ?_; clear hKK KK; simp only [thenA, blockA, reduceIte]) | skip)
              | (refine AWP.draw' mixd (by rfl) (by kernel_rfl) (fun KK tab hKK htab => ?_); (repeat (simp (disch := omega) [])); first | (refine dEnd_ro ?_ (hKK _ _ _ ?_); (focus (simp; done)); clear htab tab hKK KK; simp only [thenA, blockA, reduceIte]) | (refine dEnd_of ?_ (hKK _ _ _ ?_); (focus (simp only [List.reverse_cons, List.reverse_nil, List.nil_append, List.cons_append, memA, mem1, and_true, true_and]; (repeat' apply And.intro); (all_goals (first | trivial | (refine .inr ⟨?_, ?_⟩ <;> (simp; done)) | (refine .inr ⟨?_, ?_⟩ <;> (simp <;> omega)) | (refine .inl ?_; rw [htab]; kernel_rfl))); done)); clear htab tab hKK KK; simp only [thenA, blockA, reduceIte]) | skip)
              | (refine AWP.if_t ?_ ?_; focus (simp (disch := omega) []; done))
              | (refine AWP.if_f ?_ ?_; focus (simp (disch := omega) []; done)))
            refine aStop_of (named_c _ _ _ ds _ (hx'.vw ((Vw.refl _).over (by repeat (first | exact Over.refl _ | exact hov | refine Over.upd ?_ hB (by omega) | refine Over.del ?_ hB (by omega))))) (by omega)) ?_
            rintro r δ ⟨rfl, rfl⟩
            (repeat (simp (disch := omega) [e1, hni, hi, hkb, hat, h0, hol]))
            first | (refine hKK _ _ _ ?_; clear hKK KK; simp only [thenA, blockA, reduceIte]) | skip
            repeat' (first
              | refine AWP.seq ?_
              | refine AWP.block ?_
              | (refine AWP.skip ?_; simp only [thenA, blockA, reduceIte])
              | (refine AWP.exit ?_; simp only [thenA, blockA, eq_self, reduceIte, Nat.reduceEqDiff, Nat.succ_ne_zero])
              | (refine AWP.ret ?_; simp only [thenA, blockA, reduceIte])
              | (refine AWP.region (by rfl) (fun KK hKK => ?_); (repeat (simp (disch := omega) [e1, hni, hi, hkb, hat, h0, hol])); first | (refine hKK _ _ _ ?_; clear hKK KK; simp only [thenA, blockA, reduceIte]) | skip)
              | (refine AWP.draw' mixd (by rfl) (by kernel_rfl) (fun KK tab hKK htab => ?_); (repeat (simp (disch := omega) [e1, hni, hi, hkb, hat, h0, hol])); first | (refine dEnd_ro ?_ (hKK _ _ _ ?_); (focus (simp; done)); clear htab tab hKK KK; simp only [thenA, blockA, reduceIte]) | (refine dEnd_of ?_ (hKK _ _ _ ?_); (focus (simp only [List.reverse_cons, List.reverse_nil, List.nil_append, List.cons_append, memA, mem1, and_true, true_and]; (repeat' apply And.intro); (all_goals (first | trivial | (refine .inr ⟨?_, ?_⟩ <;> (simp; done)) | (refine .inr ⟨?_, ?_⟩ <;> (simp <;> omega)) | (refine .inl ?_; rw [htab]; kernel_rfl))); done)); clear htab tab hKK KK; simp only [thenA, blockA, reduceIte]) | skip)
              | (refine AWP.if_t ?_ ?_; focus (simp (disch := omega) [e1, hni, hi, hkb, hat, h0, hol]; done))
              | (refine AWP.if_f ?_ ?_; focus (simp (disch := omega) [e1, hni, hi, hkb, hat, h0, hol]; done)))
            refine aStop_of (dropDef_o _ _ _ ds t (hx'.vw ((Vw.refl _).over (by repeat (first | exact Over.refl _ | exact hov | refine Over.upd ?_ hB (by omega) | refine Over.del ?_ hB (by omega))))) (by omega) hsz) ?_
            rintro r δ ⟨rfl, rfl⟩
            (repeat (simp (disch := omega) [hd, eOut_some, dOut_some]))
            first | (refine hKK _ _ _ ?_; clear hKK KK; simp only [thenA, blockA, reduceIte]) | skip
            repeat' (first
              | refine AWP.seq ?_
              | refine AWP.block ?_
              | (refine AWP.skip ?_; simp only [thenA, blockA, reduceIte])
              | (refine AWP.exit ?_; simp only [thenA, blockA, eq_self, reduceIte, Nat.reduceEqDiff, Nat.succ_ne_zero])
              | (refine AWP.ret ?_; simp only [thenA, blockA, reduceIte])
              | (refine AWP.region (by rfl) (fun KK hKK => ?_); (repeat (simp (disch := omega) [])); first | (refine hKK _ _ _ ?_; clear hKK KK; simp only [thenA, blockA, reduceIte]) | skip)
              | (refine AWP.draw' mixd (by rfl) (by kernel_rfl) (fun KK tab hKK htab => ?_); (repeat (simp (disch := omega) [])); first | (refine dEnd_ro ?_ (hKK _ _ _ ?_); (focus (simp; done)); clear htab tab hKK KK; simp only [thenA, blockA, reduceIte]) | (refine dEnd_of ?_ (hKK _ _ _ ?_); (focus (simp only [List.reverse_cons, List.reverse_nil, List.nil_append, List.cons_append, memA, mem1, and_true, true_and]; (repeat' apply And.intro); (all_goals (first | trivial | (refine .inr ⟨?_, ?_⟩ <;> (simp; done)) | (refine .inr ⟨?_, ?_⟩ <;> (simp <;> omega)) | (refine .inl ?_; rw [htab]; kernel_rfl))); done)); clear htab tab hKK KK; simp only [thenA, blockA, reduceIte]) | skip)
              | (refine AWP.if_t ?_ ?_; focus (simp (disch := omega) []; done))
              | (refine AWP.if_f ?_ ?_; focus (simp (disch := omega) []; done)))
            refine ⟨by simp, ?_⟩
            have hres : Try.f60.results.toList = [.cell 4 25, .tmp 5] := rfl
            rw [hres]
            simp (disch := omega) []
            refine fin1 (K + 1 + 1 + 1 + 2 + 28) (blkD (ds.eraseIdx i)) (by simp (disch := omega) only [upd_eq, upd_ne]) rfl (flatD _) ⟨?_, rfl⟩ (by omega) (by simp [resO, nms, nmss]; try (intros; omega))
            simp [resO, ren, rens, rho]
          · have e : apF ds (1, t, ol, nw) = none := by
              unfold apF apC okO
              rw [if_neg h0, if_neg hnx, e3, if_pos hol, if_pos rfl, if_neg hw]
            rw [e, eOut_none, dOut_none]
            refine AC.intro [] ent_60 Try.func60 rfl (by simp [Try.f60]) (by simp) ?_
            intro K s hs hB hn hν hA hFr
            simp only [argT, Nat.zero_add, Nat.reduceAdd]
            have hK0 : ¬ 0 = K := by omega
            have hK1 : ¬ 0 = K + 1 := by omega
            have hK2 : ¬ 0 = K + 1 + 1 := by omega
            have hx' := hx.vw hs.vw
            have hbK : b < K := hA b (by simp [nmAs, nmA])
            obtain ⟨_, _, kb, hkb, hat⟩ := hx'.at (i := i) (by rw [rowsD_len]; exact hi)
            have hrow : (rowsD ds)[i]'(by rw [rowsD_len]; exact hi) = [.v (.string ds[i].1), .v (.int .i64 ds[i].2)] := by simp [rowsD, rowD]
            rw [hrow] at hat
            have hni : ¬ ((i : Int) < 0) := by omega
            repeat' (first
              | refine AWP.seq ?_
              | refine AWP.block ?_
              | (refine AWP.skip ?_; simp only [thenA, blockA, reduceIte])
              | (refine AWP.exit ?_; simp only [thenA, blockA, eq_self, reduceIte, Nat.reduceEqDiff, Nat.succ_ne_zero])
              | (refine AWP.ret ?_; simp only [thenA, blockA, reduceIte])
              | (refine AWP.region (by rfl) (fun KK hKK => ?_); (repeat (simp (disch := omega) [])); first | (refine hKK _ _ _ ?_; clear hKK KK; simp only [thenA, blockA, reduceIte]) | skip)
              | (refine AWP.draw' mixd (by rfl) (by kernel_rfl) (fun KK tab hKK htab => ?_); (repeat (simp (disch := omega) [])); first | (refine dEnd_ro ?_ (hKK _ _ _ ?_); (focus (simp; done)); clear htab tab hKK KK; simp only [thenA, blockA, reduceIte]) | (refine dEnd_of ?_ (hKK _ _ _ ?_); (focus (simp only [List.reverse_cons, List.reverse_nil, List.nil_append, List.cons_append, memA, mem1, and_true, true_and]; (repeat' apply And.intro); (all_goals (first | trivial | (refine .inr ⟨?_, ?_⟩ <;> (simp; done)) | (refine .inr ⟨?_, ?_⟩ <;> (simp <;> omega)) | (refine .inl ?_; rw [htab]; kernel_rfl))); done)); clear htab tab hKK KK; simp only [thenA, blockA, reduceIte]) | skip)
              | (refine AWP.if_t ?_ ?_; focus (simp (disch := omega) []; done))
              | (refine AWP.if_f ?_ ?_; focus (simp (disch := omega) []; done)))
            refine aStop_of (named_c _ _ _ ds _ (hx'.vw ((Vw.refl _).over (by repeat (first | exact Over.refl _ | exact hov | refine Over.upd ?_ hB (by omega) | refine Over.del ?_ hB (by omega))))) (by omega)) ?_
            rintro r δ ⟨rfl, rfl⟩
            (repeat (simp (disch := omega) [e1, hni, hi, hkb, hat, h0, hol, hw]))
            first | (refine hKK _ _ _ ?_; clear hKK KK; simp only [thenA, blockA, reduceIte]) | skip
            repeat' (first
              | refine AWP.seq ?_
              | refine AWP.block ?_
              | (refine AWP.skip ?_; simp only [thenA, blockA, reduceIte])
              | (refine AWP.exit ?_; simp only [thenA, blockA, eq_self, reduceIte, Nat.reduceEqDiff, Nat.succ_ne_zero])
              | (refine AWP.ret ?_; simp only [thenA, blockA, reduceIte])
              | (refine AWP.region (by rfl) (fun KK hKK => ?_); (repeat (simp (disch := omega) [e1, hni, hi, hkb, hat, h0, hol, hw])); first | (refine hKK _ _ _ ?_; clear hKK KK; simp only [thenA, blockA, reduceIte]) | skip)
              | (refine AWP.draw' mixd (by rfl) (by kernel_rfl) (fun KK tab hKK htab => ?_); (repeat (simp (disch := omega) [e1, hni, hi, hkb, hat, h0, hol, hw])); first | (refine dEnd_ro ?_ (hKK _ _ _ ?_); (focus (simp; done)); clear htab tab hKK KK; simp only [thenA, blockA, reduceIte]) | (refine dEnd_of ?_ (hKK _ _ _ ?_); (focus (simp only [List.reverse_cons, List.reverse_nil, List.nil_append, List.cons_append, memA, mem1, and_true, true_and]; (repeat' apply And.intro); (all_goals (first | trivial | (refine .inr ⟨?_, ?_⟩ <;> (simp; done)) | (refine .inr ⟨?_, ?_⟩ <;> (simp <;> omega)) | (refine .inl ?_; rw [htab]; kernel_rfl))); done)); clear htab tab hKK KK; simp only [thenA, blockA, reduceIte]) | skip)
              | (refine AWP.if_t ?_ ?_; focus (simp (disch := omega) [e1, hni, hi, hkb, hat, h0, hol, hw]; done))
              | (refine AWP.if_f ?_ ?_; focus (simp (disch := omega) [e1, hni, hi, hkb, hat, h0, hol, hw]; done)))
            refine ⟨by simp, ?_⟩
            have hres : Try.f60.results.toList = [.cell 4 25, .tmp 5] := rfl
            rw [hres]
            simp (disch := omega) []
            refine fin0 ⟨?_, rfl⟩ (by simp [resO, nms, nmss])
            simp [resO, ren, rens, rho, hK0, hK1, hK2]
        · by_cases h2 : kd = 2
          · subst h2
            have hee : apF ds (2, t, ol, nw) = okO (some (ds.set i (t, nw))) := by
              unfold apF apC
              rw [if_neg h0, if_neg hnx, e3, if_pos hol, if_neg h1, if_pos rfl, e1, Int.toNat_natCast]
            have hrow2 : (rowsD ds)[i]? = some [.v (.string ds[i].1), .v (.int .i64 ds[i].2)] := by simp [rowsD, rowD, hi]
            have hset : (rowsD ds).set i [.v (.string ds[i].1), .v (.int .i64 nw)] = rowsD (ds.set i (t, nw)) := by
              rw [e2]
              simp [rowsD, rowD, List.map_set]
            have hsz2 : ∀ d ∈ ds.set i (t, nw), d.1.size ≤ 9223372036854775807 := fun d hd => by
              rcases List.mem_or_eq_of_mem_set hd with h | rfl
              · exact hsz d h
              · exact ht
            have hsl : (ds.set i (t, nw)).length = ds.length := by simp
            cases hok2 : okDs (-1000) 1000 (ds.set i (t, nw)) with
            | true =>
              have e : apF ds (2, t, ol, nw) = some (ds.set i (t, nw)) := by rw [hee]; exact if_pos hok2
              rw [e, eOut_some, dOut_some]
              refine AC.intro [] ent_60 Try.func60 rfl (by simp [Try.f60]) (by simp) ?_
              intro K s hs hB hn hν hA hFr
              simp only [argT, Nat.zero_add, Nat.reduceAdd]
              have hK0 : ¬ 0 = K := by omega
              have hK1 : ¬ 0 = K + 1 := by omega
              have hK2 : ¬ 0 = K + 1 + 1 := by omega
              have hx' := hx.vw hs.vw
              have hbK : b < K := hA b (by simp [nmAs, nmA])
              obtain ⟨_, _, kb, hkb, hat⟩ := hx'.at (i := i) (by rw [rowsD_len]; exact hi)
              have hrow : (rowsD ds)[i]'(by rw [rowsD_len]; exact hi) = [.v (.string ds[i].1), .v (.int .i64 ds[i].2)] := by simp [rowsD, rowD]
              rw [hrow] at hat
              have hni : ¬ ((i : Int) < 0) := by omega
              repeat' (first
                | refine AWP.seq ?_
                | refine AWP.block ?_
                | (refine AWP.skip ?_; simp only [thenA, blockA, reduceIte])
                | (refine AWP.exit ?_; simp only [thenA, blockA, eq_self, reduceIte, Nat.reduceEqDiff, Nat.succ_ne_zero])
                | (refine AWP.ret ?_; simp only [thenA, blockA, reduceIte])
                | (refine AWP.region (by rfl) (fun KK hKK => ?_); (repeat (simp (disch := omega) [])); first | (refine hKK _ _ _ ?_; clear hKK KK; simp only [thenA, blockA, reduceIte]) | skip)
                | (refine AWP.draw' mixd (by rfl) (by kernel_rfl) (fun KK tab hKK htab => ?_); (repeat (simp (disch := omega) [])); first | (refine dEnd_ro ?_ (hKK _ _ _ ?_); (focus (simp; done)); clear htab tab hKK KK; simp only [thenA, blockA, reduceIte]) | (refine dEnd_of ?_ (hKK _ _ _ ?_); (focus (simp only [List.reverse_cons, List.reverse_nil, List.nil_append, List.cons_append, memA, mem1, and_true, true_and]; (repeat' apply And.intro); (all_goals (first | trivial | (refine .inr ⟨?_, ?_⟩ <;> (simp; done)) | (refine .inr ⟨?_, ?_⟩ <;> (simp <;> omega)) | (refine .inl ?_; rw [htab]; kernel_rfl))); done)); clear htab tab hKK KK; simp only [thenA, blockA, reduceIte]) | skip)
                | (refine AWP.if_t ?_ ?_; focus (simp (disch := omega) []; done))
                | (refine AWP.if_f ?_ ?_; focus (simp (disch := omega) []; done)))
              refine aStop_of (named_c _ _ _ ds _ (hx'.vw ((Vw.refl _).over (by repeat (first | exact Over.refl _ | exact hov | refine Over.upd ?_ hB (by omega) | refine Over.del ?_ hB (by omega))))) (by omega)) ?_
              rintro r δ ⟨rfl, rfl⟩
              (repeat (simp (disch := omega) [e1, hni, hi, hkb, hat, h0, hol]))
              first | (refine hKK _ _ _ ?_; clear hKK KK; simp only [thenA, blockA, reduceIte]) | skip
              repeat' (first
                | refine AWP.seq ?_
                | refine AWP.block ?_
                | (refine AWP.skip ?_; simp only [thenA, blockA, reduceIte])
                | (refine AWP.exit ?_; simp only [thenA, blockA, eq_self, reduceIte, Nat.reduceEqDiff, Nat.succ_ne_zero])
                | (refine AWP.ret ?_; simp only [thenA, blockA, reduceIte])
                | (refine AWP.region (by rfl) (fun KK hKK => ?_); (repeat (simp (disch := omega) [e1, hni, hi, hkb, hat, h0, hol])); first | (refine hKK _ _ _ ?_; clear hKK KK; simp only [thenA, blockA, reduceIte]) | skip)
                | (refine AWP.draw' mixd (by rfl) (by kernel_rfl) (fun KK tab hKK htab => ?_); (repeat (simp (disch := omega) [e1, hni, hi, hkb, hat, h0, hol])); first | (refine dEnd_ro ?_ (hKK _ _ _ ?_); (focus (simp; done)); clear htab tab hKK KK; simp only [thenA, blockA, reduceIte]) | (refine dEnd_of ?_ (hKK _ _ _ ?_); (focus (simp only [List.reverse_cons, List.reverse_nil, List.nil_append, List.cons_append, memA, mem1, and_true, true_and]; (repeat' apply And.intro); (all_goals (first | trivial | (refine .inr ⟨?_, ?_⟩ <;> (simp; done)) | (refine .inr ⟨?_, ?_⟩ <;> (simp <;> omega)) | (refine .inl ?_; rw [htab]; kernel_rfl))); done)); clear htab tab hKK KK; simp only [thenA, blockA, reduceIte]) | skip)
                | (refine AWP.if_t ?_ ?_; focus (simp (disch := omega) [e1, hni, hi, hkb, hat, h0, hol]; done))
                | (refine AWP.if_f ?_ ?_; focus (simp (disch := omega) [e1, hni, hi, hkb, hat, h0, hol]; done)))
              refine aStop_of (clone_c _ _ _ ds (hx'.vw ((Vw.refl _).over (by repeat (first | exact Over.refl _ | exact hov | refine Over.upd ?_ hB (by omega) | refine Over.del ?_ hB (by omega))))) (by omega)) ?_
              rintro r δ ⟨rfl, rfl⟩
              (repeat (simp (disch := omega) []))
              first | (refine hKK _ _ _ ?_; clear hKK KK; simp only [thenA, blockA, reduceIte]) | skip
              repeat' (first
                | refine AWP.seq ?_
                | refine AWP.block ?_
                | (refine AWP.skip ?_; simp only [thenA, blockA, reduceIte])
                | (refine AWP.exit ?_; simp only [thenA, blockA, eq_self, reduceIte, Nat.reduceEqDiff, Nat.succ_ne_zero])
                | (refine AWP.ret ?_; simp only [thenA, blockA, reduceIte])
                | (refine AWP.region (by rfl) (fun KK hKK => ?_); (repeat (simp (disch := omega) [hi, hrow, hrow2, hset])); first | (refine hKK _ _ _ ?_; clear hKK KK; simp only [thenA, blockA, reduceIte]) | skip)
                | (refine AWP.draw' mixd (by rfl) (by kernel_rfl) (fun KK tab hKK htab => ?_); (repeat (simp (disch := omega) [hi, hrow, hrow2, hset])); first | (refine dEnd_ro ?_ (hKK _ _ _ ?_); (focus (simp; done)); clear htab tab hKK KK; simp only [thenA, blockA, reduceIte]) | (refine dEnd_of ?_ (hKK _ _ _ ?_); (focus (simp only [List.reverse_cons, List.reverse_nil, List.nil_append, List.cons_append, memA, mem1, and_true, true_and]; (repeat' apply And.intro); (all_goals (first | trivial | (refine .inr ⟨?_, ?_⟩ <;> (simp; done)) | (refine .inr ⟨?_, ?_⟩ <;> (simp <;> omega)) | (refine .inl ?_; rw [htab]; kernel_rfl))); done)); clear htab tab hKK KK; simp only [thenA, blockA, reduceIte]) | skip)
                | (refine AWP.if_t ?_ ?_; focus (simp (disch := omega) [hi, hrow, hrow2, hset]; done))
                | (refine AWP.if_f ?_ ?_; focus (simp (disch := omega) [hi, hrow, hrow2, hset]; done)))
              refine aStop_of (enumOf_yes _ _ (.sl (K + 1 + 1 + 1 + 2 + 28) 0 ds.length (some ds.length) 2) (ds.set i (t, nw)) (Sl.whole (t := 34) (r := true) (by simp (disch := omega)) (by simp [rowsD_len])) (by omega) hsz2 hok2) ?_
              rintro r δ ⟨rfl, rfl⟩
              (repeat (simp (disch := omega) []))
              first | (refine hKK _ _ _ ?_; clear hKK KK; simp only [thenA, blockA, reduceIte]) | skip
              repeat' (first
                | refine AWP.seq ?_
                | refine AWP.block ?_
                | (refine AWP.skip ?_; simp only [thenA, blockA, reduceIte])
                | (refine AWP.exit ?_; simp only [thenA, blockA, eq_self, reduceIte, Nat.reduceEqDiff, Nat.succ_ne_zero])
                | (refine AWP.ret ?_; simp only [thenA, blockA, reduceIte])
                | (refine AWP.region (by rfl) (fun KK hKK => ?_); (repeat (simp (disch := omega) [])); first | (refine hKK _ _ _ ?_; clear hKK KK; simp only [thenA, blockA, reduceIte]) | skip)
                | (refine AWP.draw' mixd (by rfl) (by kernel_rfl) (fun KK tab hKK htab => ?_); (repeat (simp (disch := omega) [])); first | (refine dEnd_ro ?_ (hKK _ _ _ ?_); (focus (simp; done)); clear htab tab hKK KK; simp only [thenA, blockA, reduceIte]) | (refine dEnd_of ?_ (hKK _ _ _ ?_); (focus (simp only [List.reverse_cons, List.reverse_nil, List.nil_append, List.cons_append, memA, mem1, and_true, true_and]; (repeat' apply And.intro); (all_goals (first | trivial | (refine .inr ⟨?_, ?_⟩ <;> (simp; done)) | (refine .inr ⟨?_, ?_⟩ <;> (simp <;> omega)) | (refine .inl ?_; rw [htab]; kernel_rfl))); done)); clear htab tab hKK KK; simp only [thenA, blockA, reduceIte]) | skip)
                | (refine AWP.if_t ?_ ?_; focus (simp (disch := omega) []; done))
                | (refine AWP.if_f ?_ ?_; focus (simp (disch := omega) []; done)))
              refine ⟨by simp, ?_⟩
              have hres : Try.f60.results.toList = [.cell 4 25, .tmp 5] := rfl
              rw [hres]
              simp (disch := omega) []
              refine fin1 (K + 1 + 1 + 1 + 2 + 28 + 2) (blkD (ds.set i (t, nw))) (by simp (disch := omega) only [upd_eq, upd_ne]) rfl (flatD _) ⟨?_, rfl⟩ (by omega) (by simp [resO, nms, nmss]; try (intros; omega))
              simp [resO, ren, rens, rho]
            | false =>
              have e : apF ds (2, t, ol, nw) = none := by rw [hee]; exact if_neg (by rw [hok2]; simp)
              rw [e, eOut_none, dOut_none]
              refine AC.intro [] ent_60 Try.func60 rfl (by simp [Try.f60]) (by simp) ?_
              intro K s hs hB hn hν hA hFr
              simp only [argT, Nat.zero_add, Nat.reduceAdd]
              have hK0 : ¬ 0 = K := by omega
              have hK1 : ¬ 0 = K + 1 := by omega
              have hK2 : ¬ 0 = K + 1 + 1 := by omega
              have hx' := hx.vw hs.vw
              have hbK : b < K := hA b (by simp [nmAs, nmA])
              obtain ⟨_, _, kb, hkb, hat⟩ := hx'.at (i := i) (by rw [rowsD_len]; exact hi)
              have hrow : (rowsD ds)[i]'(by rw [rowsD_len]; exact hi) = [.v (.string ds[i].1), .v (.int .i64 ds[i].2)] := by simp [rowsD, rowD]
              rw [hrow] at hat
              have hni : ¬ ((i : Int) < 0) := by omega
              repeat' (first
                | refine AWP.seq ?_
                | refine AWP.block ?_
                | (refine AWP.skip ?_; simp only [thenA, blockA, reduceIte])
                | (refine AWP.exit ?_; simp only [thenA, blockA, eq_self, reduceIte, Nat.reduceEqDiff, Nat.succ_ne_zero])
                | (refine AWP.ret ?_; simp only [thenA, blockA, reduceIte])
                | (refine AWP.region (by rfl) (fun KK hKK => ?_); (repeat (simp (disch := omega) [])); first | (refine hKK _ _ _ ?_; clear hKK KK; simp only [thenA, blockA, reduceIte]) | skip)
                | (refine AWP.draw' mixd (by rfl) (by kernel_rfl) (fun KK tab hKK htab => ?_); (repeat (simp (disch := omega) [])); first | (refine dEnd_ro ?_ (hKK _ _ _ ?_); (focus (simp; done)); clear htab tab hKK KK; simp only [thenA, blockA, reduceIte]) | (refine dEnd_of ?_ (hKK _ _ _ ?_); (focus (simp only [List.reverse_cons, List.reverse_nil, List.nil_append, List.cons_append, memA, mem1, and_true, true_and]; (repeat' apply And.intro); (all_goals (first | trivial | (refine .inr ⟨?_, ?_⟩ <;> (simp; done)) | (refine .inr ⟨?_, ?_⟩ <;> (simp <;> omega)) | (refine .inl ?_; rw [htab]; kernel_rfl))); done)); clear htab tab hKK KK; simp only [thenA, blockA, reduceIte]) | skip)
                | (refine AWP.if_t ?_ ?_; focus (simp (disch := omega) []; done))
                | (refine AWP.if_f ?_ ?_; focus (simp (disch := omega) []; done)))
              refine aStop_of (named_c _ _ _ ds _ (hx'.vw ((Vw.refl _).over (by repeat (first | exact Over.refl _ | exact hov | refine Over.upd ?_ hB (by omega) | refine Over.del ?_ hB (by omega))))) (by omega)) ?_
              rintro r δ ⟨rfl, rfl⟩
              (repeat (simp (disch := omega) [e1, hni, hi, hkb, hat, h0, hol]))
              first | (refine hKK _ _ _ ?_; clear hKK KK; simp only [thenA, blockA, reduceIte]) | skip
              repeat' (first
                | refine AWP.seq ?_
                | refine AWP.block ?_
                | (refine AWP.skip ?_; simp only [thenA, blockA, reduceIte])
                | (refine AWP.exit ?_; simp only [thenA, blockA, eq_self, reduceIte, Nat.reduceEqDiff, Nat.succ_ne_zero])
                | (refine AWP.ret ?_; simp only [thenA, blockA, reduceIte])
                | (refine AWP.region (by rfl) (fun KK hKK => ?_); (repeat (simp (disch := omega) [e1, hni, hi, hkb, hat, h0, hol])); first | (refine hKK _ _ _ ?_; clear hKK KK; simp only [thenA, blockA, reduceIte]) | skip)
                | (refine AWP.draw' mixd (by rfl) (by kernel_rfl) (fun KK tab hKK htab => ?_); (repeat (simp (disch := omega) [e1, hni, hi, hkb, hat, h0, hol])); first | (refine dEnd_ro ?_ (hKK _ _ _ ?_); (focus (simp; done)); clear htab tab hKK KK; simp only [thenA, blockA, reduceIte]) | (refine dEnd_of ?_ (hKK _ _ _ ?_); (focus (simp only [List.reverse_cons, List.reverse_nil, List.nil_append, List.cons_append, memA, mem1, and_true, true_and]; (repeat' apply And.intro); (all_goals (first | trivial | (refine .inr ⟨?_, ?_⟩ <;> (simp; done)) | (refine .inr ⟨?_, ?_⟩ <;> (simp <;> omega)) | (refine .inl ?_; rw [htab]; kernel_rfl))); done)); clear htab tab hKK KK; simp only [thenA, blockA, reduceIte]) | skip)
                | (refine AWP.if_t ?_ ?_; focus (simp (disch := omega) [e1, hni, hi, hkb, hat, h0, hol]; done))
                | (refine AWP.if_f ?_ ?_; focus (simp (disch := omega) [e1, hni, hi, hkb, hat, h0, hol]; done)))
              refine aStop_of (clone_c _ _ _ ds (hx'.vw ((Vw.refl _).over (by repeat (first | exact Over.refl _ | exact hov | refine Over.upd ?_ hB (by omega) | refine Over.del ?_ hB (by omega))))) (by omega)) ?_
              rintro r δ ⟨rfl, rfl⟩
              (repeat (simp (disch := omega) []))
              first | (refine hKK _ _ _ ?_; clear hKK KK; simp only [thenA, blockA, reduceIte]) | skip
              repeat' (first
                | refine AWP.seq ?_
                | refine AWP.block ?_
                | (refine AWP.skip ?_; simp only [thenA, blockA, reduceIte])
                | (refine AWP.exit ?_; simp only [thenA, blockA, eq_self, reduceIte, Nat.reduceEqDiff, Nat.succ_ne_zero])
                | (refine AWP.ret ?_; simp only [thenA, blockA, reduceIte])
                | (refine AWP.region (by rfl) (fun KK hKK => ?_); (repeat (simp (disch := omega) [hi, hrow, hrow2, hset])); first | (refine hKK _ _ _ ?_; clear hKK KK; simp only [thenA, blockA, reduceIte]) | skip)
                | (refine AWP.draw' mixd (by rfl) (by kernel_rfl) (fun KK tab hKK htab => ?_); (repeat (simp (disch := omega) [hi, hrow, hrow2, hset])); first | (refine dEnd_ro ?_ (hKK _ _ _ ?_); (focus (simp; done)); clear htab tab hKK KK; simp only [thenA, blockA, reduceIte]) | (refine dEnd_of ?_ (hKK _ _ _ ?_); (focus (simp only [List.reverse_cons, List.reverse_nil, List.nil_append, List.cons_append, memA, mem1, and_true, true_and]; (repeat' apply And.intro); (all_goals (first | trivial | (refine .inr ⟨?_, ?_⟩ <;> (simp; done)) | (refine .inr ⟨?_, ?_⟩ <;> (simp <;> omega)) | (refine .inl ?_; rw [htab]; kernel_rfl))); done)); clear htab tab hKK KK; simp only [thenA, blockA, reduceIte]) | skip)
                | (refine AWP.if_t ?_ ?_; focus (simp (disch := omega) [hi, hrow, hrow2, hset]; done))
                | (refine AWP.if_f ?_ ?_; focus (simp (disch := omega) [hi, hrow, hrow2, hset]; done)))
              refine aStop_of (enumOf_no _ _ (.sl (K + 1 + 1 + 1 + 2 + 28) 0 ds.length (some ds.length) 2) true (ds.set i (t, nw)) (Sl.whole (t := 34) (r := true) (by simp (disch := omega)) (by simp [rowsD_len])) (by omega) hsz2 (by rw [hok2]; rfl)) ?_
              rintro r δ ⟨rfl, rfl⟩
              (repeat (simp (disch := omega) []))
              first | (refine hKK _ _ _ ?_; clear hKK KK; simp only [thenA, blockA, reduceIte]) | skip
              repeat' (first
                | refine AWP.seq ?_
                | refine AWP.block ?_
                | (refine AWP.skip ?_; simp only [thenA, blockA, reduceIte])
                | (refine AWP.exit ?_; simp only [thenA, blockA, eq_self, reduceIte, Nat.reduceEqDiff, Nat.succ_ne_zero])
                | (refine AWP.ret ?_; simp only [thenA, blockA, reduceIte])
                | (refine AWP.region (by rfl) (fun KK hKK => ?_); (repeat (simp (disch := omega) [])); first | (refine hKK _ _ _ ?_; clear hKK KK; simp only [thenA, blockA, reduceIte]) | skip)
                | (refine AWP.draw' mixd (by rfl) (by kernel_rfl) (fun KK tab hKK htab => ?_); (repeat (simp (disch := omega) [])); first | (refine dEnd_ro ?_ (hKK _ _ _ ?_); (focus (simp; done)); clear htab tab hKK KK; simp only [thenA, blockA, reduceIte]) | (refine dEnd_of ?_ (hKK _ _ _ ?_); (focus (simp only [List.reverse_cons, List.reverse_nil, List.nil_append, List.cons_append, memA, mem1, and_true, true_and]; (repeat' apply And.intro); (all_goals (first | trivial | (refine .inr ⟨?_, ?_⟩ <;> (simp; done)) | (refine .inr ⟨?_, ?_⟩ <;> (simp <;> omega)) | (refine .inl ?_; rw [htab]; kernel_rfl))); done)); clear htab tab hKK KK; simp only [thenA, blockA, reduceIte]) | skip)
                | (refine AWP.if_t ?_ ?_; focus (simp (disch := omega) []; done))
                | (refine AWP.if_f ?_ ?_; focus (simp (disch := omega) []; done)))
              refine ⟨by simp, ?_⟩
              have hres : Try.f60.results.toList = [.cell 4 25, .tmp 5] := rfl
              rw [hres]
              simp (disch := omega) []
              refine fin0 ⟨?_, rfl⟩ (by simp [resO, nms, nmss])
              simp [resO, ren, rens, rho, hK0, hK1, hK2]
          · have e : apF ds (kd, t, ol, nw) = none := by
              unfold apF apC okO
              rw [if_neg h0, if_neg hnx, e3, if_pos hol, if_neg h1, if_neg h2]
            rw [e, eOut_none, dOut_none]
            refine AC.intro [] ent_60 Try.func60 rfl (by simp [Try.f60]) (by simp) ?_
            intro K s hs hB hn hν hA hFr
            simp only [argT, Nat.zero_add, Nat.reduceAdd]
            have hK0 : ¬ 0 = K := by omega
            have hK1 : ¬ 0 = K + 1 := by omega
            have hK2 : ¬ 0 = K + 1 + 1 := by omega
            have hx' := hx.vw hs.vw
            have hbK : b < K := hA b (by simp [nmAs, nmA])
            obtain ⟨_, _, kb, hkb, hat⟩ := hx'.at (i := i) (by rw [rowsD_len]; exact hi)
            have hrow : (rowsD ds)[i]'(by rw [rowsD_len]; exact hi) = [.v (.string ds[i].1), .v (.int .i64 ds[i].2)] := by simp [rowsD, rowD]
            rw [hrow] at hat
            have hni : ¬ ((i : Int) < 0) := by omega
            repeat' (first
              | refine AWP.seq ?_
              | refine AWP.block ?_
              | (refine AWP.skip ?_; simp only [thenA, blockA, reduceIte])
              | (refine AWP.exit ?_; simp only [thenA, blockA, eq_self, reduceIte, Nat.reduceEqDiff, Nat.succ_ne_zero])
              | (refine AWP.ret ?_; simp only [thenA, blockA, reduceIte])
              | (refine AWP.region (by rfl) (fun KK hKK => ?_); (repeat (simp (disch := omega) [])); first | (refine hKK _ _ _ ?_; clear hKK KK; simp only [thenA, blockA, reduceIte]) | skip)
              | (refine AWP.draw' mixd (by rfl) (by kernel_rfl) (fun KK tab hKK htab => ?_); (repeat (simp (disch := omega) [])); first | (refine dEnd_ro ?_ (hKK _ _ _ ?_); (focus (simp; done)); clear htab tab hKK KK; simp only [thenA, blockA, reduceIte]) | (refine dEnd_of ?_ (hKK _ _ _ ?_); (focus (simp only [List.reverse_cons, List.reverse_nil, List.nil_append, List.cons_append, memA, mem1, and_true, true_and]; (repeat' apply And.intro); (all_goals (first | trivial | (refine .inr ⟨?_, ?_⟩ <;> (simp; done)) | (refine .inr ⟨?_, ?_⟩ <;> (simp <;> omega)) | (refine .inl ?_; rw [htab]; kernel_rfl))); done)); clear htab tab hKK KK; simp only [thenA, blockA, reduceIte]) | skip)
              | (refine AWP.if_t ?_ ?_; focus (simp (disch := omega) []; done))
              | (refine AWP.if_f ?_ ?_; focus (simp (disch := omega) []; done)))
            refine aStop_of (named_c _ _ _ ds _ (hx'.vw ((Vw.refl _).over (by repeat (first | exact Over.refl _ | exact hov | refine Over.upd ?_ hB (by omega) | refine Over.del ?_ hB (by omega))))) (by omega)) ?_
            rintro r δ ⟨rfl, rfl⟩
            (repeat (simp (disch := omega) [e1, hni, hi, hkb, hat, h0, hol, h1, h2]))
            first | (refine hKK _ _ _ ?_; clear hKK KK; simp only [thenA, blockA, reduceIte]) | skip
            repeat' (first
              | refine AWP.seq ?_
              | refine AWP.block ?_
              | (refine AWP.skip ?_; simp only [thenA, blockA, reduceIte])
              | (refine AWP.exit ?_; simp only [thenA, blockA, eq_self, reduceIte, Nat.reduceEqDiff, Nat.succ_ne_zero])
              | (refine AWP.ret ?_; simp only [thenA, blockA, reduceIte])
              | (refine AWP.region (by rfl) (fun KK hKK => ?_); (repeat (simp (disch := omega) [e1, hni, hi, hkb, hat, h0, hol, h1, h2])); first | (refine hKK _ _ _ ?_; clear hKK KK; simp only [thenA, blockA, reduceIte]) | skip)
              | (refine AWP.draw' mixd (by rfl) (by kernel_rfl) (fun KK tab hKK htab => ?_); (repeat (simp (disch := omega) [e1, hni, hi, hkb, hat, h0, hol, h1, h2])); first | (refine dEnd_ro ?_ (hKK _ _ _ ?_); (focus (simp; done)); clear htab tab hKK KK; simp only [thenA, blockA, reduceIte]) | (refine dEnd_of ?_ (hKK _ _ _ ?_); (focus (simp only [List.reverse_cons, List.reverse_nil, List.nil_append, List.cons_append, memA, mem1, and_true, true_and]; (repeat' apply And.intro); (all_goals (first | trivial | (refine .inr ⟨?_, ?_⟩ <;> (simp; done)) | (refine .inr ⟨?_, ?_⟩ <;> (simp <;> omega)) | (refine .inl ?_; rw [htab]; kernel_rfl))); done)); clear htab tab hKK KK; simp only [thenA, blockA, reduceIte]) | skip)
              | (refine AWP.if_t ?_ ?_; focus (simp (disch := omega) [e1, hni, hi, hkb, hat, h0, hol, h1, h2]; done))
              | (refine AWP.if_f ?_ ?_; focus (simp (disch := omega) [e1, hni, hi, hkb, hat, h0, hol, h1, h2]; done)))
            refine ⟨by simp, ?_⟩
            have hres : Try.f60.results.toList = [.cell 4 25, .tmp 5] := rfl
            rw [hres]
            simp (disch := omega) []
            refine fin0 ⟨?_, rfl⟩ (by simp [resO, nms, nmss])
            simp [resO, ren, rens, rho, hK0, hK1, hK2]
      · have e : apF ds (kd, t, ol, nw) = none := by
          unfold apF apC okO
          rw [if_neg h0, if_neg hnx, e3, if_neg hol]
        rw [e, eOut_none, dOut_none]
        refine AC.intro [] ent_60 Try.func60 rfl (by simp [Try.f60]) (by simp) ?_
        intro K s hs hB hn hν hA hFr
        simp only [argT, Nat.zero_add, Nat.reduceAdd]
        have hK0 : ¬ 0 = K := by omega
        have hK1 : ¬ 0 = K + 1 := by omega
        have hK2 : ¬ 0 = K + 1 + 1 := by omega
        have hx' := hx.vw hs.vw
        have hbK : b < K := hA b (by simp [nmAs, nmA])
        obtain ⟨_, _, kb, hkb, hat⟩ := hx'.at (i := i) (by rw [rowsD_len]; exact hi)
        have hrow : (rowsD ds)[i]'(by rw [rowsD_len]; exact hi) = [.v (.string ds[i].1), .v (.int .i64 ds[i].2)] := by simp [rowsD, rowD]
        rw [hrow] at hat
        have hni : ¬ ((i : Int) < 0) := by omega
        repeat' (first
          | refine AWP.seq ?_
          | refine AWP.block ?_
          | (refine AWP.skip ?_; simp only [thenA, blockA, reduceIte])
          | (refine AWP.exit ?_; simp only [thenA, blockA, eq_self, reduceIte, Nat.reduceEqDiff, Nat.succ_ne_zero])
          | (refine AWP.ret ?_; simp only [thenA, blockA, reduceIte])
          | (refine AWP.region (by rfl) (fun KK hKK => ?_); (repeat (simp (disch := omega) [])); first | (refine hKK _ _ _ ?_; clear hKK KK; simp only [thenA, blockA, reduceIte]) | skip)
          | (refine AWP.draw' mixd (by rfl) (by kernel_rfl) (fun KK tab hKK htab => ?_); (repeat (simp (disch := omega) [])); first | (refine dEnd_ro ?_ (hKK _ _ _ ?_); (focus (simp; done)); clear htab tab hKK KK; simp only [thenA, blockA, reduceIte]) | (refine dEnd_of ?_ (hKK _ _ _ ?_); (focus (simp only [List.reverse_cons, List.reverse_nil, List.nil_append, List.cons_append, memA, mem1, and_true, true_and]; (repeat' apply And.intro); (all_goals (first | trivial | (refine .inr ⟨?_, ?_⟩ <;> (simp; done)) | (refine .inr ⟨?_, ?_⟩ <;> (simp <;> omega)) | (refine .inl ?_; rw [htab]; kernel_rfl))); done)); clear htab tab hKK KK; simp only [thenA, blockA, reduceIte]) | skip)
          | (refine AWP.if_t ?_ ?_; focus (simp (disch := omega) []; done))
          | (refine AWP.if_f ?_ ?_; focus (simp (disch := omega) []; done)))
        refine aStop_of (named_c _ _ _ ds _ (hx'.vw ((Vw.refl _).over (by repeat (first | exact Over.refl _ | exact hov | refine Over.upd ?_ hB (by omega) | refine Over.del ?_ hB (by omega))))) (by omega)) ?_
        rintro r δ ⟨rfl, rfl⟩
        (repeat (simp (disch := omega) [e1, hni, hi, hkb, hat, h0, hol]))
        first | (refine hKK _ _ _ ?_; clear hKK KK; simp only [thenA, blockA, reduceIte]) | skip
        repeat' (first
          | refine AWP.seq ?_
          | refine AWP.block ?_
          | (refine AWP.skip ?_; simp only [thenA, blockA, reduceIte])
          | (refine AWP.exit ?_; simp only [thenA, blockA, eq_self, reduceIte, Nat.reduceEqDiff, Nat.succ_ne_zero])
          | (refine AWP.ret ?_; simp only [thenA, blockA, reduceIte])
          | (refine AWP.region (by rfl) (fun KK hKK => ?_); (repeat (simp (disch := omega) [e1, hni, hi, hkb, hat, h0, hol])); first | (refine hKK _ _ _ ?_; clear hKK KK; simp only [thenA, blockA, reduceIte]) | skip)
          | (refine AWP.draw' mixd (by rfl) (by kernel_rfl) (fun KK tab hKK htab => ?_); (repeat (simp (disch := omega) [e1, hni, hi, hkb, hat, h0, hol])); first | (refine dEnd_ro ?_ (hKK _ _ _ ?_); (focus (simp; done)); clear htab tab hKK KK; simp only [thenA, blockA, reduceIte]) | (refine dEnd_of ?_ (hKK _ _ _ ?_); (focus (simp only [List.reverse_cons, List.reverse_nil, List.nil_append, List.cons_append, memA, mem1, and_true, true_and]; (repeat' apply And.intro); (all_goals (first | trivial | (refine .inr ⟨?_, ?_⟩ <;> (simp; done)) | (refine .inr ⟨?_, ?_⟩ <;> (simp <;> omega)) | (refine .inl ?_; rw [htab]; kernel_rfl))); done)); clear htab tab hKK KK; simp only [thenA, blockA, reduceIte]) | skip)
          | (refine AWP.if_t ?_ ?_; focus (simp (disch := omega) [e1, hni, hi, hkb, hat, h0, hol]; done))
          | (refine AWP.if_f ?_ ?_; focus (simp (disch := omega) [e1, hni, hi, hkb, hat, h0, hol]; done)))
        refine ⟨by simp, ?_⟩
        have hres : Try.f60.results.toList = [.cell 4 25, .tmp 5] := rfl
        rw [hres]
        simp (disch := omega) []
        refine fin0 ⟨?_, rfl⟩ (by simp [resO, nms, nmss])
        simp [resO, ren, rens, rho, hK0, hK1, hK2]
end Go.Proofs.Ytgaiemhbllbaiaa
