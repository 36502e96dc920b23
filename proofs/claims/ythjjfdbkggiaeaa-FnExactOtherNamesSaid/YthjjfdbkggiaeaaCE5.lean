/- Contracts: the reference's other names; marks in lists of texts. No condition. -/
import Derived.Test.YthjjfdbkggiaeaaPM
import Derived.Test.YthjjfdbkggiaeaaC14
set_option linter.unusedSimpArgs false
set_option linter.unusedVariables false
namespace Go.Proofs.Ythjjfdbkggiaeaa
open Go Go.RowKit

theorem drop_take_succ {α : Type} {l : List α} {m k : Nat} (h : k < l.length) (hm : m ≤ k) : (l.take (k + 1)).drop m = (l.take k).drop m ++ [l[k]] := by
  rw [List.take_succ_eq_append_getElem h, List.drop_append_of_le_length (by simp; omega)]
/-- The names of a value behind its first definition are those that are not the first one's. -/
theorem oth_drop {ds : List Df} (hok : okDs (-1000) 1000 ds = true) {m : Nat} (hm : m < ds.length) (hv : valueIx ds ds[m].2 = m) : nmF (fun d => decide (d.2 = ds[m].2)) (ds.drop (m + 1)) = oth ds ds[m] := by
  unfold oth nmF
  congr 1
  have h1 : ds = ds.take m ++ ds[m] :: ds.drop (m + 1) := by rw [← List.drop_eq_getElem_cons hm, List.take_append_drop]
  have hp := ok_names hok
  generalize hd : ds[m] = d at *
  rcases valueIx_cases ds d.2 with ⟨h2, _⟩ | ⟨i, hi, h2, _, h3⟩
  · omega
  · have : i = m := by omega
    subst this
    have e1 : (ds.take i).filter (fun e => decide (e.2 = d.2) && !decide (e.1 = d.1)) = [] := by
      rw [List.filter_eq_nil_iff]
      intro e he
      simp [h3 e he]
    have e2 : (ds.drop (i + 1)).filter (fun e => decide (e.2 = d.2) && !decide (e.1 = d.1)) = (ds.drop (i + 1)).filter (fun e => decide (e.2 = d.2)) := by
      refine List.filter_congr fun e he => ?_
      rw [h1, List.pairwise_append] at hp
      have := (List.pairwise_cons.1 hp.2.1).1 e he
      have hn : ¬ e.1 = d.1 := fun h => this h.symm
      simp [hn]
    conv => rhs; rw [h1]
    rw [List.filter_append, List.filter_cons, e1, e2]
    simp

set_option maxRecDepth 10000 in
set_option maxHeartbeats 2000000 in
theorem OtherNamesS_c (σ : Sto) (ν : Nat) (x : AV) (ds : List Df) (t : ByteArray) (hx : Sl σ x 2 (rowsD ds)) (hlen : ds.length ≤ 4294967296) (hsz : ∀ d ∈ ds, d.1.size ≤ 9223372036854775807) :
    AC Try.prog 58 [.agg [x], .v (.string t)] σ ν fun r δ => r = sOut ν (fun _ => none) (othO ds t) ∧ δ = dOutS ν (othO ds t) := by
  obtain ⟨b, o, cap, z, rfl⟩ := hx.out
  simp only [rowsD_len] at hx ⊢
  cases hok : okDs (-1000) 1000 ds with
  | false =>
    have ho : othO ds t = none := by simp [othO, valO, hok]
    rw [ho, sOut_none, dOutS_none]
    refine AC.intro [] ent_58 Try.func58 rfl (by simp [Try.f58]) (by simp) ?_
    intro K s hs hB hn hν hA hFr
    simp only [argT, Nat.zero_add, Nat.reduceAdd]
    have hK0 : ¬ 0 = K := by omega
    have hx' := hx.vw hs.vw
    repeat' (first
      | refine AWP.seq ?_
      | refine AWP.block ?_
      | (refine AWP.skip ?_; simp only [thenA, blockA, reduceIte])
      | (refine AWP.exit ?_; simp only [thenA, blockA, eq_self, reduceIte, Nat.reduceEqDiff, Nat.succ_ne_zero])
      | (refine AWP.ret ?_; simp only [thenA, blockA, reduceIte])
      | (refine AWP.region (by rfl) (fun KK hKK => ?_); (repeat (simp (disch := omega) [])); first | (refine hKK _ _ _ ?_; clear hKK KK; simp only [thenA, blockA, reduceIte]) | skip)
      | (refine AWP.draw' mixd (by rfl) (by kernel_rfl) (fun KK tab hKK htab => ?_); (repeat (simp (disch := omega) [])); first | (refine dEnd_ro ?_ (hKK _ _ _ ?_); (focus (simp; done)); clear htab tab hKK KK; simp only [thenA, blockA, reduceIte]) | (refine dEnd_of ?_ (hKK _ _ _ ?_); (focus (simp only [List.reverse_cons, List.reverse_nil, List.nil_append, List.cons_append, memA, mem1, and_true, true_and]; (repeat' apply And.intro); (all_goals (first | trivial | (refine .inr ⟨?_, ?_⟩ <;> (simp; done)) | (refine .inr ⟨?_, ?_⟩ <;> (simp <;> omega)) | (refine .inl ?_; rw [htab]; kernel_rfl))); done)); clear htab tab hKK KK; simp only [thenA, blockA, reduceIte]) | skip)
      | (refine AWP.if_t ?_ ?_; focus (simp (disch := omega) []; done))
      | (refine AWP.if_f ?_ ?_; focus (simp (disch := omega) []; done)))
    refine aStop_of (indexOf_c _ _ _ ds _ (hx'.vw ((Vw.refl _).over (by repeat (first | exact Over.refl _ | exact hov | refine Over.upd ?_ hB (by omega) | refine Over.del ?_ hB (by omega))))) (by omega)) ?_
    rintro r δ ⟨rfl, rfl⟩
    (repeat (simp (disch := omega) []))
    first | (refine hKK _ _ _ ?_; clear hKK KK; simp only [thenA, blockA, reduceIte]) | skip
    repeat' (first
      | refine AWP.seq ?_
      | refine AWP.block ?_
      | (refine AWP.skip ?_; simp only [thenA, blockA, reduceIte])
      | (refine AWP.exit ?_; simp only [thenA, blockA, eq_self, reduceIte, Nat.reduceEqDiff, Nat.succ_ne_zero])
      | (refine AWP.ret ?_; simp only [thenA, blockA, reduceIte])
      | (refine AWP.region (by rfl) (fun KK hKK => ?_); (repeat (simp (disch := omega) [])); first | (refine hKK _ _ _ ?_; clear hKK KK; simp only [thenA, blockA, reduceIte]) | skip)
      | (refine AWP.draw' mixd (by rfl) (by kernel_rfl) (fun KK tab hKK htab => ?_); (repeat (simp (disch := omega) [])); first | (refine dEnd_ro ?_ (hKK _ _ _ ?_); (focus (simp; done)); clear htab tab hKK KK; simp only [thenA, blockA, reduceIte]) | (refine dEnd_of ?_ (hKK _ _ _ ?_); (focus (simp only [List.reverse_cons, List.reverse_nil, List.nil_append, List.cons_append, memA, mem1, and_true, true_and]; (repeat' apply And.intro); (all_goals (first | trivial | (refine .inr ⟨?_, ?_⟩ <;> (simp; done)) | (refine .inr ⟨?_, ?_⟩ <;> (simp <;> omega)) | (refine .inl ?_; rw [htab]; kernel_rfl))); done)); clear htab tab hKK KK; simp only [thenA, blockA, reduceIte]) | skip)
      | (refine AWP.if_t ?_ ?_; focus (simp (disch := omega) []; done))
      | (refine AWP.if_f ?_ ?_; focus (simp (disch := omega) []; done)))
    refine aStop_of (validEnumS_c _ _ _ ds (hx'.vw ((Vw.refl _).over (by repeat (first | exact Over.refl _ | exact hov | refine Over.upd ?_ hB (by omega) | refine Over.del ?_ hB (by omega))))) (by omega) hsz) ?_
    rintro r δ ⟨rfl, rfl⟩
    (repeat (simp (disch := omega) [hok]))
    first | (refine hKK _ _ _ ?_; clear hKK KK; simp only [thenA, blockA, reduceIte]) | skip
    repeat' (first
      | refine AWP.seq ?_
      | refine AWP.block ?_
      | (refine AWP.skip ?_; simp only [thenA, blockA, reduceIte])
      | (refine AWP.exit ?_; simp only [thenA, blockA, eq_self, reduceIte, Nat.reduceEqDiff, Nat.succ_ne_zero])
      | (refine AWP.ret ?_; simp only [thenA, blockA, reduceIte])
      | (refine AWP.region (by rfl) (fun KK hKK => ?_); (repeat (simp (disch := omega) [])); first | (refine hKK _ _ _ ?_; clear hKK KK; simp only [thenA, blockA, reduceIte]) | skip)
      | (refine AWP.draw' mixd (by rfl) (by kernel_rfl) (fun KK tab hKK htab => ?_); (repeat (simp (disch := omega) [])); first | (refine dEnd_ro ?_ (hKK _ _ _ ?_); (focus (simp; done)); clear htab tab hKK KK; simp only [thenA, blockA, reduceIte]) | (refine dEnd_of ?_ (hKK _ _ _ ?_); (focus (simp only [List.reverse_cons, List.reverse_nil, List.nil_append, List.cons_append, memA, mem1, and_true, true_and]; (repeat' apply And.intro); (all_goals (first | trivial | (refine .inr ⟨?_, ?_⟩ <;> (simp; done)) | (refine .inr ⟨?_, ?_⟩ <;> (simp <;> omega)) | (refine .inl ?_; rw [htab]; kernel_rfl))); done)); clear htab tab hKK KK; simp only [thenA, blockA, reduceIte]) | skip)
      | (refine AWP.if_t ?_ ?_; focus (simp (disch := omega) []; done))
      | (refine AWP.if_f ?_ ?_; focus (simp (disch := omega) []; done)))
    refine ⟨by simp, _, rfl, fin0 ⟨?_, rfl⟩ (by simp [resO, get, nms, nmss]; try (simp [nms, nmss] at hn; simp_all))⟩
    simp [resO, get, ren, rens, rho, hK0]
  | true =>
    rcases nameIx_all ds t with ⟨hi, hn⟩ | ⟨i, hil, hi, hti, hn⟩
    · have ho : othO ds t = none := by simp [othO, valO, hi]
      rw [ho, sOut_none, dOutS_none]
      refine AC.intro [] ent_58 Try.func58 rfl (by simp [Try.f58]) (by simp) ?_
      intro K s hs hB hn hν hA hFr
      simp only [argT, Nat.zero_add, Nat.reduceAdd]
      have hK0 : ¬ 0 = K := by omega
      have hx' := hx.vw hs.vw
      repeat' (first
        | refine AWP.seq ?_
        | refine AWP.block ?_
        | (refine AWP.skip ?_; simp only [thenA, blockA, reduceIte])
        | (refine AWP.exit ?_; simp only [thenA, blockA, eq_self, reduceIte, Nat.reduceEqDiff, Nat.succ_ne_zero])
        | (refine AWP.ret ?_; simp only [thenA, blockA, reduceIte])
        | (refine AWP.region (by rfl) (fun KK hKK => ?_); (repeat (simp (disch := omega) [])); first | (refine hKK _ _ _ ?_; clear hKK KK; simp only [thenA, blockA, reduceIte]) | skip)
        | (refine AWP.draw' mixd (by rfl) (by kernel_rfl) (fun KK tab hKK htab => ?_); (repeat (simp (disch := omega) [])); first | (refine dEnd_ro ?_ (hKK _ _ _ ?_); (focus (simp; done)); clear htab tab hKK KK; simp only [thenA, blockA, reduceIte]) | (refine dEnd_of ?_ (hKK _ _ _ ?_); (focus (simp only [List.reverse_cons, List.reverse_nil, List.nil_append, List.cons_append, memA, mem1, and_true, true_and]; (repeat' apply And.intro); (all_goals (first | trivial | (refine .inr ⟨?_, ?_⟩ <;> (simp; done)) | (refine .inr ⟨?_, ?_⟩ <;> (simp <;> omega)) | (refine .inl ?_; rw [htab]; kernel_rfl))); done)); clear htab tab hKK KK; simp only [thenA, blockA, reduceIte]) | skip)
        | (refine AWP.if_t ?_ ?_; focus (simp (disch := omega) []; done))
        | (refine AWP.if_f ?_ ?_; focus (simp (disch := omega) []; done)))
      refine aStop_of (indexOf_c _ _ _ ds _ (hx'.vw ((Vw.refl _).over (by repeat (first | exact Over.refl _ | exact hov | refine Over.upd ?_ hB (by omega) | refine Over.del ?_ hB (by omega))))) (by omega)) ?_
      rintro r δ ⟨rfl, rfl⟩
      (repeat (simp (disch := omega) [hi]))
      first | (refine hKK _ _ _ ?_; clear hKK KK; simp only [thenA, blockA, reduceIte]) | skip
      repeat' (first
        | refine AWP.seq ?_
        | refine AWP.block ?_
        | (refine AWP.skip ?_; simp only [thenA, blockA, reduceIte])
        | (refine AWP.exit ?_; simp only [thenA, blockA, eq_self, reduceIte, Nat.reduceEqDiff, Nat.succ_ne_zero])
        | (refine AWP.ret ?_; simp only [thenA, blockA, reduceIte])
        | (refine AWP.region (by rfl) (fun KK hKK => ?_); (repeat (simp (disch := omega) [])); first | (refine hKK _ _ _ ?_; clear hKK KK; simp only [thenA, blockA, reduceIte]) | skip)
        | (refine AWP.draw' mixd (by rfl) (by kernel_rfl) (fun KK tab hKK htab => ?_); (repeat (simp (disch := omega) [])); first | (refine dEnd_ro ?_ (hKK _ _ _ ?_); (focus (simp; done)); clear htab tab hKK KK; simp only [thenA, blockA, reduceIte]) | (refine dEnd_of ?_ (hKK _ _ _ ?_); (focus (simp only [List.reverse_cons, List.reverse_nil, List.nil_append, List.cons_append, memA, mem1, and_true, true_and]; (repeat' apply And.intro); (all_goals (first | trivial | (refine .inr ⟨?_, ?_⟩ <;> (simp; done)) | (refine .inr ⟨?_, ?_⟩ <;> (simp <;> omega)) | (refine .inl ?_; rw [htab]; kernel_rfl))); done)); clear htab tab hKK KK; simp only [thenA, blockA, reduceIte]) | skip)
        | (refine AWP.if_t ?_ ?_; focus (simp (disch := omega) []; done))
        | (refine AWP.if_f ?_ ?_; focus (simp (disch := omega) []; done)))
      refine aStop_of (validEnumS_c _ _ _ ds (hx'.vw ((Vw.refl _).over (by repeat (first | exact Over.refl _ | exact hov | refine Over.upd ?_ hB (by omega) | refine Over.del ?_ hB (by omega))))) (by omega) hsz) ?_
      rintro r δ ⟨rfl, rfl⟩
      (repeat (simp (disch := omega) [hok]))
      first | (refine hKK _ _ _ ?_; clear hKK KK; simp only [thenA, blockA, reduceIte]) | skip
      repeat' (first
        | refine AWP.seq ?_
        | refine AWP.block ?_
        | (refine AWP.skip ?_; simp only [thenA, blockA, reduceIte])
        | (refine AWP.exit ?_; simp only [thenA, blockA, eq_self, reduceIte, Nat.reduceEqDiff, Nat.succ_ne_zero])
        | (refine AWP.ret ?_; simp only [thenA, blockA, reduceIte])
        | (refine AWP.region (by rfl) (fun KK hKK => ?_); (repeat (simp (disch := omega) [])); first | (refine hKK _ _ _ ?_; clear hKK KK; simp only [thenA, blockA, reduceIte]) | skip)
        | (refine AWP.draw' mixd (by rfl) (by kernel_rfl) (fun KK tab hKK htab => ?_); (repeat (simp (disch := omega) [])); first | (refine dEnd_ro ?_ (hKK _ _ _ ?_); (focus (simp; done)); clear htab tab hKK KK; simp only [thenA, blockA, reduceIte]) | (refine dEnd_of ?_ (hKK _ _ _ ?_); (focus (simp only [List.reverse_cons, List.reverse_nil, List.nil_append, List.cons_append, memA, mem1, and_true, true_and]; (repeat' apply And.intro); (all_goals (first | trivial | (refine .inr ⟨?_, ?_⟩ <;> (simp; done)) | (refine .inr ⟨?_, ?_⟩ <;> (simp <;> omega)) | (refine .inl ?_; rw [htab]; kernel_rfl))); done)); clear htab tab hKK KK; simp only [thenA, blockA, reduceIte]) | skip)
        | (refine AWP.if_t ?_ ?_; focus (simp (disch := omega) []; done))
        | (refine AWP.if_f ?_ ?_; focus (simp (disch := omega) []; done)))
      refine ⟨by simp, _, rfl, fin0 ⟨?_, rfl⟩ (by simp [resO, get, nms, nmss]; try (simp [nms, nmss] at hn; simp_all))⟩
      simp [resO, get, ren, rens, rho, hK0]
    · obtain ⟨m, hm, hvm, hv2, hv3⟩ : ∃ m : Nat, ∃ h : m < ds.length, valueIx ds ds[i].2 = m ∧ ds[m].2 = ds[i].2 ∧ ∀ d ∈ ds.take m, d.2 ≠ ds[i].2 := by
        rcases valueIx_cases ds ds[i].2 with ⟨_, h2⟩ | h
        · exact absurd rfl (h2 _ (List.getElem_mem hil))
        · exact h
      have ho : othO ds t = some (nmF (fun d => decide (d.2 = ds[i].2)) (ds.drop (m + 1))) := by
        have h2 := oth_drop hok hm (by rw [hv2]; exact hvm)
        rw [hv2] at h2
        rw [h2]
        simp only [othO, valO_yes hok hil hi, nameO_yes hok hm hvm, Option.getD_some, oth, hv2]
      rw [ho, sOut_some, dOutS_some]
      refine AC.intro [] ent_58 Try.func58 rfl (by simp [Try.f58]) (by simp) ?_
      intro K s hs hB hn hν hA hFr
      simp only [argT, Nat.zero_add, Nat.reduceAdd]
      have hx' := hx.vw hs.vw
      obtain ⟨_, rfl, kb, hkb, hat⟩ := hx'.at (i := i) (by rw [rowsD_len]; exact hil)
      have hrow : (rowsD ds)[i]'(by rw [rowsD_len]; exact hil) = [.v (.string ds[i].1), .v (.int .i64 ds[i].2)] := by simp [rowsD, rowD]
      rw [hrow] at hat
      have hbK : b < K := (hB b _ hkb).1
      repeat' (first
        | refine AWP.seq ?_
        | refine AWP.block ?_
        | (refine AWP.skip ?_; simp only [thenA, blockA, reduceIte])
        | (refine AWP.exit ?_; simp only [thenA, blockA, eq_self, reduceIte, Nat.reduceEqDiff, Nat.succ_ne_zero])
        | (refine AWP.ret ?_; simp only [thenA, blockA, reduceIte])
        | (refine AWP.region (by rfl) (fun KK hKK => ?_); (repeat (simp (disch := omega) [])); first | (refine hKK _ _ _ ?_; clear hKK KK; simp only [thenA, blockA, reduceIte]) | skip)
        | (refine AWP.draw' mixd (by rfl) (by kernel_rfl) (fun KK tab hKK htab => ?_); (repeat (simp (disch := omega) [])); first | (refine dEnd_ro ?_ (hKK _ _ _ ?_); (focus (simp; done)); clear htab tab hKK KK; simp only [thenA, blockA, reduceIte]) | (refine dEnd_of ?_ (hKK _ _ _ ?_); (focus (simp only [List.reverse_cons, List.reverse_nil, List.nil_append, List.cons_append, memA, mem1, and_true, true_and]; (repeat' apply And.intro); (all_goals (first | trivial | (refine .inr ⟨?_, ?_⟩ <;> (simp; done)) | (refine .inr ⟨?_, ?_⟩ <;> (simp <;> omega)) | (refine .inl ?_; rw [htab]; kernel_rfl))); done)); clear htab tab hKK KK; simp only [thenA, blockA, reduceIte]) | skip)
        | (refine AWP.if_t ?_ ?_; focus (simp (disch := omega) []; done))
        | (refine AWP.if_f ?_ ?_; focus (simp (disch := omega) []; done)))
      refine aStop_of (indexOf_c _ _ _ ds _ (hx'.vw ((Vw.refl _).over (by repeat (first | exact Over.refl _ | exact hov | refine Over.upd ?_ hB (by omega) | refine Over.del ?_ hB (by omega))))) (by omega)) ?_
      rintro r δ ⟨rfl, rfl⟩
      (repeat (simp (disch := omega) [hi]))
      first | (refine hKK _ _ _ ?_; clear hKK KK; simp only [thenA, blockA, reduceIte]) | skip
      repeat' (first
        | refine AWP.seq ?_
        | refine AWP.block ?_
        | (refine AWP.skip ?_; simp only [thenA, blockA, reduceIte])
        | (refine AWP.exit ?_; simp only [thenA, blockA, eq_self, reduceIte, Nat.reduceEqDiff, Nat.succ_ne_zero])
        | (refine AWP.ret ?_; simp only [thenA, blockA, reduceIte])
        | (refine AWP.region (by rfl) (fun KK hKK => ?_); (repeat (simp (disch := omega) [])); first | (refine hKK _ _ _ ?_; clear hKK KK; simp only [thenA, blockA, reduceIte]) | skip)
        | (refine AWP.draw' mixd (by rfl) (by kernel_rfl) (fun KK tab hKK htab => ?_); (repeat (simp (disch := omega) [])); first | (refine dEnd_ro ?_ (hKK _ _ _ ?_); (focus (simp; done)); clear htab tab hKK KK; simp only [thenA, blockA, reduceIte]) | (refine dEnd_of ?_ (hKK _ _ _ ?_); (focus (simp only [List.reverse_cons, List.reverse_nil, List.nil_append, List.cons_append, memA, mem1, and_true, true_and]; (repeat' apply And.intro); (all_goals (first | trivial | (refine .inr ⟨?_, ?_⟩ <;> (simp; done)) | (refine .inr ⟨?_, ?_⟩ <;> (simp <;> omega)) | (refine .inl ?_; rw [htab]; kernel_rfl))); done)); clear htab tab hKK KK; simp only [thenA, blockA, reduceIte]) | skip)
        | (refine AWP.if_t ?_ ?_; focus (simp (disch := omega) []; done))
        | (refine AWP.if_f ?_ ?_; focus (simp (disch := omega) []; done)))
      refine aStop_of (validEnumS_c _ _ _ ds (hx'.vw ((Vw.refl _).over (by repeat (first | exact Over.refl _ | exact hov | refine Over.upd ?_ hB (by omega) | refine Over.del ?_ hB (by omega))))) (by omega) hsz) ?_
      rintro r δ ⟨rfl, rfl⟩
      (repeat (simp (disch := omega) [hok]))
      first | (refine hKK _ _ _ ?_; clear hKK KK; simp only [thenA, blockA, reduceIte]) | skip
      repeat' (first
        | refine AWP.seq ?_
        | refine AWP.block ?_
        | (refine AWP.skip ?_; simp only [thenA, blockA, reduceIte])
        | (refine AWP.exit ?_; simp only [thenA, blockA, eq_self, reduceIte, Nat.reduceEqDiff, Nat.succ_ne_zero])
        | (refine AWP.ret ?_; simp only [thenA, blockA, reduceIte])
        | (refine AWP.region (by rfl) (fun KK hKK => ?_); (repeat (simp (disch := omega) [hil, hkb, hat])); first | (refine hKK _ _ _ ?_; clear hKK KK; simp only [thenA, blockA, reduceIte]) | skip)
        | (refine AWP.draw' mixd (by rfl) (by kernel_rfl) (fun KK tab hKK htab => ?_); (repeat (simp (disch := omega) [hil, hkb, hat])); first | (refine dEnd_ro ?_ (hKK _ _ _ ?_); (focus (simp; done)); clear htab tab hKK KK; simp only [thenA, blockA, reduceIte]) | (refine dEnd_of ?_ (hKK _ _ _ ?_); (focus (simp only [List.reverse_cons, List.reverse_nil, List.nil_append, List.cons_append, memA, mem1, and_true, true_and]; (repeat' apply And.intro); (all_goals (first | trivial | (refine .inr ⟨?_, ?_⟩ <;> (simp; done)) | (refine .inr ⟨?_, ?_⟩ <;> (simp <;> omega)) | (refine .inl ?_; rw [htab]; kernel_rfl))); done)); clear htab tab hKK KK; simp only [thenA, blockA, reduceIte]) | skip)
        | (refine AWP.if_t ?_ ?_; focus (simp (disch := omega) [hil, hkb, hat]; done))
        | (refine AWP.if_f ?_ ?_; focus (simp (disch := omega) [hil, hkb, hat]; done)))
      refine dStop_ro [b] (fun σ' hσ' => valueAt_c σ' _ _ ds _ ((hx'.vw ((Vw.refl _).over (by repeat (first | exact Over.refl _ | exact hov | refine Over.upd ?_ hB (by omega) | refine Over.del ?_ hB (by omega))))).on (hσ' _ (by simp))) (by omega)) ?_
      (repeat (simp (disch := omega) [hvm]))
      first | (refine dEnd_ro ?_ (hKK _ _ _ ?_); (focus (simp; done)); clear htab tab hKK KK; simp only [thenA, blockA, reduceIte]) | (refine dEnd_of ?_ (hKK _ _ _ ?_); (focus (simp only [List.reverse_cons, List.reverse_nil, List.nil_append, List.cons_append, memA, mem1, and_true, true_and]; (repeat' apply And.intro); (all_goals (first | trivial | (refine .inr ⟨?_, ?_⟩ <;> (simp; done)) | (refine .inr ⟨?_, ?_⟩ <;> (simp <;> omega)) | (refine .inl ?_; rw [htab]; kernel_rfl))); done)); clear htab tab hKK KK; simp only [thenA, blockA, reduceIte]) | skip
      repeat' (first
        | refine AWP.seq ?_
        | refine AWP.block ?_
        | (refine AWP.skip ?_; simp only [thenA, blockA, reduceIte])
        | (refine AWP.exit ?_; simp only [thenA, blockA, eq_self, reduceIte, Nat.reduceEqDiff, Nat.succ_ne_zero])
        | (refine AWP.ret ?_; simp only [thenA, blockA, reduceIte])
        | (refine AWP.region (by rfl) (fun KK hKK => ?_); (repeat (simp (disch := omega) [])); first | (refine hKK _ _ _ ?_; clear hKK KK; simp only [thenA, blockA, reduceIte]) | skip)
        | (refine AWP.draw' mixd (by rfl) (by kernel_rfl) (fun KK tab hKK htab => ?_); (repeat (simp (disch := omega) [])); first | (refine dEnd_ro ?_ (hKK _ _ _ ?_); (focus (simp; done)); clear htab tab hKK KK; simp only [thenA, blockA, reduceIte]) | (refine dEnd_of ?_ (hKK _ _ _ ?_); (focus (simp only [List.reverse_cons, List.reverse_nil, List.nil_append, List.cons_append, memA, mem1, and_true, true_and]; (repeat' apply And.intro); (all_goals (first | trivial | (refine .inr ⟨?_, ?_⟩ <;> (simp; done)) | (refine .inr ⟨?_, ?_⟩ <;> (simp <;> omega)) | (refine .inl ?_; rw [htab]; kernel_rfl))); done)); clear htab tab hKK KK; simp only [thenA, blockA, reduceIte]) | skip)
        | (refine AWP.if_t ?_ ?_; focus (simp (disch := omega) []; done))
        | (refine AWP.if_f ?_ ?_; focus (simp (disch := omega) []; done)))
      refine AWP.weak (Weak.virt 6 9 1 0 0 0 (by simp) (by omega)) ?_
      have hoff : ∀ j, (nmF (fun d => decide (d.2 = ds[i].2)) ((ds.take j).drop (m + 1))).length ≤ ds.length := fun j => by
        refine Nat.le_trans (nmF_len _ _) ?_
        simp; omega
      refine AWP.loop (fun n τ σ' M => ∃ (k cb : Nat), k ≤ ds.length ∧ m + 1 ≤ k ∧ n = ds.length - k ∧ τ = [(2, .ptr K 0 0), (5, .v (.int .i64 i)), (6, .sl cb 0 (nmF (fun d => decide (d.2 = ds[i].2)) ((ds.take k).drop (m + 1))).length none 1), (7, .v (.int .i64 k))] ∧ σ' cb = some (blkS (nmF (fun d => decide (d.2 = ds[i].2)) ((ds.take k).drop (m + 1)))) ∧ σ' K = some (blkE (.sl b o ds.length cap 2)) ∧ K + 1 ≤ cb ∧ cb < M ∧ Over s σ')
        ⟨_, _, _, _, ⟨m + 1, K + 1 + 2 + 2 + 22, by omega, Nat.le_refl _, rfl, rfl, (by simp only [upd_eq]; simp [nmF]; rfl), by simp (disch := omega) only [upd_eq, upd_ne], ?_, ?_, (by repeat (first | exact Over.refl _ | exact hov | refine Over.upd ?_ hB (by omega) | refine Over.del ?_ hB (by omega)))⟩, Weak.tau (by simp [LQ, nmF])⟩ ?_
      · omega
      · omega
      rintro n τ σ' M ⟨k, cb, hk, hmk, rfl, rfl, hc0, hc3, hc1, hc2, hov⟩
      have hml := hoff k
      by_cases hlt : k < ds.length
      · obtain ⟨_, _, kb2, hkb2, hat2⟩ := hx'.at (i := k) (by rw [rowsD_len]; exact hlt)
        have hrow : (rowsD ds)[k]'(by rw [rowsD_len]; exact hlt) = [.v (.string ds[k].1), .v (.int .i64 ds[k].2)] := by simp [rowsD, rowD]
        rw [hrow] at hat2
        obtain rfl : kb = kb2 := by rw [hkb] at hkb2; exact (Option.some.inj hkb2)
        have hkb3 := hov _ _ hkb
        have hz1 : ((nmF (fun d => decide (d.2 = ds[i].2)) ((ds.take k).drop (m + 1))).length + 1) * 16 ≤ 140737488355328 := by omega
        have hz2 : (nmF (fun d => decide (d.2 = ds[i].2)) ((ds.take k).drop (m + 1))).length + 1 ≤ 4611686018427387904 := by omega
        have hst : nmF (fun d => decide (d.2 = ds[i].2)) ((ds.take (k + 1)).drop (m + 1)) = if ds[k].2 = ds[i].2 then nmF (fun d => decide (d.2 = ds[i].2)) ((ds.take k).drop (m + 1)) ++ [ds[k].1] else nmF (fun d => decide (d.2 = ds[i].2)) ((ds.take k).drop (m + 1)) := by
          rw [drop_take_succ hlt hmk]
          unfold nmF
          rw [List.filter_append]
          by_cases h : ds[k].2 = ds[i].2 <;> simp [List.filter_cons, h]
        by_cases hq : ds[k].2 = ds[i].2
        · rw [if_pos hq] at hst
          repeat' (first
            | refine AWP.seq ?_
            | refine AWP.block ?_
            | (refine AWP.skip ?_; simp only [thenA, blockA, reduceIte])
            | (refine AWP.exit ?_; simp only [thenA, blockA, eq_self, reduceIte, Nat.reduceEqDiff, Nat.succ_ne_zero])
            | (refine AWP.ret ?_; simp only [thenA, blockA, reduceIte])
            | (refine AWP.region (by rfl) (fun KK hKK => ?_); (repeat (simp (disch := omega) [hlt, hil, hkb3, hc3, hat, hat2, hq, elems, rowsS_len, rowsS_snoc, rowsS_take, hz1, hz2, hc0])); first | (refine hKK _ _ _ ?_; clear hKK KK; simp only [thenA, blockA, reduceIte]) | skip)
            | (refine AWP.draw' mixd (by rfl) (by kernel_rfl) (fun KK tab hKK htab => ?_); (repeat (simp (disch := omega) [hlt, hil, hkb3, hc3, hat, hat2, hq, elems, rowsS_len, rowsS_snoc, rowsS_take, hz1, hz2, hc0])); first | (refine dEnd_ro ?_ (hKK _ _ _ ?_); (focus (simp; done)); clear htab tab hKK KK; simp only [thenA, blockA, reduceIte]) | (refine dEnd_of ?_ (hKK _ _ _ ?_); (focus (simp only [List.reverse_cons, List.reverse_nil, List.nil_append, List.cons_append, memA, mem1, and_true, true_and]; (repeat' apply And.intro); (all_goals (first | trivial | (refine .inr ⟨?_, ?_⟩ <;> (simp; done)) | (refine .inr ⟨?_, ?_⟩ <;> (simp <;> omega)) | (refine .inl ?_; rw [htab]; kernel_rfl))); done)); clear htab tab hKK KK; simp only [thenA, blockA, reduceIte]) | skip)
            | (refine AWP.if_t ?_ ?_; focus (simp (disch := omega) [hlt, hil, hkb3, hc3, hat, hat2, hq, elems, rowsS_len, rowsS_snoc, rowsS_take, hz1, hz2, hc0]; done))
            | (refine AWP.if_f ?_ ?_; focus (simp (disch := omega) [hlt, hil, hkb3, hc3, hat, hat2, hq, elems, rowsS_len, rowsS_snoc, rowsS_take, hz1, hz2, hc0]; done)))
          refine ⟨_, _, _, _, ?_, ⟨k + 1, M + 26 + 1, by omega, by omega, rfl, rfl, by rw [hst]; simp (disch := omega) only [upd_eq, upd_ne, del_ne], by simp (disch := omega) only [upd_eq, upd_ne, del_ne, hc3], by omega, by omega, (by repeat (first | exact Over.refl _ | exact hov | refine Over.upd ?_ hB (by omega) | refine Over.del ?_ hB (by omega)))⟩, Weak.tau (by rw [hst]; simp [LQ])⟩
          omega
        · rw [if_neg hq] at hst
          repeat' (first
            | refine AWP.seq ?_
            | refine AWP.block ?_
            | (refine AWP.skip ?_; simp only [thenA, blockA, reduceIte])
            | (refine AWP.exit ?_; simp only [thenA, blockA, eq_self, reduceIte, Nat.reduceEqDiff, Nat.succ_ne_zero])
            | (refine AWP.ret ?_; simp only [thenA, blockA, reduceIte])
            | (refine AWP.region (by rfl) (fun KK hKK => ?_); (repeat (simp (disch := omega) [hlt, hil, hkb3, hc3, hat, hat2, hq])); first | (refine hKK _ _ _ ?_; clear hKK KK; simp only [thenA, blockA, reduceIte]) | skip)
            | (refine AWP.draw' mixd (by rfl) (by kernel_rfl) (fun KK tab hKK htab => ?_); (repeat (simp (disch := omega) [hlt, hil, hkb3, hc3, hat, hat2, hq])); first | (refine dEnd_ro ?_ (hKK _ _ _ ?_); (focus (simp; done)); clear htab tab hKK KK; simp only [thenA, blockA, reduceIte]) | (refine dEnd_of ?_ (hKK _ _ _ ?_); (focus (simp only [List.reverse_cons, List.reverse_nil, List.nil_append, List.cons_append, memA, mem1, and_true, true_and]; (repeat' apply And.intro); (all_goals (first | trivial | (refine .inr ⟨?_, ?_⟩ <;> (simp; done)) | (refine .inr ⟨?_, ?_⟩ <;> (simp <;> omega)) | (refine .inl ?_; rw [htab]; kernel_rfl))); done)); clear htab tab hKK KK; simp only [thenA, blockA, reduceIte]) | skip)
            | (refine AWP.if_t ?_ ?_; focus (simp (disch := omega) [hlt, hil, hkb3, hc3, hat, hat2, hq]; done))
            | (refine AWP.if_f ?_ ?_; focus (simp (disch := omega) [hlt, hil, hkb3, hc3, hat, hat2, hq]; done)))
          refine ⟨_, _, _, _, ?_, ⟨k + 1, cb, by omega, by omega, rfl, rfl, by rw [hst]; simp (disch := omega) only [upd_eq, upd_ne, del_ne, hc0], by simp (disch := omega) only [upd_eq, upd_ne, del_ne, hc3], by omega, by omega, (by repeat (first | exact Over.refl _ | exact hov | refine Over.upd ?_ hB (by omega) | refine Over.del ?_ hB (by omega)))⟩, Weak.tau (by rw [hst]; simp [LQ])⟩
          omega
      · have hk' : k = ds.length := by omega
        subst hk'
        rw [List.take_length] at *
        repeat' (first
          | refine AWP.seq ?_
          | refine AWP.block ?_
          | (refine AWP.skip ?_; simp only [thenA, blockA, reduceIte])
          | (refine AWP.exit ?_; simp only [thenA, blockA, eq_self, reduceIte, Nat.reduceEqDiff, Nat.succ_ne_zero])
          | (refine AWP.ret ?_; simp only [thenA, blockA, reduceIte])
          | (refine AWP.region (by rfl) (fun KK hKK => ?_); (repeat (simp (disch := omega) [hc3])); first | (refine hKK _ _ _ ?_; clear hKK KK; simp only [thenA, blockA, reduceIte]) | skip)
          | (refine AWP.draw' mixd (by rfl) (by kernel_rfl) (fun KK tab hKK htab => ?_); (repeat (simp (disch := omega) [hc3])); first | (refine dEnd_ro ?_ (hKK _ _ _ ?_); (focus (simp; done)); clear htab tab hKK KK; simp only [thenA, blockA, reduceIte]) | (refine dEnd_of ?_ (hKK _ _ _ ?_); (focus (simp only [List.reverse_cons, List.reverse_nil, List.nil_append, List.cons_append, memA, mem1, and_true, true_and]; (repeat' apply And.intro); (all_goals (first | trivial | (refine .inr ⟨?_, ?_⟩ <;> (simp; done)) | (refine .inr ⟨?_, ?_⟩ <;> (simp <;> omega)) | (refine .inl ?_; rw [htab]; kernel_rfl))); done)); clear htab tab hKK KK; simp only [thenA, blockA, reduceIte]) | skip)
          | (refine AWP.if_t ?_ ?_; focus (simp (disch := omega) [hc3]; done))
          | (refine AWP.if_f ?_ ?_; focus (simp (disch := omega) [hc3]; done)))
        refine ⟨by simp, _, rfl, fin1 cb (blkS (nmF (fun d => decide (d.2 = ds[i].2)) (ds.drop (m + 1)))) (by simp (disch := omega) only [upd_eq, upd_ne, del_ne, hc0]) rfl (flatS _) ⟨by simp [resO, get, ren, rho], rfl⟩ (by omega) (by simp [resO, get, nms])⟩
end Go.Proofs.Ythjjfdbkggiaeaa
