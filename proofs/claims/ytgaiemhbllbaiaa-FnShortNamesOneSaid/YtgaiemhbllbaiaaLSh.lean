/- The law of ShortNames of the value of a name, walked: it answers true for every code. No condition but sizes that every input has. -/
import Derived.Test.YtgaiemhbllbaiaaS2
set_option linter.unusedSimpArgs false
set_option linter.unusedVariables false
namespace Go.Proofs.Ytgaiemhbllbaiaa
open Go Go.RowKit

theorem exN_parts {ds : List Df} {bd a : Int} {t : ByteArray} (h : exN ds bd a = some t) : okFl ds bd = true ∧ ∃ i, ∃ hi : i < ds.length, ds[i].2 = a ∧ ds[i].1 = t ∧ ∀ d ∈ ds.take i, d.2 ≠ a := by
  by_cases hc : okFl ds bd = true ∧ 0 ≤ valueIx ds a
  · rcases valueIx_cases ds a with ⟨h1, _⟩ | ⟨i, hi, h1, h2, h3⟩
    · omega
    · rw [exN_yes hc.1 hi h1] at h
      cases h
      exact ⟨hc.1, i, hi, h2, rfl, h3⟩
  · rw [exN_no hc] at h
    cases h
set_option maxRecDepth 10000 in
set_option maxHeartbeats 8000000 in
theorem short_law_c (σ : Sto) (ν : Nat) (x : AV) (cs : List Int) (hx : Sl σ x 1 (rowsB cs)) (hlen : cs.length ≤ 9223372036854775807) (h8 : ∀ y ∈ cs, 0 ≤ y ∧ y ≤ 255) :
    AC Try.prog 9 [x] σ ν fun r δ => r = .v (.bool true) ∧ δ = noS := by
  obtain ⟨b, o, cap, z, rfl⟩ := hx.out
  simp only [rowsB_len] at hx ⊢
  refine AC.intro [] ent_9 Try.func9 rfl (by simp [Try.f9]) (by simp) ?_
  intro K s hs hB hn hν hA hFr
  simp only [argT, Nat.zero_add, Nat.reduceAdd]
  have hx' := hx.vw hs.vw
  by_cases h1 : (1048576 : Int) < cs.length
  · repeat' (first
      | refine AWP.seq ?_
      | refine AWP.block ?_
      | (refine AWP.skip ?_; simp only [thenA, blockA, reduceIte])
      | (refine AWP.exit ?_; simp only [thenA, blockA, eq_self, reduceIte, Nat.reduceEqDiff, Nat.succ_ne_zero])
      | (refine AWP.ret ?_; simp only [thenA, blockA, reduceIte])
      | (refine AWP.region (by rfl) (fun KK hKK => ?_); (repeat (simp (disch := omega) [h1])); first | (refine hKK _ _ _ ?_; clear hKK KK; simp only [thenA, blockA, reduceIte]) | skip)
      | (refine AWP.draw' mixd (by rfl) (by kernel_rfl) (fun KK tab hKK htab => ?_); (repeat (simp (disch := omega) [h1])); first | (refine dEnd_ro ?_ (hKK _ _ _ ?_); (focus (simp; done)); clear htab tab hKK KK; simp only [thenA, blockA, reduceIte]) | (refine dEnd_of ?_ (hKK _ _ _ ?_); (focus (simp only [List.reverse_cons, List.reverse_nil, List.nil_append, List.cons_append, memA, mem1, and_true, true_and]; (repeat' apply And.intro); (all_goals (first | trivial | (refine .inr ⟨?_, ?_⟩ <;> (simp; done)) | (refine .inr ⟨?_, ?_⟩ <;> (simp <;> omega)) | (refine .inl ?_; rw [htab]; kernel_rfl))); done)); clear htab tab hKK KK; simp only [thenA, blockA, reduceIte]) | skip)
      | (refine AWP.if_t ?_ ?_; focus (simp (disch := omega) [h1]; done))
      | (refine AWP.if_f ?_ ?_; focus (simp (disch := omega) [h1]; done)))
    refine ⟨by simp, _, rfl, fin0 ⟨?_, rfl⟩ (by simp [resO, get, nms, nmss]; try (simp [nms, nmss] at hn; simp_all))⟩
    simp [resO, get, ren, rens]
  repeat' (first
    | refine AWP.seq ?_
    | refine AWP.block ?_
    | (refine AWP.skip ?_; simp only [thenA, blockA, reduceIte])
    | (refine AWP.exit ?_; simp only [thenA, blockA, eq_self, reduceIte, Nat.reduceEqDiff, Nat.succ_ne_zero])
    | (refine AWP.ret ?_; simp only [thenA, blockA, reduceIte])
    | (refine AWP.region (by rfl) (fun KK hKK => ?_); (repeat (simp (disch := omega) [h1])); first | (refine hKK _ _ _ ?_; clear hKK KK; simp only [thenA, blockA, reduceIte]) | skip)
    | (refine AWP.draw' mixd (by rfl) (by kernel_rfl) (fun KK tab hKK htab => ?_); (repeat (simp (disch := omega) [h1])); first | (refine dEnd_ro ?_ (hKK _ _ _ ?_); (focus (simp; done)); clear htab tab hKK KK; simp only [thenA, blockA, reduceIte]) | (refine dEnd_of ?_ (hKK _ _ _ ?_); (focus (simp only [List.reverse_cons, List.reverse_nil, List.nil_append, List.cons_append, memA, mem1, and_true, true_and]; (repeat' apply And.intro); (all_goals (first | trivial | (refine .inr ⟨?_, ?_⟩ <;> (simp; done)) | (refine .inr ⟨?_, ?_⟩ <;> (simp <;> omega)) | (refine .inl ?_; rw [htab]; kernel_rfl))); done)); clear htab tab hKK KK; simp only [thenA, blockA, reduceIte]) | skip)
    | (refine AWP.if_t ?_ ?_; focus (simp (disch := omega) [h1]; done))
    | (refine AWP.if_f ?_ ?_; focus (simp (disch := omega) [h1]; done)))
  refine aStop_of (DrawExactName_c _ _ _ cs (hx'.vw ((Vw.refl _).over (by repeat (first | exact Over.refl _ | exact hov | refine Over.upd ?_ hB (by omega) | refine Over.del ?_ hB (by omega))))) h8 hlen) ?_
  rintro r δ ⟨ds, bd, a, hgd, hb0, hb1, hn0, hn1, rfl, rfl⟩
  (repeat (simp (disch := omega) []))
  first | (refine hKK _ _ _ ?_; clear hKK KK; simp only [thenA, blockA, reduceIte]) | skip
  have hl := hgd.len
  have hl9 : ds.length ≤ 9223372036854775807 := by omega
  have hl4 : ds.length ≤ 4294967296 := by omega
  have hsz : ∀ d ∈ ds, d.1.size ≤ 9223372036854775807 := fun d hd => by have := hgd.sz d hd; omega
  have hi64 : ∀ d ∈ ds, i64R d.2 := fun d hd => by have h1 := hgd.lo d hd; have h2 := hgd.hi d hd; exact ⟨by omega, by omega⟩
  repeat' (first
    | refine AWP.seq ?_
    | refine AWP.block ?_
    | (refine AWP.skip ?_; simp only [thenA, blockA, reduceIte])
    | (refine AWP.exit ?_; simp only [thenA, blockA, eq_self, reduceIte, Nat.reduceEqDiff, Nat.succ_ne_zero])
    | (refine AWP.ret ?_; simp only [thenA, blockA, reduceIte])
    | (refine AWP.region (by rfl) (fun KK hKK => ?_); (repeat (simp (disch := omega) [])); first | (refine hKK _ _ _ ?_; clear hKK KK; simp only [thenA, blockA, reduceIte]) | skip)
    | (refine AWP.draw' mixd (by rfl) (by kernel_rfl) (fun KK tab hKK htab => ?_); (repeat (simp (disch := omega) [])); first | (refine dEnd_ro ?_ (hKK _ _ _ ?_); (focus (simp; done)); clear htab tab hKK KK; simp only [thenA, blockA, reduceIte]) | (refine dEnd_of ?_ (hKK _ _ _ ?_); (focus (simp only [List.reverse_cons, List.reverse_nil, List.nil_append, List.cons_append, memA, mem1, and_true, true_and]; (repeat' apply And.intro); (all_goals (first | trivial | (refine .inr ⟨?_, ?_⟩ <;> (simp; done)) | (refine .inr ⟨?_, ?_⟩ <;> (simp <;> omega)) | (refine .inl ?_; rw [htab]; kernel_rfl))); done)); clear htab tab hKK KK; simp only [thenA, blockA, reduceIte]) | skip)
    | (refine AWP.if_t ?_ ?_; focus (simp (disch := omega) []; done))
    | (refine AWP.if_f ?_ ?_; focus (simp (disch := omega) []; done)))
  cases hO : exN ds bd a with
  | none =>
    repeat' (first
      | refine AWP.seq ?_
      | refine AWP.block ?_
      | (refine AWP.skip ?_; simp only [thenA, blockA, reduceIte])
      | (refine AWP.exit ?_; simp only [thenA, blockA, eq_self, reduceIte, Nat.reduceEqDiff, Nat.succ_ne_zero])
      | (refine AWP.ret ?_; simp only [thenA, blockA, reduceIte])
      | (refine AWP.region (by rfl) (fun KK hKK => ?_); (repeat (simp (disch := omega) [hO, hl])); first | (refine hKK _ _ _ ?_; clear hKK KK; simp only [thenA, blockA, reduceIte]) | skip)
      | (refine AWP.draw' mixd (by rfl) (by kernel_rfl) (fun KK tab hKK htab => ?_); (repeat (simp (disch := omega) [hO, hl])); first | (refine dEnd_ro ?_ (hKK _ _ _ ?_); (focus (simp; done)); clear htab tab hKK KK; simp only [thenA, blockA, reduceIte]) | (refine dEnd_of ?_ (hKK _ _ _ ?_); (focus (simp only [List.reverse_cons, List.reverse_nil, List.nil_append, List.cons_append, memA, mem1, and_true, true_and]; (repeat' apply And.intro); (all_goals (first | trivial | (refine .inr ⟨?_, ?_⟩ <;> (simp; done)) | (refine .inr ⟨?_, ?_⟩ <;> (simp <;> omega)) | (refine .inl ?_; rw [htab]; kernel_rfl))); done)); clear htab tab hKK KK; simp only [thenA, blockA, reduceIte]) | skip)
      | (refine AWP.if_t ?_ ?_; focus (simp (disch := omega) [hO, hl]; done))
      | (refine AWP.if_f ?_ ?_; focus (simp (disch := omega) [hO, hl]; done)))
    repeat
      first
        | (refine aStop_of (exName_c _ _ _ ds bd a (by first | exact (Sl.whole (t := 34) (r := true) ((hσ' _ (by simp)).trans (by simp (disch := omega) only [upd_eq, upd_ne, del_ne])) (by simp [rowsD_len])) | exact (Sl.whole (t := 34) (r := true) (by simp (disch := omega) only [upd_eq, upd_ne, del_ne]) (by simp [rowsD_len]))) hl9 hsz) ?_; rintro r δ ⟨rfl, rfl⟩)
        | (refine dStop_roA (fun σ' hσ' => exName_c σ' _ _ ds bd a (by first | exact (Sl.whole (t := 34) (r := true) ((hσ' _ (by simp)).trans (by simp (disch := omega) only [upd_eq, upd_ne, del_ne])) (by simp [rowsD_len])) | exact (Sl.whole (t := 34) (r := true) (by simp (disch := omega) only [upd_eq, upd_ne, del_ne]) (by simp [rowsD_len]))) hl9 hsz) ?_)
        | (refine aStop_of (exNameS_c _ _ _ ds bd a (by first | exact (Sl.whole (t := 34) (r := true) ((hσ' _ (by simp)).trans (by simp (disch := omega) only [upd_eq, upd_ne, del_ne])) (by simp [rowsD_len])) | exact (Sl.whole (t := 34) (r := true) (by simp (disch := omega) only [upd_eq, upd_ne, del_ne]) (by simp [rowsD_len]))) hl9 hsz) ?_; rintro r δ ⟨rfl, rfl⟩)
        | (refine dStop_roA (fun σ' hσ' => exNameS_c σ' _ _ ds bd a (by first | exact (Sl.whole (t := 34) (r := true) ((hσ' _ (by simp)).trans (by simp (disch := omega) only [upd_eq, upd_ne, del_ne])) (by simp [rowsD_len])) | exact (Sl.whole (t := 34) (r := true) (by simp (disch := omega) only [upd_eq, upd_ne, del_ne]) (by simp [rowsD_len]))) hl9 hsz) ?_)
      (repeat (simp (disch := omega) [hO, hl]))
      first | (refine dEnd_ro ?_ (hKK _ _ _ ?_); (focus (simp; done)); clear htab tab hKK KK; simp only [thenA, blockA, reduceIte]) | (refine dEnd_of ?_ (hKK _ _ _ ?_); (focus (simp only [List.reverse_cons, List.reverse_nil, List.nil_append, List.cons_append, memA, mem1, and_true, true_and]; (repeat' apply And.intro); (all_goals (first | trivial | (refine .inr ⟨?_, ?_⟩ <;> (simp; done)) | (refine .inr ⟨?_, ?_⟩ <;> (simp <;> omega)) | (refine .inl ?_; rw [htab]; kernel_rfl))); done)); clear htab tab hKK KK; simp only [thenA, blockA, reduceIte]) | (refine hKK _ _ _ ?_; clear hKK KK; simp only [thenA, blockA, reduceIte]) | skip
      repeat' (first
        | refine AWP.seq ?_
        | refine AWP.block ?_
        | (refine AWP.skip ?_; simp only [thenA, blockA, reduceIte])
        | (refine AWP.exit ?_; simp only [thenA, blockA, eq_self, reduceIte, Nat.reduceEqDiff, Nat.succ_ne_zero])
        | (refine AWP.ret ?_; simp only [thenA, blockA, reduceIte])
        | (refine AWP.region (by rfl) (fun KK hKK => ?_); (repeat (simp (disch := omega) [hO, hl])); first | (refine hKK _ _ _ ?_; clear hKK KK; simp only [thenA, blockA, reduceIte]) | skip)
        | (refine AWP.draw' mixd (by rfl) (by kernel_rfl) (fun KK tab hKK htab => ?_); (repeat (simp (disch := omega) [hO, hl])); first | (refine dEnd_ro ?_ (hKK _ _ _ ?_); (focus (simp; done)); clear htab tab hKK KK; simp only [thenA, blockA, reduceIte]) | (refine dEnd_of ?_ (hKK _ _ _ ?_); (focus (simp only [List.reverse_cons, List.reverse_nil, List.nil_append, List.cons_append, memA, mem1, and_true, true_and]; (repeat' apply And.intro); (all_goals (first | trivial | (refine .inr ⟨?_, ?_⟩ <;> (simp; done)) | (refine .inr ⟨?_, ?_⟩ <;> (simp <;> omega)) | (refine .inl ?_; rw [htab]; kernel_rfl))); done)); clear htab tab hKK KK; simp only [thenA, blockA, reduceIte]) | skip)
        | (refine AWP.if_t ?_ ?_; focus (simp (disch := omega) [hO, hl]; done))
        | (refine AWP.if_f ?_ ?_; focus (simp (disch := omega) [hO, hl]; done)))
    refine ⟨by simp, _, rfl, fin0 ⟨?_, rfl⟩ (by simp [resO, get, nms, nmss]; try (simp [nms, nmss] at hn; simp_all))⟩
    simp [resO, get, ren, rens]
  | some t =>
    by_cases ha0 : a = 0
    · subst ha0
      repeat' (first
        | refine AWP.seq ?_
        | refine AWP.block ?_
        | (refine AWP.skip ?_; simp only [thenA, blockA, reduceIte])
        | (refine AWP.exit ?_; simp only [thenA, blockA, eq_self, reduceIte, Nat.reduceEqDiff, Nat.succ_ne_zero])
        | (refine AWP.ret ?_; simp only [thenA, blockA, reduceIte])
        | (refine AWP.region (by rfl) (fun KK hKK => ?_); (repeat (simp (disch := omega) [hO, hl])); first | (refine hKK _ _ _ ?_; clear hKK KK; simp only [thenA, blockA, reduceIte]) | skip)
        | (refine AWP.draw' mixd (by rfl) (by kernel_rfl) (fun KK tab hKK htab => ?_); (repeat (simp (disch := omega) [hO, hl])); first | (refine dEnd_ro ?_ (hKK _ _ _ ?_); (focus (simp; done)); clear htab tab hKK KK; simp only [thenA, blockA, reduceIte]) | (refine dEnd_of ?_ (hKK _ _ _ ?_); (focus (simp only [List.reverse_cons, List.reverse_nil, List.nil_append, List.cons_append, memA, mem1, and_true, true_and]; (repeat' apply And.intro); (all_goals (first | trivial | (refine .inr ⟨?_, ?_⟩ <;> (simp; done)) | (refine .inr ⟨?_, ?_⟩ <;> (simp <;> omega)) | (refine .inl ?_; rw [htab]; kernel_rfl))); done)); clear htab tab hKK KK; simp only [thenA, blockA, reduceIte]) | skip)
        | (refine AWP.if_t ?_ ?_; focus (simp (disch := omega) [hO, hl]; done))
        | (refine AWP.if_f ?_ ?_; focus (simp (disch := omega) [hO, hl]; done)))
      repeat
        first
          | (refine aStop_of (exName_c _ _ _ ds bd 0 (by first | exact (Sl.whole (t := 34) (r := true) ((hσ' _ (by simp)).trans (by simp (disch := omega) only [upd_eq, upd_ne, del_ne])) (by simp [rowsD_len])) | exact (Sl.whole (t := 34) (r := true) (by simp (disch := omega) only [upd_eq, upd_ne, del_ne]) (by simp [rowsD_len]))) hl9 hsz) ?_; rintro r δ ⟨rfl, rfl⟩)
          | (refine dStop_roA (fun σ' hσ' => exName_c σ' _ _ ds bd 0 (by first | exact (Sl.whole (t := 34) (r := true) ((hσ' _ (by simp)).trans (by simp (disch := omega) only [upd_eq, upd_ne, del_ne])) (by simp [rowsD_len])) | exact (Sl.whole (t := 34) (r := true) (by simp (disch := omega) only [upd_eq, upd_ne, del_ne]) (by simp [rowsD_len]))) hl9 hsz) ?_)
          | (refine aStop_of (exNameS_c _ _ _ ds bd 0 (by first | exact (Sl.whole (t := 34) (r := true) ((hσ' _ (by simp)).trans (by simp (disch := omega) only [upd_eq, upd_ne, del_ne])) (by simp [rowsD_len])) | exact (Sl.whole (t := 34) (r := true) (by simp (disch := omega) only [upd_eq, upd_ne, del_ne]) (by simp [rowsD_len]))) hl9 hsz) ?_; rintro r δ ⟨rfl, rfl⟩)
          | (refine dStop_roA (fun σ' hσ' => exNameS_c σ' _ _ ds bd 0 (by first | exact (Sl.whole (t := 34) (r := true) ((hσ' _ (by simp)).trans (by simp (disch := omega) only [upd_eq, upd_ne, del_ne])) (by simp [rowsD_len])) | exact (Sl.whole (t := 34) (r := true) (by simp (disch := omega) only [upd_eq, upd_ne, del_ne]) (by simp [rowsD_len]))) hl9 hsz) ?_)
        (repeat (simp (disch := omega) [hO, hl]))
        first | (refine dEnd_ro ?_ (hKK _ _ _ ?_); (focus (simp; done)); clear htab tab hKK KK; simp only [thenA, blockA, reduceIte]) | (refine dEnd_of ?_ (hKK _ _ _ ?_); (focus (simp only [List.reverse_cons, List.reverse_nil, List.nil_append, List.cons_append, memA, mem1, and_true, true_and]; (repeat' apply And.intro); (all_goals (first | trivial | (refine .inr ⟨?_, ?_⟩ <;> (simp; done)) | (refine .inr ⟨?_, ?_⟩ <;> (simp <;> omega)) | (refine .inl ?_; rw [htab]; kernel_rfl))); done)); clear htab tab hKK KK; simp only [thenA, blockA, reduceIte]) | (refine hKK _ _ _ ?_; clear hKK KK; simp only [thenA, blockA, reduceIte]) | skip
        repeat' (first
          | refine AWP.seq ?_
          | refine AWP.block ?_
          | (refine AWP.skip ?_; simp only [thenA, blockA, reduceIte])
          | (refine AWP.exit ?_; simp only [thenA, blockA, eq_self, reduceIte, Nat.reduceEqDiff, Nat.succ_ne_zero])
          | (refine AWP.ret ?_; simp only [thenA, blockA, reduceIte])
          | (refine AWP.region (by rfl) (fun KK hKK => ?_); (repeat (simp (disch := omega) [hO, hl])); first | (refine hKK _ _ _ ?_; clear hKK KK; simp only [thenA, blockA, reduceIte]) | skip)
          | (refine AWP.draw' mixd (by rfl) (by kernel_rfl) (fun KK tab hKK htab => ?_); (repeat (simp (disch := omega) [hO, hl])); first | (refine dEnd_ro ?_ (hKK _ _ _ ?_); (focus (simp; done)); clear htab tab hKK KK; simp only [thenA, blockA, reduceIte]) | (refine dEnd_of ?_ (hKK _ _ _ ?_); (focus (simp only [List.reverse_cons, List.reverse_nil, List.nil_append, List.cons_append, memA, mem1, and_true, true_and]; (repeat' apply And.intro); (all_goals (first | trivial | (refine .inr ⟨?_, ?_⟩ <;> (simp; done)) | (refine .inr ⟨?_, ?_⟩ <;> (simp <;> omega)) | (refine .inl ?_; rw [htab]; kernel_rfl))); done)); clear htab tab hKK KK; simp only [thenA, blockA, reduceIte]) | skip)
          | (refine AWP.if_t ?_ ?_; focus (simp (disch := omega) [hO, hl]; done))
          | (refine AWP.if_f ?_ ?_; focus (simp (disch := omega) [hO, hl]; done)))
      refine ⟨by simp, _, rfl, fin0 ⟨?_, rfl⟩ (by simp [resO, get, nms, nmss]; try (simp [nms, nmss] at hn; simp_all))⟩
      simp [resO, get, ren, rens]
    · obtain ⟨hok, i, hi, h2, h3, h4⟩ := exN_parts hO
      have hv := okFl_rg hok _ (List.getElem_mem hi)
      rw [h2] at hv
      obtain ⟨m, rfl⟩ := Int.eq_ofNat_of_zero_le hv.1
      have hm0 : 0 < m := by omega
      have ha1 : ¬ m = 0 := by omega
      have hsh := fun s' ν' (x' : AV) (hx' : Sl s' x' 2 (rowsD ds)) => shortNames_c s' ν' x' ds bd m i hx' hl4 hsz hok hm0 hi h2 h4
      rw [h3] at hsh
      repeat' (first
        | refine AWP.seq ?_
        | refine AWP.block ?_
        | (refine AWP.skip ?_; simp only [thenA, blockA, reduceIte])
        | (refine AWP.exit ?_; simp only [thenA, blockA, eq_self, reduceIte, Nat.reduceEqDiff, Nat.succ_ne_zero])
        | (refine AWP.ret ?_; simp only [thenA, blockA, reduceIte])
        | (refine AWP.region (by rfl) (fun KK hKK => ?_); (repeat (simp (disch := omega) [hO, ha0, ha1])); first | (refine hKK _ _ _ ?_; clear hKK KK; simp only [thenA, blockA, reduceIte]) | skip)
        | (refine AWP.draw' mixd (by rfl) (by kernel_rfl) (fun KK tab hKK htab => ?_); (repeat (simp (disch := omega) [hO, ha0, ha1])); first | (refine dEnd_ro ?_ (hKK _ _ _ ?_); (focus (simp; done)); clear htab tab hKK KK; simp only [thenA, blockA, reduceIte]) | (refine dEnd_of ?_ (hKK _ _ _ ?_); (focus (simp only [List.reverse_cons, List.reverse_nil, List.nil_append, List.cons_append, memA, mem1, and_true, true_and]; (repeat' apply And.intro); (all_goals (first | trivial | (refine .inr ⟨?_, ?_⟩ <;> (simp; done)) | (refine .inr ⟨?_, ?_⟩ <;> (simp <;> omega)) | (refine .inl ?_; rw [htab]; kernel_rfl))); done)); clear htab tab hKK KK; simp only [thenA, blockA, reduceIte]) | skip)
        | (refine AWP.if_t ?_ ?_; focus (simp (disch := omega) [hO, ha0, ha1]; done))
        | (refine AWP.if_f ?_ ?_; focus (simp (disch := omega) [hO, ha0, ha1]; done)))
      repeat
        first
          | (refine aStop_of (exName_c _ _ _ ds bd m (by first | exact (Sl.whole (t := 34) (r := true) ((hσ' _ (by simp)).trans (by simp (disch := omega) only [upd_eq, upd_ne, del_ne])) (by simp [rowsD_len])) | exact (Sl.whole (t := 34) (r := true) (by simp (disch := omega) only [upd_eq, upd_ne, del_ne]) (by simp [rowsD_len]))) hl9 hsz) ?_; rintro r δ ⟨rfl, rfl⟩)
          | (refine dStop_roA (fun σ' hσ' => exName_c σ' _ _ ds bd m (by first | exact (Sl.whole (t := 34) (r := true) ((hσ' _ (by simp)).trans (by simp (disch := omega) only [upd_eq, upd_ne, del_ne])) (by simp [rowsD_len])) | exact (Sl.whole (t := 34) (r := true) (by simp (disch := omega) only [upd_eq, upd_ne, del_ne]) (by simp [rowsD_len]))) hl9 hsz) ?_)
          | (refine aStop_of (exNameS_c _ _ _ ds bd m (by first | exact (Sl.whole (t := 34) (r := true) ((hσ' _ (by simp)).trans (by simp (disch := omega) only [upd_eq, upd_ne, del_ne])) (by simp [rowsD_len])) | exact (Sl.whole (t := 34) (r := true) (by simp (disch := omega) only [upd_eq, upd_ne, del_ne]) (by simp [rowsD_len]))) hl9 hsz) ?_; rintro r δ ⟨rfl, rfl⟩)
          | (refine dStop_roA (fun σ' hσ' => exNameS_c σ' _ _ ds bd m (by first | exact (Sl.whole (t := 34) (r := true) ((hσ' _ (by simp)).trans (by simp (disch := omega) only [upd_eq, upd_ne, del_ne])) (by simp [rowsD_len])) | exact (Sl.whole (t := 34) (r := true) (by simp (disch := omega) only [upd_eq, upd_ne, del_ne]) (by simp [rowsD_len]))) hl9 hsz) ?_)
          | (refine aStop_of (hsh _ _ _ (by first | exact (Sl.whole (t := 34) (r := true) ((hσ' _ (by simp)).trans (by simp (disch := omega) only [upd_eq, upd_ne, del_ne])) (by simp [rowsD_len])) | exact (Sl.whole (t := 34) (r := true) (by simp (disch := omega) only [upd_eq, upd_ne, del_ne]) (by simp [rowsD_len])))) ?_; rintro r δ ⟨rfl, rfl⟩)
          | (refine dStop_newA (fun σ' hσ' => hsh σ' _ _ (by first | exact (Sl.whole (t := 34) (r := true) ((hσ' _ (by simp)).trans (by simp (disch := omega) only [upd_eq, upd_ne, del_ne])) (by simp [rowsD_len])) | exact (Sl.whole (t := 34) (r := true) (by simp (disch := omega) only [upd_eq, upd_ne, del_ne]) (by simp [rowsD_len])))) ?_)
          | (refine aStop_of (equalTexts_c _ _ _ _ [t] [t] (Sl.whole (t := 9) (r := true) (by simp (disch := omega) [rowsS]) (by simp [rowsS])) (Sl.whole (t := 9) (r := true) (by simp (disch := omega) [rowsS]) (by simp [rowsS])) (by simp) (by simp)) ?_; rintro r δ ⟨rfl, rfl⟩)
        (repeat (simp (disch := omega) [hO, ha0, ha1]))
        first | (refine dEnd_ro ?_ (hKK _ _ _ ?_); (focus (simp; done)); clear htab tab hKK KK; simp only [thenA, blockA, reduceIte]) | (refine dEnd_of ?_ (hKK _ _ _ ?_); (focus (simp only [List.reverse_cons, List.reverse_nil, List.nil_append, List.cons_append, memA, mem1, and_true, true_and]; (repeat' apply And.intro); (all_goals (first | trivial | (refine .inr ⟨?_, ?_⟩ <;> (simp; done)) | (refine .inr ⟨?_, ?_⟩ <;> (simp <;> omega)) | (refine .inl ?_; rw [htab]; kernel_rfl))); done)); clear htab tab hKK KK; simp only [thenA, blockA, reduceIte]) | (refine hKK _ _ _ ?_; clear hKK KK; simp only [thenA, blockA, reduceIte]) | skip
        repeat' (first
          | refine AWP.seq ?_
          | refine AWP.block ?_
          | (refine AWP.skip ?_; simp only [thenA, blockA, reduceIte])
          | (refine AWP.exit ?_; simp only [thenA, blockA, eq_self, reduceIte, Nat.reduceEqDiff, Nat.succ_ne_zero])
          | (refine AWP.ret ?_; simp only [thenA, blockA, reduceIte])
          | (refine AWP.region (by rfl) (fun KK hKK => ?_); (repeat (simp (disch := omega) [hO, ha0, ha1])); first | (refine hKK _ _ _ ?_; clear hKK KK; simp only [thenA, blockA, reduceIte]) | skip)
          | (refine AWP.draw' mixd (by rfl) (by kernel_rfl) (fun KK tab hKK htab => ?_); (repeat (simp (disch := omega) [hO, ha0, ha1])); first | (refine dEnd_ro ?_ (hKK _ _ _ ?_); (focus (simp; done)); clear htab tab hKK KK; simp only [thenA, blockA, reduceIte]) | (refine dEnd_of ?_ (hKK _ _ _ ?_); (focus (simp only [List.reverse_cons, List.reverse_nil, List.nil_append, List.cons_append, memA, mem1, and_true, true_and]; (repeat' apply And.intro); (all_goals (first | trivial | (refine .inr ⟨?_, ?_⟩ <;> (simp; done)) | (refine .inr ⟨?_, ?_⟩ <;> (simp <;> omega)) | (refine .inl ?_; rw [htab]; kernel_rfl))); done)); clear htab tab hKK KK; simp only [thenA, blockA, reduceIte]) | skip)
          | (refine AWP.if_t ?_ ?_; focus (simp (disch := omega) [hO, ha0, ha1]; done))
          | (refine AWP.if_f ?_ ?_; focus (simp (disch := omega) [hO, ha0, ha1]; done)))
      refine ⟨by simp, _, rfl, fin0 ⟨?_, rfl⟩ (by simp [resO, get, nms, nmss]; try (simp [nms, nmss] at hn; simp_all))⟩
      simp [resO, get, ren, rens]
end Go.Proofs.Ytgaiemhbllbaiaa
