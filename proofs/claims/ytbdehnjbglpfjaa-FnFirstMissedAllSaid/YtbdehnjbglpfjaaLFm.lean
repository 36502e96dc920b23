/- The law of FirstMissed with an arm for all, walked: it answers true for every code. No condition but sizes that every input has. -/
import Derived.Test.YtbdehnjbglpfjaaA12
import Derived.Test.YtbdehnjbglpfjaaA10
set_option linter.unusedSimpArgs false
set_option linter.unusedVariables false
namespace Go.Proofs.Ytbdehnjbglpfjaa
open Go Go.RowKit

theorem ptL_cons (a k : Nat) : ∃ t, ptL a (k + 1) = 0 :: t := by
  unfold ptL
  rw [List.range_succ_eq_map]
  refine ⟨_, by rw [List.filter_cons_of_pos (by simp), List.map_cons]; rfl⟩
theorem vas_snoc {ds : List Df} {bd : Int} {l : List Ar} (h : vasB ds bd l = true) (hl : l.length < 10) : vasB ds bd (l ++ [(0, 0)]) = true := by
  simp only [vasB, Bool.and_eq_true, decide_eq_true_eq, List.all_append] at h ⊢
  refine ⟨⟨h.1.1, by simp; omega⟩, h.2, ?_⟩
  have h0 : aokB (mkN ds) 0 0 = true := by
    have := aokB_nat (m := mkN ds) (a := 0) (b := 0)
    simp only [Nat.zero_and, and_self, decide_true] at this
    exact this
  simp [aokP, h0]
theorem fm_all {ds : List Df} {bd : Int} {l : List Ar} (h : vasB ds bd l = true) (hl : l.length < 10) : fmI ds bd (l ++ [(0, 0)]) = -1 := by
  unfold fmI
  rw [if_pos (vas_snoc h hl)]
  refine fm_no fun e he => ?_
  unfold msP
  rw [decide_eq_false]
  rw [idx_neg]
  intro h2
  have := h2 (0, 0) (by simp)
  simp [mtP, mtB] at this
theorem fm_nil {ds : List Df} {bd : Int} (h : okFl ds bd = true) : fmI ds bd [] = 0 := by
  unfold fmI
  rw [if_pos (by simp [vasB, h])]
  obtain ⟨t, e⟩ := ptL_cons (mkN ds) (mkN ds)
  rw [e]
  exact fm_at (k := 0) (by simp) (by simp) (by simp [msP, idx])
theorem fm_in {ds : List Df} {bd : Int} {l : List Ar} (h : vasB ds bd l = true) : fmI ds bd l = -1 ∨ 0 ≤ fmI ds bd l ∧ fmI ds bd l ≤ mkN ds := by
  unfold fmI
  rw [if_pos h]
  unfold fmL
  cases hf : (ptL (mkN ds) (mkN ds + 1)).find? (msP l) with
  | none => exact .inl rfl
  | some n =>
    obtain ⟨j, h1, h2, _⟩ := ptL_nat (List.mem_of_find?_eq_some hf)
    refine .inr ?_
    simp only [Option.getD_some]
    omega
set_option maxRecDepth 10000 in
set_option maxHeartbeats 8000000 in
theorem missed_law_c (σ : Sto) (ν : Nat) (x : AV) (cs : List Int) (hx : Sl σ x 1 (rowsB cs)) (hlen : cs.length ≤ 9223372036854775807) (h8 : ∀ y ∈ cs, 0 ≤ y ∧ y ≤ 255) :
    AC Try.prog 12 [x] σ ν fun r δ => r = .v (.bool true) ∧ δ = noS := by
  obtain ⟨b, o, cap, z, rfl⟩ := hx.out
  simp only [rowsB_len] at hx ⊢
  refine AC.intro [] ent_12 Try.func12 rfl (by simp [Try.f12]) (by simp) ?_
  intro K s hs hB hn hν hA hFr
  simp only [argT, Nat.zero_add, Nat.reduceAdd]
  have hx' := hx.vw hs.vw
  by_cases h1 : (1048576 : Int) < cs.length
  · repeat' (first
      | refine AWP.seq ?_
      | refine AWP.block ?_
      | (refine AWP.skip ?_; simp only [thenA, blockA, reduceIte])
      | (refine AWP.exit ?_; simp only [thenA, blockA, eq_self, reduceIte, Nat.reduceEqDiff, Nat.succ_ne_zero])
      | (refine AWP.ret ?_; simp only [thenA, blockA, reduceIte])
      | (refine AWP.region (by rfl) (fun KK hKK => ?_); (repeat (simp (disch := omega) [h1])); first | (refine hKK _ _ _ ?_; clear hKK KK; simp only [thenA, blockA, reduceIte]) | skip)
      | (refine AWP.draw' mixd (by rfl) (by kernel_rfl) (fun KK tab hKK htab => ?_); (repeat (simp (disch := omega) [h1])); first | (refine dEnd_ro ?_ (hKK _ _ _ ?_); (focus (simp; done)); clear htab tab hKK KK; simp only [thenA, blockA, reduceIte]) | (refine dEnd_of ?_ (hKK _ _ _ ?_); (focus (simp only [List.reverse_cons, List.reverse_nil, List.nil_append, List.cons_append, memA, mem1, and_true, true_and]; (repeat' apply And.intro); (all_goals (first | trivial | (refine .inr ⟨?_, ?_⟩ <;> (simp; done)) | (refine .inr ⟨?_, ?_⟩ <;> (simp <;> omega)) | (refine .inl ?_; rw [htab]; kernel_rfl))); done)); clear htab tab hKK KK; simp only [thenA, blockA, reduceIte]) | skip)
      | (refine AWP.if_t ?_ ?_; focus (simp (disch := omega) [h1]; done))
      | (refine AWP.if_f ?_ ?_; focus (simp (disch := omega) [h1]; done)))
    refine ⟨by simp, _, rfl, fin0 ⟨?_, rfl⟩ (by simp [resO, get, nms, nmss]; try (simp [nms, nmss] at hn; simp_all))⟩
    simp [resO, get, ren, rens]
  repeat' (first
    | refine AWP.seq ?_
    | refine AWP.block ?_
    | (refine AWP.skip ?_; simp only [thenA, blockA, reduceIte])
    | (refine AWP.exit ?_; simp only [thenA, blockA, eq_self, reduceIte, Nat.reduceEqDiff, Nat.succ_ne_zero])
    | (refine AWP.ret ?_; simp only [thenA, blockA, reduceIte])
    | (refine AWP.region (by rfl) (fun KK hKK => ?_); (repeat (simp (disch := omega) [h1])); first | (refine hKK _ _ _ ?_; clear hKK KK; simp only [thenA, blockA, reduceIte]) | skip)
    | (refine AWP.draw' mixd (by rfl) (by kernel_rfl) (fun KK tab hKK htab => ?_); (repeat (simp (disch := omega) [h1])); first | (refine dEnd_ro ?_ (hKK _ _ _ ?_); (focus (simp; done)); clear htab tab hKK KK; simp only [thenA, blockA, reduceIte]) | (refine dEnd_of ?_ (hKK _ _ _ ?_); (focus (simp only [List.reverse_cons, List.reverse_nil, List.nil_append, List.cons_append, memA, mem1, and_true, true_and]; (repeat' apply And.intro); (all_goals (first | trivial | (refine .inr ⟨?_, ?_⟩ <;> (simp; done)) | (refine .inr ⟨?_, ?_⟩ <;> (simp <;> omega)) | (refine .inl ?_; rw [htab]; kernel_rfl))); done)); clear htab tab hKK KK; simp only [thenA, blockA, reduceIte]) | skip)
    | (refine AWP.if_t ?_ ?_; focus (simp (disch := omega) [h1]; done))
    | (refine AWP.if_f ?_ ?_; focus (simp (disch := omega) [h1]; done)))
  refine aStop_of (DrawFirstMissed_c _ _ _ cs (hx'.vw ((Vw.refl _).over (by repeat (first | exact Over.refl _ | exact hov | refine Over.upd ?_ hB (by omega) | refine Over.del ?_ hB (by omega))))) h8 hlen) ?_
  rintro r δ ⟨ds, bd, l, hgd, hb0, hb1, hll, hlr, rfl, rfl⟩
  (repeat (simp (disch := omega) []))
  first | (refine hKK _ _ _ ?_; clear hKK KK; simp only [thenA, blockA, reduceIte]) | skip
  have hl := hgd.len
  have hl9 : ds.length ≤ 9223372036854775807 := by omega
  have hl4 : ds.length ≤ 4294967296 := by omega
  have hsz : ∀ d ∈ ds, d.1.size ≤ 9223372036854775807 := fun d hd => by have := hgd.sz d hd; omega
  have hi64 : ∀ d ∈ ds, i64R d.2 := fun d hd => by have h1 := hgd.lo d hd; have h2 := hgd.hi d hd; exact ⟨by omega, by omega⟩
  repeat' (first
    | refine AWP.seq ?_
    | refine AWP.block ?_
    | (refine AWP.skip ?_; simp only [thenA, blockA, reduceIte])
    | (refine AWP.exit ?_; simp only [thenA, blockA, eq_self, reduceIte, Nat.reduceEqDiff, Nat.succ_ne_zero])
    | (refine AWP.ret ?_; simp only [thenA, blockA, reduceIte])
    | (refine AWP.region (by rfl) (fun KK hKK => ?_); (repeat (simp (disch := omega) [])); first | (refine hKK _ _ _ ?_; clear hKK KK; simp only [thenA, blockA, reduceIte]) | skip)
    | (refine AWP.draw' mixd (by rfl) (by kernel_rfl) (fun KK tab hKK htab => ?_); (repeat (simp (disch := omega) [])); first | (refine dEnd_ro ?_ (hKK _ _ _ ?_); (focus (simp; done)); clear htab tab hKK KK; simp only [thenA, blockA, reduceIte]) | (refine dEnd_of ?_ (hKK _ _ _ ?_); (focus (simp only [List.reverse_cons, List.reverse_nil, List.nil_append, List.cons_append, memA, mem1, and_true, true_and]; (repeat' apply And.intro); (all_goals (first | trivial | (refine .inr ⟨?_, ?_⟩ <;> (simp; done)) | (refine .inr ⟨?_, ?_⟩ <;> (simp <;> omega)) | (refine .inl ?_; rw [htab]; kernel_rfl))); done)); clear htab tab hKK KK; simp only [thenA, blockA, reduceIte]) | skip)
    | (refine AWP.if_t ?_ ?_; focus (simp (disch := omega) []; done))
    | (refine AWP.if_f ?_ ?_; focus (simp (disch := omega) []; done)))
  have hla : l.length ≤ 4294967296 := by omega
  have hla2 : (l ++ [((0 : Int), (0 : Int))]).length ≤ 4294967296 := by simp; omega
  have hri : ∀ a ∈ l, i64R a.1 ∧ i64R a.2 := fun a ha => by obtain ⟨⟨h1, h2⟩, h3, h4⟩ := hlr a ha; exact ⟨⟨by omega, by omega⟩, by omega, by omega⟩
  have hri2 : ∀ a ∈ l ++ [((0 : Int), (0 : Int))], i64R a.1 ∧ i64R a.2 := fun a ha => by
    rcases List.mem_append.1 ha with h | h
    · exact hri a h
    · have : a = (0, 0) := by simpa using h
      subst this
      exact ⟨⟨by omega, by omega⟩, by omega, by omega⟩
  have hz1 : (l.length + 1) * 16 ≤ 140737488355328 := by omega
  have hz2 : l.length + 1 ≤ 4611686018427387904 := by omega
  have hz3 : l.length * 16 ≤ 140737488355328 := by omega
  have hz4 : l.length ≤ 4611686018427387904 := by omega
  have hlt : ¬ 10 ≤ l.length := by omega
  have hlti : ¬ (10 : Int) ≤ l.length := by omega
  have hel : (rowsA l).take l.length = rowsA l := rowsA_take l
  cases v1 : vasB ds bd l with
  | true =>
    obtain ⟨hok, _, hva, hna⟩ := vasB_ok v1
    have hmo : (if okFl ds bd = true then (mkN ds : Int) else -1) = mkN ds := if_pos hok
    have hal := fm_all v1 (by omega)
    have hnil := fm_nil hok
    rcases fm_in v1 with e | ⟨e1, e2⟩
    · repeat' (first
        | refine AWP.seq ?_
        | refine AWP.block ?_
        | (refine AWP.skip ?_; simp only [thenA, blockA, reduceIte])
        | (refine AWP.exit ?_; simp only [thenA, blockA, eq_self, reduceIte, Nat.reduceEqDiff, Nat.succ_ne_zero])
        | (refine AWP.ret ?_; simp only [thenA, blockA, reduceIte])
        | (refine AWP.region (by rfl) (fun KK hKK => ?_); (repeat (simp (disch := omega) [hlt, hlti, hal, hnil, hmo, hok, elems, rowsA_len, rowsA_snoc, rowsA_take, hz1, hz2, hz3, hz4, hel, e])); first | (refine hKK _ _ _ ?_; clear hKK KK; simp only [thenA, blockA, reduceIte]) | skip)
        | (refine AWP.draw' mixd (by rfl) (by kernel_rfl) (fun KK tab hKK htab => ?_); (repeat (simp (disch := omega) [hlt, hlti, hal, hnil, hmo, hok, elems, rowsA_len, rowsA_snoc, rowsA_take, hz1, hz2, hz3, hz4, hel, e])); first | (refine dEnd_ro ?_ (hKK _ _ _ ?_); (focus (simp; done)); clear htab tab hKK KK; simp only [thenA, blockA, reduceIte]) | (refine dEnd_of ?_ (hKK _ _ _ ?_); (focus (simp only [List.reverse_cons, List.reverse_nil, List.nil_append, List.cons_append, memA, mem1, and_true, true_and]; (repeat' apply And.intro); (all_goals (first | trivial | (refine .inr ⟨?_, ?_⟩ <;> (simp; done)) | (refine .inr ⟨?_, ?_⟩ <;> (simp <;> omega)) | (refine .inl ?_; rw [htab]; kernel_rfl))); done)); clear htab tab hKK KK; simp only [thenA, blockA, reduceIte]) | skip)
        | (refine AWP.if_t ?_ ?_; focus (simp (disch := omega) [hlt, hlti, hal, hnil, hmo, hok, elems, rowsA_len, rowsA_snoc, rowsA_take, hz1, hz2, hz3, hz4, hel, e]; done))
        | (refine AWP.if_f ?_ ?_; focus (simp (disch := omega) [hlt, hlti, hal, hnil, hmo, hok, elems, rowsA_len, rowsA_snoc, rowsA_take, hz1, hz2, hz3, hz4, hel, e]; done)))
      repeat
        first
          | (refine aStop_of (firstMissed_c _ _ _ (.sl (K + 1) 0 l.length none 2) ds bd l (by first | exact (Sl.whole (t := 133) (r := true) ((hσ' _ (by simp)).trans (by simp (disch := omega) only [upd_eq, upd_ne, del_ne])) (by simp [rowsD_len])) | exact (Sl.whole (t := 133) (r := true) (by simp (disch := omega) only [upd_eq, upd_ne, del_ne]) (by simp [rowsD_len]))) (by first | exact (Sl.whole (t := 27) (r := true) ((hσ' _ (by simp)).trans (by simp (disch := omega) only [upd_eq, upd_ne, del_ne])) (by simp [rowsA_len])) | exact (Sl.whole (t := 27) (r := true) (by simp (disch := omega) only [upd_eq, upd_ne, del_ne]) (by simp [rowsA_len]))) hl9 hla hsz hi64 hri) ?_; rintro r δ ⟨rfl, rfl⟩)
          | (refine dStop_roA (fun σ' hσ' => firstMissed_c σ' _ _ (.sl (K + 1) 0 l.length none 2) ds bd l (by first | exact (Sl.whole (t := 133) (r := true) ((hσ' _ (by simp)).trans (by simp (disch := omega) only [upd_eq, upd_ne, del_ne])) (by simp [rowsD_len])) | exact (Sl.whole (t := 133) (r := true) (by simp (disch := omega) only [upd_eq, upd_ne, del_ne]) (by simp [rowsD_len]))) (by first | exact (Sl.whole (t := 27) (r := true) ((hσ' _ (by simp)).trans (by simp (disch := omega) only [upd_eq, upd_ne, del_ne])) (by simp [rowsA_len])) | exact (Sl.whole (t := 27) (r := true) (by simp (disch := omega) only [upd_eq, upd_ne, del_ne]) (by simp [rowsA_len]))) hl9 hla hsz hi64 hri) ?_)
          | (refine aStop_of (firstMissedS_c _ _ _ _ ds bd l (by first | exact (Sl.whole (t := 133) (r := true) ((hσ' _ (by simp)).trans (by simp (disch := omega) only [upd_eq, upd_ne, del_ne])) (by simp [rowsD_len])) | exact (Sl.whole (t := 133) (r := true) (by simp (disch := omega) only [upd_eq, upd_ne, del_ne]) (by simp [rowsD_len]))) (by first | exact (Sl.whole (t := 27) (r := true) ((hσ' _ (by simp)).trans (by simp (disch := omega) only [upd_eq, upd_ne, del_ne])) (by simp [rowsA_len])) | exact (Sl.whole (t := 27) (r := true) (by simp (disch := omega) only [upd_eq, upd_ne, del_ne]) (by simp [rowsA_len]))) hl9 hla hsz hi64 hri) ?_; rintro r δ ⟨rfl, rfl⟩)
          | (refine dStop_roA (fun σ' hσ' => firstMissedS_c σ' _ _ _ ds bd l (by first | exact (Sl.whole (t := 133) (r := true) ((hσ' _ (by simp)).trans (by simp (disch := omega) only [upd_eq, upd_ne, del_ne])) (by simp [rowsD_len])) | exact (Sl.whole (t := 133) (r := true) (by simp (disch := omega) only [upd_eq, upd_ne, del_ne]) (by simp [rowsD_len]))) (by first | exact (Sl.whole (t := 27) (r := true) ((hσ' _ (by simp)).trans (by simp (disch := omega) only [upd_eq, upd_ne, del_ne])) (by simp [rowsA_len])) | exact (Sl.whole (t := 27) (r := true) (by simp (disch := omega) only [upd_eq, upd_ne, del_ne]) (by simp [rowsA_len]))) hl9 hla hsz hi64 hri) ?_)
          | (refine aStop_of (firstMissed_c _ _ _ (.sl (K + 2 + 1 + 2 + 2 + 12) 0 (l.length + 1) none 2) ds bd (l ++ [(0, 0)]) (by first | exact (Sl.whole (t := 133) (r := true) ((hσ' _ (by simp)).trans (by simp (disch := omega) only [upd_eq, upd_ne, del_ne])) (by simp [rowsD_len])) | exact (Sl.whole (t := 133) (r := true) (by simp (disch := omega) only [upd_eq, upd_ne, del_ne]) (by simp [rowsD_len]))) (by first | exact (Sl.whole (t := 27) (r := true) ((hσ' _ (by simp)).trans (by simp (disch := omega) only [upd_eq, upd_ne, del_ne])) (by simp [rowsA_len])) | exact (Sl.whole (t := 27) (r := true) (by simp (disch := omega) only [upd_eq, upd_ne, del_ne]) (by simp [rowsA_len]))) hl9 hla2 hsz hi64 hri2) ?_; rintro r δ ⟨rfl, rfl⟩)
          | (refine dStop_roA (fun σ' hσ' => firstMissed_c σ' _ _ (.sl (K + 2 + 1 + 2 + 2 + 12) 0 (l.length + 1) none 2) ds bd (l ++ [(0, 0)]) (by first | exact (Sl.whole (t := 133) (r := true) ((hσ' _ (by simp)).trans (by simp (disch := omega) only [upd_eq, upd_ne, del_ne])) (by simp [rowsD_len])) | exact (Sl.whole (t := 133) (r := true) (by simp (disch := omega) only [upd_eq, upd_ne, del_ne]) (by simp [rowsD_len]))) (by first | exact (Sl.whole (t := 27) (r := true) ((hσ' _ (by simp)).trans (by simp (disch := omega) only [upd_eq, upd_ne, del_ne])) (by simp [rowsA_len])) | exact (Sl.whole (t := 27) (r := true) (by simp (disch := omega) only [upd_eq, upd_ne, del_ne]) (by simp [rowsA_len]))) hl9 hla2 hsz hi64 hri2) ?_)
          | (refine aStop_of (firstMissed_c _ _ _ nilA ds bd [] (by first | exact (Sl.whole (t := 133) (r := true) ((hσ' _ (by simp)).trans (by simp (disch := omega) only [upd_eq, upd_ne, del_ne])) (by simp [rowsD_len])) | exact (Sl.whole (t := 133) (r := true) (by simp (disch := omega) only [upd_eq, upd_ne, del_ne]) (by simp [rowsD_len]))) (Sl.nil _ _ _ _ _) hl9 (by simp) hsz hi64 (by simp)) ?_; rintro r δ ⟨rfl, rfl⟩)
          | (refine dStop_roA (fun σ' hσ' => firstMissed_c σ' _ _ nilA ds bd [] (by first | exact (Sl.whole (t := 133) (r := true) ((hσ' _ (by simp)).trans (by simp (disch := omega) only [upd_eq, upd_ne, del_ne])) (by simp [rowsD_len])) | exact (Sl.whole (t := 133) (r := true) (by simp (disch := omega) only [upd_eq, upd_ne, del_ne]) (by simp [rowsD_len]))) (Sl.nil _ _ _ _ _) hl9 (by simp) hsz hi64 (by simp)) ?_)
          | (refine aStop_of (maskOf_c _ _ _ ds bd (by first | exact (Sl.whole (t := 133) (r := true) ((hσ' _ (by simp)).trans (by simp (disch := omega) only [upd_eq, upd_ne, del_ne])) (by simp [rowsD_len])) | exact (Sl.whole (t := 133) (r := true) (by simp (disch := omega) only [upd_eq, upd_ne, del_ne]) (by simp [rowsD_len]))) hl9 hsz) ?_; rintro r δ ⟨rfl, rfl⟩)
          | (refine dStop_roA (fun σ' hσ' => maskOf_c σ' _ _ ds bd (by first | exact (Sl.whole (t := 133) (r := true) ((hσ' _ (by simp)).trans (by simp (disch := omega) only [upd_eq, upd_ne, del_ne])) (by simp [rowsD_len])) | exact (Sl.whole (t := 133) (r := true) (by simp (disch := omega) only [upd_eq, upd_ne, del_ne]) (by simp [rowsD_len]))) hl9 hsz) ?_)
        (repeat (simp (disch := omega) [hlt, hlti, hal, hnil, hmo, hok, elems, rowsA_len, rowsA_snoc, rowsA_take, hz1, hz2, hz3, hz4, hel, e]))
        first | (refine dEnd_ro ?_ (hKK _ _ _ ?_); (focus (simp; done)); clear htab tab hKK KK; simp only [thenA, blockA, reduceIte]) | (refine dEnd_of ?_ (hKK _ _ _ ?_); (focus (simp only [List.reverse_cons, List.reverse_nil, List.nil_append, List.cons_append, memA, mem1, and_true, true_and]; (repeat' apply And.intro); (all_goals (first | trivial | (refine .inr ⟨?_, ?_⟩ <;> (simp; done)) | (refine .inr ⟨?_, ?_⟩ <;> (simp <;> omega)) | (refine .inl ?_; rw [htab]; kernel_rfl))); done)); clear htab tab hKK KK; simp only [thenA, blockA, reduceIte]) | (refine hKK _ _ _ ?_; clear hKK KK; simp only [thenA, blockA, reduceIte]) | skip
        repeat' (first
          | refine AWP.seq ?_
          | refine AWP.block ?_
          | (refine AWP.skip ?_; simp only [thenA, blockA, reduceIte])
          | (refine AWP.exit ?_; simp only [thenA, blockA, eq_self, reduceIte, Nat.reduceEqDiff, Nat.succ_ne_zero])
          | (refine AWP.ret ?_; simp only [thenA, blockA, reduceIte])
          | (refine AWP.region (by rfl) (fun KK hKK => ?_); (repeat (simp (disch := omega) [hlt, hlti, hal, hnil, hmo, hok, elems, rowsA_len, rowsA_snoc, rowsA_take, hz1, hz2, hz3, hz4, hel, e])); first | (refine hKK _ _ _ ?_; clear hKK KK; simp only [thenA, blockA, reduceIte]) | skip)
          | (refine AWP.draw' mixd (by rfl) (by kernel_rfl) (fun KK tab hKK htab => ?_); (repeat (simp (disch := omega) [hlt, hlti, hal, hnil, hmo, hok, elems, rowsA_len, rowsA_snoc, rowsA_take, hz1, hz2, hz3, hz4, hel, e])); first | (refine dEnd_ro ?_ (hKK _ _ _ ?_); (focus (simp; done)); clear htab tab hKK KK; simp only [thenA, blockA, reduceIte]) | (refine dEnd_of ?_ (hKK _ _ _ ?_); (focus (simp only [List.reverse_cons, List.reverse_nil, List.nil_append, List.cons_append, memA, mem1, and_true, true_and]; (repeat' apply And.intro); (all_goals (first | trivial | (refine .inr ⟨?_, ?_⟩ <;> (simp; done)) | (refine .inr ⟨?_, ?_⟩ <;> (simp <;> omega)) | (refine .inl ?_; rw [htab]; kernel_rfl))); done)); clear htab tab hKK KK; simp only [thenA, blockA, reduceIte]) | skip)
          | (refine AWP.if_t ?_ ?_; focus (simp (disch := omega) [hlt, hlti, hal, hnil, hmo, hok, elems, rowsA_len, rowsA_snoc, rowsA_take, hz1, hz2, hz3, hz4, hel, e]; done))
          | (refine AWP.if_f ?_ ?_; focus (simp (disch := omega) [hlt, hlti, hal, hnil, hmo, hok, elems, rowsA_len, rowsA_snoc, rowsA_take, hz1, hz2, hz3, hz4, hel, e]; done)))
      refine ⟨by simp, _, rfl, fin0 ⟨?_, rfl⟩ (by simp [resO, get, nms, nmss]; try (simp [nms, nmss] at hn; simp_all))⟩
      simp [resO, get, ren, rens]
    · have h2 : ¬ fmI ds bd l = -2 := by omega
      have h0 : ¬ fmI ds bd l < 0 := by omega
      repeat' (first
        | refine AWP.seq ?_
        | refine AWP.block ?_
        | (refine AWP.skip ?_; simp only [thenA, blockA, reduceIte])
        | (refine AWP.exit ?_; simp only [thenA, blockA, eq_self, reduceIte, Nat.reduceEqDiff, Nat.succ_ne_zero])
        | (refine AWP.ret ?_; simp only [thenA, blockA, reduceIte])
        | (refine AWP.region (by rfl) (fun KK hKK => ?_); (repeat (simp (disch := omega) [hlt, hlti, hal, hnil, hmo, hok, elems, rowsA_len, rowsA_snoc, rowsA_take, hz1, hz2, hz3, hz4, hel, h2, h0, e2])); first | (refine hKK _ _ _ ?_; clear hKK KK; simp only [thenA, blockA, reduceIte]) | skip)
        | (refine AWP.draw' mixd (by rfl) (by kernel_rfl) (fun KK tab hKK htab => ?_); (repeat (simp (disch := omega) [hlt, hlti, hal, hnil, hmo, hok, elems, rowsA_len, rowsA_snoc, rowsA_take, hz1, hz2, hz3, hz4, hel, h2, h0, e2])); first | (refine dEnd_ro ?_ (hKK _ _ _ ?_); (focus (simp; done)); clear htab tab hKK KK; simp only [thenA, blockA, reduceIte]) | (refine dEnd_of ?_ (hKK _ _ _ ?_); (focus (simp only [List.reverse_cons, List.reverse_nil, List.nil_append, List.cons_append, memA, mem1, and_true, true_and]; (repeat' apply And.intro); (all_goals (first | trivial | (refine .inr ⟨?_, ?_⟩ <;> (simp; done)) | (refine .inr ⟨?_, ?_⟩ <;> (simp <;> omega)) | (refine .inl ?_; rw [htab]; kernel_rfl))); done)); clear htab tab hKK KK; simp only [thenA, blockA, reduceIte]) | skip)
        | (refine AWP.if_t ?_ ?_; focus (simp (disch := omega) [hlt, hlti, hal, hnil, hmo, hok, elems, rowsA_len, rowsA_snoc, rowsA_take, hz1, hz2, hz3, hz4, hel, h2, h0, e2]; done))
        | (refine AWP.if_f ?_ ?_; focus (simp (disch := omega) [hlt, hlti, hal, hnil, hmo, hok, elems, rowsA_len, rowsA_snoc, rowsA_take, hz1, hz2, hz3, hz4, hel, h2, h0, e2]; done)))
      repeat
        first
          | (refine aStop_of (firstMissed_c _ _ _ (.sl (K + 1) 0 l.length none 2) ds bd l (by first | exact (Sl.whole (t := 133) (r := true) ((hσ' _ (by simp)).trans (by simp (disch := omega) only [upd_eq, upd_ne, del_ne])) (by simp [rowsD_len])) | exact (Sl.whole (t := 133) (r := true) (by simp (disch := omega) only [upd_eq, upd_ne, del_ne]) (by simp [rowsD_len]))) (by first | exact (Sl.whole (t := 27) (r := true) ((hσ' _ (by simp)).trans (by simp (disch := omega) only [upd_eq, upd_ne, del_ne])) (by simp [rowsA_len])) | exact (Sl.whole (t := 27) (r := true) (by simp (disch := omega) only [upd_eq, upd_ne, del_ne]) (by simp [rowsA_len]))) hl9 hla hsz hi64 hri) ?_; rintro r δ ⟨rfl, rfl⟩)
          | (refine dStop_roA (fun σ' hσ' => firstMissed_c σ' _ _ (.sl (K + 1) 0 l.length none 2) ds bd l (by first | exact (Sl.whole (t := 133) (r := true) ((hσ' _ (by simp)).trans (by simp (disch := omega) only [upd_eq, upd_ne, del_ne])) (by simp [rowsD_len])) | exact (Sl.whole (t := 133) (r := true) (by simp (disch := omega) only [upd_eq, upd_ne, del_ne]) (by simp [rowsD_len]))) (by first | exact (Sl.whole (t := 27) (r := true) ((hσ' _ (by simp)).trans (by simp (disch := omega) only [upd_eq, upd_ne, del_ne])) (by simp [rowsA_len])) | exact (Sl.whole (t := 27) (r := true) (by simp (disch := omega) only [upd_eq, upd_ne, del_ne]) (by simp [rowsA_len]))) hl9 hla hsz hi64 hri) ?_)
          | (refine aStop_of (firstMissedS_c _ _ _ _ ds bd l (by first | exact (Sl.whole (t := 133) (r := true) ((hσ' _ (by simp)).trans (by simp (disch := omega) only [upd_eq, upd_ne, del_ne])) (by simp [rowsD_len])) | exact (Sl.whole (t := 133) (r := true) (by simp (disch := omega) only [upd_eq, upd_ne, del_ne]) (by simp [rowsD_len]))) (by first | exact (Sl.whole (t := 27) (r := true) ((hσ' _ (by simp)).trans (by simp (disch := omega) only [upd_eq, upd_ne, del_ne])) (by simp [rowsA_len])) | exact (Sl.whole (t := 27) (r := true) (by simp (disch := omega) only [upd_eq, upd_ne, del_ne]) (by simp [rowsA_len]))) hl9 hla hsz hi64 hri) ?_; rintro r δ ⟨rfl, rfl⟩)
          | (refine dStop_roA (fun σ' hσ' => firstMissedS_c σ' _ _ _ ds bd l (by first | exact (Sl.whole (t := 133) (r := true) ((hσ' _ (by simp)).trans (by simp (disch := omega) only [upd_eq, upd_ne, del_ne])) (by simp [rowsD_len])) | exact (Sl.whole (t := 133) (r := true) (by simp (disch := omega) only [upd_eq, upd_ne, del_ne]) (by simp [rowsD_len]))) (by first | exact (Sl.whole (t := 27) (r := true) ((hσ' _ (by simp)).trans (by simp (disch := omega) only [upd_eq, upd_ne, del_ne])) (by simp [rowsA_len])) | exact (Sl.whole (t := 27) (r := true) (by simp (disch := omega) only [upd_eq, upd_ne, del_ne]) (by simp [rowsA_len]))) hl9 hla hsz hi64 hri) ?_)
          | (refine aStop_of (firstMissed_c _ _ _ (.sl (K + 2 + 1 + 2 + 2 + 12) 0 (l.length + 1) none 2) ds bd (l ++ [(0, 0)]) (by first | exact (Sl.whole (t := 133) (r := true) ((hσ' _ (by simp)).trans (by simp (disch := omega) only [upd_eq, upd_ne, del_ne])) (by simp [rowsD_len])) | exact (Sl.whole (t := 133) (r := true) (by simp (disch := omega) only [upd_eq, upd_ne, del_ne]) (by simp [rowsD_len]))) (by first | exact (Sl.whole (t := 27) (r := true) ((hσ' _ (by simp)).trans (by simp (disch := omega) only [upd_eq, upd_ne, del_ne])) (by simp [rowsA_len])) | exact (Sl.whole (t := 27) (r := true) (by simp (disch := omega) only [upd_eq, upd_ne, del_ne]) (by simp [rowsA_len]))) hl9 hla2 hsz hi64 hri2) ?_; rintro r δ ⟨rfl, rfl⟩)
          | (refine dStop_roA (fun σ' hσ' => firstMissed_c σ' _ _ (.sl (K + 2 + 1 + 2 + 2 + 12) 0 (l.length + 1) none 2) ds bd (l ++ [(0, 0)]) (by first | exact (Sl.whole (t := 133) (r := true) ((hσ' _ (by simp)).trans (by simp (disch := omega) only [upd_eq, upd_ne, del_ne])) (by simp [rowsD_len])) | exact (Sl.whole (t := 133) (r := true) (by simp (disch := omega) only [upd_eq, upd_ne, del_ne]) (by simp [rowsD_len]))) (by first | exact (Sl.whole (t := 27) (r := true) ((hσ' _ (by simp)).trans (by simp (disch := omega) only [upd_eq, upd_ne, del_ne])) (by simp [rowsA_len])) | exact (Sl.whole (t := 27) (r := true) (by simp (disch := omega) only [upd_eq, upd_ne, del_ne]) (by simp [rowsA_len]))) hl9 hla2 hsz hi64 hri2) ?_)
          | (refine aStop_of (firstMissed_c _ _ _ nilA ds bd [] (by first | exact (Sl.whole (t := 133) (r := true) ((hσ' _ (by simp)).trans (by simp (disch := omega) only [upd_eq, upd_ne, del_ne])) (by simp [rowsD_len])) | exact (Sl.whole (t := 133) (r := true) (by simp (disch := omega) only [upd_eq, upd_ne, del_ne]) (by simp [rowsD_len]))) (Sl.nil _ _ _ _ _) hl9 (by simp) hsz hi64 (by simp)) ?_; rintro r δ ⟨rfl, rfl⟩)
          | (refine dStop_roA (fun σ' hσ' => firstMissed_c σ' _ _ nilA ds bd [] (by first | exact (Sl.whole (t := 133) (r := true) ((hσ' _ (by simp)).trans (by simp (disch := omega) only [upd_eq, upd_ne, del_ne])) (by simp [rowsD_len])) | exact (Sl.whole (t := 133) (r := true) (by simp (disch := omega) only [upd_eq, upd_ne, del_ne]) (by simp [rowsD_len]))) (Sl.nil _ _ _ _ _) hl9 (by simp) hsz hi64 (by simp)) ?_)
          | (refine aStop_of (maskOf_c _ _ _ ds bd (by first | exact (Sl.whole (t := 133) (r := true) ((hσ' _ (by simp)).trans (by simp (disch := omega) only [upd_eq, upd_ne, del_ne])) (by simp [rowsD_len])) | exact (Sl.whole (t := 133) (r := true) (by simp (disch := omega) only [upd_eq, upd_ne, del_ne]) (by simp [rowsD_len]))) hl9 hsz) ?_; rintro r δ ⟨rfl, rfl⟩)
          | (refine dStop_roA (fun σ' hσ' => maskOf_c σ' _ _ ds bd (by first | exact (Sl.whole (t := 133) (r := true) ((hσ' _ (by simp)).trans (by simp (disch := omega) only [upd_eq, upd_ne, del_ne])) (by simp [rowsD_len])) | exact (Sl.whole (t := 133) (r := true) (by simp (disch := omega) only [upd_eq, upd_ne, del_ne]) (by simp [rowsD_len]))) hl9 hsz) ?_)
        (repeat (simp (disch := omega) [hlt, hlti, hal, hnil, hmo, hok, elems, rowsA_len, rowsA_snoc, rowsA_take, hz1, hz2, hz3, hz4, hel, h2, h0, e2]))
        first | (refine dEnd_ro ?_ (hKK _ _ _ ?_); (focus (simp; done)); clear htab tab hKK KK; simp only [thenA, blockA, reduceIte]) | (refine dEnd_of ?_ (hKK _ _ _ ?_); (focus (simp only [List.reverse_cons, List.reverse_nil, List.nil_append, List.cons_append, memA, mem1, and_true, true_and]; (repeat' apply And.intro); (all_goals (first | trivial | (refine .inr ⟨?_, ?_⟩ <;> (simp; done)) | (refine .inr ⟨?_, ?_⟩ <;> (simp <;> omega)) | (refine .inl ?_; rw [htab]; kernel_rfl))); done)); clear htab tab hKK KK; simp only [thenA, blockA, reduceIte]) | (refine hKK _ _ _ ?_; clear hKK KK; simp only [thenA, blockA, reduceIte]) | skip
        repeat' (first
          | refine AWP.seq ?_
          | refine AWP.block ?_
          | (refine AWP.skip ?_; simp only [thenA, blockA, reduceIte])
          | (refine AWP.exit ?_; simp only [thenA, blockA, eq_self, reduceIte, Nat.reduceEqDiff, Nat.succ_ne_zero])
          | (refine AWP.ret ?_; simp only [thenA, blockA, reduceIte])
          | (refine AWP.region (by rfl) (fun KK hKK => ?_); (repeat (simp (disch := omega) [hlt, hlti, hal, hnil, hmo, hok, elems, rowsA_len, rowsA_snoc, rowsA_take, hz1, hz2, hz3, hz4, hel, h2, h0, e2])); first | (refine hKK _ _ _ ?_; clear hKK KK; simp only [thenA, blockA, reduceIte]) | skip)
          | (refine AWP.draw' mixd (by rfl) (by kernel_rfl) (fun KK tab hKK htab => ?_); (repeat (simp (disch := omega) [hlt, hlti, hal, hnil, hmo, hok, elems, rowsA_len, rowsA_snoc, rowsA_take, hz1, hz2, hz3, hz4, hel, h2, h0, e2])); first | (refine dEnd_ro ?_ (hKK _ _ _ ?_); (focus (simp; done)); clear htab tab hKK KK; simp only [thenA, blockA, reduceIte]) | (refine dEnd_of ?_ (hKK _ _ _ ?_); (focus (simp only [List.reverse_cons, List.reverse_nil, List.nil_append, List.cons_append, memA, mem1, and_true, true_and]; (repeat' apply And.intro); (all_goals (first | trivial | (refine .inr ⟨?_, ?_⟩ <;> (simp; done)) | (refine .inr ⟨?_, ?_⟩ <;> (simp <;> omega)) | (refine .inl ?_; rw [htab]; kernel_rfl))); done)); clear htab tab hKK KK; simp only [thenA, blockA, reduceIte]) | skip)
          | (refine AWP.if_t ?_ ?_; focus (simp (disch := omega) [hlt, hlti, hal, hnil, hmo, hok, elems, rowsA_len, rowsA_snoc, rowsA_take, hz1, hz2, hz3, hz4, hel, h2, h0, e2]; done))
          | (refine AWP.if_f ?_ ?_; focus (simp (disch := omega) [hlt, hlti, hal, hnil, hmo, hok, elems, rowsA_len, rowsA_snoc, rowsA_take, hz1, hz2, hz3, hz4, hel, h2, h0, e2]; done)))
      refine ⟨by simp, _, rfl, fin0 ⟨?_, rfl⟩ (by simp [resO, get, nms, nmss]; try (simp [nms, nmss] at hn; simp_all))⟩
      simp [resO, get, ren, rens]
  | false =>
    have e : fmI ds bd l = -2 := by unfold fmI; rw [v1]; rfl
    have hmo := e
    have hal := e
    have hnil := e
    have hok := e
    repeat' (first
      | refine AWP.seq ?_
      | refine AWP.block ?_
      | (refine AWP.skip ?_; simp only [thenA, blockA, reduceIte])
      | (refine AWP.exit ?_; simp only [thenA, blockA, eq_self, reduceIte, Nat.reduceEqDiff, Nat.succ_ne_zero])
      | (refine AWP.ret ?_; simp only [thenA, blockA, reduceIte])
      | (refine AWP.region (by rfl) (fun KK hKK => ?_); (repeat (simp (disch := omega) [hlt, hlti, hal, hnil, hmo, hok, elems, rowsA_len, rowsA_snoc, rowsA_take, hz1, hz2, hz3, hz4, hel, e])); first | (refine hKK _ _ _ ?_; clear hKK KK; simp only [thenA, blockA, reduceIte]) | skip)
      | (refine AWP.draw' mixd (by rfl) (by kernel_rfl) (fun KK tab hKK htab => ?_); (repeat (simp (disch := omega) [hlt, hlti, hal, hnil, hmo, hok, elems, rowsA_len, rowsA_snoc, rowsA_take, hz1, hz2, hz3, hz4, hel, e])); first | (refine dEnd_ro ?_ (hKK _ _ _ ?_); (focus (simp; done)); clear htab tab hKK KK; simp only [thenA, blockA, reduceIte]) | (refine dEnd_of ?_ (hKK _ _ _ ?_); (focus (simp only [List.reverse_cons, List.reverse_nil, List.nil_append, List.cons_append, memA, mem1, and_true, true_and]; (repeat' apply And.intro); (all_goals (first | trivial | (refine .inr ⟨?_, ?_⟩ <;> (simp; done)) | (refine .inr ⟨?_, ?_⟩ <;> (simp <;> omega)) | (refine .inl ?_; rw [htab]; kernel_rfl))); done)); clear htab tab hKK KK; simp only [thenA, blockA, reduceIte]) | skip)
      | (refine AWP.if_t ?_ ?_; focus (simp (disch := omega) [hlt, hlti, hal, hnil, hmo, hok, elems, rowsA_len, rowsA_snoc, rowsA_take, hz1, hz2, hz3, hz4, hel, e]; done))
      | (refine AWP.if_f ?_ ?_; focus (simp (disch := omega) [hlt, hlti, hal, hnil, hmo, hok, elems, rowsA_len, rowsA_snoc, rowsA_take, hz1, hz2, hz3, hz4, hel, e]; done)))
    repeat
      first
        | (refine aStop_of (firstMissed_c _ _ _ (.sl (K + 1) 0 l.length none 2) ds bd l (by first | exact (Sl.whole (t := 133) (r := true) ((hσ' _ (by simp)).trans (by simp (disch := omega) only [upd_eq, upd_ne, del_ne])) (by simp [rowsD_len])) | exact (Sl.whole (t := 133) (r := true) (by simp (disch := omega) only [upd_eq, upd_ne, del_ne]) (by simp [rowsD_len]))) (by first | exact (Sl.whole (t := 27) (r := true) ((hσ' _ (by simp)).trans (by simp (disch := omega) only [upd_eq, upd_ne, del_ne])) (by simp [rowsA_len])) | exact (Sl.whole (t := 27) (r := true) (by simp (disch := omega) only [upd_eq, upd_ne, del_ne]) (by simp [rowsA_len]))) hl9 hla hsz hi64 hri) ?_; rintro r δ ⟨rfl, rfl⟩)
        | (refine dStop_roA (fun σ' hσ' => firstMissed_c σ' _ _ (.sl (K + 1) 0 l.length none 2) ds bd l (by first | exact (Sl.whole (t := 133) (r := true) ((hσ' _ (by simp)).trans (by simp (disch := omega) only [upd_eq, upd_ne, del_ne])) (by simp [rowsD_len])) | exact (Sl.whole (t := 133) (r := true) (by simp (disch := omega) only [upd_eq, upd_ne, del_ne]) (by simp [rowsD_len]))) (by first | exact (Sl.whole (t := 27) (r := true) ((hσ' _ (by simp)).trans (by simp (disch := omega) only [upd_eq, upd_ne, del_ne])) (by simp [rowsA_len])) | exact (Sl.whole (t := 27) (r := true) (by simp (disch := omega) only [upd_eq, upd_ne, del_ne]) (by simp [rowsA_len]))) hl9 hla hsz hi64 hri) ?_)
        | (refine aStop_of (firstMissedS_c _ _ _ _ ds bd l (by first | exact (Sl.whole (t := 133) (r := true) ((hσ' _ (by simp)).trans (by simp (disch := omega) only [upd_eq, upd_ne, del_ne])) (by simp [rowsD_len])) | exact (Sl.whole (t := 133) (r := true) (by simp (disch := omega) only [upd_eq, upd_ne, del_ne]) (by simp [rowsD_len]))) (by first | exact (Sl.whole (t := 27) (r := true) ((hσ' _ (by simp)).trans (by simp (disch := omega) only [upd_eq, upd_ne, del_ne])) (by simp [rowsA_len])) | exact (Sl.whole (t := 27) (r := true) (by simp (disch := omega) only [upd_eq, upd_ne, del_ne]) (by simp [rowsA_len]))) hl9 hla hsz hi64 hri) ?_; rintro r δ ⟨rfl, rfl⟩)
        | (refine dStop_roA (fun σ' hσ' => firstMissedS_c σ' _ _ _ ds bd l (by first | exact (Sl.whole (t := 133) (r := true) ((hσ' _ (by simp)).trans (by simp (disch := omega) only [upd_eq, upd_ne, del_ne])) (by simp [rowsD_len])) | exact (Sl.whole (t := 133) (r := true) (by simp (disch := omega) only [upd_eq, upd_ne, del_ne]) (by simp [rowsD_len]))) (by first | exact (Sl.whole (t := 27) (r := true) ((hσ' _ (by simp)).trans (by simp (disch := omega) only [upd_eq, upd_ne, del_ne])) (by simp [rowsA_len])) | exact (Sl.whole (t := 27) (r := true) (by simp (disch := omega) only [upd_eq, upd_ne, del_ne]) (by simp [rowsA_len]))) hl9 hla hsz hi64 hri) ?_)
        | (refine aStop_of (firstMissed_c _ _ _ (.sl (K + 2 + 1 + 2 + 2 + 12) 0 (l.length + 1) none 2) ds bd (l ++ [(0, 0)]) (by first | exact (Sl.whole (t := 133) (r := true) ((hσ' _ (by simp)).trans (by simp (disch := omega) only [upd_eq, upd_ne, del_ne])) (by simp [rowsD_len])) | exact (Sl.whole (t := 133) (r := true) (by simp (disch := omega) only [upd_eq, upd_ne, del_ne]) (by simp [rowsD_len]))) (by first | exact (Sl.whole (t := 27) (r := true) ((hσ' _ (by simp)).trans (by simp (disch := omega) only [upd_eq, upd_ne, del_ne])) (by simp [rowsA_len])) | exact (Sl.whole (t := 27) (r := true) (by simp (disch := omega) only [upd_eq, upd_ne, del_ne]) (by simp [rowsA_len]))) hl9 hla2 hsz hi64 hri2) ?_; rintro r δ ⟨rfl, rfl⟩)
        | (refine dStop_roA (fun σ' hσ' => firstMissed_c σ' _ _ (.sl (K + 2 + 1 + 2 + 2 + 12) 0 (l.length + 1) none 2) ds bd (l ++ [(0, 0)]) (by first | exact (Sl.whole (t := 133) (r := true) ((hσ' _ (by simp)).trans (by simp (disch := omega) only [upd_eq, upd_ne, del_ne])) (by simp [rowsD_len])) | exact (Sl.whole (t := 133) (r := true) (by simp (disch := omega) only [upd_eq, upd_ne, del_ne]) (by simp [rowsD_len]))) (by first | exact (Sl.whole (t := 27) (r := true) ((hσ' _ (by simp)).trans (by simp (disch := omega) only [upd_eq, upd_ne, del_ne])) (by simp [rowsA_len])) | exact (Sl.whole (t := 27) (r := true) (by simp (disch := omega) only [upd_eq, upd_ne, del_ne]) (by simp [rowsA_len]))) hl9 hla2 hsz hi64 hri2) ?_)
        | (refine aStop_of (firstMissed_c _ _ _ nilA ds bd [] (by first | exact (Sl.whole (t := 133) (r := true) ((hσ' _ (by simp)).trans (by simp (disch := omega) only [upd_eq, upd_ne, del_ne])) (by simp [rowsD_len])) | exact (Sl.whole (t := 133) (r := true) (by simp (disch := omega) only [upd_eq, upd_ne, del_ne]) (by simp [rowsD_len]))) (Sl.nil _ _ _ _ _) hl9 (by simp) hsz hi64 (by simp)) ?_; rintro r δ ⟨rfl, rfl⟩)
        | (refine dStop_roA (fun σ' hσ' => firstMissed_c σ' _ _ nilA ds bd [] (by first | exact (Sl.whole (t := 133) (r := true) ((hσ' _ (by simp)).trans (by simp (disch := omega) only [upd_eq, upd_ne, del_ne])) (by simp [rowsD_len])) | exact (Sl.whole (t := 133) (r := true) (by simp (disch := omega) only [upd_eq, upd_ne, del_ne]) (by simp [rowsD_len]))) (Sl.nil _ _ _ _ _) hl9 (by simp) hsz hi64 (by simp)) ?_)
        | (refine aStop_of (maskOf_c _ _ _ ds bd (by first | exact (Sl.whole (t := 133) (r := true) ((hσ' _ (by simp)).trans (by simp (disch := omega) only [upd_eq, upd_ne, del_ne])) (by simp [rowsD_len])) | exact (Sl.whole (t := 133) (r := true) (by simp (disch := omega) only [upd_eq, upd_ne, del_ne]) (by simp [rowsD_len]))) hl9 hsz) ?_; rintro r δ ⟨rfl, rfl⟩)
        | (refine dStop_roA (fun σ' hσ' => maskOf_c σ' _ _ ds bd (by first | exact (Sl.whole (t := 133) (r := true) ((hσ' _ (by simp)).trans (by simp (disch := omega) only [upd_eq, upd_ne, del_ne])) (by simp [rowsD_len])) | exact (Sl.whole (t := 133) (r := true) (by simp (disch := omega) only [upd_eq, upd_ne, del_ne]) (by simp [rowsD_len]))) hl9 hsz) ?_)
      (repeat (simp (disch := omega) [hlt, hlti, hal, hnil, hmo, hok, elems, rowsA_len, rowsA_snoc, rowsA_take, hz1, hz2, hz3, hz4, hel, e]))
      first | (refine dEnd_ro ?_ (hKK _ _ _ ?_); (focus (simp; done)); clear htab tab hKK KK; simp only [thenA, blockA, reduceIte]) | (refine dEnd_of ?_ (hKK _ _ _ ?_); (focus (simp only [List.reverse_cons, List.reverse_nil, List.nil_append, List.cons_append, memA, mem1, and_true, true_and]; (repeat' apply And.intro); (all_goals (first | trivial | (refine .inr ⟨?_, ?_⟩ <;> (simp; done)) | (refine .inr ⟨?_, ?_⟩ <;> (simp <;> omega)) | (refine .inl ?_; rw [htab]; kernel_rfl))); done)); clear htab tab hKK KK; simp only [thenA, blockA, reduceIte]) | (refine hKK _ _ _ ?_; clear hKK KK; simp only [thenA, blockA, reduceIte]) | skip
      repeat' (first
        | refine AWP.seq ?_
        | refine AWP.block ?_
        | (refine AWP.skip ?_; simp only [thenA, blockA, reduceIte])
        | (refine AWP.exit ?_; simp only [thenA, blockA, eq_self, reduceIte, Nat.reduceEqDiff, Nat.succ_ne_zero])
        | (refine AWP.ret ?_; simp only [thenA, blockA, reduceIte])
        | (refine AWP.region (by rfl) (fun KK hKK => ?_); (repeat (simp (disch := omega) [hlt, hlti, hal, hnil, hmo, hok, elems, rowsA_len, rowsA_snoc, rowsA_take, hz1, hz2, hz3, hz4, hel, e])); first | (refine hKK _ _ _ ?_; clear hKK KK; simp only [thenA, blockA, reduceIte]) | skip)
        | (refine AWP.draw' mixd (by rfl) (by kernel_rfl) (fun KK tab hKK htab => ?_); (repeat (simp (disch := omega) [hlt, hlti, hal, hnil, hmo, hok, elems, rowsA_len, rowsA_snoc, rowsA_take, hz1, hz2, hz3, hz4, hel, e])); first | (refine dEnd_ro ?_ (hKK _ _ _ ?_); (focus (simp; done)); clear htab tab hKK KK; simp only [thenA, blockA, reduceIte]) | (refine dEnd_of ?_ (hKK _ _ _ ?_); (focus (simp only [List.reverse_cons, List.reverse_nil, List.nil_append, List.cons_append, memA, mem1, and_true, true_and]; (repeat' apply And.intro); (all_goals (first | trivial | (refine .inr ⟨?_, ?_⟩ <;> (simp; done)) | (refine .inr ⟨?_, ?_⟩ <;> (simp <;> omega)) | (refine .inl ?_; rw [htab]; kernel_rfl))); done)); clear htab tab hKK KK; simp only [thenA, blockA, reduceIte]) | skip)
        | (refine AWP.if_t ?_ ?_; focus (simp (disch := omega) [hlt, hlti, hal, hnil, hmo, hok, elems, rowsA_len, rowsA_snoc, rowsA_take, hz1, hz2, hz3, hz4, hel, e]; done))
        | (refine AWP.if_f ?_ ?_; focus (simp (disch := omega) [hlt, hlti, hal, hnil, hmo, hok, elems, rowsA_len, rowsA_snoc, rowsA_take, hz1, hz2, hz3, hz4, hel, e]; done)))
    refine ⟨by simp, _, rfl, fin0 ⟨?_, rfl⟩ (by simp [resO, get, nms, nmss]; try (simp [nms, nmss] at hn; simp_all))⟩
    simp [resO, get, ren, rens]
end Go.Proofs.Ytbdehnjbglpfjaa
