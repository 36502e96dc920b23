/- The law of GapsOf, walked: it answers true for every code. No condition but sizes that every input has. -/
import Derived.Test.YthjjfdbkggiaeaaB5
import Derived.Test.YthjjfdbkggiaeaaG6
import Derived.Test.YthjjfdbkggiaeaaCE1
set_option linter.unusedSimpArgs false
set_option linter.unusedVariables false
namespace Go.Proofs.Ythjjfdbkggiaeaa
open Go Go.RowKit

theorem gpL_pw (ds : List Df) (lo : Int) (k : Nat) : (gpL ds lo k).Pairwise (· < ·) := by
  unfold gpL
  refine List.Pairwise.filter _ (List.Pairwise.map _ ?_ List.pairwise_lt_range)
  intro a b h
  omega
theorem gtV_mem : ∀ (l : List Df) (m : Int), gtV l m = m ∨ ∃ d ∈ l, d.2 = gtV l m
  | [], m => .inl rfl
  | d :: l, m => by
    have e : gtV (d :: l) m = gtV l (if m < d.2 then d.2 else m) := rfl
    rw [e]
    rcases gtV_mem l (if m < d.2 then d.2 else m) with h | ⟨x, hx, h⟩
    · rw [h]
      split
      · exact .inr ⟨d, by simp, rfl⟩
      · exact .inl rfl
    · exact .inr ⟨x, by simp [hx], h⟩
theorem ltV_mem : ∀ (l : List Df) (m : Int), ltV l m = m ∨ ∃ d ∈ l, d.2 = ltV l m
  | [], m => .inl rfl
  | d :: l, m => by
    have e : ltV (d :: l) m = ltV l (if d.2 < m then d.2 else m) := rfl
    rw [e]
    rcases ltV_mem l (if d.2 < m then d.2 else m) with h | ⟨x, hx, h⟩
    · rw [h]
      split
      · exact .inr ⟨d, by simp, rfl⟩
      · exact .inl rfl
    · exact .inr ⟨x, by simp [hx], h⟩
theorem grV_mem {ds : List Df} (h : ds ≠ []) : ∃ d ∈ ds, d.2 = grV ds 0 := by
  match ds, h with
  | d :: l, _ =>
    rcases gtV_mem l d.2 with h | ⟨x, hx, h⟩
    · exact ⟨d, by simp, by rw [grV, h]⟩
    · exact ⟨x, by simp [hx], h⟩
theorem loV_mem {ds : List Df} (h : ds ≠ []) : ∃ d ∈ ds, d.2 = loV ds := by
  match ds, h with
  | d :: l, _ =>
    rcases ltV_mem l d.2 with h | ⟨x, hx, h⟩
    · exact ⟨d, by simp, by rw [loV, h]⟩
    · exact ⟨x, by simp [hx], h⟩
theorem val_ge {ds : List Df} {n : Int} (h : ∃ d ∈ ds, d.2 = n) : 0 ≤ valueIx ds n := by
  rcases Int.lt_or_le (valueIx ds n) 0 with h2 | h2
  · obtain ⟨d, hd, e⟩ := h
    exact absurd e (valueIx_neg.1 h2 d hd)
  · exact h2
/-- Ahead of the first gap, and behind the last one, there is a value. -/
theorem gp_low {ds : List Df} (hne : ds ≠ []) (h : 0 < (gpA ds).length) : 0 ≤ valueIx ds ((gpA ds)[0] - 1) := by
  obtain ⟨h1, h2, h3⟩ := gpL_mem.1 (List.getElem_mem h : (gpA ds)[0] ∈ gpL ds (loV ds) (gpN ds))
  have hlo := val_ge (loV_mem hne)
  have h4 : (gpA ds)[0] ≠ loV ds := fun e => by rw [e] at h3; omega
  rcases Int.lt_or_le (valueIx ds ((gpA ds)[0] - 1)) 0 with h5 | h5
  · have hm : (gpA ds)[0] - 1 ∈ gpL ds (loV ds) (gpN ds) := gpL_mem.2 ⟨by omega, by omega, h5⟩
    obtain ⟨j, hj, e⟩ := List.mem_iff_getElem.1 hm
    have hj' : j < (gpA ds).length := hj
    have e' : (gpA ds)[j] = (gpA ds)[0] - 1 := e
    rcases Nat.eq_zero_or_pos j with rfl | hp
    · omega
    · have := List.pairwise_iff_getElem.1 (gpL_pw ds (loV ds) (gpN ds)) 0 j h hj hp
      have : (gpA ds)[0] < (gpA ds)[j] := this
      omega
  · exact h5
theorem gp_high {ds : List Df} (hne : ds ≠ []) (h : 0 < (gpA ds).length) : 0 ≤ valueIx ds ((gpA ds)[(gpA ds).length - 1] + 1) := by
  have hl : (gpA ds).length - 1 < (gpA ds).length := by omega
  obtain ⟨h1, h2, h3⟩ := gpL_mem.1 (List.getElem_mem hl : (gpA ds)[(gpA ds).length - 1] ∈ gpL ds (loV ds) (gpN ds))
  have hgr := val_ge (grV_mem hne)
  have hg : loV ds + (gpN ds : Int) = grV ds 0 := by unfold gpN at h2 ⊢; omega
  by_cases h4 : (gpA ds)[(gpA ds).length - 1] + 1 = grV ds 0
  · rw [h4]; exact hgr
  rcases Int.lt_or_le (valueIx ds ((gpA ds)[(gpA ds).length - 1] + 1)) 0 with h5 | h5
  · have hm : (gpA ds)[(gpA ds).length - 1] + 1 ∈ gpL ds (loV ds) (gpN ds) := gpL_mem.2 ⟨by omega, by omega, h5⟩
    obtain ⟨j, hj, e⟩ := List.mem_iff_getElem.1 hm
    have hj' : j < (gpA ds).length := hj
    have e' : (gpA ds)[j] = (gpA ds)[(gpA ds).length - 1] + 1 := e
    rcases Nat.lt_or_ge j ((gpA ds).length - 1) with hp | hp
    · have := List.pairwise_iff_getElem.1 (gpL_pw ds (loV ds) (gpN ds)) j _ hj hl hp
      have : (gpA ds)[j] < (gpA ds)[(gpA ds).length - 1] := this
      omega
    · have : j = (gpA ds).length - 1 := by omega
      subst this
      omega
  · exact h5
theorem nameO_some {ds : List Df} {n : Int} (hok : okDs (-1000) 1000 ds = true) (h : 0 ≤ valueIx ds n) : ∃ s, nameO ds n = some s := by
  unfold nameO
  rw [if_pos ⟨hok, h⟩]
  exact ⟨_, rfl⟩

set_option maxRecDepth 10000 in
set_option maxHeartbeats 4000000 in
theorem gaps_law_c (σ : Sto) (ν : Nat) (x : AV) (cs : List Int) (hx : Sl σ x 1 (rowsB cs)) (hlen : cs.length ≤ 9223372036854775807) (h8 : ∀ y ∈ cs, 0 ≤ y ∧ y ≤ 255) :
    AC Try.prog 8 [x] σ ν fun r δ => r = .v (.bool true) ∧ δ = noS := by
  obtain ⟨b, o, cap, z, rfl⟩ := hx.out
  simp only [rowsB_len] at hx ⊢
  refine AC.intro [] ent_8 Try.func8 rfl (by simp [Try.f8]) (by simp) ?_
  intro K s hs hB hn hν hA hFr
  simp only [argT, Nat.zero_add, Nat.reduceAdd]
  have hx' := hx.vw hs.vw
  by_cases h1 : (1048576 : Int) < cs.length
  · repeat' (first
      | refine AWP.seq ?_
      | refine AWP.block ?_
      | (refine AWP.skip ?_; simp only [thenA, blockA, reduceIte])
      | (refine AWP.exit ?_; simp only [thenA, blockA, eq_self, reduceIte, Nat.reduceEqDiff, Nat.succ_ne_zero])
      | (refine AWP.ret ?_; simp only [thenA, blockA, reduceIte])
      | (refine AWP.region (by rfl) (fun KK hKK => ?_); (repeat (simp (disch := omega) [h1])); first | (refine hKK _ _ _ ?_; clear hKK KK; simp only [thenA, blockA, reduceIte]) | skip)
      | (refine AWP.draw' mixd (by rfl) (by kernel_rfl) (fun KK tab hKK htab => ?_); (repeat (simp (disch := omega) [h1])); first | (refine dEnd_ro ?_ (hKK _ _ _ ?_); (focus (simp; done)); clear htab tab hKK KK; simp only [thenA, blockA, reduceIte]) | (refine dEnd_of ?_ (hKK _ _ _ ?_); (focus (simp only [List.reverse_cons, List.reverse_nil, List.nil_append, List.cons_append, memA, mem1, and_true, true_and]; (repeat' apply And.intro); (all_goals (first | trivial | (refine .inr ⟨?_, ?_⟩ <;> (simp; done)) | (refine .inr ⟨?_, ?_⟩ <;> (simp <;> omega)) | (refine .inl ?_; rw [htab]; kernel_rfl))); done)); clear htab tab hKK KK; simp only [thenA, blockA, reduceIte]) | skip)
      | (refine AWP.if_t ?_ ?_; focus (simp (disch := omega) [h1]; done))
      | (refine AWP.if_f ?_ ?_; focus (simp (disch := omega) [h1]; done)))
    refine ⟨by simp, _, rfl, fin0 ⟨?_, rfl⟩ (by simp [resO, get, nms, nmss]; try (simp [nms, nmss] at hn; simp_all))⟩
    simp [resO, get, ren, rens]
  repeat' (first
    | refine AWP.seq ?_
    | refine AWP.block ?_
    | (refine AWP.skip ?_; simp only [thenA, blockA, reduceIte])
    | (refine AWP.exit ?_; simp only [thenA, blockA, eq_self, reduceIte, Nat.reduceEqDiff, Nat.succ_ne_zero])
    | (refine AWP.ret ?_; simp only [thenA, blockA, reduceIte])
    | (refine AWP.region (by rfl) (fun KK hKK => ?_); (repeat (simp (disch := omega) [h1])); first | (refine hKK _ _ _ ?_; clear hKK KK; simp only [thenA, blockA, reduceIte]) | skip)
    | (refine AWP.draw' mixd (by rfl) (by kernel_rfl) (fun KK tab hKK htab => ?_); (repeat (simp (disch := omega) [h1])); first | (refine dEnd_ro ?_ (hKK _ _ _ ?_); (focus (simp; done)); clear htab tab hKK KK; simp only [thenA, blockA, reduceIte]) | (refine dEnd_of ?_ (hKK _ _ _ ?_); (focus (simp only [List.reverse_cons, List.reverse_nil, List.nil_append, List.cons_append, memA, mem1, and_true, true_and]; (repeat' apply And.intro); (all_goals (first | trivial | (refine .inr ⟨?_, ?_⟩ <;> (simp; done)) | (refine .inr ⟨?_, ?_⟩ <;> (simp <;> omega)) | (refine .inl ?_; rw [htab]; kernel_rfl))); done)); clear htab tab hKK KK; simp only [thenA, blockA, reduceIte]) | skip)
    | (refine AWP.if_t ?_ ?_; focus (simp (disch := omega) [h1]; done))
    | (refine AWP.if_f ?_ ?_; focus (simp (disch := omega) [h1]; done)))
  refine aStop_of (DrawGapsOf_c _ _ _ cs (hx'.vw ((Vw.refl _).over (by repeat (first | exact Over.refl _ | exact hov | refine Over.upd ?_ hB (by omega) | refine Over.del ?_ hB (by omega))))) h8 hlen) ?_
  rintro r δ ⟨ds, hgd, rfl, rfl⟩
  (repeat (simp (disch := omega) []))
  first | (refine hKK _ _ _ ?_; clear hKK KK; simp only [thenA, blockA, reduceIte]) | skip
  have hl := hgd.len
  have hsz : ∀ d ∈ ds, d.1.size ≤ 9223372036854775807 := fun d hd => by have := hgd.sz d hd; omega
  repeat' (first
    | refine AWP.seq ?_
    | refine AWP.block ?_
    | (refine AWP.skip ?_; simp only [thenA, blockA, reduceIte])
    | (refine AWP.exit ?_; simp only [thenA, blockA, eq_self, reduceIte, Nat.reduceEqDiff, Nat.succ_ne_zero])
    | (refine AWP.ret ?_; simp only [thenA, blockA, reduceIte])
    | (refine AWP.region (by rfl) (fun KK hKK => ?_); (repeat (simp (disch := omega) [])); first | (refine hKK _ _ _ ?_; clear hKK KK; simp only [thenA, blockA, reduceIte]) | skip)
    | (refine AWP.draw' mixd (by rfl) (by kernel_rfl) (fun KK tab hKK htab => ?_); (repeat (simp (disch := omega) [])); first | (refine dEnd_ro ?_ (hKK _ _ _ ?_); (focus (simp; done)); clear htab tab hKK KK; simp only [thenA, blockA, reduceIte]) | (refine dEnd_of ?_ (hKK _ _ _ ?_); (focus (simp only [List.reverse_cons, List.reverse_nil, List.nil_append, List.cons_append, memA, mem1, and_true, true_and]; (repeat' apply And.intro); (all_goals (first | trivial | (refine .inr ⟨?_, ?_⟩ <;> (simp; done)) | (refine .inr ⟨?_, ?_⟩ <;> (simp <;> omega)) | (refine .inl ?_; rw [htab]; kernel_rfl))); done)); clear htab tab hKK KK; simp only [thenA, blockA, reduceIte]) | skip)
    | (refine AWP.if_t ?_ ?_; focus (simp (disch := omega) []; done))
    | (refine AWP.if_f ?_ ?_; focus (simp (disch := omega) []; done)))
  cases hO : gpI ds with
  | none =>
    refine aStop_of (gaps_c _ _ _ ds (Sl.whole (t := 33) (r := true) (by simp (disch := omega)) (by simp [rowsD_len])) (by omega) hsz) ?_
    rintro r δ ⟨rfl, rfl⟩
    (repeat (simp (disch := omega) [hO, iOut_none, dOutI_none]))
    first | (refine hKK _ _ _ ?_; clear hKK KK; simp only [thenA, blockA, reduceIte]) | skip
    repeat' (first
      | refine AWP.seq ?_
      | refine AWP.block ?_
      | (refine AWP.skip ?_; simp only [thenA, blockA, reduceIte])
      | (refine AWP.exit ?_; simp only [thenA, blockA, eq_self, reduceIte, Nat.reduceEqDiff, Nat.succ_ne_zero])
      | (refine AWP.ret ?_; simp only [thenA, blockA, reduceIte])
      | (refine AWP.region (by rfl) (fun KK hKK => ?_); (repeat (simp (disch := omega) [])); first | (refine hKK _ _ _ ?_; clear hKK KK; simp only [thenA, blockA, reduceIte]) | skip)
      | (refine AWP.draw' mixd (by rfl) (by kernel_rfl) (fun KK tab hKK htab => ?_); (repeat (simp (disch := omega) [])); first | (refine dEnd_ro ?_ (hKK _ _ _ ?_); (focus (simp; done)); clear htab tab hKK KK; simp only [thenA, blockA, reduceIte]) | (refine dEnd_of ?_ (hKK _ _ _ ?_); (focus (simp only [List.reverse_cons, List.reverse_nil, List.nil_append, List.cons_append, memA, mem1, and_true, true_and]; (repeat' apply And.intro); (all_goals (first | trivial | (refine .inr ⟨?_, ?_⟩ <;> (simp; done)) | (refine .inr ⟨?_, ?_⟩ <;> (simp <;> omega)) | (refine .inl ?_; rw [htab]; kernel_rfl))); done)); clear htab tab hKK KK; simp only [thenA, blockA, reduceIte]) | skip)
      | (refine AWP.if_t ?_ ?_; focus (simp (disch := omega) []; done))
      | (refine AWP.if_f ?_ ?_; focus (simp (disch := omega) []; done)))
    cases hS : gpO ds with
    | none =>
      repeat' (first
        | refine AWP.seq ?_
        | refine AWP.block ?_
        | (refine AWP.skip ?_; simp only [thenA, blockA, reduceIte])
        | (refine AWP.exit ?_; simp only [thenA, blockA, eq_self, reduceIte, Nat.reduceEqDiff, Nat.succ_ne_zero])
        | (refine AWP.ret ?_; simp only [thenA, blockA, reduceIte])
        | (refine AWP.region (by rfl) (fun KK hKK => ?_); (repeat (simp (disch := omega) [hS, iOut_none, dOutI_none])); first | (refine hKK _ _ _ ?_; clear hKK KK; simp only [thenA, blockA, reduceIte]) | skip)
        | (refine AWP.draw' mixd (by rfl) (by kernel_rfl) (fun KK tab hKK htab => ?_); (repeat (simp (disch := omega) [hS, iOut_none, dOutI_none])); first | (refine dEnd_ro ?_ (hKK _ _ _ ?_); (focus (simp; done)); clear htab tab hKK KK; simp only [thenA, blockA, reduceIte]) | (refine dEnd_of ?_ (hKK _ _ _ ?_); (focus (simp only [List.reverse_cons, List.reverse_nil, List.nil_append, List.cons_append, memA, mem1, and_true, true_and]; (repeat' apply And.intro); (all_goals (first | trivial | (refine .inr ⟨?_, ?_⟩ <;> (simp; done)) | (refine .inr ⟨?_, ?_⟩ <;> (simp <;> omega)) | (refine .inl ?_; rw [htab]; kernel_rfl))); done)); clear htab tab hKK KK; simp only [thenA, blockA, reduceIte]) | skip)
        | (refine AWP.if_t ?_ ?_; focus (simp (disch := omega) [hS, iOut_none, dOutI_none]; done))
        | (refine AWP.if_f ?_ ?_; focus (simp (disch := omega) [hS, iOut_none, dOutI_none]; done)))
      repeat
        first
          | (refine aStop_of (gapsS_c _ _ _ ds (Sl.whole (t := 33) (r := true) (by simp (disch := omega)) (by simp [rowsD_len])) (by omega) hsz) ?_; rintro r δ ⟨rfl, rfl⟩)
          | (refine aStop_of (equalInts_c _ _ nilA nilA [] [] (Sl.nil _ _ _ _ _) (Sl.nil _ _ _ _ _) (by simp) (by simp)) ?_; rintro r δ ⟨rfl, rfl⟩)
        (repeat (simp (disch := omega) [hS, iOut_none, dOutI_none]))
        first | (refine dEnd_ro ?_ (hKK _ _ _ ?_); (focus (simp; done)); clear htab tab hKK KK; simp only [thenA, blockA, reduceIte]) | (refine dEnd_of ?_ (hKK _ _ _ ?_); (focus (simp only [List.reverse_cons, List.reverse_nil, List.nil_append, List.cons_append, memA, mem1, and_true, true_and]; (repeat' apply And.intro); (all_goals (first | trivial | (refine .inr ⟨?_, ?_⟩ <;> (simp; done)) | (refine .inr ⟨?_, ?_⟩ <;> (simp <;> omega)) | (refine .inl ?_; rw [htab]; kernel_rfl))); done)); clear htab tab hKK KK; simp only [thenA, blockA, reduceIte]) | (refine hKK _ _ _ ?_; clear hKK KK; simp only [thenA, blockA, reduceIte]) | skip
        repeat' (first
          | refine AWP.seq ?_
          | refine AWP.block ?_
          | (refine AWP.skip ?_; simp only [thenA, blockA, reduceIte])
          | (refine AWP.exit ?_; simp only [thenA, blockA, eq_self, reduceIte, Nat.reduceEqDiff, Nat.succ_ne_zero])
          | (refine AWP.ret ?_; simp only [thenA, blockA, reduceIte])
          | (refine AWP.region (by rfl) (fun KK hKK => ?_); (repeat (simp (disch := omega) [hS, iOut_none, dOutI_none])); first | (refine hKK _ _ _ ?_; clear hKK KK; simp only [thenA, blockA, reduceIte]) | skip)
          | (refine AWP.draw' mixd (by rfl) (by kernel_rfl) (fun KK tab hKK htab => ?_); (repeat (simp (disch := omega) [hS, iOut_none, dOutI_none])); first | (refine dEnd_ro ?_ (hKK _ _ _ ?_); (focus (simp; done)); clear htab tab hKK KK; simp only [thenA, blockA, reduceIte]) | (refine dEnd_of ?_ (hKK _ _ _ ?_); (focus (simp only [List.reverse_cons, List.reverse_nil, List.nil_append, List.cons_append, memA, mem1, and_true, true_and]; (repeat' apply And.intro); (all_goals (first | trivial | (refine .inr ⟨?_, ?_⟩ <;> (simp; done)) | (refine .inr ⟨?_, ?_⟩ <;> (simp <;> omega)) | (refine .inl ?_; rw [htab]; kernel_rfl))); done)); clear htab tab hKK KK; simp only [thenA, blockA, reduceIte]) | skip)
          | (refine AWP.if_t ?_ ?_; focus (simp (disch := omega) [hS, iOut_none, dOutI_none]; done))
          | (refine AWP.if_f ?_ ?_; focus (simp (disch := omega) [hS, iOut_none, dOutI_none]; done)))
      refine ⟨by simp, _, rfl, fin0 ⟨?_, rfl⟩ (by simp [resO, get, nms, nmss]; try (simp [nms, nmss] at hn; simp_all))⟩
      simp [resO, get, ren, rens]
    | some l =>
      have hle : l = [] := by
        unfold gpI at hO
        split at hO
        · rename_i he
          subst he
          unfold gpO at hS
          split at hS
          · cases hS; rfl
          · cases hS
        · rw [hO] at hS; cases hS
      subst hle
      repeat' (first
        | refine AWP.seq ?_
        | refine AWP.block ?_
        | (refine AWP.skip ?_; simp only [thenA, blockA, reduceIte])
        | (refine AWP.exit ?_; simp only [thenA, blockA, eq_self, reduceIte, Nat.reduceEqDiff, Nat.succ_ne_zero])
        | (refine AWP.ret ?_; simp only [thenA, blockA, reduceIte])
        | (refine AWP.region (by rfl) (fun KK hKK => ?_); (repeat (simp (disch := omega) [hS, iOut_some, dOutI_some])); first | (refine hKK _ _ _ ?_; clear hKK KK; simp only [thenA, blockA, reduceIte]) | skip)
        | (refine AWP.draw' mixd (by rfl) (by kernel_rfl) (fun KK tab hKK htab => ?_); (repeat (simp (disch := omega) [hS, iOut_some, dOutI_some])); first | (refine dEnd_ro ?_ (hKK _ _ _ ?_); (focus (simp; done)); clear htab tab hKK KK; simp only [thenA, blockA, reduceIte]) | (refine dEnd_of ?_ (hKK _ _ _ ?_); (focus (simp only [List.reverse_cons, List.reverse_nil, List.nil_append, List.cons_append, memA, mem1, and_true, true_and]; (repeat' apply And.intro); (all_goals (first | trivial | (refine .inr ⟨?_, ?_⟩ <;> (simp; done)) | (refine .inr ⟨?_, ?_⟩ <;> (simp <;> omega)) | (refine .inl ?_; rw [htab]; kernel_rfl))); done)); clear htab tab hKK KK; simp only [thenA, blockA, reduceIte]) | skip)
        | (refine AWP.if_t ?_ ?_; focus (simp (disch := omega) [hS, iOut_some, dOutI_some]; done))
        | (refine AWP.if_f ?_ ?_; focus (simp (disch := omega) [hS, iOut_some, dOutI_some]; done)))
      repeat
        first
          | (refine aStop_of (gapsS_c _ _ _ ds (Sl.whole (t := 33) (r := true) (by simp (disch := omega)) (by simp [rowsD_len])) (by omega) hsz) ?_; rintro r δ ⟨rfl, rfl⟩)
          | (refine aStop_of (equalInts_c _ _ _ _ [] [] (Sl.nil _ _ _ _ _) (by first | exact (Sl.whole (t := 3) (r := true) (by simp (disch := omega) only [upd_eq, upd_ne, del_ne]) (by simp [rowsI_len])) | exact (Sl.whole (t := 3) (r := true) ((hσ' _ (by simp)).trans (by simp (disch := omega) only [upd_eq, upd_ne, del_ne])) (by simp [rowsI_len]))) (by simp) (by simp)) ?_; rintro r δ ⟨rfl, rfl⟩)
        (repeat (simp (disch := omega) [hS, iOut_some, dOutI_some]))
        first | (refine dEnd_ro ?_ (hKK _ _ _ ?_); (focus (simp; done)); clear htab tab hKK KK; simp only [thenA, blockA, reduceIte]) | (refine dEnd_of ?_ (hKK _ _ _ ?_); (focus (simp only [List.reverse_cons, List.reverse_nil, List.nil_append, List.cons_append, memA, mem1, and_true, true_and]; (repeat' apply And.intro); (all_goals (first | trivial | (refine .inr ⟨?_, ?_⟩ <;> (simp; done)) | (refine .inr ⟨?_, ?_⟩ <;> (simp <;> omega)) | (refine .inl ?_; rw [htab]; kernel_rfl))); done)); clear htab tab hKK KK; simp only [thenA, blockA, reduceIte]) | (refine hKK _ _ _ ?_; clear hKK KK; simp only [thenA, blockA, reduceIte]) | skip
        repeat' (first
          | refine AWP.seq ?_
          | refine AWP.block ?_
          | (refine AWP.skip ?_; simp only [thenA, blockA, reduceIte])
          | (refine AWP.exit ?_; simp only [thenA, blockA, eq_self, reduceIte, Nat.reduceEqDiff, Nat.succ_ne_zero])
          | (refine AWP.ret ?_; simp only [thenA, blockA, reduceIte])
          | (refine AWP.region (by rfl) (fun KK hKK => ?_); (repeat (simp (disch := omega) [hS, iOut_some, dOutI_some])); first | (refine hKK _ _ _ ?_; clear hKK KK; simp only [thenA, blockA, reduceIte]) | skip)
          | (refine AWP.draw' mixd (by rfl) (by kernel_rfl) (fun KK tab hKK htab => ?_); (repeat (simp (disch := omega) [hS, iOut_some, dOutI_some])); first | (refine dEnd_ro ?_ (hKK _ _ _ ?_); (focus (simp; done)); clear htab tab hKK KK; simp only [thenA, blockA, reduceIte]) | (refine dEnd_of ?_ (hKK _ _ _ ?_); (focus (simp only [List.reverse_cons, List.reverse_nil, List.nil_append, List.cons_append, memA, mem1, and_true, true_and]; (repeat' apply And.intro); (all_goals (first | trivial | (refine .inr ⟨?_, ?_⟩ <;> (simp; done)) | (refine .inr ⟨?_, ?_⟩ <;> (simp <;> omega)) | (refine .inl ?_; rw [htab]; kernel_rfl))); done)); clear htab tab hKK KK; simp only [thenA, blockA, reduceIte]) | skip)
          | (refine AWP.if_t ?_ ?_; focus (simp (disch := omega) [hS, iOut_some, dOutI_some]; done))
          | (refine AWP.if_f ?_ ?_; focus (simp (disch := omega) [hS, iOut_some, dOutI_some]; done)))
      refine ⟨by simp, _, rfl, fin0 ⟨?_, rfl⟩ (by simp [resO, get, nms, nmss]; try (simp [nms, nmss] at hn; simp_all))⟩
      simp [resO, get, ren, rens]
  | some l =>
    have hne : ds ≠ [] := fun e => by unfold gpI at hO; rw [if_pos e] at hO; cases hO
    have hS : gpO ds = some l := by unfold gpI at hO; rw [if_neg hne] at hO; exact hO
    obtain ⟨hok, rfl, hl30⟩ : okDs (-1000) 1000 ds = true ∧ gpA ds = l ∧ l.length ≤ 30 := by
      unfold gpO at hS
      split at hS
      · rename_i h
        cases hS
        exact ⟨h.1, rfl, h.2⟩
      · cases hS
    refine aStop_of (gaps_c _ _ _ ds (Sl.whole (t := 33) (r := true) (by simp (disch := omega)) (by simp [rowsD_len])) (by omega) hsz) ?_
    rintro r δ ⟨rfl, rfl⟩
    (repeat (simp (disch := omega) [hO, iOut_some, dOutI_some]))
    first | (refine hKK _ _ _ ?_; clear hKK KK; simp only [thenA, blockA, reduceIte]) | skip
    repeat' (first
      | refine AWP.seq ?_
      | refine AWP.block ?_
      | (refine AWP.skip ?_; simp only [thenA, blockA, reduceIte])
      | (refine AWP.exit ?_; simp only [thenA, blockA, eq_self, reduceIte, Nat.reduceEqDiff, Nat.succ_ne_zero])
      | (refine AWP.ret ?_; simp only [thenA, blockA, reduceIte])
      | (refine AWP.region (by rfl) (fun KK hKK => ?_); (repeat (simp (disch := omega) [])); first | (refine hKK _ _ _ ?_; clear hKK KK; simp only [thenA, blockA, reduceIte]) | skip)
      | (refine AWP.draw' mixd (by rfl) (by kernel_rfl) (fun KK tab hKK htab => ?_); (repeat (simp (disch := omega) [])); first | (refine dEnd_ro ?_ (hKK _ _ _ ?_); (focus (simp; done)); clear htab tab hKK KK; simp only [thenA, blockA, reduceIte]) | (refine dEnd_of ?_ (hKK _ _ _ ?_); (focus (simp only [List.reverse_cons, List.reverse_nil, List.nil_append, List.cons_append, memA, mem1, and_true, true_and]; (repeat' apply And.intro); (all_goals (first | trivial | (refine .inr ⟨?_, ?_⟩ <;> (simp; done)) | (refine .inr ⟨?_, ?_⟩ <;> (simp <;> omega)) | (refine .inl ?_; rw [htab]; kernel_rfl))); done)); clear htab tab hKK KK; simp only [thenA, blockA, reduceIte]) | skip)
      | (refine AWP.if_t ?_ ?_; focus (simp (disch := omega) []; done))
      | (refine AWP.if_f ?_ ?_; focus (simp (disch := omega) []; done)))
    by_cases hl0 : (gpA ds).length = 0
    · have he : gpA ds = [] := List.eq_nil_of_length_eq_zero hl0
      rw [he] at hS ⊢
      repeat' (first
        | refine AWP.seq ?_
        | refine AWP.block ?_
        | (refine AWP.skip ?_; simp only [thenA, blockA, reduceIte])
        | (refine AWP.exit ?_; simp only [thenA, blockA, eq_self, reduceIte, Nat.reduceEqDiff, Nat.succ_ne_zero])
        | (refine AWP.ret ?_; simp only [thenA, blockA, reduceIte])
        | (refine AWP.region (by rfl) (fun KK hKK => ?_); (repeat (simp (disch := omega) [hS, iOut_some, dOutI_some])); first | (refine hKK _ _ _ ?_; clear hKK KK; simp only [thenA, blockA, reduceIte]) | skip)
        | (refine AWP.draw' mixd (by rfl) (by kernel_rfl) (fun KK tab hKK htab => ?_); (repeat (simp (disch := omega) [hS, iOut_some, dOutI_some])); first | (refine dEnd_ro ?_ (hKK _ _ _ ?_); (focus (simp; done)); clear htab tab hKK KK; simp only [thenA, blockA, reduceIte]) | (refine dEnd_of ?_ (hKK _ _ _ ?_); (focus (simp only [List.reverse_cons, List.reverse_nil, List.nil_append, List.cons_append, memA, mem1, and_true, true_and]; (repeat' apply And.intro); (all_goals (first | trivial | (refine .inr ⟨?_, ?_⟩ <;> (simp; done)) | (refine .inr ⟨?_, ?_⟩ <;> (simp <;> omega)) | (refine .inl ?_; rw [htab]; kernel_rfl))); done)); clear htab tab hKK KK; simp only [thenA, blockA, reduceIte]) | skip)
        | (refine AWP.if_t ?_ ?_; focus (simp (disch := omega) [hS, iOut_some, dOutI_some]; done))
        | (refine AWP.if_f ?_ ?_; focus (simp (disch := omega) [hS, iOut_some, dOutI_some]; done)))
      repeat
        first
          | (refine aStop_of (gapsS_c _ _ _ ds (Sl.whole (t := 33) (r := true) (by simp (disch := omega)) (by simp [rowsD_len])) (by omega) hsz) ?_; rintro r δ ⟨rfl, rfl⟩)
          | (refine aStop_of (equalInts_c _ _ _ _ [] [] (by first | exact (Sl.whole (t := 3) (r := true) (by simp (disch := omega) only [upd_eq, upd_ne, del_ne]) (by simp [rowsI_len])) | exact (Sl.whole (t := 3) (r := true) ((hσ' _ (by simp)).trans (by simp (disch := omega) only [upd_eq, upd_ne, del_ne])) (by simp [rowsI_len]))) (by first | exact (Sl.whole (t := 3) (r := true) (by simp (disch := omega) only [upd_eq, upd_ne, del_ne]) (by simp [rowsI_len])) | exact (Sl.whole (t := 3) (r := true) ((hσ' _ (by simp)).trans (by simp (disch := omega) only [upd_eq, upd_ne, del_ne])) (by simp [rowsI_len]))) (by simp) (by simp)) ?_; rintro r δ ⟨rfl, rfl⟩)
        (repeat (simp (disch := omega) [hS, iOut_some, dOutI_some]))
        first | (refine dEnd_ro ?_ (hKK _ _ _ ?_); (focus (simp; done)); clear htab tab hKK KK; simp only [thenA, blockA, reduceIte]) | (refine dEnd_of ?_ (hKK _ _ _ ?_); (focus (simp only [List.reverse_cons, List.reverse_nil, List.nil_append, List.cons_append, memA, mem1, and_true, true_and]; (repeat' apply And.intro); (all_goals (first | trivial | (refine .inr ⟨?_, ?_⟩ <;> (simp; done)) | (refine .inr ⟨?_, ?_⟩ <;> (simp <;> omega)) | (refine .inl ?_; rw [htab]; kernel_rfl))); done)); clear htab tab hKK KK; simp only [thenA, blockA, reduceIte]) | (refine hKK _ _ _ ?_; clear hKK KK; simp only [thenA, blockA, reduceIte]) | skip
        repeat' (first
          | refine AWP.seq ?_
          | refine AWP.block ?_
          | (refine AWP.skip ?_; simp only [thenA, blockA, reduceIte])
          | (refine AWP.exit ?_; simp only [thenA, blockA, eq_self, reduceIte, Nat.reduceEqDiff, Nat.succ_ne_zero])
          | (refine AWP.ret ?_; simp only [thenA, blockA, reduceIte])
          | (refine AWP.region (by rfl) (fun KK hKK => ?_); (repeat (simp (disch := omega) [hS, iOut_some, dOutI_some])); first | (refine hKK _ _ _ ?_; clear hKK KK; simp only [thenA, blockA, reduceIte]) | skip)
          | (refine AWP.draw' mixd (by rfl) (by kernel_rfl) (fun KK tab hKK htab => ?_); (repeat (simp (disch := omega) [hS, iOut_some, dOutI_some])); first | (refine dEnd_ro ?_ (hKK _ _ _ ?_); (focus (simp; done)); clear htab tab hKK KK; simp only [thenA, blockA, reduceIte]) | (refine dEnd_of ?_ (hKK _ _ _ ?_); (focus (simp only [List.reverse_cons, List.reverse_nil, List.nil_append, List.cons_append, memA, mem1, and_true, true_and]; (repeat' apply And.intro); (all_goals (first | trivial | (refine .inr ⟨?_, ?_⟩ <;> (simp; done)) | (refine .inr ⟨?_, ?_⟩ <;> (simp <;> omega)) | (refine .inl ?_; rw [htab]; kernel_rfl))); done)); clear htab tab hKK KK; simp only [thenA, blockA, reduceIte]) | skip)
          | (refine AWP.if_t ?_ ?_; focus (simp (disch := omega) [hS, iOut_some, dOutI_some]; done))
          | (refine AWP.if_f ?_ ?_; focus (simp (disch := omega) [hS, iOut_some, dOutI_some]; done)))
      refine ⟨by simp, _, rfl, fin0 ⟨?_, rfl⟩ (by simp [resO, get, nms, nmss]; try (simp [nms, nmss] at hn; simp_all))⟩
      simp [resO, get, ren, rens]
    have h0 : 0 < (gpA ds).length := by omega
    have hl0i : ¬ ((gpA ds).length : Int) = 0 := by omega
    obtain ⟨s1, hs1⟩ := nameO_some hok (gp_low hne h0)
    obtain ⟨s2, hs2⟩ := nameO_some hok (gp_high hne h0)
    have hr0 : (rowsI (gpA ds))[0]? = some [.v (.int .i64 (gpA ds)[0])] := by rw [List.getElem?_eq_getElem (by rw [rowsI_len]; exact h0), rowsI_get _ _ h0]
    have hr1 : (rowsI (gpA ds))[(gpA ds).length - 1]? = some [.v (.int .i64 (gpA ds)[(gpA ds).length - 1])] := by rw [List.getElem?_eq_getElem (by rw [rowsI_len]; omega), rowsI_get _ _ (by omega)]
    obtain ⟨g1, g2, _⟩ := gpL_mem.1 (List.getElem_mem h0 : (gpA ds)[0] ∈ gpL ds (loV ds) (gpN ds))
    obtain ⟨g3, g4, _⟩ := gpL_mem.1 (List.getElem_mem (by omega : (gpA ds).length - 1 < (gpA ds).length) : (gpA ds)[(gpA ds).length - 1] ∈ gpL ds (loV ds) (gpN ds))
    have hv := okDs_bd hok
    obtain ⟨q1, q2⟩ := grV_bd (by decide) ds hv
    obtain ⟨q3, q4⟩ := loV_bd (by decide) ds hv
    have hN : gpN ds ≤ 2000 := by unfold gpN; omega
    have e1 : ((gpA ds).length : Int) - 1 = ((gpA ds).length - 1 : Nat) := by omega
    have e2 : (0 : Int) ≤ ((gpA ds).length : Int) - 1 := by omega
    have e3 : (((gpA ds).length : Int) - 1).toNat = (gpA ds).length - 1 := by omega
    have e4 : (gpA ds).length - 1 < (gpA ds).length := by omega
    have e5 : (1 : Int) ≤ (gpA ds).length := by omega
    have e6 : ((gpA ds).length : Int) - 1 < (gpA ds).length := by omega
    repeat' (first
      | refine AWP.seq ?_
      | refine AWP.block ?_
      | (refine AWP.skip ?_; simp only [thenA, blockA, reduceIte])
      | (refine AWP.exit ?_; simp only [thenA, blockA, eq_self, reduceIte, Nat.reduceEqDiff, Nat.succ_ne_zero])
      | (refine AWP.ret ?_; simp only [thenA, blockA, reduceIte])
      | (refine AWP.region (by rfl) (fun KK hKK => ?_); (repeat (simp (disch := omega) [hS, iOut_some, dOutI_some, hl0, hl0i, h0, hr0, hr1, hs1, hs2, e2, e3, e4, e5, e6])); first | (refine hKK _ _ _ ?_; clear hKK KK; simp only [thenA, blockA, reduceIte]) | skip)
      | (refine AWP.draw' mixd (by rfl) (by kernel_rfl) (fun KK tab hKK htab => ?_); (repeat (simp (disch := omega) [hS, iOut_some, dOutI_some, hl0, hl0i, h0, hr0, hr1, hs1, hs2, e2, e3, e4, e5, e6])); first | (refine dEnd_ro ?_ (hKK _ _ _ ?_); (focus (simp; done)); clear htab tab hKK KK; simp only [thenA, blockA, reduceIte]) | (refine dEnd_of ?_ (hKK _ _ _ ?_); (focus (simp only [List.reverse_cons, List.reverse_nil, List.nil_append, List.cons_append, memA, mem1, and_true, true_and]; (repeat' apply And.intro); (all_goals (first | trivial | (refine .inr ⟨?_, ?_⟩ <;> (simp; done)) | (refine .inr ⟨?_, ?_⟩ <;> (simp <;> omega)) | (refine .inl ?_; rw [htab]; kernel_rfl))); done)); clear htab tab hKK KK; simp only [thenA, blockA, reduceIte]) | skip)
      | (refine AWP.if_t ?_ ?_; focus (simp (disch := omega) [hS, iOut_some, dOutI_some, hl0, hl0i, h0, hr0, hr1, hs1, hs2, e2, e3, e4, e5, e6]; done))
      | (refine AWP.if_f ?_ ?_; focus (simp (disch := omega) [hS, iOut_some, dOutI_some, hl0, hl0i, h0, hr0, hr1, hs1, hs2, e2, e3, e4, e5, e6]; done)))
    repeat
      first
        | (refine aStop_of (gapsS_c _ _ _ ds (Sl.whole (t := 33) (r := true) (by simp (disch := omega)) (by simp [rowsD_len])) (by omega) hsz) ?_; rintro r δ ⟨rfl, rfl⟩)
        | (refine aStop_of (equalInts_c _ _ _ _ (gpA ds) (gpA ds) (by first | exact (Sl.whole (t := 3) (r := true) (by simp (disch := omega) only [upd_eq, upd_ne, del_ne]) (by simp [rowsI_len])) | exact (Sl.whole (t := 3) (r := true) ((hσ' _ (by simp)).trans (by simp (disch := omega) only [upd_eq, upd_ne, del_ne])) (by simp [rowsI_len]))) (by first | exact (Sl.whole (t := 3) (r := true) (by simp (disch := omega) only [upd_eq, upd_ne, del_ne]) (by simp [rowsI_len])) | exact (Sl.whole (t := 3) (r := true) ((hσ' _ (by simp)).trans (by simp (disch := omega) only [upd_eq, upd_ne, del_ne])) (by simp [rowsI_len]))) (by omega) (by omega)) ?_; rintro r δ ⟨rfl, rfl⟩)
        | (refine aStop_of (NameOf_c _ _ _ ds _ (Sl.whole (t := 33) (r := true) (by simp (disch := omega)) (by simp [rowsD_len])) (by omega) hsz) ?_; rintro r δ ⟨rfl, rfl⟩)
      (repeat (simp (disch := omega) [hS, iOut_some, dOutI_some, hl0, hl0i, h0, hr0, hr1, hs1, hs2, e2, e3, e4, e5, e6]))
      first | (refine dEnd_ro ?_ (hKK _ _ _ ?_); (focus (simp; done)); clear htab tab hKK KK; simp only [thenA, blockA, reduceIte]) | (refine dEnd_of ?_ (hKK _ _ _ ?_); (focus (simp only [List.reverse_cons, List.reverse_nil, List.nil_append, List.cons_append, memA, mem1, and_true, true_and]; (repeat' apply And.intro); (all_goals (first | trivial | (refine .inr ⟨?_, ?_⟩ <;> (simp; done)) | (refine .inr ⟨?_, ?_⟩ <;> (simp <;> omega)) | (refine .inl ?_; rw [htab]; kernel_rfl))); done)); clear htab tab hKK KK; simp only [thenA, blockA, reduceIte]) | (refine hKK _ _ _ ?_; clear hKK KK; simp only [thenA, blockA, reduceIte]) | skip
      repeat' (first
        | refine AWP.seq ?_
        | refine AWP.block ?_
        | (refine AWP.skip ?_; simp only [thenA, blockA, reduceIte])
        | (refine AWP.exit ?_; simp only [thenA, blockA, eq_self, reduceIte, Nat.reduceEqDiff, Nat.succ_ne_zero])
        | (refine AWP.ret ?_; simp only [thenA, blockA, reduceIte])
        | (refine AWP.region (by rfl) (fun KK hKK => ?_); (repeat (simp (disch := omega) [hS, iOut_some, dOutI_some, hl0, hl0i, h0, hr0, hr1, hs1, hs2, e2, e3, e4, e5, e6])); first | (refine hKK _ _ _ ?_; clear hKK KK; simp only [thenA, blockA, reduceIte]) | skip)
        | (refine AWP.draw' mixd (by rfl) (by kernel_rfl) (fun KK tab hKK htab => ?_); (repeat (simp (disch := omega) [hS, iOut_some, dOutI_some, hl0, hl0i, h0, hr0, hr1, hs1, hs2, e2, e3, e4, e5, e6])); first | (refine dEnd_ro ?_ (hKK _ _ _ ?_); (focus (simp; done)); clear htab tab hKK KK; simp only [thenA, blockA, reduceIte]) | (refine dEnd_of ?_ (hKK _ _ _ ?_); (focus (simp only [List.reverse_cons, List.reverse_nil, List.nil_append, List.cons_append, memA, mem1, and_true, true_and]; (repeat' apply And.intro); (all_goals (first | trivial | (refine .inr ⟨?_, ?_⟩ <;> (simp; done)) | (refine .inr ⟨?_, ?_⟩ <;> (simp <;> omega)) | (refine .inl ?_; rw [htab]; kernel_rfl))); done)); clear htab tab hKK KK; simp only [thenA, blockA, reduceIte]) | skip)
        | (refine AWP.if_t ?_ ?_; focus (simp (disch := omega) [hS, iOut_some, dOutI_some, hl0, hl0i, h0, hr0, hr1, hs1, hs2, e2, e3, e4, e5, e6]; done))
        | (refine AWP.if_f ?_ ?_; focus (simp (disch := omega) [hS, iOut_some, dOutI_some, hl0, hl0i, h0, hr0, hr1, hs1, hs2, e2, e3, e4, e5, e6]; done)))
    refine AWP.loop (fun n τ τ2 M => ∃ k : Nat, k ≤ (gpA ds).length ∧ n = (gpA ds).length - k ∧ τ = [(3, .ptr (K + 2) 0 0), (4, .sl (K + 2 + 1) 0 (gpA ds).length (some (gpA ds).length) 1), (8, .v (.bool true)), (10, .v (.bool true)), (11, .v (.int .i64 k))] ∧ τ2 K = some (blkD ds) ∧ τ2 (K + 2) = some (blkE (.sl K 0 ds.length none 2)) ∧ τ2 (K + 2 + 1) = some (blkI (gpA ds)) ∧ K + 2 + 1 < M)
      ⟨_, _, _, _, ⟨0, by omega, rfl, rfl, by simp (disch := omega) only [upd_eq, upd_ne], by simp (disch := omega) only [upd_eq, upd_ne], by simp (disch := omega) only [upd_eq, upd_ne], by omega⟩, Weak.tau (by simp [LQ])⟩ ?_
    rintro n τ σ2 M ⟨k, hk, rfl, rfl, hb0, hb1, hb2, hM⟩
    by_cases hlt : k < (gpA ds).length
    · have hrk : (rowsI (gpA ds))[k]? = some [.v (.int .i64 (gpA ds)[k])] := by rw [List.getElem?_eq_getElem (by rw [rowsI_len]; exact hlt), rowsI_get _ _ hlt]
      obtain ⟨_, _, g5⟩ := gpL_mem.1 (List.getElem_mem hlt : (gpA ds)[k] ∈ gpL ds (loV ds) (gpN ds))
      have hn : nameO ds (gpA ds)[k] = none := nameO_no (by omega)
      repeat' (first
        | refine AWP.seq ?_
        | refine AWP.block ?_
        | (refine AWP.skip ?_; simp only [thenA, blockA, reduceIte])
        | (refine AWP.exit ?_; simp only [thenA, blockA, eq_self, reduceIte, Nat.reduceEqDiff, Nat.succ_ne_zero])
        | (refine AWP.ret ?_; simp only [thenA, blockA, reduceIte])
        | (refine AWP.region (by rfl) (fun KK hKK => ?_); (repeat (simp (disch := omega) [hlt, hb1, hb2, hrk])); first | (refine hKK _ _ _ ?_; clear hKK KK; simp only [thenA, blockA, reduceIte]) | skip)
        | (refine AWP.draw' mixd (by rfl) (by kernel_rfl) (fun KK tab hKK htab => ?_); (repeat (simp (disch := omega) [hlt, hb1, hb2, hrk])); first | (refine dEnd_ro ?_ (hKK _ _ _ ?_); (focus (simp; done)); clear htab tab hKK KK; simp only [thenA, blockA, reduceIte]) | (refine dEnd_of ?_ (hKK _ _ _ ?_); (focus (simp only [List.reverse_cons, List.reverse_nil, List.nil_append, List.cons_append, memA, mem1, and_true, true_and]; (repeat' apply And.intro); (all_goals (first | trivial | (refine .inr ⟨?_, ?_⟩ <;> (simp; done)) | (refine .inr ⟨?_, ?_⟩ <;> (simp <;> omega)) | (refine .inl ?_; rw [htab]; kernel_rfl))); done)); clear htab tab hKK KK; simp only [thenA, blockA, reduceIte]) | skip)
        | (refine AWP.if_t ?_ ?_; focus (simp (disch := omega) [hlt, hb1, hb2, hrk]; done))
        | (refine AWP.if_f ?_ ?_; focus (simp (disch := omega) [hlt, hb1, hb2, hrk]; done)))
      refine dStop_roA (fun σ' hσ' => NameOf_c σ' _ _ ds _ (Sl.whole (t := 33) (r := true) ((hσ' _ (by simp)).trans (by simp (disch := omega) only [upd_eq, upd_ne, del_ne, hb0])) (by simp [rowsD_len])) (by omega) hsz) ?_
      (repeat (simp (disch := omega) [hlt, hb1, hb2, hrk, hn]))
      first | (refine dEnd_ro ?_ (hKK _ _ _ ?_); (focus (simp; done)); clear htab tab hKK KK; simp only [thenA, blockA, reduceIte]) | (refine dEnd_of ?_ (hKK _ _ _ ?_); (focus (simp only [List.reverse_cons, List.reverse_nil, List.nil_append, List.cons_append, memA, mem1, and_true, true_and]; (repeat' apply And.intro); (all_goals (first | trivial | (refine .inr ⟨?_, ?_⟩ <;> (simp; done)) | (refine .inr ⟨?_, ?_⟩ <;> (simp <;> omega)) | (refine .inl ?_; rw [htab]; kernel_rfl))); done)); clear htab tab hKK KK; simp only [thenA, blockA, reduceIte]) | skip
      repeat' (first
        | refine AWP.seq ?_
        | refine AWP.block ?_
        | (refine AWP.skip ?_; simp only [thenA, blockA, reduceIte])
        | (refine AWP.exit ?_; simp only [thenA, blockA, eq_self, reduceIte, Nat.reduceEqDiff, Nat.succ_ne_zero])
        | (refine AWP.ret ?_; simp only [thenA, blockA, reduceIte])
        | (refine AWP.region (by rfl) (fun KK hKK => ?_); (repeat (simp (disch := omega) [hn])); first | (refine hKK _ _ _ ?_; clear hKK KK; simp only [thenA, blockA, reduceIte]) | skip)
        | (refine AWP.draw' mixd (by rfl) (by kernel_rfl) (fun KK tab hKK htab => ?_); (repeat (simp (disch := omega) [hn])); first | (refine dEnd_ro ?_ (hKK _ _ _ ?_); (focus (simp; done)); clear htab tab hKK KK; simp only [thenA, blockA, reduceIte]) | (refine dEnd_of ?_ (hKK _ _ _ ?_); (focus (simp only [List.reverse_cons, List.reverse_nil, List.nil_append, List.cons_append, memA, mem1, and_true, true_and]; (repeat' apply And.intro); (all_goals (first | trivial | (refine .inr ⟨?_, ?_⟩ <;> (simp; done)) | (refine .inr ⟨?_, ?_⟩ <;> (simp <;> omega)) | (refine .inl ?_; rw [htab]; kernel_rfl))); done)); clear htab tab hKK KK; simp only [thenA, blockA, reduceIte]) | skip)
        | (refine AWP.if_t ?_ ?_; focus (simp (disch := omega) [hn]; done))
        | (refine AWP.if_f ?_ ?_; focus (simp (disch := omega) [hn]; done)))
      refine ⟨_, _, _, _, ?_, ⟨k + 1, by omega, rfl, rfl, by simp (disch := omega) only [upd_eq, upd_ne, hb0], by simp (disch := omega) only [upd_eq, upd_ne, hb1], by simp (disch := omega) only [upd_eq, upd_ne, hb2], by omega⟩, Weak.tau (by simp [LQ])⟩
      omega
    · have hasc : ∀ i, ∀ h : i + 1 < (gpA ds).length, (gpA ds)[i] < (gpA ds)[i + 1] := fun i h => List.pairwise_iff_getElem.1 (gpL_pw ds (loV ds) (gpN ds)) i (i + 1) _ h (by omega)
      repeat' (first
        | refine AWP.seq ?_
        | refine AWP.block ?_
        | (refine AWP.skip ?_; simp only [thenA, blockA, reduceIte])
        | (refine AWP.exit ?_; simp only [thenA, blockA, eq_self, reduceIte, Nat.reduceEqDiff, Nat.succ_ne_zero])
        | (refine AWP.ret ?_; simp only [thenA, blockA, reduceIte])
        | (refine AWP.region (by rfl) (fun KK hKK => ?_); (repeat (simp (disch := omega) [hlt])); first | (refine hKK _ _ _ ?_; clear hKK KK; simp only [thenA, blockA, reduceIte]) | skip)
        | (refine AWP.draw' mixd (by rfl) (by kernel_rfl) (fun KK tab hKK htab => ?_); (repeat (simp (disch := omega) [hlt])); first | (refine dEnd_ro ?_ (hKK _ _ _ ?_); (focus (simp; done)); clear htab tab hKK KK; simp only [thenA, blockA, reduceIte]) | (refine dEnd_of ?_ (hKK _ _ _ ?_); (focus (simp only [List.reverse_cons, List.reverse_nil, List.nil_append, List.cons_append, memA, mem1, and_true, true_and]; (repeat' apply And.intro); (all_goals (first | trivial | (refine .inr ⟨?_, ?_⟩ <;> (simp; done)) | (refine .inr ⟨?_, ?_⟩ <;> (simp <;> omega)) | (refine .inl ?_; rw [htab]; kernel_rfl))); done)); clear htab tab hKK KK; simp only [thenA, blockA, reduceIte]) | skip)
        | (refine AWP.if_t ?_ ?_; focus (simp (disch := omega) [hlt]; done))
        | (refine AWP.if_f ?_ ?_; focus (simp (disch := omega) [hlt]; done)))
      refine aStop_of (ascends_yes _ _ _ (gpA ds) (Sl.whole (t := 3) (r := true) (by simp (disch := omega) only [upd_eq, upd_ne, del_ne, hb2]) (by simp [rowsI_len])) (by omega) hasc) ?_
      rintro r δ ⟨rfl, rfl⟩
      (repeat (simp (disch := omega) []))
      first | (refine hKK _ _ _ ?_; clear hKK KK; simp only [thenA, blockA, reduceIte]) | skip
      repeat' (first
        | refine AWP.seq ?_
        | refine AWP.block ?_
        | (refine AWP.skip ?_; simp only [thenA, blockA, reduceIte])
        | (refine AWP.exit ?_; simp only [thenA, blockA, eq_self, reduceIte, Nat.reduceEqDiff, Nat.succ_ne_zero])
        | (refine AWP.ret ?_; simp only [thenA, blockA, reduceIte])
        | (refine AWP.region (by rfl) (fun KK hKK => ?_); (repeat (simp (disch := omega) [])); first | (refine hKK _ _ _ ?_; clear hKK KK; simp only [thenA, blockA, reduceIte]) | skip)
        | (refine AWP.draw' mixd (by rfl) (by kernel_rfl) (fun KK tab hKK htab => ?_); (repeat (simp (disch := omega) [])); first | (refine dEnd_ro ?_ (hKK _ _ _ ?_); (focus (simp; done)); clear htab tab hKK KK; simp only [thenA, blockA, reduceIte]) | (refine dEnd_of ?_ (hKK _ _ _ ?_); (focus (simp only [List.reverse_cons, List.reverse_nil, List.nil_append, List.cons_append, memA, mem1, and_true, true_and]; (repeat' apply And.intro); (all_goals (first | trivial | (refine .inr ⟨?_, ?_⟩ <;> (simp; done)) | (refine .inr ⟨?_, ?_⟩ <;> (simp <;> omega)) | (refine .inl ?_; rw [htab]; kernel_rfl))); done)); clear htab tab hKK KK; simp only [thenA, blockA, reduceIte]) | skip)
        | (refine AWP.if_t ?_ ?_; focus (simp (disch := omega) []; done))
        | (refine AWP.if_f ?_ ?_; focus (simp (disch := omega) []; done)))
      refine ⟨by simp, _, rfl, fin0 ⟨?_, rfl⟩ (by simp [resO, get, nms, nmss]; try (simp [nms, nmss] at hn; simp_all))⟩
      simp [resO, get, ren, rens]
end Go.Proofs.Ythjjfdbkggiaeaa
