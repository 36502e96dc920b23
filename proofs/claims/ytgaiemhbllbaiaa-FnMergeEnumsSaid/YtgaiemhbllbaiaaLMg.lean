/- The law of MergeEnums, walked: it answers true for every code. No condition but sizes that every input has. -/
import Derived.Test.YtgaiemhbllbaiaaK5
import Derived.Test.YtgaiemhbllbaiaaK6
import Derived.Test.YtgaiemhbllbaiaaK7
import Derived.Test.YtgaiemhbllbaiaaM6
import Derived.Test.YtgaiemhbllbaiaaM2
set_option linter.unusedSimpArgs false
set_option linter.unusedVariables false
namespace Go.Proofs.Ytgaiemhbllbaiaa
open Go Go.RowKit

theorem merge_none (σ : Sto) (ν : Nat) (x y : AV) (ds es : List Df) (ho : mgO ds es = none) (hx : Sl σ x 2 (rowsD ds)) (hy : Sl σ y 2 (rowsD es)) (hl1 : ds.length ≤ 1073741824) (hl2 : es.length ≤ 1073741824)
    (hs1 : ∀ d ∈ ds, d.1.size ≤ 9223372036854775807) (hs2 : ∀ d ∈ es, d.1.size ≤ 9223372036854775807) :
    AC Try.prog 11 [.agg [x], .agg [y]] σ ν fun r δ => r = .tup [.agg [nilA], .v (.bool false)] ∧ δ = noS := by
  have h := merge_c σ ν x y ds es hx hy hl1 hl2 hs1 hs2
  rw [ho] at h
  simpa only [eOut_none, dOut_none, Option.isSome_none] using h
theorem merge_some (σ : Sto) (ν : Nat) (x y : AV) (ds es l : List Df) (ho : mgO ds es = some l) (hx : Sl σ x 2 (rowsD ds)) (hy : Sl σ y 2 (rowsD es)) (hl1 : ds.length ≤ 1073741824) (hl2 : es.length ≤ 1073741824)
    (hs1 : ∀ d ∈ ds, d.1.size ≤ 9223372036854775807) (hs2 : ∀ d ∈ es, d.1.size ≤ 9223372036854775807) :
    AC Try.prog 11 [.agg [x], .agg [y]] σ ν fun r δ => r = .tup [.agg [.sl ν 0 l.length (some l.length) 2], .v (.bool true)] ∧ δ = upd noS ν (blkD l) := by
  have h := merge_c σ ν x y ds es hx hy hl1 hl2 hs1 hs2
  rw [ho] at h
  simpa only [eOut_some, dOut_some, Option.isSome_some] using h
theorem mergeS_none (σ : Sto) (ν : Nat) (x y : AV) (ds es : List Df) (ho : mgO ds es = none) (hx : Sl σ x 2 (rowsD ds)) (hy : Sl σ y 2 (rowsD es)) (hl1 : ds.length ≤ 1073741824) (hl2 : es.length ≤ 1073741824)
    (hs1 : ∀ d ∈ ds, d.1.size ≤ 9223372036854775807) (hs2 : ∀ d ∈ es, d.1.size ≤ 9223372036854775807) :
    AC Try.prog 12 [.agg [x], .agg [y]] σ ν fun r δ => r = .tup [.agg [nilA], .v (.bool false)] ∧ δ = noS := by
  have h := mergeS_c σ ν x y ds es hx hy hl1 hl2 hs1 hs2
  rw [ho] at h
  simpa only [eOut_none, dOut_none, Option.isSome_none] using h
theorem mergeS_some (σ : Sto) (ν : Nat) (x y : AV) (ds es l : List Df) (ho : mgO ds es = some l) (hx : Sl σ x 2 (rowsD ds)) (hy : Sl σ y 2 (rowsD es)) (hl1 : ds.length ≤ 1073741824) (hl2 : es.length ≤ 1073741824)
    (hs1 : ∀ d ∈ ds, d.1.size ≤ 9223372036854775807) (hs2 : ∀ d ∈ es, d.1.size ≤ 9223372036854775807) :
    AC Try.prog 12 [.agg [x], .agg [y]] σ ν fun r δ => r = .tup [.agg [.sl ν 0 l.length (none) 2], .v (.bool true)] ∧ δ = upd noS ν (blkD l) := by
  have h := mergeS_c σ ν x y ds es hx hy hl1 hl2 hs1 hs2
  rw [ho] at h
  simpa only [eOut_some, dOut_some, Option.isSome_some] using h
set_option maxRecDepth 10000 in
set_option maxHeartbeats 8000000 in
theorem merge_law_c (σ : Sto) (ν : Nat) (x : AV) (cs : List Int) (hx : Sl σ x 1 (rowsB cs)) (hlen : cs.length ≤ 9223372036854775807) (h8 : ∀ y ∈ cs, 0 ≤ y ∧ y ≤ 255) :
    AC Try.prog 3 [x] σ ν fun r δ => r = .v (.bool true) ∧ δ = noS := by
  obtain ⟨b, o, cap, z, rfl⟩ := hx.out
  simp only [rowsB_len] at hx ⊢
  refine AC.intro [] ent_3 Try.func3 rfl (by simp [Try.f3]) (by simp) ?_
  intro K s hs hB hn hν hA hFr
  simp only [argT, Nat.zero_add, Nat.reduceAdd]
  have hx' := hx.vw hs.vw
  by_cases h1 : (1048576 : Int) < cs.length
  · repeat' (first
      | refine AWP.seq ?_
      | refine AWP.block ?_
      | (refine AWP.skip ?_; simp only [thenA, blockA, reduceIte])
      | (refine AWP.exit ?_; simp only [thenA, blockA, eq_self, reduceIte, Nat.reduceEqDiff, Nat.succ_ne_zero])
      | (refine AWP.ret ?_; simp only [thenA, blockA, reduceIte])
      | (refine AWP.region (by rfl) (fun KK hKK => ?_); (repeat (simp (disch := omega) [h1])); first | (refine hKK _ _ _ ?_; clear hKK KK; simp only [thenA, blockA, reduceIte]) | skip)
      | (refine AWP.draw' mixd (by rfl) (by kernel_rfl) (fun KK tab hKK htab => ?_); (repeat (simp (disch := omega) [h1])); first | (refine dEnd_ro ?_ (hKK _ _ _ ?_); (focus (simp; done)); clear htab tab hKK KK; simp only [thenA, blockA, reduceIte]) | (refine dEnd_of ?_ (hKK _ _ _ ?_); (focus (simp only [List.reverse_cons, List.reverse_nil, List.nil_append, List.cons_append, memA, mem1, and_true, true_and]; (repeat' apply And.intro); (all_goals (first | trivial | (refine .inr ⟨?_, ?_⟩ <;> (simp; done)) | (refine .inr ⟨?_, ?_⟩ <;> (simp <;> omega)) | (refine .inl ?_; rw [htab]; kernel_rfl))); done)); clear htab tab hKK KK; simp only [thenA, blockA, reduceIte]) | skip)
      | (refine AWP.if_t ?_ ?_; focus (simp (disch := omega) [h1]; done))
      | (refine AWP.if_f ?_ ?_; focus (simp (disch := omega) [h1]; done)))
    refine ⟨by simp, _, rfl, fin0 ⟨?_, rfl⟩ (by simp [resO, get, nms, nmss]; try (simp [nms, nmss] at hn; simp_all))⟩
    simp [resO, get, ren, rens]
  repeat' (first
    | refine AWP.seq ?_
    | refine AWP.block ?_
    | (refine AWP.skip ?_; simp only [thenA, blockA, reduceIte])
    | (refine AWP.exit ?_; simp only [thenA, blockA, eq_self, reduceIte, Nat.reduceEqDiff, Nat.succ_ne_zero])
    | (refine AWP.ret ?_; simp only [thenA, blockA, reduceIte])
    | (refine AWP.region (by rfl) (fun KK hKK => ?_); (repeat (simp (disch := omega) [h1])); first | (refine hKK _ _ _ ?_; clear hKK KK; simp only [thenA, blockA, reduceIte]) | skip)
    | (refine AWP.draw' mixd (by rfl) (by kernel_rfl) (fun KK tab hKK htab => ?_); (repeat (simp (disch := omega) [h1])); first | (refine dEnd_ro ?_ (hKK _ _ _ ?_); (focus (simp; done)); clear htab tab hKK KK; simp only [thenA, blockA, reduceIte]) | (refine dEnd_of ?_ (hKK _ _ _ ?_); (focus (simp only [List.reverse_cons, List.reverse_nil, List.nil_append, List.cons_append, memA, mem1, and_true, true_and]; (repeat' apply And.intro); (all_goals (first | trivial | (refine .inr ⟨?_, ?_⟩ <;> (simp; done)) | (refine .inr ⟨?_, ?_⟩ <;> (simp <;> omega)) | (refine .inl ?_; rw [htab]; kernel_rfl))); done)); clear htab tab hKK KK; simp only [thenA, blockA, reduceIte]) | skip)
    | (refine AWP.if_t ?_ ?_; focus (simp (disch := omega) [h1]; done))
    | (refine AWP.if_f ?_ ?_; focus (simp (disch := omega) [h1]; done)))
  refine aStop_of (DrawMergeEnums_c _ _ _ cs (hx'.vw ((Vw.refl _).over (by repeat (first | exact Over.refl _ | exact hov | refine Over.upd ?_ hB (by omega) | refine Over.del ?_ hB (by omega))))) h8 hlen) ?_
  rintro r δ ⟨ds, es, hga, hgb, rfl, rfl⟩
  (repeat (simp (disch := omega) []))
  first | (refine hKK _ _ _ ?_; clear hKK KK; simp only [thenA, blockA, reduceIte]) | skip
  have hla := hga.len
  have hlb := hgb.len
  have hl1 : ds.length ≤ 1073741824 := by omega
  have hl2 : es.length ≤ 1073741824 := by omega
  have hs1 : ∀ d ∈ ds, d.1.size ≤ 9223372036854775807 := fun d hd => by have := hga.sz d hd; omega
  have hs2 : ∀ d ∈ es, d.1.size ≤ 9223372036854775807 := fun d hd => by have := hgb.sz d hd; omega
  repeat' (first
    | refine AWP.seq ?_
    | refine AWP.block ?_
    | (refine AWP.skip ?_; simp only [thenA, blockA, reduceIte])
    | (refine AWP.exit ?_; simp only [thenA, blockA, eq_self, reduceIte, Nat.reduceEqDiff, Nat.succ_ne_zero])
    | (refine AWP.ret ?_; simp only [thenA, blockA, reduceIte])
    | (refine AWP.region (by rfl) (fun KK hKK => ?_); (repeat (simp (disch := omega) [])); first | (refine hKK _ _ _ ?_; clear hKK KK; simp only [thenA, blockA, reduceIte]) | skip)
    | (refine AWP.draw' mixd (by rfl) (by kernel_rfl) (fun KK tab hKK htab => ?_); (repeat (simp (disch := omega) [])); first | (refine dEnd_ro ?_ (hKK _ _ _ ?_); (focus (simp; done)); clear htab tab hKK KK; simp only [thenA, blockA, reduceIte]) | (refine dEnd_of ?_ (hKK _ _ _ ?_); (focus (simp only [List.reverse_cons, List.reverse_nil, List.nil_append, List.cons_append, memA, mem1, and_true, true_and]; (repeat' apply And.intro); (all_goals (first | trivial | (refine .inr ⟨?_, ?_⟩ <;> (simp; done)) | (refine .inr ⟨?_, ?_⟩ <;> (simp <;> omega)) | (refine .inl ?_; rw [htab]; kernel_rfl))); done)); clear htab tab hKK KK; simp only [thenA, blockA, reduceIte]) | skip)
    | (refine AWP.if_t ?_ ?_; focus (simp (disch := omega) []; done))
    | (refine AWP.if_f ?_ ?_; focus (simp (disch := omega) []; done)))
  cases hO : mgO ds es with
  | none =>
    repeat' (first
      | refine AWP.seq ?_
      | refine AWP.block ?_
      | (refine AWP.skip ?_; simp only [thenA, blockA, reduceIte])
      | (refine AWP.exit ?_; simp only [thenA, blockA, eq_self, reduceIte, Nat.reduceEqDiff, Nat.succ_ne_zero])
      | (refine AWP.ret ?_; simp only [thenA, blockA, reduceIte])
      | (refine AWP.region (by rfl) (fun KK hKK => ?_); (repeat (simp (disch := omega) [])); first | (refine hKK _ _ _ ?_; clear hKK KK; simp only [thenA, blockA, reduceIte]) | skip)
      | (refine AWP.draw' mixd (by rfl) (by kernel_rfl) (fun KK tab hKK htab => ?_); (repeat (simp (disch := omega) [])); first | (refine dEnd_ro ?_ (hKK _ _ _ ?_); (focus (simp; done)); clear htab tab hKK KK; simp only [thenA, blockA, reduceIte]) | (refine dEnd_of ?_ (hKK _ _ _ ?_); (focus (simp only [List.reverse_cons, List.reverse_nil, List.nil_append, List.cons_append, memA, mem1, and_true, true_and]; (repeat' apply And.intro); (all_goals (first | trivial | (refine .inr ⟨?_, ?_⟩ <;> (simp; done)) | (refine .inr ⟨?_, ?_⟩ <;> (simp <;> omega)) | (refine .inl ?_; rw [htab]; kernel_rfl))); done)); clear htab tab hKK KK; simp only [thenA, blockA, reduceIte]) | skip)
      | (refine AWP.if_t ?_ ?_; focus (simp (disch := omega) []; done))
      | (refine AWP.if_f ?_ ?_; focus (simp (disch := omega) []; done)))
    repeat
      first
        | (refine aStop_of (merge_none _ _ _ _ ds es hO (by first | exact (Sl.whole (t := 34) (r := true) ((hσ' _ (by simp)).trans (by simp (disch := omega) only [upd_eq, upd_ne, del_ne])) (by simp [rowsD_len])) | exact (Sl.whole (t := 34) (r := true) (by simp (disch := omega) only [upd_eq, upd_ne, del_ne]) (by simp [rowsD_len]))) (by first | exact (Sl.whole (t := 34) (r := true) ((hσ' _ (by simp)).trans (by simp (disch := omega) only [upd_eq, upd_ne, del_ne])) (by simp [rowsD_len])) | exact (Sl.whole (t := 34) (r := true) (by simp (disch := omega) only [upd_eq, upd_ne, del_ne]) (by simp [rowsD_len]))) hl1 hl2 hs1 hs2) ?_; rintro r δ ⟨rfl, rfl⟩)
        | (refine dStop_roA (fun σ' hσ' => merge_none σ' _ _ _ ds es hO (by first | exact (Sl.whole (t := 34) (r := true) ((hσ' _ (by simp)).trans (by simp (disch := omega) only [upd_eq, upd_ne, del_ne])) (by simp [rowsD_len])) | exact (Sl.whole (t := 34) (r := true) (by simp (disch := omega) only [upd_eq, upd_ne, del_ne]) (by simp [rowsD_len]))) (by first | exact (Sl.whole (t := 34) (r := true) ((hσ' _ (by simp)).trans (by simp (disch := omega) only [upd_eq, upd_ne, del_ne])) (by simp [rowsD_len])) | exact (Sl.whole (t := 34) (r := true) (by simp (disch := omega) only [upd_eq, upd_ne, del_ne]) (by simp [rowsD_len]))) hl1 hl2 hs1 hs2) ?_)
        | (refine aStop_of (mergeS_none _ _ _ _ ds es hO (by first | exact (Sl.whole (t := 34) (r := true) ((hσ' _ (by simp)).trans (by simp (disch := omega) only [upd_eq, upd_ne, del_ne])) (by simp [rowsD_len])) | exact (Sl.whole (t := 34) (r := true) (by simp (disch := omega) only [upd_eq, upd_ne, del_ne]) (by simp [rowsD_len]))) (by first | exact (Sl.whole (t := 34) (r := true) ((hσ' _ (by simp)).trans (by simp (disch := omega) only [upd_eq, upd_ne, del_ne])) (by simp [rowsD_len])) | exact (Sl.whole (t := 34) (r := true) (by simp (disch := omega) only [upd_eq, upd_ne, del_ne]) (by simp [rowsD_len]))) hl1 hl2 hs1 hs2) ?_; rintro r δ ⟨rfl, rfl⟩)
        | (refine dStop_roA (fun σ' hσ' => mergeS_none σ' _ _ _ ds es hO (by first | exact (Sl.whole (t := 34) (r := true) ((hσ' _ (by simp)).trans (by simp (disch := omega) only [upd_eq, upd_ne, del_ne])) (by simp [rowsD_len])) | exact (Sl.whole (t := 34) (r := true) (by simp (disch := omega) only [upd_eq, upd_ne, del_ne]) (by simp [rowsD_len]))) (by first | exact (Sl.whole (t := 34) (r := true) ((hσ' _ (by simp)).trans (by simp (disch := omega) only [upd_eq, upd_ne, del_ne])) (by simp [rowsD_len])) | exact (Sl.whole (t := 34) (r := true) (by simp (disch := omega) only [upd_eq, upd_ne, del_ne]) (by simp [rowsD_len]))) hl1 hl2 hs1 hs2) ?_)
        | (refine aStop_of (equalEnum_c _ _ nilA nilA [] [] (Sl.nil _ _ _ _ _) (Sl.nil _ _ _ _ _) (by simp) (by simp)) ?_; rintro r δ ⟨rfl, rfl⟩)
        | (refine dStop_roA (fun σ' hσ' => equalEnum_c σ' _ nilA nilA [] [] (Sl.nil _ _ _ _ _) (Sl.nil _ _ _ _ _) (by simp) (by simp)) ?_)
      (repeat (simp (disch := omega) []))
      first | (refine dEnd_ro ?_ (hKK _ _ _ ?_); (focus (simp; done)); clear htab tab hKK KK; simp only [thenA, blockA, reduceIte]) | (refine dEnd_of ?_ (hKK _ _ _ ?_); (focus (simp only [List.reverse_cons, List.reverse_nil, List.nil_append, List.cons_append, memA, mem1, and_true, true_and]; (repeat' apply And.intro); (all_goals (first | trivial | (refine .inr ⟨?_, ?_⟩ <;> (simp; done)) | (refine .inr ⟨?_, ?_⟩ <;> (simp <;> omega)) | (refine .inl ?_; rw [htab]; kernel_rfl))); done)); clear htab tab hKK KK; simp only [thenA, blockA, reduceIte]) | (refine hKK _ _ _ ?_; clear hKK KK; simp only [thenA, blockA, reduceIte]) | skip
      repeat' (first
        | refine AWP.seq ?_
        | refine AWP.block ?_
        | (refine AWP.skip ?_; simp only [thenA, blockA, reduceIte])
        | (refine AWP.exit ?_; simp only [thenA, blockA, eq_self, reduceIte, Nat.reduceEqDiff, Nat.succ_ne_zero])
        | (refine AWP.ret ?_; simp only [thenA, blockA, reduceIte])
        | (refine AWP.region (by rfl) (fun KK hKK => ?_); (repeat (simp (disch := omega) [])); first | (refine hKK _ _ _ ?_; clear hKK KK; simp only [thenA, blockA, reduceIte]) | skip)
        | (refine AWP.draw' mixd (by rfl) (by kernel_rfl) (fun KK tab hKK htab => ?_); (repeat (simp (disch := omega) [])); first | (refine dEnd_ro ?_ (hKK _ _ _ ?_); (focus (simp; done)); clear htab tab hKK KK; simp only [thenA, blockA, reduceIte]) | (refine dEnd_of ?_ (hKK _ _ _ ?_); (focus (simp only [List.reverse_cons, List.reverse_nil, List.nil_append, List.cons_append, memA, mem1, and_true, true_and]; (repeat' apply And.intro); (all_goals (first | trivial | (refine .inr ⟨?_, ?_⟩ <;> (simp; done)) | (refine .inr ⟨?_, ?_⟩ <;> (simp <;> omega)) | (refine .inl ?_; rw [htab]; kernel_rfl))); done)); clear htab tab hKK KK; simp only [thenA, blockA, reduceIte]) | skip)
        | (refine AWP.if_t ?_ ?_; focus (simp (disch := omega) []; done))
        | (refine AWP.if_f ?_ ?_; focus (simp (disch := omega) []; done)))
    refine ⟨by simp, _, rfl, fin0 ⟨?_, rfl⟩ (by simp [resO, get, nms, nmss]; try (simp [nms, nmss] at hn; simp_all))⟩
    simp [resO, get, ren, rens]
  | some l =>
    have hp := mg_parts hO
    have hb := mg_back hO
    have hsm := mg_same hO
    have hval := mg_val hO
    have hll := okDs_len (hp.2.2.2.1)
    rw [← hp.1] at hll
    have hl4 : l.length ≤ 4294967296 := by omega
    have hl30 : l.length ≤ 1073741824 := by omega
    have hl9 : l.length ≤ 9223372036854775807 := by omega
    have hs3 : ∀ d ∈ l, d.1.size ≤ 9223372036854775807 := by rw [hp.1]; exact mgL_sz hs1 hs2
    have hs4 : ∀ d ∈ mgL es ds, d.1.size ≤ 9223372036854775807 := mgL_sz hs2 hs1
    have hlb4 := okDs_len hb.2
    have hO2 := hb.1
    generalize mgL es ds = l2 at *
    have hl32 : l2.length ≤ 1073741824 := by omega
    have hz1 : ds.length * 24 ≤ 140737488355328 := by omega
    have hz2 : ds.length ≤ 4611686018427387904 := by omega
    have hz3 : (ds.length + es.length) * 24 ≤ 140737488355328 := by omega
    have hz4 : ds.length + es.length ≤ 4611686018427387904 := by omega
    have hap : rowsD ds ++ rowsD es = rowsD (ds ++ es) := by simp [rowsD]
    repeat' (first
      | refine AWP.seq ?_
      | refine AWP.block ?_
      | (refine AWP.skip ?_; simp only [thenA, blockA, reduceIte])
      | (refine AWP.exit ?_; simp only [thenA, blockA, eq_self, reduceIte, Nat.reduceEqDiff, Nat.succ_ne_zero])
      | (refine AWP.ret ?_; simp only [thenA, blockA, reduceIte])
      | (refine AWP.region (by rfl) (fun KK hKK => ?_); (repeat (simp (disch := omega) [elems, rowsD_len, rowsD_take, hap, hz1, hz2, hz3, hz4])); first | (refine hKK _ _ _ ?_; clear hKK KK; simp only [thenA, blockA, reduceIte]) | skip)
      | (refine AWP.draw' mixd (by rfl) (by kernel_rfl) (fun KK tab hKK htab => ?_); (repeat (simp (disch := omega) [elems, rowsD_len, rowsD_take, hap, hz1, hz2, hz3, hz4])); first | (refine dEnd_ro ?_ (hKK _ _ _ ?_); (focus (simp; done)); clear htab tab hKK KK; simp only [thenA, blockA, reduceIte]) | (refine dEnd_of ?_ (hKK _ _ _ ?_); (focus (simp only [List.reverse_cons, List.reverse_nil, List.nil_append, List.cons_append, memA, mem1, and_true, true_and]; (repeat' apply And.intro); (all_goals (first | trivial | (refine .inr ⟨?_, ?_⟩ <;> (simp; done)) | (refine .inr ⟨?_, ?_⟩ <;> (simp <;> omega)) | (refine .inl ?_; rw [htab]; kernel_rfl))); done)); clear htab tab hKK KK; simp only [thenA, blockA, reduceIte]) | skip)
      | (refine AWP.if_t ?_ ?_; focus (simp (disch := omega) [elems, rowsD_len, rowsD_take, hap, hz1, hz2, hz3, hz4]; done))
      | (refine AWP.if_f ?_ ?_; focus (simp (disch := omega) [elems, rowsD_len, rowsD_take, hap, hz1, hz2, hz3, hz4]; done)))
    repeat
      first
        | (refine aStop_of (merge_some _ _ (.sl K 0 ds.length none 2) (.sl (K + 1) 0 es.length none 2) ds es l hO (by first | exact (Sl.whole (t := 34) (r := true) ((hσ' _ (by simp)).trans (by simp (disch := omega) only [upd_eq, upd_ne, del_ne])) (by simp [rowsD_len])) | exact (Sl.whole (t := 34) (r := true) (by simp (disch := omega) only [upd_eq, upd_ne, del_ne]) (by simp [rowsD_len]))) (by first | exact (Sl.whole (t := 34) (r := true) ((hσ' _ (by simp)).trans (by simp (disch := omega) only [upd_eq, upd_ne, del_ne])) (by simp [rowsD_len])) | exact (Sl.whole (t := 34) (r := true) (by simp (disch := omega) only [upd_eq, upd_ne, del_ne]) (by simp [rowsD_len]))) hl1 hl2 hs1 hs2) ?_; rintro r δ ⟨rfl, rfl⟩)
        | (refine dStop_newA (fun σ' hσ' => merge_some σ' _ (.sl K 0 ds.length none 2) (.sl (K + 1) 0 es.length none 2) ds es l hO (by first | exact (Sl.whole (t := 34) (r := true) ((hσ' _ (by simp)).trans (by simp (disch := omega) only [upd_eq, upd_ne, del_ne])) (by simp [rowsD_len])) | exact (Sl.whole (t := 34) (r := true) (by simp (disch := omega) only [upd_eq, upd_ne, del_ne]) (by simp [rowsD_len]))) (by first | exact (Sl.whole (t := 34) (r := true) ((hσ' _ (by simp)).trans (by simp (disch := omega) only [upd_eq, upd_ne, del_ne])) (by simp [rowsD_len])) | exact (Sl.whole (t := 34) (r := true) (by simp (disch := omega) only [upd_eq, upd_ne, del_ne]) (by simp [rowsD_len]))) hl1 hl2 hs1 hs2) ?_)
        | (refine aStop_of (merge_some _ _ (.sl (K + 1) 0 es.length none 2) (.sl K 0 ds.length none 2) es ds l2 hO2 (by first | exact (Sl.whole (t := 34) (r := true) ((hσ' _ (by simp)).trans (by simp (disch := omega) only [upd_eq, upd_ne, del_ne])) (by simp [rowsD_len])) | exact (Sl.whole (t := 34) (r := true) (by simp (disch := omega) only [upd_eq, upd_ne, del_ne]) (by simp [rowsD_len]))) (by first | exact (Sl.whole (t := 34) (r := true) ((hσ' _ (by simp)).trans (by simp (disch := omega) only [upd_eq, upd_ne, del_ne])) (by simp [rowsD_len])) | exact (Sl.whole (t := 34) (r := true) (by simp (disch := omega) only [upd_eq, upd_ne, del_ne]) (by simp [rowsD_len]))) hl2 hl1 hs2 hs1) ?_; rintro r δ ⟨rfl, rfl⟩)
        | (refine dStop_newA (fun σ' hσ' => merge_some σ' _ (.sl (K + 1) 0 es.length none 2) (.sl K 0 ds.length none 2) es ds l2 hO2 (by first | exact (Sl.whole (t := 34) (r := true) ((hσ' _ (by simp)).trans (by simp (disch := omega) only [upd_eq, upd_ne, del_ne])) (by simp [rowsD_len])) | exact (Sl.whole (t := 34) (r := true) (by simp (disch := omega) only [upd_eq, upd_ne, del_ne]) (by simp [rowsD_len]))) (by first | exact (Sl.whole (t := 34) (r := true) ((hσ' _ (by simp)).trans (by simp (disch := omega) only [upd_eq, upd_ne, del_ne])) (by simp [rowsD_len])) | exact (Sl.whole (t := 34) (r := true) (by simp (disch := omega) only [upd_eq, upd_ne, del_ne]) (by simp [rowsD_len]))) hl2 hl1 hs2 hs1) ?_)
        | (refine aStop_of (mergeS_some _ _ (.sl K 0 ds.length none 2) (.sl (K + 1) 0 es.length none 2) ds es l hO (by first | exact (Sl.whole (t := 34) (r := true) ((hσ' _ (by simp)).trans (by simp (disch := omega) only [upd_eq, upd_ne, del_ne])) (by simp [rowsD_len])) | exact (Sl.whole (t := 34) (r := true) (by simp (disch := omega) only [upd_eq, upd_ne, del_ne]) (by simp [rowsD_len]))) (by first | exact (Sl.whole (t := 34) (r := true) ((hσ' _ (by simp)).trans (by simp (disch := omega) only [upd_eq, upd_ne, del_ne])) (by simp [rowsD_len])) | exact (Sl.whole (t := 34) (r := true) (by simp (disch := omega) only [upd_eq, upd_ne, del_ne]) (by simp [rowsD_len]))) hl1 hl2 hs1 hs2) ?_; rintro r δ ⟨rfl, rfl⟩)
        | (refine dStop_newA (fun σ' hσ' => mergeS_some σ' _ (.sl K 0 ds.length none 2) (.sl (K + 1) 0 es.length none 2) ds es l hO (by first | exact (Sl.whole (t := 34) (r := true) ((hσ' _ (by simp)).trans (by simp (disch := omega) only [upd_eq, upd_ne, del_ne])) (by simp [rowsD_len])) | exact (Sl.whole (t := 34) (r := true) (by simp (disch := omega) only [upd_eq, upd_ne, del_ne]) (by simp [rowsD_len]))) (by first | exact (Sl.whole (t := 34) (r := true) ((hσ' _ (by simp)).trans (by simp (disch := omega) only [upd_eq, upd_ne, del_ne])) (by simp [rowsD_len])) | exact (Sl.whole (t := 34) (r := true) (by simp (disch := omega) only [upd_eq, upd_ne, del_ne]) (by simp [rowsD_len]))) hl1 hl2 hs1 hs2) ?_)
        | (refine aStop_of (equalEnum_c _ _ _ _ l l (by first | exact (Sl.whole (t := 34) (r := true) ((hσ' _ (by simp)).trans (by simp (disch := omega) only [upd_eq, upd_ne, del_ne])) (by simp [rowsD_len])) | exact (Sl.whole (t := 34) (r := true) (by simp (disch := omega) only [upd_eq, upd_ne, del_ne]) (by simp [rowsD_len]))) (by first | exact (Sl.whole (t := 34) (r := true) ((hσ' _ (by simp)).trans (by simp (disch := omega) only [upd_eq, upd_ne, del_ne])) (by simp [rowsD_len])) | exact (Sl.whole (t := 34) (r := true) (by simp (disch := omega) only [upd_eq, upd_ne, del_ne]) (by simp [rowsD_len]))) hl4 hl4) ?_; rintro r δ ⟨rfl, rfl⟩)
        | (refine dStop_roA (fun σ' hσ' => equalEnum_c σ' _ _ _ l l (by first | exact (Sl.whole (t := 34) (r := true) ((hσ' _ (by simp)).trans (by simp (disch := omega) only [upd_eq, upd_ne, del_ne])) (by simp [rowsD_len])) | exact (Sl.whole (t := 34) (r := true) (by simp (disch := omega) only [upd_eq, upd_ne, del_ne]) (by simp [rowsD_len]))) (by first | exact (Sl.whole (t := 34) (r := true) ((hσ' _ (by simp)).trans (by simp (disch := omega) only [upd_eq, upd_ne, del_ne])) (by simp [rowsD_len])) | exact (Sl.whole (t := 34) (r := true) (by simp (disch := omega) only [upd_eq, upd_ne, del_ne]) (by simp [rowsD_len]))) hl4 hl4) ?_)
      (repeat (simp (disch := omega) [elems, rowsD_len, rowsD_take, hap, hz1, hz2, hz3, hz4]))
      first | (refine dEnd_ro ?_ (hKK _ _ _ ?_); (focus (simp; done)); clear htab tab hKK KK; simp only [thenA, blockA, reduceIte]) | (refine dEnd_of ?_ (hKK _ _ _ ?_); (focus (simp only [List.reverse_cons, List.reverse_nil, List.nil_append, List.cons_append, memA, mem1, and_true, true_and]; (repeat' apply And.intro); (all_goals (first | trivial | (refine .inr ⟨?_, ?_⟩ <;> (simp; done)) | (refine .inr ⟨?_, ?_⟩ <;> (simp <;> omega)) | (refine .inl ?_; rw [htab]; kernel_rfl))); done)); clear htab tab hKK KK; simp only [thenA, blockA, reduceIte]) | (refine hKK _ _ _ ?_; clear hKK KK; simp only [thenA, blockA, reduceIte]) | skip
      repeat' (first
        | refine AWP.seq ?_
        | refine AWP.block ?_
        | (refine AWP.skip ?_; simp only [thenA, blockA, reduceIte])
        | (refine AWP.exit ?_; simp only [thenA, blockA, eq_self, reduceIte, Nat.reduceEqDiff, Nat.succ_ne_zero])
        | (refine AWP.ret ?_; simp only [thenA, blockA, reduceIte])
        | (refine AWP.region (by rfl) (fun KK hKK => ?_); (repeat (simp (disch := omega) [elems, rowsD_len, rowsD_take, hap, hz1, hz2, hz3, hz4])); first | (refine hKK _ _ _ ?_; clear hKK KK; simp only [thenA, blockA, reduceIte]) | skip)
        | (refine AWP.draw' mixd (by rfl) (by kernel_rfl) (fun KK tab hKK htab => ?_); (repeat (simp (disch := omega) [elems, rowsD_len, rowsD_take, hap, hz1, hz2, hz3, hz4])); first | (refine dEnd_ro ?_ (hKK _ _ _ ?_); (focus (simp; done)); clear htab tab hKK KK; simp only [thenA, blockA, reduceIte]) | (refine dEnd_of ?_ (hKK _ _ _ ?_); (focus (simp only [List.reverse_cons, List.reverse_nil, List.nil_append, List.cons_append, memA, mem1, and_true, true_and]; (repeat' apply And.intro); (all_goals (first | trivial | (refine .inr ⟨?_, ?_⟩ <;> (simp; done)) | (refine .inr ⟨?_, ?_⟩ <;> (simp <;> omega)) | (refine .inl ?_; rw [htab]; kernel_rfl))); done)); clear htab tab hKK KK; simp only [thenA, blockA, reduceIte]) | skip)
        | (refine AWP.if_t ?_ ?_; focus (simp (disch := omega) [elems, rowsD_len, rowsD_take, hap, hz1, hz2, hz3, hz4]; done))
        | (refine AWP.if_f ?_ ?_; focus (simp (disch := omega) [elems, rowsD_len, rowsD_take, hap, hz1, hz2, hz3, hz4]; done)))
    have hRl : (ds ++ es).length = ds.length + es.length := by simp
    have hla2 : l.length ≤ 12 := hll
    refine AWP.loop (fun n τ σ' M => ∃ k : Nat, k ≤ ds.length + es.length ∧ n = ds.length + es.length - k ∧ τ = [(5, .ptr (K + 2 + 1 + 1 + 2) 0 0), (9, .ptr (K + 2 + 1 + 1 + 2 + 1 + 2 + 1 + 2 + 2) 0 0), (10, .v (.bool true)), (11, .sl (K + 2 + 1 + 1 + 2 + 1 + 2 + 1 + 2 + 2 + 1 + 12) 0 (ds.length + es.length) none 2), (12, .v (.int .i64 k))] ∧
      σ' (K + 2 + 1 + 1 + 2) = some ⟨25, 1, [[.sl (K + 2 + 1 + 1) 0 l.length (some l.length) 2]], true⟩ ∧ σ' (K + 2 + 1 + 1) = some (blkD l) ∧ σ' (K + 2 + 1 + 1 + 2 + 1 + 2 + 1 + 2 + 2) = some ⟨25, 1, [[.sl (K + 2 + 1 + 1 + 2 + 1 + 2 + 1 + 2) 0 l2.length (some l2.length) 2]], true⟩ ∧ σ' (K + 2 + 1 + 1 + 2 + 1 + 2 + 1 + 2) = some (blkD l2) ∧ σ' (K + 2 + 1 + 1 + 2 + 1 + 2 + 1 + 2 + 2 + 1 + 12) = some (blkD (ds ++ es)) ∧ K + 2 + 1 + 1 + 2 + 1 + 2 + 1 + 2 + 2 + 1 + 12 < M)
      ⟨_, _, _, _, ⟨0, by omega, rfl, rfl, by simp (disch := omega) only [upd_eq, upd_ne, del_ne], by simp (disch := omega) only [upd_eq, upd_ne, del_ne], by simp (disch := omega) only [upd_eq, upd_ne, del_ne], by simp (disch := omega) only [upd_eq, upd_ne, del_ne], by simp (disch := omega) only [upd_eq, upd_ne, del_ne], by omega⟩, Weak.tau (by simp [LQ])⟩ ?_
    rintro n τ σ1 M ⟨k, hk, rfl, rfl, k1, k2, k3, k4, k5, hM⟩
    by_cases hlt : k < ds.length + es.length
    · have hlt2 : k < (ds ++ es).length := by omega
      have hlti : (k : Int) < ds.length + es.length := by omega
      have hrow : (rowsD (ds ++ es))[k]? = some [.v (.string (ds ++ es)[k].1), .v (.int .i64 (ds ++ es)[k].2)] := by
        rw [List.getElem?_eq_getElem (by rw [rowsD_len]; exact hlt2)]
        simp only [rowsD, List.getElem_map, rowD]
      have hv := hval _ (List.getElem_mem hlt2)
      generalize hle : (ds ++ es)[k] = ek at *
      obtain ⟨t, v⟩ := ek
      simp only at hrow hv
      repeat' (first
        | refine AWP.seq ?_
        | refine AWP.block ?_
        | (refine AWP.skip ?_; simp only [thenA, blockA, reduceIte])
        | (refine AWP.exit ?_; simp only [thenA, blockA, eq_self, reduceIte, Nat.reduceEqDiff, Nat.succ_ne_zero])
        | (refine AWP.ret ?_; simp only [thenA, blockA, reduceIte])
        | (refine AWP.region (by rfl) (fun KK hKK => ?_); (repeat (simp (disch := omega) [hlt, hlti, k1, k5, hrow])); first | (refine hKK _ _ _ ?_; clear hKK KK; simp only [thenA, blockA, reduceIte]) | skip)
        | (refine AWP.draw' mixd (by rfl) (by kernel_rfl) (fun KK tab hKK htab => ?_); (repeat (simp (disch := omega) [hlt, hlti, k1, k5, hrow])); first | (refine dEnd_ro ?_ (hKK _ _ _ ?_); (focus (simp; done)); clear htab tab hKK KK; simp only [thenA, blockA, reduceIte]) | (refine dEnd_of ?_ (hKK _ _ _ ?_); (focus (simp only [List.reverse_cons, List.reverse_nil, List.nil_append, List.cons_append, memA, mem1, and_true, true_and]; (repeat' apply And.intro); (all_goals (first | trivial | (refine .inr ⟨?_, ?_⟩ <;> (simp; done)) | (refine .inr ⟨?_, ?_⟩ <;> (simp <;> omega)) | (refine .inl ?_; rw [htab]; kernel_rfl))); done)); clear htab tab hKK KK; simp only [thenA, blockA, reduceIte]) | skip)
        | (refine AWP.if_t ?_ ?_; focus (simp (disch := omega) [hlt, hlti, k1, k5, hrow]; done))
        | (refine AWP.if_f ?_ ?_; focus (simp (disch := omega) [hlt, hlti, k1, k5, hrow]; done)))
      refine dStop_roA (fun σ' hσ' => ValueOf_c σ' _ _ l t (Sl.whole (t := 34) (r := true) ((hσ' _ (by simp)).trans (by simp (disch := omega) only [k2])) (by simp [rowsD_len])) hl9 hs3) ?_
      (repeat (simp (disch := omega) [hv, hlt, hlti, k1, k5, hrow]))
      first | (refine dEnd_ro ?_ (hKK _ _ _ ?_); (focus (simp; done)); clear htab tab hKK KK; simp only [thenA, blockA, reduceIte]) | (refine dEnd_of ?_ (hKK _ _ _ ?_); (focus (simp only [List.reverse_cons, List.reverse_nil, List.nil_append, List.cons_append, memA, mem1, and_true, true_and]; (repeat' apply And.intro); (all_goals (first | trivial | (refine .inr ⟨?_, ?_⟩ <;> (simp; done)) | (refine .inr ⟨?_, ?_⟩ <;> (simp <;> omega)) | (refine .inl ?_; rw [htab]; kernel_rfl))); done)); clear htab tab hKK KK; simp only [thenA, blockA, reduceIte]) | skip
      repeat' (first
        | refine AWP.seq ?_
        | refine AWP.block ?_
        | (refine AWP.skip ?_; simp only [thenA, blockA, reduceIte])
        | (refine AWP.exit ?_; simp only [thenA, blockA, eq_self, reduceIte, Nat.reduceEqDiff, Nat.succ_ne_zero])
        | (refine AWP.ret ?_; simp only [thenA, blockA, reduceIte])
        | (refine AWP.region (by rfl) (fun KK hKK => ?_); (repeat (simp (disch := omega) [hv, hlt, hlti, k1, k5, hrow])); first | (refine hKK _ _ _ ?_; clear hKK KK; simp only [thenA, blockA, reduceIte]) | skip)
        | (refine AWP.draw' mixd (by rfl) (by kernel_rfl) (fun KK tab hKK htab => ?_); (repeat (simp (disch := omega) [hv, hlt, hlti, k1, k5, hrow])); first | (refine dEnd_ro ?_ (hKK _ _ _ ?_); (focus (simp; done)); clear htab tab hKK KK; simp only [thenA, blockA, reduceIte]) | (refine dEnd_of ?_ (hKK _ _ _ ?_); (focus (simp only [List.reverse_cons, List.reverse_nil, List.nil_append, List.cons_append, memA, mem1, and_true, true_and]; (repeat' apply And.intro); (all_goals (first | trivial | (refine .inr ⟨?_, ?_⟩ <;> (simp; done)) | (refine .inr ⟨?_, ?_⟩ <;> (simp <;> omega)) | (refine .inl ?_; rw [htab]; kernel_rfl))); done)); clear htab tab hKK KK; simp only [thenA, blockA, reduceIte]) | skip)
        | (refine AWP.if_t ?_ ?_; focus (simp (disch := omega) [hv, hlt, hlti, k1, k5, hrow]; done))
        | (refine AWP.if_f ?_ ?_; focus (simp (disch := omega) [hv, hlt, hlti, k1, k5, hrow]; done)))
      refine ⟨_, _, _, _, ?_, ⟨k + 1, by omega, rfl, rfl, by simp (disch := omega) only [upd_eq, upd_ne, k1], by simp (disch := omega) only [upd_eq, upd_ne, k2], by simp (disch := omega) only [upd_eq, upd_ne, k3], by simp (disch := omega) only [upd_eq, upd_ne, k4], by simp (disch := omega) only [upd_eq, upd_ne, k5], by omega⟩, Weak.tau (by simp [LQ])⟩
      omega
    · have hlti : ¬ (k : Int) < ds.length + es.length := by omega
      repeat' (first
        | refine AWP.seq ?_
        | refine AWP.block ?_
        | (refine AWP.skip ?_; simp only [thenA, blockA, reduceIte])
        | (refine AWP.exit ?_; simp only [thenA, blockA, eq_self, reduceIte, Nat.reduceEqDiff, Nat.succ_ne_zero])
        | (refine AWP.ret ?_; simp only [thenA, blockA, reduceIte])
        | (refine AWP.region (by rfl) (fun KK hKK => ?_); (repeat (simp (disch := omega) [hlt, hlti, k1, k3])); first | (refine hKK _ _ _ ?_; clear hKK KK; simp only [thenA, blockA, reduceIte]) | skip)
        | (refine AWP.draw' mixd (by rfl) (by kernel_rfl) (fun KK tab hKK htab => ?_); (repeat (simp (disch := omega) [hlt, hlti, k1, k3])); first | (refine dEnd_ro ?_ (hKK _ _ _ ?_); (focus (simp; done)); clear htab tab hKK KK; simp only [thenA, blockA, reduceIte]) | (refine dEnd_of ?_ (hKK _ _ _ ?_); (focus (simp only [List.reverse_cons, List.reverse_nil, List.nil_append, List.cons_append, memA, mem1, and_true, true_and]; (repeat' apply And.intro); (all_goals (first | trivial | (refine .inr ⟨?_, ?_⟩ <;> (simp; done)) | (refine .inr ⟨?_, ?_⟩ <;> (simp <;> omega)) | (refine .inl ?_; rw [htab]; kernel_rfl))); done)); clear htab tab hKK KK; simp only [thenA, blockA, reduceIte]) | skip)
        | (refine AWP.if_t ?_ ?_; focus (simp (disch := omega) [hlt, hlti, k1, k3]; done))
        | (refine AWP.if_f ?_ ?_; focus (simp (disch := omega) [hlt, hlti, k1, k3]; done)))
      refine aStop_of (sameMeaning_c _ _ (.sl (K + 2 + 1 + 1 + 2 + 1 + 2 + 1 + 2) 0 l2.length (some l2.length) 2) (.sl (K + 2 + 1 + 1) 0 l.length (some l.length) 2) l2 l (Sl.whole (t := 34) (r := true) k4 (by simp [rowsD_len])) (Sl.whole (t := 34) (r := true) k2 (by simp [rowsD_len])) hl32 hl30 hs4 hs3) ?_
      rintro r δ ⟨rfl, rfl⟩
      (repeat (simp (disch := omega) [hsm]))
      first | (refine hKK _ _ _ ?_; clear hKK KK; simp only [thenA, blockA, reduceIte]) | skip
      repeat' (first
        | refine AWP.seq ?_
        | refine AWP.block ?_
        | (refine AWP.skip ?_; simp only [thenA, blockA, reduceIte])
        | (refine AWP.exit ?_; simp only [thenA, blockA, eq_self, reduceIte, Nat.reduceEqDiff, Nat.succ_ne_zero])
        | (refine AWP.ret ?_; simp only [thenA, blockA, reduceIte])
        | (refine AWP.region (by rfl) (fun KK hKK => ?_); (repeat (simp (disch := omega) [hsm])); first | (refine hKK _ _ _ ?_; clear hKK KK; simp only [thenA, blockA, reduceIte]) | skip)
        | (refine AWP.draw' mixd (by rfl) (by kernel_rfl) (fun KK tab hKK htab => ?_); (repeat (simp (disch := omega) [hsm])); first | (refine dEnd_ro ?_ (hKK _ _ _ ?_); (focus (simp; done)); clear htab tab hKK KK; simp only [thenA, blockA, reduceIte]) | (refine dEnd_of ?_ (hKK _ _ _ ?_); (focus (simp only [List.reverse_cons, List.reverse_nil, List.nil_append, List.cons_append, memA, mem1, and_true, true_and]; (repeat' apply And.intro); (all_goals (first | trivial | (refine .inr ⟨?_, ?_⟩ <;> (simp; done)) | (refine .inr ⟨?_, ?_⟩ <;> (simp <;> omega)) | (refine .inl ?_; rw [htab]; kernel_rfl))); done)); clear htab tab hKK KK; simp only [thenA, blockA, reduceIte]) | skip)
        | (refine AWP.if_t ?_ ?_; focus (simp (disch := omega) [hsm]; done))
        | (refine AWP.if_f ?_ ?_; focus (simp (disch := omega) [hsm]; done)))
      refine ⟨by simp, _, rfl, fin0 ⟨?_, rfl⟩ (by simp [resO, get, nms, nmss]; try (simp [nms, nmss] at hn; simp_all))⟩
      simp [resO, get, ren, rens]
end Go.Proofs.Ytgaiemhbllbaiaa
