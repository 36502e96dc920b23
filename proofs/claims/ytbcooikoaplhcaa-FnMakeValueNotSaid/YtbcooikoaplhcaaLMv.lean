/- The laws of MakeValue, walked: they answer true for every code. No condition but sizes that every input has. -/
import Derived.Test.YtbcooikoaplhcaaF6
import Derived.Test.YtbcooikoaplhcaaF9
set_option linter.unusedSimpArgs false
set_option linter.unusedVariables false
namespace Go.Proofs.Ytbcooikoaplhcaa
open Go Go.RowKit

set_option maxRecDepth 10000 in
set_option maxHeartbeats 8000000 in
theorem make_law_c (σ : Sto) (ν : Nat) (x : AV) (cs : List Int) (hx : Sl σ x 1 (rowsB cs)) (hlen : cs.length ≤ 9223372036854775807) (h8 : ∀ y ∈ cs, 0 ≤ y ∧ y ≤ 255) :
    AC Try.prog 7 [x] σ ν fun r δ => r = .v (.bool true) ∧ δ = noS := by
  obtain ⟨b, o, cap, z, rfl⟩ := hx.out
  simp only [rowsB_len] at hx ⊢
  refine AC.intro [] ent_7 Try.func7 rfl (by simp [Try.f7]) (by simp) ?_
  intro K s hs hB hn hν hA hFr
  simp only [argT, Nat.zero_add, Nat.reduceAdd]
  have hx' := hx.vw hs.vw
  by_cases h1 : (1048576 : Int) < cs.length
  · repeat' (first
      | refine AWP.seq ?_
      | refine AWP.block ?_
      | (refine AWP.skip ?_; simp only [thenA, blockA, reduceIte])
      | (refine AWP.exit ?_; simp only [thenA, blockA, eq_self, reduceIte, Nat.reduceEqDiff, Nat.succ_ne_zero])
      | (refine AWP.ret ?_; simp only [thenA, blockA, reduceIte])
      | (refine AWP.region (by rfl) (fun KK hKK => ?_); (repeat (simp (disch := omega) [h1])); first | (refine hKK _ _ _ ?_; clear hKK KK; simp only [thenA, blockA, reduceIte]) | skip)
      | (refine AWP.if_t ?_ ?_; focus (simp (disch := omega) [h1]; done))
      | (refine AWP.if_f ?_ ?_; focus (simp (disch := omega) [h1]; done)))
    refine ⟨by simp, _, rfl, fin0 ⟨?_, rfl⟩ (by simp [resO, get, nms, nmss]; try (simp [nms, nmss] at hn; simp_all))⟩
    simp [resO, get, ren, rens]
  repeat' (first
    | refine AWP.seq ?_
    | refine AWP.block ?_
    | (refine AWP.skip ?_; simp only [thenA, blockA, reduceIte])
    | (refine AWP.exit ?_; simp only [thenA, blockA, eq_self, reduceIte, Nat.reduceEqDiff, Nat.succ_ne_zero])
    | (refine AWP.ret ?_; simp only [thenA, blockA, reduceIte])
    | (refine AWP.region (by rfl) (fun KK hKK => ?_); (repeat (simp (disch := omega) [h1])); first | (refine hKK _ _ _ ?_; clear hKK KK; simp only [thenA, blockA, reduceIte]) | skip)
    | (refine AWP.if_t ?_ ?_; focus (simp (disch := omega) [h1]; done))
    | (refine AWP.if_f ?_ ?_; focus (simp (disch := omega) [h1]; done)))
  refine aStop_of (DrawMakeValue_c _ _ _ cs (hx'.vw ((Vw.refl _).over (by repeat (first | exact Over.refl _ | exact hov | refine Over.upd ?_ hB (by omega) | refine Over.del ?_ hB (by omega))))) h8 hlen) ?_
  rintro r δ ⟨ds, bd, n, hgd, hb0, hb4, hn0, hn1, rfl, rfl⟩
  (repeat (simp (disch := omega) []))
  first | (refine hKK _ _ _ ?_; clear hKK KK; simp only [thenA, blockA, reduceIte]) | skip
  have hl := hgd.len
  have hl9 : ds.length ≤ 9223372036854775807 := by omega
  have hsz : ∀ d ∈ ds, d.1.size ≤ 9223372036854775807 := fun d hd => by have := hgd.sz d hd; omega
  repeat' (first
    | refine AWP.seq ?_
    | refine AWP.block ?_
    | (refine AWP.skip ?_; simp only [thenA, blockA, reduceIte])
    | (refine AWP.exit ?_; simp only [thenA, blockA, eq_self, reduceIte, Nat.reduceEqDiff, Nat.succ_ne_zero])
    | (refine AWP.ret ?_; simp only [thenA, blockA, reduceIte])
    | (refine AWP.region (by rfl) (fun KK hKK => ?_); (repeat (simp (disch := omega) [])); first | (refine hKK _ _ _ ?_; clear hKK KK; simp only [thenA, blockA, reduceIte]) | skip)
    | (refine AWP.if_t ?_ ?_; focus (simp (disch := omega) []; done))
    | (refine AWP.if_f ?_ ?_; focus (simp (disch := omega) []; done)))
  by_cases hw : (mvV ds bd n).2 = 0
  · obtain ⟨m, hm, hv, hi⟩ := mvV_ok hw
    have hmv := mvV_isv hm hi
    repeat' (first
      | refine AWP.seq ?_
      | refine AWP.block ?_
      | (refine AWP.skip ?_; simp only [thenA, blockA, reduceIte])
      | (refine AWP.exit ?_; simp only [thenA, blockA, eq_self, reduceIte, Nat.reduceEqDiff, Nat.succ_ne_zero])
      | (refine AWP.ret ?_; simp only [thenA, blockA, reduceIte])
      | (refine AWP.region (by rfl) (fun KK hKK => ?_); (repeat (simp (disch := omega) [hw, hv, hmv, hi])); first | (refine hKK _ _ _ ?_; clear hKK KK; simp only [thenA, blockA, reduceIte]) | skip)
      | (refine AWP.if_t ?_ ?_; focus (simp (disch := omega) [hw, hv, hmv, hi]; done))
      | (refine AWP.if_f ?_ ?_; focus (simp (disch := omega) [hw, hv, hmv, hi]; done)))
    repeat
      first
        | (refine aStop_of (makeValue_c _ _ _ ds bd _ (by first | exact (Sl.whole (t := 77) (r := true) ((hσ' _ (by simp)).trans (by simp (disch := omega) only [upd_eq, upd_ne, del_ne])) (by simp [rowsD_len])) | exact (Sl.whole (t := 77) (r := true) (by simp (disch := omega) only [upd_eq, upd_ne, del_ne]) (by simp [rowsD_len]))) hl9 hsz) ?_; rintro r δ ⟨rfl, rfl⟩)
        | (refine aStop_of (makeValueS_c _ _ _ ds bd _ (by first | exact (Sl.whole (t := 77) (r := true) ((hσ' _ (by simp)).trans (by simp (disch := omega) only [upd_eq, upd_ne, del_ne])) (by simp [rowsD_len])) | exact (Sl.whole (t := 77) (r := true) (by simp (disch := omega) only [upd_eq, upd_ne, del_ne]) (by simp [rowsD_len]))) hl9 hsz) ?_; rintro r δ ⟨rfl, rfl⟩)
        | (refine aStop_of (isValueI_c _ _ _ ds bd _ (by first | exact (Sl.whole (t := 77) (r := true) ((hσ' _ (by simp)).trans (by simp (disch := omega) only [upd_eq, upd_ne, del_ne])) (by simp [rowsD_len])) | exact (Sl.whole (t := 77) (r := true) (by simp (disch := omega) only [upd_eq, upd_ne, del_ne]) (by simp [rowsD_len]))) hl9 hsz) ?_; rintro r δ ⟨rfl, rfl⟩)
      (repeat (simp (disch := omega) [hw, hv, hmv, hi]))
      first | (refine dEnd_ro ?_ (hKK _ _ _ ?_); (focus (simp; done)); clear htab tab hKK KK; simp only [thenA, blockA, reduceIte]) | (refine dEnd_of ?_ (hKK _ _ _ ?_); (focus (simp only [List.reverse_cons, List.reverse_nil, List.nil_append, List.cons_append, memA, mem1, and_true, true_and]; (repeat' apply And.intro); (all_goals (first | trivial | (refine .inr ⟨?_, ?_⟩ <;> (simp; done)) | (refine .inr ⟨?_, ?_⟩ <;> (simp <;> omega)) | (refine .inl ?_; rw [htab]; kernel_rfl))); done)); clear htab tab hKK KK; simp only [thenA, blockA, reduceIte]) | (refine hKK _ _ _ ?_; clear hKK KK; simp only [thenA, blockA, reduceIte]) | skip
      repeat' (first
        | refine AWP.seq ?_
        | refine AWP.block ?_
        | (refine AWP.skip ?_; simp only [thenA, blockA, reduceIte])
        | (refine AWP.exit ?_; simp only [thenA, blockA, eq_self, reduceIte, Nat.reduceEqDiff, Nat.succ_ne_zero])
        | (refine AWP.ret ?_; simp only [thenA, blockA, reduceIte])
        | (refine AWP.region (by rfl) (fun KK hKK => ?_); (repeat (simp (disch := omega) [hw, hv, hmv, hi])); first | (refine hKK _ _ _ ?_; clear hKK KK; simp only [thenA, blockA, reduceIte]) | skip)
        | (refine AWP.if_t ?_ ?_; focus (simp (disch := omega) [hw, hv, hmv, hi]; done))
        | (refine AWP.if_f ?_ ?_; focus (simp (disch := omega) [hw, hv, hmv, hi]; done)))
    refine ⟨by simp, _, rfl, fin0 ⟨?_, rfl⟩ (by simp [resO, get, nms, nmss]; try (simp [nms, nmss] at hn; simp_all))⟩
    simp [resO, get, ren, rens]
  · repeat' (first
      | refine AWP.seq ?_
      | refine AWP.block ?_
      | (refine AWP.skip ?_; simp only [thenA, blockA, reduceIte])
      | (refine AWP.exit ?_; simp only [thenA, blockA, eq_self, reduceIte, Nat.reduceEqDiff, Nat.succ_ne_zero])
      | (refine AWP.ret ?_; simp only [thenA, blockA, reduceIte])
      | (refine AWP.region (by rfl) (fun KK hKK => ?_); (repeat (simp (disch := omega) [hw])); first | (refine hKK _ _ _ ?_; clear hKK KK; simp only [thenA, blockA, reduceIte]) | skip)
      | (refine AWP.if_t ?_ ?_; focus (simp (disch := omega) [hw]; done))
      | (refine AWP.if_f ?_ ?_; focus (simp (disch := omega) [hw]; done)))
    repeat
      first
        | (refine aStop_of (makeValue_c _ _ _ ds bd n (by first | exact (Sl.whole (t := 77) (r := true) ((hσ' _ (by simp)).trans (by simp (disch := omega) only [upd_eq, upd_ne, del_ne])) (by simp [rowsD_len])) | exact (Sl.whole (t := 77) (r := true) (by simp (disch := omega) only [upd_eq, upd_ne, del_ne]) (by simp [rowsD_len]))) hl9 hsz) ?_; rintro r δ ⟨rfl, rfl⟩)
        | (refine aStop_of (makeValueS_c _ _ _ ds bd n (by first | exact (Sl.whole (t := 77) (r := true) ((hσ' _ (by simp)).trans (by simp (disch := omega) only [upd_eq, upd_ne, del_ne])) (by simp [rowsD_len])) | exact (Sl.whole (t := 77) (r := true) (by simp (disch := omega) only [upd_eq, upd_ne, del_ne]) (by simp [rowsD_len]))) hl9 hsz) ?_; rintro r δ ⟨rfl, rfl⟩)
      (repeat (simp (disch := omega) [hw]))
      first | (refine dEnd_ro ?_ (hKK _ _ _ ?_); (focus (simp; done)); clear htab tab hKK KK; simp only [thenA, blockA, reduceIte]) | (refine dEnd_of ?_ (hKK _ _ _ ?_); (focus (simp only [List.reverse_cons, List.reverse_nil, List.nil_append, List.cons_append, memA, mem1, and_true, true_and]; (repeat' apply And.intro); (all_goals (first | trivial | (refine .inr ⟨?_, ?_⟩ <;> (simp; done)) | (refine .inr ⟨?_, ?_⟩ <;> (simp <;> omega)) | (refine .inl ?_; rw [htab]; kernel_rfl))); done)); clear htab tab hKK KK; simp only [thenA, blockA, reduceIte]) | (refine hKK _ _ _ ?_; clear hKK KK; simp only [thenA, blockA, reduceIte]) | skip
      repeat' (first
        | refine AWP.seq ?_
        | refine AWP.block ?_
        | (refine AWP.skip ?_; simp only [thenA, blockA, reduceIte])
        | (refine AWP.exit ?_; simp only [thenA, blockA, eq_self, reduceIte, Nat.reduceEqDiff, Nat.succ_ne_zero])
        | (refine AWP.ret ?_; simp only [thenA, blockA, reduceIte])
        | (refine AWP.region (by rfl) (fun KK hKK => ?_); (repeat (simp (disch := omega) [hw])); first | (refine hKK _ _ _ ?_; clear hKK KK; simp only [thenA, blockA, reduceIte]) | skip)
        | (refine AWP.if_t ?_ ?_; focus (simp (disch := omega) [hw]; done))
        | (refine AWP.if_f ?_ ?_; focus (simp (disch := omega) [hw]; done)))
    refine ⟨by simp, _, rfl, fin0 ⟨?_, rfl⟩ (by simp [resO, get, nms, nmss]; try (simp [nms, nmss] at hn; simp_all))⟩
    simp [resO, get, ren, rens]
set_option maxRecDepth 10000 in
set_option maxHeartbeats 8000000 in
theorem makeNot_law_c (σ : Sto) (ν : Nat) (x : AV) (cs : List Int) (hx : Sl σ x 1 (rowsB cs)) (hlen : cs.length ≤ 9223372036854775807) (h8 : ∀ y ∈ cs, 0 ≤ y ∧ y ≤ 255) :
    AC Try.prog 8 [x] σ ν fun r δ => r = .v (.bool true) ∧ δ = noS := by
  obtain ⟨b, o, cap, z, rfl⟩ := hx.out
  simp only [rowsB_len] at hx ⊢
  refine AC.intro [] ent_8 Try.func8 rfl (by simp [Try.f8]) (by simp) ?_
  intro K s hs hB hn hν hA hFr
  simp only [argT, Nat.zero_add, Nat.reduceAdd]
  have hx' := hx.vw hs.vw
  by_cases h1 : (1048576 : Int) < cs.length
  · repeat' (first
      | refine AWP.seq ?_
      | refine AWP.block ?_
      | (refine AWP.skip ?_; simp only [thenA, blockA, reduceIte])
      | (refine AWP.exit ?_; simp only [thenA, blockA, eq_self, reduceIte, Nat.reduceEqDiff, Nat.succ_ne_zero])
      | (refine AWP.ret ?_; simp only [thenA, blockA, reduceIte])
      | (refine AWP.region (by rfl) (fun KK hKK => ?_); (repeat (simp (disch := omega) [h1])); first | (refine hKK _ _ _ ?_; clear hKK KK; simp only [thenA, blockA, reduceIte]) | skip)
      | (refine AWP.if_t ?_ ?_; focus (simp (disch := omega) [h1]; done))
      | (refine AWP.if_f ?_ ?_; focus (simp (disch := omega) [h1]; done)))
    refine ⟨by simp, _, rfl, fin0 ⟨?_, rfl⟩ (by simp [resO, get, nms, nmss]; try (simp [nms, nmss] at hn; simp_all))⟩
    simp [resO, get, ren, rens]
  repeat' (first
    | refine AWP.seq ?_
    | refine AWP.block ?_
    | (refine AWP.skip ?_; simp only [thenA, blockA, reduceIte])
    | (refine AWP.exit ?_; simp only [thenA, blockA, eq_self, reduceIte, Nat.reduceEqDiff, Nat.succ_ne_zero])
    | (refine AWP.ret ?_; simp only [thenA, blockA, reduceIte])
    | (refine AWP.region (by rfl) (fun KK hKK => ?_); (repeat (simp (disch := omega) [h1])); first | (refine hKK _ _ _ ?_; clear hKK KK; simp only [thenA, blockA, reduceIte]) | skip)
    | (refine AWP.if_t ?_ ?_; focus (simp (disch := omega) [h1]; done))
    | (refine AWP.if_f ?_ ?_; focus (simp (disch := omega) [h1]; done)))
  refine aStop_of (DrawMakeValue_c _ _ _ cs (hx'.vw ((Vw.refl _).over (by repeat (first | exact Over.refl _ | exact hov | refine Over.upd ?_ hB (by omega) | refine Over.del ?_ hB (by omega))))) h8 hlen) ?_
  rintro r δ ⟨ds, bd, n, hgd, hb0, hb4, hn0, hn1, rfl, rfl⟩
  (repeat (simp (disch := omega) []))
  first | (refine hKK _ _ _ ?_; clear hKK KK; simp only [thenA, blockA, reduceIte]) | skip
  have hl := hgd.len
  have hl9 : ds.length ≤ 9223372036854775807 := by omega
  have hsz : ∀ d ∈ ds, d.1.size ≤ 9223372036854775807 := fun d hd => by have := hgd.sz d hd; omega
  repeat' (first
    | refine AWP.seq ?_
    | refine AWP.block ?_
    | (refine AWP.skip ?_; simp only [thenA, blockA, reduceIte])
    | (refine AWP.exit ?_; simp only [thenA, blockA, eq_self, reduceIte, Nat.reduceEqDiff, Nat.succ_ne_zero])
    | (refine AWP.ret ?_; simp only [thenA, blockA, reduceIte])
    | (refine AWP.region (by rfl) (fun KK hKK => ?_); (repeat (simp (disch := omega) [])); first | (refine hKK _ _ _ ?_; clear hKK KK; simp only [thenA, blockA, reduceIte]) | skip)
    | (refine AWP.if_t ?_ ?_; focus (simp (disch := omega) []; done))
    | (refine AWP.if_f ?_ ?_; focus (simp (disch := omega) []; done)))
  cases hi : isv ds bd n with
  | true =>
    obtain ⟨m, rfl, hm⟩ := isv_nat hi
    have hmv := mvV_isv hm hi
    have hmn := mvV_not hm hi
    have hwr : IntKind.wrap .i64 (-1 - (m : Int)) = -1 - (m : Int) := wrap_sm _ (by omega) (by omega)
    repeat' (first
      | refine AWP.seq ?_
      | refine AWP.block ?_
      | (refine AWP.skip ?_; simp only [thenA, blockA, reduceIte])
      | (refine AWP.exit ?_; simp only [thenA, blockA, eq_self, reduceIte, Nat.reduceEqDiff, Nat.succ_ne_zero])
      | (refine AWP.ret ?_; simp only [thenA, blockA, reduceIte])
      | (refine AWP.region (by rfl) (fun KK hKK => ?_); (repeat (simp (disch := omega) [hi, hwr, hmn])); first | (refine hKK _ _ _ ?_; clear hKK KK; simp only [thenA, blockA, reduceIte]) | skip)
      | (refine AWP.if_t ?_ ?_; focus (simp (disch := omega) [hi, hwr, hmn]; done))
      | (refine AWP.if_f ?_ ?_; focus (simp (disch := omega) [hi, hwr, hmn]; done)))
    repeat
      first
        | (refine aStop_of (makeValue_c _ _ _ ds bd _ (by first | exact (Sl.whole (t := 77) (r := true) ((hσ' _ (by simp)).trans (by simp (disch := omega) only [upd_eq, upd_ne, del_ne])) (by simp [rowsD_len])) | exact (Sl.whole (t := 77) (r := true) (by simp (disch := omega) only [upd_eq, upd_ne, del_ne]) (by simp [rowsD_len]))) hl9 hsz) ?_; rintro r δ ⟨rfl, rfl⟩)
        | (refine aStop_of (makeValueS_c _ _ _ ds bd _ (by first | exact (Sl.whole (t := 77) (r := true) ((hσ' _ (by simp)).trans (by simp (disch := omega) only [upd_eq, upd_ne, del_ne])) (by simp [rowsD_len])) | exact (Sl.whole (t := 77) (r := true) (by simp (disch := omega) only [upd_eq, upd_ne, del_ne]) (by simp [rowsD_len]))) hl9 hsz) ?_; rintro r δ ⟨rfl, rfl⟩)
        | (refine aStop_of (isValueI_c _ _ _ ds bd _ (by first | exact (Sl.whole (t := 77) (r := true) ((hσ' _ (by simp)).trans (by simp (disch := omega) only [upd_eq, upd_ne, del_ne])) (by simp [rowsD_len])) | exact (Sl.whole (t := 77) (r := true) (by simp (disch := omega) only [upd_eq, upd_ne, del_ne]) (by simp [rowsD_len]))) hl9 hsz) ?_; rintro r δ ⟨rfl, rfl⟩)
        | (refine aStop_of (invert_c _ _ _ ds bd _ (by first | exact (Sl.whole (t := 77) (r := true) ((hσ' _ (by simp)).trans (by simp (disch := omega) only [upd_eq, upd_ne, del_ne])) (by simp [rowsD_len])) | exact (Sl.whole (t := 77) (r := true) (by simp (disch := omega) only [upd_eq, upd_ne, del_ne]) (by simp [rowsD_len]))) hl9 hsz) ?_; rintro r δ ⟨rfl, rfl⟩)
      (repeat (simp (disch := omega) [hi, hwr, hmn]))
      first | (refine dEnd_ro ?_ (hKK _ _ _ ?_); (focus (simp; done)); clear htab tab hKK KK; simp only [thenA, blockA, reduceIte]) | (refine dEnd_of ?_ (hKK _ _ _ ?_); (focus (simp only [List.reverse_cons, List.reverse_nil, List.nil_append, List.cons_append, memA, mem1, and_true, true_and]; (repeat' apply And.intro); (all_goals (first | trivial | (refine .inr ⟨?_, ?_⟩ <;> (simp; done)) | (refine .inr ⟨?_, ?_⟩ <;> (simp <;> omega)) | (refine .inl ?_; rw [htab]; kernel_rfl))); done)); clear htab tab hKK KK; simp only [thenA, blockA, reduceIte]) | (refine hKK _ _ _ ?_; clear hKK KK; simp only [thenA, blockA, reduceIte]) | skip
      repeat' (first
        | refine AWP.seq ?_
        | refine AWP.block ?_
        | (refine AWP.skip ?_; simp only [thenA, blockA, reduceIte])
        | (refine AWP.exit ?_; simp only [thenA, blockA, eq_self, reduceIte, Nat.reduceEqDiff, Nat.succ_ne_zero])
        | (refine AWP.ret ?_; simp only [thenA, blockA, reduceIte])
        | (refine AWP.region (by rfl) (fun KK hKK => ?_); (repeat (simp (disch := omega) [hi, hwr, hmn])); first | (refine hKK _ _ _ ?_; clear hKK KK; simp only [thenA, blockA, reduceIte]) | skip)
        | (refine AWP.if_t ?_ ?_; focus (simp (disch := omega) [hi, hwr, hmn]; done))
        | (refine AWP.if_f ?_ ?_; focus (simp (disch := omega) [hi, hwr, hmn]; done)))
    refine ⟨by simp, _, rfl, fin0 ⟨?_, rfl⟩ (by simp [resO, get, nms, nmss]; try (simp [nms, nmss] at hn; simp_all))⟩
    simp [resO, get, ren, rens]
  | false =>
    repeat' (first
      | refine AWP.seq ?_
      | refine AWP.block ?_
      | (refine AWP.skip ?_; simp only [thenA, blockA, reduceIte])
      | (refine AWP.exit ?_; simp only [thenA, blockA, eq_self, reduceIte, Nat.reduceEqDiff, Nat.succ_ne_zero])
      | (refine AWP.ret ?_; simp only [thenA, blockA, reduceIte])
      | (refine AWP.region (by rfl) (fun KK hKK => ?_); (repeat (simp (disch := omega) [hi])); first | (refine hKK _ _ _ ?_; clear hKK KK; simp only [thenA, blockA, reduceIte]) | skip)
      | (refine AWP.if_t ?_ ?_; focus (simp (disch := omega) [hi]; done))
      | (refine AWP.if_f ?_ ?_; focus (simp (disch := omega) [hi]; done)))
    repeat
      first
        | (refine aStop_of (makeValue_c _ _ _ ds bd _ (by first | exact (Sl.whole (t := 77) (r := true) ((hσ' _ (by simp)).trans (by simp (disch := omega) only [upd_eq, upd_ne, del_ne])) (by simp [rowsD_len])) | exact (Sl.whole (t := 77) (r := true) (by simp (disch := omega) only [upd_eq, upd_ne, del_ne]) (by simp [rowsD_len]))) hl9 hsz) ?_; rintro r δ ⟨rfl, rfl⟩)
        | (refine aStop_of (makeValueS_c _ _ _ ds bd _ (by first | exact (Sl.whole (t := 77) (r := true) ((hσ' _ (by simp)).trans (by simp (disch := omega) only [upd_eq, upd_ne, del_ne])) (by simp [rowsD_len])) | exact (Sl.whole (t := 77) (r := true) (by simp (disch := omega) only [upd_eq, upd_ne, del_ne]) (by simp [rowsD_len]))) hl9 hsz) ?_; rintro r δ ⟨rfl, rfl⟩)
        | (refine aStop_of (isValueI_c _ _ _ ds bd _ (by first | exact (Sl.whole (t := 77) (r := true) ((hσ' _ (by simp)).trans (by simp (disch := omega) only [upd_eq, upd_ne, del_ne])) (by simp [rowsD_len])) | exact (Sl.whole (t := 77) (r := true) (by simp (disch := omega) only [upd_eq, upd_ne, del_ne]) (by simp [rowsD_len]))) hl9 hsz) ?_; rintro r δ ⟨rfl, rfl⟩)
      (repeat (simp (disch := omega) [hi]))
      first | (refine dEnd_ro ?_ (hKK _ _ _ ?_); (focus (simp; done)); clear htab tab hKK KK; simp only [thenA, blockA, reduceIte]) | (refine dEnd_of ?_ (hKK _ _ _ ?_); (focus (simp only [List.reverse_cons, List.reverse_nil, List.nil_append, List.cons_append, memA, mem1, and_true, true_and]; (repeat' apply And.intro); (all_goals (first | trivial | (refine .inr ⟨?_, ?_⟩ <;> (simp; done)) | (refine .inr ⟨?_, ?_⟩ <;> (simp <;> omega)) | (refine .inl ?_; rw [htab]; kernel_rfl))); done)); clear htab tab hKK KK; simp only [thenA, blockA, reduceIte]) | (refine hKK _ _ _ ?_; clear hKK KK; simp only [thenA, blockA, reduceIte]) | skip
      repeat' (first
        | refine AWP.seq ?_
        | refine AWP.block ?_
        | (refine AWP.skip ?_; simp only [thenA, blockA, reduceIte])
        | (refine AWP.exit ?_; simp only [thenA, blockA, eq_self, reduceIte, Nat.reduceEqDiff, Nat.succ_ne_zero])
        | (refine AWP.ret ?_; simp only [thenA, blockA, reduceIte])
        | (refine AWP.region (by rfl) (fun KK hKK => ?_); (repeat (simp (disch := omega) [hi])); first | (refine hKK _ _ _ ?_; clear hKK KK; simp only [thenA, blockA, reduceIte]) | skip)
        | (refine AWP.if_t ?_ ?_; focus (simp (disch := omega) [hi]; done))
        | (refine AWP.if_f ?_ ?_; focus (simp (disch := omega) [hi]; done)))
    refine ⟨by simp, _, rfl, fin0 ⟨?_, rfl⟩ (by simp [resO, get, nms, nmss]; try (simp [nms, nmss] at hn; simp_all))⟩
    simp [resO, get, ren, rens]
end Go.Proofs.Ytbcooikoaplhcaa
