/- Contracts: arms of classes of flags, in the program and in the reference. No condition but sizes. -/
import Derived.Test.YtbdehnjbglpfjaaA0
set_option linter.unusedSimpArgs false
set_option linter.unusedVariables false
namespace Go.Proofs.Ytbdehnjbglpfjaa
open Go Go.RowKit

abbrev armV (p q : Int) : AV := .agg [.v (.int .i64 p), .v (.int .i64 q)]
set_option maxRecDepth 10000 in
set_option maxHeartbeats 1000000 in
theorem armOk_c (σ : Sto) (ν : Nat) (x : AV) (ds : List Df) (bd p q : Int) (hx : Sl σ x 2 (rowsD ds)) (hlen : ds.length ≤ 9223372036854775807) (hv : ∀ d ∈ ds, 0 ≤ d.2 ∧ d.2 ≤ 4095) (hp : i64R p) (hq : i64R q) :
    AC Try.prog 70 [armV p q, .agg [x, .v (.int .i64 bd)]] σ ν fun r δ => r = .v (.bool (aokB (mkN ds) p q)) ∧ δ = noS := by
  obtain ⟨bk, o, cap, z, rfl⟩ := hx.out
  have hml := mkN_lt ds hv
  by_cases c1 : bits .andNot .i64 (bits .or .i64 p q) (mkN ds) = 0
  · obtain ⟨a, c, rfl, rfl, ha, hc, e1, e2⟩ := aok_yes1 hml hp hq c1
    refine AC.intro [] ent_70 Try.func70 rfl (by simp [Try.f70]) (by simp) ?_
    intro K s hs hB hn hν hA hFr
    simp only [argT, Nat.zero_add, Nat.reduceAdd]
    have hx' := hx.vw hs.vw
    repeat' (first
      | refine AWP.seq ?_
      | refine AWP.block ?_
      | (refine AWP.skip ?_; simp only [thenA, blockA, reduceIte])
      | (refine AWP.exit ?_; simp only [thenA, blockA, eq_self, reduceIte, Nat.reduceEqDiff, Nat.succ_ne_zero])
      | (refine AWP.ret ?_; simp only [thenA, blockA, reduceIte])
      | (refine AWP.region (by rfl) (fun KK hKK => ?_); (repeat (simp (disch := omega) [c1, e1])); first | (refine hKK _ _ _ ?_; clear hKK KK; simp only [thenA, blockA, reduceIte]) | skip)
      | (refine AWP.draw' mixd (by rfl) (by kernel_rfl) (fun KK tab hKK htab => ?_); (repeat (simp (disch := omega) [c1, e1])); first | (refine dEnd_ro ?_ (hKK _ _ _ ?_); (focus (simp; done)); clear htab tab hKK KK; simp only [thenA, blockA, reduceIte]) | (refine dEnd_of ?_ (hKK _ _ _ ?_); (focus (simp only [List.reverse_cons, List.reverse_nil, List.nil_append, List.cons_append, memA, mem1, and_true, true_and]; (repeat' apply And.intro); (all_goals (first | trivial | (refine .inr ⟨?_, ?_⟩ <;> (simp; done)) | (refine .inr ⟨?_, ?_⟩ <;> (simp <;> omega)) | (refine .inl ?_; rw [htab]; kernel_rfl))); done)); clear htab tab hKK KK; simp only [thenA, blockA, reduceIte]) | skip)
      | (refine AWP.if_t ?_ ?_; focus (simp (disch := omega) [c1, e1]; done))
      | (refine AWP.if_f ?_ ?_; focus (simp (disch := omega) [c1, e1]; done)))
    repeat
      first
        | (refine aStop_of (mask_c _ _ _ ds bd (by first | exact (Sl.whole (t := 133) (r := true) ((hσ' _ (by simp)).trans (by simp (disch := omega) only [upd_eq, upd_ne, del_ne])) (by simp [rowsD_len])) | exact ((hx'.vw ((Vw.refl _).over (by repeat (first | exact Over.refl _ | exact hov | refine Over.upd ?_ hB (by omega) | refine Over.del ?_ hB (by omega))))).on (hσ' _ (by simp))) | exact (Sl.whole (t := 133) (r := true) (by simp (disch := omega) only [upd_eq, upd_ne, del_ne]) (by simp [rowsD_len])) | exact (hx'.vw ((Vw.refl _).over (by repeat (first | exact Over.refl _ | exact hov | refine Over.upd ?_ hB (by omega) | refine Over.del ?_ hB (by omega)))))) hlen hv) ?_; rintro r δ ⟨rfl, rfl⟩)
        | (refine dStop_roA (fun σ' hσ' => mask_c σ' _ _ ds bd (by first | exact (Sl.whole (t := 133) (r := true) ((hσ' _ (by simp)).trans (by simp (disch := omega) only [upd_eq, upd_ne, del_ne])) (by simp [rowsD_len])) | exact ((hx'.vw ((Vw.refl _).over (by repeat (first | exact Over.refl _ | exact hov | refine Over.upd ?_ hB (by omega) | refine Over.del ?_ hB (by omega))))).on (hσ' _ (by simp))) | exact (Sl.whole (t := 133) (r := true) (by simp (disch := omega) only [upd_eq, upd_ne, del_ne]) (by simp [rowsD_len])) | exact (hx'.vw ((Vw.refl _).over (by repeat (first | exact Over.refl _ | exact hov | refine Over.upd ?_ hB (by omega) | refine Over.del ?_ hB (by omega)))))) hlen hv) ?_)
      (repeat (simp (disch := omega) [c1, e1]))
      first | (refine dEnd_ro ?_ (hKK _ _ _ ?_); (focus (simp; done)); clear htab tab hKK KK; simp only [thenA, blockA, reduceIte]) | (refine dEnd_of ?_ (hKK _ _ _ ?_); (focus (simp only [List.reverse_cons, List.reverse_nil, List.nil_append, List.cons_append, memA, mem1, and_true, true_and]; (repeat' apply And.intro); (all_goals (first | trivial | (refine .inr ⟨?_, ?_⟩ <;> (simp; done)) | (refine .inr ⟨?_, ?_⟩ <;> (simp <;> omega)) | (refine .inl ?_; rw [htab]; kernel_rfl))); done)); clear htab tab hKK KK; simp only [thenA, blockA, reduceIte]) | (refine hKK _ _ _ ?_; clear hKK KK; simp only [thenA, blockA, reduceIte]) | skip
      repeat' (first
        | refine AWP.seq ?_
        | refine AWP.block ?_
        | (refine AWP.skip ?_; simp only [thenA, blockA, reduceIte])
        | (refine AWP.exit ?_; simp only [thenA, blockA, eq_self, reduceIte, Nat.reduceEqDiff, Nat.succ_ne_zero])
        | (refine AWP.ret ?_; simp only [thenA, blockA, reduceIte])
        | (refine AWP.region (by rfl) (fun KK hKK => ?_); (repeat (simp (disch := omega) [c1, e1])); first | (refine hKK _ _ _ ?_; clear hKK KK; simp only [thenA, blockA, reduceIte]) | skip)
        | (refine AWP.draw' mixd (by rfl) (by kernel_rfl) (fun KK tab hKK htab => ?_); (repeat (simp (disch := omega) [c1, e1])); first | (refine dEnd_ro ?_ (hKK _ _ _ ?_); (focus (simp; done)); clear htab tab hKK KK; simp only [thenA, blockA, reduceIte]) | (refine dEnd_of ?_ (hKK _ _ _ ?_); (focus (simp only [List.reverse_cons, List.reverse_nil, List.nil_append, List.cons_append, memA, mem1, and_true, true_and]; (repeat' apply And.intro); (all_goals (first | trivial | (refine .inr ⟨?_, ?_⟩ <;> (simp; done)) | (refine .inr ⟨?_, ?_⟩ <;> (simp <;> omega)) | (refine .inl ?_; rw [htab]; kernel_rfl))); done)); clear htab tab hKK KK; simp only [thenA, blockA, reduceIte]) | skip)
        | (refine AWP.if_t ?_ ?_; focus (simp (disch := omega) [c1, e1]; done))
        | (refine AWP.if_f ?_ ?_; focus (simp (disch := omega) [c1, e1]; done)))
    refine ⟨by simp, _, rfl, fin0 ⟨?_, rfl⟩ (by simp [resO, get, nms, nmss]; try (simp [nms, nmss] at hn; simp_all))⟩
    simp [resO, get, ren, rens, e2]
  · have e := aok_no1 hml hp hq c1
    refine AC.intro [] ent_70 Try.func70 rfl (by simp [Try.f70]) (by simp) ?_
    intro K s hs hB hn hν hA hFr
    simp only [argT, Nat.zero_add, Nat.reduceAdd]
    have hx' := hx.vw hs.vw
    repeat' (first
      | refine AWP.seq ?_
      | refine AWP.block ?_
      | (refine AWP.skip ?_; simp only [thenA, blockA, reduceIte])
      | (refine AWP.exit ?_; simp only [thenA, blockA, eq_self, reduceIte, Nat.reduceEqDiff, Nat.succ_ne_zero])
      | (refine AWP.ret ?_; simp only [thenA, blockA, reduceIte])
      | (refine AWP.region (by rfl) (fun KK hKK => ?_); (repeat (simp (disch := omega) [c1])); first | (refine hKK _ _ _ ?_; clear hKK KK; simp only [thenA, blockA, reduceIte]) | skip)
      | (refine AWP.draw' mixd (by rfl) (by kernel_rfl) (fun KK tab hKK htab => ?_); (repeat (simp (disch := omega) [c1])); first | (refine dEnd_ro ?_ (hKK _ _ _ ?_); (focus (simp; done)); clear htab tab hKK KK; simp only [thenA, blockA, reduceIte]) | (refine dEnd_of ?_ (hKK _ _ _ ?_); (focus (simp only [List.reverse_cons, List.reverse_nil, List.nil_append, List.cons_append, memA, mem1, and_true, true_and]; (repeat' apply And.intro); (all_goals (first | trivial | (refine .inr ⟨?_, ?_⟩ <;> (simp; done)) | (refine .inr ⟨?_, ?_⟩ <;> (simp <;> omega)) | (refine .inl ?_; rw [htab]; kernel_rfl))); done)); clear htab tab hKK KK; simp only [thenA, blockA, reduceIte]) | skip)
      | (refine AWP.if_t ?_ ?_; focus (simp (disch := omega) [c1]; done))
      | (refine AWP.if_f ?_ ?_; focus (simp (disch := omega) [c1]; done)))
    repeat
      first
        | (refine aStop_of (mask_c _ _ _ ds bd (by first | exact (Sl.whole (t := 133) (r := true) ((hσ' _ (by simp)).trans (by simp (disch := omega) only [upd_eq, upd_ne, del_ne])) (by simp [rowsD_len])) | exact ((hx'.vw ((Vw.refl _).over (by repeat (first | exact Over.refl _ | exact hov | refine Over.upd ?_ hB (by omega) | refine Over.del ?_ hB (by omega))))).on (hσ' _ (by simp))) | exact (Sl.whole (t := 133) (r := true) (by simp (disch := omega) only [upd_eq, upd_ne, del_ne]) (by simp [rowsD_len])) | exact (hx'.vw ((Vw.refl _).over (by repeat (first | exact Over.refl _ | exact hov | refine Over.upd ?_ hB (by omega) | refine Over.del ?_ hB (by omega)))))) hlen hv) ?_; rintro r δ ⟨rfl, rfl⟩)
        | (refine dStop_roA (fun σ' hσ' => mask_c σ' _ _ ds bd (by first | exact (Sl.whole (t := 133) (r := true) ((hσ' _ (by simp)).trans (by simp (disch := omega) only [upd_eq, upd_ne, del_ne])) (by simp [rowsD_len])) | exact ((hx'.vw ((Vw.refl _).over (by repeat (first | exact Over.refl _ | exact hov | refine Over.upd ?_ hB (by omega) | refine Over.del ?_ hB (by omega))))).on (hσ' _ (by simp))) | exact (Sl.whole (t := 133) (r := true) (by simp (disch := omega) only [upd_eq, upd_ne, del_ne]) (by simp [rowsD_len])) | exact (hx'.vw ((Vw.refl _).over (by repeat (first | exact Over.refl _ | exact hov | refine Over.upd ?_ hB (by omega) | refine Over.del ?_ hB (by omega)))))) hlen hv) ?_)
      (repeat (simp (disch := omega) [c1]))
      first | (refine dEnd_ro ?_ (hKK _ _ _ ?_); (focus (simp; done)); clear htab tab hKK KK; simp only [thenA, blockA, reduceIte]) | (refine dEnd_of ?_ (hKK _ _ _ ?_); (focus (simp only [List.reverse_cons, List.reverse_nil, List.nil_append, List.cons_append, memA, mem1, and_true, true_and]; (repeat' apply And.intro); (all_goals (first | trivial | (refine .inr ⟨?_, ?_⟩ <;> (simp; done)) | (refine .inr ⟨?_, ?_⟩ <;> (simp <;> omega)) | (refine .inl ?_; rw [htab]; kernel_rfl))); done)); clear htab tab hKK KK; simp only [thenA, blockA, reduceIte]) | (refine hKK _ _ _ ?_; clear hKK KK; simp only [thenA, blockA, reduceIte]) | skip
      repeat' (first
        | refine AWP.seq ?_
        | refine AWP.block ?_
        | (refine AWP.skip ?_; simp only [thenA, blockA, reduceIte])
        | (refine AWP.exit ?_; simp only [thenA, blockA, eq_self, reduceIte, Nat.reduceEqDiff, Nat.succ_ne_zero])
        | (refine AWP.ret ?_; simp only [thenA, blockA, reduceIte])
        | (refine AWP.region (by rfl) (fun KK hKK => ?_); (repeat (simp (disch := omega) [c1])); first | (refine hKK _ _ _ ?_; clear hKK KK; simp only [thenA, blockA, reduceIte]) | skip)
        | (refine AWP.draw' mixd (by rfl) (by kernel_rfl) (fun KK tab hKK htab => ?_); (repeat (simp (disch := omega) [c1])); first | (refine dEnd_ro ?_ (hKK _ _ _ ?_); (focus (simp; done)); clear htab tab hKK KK; simp only [thenA, blockA, reduceIte]) | (refine dEnd_of ?_ (hKK _ _ _ ?_); (focus (simp only [List.reverse_cons, List.reverse_nil, List.nil_append, List.cons_append, memA, mem1, and_true, true_and]; (repeat' apply And.intro); (all_goals (first | trivial | (refine .inr ⟨?_, ?_⟩ <;> (simp; done)) | (refine .inr ⟨?_, ?_⟩ <;> (simp <;> omega)) | (refine .inl ?_; rw [htab]; kernel_rfl))); done)); clear htab tab hKK KK; simp only [thenA, blockA, reduceIte]) | skip)
        | (refine AWP.if_t ?_ ?_; focus (simp (disch := omega) [c1]; done))
        | (refine AWP.if_f ?_ ?_; focus (simp (disch := omega) [c1]; done)))
    refine ⟨by simp, _, rfl, fin0 ⟨?_, rfl⟩ (by simp [resO, get, nms, nmss]; try (simp [nms, nmss] at hn; simp_all))⟩
    simp [resO, get, ren, rens, e]

/-- A valid arm of a valid class. -/
def vaB (ds : List Df) (bd p q : Int) : Bool := okFl ds bd && aokB (mkN ds) p q
theorem vaB_ok {ds : List Df} {bd p q : Int} (h : vaB ds bd p q = true) : okFl ds bd = true ∧ ∃ a b : Nat, p = a ∧ q = b ∧ a < 4096 ∧ b < 4096 ∧ a &&& mkN ds = a ∧ b &&& mkN ds = b ∧ a &&& b = 0 := by
  simp only [vaB, Bool.and_eq_true] at h
  exact ⟨h.1, aokB_ok (okFl_lt h.1) h.2⟩
set_option maxRecDepth 10000 in
set_option maxHeartbeats 1000000 in
theorem validArm_c (σ : Sto) (ν : Nat) (x : AV) (ds : List Df) (bd p q : Int) (hx : Sl σ x 2 (rowsD ds)) (hlen : ds.length ≤ 9223372036854775807) (hsz : ∀ d ∈ ds, d.1.size ≤ 9223372036854775807) (hp : i64R p) (hq : i64R q) :
    AC Try.prog 18 [.agg [x, .v (.int .i64 bd)], armV p q] σ ν fun r δ => r = .v (.bool (vaB ds bd p q)) ∧ δ = noS := by
  obtain ⟨bk, o, cap, z, rfl⟩ := hx.out
  refine AC.intro [] ent_18 Try.func18 rfl (by simp [Try.f18]) (by simp) ?_
  intro K s hs hB hn hν hA hFr
  simp only [argT, Nat.zero_add, Nat.reduceAdd]
  have hx' := hx.vw hs.vw
  cases hok : okFl ds bd with
  | false =>
    repeat' (first
      | refine AWP.seq ?_
      | refine AWP.block ?_
      | (refine AWP.skip ?_; simp only [thenA, blockA, reduceIte])
      | (refine AWP.exit ?_; simp only [thenA, blockA, eq_self, reduceIte, Nat.reduceEqDiff, Nat.succ_ne_zero])
      | (refine AWP.ret ?_; simp only [thenA, blockA, reduceIte])
      | (refine AWP.region (by rfl) (fun KK hKK => ?_); (repeat (simp (disch := omega) [hok])); first | (refine hKK _ _ _ ?_; clear hKK KK; simp only [thenA, blockA, reduceIte]) | skip)
      | (refine AWP.if_t ?_ ?_; focus (simp (disch := omega) [hok]; done))
      | (refine AWP.if_f ?_ ?_; focus (simp (disch := omega) [hok]; done)))
    repeat
      first
        | (refine aStop_of (validFlag_c _ _ _ ds bd (by first | exact (Sl.whole (t := 133) (r := true) ((hσ' _ (by simp)).trans (by simp (disch := omega) only [upd_eq, upd_ne, del_ne])) (by simp [rowsD_len])) | exact ((hx'.vw ((Vw.refl _).over (by repeat (first | exact Over.refl _ | exact hov | refine Over.upd ?_ hB (by omega) | refine Over.del ?_ hB (by omega))))).on (hσ' _ (by simp))) | exact (Sl.whole (t := 133) (r := true) (by simp (disch := omega) only [upd_eq, upd_ne, del_ne]) (by simp [rowsD_len])) | exact (hx'.vw ((Vw.refl _).over (by repeat (first | exact Over.refl _ | exact hov | refine Over.upd ?_ hB (by omega) | refine Over.del ?_ hB (by omega)))))) hlen hsz) ?_; rintro r δ ⟨rfl, rfl⟩)
      (repeat (simp (disch := omega) [hok]))
      first | (refine dEnd_ro ?_ (hKK _ _ _ ?_); (focus (simp; done)); clear htab tab hKK KK; simp only [thenA, blockA, reduceIte]) | (refine dEnd_of ?_ (hKK _ _ _ ?_); (focus (simp only [List.reverse_cons, List.reverse_nil, List.nil_append, List.cons_append, memA, mem1, and_true, true_and]; (repeat' apply And.intro); (all_goals (first | trivial | (refine .inr ⟨?_, ?_⟩ <;> (simp; done)) | (refine .inr ⟨?_, ?_⟩ <;> (simp <;> omega)) | (refine .inl ?_; rw [htab]; kernel_rfl))); done)); clear htab tab hKK KK; simp only [thenA, blockA, reduceIte]) | (refine hKK _ _ _ ?_; clear hKK KK; simp only [thenA, blockA, reduceIte]) | skip
      repeat' (first
        | refine AWP.seq ?_
        | refine AWP.block ?_
        | (refine AWP.skip ?_; simp only [thenA, blockA, reduceIte])
        | (refine AWP.exit ?_; simp only [thenA, blockA, eq_self, reduceIte, Nat.reduceEqDiff, Nat.succ_ne_zero])
        | (refine AWP.ret ?_; simp only [thenA, blockA, reduceIte])
        | (refine AWP.region (by rfl) (fun KK hKK => ?_); (repeat (simp (disch := omega) [hok])); first | (refine hKK _ _ _ ?_; clear hKK KK; simp only [thenA, blockA, reduceIte]) | skip)
        | (refine AWP.if_t ?_ ?_; focus (simp (disch := omega) [hok]; done))
        | (refine AWP.if_f ?_ ?_; focus (simp (disch := omega) [hok]; done)))
    refine ⟨by simp, _, rfl, fin0 ⟨?_, rfl⟩ (by simp [resO, get, nms, nmss]; try (simp [nms, nmss] at hn; simp_all))⟩
    simp [resO, get, ren, rens, vaB, hok]
  | true =>
    have hv := okFl_rg hok
    repeat' (first
      | refine AWP.seq ?_
      | refine AWP.block ?_
      | (refine AWP.skip ?_; simp only [thenA, blockA, reduceIte])
      | (refine AWP.exit ?_; simp only [thenA, blockA, eq_self, reduceIte, Nat.reduceEqDiff, Nat.succ_ne_zero])
      | (refine AWP.ret ?_; simp only [thenA, blockA, reduceIte])
      | (refine AWP.region (by rfl) (fun KK hKK => ?_); (repeat (simp (disch := omega) [hok])); first | (refine hKK _ _ _ ?_; clear hKK KK; simp only [thenA, blockA, reduceIte]) | skip)
      | (refine AWP.if_t ?_ ?_; focus (simp (disch := omega) [hok]; done))
      | (refine AWP.if_f ?_ ?_; focus (simp (disch := omega) [hok]; done)))
    repeat
      first
        | (refine aStop_of (validFlag_c _ _ _ ds bd (by first | exact (Sl.whole (t := 133) (r := true) ((hσ' _ (by simp)).trans (by simp (disch := omega) only [upd_eq, upd_ne, del_ne])) (by simp [rowsD_len])) | exact ((hx'.vw ((Vw.refl _).over (by repeat (first | exact Over.refl _ | exact hov | refine Over.upd ?_ hB (by omega) | refine Over.del ?_ hB (by omega))))).on (hσ' _ (by simp))) | exact (Sl.whole (t := 133) (r := true) (by simp (disch := omega) only [upd_eq, upd_ne, del_ne]) (by simp [rowsD_len])) | exact (hx'.vw ((Vw.refl _).over (by repeat (first | exact Over.refl _ | exact hov | refine Over.upd ?_ hB (by omega) | refine Over.del ?_ hB (by omega)))))) hlen hsz) ?_; rintro r δ ⟨rfl, rfl⟩)
        | (refine aStop_of (armOk_c _ _ _ ds bd p q (by first | exact (Sl.whole (t := 133) (r := true) ((hσ' _ (by simp)).trans (by simp (disch := omega) only [upd_eq, upd_ne, del_ne])) (by simp [rowsD_len])) | exact ((hx'.vw ((Vw.refl _).over (by repeat (first | exact Over.refl _ | exact hov | refine Over.upd ?_ hB (by omega) | refine Over.del ?_ hB (by omega))))).on (hσ' _ (by simp))) | exact (Sl.whole (t := 133) (r := true) (by simp (disch := omega) only [upd_eq, upd_ne, del_ne]) (by simp [rowsD_len])) | exact (hx'.vw ((Vw.refl _).over (by repeat (first | exact Over.refl _ | exact hov | refine Over.upd ?_ hB (by omega) | refine Over.del ?_ hB (by omega)))))) hlen hv hp hq) ?_; rintro r δ ⟨rfl, rfl⟩)
      (repeat (simp (disch := omega) [hok]))
      first | (refine dEnd_ro ?_ (hKK _ _ _ ?_); (focus (simp; done)); clear htab tab hKK KK; simp only [thenA, blockA, reduceIte]) | (refine dEnd_of ?_ (hKK _ _ _ ?_); (focus (simp only [List.reverse_cons, List.reverse_nil, List.nil_append, List.cons_append, memA, mem1, and_true, true_and]; (repeat' apply And.intro); (all_goals (first | trivial | (refine .inr ⟨?_, ?_⟩ <;> (simp; done)) | (refine .inr ⟨?_, ?_⟩ <;> (simp <;> omega)) | (refine .inl ?_; rw [htab]; kernel_rfl))); done)); clear htab tab hKK KK; simp only [thenA, blockA, reduceIte]) | (refine hKK _ _ _ ?_; clear hKK KK; simp only [thenA, blockA, reduceIte]) | skip
      repeat' (first
        | refine AWP.seq ?_
        | refine AWP.block ?_
        | (refine AWP.skip ?_; simp only [thenA, blockA, reduceIte])
        | (refine AWP.exit ?_; simp only [thenA, blockA, eq_self, reduceIte, Nat.reduceEqDiff, Nat.succ_ne_zero])
        | (refine AWP.ret ?_; simp only [thenA, blockA, reduceIte])
        | (refine AWP.region (by rfl) (fun KK hKK => ?_); (repeat (simp (disch := omega) [hok])); first | (refine hKK _ _ _ ?_; clear hKK KK; simp only [thenA, blockA, reduceIte]) | skip)
        | (refine AWP.if_t ?_ ?_; focus (simp (disch := omega) [hok]; done))
        | (refine AWP.if_f ?_ ?_; focus (simp (disch := omega) [hok]; done)))
    refine ⟨by simp, _, rfl, fin0 ⟨?_, rfl⟩ (by simp [resO, get, nms, nmss]; try (simp [nms, nmss] at hn; simp_all))⟩
    simp [resO, get, ren, rens, vaB, hok]
set_option maxRecDepth 10000 in
set_option maxHeartbeats 4000000 in
theorem validArmS_c (σ : Sto) (ν : Nat) (x : AV) (ds : List Df) (bd p q : Int) (hx : Sl σ x 2 (rowsD ds)) (hlen : ds.length ≤ 9223372036854775807) (hsz : ∀ d ∈ ds, d.1.size ≤ 9223372036854775807) (hi : ∀ d ∈ ds, i64R d.2) (hp : i64R p) (hq : i64R q) :
    AC Try.prog 67 [.agg [x, .v (.int .i64 bd)], armV p q] σ ν fun r δ => r = .v (.bool (vaB ds bd p q)) ∧ δ = noS := by
  obtain ⟨bk, o, cap, z, rfl⟩ := hx.out
  refine AC.intro [] ent_67 Try.func67 rfl (by simp [Try.f67]) (by simp) ?_
  intro K s hs hB hn hν hA hFr
  simp only [argT, Nat.zero_add, Nat.reduceAdd]
  have hx' := hx.vw hs.vw
  cases hok : okFl ds bd with
  | false =>
    repeat' (first
      | refine AWP.seq ?_
      | refine AWP.block ?_
      | (refine AWP.skip ?_; simp only [thenA, blockA, reduceIte])
      | (refine AWP.exit ?_; simp only [thenA, blockA, eq_self, reduceIte, Nat.reduceEqDiff, Nat.succ_ne_zero])
      | (refine AWP.ret ?_; simp only [thenA, blockA, reduceIte])
      | (refine AWP.region (by rfl) (fun KK hKK => ?_); (repeat (simp (disch := omega) [hok])); first | (refine hKK _ _ _ ?_; clear hKK KK; simp only [thenA, blockA, reduceIte]) | skip)
      | (refine AWP.if_t ?_ ?_; focus (simp (disch := omega) [hok]; done))
      | (refine AWP.if_f ?_ ?_; focus (simp (disch := omega) [hok]; done)))
    repeat
      first
        | (refine aStop_of (maskS_c _ _ _ ds (by first | exact (Sl.whole (t := 133) (r := true) ((hσ' _ (by simp)).trans (by simp (disch := omega) only [upd_eq, upd_ne, del_ne])) (by simp [rowsD_len])) | exact ((hx'.vw ((Vw.refl _).over (by repeat (first | exact Over.refl _ | exact hov | refine Over.upd ?_ hB (by omega) | refine Over.del ?_ hB (by omega))))).on (hσ' _ (by simp))) | exact (Sl.whole (t := 133) (r := true) (by simp (disch := omega) only [upd_eq, upd_ne, del_ne]) (by simp [rowsD_len])) | exact (hx'.vw ((Vw.refl _).over (by repeat (first | exact Over.refl _ | exact hov | refine Over.upd ?_ hB (by omega) | refine Over.del ?_ hB (by omega)))))) hlen hi) ?_; rintro r δ ⟨rfl, rfl⟩)
        | (refine aStop_of (validFlagS_c _ _ _ ds bd (by first | exact (Sl.whole (t := 133) (r := true) ((hσ' _ (by simp)).trans (by simp (disch := omega) only [upd_eq, upd_ne, del_ne])) (by simp [rowsD_len])) | exact ((hx'.vw ((Vw.refl _).over (by repeat (first | exact Over.refl _ | exact hov | refine Over.upd ?_ hB (by omega) | refine Over.del ?_ hB (by omega))))).on (hσ' _ (by simp))) | exact (Sl.whole (t := 133) (r := true) (by simp (disch := omega) only [upd_eq, upd_ne, del_ne]) (by simp [rowsD_len])) | exact (hx'.vw ((Vw.refl _).over (by repeat (first | exact Over.refl _ | exact hov | refine Over.upd ?_ hB (by omega) | refine Over.del ?_ hB (by omega)))))) hlen hsz) ?_; rintro r δ ⟨rfl, rfl⟩)
      (repeat (simp (disch := omega) [hok]))
      first | (refine dEnd_ro ?_ (hKK _ _ _ ?_); (focus (simp; done)); clear htab tab hKK KK; simp only [thenA, blockA, reduceIte]) | (refine dEnd_of ?_ (hKK _ _ _ ?_); (focus (simp only [List.reverse_cons, List.reverse_nil, List.nil_append, List.cons_append, memA, mem1, and_true, true_and]; (repeat' apply And.intro); (all_goals (first | trivial | (refine .inr ⟨?_, ?_⟩ <;> (simp; done)) | (refine .inr ⟨?_, ?_⟩ <;> (simp <;> omega)) | (refine .inl ?_; rw [htab]; kernel_rfl))); done)); clear htab tab hKK KK; simp only [thenA, blockA, reduceIte]) | (refine hKK _ _ _ ?_; clear hKK KK; simp only [thenA, blockA, reduceIte]) | skip
      repeat' (first
        | refine AWP.seq ?_
        | refine AWP.block ?_
        | (refine AWP.skip ?_; simp only [thenA, blockA, reduceIte])
        | (refine AWP.exit ?_; simp only [thenA, blockA, eq_self, reduceIte, Nat.reduceEqDiff, Nat.succ_ne_zero])
        | (refine AWP.ret ?_; simp only [thenA, blockA, reduceIte])
        | (refine AWP.region (by rfl) (fun KK hKK => ?_); (repeat (simp (disch := omega) [hok])); first | (refine hKK _ _ _ ?_; clear hKK KK; simp only [thenA, blockA, reduceIte]) | skip)
        | (refine AWP.if_t ?_ ?_; focus (simp (disch := omega) [hok]; done))
        | (refine AWP.if_f ?_ ?_; focus (simp (disch := omega) [hok]; done)))
    refine ⟨by simp, _, rfl, fin0 ⟨?_, rfl⟩ (by simp [resO, get, nms, nmss]; try (simp [nms, nmss] at hn; simp_all))⟩
    simp [resO, get, ren, rens, vaB, hok]
  | true =>
    have hv := okFl_rg hok
    have hml := okFl_lt hok
    have hms := mkS_eq ds hv
    by_cases hr1 : 0 ≤ p ∧ p ≤ 4095
    · by_cases hr2 : 0 ≤ q ∧ q ≤ 4095
      · obtain ⟨a, rfl⟩ := Int.eq_ofNat_of_zero_le hr1.1
        obtain ⟨c, rfl⟩ := Int.eq_ofNat_of_zero_le hr2.1
        have i0 : (0 : Int) ≤ a := hr1.1
        have i1 : (a : Int) ≤ 4095 := hr1.2
        have i2 : (0 : Int) ≤ c := hr2.1
        have i3 : (c : Int) ≤ 4095 := hr2.2
        have l1 := lessI_nat (a := a) (b := mkN ds) (by omega) (.inr hml)
        have l2 := lessI_nat (a := c) (b := mkN ds) (by omega) (.inr hml)
        have b1 := bothI_nat (a := a) (b := c) (.inl (by omega))
        have hra : vaB ds bd a c = decide (a - (a &&& mkN ds) = 0 ∧ c - (c &&& mkN ds) = 0 ∧ a &&& c = 0) := by
          unfold vaB
          rw [hok, Bool.true_and, aokB_nat, decide_eq_decide, sub_zero_iff, sub_zero_iff]
        generalize a - (a &&& mkN ds) = A at *
        generalize c - (c &&& mkN ds) = C at *
        generalize a &&& c = B at *
        by_cases c1 : A = 0
        · by_cases c2 : C = 0
          · by_cases c3 : B = 0
            · have hr : vaB ds bd a c = true := by rw [hra]; exact decide_eq_true ⟨c1, c2, c3⟩
              repeat' (first
                | refine AWP.seq ?_
                | refine AWP.block ?_
                | (refine AWP.skip ?_; simp only [thenA, blockA, reduceIte])
                | (refine AWP.exit ?_; simp only [thenA, blockA, eq_self, reduceIte, Nat.reduceEqDiff, Nat.succ_ne_zero])
                | (refine AWP.ret ?_; simp only [thenA, blockA, reduceIte])
                | (refine AWP.region (by rfl) (fun KK hKK => ?_); (repeat (simp (disch := omega) [hok, hms, l1, l2, b1, i0, i1, i2, i3, c1, c2, c3])); first | (refine hKK _ _ _ ?_; clear hKK KK; simp only [thenA, blockA, reduceIte]) | skip)
                | (refine AWP.if_t ?_ ?_; focus (simp (disch := omega) [hok, hms, l1, l2, b1, i0, i1, i2, i3, c1, c2, c3]; done))
                | (refine AWP.if_f ?_ ?_; focus (simp (disch := omega) [hok, hms, l1, l2, b1, i0, i1, i2, i3, c1, c2, c3]; done)))
              repeat
                first
                  | (refine aStop_of (maskS_c _ _ _ ds (by first | exact (Sl.whole (t := 133) (r := true) ((hσ' _ (by simp)).trans (by simp (disch := omega) only [upd_eq, upd_ne, del_ne])) (by simp [rowsD_len])) | exact ((hx'.vw ((Vw.refl _).over (by repeat (first | exact Over.refl _ | exact hov | refine Over.upd ?_ hB (by omega) | refine Over.del ?_ hB (by omega))))).on (hσ' _ (by simp))) | exact (Sl.whole (t := 133) (r := true) (by simp (disch := omega) only [upd_eq, upd_ne, del_ne]) (by simp [rowsD_len])) | exact (hx'.vw ((Vw.refl _).over (by repeat (first | exact Over.refl _ | exact hov | refine Over.upd ?_ hB (by omega) | refine Over.del ?_ hB (by omega)))))) hlen hi) ?_; rintro r δ ⟨rfl, rfl⟩)
                  | (refine aStop_of (validFlagS_c _ _ _ ds bd (by first | exact (Sl.whole (t := 133) (r := true) ((hσ' _ (by simp)).trans (by simp (disch := omega) only [upd_eq, upd_ne, del_ne])) (by simp [rowsD_len])) | exact ((hx'.vw ((Vw.refl _).over (by repeat (first | exact Over.refl _ | exact hov | refine Over.upd ?_ hB (by omega) | refine Over.del ?_ hB (by omega))))).on (hσ' _ (by simp))) | exact (Sl.whole (t := 133) (r := true) (by simp (disch := omega) only [upd_eq, upd_ne, del_ne]) (by simp [rowsD_len])) | exact (hx'.vw ((Vw.refl _).over (by repeat (first | exact Over.refl _ | exact hov | refine Over.upd ?_ hB (by omega) | refine Over.del ?_ hB (by omega)))))) hlen hsz) ?_; rintro r δ ⟨rfl, rfl⟩)
                  | (refine aStop_of (inRange_c _ _ _ _ _) ?_; rintro r δ ⟨rfl, rfl⟩)
                  | (refine aStop_of (less_c _ _ _ _ ⟨by omega, by omega⟩ ⟨by omega, by omega⟩) ?_; rintro r δ ⟨rfl, rfl⟩)
                  | (refine aStop_of (both_c _ _ _ _ ⟨by omega, by omega⟩ ⟨by omega, by omega⟩) ?_; rintro r δ ⟨rfl, rfl⟩)
                (repeat (simp (disch := omega) [hok, hms, l1, l2, b1, i0, i1, i2, i3, c1, c2, c3]))
                first | (refine dEnd_ro ?_ (hKK _ _ _ ?_); (focus (simp; done)); clear htab tab hKK KK; simp only [thenA, blockA, reduceIte]) | (refine dEnd_of ?_ (hKK _ _ _ ?_); (focus (simp only [List.reverse_cons, List.reverse_nil, List.nil_append, List.cons_append, memA, mem1, and_true, true_and]; (repeat' apply And.intro); (all_goals (first | trivial | (refine .inr ⟨?_, ?_⟩ <;> (simp; done)) | (refine .inr ⟨?_, ?_⟩ <;> (simp <;> omega)) | (refine .inl ?_; rw [htab]; kernel_rfl))); done)); clear htab tab hKK KK; simp only [thenA, blockA, reduceIte]) | (refine hKK _ _ _ ?_; clear hKK KK; simp only [thenA, blockA, reduceIte]) | skip
                repeat' (first
                  | refine AWP.seq ?_
                  | refine AWP.block ?_
                  | (refine AWP.skip ?_; simp only [thenA, blockA, reduceIte])
                  | (refine AWP.exit ?_; simp only [thenA, blockA, eq_self, reduceIte, Nat.reduceEqDiff, Nat.succ_ne_zero])
                  | (refine AWP.ret ?_; simp only [thenA, blockA, reduceIte])
                  | (refine AWP.region (by rfl) (fun KK hKK => ?_); (repeat (simp (disch := omega) [hok, hms, l1, l2, b1, i0, i1, i2, i3, c1, c2, c3])); first | (refine hKK _ _ _ ?_; clear hKK KK; simp only [thenA, blockA, reduceIte]) | skip)
                  | (refine AWP.if_t ?_ ?_; focus (simp (disch := omega) [hok, hms, l1, l2, b1, i0, i1, i2, i3, c1, c2, c3]; done))
                  | (refine AWP.if_f ?_ ?_; focus (simp (disch := omega) [hok, hms, l1, l2, b1, i0, i1, i2, i3, c1, c2, c3]; done)))
              refine ⟨by simp, _, rfl, fin0 ⟨?_, rfl⟩ (by simp [resO, get, nms, nmss]; try (simp [nms, nmss] at hn; simp_all))⟩
              simp [resO, get, ren, rens, hr]
            · have hr : vaB ds bd a c = false := by rw [hra]; exact decide_eq_false fun h => c3 h.2.2
              have c3i : ¬ (B : Int) = 0 := by omega
              repeat' (first
                | refine AWP.seq ?_
                | refine AWP.block ?_
                | (refine AWP.skip ?_; simp only [thenA, blockA, reduceIte])
                | (refine AWP.exit ?_; simp only [thenA, blockA, eq_self, reduceIte, Nat.reduceEqDiff, Nat.succ_ne_zero])
                | (refine AWP.ret ?_; simp only [thenA, blockA, reduceIte])
                | (refine AWP.region (by rfl) (fun KK hKK => ?_); (repeat (simp (disch := omega) [hok, hms, l1, l2, b1, i0, i1, i2, i3, c1, c2, c3, c3i])); first | (refine hKK _ _ _ ?_; clear hKK KK; simp only [thenA, blockA, reduceIte]) | skip)
                | (refine AWP.if_t ?_ ?_; focus (simp (disch := omega) [hok, hms, l1, l2, b1, i0, i1, i2, i3, c1, c2, c3, c3i]; done))
                | (refine AWP.if_f ?_ ?_; focus (simp (disch := omega) [hok, hms, l1, l2, b1, i0, i1, i2, i3, c1, c2, c3, c3i]; done)))
              repeat
                first
                  | (refine aStop_of (maskS_c _ _ _ ds (by first | exact (Sl.whole (t := 133) (r := true) ((hσ' _ (by simp)).trans (by simp (disch := omega) only [upd_eq, upd_ne, del_ne])) (by simp [rowsD_len])) | exact ((hx'.vw ((Vw.refl _).over (by repeat (first | exact Over.refl _ | exact hov | refine Over.upd ?_ hB (by omega) | refine Over.del ?_ hB (by omega))))).on (hσ' _ (by simp))) | exact (Sl.whole (t := 133) (r := true) (by simp (disch := omega) only [upd_eq, upd_ne, del_ne]) (by simp [rowsD_len])) | exact (hx'.vw ((Vw.refl _).over (by repeat (first | exact Over.refl _ | exact hov | refine Over.upd ?_ hB (by omega) | refine Over.del ?_ hB (by omega)))))) hlen hi) ?_; rintro r δ ⟨rfl, rfl⟩)
                  | (refine aStop_of (validFlagS_c _ _ _ ds bd (by first | exact (Sl.whole (t := 133) (r := true) ((hσ' _ (by simp)).trans (by simp (disch := omega) only [upd_eq, upd_ne, del_ne])) (by simp [rowsD_len])) | exact ((hx'.vw ((Vw.refl _).over (by repeat (first | exact Over.refl _ | exact hov | refine Over.upd ?_ hB (by omega) | refine Over.del ?_ hB (by omega))))).on (hσ' _ (by simp))) | exact (Sl.whole (t := 133) (r := true) (by simp (disch := omega) only [upd_eq, upd_ne, del_ne]) (by simp [rowsD_len])) | exact (hx'.vw ((Vw.refl _).over (by repeat (first | exact Over.refl _ | exact hov | refine Over.upd ?_ hB (by omega) | refine Over.del ?_ hB (by omega)))))) hlen hsz) ?_; rintro r δ ⟨rfl, rfl⟩)
                  | (refine aStop_of (inRange_c _ _ _ _ _) ?_; rintro r δ ⟨rfl, rfl⟩)
                  | (refine aStop_of (less_c _ _ _ _ ⟨by omega, by omega⟩ ⟨by omega, by omega⟩) ?_; rintro r δ ⟨rfl, rfl⟩)
                  | (refine aStop_of (both_c _ _ _ _ ⟨by omega, by omega⟩ ⟨by omega, by omega⟩) ?_; rintro r δ ⟨rfl, rfl⟩)
                (repeat (simp (disch := omega) [hok, hms, l1, l2, b1, i0, i1, i2, i3, c1, c2, c3, c3i]))
                first | (refine dEnd_ro ?_ (hKK _ _ _ ?_); (focus (simp; done)); clear htab tab hKK KK; simp only [thenA, blockA, reduceIte]) | (refine dEnd_of ?_ (hKK _ _ _ ?_); (focus (simp only [List.reverse_cons, List.reverse_nil, List.nil_append, List.cons_append, memA, mem1, and_true, true_and]; (repeat' apply And.intro); (all_goals (first | trivial | (refine .inr ⟨?_, ?_⟩ <;> (simp; done)) | (refine .inr ⟨?_, ?_⟩ <;> (simp <;> omega)) | (refine .inl ?_; rw [htab]; kernel_rfl))); done)); clear htab tab hKK KK; simp only [thenA, blockA, reduceIte]) | (refine hKK _ _ _ ?_; clear hKK KK; simp only [thenA, blockA, reduceIte]) | skip
                repeat' (first
                  | refine AWP.seq ?_
                  | refine AWP.block ?_
                  | (refine AWP.skip ?_; simp only [thenA, blockA, reduceIte])
                  | (refine AWP.exit ?_; simp only [thenA, blockA, eq_self, reduceIte, Nat.reduceEqDiff, Nat.succ_ne_zero])
                  | (refine AWP.ret ?_; simp only [thenA, blockA, reduceIte])
                  | (refine AWP.region (by rfl) (fun KK hKK => ?_); (repeat (simp (disch := omega) [hok, hms, l1, l2, b1, i0, i1, i2, i3, c1, c2, c3, c3i])); first | (refine hKK _ _ _ ?_; clear hKK KK; simp only [thenA, blockA, reduceIte]) | skip)
                  | (refine AWP.if_t ?_ ?_; focus (simp (disch := omega) [hok, hms, l1, l2, b1, i0, i1, i2, i3, c1, c2, c3, c3i]; done))
                  | (refine AWP.if_f ?_ ?_; focus (simp (disch := omega) [hok, hms, l1, l2, b1, i0, i1, i2, i3, c1, c2, c3, c3i]; done)))
              refine ⟨by simp, _, rfl, fin0 ⟨?_, rfl⟩ (by simp [resO, get, nms, nmss]; try (simp [nms, nmss] at hn; simp_all))⟩
              simp [resO, get, ren, rens, hr]
          · have hr : vaB ds bd a c = false := by rw [hra]; exact decide_eq_false fun h => c2 h.2.1
            have c2i : ¬ (C : Int) = 0 := by omega
            repeat' (first
              | refine AWP.seq ?_
              | refine AWP.block ?_
              | (refine AWP.skip ?_; simp only [thenA, blockA, reduceIte])
              | (refine AWP.exit ?_; simp only [thenA, blockA, eq_self, reduceIte, Nat.reduceEqDiff, Nat.succ_ne_zero])
              | (refine AWP.ret ?_; simp only [thenA, blockA, reduceIte])
              | (refine AWP.region (by rfl) (fun KK hKK => ?_); (repeat (simp (disch := omega) [hok, hms, l1, l2, b1, i0, i1, i2, i3, c1, c2, c2i])); first | (refine hKK _ _ _ ?_; clear hKK KK; simp only [thenA, blockA, reduceIte]) | skip)
              | (refine AWP.if_t ?_ ?_; focus (simp (disch := omega) [hok, hms, l1, l2, b1, i0, i1, i2, i3, c1, c2, c2i]; done))
              | (refine AWP.if_f ?_ ?_; focus (simp (disch := omega) [hok, hms, l1, l2, b1, i0, i1, i2, i3, c1, c2, c2i]; done)))
            repeat
              first
                | (refine aStop_of (maskS_c _ _ _ ds (by first | exact (Sl.whole (t := 133) (r := true) ((hσ' _ (by simp)).trans (by simp (disch := omega) only [upd_eq, upd_ne, del_ne])) (by simp [rowsD_len])) | exact ((hx'.vw ((Vw.refl _).over (by repeat (first | exact Over.refl _ | exact hov | refine Over.upd ?_ hB (by omega) | refine Over.del ?_ hB (by omega))))).on (hσ' _ (by simp))) | exact (Sl.whole (t := 133) (r := true) (by simp (disch := omega) only [upd_eq, upd_ne, del_ne]) (by simp [rowsD_len])) | exact (hx'.vw ((Vw.refl _).over (by repeat (first | exact Over.refl _ | exact hov | refine Over.upd ?_ hB (by omega) | refine Over.del ?_ hB (by omega)))))) hlen hi) ?_; rintro r δ ⟨rfl, rfl⟩)
                | (refine aStop_of (validFlagS_c _ _ _ ds bd (by first | exact (Sl.whole (t := 133) (r := true) ((hσ' _ (by simp)).trans (by simp (disch := omega) only [upd_eq, upd_ne, del_ne])) (by simp [rowsD_len])) | exact ((hx'.vw ((Vw.refl _).over (by repeat (first | exact Over.refl _ | exact hov | refine Over.upd ?_ hB (by omega) | refine Over.del ?_ hB (by omega))))).on (hσ' _ (by simp))) | exact (Sl.whole (t := 133) (r := true) (by simp (disch := omega) only [upd_eq, upd_ne, del_ne]) (by simp [rowsD_len])) | exact (hx'.vw ((Vw.refl _).over (by repeat (first | exact Over.refl _ | exact hov | refine Over.upd ?_ hB (by omega) | refine Over.del ?_ hB (by omega)))))) hlen hsz) ?_; rintro r δ ⟨rfl, rfl⟩)
                | (refine aStop_of (inRange_c _ _ _ _ _) ?_; rintro r δ ⟨rfl, rfl⟩)
                | (refine aStop_of (less_c _ _ _ _ ⟨by omega, by omega⟩ ⟨by omega, by omega⟩) ?_; rintro r δ ⟨rfl, rfl⟩)
                | (refine aStop_of (both_c _ _ _ _ ⟨by omega, by omega⟩ ⟨by omega, by omega⟩) ?_; rintro r δ ⟨rfl, rfl⟩)
              (repeat (simp (disch := omega) [hok, hms, l1, l2, b1, i0, i1, i2, i3, c1, c2, c2i]))
              first | (refine dEnd_ro ?_ (hKK _ _ _ ?_); (focus (simp; done)); clear htab tab hKK KK; simp only [thenA, blockA, reduceIte]) | (refine dEnd_of ?_ (hKK _ _ _ ?_); (focus (simp only [List.reverse_cons, List.reverse_nil, List.nil_append, List.cons_append, memA, mem1, and_true, true_and]; (repeat' apply And.intro); (all_goals (first | trivial | (refine .inr ⟨?_, ?_⟩ <;> (simp; done)) | (refine .inr ⟨?_, ?_⟩ <;> (simp <;> omega)) | (refine .inl ?_; rw [htab]; kernel_rfl))); done)); clear htab tab hKK KK; simp only [thenA, blockA, reduceIte]) | (refine hKK _ _ _ ?_; clear hKK KK; simp only [thenA, blockA, reduceIte]) | skip
              repeat' (first
                | refine AWP.seq ?_
                | refine AWP.block ?_
                | (refine AWP.skip ?_; simp only [thenA, blockA, reduceIte])
                | (refine AWP.exit ?_; simp only [thenA, blockA, eq_self, reduceIte, Nat.reduceEqDiff, Nat.succ_ne_zero])
                | (refine AWP.ret ?_; simp only [thenA, blockA, reduceIte])
                | (refine AWP.region (by rfl) (fun KK hKK => ?_); (repeat (simp (disch := omega) [hok, hms, l1, l2, b1, i0, i1, i2, i3, c1, c2, c2i])); first | (refine hKK _ _ _ ?_; clear hKK KK; simp only [thenA, blockA, reduceIte]) | skip)
                | (refine AWP.if_t ?_ ?_; focus (simp (disch := omega) [hok, hms, l1, l2, b1, i0, i1, i2, i3, c1, c2, c2i]; done))
                | (refine AWP.if_f ?_ ?_; focus (simp (disch := omega) [hok, hms, l1, l2, b1, i0, i1, i2, i3, c1, c2, c2i]; done)))
            refine ⟨by simp, _, rfl, fin0 ⟨?_, rfl⟩ (by simp [resO, get, nms, nmss]; try (simp [nms, nmss] at hn; simp_all))⟩
            simp [resO, get, ren, rens, hr]
        · have hr : vaB ds bd a c = false := by rw [hra]; exact decide_eq_false fun h => c1 h.1
          have c1i : ¬ (A : Int) = 0 := by omega
          repeat' (first
            | refine AWP.seq ?_
            | refine AWP.block ?_
            | (refine AWP.skip ?_; simp only [thenA, blockA, reduceIte])
            | (refine AWP.exit ?_; simp only [thenA, blockA, eq_self, reduceIte, Nat.reduceEqDiff, Nat.succ_ne_zero])
            | (refine AWP.ret ?_; simp only [thenA, blockA, reduceIte])
            | (refine AWP.region (by rfl) (fun KK hKK => ?_); (repeat (simp (disch := omega) [hok, hms, l1, l2, b1, i0, i1, i2, i3, c1, c1i])); first | (refine hKK _ _ _ ?_; clear hKK KK; simp only [thenA, blockA, reduceIte]) | skip)
            | (refine AWP.if_t ?_ ?_; focus (simp (disch := omega) [hok, hms, l1, l2, b1, i0, i1, i2, i3, c1, c1i]; done))
            | (refine AWP.if_f ?_ ?_; focus (simp (disch := omega) [hok, hms, l1, l2, b1, i0, i1, i2, i3, c1, c1i]; done)))
          repeat
            first
              | (refine aStop_of (maskS_c _ _ _ ds (by first | exact (Sl.whole (t := 133) (r := true) ((hσ' _ (by simp)).trans (by simp (disch := omega) only [upd_eq, upd_ne, del_ne])) (by simp [rowsD_len])) | exact ((hx'.vw ((Vw.refl _).over (by repeat (first | exact Over.refl _ | exact hov | refine Over.upd ?_ hB (by omega) | refine Over.del ?_ hB (by omega))))).on (hσ' _ (by simp))) | exact (Sl.whole (t := 133) (r := true) (by simp (disch := omega) only [upd_eq, upd_ne, del_ne]) (by simp [rowsD_len])) | exact (hx'.vw ((Vw.refl _).over (by repeat (first | exact Over.refl _ | exact hov | refine Over.upd ?_ hB (by omega) | refine Over.del ?_ hB (by omega)))))) hlen hi) ?_; rintro r δ ⟨rfl, rfl⟩)
              | (refine aStop_of (validFlagS_c _ _ _ ds bd (by first | exact (Sl.whole (t := 133) (r := true) ((hσ' _ (by simp)).trans (by simp (disch := omega) only [upd_eq, upd_ne, del_ne])) (by simp [rowsD_len])) | exact ((hx'.vw ((Vw.refl _).over (by repeat (first | exact Over.refl _ | exact hov | refine Over.upd ?_ hB (by omega) | refine Over.del ?_ hB (by omega))))).on (hσ' _ (by simp))) | exact (Sl.whole (t := 133) (r := true) (by simp (disch := omega) only [upd_eq, upd_ne, del_ne]) (by simp [rowsD_len])) | exact (hx'.vw ((Vw.refl _).over (by repeat (first | exact Over.refl _ | exact hov | refine Over.upd ?_ hB (by omega) | refine Over.del ?_ hB (by omega)))))) hlen hsz) ?_; rintro r δ ⟨rfl, rfl⟩)
              | (refine aStop_of (inRange_c _ _ _ _ _) ?_; rintro r δ ⟨rfl, rfl⟩)
              | (refine aStop_of (less_c _ _ _ _ ⟨by omega, by omega⟩ ⟨by omega, by omega⟩) ?_; rintro r δ ⟨rfl, rfl⟩)
              | (refine aStop_of (both_c _ _ _ _ ⟨by omega, by omega⟩ ⟨by omega, by omega⟩) ?_; rintro r δ ⟨rfl, rfl⟩)
            (repeat (simp (disch := omega) [hok, hms, l1, l2, b1, i0, i1, i2, i3, c1, c1i]))
            first | (refine dEnd_ro ?_ (hKK _ _ _ ?_); (focus (simp; done)); clear htab tab hKK KK; simp only [thenA, blockA, reduceIte]) | (refine dEnd_of ?_ (hKK _ _ _ ?_); (focus (simp only [List.reverse_cons, List.reverse_nil, List.nil_append, List.cons_append, memA, mem1, and_true, true_and]; (repeat' apply And.intro); (all_goals (first | trivial | (refine .inr ⟨?_, ?_⟩ <;> (simp; done)) | (refine .inr ⟨?_, ?_⟩ <;> (simp <;> omega)) | (refine .inl ?_; rw [htab]; kernel_rfl))); done)); clear htab tab hKK KK; simp only [thenA, blockA, reduceIte]) | (refine hKK _ _ _ ?_; clear hKK KK; simp only [thenA, blockA, reduceIte]) | skip
            repeat' (first
              | refine AWP.seq ?_
              | refine AWP.block ?_
              | (refine AWP.skip ?_; simp only [thenA, blockA, reduceIte])
              | (refine AWP.exit ?_; simp only [thenA, blockA, eq_self, reduceIte, Nat.reduceEqDiff, Nat.succ_ne_zero])
              | (refine AWP.ret ?_; simp only [thenA, blockA, reduceIte])
              | (refine AWP.region (by rfl) (fun KK hKK => ?_); (repeat (simp (disch := omega) [hok, hms, l1, l2, b1, i0, i1, i2, i3, c1, c1i])); first | (refine hKK _ _ _ ?_; clear hKK KK; simp only [thenA, blockA, reduceIte]) | skip)
              | (refine AWP.if_t ?_ ?_; focus (simp (disch := omega) [hok, hms, l1, l2, b1, i0, i1, i2, i3, c1, c1i]; done))
              | (refine AWP.if_f ?_ ?_; focus (simp (disch := omega) [hok, hms, l1, l2, b1, i0, i1, i2, i3, c1, c1i]; done)))
          refine ⟨by simp, _, rfl, fin0 ⟨?_, rfl⟩ (by simp [resO, get, nms, nmss]; try (simp [nms, nmss] at hn; simp_all))⟩
          simp [resO, get, ren, rens, hr]
      · have hr : vaB ds bd p q = false := by
          cases h : vaB ds bd p q with
          | false => rfl
          | true =>
            obtain ⟨_, a, c, rfl, rfl, _, _, _⟩ := vaB_ok h
            exact absurd ⟨by omega, by omega⟩ hr2
        repeat' (first
          | refine AWP.seq ?_
          | refine AWP.block ?_
          | (refine AWP.skip ?_; simp only [thenA, blockA, reduceIte])
          | (refine AWP.exit ?_; simp only [thenA, blockA, eq_self, reduceIte, Nat.reduceEqDiff, Nat.succ_ne_zero])
          | (refine AWP.ret ?_; simp only [thenA, blockA, reduceIte])
          | (refine AWP.region (by rfl) (fun KK hKK => ?_); (repeat (simp (disch := omega) [hok, hr1, hr2])); first | (refine hKK _ _ _ ?_; clear hKK KK; simp only [thenA, blockA, reduceIte]) | skip)
          | (refine AWP.if_t ?_ ?_; focus (simp (disch := omega) [hok, hr1, hr2]; done))
          | (refine AWP.if_f ?_ ?_; focus (simp (disch := omega) [hok, hr1, hr2]; done)))
        repeat
          first
            | (refine aStop_of (maskS_c _ _ _ ds (by first | exact (Sl.whole (t := 133) (r := true) ((hσ' _ (by simp)).trans (by simp (disch := omega) only [upd_eq, upd_ne, del_ne])) (by simp [rowsD_len])) | exact ((hx'.vw ((Vw.refl _).over (by repeat (first | exact Over.refl _ | exact hov | refine Over.upd ?_ hB (by omega) | refine Over.del ?_ hB (by omega))))).on (hσ' _ (by simp))) | exact (Sl.whole (t := 133) (r := true) (by simp (disch := omega) only [upd_eq, upd_ne, del_ne]) (by simp [rowsD_len])) | exact (hx'.vw ((Vw.refl _).over (by repeat (first | exact Over.refl _ | exact hov | refine Over.upd ?_ hB (by omega) | refine Over.del ?_ hB (by omega)))))) hlen hi) ?_; rintro r δ ⟨rfl, rfl⟩)
            | (refine aStop_of (validFlagS_c _ _ _ ds bd (by first | exact (Sl.whole (t := 133) (r := true) ((hσ' _ (by simp)).trans (by simp (disch := omega) only [upd_eq, upd_ne, del_ne])) (by simp [rowsD_len])) | exact ((hx'.vw ((Vw.refl _).over (by repeat (first | exact Over.refl _ | exact hov | refine Over.upd ?_ hB (by omega) | refine Over.del ?_ hB (by omega))))).on (hσ' _ (by simp))) | exact (Sl.whole (t := 133) (r := true) (by simp (disch := omega) only [upd_eq, upd_ne, del_ne]) (by simp [rowsD_len])) | exact (hx'.vw ((Vw.refl _).over (by repeat (first | exact Over.refl _ | exact hov | refine Over.upd ?_ hB (by omega) | refine Over.del ?_ hB (by omega)))))) hlen hsz) ?_; rintro r δ ⟨rfl, rfl⟩)
            | (refine aStop_of (inRange_c _ _ _ _ _) ?_; rintro r δ ⟨rfl, rfl⟩)
          (repeat (simp (disch := omega) [hok, hr1, hr2]))
          first | (refine dEnd_ro ?_ (hKK _ _ _ ?_); (focus (simp; done)); clear htab tab hKK KK; simp only [thenA, blockA, reduceIte]) | (refine dEnd_of ?_ (hKK _ _ _ ?_); (focus (simp only [List.reverse_cons, List.reverse_nil, List.nil_append, List.cons_append, memA, mem1, and_true, true_and]; (repeat' apply And.intro); (all_goals (first | trivial | (refine .inr ⟨?_, ?_⟩ <;> (simp; done)) | (refine .inr ⟨?_, ?_⟩ <;> (simp <;> omega)) | (refine .inl ?_; rw [htab]; kernel_rfl))); done)); clear htab tab hKK KK; simp only [thenA, blockA, reduceIte]) | (refine hKK _ _ _ ?_; clear hKK KK; simp only [thenA, blockA, reduceIte]) | skip
          repeat' (first
            | refine AWP.seq ?_
            | refine AWP.block ?_
            | (refine AWP.skip ?_; simp only [thenA, blockA, reduceIte])
            | (refine AWP.exit ?_; simp only [thenA, blockA, eq_self, reduceIte, Nat.reduceEqDiff, Nat.succ_ne_zero])
            | (refine AWP.ret ?_; simp only [thenA, blockA, reduceIte])
            | (refine AWP.region (by rfl) (fun KK hKK => ?_); (repeat (simp (disch := omega) [hok, hr1, hr2])); first | (refine hKK _ _ _ ?_; clear hKK KK; simp only [thenA, blockA, reduceIte]) | skip)
            | (refine AWP.if_t ?_ ?_; focus (simp (disch := omega) [hok, hr1, hr2]; done))
            | (refine AWP.if_f ?_ ?_; focus (simp (disch := omega) [hok, hr1, hr2]; done)))
        refine ⟨by simp, _, rfl, fin0 ⟨?_, rfl⟩ (by simp [resO, get, nms, nmss]; try (simp [nms, nmss] at hn; simp_all))⟩
        simp [resO, get, ren, rens, hr]
    · have hr : vaB ds bd p q = false := by
        cases h : vaB ds bd p q with
        | false => rfl
        | true =>
          obtain ⟨_, a, c, rfl, rfl, _, _, _⟩ := vaB_ok h
          exact absurd ⟨by omega, by omega⟩ hr1
      repeat' (first
        | refine AWP.seq ?_
        | refine AWP.block ?_
        | (refine AWP.skip ?_; simp only [thenA, blockA, reduceIte])
        | (refine AWP.exit ?_; simp only [thenA, blockA, eq_self, reduceIte, Nat.reduceEqDiff, Nat.succ_ne_zero])
        | (refine AWP.ret ?_; simp only [thenA, blockA, reduceIte])
        | (refine AWP.region (by rfl) (fun KK hKK => ?_); (repeat (simp (disch := omega) [hok, hr1])); first | (refine hKK _ _ _ ?_; clear hKK KK; simp only [thenA, blockA, reduceIte]) | skip)
        | (refine AWP.if_t ?_ ?_; focus (simp (disch := omega) [hok, hr1]; done))
        | (refine AWP.if_f ?_ ?_; focus (simp (disch := omega) [hok, hr1]; done)))
      repeat
        first
          | (refine aStop_of (maskS_c _ _ _ ds (by first | exact (Sl.whole (t := 133) (r := true) ((hσ' _ (by simp)).trans (by simp (disch := omega) only [upd_eq, upd_ne, del_ne])) (by simp [rowsD_len])) | exact ((hx'.vw ((Vw.refl _).over (by repeat (first | exact Over.refl _ | exact hov | refine Over.upd ?_ hB (by omega) | refine Over.del ?_ hB (by omega))))).on (hσ' _ (by simp))) | exact (Sl.whole (t := 133) (r := true) (by simp (disch := omega) only [upd_eq, upd_ne, del_ne]) (by simp [rowsD_len])) | exact (hx'.vw ((Vw.refl _).over (by repeat (first | exact Over.refl _ | exact hov | refine Over.upd ?_ hB (by omega) | refine Over.del ?_ hB (by omega)))))) hlen hi) ?_; rintro r δ ⟨rfl, rfl⟩)
          | (refine aStop_of (validFlagS_c _ _ _ ds bd (by first | exact (Sl.whole (t := 133) (r := true) ((hσ' _ (by simp)).trans (by simp (disch := omega) only [upd_eq, upd_ne, del_ne])) (by simp [rowsD_len])) | exact ((hx'.vw ((Vw.refl _).over (by repeat (first | exact Over.refl _ | exact hov | refine Over.upd ?_ hB (by omega) | refine Over.del ?_ hB (by omega))))).on (hσ' _ (by simp))) | exact (Sl.whole (t := 133) (r := true) (by simp (disch := omega) only [upd_eq, upd_ne, del_ne]) (by simp [rowsD_len])) | exact (hx'.vw ((Vw.refl _).over (by repeat (first | exact Over.refl _ | exact hov | refine Over.upd ?_ hB (by omega) | refine Over.del ?_ hB (by omega)))))) hlen hsz) ?_; rintro r δ ⟨rfl, rfl⟩)
          | (refine aStop_of (inRange_c _ _ _ _ _) ?_; rintro r δ ⟨rfl, rfl⟩)
        (repeat (simp (disch := omega) [hok, hr1]))
        first | (refine dEnd_ro ?_ (hKK _ _ _ ?_); (focus (simp; done)); clear htab tab hKK KK; simp only [thenA, blockA, reduceIte]) | (refine dEnd_of ?_ (hKK _ _ _ ?_); (focus (simp only [List.reverse_cons, List.reverse_nil, List.nil_append, List.cons_append, memA, mem1, and_true, true_and]; (repeat' apply And.intro); (all_goals (first | trivial | (refine .inr ⟨?_, ?_⟩ <;> (simp; done)) | (refine .inr ⟨?_, ?_⟩ <;> (simp <;> omega)) | (refine .inl ?_; rw [htab]; kernel_rfl))); done)); clear htab tab hKK KK; simp only [thenA, blockA, reduceIte]) | (refine hKK _ _ _ ?_; clear hKK KK; simp only [thenA, blockA, reduceIte]) | skip
        repeat' (first
          | refine AWP.seq ?_
          | refine AWP.block ?_
          | (refine AWP.skip ?_; simp only [thenA, blockA, reduceIte])
          | (refine AWP.exit ?_; simp only [thenA, blockA, eq_self, reduceIte, Nat.reduceEqDiff, Nat.succ_ne_zero])
          | (refine AWP.ret ?_; simp only [thenA, blockA, reduceIte])
          | (refine AWP.region (by rfl) (fun KK hKK => ?_); (repeat (simp (disch := omega) [hok, hr1])); first | (refine hKK _ _ _ ?_; clear hKK KK; simp only [thenA, blockA, reduceIte]) | skip)
          | (refine AWP.if_t ?_ ?_; focus (simp (disch := omega) [hok, hr1]; done))
          | (refine AWP.if_f ?_ ?_; focus (simp (disch := omega) [hok, hr1]; done)))
      refine ⟨by simp, _, rfl, fin0 ⟨?_, rfl⟩ (by simp [resO, get, nms, nmss]; try (simp [nms, nmss] at hn; simp_all))⟩
      simp [resO, get, ren, rens, hr]

/-- Whether an arm matches a number. -/
def mtB (a b n : Nat) : Bool := decide (a &&& n = a) && decide (b &&& n = 0)
theorem dec_sub (a b : Nat) : decide (((a - (a &&& b) : Nat) : Int) = 0) = decide (a &&& b = a) := by
  rw [decide_eq_decide, ← sub_zero_iff]
  omega
set_option maxRecDepth 10000 in
set_option maxHeartbeats 1000000 in
theorem matches_c (σ : Sto) (ν : Nat) (a b n : Nat) (ha : a < 4096) (hb : b < 4096) (hn4 : n < 4096) :
    AC Try.prog 73 [armV a b, .v (.int .i64 n)] σ ν fun r δ => r = .v (.bool (mtB a b n)) ∧ δ = noS := by
  have e1 := i_andNot a n (by omega) (by omega)
  have e2 := i_and b n (by omega) (by omega)
  have hmt : mtB a b n = (decide (a - (a &&& n) = 0) && decide (b &&& n = 0)) := by
    unfold mtB
    congr 1
    rw [decide_eq_decide, sub_zero_iff]
  generalize a - (a &&& n) = A at *
  generalize b &&& n = B at *
  refine AC.intro [] ent_73 Try.func73 rfl (by simp [Try.f73]) (by simp) ?_
  intro K s hs hB hn hν hA hFr
  simp only [argT, Nat.zero_add, Nat.reduceAdd]
  by_cases c1 : A = 0
  · have c1i : (A : Int) = 0 := by omega
    repeat' (first
      | refine AWP.seq ?_
      | refine AWP.block ?_
      | (refine AWP.skip ?_; simp only [thenA, blockA, reduceIte])
      | (refine AWP.exit ?_; simp only [thenA, blockA, eq_self, reduceIte, Nat.reduceEqDiff, Nat.succ_ne_zero])
      | (refine AWP.ret ?_; simp only [thenA, blockA, reduceIte])
      | (refine AWP.region (by rfl) (fun KK hKK => ?_); (repeat (simp (disch := omega) [e1, e2, c1, c1i])); first | (refine hKK _ _ _ ?_; clear hKK KK; simp only [thenA, blockA, reduceIte]) | skip)
      | (refine AWP.if_t ?_ ?_; focus (simp (disch := omega) [e1, e2, c1, c1i]; done))
      | (refine AWP.if_f ?_ ?_; focus (simp (disch := omega) [e1, e2, c1, c1i]; done)))
    refine ⟨by simp, _, rfl, fin0 ⟨?_, rfl⟩ (by simp [resO, get, nms, nmss]; try (simp [nms, nmss] at hn; simp_all))⟩
    simp [resO, get, ren, rens, hmt, c1]
  · have c1i : ¬ (A : Int) = 0 := by omega
    repeat' (first
      | refine AWP.seq ?_
      | refine AWP.block ?_
      | (refine AWP.skip ?_; simp only [thenA, blockA, reduceIte])
      | (refine AWP.exit ?_; simp only [thenA, blockA, eq_self, reduceIte, Nat.reduceEqDiff, Nat.succ_ne_zero])
      | (refine AWP.ret ?_; simp only [thenA, blockA, reduceIte])
      | (refine AWP.region (by rfl) (fun KK hKK => ?_); (repeat (simp (disch := omega) [e1, e2, c1, c1i])); first | (refine hKK _ _ _ ?_; clear hKK KK; simp only [thenA, blockA, reduceIte]) | skip)
      | (refine AWP.if_t ?_ ?_; focus (simp (disch := omega) [e1, e2, c1, c1i]; done))
      | (refine AWP.if_f ?_ ?_; focus (simp (disch := omega) [e1, e2, c1, c1i]; done)))
    refine ⟨by simp, _, rfl, fin0 ⟨?_, rfl⟩ (by simp [resO, get, nms, nmss]; try (simp [nms, nmss] at hn; simp_all))⟩
    simp [resO, get, ren, rens, hmt, c1]
set_option maxRecDepth 10000 in
set_option maxHeartbeats 1000000 in
theorem matchesS_c (σ : Sto) (ν : Nat) (a b n : Nat) (ha : a < 4096) (hb : b < 4096) (hn4 : n < 4096) :
    AC Try.prog 86 [armV a b, .v (.int .i64 n)] σ ν fun r δ => r = .v (.bool (mtB a b n)) ∧ δ = noS := by
  have e1 := lessI_nat (a := a) (b := n) (by omega) (.inl ha)
  have e2 := bothI_nat (a := b) (b := n) (.inl hb)
  have hmt : mtB a b n = (decide (a - (a &&& n) = 0) && decide (b &&& n = 0)) := by
    unfold mtB
    congr 1
    rw [decide_eq_decide, sub_zero_iff]
  generalize a - (a &&& n) = A at *
  generalize b &&& n = B at *
  refine AC.intro [] ent_86 Try.func86 rfl (by simp [Try.f86]) (by simp) ?_
  intro K s hs hB hn hν hA hFr
  simp only [argT, Nat.zero_add, Nat.reduceAdd]
  by_cases c1 : A = 0
  · have c1i : (A : Int) = 0 := by omega
    repeat' (first
      | refine AWP.seq ?_
      | refine AWP.block ?_
      | (refine AWP.skip ?_; simp only [thenA, blockA, reduceIte])
      | (refine AWP.exit ?_; simp only [thenA, blockA, eq_self, reduceIte, Nat.reduceEqDiff, Nat.succ_ne_zero])
      | (refine AWP.ret ?_; simp only [thenA, blockA, reduceIte])
      | (refine AWP.region (by rfl) (fun KK hKK => ?_); (repeat (simp (disch := omega) [e1, e2, c1, c1i])); first | (refine hKK _ _ _ ?_; clear hKK KK; simp only [thenA, blockA, reduceIte]) | skip)
      | (refine AWP.if_t ?_ ?_; focus (simp (disch := omega) [e1, e2, c1, c1i]; done))
      | (refine AWP.if_f ?_ ?_; focus (simp (disch := omega) [e1, e2, c1, c1i]; done)))
    repeat
      first
        | (refine aStop_of (less_c _ _ _ _ ⟨by omega, by omega⟩ ⟨by omega, by omega⟩) ?_; rintro r δ ⟨rfl, rfl⟩)
        | (refine aStop_of (both_c _ _ _ _ ⟨by omega, by omega⟩ ⟨by omega, by omega⟩) ?_; rintro r δ ⟨rfl, rfl⟩)
      (repeat (simp (disch := omega) [e1, e2, c1, c1i]))
      first | (refine dEnd_ro ?_ (hKK _ _ _ ?_); (focus (simp; done)); clear htab tab hKK KK; simp only [thenA, blockA, reduceIte]) | (refine dEnd_of ?_ (hKK _ _ _ ?_); (focus (simp only [List.reverse_cons, List.reverse_nil, List.nil_append, List.cons_append, memA, mem1, and_true, true_and]; (repeat' apply And.intro); (all_goals (first | trivial | (refine .inr ⟨?_, ?_⟩ <;> (simp; done)) | (refine .inr ⟨?_, ?_⟩ <;> (simp <;> omega)) | (refine .inl ?_; rw [htab]; kernel_rfl))); done)); clear htab tab hKK KK; simp only [thenA, blockA, reduceIte]) | (refine hKK _ _ _ ?_; clear hKK KK; simp only [thenA, blockA, reduceIte]) | skip
      repeat' (first
        | refine AWP.seq ?_
        | refine AWP.block ?_
        | (refine AWP.skip ?_; simp only [thenA, blockA, reduceIte])
        | (refine AWP.exit ?_; simp only [thenA, blockA, eq_self, reduceIte, Nat.reduceEqDiff, Nat.succ_ne_zero])
        | (refine AWP.ret ?_; simp only [thenA, blockA, reduceIte])
        | (refine AWP.region (by rfl) (fun KK hKK => ?_); (repeat (simp (disch := omega) [e1, e2, c1, c1i])); first | (refine hKK _ _ _ ?_; clear hKK KK; simp only [thenA, blockA, reduceIte]) | skip)
        | (refine AWP.if_t ?_ ?_; focus (simp (disch := omega) [e1, e2, c1, c1i]; done))
        | (refine AWP.if_f ?_ ?_; focus (simp (disch := omega) [e1, e2, c1, c1i]; done)))
    refine ⟨by simp, _, rfl, fin0 ⟨?_, rfl⟩ (by simp [resO, get, nms, nmss]; try (simp [nms, nmss] at hn; simp_all))⟩
    simp [resO, get, ren, rens, hmt, c1]
  · have c1i : ¬ (A : Int) = 0 := by omega
    repeat' (first
      | refine AWP.seq ?_
      | refine AWP.block ?_
      | (refine AWP.skip ?_; simp only [thenA, blockA, reduceIte])
      | (refine AWP.exit ?_; simp only [thenA, blockA, eq_self, reduceIte, Nat.reduceEqDiff, Nat.succ_ne_zero])
      | (refine AWP.ret ?_; simp only [thenA, blockA, reduceIte])
      | (refine AWP.region (by rfl) (fun KK hKK => ?_); (repeat (simp (disch := omega) [e1, e2, c1, c1i])); first | (refine hKK _ _ _ ?_; clear hKK KK; simp only [thenA, blockA, reduceIte]) | skip)
      | (refine AWP.if_t ?_ ?_; focus (simp (disch := omega) [e1, e2, c1, c1i]; done))
      | (refine AWP.if_f ?_ ?_; focus (simp (disch := omega) [e1, e2, c1, c1i]; done)))
    repeat
      first
        | (refine aStop_of (less_c _ _ _ _ ⟨by omega, by omega⟩ ⟨by omega, by omega⟩) ?_; rintro r δ ⟨rfl, rfl⟩)
      (repeat (simp (disch := omega) [e1, e2, c1, c1i]))
      first | (refine dEnd_ro ?_ (hKK _ _ _ ?_); (focus (simp; done)); clear htab tab hKK KK; simp only [thenA, blockA, reduceIte]) | (refine dEnd_of ?_ (hKK _ _ _ ?_); (focus (simp only [List.reverse_cons, List.reverse_nil, List.nil_append, List.cons_append, memA, mem1, and_true, true_and]; (repeat' apply And.intro); (all_goals (first | trivial | (refine .inr ⟨?_, ?_⟩ <;> (simp; done)) | (refine .inr ⟨?_, ?_⟩ <;> (simp <;> omega)) | (refine .inl ?_; rw [htab]; kernel_rfl))); done)); clear htab tab hKK KK; simp only [thenA, blockA, reduceIte]) | (refine hKK _ _ _ ?_; clear hKK KK; simp only [thenA, blockA, reduceIte]) | skip
      repeat' (first
        | refine AWP.seq ?_
        | refine AWP.block ?_
        | (refine AWP.skip ?_; simp only [thenA, blockA, reduceIte])
        | (refine AWP.exit ?_; simp only [thenA, blockA, eq_self, reduceIte, Nat.reduceEqDiff, Nat.succ_ne_zero])
        | (refine AWP.ret ?_; simp only [thenA, blockA, reduceIte])
        | (refine AWP.region (by rfl) (fun KK hKK => ?_); (repeat (simp (disch := omega) [e1, e2, c1, c1i])); first | (refine hKK _ _ _ ?_; clear hKK KK; simp only [thenA, blockA, reduceIte]) | skip)
        | (refine AWP.if_t ?_ ?_; focus (simp (disch := omega) [e1, e2, c1, c1i]; done))
        | (refine AWP.if_f ?_ ?_; focus (simp (disch := omega) [e1, e2, c1, c1i]; done)))
    refine ⟨by simp, _, rfl, fin0 ⟨?_, rfl⟩ (by simp [resO, get, nms, nmss]; try (simp [nms, nmss] at hn; simp_all))⟩
    simp [resO, get, ren, rens, hmt, c1]
/-- Whether a valid arm matches a value. -/
def maB (ds : List Df) (bd p q n : Int) : Bool := vaB ds bd p q && isv ds bd n && mtB p.toNat q.toNat n.toNat
set_option maxRecDepth 10000 in
set_option maxHeartbeats 1000000 in
theorem matchArm_c (σ : Sto) (ν : Nat) (x : AV) (ds : List Df) (bd p q n : Int) (hx : Sl σ x 2 (rowsD ds)) (hlen : ds.length ≤ 9223372036854775807) (hsz : ∀ d ∈ ds, d.1.size ≤ 9223372036854775807) (hi : ∀ d ∈ ds, i64R d.2) (hp : i64R p) (hq : i64R q) :
    AC Try.prog 20 [.agg [x, .v (.int .i64 bd)], armV p q, .v (.int .i64 n)] σ ν fun r δ => r = .v (.bool (maB ds bd p q n)) ∧ δ = noS := by
  obtain ⟨bk, o, cap, z, rfl⟩ := hx.out
  refine AC.intro [] ent_20 Try.func20 rfl (by simp [Try.f20]) (by simp) ?_
  intro K s hs hB hn hν hA hFr
  simp only [argT, Nat.zero_add, Nat.reduceAdd]
  have hx' := hx.vw hs.vw
  cases hok : vaB ds bd p q with
  | false =>
    repeat' (first
      | refine AWP.seq ?_
      | refine AWP.block ?_
      | (refine AWP.skip ?_; simp only [thenA, blockA, reduceIte])
      | (refine AWP.exit ?_; simp only [thenA, blockA, eq_self, reduceIte, Nat.reduceEqDiff, Nat.succ_ne_zero])
      | (refine AWP.ret ?_; simp only [thenA, blockA, reduceIte])
      | (refine AWP.region (by rfl) (fun KK hKK => ?_); (repeat (simp (disch := omega) [hok])); first | (refine hKK _ _ _ ?_; clear hKK KK; simp only [thenA, blockA, reduceIte]) | skip)
      | (refine AWP.if_t ?_ ?_; focus (simp (disch := omega) [hok]; done))
      | (refine AWP.if_f ?_ ?_; focus (simp (disch := omega) [hok]; done)))
    repeat
      first
        | (refine aStop_of (validArm_c _ _ _ ds bd _ _ (by first | exact (Sl.whole (t := 133) (r := true) ((hσ' _ (by simp)).trans (by simp (disch := omega) only [upd_eq, upd_ne, del_ne])) (by simp [rowsD_len])) | exact ((hx'.vw ((Vw.refl _).over (by repeat (first | exact Over.refl _ | exact hov | refine Over.upd ?_ hB (by omega) | refine Over.del ?_ hB (by omega))))).on (hσ' _ (by simp))) | exact (Sl.whole (t := 133) (r := true) (by simp (disch := omega) only [upd_eq, upd_ne, del_ne]) (by simp [rowsD_len])) | exact (hx'.vw ((Vw.refl _).over (by repeat (first | exact Over.refl _ | exact hov | refine Over.upd ?_ hB (by omega) | refine Over.del ?_ hB (by omega)))))) hlen hsz  hp hq) ?_; rintro r δ ⟨rfl, rfl⟩)
      (repeat (simp (disch := omega) [hok]))
      first | (refine dEnd_ro ?_ (hKK _ _ _ ?_); (focus (simp; done)); clear htab tab hKK KK; simp only [thenA, blockA, reduceIte]) | (refine dEnd_of ?_ (hKK _ _ _ ?_); (focus (simp only [List.reverse_cons, List.reverse_nil, List.nil_append, List.cons_append, memA, mem1, and_true, true_and]; (repeat' apply And.intro); (all_goals (first | trivial | (refine .inr ⟨?_, ?_⟩ <;> (simp; done)) | (refine .inr ⟨?_, ?_⟩ <;> (simp <;> omega)) | (refine .inl ?_; rw [htab]; kernel_rfl))); done)); clear htab tab hKK KK; simp only [thenA, blockA, reduceIte]) | (refine hKK _ _ _ ?_; clear hKK KK; simp only [thenA, blockA, reduceIte]) | skip
      repeat' (first
        | refine AWP.seq ?_
        | refine AWP.block ?_
        | (refine AWP.skip ?_; simp only [thenA, blockA, reduceIte])
        | (refine AWP.exit ?_; simp only [thenA, blockA, eq_self, reduceIte, Nat.reduceEqDiff, Nat.succ_ne_zero])
        | (refine AWP.ret ?_; simp only [thenA, blockA, reduceIte])
        | (refine AWP.region (by rfl) (fun KK hKK => ?_); (repeat (simp (disch := omega) [hok])); first | (refine hKK _ _ _ ?_; clear hKK KK; simp only [thenA, blockA, reduceIte]) | skip)
        | (refine AWP.if_t ?_ ?_; focus (simp (disch := omega) [hok]; done))
        | (refine AWP.if_f ?_ ?_; focus (simp (disch := omega) [hok]; done)))
    refine ⟨by simp, _, rfl, fin0 ⟨?_, rfl⟩ (by simp [resO, get, nms, nmss]; try (simp [nms, nmss] at hn; simp_all))⟩
    simp [resO, get, ren, rens, maB, hok]
  | true =>
    obtain ⟨_, a, c, rfl, rfl, ha, hc, _⟩ := vaB_ok hok
    cases hiv : isv ds bd n with
    | false =>
      repeat' (first
        | refine AWP.seq ?_
        | refine AWP.block ?_
        | (refine AWP.skip ?_; simp only [thenA, blockA, reduceIte])
        | (refine AWP.exit ?_; simp only [thenA, blockA, eq_self, reduceIte, Nat.reduceEqDiff, Nat.succ_ne_zero])
        | (refine AWP.ret ?_; simp only [thenA, blockA, reduceIte])
        | (refine AWP.region (by rfl) (fun KK hKK => ?_); (repeat (simp (disch := omega) [hok, hiv])); first | (refine hKK _ _ _ ?_; clear hKK KK; simp only [thenA, blockA, reduceIte]) | skip)
        | (refine AWP.if_t ?_ ?_; focus (simp (disch := omega) [hok, hiv]; done))
        | (refine AWP.if_f ?_ ?_; focus (simp (disch := omega) [hok, hiv]; done)))
      repeat
        first
          | (refine aStop_of (validArm_c _ _ _ ds bd _ _ (by first | exact (Sl.whole (t := 133) (r := true) ((hσ' _ (by simp)).trans (by simp (disch := omega) only [upd_eq, upd_ne, del_ne])) (by simp [rowsD_len])) | exact ((hx'.vw ((Vw.refl _).over (by repeat (first | exact Over.refl _ | exact hov | refine Over.upd ?_ hB (by omega) | refine Over.del ?_ hB (by omega))))).on (hσ' _ (by simp))) | exact (Sl.whole (t := 133) (r := true) (by simp (disch := omega) only [upd_eq, upd_ne, del_ne]) (by simp [rowsD_len])) | exact (hx'.vw ((Vw.refl _).over (by repeat (first | exact Over.refl _ | exact hov | refine Over.upd ?_ hB (by omega) | refine Over.del ?_ hB (by omega)))))) hlen hsz  hp hq) ?_; rintro r δ ⟨rfl, rfl⟩)
          | (refine aStop_of (isValueI_c _ _ _ ds bd n (by first | exact (Sl.whole (t := 133) (r := true) ((hσ' _ (by simp)).trans (by simp (disch := omega) only [upd_eq, upd_ne, del_ne])) (by simp [rowsD_len])) | exact ((hx'.vw ((Vw.refl _).over (by repeat (first | exact Over.refl _ | exact hov | refine Over.upd ?_ hB (by omega) | refine Over.del ?_ hB (by omega))))).on (hσ' _ (by simp))) | exact (Sl.whole (t := 133) (r := true) (by simp (disch := omega) only [upd_eq, upd_ne, del_ne]) (by simp [rowsD_len])) | exact (hx'.vw ((Vw.refl _).over (by repeat (first | exact Over.refl _ | exact hov | refine Over.upd ?_ hB (by omega) | refine Over.del ?_ hB (by omega)))))) hlen hsz) ?_; rintro r δ ⟨rfl, rfl⟩)
        (repeat (simp (disch := omega) [hok, hiv]))
        first | (refine dEnd_ro ?_ (hKK _ _ _ ?_); (focus (simp; done)); clear htab tab hKK KK; simp only [thenA, blockA, reduceIte]) | (refine dEnd_of ?_ (hKK _ _ _ ?_); (focus (simp only [List.reverse_cons, List.reverse_nil, List.nil_append, List.cons_append, memA, mem1, and_true, true_and]; (repeat' apply And.intro); (all_goals (first | trivial | (refine .inr ⟨?_, ?_⟩ <;> (simp; done)) | (refine .inr ⟨?_, ?_⟩ <;> (simp <;> omega)) | (refine .inl ?_; rw [htab]; kernel_rfl))); done)); clear htab tab hKK KK; simp only [thenA, blockA, reduceIte]) | (refine hKK _ _ _ ?_; clear hKK KK; simp only [thenA, blockA, reduceIte]) | skip
        repeat' (first
          | refine AWP.seq ?_
          | refine AWP.block ?_
          | (refine AWP.skip ?_; simp only [thenA, blockA, reduceIte])
          | (refine AWP.exit ?_; simp only [thenA, blockA, eq_self, reduceIte, Nat.reduceEqDiff, Nat.succ_ne_zero])
          | (refine AWP.ret ?_; simp only [thenA, blockA, reduceIte])
          | (refine AWP.region (by rfl) (fun KK hKK => ?_); (repeat (simp (disch := omega) [hok, hiv])); first | (refine hKK _ _ _ ?_; clear hKK KK; simp only [thenA, blockA, reduceIte]) | skip)
          | (refine AWP.if_t ?_ ?_; focus (simp (disch := omega) [hok, hiv]; done))
          | (refine AWP.if_f ?_ ?_; focus (simp (disch := omega) [hok, hiv]; done)))
      refine ⟨by simp, _, rfl, fin0 ⟨?_, rfl⟩ (by simp [resO, get, nms, nmss]; try (simp [nms, nmss] at hn; simp_all))⟩
      simp [resO, get, ren, rens, maB, hok, hiv]
    | true =>
      obtain ⟨m, rfl, hm⟩ := isv_nat hiv
      repeat' (first
        | refine AWP.seq ?_
        | refine AWP.block ?_
        | (refine AWP.skip ?_; simp only [thenA, blockA, reduceIte])
        | (refine AWP.exit ?_; simp only [thenA, blockA, eq_self, reduceIte, Nat.reduceEqDiff, Nat.succ_ne_zero])
        | (refine AWP.ret ?_; simp only [thenA, blockA, reduceIte])
        | (refine AWP.region (by rfl) (fun KK hKK => ?_); (repeat (simp (disch := omega) [hok, hiv])); first | (refine hKK _ _ _ ?_; clear hKK KK; simp only [thenA, blockA, reduceIte]) | skip)
        | (refine AWP.if_t ?_ ?_; focus (simp (disch := omega) [hok, hiv]; done))
        | (refine AWP.if_f ?_ ?_; focus (simp (disch := omega) [hok, hiv]; done)))
      repeat
        first
          | (refine aStop_of (validArm_c _ _ _ ds bd _ _ (by first | exact (Sl.whole (t := 133) (r := true) ((hσ' _ (by simp)).trans (by simp (disch := omega) only [upd_eq, upd_ne, del_ne])) (by simp [rowsD_len])) | exact ((hx'.vw ((Vw.refl _).over (by repeat (first | exact Over.refl _ | exact hov | refine Over.upd ?_ hB (by omega) | refine Over.del ?_ hB (by omega))))).on (hσ' _ (by simp))) | exact (Sl.whole (t := 133) (r := true) (by simp (disch := omega) only [upd_eq, upd_ne, del_ne]) (by simp [rowsD_len])) | exact (hx'.vw ((Vw.refl _).over (by repeat (first | exact Over.refl _ | exact hov | refine Over.upd ?_ hB (by omega) | refine Over.del ?_ hB (by omega)))))) hlen hsz  hp hq) ?_; rintro r δ ⟨rfl, rfl⟩)
          | (refine aStop_of (isValueI_c _ _ _ ds bd _ (by first | exact (Sl.whole (t := 133) (r := true) ((hσ' _ (by simp)).trans (by simp (disch := omega) only [upd_eq, upd_ne, del_ne])) (by simp [rowsD_len])) | exact ((hx'.vw ((Vw.refl _).over (by repeat (first | exact Over.refl _ | exact hov | refine Over.upd ?_ hB (by omega) | refine Over.del ?_ hB (by omega))))).on (hσ' _ (by simp))) | exact (Sl.whole (t := 133) (r := true) (by simp (disch := omega) only [upd_eq, upd_ne, del_ne]) (by simp [rowsD_len])) | exact (hx'.vw ((Vw.refl _).over (by repeat (first | exact Over.refl _ | exact hov | refine Over.upd ?_ hB (by omega) | refine Over.del ?_ hB (by omega)))))) hlen hsz) ?_; rintro r δ ⟨rfl, rfl⟩)
          | (refine aStop_of (matches_c _ _ a c m ha hc hm) ?_; rintro r δ ⟨rfl, rfl⟩)
        (repeat (simp (disch := omega) [hok, hiv]))
        first | (refine dEnd_ro ?_ (hKK _ _ _ ?_); (focus (simp; done)); clear htab tab hKK KK; simp only [thenA, blockA, reduceIte]) | (refine dEnd_of ?_ (hKK _ _ _ ?_); (focus (simp only [List.reverse_cons, List.reverse_nil, List.nil_append, List.cons_append, memA, mem1, and_true, true_and]; (repeat' apply And.intro); (all_goals (first | trivial | (refine .inr ⟨?_, ?_⟩ <;> (simp; done)) | (refine .inr ⟨?_, ?_⟩ <;> (simp <;> omega)) | (refine .inl ?_; rw [htab]; kernel_rfl))); done)); clear htab tab hKK KK; simp only [thenA, blockA, reduceIte]) | (refine hKK _ _ _ ?_; clear hKK KK; simp only [thenA, blockA, reduceIte]) | skip
        repeat' (first
          | refine AWP.seq ?_
          | refine AWP.block ?_
          | (refine AWP.skip ?_; simp only [thenA, blockA, reduceIte])
          | (refine AWP.exit ?_; simp only [thenA, blockA, eq_self, reduceIte, Nat.reduceEqDiff, Nat.succ_ne_zero])
          | (refine AWP.ret ?_; simp only [thenA, blockA, reduceIte])
          | (refine AWP.region (by rfl) (fun KK hKK => ?_); (repeat (simp (disch := omega) [hok, hiv])); first | (refine hKK _ _ _ ?_; clear hKK KK; simp only [thenA, blockA, reduceIte]) | skip)
          | (refine AWP.if_t ?_ ?_; focus (simp (disch := omega) [hok, hiv]; done))
          | (refine AWP.if_f ?_ ?_; focus (simp (disch := omega) [hok, hiv]; done)))
      refine ⟨by simp, _, rfl, fin0 ⟨?_, rfl⟩ (by simp [resO, get, nms, nmss]; try (simp [nms, nmss] at hn; simp_all))⟩
      simp [resO, get, ren, rens, maB, hok, hiv]
set_option maxRecDepth 10000 in
set_option maxHeartbeats 1000000 in
theorem matchArmS_c (σ : Sto) (ν : Nat) (x : AV) (ds : List Df) (bd p q n : Int) (hx : Sl σ x 2 (rowsD ds)) (hlen : ds.length ≤ 9223372036854775807) (hsz : ∀ d ∈ ds, d.1.size ≤ 9223372036854775807) (hi : ∀ d ∈ ds, i64R d.2) (hp : i64R p) (hq : i64R q) :
    AC Try.prog 33 [.agg [x, .v (.int .i64 bd)], armV p q, .v (.int .i64 n)] σ ν fun r δ => r = .v (.bool (maB ds bd p q n)) ∧ δ = noS := by
  obtain ⟨bk, o, cap, z, rfl⟩ := hx.out
  refine AC.intro [] ent_33 Try.func33 rfl (by simp [Try.f33]) (by simp) ?_
  intro K s hs hB hn hν hA hFr
  simp only [argT, Nat.zero_add, Nat.reduceAdd]
  have hx' := hx.vw hs.vw
  cases hok : vaB ds bd p q with
  | false =>
    repeat' (first
      | refine AWP.seq ?_
      | refine AWP.block ?_
      | (refine AWP.skip ?_; simp only [thenA, blockA, reduceIte])
      | (refine AWP.exit ?_; simp only [thenA, blockA, eq_self, reduceIte, Nat.reduceEqDiff, Nat.succ_ne_zero])
      | (refine AWP.ret ?_; simp only [thenA, blockA, reduceIte])
      | (refine AWP.region (by rfl) (fun KK hKK => ?_); (repeat (simp (disch := omega) [hok])); first | (refine hKK _ _ _ ?_; clear hKK KK; simp only [thenA, blockA, reduceIte]) | skip)
      | (refine AWP.if_t ?_ ?_; focus (simp (disch := omega) [hok]; done))
      | (refine AWP.if_f ?_ ?_; focus (simp (disch := omega) [hok]; done)))
    repeat
      first
        | (refine aStop_of (validArmS_c _ _ _ ds bd _ _ (by first | exact (Sl.whole (t := 133) (r := true) ((hσ' _ (by simp)).trans (by simp (disch := omega) only [upd_eq, upd_ne, del_ne])) (by simp [rowsD_len])) | exact ((hx'.vw ((Vw.refl _).over (by repeat (first | exact Over.refl _ | exact hov | refine Over.upd ?_ hB (by omega) | refine Over.del ?_ hB (by omega))))).on (hσ' _ (by simp))) | exact (Sl.whole (t := 133) (r := true) (by simp (disch := omega) only [upd_eq, upd_ne, del_ne]) (by simp [rowsD_len])) | exact (hx'.vw ((Vw.refl _).over (by repeat (first | exact Over.refl _ | exact hov | refine Over.upd ?_ hB (by omega) | refine Over.del ?_ hB (by omega)))))) hlen hsz hi hp hq) ?_; rintro r δ ⟨rfl, rfl⟩)
      (repeat (simp (disch := omega) [hok]))
      first | (refine dEnd_ro ?_ (hKK _ _ _ ?_); (focus (simp; done)); clear htab tab hKK KK; simp only [thenA, blockA, reduceIte]) | (refine dEnd_of ?_ (hKK _ _ _ ?_); (focus (simp only [List.reverse_cons, List.reverse_nil, List.nil_append, List.cons_append, memA, mem1, and_true, true_and]; (repeat' apply And.intro); (all_goals (first | trivial | (refine .inr ⟨?_, ?_⟩ <;> (simp; done)) | (refine .inr ⟨?_, ?_⟩ <;> (simp <;> omega)) | (refine .inl ?_; rw [htab]; kernel_rfl))); done)); clear htab tab hKK KK; simp only [thenA, blockA, reduceIte]) | (refine hKK _ _ _ ?_; clear hKK KK; simp only [thenA, blockA, reduceIte]) | skip
      repeat' (first
        | refine AWP.seq ?_
        | refine AWP.block ?_
        | (refine AWP.skip ?_; simp only [thenA, blockA, reduceIte])
        | (refine AWP.exit ?_; simp only [thenA, blockA, eq_self, reduceIte, Nat.reduceEqDiff, Nat.succ_ne_zero])
        | (refine AWP.ret ?_; simp only [thenA, blockA, reduceIte])
        | (refine AWP.region (by rfl) (fun KK hKK => ?_); (repeat (simp (disch := omega) [hok])); first | (refine hKK _ _ _ ?_; clear hKK KK; simp only [thenA, blockA, reduceIte]) | skip)
        | (refine AWP.if_t ?_ ?_; focus (simp (disch := omega) [hok]; done))
        | (refine AWP.if_f ?_ ?_; focus (simp (disch := omega) [hok]; done)))
    refine ⟨by simp, _, rfl, fin0 ⟨?_, rfl⟩ (by simp [resO, get, nms, nmss]; try (simp [nms, nmss] at hn; simp_all))⟩
    simp [resO, get, ren, rens, maB, hok]
  | true =>
    obtain ⟨_, a, c, rfl, rfl, ha, hc, _⟩ := vaB_ok hok
    cases hiv : isv ds bd n with
    | false =>
      repeat' (first
        | refine AWP.seq ?_
        | refine AWP.block ?_
        | (refine AWP.skip ?_; simp only [thenA, blockA, reduceIte])
        | (refine AWP.exit ?_; simp only [thenA, blockA, eq_self, reduceIte, Nat.reduceEqDiff, Nat.succ_ne_zero])
        | (refine AWP.ret ?_; simp only [thenA, blockA, reduceIte])
        | (refine AWP.region (by rfl) (fun KK hKK => ?_); (repeat (simp (disch := omega) [hok, hiv])); first | (refine hKK _ _ _ ?_; clear hKK KK; simp only [thenA, blockA, reduceIte]) | skip)
        | (refine AWP.if_t ?_ ?_; focus (simp (disch := omega) [hok, hiv]; done))
        | (refine AWP.if_f ?_ ?_; focus (simp (disch := omega) [hok, hiv]; done)))
      repeat
        first
          | (refine aStop_of (validArmS_c _ _ _ ds bd _ _ (by first | exact (Sl.whole (t := 133) (r := true) ((hσ' _ (by simp)).trans (by simp (disch := omega) only [upd_eq, upd_ne, del_ne])) (by simp [rowsD_len])) | exact ((hx'.vw ((Vw.refl _).over (by repeat (first | exact Over.refl _ | exact hov | refine Over.upd ?_ hB (by omega) | refine Over.del ?_ hB (by omega))))).on (hσ' _ (by simp))) | exact (Sl.whole (t := 133) (r := true) (by simp (disch := omega) only [upd_eq, upd_ne, del_ne]) (by simp [rowsD_len])) | exact (hx'.vw ((Vw.refl _).over (by repeat (first | exact Over.refl _ | exact hov | refine Over.upd ?_ hB (by omega) | refine Over.del ?_ hB (by omega)))))) hlen hsz hi hp hq) ?_; rintro r δ ⟨rfl, rfl⟩)
          | (refine aStop_of (isValueS_c _ _ _ ds bd n (by first | exact (Sl.whole (t := 133) (r := true) ((hσ' _ (by simp)).trans (by simp (disch := omega) only [upd_eq, upd_ne, del_ne])) (by simp [rowsD_len])) | exact ((hx'.vw ((Vw.refl _).over (by repeat (first | exact Over.refl _ | exact hov | refine Over.upd ?_ hB (by omega) | refine Over.del ?_ hB (by omega))))).on (hσ' _ (by simp))) | exact (Sl.whole (t := 133) (r := true) (by simp (disch := omega) only [upd_eq, upd_ne, del_ne]) (by simp [rowsD_len])) | exact (hx'.vw ((Vw.refl _).over (by repeat (first | exact Over.refl _ | exact hov | refine Over.upd ?_ hB (by omega) | refine Over.del ?_ hB (by omega)))))) hlen hsz) ?_; rintro r δ ⟨rfl, rfl⟩)
        (repeat (simp (disch := omega) [hok, hiv]))
        first | (refine dEnd_ro ?_ (hKK _ _ _ ?_); (focus (simp; done)); clear htab tab hKK KK; simp only [thenA, blockA, reduceIte]) | (refine dEnd_of ?_ (hKK _ _ _ ?_); (focus (simp only [List.reverse_cons, List.reverse_nil, List.nil_append, List.cons_append, memA, mem1, and_true, true_and]; (repeat' apply And.intro); (all_goals (first | trivial | (refine .inr ⟨?_, ?_⟩ <;> (simp; done)) | (refine .inr ⟨?_, ?_⟩ <;> (simp <;> omega)) | (refine .inl ?_; rw [htab]; kernel_rfl))); done)); clear htab tab hKK KK; simp only [thenA, blockA, reduceIte]) | (refine hKK _ _ _ ?_; clear hKK KK; simp only [thenA, blockA, reduceIte]) | skip
        repeat' (first
          | refine AWP.seq ?_
          | refine AWP.block ?_
          | (refine AWP.skip ?_; simp only [thenA, blockA, reduceIte])
          | (refine AWP.exit ?_; simp only [thenA, blockA, eq_self, reduceIte, Nat.reduceEqDiff, Nat.succ_ne_zero])
          | (refine AWP.ret ?_; simp only [thenA, blockA, reduceIte])
          | (refine AWP.region (by rfl) (fun KK hKK => ?_); (repeat (simp (disch := omega) [hok, hiv])); first | (refine hKK _ _ _ ?_; clear hKK KK; simp only [thenA, blockA, reduceIte]) | skip)
          | (refine AWP.if_t ?_ ?_; focus (simp (disch := omega) [hok, hiv]; done))
          | (refine AWP.if_f ?_ ?_; focus (simp (disch := omega) [hok, hiv]; done)))
      refine ⟨by simp, _, rfl, fin0 ⟨?_, rfl⟩ (by simp [resO, get, nms, nmss]; try (simp [nms, nmss] at hn; simp_all))⟩
      simp [resO, get, ren, rens, maB, hok, hiv]
    | true =>
      obtain ⟨m, rfl, hm⟩ := isv_nat hiv
      repeat' (first
        | refine AWP.seq ?_
        | refine AWP.block ?_
        | (refine AWP.skip ?_; simp only [thenA, blockA, reduceIte])
        | (refine AWP.exit ?_; simp only [thenA, blockA, eq_self, reduceIte, Nat.reduceEqDiff, Nat.succ_ne_zero])
        | (refine AWP.ret ?_; simp only [thenA, blockA, reduceIte])
        | (refine AWP.region (by rfl) (fun KK hKK => ?_); (repeat (simp (disch := omega) [hok, hiv])); first | (refine hKK _ _ _ ?_; clear hKK KK; simp only [thenA, blockA, reduceIte]) | skip)
        | (refine AWP.if_t ?_ ?_; focus (simp (disch := omega) [hok, hiv]; done))
        | (refine AWP.if_f ?_ ?_; focus (simp (disch := omega) [hok, hiv]; done)))
      repeat
        first
          | (refine aStop_of (validArmS_c _ _ _ ds bd _ _ (by first | exact (Sl.whole (t := 133) (r := true) ((hσ' _ (by simp)).trans (by simp (disch := omega) only [upd_eq, upd_ne, del_ne])) (by simp [rowsD_len])) | exact ((hx'.vw ((Vw.refl _).over (by repeat (first | exact Over.refl _ | exact hov | refine Over.upd ?_ hB (by omega) | refine Over.del ?_ hB (by omega))))).on (hσ' _ (by simp))) | exact (Sl.whole (t := 133) (r := true) (by simp (disch := omega) only [upd_eq, upd_ne, del_ne]) (by simp [rowsD_len])) | exact (hx'.vw ((Vw.refl _).over (by repeat (first | exact Over.refl _ | exact hov | refine Over.upd ?_ hB (by omega) | refine Over.del ?_ hB (by omega)))))) hlen hsz hi hp hq) ?_; rintro r δ ⟨rfl, rfl⟩)
          | (refine aStop_of (isValueS_c _ _ _ ds bd _ (by first | exact (Sl.whole (t := 133) (r := true) ((hσ' _ (by simp)).trans (by simp (disch := omega) only [upd_eq, upd_ne, del_ne])) (by simp [rowsD_len])) | exact ((hx'.vw ((Vw.refl _).over (by repeat (first | exact Over.refl _ | exact hov | refine Over.upd ?_ hB (by omega) | refine Over.del ?_ hB (by omega))))).on (hσ' _ (by simp))) | exact (Sl.whole (t := 133) (r := true) (by simp (disch := omega) only [upd_eq, upd_ne, del_ne]) (by simp [rowsD_len])) | exact (hx'.vw ((Vw.refl _).over (by repeat (first | exact Over.refl _ | exact hov | refine Over.upd ?_ hB (by omega) | refine Over.del ?_ hB (by omega)))))) hlen hsz) ?_; rintro r δ ⟨rfl, rfl⟩)
          | (refine aStop_of (matchesS_c _ _ a c m ha hc hm) ?_; rintro r δ ⟨rfl, rfl⟩)
        (repeat (simp (disch := omega) [hok, hiv]))
        first | (refine dEnd_ro ?_ (hKK _ _ _ ?_); (focus (simp; done)); clear htab tab hKK KK; simp only [thenA, blockA, reduceIte]) | (refine dEnd_of ?_ (hKK _ _ _ ?_); (focus (simp only [List.reverse_cons, List.reverse_nil, List.nil_append, List.cons_append, memA, mem1, and_true, true_and]; (repeat' apply And.intro); (all_goals (first | trivial | (refine .inr ⟨?_, ?_⟩ <;> (simp; done)) | (refine .inr ⟨?_, ?_⟩ <;> (simp <;> omega)) | (refine .inl ?_; rw [htab]; kernel_rfl))); done)); clear htab tab hKK KK; simp only [thenA, blockA, reduceIte]) | (refine hKK _ _ _ ?_; clear hKK KK; simp only [thenA, blockA, reduceIte]) | skip
        repeat' (first
          | refine AWP.seq ?_
          | refine AWP.block ?_
          | (refine AWP.skip ?_; simp only [thenA, blockA, reduceIte])
          | (refine AWP.exit ?_; simp only [thenA, blockA, eq_self, reduceIte, Nat.reduceEqDiff, Nat.succ_ne_zero])
          | (refine AWP.ret ?_; simp only [thenA, blockA, reduceIte])
          | (refine AWP.region (by rfl) (fun KK hKK => ?_); (repeat (simp (disch := omega) [hok, hiv])); first | (refine hKK _ _ _ ?_; clear hKK KK; simp only [thenA, blockA, reduceIte]) | skip)
          | (refine AWP.if_t ?_ ?_; focus (simp (disch := omega) [hok, hiv]; done))
          | (refine AWP.if_f ?_ ?_; focus (simp (disch := omega) [hok, hiv]; done)))
      refine ⟨by simp, _, rfl, fin0 ⟨?_, rfl⟩ (by simp [resO, get, nms, nmss]; try (simp [nms, nmss] at hn; simp_all))⟩
      simp [resO, get, ren, rens, maB, hok, hiv]

/-- How many numbers an arm matches. -/
theorem pcF_sub : ∀ f m a, a &&& m = a → pcF f (m - a) + pcF f a = pcF f m
  | 0, _, _, _ => rfl
  | f + 1, m, a, h => by
    have d := Nat.and_div_two (a := a) (b := m)
    have b : (a &&& m) % 2 = 1 ↔ a % 2 = 1 ∧ m % 2 = 1 := Nat.and_mod_two_eq_one
    rw [h] at d b
    have hl : a ≤ m := by rw [← h]; exact Nat.and_le_right
    have hl2 : a / 2 ≤ m / 2 := by omega
    have ih := pcF_sub f (m / 2) (a / 2) d.symm
    have e1 : (m - a) / 2 = m / 2 - a / 2 := by omega
    have e2 : (m - a) % 2 + a % 2 = m % 2 := by omega
    simp only [pcF]
    rw [e1]
    omega
theorem pcN_arm {m a b : Nat} (h1 : a &&& m = a) (h2 : b &&& m = b) (h3 : a &&& b = 0) : pcN (m - (m &&& (a ||| b))) + pcN a + pcN b = pcN m := by
  have hs : m &&& (a ||| b) = a + b := by
    have e := or_and_add a b
    rw [Nat.and_comm, Nat.and_or_distrib_right, h1, h2]
    omega
  have hl1 : a ≤ m := by rw [← h1]; exact Nat.and_le_right
  have k1 := pcF_sub 12 m a h1
  have hb : b &&& (m - a) = b := by
    apply Nat.eq_of_testBit_eq
    intro i
    have t1 := tb_of h2 i
    have t3 : (a.testBit i && b.testBit i) = false := by rw [← Nat.testBit_and, h3, Nat.zero_testBit]
    have e : m - a = m ^^^ a := by
      have x := add_xor (m ^^^ a) a
      have y : (m ^^^ a) &&& a = 0 := by
        apply Nat.eq_of_testBit_eq
        intro j
        have t := tb_of h1 j
        rw [Nat.testBit_and, Nat.testBit_xor, Nat.zero_testBit]
        cases u : m.testBit j <;> cases v : a.testBit j <;> simp_all
      rw [y, Nat.xor_assoc, Nat.xor_self, Nat.xor_zero] at x
      omega
    rw [Nat.testBit_and, e, Nat.testBit_xor]
    cases u : m.testBit i <;> cases v : a.testBit i <;> cases w : b.testBit i <;> simp_all
  have k2 := pcF_sub 12 (m - a) b hb
  rw [hs, ← Nat.sub_sub]
  unfold pcN
  omega
end Go.Proofs.Ytbdehnjbglpfjaa
