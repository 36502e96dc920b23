/- Contracts: arms that cover, the least number that no arm matches. No condition but sizes. -/
import Derived.Test.YtbdehnjbglpfjaaA2
import Derived.Test.YtbdehnjbglpfjaaA4
import Derived.Test.YtbdehnjbglpfjaaF7
set_option linter.unusedSimpArgs false
set_option linter.unusedVariables false
namespace Go.Proofs.Ytbdehnjbglpfjaa
open Go Go.RowKit

def cvB (a c a2 c2 : Nat) : Bool := decide (a &&& a2 = a) && decide (c &&& c2 = c)
set_option maxRecDepth 10000 in
set_option maxHeartbeats 1000000 in
theorem covers_c (σ : Sto) (ν : Nat) (a c a2 c2 : Nat) (ha : a < 4096) (hc : c < 4096) (ha2 : a2 < 4096) (hc2 : c2 < 4096) :
    AC Try.prog 98 [armV a c, armV a2 c2] σ ν fun r δ => r = .v (.bool (cvB a c a2 c2)) ∧ δ = noS := by
  have e1 := i_andNot a a2 (by omega) (by omega)
  have e2 := i_andNot c c2 (by omega) (by omega)
  have hmt : cvB a c a2 c2 = (decide (a - (a &&& a2) = 0) && decide (c - (c &&& c2) = 0)) := by
    unfold cvB
    congr 1
    · rw [decide_eq_decide, sub_zero_iff]
    · rw [decide_eq_decide, sub_zero_iff]
  generalize a - (a &&& a2) = A at *
  generalize c - (c &&& c2) = B at *
  refine AC.intro [] ent_98 Try.func98 rfl (by simp [Try.f98]) (by simp) ?_
  intro K s hs hB hn hν hA hFr
  simp only [argT, Nat.zero_add, Nat.reduceAdd]
  by_cases c1 : A = 0
  · have c1i : (A : Int) = 0 := by omega
    repeat' (first
      | refine AWP.seq ?_
      | refine AWP.block ?_
      | (refine AWP.skip ?_; simp only [thenA, blockA, reduceIte])
      | (refine AWP.exit ?_; simp only [thenA, blockA, eq_self, reduceIte, Nat.reduceEqDiff, Nat.succ_ne_zero])
      | (refine AWP.ret ?_; simp only [thenA, blockA, reduceIte])
      | (refine AWP.region (by rfl) (fun KK hKK => ?_); (repeat (simp (disch := omega) [e1, e2, c1, c1i])); first | (refine hKK _ _ _ ?_; clear hKK KK; simp only [thenA, blockA, reduceIte]) | skip)
      | (refine AWP.if_t ?_ ?_; focus (simp (disch := omega) [e1, e2, c1, c1i]; done))
      | (refine AWP.if_f ?_ ?_; focus (simp (disch := omega) [e1, e2, c1, c1i]; done)))
    repeat
      first
        | (refine aStop_of (less_c _ _ a a2 ⟨by omega, by omega⟩ ⟨by omega, by omega⟩) ?_; rintro r δ ⟨rfl, rfl⟩)
        | (refine aStop_of (less_c _ _ c c2 ⟨by omega, by omega⟩ ⟨by omega, by omega⟩) ?_; rintro r δ ⟨rfl, rfl⟩)
      (repeat (simp (disch := omega) [e1, e2, c1, c1i]))
      first | (refine dEnd_ro ?_ (hKK _ _ _ ?_); (focus (simp; done)); clear htab tab hKK KK; simp only [thenA, blockA, reduceIte]) | (refine dEnd_of ?_ (hKK _ _ _ ?_); (focus (simp only [List.reverse_cons, List.reverse_nil, List.nil_append, List.cons_append, memA, mem1, and_true, true_and]; (repeat' apply And.intro); (all_goals (first | trivial | (refine .inr ⟨?_, ?_⟩ <;> (simp; done)) | (refine .inr ⟨?_, ?_⟩ <;> (simp <;> omega)) | (refine .inl ?_; rw [htab]; kernel_rfl))); done)); clear htab tab hKK KK; simp only [thenA, blockA, reduceIte]) | (refine hKK _ _ _ ?_; clear hKK KK; simp only [thenA, blockA, reduceIte]) | skip
      repeat' (first
        | refine AWP.seq ?_
        | refine AWP.block ?_
        | (refine AWP.skip ?_; simp only [thenA, blockA, reduceIte])
        | (refine AWP.exit ?_; simp only [thenA, blockA, eq_self, reduceIte, Nat.reduceEqDiff, Nat.succ_ne_zero])
        | (refine AWP.ret ?_; simp only [thenA, blockA, reduceIte])
        | (refine AWP.region (by rfl) (fun KK hKK => ?_); (repeat (simp (disch := omega) [e1, e2, c1, c1i])); first | (refine hKK _ _ _ ?_; clear hKK KK; simp only [thenA, blockA, reduceIte]) | skip)
        | (refine AWP.if_t ?_ ?_; focus (simp (disch := omega) [e1, e2, c1, c1i]; done))
        | (refine AWP.if_f ?_ ?_; focus (simp (disch := omega) [e1, e2, c1, c1i]; done)))
    refine ⟨by simp, _, rfl, fin0 ⟨?_, rfl⟩ (by simp [resO, get, nms, nmss]; try (simp [nms, nmss] at hn; simp_all))⟩
    simp [resO, get, ren, rens, hmt, c1]
  · have c1i : ¬ (A : Int) = 0 := by omega
    repeat' (first
      | refine AWP.seq ?_
      | refine AWP.block ?_
      | (refine AWP.skip ?_; simp only [thenA, blockA, reduceIte])
      | (refine AWP.exit ?_; simp only [thenA, blockA, eq_self, reduceIte, Nat.reduceEqDiff, Nat.succ_ne_zero])
      | (refine AWP.ret ?_; simp only [thenA, blockA, reduceIte])
      | (refine AWP.region (by rfl) (fun KK hKK => ?_); (repeat (simp (disch := omega) [e1, e2, c1, c1i])); first | (refine hKK _ _ _ ?_; clear hKK KK; simp only [thenA, blockA, reduceIte]) | skip)
      | (refine AWP.if_t ?_ ?_; focus (simp (disch := omega) [e1, e2, c1, c1i]; done))
      | (refine AWP.if_f ?_ ?_; focus (simp (disch := omega) [e1, e2, c1, c1i]; done)))
    repeat
      first
        | (refine aStop_of (less_c _ _ a a2 ⟨by omega, by omega⟩ ⟨by omega, by omega⟩) ?_; rintro r δ ⟨rfl, rfl⟩)
      (repeat (simp (disch := omega) [e1, e2, c1, c1i]))
      first | (refine dEnd_ro ?_ (hKK _ _ _ ?_); (focus (simp; done)); clear htab tab hKK KK; simp only [thenA, blockA, reduceIte]) | (refine dEnd_of ?_ (hKK _ _ _ ?_); (focus (simp only [List.reverse_cons, List.reverse_nil, List.nil_append, List.cons_append, memA, mem1, and_true, true_and]; (repeat' apply And.intro); (all_goals (first | trivial | (refine .inr ⟨?_, ?_⟩ <;> (simp; done)) | (refine .inr ⟨?_, ?_⟩ <;> (simp <;> omega)) | (refine .inl ?_; rw [htab]; kernel_rfl))); done)); clear htab tab hKK KK; simp only [thenA, blockA, reduceIte]) | (refine hKK _ _ _ ?_; clear hKK KK; simp only [thenA, blockA, reduceIte]) | skip
      repeat' (first
        | refine AWP.seq ?_
        | refine AWP.block ?_
        | (refine AWP.skip ?_; simp only [thenA, blockA, reduceIte])
        | (refine AWP.exit ?_; simp only [thenA, blockA, eq_self, reduceIte, Nat.reduceEqDiff, Nat.succ_ne_zero])
        | (refine AWP.ret ?_; simp only [thenA, blockA, reduceIte])
        | (refine AWP.region (by rfl) (fun KK hKK => ?_); (repeat (simp (disch := omega) [e1, e2, c1, c1i])); first | (refine hKK _ _ _ ?_; clear hKK KK; simp only [thenA, blockA, reduceIte]) | skip)
        | (refine AWP.if_t ?_ ?_; focus (simp (disch := omega) [e1, e2, c1, c1i]; done))
        | (refine AWP.if_f ?_ ?_; focus (simp (disch := omega) [e1, e2, c1, c1i]; done)))
    refine ⟨by simp, _, rfl, fin0 ⟨?_, rfl⟩ (by simp [resO, get, nms, nmss]; try (simp [nms, nmss] at hn; simp_all))⟩
    simp [resO, get, ren, rens, hmt, c1]
set_option maxRecDepth 10000 in
set_option maxHeartbeats 1000000 in
theorem coversS_c (σ : Sto) (ν : Nat) (a c a2 c2 : Nat) (ha : a < 4096) (hc : c < 4096) (ha2 : a2 < 4096) (hc2 : c2 < 4096) :
    AC Try.prog 99 [armV a c, armV a2 c2] σ ν fun r δ => r = .v (.bool (cvB a c a2 c2)) ∧ δ = noS := by
  have e1 := lessI_nat (a := a) (b := a2) (by omega) (.inl ha)
  have e2 := lessI_nat (a := c) (b := c2) (by omega) (.inl hc)
  have hmt : cvB a c a2 c2 = (decide (a - (a &&& a2) = 0) && decide (c - (c &&& c2) = 0)) := by
    unfold cvB
    congr 1
    · rw [decide_eq_decide, sub_zero_iff]
    · rw [decide_eq_decide, sub_zero_iff]
  generalize a - (a &&& a2) = A at *
  generalize c - (c &&& c2) = B at *
  refine AC.intro [] ent_99 Try.func99 rfl (by simp [Try.f99]) (by simp) ?_
  intro K s hs hB hn hν hA hFr
  simp only [argT, Nat.zero_add, Nat.reduceAdd]
  by_cases c1 : A = 0
  · have c1i : (A : Int) = 0 := by omega
    repeat' (first
      | refine AWP.seq ?_
      | refine AWP.block ?_
      | (refine AWP.skip ?_; simp only [thenA, blockA, reduceIte])
      | (refine AWP.exit ?_; simp only [thenA, blockA, eq_self, reduceIte, Nat.reduceEqDiff, Nat.succ_ne_zero])
      | (refine AWP.ret ?_; simp only [thenA, blockA, reduceIte])
      | (refine AWP.region (by rfl) (fun KK hKK => ?_); (repeat (simp (disch := omega) [e1, e2, c1, c1i])); first | (refine hKK _ _ _ ?_; clear hKK KK; simp only [thenA, blockA, reduceIte]) | skip)
      | (refine AWP.if_t ?_ ?_; focus (simp (disch := omega) [e1, e2, c1, c1i]; done))
      | (refine AWP.if_f ?_ ?_; focus (simp (disch := omega) [e1, e2, c1, c1i]; done)))
    repeat
      first
        | (refine aStop_of (less_c _ _ a a2 ⟨by omega, by omega⟩ ⟨by omega, by omega⟩) ?_; rintro r δ ⟨rfl, rfl⟩)
        | (refine aStop_of (less_c _ _ c c2 ⟨by omega, by omega⟩ ⟨by omega, by omega⟩) ?_; rintro r δ ⟨rfl, rfl⟩)
      (repeat (simp (disch := omega) [e1, e2, c1, c1i]))
      first | (refine dEnd_ro ?_ (hKK _ _ _ ?_); (focus (simp; done)); clear htab tab hKK KK; simp only [thenA, blockA, reduceIte]) | (refine dEnd_of ?_ (hKK _ _ _ ?_); (focus (simp only [List.reverse_cons, List.reverse_nil, List.nil_append, List.cons_append, memA, mem1, and_true, true_and]; (repeat' apply And.intro); (all_goals (first | trivial | (refine .inr ⟨?_, ?_⟩ <;> (simp; done)) | (refine .inr ⟨?_, ?_⟩ <;> (simp <;> omega)) | (refine .inl ?_; rw [htab]; kernel_rfl))); done)); clear htab tab hKK KK; simp only [thenA, blockA, reduceIte]) | (refine hKK _ _ _ ?_; clear hKK KK; simp only [thenA, blockA, reduceIte]) | skip
      repeat' (first
        | refine AWP.seq ?_
        | refine AWP.block ?_
        | (refine AWP.skip ?_; simp only [thenA, blockA, reduceIte])
        | (refine AWP.exit ?_; simp only [thenA, blockA, eq_self, reduceIte, Nat.reduceEqDiff, Nat.succ_ne_zero])
        | (refine AWP.ret ?_; simp only [thenA, blockA, reduceIte])
        | (refine AWP.region (by rfl) (fun KK hKK => ?_); (repeat (simp (disch := omega) [e1, e2, c1, c1i])); first | (refine hKK _ _ _ ?_; clear hKK KK; simp only [thenA, blockA, reduceIte]) | skip)
        | (refine AWP.if_t ?_ ?_; focus (simp (disch := omega) [e1, e2, c1, c1i]; done))
        | (refine AWP.if_f ?_ ?_; focus (simp (disch := omega) [e1, e2, c1, c1i]; done)))
    refine ⟨by simp, _, rfl, fin0 ⟨?_, rfl⟩ (by simp [resO, get, nms, nmss]; try (simp [nms, nmss] at hn; simp_all))⟩
    simp [resO, get, ren, rens, hmt, c1]
  · have c1i : ¬ (A : Int) = 0 := by omega
    repeat' (first
      | refine AWP.seq ?_
      | refine AWP.block ?_
      | (refine AWP.skip ?_; simp only [thenA, blockA, reduceIte])
      | (refine AWP.exit ?_; simp only [thenA, blockA, eq_self, reduceIte, Nat.reduceEqDiff, Nat.succ_ne_zero])
      | (refine AWP.ret ?_; simp only [thenA, blockA, reduceIte])
      | (refine AWP.region (by rfl) (fun KK hKK => ?_); (repeat (simp (disch := omega) [e1, e2, c1, c1i])); first | (refine hKK _ _ _ ?_; clear hKK KK; simp only [thenA, blockA, reduceIte]) | skip)
      | (refine AWP.if_t ?_ ?_; focus (simp (disch := omega) [e1, e2, c1, c1i]; done))
      | (refine AWP.if_f ?_ ?_; focus (simp (disch := omega) [e1, e2, c1, c1i]; done)))
    repeat
      first
        | (refine aStop_of (less_c _ _ a a2 ⟨by omega, by omega⟩ ⟨by omega, by omega⟩) ?_; rintro r δ ⟨rfl, rfl⟩)
      (repeat (simp (disch := omega) [e1, e2, c1, c1i]))
      first | (refine dEnd_ro ?_ (hKK _ _ _ ?_); (focus (simp; done)); clear htab tab hKK KK; simp only [thenA, blockA, reduceIte]) | (refine dEnd_of ?_ (hKK _ _ _ ?_); (focus (simp only [List.reverse_cons, List.reverse_nil, List.nil_append, List.cons_append, memA, mem1, and_true, true_and]; (repeat' apply And.intro); (all_goals (first | trivial | (refine .inr ⟨?_, ?_⟩ <;> (simp; done)) | (refine .inr ⟨?_, ?_⟩ <;> (simp <;> omega)) | (refine .inl ?_; rw [htab]; kernel_rfl))); done)); clear htab tab hKK KK; simp only [thenA, blockA, reduceIte]) | (refine hKK _ _ _ ?_; clear hKK KK; simp only [thenA, blockA, reduceIte]) | skip
      repeat' (first
        | refine AWP.seq ?_
        | refine AWP.block ?_
        | (refine AWP.skip ?_; simp only [thenA, blockA, reduceIte])
        | (refine AWP.exit ?_; simp only [thenA, blockA, eq_self, reduceIte, Nat.reduceEqDiff, Nat.succ_ne_zero])
        | (refine AWP.ret ?_; simp only [thenA, blockA, reduceIte])
        | (refine AWP.region (by rfl) (fun KK hKK => ?_); (repeat (simp (disch := omega) [e1, e2, c1, c1i])); first | (refine hKK _ _ _ ?_; clear hKK KK; simp only [thenA, blockA, reduceIte]) | skip)
        | (refine AWP.if_t ?_ ?_; focus (simp (disch := omega) [e1, e2, c1, c1i]; done))
        | (refine AWP.if_f ?_ ?_; focus (simp (disch := omega) [e1, e2, c1, c1i]; done)))
    refine ⟨by simp, _, rfl, fin0 ⟨?_, rfl⟩ (by simp [resO, get, nms, nmss]; try (simp [nms, nmss] at hn; simp_all))⟩
    simp [resO, get, ren, rens, hmt, c1]
set_option maxRecDepth 10000 in
set_option maxHeartbeats 2000000 in
theorem armCovers_c (σ : Sto) (ν : Nat) (x : AV) (ds : List Df) (bd p q p2 q2 : Int) (hx : Sl σ x 2 (rowsD ds)) (hlen : ds.length ≤ 9223372036854775807) (hsz : ∀ d ∈ ds, d.1.size ≤ 9223372036854775807) (hi : ∀ d ∈ ds, i64R d.2) (hp : i64R p) (hq : i64R q) (hp2 : i64R p2) (hq2 : i64R q2) :
    AC Try.prog 45 [.agg [x, .v (.int .i64 bd)], armV p q, armV p2 q2] σ ν fun r δ => r = .v (.bool (acB ds bd p q p2 q2)) ∧ δ = noS := by
  obtain ⟨bk, o, cap, z, rfl⟩ := hx.out
  refine AC.intro [] ent_45 Try.func45 rfl (by simp [Try.f45]) (by simp) ?_
  intro K s hs hB hn hν hA hFr
  simp only [argT, Nat.zero_add, Nat.reduceAdd]
  have hx' := hx.vw hs.vw
  cases h1 : vaB ds bd p q with
  | false =>
    repeat' (first
      | refine AWP.seq ?_
      | refine AWP.block ?_
      | (refine AWP.skip ?_; simp only [thenA, blockA, reduceIte])
      | (refine AWP.exit ?_; simp only [thenA, blockA, eq_self, reduceIte, Nat.reduceEqDiff, Nat.succ_ne_zero])
      | (refine AWP.ret ?_; simp only [thenA, blockA, reduceIte])
      | (refine AWP.region (by rfl) (fun KK hKK => ?_); (repeat (simp (disch := omega) [h1])); first | (refine hKK _ _ _ ?_; clear hKK KK; simp only [thenA, blockA, reduceIte]) | skip)
      | (refine AWP.if_t ?_ ?_; focus (simp (disch := omega) [h1]; done))
      | (refine AWP.if_f ?_ ?_; focus (simp (disch := omega) [h1]; done)))
    repeat
      first
        | (refine aStop_of (validArm_c _ _ _ ds bd p q (by first | exact (Sl.whole (t := 133) (r := true) ((hσ' _ (by simp)).trans (by simp (disch := omega) only [upd_eq, upd_ne, del_ne])) (by simp [rowsD_len])) | exact ((hx'.vw ((Vw.refl _).over (by repeat (first | exact Over.refl _ | exact hov | refine Over.upd ?_ hB (by omega) | refine Over.del ?_ hB (by omega))))).on (hσ' _ (by simp))) | exact (Sl.whole (t := 133) (r := true) (by simp (disch := omega) only [upd_eq, upd_ne, del_ne]) (by simp [rowsD_len])) | exact (hx'.vw ((Vw.refl _).over (by repeat (first | exact Over.refl _ | exact hov | refine Over.upd ?_ hB (by omega) | refine Over.del ?_ hB (by omega)))))) hlen hsz  hp hq) ?_; rintro r δ ⟨rfl, rfl⟩)
        | (refine dStop_roA (fun σ' hσ' => validArm_c σ' _ _ ds bd p q (by first | exact (Sl.whole (t := 133) (r := true) ((hσ' _ (by simp)).trans (by simp (disch := omega) only [upd_eq, upd_ne, del_ne])) (by simp [rowsD_len])) | exact ((hx'.vw ((Vw.refl _).over (by repeat (first | exact Over.refl _ | exact hov | refine Over.upd ?_ hB (by omega) | refine Over.del ?_ hB (by omega))))).on (hσ' _ (by simp))) | exact (Sl.whole (t := 133) (r := true) (by simp (disch := omega) only [upd_eq, upd_ne, del_ne]) (by simp [rowsD_len])) | exact (hx'.vw ((Vw.refl _).over (by repeat (first | exact Over.refl _ | exact hov | refine Over.upd ?_ hB (by omega) | refine Over.del ?_ hB (by omega)))))) hlen hsz  hp hq) ?_)
      (repeat (simp (disch := omega) [h1]))
      first | (refine dEnd_ro ?_ (hKK _ _ _ ?_); (focus (simp; done)); clear htab tab hKK KK; simp only [thenA, blockA, reduceIte]) | (refine dEnd_of ?_ (hKK _ _ _ ?_); (focus (simp only [List.reverse_cons, List.reverse_nil, List.nil_append, List.cons_append, memA, mem1, and_true, true_and]; (repeat' apply And.intro); (all_goals (first | trivial | (refine .inr ⟨?_, ?_⟩ <;> (simp; done)) | (refine .inr ⟨?_, ?_⟩ <;> (simp <;> omega)) | (refine .inl ?_; rw [htab]; kernel_rfl))); done)); clear htab tab hKK KK; simp only [thenA, blockA, reduceIte]) | (refine hKK _ _ _ ?_; clear hKK KK; simp only [thenA, blockA, reduceIte]) | skip
      repeat' (first
        | refine AWP.seq ?_
        | refine AWP.block ?_
        | (refine AWP.skip ?_; simp only [thenA, blockA, reduceIte])
        | (refine AWP.exit ?_; simp only [thenA, blockA, eq_self, reduceIte, Nat.reduceEqDiff, Nat.succ_ne_zero])
        | (refine AWP.ret ?_; simp only [thenA, blockA, reduceIte])
        | (refine AWP.region (by rfl) (fun KK hKK => ?_); (repeat (simp (disch := omega) [h1])); first | (refine hKK _ _ _ ?_; clear hKK KK; simp only [thenA, blockA, reduceIte]) | skip)
        | (refine AWP.if_t ?_ ?_; focus (simp (disch := omega) [h1]; done))
        | (refine AWP.if_f ?_ ?_; focus (simp (disch := omega) [h1]; done)))
    refine ⟨by simp, _, rfl, fin0 ⟨?_, rfl⟩ (by simp [resO, get, nms, nmss]; try (simp [nms, nmss] at hn; simp_all))⟩
    simp [resO, get, ren, rens, acB, h1]
  | true =>
    cases h2 : vaB ds bd p2 q2 with
    | false =>
      repeat' (first
        | refine AWP.seq ?_
        | refine AWP.block ?_
        | (refine AWP.skip ?_; simp only [thenA, blockA, reduceIte])
        | (refine AWP.exit ?_; simp only [thenA, blockA, eq_self, reduceIte, Nat.reduceEqDiff, Nat.succ_ne_zero])
        | (refine AWP.ret ?_; simp only [thenA, blockA, reduceIte])
        | (refine AWP.region (by rfl) (fun KK hKK => ?_); (repeat (simp (disch := omega) [h1, h2])); first | (refine hKK _ _ _ ?_; clear hKK KK; simp only [thenA, blockA, reduceIte]) | skip)
        | (refine AWP.if_t ?_ ?_; focus (simp (disch := omega) [h1, h2]; done))
        | (refine AWP.if_f ?_ ?_; focus (simp (disch := omega) [h1, h2]; done)))
      repeat
        first
          | (refine aStop_of (validArm_c _ _ _ ds bd p q (by first | exact (Sl.whole (t := 133) (r := true) ((hσ' _ (by simp)).trans (by simp (disch := omega) only [upd_eq, upd_ne, del_ne])) (by simp [rowsD_len])) | exact ((hx'.vw ((Vw.refl _).over (by repeat (first | exact Over.refl _ | exact hov | refine Over.upd ?_ hB (by omega) | refine Over.del ?_ hB (by omega))))).on (hσ' _ (by simp))) | exact (Sl.whole (t := 133) (r := true) (by simp (disch := omega) only [upd_eq, upd_ne, del_ne]) (by simp [rowsD_len])) | exact (hx'.vw ((Vw.refl _).over (by repeat (first | exact Over.refl _ | exact hov | refine Over.upd ?_ hB (by omega) | refine Over.del ?_ hB (by omega)))))) hlen hsz  hp hq) ?_; rintro r δ ⟨rfl, rfl⟩)
          | (refine dStop_roA (fun σ' hσ' => validArm_c σ' _ _ ds bd p q (by first | exact (Sl.whole (t := 133) (r := true) ((hσ' _ (by simp)).trans (by simp (disch := omega) only [upd_eq, upd_ne, del_ne])) (by simp [rowsD_len])) | exact ((hx'.vw ((Vw.refl _).over (by repeat (first | exact Over.refl _ | exact hov | refine Over.upd ?_ hB (by omega) | refine Over.del ?_ hB (by omega))))).on (hσ' _ (by simp))) | exact (Sl.whole (t := 133) (r := true) (by simp (disch := omega) only [upd_eq, upd_ne, del_ne]) (by simp [rowsD_len])) | exact (hx'.vw ((Vw.refl _).over (by repeat (first | exact Over.refl _ | exact hov | refine Over.upd ?_ hB (by omega) | refine Over.del ?_ hB (by omega)))))) hlen hsz  hp hq) ?_)
          | (refine aStop_of (validArm_c _ _ _ ds bd p2 q2 (by first | exact (Sl.whole (t := 133) (r := true) ((hσ' _ (by simp)).trans (by simp (disch := omega) only [upd_eq, upd_ne, del_ne])) (by simp [rowsD_len])) | exact ((hx'.vw ((Vw.refl _).over (by repeat (first | exact Over.refl _ | exact hov | refine Over.upd ?_ hB (by omega) | refine Over.del ?_ hB (by omega))))).on (hσ' _ (by simp))) | exact (Sl.whole (t := 133) (r := true) (by simp (disch := omega) only [upd_eq, upd_ne, del_ne]) (by simp [rowsD_len])) | exact (hx'.vw ((Vw.refl _).over (by repeat (first | exact Over.refl _ | exact hov | refine Over.upd ?_ hB (by omega) | refine Over.del ?_ hB (by omega)))))) hlen hsz  hp2 hq2) ?_; rintro r δ ⟨rfl, rfl⟩)
          | (refine dStop_roA (fun σ' hσ' => validArm_c σ' _ _ ds bd p2 q2 (by first | exact (Sl.whole (t := 133) (r := true) ((hσ' _ (by simp)).trans (by simp (disch := omega) only [upd_eq, upd_ne, del_ne])) (by simp [rowsD_len])) | exact ((hx'.vw ((Vw.refl _).over (by repeat (first | exact Over.refl _ | exact hov | refine Over.upd ?_ hB (by omega) | refine Over.del ?_ hB (by omega))))).on (hσ' _ (by simp))) | exact (Sl.whole (t := 133) (r := true) (by simp (disch := omega) only [upd_eq, upd_ne, del_ne]) (by simp [rowsD_len])) | exact (hx'.vw ((Vw.refl _).over (by repeat (first | exact Over.refl _ | exact hov | refine Over.upd ?_ hB (by omega) | refine Over.del ?_ hB (by omega)))))) hlen hsz  hp2 hq2) ?_)
        (repeat (simp (disch := omega) [h1, h2]))
        first | (refine dEnd_ro ?_ (hKK _ _ _ ?_); (focus (simp; done)); clear htab tab hKK KK; simp only [thenA, blockA, reduceIte]) | (refine dEnd_of ?_ (hKK _ _ _ ?_); (focus (simp only [List.reverse_cons, List.reverse_nil, List.nil_append, List.cons_append, memA, mem1, and_true, true_and]; (repeat' apply And.intro); (all_goals (first | trivial | (refine .inr ⟨?_, ?_⟩ <;> (simp; done)) | (refine .inr ⟨?_, ?_⟩ <;> (simp <;> omega)) | (refine .inl ?_; rw [htab]; kernel_rfl))); done)); clear htab tab hKK KK; simp only [thenA, blockA, reduceIte]) | (refine hKK _ _ _ ?_; clear hKK KK; simp only [thenA, blockA, reduceIte]) | skip
        repeat' (first
          | refine AWP.seq ?_
          | refine AWP.block ?_
          | (refine AWP.skip ?_; simp only [thenA, blockA, reduceIte])
          | (refine AWP.exit ?_; simp only [thenA, blockA, eq_self, reduceIte, Nat.reduceEqDiff, Nat.succ_ne_zero])
          | (refine AWP.ret ?_; simp only [thenA, blockA, reduceIte])
          | (refine AWP.region (by rfl) (fun KK hKK => ?_); (repeat (simp (disch := omega) [h1, h2])); first | (refine hKK _ _ _ ?_; clear hKK KK; simp only [thenA, blockA, reduceIte]) | skip)
          | (refine AWP.if_t ?_ ?_; focus (simp (disch := omega) [h1, h2]; done))
          | (refine AWP.if_f ?_ ?_; focus (simp (disch := omega) [h1, h2]; done)))
      refine ⟨by simp, _, rfl, fin0 ⟨?_, rfl⟩ (by simp [resO, get, nms, nmss]; try (simp [nms, nmss] at hn; simp_all))⟩
      simp [resO, get, ren, rens, acB, h1, h2]
    | true =>
      obtain ⟨_, a, c, rfl, rfl, ha, hc, _⟩ := vaB_ok h1
      obtain ⟨_, a2, c2, rfl, rfl, ha2, hc2, _⟩ := vaB_ok h2
      have hAm : acB ds bd a c a2 c2 = cvB a c a2 c2 := by simp [acB, cvB, h1, h2]
      repeat' (first
        | refine AWP.seq ?_
        | refine AWP.block ?_
        | (refine AWP.skip ?_; simp only [thenA, blockA, reduceIte])
        | (refine AWP.exit ?_; simp only [thenA, blockA, eq_self, reduceIte, Nat.reduceEqDiff, Nat.succ_ne_zero])
        | (refine AWP.ret ?_; simp only [thenA, blockA, reduceIte])
        | (refine AWP.region (by rfl) (fun KK hKK => ?_); (repeat (simp (disch := omega) [h1, h2])); first | (refine hKK _ _ _ ?_; clear hKK KK; simp only [thenA, blockA, reduceIte]) | skip)
        | (refine AWP.if_t ?_ ?_; focus (simp (disch := omega) [h1, h2]; done))
        | (refine AWP.if_f ?_ ?_; focus (simp (disch := omega) [h1, h2]; done)))
      repeat
        first
          | (refine aStop_of (validArm_c _ _ _ ds bd _ _ (by first | exact (Sl.whole (t := 133) (r := true) ((hσ' _ (by simp)).trans (by simp (disch := omega) only [upd_eq, upd_ne, del_ne])) (by simp [rowsD_len])) | exact ((hx'.vw ((Vw.refl _).over (by repeat (first | exact Over.refl _ | exact hov | refine Over.upd ?_ hB (by omega) | refine Over.del ?_ hB (by omega))))).on (hσ' _ (by simp))) | exact (Sl.whole (t := 133) (r := true) (by simp (disch := omega) only [upd_eq, upd_ne, del_ne]) (by simp [rowsD_len])) | exact (hx'.vw ((Vw.refl _).over (by repeat (first | exact Over.refl _ | exact hov | refine Over.upd ?_ hB (by omega) | refine Over.del ?_ hB (by omega)))))) hlen hsz  hp hq) ?_; rintro r δ ⟨rfl, rfl⟩)
          | (refine dStop_roA (fun σ' hσ' => validArm_c σ' _ _ ds bd _ _ (by first | exact (Sl.whole (t := 133) (r := true) ((hσ' _ (by simp)).trans (by simp (disch := omega) only [upd_eq, upd_ne, del_ne])) (by simp [rowsD_len])) | exact ((hx'.vw ((Vw.refl _).over (by repeat (first | exact Over.refl _ | exact hov | refine Over.upd ?_ hB (by omega) | refine Over.del ?_ hB (by omega))))).on (hσ' _ (by simp))) | exact (Sl.whole (t := 133) (r := true) (by simp (disch := omega) only [upd_eq, upd_ne, del_ne]) (by simp [rowsD_len])) | exact (hx'.vw ((Vw.refl _).over (by repeat (first | exact Over.refl _ | exact hov | refine Over.upd ?_ hB (by omega) | refine Over.del ?_ hB (by omega)))))) hlen hsz  hp hq) ?_)
          | (refine aStop_of (validArm_c _ _ _ ds bd _ _ (by first | exact (Sl.whole (t := 133) (r := true) ((hσ' _ (by simp)).trans (by simp (disch := omega) only [upd_eq, upd_ne, del_ne])) (by simp [rowsD_len])) | exact ((hx'.vw ((Vw.refl _).over (by repeat (first | exact Over.refl _ | exact hov | refine Over.upd ?_ hB (by omega) | refine Over.del ?_ hB (by omega))))).on (hσ' _ (by simp))) | exact (Sl.whole (t := 133) (r := true) (by simp (disch := omega) only [upd_eq, upd_ne, del_ne]) (by simp [rowsD_len])) | exact (hx'.vw ((Vw.refl _).over (by repeat (first | exact Over.refl _ | exact hov | refine Over.upd ?_ hB (by omega) | refine Over.del ?_ hB (by omega)))))) hlen hsz  hp2 hq2) ?_; rintro r δ ⟨rfl, rfl⟩)
          | (refine dStop_roA (fun σ' hσ' => validArm_c σ' _ _ ds bd _ _ (by first | exact (Sl.whole (t := 133) (r := true) ((hσ' _ (by simp)).trans (by simp (disch := omega) only [upd_eq, upd_ne, del_ne])) (by simp [rowsD_len])) | exact ((hx'.vw ((Vw.refl _).over (by repeat (first | exact Over.refl _ | exact hov | refine Over.upd ?_ hB (by omega) | refine Over.del ?_ hB (by omega))))).on (hσ' _ (by simp))) | exact (Sl.whole (t := 133) (r := true) (by simp (disch := omega) only [upd_eq, upd_ne, del_ne]) (by simp [rowsD_len])) | exact (hx'.vw ((Vw.refl _).over (by repeat (first | exact Over.refl _ | exact hov | refine Over.upd ?_ hB (by omega) | refine Over.del ?_ hB (by omega)))))) hlen hsz  hp2 hq2) ?_)
          | (refine aStop_of (covers_c _ _ a c a2 c2 ha hc ha2 hc2) ?_; rintro r δ ⟨rfl, rfl⟩)
          | (refine dStop_roA (fun σ' hσ' => covers_c σ' _ a c a2 c2 ha hc ha2 hc2) ?_)
        (repeat (simp (disch := omega) [h1, h2]))
        first | (refine dEnd_ro ?_ (hKK _ _ _ ?_); (focus (simp; done)); clear htab tab hKK KK; simp only [thenA, blockA, reduceIte]) | (refine dEnd_of ?_ (hKK _ _ _ ?_); (focus (simp only [List.reverse_cons, List.reverse_nil, List.nil_append, List.cons_append, memA, mem1, and_true, true_and]; (repeat' apply And.intro); (all_goals (first | trivial | (refine .inr ⟨?_, ?_⟩ <;> (simp; done)) | (refine .inr ⟨?_, ?_⟩ <;> (simp <;> omega)) | (refine .inl ?_; rw [htab]; kernel_rfl))); done)); clear htab tab hKK KK; simp only [thenA, blockA, reduceIte]) | (refine hKK _ _ _ ?_; clear hKK KK; simp only [thenA, blockA, reduceIte]) | skip
        repeat' (first
          | refine AWP.seq ?_
          | refine AWP.block ?_
          | (refine AWP.skip ?_; simp only [thenA, blockA, reduceIte])
          | (refine AWP.exit ?_; simp only [thenA, blockA, eq_self, reduceIte, Nat.reduceEqDiff, Nat.succ_ne_zero])
          | (refine AWP.ret ?_; simp only [thenA, blockA, reduceIte])
          | (refine AWP.region (by rfl) (fun KK hKK => ?_); (repeat (simp (disch := omega) [h1, h2])); first | (refine hKK _ _ _ ?_; clear hKK KK; simp only [thenA, blockA, reduceIte]) | skip)
          | (refine AWP.if_t ?_ ?_; focus (simp (disch := omega) [h1, h2]; done))
          | (refine AWP.if_f ?_ ?_; focus (simp (disch := omega) [h1, h2]; done)))
      refine ⟨by simp, _, rfl, fin0 ⟨?_, rfl⟩ (by simp [resO, get, nms, nmss]; try (simp [nms, nmss] at hn; simp_all))⟩
      simp [resO, get, ren, rens, hAm]
set_option maxRecDepth 10000 in
set_option maxHeartbeats 2000000 in
theorem armCoversS_c (σ : Sto) (ν : Nat) (x : AV) (ds : List Df) (bd p q p2 q2 : Int) (hx : Sl σ x 2 (rowsD ds)) (hlen : ds.length ≤ 9223372036854775807) (hsz : ∀ d ∈ ds, d.1.size ≤ 9223372036854775807) (hi : ∀ d ∈ ds, i64R d.2) (hp : i64R p) (hq : i64R q) (hp2 : i64R p2) (hq2 : i64R q2) :
    AC Try.prog 46 [.agg [x, .v (.int .i64 bd)], armV p q, armV p2 q2] σ ν fun r δ => r = .v (.bool (acB ds bd p q p2 q2)) ∧ δ = noS := by
  obtain ⟨bk, o, cap, z, rfl⟩ := hx.out
  refine AC.intro [] ent_46 Try.func46 rfl (by simp [Try.f46]) (by simp) ?_
  intro K s hs hB hn hν hA hFr
  simp only [argT, Nat.zero_add, Nat.reduceAdd]
  have hx' := hx.vw hs.vw
  cases h1 : vaB ds bd p q with
  | false =>
    repeat' (first
      | refine AWP.seq ?_
      | refine AWP.block ?_
      | (refine AWP.skip ?_; simp only [thenA, blockA, reduceIte])
      | (refine AWP.exit ?_; simp only [thenA, blockA, eq_self, reduceIte, Nat.reduceEqDiff, Nat.succ_ne_zero])
      | (refine AWP.ret ?_; simp only [thenA, blockA, reduceIte])
      | (refine AWP.region (by rfl) (fun KK hKK => ?_); (repeat (simp (disch := omega) [h1])); first | (refine hKK _ _ _ ?_; clear hKK KK; simp only [thenA, blockA, reduceIte]) | skip)
      | (refine AWP.if_t ?_ ?_; focus (simp (disch := omega) [h1]; done))
      | (refine AWP.if_f ?_ ?_; focus (simp (disch := omega) [h1]; done)))
    repeat
      first
        | (refine aStop_of (validArmS_c _ _ _ ds bd p q (by first | exact (Sl.whole (t := 133) (r := true) ((hσ' _ (by simp)).trans (by simp (disch := omega) only [upd_eq, upd_ne, del_ne])) (by simp [rowsD_len])) | exact ((hx'.vw ((Vw.refl _).over (by repeat (first | exact Over.refl _ | exact hov | refine Over.upd ?_ hB (by omega) | refine Over.del ?_ hB (by omega))))).on (hσ' _ (by simp))) | exact (Sl.whole (t := 133) (r := true) (by simp (disch := omega) only [upd_eq, upd_ne, del_ne]) (by simp [rowsD_len])) | exact (hx'.vw ((Vw.refl _).over (by repeat (first | exact Over.refl _ | exact hov | refine Over.upd ?_ hB (by omega) | refine Over.del ?_ hB (by omega)))))) hlen hsz hi hp hq) ?_; rintro r δ ⟨rfl, rfl⟩)
        | (refine dStop_roA (fun σ' hσ' => validArmS_c σ' _ _ ds bd p q (by first | exact (Sl.whole (t := 133) (r := true) ((hσ' _ (by simp)).trans (by simp (disch := omega) only [upd_eq, upd_ne, del_ne])) (by simp [rowsD_len])) | exact ((hx'.vw ((Vw.refl _).over (by repeat (first | exact Over.refl _ | exact hov | refine Over.upd ?_ hB (by omega) | refine Over.del ?_ hB (by omega))))).on (hσ' _ (by simp))) | exact (Sl.whole (t := 133) (r := true) (by simp (disch := omega) only [upd_eq, upd_ne, del_ne]) (by simp [rowsD_len])) | exact (hx'.vw ((Vw.refl _).over (by repeat (first | exact Over.refl _ | exact hov | refine Over.upd ?_ hB (by omega) | refine Over.del ?_ hB (by omega)))))) hlen hsz hi hp hq) ?_)
      (repeat (simp (disch := omega) [h1]))
      first | (refine dEnd_ro ?_ (hKK _ _ _ ?_); (focus (simp; done)); clear htab tab hKK KK; simp only [thenA, blockA, reduceIte]) | (refine dEnd_of ?_ (hKK _ _ _ ?_); (focus (simp only [List.reverse_cons, List.reverse_nil, List.nil_append, List.cons_append, memA, mem1, and_true, true_and]; (repeat' apply And.intro); (all_goals (first | trivial | (refine .inr ⟨?_, ?_⟩ <;> (simp; done)) | (refine .inr ⟨?_, ?_⟩ <;> (simp <;> omega)) | (refine .inl ?_; rw [htab]; kernel_rfl))); done)); clear htab tab hKK KK; simp only [thenA, blockA, reduceIte]) | (refine hKK _ _ _ ?_; clear hKK KK; simp only [thenA, blockA, reduceIte]) | skip
      repeat' (first
        | refine AWP.seq ?_
        | refine AWP.block ?_
        | (refine AWP.skip ?_; simp only [thenA, blockA, reduceIte])
        | (refine AWP.exit ?_; simp only [thenA, blockA, eq_self, reduceIte, Nat.reduceEqDiff, Nat.succ_ne_zero])
        | (refine AWP.ret ?_; simp only [thenA, blockA, reduceIte])
        | (refine AWP.region (by rfl) (fun KK hKK => ?_); (repeat (simp (disch := omega) [h1])); first | (refine hKK _ _ _ ?_; clear hKK KK; simp only [thenA, blockA, reduceIte]) | skip)
        | (refine AWP.if_t ?_ ?_; focus (simp (disch := omega) [h1]; done))
        | (refine AWP.if_f ?_ ?_; focus (simp (disch := omega) [h1]; done)))
    refine ⟨by simp, _, rfl, fin0 ⟨?_, rfl⟩ (by simp [resO, get, nms, nmss]; try (simp [nms, nmss] at hn; simp_all))⟩
    simp [resO, get, ren, rens, acB, h1]
  | true =>
    cases h2 : vaB ds bd p2 q2 with
    | false =>
      repeat' (first
        | refine AWP.seq ?_
        | refine AWP.block ?_
        | (refine AWP.skip ?_; simp only [thenA, blockA, reduceIte])
        | (refine AWP.exit ?_; simp only [thenA, blockA, eq_self, reduceIte, Nat.reduceEqDiff, Nat.succ_ne_zero])
        | (refine AWP.ret ?_; simp only [thenA, blockA, reduceIte])
        | (refine AWP.region (by rfl) (fun KK hKK => ?_); (repeat (simp (disch := omega) [h1, h2])); first | (refine hKK _ _ _ ?_; clear hKK KK; simp only [thenA, blockA, reduceIte]) | skip)
        | (refine AWP.if_t ?_ ?_; focus (simp (disch := omega) [h1, h2]; done))
        | (refine AWP.if_f ?_ ?_; focus (simp (disch := omega) [h1, h2]; done)))
      repeat
        first
          | (refine aStop_of (validArmS_c _ _ _ ds bd p q (by first | exact (Sl.whole (t := 133) (r := true) ((hσ' _ (by simp)).trans (by simp (disch := omega) only [upd_eq, upd_ne, del_ne])) (by simp [rowsD_len])) | exact ((hx'.vw ((Vw.refl _).over (by repeat (first | exact Over.refl _ | exact hov | refine Over.upd ?_ hB (by omega) | refine Over.del ?_ hB (by omega))))).on (hσ' _ (by simp))) | exact (Sl.whole (t := 133) (r := true) (by simp (disch := omega) only [upd_eq, upd_ne, del_ne]) (by simp [rowsD_len])) | exact (hx'.vw ((Vw.refl _).over (by repeat (first | exact Over.refl _ | exact hov | refine Over.upd ?_ hB (by omega) | refine Over.del ?_ hB (by omega)))))) hlen hsz hi hp hq) ?_; rintro r δ ⟨rfl, rfl⟩)
          | (refine dStop_roA (fun σ' hσ' => validArmS_c σ' _ _ ds bd p q (by first | exact (Sl.whole (t := 133) (r := true) ((hσ' _ (by simp)).trans (by simp (disch := omega) only [upd_eq, upd_ne, del_ne])) (by simp [rowsD_len])) | exact ((hx'.vw ((Vw.refl _).over (by repeat (first | exact Over.refl _ | exact hov | refine Over.upd ?_ hB (by omega) | refine Over.del ?_ hB (by omega))))).on (hσ' _ (by simp))) | exact (Sl.whole (t := 133) (r := true) (by simp (disch := omega) only [upd_eq, upd_ne, del_ne]) (by simp [rowsD_len])) | exact (hx'.vw ((Vw.refl _).over (by repeat (first | exact Over.refl _ | exact hov | refine Over.upd ?_ hB (by omega) | refine Over.del ?_ hB (by omega)))))) hlen hsz hi hp hq) ?_)
          | (refine aStop_of (validArmS_c _ _ _ ds bd p2 q2 (by first | exact (Sl.whole (t := 133) (r := true) ((hσ' _ (by simp)).trans (by simp (disch := omega) only [upd_eq, upd_ne, del_ne])) (by simp [rowsD_len])) | exact ((hx'.vw ((Vw.refl _).over (by repeat (first | exact Over.refl _ | exact hov | refine Over.upd ?_ hB (by omega) | refine Over.del ?_ hB (by omega))))).on (hσ' _ (by simp))) | exact (Sl.whole (t := 133) (r := true) (by simp (disch := omega) only [upd_eq, upd_ne, del_ne]) (by simp [rowsD_len])) | exact (hx'.vw ((Vw.refl _).over (by repeat (first | exact Over.refl _ | exact hov | refine Over.upd ?_ hB (by omega) | refine Over.del ?_ hB (by omega)))))) hlen hsz hi hp2 hq2) ?_; rintro r δ ⟨rfl, rfl⟩)
          | (refine dStop_roA (fun σ' hσ' => validArmS_c σ' _ _ ds bd p2 q2 (by first | exact (Sl.whole (t := 133) (r := true) ((hσ' _ (by simp)).trans (by simp (disch := omega) only [upd_eq, upd_ne, del_ne])) (by simp [rowsD_len])) | exact ((hx'.vw ((Vw.refl _).over (by repeat (first | exact Over.refl _ | exact hov | refine Over.upd ?_ hB (by omega) | refine Over.del ?_ hB (by omega))))).on (hσ' _ (by simp))) | exact (Sl.whole (t := 133) (r := true) (by simp (disch := omega) only [upd_eq, upd_ne, del_ne]) (by simp [rowsD_len])) | exact (hx'.vw ((Vw.refl _).over (by repeat (first | exact Over.refl _ | exact hov | refine Over.upd ?_ hB (by omega) | refine Over.del ?_ hB (by omega)))))) hlen hsz hi hp2 hq2) ?_)
        (repeat (simp (disch := omega) [h1, h2]))
        first | (refine dEnd_ro ?_ (hKK _ _ _ ?_); (focus (simp; done)); clear htab tab hKK KK; simp only [thenA, blockA, reduceIte]) | (refine dEnd_of ?_ (hKK _ _ _ ?_); (focus (simp only [List.reverse_cons, List.reverse_nil, List.nil_append, List.cons_append, memA, mem1, and_true, true_and]; (repeat' apply And.intro); (all_goals (first | trivial | (refine .inr ⟨?_, ?_⟩ <;> (simp; done)) | (refine .inr ⟨?_, ?_⟩ <;> (simp <;> omega)) | (refine .inl ?_; rw [htab]; kernel_rfl))); done)); clear htab tab hKK KK; simp only [thenA, blockA, reduceIte]) | (refine hKK _ _ _ ?_; clear hKK KK; simp only [thenA, blockA, reduceIte]) | skip
        repeat' (first
          | refine AWP.seq ?_
          | refine AWP.block ?_
          | (refine AWP.skip ?_; simp only [thenA, blockA, reduceIte])
          | (refine AWP.exit ?_; simp only [thenA, blockA, eq_self, reduceIte, Nat.reduceEqDiff, Nat.succ_ne_zero])
          | (refine AWP.ret ?_; simp only [thenA, blockA, reduceIte])
          | (refine AWP.region (by rfl) (fun KK hKK => ?_); (repeat (simp (disch := omega) [h1, h2])); first | (refine hKK _ _ _ ?_; clear hKK KK; simp only [thenA, blockA, reduceIte]) | skip)
          | (refine AWP.if_t ?_ ?_; focus (simp (disch := omega) [h1, h2]; done))
          | (refine AWP.if_f ?_ ?_; focus (simp (disch := omega) [h1, h2]; done)))
      refine ⟨by simp, _, rfl, fin0 ⟨?_, rfl⟩ (by simp [resO, get, nms, nmss]; try (simp [nms, nmss] at hn; simp_all))⟩
      simp [resO, get, ren, rens, acB, h1, h2]
    | true =>
      obtain ⟨_, a, c, rfl, rfl, ha, hc, _⟩ := vaB_ok h1
      obtain ⟨_, a2, c2, rfl, rfl, ha2, hc2, _⟩ := vaB_ok h2
      have hAm : acB ds bd a c a2 c2 = cvB a c a2 c2 := by simp [acB, cvB, h1, h2]
      repeat' (first
        | refine AWP.seq ?_
        | refine AWP.block ?_
        | (refine AWP.skip ?_; simp only [thenA, blockA, reduceIte])
        | (refine AWP.exit ?_; simp only [thenA, blockA, eq_self, reduceIte, Nat.reduceEqDiff, Nat.succ_ne_zero])
        | (refine AWP.ret ?_; simp only [thenA, blockA, reduceIte])
        | (refine AWP.region (by rfl) (fun KK hKK => ?_); (repeat (simp (disch := omega) [h1, h2])); first | (refine hKK _ _ _ ?_; clear hKK KK; simp only [thenA, blockA, reduceIte]) | skip)
        | (refine AWP.if_t ?_ ?_; focus (simp (disch := omega) [h1, h2]; done))
        | (refine AWP.if_f ?_ ?_; focus (simp (disch := omega) [h1, h2]; done)))
      repeat
        first
          | (refine aStop_of (validArmS_c _ _ _ ds bd _ _ (by first | exact (Sl.whole (t := 133) (r := true) ((hσ' _ (by simp)).trans (by simp (disch := omega) only [upd_eq, upd_ne, del_ne])) (by simp [rowsD_len])) | exact ((hx'.vw ((Vw.refl _).over (by repeat (first | exact Over.refl _ | exact hov | refine Over.upd ?_ hB (by omega) | refine Over.del ?_ hB (by omega))))).on (hσ' _ (by simp))) | exact (Sl.whole (t := 133) (r := true) (by simp (disch := omega) only [upd_eq, upd_ne, del_ne]) (by simp [rowsD_len])) | exact (hx'.vw ((Vw.refl _).over (by repeat (first | exact Over.refl _ | exact hov | refine Over.upd ?_ hB (by omega) | refine Over.del ?_ hB (by omega)))))) hlen hsz hi hp hq) ?_; rintro r δ ⟨rfl, rfl⟩)
          | (refine dStop_roA (fun σ' hσ' => validArmS_c σ' _ _ ds bd _ _ (by first | exact (Sl.whole (t := 133) (r := true) ((hσ' _ (by simp)).trans (by simp (disch := omega) only [upd_eq, upd_ne, del_ne])) (by simp [rowsD_len])) | exact ((hx'.vw ((Vw.refl _).over (by repeat (first | exact Over.refl _ | exact hov | refine Over.upd ?_ hB (by omega) | refine Over.del ?_ hB (by omega))))).on (hσ' _ (by simp))) | exact (Sl.whole (t := 133) (r := true) (by simp (disch := omega) only [upd_eq, upd_ne, del_ne]) (by simp [rowsD_len])) | exact (hx'.vw ((Vw.refl _).over (by repeat (first | exact Over.refl _ | exact hov | refine Over.upd ?_ hB (by omega) | refine Over.del ?_ hB (by omega)))))) hlen hsz hi hp hq) ?_)
          | (refine aStop_of (validArmS_c _ _ _ ds bd _ _ (by first | exact (Sl.whole (t := 133) (r := true) ((hσ' _ (by simp)).trans (by simp (disch := omega) only [upd_eq, upd_ne, del_ne])) (by simp [rowsD_len])) | exact ((hx'.vw ((Vw.refl _).over (by repeat (first | exact Over.refl _ | exact hov | refine Over.upd ?_ hB (by omega) | refine Over.del ?_ hB (by omega))))).on (hσ' _ (by simp))) | exact (Sl.whole (t := 133) (r := true) (by simp (disch := omega) only [upd_eq, upd_ne, del_ne]) (by simp [rowsD_len])) | exact (hx'.vw ((Vw.refl _).over (by repeat (first | exact Over.refl _ | exact hov | refine Over.upd ?_ hB (by omega) | refine Over.del ?_ hB (by omega)))))) hlen hsz hi hp2 hq2) ?_; rintro r δ ⟨rfl, rfl⟩)
          | (refine dStop_roA (fun σ' hσ' => validArmS_c σ' _ _ ds bd _ _ (by first | exact (Sl.whole (t := 133) (r := true) ((hσ' _ (by simp)).trans (by simp (disch := omega) only [upd_eq, upd_ne, del_ne])) (by simp [rowsD_len])) | exact ((hx'.vw ((Vw.refl _).over (by repeat (first | exact Over.refl _ | exact hov | refine Over.upd ?_ hB (by omega) | refine Over.del ?_ hB (by omega))))).on (hσ' _ (by simp))) | exact (Sl.whole (t := 133) (r := true) (by simp (disch := omega) only [upd_eq, upd_ne, del_ne]) (by simp [rowsD_len])) | exact (hx'.vw ((Vw.refl _).over (by repeat (first | exact Over.refl _ | exact hov | refine Over.upd ?_ hB (by omega) | refine Over.del ?_ hB (by omega)))))) hlen hsz hi hp2 hq2) ?_)
          | (refine aStop_of (coversS_c _ _ a c a2 c2 ha hc ha2 hc2) ?_; rintro r δ ⟨rfl, rfl⟩)
          | (refine dStop_roA (fun σ' hσ' => coversS_c σ' _ a c a2 c2 ha hc ha2 hc2) ?_)
        (repeat (simp (disch := omega) [h1, h2]))
        first | (refine dEnd_ro ?_ (hKK _ _ _ ?_); (focus (simp; done)); clear htab tab hKK KK; simp only [thenA, blockA, reduceIte]) | (refine dEnd_of ?_ (hKK _ _ _ ?_); (focus (simp only [List.reverse_cons, List.reverse_nil, List.nil_append, List.cons_append, memA, mem1, and_true, true_and]; (repeat' apply And.intro); (all_goals (first | trivial | (refine .inr ⟨?_, ?_⟩ <;> (simp; done)) | (refine .inr ⟨?_, ?_⟩ <;> (simp <;> omega)) | (refine .inl ?_; rw [htab]; kernel_rfl))); done)); clear htab tab hKK KK; simp only [thenA, blockA, reduceIte]) | (refine hKK _ _ _ ?_; clear hKK KK; simp only [thenA, blockA, reduceIte]) | skip
        repeat' (first
          | refine AWP.seq ?_
          | refine AWP.block ?_
          | (refine AWP.skip ?_; simp only [thenA, blockA, reduceIte])
          | (refine AWP.exit ?_; simp only [thenA, blockA, eq_self, reduceIte, Nat.reduceEqDiff, Nat.succ_ne_zero])
          | (refine AWP.ret ?_; simp only [thenA, blockA, reduceIte])
          | (refine AWP.region (by rfl) (fun KK hKK => ?_); (repeat (simp (disch := omega) [h1, h2])); first | (refine hKK _ _ _ ?_; clear hKK KK; simp only [thenA, blockA, reduceIte]) | skip)
          | (refine AWP.if_t ?_ ?_; focus (simp (disch := omega) [h1, h2]; done))
          | (refine AWP.if_f ?_ ?_; focus (simp (disch := omega) [h1, h2]; done)))
      refine ⟨by simp, _, rfl, fin0 ⟨?_, rfl⟩ (by simp [resO, get, nms, nmss]; try (simp [nms, nmss] at hn; simp_all))⟩
      simp [resO, get, ren, rens, hAm]

theorem ptL_nat {a k : Nat} {x : Int} (h : x ∈ ptL a k) : ∃ j : Nat, x = j ∧ j < k ∧ j &&& a = j := by
  unfold ptL at h
  obtain ⟨j, hj, rfl⟩ := List.mem_map.1 h
  obtain ⟨h1, h2⟩ := List.mem_filter.1 hj
  exact ⟨j, rfl, List.mem_range.1 h1, (sub_zero_iff _ _).1 (of_decide_eq_true h2)⟩
set_option maxRecDepth 10000 in
set_option maxHeartbeats 2000000 in
theorem inside_c (σ : Sto) (ν : Nat) (m : Nat) (hm : m < 4096) :
    AC Try.prog 97 [.v (.int .i64 m)] σ ν fun r δ => r = .sl ν 0 (ptL m (m + 1)).length none 1 ∧ δ = upd noS ν (blkI (ptL m (m + 1))) := by
  refine AC.intro [] ent_97 Try.func97 rfl (by simp [Try.f97]) (by simp) ?_
  intro K s hs hB hn hν hA hFr
  simp only [argT, Nat.zero_add, Nat.reduceAdd]
  repeat' (first
    | refine AWP.seq ?_
    | refine AWP.block ?_
    | (refine AWP.skip ?_; simp only [thenA, blockA, reduceIte])
    | (refine AWP.exit ?_; simp only [thenA, blockA, eq_self, reduceIte, Nat.reduceEqDiff, Nat.succ_ne_zero])
    | (refine AWP.ret ?_; simp only [thenA, blockA, reduceIte])
    | (refine AWP.region (by rfl) (fun KK hKK => ?_); (repeat (simp (disch := omega) [])); first | (refine hKK _ _ _ ?_; clear hKK KK; simp only [thenA, blockA, reduceIte]) | skip)
    | (refine AWP.if_t ?_ ?_; focus (simp (disch := omega) []; done))
    | (refine AWP.if_f ?_ ?_; focus (simp (disch := omega) []; done)))
  refine AWP.weak (Weak.virt 3 3 1 0 0 0 (by simp) (by omega)) ?_
  refine AWP.loop (fun n τ σ' M => ∃ (k cb : Nat), k ≤ m + 1 ∧ n = m + 1 - k ∧ τ = [(0, .v (.int .i64 m)), (3, .sl cb 0 (ptL m k).length none 1), (4, .v (.int .i64 k))] ∧ σ' cb = some (blkI (ptL m k)) ∧ K ≤ cb ∧ cb < M ∧ Over s σ')
    ⟨_, _, _, _, ⟨0, K, by omega, rfl, rfl, (by simp only [upd_eq]; rfl), by omega, by omega, (by repeat (first | exact Over.refl _ | exact hov | refine Over.upd ?_ hB (by omega) | refine Over.del ?_ hB (by omega)))⟩, Weak.tau (by simp [LQ, ptL])⟩ ?_
  rintro n τ σ' M ⟨k, cb, hk, rfl, rfl, hc0, hc1, hc2, hov⟩
  have hpl := ptL_len m k
  have hz1 : ((ptL m k).length + 1) * 8 ≤ 140737488355328 := by omega
  have hz2 : (ptL m k).length + 1 ≤ 4611686018427387904 := by omega
  by_cases hlt : k ≤ m
  · have hlti : (k : Int) ≤ m := by omega
    have hst := ptL_succ m k
    have han := i_andNot k m (by omega) (by omega)
    generalize hQ : k - (k &&& m) = Q at *
    by_cases hq : Q = 0
    · have hqi : (Q : Int) = 0 := by omega
      rw [if_pos hq] at hst
      repeat' (first
        | refine AWP.seq ?_
        | refine AWP.block ?_
        | (refine AWP.skip ?_; simp only [thenA, blockA, reduceIte])
        | (refine AWP.exit ?_; simp only [thenA, blockA, eq_self, reduceIte, Nat.reduceEqDiff, Nat.succ_ne_zero])
        | (refine AWP.ret ?_; simp only [thenA, blockA, reduceIte])
        | (refine AWP.region (by rfl) (fun KK hKK => ?_); (repeat (simp (disch := omega) [hlt, hlti, han, hq, hqi, elems, rowsI_len, rowsI_snoc, rowsI_take, hz1, hz2, hc0])); first | (refine hKK _ _ _ ?_; clear hKK KK; simp only [thenA, blockA, reduceIte]) | skip)
        | (refine AWP.if_t ?_ ?_; focus (simp (disch := omega) [hlt, hlti, han, hq, hqi, elems, rowsI_len, rowsI_snoc, rowsI_take, hz1, hz2, hc0]; done))
        | (refine AWP.if_f ?_ ?_; focus (simp (disch := omega) [hlt, hlti, han, hq, hqi, elems, rowsI_len, rowsI_snoc, rowsI_take, hz1, hz2, hc0]; done)))
      skip
      repeat' (first
        | refine AWP.seq ?_
        | refine AWP.block ?_
        | (refine AWP.skip ?_; simp only [thenA, blockA, reduceIte])
        | (refine AWP.exit ?_; simp only [thenA, blockA, eq_self, reduceIte, Nat.reduceEqDiff, Nat.succ_ne_zero])
        | (refine AWP.ret ?_; simp only [thenA, blockA, reduceIte])
        | (refine AWP.region (by rfl) (fun KK hKK => ?_); (repeat (simp (disch := omega) [elems, rowsI_len, rowsI_snoc, rowsI_take, hz1, hz2, hc0])); first | (refine hKK _ _ _ ?_; clear hKK KK; simp only [thenA, blockA, reduceIte]) | skip)
        | (refine AWP.if_t ?_ ?_; focus (simp (disch := omega) [elems, rowsI_len, rowsI_snoc, rowsI_take, hz1, hz2, hc0]; done))
        | (refine AWP.if_f ?_ ?_; focus (simp (disch := omega) [elems, rowsI_len, rowsI_snoc, rowsI_take, hz1, hz2, hc0]; done)))
      refine ⟨_, _, _, _, ?_, ⟨k + 1, M + 1, by omega, rfl, rfl, by rw [hst]; simp (disch := omega) only [upd_eq, upd_ne, del_ne], by omega, by omega, (by repeat (first | exact Over.refl _ | exact hov | refine Over.upd ?_ hB (by omega) | refine Over.del ?_ hB (by omega)))⟩, Weak.tau (by rw [hst]; simp [LQ])⟩
      omega
    · have hqi : ¬ (Q : Int) = 0 := by omega
      rw [if_neg hq] at hst
      repeat' (first
        | refine AWP.seq ?_
        | refine AWP.block ?_
        | (refine AWP.skip ?_; simp only [thenA, blockA, reduceIte])
        | (refine AWP.exit ?_; simp only [thenA, blockA, eq_self, reduceIte, Nat.reduceEqDiff, Nat.succ_ne_zero])
        | (refine AWP.ret ?_; simp only [thenA, blockA, reduceIte])
        | (refine AWP.region (by rfl) (fun KK hKK => ?_); (repeat (simp (disch := omega) [hlt, hlti, han, hq, hqi])); first | (refine hKK _ _ _ ?_; clear hKK KK; simp only [thenA, blockA, reduceIte]) | skip)
        | (refine AWP.if_t ?_ ?_; focus (simp (disch := omega) [hlt, hlti, han, hq, hqi]; done))
        | (refine AWP.if_f ?_ ?_; focus (simp (disch := omega) [hlt, hlti, han, hq, hqi]; done)))
      skip
      repeat' (first
        | refine AWP.seq ?_
        | refine AWP.block ?_
        | (refine AWP.skip ?_; simp only [thenA, blockA, reduceIte])
        | (refine AWP.exit ?_; simp only [thenA, blockA, eq_self, reduceIte, Nat.reduceEqDiff, Nat.succ_ne_zero])
        | (refine AWP.ret ?_; simp only [thenA, blockA, reduceIte])
        | (refine AWP.region (by rfl) (fun KK hKK => ?_); (repeat (simp (disch := omega) [])); first | (refine hKK _ _ _ ?_; clear hKK KK; simp only [thenA, blockA, reduceIte]) | skip)
        | (refine AWP.if_t ?_ ?_; focus (simp (disch := omega) []; done))
        | (refine AWP.if_f ?_ ?_; focus (simp (disch := omega) []; done)))
      refine ⟨_, _, _, _, ?_, ⟨k + 1, cb, by omega, rfl, rfl, by rw [hst]; simp (disch := omega) only [upd_eq, upd_ne, del_ne, hc0], by omega, by omega, (by repeat (first | exact Over.refl _ | exact hov | refine Over.upd ?_ hB (by omega) | refine Over.del ?_ hB (by omega)))⟩, Weak.tau (by rw [hst]; simp [LQ])⟩
      omega
  · have hk' : k = m + 1 := by omega
    subst hk'
    have hlti : ¬ (m : Int) + 1 ≤ m := by omega
    repeat' (first
      | refine AWP.seq ?_
      | refine AWP.block ?_
      | (refine AWP.skip ?_; simp only [thenA, blockA, reduceIte])
      | (refine AWP.exit ?_; simp only [thenA, blockA, eq_self, reduceIte, Nat.reduceEqDiff, Nat.succ_ne_zero])
      | (refine AWP.ret ?_; simp only [thenA, blockA, reduceIte])
      | (refine AWP.region (by rfl) (fun KK hKK => ?_); (repeat (simp (disch := omega) [hlt, hlti])); first | (refine hKK _ _ _ ?_; clear hKK KK; simp only [thenA, blockA, reduceIte]) | skip)
      | (refine AWP.if_t ?_ ?_; focus (simp (disch := omega) [hlt, hlti]; done))
      | (refine AWP.if_f ?_ ?_; focus (simp (disch := omega) [hlt, hlti]; done)))
    refine ⟨by simp, _, rfl, fin1 cb (blkI (ptL m (m + 1))) (by simp (disch := omega) only [upd_eq, upd_ne, del_ne, hc0]; try rfl) rfl (flatI _) ⟨by simp [resO, get, ren, rho], rfl⟩ (by omega) (by simp [resO, get, nms])⟩
set_option maxRecDepth 10000 in
set_option maxHeartbeats 2000000 in
theorem partsIn_c (σ : Sto) (ν : Nat) (m : Nat) (hm : m < 4096) :
    AC Try.prog 96 [.v (.int .i64 m)] σ ν fun r δ => r = .sl ν 0 (ptL m (m + 1)).length none 1 ∧ δ = upd noS ν (blkI (ptL m (m + 1))) := by
  refine AC.intro [] ent_96 Try.func96 rfl (by simp [Try.f96]) (by simp) ?_
  intro K s hs hB hn hν hA hFr
  simp only [argT, Nat.zero_add, Nat.reduceAdd]
  repeat' (first
    | refine AWP.seq ?_
    | refine AWP.block ?_
    | (refine AWP.skip ?_; simp only [thenA, blockA, reduceIte])
    | (refine AWP.exit ?_; simp only [thenA, blockA, eq_self, reduceIte, Nat.reduceEqDiff, Nat.succ_ne_zero])
    | (refine AWP.ret ?_; simp only [thenA, blockA, reduceIte])
    | (refine AWP.region (by rfl) (fun KK hKK => ?_); (repeat (simp (disch := omega) [])); first | (refine hKK _ _ _ ?_; clear hKK KK; simp only [thenA, blockA, reduceIte]) | skip)
    | (refine AWP.if_t ?_ ?_; focus (simp (disch := omega) []; done))
    | (refine AWP.if_f ?_ ?_; focus (simp (disch := omega) []; done)))
  refine AWP.weak (Weak.virt 3 3 1 0 0 0 (by simp) (by omega)) ?_
  refine AWP.loop (fun n τ σ' M => ∃ (k cb : Nat), k ≤ m + 1 ∧ n = m + 1 - k ∧ τ = [(0, .v (.int .i64 m)), (3, .sl cb 0 (ptL m k).length none 1), (4, .v (.int .i64 k))] ∧ σ' cb = some (blkI (ptL m k)) ∧ K ≤ cb ∧ cb < M ∧ Over s σ')
    ⟨_, _, _, _, ⟨0, K, by omega, rfl, rfl, (by simp only [upd_eq]; rfl), by omega, by omega, (by repeat (first | exact Over.refl _ | exact hov | refine Over.upd ?_ hB (by omega) | refine Over.del ?_ hB (by omega)))⟩, Weak.tau (by simp [LQ, ptL])⟩ ?_
  rintro n τ σ' M ⟨k, cb, hk, rfl, rfl, hc0, hc1, hc2, hov⟩
  have hpl := ptL_len m k
  have hz1 : ((ptL m k).length + 1) * 8 ≤ 140737488355328 := by omega
  have hz2 : (ptL m k).length + 1 ≤ 4611686018427387904 := by omega
  by_cases hlt : k ≤ m
  · have hlti : (k : Int) ≤ m := by omega
    have hst := ptL_succ m k
    have han := lessI_nat (a := k) (b := m) (by omega) (.inr hm)
    generalize hQ : k - (k &&& m) = Q at *
    by_cases hq : Q = 0
    · have hqi : (Q : Int) = 0 := by omega
      rw [if_pos hq] at hst
      repeat' (first
        | refine AWP.seq ?_
        | refine AWP.block ?_
        | (refine AWP.skip ?_; simp only [thenA, blockA, reduceIte])
        | (refine AWP.exit ?_; simp only [thenA, blockA, eq_self, reduceIte, Nat.reduceEqDiff, Nat.succ_ne_zero])
        | (refine AWP.ret ?_; simp only [thenA, blockA, reduceIte])
        | (refine AWP.region (by rfl) (fun KK hKK => ?_); (repeat (simp (disch := omega) [hlt, hlti, han, hq, hqi, elems, rowsI_len, rowsI_snoc, rowsI_take, hz1, hz2, hc0])); first | (refine hKK _ _ _ ?_; clear hKK KK; simp only [thenA, blockA, reduceIte]) | skip)
        | (refine AWP.if_t ?_ ?_; focus (simp (disch := omega) [hlt, hlti, han, hq, hqi, elems, rowsI_len, rowsI_snoc, rowsI_take, hz1, hz2, hc0]; done))
        | (refine AWP.if_f ?_ ?_; focus (simp (disch := omega) [hlt, hlti, han, hq, hqi, elems, rowsI_len, rowsI_snoc, rowsI_take, hz1, hz2, hc0]; done)))
      refine aStop_of (less_c _ _ _ _ ⟨by omega, by omega⟩ ⟨by omega, by omega⟩) ?_
      rintro r δ ⟨rfl, rfl⟩
      (repeat (simp (disch := omega) [han, hq, hqi]))
      first | (refine hKK _ _ _ ?_; clear hKK KK; simp only [thenA, blockA, reduceIte]) | skip
      repeat' (first
        | refine AWP.seq ?_
        | refine AWP.block ?_
        | (refine AWP.skip ?_; simp only [thenA, blockA, reduceIte])
        | (refine AWP.exit ?_; simp only [thenA, blockA, eq_self, reduceIte, Nat.reduceEqDiff, Nat.succ_ne_zero])
        | (refine AWP.ret ?_; simp only [thenA, blockA, reduceIte])
        | (refine AWP.region (by rfl) (fun KK hKK => ?_); (repeat (simp (disch := omega) [elems, rowsI_len, rowsI_snoc, rowsI_take, hz1, hz2, hc0])); first | (refine hKK _ _ _ ?_; clear hKK KK; simp only [thenA, blockA, reduceIte]) | skip)
        | (refine AWP.if_t ?_ ?_; focus (simp (disch := omega) [elems, rowsI_len, rowsI_snoc, rowsI_take, hz1, hz2, hc0]; done))
        | (refine AWP.if_f ?_ ?_; focus (simp (disch := omega) [elems, rowsI_len, rowsI_snoc, rowsI_take, hz1, hz2, hc0]; done)))
      refine ⟨_, _, _, _, ?_, ⟨k + 1, M + 2 + 1, by omega, rfl, rfl, by rw [hst]; simp (disch := omega) only [upd_eq, upd_ne, del_ne], by omega, by omega, (by repeat (first | exact Over.refl _ | exact hov | refine Over.upd ?_ hB (by omega) | refine Over.del ?_ hB (by omega)))⟩, Weak.tau (by rw [hst]; simp [LQ])⟩
      omega
    · have hqi : ¬ (Q : Int) = 0 := by omega
      rw [if_neg hq] at hst
      repeat' (first
        | refine AWP.seq ?_
        | refine AWP.block ?_
        | (refine AWP.skip ?_; simp only [thenA, blockA, reduceIte])
        | (refine AWP.exit ?_; simp only [thenA, blockA, eq_self, reduceIte, Nat.reduceEqDiff, Nat.succ_ne_zero])
        | (refine AWP.ret ?_; simp only [thenA, blockA, reduceIte])
        | (refine AWP.region (by rfl) (fun KK hKK => ?_); (repeat (simp (disch := omega) [hlt, hlti, han, hq, hqi])); first | (refine hKK _ _ _ ?_; clear hKK KK; simp only [thenA, blockA, reduceIte]) | skip)
        | (refine AWP.if_t ?_ ?_; focus (simp (disch := omega) [hlt, hlti, han, hq, hqi]; done))
        | (refine AWP.if_f ?_ ?_; focus (simp (disch := omega) [hlt, hlti, han, hq, hqi]; done)))
      refine aStop_of (less_c _ _ _ _ ⟨by omega, by omega⟩ ⟨by omega, by omega⟩) ?_
      rintro r δ ⟨rfl, rfl⟩
      (repeat (simp (disch := omega) [han, hq, hqi]))
      first | (refine hKK _ _ _ ?_; clear hKK KK; simp only [thenA, blockA, reduceIte]) | skip
      repeat' (first
        | refine AWP.seq ?_
        | refine AWP.block ?_
        | (refine AWP.skip ?_; simp only [thenA, blockA, reduceIte])
        | (refine AWP.exit ?_; simp only [thenA, blockA, eq_self, reduceIte, Nat.reduceEqDiff, Nat.succ_ne_zero])
        | (refine AWP.ret ?_; simp only [thenA, blockA, reduceIte])
        | (refine AWP.region (by rfl) (fun KK hKK => ?_); (repeat (simp (disch := omega) [])); first | (refine hKK _ _ _ ?_; clear hKK KK; simp only [thenA, blockA, reduceIte]) | skip)
        | (refine AWP.if_t ?_ ?_; focus (simp (disch := omega) []; done))
        | (refine AWP.if_f ?_ ?_; focus (simp (disch := omega) []; done)))
      refine ⟨_, _, _, _, ?_, ⟨k + 1, cb, by omega, rfl, rfl, by rw [hst]; simp (disch := omega) only [upd_eq, upd_ne, del_ne, hc0], by omega, by omega, (by repeat (first | exact Over.refl _ | exact hov | refine Over.upd ?_ hB (by omega) | refine Over.del ?_ hB (by omega)))⟩, Weak.tau (by rw [hst]; simp [LQ])⟩
      omega
  · have hk' : k = m + 1 := by omega
    subst hk'
    have hlti : ¬ (m : Int) + 1 ≤ m := by omega
    repeat' (first
      | refine AWP.seq ?_
      | refine AWP.block ?_
      | (refine AWP.skip ?_; simp only [thenA, blockA, reduceIte])
      | (refine AWP.exit ?_; simp only [thenA, blockA, eq_self, reduceIte, Nat.reduceEqDiff, Nat.succ_ne_zero])
      | (refine AWP.ret ?_; simp only [thenA, blockA, reduceIte])
      | (refine AWP.region (by rfl) (fun KK hKK => ?_); (repeat (simp (disch := omega) [hlt, hlti])); first | (refine hKK _ _ _ ?_; clear hKK KK; simp only [thenA, blockA, reduceIte]) | skip)
      | (refine AWP.if_t ?_ ?_; focus (simp (disch := omega) [hlt, hlti]; done))
      | (refine AWP.if_f ?_ ?_; focus (simp (disch := omega) [hlt, hlti]; done)))
    refine ⟨by simp, _, rfl, fin1 cb (blkI (ptL m (m + 1))) (by simp (disch := omega) only [upd_eq, upd_ne, del_ne, hc0]; try rfl) rfl (flatI _) ⟨by simp [resO, get, ren, rho], rfl⟩ (by omega) (by simp [resO, get, nms])⟩

/-- The least number of a list that no arm matches. -/
def msP (l : List Ar) (n : Int) : Bool := decide (idx (mtP n.toNat) l < 0)
def fmL (l : List Ar) (ns : List Int) : Int := (ns.find? (msP l)).getD (-1)
def fmI (ds : List Df) (bd : Int) (l : List Ar) : Int := if vasB ds bd l = true then fmL l (ptL (mkN ds) (mkN ds + 1)) else -2
theorem fm_at {l : List Ar} {ns : List Int} {k : Nat} (h : k < ns.length) (h0 : ∀ e ∈ ns.take k, msP l e = false) (h1 : msP l ns[k] = true) : fmL l ns = ns[k] := by
  have e : ns.find? (msP l) = some ns[k] := by
    rw [List.find?_eq_some_iff_getElem]
    refine ⟨h1, k, h, rfl, fun j hj => ?_⟩
    rw [h0 _ (List.mem_take_iff_getElem.2 ⟨j, by omega, rfl⟩)]
    rfl
  unfold fmL
  rw [e]
  rfl
theorem fm_no {l : List Ar} {ns : List Int} (h0 : ∀ e ∈ ns, msP l e = false) : fmL l ns = -1 := by
  have e : ns.find? (msP l) = none := by
    rw [List.find?_eq_none]
    intro x hx
    rw [h0 x hx]
    simp
  unfold fmL
  rw [e]
  rfl
set_option maxRecDepth 10000 in
set_option maxHeartbeats 2000000 in
theorem firstMissed_c (σ : Sto) (ν : Nat) (x y : AV) (ds : List Df) (bd : Int) (l : List Ar) (hx : Sl σ x 2 (rowsD ds)) (hy : Sl σ y 2 (rowsA l)) (hlen : ds.length ≤ 9223372036854775807) (hlen2 : l.length ≤ 4294967296) (hsz : ∀ d ∈ ds, d.1.size ≤ 9223372036854775807) (hv : ∀ d ∈ ds, i64R d.2) (hi : ∀ a ∈ l, i64R a.1 ∧ i64R a.2) :
    AC Try.prog 43 [.agg [x, .v (.int .i64 bd)], y] σ ν fun r δ => r = .v (.int .i64 (fmI ds bd l)) ∧ δ = noS := by
  obtain ⟨b, o, cap, z, rfl⟩ := hx.out
  obtain ⟨b2, o2, cap2, z2, rfl⟩ := hy.out
  simp only [rowsD_len, rowsA_len] at hx hy ⊢
  refine AC.intro [] ent_43 Try.func43 rfl (by simp [Try.f43]) (by simp) ?_
  intro K s hs hB hn hν hA hFr
  simp only [argT, Nat.zero_add, Nat.reduceAdd]
  have hx' := hx.vw hs.vw
  have hy' := hy.vw hs.vw
  have hbK : b < K := hA b (by simp [nmAs, nmA])
  have hbK2 : b2 < K := hA b2 (by simp [nmAs, nmA])
  repeat' (first
    | refine AWP.seq ?_
    | refine AWP.block ?_
    | (refine AWP.skip ?_; simp only [thenA, blockA, reduceIte])
    | (refine AWP.exit ?_; simp only [thenA, blockA, eq_self, reduceIte, Nat.reduceEqDiff, Nat.succ_ne_zero])
    | (refine AWP.ret ?_; simp only [thenA, blockA, reduceIte])
    | (refine AWP.region (by rfl) (fun KK hKK => ?_); (repeat (simp (disch := omega) [])); first | (refine hKK _ _ _ ?_; clear hKK KK; simp only [thenA, blockA, reduceIte]) | skip)
    | (refine AWP.if_t ?_ ?_; focus (simp (disch := omega) []; done))
    | (refine AWP.if_f ?_ ?_; focus (simp (disch := omega) []; done)))
  cases hok : vasB ds bd l with
  | false =>
    have he : fmI ds bd l = -2 := by unfold fmI; rw [hok]; rfl
    refine aStop_of (armsOk_c _ _ _ _ ds bd l (hx'.vw ((Vw.refl _).over (by repeat (first | exact Over.refl _ | exact hov | refine Over.upd ?_ hB (by omega) | refine Over.del ?_ hB (by omega))))) (hy'.vw ((Vw.refl _).over (by repeat (first | exact Over.refl _ | exact hov | refine Over.upd ?_ hB (by omega) | refine Over.del ?_ hB (by omega))))) hlen hlen2 hsz  hi) ?_
    rintro r δ ⟨rfl, rfl⟩
    (repeat (simp (disch := omega) [hok]))
    first | (refine hKK _ _ _ ?_; clear hKK KK; simp only [thenA, blockA, reduceIte]) | skip
    repeat' (first
      | refine AWP.seq ?_
      | refine AWP.block ?_
      | (refine AWP.skip ?_; simp only [thenA, blockA, reduceIte])
      | (refine AWP.exit ?_; simp only [thenA, blockA, eq_self, reduceIte, Nat.reduceEqDiff, Nat.succ_ne_zero])
      | (refine AWP.ret ?_; simp only [thenA, blockA, reduceIte])
      | (refine AWP.region (by rfl) (fun KK hKK => ?_); (repeat (simp (disch := omega) [])); first | (refine hKK _ _ _ ?_; clear hKK KK; simp only [thenA, blockA, reduceIte]) | skip)
      | (refine AWP.if_t ?_ ?_; focus (simp (disch := omega) []; done))
      | (refine AWP.if_f ?_ ?_; focus (simp (disch := omega) []; done)))
    refine ⟨by simp, _, rfl, fin0 ⟨?_, rfl⟩ (by simp [resO, get, nms, nmss]; try (simp [nms, nmss] at hn; simp_all))⟩
    simp [resO, get, ren, rens, he]
  | true =>
    obtain ⟨hfl, _, _, hna⟩ := vasB_ok hok
    have hvf := okFl_rg hfl
    have hml := okFl_lt hfl
    have hms := mkS_eq ds hvf
    have he : fmI ds bd l = fmL l (ptL (mkN ds) (mkN ds + 1)) := by unfold fmI; rw [hok]; rfl
    refine aStop_of (armsOk_c _ _ _ _ ds bd l (hx'.vw ((Vw.refl _).over (by repeat (first | exact Over.refl _ | exact hov | refine Over.upd ?_ hB (by omega) | refine Over.del ?_ hB (by omega))))) (hy'.vw ((Vw.refl _).over (by repeat (first | exact Over.refl _ | exact hov | refine Over.upd ?_ hB (by omega) | refine Over.del ?_ hB (by omega))))) hlen hlen2 hsz  hi) ?_
    rintro r δ ⟨rfl, rfl⟩
    (repeat (simp (disch := omega) [hok]))
    first | (refine hKK _ _ _ ?_; clear hKK KK; simp only [thenA, blockA, reduceIte]) | skip
    repeat' (first
      | refine AWP.seq ?_
      | refine AWP.block ?_
      | (refine AWP.skip ?_; simp only [thenA, blockA, reduceIte])
      | (refine AWP.exit ?_; simp only [thenA, blockA, eq_self, reduceIte, Nat.reduceEqDiff, Nat.succ_ne_zero])
      | (refine AWP.ret ?_; simp only [thenA, blockA, reduceIte])
      | (refine AWP.region (by rfl) (fun KK hKK => ?_); (repeat (simp (disch := omega) [])); first | (refine hKK _ _ _ ?_; clear hKK KK; simp only [thenA, blockA, reduceIte]) | skip)
      | (refine AWP.if_t ?_ ?_; focus (simp (disch := omega) []; done))
      | (refine AWP.if_f ?_ ?_; focus (simp (disch := omega) []; done)))
    refine aStop_of (mask_c _ _ _ ds bd (hx'.vw ((Vw.refl _).over (by repeat (first | exact Over.refl _ | exact hov | refine Over.upd ?_ hB (by omega) | refine Over.del ?_ hB (by omega))))) hlen hvf) ?_
    rintro r δ ⟨rfl, rfl⟩
    (repeat (simp (disch := omega) [hms]))
    first | (refine hKK _ _ _ ?_; clear hKK KK; simp only [thenA, blockA, reduceIte]) | skip
    repeat' (first
      | refine AWP.seq ?_
      | refine AWP.block ?_
      | (refine AWP.skip ?_; simp only [thenA, blockA, reduceIte])
      | (refine AWP.exit ?_; simp only [thenA, blockA, eq_self, reduceIte, Nat.reduceEqDiff, Nat.succ_ne_zero])
      | (refine AWP.ret ?_; simp only [thenA, blockA, reduceIte])
      | (refine AWP.region (by rfl) (fun KK hKK => ?_); (repeat (simp (disch := omega) [])); first | (refine hKK _ _ _ ?_; clear hKK KK; simp only [thenA, blockA, reduceIte]) | skip)
      | (refine AWP.if_t ?_ ?_; focus (simp (disch := omega) []; done))
      | (refine AWP.if_f ?_ ?_; focus (simp (disch := omega) []; done)))
    refine aStop_of (inside_c _ _ (mkN ds) hml) ?_
    rintro r δ ⟨rfl, rfl⟩
    (repeat (simp (disch := omega) []))
    first | (refine hKK _ _ _ ?_; clear hKK KK; simp only [thenA, blockA, reduceIte]) | skip
    have hpn : ∀ e ∈ ptL (mkN ds) (mkN ds + 1), ∃ j : Nat, e = j ∧ j < 4096 := fun e he => by
      obtain ⟨j, h1, h2, _⟩ := ptL_nat he
      exact ⟨j, h1, by omega⟩
    have hpl := ptL_len (mkN ds) (mkN ds + 1)
    generalize ptL (mkN ds) (mkN ds + 1) = ns at *
    repeat' (first
      | refine AWP.seq ?_
      | refine AWP.block ?_
      | (refine AWP.skip ?_; simp only [thenA, blockA, reduceIte])
      | (refine AWP.exit ?_; simp only [thenA, blockA, eq_self, reduceIte, Nat.reduceEqDiff, Nat.succ_ne_zero])
      | (refine AWP.ret ?_; simp only [thenA, blockA, reduceIte])
      | (refine AWP.region (by rfl) (fun KK hKK => ?_); (repeat (simp (disch := omega) [])); first | (refine hKK _ _ _ ?_; clear hKK KK; simp only [thenA, blockA, reduceIte]) | skip)
      | (refine AWP.if_t ?_ ?_; focus (simp (disch := omega) []; done))
      | (refine AWP.if_f ?_ ?_; focus (simp (disch := omega) []; done)))
    refine AWP.loop (fun n0 τ σ' M => ∃ k : Nat, k ≤ ns.length ∧ n0 = ns.length - k ∧ (∀ e ∈ ns.take k, msP l e = false) ∧ τ = [(1, .sl b2 o2 l.length cap2 z2), (13, .sl (K + 1 + 2 + 2) 0 ns.length none 1), (14, .v (.int .i64 ns.length)), (15, .v (.int .i64 k))] ∧ σ' (K + 1 + 2 + 2) = some (blkI ns) ∧ K + 1 + 2 + 2 < M ∧ Over s σ')
      ⟨_, _, _, _, ⟨0, by omega, rfl, by simp, rfl, by simp (disch := omega) only [upd_eq, upd_ne], by omega, (by repeat (first | exact Over.refl _ | exact hov | refine Over.upd ?_ hB (by omega) | refine Over.del ?_ hB (by omega)))⟩, Weak.tau (by simp [LQ])⟩ ?_
    rintro n0 τ σ1 M ⟨k, hk, rfl, hall, rfl, h1, hM, hov⟩
    by_cases hlt : k < ns.length
    · have hrow : (rowsI ns)[k]? = some [.v (.int .i64 ns[k])] := by simp [rowsI, hlt]
      obtain ⟨j, hj, hj4⟩ := hpn _ (List.getElem_mem hlt)
      have hji : msP l ns[k] = decide (idx (mtP j) l < 0) := by unfold msP; rw [hj, Int.toNat_natCast]
      rw [hj] at hrow
      cases hm : msP l ns[k] with
      | true =>
        have hneg : idx (mtP j) l < 0 := by rw [hji] at hm; exact of_decide_eq_true hm
        have hf := fm_at hlt hall hm
        rw [hj] at hf
        repeat' (first
          | refine AWP.seq ?_
          | refine AWP.block ?_
          | (refine AWP.skip ?_; simp only [thenA, blockA, reduceIte])
          | (refine AWP.exit ?_; simp only [thenA, blockA, eq_self, reduceIte, Nat.reduceEqDiff, Nat.succ_ne_zero])
          | (refine AWP.ret ?_; simp only [thenA, blockA, reduceIte])
          | (refine AWP.region (by rfl) (fun KK hKK => ?_); (repeat (simp (disch := omega) [hlt, h1, hrow])); first | (refine hKK _ _ _ ?_; clear hKK KK; simp only [thenA, blockA, reduceIte]) | skip)
          | (refine AWP.if_t ?_ ?_; focus (simp (disch := omega) [hlt, h1, hrow]; done))
          | (refine AWP.if_f ?_ ?_; focus (simp (disch := omega) [hlt, h1, hrow]; done)))
        refine aStop_of (first_c _ _ _ l j (hy'.vw ((Vw.refl _).over (by repeat (first | exact Over.refl _ | exact hov | refine Over.upd ?_ hB (by omega) | refine Over.del ?_ hB (by omega))))) hlen2 hna hj4) ?_
        rintro r δ ⟨rfl, rfl⟩
        (repeat (simp (disch := omega) [hneg, hlt, h1, hrow]))
        first | (refine hKK _ _ _ ?_; clear hKK KK; simp only [thenA, blockA, reduceIte]) | skip
        repeat' (first
          | refine AWP.seq ?_
          | refine AWP.block ?_
          | (refine AWP.skip ?_; simp only [thenA, blockA, reduceIte])
          | (refine AWP.exit ?_; simp only [thenA, blockA, eq_self, reduceIte, Nat.reduceEqDiff, Nat.succ_ne_zero])
          | (refine AWP.ret ?_; simp only [thenA, blockA, reduceIte])
          | (refine AWP.region (by rfl) (fun KK hKK => ?_); (repeat (simp (disch := omega) [hneg, hlt, h1, hrow])); first | (refine hKK _ _ _ ?_; clear hKK KK; simp only [thenA, blockA, reduceIte]) | skip)
          | (refine AWP.if_t ?_ ?_; focus (simp (disch := omega) [hneg, hlt, h1, hrow]; done))
          | (refine AWP.if_f ?_ ?_; focus (simp (disch := omega) [hneg, hlt, h1, hrow]; done)))
        refine ⟨by simp, _, rfl, fin0 ⟨?_, rfl⟩ (by simp [resO, get, nms, nmss]; try (simp [nms, nmss] at hn; simp_all))⟩
        simp [resO, get, ren, rens, he, hf]
      | false =>
        have hneg : ¬ idx (mtP j) l < 0 := by rw [hji] at hm; exact of_decide_eq_false hm
        repeat' (first
          | refine AWP.seq ?_
          | refine AWP.block ?_
          | (refine AWP.skip ?_; simp only [thenA, blockA, reduceIte])
          | (refine AWP.exit ?_; simp only [thenA, blockA, eq_self, reduceIte, Nat.reduceEqDiff, Nat.succ_ne_zero])
          | (refine AWP.ret ?_; simp only [thenA, blockA, reduceIte])
          | (refine AWP.region (by rfl) (fun KK hKK => ?_); (repeat (simp (disch := omega) [hlt, h1, hrow])); first | (refine hKK _ _ _ ?_; clear hKK KK; simp only [thenA, blockA, reduceIte]) | skip)
          | (refine AWP.if_t ?_ ?_; focus (simp (disch := omega) [hlt, h1, hrow]; done))
          | (refine AWP.if_f ?_ ?_; focus (simp (disch := omega) [hlt, h1, hrow]; done)))
        refine aStop_of (first_c _ _ _ l j (hy'.vw ((Vw.refl _).over (by repeat (first | exact Over.refl _ | exact hov | refine Over.upd ?_ hB (by omega) | refine Over.del ?_ hB (by omega))))) hlen2 hna hj4) ?_
        rintro r δ ⟨rfl, rfl⟩
        (repeat (simp (disch := omega) [hneg]))
        first | (refine hKK _ _ _ ?_; clear hKK KK; simp only [thenA, blockA, reduceIte]) | skip
        repeat' (first
          | refine AWP.seq ?_
          | refine AWP.block ?_
          | (refine AWP.skip ?_; simp only [thenA, blockA, reduceIte])
          | (refine AWP.exit ?_; simp only [thenA, blockA, eq_self, reduceIte, Nat.reduceEqDiff, Nat.succ_ne_zero])
          | (refine AWP.ret ?_; simp only [thenA, blockA, reduceIte])
          | (refine AWP.region (by rfl) (fun KK hKK => ?_); (repeat (simp (disch := omega) [hneg, hlt])); first | (refine hKK _ _ _ ?_; clear hKK KK; simp only [thenA, blockA, reduceIte]) | skip)
          | (refine AWP.if_t ?_ ?_; focus (simp (disch := omega) [hneg, hlt]; done))
          | (refine AWP.if_f ?_ ?_; focus (simp (disch := omega) [hneg, hlt]; done)))
        refine ⟨_, _, _, _, ?_, ⟨k + 1, by omega, rfl, take_snoc hlt hall hm, rfl, by simp (disch := omega) only [upd_eq, upd_ne, del_ne, h1], by omega, (by repeat (first | exact Over.refl _ | exact hov | refine Over.upd ?_ hB (by omega) | refine Over.del ?_ hB (by omega)))⟩, Weak.tau (by simp [LQ])⟩
        omega
    · have hk' : k = ns.length := by omega
      subst hk'
      have hl' : ∀ e ∈ ns, msP l e = false := fun e he => hall e (by rw [List.take_length]; exact he)
      have hf := fm_no hl'
      repeat' (first
        | refine AWP.seq ?_
        | refine AWP.block ?_
        | (refine AWP.skip ?_; simp only [thenA, blockA, reduceIte])
        | (refine AWP.exit ?_; simp only [thenA, blockA, eq_self, reduceIte, Nat.reduceEqDiff, Nat.succ_ne_zero])
        | (refine AWP.ret ?_; simp only [thenA, blockA, reduceIte])
        | (refine AWP.region (by rfl) (fun KK hKK => ?_); (repeat (simp (disch := omega) [hlt])); first | (refine hKK _ _ _ ?_; clear hKK KK; simp only [thenA, blockA, reduceIte]) | skip)
        | (refine AWP.if_t ?_ ?_; focus (simp (disch := omega) [hlt]; done))
        | (refine AWP.if_f ?_ ?_; focus (simp (disch := omega) [hlt]; done)))
      refine ⟨by simp, _, rfl, fin0 ⟨?_, rfl⟩ (by simp [resO, get, nms, nmss]; try (simp [nms, nmss] at hn; simp_all))⟩
      simp [resO, get, ren, rens, he, hf]
set_option maxRecDepth 10000 in
set_option maxHeartbeats 2000000 in
theorem firstMissedS_c (σ : Sto) (ν : Nat) (x y : AV) (ds : List Df) (bd : Int) (l : List Ar) (hx : Sl σ x 2 (rowsD ds)) (hy : Sl σ y 2 (rowsA l)) (hlen : ds.length ≤ 9223372036854775807) (hlen2 : l.length ≤ 4294967296) (hsz : ∀ d ∈ ds, d.1.size ≤ 9223372036854775807) (hv : ∀ d ∈ ds, i64R d.2) (hi : ∀ a ∈ l, i64R a.1 ∧ i64R a.2) :
    AC Try.prog 42 [.agg [x, .v (.int .i64 bd)], y] σ ν fun r δ => r = .v (.int .i64 (fmI ds bd l)) ∧ δ = noS := by
  obtain ⟨b, o, cap, z, rfl⟩ := hx.out
  obtain ⟨b2, o2, cap2, z2, rfl⟩ := hy.out
  simp only [rowsD_len, rowsA_len] at hx hy ⊢
  refine AC.intro [] ent_42 Try.func42 rfl (by simp [Try.f42]) (by simp) ?_
  intro K s hs hB hn hν hA hFr
  simp only [argT, Nat.zero_add, Nat.reduceAdd]
  have hx' := hx.vw hs.vw
  have hy' := hy.vw hs.vw
  have hbK : b < K := hA b (by simp [nmAs, nmA])
  have hbK2 : b2 < K := hA b2 (by simp [nmAs, nmA])
  repeat' (first
    | refine AWP.seq ?_
    | refine AWP.block ?_
    | (refine AWP.skip ?_; simp only [thenA, blockA, reduceIte])
    | (refine AWP.exit ?_; simp only [thenA, blockA, eq_self, reduceIte, Nat.reduceEqDiff, Nat.succ_ne_zero])
    | (refine AWP.ret ?_; simp only [thenA, blockA, reduceIte])
    | (refine AWP.region (by rfl) (fun KK hKK => ?_); (repeat (simp (disch := omega) [])); first | (refine hKK _ _ _ ?_; clear hKK KK; simp only [thenA, blockA, reduceIte]) | skip)
    | (refine AWP.if_t ?_ ?_; focus (simp (disch := omega) []; done))
    | (refine AWP.if_f ?_ ?_; focus (simp (disch := omega) []; done)))
  cases hok : vasB ds bd l with
  | false =>
    have he : fmI ds bd l = -2 := by unfold fmI; rw [hok]; rfl
    refine aStop_of (validArms_c _ _ _ _ ds bd l (hx'.vw ((Vw.refl _).over (by repeat (first | exact Over.refl _ | exact hov | refine Over.upd ?_ hB (by omega) | refine Over.del ?_ hB (by omega))))) (hy'.vw ((Vw.refl _).over (by repeat (first | exact Over.refl _ | exact hov | refine Over.upd ?_ hB (by omega) | refine Over.del ?_ hB (by omega))))) hlen hlen2 hsz hv hi) ?_
    rintro r δ ⟨rfl, rfl⟩
    (repeat (simp (disch := omega) [hok]))
    first | (refine hKK _ _ _ ?_; clear hKK KK; simp only [thenA, blockA, reduceIte]) | skip
    repeat' (first
      | refine AWP.seq ?_
      | refine AWP.block ?_
      | (refine AWP.skip ?_; simp only [thenA, blockA, reduceIte])
      | (refine AWP.exit ?_; simp only [thenA, blockA, eq_self, reduceIte, Nat.reduceEqDiff, Nat.succ_ne_zero])
      | (refine AWP.ret ?_; simp only [thenA, blockA, reduceIte])
      | (refine AWP.region (by rfl) (fun KK hKK => ?_); (repeat (simp (disch := omega) [])); first | (refine hKK _ _ _ ?_; clear hKK KK; simp only [thenA, blockA, reduceIte]) | skip)
      | (refine AWP.if_t ?_ ?_; focus (simp (disch := omega) []; done))
      | (refine AWP.if_f ?_ ?_; focus (simp (disch := omega) []; done)))
    refine ⟨by simp, _, rfl, fin0 ⟨?_, rfl⟩ (by simp [resO, get, nms, nmss]; try (simp [nms, nmss] at hn; simp_all))⟩
    simp [resO, get, ren, rens, he]
  | true =>
    obtain ⟨hfl, _, _, hna⟩ := vasB_ok hok
    have hvf := okFl_rg hfl
    have hml := okFl_lt hfl
    have hms := mkS_eq ds hvf
    have he : fmI ds bd l = fmL l (ptL (mkN ds) (mkN ds + 1)) := by unfold fmI; rw [hok]; rfl
    refine aStop_of (validArms_c _ _ _ _ ds bd l (hx'.vw ((Vw.refl _).over (by repeat (first | exact Over.refl _ | exact hov | refine Over.upd ?_ hB (by omega) | refine Over.del ?_ hB (by omega))))) (hy'.vw ((Vw.refl _).over (by repeat (first | exact Over.refl _ | exact hov | refine Over.upd ?_ hB (by omega) | refine Over.del ?_ hB (by omega))))) hlen hlen2 hsz hv hi) ?_
    rintro r δ ⟨rfl, rfl⟩
    (repeat (simp (disch := omega) [hok]))
    first | (refine hKK _ _ _ ?_; clear hKK KK; simp only [thenA, blockA, reduceIte]) | skip
    repeat' (first
      | refine AWP.seq ?_
      | refine AWP.block ?_
      | (refine AWP.skip ?_; simp only [thenA, blockA, reduceIte])
      | (refine AWP.exit ?_; simp only [thenA, blockA, eq_self, reduceIte, Nat.reduceEqDiff, Nat.succ_ne_zero])
      | (refine AWP.ret ?_; simp only [thenA, blockA, reduceIte])
      | (refine AWP.region (by rfl) (fun KK hKK => ?_); (repeat (simp (disch := omega) [])); first | (refine hKK _ _ _ ?_; clear hKK KK; simp only [thenA, blockA, reduceIte]) | skip)
      | (refine AWP.if_t ?_ ?_; focus (simp (disch := omega) []; done))
      | (refine AWP.if_f ?_ ?_; focus (simp (disch := omega) []; done)))
    refine aStop_of (maskS_c _ _ _ ds (hx'.vw ((Vw.refl _).over (by repeat (first | exact Over.refl _ | exact hov | refine Over.upd ?_ hB (by omega) | refine Over.del ?_ hB (by omega))))) hlen hv) ?_
    rintro r δ ⟨rfl, rfl⟩
    (repeat (simp (disch := omega) [hms]))
    first | (refine hKK _ _ _ ?_; clear hKK KK; simp only [thenA, blockA, reduceIte]) | skip
    repeat' (first
      | refine AWP.seq ?_
      | refine AWP.block ?_
      | (refine AWP.skip ?_; simp only [thenA, blockA, reduceIte])
      | (refine AWP.exit ?_; simp only [thenA, blockA, eq_self, reduceIte, Nat.reduceEqDiff, Nat.succ_ne_zero])
      | (refine AWP.ret ?_; simp only [thenA, blockA, reduceIte])
      | (refine AWP.region (by rfl) (fun KK hKK => ?_); (repeat (simp (disch := omega) [])); first | (refine hKK _ _ _ ?_; clear hKK KK; simp only [thenA, blockA, reduceIte]) | skip)
      | (refine AWP.if_t ?_ ?_; focus (simp (disch := omega) []; done))
      | (refine AWP.if_f ?_ ?_; focus (simp (disch := omega) []; done)))
    refine aStop_of (partsIn_c _ _ (mkN ds) hml) ?_
    rintro r δ ⟨rfl, rfl⟩
    (repeat (simp (disch := omega) []))
    first | (refine hKK _ _ _ ?_; clear hKK KK; simp only [thenA, blockA, reduceIte]) | skip
    have hpn : ∀ e ∈ ptL (mkN ds) (mkN ds + 1), ∃ j : Nat, e = j ∧ j < 4096 := fun e he => by
      obtain ⟨j, h1, h2, _⟩ := ptL_nat he
      exact ⟨j, h1, by omega⟩
    have hpl := ptL_len (mkN ds) (mkN ds + 1)
    generalize ptL (mkN ds) (mkN ds + 1) = ns at *
    repeat' (first
      | refine AWP.seq ?_
      | refine AWP.block ?_
      | (refine AWP.skip ?_; simp only [thenA, blockA, reduceIte])
      | (refine AWP.exit ?_; simp only [thenA, blockA, eq_self, reduceIte, Nat.reduceEqDiff, Nat.succ_ne_zero])
      | (refine AWP.ret ?_; simp only [thenA, blockA, reduceIte])
      | (refine AWP.region (by rfl) (fun KK hKK => ?_); (repeat (simp (disch := omega) [])); first | (refine hKK _ _ _ ?_; clear hKK KK; simp only [thenA, blockA, reduceIte]) | skip)
      | (refine AWP.if_t ?_ ?_; focus (simp (disch := omega) []; done))
      | (refine AWP.if_f ?_ ?_; focus (simp (disch := omega) []; done)))
    refine AWP.loop (fun n0 τ σ' M => ∃ k : Nat, k ≤ ns.length ∧ n0 = ns.length - k ∧ (∀ e ∈ ns.take k, msP l e = false) ∧ τ = [(1, .sl b2 o2 l.length cap2 z2), (5, .sl (K + 1 + 2 + 2) 0 ns.length none 1), (6, .v (.int .i64 k))] ∧ σ' (K + 1 + 2 + 2) = some (blkI ns) ∧ K + 1 + 2 + 2 < M ∧ Over s σ')
      ⟨_, _, _, _, ⟨0, by omega, rfl, by simp, rfl, by simp (disch := omega) only [upd_eq, upd_ne], by omega, (by repeat (first | exact Over.refl _ | exact hov | refine Over.upd ?_ hB (by omega) | refine Over.del ?_ hB (by omega)))⟩, Weak.tau (by simp [LQ])⟩ ?_
    rintro n0 τ σ1 M ⟨k, hk, rfl, hall, rfl, h1, hM, hov⟩
    by_cases hlt : k < ns.length
    · have hrow : (rowsI ns)[k]? = some [.v (.int .i64 ns[k])] := by simp [rowsI, hlt]
      obtain ⟨j, hj, hj4⟩ := hpn _ (List.getElem_mem hlt)
      have hji : msP l ns[k] = decide (idx (mtP j) l < 0) := by unfold msP; rw [hj, Int.toNat_natCast]
      rw [hj] at hrow
      cases hm : msP l ns[k] with
      | true =>
        have hneg : idx (mtP j) l < 0 := by rw [hji] at hm; exact of_decide_eq_true hm
        have hf := fm_at hlt hall hm
        rw [hj] at hf
        repeat' (first
          | refine AWP.seq ?_
          | refine AWP.block ?_
          | (refine AWP.skip ?_; simp only [thenA, blockA, reduceIte])
          | (refine AWP.exit ?_; simp only [thenA, blockA, eq_self, reduceIte, Nat.reduceEqDiff, Nat.succ_ne_zero])
          | (refine AWP.ret ?_; simp only [thenA, blockA, reduceIte])
          | (refine AWP.region (by rfl) (fun KK hKK => ?_); (repeat (simp (disch := omega) [hlt, h1, hrow])); first | (refine hKK _ _ _ ?_; clear hKK KK; simp only [thenA, blockA, reduceIte]) | skip)
          | (refine AWP.if_t ?_ ?_; focus (simp (disch := omega) [hlt, h1, hrow]; done))
          | (refine AWP.if_f ?_ ?_; focus (simp (disch := omega) [hlt, h1, hrow]; done)))
        refine aStop_of (firstArmS0_c _ _ _ l j (hy'.vw ((Vw.refl _).over (by repeat (first | exact Over.refl _ | exact hov | refine Over.upd ?_ hB (by omega) | refine Over.del ?_ hB (by omega))))) hlen2 hna hj4) ?_
        rintro r δ ⟨rfl, rfl⟩
        (repeat (simp (disch := omega) [hneg, hlt, h1, hrow]))
        first | (refine hKK _ _ _ ?_; clear hKK KK; simp only [thenA, blockA, reduceIte]) | skip
        repeat' (first
          | refine AWP.seq ?_
          | refine AWP.block ?_
          | (refine AWP.skip ?_; simp only [thenA, blockA, reduceIte])
          | (refine AWP.exit ?_; simp only [thenA, blockA, eq_self, reduceIte, Nat.reduceEqDiff, Nat.succ_ne_zero])
          | (refine AWP.ret ?_; simp only [thenA, blockA, reduceIte])
          | (refine AWP.region (by rfl) (fun KK hKK => ?_); (repeat (simp (disch := omega) [hneg, hlt, h1, hrow])); first | (refine hKK _ _ _ ?_; clear hKK KK; simp only [thenA, blockA, reduceIte]) | skip)
          | (refine AWP.if_t ?_ ?_; focus (simp (disch := omega) [hneg, hlt, h1, hrow]; done))
          | (refine AWP.if_f ?_ ?_; focus (simp (disch := omega) [hneg, hlt, h1, hrow]; done)))
        refine ⟨by simp, _, rfl, fin0 ⟨?_, rfl⟩ (by simp [resO, get, nms, nmss]; try (simp [nms, nmss] at hn; simp_all))⟩
        simp [resO, get, ren, rens, he, hf]
      | false =>
        have hneg : ¬ idx (mtP j) l < 0 := by rw [hji] at hm; exact of_decide_eq_false hm
        repeat' (first
          | refine AWP.seq ?_
          | refine AWP.block ?_
          | (refine AWP.skip ?_; simp only [thenA, blockA, reduceIte])
          | (refine AWP.exit ?_; simp only [thenA, blockA, eq_self, reduceIte, Nat.reduceEqDiff, Nat.succ_ne_zero])
          | (refine AWP.ret ?_; simp only [thenA, blockA, reduceIte])
          | (refine AWP.region (by rfl) (fun KK hKK => ?_); (repeat (simp (disch := omega) [hlt, h1, hrow])); first | (refine hKK _ _ _ ?_; clear hKK KK; simp only [thenA, blockA, reduceIte]) | skip)
          | (refine AWP.if_t ?_ ?_; focus (simp (disch := omega) [hlt, h1, hrow]; done))
          | (refine AWP.if_f ?_ ?_; focus (simp (disch := omega) [hlt, h1, hrow]; done)))
        refine aStop_of (firstArmS0_c _ _ _ l j (hy'.vw ((Vw.refl _).over (by repeat (first | exact Over.refl _ | exact hov | refine Over.upd ?_ hB (by omega) | refine Over.del ?_ hB (by omega))))) hlen2 hna hj4) ?_
        rintro r δ ⟨rfl, rfl⟩
        (repeat (simp (disch := omega) [hneg]))
        first | (refine hKK _ _ _ ?_; clear hKK KK; simp only [thenA, blockA, reduceIte]) | skip
        repeat' (first
          | refine AWP.seq ?_
          | refine AWP.block ?_
          | (refine AWP.skip ?_; simp only [thenA, blockA, reduceIte])
          | (refine AWP.exit ?_; simp only [thenA, blockA, eq_self, reduceIte, Nat.reduceEqDiff, Nat.succ_ne_zero])
          | (refine AWP.ret ?_; simp only [thenA, blockA, reduceIte])
          | (refine AWP.region (by rfl) (fun KK hKK => ?_); (repeat (simp (disch := omega) [hneg, hlt])); first | (refine hKK _ _ _ ?_; clear hKK KK; simp only [thenA, blockA, reduceIte]) | skip)
          | (refine AWP.if_t ?_ ?_; focus (simp (disch := omega) [hneg, hlt]; done))
          | (refine AWP.if_f ?_ ?_; focus (simp (disch := omega) [hneg, hlt]; done)))
        refine ⟨_, _, _, _, ?_, ⟨k + 1, by omega, rfl, take_snoc hlt hall hm, rfl, by simp (disch := omega) only [upd_eq, upd_ne, del_ne, h1], by omega, (by repeat (first | exact Over.refl _ | exact hov | refine Over.upd ?_ hB (by omega) | refine Over.del ?_ hB (by omega)))⟩, Weak.tau (by simp [LQ])⟩
        omega
    · have hk' : k = ns.length := by omega
      subst hk'
      have hl' : ∀ e ∈ ns, msP l e = false := fun e he => hall e (by rw [List.take_length]; exact he)
      have hf := fm_no hl'
      repeat' (first
        | refine AWP.seq ?_
        | refine AWP.block ?_
        | (refine AWP.skip ?_; simp only [thenA, blockA, reduceIte])
        | (refine AWP.exit ?_; simp only [thenA, blockA, eq_self, reduceIte, Nat.reduceEqDiff, Nat.succ_ne_zero])
        | (refine AWP.ret ?_; simp only [thenA, blockA, reduceIte])
        | (refine AWP.region (by rfl) (fun KK hKK => ?_); (repeat (simp (disch := omega) [hlt])); first | (refine hKK _ _ _ ?_; clear hKK KK; simp only [thenA, blockA, reduceIte]) | skip)
        | (refine AWP.if_t ?_ ?_; focus (simp (disch := omega) [hlt]; done))
        | (refine AWP.if_f ?_ ?_; focus (simp (disch := omega) [hlt]; done)))
      refine ⟨by simp, _, rfl, fin0 ⟨?_, rfl⟩ (by simp [resO, get, nms, nmss]; try (simp [nms, nmss] at hn; simp_all))⟩
      simp [resO, get, ren, rens, he, hf]
end Go.Proofs.Ytbdehnjbglpfjaa
