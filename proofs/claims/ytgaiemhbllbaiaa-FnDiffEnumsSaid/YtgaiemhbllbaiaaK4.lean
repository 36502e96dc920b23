/- Contracts: DiffEnums in the program and in the reference; the same meaning. No condition but sizes. -/
import Derived.Test.YtgaiemhbllbaiaaK3
set_option linter.unusedSimpArgs false
set_option linter.unusedVariables false
namespace Go.Proofs.Ytgaiemhbllbaiaa
open Go Go.RowKit

def cOut (ν : Nat) (cap : Nat → Option Nat) : Option (List Ch) → AV
  | some l => .sl ν 0 l.length (cap l.length) 4
  | none => nilA
def dOutC (ν : Nat) : Option (List Ch) → Sto
  | some l => upd noS ν (blkC l)
  | none => noS
theorem cOut_some (ν : Nat) (cap : Nat → Option Nat) (l : List Ch) : cOut ν cap (some l) = .sl ν 0 l.length (cap l.length) 4 := by simp only [cOut]
theorem cOut_none (ν : Nat) (cap : Nat → Option Nat) : cOut ν cap none = nilA := by simp only [cOut]
theorem dOutC_some (ν : Nat) (l : List Ch) : dOutC ν (some l) = upd noS ν (blkC l) := by simp only [dOutC]
theorem dOutC_none (ν : Nat) : dOutC ν none = noS := by simp only [dOutC]
theorem concat3R_c (σ : Sto) (ν c : Nat) (r0 : Bool) (x y z : AV) (ds es fs R : List Ch) (hR : R = ds ++ es ++ fs) (hc : σ c = some ⟨36, 1, [[x], [y], [z]], r0⟩) (hx : Sl σ x 4 (rowsC ds)) (hy : Sl σ y 4 (rowsC es)) (hz : Sl σ z 4 (rowsC fs)) (hlen : ds.length + es.length + fs.length ≤ 4294967296) :
    AC Try.prog 57 [.sl c 0 3 (some 3) 1] σ ν fun r δ => r = .sl ν 0 R.length none 4 ∧ δ = upd noS ν (blkC R) := by
  subst hR
  exact concat3_c σ ν c r0 x y z ds es fs hc hx hy hz hlen
set_option maxRecDepth 10000 in
set_option maxHeartbeats 4000000 in
theorem diffS_c (σ : Sto) (ν : Nat) (x y : AV) (ds es : List Df) (hx : Sl σ x 2 (rowsD ds)) (hy : Sl σ y 2 (rowsD es)) (hl1 : ds.length ≤ 1073741824) (hl2 : es.length ≤ 1073741824)
    (hs1 : ∀ d ∈ ds, d.1.size ≤ 9223372036854775807) (hs2 : ∀ d ∈ es, d.1.size ≤ 9223372036854775807) :
    AC Try.prog 19 [.agg [x], .agg [y]] σ ν fun r δ => r = cOut ν (fun _ => none) (dfO ds es) ∧ δ = dOutC ν (dfO ds es) := by
  obtain ⟨b, o, cap, z, rfl⟩ := hx.out
  obtain ⟨b2, o2, cap2, z2, rfl⟩ := hy.out
  simp only [rowsD_len] at hx hy ⊢
  cases hok : okDs (-1000) 1000 ds with
  | false =>
    have ho : dfO ds es = none := dfO_no (by simp [hok])
    rw [ho, cOut_none, dOutC_none]
    refine AC.intro [] ent_19 Try.func19 rfl (by simp [Try.f19]) (by simp) ?_
    intro K s hs hB hn hν hA hFr
    simp only [argT, Nat.zero_add, Nat.reduceAdd]
    have hx' := hx.vw hs.vw
    have hy' := hy.vw hs.vw
    have hK0 : ¬ 0 = K := by omega
    have hK1 : ¬ 0 = K + 1 := by omega
    repeat' (first
      | refine AWP.seq ?_
      | refine AWP.block ?_
      | (refine AWP.skip ?_; simp only [thenA, blockA, reduceIte])
      | (refine AWP.exit ?_; simp only [thenA, blockA, eq_self, reduceIte, Nat.reduceEqDiff, Nat.succ_ne_zero])
      | (refine AWP.ret ?_; simp only [thenA, blockA, reduceIte])
      | (refine AWP.region (by rfl) (fun KK hKK => ?_); (repeat (simp (disch := omega) [hok])); first | (refine hKK _ _ _ ?_; clear hKK KK; simp only [thenA, blockA, reduceIte]) | skip)
      | (refine AWP.draw' mixd (by rfl) (by kernel_rfl) (fun KK tab hKK htab => ?_); (repeat (simp (disch := omega) [hok])); first | (refine dEnd_ro ?_ (hKK _ _ _ ?_); (focus (simp; done)); clear htab tab hKK KK; simp only [thenA, blockA, reduceIte]) | (refine dEnd_of ?_ (hKK _ _ _ ?_); (focus (simp only [List.reverse_cons, List.reverse_nil, List.nil_append, List.cons_append, memA, mem1, and_true, true_and]; (repeat' apply And.intro); (all_goals (first | trivial | (refine .inr ⟨?_, ?_⟩ <;> (simp; done)) | (refine .inr ⟨?_, ?_⟩ <;> (simp <;> omega)) | (refine .inl ?_; rw [htab]; kernel_rfl))); done)); clear htab tab hKK KK; simp only [thenA, blockA, reduceIte]) | skip)
      | (refine AWP.if_t ?_ ?_; focus (simp (disch := omega) [hok]; done))
      | (refine AWP.if_f ?_ ?_; focus (simp (disch := omega) [hok]; done)))
    repeat
      first
        | (refine aStop_of (validEnumS_c _ _ _ ds (by first | exact (Sl.whole (t := 34) (r := true) ((hσ' _ (by simp)).trans (by simp (disch := omega) only [upd_eq, upd_ne, del_ne])) (by simp [rowsD_len])) | exact ((hx'.vw ((Vw.refl _).over (by repeat (first | exact Over.refl _ | exact hov | refine Over.upd ?_ hB (by omega) | refine Over.del ?_ hB (by omega))))).on (hσ' _ (by simp))) | exact (Sl.whole (t := 34) (r := true) (by simp (disch := omega) only [upd_eq, upd_ne, del_ne]) (by simp [rowsD_len])) | exact (hx'.vw ((Vw.refl _).over (by repeat (first | exact Over.refl _ | exact hov | refine Over.upd ?_ hB (by omega) | refine Over.del ?_ hB (by omega)))))) (by omega) hs1) ?_; rintro r δ ⟨rfl, rfl⟩)
        | (refine dStop_roA (fun σ' hσ' => validEnumS_c σ' _ _ ds (by first | exact (Sl.whole (t := 34) (r := true) ((hσ' _ (by simp)).trans (by simp (disch := omega) only [upd_eq, upd_ne, del_ne])) (by simp [rowsD_len])) | exact ((hx'.vw ((Vw.refl _).over (by repeat (first | exact Over.refl _ | exact hov | refine Over.upd ?_ hB (by omega) | refine Over.del ?_ hB (by omega))))).on (hσ' _ (by simp))) | exact (Sl.whole (t := 34) (r := true) (by simp (disch := omega) only [upd_eq, upd_ne, del_ne]) (by simp [rowsD_len])) | exact (hx'.vw ((Vw.refl _).over (by repeat (first | exact Over.refl _ | exact hov | refine Over.upd ?_ hB (by omega) | refine Over.del ?_ hB (by omega)))))) (by omega) hs1) ?_)
        | (refine aStop_of (validEnumS_c _ _ _ es (by first | exact (Sl.whole (t := 34) (r := true) ((hσ' _ (by simp)).trans (by simp (disch := omega) only [upd_eq, upd_ne, del_ne])) (by simp [rowsD_len])) | exact ((hy'.vw ((Vw.refl _).over (by repeat (first | exact Over.refl _ | exact hov | refine Over.upd ?_ hB (by omega) | refine Over.del ?_ hB (by omega))))).on (hσ' _ (by simp))) | exact (Sl.whole (t := 34) (r := true) (by simp (disch := omega) only [upd_eq, upd_ne, del_ne]) (by simp [rowsD_len])) | exact (hy'.vw ((Vw.refl _).over (by repeat (first | exact Over.refl _ | exact hov | refine Over.upd ?_ hB (by omega) | refine Over.del ?_ hB (by omega)))))) (by omega) hs2) ?_; rintro r δ ⟨rfl, rfl⟩)
        | (refine dStop_roA (fun σ' hσ' => validEnumS_c σ' _ _ es (by first | exact (Sl.whole (t := 34) (r := true) ((hσ' _ (by simp)).trans (by simp (disch := omega) only [upd_eq, upd_ne, del_ne])) (by simp [rowsD_len])) | exact ((hy'.vw ((Vw.refl _).over (by repeat (first | exact Over.refl _ | exact hov | refine Over.upd ?_ hB (by omega) | refine Over.del ?_ hB (by omega))))).on (hσ' _ (by simp))) | exact (Sl.whole (t := 34) (r := true) (by simp (disch := omega) only [upd_eq, upd_ne, del_ne]) (by simp [rowsD_len])) | exact (hy'.vw ((Vw.refl _).over (by repeat (first | exact Over.refl _ | exact hov | refine Over.upd ?_ hB (by omega) | refine Over.del ?_ hB (by omega)))))) (by omega) hs2) ?_)
      (repeat (simp (disch := omega) [hok]))
      first | (refine dEnd_ro ?_ (hKK _ _ _ ?_); (focus (simp; done)); clear htab tab hKK KK; simp only [thenA, blockA, reduceIte]) | (refine dEnd_of ?_ (hKK _ _ _ ?_); (focus (simp only [List.reverse_cons, List.reverse_nil, List.nil_append, List.cons_append, memA, mem1, and_true, true_and]; (repeat' apply And.intro); (all_goals (first | trivial | (refine .inr ⟨?_, ?_⟩ <;> (simp; done)) | (refine .inr ⟨?_, ?_⟩ <;> (simp <;> omega)) | (refine .inl ?_; rw [htab]; kernel_rfl))); done)); clear htab tab hKK KK; simp only [thenA, blockA, reduceIte]) | (refine hKK _ _ _ ?_; clear hKK KK; simp only [thenA, blockA, reduceIte]) | skip
      repeat' (first
        | refine AWP.seq ?_
        | refine AWP.block ?_
        | (refine AWP.skip ?_; simp only [thenA, blockA, reduceIte])
        | (refine AWP.exit ?_; simp only [thenA, blockA, eq_self, reduceIte, Nat.reduceEqDiff, Nat.succ_ne_zero])
        | (refine AWP.ret ?_; simp only [thenA, blockA, reduceIte])
        | (refine AWP.region (by rfl) (fun KK hKK => ?_); (repeat (simp (disch := omega) [hok])); first | (refine hKK _ _ _ ?_; clear hKK KK; simp only [thenA, blockA, reduceIte]) | skip)
        | (refine AWP.draw' mixd (by rfl) (by kernel_rfl) (fun KK tab hKK htab => ?_); (repeat (simp (disch := omega) [hok])); first | (refine dEnd_ro ?_ (hKK _ _ _ ?_); (focus (simp; done)); clear htab tab hKK KK; simp only [thenA, blockA, reduceIte]) | (refine dEnd_of ?_ (hKK _ _ _ ?_); (focus (simp only [List.reverse_cons, List.reverse_nil, List.nil_append, List.cons_append, memA, mem1, and_true, true_and]; (repeat' apply And.intro); (all_goals (first | trivial | (refine .inr ⟨?_, ?_⟩ <;> (simp; done)) | (refine .inr ⟨?_, ?_⟩ <;> (simp <;> omega)) | (refine .inl ?_; rw [htab]; kernel_rfl))); done)); clear htab tab hKK KK; simp only [thenA, blockA, reduceIte]) | skip)
        | (refine AWP.if_t ?_ ?_; focus (simp (disch := omega) [hok]; done))
        | (refine AWP.if_f ?_ ?_; focus (simp (disch := omega) [hok]; done)))
    refine ⟨by simp, _, rfl, fin0 ⟨?_, rfl⟩ (by simp [resO, get, nms, nmss]; try (simp [nms, nmss] at hn; simp_all))⟩
    simp [resO, get, ren, rens, rho, hK0, hK1]
  | true =>
    cases hok2 : okDs (-1000) 1000 es with
    | false =>
      have ho : dfO ds es = none := dfO_no (by simp [hok, hok2])
      rw [ho, cOut_none, dOutC_none]
      refine AC.intro [] ent_19 Try.func19 rfl (by simp [Try.f19]) (by simp) ?_
      intro K s hs hB hn hν hA hFr
      simp only [argT, Nat.zero_add, Nat.reduceAdd]
      have hx' := hx.vw hs.vw
      have hy' := hy.vw hs.vw
      have hK0 : ¬ 0 = K := by omega
      have hK1 : ¬ 0 = K + 1 := by omega
      repeat' (first
        | refine AWP.seq ?_
        | refine AWP.block ?_
        | (refine AWP.skip ?_; simp only [thenA, blockA, reduceIte])
        | (refine AWP.exit ?_; simp only [thenA, blockA, eq_self, reduceIte, Nat.reduceEqDiff, Nat.succ_ne_zero])
        | (refine AWP.ret ?_; simp only [thenA, blockA, reduceIte])
        | (refine AWP.region (by rfl) (fun KK hKK => ?_); (repeat (simp (disch := omega) [hok, hok2])); first | (refine hKK _ _ _ ?_; clear hKK KK; simp only [thenA, blockA, reduceIte]) | skip)
        | (refine AWP.draw' mixd (by rfl) (by kernel_rfl) (fun KK tab hKK htab => ?_); (repeat (simp (disch := omega) [hok, hok2])); first | (refine dEnd_ro ?_ (hKK _ _ _ ?_); (focus (simp; done)); clear htab tab hKK KK; simp only [thenA, blockA, reduceIte]) | (refine dEnd_of ?_ (hKK _ _ _ ?_); (focus (simp only [List.reverse_cons, List.reverse_nil, List.nil_append, List.cons_append, memA, mem1, and_true, true_and]; (repeat' apply And.intro); (all_goals (first | trivial | (refine .inr ⟨?_, ?_⟩ <;> (simp; done)) | (refine .inr ⟨?_, ?_⟩ <;> (simp <;> omega)) | (refine .inl ?_; rw [htab]; kernel_rfl))); done)); clear htab tab hKK KK; simp only [thenA, blockA, reduceIte]) | skip)
        | (refine AWP.if_t ?_ ?_; focus (simp (disch := omega) [hok, hok2]; done))
        | (refine AWP.if_f ?_ ?_; focus (simp (disch := omega) [hok, hok2]; done)))
      repeat
        first
          | (refine aStop_of (validEnumS_c _ _ _ ds (by first | exact (Sl.whole (t := 34) (r := true) ((hσ' _ (by simp)).trans (by simp (disch := omega) only [upd_eq, upd_ne, del_ne])) (by simp [rowsD_len])) | exact ((hx'.vw ((Vw.refl _).over (by repeat (first | exact Over.refl _ | exact hov | refine Over.upd ?_ hB (by omega) | refine Over.del ?_ hB (by omega))))).on (hσ' _ (by simp))) | exact (Sl.whole (t := 34) (r := true) (by simp (disch := omega) only [upd_eq, upd_ne, del_ne]) (by simp [rowsD_len])) | exact (hx'.vw ((Vw.refl _).over (by repeat (first | exact Over.refl _ | exact hov | refine Over.upd ?_ hB (by omega) | refine Over.del ?_ hB (by omega)))))) (by omega) hs1) ?_; rintro r δ ⟨rfl, rfl⟩)
          | (refine dStop_roA (fun σ' hσ' => validEnumS_c σ' _ _ ds (by first | exact (Sl.whole (t := 34) (r := true) ((hσ' _ (by simp)).trans (by simp (disch := omega) only [upd_eq, upd_ne, del_ne])) (by simp [rowsD_len])) | exact ((hx'.vw ((Vw.refl _).over (by repeat (first | exact Over.refl _ | exact hov | refine Over.upd ?_ hB (by omega) | refine Over.del ?_ hB (by omega))))).on (hσ' _ (by simp))) | exact (Sl.whole (t := 34) (r := true) (by simp (disch := omega) only [upd_eq, upd_ne, del_ne]) (by simp [rowsD_len])) | exact (hx'.vw ((Vw.refl _).over (by repeat (first | exact Over.refl _ | exact hov | refine Over.upd ?_ hB (by omega) | refine Over.del ?_ hB (by omega)))))) (by omega) hs1) ?_)
          | (refine aStop_of (validEnumS_c _ _ _ es (by first | exact (Sl.whole (t := 34) (r := true) ((hσ' _ (by simp)).trans (by simp (disch := omega) only [upd_eq, upd_ne, del_ne])) (by simp [rowsD_len])) | exact ((hy'.vw ((Vw.refl _).over (by repeat (first | exact Over.refl _ | exact hov | refine Over.upd ?_ hB (by omega) | refine Over.del ?_ hB (by omega))))).on (hσ' _ (by simp))) | exact (Sl.whole (t := 34) (r := true) (by simp (disch := omega) only [upd_eq, upd_ne, del_ne]) (by simp [rowsD_len])) | exact (hy'.vw ((Vw.refl _).over (by repeat (first | exact Over.refl _ | exact hov | refine Over.upd ?_ hB (by omega) | refine Over.del ?_ hB (by omega)))))) (by omega) hs2) ?_; rintro r δ ⟨rfl, rfl⟩)
          | (refine dStop_roA (fun σ' hσ' => validEnumS_c σ' _ _ es (by first | exact (Sl.whole (t := 34) (r := true) ((hσ' _ (by simp)).trans (by simp (disch := omega) only [upd_eq, upd_ne, del_ne])) (by simp [rowsD_len])) | exact ((hy'.vw ((Vw.refl _).over (by repeat (first | exact Over.refl _ | exact hov | refine Over.upd ?_ hB (by omega) | refine Over.del ?_ hB (by omega))))).on (hσ' _ (by simp))) | exact (Sl.whole (t := 34) (r := true) (by simp (disch := omega) only [upd_eq, upd_ne, del_ne]) (by simp [rowsD_len])) | exact (hy'.vw ((Vw.refl _).over (by repeat (first | exact Over.refl _ | exact hov | refine Over.upd ?_ hB (by omega) | refine Over.del ?_ hB (by omega)))))) (by omega) hs2) ?_)
        (repeat (simp (disch := omega) [hok, hok2]))
        first | (refine dEnd_ro ?_ (hKK _ _ _ ?_); (focus (simp; done)); clear htab tab hKK KK; simp only [thenA, blockA, reduceIte]) | (refine dEnd_of ?_ (hKK _ _ _ ?_); (focus (simp only [List.reverse_cons, List.reverse_nil, List.nil_append, List.cons_append, memA, mem1, and_true, true_and]; (repeat' apply And.intro); (all_goals (first | trivial | (refine .inr ⟨?_, ?_⟩ <;> (simp; done)) | (refine .inr ⟨?_, ?_⟩ <;> (simp <;> omega)) | (refine .inl ?_; rw [htab]; kernel_rfl))); done)); clear htab tab hKK KK; simp only [thenA, blockA, reduceIte]) | (refine hKK _ _ _ ?_; clear hKK KK; simp only [thenA, blockA, reduceIte]) | skip
        repeat' (first
          | refine AWP.seq ?_
          | refine AWP.block ?_
          | (refine AWP.skip ?_; simp only [thenA, blockA, reduceIte])
          | (refine AWP.exit ?_; simp only [thenA, blockA, eq_self, reduceIte, Nat.reduceEqDiff, Nat.succ_ne_zero])
          | (refine AWP.ret ?_; simp only [thenA, blockA, reduceIte])
          | (refine AWP.region (by rfl) (fun KK hKK => ?_); (repeat (simp (disch := omega) [hok, hok2])); first | (refine hKK _ _ _ ?_; clear hKK KK; simp only [thenA, blockA, reduceIte]) | skip)
          | (refine AWP.draw' mixd (by rfl) (by kernel_rfl) (fun KK tab hKK htab => ?_); (repeat (simp (disch := omega) [hok, hok2])); first | (refine dEnd_ro ?_ (hKK _ _ _ ?_); (focus (simp; done)); clear htab tab hKK KK; simp only [thenA, blockA, reduceIte]) | (refine dEnd_of ?_ (hKK _ _ _ ?_); (focus (simp only [List.reverse_cons, List.reverse_nil, List.nil_append, List.cons_append, memA, mem1, and_true, true_and]; (repeat' apply And.intro); (all_goals (first | trivial | (refine .inr ⟨?_, ?_⟩ <;> (simp; done)) | (refine .inr ⟨?_, ?_⟩ <;> (simp <;> omega)) | (refine .inl ?_; rw [htab]; kernel_rfl))); done)); clear htab tab hKK KK; simp only [thenA, blockA, reduceIte]) | skip)
          | (refine AWP.if_t ?_ ?_; focus (simp (disch := omega) [hok, hok2]; done))
          | (refine AWP.if_f ?_ ?_; focus (simp (disch := omega) [hok, hok2]; done)))
      refine ⟨by simp, _, rfl, fin0 ⟨?_, rfl⟩ (by simp [resO, get, nms, nmss]; try (simp [nms, nmss] at hn; simp_all))⟩
      simp [resO, get, ren, rens, rho, hK0, hK1]
    | true =>
      rw [dfO_yes ⟨hok, hok2⟩, cOut_some, dOutC_some]
      refine AC.intro [] ent_19 Try.func19 rfl (by simp [Try.f19]) (by simp) ?_
      intro K s hs hB hn hν hA hFr
      simp only [argT, Nat.zero_add, Nat.reduceAdd]
      have hx' := hx.vw hs.vw
      have hy' := hy.vw hs.vw
      have hbK : b < K := hA b (by simp [nmAs, nmA])
      have hbK2 : b2 < K := hA b2 (by simp [nmAs, nmA])
      repeat' (first
        | refine AWP.seq ?_
        | refine AWP.block ?_
        | (refine AWP.skip ?_; simp only [thenA, blockA, reduceIte])
        | (refine AWP.exit ?_; simp only [thenA, blockA, eq_self, reduceIte, Nat.reduceEqDiff, Nat.succ_ne_zero])
        | (refine AWP.ret ?_; simp only [thenA, blockA, reduceIte])
        | (refine AWP.region (by rfl) (fun KK hKK => ?_); (repeat (simp (disch := omega) [])); first | (refine hKK _ _ _ ?_; clear hKK KK; simp only [thenA, blockA, reduceIte]) | skip)
        | (refine AWP.draw' mixd (by rfl) (by kernel_rfl) (fun KK tab hKK htab => ?_); (repeat (simp (disch := omega) [])); first | (refine dEnd_ro ?_ (hKK _ _ _ ?_); (focus (simp; done)); clear htab tab hKK KK; simp only [thenA, blockA, reduceIte]) | (refine dEnd_of ?_ (hKK _ _ _ ?_); (focus (simp only [List.reverse_cons, List.reverse_nil, List.nil_append, List.cons_append, memA, mem1, and_true, true_and]; (repeat' apply And.intro); (all_goals (first | trivial | (refine .inr ⟨?_, ?_⟩ <;> (simp; done)) | (refine .inr ⟨?_, ?_⟩ <;> (simp <;> omega)) | (refine .inl ?_; rw [htab]; kernel_rfl))); done)); clear htab tab hKK KK; simp only [thenA, blockA, reduceIte]) | skip)
        | (refine AWP.if_t ?_ ?_; focus (simp (disch := omega) []; done))
        | (refine AWP.if_f ?_ ?_; focus (simp (disch := omega) []; done)))
      refine aStop_of (validEnumS_c _ _ _ ds (hx'.vw ((Vw.refl _).over (by repeat (first | exact Over.refl _ | exact hov | refine Over.upd ?_ hB (by omega) | refine Over.del ?_ hB (by omega))))) (by omega) hs1) ?_
      rintro r δ ⟨rfl, rfl⟩
      (repeat (simp (disch := omega) [hok]))
      first | (refine hKK _ _ _ ?_; clear hKK KK; simp only [thenA, blockA, reduceIte]) | skip
      refine aStop_of (validEnumS_c _ _ _ es (hy'.vw ((Vw.refl _).over (by repeat (first | exact Over.refl _ | exact hov | refine Over.upd ?_ hB (by omega) | refine Over.del ?_ hB (by omega))))) (by omega) hs2) ?_
      rintro r δ ⟨rfl, rfl⟩
      (repeat (simp (disch := omega) [hok, hok2]))
      first | (refine hKK _ _ _ ?_; clear hKK KK; simp only [thenA, blockA, reduceIte]) | skip
      repeat' (first
        | refine AWP.seq ?_
        | refine AWP.block ?_
        | (refine AWP.skip ?_; simp only [thenA, blockA, reduceIte])
        | (refine AWP.exit ?_; simp only [thenA, blockA, eq_self, reduceIte, Nat.reduceEqDiff, Nat.succ_ne_zero])
        | (refine AWP.ret ?_; simp only [thenA, blockA, reduceIte])
        | (refine AWP.region (by rfl) (fun KK hKK => ?_); (repeat (simp (disch := omega) [])); first | (refine hKK _ _ _ ?_; clear hKK KK; simp only [thenA, blockA, reduceIte]) | skip)
        | (refine AWP.draw' mixd (by rfl) (by kernel_rfl) (fun KK tab hKK htab => ?_); (repeat (simp (disch := omega) [])); first | (refine dEnd_ro ?_ (hKK _ _ _ ?_); (focus (simp; done)); clear htab tab hKK KK; simp only [thenA, blockA, reduceIte]) | (refine dEnd_of ?_ (hKK _ _ _ ?_); (focus (simp only [List.reverse_cons, List.reverse_nil, List.nil_append, List.cons_append, memA, mem1, and_true, true_and]; (repeat' apply And.intro); (all_goals (first | trivial | (refine .inr ⟨?_, ?_⟩ <;> (simp; done)) | (refine .inr ⟨?_, ?_⟩ <;> (simp <;> omega)) | (refine .inl ?_; rw [htab]; kernel_rfl))); done)); clear htab tab hKK KK; simp only [thenA, blockA, reduceIte]) | skip)
        | (refine AWP.if_t ?_ ?_; focus (simp (disch := omega) []; done))
        | (refine AWP.if_f ?_ ?_; focus (simp (disch := omega) []; done)))
      refine aStop_of (differ_c _ _ _ _ ds es (hx'.vw ((Vw.refl _).over (by repeat (first | exact Over.refl _ | exact hov | refine Over.upd ?_ hB (by omega) | refine Over.del ?_ hB (by omega))))) (hy'.vw ((Vw.refl _).over (by repeat (first | exact Over.refl _ | exact hov | refine Over.upd ?_ hB (by omega) | refine Over.del ?_ hB (by omega))))) hl1 hl2) ?_
      rintro r δ ⟨rfl, rfl⟩
      (repeat (simp (disch := omega) []))
      first | (refine hKK _ _ _ ?_; clear hKK KK; simp only [thenA, blockA, reduceIte]) | skip
      repeat' (first
        | refine AWP.seq ?_
        | refine AWP.block ?_
        | (refine AWP.skip ?_; simp only [thenA, blockA, reduceIte])
        | (refine AWP.exit ?_; simp only [thenA, blockA, eq_self, reduceIte, Nat.reduceEqDiff, Nat.succ_ne_zero])
        | (refine AWP.ret ?_; simp only [thenA, blockA, reduceIte])
        | (refine AWP.region (by rfl) (fun KK hKK => ?_); (repeat (simp (disch := omega) [])); first | (refine hKK _ _ _ ?_; clear hKK KK; simp only [thenA, blockA, reduceIte]) | skip)
        | (refine AWP.draw' mixd (by rfl) (by kernel_rfl) (fun KK tab hKK htab => ?_); (repeat (simp (disch := omega) [])); first | (refine dEnd_ro ?_ (hKK _ _ _ ?_); (focus (simp; done)); clear htab tab hKK KK; simp only [thenA, blockA, reduceIte]) | (refine dEnd_of ?_ (hKK _ _ _ ?_); (focus (simp only [List.reverse_cons, List.reverse_nil, List.nil_append, List.cons_append, memA, mem1, and_true, true_and]; (repeat' apply And.intro); (all_goals (first | trivial | (refine .inr ⟨?_, ?_⟩ <;> (simp; done)) | (refine .inr ⟨?_, ?_⟩ <;> (simp <;> omega)) | (refine .inl ?_; rw [htab]; kernel_rfl))); done)); clear htab tab hKK KK; simp only [thenA, blockA, reduceIte]) | skip)
        | (refine AWP.if_t ?_ ?_; focus (simp (disch := omega) []; done))
        | (refine AWP.if_f ?_ ?_; focus (simp (disch := omega) []; done)))
      refine ⟨by simp, _, rfl, fin1 ((K + 1 + 1 + 2 + 2)) (blkC (dfL ds es)) (by simp (disch := omega)) rfl (flatC _) ⟨?_, rfl⟩ (by omega) (by simp [resO, get, nms, nmss])⟩
      simp [resO, get, ren, rens, rho]

set_option maxRecDepth 10000 in
set_option maxHeartbeats 8000000 in
theorem diff_c (σ : Sto) (ν : Nat) (x y : AV) (ds es : List Df) (hx : Sl σ x 2 (rowsD ds)) (hy : Sl σ y 2 (rowsD es)) (hl1 : ds.length ≤ 1073741824) (hl2 : es.length ≤ 1073741824)
    (hs1 : ∀ d ∈ ds, d.1.size ≤ 9223372036854775807) (hs2 : ∀ d ∈ es, d.1.size ≤ 9223372036854775807) :
    AC Try.prog 17 [.agg [x], .agg [y]] σ ν fun r δ => r = cOut ν some (dfO ds es) ∧ δ = dOutC ν (dfO ds es) := by
  obtain ⟨b, o, cap, z, rfl⟩ := hx.out
  obtain ⟨b2, o2, cap2, z2, rfl⟩ := hy.out
  simp only [rowsD_len] at hx hy ⊢
  cases hok : okDs (-1000) 1000 ds with
  | false =>
    have ho : dfO ds es = none := dfO_no (by simp [hok])
    rw [ho, cOut_none, dOutC_none]
    refine AC.intro [] ent_17 Try.func17 rfl (by simp [Try.f17]) (by simp) ?_
    intro K s hs hB hn hν hA hFr
    simp only [argT, Nat.zero_add, Nat.reduceAdd]
    have hx' := hx.vw hs.vw
    have hy' := hy.vw hs.vw
    have hK0 : ¬ 0 = K := by omega
    have hK1 : ¬ 0 = K + 1 := by omega
    repeat' (first
      | refine AWP.seq ?_
      | refine AWP.block ?_
      | (refine AWP.skip ?_; simp only [thenA, blockA, reduceIte])
      | (refine AWP.exit ?_; simp only [thenA, blockA, eq_self, reduceIte, Nat.reduceEqDiff, Nat.succ_ne_zero])
      | (refine AWP.ret ?_; simp only [thenA, blockA, reduceIte])
      | (refine AWP.region (by rfl) (fun KK hKK => ?_); (repeat (simp (disch := omega) [hok])); first | (refine hKK _ _ _ ?_; clear hKK KK; simp only [thenA, blockA, reduceIte]) | skip)
      | (refine AWP.draw' mixd (by rfl) (by kernel_rfl) (fun KK tab hKK htab => ?_); (repeat (simp (disch := omega) [hok])); first | (refine dEnd_ro ?_ (hKK _ _ _ ?_); (focus (simp; done)); clear htab tab hKK KK; simp only [thenA, blockA, reduceIte]) | (refine dEnd_of ?_ (hKK _ _ _ ?_); (focus (simp only [List.reverse_cons, List.reverse_nil, List.nil_append, List.cons_append, memA, mem1, and_true, true_and]; (repeat' apply And.intro); (all_goals (first | trivial | (refine .inr ⟨?_, ?_⟩ <;> (simp; done)) | (refine .inr ⟨?_, ?_⟩ <;> (simp <;> omega)) | (refine .inl ?_; rw [htab]; kernel_rfl))); done)); clear htab tab hKK KK; simp only [thenA, blockA, reduceIte]) | skip)
      | (refine AWP.if_t ?_ ?_; focus (simp (disch := omega) [hok]; done))
      | (refine AWP.if_f ?_ ?_; focus (simp (disch := omega) [hok]; done)))
    repeat
      first
        | (refine aStop_of (validEnum_c _ _ _ ds (by first | exact (Sl.whole (t := 34) (r := true) ((hσ' _ (by simp)).trans (by simp (disch := omega) only [upd_eq, upd_ne, del_ne])) (by simp [rowsD_len])) | exact ((hx'.vw ((Vw.refl _).over (by repeat (first | exact Over.refl _ | exact hov | refine Over.upd ?_ hB (by omega) | refine Over.del ?_ hB (by omega))))).on (hσ' _ (by simp))) | exact (Sl.whole (t := 34) (r := true) (by simp (disch := omega) only [upd_eq, upd_ne, del_ne]) (by simp [rowsD_len])) | exact (hx'.vw ((Vw.refl _).over (by repeat (first | exact Over.refl _ | exact hov | refine Over.upd ?_ hB (by omega) | refine Over.del ?_ hB (by omega)))))) (by omega) hs1) ?_; rintro r δ ⟨rfl, rfl⟩)
        | (refine dStop_roA (fun σ' hσ' => validEnum_c σ' _ _ ds (by first | exact (Sl.whole (t := 34) (r := true) ((hσ' _ (by simp)).trans (by simp (disch := omega) only [upd_eq, upd_ne, del_ne])) (by simp [rowsD_len])) | exact ((hx'.vw ((Vw.refl _).over (by repeat (first | exact Over.refl _ | exact hov | refine Over.upd ?_ hB (by omega) | refine Over.del ?_ hB (by omega))))).on (hσ' _ (by simp))) | exact (Sl.whole (t := 34) (r := true) (by simp (disch := omega) only [upd_eq, upd_ne, del_ne]) (by simp [rowsD_len])) | exact (hx'.vw ((Vw.refl _).over (by repeat (first | exact Over.refl _ | exact hov | refine Over.upd ?_ hB (by omega) | refine Over.del ?_ hB (by omega)))))) (by omega) hs1) ?_)
        | (refine aStop_of (validEnum_c _ _ _ es (by first | exact (Sl.whole (t := 34) (r := true) ((hσ' _ (by simp)).trans (by simp (disch := omega) only [upd_eq, upd_ne, del_ne])) (by simp [rowsD_len])) | exact ((hy'.vw ((Vw.refl _).over (by repeat (first | exact Over.refl _ | exact hov | refine Over.upd ?_ hB (by omega) | refine Over.del ?_ hB (by omega))))).on (hσ' _ (by simp))) | exact (Sl.whole (t := 34) (r := true) (by simp (disch := omega) only [upd_eq, upd_ne, del_ne]) (by simp [rowsD_len])) | exact (hy'.vw ((Vw.refl _).over (by repeat (first | exact Over.refl _ | exact hov | refine Over.upd ?_ hB (by omega) | refine Over.del ?_ hB (by omega)))))) (by omega) hs2) ?_; rintro r δ ⟨rfl, rfl⟩)
        | (refine dStop_roA (fun σ' hσ' => validEnum_c σ' _ _ es (by first | exact (Sl.whole (t := 34) (r := true) ((hσ' _ (by simp)).trans (by simp (disch := omega) only [upd_eq, upd_ne, del_ne])) (by simp [rowsD_len])) | exact ((hy'.vw ((Vw.refl _).over (by repeat (first | exact Over.refl _ | exact hov | refine Over.upd ?_ hB (by omega) | refine Over.del ?_ hB (by omega))))).on (hσ' _ (by simp))) | exact (Sl.whole (t := 34) (r := true) (by simp (disch := omega) only [upd_eq, upd_ne, del_ne]) (by simp [rowsD_len])) | exact (hy'.vw ((Vw.refl _).over (by repeat (first | exact Over.refl _ | exact hov | refine Over.upd ?_ hB (by omega) | refine Over.del ?_ hB (by omega)))))) (by omega) hs2) ?_)
      (repeat (simp (disch := omega) [hok]))
      first | (refine dEnd_ro ?_ (hKK _ _ _ ?_); (focus (simp; done)); clear htab tab hKK KK; simp only [thenA, blockA, reduceIte]) | (refine dEnd_of ?_ (hKK _ _ _ ?_); (focus (simp only [List.reverse_cons, List.reverse_nil, List.nil_append, List.cons_append, memA, mem1, and_true, true_and]; (repeat' apply And.intro); (all_goals (first | trivial | (refine .inr ⟨?_, ?_⟩ <;> (simp; done)) | (refine .inr ⟨?_, ?_⟩ <;> (simp <;> omega)) | (refine .inl ?_; rw [htab]; kernel_rfl))); done)); clear htab tab hKK KK; simp only [thenA, blockA, reduceIte]) | (refine hKK _ _ _ ?_; clear hKK KK; simp only [thenA, blockA, reduceIte]) | skip
      repeat' (first
        | refine AWP.seq ?_
        | refine AWP.block ?_
        | (refine AWP.skip ?_; simp only [thenA, blockA, reduceIte])
        | (refine AWP.exit ?_; simp only [thenA, blockA, eq_self, reduceIte, Nat.reduceEqDiff, Nat.succ_ne_zero])
        | (refine AWP.ret ?_; simp only [thenA, blockA, reduceIte])
        | (refine AWP.region (by rfl) (fun KK hKK => ?_); (repeat (simp (disch := omega) [hok])); first | (refine hKK _ _ _ ?_; clear hKK KK; simp only [thenA, blockA, reduceIte]) | skip)
        | (refine AWP.draw' mixd (by rfl) (by kernel_rfl) (fun KK tab hKK htab => ?_); (repeat (simp (disch := omega) [hok])); first | (refine dEnd_ro ?_ (hKK _ _ _ ?_); (focus (simp; done)); clear htab tab hKK KK; simp only [thenA, blockA, reduceIte]) | (refine dEnd_of ?_ (hKK _ _ _ ?_); (focus (simp only [List.reverse_cons, List.reverse_nil, List.nil_append, List.cons_append, memA, mem1, and_true, true_and]; (repeat' apply And.intro); (all_goals (first | trivial | (refine .inr ⟨?_, ?_⟩ <;> (simp; done)) | (refine .inr ⟨?_, ?_⟩ <;> (simp <;> omega)) | (refine .inl ?_; rw [htab]; kernel_rfl))); done)); clear htab tab hKK KK; simp only [thenA, blockA, reduceIte]) | skip)
        | (refine AWP.if_t ?_ ?_; focus (simp (disch := omega) [hok]; done))
        | (refine AWP.if_f ?_ ?_; focus (simp (disch := omega) [hok]; done)))
    refine ⟨by simp, _, rfl, fin0 ⟨?_, rfl⟩ (by simp [resO, get, nms, nmss]; try (simp [nms, nmss] at hn; simp_all))⟩
    simp [resO, get, ren, rens, rho, hK0, hK1]
  | true =>
    cases hok2 : okDs (-1000) 1000 es with
    | false =>
      have ho : dfO ds es = none := dfO_no (by simp [hok, hok2])
      rw [ho, cOut_none, dOutC_none]
      refine AC.intro [] ent_17 Try.func17 rfl (by simp [Try.f17]) (by simp) ?_
      intro K s hs hB hn hν hA hFr
      simp only [argT, Nat.zero_add, Nat.reduceAdd]
      have hx' := hx.vw hs.vw
      have hy' := hy.vw hs.vw
      have hK0 : ¬ 0 = K := by omega
      have hK1 : ¬ 0 = K + 1 := by omega
      repeat' (first
        | refine AWP.seq ?_
        | refine AWP.block ?_
        | (refine AWP.skip ?_; simp only [thenA, blockA, reduceIte])
        | (refine AWP.exit ?_; simp only [thenA, blockA, eq_self, reduceIte, Nat.reduceEqDiff, Nat.succ_ne_zero])
        | (refine AWP.ret ?_; simp only [thenA, blockA, reduceIte])
        | (refine AWP.region (by rfl) (fun KK hKK => ?_); (repeat (simp (disch := omega) [hok, hok2])); first | (refine hKK _ _ _ ?_; clear hKK KK; simp only [thenA, blockA, reduceIte]) | skip)
        | (refine AWP.draw' mixd (by rfl) (by kernel_rfl) (fun KK tab hKK htab => ?_); (repeat (simp (disch := omega) [hok, hok2])); first | (refine dEnd_ro ?_ (hKK _ _ _ ?_); (focus (simp; done)); clear htab tab hKK KK; simp only [thenA, blockA, reduceIte]) | (refine dEnd_of ?_ (hKK _ _ _ ?_); (focus (simp only [List.reverse_cons, List.reverse_nil, List.nil_append, List.cons_append, memA, mem1, and_true, true_and]; (repeat' apply And.intro); (all_goals (first | trivial | (refine .inr ⟨?_, ?_⟩ <;> (simp; done)) | (refine .inr ⟨?_, ?_⟩ <;> (simp <;> omega)) | (refine .inl ?_; rw [htab]; kernel_rfl))); done)); clear htab tab hKK KK; simp only [thenA, blockA, reduceIte]) | skip)
        | (refine AWP.if_t ?_ ?_; focus (simp (disch := omega) [hok, hok2]; done))
        | (refine AWP.if_f ?_ ?_; focus (simp (disch := omega) [hok, hok2]; done)))
      repeat
        first
          | (refine aStop_of (validEnum_c _ _ _ ds (by first | exact (Sl.whole (t := 34) (r := true) ((hσ' _ (by simp)).trans (by simp (disch := omega) only [upd_eq, upd_ne, del_ne])) (by simp [rowsD_len])) | exact ((hx'.vw ((Vw.refl _).over (by repeat (first | exact Over.refl _ | exact hov | refine Over.upd ?_ hB (by omega) | refine Over.del ?_ hB (by omega))))).on (hσ' _ (by simp))) | exact (Sl.whole (t := 34) (r := true) (by simp (disch := omega) only [upd_eq, upd_ne, del_ne]) (by simp [rowsD_len])) | exact (hx'.vw ((Vw.refl _).over (by repeat (first | exact Over.refl _ | exact hov | refine Over.upd ?_ hB (by omega) | refine Over.del ?_ hB (by omega)))))) (by omega) hs1) ?_; rintro r δ ⟨rfl, rfl⟩)
          | (refine dStop_roA (fun σ' hσ' => validEnum_c σ' _ _ ds (by first | exact (Sl.whole (t := 34) (r := true) ((hσ' _ (by simp)).trans (by simp (disch := omega) only [upd_eq, upd_ne, del_ne])) (by simp [rowsD_len])) | exact ((hx'.vw ((Vw.refl _).over (by repeat (first | exact Over.refl _ | exact hov | refine Over.upd ?_ hB (by omega) | refine Over.del ?_ hB (by omega))))).on (hσ' _ (by simp))) | exact (Sl.whole (t := 34) (r := true) (by simp (disch := omega) only [upd_eq, upd_ne, del_ne]) (by simp [rowsD_len])) | exact (hx'.vw ((Vw.refl _).over (by repeat (first | exact Over.refl _ | exact hov | refine Over.upd ?_ hB (by omega) | refine Over.del ?_ hB (by omega)))))) (by omega) hs1) ?_)
          | (refine aStop_of (validEnum_c _ _ _ es (by first | exact (Sl.whole (t := 34) (r := true) ((hσ' _ (by simp)).trans (by simp (disch := omega) only [upd_eq, upd_ne, del_ne])) (by simp [rowsD_len])) | exact ((hy'.vw ((Vw.refl _).over (by repeat (first | exact Over.refl _ | exact hov | refine Over.upd ?_ hB (by omega) | refine Over.del ?_ hB (by omega))))).on (hσ' _ (by simp))) | exact (Sl.whole (t := 34) (r := true) (by simp (disch := omega) only [upd_eq, upd_ne, del_ne]) (by simp [rowsD_len])) | exact (hy'.vw ((Vw.refl _).over (by repeat (first | exact Over.refl _ | exact hov | refine Over.upd ?_ hB (by omega) | refine Over.del ?_ hB (by omega)))))) (by omega) hs2) ?_; rintro r δ ⟨rfl, rfl⟩)
          | (refine dStop_roA (fun σ' hσ' => validEnum_c σ' _ _ es (by first | exact (Sl.whole (t := 34) (r := true) ((hσ' _ (by simp)).trans (by simp (disch := omega) only [upd_eq, upd_ne, del_ne])) (by simp [rowsD_len])) | exact ((hy'.vw ((Vw.refl _).over (by repeat (first | exact Over.refl _ | exact hov | refine Over.upd ?_ hB (by omega) | refine Over.del ?_ hB (by omega))))).on (hσ' _ (by simp))) | exact (Sl.whole (t := 34) (r := true) (by simp (disch := omega) only [upd_eq, upd_ne, del_ne]) (by simp [rowsD_len])) | exact (hy'.vw ((Vw.refl _).over (by repeat (first | exact Over.refl _ | exact hov | refine Over.upd ?_ hB (by omega) | refine Over.del ?_ hB (by omega)))))) (by omega) hs2) ?_)
        (repeat (simp (disch := omega) [hok, hok2]))
        first | (refine dEnd_ro ?_ (hKK _ _ _ ?_); (focus (simp; done)); clear htab tab hKK KK; simp only [thenA, blockA, reduceIte]) | (refine dEnd_of ?_ (hKK _ _ _ ?_); (focus (simp only [List.reverse_cons, List.reverse_nil, List.nil_append, List.cons_append, memA, mem1, and_true, true_and]; (repeat' apply And.intro); (all_goals (first | trivial | (refine .inr ⟨?_, ?_⟩ <;> (simp; done)) | (refine .inr ⟨?_, ?_⟩ <;> (simp <;> omega)) | (refine .inl ?_; rw [htab]; kernel_rfl))); done)); clear htab tab hKK KK; simp only [thenA, blockA, reduceIte]) | (refine hKK _ _ _ ?_; clear hKK KK; simp only [thenA, blockA, reduceIte]) | skip
        repeat' (first
          | refine AWP.seq ?_
          | refine AWP.block ?_
          | (refine AWP.skip ?_; simp only [thenA, blockA, reduceIte])
          | (refine AWP.exit ?_; simp only [thenA, blockA, eq_self, reduceIte, Nat.reduceEqDiff, Nat.succ_ne_zero])
          | (refine AWP.ret ?_; simp only [thenA, blockA, reduceIte])
          | (refine AWP.region (by rfl) (fun KK hKK => ?_); (repeat (simp (disch := omega) [hok, hok2])); first | (refine hKK _ _ _ ?_; clear hKK KK; simp only [thenA, blockA, reduceIte]) | skip)
          | (refine AWP.draw' mixd (by rfl) (by kernel_rfl) (fun KK tab hKK htab => ?_); (repeat (simp (disch := omega) [hok, hok2])); first | (refine dEnd_ro ?_ (hKK _ _ _ ?_); (focus (simp; done)); clear htab tab hKK KK; simp only [thenA, blockA, reduceIte]) | (refine dEnd_of ?_ (hKK _ _ _ ?_); (focus (simp only [List.reverse_cons, List.reverse_nil, List.nil_append, List.cons_append, memA, mem1, and_true, true_and]; (repeat' apply And.intro); (all_goals (first | trivial | (refine .inr ⟨?_, ?_⟩ <;> (simp; done)) | (refine .inr ⟨?_, ?_⟩ <;> (simp <;> omega)) | (refine .inl ?_; rw [htab]; kernel_rfl))); done)); clear htab tab hKK KK; simp only [thenA, blockA, reduceIte]) | skip)
          | (refine AWP.if_t ?_ ?_; focus (simp (disch := omega) [hok, hok2]; done))
          | (refine AWP.if_f ?_ ?_; focus (simp (disch := omega) [hok, hok2]; done)))
      refine ⟨by simp, _, rfl, fin0 ⟨?_, rfl⟩ (by simp [resO, get, nms, nmss]; try (simp [nms, nmss] at hn; simp_all))⟩
      simp [resO, get, ren, rens, rho, hK0, hK1]
    | true =>
      rw [dfO_yes ⟨hok, hok2⟩, cOut_some, dOutC_some]
      have hfin : dfL ds es = ds.filterMap (chD es) ++ ds.filterMap (chT es) ++ es.filterMap (chA ds) := rfl
      refine AC.intro [] ent_17 Try.func17 rfl (by simp [Try.f17]) (by simp) ?_
      intro K s hs hB hn hν hA hFr
      simp only [argT, Nat.zero_add, Nat.reduceAdd]
      have hx' := hx.vw hs.vw
      have hy' := hy.vw hs.vw
      have hbK : b < K := hA b (by simp [nmAs, nmA])
      have hbK2 : b2 < K := hA b2 (by simp [nmAs, nmA])
      repeat' (first
        | refine AWP.seq ?_
        | refine AWP.block ?_
        | (refine AWP.skip ?_; simp only [thenA, blockA, reduceIte])
        | (refine AWP.exit ?_; simp only [thenA, blockA, eq_self, reduceIte, Nat.reduceEqDiff, Nat.succ_ne_zero])
        | (refine AWP.ret ?_; simp only [thenA, blockA, reduceIte])
        | (refine AWP.region (by rfl) (fun KK hKK => ?_); (repeat (simp (disch := omega) [])); first | (refine hKK _ _ _ ?_; clear hKK KK; simp only [thenA, blockA, reduceIte]) | skip)
        | (refine AWP.draw' mixd (by rfl) (by kernel_rfl) (fun KK tab hKK htab => ?_); (repeat (simp (disch := omega) [])); first | (refine dEnd_ro ?_ (hKK _ _ _ ?_); (focus (simp; done)); clear htab tab hKK KK; simp only [thenA, blockA, reduceIte]) | (refine dEnd_of ?_ (hKK _ _ _ ?_); (focus (simp only [List.reverse_cons, List.reverse_nil, List.nil_append, List.cons_append, memA, mem1, and_true, true_and]; (repeat' apply And.intro); (all_goals (first | trivial | (refine .inr ⟨?_, ?_⟩ <;> (simp; done)) | (refine .inr ⟨?_, ?_⟩ <;> (simp <;> omega)) | (refine .inl ?_; rw [htab]; kernel_rfl))); done)); clear htab tab hKK KK; simp only [thenA, blockA, reduceIte]) | skip)
        | (refine AWP.if_t ?_ ?_; focus (simp (disch := omega) []; done))
        | (refine AWP.if_f ?_ ?_; focus (simp (disch := omega) []; done)))
      refine aStop_of (validEnum_c _ _ _ ds (hx'.vw ((Vw.refl _).over (by repeat (first | exact Over.refl _ | exact hov | refine Over.upd ?_ hB (by omega) | refine Over.del ?_ hB (by omega))))) (by omega) hs1) ?_
      rintro r δ ⟨rfl, rfl⟩
      (repeat (simp (disch := omega) [hok]))
      first | (refine hKK _ _ _ ?_; clear hKK KK; simp only [thenA, blockA, reduceIte]) | skip
      refine aStop_of (validEnum_c _ _ _ es (hy'.vw ((Vw.refl _).over (by repeat (first | exact Over.refl _ | exact hov | refine Over.upd ?_ hB (by omega) | refine Over.del ?_ hB (by omega))))) (by omega) hs2) ?_
      rintro r δ ⟨rfl, rfl⟩
      (repeat (simp (disch := omega) [hok, hok2]))
      first | (refine hKK _ _ _ ?_; clear hKK KK; simp only [thenA, blockA, reduceIte]) | skip
      repeat' (first
        | refine AWP.seq ?_
        | refine AWP.block ?_
        | (refine AWP.skip ?_; simp only [thenA, blockA, reduceIte])
        | (refine AWP.exit ?_; simp only [thenA, blockA, eq_self, reduceIte, Nat.reduceEqDiff, Nat.succ_ne_zero])
        | (refine AWP.ret ?_; simp only [thenA, blockA, reduceIte])
        | (refine AWP.region (by rfl) (fun KK hKK => ?_); (repeat (simp (disch := omega) [])); first | (refine hKK _ _ _ ?_; clear hKK KK; simp only [thenA, blockA, reduceIte]) | skip)
        | (refine AWP.draw' mixd (by rfl) (by kernel_rfl) (fun KK tab hKK htab => ?_); (repeat (simp (disch := omega) [])); first | (refine dEnd_ro ?_ (hKK _ _ _ ?_); (focus (simp; done)); clear htab tab hKK KK; simp only [thenA, blockA, reduceIte]) | (refine dEnd_of ?_ (hKK _ _ _ ?_); (focus (simp only [List.reverse_cons, List.reverse_nil, List.nil_append, List.cons_append, memA, mem1, and_true, true_and]; (repeat' apply And.intro); (all_goals (first | trivial | (refine .inr ⟨?_, ?_⟩ <;> (simp; done)) | (refine .inr ⟨?_, ?_⟩ <;> (simp <;> omega)) | (refine .inl ?_; rw [htab]; kernel_rfl))); done)); clear htab tab hKK KK; simp only [thenA, blockA, reduceIte]) | skip)
        | (refine AWP.if_t ?_ ?_; focus (simp (disch := omega) []; done))
        | (refine AWP.if_f ?_ ?_; focus (simp (disch := omega) []; done)))
      refine AWP.weak (Weak.virt 5 77 4 0 0 0 (by simp) (by omega)) ?_
      refine AWP.weak (Weak.virt 6 77 4 0 0 0 (by simp) (by omega)) ?_
      refine AWP.loop (fun n τ σ' M => ∃ (k c1 c2 : Nat), k ≤ ds.length ∧ n = ds.length - k ∧ τ = [(2, .ptr K 0 0), (3, .ptr (K + 1) 0 0), (5, .sl c1 0 ((ds.take k).filterMap (chD es)).length none 4), (6, .sl c2 0 ((ds.take k).filterMap (chT es)).length none 4), (7, nilA), (22, .sl b o ds.length cap z), (23, .v (.int .i64 ds.length)), (24, .v (.int .i64 k))] ∧
        σ' c1 = some (blkC ((ds.take k).filterMap (chD es))) ∧ σ' c2 = some (blkC ((ds.take k).filterMap (chT es))) ∧ σ' K = some ⟨25, 1, [[.sl b o ds.length cap z]], true⟩ ∧ σ' (K + 1) = some ⟨25, 1, [[.sl b2 o2 es.length cap2 z2]], true⟩ ∧ c1 ≠ c2 ∧ K + 1 < c1 ∧ c1 < M ∧ K + 1 < c2 ∧ c2 < M ∧ Over s σ')
        ⟨_, _, _, _, ⟨0, K + 1 + 1 + 2 + 2, K + 1 + 1 + 2 + 2 + 1, by omega, rfl, rfl, by simp (disch := omega) only [upd_eq, upd_ne]; rfl, by simp (disch := omega) only [upd_eq, upd_ne]; rfl, by simp (disch := omega) only [upd_eq, upd_ne], by simp (disch := omega) only [upd_eq, upd_ne], by omega, by omega, by omega, by omega, by omega, (by repeat (first | exact Over.refl _ | exact hov | refine Over.upd ?_ hB (by omega) | refine Over.del ?_ hB (by omega)))⟩, Weak.tau (by simp [LQ])⟩ ?_
      rintro n τ σ' M ⟨k, c1, c2, hk, rfl, rfl, h1, h2, h3, h4, hne, n1, n2, n3, n4, hov⟩
      have hfl1 := fm_len (chD es) (ds.take k)
      have hfl2 := fm_len (chT es) (ds.take k)
      have htk : (ds.take k).length ≤ ds.length := by simp; omega
      by_cases hlt : k < ds.length
      · have hD0 := fm_take (chD es) hlt
        have hT0 := fm_take (chT es) hlt
        obtain ⟨_, rfl, kb, hkb, hat⟩ := hx'.at (i := k) (by rw [rowsD_len]; exact hlt)
        have hrow : (rowsD ds)[k]'(by rw [rowsD_len]; exact hlt) = [.v (.string ds[k].1), .v (.int .i64 ds[k].2)] := by simp [rowsD, rowD]
        rw [hrow] at hat
        have hkb2 := hov _ _ hkb
        generalize hDe : (ds.take k).filterMap (chD es) = D at *
        generalize hTe : (ds.take k).filterMap (chT es) = T at *
        have hz1 : (D.length + 1) * 40 ≤ 140737488355328 := by omega
        have hz2 : D.length + 1 ≤ 4611686018427387904 := by omega
        have hz3 : (T.length + 1) * 40 ≤ 140737488355328 := by omega
        have hz4 : T.length + 1 ≤ 4611686018427387904 := by omega
        by_cases hnx : nameIx es ds[k].1 < 0
        · have e1 : chD es ds[k] = some (1, ds[k].1, ds[k].2, 0) := if_pos hnx
          have e2 : chT es ds[k] = none := if_pos hnx
          have hD : (ds.take (k + 1)).filterMap (chD es) = D ++ [(1, ds[k].1, ds[k].2, 0)] := by rw [hD0, e1]; rfl
          have hT : (ds.take (k + 1)).filterMap (chT es) = T := by rw [hT0, e2]; simp
          repeat' (first
            | refine AWP.seq ?_
            | refine AWP.block ?_
            | (refine AWP.skip ?_; simp only [thenA, blockA, reduceIte])
            | (refine AWP.exit ?_; simp only [thenA, blockA, eq_self, reduceIte, Nat.reduceEqDiff, Nat.succ_ne_zero])
            | (refine AWP.ret ?_; simp only [thenA, blockA, reduceIte])
            | (refine AWP.region (by rfl) (fun KK hKK => ?_); (repeat (simp (disch := omega) [hlt, hkb2, hat, h4])); first | (refine hKK _ _ _ ?_; clear hKK KK; simp only [thenA, blockA, reduceIte]) | skip)
            | (refine AWP.draw' mixd (by rfl) (by kernel_rfl) (fun KK tab hKK htab => ?_); (repeat (simp (disch := omega) [hlt, hkb2, hat, h4])); first | (refine dEnd_ro ?_ (hKK _ _ _ ?_); (focus (simp; done)); clear htab tab hKK KK; simp only [thenA, blockA, reduceIte]) | (refine dEnd_of ?_ (hKK _ _ _ ?_); (focus (simp only [List.reverse_cons, List.reverse_nil, List.nil_append, List.cons_append, memA, mem1, and_true, true_and]; (repeat' apply And.intro); (all_goals (first | trivial | (refine .inr ⟨?_, ?_⟩ <;> (simp; done)) | (refine .inr ⟨?_, ?_⟩ <;> (simp <;> omega)) | (refine .inl ?_; rw [htab]; kernel_rfl))); done)); clear htab tab hKK KK; simp only [thenA, blockA, reduceIte]) | skip)
            | (refine AWP.if_t ?_ ?_; focus (simp (disch := omega) [hlt, hkb2, hat, h4]; done))
            | (refine AWP.if_f ?_ ?_; focus (simp (disch := omega) [hlt, hkb2, hat, h4]; done)))
          refine aStop_of (named_c _ _ _ es _ (hy'.vw ((Vw.refl _).over (by repeat (first | exact Over.refl _ | exact hov | refine Over.upd ?_ hB (by omega) | refine Over.del ?_ hB (by omega))))) (by omega)) ?_
          rintro r δ ⟨rfl, rfl⟩
          (repeat (simp (disch := omega) [hnx]))
          first | (refine hKK _ _ _ ?_; clear hKK KK; simp only [thenA, blockA, reduceIte]) | skip
          repeat' (first
            | refine AWP.seq ?_
            | refine AWP.block ?_
            | (refine AWP.skip ?_; simp only [thenA, blockA, reduceIte])
            | (refine AWP.exit ?_; simp only [thenA, blockA, eq_self, reduceIte, Nat.reduceEqDiff, Nat.succ_ne_zero])
            | (refine AWP.ret ?_; simp only [thenA, blockA, reduceIte])
            | (refine AWP.region (by rfl) (fun KK hKK => ?_); (repeat (simp (disch := omega) [hnx, elems, rowsC_len, rowsC_snoc, rowsC_take, hz1, hz2, h1])); first | (refine hKK _ _ _ ?_; clear hKK KK; simp only [thenA, blockA, reduceIte]) | skip)
            | (refine AWP.draw' mixd (by rfl) (by kernel_rfl) (fun KK tab hKK htab => ?_); (repeat (simp (disch := omega) [hnx, elems, rowsC_len, rowsC_snoc, rowsC_take, hz1, hz2, h1])); first | (refine dEnd_ro ?_ (hKK _ _ _ ?_); (focus (simp; done)); clear htab tab hKK KK; simp only [thenA, blockA, reduceIte]) | (refine dEnd_of ?_ (hKK _ _ _ ?_); (focus (simp only [List.reverse_cons, List.reverse_nil, List.nil_append, List.cons_append, memA, mem1, and_true, true_and]; (repeat' apply And.intro); (all_goals (first | trivial | (refine .inr ⟨?_, ?_⟩ <;> (simp; done)) | (refine .inr ⟨?_, ?_⟩ <;> (simp <;> omega)) | (refine .inl ?_; rw [htab]; kernel_rfl))); done)); clear htab tab hKK KK; simp only [thenA, blockA, reduceIte]) | skip)
            | (refine AWP.if_t ?_ ?_; focus (simp (disch := omega) [hnx, elems, rowsC_len, rowsC_snoc, rowsC_take, hz1, hz2, h1]; done))
            | (refine AWP.if_f ?_ ?_; focus (simp (disch := omega) [hnx, elems, rowsC_len, rowsC_snoc, rowsC_take, hz1, hz2, h1]; done)))
          refine ⟨_, _, _, _, ?_, ⟨k + 1, M + 1 + 2 + 1, c2, by omega, rfl, rfl, by rw [hD]; simp (disch := omega) only [upd_eq, upd_ne, del_ne, h1], by rw [hT]; simp (disch := omega) only [upd_eq, upd_ne, del_ne, h2], by simp (disch := omega) only [upd_eq, upd_ne, del_ne, h3], by simp (disch := omega) only [upd_eq, upd_ne, del_ne, h4], by omega, by omega, by omega, by omega, by omega, (by repeat (first | exact Over.refl _ | exact hov | refine Over.upd ?_ hB (by omega) | refine Over.del ?_ hB (by omega)))⟩, Weak.tau (by rw [hD, hT]; simp [LQ])⟩
          omega
        · obtain ⟨i, hi, e1, e2, e3⟩ := name_mem hnx
          obtain ⟨_, rfl, kb3, hkb3, hat3⟩ := hy'.at (i := i) (by rw [rowsD_len]; exact hi)
          have hrow3 : (rowsD es)[i]'(by rw [rowsD_len]; exact hi) = [.v (.string es[i].1), .v (.int .i64 es[i].2)] := by simp [rowsD, rowD]
          rw [hrow3] at hat3
          have hkb4 := hov _ _ hkb3
          have e4 : chD es ds[k] = none := if_neg hnx
          have hD : (ds.take (k + 1)).filterMap (chD es) = D := by rw [hD0, e4]; simp
          by_cases hv : es[i].2 = ds[k].2
          · have e5 : chT es ds[k] = none := by unfold chT; rw [if_neg hnx, e3, if_pos hv]
            have hT : (ds.take (k + 1)).filterMap (chT es) = T := by rw [hT0, e5]; simp
            repeat' (first
              | refine AWP.seq ?_
              | refine AWP.block ?_
              | (refine AWP.skip ?_; simp only [thenA, blockA, reduceIte])
              | (refine AWP.exit ?_; simp only [thenA, blockA, eq_self, reduceIte, Nat.reduceEqDiff, Nat.succ_ne_zero])
              | (refine AWP.ret ?_; simp only [thenA, blockA, reduceIte])
              | (refine AWP.region (by rfl) (fun KK hKK => ?_); (repeat (simp (disch := omega) [hlt, hkb2, hat, h4])); first | (refine hKK _ _ _ ?_; clear hKK KK; simp only [thenA, blockA, reduceIte]) | skip)
              | (refine AWP.draw' mixd (by rfl) (by kernel_rfl) (fun KK tab hKK htab => ?_); (repeat (simp (disch := omega) [hlt, hkb2, hat, h4])); first | (refine dEnd_ro ?_ (hKK _ _ _ ?_); (focus (simp; done)); clear htab tab hKK KK; simp only [thenA, blockA, reduceIte]) | (refine dEnd_of ?_ (hKK _ _ _ ?_); (focus (simp only [List.reverse_cons, List.reverse_nil, List.nil_append, List.cons_append, memA, mem1, and_true, true_and]; (repeat' apply And.intro); (all_goals (first | trivial | (refine .inr ⟨?_, ?_⟩ <;> (simp; done)) | (refine .inr ⟨?_, ?_⟩ <;> (simp <;> omega)) | (refine .inl ?_; rw [htab]; kernel_rfl))); done)); clear htab tab hKK KK; simp only [thenA, blockA, reduceIte]) | skip)
              | (refine AWP.if_t ?_ ?_; focus (simp (disch := omega) [hlt, hkb2, hat, h4]; done))
              | (refine AWP.if_f ?_ ?_; focus (simp (disch := omega) [hlt, hkb2, hat, h4]; done)))
            refine aStop_of (named_c _ _ _ es _ (hy'.vw ((Vw.refl _).over (by repeat (first | exact Over.refl _ | exact hov | refine Over.upd ?_ hB (by omega) | refine Over.del ?_ hB (by omega))))) (by omega)) ?_
            rintro r δ ⟨rfl, rfl⟩
            (repeat (simp (disch := omega) [e1, hi, hkb4, hat3, hv, h4]))
            first | (refine hKK _ _ _ ?_; clear hKK KK; simp only [thenA, blockA, reduceIte]) | skip
            repeat' (first
              | refine AWP.seq ?_
              | refine AWP.block ?_
              | (refine AWP.skip ?_; simp only [thenA, blockA, reduceIte])
              | (refine AWP.exit ?_; simp only [thenA, blockA, eq_self, reduceIte, Nat.reduceEqDiff, Nat.succ_ne_zero])
              | (refine AWP.ret ?_; simp only [thenA, blockA, reduceIte])
              | (refine AWP.region (by rfl) (fun KK hKK => ?_); (repeat (simp (disch := omega) [e1, hi, hkb4, hat3, hv, h4])); first | (refine hKK _ _ _ ?_; clear hKK KK; simp only [thenA, blockA, reduceIte]) | skip)
              | (refine AWP.draw' mixd (by rfl) (by kernel_rfl) (fun KK tab hKK htab => ?_); (repeat (simp (disch := omega) [e1, hi, hkb4, hat3, hv, h4])); first | (refine dEnd_ro ?_ (hKK _ _ _ ?_); (focus (simp; done)); clear htab tab hKK KK; simp only [thenA, blockA, reduceIte]) | (refine dEnd_of ?_ (hKK _ _ _ ?_); (focus (simp only [List.reverse_cons, List.reverse_nil, List.nil_append, List.cons_append, memA, mem1, and_true, true_and]; (repeat' apply And.intro); (all_goals (first | trivial | (refine .inr ⟨?_, ?_⟩ <;> (simp; done)) | (refine .inr ⟨?_, ?_⟩ <;> (simp <;> omega)) | (refine .inl ?_; rw [htab]; kernel_rfl))); done)); clear htab tab hKK KK; simp only [thenA, blockA, reduceIte]) | skip)
              | (refine AWP.if_t ?_ ?_; focus (simp (disch := omega) [e1, hi, hkb4, hat3, hv, h4]; done))
              | (refine AWP.if_f ?_ ?_; focus (simp (disch := omega) [e1, hi, hkb4, hat3, hv, h4]; done)))
            refine ⟨_, _, _, _, ?_, ⟨k + 1, c1, c2, by omega, rfl, rfl, by rw [hD]; simp (disch := omega) only [upd_eq, upd_ne, del_ne, h1], by rw [hT]; simp (disch := omega) only [upd_eq, upd_ne, del_ne, h2], by simp (disch := omega) only [upd_eq, upd_ne, del_ne, h3], by simp (disch := omega) only [upd_eq, upd_ne, del_ne, h4], by omega, by omega, by omega, by omega, by omega, (by repeat (first | exact Over.refl _ | exact hov | refine Over.upd ?_ hB (by omega) | refine Over.del ?_ hB (by omega)))⟩, Weak.tau (by rw [hD, hT]; simp [LQ])⟩
            omega
          · have e5 : chT es ds[k] = some (2, ds[k].1, ds[k].2, es[i].2) := by unfold chT; rw [if_neg hnx, e3, if_neg hv]
            have hT : (ds.take (k + 1)).filterMap (chT es) = T ++ [(2, ds[k].1, ds[k].2, es[i].2)] := by rw [hT0, e5]; rfl
            repeat' (first
              | refine AWP.seq ?_
              | refine AWP.block ?_
              | (refine AWP.skip ?_; simp only [thenA, blockA, reduceIte])
              | (refine AWP.exit ?_; simp only [thenA, blockA, eq_self, reduceIte, Nat.reduceEqDiff, Nat.succ_ne_zero])
              | (refine AWP.ret ?_; simp only [thenA, blockA, reduceIte])
              | (refine AWP.region (by rfl) (fun KK hKK => ?_); (repeat (simp (disch := omega) [hlt, hkb2, hat, h4])); first | (refine hKK _ _ _ ?_; clear hKK KK; simp only [thenA, blockA, reduceIte]) | skip)
              | (refine AWP.draw' mixd (by rfl) (by kernel_rfl) (fun KK tab hKK htab => ?_); (repeat (simp (disch := omega) [hlt, hkb2, hat, h4])); first | (refine dEnd_ro ?_ (hKK _ _ _ ?_); (focus (simp; done)); clear htab tab hKK KK; simp only [thenA, blockA, reduceIte]) | (refine dEnd_of ?_ (hKK _ _ _ ?_); (focus (simp only [List.reverse_cons, List.reverse_nil, List.nil_append, List.cons_append, memA, mem1, and_true, true_and]; (repeat' apply And.intro); (all_goals (first | trivial | (refine .inr ⟨?_, ?_⟩ <;> (simp; done)) | (refine .inr ⟨?_, ?_⟩ <;> (simp <;> omega)) | (refine .inl ?_; rw [htab]; kernel_rfl))); done)); clear htab tab hKK KK; simp only [thenA, blockA, reduceIte]) | skip)
              | (refine AWP.if_t ?_ ?_; focus (simp (disch := omega) [hlt, hkb2, hat, h4]; done))
              | (refine AWP.if_f ?_ ?_; focus (simp (disch := omega) [hlt, hkb2, hat, h4]; done)))
            refine aStop_of (named_c _ _ _ es _ (hy'.vw ((Vw.refl _).over (by repeat (first | exact Over.refl _ | exact hov | refine Over.upd ?_ hB (by omega) | refine Over.del ?_ hB (by omega))))) (by omega)) ?_
            rintro r δ ⟨rfl, rfl⟩
            (repeat (simp (disch := omega) [e1, hi, hkb4, hat3, hv, h4]))
            first | (refine hKK _ _ _ ?_; clear hKK KK; simp only [thenA, blockA, reduceIte]) | skip
            repeat' (first
              | refine AWP.seq ?_
              | refine AWP.block ?_
              | (refine AWP.skip ?_; simp only [thenA, blockA, reduceIte])
              | (refine AWP.exit ?_; simp only [thenA, blockA, eq_self, reduceIte, Nat.reduceEqDiff, Nat.succ_ne_zero])
              | (refine AWP.ret ?_; simp only [thenA, blockA, reduceIte])
              | (refine AWP.region (by rfl) (fun KK hKK => ?_); (repeat (simp (disch := omega) [e1, hi, hkb4, hat3, hv, h4, elems, rowsC_len, rowsC_snoc, rowsC_take, hz3, hz4, h2])); first | (refine hKK _ _ _ ?_; clear hKK KK; simp only [thenA, blockA, reduceIte]) | skip)
              | (refine AWP.draw' mixd (by rfl) (by kernel_rfl) (fun KK tab hKK htab => ?_); (repeat (simp (disch := omega) [e1, hi, hkb4, hat3, hv, h4, elems, rowsC_len, rowsC_snoc, rowsC_take, hz3, hz4, h2])); first | (refine dEnd_ro ?_ (hKK _ _ _ ?_); (focus (simp; done)); clear htab tab hKK KK; simp only [thenA, blockA, reduceIte]) | (refine dEnd_of ?_ (hKK _ _ _ ?_); (focus (simp only [List.reverse_cons, List.reverse_nil, List.nil_append, List.cons_append, memA, mem1, and_true, true_and]; (repeat' apply And.intro); (all_goals (first | trivial | (refine .inr ⟨?_, ?_⟩ <;> (simp; done)) | (refine .inr ⟨?_, ?_⟩ <;> (simp <;> omega)) | (refine .inl ?_; rw [htab]; kernel_rfl))); done)); clear htab tab hKK KK; simp only [thenA, blockA, reduceIte]) | skip)
              | (refine AWP.if_t ?_ ?_; focus (simp (disch := omega) [e1, hi, hkb4, hat3, hv, h4, elems, rowsC_len, rowsC_snoc, rowsC_take, hz3, hz4, h2]; done))
              | (refine AWP.if_f ?_ ?_; focus (simp (disch := omega) [e1, hi, hkb4, hat3, hv, h4, elems, rowsC_len, rowsC_snoc, rowsC_take, hz3, hz4, h2]; done)))
            refine ⟨_, _, _, _, ?_, ⟨k + 1, c1, M + 1 + 2 + 20 + 26, by omega, rfl, rfl, by rw [hD]; simp (disch := omega) only [upd_eq, upd_ne, del_ne, h1], by rw [hT]; simp (disch := omega) only [upd_eq, upd_ne, del_ne, h2], by simp (disch := omega) only [upd_eq, upd_ne, del_ne, h3], by simp (disch := omega) only [upd_eq, upd_ne, del_ne, h4], by omega, by omega, by omega, by omega, by omega, (by repeat (first | exact Over.refl _ | exact hov | refine Over.upd ?_ hB (by omega) | refine Over.del ?_ hB (by omega)))⟩, Weak.tau (by rw [hD, hT]; simp [LQ])⟩
            omega
      · have hk' : k = ds.length := by omega
        subst hk'
        rw [List.take_length] at *
        generalize ds.filterMap (chD es) = D at *
        generalize ds.filterMap (chT es) = T at *
        repeat' (first
          | refine AWP.seq ?_
          | refine AWP.block ?_
          | (refine AWP.skip ?_; simp only [thenA, blockA, reduceIte])
          | (refine AWP.exit ?_; simp only [thenA, blockA, eq_self, reduceIte, Nat.reduceEqDiff, Nat.succ_ne_zero])
          | (refine AWP.ret ?_; simp only [thenA, blockA, reduceIte])
          | (refine AWP.region (by rfl) (fun KK hKK => ?_); (repeat (simp (disch := omega) [hlt, h4])); first | (refine hKK _ _ _ ?_; clear hKK KK; simp only [thenA, blockA, reduceIte]) | skip)
          | (refine AWP.draw' mixd (by rfl) (by kernel_rfl) (fun KK tab hKK htab => ?_); (repeat (simp (disch := omega) [hlt, h4])); first | (refine dEnd_ro ?_ (hKK _ _ _ ?_); (focus (simp; done)); clear htab tab hKK KK; simp only [thenA, blockA, reduceIte]) | (refine dEnd_of ?_ (hKK _ _ _ ?_); (focus (simp only [List.reverse_cons, List.reverse_nil, List.nil_append, List.cons_append, memA, mem1, and_true, true_and]; (repeat' apply And.intro); (all_goals (first | trivial | (refine .inr ⟨?_, ?_⟩ <;> (simp; done)) | (refine .inr ⟨?_, ?_⟩ <;> (simp <;> omega)) | (refine .inl ?_; rw [htab]; kernel_rfl))); done)); clear htab tab hKK KK; simp only [thenA, blockA, reduceIte]) | skip)
          | (refine AWP.if_t ?_ ?_; focus (simp (disch := omega) [hlt, h4]; done))
          | (refine AWP.if_f ?_ ?_; focus (simp (disch := omega) [hlt, h4]; done)))
        refine AWP.weak (Weak.virt 7 77 4 0 0 0 (by simp) (by omega)) ?_
        refine AWP.loop (fun n τ σ' M => ∃ (k c3 : Nat), k ≤ es.length ∧ n = es.length - k ∧ τ = [(2, .ptr K 0 0), (3, .ptr (K + 1) 0 0), (5, .sl c1 0 D.length none 4), (6, .sl c2 0 T.length none 4), (7, .sl c3 0 ((es.take k).filterMap (chA ds)).length none 4), (70, .sl b2 o2 es.length cap2 z2), (71, .v (.int .i64 es.length)), (72, .v (.int .i64 k))] ∧
          σ' c1 = some (blkC D) ∧ σ' c2 = some (blkC T) ∧ σ' c3 = some (blkC ((es.take k).filterMap (chA ds))) ∧ σ' K = some ⟨25, 1, [[.sl b o ds.length cap z]], true⟩ ∧ c1 ≠ c3 ∧ c2 ≠ c3 ∧ K + 1 < c3 ∧ c1 < M ∧ c2 < M ∧ c3 < M ∧ Over s σ')
          ⟨_, _, _, _, ⟨0, M, by omega, rfl, rfl, by simp (disch := omega) only [upd_eq, upd_ne, h1], by simp (disch := omega) only [upd_eq, upd_ne, h2], by simp only [upd_eq]; rfl, by simp (disch := omega) only [upd_eq, upd_ne, h3], by omega, by omega, by omega, by omega, by omega, by omega, (by repeat (first | exact Over.refl _ | exact hov | refine Over.upd ?_ hB (by omega) | refine Over.del ?_ hB (by omega)))⟩, Weak.tau (by simp [LQ])⟩ ?_
        rintro n τ σ' M ⟨k, c3, hk, rfl, rfl, h1, h2, h5, h3, hne1, hne2, n5, n6, n7, n8, hov⟩
        have hfl3 := fm_len (chA ds) (es.take k)
        have htk3 : (es.take k).length ≤ es.length := by simp; omega
        by_cases hlt : k < es.length
        · have hA0 := fm_take (chA ds) hlt
          obtain ⟨_, rfl, kb3, hkb3, hat3⟩ := hy'.at (i := k) (by rw [rowsD_len]; exact hlt)
          have hrow3 : (rowsD es)[k]'(by rw [rowsD_len]; exact hlt) = [.v (.string es[k].1), .v (.int .i64 es[k].2)] := by simp [rowsD, rowD]
          rw [hrow3] at hat3
          have hkb4 := hov _ _ hkb3
          generalize hAe : (es.take k).filterMap (chA ds) = A at *
          have hz1 : (A.length + 1) * 40 ≤ 140737488355328 := by clear hA0; omega
          have hz2 : A.length + 1 ≤ 4611686018427387904 := by clear hA0; omega
          by_cases hnx : nameIx ds es[k].1 < 0
          · have e1 : chA ds es[k] = some (0, es[k].1, 0, es[k].2) := if_pos hnx
            have hAd : (es.take (k + 1)).filterMap (chA ds) = A ++ [(0, es[k].1, 0, es[k].2)] := by rw [hA0, e1]; rfl
            repeat' (first
              | refine AWP.seq ?_
              | refine AWP.block ?_
              | (refine AWP.skip ?_; simp only [thenA, blockA, reduceIte])
              | (refine AWP.exit ?_; simp only [thenA, blockA, eq_self, reduceIte, Nat.reduceEqDiff, Nat.succ_ne_zero])
              | (refine AWP.ret ?_; simp only [thenA, blockA, reduceIte])
              | (refine AWP.region (by rfl) (fun KK hKK => ?_); (repeat (simp (disch := omega) [hlt, hkb4, hat3, h3])); first | (refine hKK _ _ _ ?_; clear hKK KK; simp only [thenA, blockA, reduceIte]) | skip)
              | (refine AWP.draw' mixd (by rfl) (by kernel_rfl) (fun KK tab hKK htab => ?_); (repeat (simp (disch := omega) [hlt, hkb4, hat3, h3])); first | (refine dEnd_ro ?_ (hKK _ _ _ ?_); (focus (simp; done)); clear htab tab hKK KK; simp only [thenA, blockA, reduceIte]) | (refine dEnd_of ?_ (hKK _ _ _ ?_); (focus (simp only [List.reverse_cons, List.reverse_nil, List.nil_append, List.cons_append, memA, mem1, and_true, true_and]; (repeat' apply And.intro); (all_goals (first | trivial | (refine .inr ⟨?_, ?_⟩ <;> (simp; done)) | (refine .inr ⟨?_, ?_⟩ <;> (simp <;> omega)) | (refine .inl ?_; rw [htab]; kernel_rfl))); done)); clear htab tab hKK KK; simp only [thenA, blockA, reduceIte]) | skip)
              | (refine AWP.if_t ?_ ?_; focus (simp (disch := omega) [hlt, hkb4, hat3, h3]; done))
              | (refine AWP.if_f ?_ ?_; focus (simp (disch := omega) [hlt, hkb4, hat3, h3]; done)))
            refine aStop_of (named_c _ _ _ ds _ (hx'.vw ((Vw.refl _).over (by repeat (first | exact Over.refl _ | exact hov | refine Over.upd ?_ hB (by omega) | refine Over.del ?_ hB (by omega))))) (by omega)) ?_
            rintro r δ ⟨rfl, rfl⟩
            (repeat (simp (disch := omega) [hnx]))
            first | (refine hKK _ _ _ ?_; clear hKK KK; simp only [thenA, blockA, reduceIte]) | skip
            repeat' (first
              | refine AWP.seq ?_
              | refine AWP.block ?_
              | (refine AWP.skip ?_; simp only [thenA, blockA, reduceIte])
              | (refine AWP.exit ?_; simp only [thenA, blockA, eq_self, reduceIte, Nat.reduceEqDiff, Nat.succ_ne_zero])
              | (refine AWP.ret ?_; simp only [thenA, blockA, reduceIte])
              | (refine AWP.region (by rfl) (fun KK hKK => ?_); (repeat (simp (disch := omega) [hnx, elems, rowsC_len, rowsC_snoc, rowsC_take, hz1, hz2, h5])); first | (refine hKK _ _ _ ?_; clear hKK KK; simp only [thenA, blockA, reduceIte]) | skip)
              | (refine AWP.draw' mixd (by rfl) (by kernel_rfl) (fun KK tab hKK htab => ?_); (repeat (simp (disch := omega) [hnx, elems, rowsC_len, rowsC_snoc, rowsC_take, hz1, hz2, h5])); first | (refine dEnd_ro ?_ (hKK _ _ _ ?_); (focus (simp; done)); clear htab tab hKK KK; simp only [thenA, blockA, reduceIte]) | (refine dEnd_of ?_ (hKK _ _ _ ?_); (focus (simp only [List.reverse_cons, List.reverse_nil, List.nil_append, List.cons_append, memA, mem1, and_true, true_and]; (repeat' apply And.intro); (all_goals (first | trivial | (refine .inr ⟨?_, ?_⟩ <;> (simp; done)) | (refine .inr ⟨?_, ?_⟩ <;> (simp <;> omega)) | (refine .inl ?_; rw [htab]; kernel_rfl))); done)); clear htab tab hKK KK; simp only [thenA, blockA, reduceIte]) | skip)
              | (refine AWP.if_t ?_ ?_; focus (simp (disch := omega) [hnx, elems, rowsC_len, rowsC_snoc, rowsC_take, hz1, hz2, h5]; done))
              | (refine AWP.if_f ?_ ?_; focus (simp (disch := omega) [hnx, elems, rowsC_len, rowsC_snoc, rowsC_take, hz1, hz2, h5]; done)))
            refine ⟨_, _, _, _, ?_, ⟨k + 1, M + 1 + 2 + 1, by omega, rfl, rfl, by simp (disch := omega) only [upd_eq, upd_ne, del_ne, h1], by simp (disch := omega) only [upd_eq, upd_ne, del_ne, h2], by rw [hAd]; simp (disch := omega) only [upd_eq, upd_ne, del_ne, h5], by simp (disch := omega) only [upd_eq, upd_ne, del_ne, h3], by omega, by omega, by omega, by omega, by omega, by omega, (by repeat (first | exact Over.refl _ | exact hov | refine Over.upd ?_ hB (by omega) | refine Over.del ?_ hB (by omega)))⟩, Weak.tau (by rw [hAd]; simp [LQ])⟩
            omega
          · have e1 : chA ds es[k] = none := if_neg hnx
            have hAd : (es.take (k + 1)).filterMap (chA ds) = A := by rw [hA0, e1]; simp
            repeat' (first
              | refine AWP.seq ?_
              | refine AWP.block ?_
              | (refine AWP.skip ?_; simp only [thenA, blockA, reduceIte])
              | (refine AWP.exit ?_; simp only [thenA, blockA, eq_self, reduceIte, Nat.reduceEqDiff, Nat.succ_ne_zero])
              | (refine AWP.ret ?_; simp only [thenA, blockA, reduceIte])
              | (refine AWP.region (by rfl) (fun KK hKK => ?_); (repeat (simp (disch := omega) [hlt, hkb4, hat3, h3])); first | (refine hKK _ _ _ ?_; clear hKK KK; simp only [thenA, blockA, reduceIte]) | skip)
              | (refine AWP.draw' mixd (by rfl) (by kernel_rfl) (fun KK tab hKK htab => ?_); (repeat (simp (disch := omega) [hlt, hkb4, hat3, h3])); first | (refine dEnd_ro ?_ (hKK _ _ _ ?_); (focus (simp; done)); clear htab tab hKK KK; simp only [thenA, blockA, reduceIte]) | (refine dEnd_of ?_ (hKK _ _ _ ?_); (focus (simp only [List.reverse_cons, List.reverse_nil, List.nil_append, List.cons_append, memA, mem1, and_true, true_and]; (repeat' apply And.intro); (all_goals (first | trivial | (refine .inr ⟨?_, ?_⟩ <;> (simp; done)) | (refine .inr ⟨?_, ?_⟩ <;> (simp <;> omega)) | (refine .inl ?_; rw [htab]; kernel_rfl))); done)); clear htab tab hKK KK; simp only [thenA, blockA, reduceIte]) | skip)
              | (refine AWP.if_t ?_ ?_; focus (simp (disch := omega) [hlt, hkb4, hat3, h3]; done))
              | (refine AWP.if_f ?_ ?_; focus (simp (disch := omega) [hlt, hkb4, hat3, h3]; done)))
            refine aStop_of (named_c _ _ _ ds _ (hx'.vw ((Vw.refl _).over (by repeat (first | exact Over.refl _ | exact hov | refine Over.upd ?_ hB (by omega) | refine Over.del ?_ hB (by omega))))) (by omega)) ?_
            rintro r δ ⟨rfl, rfl⟩
            (repeat (simp (disch := omega) [hnx]))
            first | (refine hKK _ _ _ ?_; clear hKK KK; simp only [thenA, blockA, reduceIte]) | skip
            repeat' (first
              | refine AWP.seq ?_
              | refine AWP.block ?_
              | (refine AWP.skip ?_; simp only [thenA, blockA, reduceIte])
              | (refine AWP.exit ?_; simp only [thenA, blockA, eq_self, reduceIte, Nat.reduceEqDiff, Nat.succ_ne_zero])
              | (refine AWP.ret ?_; simp only [thenA, blockA, reduceIte])
              | (refine AWP.region (by rfl) (fun KK hKK => ?_); (repeat (simp (disch := omega) [hnx])); first | (refine hKK _ _ _ ?_; clear hKK KK; simp only [thenA, blockA, reduceIte]) | skip)
              | (refine AWP.draw' mixd (by rfl) (by kernel_rfl) (fun KK tab hKK htab => ?_); (repeat (simp (disch := omega) [hnx])); first | (refine dEnd_ro ?_ (hKK _ _ _ ?_); (focus (simp; done)); clear htab tab hKK KK; simp only [thenA, blockA, reduceIte]) | (refine dEnd_of ?_ (hKK _ _ _ ?_); (focus (simp only [List.reverse_cons, List.reverse_nil, List.nil_append, List.cons_append, memA, mem1, and_true, true_and]; (repeat' apply And.intro); (all_goals (first | trivial | (refine .inr ⟨?_, ?_⟩ <;> (simp; done)) | (refine .inr ⟨?_, ?_⟩ <;> (simp <;> omega)) | (refine .inl ?_; rw [htab]; kernel_rfl))); done)); clear htab tab hKK KK; simp only [thenA, blockA, reduceIte]) | skip)
              | (refine AWP.if_t ?_ ?_; focus (simp (disch := omega) [hnx]; done))
              | (refine AWP.if_f ?_ ?_; focus (simp (disch := omega) [hnx]; done)))
            refine ⟨_, _, _, _, ?_, ⟨k + 1, c3, by omega, rfl, rfl, by simp (disch := omega) only [upd_eq, upd_ne, del_ne, h1], by simp (disch := omega) only [upd_eq, upd_ne, del_ne, h2], by rw [hAd]; simp (disch := omega) only [upd_eq, upd_ne, del_ne, h5], by simp (disch := omega) only [upd_eq, upd_ne, del_ne, h3], by omega, by omega, by omega, by omega, by omega, by omega, (by repeat (first | exact Over.refl _ | exact hov | refine Over.upd ?_ hB (by omega) | refine Over.del ?_ hB (by omega)))⟩, Weak.tau (by rw [hAd]; simp [LQ])⟩
            omega
        · have hk' : k = es.length := by omega
          subst hk'
          rw [List.take_length] at *
          generalize es.filterMap (chA ds) = A at *
          have hsum : D.length + T.length + A.length ≤ 4294967296 := by omega
          have hsum2 : (D ++ T ++ A).length ≤ 4294967296 := by rw [List.length_append, List.length_append]; exact hsum
          repeat' (first
            | refine AWP.seq ?_
            | refine AWP.block ?_
            | (refine AWP.skip ?_; simp only [thenA, blockA, reduceIte])
            | (refine AWP.exit ?_; simp only [thenA, blockA, eq_self, reduceIte, Nat.reduceEqDiff, Nat.succ_ne_zero])
            | (refine AWP.ret ?_; simp only [thenA, blockA, reduceIte])
            | (refine AWP.region (by rfl) (fun KK hKK => ?_); (repeat (simp (disch := omega) [hlt])); first | (refine hKK _ _ _ ?_; clear hKK KK; simp only [thenA, blockA, reduceIte]) | skip)
            | (refine AWP.draw' mixd (by rfl) (by kernel_rfl) (fun KK tab hKK htab => ?_); (repeat (simp (disch := omega) [hlt])); first | (refine dEnd_ro ?_ (hKK _ _ _ ?_); (focus (simp; done)); clear htab tab hKK KK; simp only [thenA, blockA, reduceIte]) | (refine dEnd_of ?_ (hKK _ _ _ ?_); (focus (simp only [List.reverse_cons, List.reverse_nil, List.nil_append, List.cons_append, memA, mem1, and_true, true_and]; (repeat' apply And.intro); (all_goals (first | trivial | (refine .inr ⟨?_, ?_⟩ <;> (simp; done)) | (refine .inr ⟨?_, ?_⟩ <;> (simp <;> omega)) | (refine .inl ?_; rw [htab]; kernel_rfl))); done)); clear htab tab hKK KK; simp only [thenA, blockA, reduceIte]) | skip)
            | (refine AWP.if_t ?_ ?_; focus (simp (disch := omega) [hlt]; done))
            | (refine AWP.if_f ?_ ?_; focus (simp (disch := omega) [hlt]; done)))
          refine aStop_of (concat3R_c _ _ M true (.sl c1 0 D.length none 4) (.sl c2 0 T.length none 4) (.sl c3 0 A.length none 4) D T A (dfL ds es) hfin (by simp only [upd_eq]) (Sl.whole (t := 77) (r := true) (by simp (disch := omega) only [upd_eq, upd_ne, h1]) (by simp [rowsC_len])) (Sl.whole (t := 77) (r := true) (by simp (disch := omega) only [upd_eq, upd_ne, h2]) (by simp [rowsC_len])) (Sl.whole (t := 77) (r := true) (by simp (disch := omega) only [upd_eq, upd_ne, h5]) (by simp [rowsC_len])) hsum) ?_
          rintro r δ ⟨rfl, rfl⟩
          (repeat (simp (disch := omega) []))
          first | (refine hKK _ _ _ ?_; clear hKK KK; simp only [thenA, blockA, reduceIte]) | skip
          have hsum3 : (dfL ds es).length ≤ 4294967296 := by rw [hfin]; exact hsum2
          generalize dfL ds es = R at *
          repeat' (first
            | refine AWP.seq ?_
            | refine AWP.block ?_
            | (refine AWP.skip ?_; simp only [thenA, blockA, reduceIte])
            | (refine AWP.exit ?_; simp only [thenA, blockA, eq_self, reduceIte, Nat.reduceEqDiff, Nat.succ_ne_zero])
            | (refine AWP.ret ?_; simp only [thenA, blockA, reduceIte])
            | (refine AWP.region (by rfl) (fun KK hKK => ?_); (repeat (simp (disch := omega) [])); first | (refine hKK _ _ _ ?_; clear hKK KK; simp only [thenA, blockA, reduceIte]) | skip)
            | (refine AWP.draw' mixd (by rfl) (by kernel_rfl) (fun KK tab hKK htab => ?_); (repeat (simp (disch := omega) [])); first | (refine dEnd_ro ?_ (hKK _ _ _ ?_); (focus (simp; done)); clear htab tab hKK KK; simp only [thenA, blockA, reduceIte]) | (refine dEnd_of ?_ (hKK _ _ _ ?_); (focus (simp only [List.reverse_cons, List.reverse_nil, List.nil_append, List.cons_append, memA, mem1, and_true, true_and]; (repeat' apply And.intro); (all_goals (first | trivial | (refine .inr ⟨?_, ?_⟩ <;> (simp; done)) | (refine .inr ⟨?_, ?_⟩ <;> (simp <;> omega)) | (refine .inl ?_; rw [htab]; kernel_rfl))); done)); clear htab tab hKK KK; simp only [thenA, blockA, reduceIte]) | skip)
            | (refine AWP.if_t ?_ ?_; focus (simp (disch := omega) []; done))
            | (refine AWP.if_f ?_ ?_; focus (simp (disch := omega) []; done)))
          refine aStop_of (clipC_c _ _ (M + 1) 0 R.length hsum3) ?_
          rintro r δ ⟨rfl, rfl⟩
          (repeat (simp (disch := omega) []))
          first | (refine hKK _ _ _ ?_; clear hKK KK; simp only [thenA, blockA, reduceIte]) | skip
          repeat' (first
            | refine AWP.seq ?_
            | refine AWP.block ?_
            | (refine AWP.skip ?_; simp only [thenA, blockA, reduceIte])
            | (refine AWP.exit ?_; simp only [thenA, blockA, eq_self, reduceIte, Nat.reduceEqDiff, Nat.succ_ne_zero])
            | (refine AWP.ret ?_; simp only [thenA, blockA, reduceIte])
            | (refine AWP.region (by rfl) (fun KK hKK => ?_); (repeat (simp (disch := omega) [])); first | (refine hKK _ _ _ ?_; clear hKK KK; simp only [thenA, blockA, reduceIte]) | skip)
            | (refine AWP.draw' mixd (by rfl) (by kernel_rfl) (fun KK tab hKK htab => ?_); (repeat (simp (disch := omega) [])); first | (refine dEnd_ro ?_ (hKK _ _ _ ?_); (focus (simp; done)); clear htab tab hKK KK; simp only [thenA, blockA, reduceIte]) | (refine dEnd_of ?_ (hKK _ _ _ ?_); (focus (simp only [List.reverse_cons, List.reverse_nil, List.nil_append, List.cons_append, memA, mem1, and_true, true_and]; (repeat' apply And.intro); (all_goals (first | trivial | (refine .inr ⟨?_, ?_⟩ <;> (simp; done)) | (refine .inr ⟨?_, ?_⟩ <;> (simp <;> omega)) | (refine .inl ?_; rw [htab]; kernel_rfl))); done)); clear htab tab hKK KK; simp only [thenA, blockA, reduceIte]) | skip)
            | (refine AWP.if_t ?_ ?_; focus (simp (disch := omega) []; done))
            | (refine AWP.if_f ?_ ?_; focus (simp (disch := omega) []; done)))
          refine ⟨by simp, _, rfl, fin1 ((M + 1)) (blkC R) (by simp (disch := omega)) rfl (flatC _) ⟨?_, rfl⟩ (by omega) (by simp [resO, get, nms, nmss])⟩
          simp [resO, get, ren, rens, rho]
end Go.Proofs.Ytgaiemhbllbaiaa
