/- The exact law of Revalue, walked: it answers true. No condition but sizes that every input has. -/
import Derived.Test.YtkddpkjgmmmcpaaT3
import Derived.Test.YtkddpkjgmmmcpaaE1
set_option linter.unusedSimpArgs false
set_option linter.unusedVariables false
namespace Go.Proofs.Ytkddpkjgmmmcpaa
open Go Go.RowKit

theorem rvO_len {ds l : List Df} {t : List Int} (h : rvO ds t = some l) : l.length = ds.length := by
  unfold rvO at h
  split at h
  · cases h; exact rkD_len _ _
  · cases h
theorem revalue_none (σ : Sto) (ν : Nat) (x y : AV) (ds : List Df) (t : List Int) (ho : rvO ds t = none) (hx : Sl σ x 2 (rowsD ds)) (hy : Sl σ y 1 (rowsI t)) (hlen : ds.length ≤ 4294967296) (hlt : t.length ≤ 4294967296) (hsz : ∀ d ∈ ds, d.1.size ≤ 9223372036854775807) :
    AC Try.prog 42 [.agg [x], y] σ ν fun r δ => r = .tup [.agg [nilA], .v (.bool false)] ∧ δ = noS := by
  have h := revalue_c σ ν x y ds t hx hy hlen hlt hsz
  rw [ho] at h
  simpa only [eOut_none, dOut_none, Option.isSome_none] using h
theorem revalue_some (σ : Sto) (ν : Nat) (x y : AV) (ds l : List Df) (t : List Int) (ho : rvO ds t = some l) (hx : Sl σ x 2 (rowsD ds)) (hy : Sl σ y 1 (rowsI t)) (hlen : ds.length ≤ 4294967296) (hlt : t.length ≤ 4294967296) (hsz : ∀ d ∈ ds, d.1.size ≤ 9223372036854775807) :
    AC Try.prog 42 [.agg [x], y] σ ν fun r δ => r = .tup [.agg [.sl ν 0 l.length (some l.length) 2], .v (.bool true)] ∧ δ = upd noS ν (blkD l) := by
  have h := revalue_c σ ν x y ds t hx hy hlen hlt hsz
  rw [ho] at h
  simpa only [eOut_some, dOut_some, Option.isSome_some] using h
theorem revalueS_none (σ : Sto) (ν : Nat) (x y : AV) (ds : List Df) (t : List Int) (ho : rvO ds t = none) (hx : Sl σ x 2 (rowsD ds)) (hy : Sl σ y 1 (rowsI t)) (hlen : ds.length ≤ 4294967296) (hlt : t.length ≤ 4294967296) (hsz : ∀ d ∈ ds, d.1.size ≤ 9223372036854775807) :
    AC Try.prog 43 [.agg [x], y] σ ν fun r δ => r = .tup [.agg [nilA], .v (.bool false)] ∧ δ = noS := by
  have h := revalueS_c σ ν x y ds t hx hy hlen hlt hsz
  rw [ho] at h
  simpa only [eOut_none, dOut_none, Option.isSome_none] using h
theorem revalueS_some (σ : Sto) (ν : Nat) (x y : AV) (ds l : List Df) (t : List Int) (ho : rvO ds t = some l) (hx : Sl σ x 2 (rowsD ds)) (hy : Sl σ y 1 (rowsI t)) (hlen : ds.length ≤ 4294967296) (hlt : t.length ≤ 4294967296) (hsz : ∀ d ∈ ds, d.1.size ≤ 9223372036854775807) :
    AC Try.prog 43 [.agg [x], y] σ ν fun r δ => r = .tup [.agg [.sl ν 0 l.length (none) 2], .v (.bool true)] ∧ δ = upd noS ν (blkD l) := by
  have h := revalueS_c σ ν x y ds t hx hy hlen hlt hsz
  rw [ho] at h
  simpa only [eOut_some, dOut_some, Option.isSome_some] using h

set_option maxRecDepth 10000 in
set_option maxHeartbeats 4000000 in
theorem exactReval_c (σ : Sto) (ν : Nat) (x : AV) (ds : List Df) (y : AV) (t : List Int) (hx : Sl σ x 2 (rowsD ds)) (hlen : ds.length ≤ 9223372036854775807) (hsz : ∀ d ∈ ds, d.1.size ≤ 9223372036854775807)
    (hy : Sl σ y 1 (rowsI t)) (htl : t.length ≤ 9223372036854775807) (htv : ∀ n ∈ t, -9223372036854775808 ≤ n ∧ n ≤ 9223372036854775807) :
    AC Try.prog 14 [.agg [x], y] σ ν fun r δ => r = .v (.bool true) ∧ δ = noS := by
  obtain ⟨b, o, cap, z, rfl⟩ := hx.out
  obtain ⟨b2, o2, cap2, z2, rfl⟩ := hy.out
  simp only [rowsD_len, rowsI_len] at hx hy ⊢
  refine AC.intro [] ent_14 Try.func14 rfl (by simp [Try.f14]) (by simp) ?_
  intro K s hs hB hn hν hA hFr
  simp only [argT, Nat.zero_add, Nat.reduceAdd]
  have hx' := hx.vw hs.vw
  have hy' := hy.vw hs.vw
  have hbK : b < K := hA b (by simp [nmAs, nmA])
  have hbK2 : b2 < K := hA b2 (by simp [nmAs, nmA])
  by_cases h1 : (1048576 : Int) < t.length
  · repeat' (first
      | refine AWP.seq ?_
      | refine AWP.block ?_
      | (refine AWP.skip ?_; simp only [thenA, blockA, reduceIte])
      | (refine AWP.exit ?_; simp only [thenA, blockA, eq_self, reduceIte, Nat.reduceEqDiff, Nat.succ_ne_zero])
      | (refine AWP.ret ?_; simp only [thenA, blockA, reduceIte])
      | (refine AWP.region (by rfl) (fun KK hKK => ?_); (repeat (simp (disch := omega) [h1])); first | (refine hKK _ _ _ ?_; clear hKK KK; simp only [thenA, blockA, reduceIte]) | skip)
      | (refine AWP.draw' mixd (by rfl) (by kernel_rfl) (fun KK tab hKK htab => ?_); (repeat (simp (disch := omega) [h1])); first | (refine dEnd_ro ?_ (hKK _ _ _ ?_); (focus (simp; done)); clear htab tab hKK KK; simp only [thenA, blockA, reduceIte]) | (refine dEnd_of ?_ (hKK _ _ _ ?_); (focus (simp only [List.reverse_cons, List.reverse_nil, List.nil_append, List.cons_append, memA, mem1, and_true, true_and]; (repeat' apply And.intro); (all_goals (first | trivial | (refine .inr ⟨?_, ?_⟩ <;> (simp; done)) | (refine .inr ⟨?_, ?_⟩ <;> (simp <;> omega)) | (refine .inl ?_; rw [htab]; kernel_rfl))); done)); clear htab tab hKK KK; simp only [thenA, blockA, reduceIte]) | skip)
      | (refine AWP.if_t ?_ ?_; focus (simp (disch := omega) [h1]; done))
      | (refine AWP.if_f ?_ ?_; focus (simp (disch := omega) [h1]; done)))
    refine ⟨by simp, _, rfl, fin0 ⟨?_, rfl⟩ (by simp [resO, get, nms, nmss]; try (simp [nms, nmss] at hn; simp_all))⟩
    simp [resO, get, ren, rens]
  repeat' (first
    | refine AWP.seq ?_
    | refine AWP.block ?_
    | (refine AWP.skip ?_; simp only [thenA, blockA, reduceIte])
    | (refine AWP.exit ?_; simp only [thenA, blockA, eq_self, reduceIte, Nat.reduceEqDiff, Nat.succ_ne_zero])
    | (refine AWP.ret ?_; simp only [thenA, blockA, reduceIte])
    | (refine AWP.region (by rfl) (fun KK hKK => ?_); (repeat (simp (disch := omega) [h1])); first | (refine hKK _ _ _ ?_; clear hKK KK; simp only [thenA, blockA, reduceIte]) | skip)
    | (refine AWP.draw' mixd (by rfl) (by kernel_rfl) (fun KK tab hKK htab => ?_); (repeat (simp (disch := omega) [h1])); first | (refine dEnd_ro ?_ (hKK _ _ _ ?_); (focus (simp; done)); clear htab tab hKK KK; simp only [thenA, blockA, reduceIte]) | (refine dEnd_of ?_ (hKK _ _ _ ?_); (focus (simp only [List.reverse_cons, List.reverse_nil, List.nil_append, List.cons_append, memA, mem1, and_true, true_and]; (repeat' apply And.intro); (all_goals (first | trivial | (refine .inr ⟨?_, ?_⟩ <;> (simp; done)) | (refine .inr ⟨?_, ?_⟩ <;> (simp <;> omega)) | (refine .inl ?_; rw [htab]; kernel_rfl))); done)); clear htab tab hKK KK; simp only [thenA, blockA, reduceIte]) | skip)
    | (refine AWP.if_t ?_ ?_; focus (simp (disch := omega) [h1]; done))
    | (refine AWP.if_f ?_ ?_; focus (simp (disch := omega) [h1]; done)))
  refine aStop_of (szEnum_c _ _ _ ds 1048576 (hx'.vw ((Vw.refl _).over (by repeat (first | exact Over.refl _ | exact hov | refine Over.upd ?_ hB (by omega) | refine Over.del ?_ hB (by omega))))) hlen hsz (by omega)) ?_
  rintro r δ ⟨rfl, rfl⟩
  (repeat (simp (disch := omega) []))
  first | (refine hKK _ _ _ ?_; clear hKK KK; simp only [thenA, blockA, reduceIte]) | skip
  by_cases h3 : szL ds 1048576 < 0
  · repeat' (first
      | refine AWP.seq ?_
      | refine AWP.block ?_
      | (refine AWP.skip ?_; simp only [thenA, blockA, reduceIte])
      | (refine AWP.exit ?_; simp only [thenA, blockA, eq_self, reduceIte, Nat.reduceEqDiff, Nat.succ_ne_zero])
      | (refine AWP.ret ?_; simp only [thenA, blockA, reduceIte])
      | (refine AWP.region (by rfl) (fun KK hKK => ?_); (repeat (simp (disch := omega) [h3])); first | (refine hKK _ _ _ ?_; clear hKK KK; simp only [thenA, blockA, reduceIte]) | skip)
      | (refine AWP.draw' mixd (by rfl) (by kernel_rfl) (fun KK tab hKK htab => ?_); (repeat (simp (disch := omega) [h3])); first | (refine dEnd_ro ?_ (hKK _ _ _ ?_); (focus (simp; done)); clear htab tab hKK KK; simp only [thenA, blockA, reduceIte]) | (refine dEnd_of ?_ (hKK _ _ _ ?_); (focus (simp only [List.reverse_cons, List.reverse_nil, List.nil_append, List.cons_append, memA, mem1, and_true, true_and]; (repeat' apply And.intro); (all_goals (first | trivial | (refine .inr ⟨?_, ?_⟩ <;> (simp; done)) | (refine .inr ⟨?_, ?_⟩ <;> (simp <;> omega)) | (refine .inl ?_; rw [htab]; kernel_rfl))); done)); clear htab tab hKK KK; simp only [thenA, blockA, reduceIte]) | skip)
      | (refine AWP.if_t ?_ ?_; focus (simp (disch := omega) [h3]; done))
      | (refine AWP.if_f ?_ ?_; focus (simp (disch := omega) [h3]; done)))
    refine ⟨by simp, _, rfl, fin0 ⟨?_, rfl⟩ (by simp [resO, get, nms, nmss]; try (simp [nms, nmss] at hn; simp_all))⟩
    simp [resO, get, ren, rens]
  obtain ⟨g1, g2, g3⟩ := szL_sz (k := 1048576) (by omega) (by omega : 0 ≤ szL ds 1048576)
  have hl : ds.length ≤ 4294967296 := by omega
  have ht4 : t.length ≤ 4294967296 := by omega
  have hm : ¬ (1 + 2 * (ds.length : Int) < 0) := by omega
  have hmt : ¬ (1 + 2 * (ds.length : Int) + t.length < 0) := by omega
  repeat' (first
    | refine AWP.seq ?_
    | refine AWP.block ?_
    | (refine AWP.skip ?_; simp only [thenA, blockA, reduceIte])
    | (refine AWP.exit ?_; simp only [thenA, blockA, eq_self, reduceIte, Nat.reduceEqDiff, Nat.succ_ne_zero])
    | (refine AWP.ret ?_; simp only [thenA, blockA, reduceIte])
    | (refine AWP.region (by rfl) (fun KK hKK => ?_); (repeat (simp (disch := omega) [h3])); first | (refine hKK _ _ _ ?_; clear hKK KK; simp only [thenA, blockA, reduceIte]) | skip)
    | (refine AWP.draw' mixd (by rfl) (by kernel_rfl) (fun KK tab hKK htab => ?_); (repeat (simp (disch := omega) [h3])); first | (refine dEnd_ro ?_ (hKK _ _ _ ?_); (focus (simp; done)); clear htab tab hKK KK; simp only [thenA, blockA, reduceIte]) | (refine dEnd_of ?_ (hKK _ _ _ ?_); (focus (simp only [List.reverse_cons, List.reverse_nil, List.nil_append, List.cons_append, memA, mem1, and_true, true_and]; (repeat' apply And.intro); (all_goals (first | trivial | (refine .inr ⟨?_, ?_⟩ <;> (simp; done)) | (refine .inr ⟨?_, ?_⟩ <;> (simp <;> omega)) | (refine .inl ?_; rw [htab]; kernel_rfl))); done)); clear htab tab hKK KK; simp only [thenA, blockA, reduceIte]) | skip)
    | (refine AWP.if_t ?_ ?_; focus (simp (disch := omega) [h3]; done))
    | (refine AWP.if_f ?_ ?_; focus (simp (disch := omega) [h3]; done)))
  cases hO : rvO ds t with
  | none =>
    repeat' (first
      | refine AWP.seq ?_
      | refine AWP.block ?_
      | (refine AWP.skip ?_; simp only [thenA, blockA, reduceIte])
      | (refine AWP.exit ?_; simp only [thenA, blockA, eq_self, reduceIte, Nat.reduceEqDiff, Nat.succ_ne_zero])
      | (refine AWP.ret ?_; simp only [thenA, blockA, reduceIte])
      | (refine AWP.region (by rfl) (fun KK hKK => ?_); (repeat (simp (disch := omega) [hm, hmt])); first | (refine hKK _ _ _ ?_; clear hKK KK; simp only [thenA, blockA, reduceIte]) | skip)
      | (refine AWP.draw' mixd (by rfl) (by kernel_rfl) (fun KK tab hKK htab => ?_); (repeat (simp (disch := omega) [hm, hmt])); first | (refine dEnd_ro ?_ (hKK _ _ _ ?_); (focus (simp; done)); clear htab tab hKK KK; simp only [thenA, blockA, reduceIte]) | (refine dEnd_of ?_ (hKK _ _ _ ?_); (focus (simp only [List.reverse_cons, List.reverse_nil, List.nil_append, List.cons_append, memA, mem1, and_true, true_and]; (repeat' apply And.intro); (all_goals (first | trivial | (refine .inr ⟨?_, ?_⟩ <;> (simp; done)) | (refine .inr ⟨?_, ?_⟩ <;> (simp <;> omega)) | (refine .inl ?_; rw [htab]; kernel_rfl))); done)); clear htab tab hKK KK; simp only [thenA, blockA, reduceIte]) | skip)
      | (refine AWP.if_t ?_ ?_; focus (simp (disch := omega) [hm, hmt]; done))
      | (refine AWP.if_f ?_ ?_; focus (simp (disch := omega) [hm, hmt]; done)))
    repeat
      first
        | (refine aStop_of (toEnum_c _ _ _ ds (by first | exact (Sl.whole (t := 61) (r := true) ((hσ' _ (by simp)).trans (by simp (disch := omega) only [upd_eq, upd_ne, del_ne])) (by simp [rowsD_len])) | exact ((hx'.vw ((Vw.refl _).over (by repeat (first | exact Over.refl _ | exact hov | refine Over.upd ?_ hB (by omega) | refine Over.del ?_ hB (by omega))))).on (hσ' _ (by simp))) | exact (Sl.whole (t := 61) (r := true) (by simp (disch := omega) only [upd_eq, upd_ne, del_ne]) (by simp [rowsD_len])) | exact (hx'.vw ((Vw.refl _).over (by repeat (first | exact Over.refl _ | exact hov | refine Over.upd ?_ hB (by omega) | refine Over.del ?_ hB (by omega)))))) hl) ?_; rintro r δ ⟨rfl, rfl⟩)
        | (refine dStop_newA (fun σ' hσ' => toEnum_c σ' _ _ ds (by first | exact (Sl.whole (t := 61) (r := true) ((hσ' _ (by simp)).trans (by simp (disch := omega) only [upd_eq, upd_ne, del_ne])) (by simp [rowsD_len])) | exact ((hx'.vw ((Vw.refl _).over (by repeat (first | exact Over.refl _ | exact hov | refine Over.upd ?_ hB (by omega) | refine Over.del ?_ hB (by omega))))).on (hσ' _ (by simp))) | exact (Sl.whole (t := 61) (r := true) (by simp (disch := omega) only [upd_eq, upd_ne, del_ne]) (by simp [rowsD_len])) | exact (hx'.vw ((Vw.refl _).over (by repeat (first | exact Over.refl _ | exact hov | refine Over.upd ?_ hB (by omega) | refine Over.del ?_ hB (by omega)))))) hl) ?_)
        | (refine aStop_of (toIntS_c _ _ _ t (by first | exact (Sl.whole (t := 3) (r := true) ((hσ' _ (by simp)).trans (by simp (disch := omega) only [upd_eq, upd_ne, del_ne])) (by simp [rowsI_len])) | exact ((hy'.vw ((Vw.refl _).over (by repeat (first | exact Over.refl _ | exact hov | refine Over.upd ?_ hB (by omega) | refine Over.del ?_ hB (by omega))))).on (hσ' _ (by simp))) | exact (Sl.whole (t := 3) (r := true) (by simp (disch := omega) only [upd_eq, upd_ne, del_ne]) (by simp [rowsI_len])) | exact (hy'.vw ((Vw.refl _).over (by repeat (first | exact Over.refl _ | exact hov | refine Over.upd ?_ hB (by omega) | refine Over.del ?_ hB (by omega)))))) ht4) ?_; rintro r δ ⟨rfl, rfl⟩)
        | (refine dStop_newA (fun σ' hσ' => toIntS_c σ' _ _ t (by first | exact (Sl.whole (t := 3) (r := true) ((hσ' _ (by simp)).trans (by simp (disch := omega) only [upd_eq, upd_ne, del_ne])) (by simp [rowsI_len])) | exact ((hy'.vw ((Vw.refl _).over (by repeat (first | exact Over.refl _ | exact hov | refine Over.upd ?_ hB (by omega) | refine Over.del ?_ hB (by omega))))).on (hσ' _ (by simp))) | exact (Sl.whole (t := 3) (r := true) (by simp (disch := omega) only [upd_eq, upd_ne, del_ne]) (by simp [rowsI_len])) | exact (hy'.vw ((Vw.refl _).over (by repeat (first | exact Over.refl _ | exact hov | refine Over.upd ?_ hB (by omega) | refine Over.del ?_ hB (by omega)))))) ht4) ?_)
        | (refine aStop_of (revalueS_none _ _ _ _ ds t hO (by first | exact (Sl.whole (t := 61) (r := true) ((hσ' _ (by simp)).trans (by simp (disch := omega) only [upd_eq, upd_ne, del_ne])) (by simp [rowsD_len])) | exact (Sl.whole (t := 61) (r := true) (by simp (disch := omega) only [upd_eq, upd_ne, del_ne]) (by simp [rowsD_len]))) (by first | exact (Sl.whole (t := 3) (r := true) ((hσ' _ (by simp)).trans (by simp (disch := omega) only [upd_eq, upd_ne, del_ne])) (by simp [rowsI_len])) | exact (Sl.whole (t := 3) (r := true) (by simp (disch := omega) only [upd_eq, upd_ne, del_ne]) (by simp [rowsI_len]))) hl ht4 hsz) ?_; rintro r δ ⟨rfl, rfl⟩)
        | (refine dStop_roA (fun σ' hσ' => revalueS_none σ' _ _ _ ds t hO (by first | exact (Sl.whole (t := 61) (r := true) ((hσ' _ (by simp)).trans (by simp (disch := omega) only [upd_eq, upd_ne, del_ne])) (by simp [rowsD_len])) | exact (Sl.whole (t := 61) (r := true) (by simp (disch := omega) only [upd_eq, upd_ne, del_ne]) (by simp [rowsD_len]))) (by first | exact (Sl.whole (t := 3) (r := true) ((hσ' _ (by simp)).trans (by simp (disch := omega) only [upd_eq, upd_ne, del_ne])) (by simp [rowsI_len])) | exact (Sl.whole (t := 3) (r := true) (by simp (disch := omega) only [upd_eq, upd_ne, del_ne]) (by simp [rowsI_len]))) hl ht4 hsz) ?_)
        | (refine aStop_of (revalue_none _ _ _ _ ds t hO (by first | exact (Sl.whole (t := 61) (r := true) ((hσ' _ (by simp)).trans (by simp (disch := omega) only [upd_eq, upd_ne, del_ne])) (by simp [rowsD_len])) | exact (Sl.whole (t := 61) (r := true) (by simp (disch := omega) only [upd_eq, upd_ne, del_ne]) (by simp [rowsD_len]))) (by first | exact (Sl.whole (t := 3) (r := true) ((hσ' _ (by simp)).trans (by simp (disch := omega) only [upd_eq, upd_ne, del_ne])) (by simp [rowsI_len])) | exact (Sl.whole (t := 3) (r := true) (by simp (disch := omega) only [upd_eq, upd_ne, del_ne]) (by simp [rowsI_len]))) hl ht4 hsz) ?_; rintro r δ ⟨rfl, rfl⟩)
        | (refine dStop_roA (fun σ' hσ' => revalue_none σ' _ _ _ ds t hO (by first | exact (Sl.whole (t := 61) (r := true) ((hσ' _ (by simp)).trans (by simp (disch := omega) only [upd_eq, upd_ne, del_ne])) (by simp [rowsD_len])) | exact (Sl.whole (t := 61) (r := true) (by simp (disch := omega) only [upd_eq, upd_ne, del_ne]) (by simp [rowsD_len]))) (by first | exact (Sl.whole (t := 3) (r := true) ((hσ' _ (by simp)).trans (by simp (disch := omega) only [upd_eq, upd_ne, del_ne])) (by simp [rowsI_len])) | exact (Sl.whole (t := 3) (r := true) (by simp (disch := omega) only [upd_eq, upd_ne, del_ne]) (by simp [rowsI_len]))) hl ht4 hsz) ?_)
        | (refine aStop_of (eqEnum_c _ _ nilA nilA [] [] (Sl.nil _ _ _ _ _) (Sl.nil _ _ _ _ _) (by simp) (by simp)) ?_; rintro r δ ⟨rfl, rfl⟩)
        | (refine aStop_of (eqEnum_c _ _ _ _ ds ds (by first | exact (Sl.whole (t := 61) (r := true) ((hσ' _ (by simp)).trans (by simp (disch := omega) only [upd_eq, upd_ne, del_ne])) (by simp [rowsD_len])) | exact (Sl.whole (t := 61) (r := true) (by simp (disch := omega) only [upd_eq, upd_ne, del_ne]) (by simp [rowsD_len]))) (by first | exact (Sl.whole (t := 61) (r := true) ((hσ' _ (by simp)).trans (by simp (disch := omega) only [upd_eq, upd_ne, del_ne])) (by simp [rowsD_len])) | exact (Sl.whole (t := 61) (r := true) (by simp (disch := omega) only [upd_eq, upd_ne, del_ne]) (by simp [rowsD_len]))) hl hl) ?_; rintro r δ ⟨rfl, rfl⟩)
        | (refine dStop_roA (fun σ' hσ' => eqEnum_c σ' _ _ _ ds ds (by first | exact (Sl.whole (t := 61) (r := true) ((hσ' _ (by simp)).trans (by simp (disch := omega) only [upd_eq, upd_ne, del_ne])) (by simp [rowsD_len])) | exact (Sl.whole (t := 61) (r := true) (by simp (disch := omega) only [upd_eq, upd_ne, del_ne]) (by simp [rowsD_len]))) (by first | exact (Sl.whole (t := 61) (r := true) ((hσ' _ (by simp)).trans (by simp (disch := omega) only [upd_eq, upd_ne, del_ne])) (by simp [rowsD_len])) | exact (Sl.whole (t := 61) (r := true) (by simp (disch := omega) only [upd_eq, upd_ne, del_ne]) (by simp [rowsD_len]))) hl hl) ?_)
        | (refine aStop_of (eqIntS_c _ _ _ _ t t (by first | exact (Sl.whole (t := 3) (r := true) ((hσ' _ (by simp)).trans (by simp (disch := omega) only [upd_eq, upd_ne, del_ne])) (by simp [rowsI_len])) | exact (Sl.whole (t := 3) (r := true) (by simp (disch := omega) only [upd_eq, upd_ne, del_ne]) (by simp [rowsI_len]))) (by first | exact (Sl.whole (t := 3) (r := true) ((hσ' _ (by simp)).trans (by simp (disch := omega) only [upd_eq, upd_ne, del_ne])) (by simp [rowsI_len])) | exact (Sl.whole (t := 3) (r := true) (by simp (disch := omega) only [upd_eq, upd_ne, del_ne]) (by simp [rowsI_len]))) ht4 ht4) ?_; rintro r δ ⟨rfl, rfl⟩)
        | (refine dStop_roA (fun σ' hσ' => eqIntS_c σ' _ _ _ t t (by first | exact (Sl.whole (t := 3) (r := true) ((hσ' _ (by simp)).trans (by simp (disch := omega) only [upd_eq, upd_ne, del_ne])) (by simp [rowsI_len])) | exact (Sl.whole (t := 3) (r := true) (by simp (disch := omega) only [upd_eq, upd_ne, del_ne]) (by simp [rowsI_len]))) (by first | exact (Sl.whole (t := 3) (r := true) ((hσ' _ (by simp)).trans (by simp (disch := omega) only [upd_eq, upd_ne, del_ne])) (by simp [rowsI_len])) | exact (Sl.whole (t := 3) (r := true) (by simp (disch := omega) only [upd_eq, upd_ne, del_ne]) (by simp [rowsI_len]))) ht4 ht4) ?_)
        | (refine aStop_of (markEnum_c _ _ _ (some ds.length) ds 1 (by simp (disch := omega) only [upd_eq, upd_ne]) hl (by omega)) ?_; rintro r δ ⟨rfl, rfl⟩)
        | (refine aStop_of (markIntS_c _ _ _ (some t.length) t _ (by simp (disch := omega) only [upd_eq, upd_ne]) ht4 (by omega)) ?_; rintro r δ ⟨rfl, rfl⟩)
        | (refine aStop_of (markEnum_nil _ _ _ _ _ _ _) ?_; rintro r δ ⟨rfl, rfl⟩)
        | (refine aStop_of (heldEnum_c _ _ nilA 0 1 (Sl.nil _ _ _ _ _) (by simp) (by omega)) ?_; rintro r δ ⟨rfl, rfl⟩)
      (repeat (simp (disch := omega) [hm, hmt]))
      first | (refine dEnd_ro ?_ (hKK _ _ _ ?_); (focus (simp; done)); clear htab tab hKK KK; simp only [thenA, blockA, reduceIte]) | (refine dEnd_of ?_ (hKK _ _ _ ?_); (focus (simp only [List.reverse_cons, List.reverse_nil, List.nil_append, List.cons_append, memA, mem1, and_true, true_and]; (repeat' apply And.intro); (all_goals (first | trivial | (refine .inr ⟨?_, ?_⟩ <;> (simp; done)) | (refine .inr ⟨?_, ?_⟩ <;> (simp <;> omega)) | (refine .inl ?_; rw [htab]; kernel_rfl))); done)); clear htab tab hKK KK; simp only [thenA, blockA, reduceIte]) | (refine hKK _ _ _ ?_; clear hKK KK; simp only [thenA, blockA, reduceIte]) | skip
      repeat' (first
        | refine AWP.seq ?_
        | refine AWP.block ?_
        | (refine AWP.skip ?_; simp only [thenA, blockA, reduceIte])
        | (refine AWP.exit ?_; simp only [thenA, blockA, eq_self, reduceIte, Nat.reduceEqDiff, Nat.succ_ne_zero])
        | (refine AWP.ret ?_; simp only [thenA, blockA, reduceIte])
        | (refine AWP.region (by rfl) (fun KK hKK => ?_); (repeat (simp (disch := omega) [hm, hmt])); first | (refine hKK _ _ _ ?_; clear hKK KK; simp only [thenA, blockA, reduceIte]) | skip)
        | (refine AWP.draw' mixd (by rfl) (by kernel_rfl) (fun KK tab hKK htab => ?_); (repeat (simp (disch := omega) [hm, hmt])); first | (refine dEnd_ro ?_ (hKK _ _ _ ?_); (focus (simp; done)); clear htab tab hKK KK; simp only [thenA, blockA, reduceIte]) | (refine dEnd_of ?_ (hKK _ _ _ ?_); (focus (simp only [List.reverse_cons, List.reverse_nil, List.nil_append, List.cons_append, memA, mem1, and_true, true_and]; (repeat' apply And.intro); (all_goals (first | trivial | (refine .inr ⟨?_, ?_⟩ <;> (simp; done)) | (refine .inr ⟨?_, ?_⟩ <;> (simp <;> omega)) | (refine .inl ?_; rw [htab]; kernel_rfl))); done)); clear htab tab hKK KK; simp only [thenA, blockA, reduceIte]) | skip)
        | (refine AWP.if_t ?_ ?_; focus (simp (disch := omega) [hm, hmt]; done))
        | (refine AWP.if_f ?_ ?_; focus (simp (disch := omega) [hm, hmt]; done)))
    refine ⟨by simp, _, rfl, fin0 ⟨?_, rfl⟩ (by simp [resO, get, nms, nmss]; try (simp [nms, nmss] at hn; simp_all))⟩
    simp [resO, get, ren, rens]
  | some l =>
    have hll : l.length ≤ 4294967296 := by have := rvO_len hO; omega
    have hm2 : ¬ (1 + 2 * (l.length : Int) < 0) := by omega
    repeat' (first
      | refine AWP.seq ?_
      | refine AWP.block ?_
      | (refine AWP.skip ?_; simp only [thenA, blockA, reduceIte])
      | (refine AWP.exit ?_; simp only [thenA, blockA, eq_self, reduceIte, Nat.reduceEqDiff, Nat.succ_ne_zero])
      | (refine AWP.ret ?_; simp only [thenA, blockA, reduceIte])
      | (refine AWP.region (by rfl) (fun KK hKK => ?_); (repeat (simp (disch := omega) [hm, hmt, hm2])); first | (refine hKK _ _ _ ?_; clear hKK KK; simp only [thenA, blockA, reduceIte]) | skip)
      | (refine AWP.draw' mixd (by rfl) (by kernel_rfl) (fun KK tab hKK htab => ?_); (repeat (simp (disch := omega) [hm, hmt, hm2])); first | (refine dEnd_ro ?_ (hKK _ _ _ ?_); (focus (simp; done)); clear htab tab hKK KK; simp only [thenA, blockA, reduceIte]) | (refine dEnd_of ?_ (hKK _ _ _ ?_); (focus (simp only [List.reverse_cons, List.reverse_nil, List.nil_append, List.cons_append, memA, mem1, and_true, true_and]; (repeat' apply And.intro); (all_goals (first | trivial | (refine .inr ⟨?_, ?_⟩ <;> (simp; done)) | (refine .inr ⟨?_, ?_⟩ <;> (simp <;> omega)) | (refine .inl ?_; rw [htab]; kernel_rfl))); done)); clear htab tab hKK KK; simp only [thenA, blockA, reduceIte]) | skip)
      | (refine AWP.if_t ?_ ?_; focus (simp (disch := omega) [hm, hmt, hm2]; done))
      | (refine AWP.if_f ?_ ?_; focus (simp (disch := omega) [hm, hmt, hm2]; done)))
    repeat
      first
        | (refine aStop_of (toEnum_c _ _ _ ds (by first | exact (Sl.whole (t := 61) (r := true) ((hσ' _ (by simp)).trans (by simp (disch := omega) only [upd_eq, upd_ne, del_ne])) (by simp [rowsD_len])) | exact ((hx'.vw ((Vw.refl _).over (by repeat (first | exact Over.refl _ | exact hov | refine Over.upd ?_ hB (by omega) | refine Over.del ?_ hB (by omega))))).on (hσ' _ (by simp))) | exact (Sl.whole (t := 61) (r := true) (by simp (disch := omega) only [upd_eq, upd_ne, del_ne]) (by simp [rowsD_len])) | exact (hx'.vw ((Vw.refl _).over (by repeat (first | exact Over.refl _ | exact hov | refine Over.upd ?_ hB (by omega) | refine Over.del ?_ hB (by omega)))))) hl) ?_; rintro r δ ⟨rfl, rfl⟩)
        | (refine dStop_newA (fun σ' hσ' => toEnum_c σ' _ _ ds (by first | exact (Sl.whole (t := 61) (r := true) ((hσ' _ (by simp)).trans (by simp (disch := omega) only [upd_eq, upd_ne, del_ne])) (by simp [rowsD_len])) | exact ((hx'.vw ((Vw.refl _).over (by repeat (first | exact Over.refl _ | exact hov | refine Over.upd ?_ hB (by omega) | refine Over.del ?_ hB (by omega))))).on (hσ' _ (by simp))) | exact (Sl.whole (t := 61) (r := true) (by simp (disch := omega) only [upd_eq, upd_ne, del_ne]) (by simp [rowsD_len])) | exact (hx'.vw ((Vw.refl _).over (by repeat (first | exact Over.refl _ | exact hov | refine Over.upd ?_ hB (by omega) | refine Over.del ?_ hB (by omega)))))) hl) ?_)
        | (refine aStop_of (toIntS_c _ _ _ t (by first | exact (Sl.whole (t := 3) (r := true) ((hσ' _ (by simp)).trans (by simp (disch := omega) only [upd_eq, upd_ne, del_ne])) (by simp [rowsI_len])) | exact ((hy'.vw ((Vw.refl _).over (by repeat (first | exact Over.refl _ | exact hov | refine Over.upd ?_ hB (by omega) | refine Over.del ?_ hB (by omega))))).on (hσ' _ (by simp))) | exact (Sl.whole (t := 3) (r := true) (by simp (disch := omega) only [upd_eq, upd_ne, del_ne]) (by simp [rowsI_len])) | exact (hy'.vw ((Vw.refl _).over (by repeat (first | exact Over.refl _ | exact hov | refine Over.upd ?_ hB (by omega) | refine Over.del ?_ hB (by omega)))))) ht4) ?_; rintro r δ ⟨rfl, rfl⟩)
        | (refine dStop_newA (fun σ' hσ' => toIntS_c σ' _ _ t (by first | exact (Sl.whole (t := 3) (r := true) ((hσ' _ (by simp)).trans (by simp (disch := omega) only [upd_eq, upd_ne, del_ne])) (by simp [rowsI_len])) | exact ((hy'.vw ((Vw.refl _).over (by repeat (first | exact Over.refl _ | exact hov | refine Over.upd ?_ hB (by omega) | refine Over.del ?_ hB (by omega))))).on (hσ' _ (by simp))) | exact (Sl.whole (t := 3) (r := true) (by simp (disch := omega) only [upd_eq, upd_ne, del_ne]) (by simp [rowsI_len])) | exact (hy'.vw ((Vw.refl _).over (by repeat (first | exact Over.refl _ | exact hov | refine Over.upd ?_ hB (by omega) | refine Over.del ?_ hB (by omega)))))) ht4) ?_)
        | (refine aStop_of (revalueS_some _ _ _ _ ds l t hO (by first | exact (Sl.whole (t := 61) (r := true) ((hσ' _ (by simp)).trans (by simp (disch := omega) only [upd_eq, upd_ne, del_ne])) (by simp [rowsD_len])) | exact (Sl.whole (t := 61) (r := true) (by simp (disch := omega) only [upd_eq, upd_ne, del_ne]) (by simp [rowsD_len]))) (by first | exact (Sl.whole (t := 3) (r := true) ((hσ' _ (by simp)).trans (by simp (disch := omega) only [upd_eq, upd_ne, del_ne])) (by simp [rowsI_len])) | exact (Sl.whole (t := 3) (r := true) (by simp (disch := omega) only [upd_eq, upd_ne, del_ne]) (by simp [rowsI_len]))) hl ht4 hsz) ?_; rintro r δ ⟨rfl, rfl⟩)
        | (refine dStop_newA (fun σ' hσ' => revalueS_some σ' _ _ _ ds l t hO (by first | exact (Sl.whole (t := 61) (r := true) ((hσ' _ (by simp)).trans (by simp (disch := omega) only [upd_eq, upd_ne, del_ne])) (by simp [rowsD_len])) | exact (Sl.whole (t := 61) (r := true) (by simp (disch := omega) only [upd_eq, upd_ne, del_ne]) (by simp [rowsD_len]))) (by first | exact (Sl.whole (t := 3) (r := true) ((hσ' _ (by simp)).trans (by simp (disch := omega) only [upd_eq, upd_ne, del_ne])) (by simp [rowsI_len])) | exact (Sl.whole (t := 3) (r := true) (by simp (disch := omega) only [upd_eq, upd_ne, del_ne]) (by simp [rowsI_len]))) hl ht4 hsz) ?_)
        | (refine aStop_of (revalue_some _ _ _ _ ds l t hO (by first | exact (Sl.whole (t := 61) (r := true) ((hσ' _ (by simp)).trans (by simp (disch := omega) only [upd_eq, upd_ne, del_ne])) (by simp [rowsD_len])) | exact (Sl.whole (t := 61) (r := true) (by simp (disch := omega) only [upd_eq, upd_ne, del_ne]) (by simp [rowsD_len]))) (by first | exact (Sl.whole (t := 3) (r := true) ((hσ' _ (by simp)).trans (by simp (disch := omega) only [upd_eq, upd_ne, del_ne])) (by simp [rowsI_len])) | exact (Sl.whole (t := 3) (r := true) (by simp (disch := omega) only [upd_eq, upd_ne, del_ne]) (by simp [rowsI_len]))) hl ht4 hsz) ?_; rintro r δ ⟨rfl, rfl⟩)
        | (refine dStop_newA (fun σ' hσ' => revalue_some σ' _ _ _ ds l t hO (by first | exact (Sl.whole (t := 61) (r := true) ((hσ' _ (by simp)).trans (by simp (disch := omega) only [upd_eq, upd_ne, del_ne])) (by simp [rowsD_len])) | exact (Sl.whole (t := 61) (r := true) (by simp (disch := omega) only [upd_eq, upd_ne, del_ne]) (by simp [rowsD_len]))) (by first | exact (Sl.whole (t := 3) (r := true) ((hσ' _ (by simp)).trans (by simp (disch := omega) only [upd_eq, upd_ne, del_ne])) (by simp [rowsI_len])) | exact (Sl.whole (t := 3) (r := true) (by simp (disch := omega) only [upd_eq, upd_ne, del_ne]) (by simp [rowsI_len]))) hl ht4 hsz) ?_)
        | (refine aStop_of (eqEnum_c _ _ _ _ l l (by first | exact (Sl.whole (t := 61) (r := true) ((hσ' _ (by simp)).trans (by simp (disch := omega) only [upd_eq, upd_ne, del_ne])) (by simp [rowsD_len])) | exact (Sl.whole (t := 61) (r := true) (by simp (disch := omega) only [upd_eq, upd_ne, del_ne]) (by simp [rowsD_len]))) (by first | exact (Sl.whole (t := 61) (r := true) ((hσ' _ (by simp)).trans (by simp (disch := omega) only [upd_eq, upd_ne, del_ne])) (by simp [rowsD_len])) | exact (Sl.whole (t := 61) (r := true) (by simp (disch := omega) only [upd_eq, upd_ne, del_ne]) (by simp [rowsD_len]))) hll hll) ?_; rintro r δ ⟨rfl, rfl⟩)
        | (refine aStop_of (eqEnum_c _ _ _ _ ds ds (by first | exact (Sl.whole (t := 61) (r := true) ((hσ' _ (by simp)).trans (by simp (disch := omega) only [upd_eq, upd_ne, del_ne])) (by simp [rowsD_len])) | exact (Sl.whole (t := 61) (r := true) (by simp (disch := omega) only [upd_eq, upd_ne, del_ne]) (by simp [rowsD_len]))) (by first | exact (Sl.whole (t := 61) (r := true) ((hσ' _ (by simp)).trans (by simp (disch := omega) only [upd_eq, upd_ne, del_ne])) (by simp [rowsD_len])) | exact (Sl.whole (t := 61) (r := true) (by simp (disch := omega) only [upd_eq, upd_ne, del_ne]) (by simp [rowsD_len]))) hl hl) ?_; rintro r δ ⟨rfl, rfl⟩)
        | (refine dStop_roA (fun σ' hσ' => eqEnum_c σ' _ _ _ ds ds (by first | exact (Sl.whole (t := 61) (r := true) ((hσ' _ (by simp)).trans (by simp (disch := omega) only [upd_eq, upd_ne, del_ne])) (by simp [rowsD_len])) | exact (Sl.whole (t := 61) (r := true) (by simp (disch := omega) only [upd_eq, upd_ne, del_ne]) (by simp [rowsD_len]))) (by first | exact (Sl.whole (t := 61) (r := true) ((hσ' _ (by simp)).trans (by simp (disch := omega) only [upd_eq, upd_ne, del_ne])) (by simp [rowsD_len])) | exact (Sl.whole (t := 61) (r := true) (by simp (disch := omega) only [upd_eq, upd_ne, del_ne]) (by simp [rowsD_len]))) hl hl) ?_)
        | (refine aStop_of (eqIntS_c _ _ _ _ t t (by first | exact (Sl.whole (t := 3) (r := true) ((hσ' _ (by simp)).trans (by simp (disch := omega) only [upd_eq, upd_ne, del_ne])) (by simp [rowsI_len])) | exact (Sl.whole (t := 3) (r := true) (by simp (disch := omega) only [upd_eq, upd_ne, del_ne]) (by simp [rowsI_len]))) (by first | exact (Sl.whole (t := 3) (r := true) ((hσ' _ (by simp)).trans (by simp (disch := omega) only [upd_eq, upd_ne, del_ne])) (by simp [rowsI_len])) | exact (Sl.whole (t := 3) (r := true) (by simp (disch := omega) only [upd_eq, upd_ne, del_ne]) (by simp [rowsI_len]))) ht4 ht4) ?_; rintro r δ ⟨rfl, rfl⟩)
        | (refine dStop_roA (fun σ' hσ' => eqIntS_c σ' _ _ _ t t (by first | exact (Sl.whole (t := 3) (r := true) ((hσ' _ (by simp)).trans (by simp (disch := omega) only [upd_eq, upd_ne, del_ne])) (by simp [rowsI_len])) | exact (Sl.whole (t := 3) (r := true) (by simp (disch := omega) only [upd_eq, upd_ne, del_ne]) (by simp [rowsI_len]))) (by first | exact (Sl.whole (t := 3) (r := true) ((hσ' _ (by simp)).trans (by simp (disch := omega) only [upd_eq, upd_ne, del_ne])) (by simp [rowsI_len])) | exact (Sl.whole (t := 3) (r := true) (by simp (disch := omega) only [upd_eq, upd_ne, del_ne]) (by simp [rowsI_len]))) ht4 ht4) ?_)
        | (refine aStop_of (markEnum_c _ _ _ (some ds.length) ds 1 (by simp (disch := omega) only [upd_eq, upd_ne]) hl (by omega)) ?_; rintro r δ ⟨rfl, rfl⟩)
        | (refine aStop_of (markIntS_c _ _ _ (some t.length) t _ (by simp (disch := omega) only [upd_eq, upd_ne]) ht4 (by omega)) ?_; rintro r δ ⟨rfl, rfl⟩)
        | (refine aStop_of (markEnum_c _ _ _ (some l.length) l 1 (by simp (disch := omega) only [upd_eq, upd_ne]) hll (by omega)) ?_; rintro r δ ⟨rfl, rfl⟩)
        | (refine aStop_of (heldEnum_c _ _ _ l.length 1 (by first | exact (Sl.whole (t := 61) (r := true) ((hσ' _ (by simp)).trans (by simp (disch := omega) only [upd_eq, upd_ne, del_ne])) (by simp [rowsD_len, mkL_len])) | exact (Sl.whole (t := 61) (r := true) (by simp (disch := omega) only [upd_eq, upd_ne, del_ne]) (by simp [rowsD_len, mkL_len]))) hll (by omega)) ?_; rintro r δ ⟨rfl, rfl⟩)
      (repeat (simp (disch := omega) [hm, hmt, hm2]))
      first | (refine dEnd_ro ?_ (hKK _ _ _ ?_); (focus (simp; done)); clear htab tab hKK KK; simp only [thenA, blockA, reduceIte]) | (refine dEnd_of ?_ (hKK _ _ _ ?_); (focus (simp only [List.reverse_cons, List.reverse_nil, List.nil_append, List.cons_append, memA, mem1, and_true, true_and]; (repeat' apply And.intro); (all_goals (first | trivial | (refine .inr ⟨?_, ?_⟩ <;> (simp; done)) | (refine .inr ⟨?_, ?_⟩ <;> (simp <;> omega)) | (refine .inl ?_; rw [htab]; kernel_rfl))); done)); clear htab tab hKK KK; simp only [thenA, blockA, reduceIte]) | (refine hKK _ _ _ ?_; clear hKK KK; simp only [thenA, blockA, reduceIte]) | skip
      repeat' (first
        | refine AWP.seq ?_
        | refine AWP.block ?_
        | (refine AWP.skip ?_; simp only [thenA, blockA, reduceIte])
        | (refine AWP.exit ?_; simp only [thenA, blockA, eq_self, reduceIte, Nat.reduceEqDiff, Nat.succ_ne_zero])
        | (refine AWP.ret ?_; simp only [thenA, blockA, reduceIte])
        | (refine AWP.region (by rfl) (fun KK hKK => ?_); (repeat (simp (disch := omega) [hm, hmt, hm2])); first | (refine hKK _ _ _ ?_; clear hKK KK; simp only [thenA, blockA, reduceIte]) | skip)
        | (refine AWP.draw' mixd (by rfl) (by kernel_rfl) (fun KK tab hKK htab => ?_); (repeat (simp (disch := omega) [hm, hmt, hm2])); first | (refine dEnd_ro ?_ (hKK _ _ _ ?_); (focus (simp; done)); clear htab tab hKK KK; simp only [thenA, blockA, reduceIte]) | (refine dEnd_of ?_ (hKK _ _ _ ?_); (focus (simp only [List.reverse_cons, List.reverse_nil, List.nil_append, List.cons_append, memA, mem1, and_true, true_and]; (repeat' apply And.intro); (all_goals (first | trivial | (refine .inr ⟨?_, ?_⟩ <;> (simp; done)) | (refine .inr ⟨?_, ?_⟩ <;> (simp <;> omega)) | (refine .inl ?_; rw [htab]; kernel_rfl))); done)); clear htab tab hKK KK; simp only [thenA, blockA, reduceIte]) | skip)
        | (refine AWP.if_t ?_ ?_; focus (simp (disch := omega) [hm, hmt, hm2]; done))
        | (refine AWP.if_f ?_ ?_; focus (simp (disch := omega) [hm, hmt, hm2]; done)))
    refine ⟨by simp, _, rfl, fin0 ⟨?_, rfl⟩ (by simp [resO, get, nms, nmss]; try (simp [nms, nmss] at hn; simp_all))⟩
    simp [resO, get, ren, rens]
end Go.Proofs.Ytkddpkjgmmmcpaa
