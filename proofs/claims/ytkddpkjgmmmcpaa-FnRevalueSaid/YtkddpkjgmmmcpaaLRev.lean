/- The law of Revalue, walked: it answers true for every code. No condition but sizes that every input has. -/
import Derived.Test.YtkddpkjgmmmcpaaT3
import Derived.Test.YtkddpkjgmmmcpaaT5
import Derived.Test.YtkddpkjgmmmcpaaM2
import Derived.Test.YtkddpkjgmmmcpaaLLook
import Derived.Test.YtkddpkjgmmmcpaaLRen
set_option linter.unusedSimpArgs false
set_option linter.unusedVariables false
namespace Go.Proofs.Ytkddpkjgmmmcpaa
open Go Go.RowKit

theorem rk_ok {ds : List Df} (hok : okDs (-1000) 1000 ds = true) (g : Int → Int) (hg : ∀ r : Int, 0 ≤ r → r < (memF ds).length → -1000 ≤ g r ∧ g r ≤ 1000) : okDs (-1000) 1000 (rkD g ds) = true := by
  obtain ⟨h1, h2, h3⟩ := okDs_pw'.1 hok
  refine okDs_pw'.2 ⟨by rw [rkD_len]; exact h1, fun d hd => ?_, ?_⟩
  · obtain ⟨i, hi, rfl⟩ := List.mem_iff_getElem.1 hd
    rw [rkD_len] at hi
    rw [rkD_at _ ds i hi]
    obtain ⟨_, r0, r1⟩ := rk_name hok hi
    obtain ⟨g0, g1⟩ := hg _ r0 r1
    exact ⟨(h2 _ (List.getElem_mem hi)).1, g0, g1⟩
  · unfold rkD
    rw [List.pairwise_map]
    exact h3
theorem tab_in {ds : List Df} {t : List Int} (h : tkO ds t = true) : ∀ r : Int, 0 ≤ r → r < (memF ds).length → -1000 ≤ tabF t r ∧ tabF t r ≤ 1000 := fun r h0 h1 => by
  obtain ⟨_, htl, hin⟩ := tkO_ok h
  have hil : r.toNat < t.length := by omega
  unfold tabF
  rw [List.getElem?_eq_getElem hil]
  exact hin _ (List.getElem_mem hil)
theorem rk_val_at {ds : List Df} {g : Int → Int} (hok : okDs (-1000) 1000 (rkD g ds) = true) {k : Nat} (h : k < ds.length) : valO (rkD g ds) ds[k].1 = some (g (rkO ds ds[k].1)) := by
  have h2 : k < (rkD g ds).length := by rw [rkD_len]; exact h
  have hv := valO_yes hok h2 (name_at hok h2)
  rw [rkD_at g ds k h] at hv
  exact hv
theorem luO_at {ds : List Df} {t : List Int} (ht : tkO ds t = true) {k : Nat} (h : k < ds.length) : luO ds t ds[k].1 = some (tabF t (rkO ds ds[k].1)) := by
  obtain ⟨hok, htl, _⟩ := tkO_ok ht
  obtain ⟨_, r0, r1⟩ := rk_name hok h
  unfold luO
  rw [if_pos ⟨ht, r0⟩]
  unfold tabF
  rw [List.getD_eq_getElem?_getD]
/-- The numbers from 0 on. -/
def rgL (n : Nat) : List Int := (List.range n).map fun (i : Nat) => (i : Int)
theorem rgL_len (n : Nat) : (rgL n).length = n := by simp [rgL]
theorem rgL_succ (n : Nat) : rgL (n + 1) = rgL n ++ [(n : Int)] := by simp [rgL, List.range_succ]
theorem rgL_ok {ds : List Df} (hok : okDs (-1000) 1000 ds = true) : tkO ds (rgL (memF ds).length) = true := by
  have hl := okDs_len hok
  have hml := memF_len ds
  simp only [tkO, hok, rgL_len, Bool.true_and, decide_true, List.all_eq_true]
  intro n hn
  obtain ⟨i, hi, rfl⟩ := List.mem_map.1 hn
  rw [List.mem_range] at hi
  simp only [inT, decide_eq_true_eq]
  omega
theorem rk_rg {ds : List Df} (hok : okDs (-1000) 1000 ds = true) : rkD (tabF (rgL (memF ds).length)) ds = rkD (fun r => r) ds := by
  apply List.ext_getElem
  · rw [rkD_len, rkD_len]
  · intro i h1 h2
    rw [rkD_len] at h1
    rw [rkD_at _ ds i h1, rkD_at _ ds i h1]
    obtain ⟨_, r0, r1⟩ := rk_name hok h1
    refine Prod.ext rfl ?_
    simp only
    unfold tabF rgL
    rw [List.getElem?_map, List.getElem?_range (by omega)]
    simp only [Option.map_some, Option.getD_some]
    omega

set_option maxRecDepth 10000 in
set_option maxHeartbeats 8000000 in
theorem reval_law_c (σ : Sto) (ν : Nat) (x : AV) (cs : List Int) (hx : Sl σ x 1 (rowsB cs)) (hlen : cs.length ≤ 9223372036854775807) (h8 : ∀ y ∈ cs, 0 ≤ y ∧ y ≤ 255) :
    AC Try.prog 9 [x] σ ν fun r δ => r = .v (.bool true) ∧ δ = noS := by
  obtain ⟨b, o, cap, z, rfl⟩ := hx.out
  simp only [rowsB_len] at hx ⊢
  refine AC.intro [] ent_9 Try.func9 rfl (by simp [Try.f9]) (by simp) ?_
  intro K s hs hB hn hν hA hFr
  simp only [argT, Nat.zero_add, Nat.reduceAdd]
  have hx' := hx.vw hs.vw
  by_cases h1 : (1048576 : Int) < cs.length
  · repeat' (first
      | refine AWP.seq ?_
      | refine AWP.block ?_
      | (refine AWP.skip ?_; simp only [thenA, blockA, reduceIte])
      | (refine AWP.exit ?_; simp only [thenA, blockA, eq_self, reduceIte, Nat.reduceEqDiff, Nat.succ_ne_zero])
      | (refine AWP.ret ?_; simp only [thenA, blockA, reduceIte])
      | (refine AWP.region (by rfl) (fun KK hKK => ?_); (repeat (simp (disch := omega) [h1])); first | (refine hKK _ _ _ ?_; clear hKK KK; simp only [thenA, blockA, reduceIte]) | skip)
      | (refine AWP.draw' mixd (by rfl) (by kernel_rfl) (fun KK tab hKK htab => ?_); (repeat (simp (disch := omega) [h1])); first | (refine dEnd_ro ?_ (hKK _ _ _ ?_); (focus (simp; done)); clear htab tab hKK KK; simp only [thenA, blockA, reduceIte]) | (refine dEnd_of ?_ (hKK _ _ _ ?_); (focus (simp only [List.reverse_cons, List.reverse_nil, List.nil_append, List.cons_append, memA, mem1, and_true, true_and]; (repeat' apply And.intro); (all_goals (first | trivial | (refine .inr ⟨?_, ?_⟩ <;> (simp; done)) | (refine .inr ⟨?_, ?_⟩ <;> (simp <;> omega)) | (refine .inl ?_; rw [htab]; kernel_rfl))); done)); clear htab tab hKK KK; simp only [thenA, blockA, reduceIte]) | skip)
      | (refine AWP.if_t ?_ ?_; focus (simp (disch := omega) [h1]; done))
      | (refine AWP.if_f ?_ ?_; focus (simp (disch := omega) [h1]; done)))
    refine ⟨by simp, _, rfl, fin0 ⟨?_, rfl⟩ (by simp [resO, get, nms, nmss]; try (simp [nms, nmss] at hn; simp_all))⟩
    simp [resO, get, ren, rens]
  repeat' (first
    | refine AWP.seq ?_
    | refine AWP.block ?_
    | (refine AWP.skip ?_; simp only [thenA, blockA, reduceIte])
    | (refine AWP.exit ?_; simp only [thenA, blockA, eq_self, reduceIte, Nat.reduceEqDiff, Nat.succ_ne_zero])
    | (refine AWP.ret ?_; simp only [thenA, blockA, reduceIte])
    | (refine AWP.region (by rfl) (fun KK hKK => ?_); (repeat (simp (disch := omega) [h1])); first | (refine hKK _ _ _ ?_; clear hKK KK; simp only [thenA, blockA, reduceIte]) | skip)
    | (refine AWP.draw' mixd (by rfl) (by kernel_rfl) (fun KK tab hKK htab => ?_); (repeat (simp (disch := omega) [h1])); first | (refine dEnd_ro ?_ (hKK _ _ _ ?_); (focus (simp; done)); clear htab tab hKK KK; simp only [thenA, blockA, reduceIte]) | (refine dEnd_of ?_ (hKK _ _ _ ?_); (focus (simp only [List.reverse_cons, List.reverse_nil, List.nil_append, List.cons_append, memA, mem1, and_true, true_and]; (repeat' apply And.intro); (all_goals (first | trivial | (refine .inr ⟨?_, ?_⟩ <;> (simp; done)) | (refine .inr ⟨?_, ?_⟩ <;> (simp <;> omega)) | (refine .inl ?_; rw [htab]; kernel_rfl))); done)); clear htab tab hKK KK; simp only [thenA, blockA, reduceIte]) | skip)
    | (refine AWP.if_t ?_ ?_; focus (simp (disch := omega) [h1]; done))
    | (refine AWP.if_f ?_ ?_; focus (simp (disch := omega) [h1]; done)))
  refine aStop_of (DrawRevalue_c _ _ _ cs (hx'.vw ((Vw.refl _).over (by repeat (first | exact Over.refl _ | exact hov | refine Over.upd ?_ hB (by omega) | refine Over.del ?_ hB (by omega))))) h8 hlen) ?_
  rintro r δ ⟨ds, l, o1, t, ht, hgd, hgi, ho, rfl, rfl⟩
  (repeat (simp (disch := omega) []))
  first | (refine hKK _ _ _ ?_; clear hKK KK; simp only [thenA, blockA, reduceIte]) | skip
  have hl := hgd.len
  have htl := hgi.len
  have hsz : ∀ d ∈ ds, d.1.size ≤ 9223372036854775807 := fun d hd => by have := hgd.sz d hd; omega
  repeat' (first
    | refine AWP.seq ?_
    | refine AWP.block ?_
    | (refine AWP.skip ?_; simp only [thenA, blockA, reduceIte])
    | (refine AWP.exit ?_; simp only [thenA, blockA, eq_self, reduceIte, Nat.reduceEqDiff, Nat.succ_ne_zero])
    | (refine AWP.ret ?_; simp only [thenA, blockA, reduceIte])
    | (refine AWP.region (by rfl) (fun KK hKK => ?_); (repeat (simp (disch := omega) [])); first | (refine hKK _ _ _ ?_; clear hKK KK; simp only [thenA, blockA, reduceIte]) | skip)
    | (refine AWP.draw' mixd (by rfl) (by kernel_rfl) (fun KK tab hKK htab => ?_); (repeat (simp (disch := omega) [])); first | (refine dEnd_ro ?_ (hKK _ _ _ ?_); (focus (simp; done)); clear htab tab hKK KK; simp only [thenA, blockA, reduceIte]) | (refine dEnd_of ?_ (hKK _ _ _ ?_); (focus (simp only [List.reverse_cons, List.reverse_nil, List.nil_append, List.cons_append, memA, mem1, and_true, true_and]; (repeat' apply And.intro); (all_goals (first | trivial | (refine .inr ⟨?_, ?_⟩ <;> (simp; done)) | (refine .inr ⟨?_, ?_⟩ <;> (simp <;> omega)) | (refine .inl ?_; rw [htab]; kernel_rfl))); done)); clear htab tab hKK KK; simp only [thenA, blockA, reduceIte]) | skip)
    | (refine AWP.if_t ?_ ?_; focus (simp (disch := omega) []; done))
    | (refine AWP.if_f ?_ ?_; focus (simp (disch := omega) []; done)))
  cases hok : tkO ds t with
  | false =>
    have hO : rvO ds t = none := by unfold rvO; rw [hok]; rfl
    repeat' (first
      | refine AWP.seq ?_
      | refine AWP.block ?_
      | (refine AWP.skip ?_; simp only [thenA, blockA, reduceIte])
      | (refine AWP.exit ?_; simp only [thenA, blockA, eq_self, reduceIte, Nat.reduceEqDiff, Nat.succ_ne_zero])
      | (refine AWP.ret ?_; simp only [thenA, blockA, reduceIte])
      | (refine AWP.region (by rfl) (fun KK hKK => ?_); (repeat (simp (disch := omega) [hO, eOut_none, dOut_none])); first | (refine hKK _ _ _ ?_; clear hKK KK; simp only [thenA, blockA, reduceIte]) | skip)
      | (refine AWP.draw' mixd (by rfl) (by kernel_rfl) (fun KK tab hKK htab => ?_); (repeat (simp (disch := omega) [hO, eOut_none, dOut_none])); first | (refine dEnd_ro ?_ (hKK _ _ _ ?_); (focus (simp; done)); clear htab tab hKK KK; simp only [thenA, blockA, reduceIte]) | (refine dEnd_of ?_ (hKK _ _ _ ?_); (focus (simp only [List.reverse_cons, List.reverse_nil, List.nil_append, List.cons_append, memA, mem1, and_true, true_and]; (repeat' apply And.intro); (all_goals (first | trivial | (refine .inr ⟨?_, ?_⟩ <;> (simp; done)) | (refine .inr ⟨?_, ?_⟩ <;> (simp <;> omega)) | (refine .inl ?_; rw [htab]; kernel_rfl))); done)); clear htab tab hKK KK; simp only [thenA, blockA, reduceIte]) | skip)
      | (refine AWP.if_t ?_ ?_; focus (simp (disch := omega) [hO, eOut_none, dOut_none]; done))
      | (refine AWP.if_f ?_ ?_; focus (simp (disch := omega) [hO, eOut_none, dOut_none]; done)))
    repeat
      first
        | (refine aStop_of (revalue_c _ _ _ _ ds t (by first | exact (Sl.whole (t := 61) (r := true) ((hσ' _ (by simp)).trans (by simp (disch := omega) only [upd_eq, upd_ne, del_ne])) (by simp [rowsD_len])) | exact (Sl.whole (t := 61) (r := true) (by simp (disch := omega) only [upd_eq, upd_ne, del_ne]) (by simp [rowsD_len]))) (sl_dropT (r := true) ht (by simp (disch := omega) only [upd_eq, upd_ne]) ho) (by omega) (by omega) hsz) ?_; rintro r δ ⟨rfl, rfl⟩)
        | (refine aStop_of (revalueS_c _ _ _ _ ds t (by first | exact (Sl.whole (t := 61) (r := true) ((hσ' _ (by simp)).trans (by simp (disch := omega) only [upd_eq, upd_ne, del_ne])) (by simp [rowsD_len])) | exact (Sl.whole (t := 61) (r := true) (by simp (disch := omega) only [upd_eq, upd_ne, del_ne]) (by simp [rowsD_len]))) (sl_dropT (r := true) ht (by simp (disch := omega) only [upd_eq, upd_ne]) ho) (by omega) (by omega) hsz) ?_; rintro r δ ⟨rfl, rfl⟩)
        | (refine aStop_of (equalEnum_c _ _ nilA nilA [] [] (Sl.nil _ _ _ _ _) (Sl.nil _ _ _ _ _) (by simp) (by simp)) ?_; rintro r δ ⟨rfl, rfl⟩)
      (repeat (simp (disch := omega) [hO, eOut_none, dOut_none]))
      first | (refine dEnd_ro ?_ (hKK _ _ _ ?_); (focus (simp; done)); clear htab tab hKK KK; simp only [thenA, blockA, reduceIte]) | (refine dEnd_of ?_ (hKK _ _ _ ?_); (focus (simp only [List.reverse_cons, List.reverse_nil, List.nil_append, List.cons_append, memA, mem1, and_true, true_and]; (repeat' apply And.intro); (all_goals (first | trivial | (refine .inr ⟨?_, ?_⟩ <;> (simp; done)) | (refine .inr ⟨?_, ?_⟩ <;> (simp <;> omega)) | (refine .inl ?_; rw [htab]; kernel_rfl))); done)); clear htab tab hKK KK; simp only [thenA, blockA, reduceIte]) | (refine hKK _ _ _ ?_; clear hKK KK; simp only [thenA, blockA, reduceIte]) | skip
      repeat' (first
        | refine AWP.seq ?_
        | refine AWP.block ?_
        | (refine AWP.skip ?_; simp only [thenA, blockA, reduceIte])
        | (refine AWP.exit ?_; simp only [thenA, blockA, eq_self, reduceIte, Nat.reduceEqDiff, Nat.succ_ne_zero])
        | (refine AWP.ret ?_; simp only [thenA, blockA, reduceIte])
        | (refine AWP.region (by rfl) (fun KK hKK => ?_); (repeat (simp (disch := omega) [hO, eOut_none, dOut_none])); first | (refine hKK _ _ _ ?_; clear hKK KK; simp only [thenA, blockA, reduceIte]) | skip)
        | (refine AWP.draw' mixd (by rfl) (by kernel_rfl) (fun KK tab hKK htab => ?_); (repeat (simp (disch := omega) [hO, eOut_none, dOut_none])); first | (refine dEnd_ro ?_ (hKK _ _ _ ?_); (focus (simp; done)); clear htab tab hKK KK; simp only [thenA, blockA, reduceIte]) | (refine dEnd_of ?_ (hKK _ _ _ ?_); (focus (simp only [List.reverse_cons, List.reverse_nil, List.nil_append, List.cons_append, memA, mem1, and_true, true_and]; (repeat' apply And.intro); (all_goals (first | trivial | (refine .inr ⟨?_, ?_⟩ <;> (simp; done)) | (refine .inr ⟨?_, ?_⟩ <;> (simp <;> omega)) | (refine .inl ?_; rw [htab]; kernel_rfl))); done)); clear htab tab hKK KK; simp only [thenA, blockA, reduceIte]) | skip)
        | (refine AWP.if_t ?_ ?_; focus (simp (disch := omega) [hO, eOut_none, dOut_none]; done))
        | (refine AWP.if_f ?_ ?_; focus (simp (disch := omega) [hO, eOut_none, dOut_none]; done)))
    refine ⟨by simp, _, rfl, fin0 ⟨?_, rfl⟩ (by simp [resO, get, nms, nmss]; try (simp [nms, nmss] at hn; simp_all))⟩
    simp [resO, get, ren, rens]
  | true =>
    obtain ⟨hoe, htm, _⟩ := tkO_ok hok
    have hO : rvO ds t = some (rkD (tabF t) ds) := if_pos hok
    have hok2 := rk_ok hoe (tabF t) (tab_in hok)
    have hO2 : rvO ds (rgL t.length) = some (rkD (fun r => r) ds) := by rw [htm, ← rk_rg hoe]; exact if_pos (rgL_ok hoe)
    have hO3 : rnO ds = some (rkD (fun r => r) ds) := if_pos hoe
    have hval : ∀ k (h : k < ds.length), valO (rkD (tabF t) ds) ds[k].1 = some (tabF t (rkO ds ds[k].1)) := fun k h => rk_val_at hok2 h
    have hlu : ∀ k (h : k < ds.length), luO ds t ds[k].1 = some (tabF t (rkO ds ds[k].1)) := fun k h => luO_at hok h
    have hrl := rkD_len (tabF t) ds
    have hrl2 := rkD_len (fun r => r) ds
    have hsz2 : ∀ d ∈ rkD (tabF t) ds, d.1.size ≤ 9223372036854775807 := fun d hd => by
      obtain ⟨e, he, rfl⟩ := List.mem_map.1 hd
      exact hsz e he
    generalize rkD (tabF t) ds = rs at *
    generalize rkD (fun r => r) ds = qs at *
    repeat' (first
      | refine AWP.seq ?_
      | refine AWP.block ?_
      | (refine AWP.skip ?_; simp only [thenA, blockA, reduceIte])
      | (refine AWP.exit ?_; simp only [thenA, blockA, eq_self, reduceIte, Nat.reduceEqDiff, Nat.succ_ne_zero])
      | (refine AWP.ret ?_; simp only [thenA, blockA, reduceIte])
      | (refine AWP.region (by rfl) (fun KK hKK => ?_); (repeat (simp (disch := omega) [hO, eOut_some, dOut_some])); first | (refine hKK _ _ _ ?_; clear hKK KK; simp only [thenA, blockA, reduceIte]) | skip)
      | (refine AWP.draw' mixd (by rfl) (by kernel_rfl) (fun KK tab hKK htab => ?_); (repeat (simp (disch := omega) [hO, eOut_some, dOut_some])); first | (refine dEnd_ro ?_ (hKK _ _ _ ?_); (focus (simp; done)); clear htab tab hKK KK; simp only [thenA, blockA, reduceIte]) | (refine dEnd_of ?_ (hKK _ _ _ ?_); (focus (simp only [List.reverse_cons, List.reverse_nil, List.nil_append, List.cons_append, memA, mem1, and_true, true_and]; (repeat' apply And.intro); (all_goals (first | trivial | (refine .inr ⟨?_, ?_⟩ <;> (simp; done)) | (refine .inr ⟨?_, ?_⟩ <;> (simp <;> omega)) | (refine .inl ?_; rw [htab]; kernel_rfl))); done)); clear htab tab hKK KK; simp only [thenA, blockA, reduceIte]) | skip)
      | (refine AWP.if_t ?_ ?_; focus (simp (disch := omega) [hO, eOut_some, dOut_some]; done))
      | (refine AWP.if_f ?_ ?_; focus (simp (disch := omega) [hO, eOut_some, dOut_some]; done)))
    repeat
      first
        | (refine aStop_of (revalue_c _ _ _ _ ds t (by first | exact (Sl.whole (t := 61) (r := true) ((hσ' _ (by simp)).trans (by simp (disch := omega) only [upd_eq, upd_ne, del_ne])) (by simp [rowsD_len])) | exact (Sl.whole (t := 61) (r := true) (by simp (disch := omega) only [upd_eq, upd_ne, del_ne]) (by simp [rowsD_len]))) (sl_dropT (r := true) ht (by simp (disch := omega) only [upd_eq, upd_ne]) ho) (by omega) (by omega) hsz) ?_; rintro r δ ⟨rfl, rfl⟩)
        | (refine aStop_of (revalueS_c _ _ _ _ ds t (by first | exact (Sl.whole (t := 61) (r := true) ((hσ' _ (by simp)).trans (by simp (disch := omega) only [upd_eq, upd_ne, del_ne])) (by simp [rowsD_len])) | exact (Sl.whole (t := 61) (r := true) (by simp (disch := omega) only [upd_eq, upd_ne, del_ne]) (by simp [rowsD_len]))) (sl_dropT (r := true) ht (by simp (disch := omega) only [upd_eq, upd_ne]) ho) (by omega) (by omega) hsz) ?_; rintro r δ ⟨rfl, rfl⟩)
        | (refine aStop_of (equalEnum_c _ _ _ _ rs rs (by first | exact (Sl.whole (t := 61) (r := true) ((hσ' _ (by simp)).trans (by simp (disch := omega) only [upd_eq, upd_ne, del_ne])) (by simp [rowsD_len])) | exact (Sl.whole (t := 61) (r := true) (by simp (disch := omega) only [upd_eq, upd_ne, del_ne]) (by simp [rowsD_len]))) (by first | exact (Sl.whole (t := 61) (r := true) ((hσ' _ (by simp)).trans (by simp (disch := omega) only [upd_eq, upd_ne, del_ne])) (by simp [rowsD_len])) | exact (Sl.whole (t := 61) (r := true) (by simp (disch := omega) only [upd_eq, upd_ne, del_ne]) (by simp [rowsD_len]))) (by omega) (by omega)) ?_; rintro r δ ⟨rfl, rfl⟩)
      (repeat (simp (disch := omega) [hO, eOut_some, dOut_some]))
      first | (refine dEnd_ro ?_ (hKK _ _ _ ?_); (focus (simp; done)); clear htab tab hKK KK; simp only [thenA, blockA, reduceIte]) | (refine dEnd_of ?_ (hKK _ _ _ ?_); (focus (simp only [List.reverse_cons, List.reverse_nil, List.nil_append, List.cons_append, memA, mem1, and_true, true_and]; (repeat' apply And.intro); (all_goals (first | trivial | (refine .inr ⟨?_, ?_⟩ <;> (simp; done)) | (refine .inr ⟨?_, ?_⟩ <;> (simp <;> omega)) | (refine .inl ?_; rw [htab]; kernel_rfl))); done)); clear htab tab hKK KK; simp only [thenA, blockA, reduceIte]) | (refine hKK _ _ _ ?_; clear hKK KK; simp only [thenA, blockA, reduceIte]) | skip
      repeat' (first
        | refine AWP.seq ?_
        | refine AWP.block ?_
        | (refine AWP.skip ?_; simp only [thenA, blockA, reduceIte])
        | (refine AWP.exit ?_; simp only [thenA, blockA, eq_self, reduceIte, Nat.reduceEqDiff, Nat.succ_ne_zero])
        | (refine AWP.ret ?_; simp only [thenA, blockA, reduceIte])
        | (refine AWP.region (by rfl) (fun KK hKK => ?_); (repeat (simp (disch := omega) [hO, eOut_some, dOut_some])); first | (refine hKK _ _ _ ?_; clear hKK KK; simp only [thenA, blockA, reduceIte]) | skip)
        | (refine AWP.draw' mixd (by rfl) (by kernel_rfl) (fun KK tab hKK htab => ?_); (repeat (simp (disch := omega) [hO, eOut_some, dOut_some])); first | (refine dEnd_ro ?_ (hKK _ _ _ ?_); (focus (simp; done)); clear htab tab hKK KK; simp only [thenA, blockA, reduceIte]) | (refine dEnd_of ?_ (hKK _ _ _ ?_); (focus (simp only [List.reverse_cons, List.reverse_nil, List.nil_append, List.cons_append, memA, mem1, and_true, true_and]; (repeat' apply And.intro); (all_goals (first | trivial | (refine .inr ⟨?_, ?_⟩ <;> (simp; done)) | (refine .inr ⟨?_, ?_⟩ <;> (simp <;> omega)) | (refine .inl ?_; rw [htab]; kernel_rfl))); done)); clear htab tab hKK KK; simp only [thenA, blockA, reduceIte]) | skip)
        | (refine AWP.if_t ?_ ?_; focus (simp (disch := omega) [hO, eOut_some, dOut_some]; done))
        | (refine AWP.if_f ?_ ?_; focus (simp (disch := omega) [hO, eOut_some, dOut_some]; done)))
    refine AWP.weak (Weak.virt 9 3 1 0 0 0 (by simp) (by omega)) ?_
    refine AWP.loop (fun n τ τ2 M => ∃ k cb : Nat, k ≤ t.length ∧ n = t.length - k ∧ τ = [(3, .ptr (K + 2) 0 0), (4, .sl (K + 1) o1 t.length none 1), (5, .ptr (K + 2 + 1 + 2) 0 0), (9, .sl cb 0 (rgL k).length none 1), (10, .v (.int .i64 k))] ∧ τ2 K = some (blkD ds) ∧ τ2 (K + 1) = some (blkI l) ∧ τ2 (K + 2) = some (blkE (.sl K 0 ds.length none 2)) ∧ τ2 (K + 2 + 1) = some (blkD rs) ∧ τ2 (K + 2 + 1 + 2) = some (blkE (.sl (K + 2 + 1) 0 rs.length (some rs.length) 2)) ∧ τ2 cb = some (blkI (rgL k)) ∧ K + 2 + 1 + 2 < cb ∧ cb < M)
      ⟨_, _, _, _, ⟨0, K + 2 + 1 + 2 + 1 + 2 + 1 + 2, by omega, rfl, rfl, by simp (disch := omega) only [upd_eq, upd_ne, del_ne], by simp (disch := omega) only [upd_eq, upd_ne, del_ne], by simp (disch := omega) only [upd_eq, upd_ne, del_ne], by simp (disch := omega) only [upd_eq, upd_ne, del_ne], by simp (disch := omega) only [upd_eq, upd_ne, del_ne], by simp only [upd_eq]; rfl, by omega, by omega⟩, Weak.tau (by simp [LQ, rgL])⟩ ?_
    rintro n τ σ2 M ⟨k, cb, hk, rfl, rfl, hb0, hb1, hb2, hb3, hb4, hb5, hc1, hc2⟩
    by_cases hlt : k < t.length
    · have hgl := rgL_len k
      have hst := rgL_succ k
      generalize rgL k = R at *
      have hz1 : (R.length + 1) * 8 ≤ 140737488355328 := by omega
      have hz2 : R.length + 1 ≤ 4611686018427387904 := by omega
      repeat' (first
        | refine AWP.seq ?_
        | refine AWP.block ?_
        | (refine AWP.skip ?_; simp only [thenA, blockA, reduceIte])
        | (refine AWP.exit ?_; simp only [thenA, blockA, eq_self, reduceIte, Nat.reduceEqDiff, Nat.succ_ne_zero])
        | (refine AWP.ret ?_; simp only [thenA, blockA, reduceIte])
        | (refine AWP.region (by rfl) (fun KK hKK => ?_); (repeat (simp (disch := omega) [hlt, elems, rowsI_len, rowsI_snoc, rowsI_take, hz1, hz2, hb5])); first | (refine hKK _ _ _ ?_; clear hKK KK; simp only [thenA, blockA, reduceIte]) | skip)
        | (refine AWP.draw' mixd (by rfl) (by kernel_rfl) (fun KK tab hKK htab => ?_); (repeat (simp (disch := omega) [hlt, elems, rowsI_len, rowsI_snoc, rowsI_take, hz1, hz2, hb5])); first | (refine dEnd_ro ?_ (hKK _ _ _ ?_); (focus (simp; done)); clear htab tab hKK KK; simp only [thenA, blockA, reduceIte]) | (refine dEnd_of ?_ (hKK _ _ _ ?_); (focus (simp only [List.reverse_cons, List.reverse_nil, List.nil_append, List.cons_append, memA, mem1, and_true, true_and]; (repeat' apply And.intro); (all_goals (first | trivial | (refine .inr ⟨?_, ?_⟩ <;> (simp; done)) | (refine .inr ⟨?_, ?_⟩ <;> (simp <;> omega)) | (refine .inl ?_; rw [htab]; kernel_rfl))); done)); clear htab tab hKK KK; simp only [thenA, blockA, reduceIte]) | skip)
        | (refine AWP.if_t ?_ ?_; focus (simp (disch := omega) [hlt, elems, rowsI_len, rowsI_snoc, rowsI_take, hz1, hz2, hb5]; done))
        | (refine AWP.if_f ?_ ?_; focus (simp (disch := omega) [hlt, elems, rowsI_len, rowsI_snoc, rowsI_take, hz1, hz2, hb5]; done)))
      refine ⟨_, _, _, _, ?_, ⟨k + 1, M + 1, by omega, rfl, rfl, by simp (disch := omega) only [upd_eq, upd_ne, del_ne, hb0], by simp (disch := omega) only [upd_eq, upd_ne, del_ne, hb1], by simp (disch := omega) only [upd_eq, upd_ne, del_ne, hb2], by simp (disch := omega) only [upd_eq, upd_ne, del_ne, hb3], by simp (disch := omega) only [upd_eq, upd_ne, del_ne, hb4], by rw [hst]; simp (disch := omega) only [upd_eq, upd_ne, del_ne], by omega, by omega⟩, Weak.tau (by rw [hst]; simp [LQ])⟩
      omega
    · have hk' : k = t.length := by omega
      subst hk'
      repeat' (first
        | refine AWP.seq ?_
        | refine AWP.block ?_
        | (refine AWP.skip ?_; simp only [thenA, blockA, reduceIte])
        | (refine AWP.exit ?_; simp only [thenA, blockA, eq_self, reduceIte, Nat.reduceEqDiff, Nat.succ_ne_zero])
        | (refine AWP.ret ?_; simp only [thenA, blockA, reduceIte])
        | (refine AWP.region (by rfl) (fun KK hKK => ?_); (repeat (simp (disch := omega) [hlt])); first | (refine hKK _ _ _ ?_; clear hKK KK; simp only [thenA, blockA, reduceIte]) | skip)
        | (refine AWP.draw' mixd (by rfl) (by kernel_rfl) (fun KK tab hKK htab => ?_); (repeat (simp (disch := omega) [hlt])); first | (refine dEnd_ro ?_ (hKK _ _ _ ?_); (focus (simp; done)); clear htab tab hKK KK; simp only [thenA, blockA, reduceIte]) | (refine dEnd_of ?_ (hKK _ _ _ ?_); (focus (simp only [List.reverse_cons, List.reverse_nil, List.nil_append, List.cons_append, memA, mem1, and_true, true_and]; (repeat' apply And.intro); (all_goals (first | trivial | (refine .inr ⟨?_, ?_⟩ <;> (simp; done)) | (refine .inr ⟨?_, ?_⟩ <;> (simp <;> omega)) | (refine .inl ?_; rw [htab]; kernel_rfl))); done)); clear htab tab hKK KK; simp only [thenA, blockA, reduceIte]) | skip)
        | (refine AWP.if_t ?_ ?_; focus (simp (disch := omega) [hlt]; done))
        | (refine AWP.if_f ?_ ?_; focus (simp (disch := omega) [hlt]; done)))
      refine AWP.loop (fun n τ τ2 M => ∃ k : Nat, k ≤ ds.length ∧ n = ds.length - k ∧ τ = [(3, .ptr (K + 2) 0 0), (4, .sl (K + 1) o1 t.length none 1), (5, .ptr (K + 2 + 1 + 2) 0 0), (9, .sl cb 0 (rgL t.length).length none 1), (11, .v (.int .i64 k))] ∧ τ2 K = some (blkD ds) ∧ τ2 (K + 1) = some (blkI l) ∧ τ2 (K + 2) = some (blkE (.sl K 0 ds.length none 2)) ∧ τ2 (K + 2 + 1) = some (blkD rs) ∧ τ2 (K + 2 + 1 + 2) = some (blkE (.sl (K + 2 + 1) 0 rs.length (some rs.length) 2)) ∧ τ2 cb = some (blkI (rgL t.length)) ∧ cb < M)
        ⟨_, _, _, _, ⟨0, by omega, rfl, rfl, by simp (disch := omega) only [upd_eq, upd_ne, del_ne, hb0], by simp (disch := omega) only [upd_eq, upd_ne, del_ne, hb1], by simp (disch := omega) only [upd_eq, upd_ne, del_ne, hb2], by simp (disch := omega) only [upd_eq, upd_ne, del_ne, hb3], by simp (disch := omega) only [upd_eq, upd_ne, del_ne, hb4], by simp (disch := omega) only [upd_eq, upd_ne, del_ne, hb5], by omega⟩, Weak.tau (by simp [LQ])⟩ ?_
      rintro n τ σ3 M1 ⟨k, hk, rfl, rfl, ha0, ha1, ha2, ha3, ha4, ha5, hM1⟩
      by_cases hkl : k < ds.length
      · have hrD := rowsD_at ds k hkl
        have hvk := hval k hkl
        have hlk := hlu k hkl
        repeat' (first
          | refine AWP.seq ?_
          | refine AWP.block ?_
          | (refine AWP.skip ?_; simp only [thenA, blockA, reduceIte])
          | (refine AWP.exit ?_; simp only [thenA, blockA, eq_self, reduceIte, Nat.reduceEqDiff, Nat.succ_ne_zero])
          | (refine AWP.ret ?_; simp only [thenA, blockA, reduceIte])
          | (refine AWP.region (by rfl) (fun KK hKK => ?_); (repeat (simp (disch := omega) [hkl, ha0, ha2, ha4, hrD, hvk, hlk])); first | (refine hKK _ _ _ ?_; clear hKK KK; simp only [thenA, blockA, reduceIte]) | skip)
          | (refine AWP.draw' mixd (by rfl) (by kernel_rfl) (fun KK tab hKK htab => ?_); (repeat (simp (disch := omega) [hkl, ha0, ha2, ha4, hrD, hvk, hlk])); first | (refine dEnd_ro ?_ (hKK _ _ _ ?_); (focus (simp; done)); clear htab tab hKK KK; simp only [thenA, blockA, reduceIte]) | (refine dEnd_of ?_ (hKK _ _ _ ?_); (focus (simp only [List.reverse_cons, List.reverse_nil, List.nil_append, List.cons_append, memA, mem1, and_true, true_and]; (repeat' apply And.intro); (all_goals (first | trivial | (refine .inr ⟨?_, ?_⟩ <;> (simp; done)) | (refine .inr ⟨?_, ?_⟩ <;> (simp <;> omega)) | (refine .inl ?_; rw [htab]; kernel_rfl))); done)); clear htab tab hKK KK; simp only [thenA, blockA, reduceIte]) | skip)
          | (refine AWP.if_t ?_ ?_; focus (simp (disch := omega) [hkl, ha0, ha2, ha4, hrD, hvk, hlk]; done))
          | (refine AWP.if_f ?_ ?_; focus (simp (disch := omega) [hkl, ha0, ha2, ha4, hrD, hvk, hlk]; done)))
        repeat
          first
            | (refine dStop_roA (fun σ' hσ' => ValueOf_c σ' _ _ rs _ (by first | exact (Sl.whole (t := 61) (r := true) ((hσ' _ (by simp)).trans (by simp (disch := omega) only [upd_eq, upd_ne, del_ne, ha3])) (by simp [rowsD_len])) | exact (Sl.whole (t := 61) (r := true) (by simp (disch := omega) only [upd_eq, upd_ne, del_ne, ha3]) (by simp [rowsD_len]))) (by omega) hsz2) ?_)
            | (refine dStop_roA (fun σ' hσ' => lookUp_c σ' _ _ _ ds t _ (by first | exact (Sl.whole (t := 61) (r := true) ((hσ' _ (by simp)).trans (by simp (disch := omega) only [upd_eq, upd_ne, del_ne, ha0])) (by simp [rowsD_len])) | exact (Sl.whole (t := 61) (r := true) (by simp (disch := omega) only [upd_eq, upd_ne, del_ne, ha0]) (by simp [rowsD_len]))) (sl_dropT (r := true) ht ((hσ' _ (by simp)).trans (by simp (disch := omega) only [upd_eq, upd_ne, del_ne, ha1])) ho) (by omega) (by omega) hsz) ?_)
          (repeat (simp (disch := omega) [hkl, ha0, ha2, ha4, hrD, hvk, hlk]))
          first | (refine dEnd_ro ?_ (hKK _ _ _ ?_); (focus (simp; done)); clear htab tab hKK KK; simp only [thenA, blockA, reduceIte]) | (refine dEnd_of ?_ (hKK _ _ _ ?_); (focus (simp only [List.reverse_cons, List.reverse_nil, List.nil_append, List.cons_append, memA, mem1, and_true, true_and]; (repeat' apply And.intro); (all_goals (first | trivial | (refine .inr ⟨?_, ?_⟩ <;> (simp; done)) | (refine .inr ⟨?_, ?_⟩ <;> (simp <;> omega)) | (refine .inl ?_; rw [htab]; kernel_rfl))); done)); clear htab tab hKK KK; simp only [thenA, blockA, reduceIte]) | (refine hKK _ _ _ ?_; clear hKK KK; simp only [thenA, blockA, reduceIte]) | skip
          repeat' (first
            | refine AWP.seq ?_
            | refine AWP.block ?_
            | (refine AWP.skip ?_; simp only [thenA, blockA, reduceIte])
            | (refine AWP.exit ?_; simp only [thenA, blockA, eq_self, reduceIte, Nat.reduceEqDiff, Nat.succ_ne_zero])
            | (refine AWP.ret ?_; simp only [thenA, blockA, reduceIte])
            | (refine AWP.region (by rfl) (fun KK hKK => ?_); (repeat (simp (disch := omega) [hkl, ha0, ha2, ha4, hrD, hvk, hlk])); first | (refine hKK _ _ _ ?_; clear hKK KK; simp only [thenA, blockA, reduceIte]) | skip)
            | (refine AWP.draw' mixd (by rfl) (by kernel_rfl) (fun KK tab hKK htab => ?_); (repeat (simp (disch := omega) [hkl, ha0, ha2, ha4, hrD, hvk, hlk])); first | (refine dEnd_ro ?_ (hKK _ _ _ ?_); (focus (simp; done)); clear htab tab hKK KK; simp only [thenA, blockA, reduceIte]) | (refine dEnd_of ?_ (hKK _ _ _ ?_); (focus (simp only [List.reverse_cons, List.reverse_nil, List.nil_append, List.cons_append, memA, mem1, and_true, true_and]; (repeat' apply And.intro); (all_goals (first | trivial | (refine .inr ⟨?_, ?_⟩ <;> (simp; done)) | (refine .inr ⟨?_, ?_⟩ <;> (simp <;> omega)) | (refine .inl ?_; rw [htab]; kernel_rfl))); done)); clear htab tab hKK KK; simp only [thenA, blockA, reduceIte]) | skip)
            | (refine AWP.if_t ?_ ?_; focus (simp (disch := omega) [hkl, ha0, ha2, ha4, hrD, hvk, hlk]; done))
            | (refine AWP.if_f ?_ ?_; focus (simp (disch := omega) [hkl, ha0, ha2, ha4, hrD, hvk, hlk]; done)))
        refine ⟨_, _, _, _, ?_, ⟨k + 1, by omega, rfl, rfl, by simp (disch := omega) only [upd_eq, upd_ne, del_ne, ha0], by simp (disch := omega) only [upd_eq, upd_ne, del_ne, ha1], by simp (disch := omega) only [upd_eq, upd_ne, del_ne, ha2], by simp (disch := omega) only [upd_eq, upd_ne, del_ne, ha3], by simp (disch := omega) only [upd_eq, upd_ne, del_ne, ha4], by simp (disch := omega) only [upd_eq, upd_ne, del_ne, ha5], by omega⟩, Weak.tau (by simp [LQ])⟩
        omega
      · have hk' : k = ds.length := by omega
        subst hk'
        have hrg := rgL_len t.length
        repeat' (first
          | refine AWP.seq ?_
          | refine AWP.block ?_
          | (refine AWP.skip ?_; simp only [thenA, blockA, reduceIte])
          | (refine AWP.exit ?_; simp only [thenA, blockA, eq_self, reduceIte, Nat.reduceEqDiff, Nat.succ_ne_zero])
          | (refine AWP.ret ?_; simp only [thenA, blockA, reduceIte])
          | (refine AWP.region (by rfl) (fun KK hKK => ?_); (repeat (simp (disch := omega) [hkl, ha2, hO2, eOut_some, dOut_some])); first | (refine hKK _ _ _ ?_; clear hKK KK; simp only [thenA, blockA, reduceIte]) | skip)
          | (refine AWP.draw' mixd (by rfl) (by kernel_rfl) (fun KK tab hKK htab => ?_); (repeat (simp (disch := omega) [hkl, ha2, hO2, eOut_some, dOut_some])); first | (refine dEnd_ro ?_ (hKK _ _ _ ?_); (focus (simp; done)); clear htab tab hKK KK; simp only [thenA, blockA, reduceIte]) | (refine dEnd_of ?_ (hKK _ _ _ ?_); (focus (simp only [List.reverse_cons, List.reverse_nil, List.nil_append, List.cons_append, memA, mem1, and_true, true_and]; (repeat' apply And.intro); (all_goals (first | trivial | (refine .inr ⟨?_, ?_⟩ <;> (simp; done)) | (refine .inr ⟨?_, ?_⟩ <;> (simp <;> omega)) | (refine .inl ?_; rw [htab]; kernel_rfl))); done)); clear htab tab hKK KK; simp only [thenA, blockA, reduceIte]) | skip)
          | (refine AWP.if_t ?_ ?_; focus (simp (disch := omega) [hkl, ha2, hO2, eOut_some, dOut_some]; done))
          | (refine AWP.if_f ?_ ?_; focus (simp (disch := omega) [hkl, ha2, hO2, eOut_some, dOut_some]; done)))
        repeat
          first
            | (refine aStop_of (revalue_c _ _ _ _ ds (rgL t.length) (by first | exact (Sl.whole (t := 61) (r := true) ((hσ' _ (by simp)).trans (by simp (disch := omega) only [upd_eq, upd_ne, del_ne, ha0])) (by simp [rowsD_len])) | exact (Sl.whole (t := 61) (r := true) (by simp (disch := omega) only [upd_eq, upd_ne, del_ne, ha0]) (by simp [rowsD_len]))) (by first | exact (Sl.whole (t := 3) (r := true) ((hσ' _ (by simp)).trans (by simp (disch := omega) only [upd_eq, upd_ne, del_ne, ha5])) (by simp [rowsI_len])) | exact (Sl.whole (t := 3) (r := true) (by simp (disch := omega) only [upd_eq, upd_ne, del_ne, ha5]) (by simp [rowsI_len]))) (by omega) (by omega) hsz) ?_; rintro r δ ⟨rfl, rfl⟩)
            | (refine dStop_newA (fun σ' hσ' => renum_some hO3 σ' _ _ (by first | exact (Sl.whole (t := 61) (r := true) ((hσ' _ (by simp)).trans (by simp (disch := omega) only [upd_eq, upd_ne, del_ne, ha0])) (by simp [rowsD_len])) | exact (Sl.whole (t := 61) (r := true) (by simp (disch := omega) only [upd_eq, upd_ne, del_ne, ha0]) (by simp [rowsD_len]))) (by omega) hsz) ?_)
            | (refine dStop_roA (fun σ' hσ' => equalEnum_c σ' _ _ _ qs qs (by first | exact (Sl.whole (t := 61) (r := true) ((hσ' _ (by simp)).trans (by simp (disch := omega) only [upd_eq, upd_ne, del_ne])) (by simp [rowsD_len])) | exact (Sl.whole (t := 61) (r := true) (by simp (disch := omega) only [upd_eq, upd_ne, del_ne]) (by simp [rowsD_len]))) (by first | exact (Sl.whole (t := 61) (r := true) ((hσ' _ (by simp)).trans (by simp (disch := omega) only [upd_eq, upd_ne, del_ne])) (by simp [rowsD_len])) | exact (Sl.whole (t := 61) (r := true) (by simp (disch := omega) only [upd_eq, upd_ne, del_ne]) (by simp [rowsD_len]))) (by omega) (by omega)) ?_)
          (repeat (simp (disch := omega) [hkl, ha2, hO2, eOut_some, dOut_some]))
          first | (refine dEnd_ro ?_ (hKK _ _ _ ?_); (focus (simp; done)); clear htab tab hKK KK; simp only [thenA, blockA, reduceIte]) | (refine dEnd_of ?_ (hKK _ _ _ ?_); (focus (simp only [List.reverse_cons, List.reverse_nil, List.nil_append, List.cons_append, memA, mem1, and_true, true_and]; (repeat' apply And.intro); (all_goals (first | trivial | (refine .inr ⟨?_, ?_⟩ <;> (simp; done)) | (refine .inr ⟨?_, ?_⟩ <;> (simp <;> omega)) | (refine .inl ?_; rw [htab]; kernel_rfl))); done)); clear htab tab hKK KK; simp only [thenA, blockA, reduceIte]) | (refine hKK _ _ _ ?_; clear hKK KK; simp only [thenA, blockA, reduceIte]) | skip
          repeat' (first
            | refine AWP.seq ?_
            | refine AWP.block ?_
            | (refine AWP.skip ?_; simp only [thenA, blockA, reduceIte])
            | (refine AWP.exit ?_; simp only [thenA, blockA, eq_self, reduceIte, Nat.reduceEqDiff, Nat.succ_ne_zero])
            | (refine AWP.ret ?_; simp only [thenA, blockA, reduceIte])
            | (refine AWP.region (by rfl) (fun KK hKK => ?_); (repeat (simp (disch := omega) [hkl, ha2, hO2, eOut_some, dOut_some])); first | (refine hKK _ _ _ ?_; clear hKK KK; simp only [thenA, blockA, reduceIte]) | skip)
            | (refine AWP.draw' mixd (by rfl) (by kernel_rfl) (fun KK tab hKK htab => ?_); (repeat (simp (disch := omega) [hkl, ha2, hO2, eOut_some, dOut_some])); first | (refine dEnd_ro ?_ (hKK _ _ _ ?_); (focus (simp; done)); clear htab tab hKK KK; simp only [thenA, blockA, reduceIte]) | (refine dEnd_of ?_ (hKK _ _ _ ?_); (focus (simp only [List.reverse_cons, List.reverse_nil, List.nil_append, List.cons_append, memA, mem1, and_true, true_and]; (repeat' apply And.intro); (all_goals (first | trivial | (refine .inr ⟨?_, ?_⟩ <;> (simp; done)) | (refine .inr ⟨?_, ?_⟩ <;> (simp <;> omega)) | (refine .inl ?_; rw [htab]; kernel_rfl))); done)); clear htab tab hKK KK; simp only [thenA, blockA, reduceIte]) | skip)
            | (refine AWP.if_t ?_ ?_; focus (simp (disch := omega) [hkl, ha2, hO2, eOut_some, dOut_some]; done))
            | (refine AWP.if_f ?_ ?_; focus (simp (disch := omega) [hkl, ha2, hO2, eOut_some, dOut_some]; done)))
        refine ⟨by simp, _, rfl, fin0 ⟨?_, rfl⟩ (by simp [resO, get, nms, nmss]; try (simp [nms, nmss] at hn; simp_all))⟩
        simp [resO, get, ren, rens]
end Go.Proofs.Ytkddpkjgmmmcpaa
