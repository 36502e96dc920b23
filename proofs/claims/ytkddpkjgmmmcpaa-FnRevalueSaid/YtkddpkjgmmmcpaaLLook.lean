/- The law of LookUp, walked: it answers true for every code. No condition but sizes that every input has. -/
import Derived.Test.YtkddpkjgmmmcpaaT1
import Derived.Test.YtkddpkjgmmmcpaaT5
import Derived.Test.YtkddpkjgmmmcpaaPM
set_option linter.unusedSimpArgs false
set_option linter.unusedVariables false
namespace Go.Proofs.Ytkddpkjgmmmcpaa
open Go Go.RowKit

theorem mem_name {ds : List Df} {u : ByteArray} {n : Int} (hv : valO ds u = some n) : ∃ m, nameO ds n = some m ∧ valO ds m = some n := by
  obtain ⟨hok, i, hi, _, _, hvl⟩ := valO_some hv
  rcases valueIx_cases ds n with ⟨_, h⟩ | ⟨j, hj, hx, hjv, _⟩
  · exact absurd hvl (h _ (List.getElem_mem hi))
  · refine ⟨ds[j].1, nameO_yes hok hj hx, ?_⟩
    rw [valO_yes hok hj (name_at hok hj), hjv]
theorem rk_of_val {ds : List Df} {u m : ByteArray} {n : Int} (hu : valO ds u = some n) (hm : valO ds m = some n) : rkO ds m = rkO ds u := by
  simp only [rkO, hu, hm]
theorem luO_some {ds : List Df} {t : List Int} {u : ByteArray} {v : Int} (h : luO ds t u = some v) : tkO ds t = true ∧ 0 ≤ rkO ds u ∧ (rkO ds u).toNat < t.length ∧ t[(rkO ds u).toNat]? = some v := by
  unfold luO at h
  split at h
  · rename_i hh
    obtain ⟨_, htl, _⟩ := tkO_ok hh.1
    have hl := rk_lt hh.2
    have hil : (rkO ds u).toNat < t.length := by omega
    refine ⟨hh.1, hh.2, hil, ?_⟩
    rw [List.getElem?_eq_getElem hil, ← h, List.getD_eq_getElem?_getD, List.getElem?_eq_getElem hil]
    rfl
  · cases h
theorem rk_val_of {ds : List Df} {u : ByteArray} (h : 0 ≤ rkO ds u) : ∃ n, valO ds u = some n := by
  cases hv : valO ds u with
  | none => simp only [rkO, hv] at h; omega
  | some n => exact ⟨n, rfl⟩
theorem drop_row {l t : List Int} {o i : Nat} {v : Int} (ht : l.drop o = t) (h : t[i]? = some v) : (rowsI l)[o + i]? = some [.v (.int .i64 v)] := by
  rw [← ht, List.getElem?_drop] at h
  unfold rowsI
  rw [List.getElem?_map, h]
  rfl
theorem sl_dropT {σ : Sto} {b o : Nat} {l t : List Int} {r : Bool} (ht : l.drop o = t) (hb : σ b = some ⟨3, 1, rowsI l, r⟩) (ho : o ≤ l.length) : Sl σ (.sl b o t.length none 1) 1 (rowsI t) := by
  subst ht
  exact sl_drop hb ho

set_option maxRecDepth 10000 in
set_option maxHeartbeats 4000000 in
theorem look_law_c (σ : Sto) (ν : Nat) (x : AV) (cs : List Int) (hx : Sl σ x 1 (rowsB cs)) (hlen : cs.length ≤ 9223372036854775807) (h8 : ∀ y ∈ cs, 0 ≤ y ∧ y ≤ 255) :
    AC Try.prog 4 [x] σ ν fun r δ => r = .v (.bool true) ∧ δ = noS := by
  obtain ⟨b, o, cap, z, rfl⟩ := hx.out
  simp only [rowsB_len] at hx ⊢
  refine AC.intro [] ent_4 Try.func4 rfl (by simp [Try.f4]) (by simp) ?_
  intro K s hs hB hn hν hA hFr
  simp only [argT, Nat.zero_add, Nat.reduceAdd]
  have hx' := hx.vw hs.vw
  by_cases h1 : (1048576 : Int) < cs.length
  · repeat' (first
      | refine AWP.seq ?_
      | refine AWP.block ?_
      | (refine AWP.skip ?_; simp only [thenA, blockA, reduceIte])
      | (refine AWP.exit ?_; simp only [thenA, blockA, eq_self, reduceIte, Nat.reduceEqDiff, Nat.succ_ne_zero])
      | (refine AWP.ret ?_; simp only [thenA, blockA, reduceIte])
      | (refine AWP.region (by rfl) (fun KK hKK => ?_); (repeat (simp (disch := omega) [h1])); first | (refine hKK _ _ _ ?_; clear hKK KK; simp only [thenA, blockA, reduceIte]) | skip)
      | (refine AWP.if_t ?_ ?_; focus (simp (disch := omega) [h1]; done))
      | (refine AWP.if_f ?_ ?_; focus (simp (disch := omega) [h1]; done)))
    refine ⟨by simp, _, rfl, fin0 ⟨?_, rfl⟩ (by simp [resO, get, nms, nmss]; try (simp [nms, nmss] at hn; simp_all))⟩
    simp [resO, get, ren, rens]
  repeat' (first
    | refine AWP.seq ?_
    | refine AWP.block ?_
    | (refine AWP.skip ?_; simp only [thenA, blockA, reduceIte])
    | (refine AWP.exit ?_; simp only [thenA, blockA, eq_self, reduceIte, Nat.reduceEqDiff, Nat.succ_ne_zero])
    | (refine AWP.ret ?_; simp only [thenA, blockA, reduceIte])
    | (refine AWP.region (by rfl) (fun KK hKK => ?_); (repeat (simp (disch := omega) [h1])); first | (refine hKK _ _ _ ?_; clear hKK KK; simp only [thenA, blockA, reduceIte]) | skip)
    | (refine AWP.if_t ?_ ?_; focus (simp (disch := omega) [h1]; done))
    | (refine AWP.if_f ?_ ?_; focus (simp (disch := omega) [h1]; done)))
  refine aStop_of (DrawLookUp_c _ _ _ cs (hx'.vw ((Vw.refl _).over (by repeat (first | exact Over.refl _ | exact hov | refine Over.upd ?_ hB (by omega) | refine Over.del ?_ hB (by omega))))) h8 hlen) ?_
  rintro r δ ⟨ds, l, o1, t, u, ht, hgd, hgi, ho, hu, rfl, rfl⟩
  (repeat (simp (disch := omega) []))
  first | (refine hKK _ _ _ ?_; clear hKK KK; simp only [thenA, blockA, reduceIte]) | skip
  have hl := hgd.len
  have htl := hgi.len
  have hsz : ∀ d ∈ ds, d.1.size ≤ 9223372036854775807 := fun d hd => by have := hgd.sz d hd; omega
  repeat' (first
    | refine AWP.seq ?_
    | refine AWP.block ?_
    | (refine AWP.skip ?_; simp only [thenA, blockA, reduceIte])
    | (refine AWP.exit ?_; simp only [thenA, blockA, eq_self, reduceIte, Nat.reduceEqDiff, Nat.succ_ne_zero])
    | (refine AWP.ret ?_; simp only [thenA, blockA, reduceIte])
    | (refine AWP.region (by rfl) (fun KK hKK => ?_); (repeat (simp (disch := omega) [])); first | (refine hKK _ _ _ ?_; clear hKK KK; simp only [thenA, blockA, reduceIte]) | skip)
    | (refine AWP.if_t ?_ ?_; focus (simp (disch := omega) []; done))
    | (refine AWP.if_f ?_ ?_; focus (simp (disch := omega) []; done)))
  cases hO : luO ds t u with
  | none =>
    repeat' (first
      | refine AWP.seq ?_
      | refine AWP.block ?_
      | (refine AWP.skip ?_; simp only [thenA, blockA, reduceIte])
      | (refine AWP.exit ?_; simp only [thenA, blockA, eq_self, reduceIte, Nat.reduceEqDiff, Nat.succ_ne_zero])
      | (refine AWP.ret ?_; simp only [thenA, blockA, reduceIte])
      | (refine AWP.region (by rfl) (fun KK hKK => ?_); (repeat (simp (disch := omega) [hO])); first | (refine hKK _ _ _ ?_; clear hKK KK; simp only [thenA, blockA, reduceIte]) | skip)
      | (refine AWP.if_t ?_ ?_; focus (simp (disch := omega) [hO]; done))
      | (refine AWP.if_f ?_ ?_; focus (simp (disch := omega) [hO]; done)))
    repeat
      first
        | (refine aStop_of (lookUp_c _ _ _ _ ds t u (by first | exact (Sl.whole (t := 61) (r := true) ((hσ' _ (by simp)).trans (by simp (disch := omega) only [upd_eq, upd_ne, del_ne])) (by simp [rowsD_len])) | exact (Sl.whole (t := 61) (r := true) (by simp (disch := omega) only [upd_eq, upd_ne, del_ne]) (by simp [rowsD_len]))) (sl_dropT (r := true) ht (by simp (disch := omega) only [upd_eq, upd_ne]) ho) (by omega) (by omega) hsz) ?_; rintro r δ ⟨rfl, rfl⟩)
        | (refine aStop_of (lookUpS_c _ _ _ _ ds t u (by first | exact (Sl.whole (t := 61) (r := true) ((hσ' _ (by simp)).trans (by simp (disch := omega) only [upd_eq, upd_ne, del_ne])) (by simp [rowsD_len])) | exact (Sl.whole (t := 61) (r := true) (by simp (disch := omega) only [upd_eq, upd_ne, del_ne]) (by simp [rowsD_len]))) (sl_dropT (r := true) ht (by simp (disch := omega) only [upd_eq, upd_ne]) ho) (by omega) (by omega) hsz) ?_; rintro r δ ⟨rfl, rfl⟩)
      (repeat (simp (disch := omega) [hO]))
      first | (refine dEnd_ro ?_ (hKK _ _ _ ?_); (focus (simp; done)); clear htab tab hKK KK; simp only [thenA, blockA, reduceIte]) | (refine dEnd_of ?_ (hKK _ _ _ ?_); (focus (simp only [List.reverse_cons, List.reverse_nil, List.nil_append, List.cons_append, memA, mem1, and_true, true_and]; (repeat' apply And.intro); (all_goals (first | trivial | (refine .inr ⟨?_, ?_⟩ <;> (simp; done)) | (refine .inr ⟨?_, ?_⟩ <;> (simp <;> omega)) | (refine .inl ?_; rw [htab]; kernel_rfl))); done)); clear htab tab hKK KK; simp only [thenA, blockA, reduceIte]) | (refine hKK _ _ _ ?_; clear hKK KK; simp only [thenA, blockA, reduceIte]) | skip
      repeat' (first
        | refine AWP.seq ?_
        | refine AWP.block ?_
        | (refine AWP.skip ?_; simp only [thenA, blockA, reduceIte])
        | (refine AWP.exit ?_; simp only [thenA, blockA, eq_self, reduceIte, Nat.reduceEqDiff, Nat.succ_ne_zero])
        | (refine AWP.ret ?_; simp only [thenA, blockA, reduceIte])
        | (refine AWP.region (by rfl) (fun KK hKK => ?_); (repeat (simp (disch := omega) [hO])); first | (refine hKK _ _ _ ?_; clear hKK KK; simp only [thenA, blockA, reduceIte]) | skip)
        | (refine AWP.if_t ?_ ?_; focus (simp (disch := omega) [hO]; done))
        | (refine AWP.if_f ?_ ?_; focus (simp (disch := omega) [hO]; done)))
    refine ⟨by simp, _, rfl, fin0 ⟨?_, rfl⟩ (by simp [resO, get, nms, nmss]; try (simp [nms, nmss] at hn; simp_all))⟩
    simp [resO, get, ren, rens]
  | some v =>
    obtain ⟨hok, hr0, hil, hv⟩ := luO_some hO
    obtain ⟨n, hn⟩ := rk_val_of hr0
    obtain ⟨m, hm1, hm2⟩ := mem_name hn
    have hrm := rk_of_val hn hm2
    have hO2 : luO ds t m = some v := by unfold luO at hO ⊢; rw [hrm]; exact hO
    have hrow := drop_row ht hv
    have hili : rkO ds u < t.length := by omega
    repeat' (first
      | refine AWP.seq ?_
      | refine AWP.block ?_
      | (refine AWP.skip ?_; simp only [thenA, blockA, reduceIte])
      | (refine AWP.exit ?_; simp only [thenA, blockA, eq_self, reduceIte, Nat.reduceEqDiff, Nat.succ_ne_zero])
      | (refine AWP.ret ?_; simp only [thenA, blockA, reduceIte])
      | (refine AWP.region (by rfl) (fun KK hKK => ?_); (repeat (simp (disch := omega) [hO, hO2, hn, hm1, hr0, hil, hili, hrow])); first | (refine hKK _ _ _ ?_; clear hKK KK; simp only [thenA, blockA, reduceIte]) | skip)
      | (refine AWP.if_t ?_ ?_; focus (simp (disch := omega) [hO, hO2, hn, hm1, hr0, hil, hili, hrow]; done))
      | (refine AWP.if_f ?_ ?_; focus (simp (disch := omega) [hO, hO2, hn, hm1, hr0, hil, hili, hrow]; done)))
    repeat
      first
        | (refine aStop_of (lookUp_c _ _ _ _ ds t _ (by first | exact (Sl.whole (t := 61) (r := true) ((hσ' _ (by simp)).trans (by simp (disch := omega) only [upd_eq, upd_ne, del_ne])) (by simp [rowsD_len])) | exact (Sl.whole (t := 61) (r := true) (by simp (disch := omega) only [upd_eq, upd_ne, del_ne]) (by simp [rowsD_len]))) (sl_dropT (r := true) ht (by simp (disch := omega) only [upd_eq, upd_ne]) ho) (by omega) (by omega) hsz) ?_; rintro r δ ⟨rfl, rfl⟩)
        | (refine aStop_of (lookUpS_c _ _ _ _ ds t _ (by first | exact (Sl.whole (t := 61) (r := true) ((hσ' _ (by simp)).trans (by simp (disch := omega) only [upd_eq, upd_ne, del_ne])) (by simp [rowsD_len])) | exact (Sl.whole (t := 61) (r := true) (by simp (disch := omega) only [upd_eq, upd_ne, del_ne]) (by simp [rowsD_len]))) (sl_dropT (r := true) ht (by simp (disch := omega) only [upd_eq, upd_ne]) ho) (by omega) (by omega) hsz) ?_; rintro r δ ⟨rfl, rfl⟩)
        | (refine aStop_of (ValueOf_c _ _ _ ds _ (by first | exact (Sl.whole (t := 61) (r := true) ((hσ' _ (by simp)).trans (by simp (disch := omega) only [upd_eq, upd_ne, del_ne])) (by simp [rowsD_len])) | exact (Sl.whole (t := 61) (r := true) (by simp (disch := omega) only [upd_eq, upd_ne, del_ne]) (by simp [rowsD_len]))) (by omega) hsz) ?_; rintro r δ ⟨rfl, rfl⟩)
        | (refine aStop_of (NameOf_c _ _ _ ds _ (by first | exact (Sl.whole (t := 61) (r := true) ((hσ' _ (by simp)).trans (by simp (disch := omega) only [upd_eq, upd_ne, del_ne])) (by simp [rowsD_len])) | exact (Sl.whole (t := 61) (r := true) (by simp (disch := omega) only [upd_eq, upd_ne, del_ne]) (by simp [rowsD_len]))) (by omega) hsz) ?_; rintro r δ ⟨rfl, rfl⟩)
        | (refine aStop_of (rankOf_c _ _ _ ds _ (by first | exact (Sl.whole (t := 61) (r := true) ((hσ' _ (by simp)).trans (by simp (disch := omega) only [upd_eq, upd_ne, del_ne])) (by simp [rowsD_len])) | exact (Sl.whole (t := 61) (r := true) (by simp (disch := omega) only [upd_eq, upd_ne, del_ne]) (by simp [rowsD_len]))) (by omega) hsz) ?_; rintro r δ ⟨rfl, rfl⟩)
      (repeat (simp (disch := omega) [hO, hO2, hn, hm1, hr0, hil, hili, hrow]))
      first | (refine dEnd_ro ?_ (hKK _ _ _ ?_); (focus (simp; done)); clear htab tab hKK KK; simp only [thenA, blockA, reduceIte]) | (refine dEnd_of ?_ (hKK _ _ _ ?_); (focus (simp only [List.reverse_cons, List.reverse_nil, List.nil_append, List.cons_append, memA, mem1, and_true, true_and]; (repeat' apply And.intro); (all_goals (first | trivial | (refine .inr ⟨?_, ?_⟩ <;> (simp; done)) | (refine .inr ⟨?_, ?_⟩ <;> (simp <;> omega)) | (refine .inl ?_; rw [htab]; kernel_rfl))); done)); clear htab tab hKK KK; simp only [thenA, blockA, reduceIte]) | (refine hKK _ _ _ ?_; clear hKK KK; simp only [thenA, blockA, reduceIte]) | skip
      repeat' (first
        | refine AWP.seq ?_
        | refine AWP.block ?_
        | (refine AWP.skip ?_; simp only [thenA, blockA, reduceIte])
        | (refine AWP.exit ?_; simp only [thenA, blockA, eq_self, reduceIte, Nat.reduceEqDiff, Nat.succ_ne_zero])
        | (refine AWP.ret ?_; simp only [thenA, blockA, reduceIte])
        | (refine AWP.region (by rfl) (fun KK hKK => ?_); (repeat (simp (disch := omega) [hO, hO2, hn, hm1, hr0, hil, hili, hrow])); first | (refine hKK _ _ _ ?_; clear hKK KK; simp only [thenA, blockA, reduceIte]) | skip)
        | (refine AWP.if_t ?_ ?_; focus (simp (disch := omega) [hO, hO2, hn, hm1, hr0, hil, hili, hrow]; done))
        | (refine AWP.if_f ?_ ?_; focus (simp (disch := omega) [hO, hO2, hn, hm1, hr0, hil, hili, hrow]; done)))
    refine ⟨by simp, _, rfl, fin0 ⟨?_, rfl⟩ (by simp [resO, get, nms, nmss]; try (simp [nms, nmss] at hn; simp_all))⟩
    simp [resO, get, ren, rens]
end Go.Proofs.Ytkddpkjgmmmcpaa
