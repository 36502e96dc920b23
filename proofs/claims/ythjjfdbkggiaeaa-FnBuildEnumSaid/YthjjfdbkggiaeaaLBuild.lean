/- The law of BuildEnum, walked: it answers true for every code. No condition but sizes that every input has. -/
import Derived.Test.YthjjfdbkggiaeaaI3
import Derived.Test.YthjjfdbkggiaeaaGI
import Derived.Test.YthjjfdbkggiaeaaM2
set_option linter.unusedSimpArgs false
set_option linter.unusedVariables false
namespace Go.Proofs.Ythjjfdbkggiaeaa
open Go Go.RowKit

theorem bdL_pre (its : List It) : ∀ m : List It, (bdL (its ++ m)).take its.length = bdL its := by
  intro m
  induction m using rev_ind with
  | nil => rw [List.append_nil]; exact List.take_of_length_le (by rw [bdL_len]; exact Nat.le_refl _)
  | snoc l t ih =>
    rw [← List.append_assoc, bdL_snoc, List.take_append_of_le_length (by rw [bdL_len, List.length_append]; omega)]
    exact ih
theorem bdL_tk (its : List It) (k : Nat) (hk : k ≤ its.length) : (bdL its).take k = bdL (its.take k) := by
  have h := bdL_pre (its.take k) (its.drop k)
  rw [List.take_append_drop] at h
  have e : (its.take k).length = k := by simp; omega
  rw [e] at h
  exact h
theorem bdL_at {its : List It} {k : Nat} (h : k < its.length) : (bdL its)[k]'(by rw [bdL_len]; exact h) = (its[k].1, if its[k].2.1 = true then nxV (bdL (its.take k)) else its[k].2.2) := by
  have h1 := bdL_tk its (k + 1) (by omega)
  rw [bdL_take h] at h1
  have h2 : ((bdL its).take (k + 1))[k]? = some (its[k].1, if its[k].2.1 = true then nxV (bdL (its.take k)) else its[k].2.2) := by
    rw [h1, List.getElem?_append_right (by rw [bdL_len, List.length_take]; omega), bdL_len]
    have : k - (its.take k).length = 0 := by simp; omega
    rw [this]
    rfl
  rw [List.getElem?_take_of_lt (by omega), List.getElem?_eq_getElem (by rw [bdL_len]; exact h)] at h2
  exact Option.some.inj h2
theorem gtV_ge : ∀ (l : List Df) (m : Int), m ≤ gtV l m ∧ ∀ d ∈ l, d.2 ≤ gtV l m
  | [], m => ⟨Int.le_refl _, by simp⟩
  | e :: l, m => by
    have h : gtV (e :: l) m = gtV l (if m < e.2 then e.2 else m) := rfl
    obtain ⟨h1, h2⟩ := gtV_ge l (if m < e.2 then e.2 else m)
    rw [h]
    have h3 : m ≤ (if m < e.2 then e.2 else m) ∧ e.2 ≤ (if m < e.2 then e.2 else m) := by split <;> omega
    refine ⟨by omega, fun d hd => ?_⟩
    rcases List.mem_cons.1 hd with rfl | hd
    · omega
    · exact h2 d hd
theorem grV_ge {ds : List Df} {d : Df} (hd : d ∈ ds) : d.2 ≤ grV ds 0 := by
  match ds, hd with
  | e :: l, hd =>
    obtain ⟨h1, h2⟩ := gtV_ge l e.2
    rcases List.mem_cons.1 hd with rfl | hd
    · exact h1
    · exact h2 d hd
theorem blO_some {its : List It} {l : List Df} (h : blO its = some l) : l = bdL its ∧ its.length ≤ 12 ∧ its.all itOk = true ∧ okDs (-1000) 1000 (bdL its) = true := by
  unfold blO at h
  split at h
  · rename_i hh
    cases h
    exact ⟨rfl, hh⟩
  · cases h
theorem okDs_vals {lo hi : Int} {ds : List Df} (h : okDs lo hi ds = true) : ∀ d ∈ ds, lo ≤ d.2 ∧ d.2 ≤ hi := fun d hd => (okDs_pw.1 h).2.1 d hd |>.2


set_option maxRecDepth 10000 in
set_option maxHeartbeats 4000000 in
theorem build_law_c (σ : Sto) (ν : Nat) (x : AV) (cs : List Int) (hx : Sl σ x 1 (rowsB cs)) (hlen : cs.length ≤ 9223372036854775807) (h8 : ∀ y ∈ cs, 0 ≤ y ∧ y ≤ 255) :
    AC Try.prog 9 [x] σ ν fun r δ => r = .v (.bool true) ∧ δ = noS := by
  obtain ⟨b, o, cap, z, rfl⟩ := hx.out
  simp only [rowsB_len] at hx ⊢
  refine AC.intro [] ent_9 Try.func9 rfl (by simp [Try.f9]) (by simp) ?_
  intro K s hs hB hn hν hA hFr
  simp only [argT, Nat.zero_add, Nat.reduceAdd]
  have hx' := hx.vw hs.vw
  by_cases h1 : (1048576 : Int) < cs.length
  · repeat' (first
      | refine AWP.seq ?_
      | refine AWP.block ?_
      | (refine AWP.skip ?_; simp only [thenA, blockA, reduceIte])
      | (refine AWP.exit ?_; simp only [thenA, blockA, eq_self, reduceIte, Nat.reduceEqDiff, Nat.succ_ne_zero])
      | (refine AWP.ret ?_; simp only [thenA, blockA, reduceIte])
      | (refine AWP.region (by rfl) (fun KK hKK => ?_); (repeat (simp (disch := omega) [h1])); first | (refine hKK _ _ _ ?_; clear hKK KK; simp only [thenA, blockA, reduceIte]) | skip)
      | (refine AWP.draw' mixd (by rfl) (by kernel_rfl) (fun KK tab hKK htab => ?_); (repeat (simp (disch := omega) [h1])); first | (refine dEnd_ro ?_ (hKK _ _ _ ?_); (focus (simp; done)); clear htab tab hKK KK; simp only [thenA, blockA, reduceIte]) | skip)
      | (refine AWP.if_t ?_ ?_; focus (simp (disch := omega) [h1]; done))
      | (refine AWP.if_f ?_ ?_; focus (simp (disch := omega) [h1]; done)))
    refine ⟨by simp, _, rfl, fin0 ⟨?_, rfl⟩ (by simp [resO, get, nms, nmss]; try (simp [nms, nmss] at hn; simp_all))⟩
    simp [resO, get, ren, rens]
  repeat' (first
    | refine AWP.seq ?_
    | refine AWP.block ?_
    | (refine AWP.skip ?_; simp only [thenA, blockA, reduceIte])
    | (refine AWP.exit ?_; simp only [thenA, blockA, eq_self, reduceIte, Nat.reduceEqDiff, Nat.succ_ne_zero])
    | (refine AWP.ret ?_; simp only [thenA, blockA, reduceIte])
    | (refine AWP.region (by rfl) (fun KK hKK => ?_); (repeat (simp (disch := omega) [h1])); first | (refine hKK _ _ _ ?_; clear hKK KK; simp only [thenA, blockA, reduceIte]) | skip)
    | (refine AWP.draw' mixd (by rfl) (by kernel_rfl) (fun KK tab hKK htab => ?_); (repeat (simp (disch := omega) [h1])); first | (refine dEnd_ro ?_ (hKK _ _ _ ?_); (focus (simp; done)); clear htab tab hKK KK; simp only [thenA, blockA, reduceIte]) | skip)
    | (refine AWP.if_t ?_ ?_; focus (simp (disch := omega) [h1]; done))
    | (refine AWP.if_f ?_ ?_; focus (simp (disch := omega) [h1]; done)))
  refine aStop_of (DrawBuildEnum_c _ _ _ cs (hx'.vw ((Vw.refl _).over (by repeat (first | exact Over.refl _ | exact hov | refine Over.upd ?_ hB (by omega) | refine Over.del ?_ hB (by omega))))) h8 hlen) ?_
  rintro r δ ⟨its, hgt, rfl, rfl⟩
  (repeat (simp (disch := omega) []))
  first | (refine hKK _ _ _ ?_; clear hKK KK; simp only [thenA, blockA, reduceIte]) | skip
  have hl := hgt.len
  have hsz : ∀ t ∈ its, t.1.size ≤ 9223372036854775807 := fun t ht => by have := (hgt.ok t ht).1; omega
  repeat' (first
    | refine AWP.seq ?_
    | refine AWP.block ?_
    | (refine AWP.skip ?_; simp only [thenA, blockA, reduceIte])
    | (refine AWP.exit ?_; simp only [thenA, blockA, eq_self, reduceIte, Nat.reduceEqDiff, Nat.succ_ne_zero])
    | (refine AWP.ret ?_; simp only [thenA, blockA, reduceIte])
    | (refine AWP.region (by rfl) (fun KK hKK => ?_); (repeat (simp (disch := omega) [])); first | (refine hKK _ _ _ ?_; clear hKK KK; simp only [thenA, blockA, reduceIte]) | skip)
    | (refine AWP.draw' mixd (by rfl) (by kernel_rfl) (fun KK tab hKK htab => ?_); (repeat (simp (disch := omega) [])); first | (refine dEnd_ro ?_ (hKK _ _ _ ?_); (focus (simp; done)); clear htab tab hKK KK; simp only [thenA, blockA, reduceIte]) | skip)
    | (refine AWP.if_t ?_ ?_; focus (simp (disch := omega) []; done))
    | (refine AWP.if_f ?_ ?_; focus (simp (disch := omega) []; done)))
  cases hO : blO its with
  | none =>
    repeat' (first
      | refine AWP.seq ?_
      | refine AWP.block ?_
      | (refine AWP.skip ?_; simp only [thenA, blockA, reduceIte])
      | (refine AWP.exit ?_; simp only [thenA, blockA, eq_self, reduceIte, Nat.reduceEqDiff, Nat.succ_ne_zero])
      | (refine AWP.ret ?_; simp only [thenA, blockA, reduceIte])
      | (refine AWP.region (by rfl) (fun KK hKK => ?_); (repeat (simp (disch := omega) [hO, eOut_none, dOut_none])); first | (refine hKK _ _ _ ?_; clear hKK KK; simp only [thenA, blockA, reduceIte]) | skip)
      | (refine AWP.draw' mixd (by rfl) (by kernel_rfl) (fun KK tab hKK htab => ?_); (repeat (simp (disch := omega) [hO, eOut_none, dOut_none])); first | (refine dEnd_ro ?_ (hKK _ _ _ ?_); (focus (simp; done)); clear htab tab hKK KK; simp only [thenA, blockA, reduceIte]) | skip)
      | (refine AWP.if_t ?_ ?_; focus (simp (disch := omega) [hO, eOut_none, dOut_none]; done))
      | (refine AWP.if_f ?_ ?_; focus (simp (disch := omega) [hO, eOut_none, dOut_none]; done)))
    repeat
      first
        | (refine aStop_of (buildEnum_c _ _ _ its (by first | exact (Sl.whole (t := 66) (r := true) (by simp (disch := omega) only [upd_eq, upd_ne, del_ne]) (by simp [rowsT_len])) | exact (Sl.whole (t := 66) (r := true) ((hσ' _ (by simp)).trans (by simp (disch := omega) only [upd_eq, upd_ne, del_ne])) (by simp [rowsT_len]))) (by omega) hsz) ?_; rintro r δ ⟨rfl, rfl⟩)
        | (refine aStop_of (buildEnumS_c _ _ _ its (by first | exact (Sl.whole (t := 66) (r := true) (by simp (disch := omega) only [upd_eq, upd_ne, del_ne]) (by simp [rowsT_len])) | exact (Sl.whole (t := 66) (r := true) ((hσ' _ (by simp)).trans (by simp (disch := omega) only [upd_eq, upd_ne, del_ne])) (by simp [rowsT_len]))) (by omega) hsz) ?_; rintro r δ ⟨rfl, rfl⟩)
        | (refine aStop_of (equalEnum_c _ _ nilA nilA [] [] (Sl.nil _ _ _ _ _) (Sl.nil _ _ _ _ _) (by simp) (by simp)) ?_; rintro r δ ⟨rfl, rfl⟩)
      (repeat (simp (disch := omega) [hO, eOut_none, dOut_none]))
      first | (refine dEnd_ro ?_ (hKK _ _ _ ?_); (focus (simp; done)); clear htab tab hKK KK; simp only [thenA, blockA, reduceIte]) | (refine dEnd_of ?_ (hKK _ _ _ ?_); (focus (simp only [List.reverse_cons, List.reverse_nil, List.nil_append, List.cons_append, memA, mem1, and_true, true_and]; (repeat' apply And.intro); (all_goals (first | trivial | (refine .inr ⟨?_, ?_⟩ <;> (simp; done)) | (refine .inr ⟨?_, ?_⟩ <;> (simp <;> omega)) | (refine .inl ?_; rw [htab]; kernel_rfl))); done)); clear htab tab hKK KK; simp only [thenA, blockA, reduceIte]) | (refine hKK _ _ _ ?_; clear hKK KK; simp only [thenA, blockA, reduceIte]) | skip
      repeat' (first
        | refine AWP.seq ?_
        | refine AWP.block ?_
        | (refine AWP.skip ?_; simp only [thenA, blockA, reduceIte])
        | (refine AWP.exit ?_; simp only [thenA, blockA, eq_self, reduceIte, Nat.reduceEqDiff, Nat.succ_ne_zero])
        | (refine AWP.ret ?_; simp only [thenA, blockA, reduceIte])
        | (refine AWP.region (by rfl) (fun KK hKK => ?_); (repeat (simp (disch := omega) [hO, eOut_none, dOut_none])); first | (refine hKK _ _ _ ?_; clear hKK KK; simp only [thenA, blockA, reduceIte]) | skip)
        | (refine AWP.draw' mixd (by rfl) (by kernel_rfl) (fun KK tab hKK htab => ?_); (repeat (simp (disch := omega) [hO, eOut_none, dOut_none])); first | (refine dEnd_ro ?_ (hKK _ _ _ ?_); (focus (simp; done)); clear htab tab hKK KK; simp only [thenA, blockA, reduceIte]) | skip)
        | (refine AWP.if_t ?_ ?_; focus (simp (disch := omega) [hO, eOut_none, dOut_none]; done))
        | (refine AWP.if_f ?_ ?_; focus (simp (disch := omega) [hO, eOut_none, dOut_none]; done)))
    refine ⟨by simp, _, rfl, fin0 ⟨?_, rfl⟩ (by simp [resO, get, nms, nmss]; try (simp [nms, nmss] at hn; simp_all))⟩
    simp [resO, get, ren, rens]
  | some l =>
    obtain ⟨rfl, h12, hall, hok⟩ := blO_some hO
    have hbl := bdL_len its
    have hds := bdL_sz its hsz
    have hvals := okDs_vals hok
    repeat' (first
      | refine AWP.seq ?_
      | refine AWP.block ?_
      | (refine AWP.skip ?_; simp only [thenA, blockA, reduceIte])
      | (refine AWP.exit ?_; simp only [thenA, blockA, eq_self, reduceIte, Nat.reduceEqDiff, Nat.succ_ne_zero])
      | (refine AWP.ret ?_; simp only [thenA, blockA, reduceIte])
      | (refine AWP.region (by rfl) (fun KK hKK => ?_); (repeat (simp (disch := omega) [hO, eOut_some, dOut_some])); first | (refine hKK _ _ _ ?_; clear hKK KK; simp only [thenA, blockA, reduceIte]) | skip)
      | (refine AWP.draw' mixd (by rfl) (by kernel_rfl) (fun KK tab hKK htab => ?_); (repeat (simp (disch := omega) [hO, eOut_some, dOut_some])); first | (refine dEnd_ro ?_ (hKK _ _ _ ?_); (focus (simp; done)); clear htab tab hKK KK; simp only [thenA, blockA, reduceIte]) | skip)
      | (refine AWP.if_t ?_ ?_; focus (simp (disch := omega) [hO, eOut_some, dOut_some]; done))
      | (refine AWP.if_f ?_ ?_; focus (simp (disch := omega) [hO, eOut_some, dOut_some]; done)))
    repeat
      first
        | (refine aStop_of (buildEnum_c _ _ _ its (by first | exact (Sl.whole (t := 66) (r := true) (by simp (disch := omega) only [upd_eq, upd_ne, del_ne]) (by simp [rowsT_len])) | exact (Sl.whole (t := 66) (r := true) ((hσ' _ (by simp)).trans (by simp (disch := omega) only [upd_eq, upd_ne, del_ne])) (by simp [rowsT_len]))) (by omega) hsz) ?_; rintro r δ ⟨rfl, rfl⟩)
        | (refine aStop_of (buildEnumS_c _ _ _ its (by first | exact (Sl.whole (t := 66) (r := true) (by simp (disch := omega) only [upd_eq, upd_ne, del_ne]) (by simp [rowsT_len])) | exact (Sl.whole (t := 66) (r := true) ((hσ' _ (by simp)).trans (by simp (disch := omega) only [upd_eq, upd_ne, del_ne])) (by simp [rowsT_len]))) (by omega) hsz) ?_; rintro r δ ⟨rfl, rfl⟩)
        | (refine aStop_of (equalEnum_c _ _ _ _ (bdL its) (bdL its) (by first | exact (Sl.whole (t := 33) (r := true) (by simp (disch := omega) only [upd_eq, upd_ne, del_ne]) (by simp [rowsD_len])) | exact (Sl.whole (t := 33) (r := true) ((hσ' _ (by simp)).trans (by simp (disch := omega) only [upd_eq, upd_ne, del_ne])) (by simp [rowsD_len]))) (by first | exact (Sl.whole (t := 33) (r := true) (by simp (disch := omega) only [upd_eq, upd_ne, del_ne]) (by simp [rowsD_len])) | exact (Sl.whole (t := 33) (r := true) ((hσ' _ (by simp)).trans (by simp (disch := omega) only [upd_eq, upd_ne, del_ne])) (by simp [rowsD_len]))) (by omega) (by omega)) ?_; rintro r δ ⟨rfl, rfl⟩)
      (repeat (simp (disch := omega) [hO, eOut_some, dOut_some]))
      first | (refine dEnd_ro ?_ (hKK _ _ _ ?_); (focus (simp; done)); clear htab tab hKK KK; simp only [thenA, blockA, reduceIte]) | (refine dEnd_of ?_ (hKK _ _ _ ?_); (focus (simp only [List.reverse_cons, List.reverse_nil, List.nil_append, List.cons_append, memA, mem1, and_true, true_and]; (repeat' apply And.intro); (all_goals (first | trivial | (refine .inr ⟨?_, ?_⟩ <;> (simp; done)) | (refine .inr ⟨?_, ?_⟩ <;> (simp <;> omega)) | (refine .inl ?_; rw [htab]; kernel_rfl))); done)); clear htab tab hKK KK; simp only [thenA, blockA, reduceIte]) | (refine hKK _ _ _ ?_; clear hKK KK; simp only [thenA, blockA, reduceIte]) | skip
      repeat' (first
        | refine AWP.seq ?_
        | refine AWP.block ?_
        | (refine AWP.skip ?_; simp only [thenA, blockA, reduceIte])
        | (refine AWP.exit ?_; simp only [thenA, blockA, eq_self, reduceIte, Nat.reduceEqDiff, Nat.succ_ne_zero])
        | (refine AWP.ret ?_; simp only [thenA, blockA, reduceIte])
        | (refine AWP.region (by rfl) (fun KK hKK => ?_); (repeat (simp (disch := omega) [hO, eOut_some, dOut_some])); first | (refine hKK _ _ _ ?_; clear hKK KK; simp only [thenA, blockA, reduceIte]) | skip)
        | (refine AWP.draw' mixd (by rfl) (by kernel_rfl) (fun KK tab hKK htab => ?_); (repeat (simp (disch := omega) [hO, eOut_some, dOut_some])); first | (refine dEnd_ro ?_ (hKK _ _ _ ?_); (focus (simp; done)); clear htab tab hKK KK; simp only [thenA, blockA, reduceIte]) | skip)
        | (refine AWP.if_t ?_ ?_; focus (simp (disch := omega) [hO, eOut_some, dOut_some]; done))
        | (refine AWP.if_f ?_ ?_; focus (simp (disch := omega) [hO, eOut_some, dOut_some]; done)))
    refine AWP.loop (fun n τ τ2 M => ∃ k : Nat, k ≤ its.length ∧ n = its.length - k ∧ τ = [(3, .sl K 0 its.length none 3), (4, .ptr (K + 2 + 2) 0 0), (8, .v (.int .i64 k))] ∧ τ2 K = some (blkT its) ∧ τ2 (K + 2) = some (blkD (bdL its)) ∧ τ2 (K + 2 + 2) = some (blkE (.sl (K + 2) 0 (bdL its).length (some (bdL its).length) 2)) ∧ K + 2 + 2 < M)
      ⟨_, _, _, _, ⟨0, by omega, rfl, rfl, by simp (disch := omega) only [upd_eq, upd_ne], by simp (disch := omega) only [upd_eq, upd_ne], by simp (disch := omega) only [upd_eq, upd_ne], by omega⟩, Weak.tau (by simp [LQ])⟩ ?_
    rintro n τ σ2 M ⟨k, hk, rfl, rfl, hb0, hb1, hb2, hM⟩
    by_cases hlt : k < its.length
    · have hlt3 : k < (bdL its).length := by omega
      have hrT := rowsT_at its k hlt
      have hrD := rowsD_at (bdL its) k (by omega)
      rw [bdL_at hlt] at hrD
      have hbt : ∀ d ∈ bdL (its.take k), -1000 ≤ d.2 ∧ d.2 ≤ 1000 := fun d hd => by
        rw [← bdL_tk its k hk] at hd
        exact hvals d (List.mem_of_mem_take hd)
      have hnx := nxV_eq (fun d hd => by have := hbt d hd; omega : ∀ d ∈ bdL (its.take k), -1000000 ≤ d.2 ∧ d.2 ≤ 1000000)
      cases ha : its[k].2.1 with
      | true =>
        rw [if_pos ha, hnx] at hrD
        repeat' (first
          | refine AWP.seq ?_
          | refine AWP.block ?_
          | (refine AWP.skip ?_; simp only [thenA, blockA, reduceIte])
          | (refine AWP.exit ?_; simp only [thenA, blockA, eq_self, reduceIte, Nat.reduceEqDiff, Nat.succ_ne_zero])
          | (refine AWP.ret ?_; simp only [thenA, blockA, reduceIte])
          | (refine AWP.region (by rfl) (fun KK hKK => ?_); (repeat (simp (disch := omega) [hlt, hlt3, hb0, hb1, hb2, hrT, hrD, ha])); first | (refine hKK _ _ _ ?_; clear hKK KK; simp only [thenA, blockA, reduceIte]) | skip)
          | (refine AWP.draw' mixd (by rfl) (by kernel_rfl) (fun KK tab hKK htab => ?_); (repeat (simp (disch := omega) [hlt, hlt3, hb0, hb1, hb2, hrT, hrD, ha])); first | (refine dEnd_ro ?_ (hKK _ _ _ ?_); (focus (simp; done)); clear htab tab hKK KK; simp only [thenA, blockA, reduceIte]) | skip)
          | (refine AWP.if_t ?_ ?_; focus (simp (disch := omega) [hlt, hlt3, hb0, hb1, hb2, hrT, hrD, ha]; done))
          | (refine AWP.if_f ?_ ?_; focus (simp (disch := omega) [hlt, hlt3, hb0, hb1, hb2, hrT, hrD, ha]; done)))
        refine AWP.loop (fun n τ τ3 M1 => ∃ i : Nat, i ≤ k ∧ n = k - i ∧ τ = [(3, .sl K 0 its.length none 3), (4, .ptr (K + 2 + 2) 0 0), (8, .v (.int .i64 k)), (9, .ptr M 0 0), (10, .v (.int .i64 i))] ∧ τ3 K = some (blkT its) ∧ τ3 (K + 2) = some (blkD (bdL its)) ∧ τ3 (K + 2 + 2) = some (blkE (.sl (K + 2) 0 (bdL its).length (some (bdL its).length) 2)) ∧ τ3 M = some ⟨33, 2, [[.v (.string its[k].1), .v (.int .i64 (grV (bdL (its.take k)) 0 + 1))]], true⟩ ∧ M < M1)
          ⟨_, _, _, _, ⟨0, by omega, rfl, rfl, by simp (disch := omega) only [upd_eq, upd_ne, hb0], by simp (disch := omega) only [upd_eq, upd_ne, hb1], by simp (disch := omega) only [upd_eq, upd_ne, hb2], by simp (disch := omega) only [upd_eq, upd_ne], by omega⟩, Weak.tau (by simp [LQ])⟩ ?_
        rintro n τ σ3 M1 ⟨i, hi, rfl, rfl, hc0, hc1, hc2, hc3, hM1⟩
        by_cases hik : i < k
        · have hil : i < (bdL its).length := by omega
          have hrI := rowsD_at (bdL its) i hil
          have hmem : (bdL its)[i] ∈ bdL (its.take k) := by
            rw [← bdL_tk its k hk]
            exact List.mem_take_iff_getElem.2 ⟨i, by omega, rfl⟩
          have hge := grV_ge hmem
          have hq : ¬ grV (bdL (its.take k)) 0 + 1 ≤ (bdL its)[i].2 := by omega
          have hil2 : i < its.length := by omega
          repeat' (first
            | refine AWP.seq ?_
            | refine AWP.block ?_
            | (refine AWP.skip ?_; simp only [thenA, blockA, reduceIte])
            | (refine AWP.exit ?_; simp only [thenA, blockA, eq_self, reduceIte, Nat.reduceEqDiff, Nat.succ_ne_zero])
            | (refine AWP.ret ?_; simp only [thenA, blockA, reduceIte])
            | (refine AWP.region (by rfl) (fun KK hKK => ?_); (repeat (simp (disch := omega) [hik, hil, hil2, hlt, hc0, hc1, hc2, hc3, hrT, ha, hrI, hq])); first | (refine hKK _ _ _ ?_; clear hKK KK; simp only [thenA, blockA, reduceIte]) | skip)
            | (refine AWP.draw' mixd (by rfl) (by kernel_rfl) (fun KK tab hKK htab => ?_); (repeat (simp (disch := omega) [hik, hil, hil2, hlt, hc0, hc1, hc2, hc3, hrT, ha, hrI, hq])); first | (refine dEnd_ro ?_ (hKK _ _ _ ?_); (focus (simp; done)); clear htab tab hKK KK; simp only [thenA, blockA, reduceIte]) | skip)
            | (refine AWP.if_t ?_ ?_; focus (simp (disch := omega) [hik, hil, hil2, hlt, hc0, hc1, hc2, hc3, hrT, ha, hrI, hq]; done))
            | (refine AWP.if_f ?_ ?_; focus (simp (disch := omega) [hik, hil, hil2, hlt, hc0, hc1, hc2, hc3, hrT, ha, hrI, hq]; done)))
          refine ⟨_, _, _, _, ?_, ⟨i + 1, by omega, rfl, rfl, hc0, hc1, hc2, hc3, by omega⟩, Weak.tau (by simp [LQ])⟩
          omega
        · repeat' (first
            | refine AWP.seq ?_
            | refine AWP.block ?_
            | (refine AWP.skip ?_; simp only [thenA, blockA, reduceIte])
            | (refine AWP.exit ?_; simp only [thenA, blockA, eq_self, reduceIte, Nat.reduceEqDiff, Nat.succ_ne_zero])
            | (refine AWP.ret ?_; simp only [thenA, blockA, reduceIte])
            | (refine AWP.region (by rfl) (fun KK hKK => ?_); (repeat (simp (disch := omega) [hik])); first | (refine hKK _ _ _ ?_; clear hKK KK; simp only [thenA, blockA, reduceIte]) | skip)
            | (refine AWP.draw' mixd (by rfl) (by kernel_rfl) (fun KK tab hKK htab => ?_); (repeat (simp (disch := omega) [hik])); first | (refine dEnd_ro ?_ (hKK _ _ _ ?_); (focus (simp; done)); clear htab tab hKK KK; simp only [thenA, blockA, reduceIte]) | skip)
            | (refine AWP.if_t ?_ ?_; focus (simp (disch := omega) [hik]; done))
            | (refine AWP.if_f ?_ ?_; focus (simp (disch := omega) [hik]; done)))
          refine ⟨_, _, _, _, ?_, ⟨k + 1, by omega, rfl, rfl, hc0, hc1, hc2, by omega⟩, Weak.tau (by simp [LQ])⟩
          omega
      | false =>
        rw [if_neg (by rw [ha]; simp)] at hrD
        repeat' (first
          | refine AWP.seq ?_
          | refine AWP.block ?_
          | (refine AWP.skip ?_; simp only [thenA, blockA, reduceIte])
          | (refine AWP.exit ?_; simp only [thenA, blockA, eq_self, reduceIte, Nat.reduceEqDiff, Nat.succ_ne_zero])
          | (refine AWP.ret ?_; simp only [thenA, blockA, reduceIte])
          | (refine AWP.region (by rfl) (fun KK hKK => ?_); (repeat (simp (disch := omega) [hlt, hlt3, hb0, hb1, hb2, hrT, hrD, ha])); first | (refine hKK _ _ _ ?_; clear hKK KK; simp only [thenA, blockA, reduceIte]) | skip)
          | (refine AWP.draw' mixd (by rfl) (by kernel_rfl) (fun KK tab hKK htab => ?_); (repeat (simp (disch := omega) [hlt, hlt3, hb0, hb1, hb2, hrT, hrD, ha])); first | (refine dEnd_ro ?_ (hKK _ _ _ ?_); (focus (simp; done)); clear htab tab hKK KK; simp only [thenA, blockA, reduceIte]) | skip)
          | (refine AWP.if_t ?_ ?_; focus (simp (disch := omega) [hlt, hlt3, hb0, hb1, hb2, hrT, hrD, ha]; done))
          | (refine AWP.if_f ?_ ?_; focus (simp (disch := omega) [hlt, hlt3, hb0, hb1, hb2, hrT, hrD, ha]; done)))
        refine AWP.loop (fun n τ τ3 M1 => n = 0 ∧ τ = [(3, .sl K 0 its.length none 3), (4, .ptr (K + 2 + 2) 0 0), (8, .v (.int .i64 k)), (10, .v (.int .i64 0))] ∧ τ3 K = some (blkT its) ∧ τ3 (K + 2) = some (blkD (bdL its)) ∧ τ3 (K + 2 + 2) = some (blkE (.sl (K + 2) 0 (bdL its).length (some (bdL its).length) 2)) ∧ M < M1)
          ⟨_, _, _, _, ⟨rfl, rfl, by simp (disch := omega) only [upd_eq, upd_ne, hb0], by simp (disch := omega) only [upd_eq, upd_ne, hb1], by simp (disch := omega) only [upd_eq, upd_ne, hb2], by omega⟩, Weak.tau (by simp [LQ])⟩ ?_
        rintro n τ σ3 M1 ⟨rfl, rfl, hc0, hc1, hc2, hM1⟩
        by_cases hk0 : 0 < k
        · repeat' (first
            | refine AWP.seq ?_
            | refine AWP.block ?_
            | (refine AWP.skip ?_; simp only [thenA, blockA, reduceIte])
            | (refine AWP.exit ?_; simp only [thenA, blockA, eq_self, reduceIte, Nat.reduceEqDiff, Nat.succ_ne_zero])
            | (refine AWP.ret ?_; simp only [thenA, blockA, reduceIte])
            | (refine AWP.region (by rfl) (fun KK hKK => ?_); (repeat (simp (disch := omega) [hk0, hlt, hc0, hrT, ha])); first | (refine hKK _ _ _ ?_; clear hKK KK; simp only [thenA, blockA, reduceIte]) | skip)
            | (refine AWP.draw' mixd (by rfl) (by kernel_rfl) (fun KK tab hKK htab => ?_); (repeat (simp (disch := omega) [hk0, hlt, hc0, hrT, ha])); first | (refine dEnd_ro ?_ (hKK _ _ _ ?_); (focus (simp; done)); clear htab tab hKK KK; simp only [thenA, blockA, reduceIte]) | skip)
            | (refine AWP.if_t ?_ ?_; focus (simp (disch := omega) [hk0, hlt, hc0, hrT, ha]; done))
            | (refine AWP.if_f ?_ ?_; focus (simp (disch := omega) [hk0, hlt, hc0, hrT, ha]; done)))
          refine ⟨_, _, _, _, ?_, ⟨k + 1, by omega, rfl, rfl, hc0, hc1, hc2, by omega⟩, Weak.tau (by simp [LQ])⟩
          omega
        · repeat' (first
            | refine AWP.seq ?_
            | refine AWP.block ?_
            | (refine AWP.skip ?_; simp only [thenA, blockA, reduceIte])
            | (refine AWP.exit ?_; simp only [thenA, blockA, eq_self, reduceIte, Nat.reduceEqDiff, Nat.succ_ne_zero])
            | (refine AWP.ret ?_; simp only [thenA, blockA, reduceIte])
            | (refine AWP.region (by rfl) (fun KK hKK => ?_); (repeat (simp (disch := omega) [hk0])); first | (refine hKK _ _ _ ?_; clear hKK KK; simp only [thenA, blockA, reduceIte]) | skip)
            | (refine AWP.draw' mixd (by rfl) (by kernel_rfl) (fun KK tab hKK htab => ?_); (repeat (simp (disch := omega) [hk0])); first | (refine dEnd_ro ?_ (hKK _ _ _ ?_); (focus (simp; done)); clear htab tab hKK KK; simp only [thenA, blockA, reduceIte]) | skip)
            | (refine AWP.if_t ?_ ?_; focus (simp (disch := omega) [hk0]; done))
            | (refine AWP.if_f ?_ ?_; focus (simp (disch := omega) [hk0]; done)))
          refine ⟨_, _, _, _, ?_, ⟨k + 1, by omega, rfl, rfl, hc0, hc1, hc2, by omega⟩, Weak.tau (by simp [LQ])⟩
          omega
    · repeat' (first
        | refine AWP.seq ?_
        | refine AWP.block ?_
        | (refine AWP.skip ?_; simp only [thenA, blockA, reduceIte])
        | (refine AWP.exit ?_; simp only [thenA, blockA, eq_self, reduceIte, Nat.reduceEqDiff, Nat.succ_ne_zero])
        | (refine AWP.ret ?_; simp only [thenA, blockA, reduceIte])
        | (refine AWP.region (by rfl) (fun KK hKK => ?_); (repeat (simp (disch := omega) [hlt, hb2])); first | (refine hKK _ _ _ ?_; clear hKK KK; simp only [thenA, blockA, reduceIte]) | skip)
        | (refine AWP.draw' mixd (by rfl) (by kernel_rfl) (fun KK tab hKK htab => ?_); (repeat (simp (disch := omega) [hlt, hb2])); first | (refine dEnd_ro ?_ (hKK _ _ _ ?_); (focus (simp; done)); clear htab tab hKK KK; simp only [thenA, blockA, reduceIte]) | skip)
        | (refine AWP.if_t ?_ ?_; focus (simp (disch := omega) [hlt, hb2]; done))
        | (refine AWP.if_f ?_ ?_; focus (simp (disch := omega) [hlt, hb2]; done)))
      refine aStop_of (validEnum_c _ _ _ (bdL its) (Sl.whole (t := 33) (r := true) (by simp (disch := omega) only [upd_eq, upd_ne, del_ne, hb1]) (by simp [rowsD_len])) (by omega) hds) ?_
      rintro r δ ⟨rfl, rfl⟩
      (repeat (simp (disch := omega) [hok, hb2, hbl]))
      first | (refine hKK _ _ _ ?_; clear hKK KK; simp only [thenA, blockA, reduceIte]) | skip
      repeat' (first
        | refine AWP.seq ?_
        | refine AWP.block ?_
        | (refine AWP.skip ?_; simp only [thenA, blockA, reduceIte])
        | (refine AWP.exit ?_; simp only [thenA, blockA, eq_self, reduceIte, Nat.reduceEqDiff, Nat.succ_ne_zero])
        | (refine AWP.ret ?_; simp only [thenA, blockA, reduceIte])
        | (refine AWP.region (by rfl) (fun KK hKK => ?_); (repeat (simp (disch := omega) [hb2, hbl])); first | (refine hKK _ _ _ ?_; clear hKK KK; simp only [thenA, blockA, reduceIte]) | skip)
        | (refine AWP.draw' mixd (by rfl) (by kernel_rfl) (fun KK tab hKK htab => ?_); (repeat (simp (disch := omega) [hb2, hbl])); first | (refine dEnd_ro ?_ (hKK _ _ _ ?_); (focus (simp; done)); clear htab tab hKK KK; simp only [thenA, blockA, reduceIte]) | skip)
        | (refine AWP.if_t ?_ ?_; focus (simp (disch := omega) [hb2, hbl]; done))
        | (refine AWP.if_f ?_ ?_; focus (simp (disch := omega) [hb2, hbl]; done)))
      refine ⟨by simp, _, rfl, fin0 ⟨?_, rfl⟩ (by simp [resO, get, nms, nmss]; try (simp [nms, nmss] at hn; simp_all))⟩
      simp [resO, get, ren, rens]

def reI (ds : List Df) : List It := ds.map fun d => (d.1, false, d.2)
theorem reI_len (ds : List Df) : (reI ds).length = ds.length := by simp [reI]
theorem reI_take {ds : List Df} {k : Nat} (h : k < ds.length) : reI (ds.take (k + 1)) = reI (ds.take k) ++ [(ds[k].1, false, ds[k].2)] := by
  rw [List.take_succ_eq_append_getElem h]
  unfold reI
  rw [List.map_append]
  rfl
theorem bdL_reI (ds : List Df) : bdL (reI ds) = ds := by
  induction ds using rev_ind with
  | nil => rfl
  | snoc l d ih =>
    have e : reI (l ++ [d]) = reI l ++ [(d.1, false, d.2)] := by simp [reI]
    rw [e, bdL_snoc, ih]
    simp
theorem blO_reI {ds : List Df} (h : okDs (-1000) 1000 ds = true) : blO (reI ds) = some ds := by
  have := okDs_len h
  unfold blO
  rw [bdL_reI, if_pos ⟨by rw [reI_len]; omega, by simp [reI, itOk], h⟩]
theorem reI_sz {ds : List Df} (h : ∀ d ∈ ds, d.1.size ≤ 9223372036854775807) : ∀ t ∈ reI ds, t.1.size ≤ 9223372036854775807 := fun t ht => by
  obtain ⟨d, hd, rfl⟩ := List.mem_map.1 ht
  exact h d hd

set_option maxRecDepth 10000 in
set_option maxHeartbeats 4000000 in
theorem buildAgain_law_c (σ : Sto) (ν : Nat) (x : AV) (cs : List Int) (hx : Sl σ x 1 (rowsB cs)) (hlen : cs.length ≤ 9223372036854775807) (h8 : ∀ y ∈ cs, 0 ≤ y ∧ y ≤ 255) :
    AC Try.prog 10 [x] σ ν fun r δ => r = .v (.bool true) ∧ δ = noS := by
  obtain ⟨b, o, cap, z, rfl⟩ := hx.out
  simp only [rowsB_len] at hx ⊢
  refine AC.intro [] ent_10 Try.func10 rfl (by simp [Try.f10]) (by simp) ?_
  intro K s hs hB hn hν hA hFr
  simp only [argT, Nat.zero_add, Nat.reduceAdd]
  have hx' := hx.vw hs.vw
  by_cases h1 : (1048576 : Int) < cs.length
  · repeat' (first
      | refine AWP.seq ?_
      | refine AWP.block ?_
      | (refine AWP.skip ?_; simp only [thenA, blockA, reduceIte])
      | (refine AWP.exit ?_; simp only [thenA, blockA, eq_self, reduceIte, Nat.reduceEqDiff, Nat.succ_ne_zero])
      | (refine AWP.ret ?_; simp only [thenA, blockA, reduceIte])
      | (refine AWP.region (by rfl) (fun KK hKK => ?_); (repeat (simp (disch := omega) [h1])); first | (refine hKK _ _ _ ?_; clear hKK KK; simp only [thenA, blockA, reduceIte]) | skip)
      | (refine AWP.draw' mixd (by rfl) (by kernel_rfl) (fun KK tab hKK htab => ?_); (repeat (simp (disch := omega) [h1])); first | (refine dEnd_ro ?_ (hKK _ _ _ ?_); (focus (simp; done)); clear htab tab hKK KK; simp only [thenA, blockA, reduceIte]) | (refine dEnd_of ?_ (hKK _ _ _ ?_); (focus (simp only [List.reverse_cons, List.reverse_nil, List.nil_append, List.cons_append, memA, mem1, and_true, true_and]; (repeat' apply And.intro); (all_goals (first | trivial | (refine .inr ⟨?_, ?_⟩ <;> (simp; done)) | (refine .inr ⟨?_, ?_⟩ <;> (simp <;> omega)) | (refine .inl ?_; rw [htab]; kernel_rfl))); done)); clear htab tab hKK KK; simp only [thenA, blockA, reduceIte]) | skip)
      | (refine AWP.if_t ?_ ?_; focus (simp (disch := omega) [h1]; done))
      | (refine AWP.if_f ?_ ?_; focus (simp (disch := omega) [h1]; done)))
    refine ⟨by simp, _, rfl, fin0 ⟨?_, rfl⟩ (by simp [resO, get, nms, nmss]; try (simp [nms, nmss] at hn; simp_all))⟩
    simp [resO, get, ren, rens]
  repeat' (first
    | refine AWP.seq ?_
    | refine AWP.block ?_
    | (refine AWP.skip ?_; simp only [thenA, blockA, reduceIte])
    | (refine AWP.exit ?_; simp only [thenA, blockA, eq_self, reduceIte, Nat.reduceEqDiff, Nat.succ_ne_zero])
    | (refine AWP.ret ?_; simp only [thenA, blockA, reduceIte])
    | (refine AWP.region (by rfl) (fun KK hKK => ?_); (repeat (simp (disch := omega) [h1])); first | (refine hKK _ _ _ ?_; clear hKK KK; simp only [thenA, blockA, reduceIte]) | skip)
    | (refine AWP.draw' mixd (by rfl) (by kernel_rfl) (fun KK tab hKK htab => ?_); (repeat (simp (disch := omega) [h1])); first | (refine dEnd_ro ?_ (hKK _ _ _ ?_); (focus (simp; done)); clear htab tab hKK KK; simp only [thenA, blockA, reduceIte]) | (refine dEnd_of ?_ (hKK _ _ _ ?_); (focus (simp only [List.reverse_cons, List.reverse_nil, List.nil_append, List.cons_append, memA, mem1, and_true, true_and]; (repeat' apply And.intro); (all_goals (first | trivial | (refine .inr ⟨?_, ?_⟩ <;> (simp; done)) | (refine .inr ⟨?_, ?_⟩ <;> (simp <;> omega)) | (refine .inl ?_; rw [htab]; kernel_rfl))); done)); clear htab tab hKK KK; simp only [thenA, blockA, reduceIte]) | skip)
    | (refine AWP.if_t ?_ ?_; focus (simp (disch := omega) [h1]; done))
    | (refine AWP.if_f ?_ ?_; focus (simp (disch := omega) [h1]; done)))
  refine aStop_of (DrawBuildEnum_c _ _ _ cs (hx'.vw ((Vw.refl _).over (by repeat (first | exact Over.refl _ | exact hov | refine Over.upd ?_ hB (by omega) | refine Over.del ?_ hB (by omega))))) h8 hlen) ?_
  rintro r δ ⟨its, hgt, rfl, rfl⟩
  (repeat (simp (disch := omega) []))
  first | (refine hKK _ _ _ ?_; clear hKK KK; simp only [thenA, blockA, reduceIte]) | skip
  have hl := hgt.len
  have hsz : ∀ t ∈ its, t.1.size ≤ 9223372036854775807 := fun t ht => by have := (hgt.ok t ht).1; omega
  repeat' (first
    | refine AWP.seq ?_
    | refine AWP.block ?_
    | (refine AWP.skip ?_; simp only [thenA, blockA, reduceIte])
    | (refine AWP.exit ?_; simp only [thenA, blockA, eq_self, reduceIte, Nat.reduceEqDiff, Nat.succ_ne_zero])
    | (refine AWP.ret ?_; simp only [thenA, blockA, reduceIte])
    | (refine AWP.region (by rfl) (fun KK hKK => ?_); (repeat (simp (disch := omega) [])); first | (refine hKK _ _ _ ?_; clear hKK KK; simp only [thenA, blockA, reduceIte]) | skip)
    | (refine AWP.draw' mixd (by rfl) (by kernel_rfl) (fun KK tab hKK htab => ?_); (repeat (simp (disch := omega) [])); first | (refine dEnd_ro ?_ (hKK _ _ _ ?_); (focus (simp; done)); clear htab tab hKK KK; simp only [thenA, blockA, reduceIte]) | (refine dEnd_of ?_ (hKK _ _ _ ?_); (focus (simp only [List.reverse_cons, List.reverse_nil, List.nil_append, List.cons_append, memA, mem1, and_true, true_and]; (repeat' apply And.intro); (all_goals (first | trivial | (refine .inr ⟨?_, ?_⟩ <;> (simp; done)) | (refine .inr ⟨?_, ?_⟩ <;> (simp <;> omega)) | (refine .inl ?_; rw [htab]; kernel_rfl))); done)); clear htab tab hKK KK; simp only [thenA, blockA, reduceIte]) | skip)
    | (refine AWP.if_t ?_ ?_; focus (simp (disch := omega) []; done))
    | (refine AWP.if_f ?_ ?_; focus (simp (disch := omega) []; done)))
  cases hO : blO its with
  | none =>
    repeat' (first
      | refine AWP.seq ?_
      | refine AWP.block ?_
      | (refine AWP.skip ?_; simp only [thenA, blockA, reduceIte])
      | (refine AWP.exit ?_; simp only [thenA, blockA, eq_self, reduceIte, Nat.reduceEqDiff, Nat.succ_ne_zero])
      | (refine AWP.ret ?_; simp only [thenA, blockA, reduceIte])
      | (refine AWP.region (by rfl) (fun KK hKK => ?_); (repeat (simp (disch := omega) [hO, eOut_none, dOut_none])); first | (refine hKK _ _ _ ?_; clear hKK KK; simp only [thenA, blockA, reduceIte]) | skip)
      | (refine AWP.draw' mixd (by rfl) (by kernel_rfl) (fun KK tab hKK htab => ?_); (repeat (simp (disch := omega) [hO, eOut_none, dOut_none])); first | (refine dEnd_ro ?_ (hKK _ _ _ ?_); (focus (simp; done)); clear htab tab hKK KK; simp only [thenA, blockA, reduceIte]) | (refine dEnd_of ?_ (hKK _ _ _ ?_); (focus (simp only [List.reverse_cons, List.reverse_nil, List.nil_append, List.cons_append, memA, mem1, and_true, true_and]; (repeat' apply And.intro); (all_goals (first | trivial | (refine .inr ⟨?_, ?_⟩ <;> (simp; done)) | (refine .inr ⟨?_, ?_⟩ <;> (simp <;> omega)) | (refine .inl ?_; rw [htab]; kernel_rfl))); done)); clear htab tab hKK KK; simp only [thenA, blockA, reduceIte]) | skip)
      | (refine AWP.if_t ?_ ?_; focus (simp (disch := omega) [hO, eOut_none, dOut_none]; done))
      | (refine AWP.if_f ?_ ?_; focus (simp (disch := omega) [hO, eOut_none, dOut_none]; done)))
    repeat
      first
        | (refine aStop_of (buildEnum_c _ _ _ its (by first | exact (Sl.whole (t := 66) (r := true) (by simp (disch := omega) only [upd_eq, upd_ne, del_ne]) (by simp [rowsT_len])) | exact (Sl.whole (t := 66) (r := true) ((hσ' _ (by simp)).trans (by simp (disch := omega) only [upd_eq, upd_ne, del_ne])) (by simp [rowsT_len]))) (by omega) hsz) ?_; rintro r δ ⟨rfl, rfl⟩)
        | (refine aStop_of (buildEnumS_c _ _ _ its (by first | exact (Sl.whole (t := 66) (r := true) (by simp (disch := omega) only [upd_eq, upd_ne, del_ne]) (by simp [rowsT_len])) | exact (Sl.whole (t := 66) (r := true) ((hσ' _ (by simp)).trans (by simp (disch := omega) only [upd_eq, upd_ne, del_ne])) (by simp [rowsT_len]))) (by omega) hsz) ?_; rintro r δ ⟨rfl, rfl⟩)
        | (refine aStop_of (equalEnum_c _ _ nilA nilA [] [] (Sl.nil _ _ _ _ _) (Sl.nil _ _ _ _ _) (by simp) (by simp)) ?_; rintro r δ ⟨rfl, rfl⟩)
      (repeat (simp (disch := omega) [hO, eOut_none, dOut_none]))
      first | (refine dEnd_ro ?_ (hKK _ _ _ ?_); (focus (simp; done)); clear htab tab hKK KK; simp only [thenA, blockA, reduceIte]) | (refine dEnd_of ?_ (hKK _ _ _ ?_); (focus (simp only [List.reverse_cons, List.reverse_nil, List.nil_append, List.cons_append, memA, mem1, and_true, true_and]; (repeat' apply And.intro); (all_goals (first | trivial | (refine .inr ⟨?_, ?_⟩ <;> (simp; done)) | (refine .inr ⟨?_, ?_⟩ <;> (simp <;> omega)) | (refine .inl ?_; rw [htab]; kernel_rfl))); done)); clear htab tab hKK KK; simp only [thenA, blockA, reduceIte]) | (refine hKK _ _ _ ?_; clear hKK KK; simp only [thenA, blockA, reduceIte]) | skip
      repeat' (first
        | refine AWP.seq ?_
        | refine AWP.block ?_
        | (refine AWP.skip ?_; simp only [thenA, blockA, reduceIte])
        | (refine AWP.exit ?_; simp only [thenA, blockA, eq_self, reduceIte, Nat.reduceEqDiff, Nat.succ_ne_zero])
        | (refine AWP.ret ?_; simp only [thenA, blockA, reduceIte])
        | (refine AWP.region (by rfl) (fun KK hKK => ?_); (repeat (simp (disch := omega) [hO, eOut_none, dOut_none])); first | (refine hKK _ _ _ ?_; clear hKK KK; simp only [thenA, blockA, reduceIte]) | skip)
        | (refine AWP.draw' mixd (by rfl) (by kernel_rfl) (fun KK tab hKK htab => ?_); (repeat (simp (disch := omega) [hO, eOut_none, dOut_none])); first | (refine dEnd_ro ?_ (hKK _ _ _ ?_); (focus (simp; done)); clear htab tab hKK KK; simp only [thenA, blockA, reduceIte]) | (refine dEnd_of ?_ (hKK _ _ _ ?_); (focus (simp only [List.reverse_cons, List.reverse_nil, List.nil_append, List.cons_append, memA, mem1, and_true, true_and]; (repeat' apply And.intro); (all_goals (first | trivial | (refine .inr ⟨?_, ?_⟩ <;> (simp; done)) | (refine .inr ⟨?_, ?_⟩ <;> (simp <;> omega)) | (refine .inl ?_; rw [htab]; kernel_rfl))); done)); clear htab tab hKK KK; simp only [thenA, blockA, reduceIte]) | skip)
        | (refine AWP.if_t ?_ ?_; focus (simp (disch := omega) [hO, eOut_none, dOut_none]; done))
        | (refine AWP.if_f ?_ ?_; focus (simp (disch := omega) [hO, eOut_none, dOut_none]; done)))
    refine ⟨by simp, _, rfl, fin0 ⟨?_, rfl⟩ (by simp [resO, get, nms, nmss]; try (simp [nms, nmss] at hn; simp_all))⟩
    simp [resO, get, ren, rens]
  | some l =>
    obtain ⟨rfl, h12, hall, hok⟩ := blO_some hO
    have hbl := bdL_len its
    have hds := bdL_sz its hsz
    repeat' (first
      | refine AWP.seq ?_
      | refine AWP.block ?_
      | (refine AWP.skip ?_; simp only [thenA, blockA, reduceIte])
      | (refine AWP.exit ?_; simp only [thenA, blockA, eq_self, reduceIte, Nat.reduceEqDiff, Nat.succ_ne_zero])
      | (refine AWP.ret ?_; simp only [thenA, blockA, reduceIte])
      | (refine AWP.region (by rfl) (fun KK hKK => ?_); (repeat (simp (disch := omega) [hO, eOut_some, dOut_some])); first | (refine hKK _ _ _ ?_; clear hKK KK; simp only [thenA, blockA, reduceIte]) | skip)
      | (refine AWP.draw' mixd (by rfl) (by kernel_rfl) (fun KK tab hKK htab => ?_); (repeat (simp (disch := omega) [hO, eOut_some, dOut_some])); first | (refine dEnd_ro ?_ (hKK _ _ _ ?_); (focus (simp; done)); clear htab tab hKK KK; simp only [thenA, blockA, reduceIte]) | (refine dEnd_of ?_ (hKK _ _ _ ?_); (focus (simp only [List.reverse_cons, List.reverse_nil, List.nil_append, List.cons_append, memA, mem1, and_true, true_and]; (repeat' apply And.intro); (all_goals (first | trivial | (refine .inr ⟨?_, ?_⟩ <;> (simp; done)) | (refine .inr ⟨?_, ?_⟩ <;> (simp <;> omega)) | (refine .inl ?_; rw [htab]; kernel_rfl))); done)); clear htab tab hKK KK; simp only [thenA, blockA, reduceIte]) | skip)
      | (refine AWP.if_t ?_ ?_; focus (simp (disch := omega) [hO, eOut_some, dOut_some]; done))
      | (refine AWP.if_f ?_ ?_; focus (simp (disch := omega) [hO, eOut_some, dOut_some]; done)))
    repeat
      first
        | (refine aStop_of (buildEnum_c _ _ _ its (by first | exact (Sl.whole (t := 66) (r := true) (by simp (disch := omega) only [upd_eq, upd_ne, del_ne]) (by simp [rowsT_len])) | exact (Sl.whole (t := 66) (r := true) ((hσ' _ (by simp)).trans (by simp (disch := omega) only [upd_eq, upd_ne, del_ne])) (by simp [rowsT_len]))) (by omega) hsz) ?_; rintro r δ ⟨rfl, rfl⟩)
        | (refine aStop_of (buildEnumS_c _ _ _ its (by first | exact (Sl.whole (t := 66) (r := true) (by simp (disch := omega) only [upd_eq, upd_ne, del_ne]) (by simp [rowsT_len])) | exact (Sl.whole (t := 66) (r := true) ((hσ' _ (by simp)).trans (by simp (disch := omega) only [upd_eq, upd_ne, del_ne])) (by simp [rowsT_len]))) (by omega) hsz) ?_; rintro r δ ⟨rfl, rfl⟩)
        | (refine aStop_of (equalEnum_c _ _ _ _ (bdL its) (bdL its) (by first | exact (Sl.whole (t := 33) (r := true) (by simp (disch := omega) only [upd_eq, upd_ne, del_ne]) (by simp [rowsD_len])) | exact (Sl.whole (t := 33) (r := true) ((hσ' _ (by simp)).trans (by simp (disch := omega) only [upd_eq, upd_ne, del_ne])) (by simp [rowsD_len]))) (by first | exact (Sl.whole (t := 33) (r := true) (by simp (disch := omega) only [upd_eq, upd_ne, del_ne]) (by simp [rowsD_len])) | exact (Sl.whole (t := 33) (r := true) ((hσ' _ (by simp)).trans (by simp (disch := omega) only [upd_eq, upd_ne, del_ne])) (by simp [rowsD_len]))) (by omega) (by omega)) ?_; rintro r δ ⟨rfl, rfl⟩)
      (repeat (simp (disch := omega) [hO, eOut_some, dOut_some]))
      first | (refine dEnd_ro ?_ (hKK _ _ _ ?_); (focus (simp; done)); clear htab tab hKK KK; simp only [thenA, blockA, reduceIte]) | (refine dEnd_of ?_ (hKK _ _ _ ?_); (focus (simp only [List.reverse_cons, List.reverse_nil, List.nil_append, List.cons_append, memA, mem1, and_true, true_and]; (repeat' apply And.intro); (all_goals (first | trivial | (refine .inr ⟨?_, ?_⟩ <;> (simp; done)) | (refine .inr ⟨?_, ?_⟩ <;> (simp <;> omega)) | (refine .inl ?_; rw [htab]; kernel_rfl))); done)); clear htab tab hKK KK; simp only [thenA, blockA, reduceIte]) | (refine hKK _ _ _ ?_; clear hKK KK; simp only [thenA, blockA, reduceIte]) | skip
      repeat' (first
        | refine AWP.seq ?_
        | refine AWP.block ?_
        | (refine AWP.skip ?_; simp only [thenA, blockA, reduceIte])
        | (refine AWP.exit ?_; simp only [thenA, blockA, eq_self, reduceIte, Nat.reduceEqDiff, Nat.succ_ne_zero])
        | (refine AWP.ret ?_; simp only [thenA, blockA, reduceIte])
        | (refine AWP.region (by rfl) (fun KK hKK => ?_); (repeat (simp (disch := omega) [hO, eOut_some, dOut_some])); first | (refine hKK _ _ _ ?_; clear hKK KK; simp only [thenA, blockA, reduceIte]) | skip)
        | (refine AWP.draw' mixd (by rfl) (by kernel_rfl) (fun KK tab hKK htab => ?_); (repeat (simp (disch := omega) [hO, eOut_some, dOut_some])); first | (refine dEnd_ro ?_ (hKK _ _ _ ?_); (focus (simp; done)); clear htab tab hKK KK; simp only [thenA, blockA, reduceIte]) | (refine dEnd_of ?_ (hKK _ _ _ ?_); (focus (simp only [List.reverse_cons, List.reverse_nil, List.nil_append, List.cons_append, memA, mem1, and_true, true_and]; (repeat' apply And.intro); (all_goals (first | trivial | (refine .inr ⟨?_, ?_⟩ <;> (simp; done)) | (refine .inr ⟨?_, ?_⟩ <;> (simp <;> omega)) | (refine .inl ?_; rw [htab]; kernel_rfl))); done)); clear htab tab hKK KK; simp only [thenA, blockA, reduceIte]) | skip)
        | (refine AWP.if_t ?_ ?_; focus (simp (disch := omega) [hO, eOut_some, dOut_some]; done))
        | (refine AWP.if_f ?_ ?_; focus (simp (disch := omega) [hO, eOut_some, dOut_some]; done)))
    generalize bdL its = l at *
    refine AWP.weak (Weak.virt 8 66 3 0 0 0 (by simp) (by omega)) ?_
    refine AWP.loop (fun n τ τ2 M => ∃ k cb : Nat, k ≤ l.length ∧ n = l.length - k ∧ τ = [(4, .ptr (K + 2 + 2) 0 0), (8, .sl cb 0 (reI (l.take k)).length none 3), (9, .v (.int .i64 k))] ∧ τ2 (K + 2) = some (blkD l) ∧ τ2 (K + 2 + 2) = some (blkE (.sl (K + 2) 0 l.length (some l.length) 2)) ∧ τ2 cb = some (blkT (reI (l.take k))) ∧ K + 2 + 2 < cb ∧ cb < M)
      ⟨_, _, _, _, ⟨0, K + 2 + 2 + 1 + 2 + 1 + 2, by omega, rfl, rfl, by simp (disch := omega) only [upd_eq, upd_ne], by simp (disch := omega) only [upd_eq, upd_ne], by simp only [upd_eq]; rfl, by omega, by omega⟩, Weak.tau (by simp [LQ, reI])⟩ ?_
    rintro n τ σ2 M ⟨k, cb, hk, rfl, rfl, hb1, hb2, hb3, hc1, hc2⟩
    by_cases hlt : k < l.length
    · have hlt2 : k < its.length := by omega
      have hrD := rowsD_at l k hlt
      have htk : (reI (l.take k)).length = k := by rw [reI_len]; simp; omega
      have hz1 : ((reI (l.take k)).length + 1) * 32 ≤ 140737488355328 := by omega
      have hz2 : (reI (l.take k)).length + 1 ≤ 4611686018427387904 := by omega
      have hst := reI_take hlt
      repeat' (first
        | refine AWP.seq ?_
        | refine AWP.block ?_
        | (refine AWP.skip ?_; simp only [thenA, blockA, reduceIte])
        | (refine AWP.exit ?_; simp only [thenA, blockA, eq_self, reduceIte, Nat.reduceEqDiff, Nat.succ_ne_zero])
        | (refine AWP.ret ?_; simp only [thenA, blockA, reduceIte])
        | (refine AWP.region (by rfl) (fun KK hKK => ?_); (repeat (simp (disch := omega) [hlt, hlt2, hb1, hb2, hrD, elems, rowsT_len, rowsT_snoc, rowsT_take, hz1, hz2, hb3])); first | (refine hKK _ _ _ ?_; clear hKK KK; simp only [thenA, blockA, reduceIte]) | skip)
        | (refine AWP.draw' mixd (by rfl) (by kernel_rfl) (fun KK tab hKK htab => ?_); (repeat (simp (disch := omega) [hlt, hlt2, hb1, hb2, hrD, elems, rowsT_len, rowsT_snoc, rowsT_take, hz1, hz2, hb3])); first | (refine dEnd_ro ?_ (hKK _ _ _ ?_); (focus (simp; done)); clear htab tab hKK KK; simp only [thenA, blockA, reduceIte]) | (refine dEnd_of ?_ (hKK _ _ _ ?_); (focus (simp only [List.reverse_cons, List.reverse_nil, List.nil_append, List.cons_append, memA, mem1, and_true, true_and]; (repeat' apply And.intro); (all_goals (first | trivial | (refine .inr ⟨?_, ?_⟩ <;> (simp; done)) | (refine .inr ⟨?_, ?_⟩ <;> (simp <;> omega)) | (refine .inl ?_; rw [htab]; kernel_rfl))); done)); clear htab tab hKK KK; simp only [thenA, blockA, reduceIte]) | skip)
        | (refine AWP.if_t ?_ ?_; focus (simp (disch := omega) [hlt, hlt2, hb1, hb2, hrD, elems, rowsT_len, rowsT_snoc, rowsT_take, hz1, hz2, hb3]; done))
        | (refine AWP.if_f ?_ ?_; focus (simp (disch := omega) [hlt, hlt2, hb1, hb2, hrD, elems, rowsT_len, rowsT_snoc, rowsT_take, hz1, hz2, hb3]; done)))
      refine ⟨_, _, _, _, ?_, ⟨k + 1, M + 30, by omega, rfl, rfl, by simp (disch := omega) only [upd_eq, upd_ne, del_ne, hb1], by simp (disch := omega) only [upd_eq, upd_ne, del_ne, hb2], by rw [hst]; simp (disch := omega) only [upd_eq, upd_ne, del_ne], by omega, by omega⟩, Weak.tau (by rw [hst]; simp [LQ])⟩
      omega
    · have hk' : k = l.length := by omega
      subst hk'
      rw [List.take_length] at *
      have hlt2 : ¬ l.length < its.length := by omega
      have hre := blO_reI hok
      have hrl := reI_len l
      repeat' (first
        | refine AWP.seq ?_
        | refine AWP.block ?_
        | (refine AWP.skip ?_; simp only [thenA, blockA, reduceIte])
        | (refine AWP.exit ?_; simp only [thenA, blockA, eq_self, reduceIte, Nat.reduceEqDiff, Nat.succ_ne_zero])
        | (refine AWP.ret ?_; simp only [thenA, blockA, reduceIte])
        | (refine AWP.region (by rfl) (fun KK hKK => ?_); (repeat (simp (disch := omega) [hlt, hlt2, hb2])); first | (refine hKK _ _ _ ?_; clear hKK KK; simp only [thenA, blockA, reduceIte]) | skip)
        | (refine AWP.draw' mixd (by rfl) (by kernel_rfl) (fun KK tab hKK htab => ?_); (repeat (simp (disch := omega) [hlt, hlt2, hb2])); first | (refine dEnd_ro ?_ (hKK _ _ _ ?_); (focus (simp; done)); clear htab tab hKK KK; simp only [thenA, blockA, reduceIte]) | (refine dEnd_of ?_ (hKK _ _ _ ?_); (focus (simp only [List.reverse_cons, List.reverse_nil, List.nil_append, List.cons_append, memA, mem1, and_true, true_and]; (repeat' apply And.intro); (all_goals (first | trivial | (refine .inr ⟨?_, ?_⟩ <;> (simp; done)) | (refine .inr ⟨?_, ?_⟩ <;> (simp <;> omega)) | (refine .inl ?_; rw [htab]; kernel_rfl))); done)); clear htab tab hKK KK; simp only [thenA, blockA, reduceIte]) | skip)
        | (refine AWP.if_t ?_ ?_; focus (simp (disch := omega) [hlt, hlt2, hb2]; done))
        | (refine AWP.if_f ?_ ?_; focus (simp (disch := omega) [hlt, hlt2, hb2]; done)))
      refine aStop_of (buildEnum_c _ _ _ (reI l) (Sl.whole (t := 66) (r := true) (by simp (disch := omega) only [upd_eq, upd_ne, del_ne, hb3]) (by simp [rowsT_len])) (by omega) (reI_sz hds)) ?_
      rintro r δ ⟨rfl, rfl⟩
      (repeat (simp (disch := omega) [hre, eOut_some, dOut_some]))
      first | (refine hKK _ _ _ ?_; clear hKK KK; simp only [thenA, blockA, reduceIte]) | skip
      repeat' (first
        | refine AWP.seq ?_
        | refine AWP.block ?_
        | (refine AWP.skip ?_; simp only [thenA, blockA, reduceIte])
        | (refine AWP.exit ?_; simp only [thenA, blockA, eq_self, reduceIte, Nat.reduceEqDiff, Nat.succ_ne_zero])
        | (refine AWP.ret ?_; simp only [thenA, blockA, reduceIte])
        | (refine AWP.region (by rfl) (fun KK hKK => ?_); (repeat (simp (disch := omega) [hb2])); first | (refine hKK _ _ _ ?_; clear hKK KK; simp only [thenA, blockA, reduceIte]) | skip)
        | (refine AWP.draw' mixd (by rfl) (by kernel_rfl) (fun KK tab hKK htab => ?_); (repeat (simp (disch := omega) [hb2])); first | (refine dEnd_ro ?_ (hKK _ _ _ ?_); (focus (simp; done)); clear htab tab hKK KK; simp only [thenA, blockA, reduceIte]) | (refine dEnd_of ?_ (hKK _ _ _ ?_); (focus (simp only [List.reverse_cons, List.reverse_nil, List.nil_append, List.cons_append, memA, mem1, and_true, true_and]; (repeat' apply And.intro); (all_goals (first | trivial | (refine .inr ⟨?_, ?_⟩ <;> (simp; done)) | (refine .inr ⟨?_, ?_⟩ <;> (simp <;> omega)) | (refine .inl ?_; rw [htab]; kernel_rfl))); done)); clear htab tab hKK KK; simp only [thenA, blockA, reduceIte]) | skip)
        | (refine AWP.if_t ?_ ?_; focus (simp (disch := omega) [hb2]; done))
        | (refine AWP.if_f ?_ ?_; focus (simp (disch := omega) [hb2]; done)))
      refine aStop_of (equalEnum_c _ _ _ _ l l (by first | exact (Sl.whole (t := 33) (r := true) (by simp (disch := omega) only [upd_eq, upd_ne, del_ne]) (by simp [rowsD_len])) | exact (Sl.whole (t := 33) (r := true) ((hσ' _ (by simp)).trans (by simp (disch := omega) only [upd_eq, upd_ne, del_ne])) (by simp [rowsD_len]))) (Sl.whole (t := 33) (r := true) (by simp (disch := omega) only [upd_eq, upd_ne, del_ne, hb1]) (by simp [rowsD_len])) (by omega) (by omega)) ?_
      rintro r δ ⟨rfl, rfl⟩
      (repeat (simp (disch := omega) []))
      first | (refine hKK _ _ _ ?_; clear hKK KK; simp only [thenA, blockA, reduceIte]) | skip
      repeat' (first
        | refine AWP.seq ?_
        | refine AWP.block ?_
        | (refine AWP.skip ?_; simp only [thenA, blockA, reduceIte])
        | (refine AWP.exit ?_; simp only [thenA, blockA, eq_self, reduceIte, Nat.reduceEqDiff, Nat.succ_ne_zero])
        | (refine AWP.ret ?_; simp only [thenA, blockA, reduceIte])
        | (refine AWP.region (by rfl) (fun KK hKK => ?_); (repeat (simp (disch := omega) [])); first | (refine hKK _ _ _ ?_; clear hKK KK; simp only [thenA, blockA, reduceIte]) | skip)
        | (refine AWP.draw' mixd (by rfl) (by kernel_rfl) (fun KK tab hKK htab => ?_); (repeat (simp (disch := omega) [])); first | (refine dEnd_ro ?_ (hKK _ _ _ ?_); (focus (simp; done)); clear htab tab hKK KK; simp only [thenA, blockA, reduceIte]) | (refine dEnd_of ?_ (hKK _ _ _ ?_); (focus (simp only [List.reverse_cons, List.reverse_nil, List.nil_append, List.cons_append, memA, mem1, and_true, true_and]; (repeat' apply And.intro); (all_goals (first | trivial | (refine .inr ⟨?_, ?_⟩ <;> (simp; done)) | (refine .inr ⟨?_, ?_⟩ <;> (simp <;> omega)) | (refine .inl ?_; rw [htab]; kernel_rfl))); done)); clear htab tab hKK KK; simp only [thenA, blockA, reduceIte]) | skip)
        | (refine AWP.if_t ?_ ?_; focus (simp (disch := omega) []; done))
        | (refine AWP.if_f ?_ ?_; focus (simp (disch := omega) []; done)))
      refine ⟨by simp, _, rfl, fin0 ⟨?_, rfl⟩ (by simp [resO, get, nms, nmss]; try (simp [nms, nmss] at hn; simp_all))⟩
      simp [resO, get, ren, rens]
end Go.Proofs.Ythjjfdbkggiaeaa
