/- The law of PartsOf, walked: it answers true for every code. No condition but sizes that every input has. -/
import Derived.Test.YtbcooikoaplhcaaLIv
import Derived.Test.YtbcooikoaplhcaaF7
import Derived.Test.YtbcooikoaplhcaaB2
set_option linter.unusedSimpArgs false
set_option linter.unusedVariables false
namespace Go.Proofs.Ytbcooikoaplhcaa
open Go Go.RowKit

/-- How many parts a number has. -/
def inP (a n : Nat) : Bool := decide (n - (n &&& a) = 0)
def cntP (a k : Nat) : Nat := (List.range k).countP (inP a)
theorem cntP_succ (a k : Nat) : cntP a (k + 1) = cntP a k + if inP a k = true then 1 else 0 := by
  unfold cntP
  rw [List.range_succ, List.countP_append, List.countP_singleton]
theorem inP_even (a j : Nat) : inP a (2 * j) = inP (a / 2) j := by
  have a2 := Nat.and_div_two (a := 2 * j) (b := a)
  have b2 : (2 * j &&& a) % 2 = 1 ↔ (2 * j) % 2 = 1 ∧ a % 2 = 1 := Nat.and_mod_two_eq_one
  rw [show 2 * j / 2 = j by omega] at a2
  have h1 := Nat.and_le_left (n := j) (m := a / 2)
  unfold inP
  rw [decide_eq_decide]
  omega
theorem inP_odd (a j : Nat) : inP a (2 * j + 1) = (decide (a % 2 = 1) && inP (a / 2) j) := by
  have a2 := Nat.and_div_two (a := 2 * j + 1) (b := a)
  have b2 : ((2 * j + 1) &&& a) % 2 = 1 ↔ (2 * j + 1) % 2 = 1 ∧ a % 2 = 1 := Nat.and_mod_two_eq_one
  rw [show (2 * j + 1) / 2 = j by omega] at a2
  have h1 := Nat.and_le_left (n := j) (m := a / 2)
  unfold inP
  rw [← Bool.decide_and, decide_eq_decide]
  omega
theorem cntP_two (a : Nat) : ∀ m, cntP a (2 * m) = (1 + a % 2) * cntP (a / 2) m
  | 0 => by simp [cntP]
  | m + 1 => by
    have ih := cntP_two a m
    rw [show 2 * (m + 1) = 2 * m + 1 + 1 by omega, cntP_succ, cntP_succ, cntP_succ, ih, inP_even, inP_odd, Nat.mul_add]
    have h2 := Nat.mod_two_eq_zero_or_one a
    rcases h2 with h2 | h2
    · rw [h2]
      cases inP (a / 2) m <;> simp
    · rw [h2]
      cases inP (a / 2) m <;> simp
theorem cntP_pow : ∀ f a, a < 2 ^ f → cntP a (2 ^ f) = 2 ^ pcF f a
  | 0, a, h => by
    have : a = 0 := by simpa using h
    subst this
    decide
  | f + 1, a, h => by
    rw [Nat.pow_succ] at h
    rw [Nat.pow_succ, Nat.mul_comm (2 ^ f) 2, cntP_two, cntP_pow f (a / 2) (by omega), pcF, Nat.pow_add]
    rcases Nat.mod_two_eq_zero_or_one a with h2 | h2 <;> rw [h2]
theorem inP_gt {a n : Nat} (h : a < n) : inP a n = false := by
  have := Nat.and_le_right (n := n) (m := a)
  unfold inP
  rw [decide_eq_false]
  omega
theorem cntP_more (a : Nat) : ∀ d, cntP a (a + 1 + d) = cntP a (a + 1)
  | 0 => rfl
  | d + 1 => by
    rw [← Nat.add_assoc, cntP_succ, cntP_more a d, inP_gt (by omega)]
    simp
theorem ptL_count {a : Nat} (h : a < 4096) : (ptL a (a + 1)).length = 2 ^ pcN a := by
  have h1 : (ptL a (a + 1)).length = cntP a (a + 1) := by
    unfold ptL cntP
    rw [List.length_map, List.countP_eq_length_filter]
    rfl
  have h2 := cntP_more a (4096 - (a + 1))
  rw [show a + 1 + (4096 - (a + 1)) = 2 ^ 12 by omega, cntP_pow 12 a (by omega)] at h2
  rw [h1, ← h2]
  rfl
theorem ptL_mem {a k : Nat} {n : Int} (h : n ∈ ptL a k) : ∃ m : Nat, n = m ∧ m < k ∧ m &&& a = m := by
  obtain ⟨m, hm, rfl⟩ := List.mem_map.1 h
  rw [List.mem_filter] at hm
  refine ⟨m, rfl, List.mem_range.1 hm.1, (sub_zero_iff _ _).1 ?_⟩
  simpa using hm.2
theorem ptL_pw (a k : Nat) : (ptL a k).Pairwise (· < ·) := by
  unfold ptL
  refine List.Pairwise.map _ ?_ (List.Pairwise.filter _ List.pairwise_lt_range)
  intro x y h
  omega
theorem ptL_last (a : Nat) : ptL a (a + 1) = ptL a a ++ [(a : Int)] := by
  rw [ptL_succ, if_pos (by rw [Nat.and_self]; omega)]
theorem ptL_head (a k : Nat) : ∃ l, ptL a (k + 1) = 0 :: l := by
  unfold ptL
  rw [List.range_succ_eq_map, List.filter_cons, if_pos (by simp), List.map_cons]
  exact ⟨_, rfl⟩
theorem pcF_12 (a : Nat) : pcN a ≤ 12 := pcF_le 12 a

set_option maxRecDepth 10000 in
set_option maxHeartbeats 8000000 in
theorem parts_law_c (σ : Sto) (ν : Nat) (x : AV) (cs : List Int) (hx : Sl σ x 1 (rowsB cs)) (hlen : cs.length ≤ 9223372036854775807) (h8 : ∀ y ∈ cs, 0 ≤ y ∧ y ≤ 255) :
    AC Try.prog 11 [x] σ ν fun r δ => r = .v (.bool true) ∧ δ = noS := by
  obtain ⟨b, o, cap, z, rfl⟩ := hx.out
  simp only [rowsB_len] at hx ⊢
  refine AC.intro [] ent_11 Try.func11 rfl (by simp [Try.f11]) (by simp) ?_
  intro K s hs hB hn hν hA hFr
  simp only [argT, Nat.zero_add, Nat.reduceAdd]
  have hx' := hx.vw hs.vw
  by_cases h1 : (1048576 : Int) < cs.length
  · repeat' (first
      | refine AWP.seq ?_
      | refine AWP.block ?_
      | (refine AWP.skip ?_; simp only [thenA, blockA, reduceIte])
      | (refine AWP.exit ?_; simp only [thenA, blockA, eq_self, reduceIte, Nat.reduceEqDiff, Nat.succ_ne_zero])
      | (refine AWP.ret ?_; simp only [thenA, blockA, reduceIte])
      | (refine AWP.region (by rfl) (fun KK hKK => ?_); (repeat (simp (disch := omega) [h1])); first | (refine hKK _ _ _ ?_; clear hKK KK; simp only [thenA, blockA, reduceIte]) | skip)
      | (refine AWP.draw' mixd (by rfl) (by kernel_rfl) (fun KK tab hKK htab => ?_); (repeat (simp (disch := omega) [h1])); first | (refine dEnd_ro ?_ (hKK _ _ _ ?_); (focus (simp; done)); clear htab tab hKK KK; simp only [thenA, blockA, reduceIte]) | (refine dEnd_of ?_ (hKK _ _ _ ?_); (focus (simp only [List.reverse_cons, List.reverse_nil, List.nil_append, List.cons_append, memA, mem1, and_true, true_and]; (repeat' apply And.intro); (all_goals (first | trivial | (refine .inr ⟨?_, ?_⟩ <;> (simp; done)) | (refine .inr ⟨?_, ?_⟩ <;> (simp <;> omega)) | (refine .inl ?_; rw [htab]; kernel_rfl))); done)); clear htab tab hKK KK; simp only [thenA, blockA, reduceIte]) | skip)
      | (refine AWP.if_t ?_ ?_; focus (simp (disch := omega) [h1]; done))
      | (refine AWP.if_f ?_ ?_; focus (simp (disch := omega) [h1]; done)))
    refine ⟨by simp, _, rfl, fin0 ⟨?_, rfl⟩ (by simp [resO, get, nms, nmss]; try (simp [nms, nmss] at hn; simp_all))⟩
    simp [resO, get, ren, rens]
  repeat' (first
    | refine AWP.seq ?_
    | refine AWP.block ?_
    | (refine AWP.skip ?_; simp only [thenA, blockA, reduceIte])
    | (refine AWP.exit ?_; simp only [thenA, blockA, eq_self, reduceIte, Nat.reduceEqDiff, Nat.succ_ne_zero])
    | (refine AWP.ret ?_; simp only [thenA, blockA, reduceIte])
    | (refine AWP.region (by rfl) (fun KK hKK => ?_); (repeat (simp (disch := omega) [h1])); first | (refine hKK _ _ _ ?_; clear hKK KK; simp only [thenA, blockA, reduceIte]) | skip)
    | (refine AWP.draw' mixd (by rfl) (by kernel_rfl) (fun KK tab hKK htab => ?_); (repeat (simp (disch := omega) [h1])); first | (refine dEnd_ro ?_ (hKK _ _ _ ?_); (focus (simp; done)); clear htab tab hKK KK; simp only [thenA, blockA, reduceIte]) | (refine dEnd_of ?_ (hKK _ _ _ ?_); (focus (simp only [List.reverse_cons, List.reverse_nil, List.nil_append, List.cons_append, memA, mem1, and_true, true_and]; (repeat' apply And.intro); (all_goals (first | trivial | (refine .inr ⟨?_, ?_⟩ <;> (simp; done)) | (refine .inr ⟨?_, ?_⟩ <;> (simp <;> omega)) | (refine .inl ?_; rw [htab]; kernel_rfl))); done)); clear htab tab hKK KK; simp only [thenA, blockA, reduceIte]) | skip)
    | (refine AWP.if_t ?_ ?_; focus (simp (disch := omega) [h1]; done))
    | (refine AWP.if_f ?_ ?_; focus (simp (disch := omega) [h1]; done)))
  refine aStop_of (DrawPartsOf_c _ _ _ cs (hx'.vw ((Vw.refl _).over (by repeat (first | exact Over.refl _ | exact hov | refine Over.upd ?_ hB (by omega) | refine Over.del ?_ hB (by omega))))) h8 hlen) ?_
  rintro r δ ⟨ds, bd, n, hgd, hb0, hb4, hn0, hn1, rfl, rfl⟩
  (repeat (simp (disch := omega) []))
  first | (refine hKK _ _ _ ?_; clear hKK KK; simp only [thenA, blockA, reduceIte]) | skip
  have hl := hgd.len
  have hl9 : ds.length ≤ 9223372036854775807 := by omega
  have hl4 : ds.length ≤ 4294967296 := by omega
  have hsz : ∀ d ∈ ds, d.1.size ≤ 9223372036854775807 := fun d hd => by have := hgd.sz d hd; omega
  repeat' (first
    | refine AWP.seq ?_
    | refine AWP.block ?_
    | (refine AWP.skip ?_; simp only [thenA, blockA, reduceIte])
    | (refine AWP.exit ?_; simp only [thenA, blockA, eq_self, reduceIte, Nat.reduceEqDiff, Nat.succ_ne_zero])
    | (refine AWP.ret ?_; simp only [thenA, blockA, reduceIte])
    | (refine AWP.region (by rfl) (fun KK hKK => ?_); (repeat (simp (disch := omega) [])); first | (refine hKK _ _ _ ?_; clear hKK KK; simp only [thenA, blockA, reduceIte]) | skip)
    | (refine AWP.draw' mixd (by rfl) (by kernel_rfl) (fun KK tab hKK htab => ?_); (repeat (simp (disch := omega) [])); first | (refine dEnd_ro ?_ (hKK _ _ _ ?_); (focus (simp; done)); clear htab tab hKK KK; simp only [thenA, blockA, reduceIte]) | (refine dEnd_of ?_ (hKK _ _ _ ?_); (focus (simp only [List.reverse_cons, List.reverse_nil, List.nil_append, List.cons_append, memA, mem1, and_true, true_and]; (repeat' apply And.intro); (all_goals (first | trivial | (refine .inr ⟨?_, ?_⟩ <;> (simp; done)) | (refine .inr ⟨?_, ?_⟩ <;> (simp <;> omega)) | (refine .inl ?_; rw [htab]; kernel_rfl))); done)); clear htab tab hKK KK; simp only [thenA, blockA, reduceIte]) | skip)
    | (refine AWP.if_t ?_ ?_; focus (simp (disch := omega) []; done))
    | (refine AWP.if_f ?_ ?_; focus (simp (disch := omega) []; done)))
  cases hO : ptO ds bd n with
  | none =>
    repeat' (first
      | refine AWP.seq ?_
      | refine AWP.block ?_
      | (refine AWP.skip ?_; simp only [thenA, blockA, reduceIte])
      | (refine AWP.exit ?_; simp only [thenA, blockA, eq_self, reduceIte, Nat.reduceEqDiff, Nat.succ_ne_zero])
      | (refine AWP.ret ?_; simp only [thenA, blockA, reduceIte])
      | (refine AWP.region (by rfl) (fun KK hKK => ?_); (repeat (simp (disch := omega) [hO, iOut_none, dOutI_none])); first | (refine hKK _ _ _ ?_; clear hKK KK; simp only [thenA, blockA, reduceIte]) | skip)
      | (refine AWP.draw' mixd (by rfl) (by kernel_rfl) (fun KK tab hKK htab => ?_); (repeat (simp (disch := omega) [hO, iOut_none, dOutI_none])); first | (refine dEnd_ro ?_ (hKK _ _ _ ?_); (focus (simp; done)); clear htab tab hKK KK; simp only [thenA, blockA, reduceIte]) | (refine dEnd_of ?_ (hKK _ _ _ ?_); (focus (simp only [List.reverse_cons, List.reverse_nil, List.nil_append, List.cons_append, memA, mem1, and_true, true_and]; (repeat' apply And.intro); (all_goals (first | trivial | (refine .inr ⟨?_, ?_⟩ <;> (simp; done)) | (refine .inr ⟨?_, ?_⟩ <;> (simp <;> omega)) | (refine .inl ?_; rw [htab]; kernel_rfl))); done)); clear htab tab hKK KK; simp only [thenA, blockA, reduceIte]) | skip)
      | (refine AWP.if_t ?_ ?_; focus (simp (disch := omega) [hO, iOut_none, dOutI_none]; done))
      | (refine AWP.if_f ?_ ?_; focus (simp (disch := omega) [hO, iOut_none, dOutI_none]; done)))
    repeat
      first
        | (refine aStop_of (parts_c _ _ _ ds bd n (by first | exact (Sl.whole (t := 77) (r := true) ((hσ' _ (by simp)).trans (by simp (disch := omega) only [upd_eq, upd_ne, del_ne])) (by simp [rowsD_len])) | exact (Sl.whole (t := 77) (r := true) (by simp (disch := omega) only [upd_eq, upd_ne, del_ne]) (by simp [rowsD_len]))) hl9 hsz) ?_; rintro r δ ⟨rfl, rfl⟩)
        | (refine aStop_of (partsS_c _ _ _ ds bd n (by first | exact (Sl.whole (t := 77) (r := true) ((hσ' _ (by simp)).trans (by simp (disch := omega) only [upd_eq, upd_ne, del_ne])) (by simp [rowsD_len])) | exact (Sl.whole (t := 77) (r := true) (by simp (disch := omega) only [upd_eq, upd_ne, del_ne]) (by simp [rowsD_len]))) hl9 hsz) ?_; rintro r δ ⟨rfl, rfl⟩)
        | (refine aStop_of (equalInts_c _ _ nilA nilA [] [] (Sl.nil _ _ _ _ _) (Sl.nil _ _ _ _ _) (by simp) (by simp)) ?_; rintro r δ ⟨rfl, rfl⟩)
      (repeat (simp (disch := omega) [hO, iOut_none, dOutI_none]))
      first | (refine dEnd_ro ?_ (hKK _ _ _ ?_); (focus (simp; done)); clear htab tab hKK KK; simp only [thenA, blockA, reduceIte]) | (refine dEnd_of ?_ (hKK _ _ _ ?_); (focus (simp only [List.reverse_cons, List.reverse_nil, List.nil_append, List.cons_append, memA, mem1, and_true, true_and]; (repeat' apply And.intro); (all_goals (first | trivial | (refine .inr ⟨?_, ?_⟩ <;> (simp; done)) | (refine .inr ⟨?_, ?_⟩ <;> (simp <;> omega)) | (refine .inl ?_; rw [htab]; kernel_rfl))); done)); clear htab tab hKK KK; simp only [thenA, blockA, reduceIte]) | (refine hKK _ _ _ ?_; clear hKK KK; simp only [thenA, blockA, reduceIte]) | skip
      repeat' (first
        | refine AWP.seq ?_
        | refine AWP.block ?_
        | (refine AWP.skip ?_; simp only [thenA, blockA, reduceIte])
        | (refine AWP.exit ?_; simp only [thenA, blockA, eq_self, reduceIte, Nat.reduceEqDiff, Nat.succ_ne_zero])
        | (refine AWP.ret ?_; simp only [thenA, blockA, reduceIte])
        | (refine AWP.region (by rfl) (fun KK hKK => ?_); (repeat (simp (disch := omega) [hO, iOut_none, dOutI_none])); first | (refine hKK _ _ _ ?_; clear hKK KK; simp only [thenA, blockA, reduceIte]) | skip)
        | (refine AWP.draw' mixd (by rfl) (by kernel_rfl) (fun KK tab hKK htab => ?_); (repeat (simp (disch := omega) [hO, iOut_none, dOutI_none])); first | (refine dEnd_ro ?_ (hKK _ _ _ ?_); (focus (simp; done)); clear htab tab hKK KK; simp only [thenA, blockA, reduceIte]) | (refine dEnd_of ?_ (hKK _ _ _ ?_); (focus (simp only [List.reverse_cons, List.reverse_nil, List.nil_append, List.cons_append, memA, mem1, and_true, true_and]; (repeat' apply And.intro); (all_goals (first | trivial | (refine .inr ⟨?_, ?_⟩ <;> (simp; done)) | (refine .inr ⟨?_, ?_⟩ <;> (simp <;> omega)) | (refine .inl ?_; rw [htab]; kernel_rfl))); done)); clear htab tab hKK KK; simp only [thenA, blockA, reduceIte]) | skip)
        | (refine AWP.if_t ?_ ?_; focus (simp (disch := omega) [hO, iOut_none, dOutI_none]; done))
        | (refine AWP.if_f ?_ ?_; focus (simp (disch := omega) [hO, iOut_none, dOutI_none]; done)))
    refine ⟨by simp, _, rfl, fin0 ⟨?_, rfl⟩ (by simp [resO, get, nms, nmss]; try (simp [nms, nmss] at hn; simp_all))⟩
    simp [resO, get, ren, rens]
  | some w =>
    obtain ⟨hi, h6, hwe⟩ : isv ds bd n = true ∧ pcN n.toNat ≤ 6 ∧ ptL n.toNat (n.toNat + 1) = w := by
      unfold ptO at hO
      split at hO
      · rename_i hh
        exact ⟨hh.1, hh.2, by simpa using hO⟩
      · cases hO
    obtain ⟨a, rfl, ha⟩ := isv_nat hi
    rw [Int.toNat_natCast] at h6 hwe
    have hok := (isv_ok hi).1
    have hcb : cbI ds bd a = (pcN a : Int) := by unfold cbI; rw [if_pos hi, Int.toNat_natCast]
    have hwl := ptL_count ha
    obtain ⟨w0, hw0⟩ := ptL_head a a
    have hwz := ptL_last a
    have hmem : ∀ p ∈ w, haB ds bd a p = true := fun p hp => by
      rw [← hwe] at hp
      obtain ⟨m, rfl, hm, hs⟩ := ptL_mem hp
      have hv : isv ds bd (m : Int) = true := by
        have h := isv_and (b := m) hok ha hi
        rwa [Nat.and_comm, hs] at h
      exact ha_yes hi hv hs
    have hpw := ptL_pw a (a + 1)
    rw [hwe] at hwl hpw hw0 hwz
    have hpb := pw_nat (show pcN a ≤ 12 from pcF_12 a)
    have hw1 : 0 < w.length := by omega
    have hwl4 : w.length ≤ 4096 := by omega
    have hne : ¬ w.length = 0 := by omega
    have hnei : ¬ (w.length : Int) = 0 := by omega
    have hf0 : (rowsI w)[0]? = some [.v (.int .i64 0)] := by rw [hw0]; rfl
    have hfl : (rowsI w)[w.length - 1]? = some [.v (.int .i64 a)] := by
      rw [hwz]
      simp [rowsI]
    have hasc : ∀ i, ∀ h : i + 1 < w.length, w[i] < w[i + 1] := fun i h => List.pairwise_iff_getElem.1 hpw i (i + 1) _ h (by omega)
    repeat' (first
      | refine AWP.seq ?_
      | refine AWP.block ?_
      | (refine AWP.skip ?_; simp only [thenA, blockA, reduceIte])
      | (refine AWP.exit ?_; simp only [thenA, blockA, eq_self, reduceIte, Nat.reduceEqDiff, Nat.succ_ne_zero])
      | (refine AWP.ret ?_; simp only [thenA, blockA, reduceIte])
      | (refine AWP.region (by rfl) (fun KK hKK => ?_); (repeat (simp (disch := omega) [hO, iOut_some, dOutI_some, hne, hnei, hcb])); first | (refine hKK _ _ _ ?_; clear hKK KK; simp only [thenA, blockA, reduceIte]) | skip)
      | (refine AWP.draw' mixd (by rfl) (by kernel_rfl) (fun KK tab hKK htab => ?_); (repeat (simp (disch := omega) [hO, iOut_some, dOutI_some, hne, hnei, hcb])); first | (refine dEnd_ro ?_ (hKK _ _ _ ?_); (focus (simp; done)); clear htab tab hKK KK; simp only [thenA, blockA, reduceIte]) | (refine dEnd_of ?_ (hKK _ _ _ ?_); (focus (simp only [List.reverse_cons, List.reverse_nil, List.nil_append, List.cons_append, memA, mem1, and_true, true_and]; (repeat' apply And.intro); (all_goals (first | trivial | (refine .inr ⟨?_, ?_⟩ <;> (simp; done)) | (refine .inr ⟨?_, ?_⟩ <;> (simp <;> omega)) | (refine .inl ?_; rw [htab]; kernel_rfl))); done)); clear htab tab hKK KK; simp only [thenA, blockA, reduceIte]) | skip)
      | (refine AWP.if_t ?_ ?_; focus (simp (disch := omega) [hO, iOut_some, dOutI_some, hne, hnei, hcb]; done))
      | (refine AWP.if_f ?_ ?_; focus (simp (disch := omega) [hO, iOut_some, dOutI_some, hne, hnei, hcb]; done)))
    repeat
      first
        | (refine aStop_of (parts_c _ _ _ ds bd _ (by first | exact (Sl.whole (t := 77) (r := true) ((hσ' _ (by simp)).trans (by simp (disch := omega) only [upd_eq, upd_ne, del_ne])) (by simp [rowsD_len])) | exact (Sl.whole (t := 77) (r := true) (by simp (disch := omega) only [upd_eq, upd_ne, del_ne]) (by simp [rowsD_len]))) hl9 hsz) ?_; rintro r δ ⟨rfl, rfl⟩)
        | (refine aStop_of (partsS_c _ _ _ ds bd _ (by first | exact (Sl.whole (t := 77) (r := true) ((hσ' _ (by simp)).trans (by simp (disch := omega) only [upd_eq, upd_ne, del_ne])) (by simp [rowsD_len])) | exact (Sl.whole (t := 77) (r := true) (by simp (disch := omega) only [upd_eq, upd_ne, del_ne]) (by simp [rowsD_len]))) hl9 hsz) ?_; rintro r δ ⟨rfl, rfl⟩)
        | (refine aStop_of (equalInts_c _ _ _ _ w w (by first | exact (Sl.whole (t := 3) (r := true) ((hσ' _ (by simp)).trans (by simp (disch := omega) only [upd_eq, upd_ne, del_ne])) (by simp [rowsI_len])) | exact (Sl.whole (t := 3) (r := true) (by simp (disch := omega) only [upd_eq, upd_ne, del_ne]) (by simp [rowsI_len]))) (by first | exact (Sl.whole (t := 3) (r := true) ((hσ' _ (by simp)).trans (by simp (disch := omega) only [upd_eq, upd_ne, del_ne])) (by simp [rowsI_len])) | exact (Sl.whole (t := 3) (r := true) (by simp (disch := omega) only [upd_eq, upd_ne, del_ne]) (by simp [rowsI_len]))) (by omega) (by omega)) ?_; rintro r δ ⟨rfl, rfl⟩)
        | (refine aStop_of (countBits_c _ _ _ ds bd _ (by first | exact (Sl.whole (t := 77) (r := true) ((hσ' _ (by simp)).trans (by simp (disch := omega) only [upd_eq, upd_ne, del_ne])) (by simp [rowsD_len])) | exact (Sl.whole (t := 77) (r := true) (by simp (disch := omega) only [upd_eq, upd_ne, del_ne]) (by simp [rowsD_len]))) hl9 hsz) ?_; rintro r δ ⟨rfl, rfl⟩)
      (repeat (simp (disch := omega) [hO, iOut_some, dOutI_some, hne, hnei, hcb]))
      first | (refine dEnd_ro ?_ (hKK _ _ _ ?_); (focus (simp; done)); clear htab tab hKK KK; simp only [thenA, blockA, reduceIte]) | (refine dEnd_of ?_ (hKK _ _ _ ?_); (focus (simp only [List.reverse_cons, List.reverse_nil, List.nil_append, List.cons_append, memA, mem1, and_true, true_and]; (repeat' apply And.intro); (all_goals (first | trivial | (refine .inr ⟨?_, ?_⟩ <;> (simp; done)) | (refine .inr ⟨?_, ?_⟩ <;> (simp <;> omega)) | (refine .inl ?_; rw [htab]; kernel_rfl))); done)); clear htab tab hKK KK; simp only [thenA, blockA, reduceIte]) | (refine hKK _ _ _ ?_; clear hKK KK; simp only [thenA, blockA, reduceIte]) | skip
      repeat' (first
        | refine AWP.seq ?_
        | refine AWP.block ?_
        | (refine AWP.skip ?_; simp only [thenA, blockA, reduceIte])
        | (refine AWP.exit ?_; simp only [thenA, blockA, eq_self, reduceIte, Nat.reduceEqDiff, Nat.succ_ne_zero])
        | (refine AWP.ret ?_; simp only [thenA, blockA, reduceIte])
        | (refine AWP.region (by rfl) (fun KK hKK => ?_); (repeat (simp (disch := omega) [hO, iOut_some, dOutI_some, hne, hnei, hcb])); first | (refine hKK _ _ _ ?_; clear hKK KK; simp only [thenA, blockA, reduceIte]) | skip)
        | (refine AWP.draw' mixd (by rfl) (by kernel_rfl) (fun KK tab hKK htab => ?_); (repeat (simp (disch := omega) [hO, iOut_some, dOutI_some, hne, hnei, hcb])); first | (refine dEnd_ro ?_ (hKK _ _ _ ?_); (focus (simp; done)); clear htab tab hKK KK; simp only [thenA, blockA, reduceIte]) | (refine dEnd_of ?_ (hKK _ _ _ ?_); (focus (simp only [List.reverse_cons, List.reverse_nil, List.nil_append, List.cons_append, memA, mem1, and_true, true_and]; (repeat' apply And.intro); (all_goals (first | trivial | (refine .inr ⟨?_, ?_⟩ <;> (simp; done)) | (refine .inr ⟨?_, ?_⟩ <;> (simp <;> omega)) | (refine .inl ?_; rw [htab]; kernel_rfl))); done)); clear htab tab hKK KK; simp only [thenA, blockA, reduceIte]) | skip)
        | (refine AWP.if_t ?_ ?_; focus (simp (disch := omega) [hO, iOut_some, dOutI_some, hne, hnei, hcb]; done))
        | (refine AWP.if_f ?_ ?_; focus (simp (disch := omega) [hO, iOut_some, dOutI_some, hne, hnei, hcb]; done)))
    refine AWP.loop (fun n τ τ2 M => ∃ j q : Nat, j ≤ pcN a ∧ n = pcN a - j ∧ q = 2 ^ j ∧ τ = [(3, .ptr (K + 2) 0 0), (4, .v (.int .i64 a)), (5, .sl (K + 2 + 1) 0 w.length (some w.length) 1), (6, .v (.int .i64 q)), (7, .v (.int .i64 (pcN a - j : Nat)))] ∧ τ2 K = some (blkD ds) ∧ τ2 (K + 2) = some ⟨25, 2, [[.sl K 0 ds.length none 2, .v (.int .i64 bd)]], true⟩ ∧ τ2 (K + 2 + 1) = some (blkI w) ∧ K + 2 + 1 < M)
      ⟨_, _, _, _, ⟨0, 1, by omega, rfl, rfl, rfl, by simp (disch := omega) only [upd_eq, upd_ne, del_ne], by simp (disch := omega) only [upd_eq, upd_ne, del_ne], by simp (disch := omega) only [upd_eq, upd_ne, del_ne], by omega⟩, Weak.tau (by simp [LQ])⟩ ?_
    rintro n τ σ2 M ⟨j, q, hj, rfl, hq, rfl, hd0, hd1, hd2, hM⟩
    have hqb := pw_nat (j := j) (by omega)
    rw [← hq] at hqb
    by_cases hlt : j < pcN a
    · have hq2 : 2 * q = 2 ^ (j + 1) := by rw [hq, Nat.pow_succ]; omega
      obtain ⟨e, he⟩ : ∃ e, pcN a - j = e + 1 := ⟨pcN a - j - 1, by omega⟩
      have he2 : pcN a - (j + 1) = e := by omega
      rw [he]
      have hp0 : (0 : Int) < (e : Int) + 1 := by omega
      have hpw2 := pw_nat (j := j + 1) (by omega)
      repeat' (first
        | refine AWP.seq ?_
        | refine AWP.block ?_
        | (refine AWP.skip ?_; simp only [thenA, blockA, reduceIte])
        | (refine AWP.exit ?_; simp only [thenA, blockA, eq_self, reduceIte, Nat.reduceEqDiff, Nat.succ_ne_zero])
        | (refine AWP.ret ?_; simp only [thenA, blockA, reduceIte])
        | (refine AWP.region (by rfl) (fun KK hKK => ?_); (repeat (simp (disch := omega) [hp0])); first | (refine hKK _ _ _ ?_; clear hKK KK; simp only [thenA, blockA, reduceIte]) | skip)
        | (refine AWP.draw' mixd (by rfl) (by kernel_rfl) (fun KK tab hKK htab => ?_); (repeat (simp (disch := omega) [hp0])); first | (refine dEnd_ro ?_ (hKK _ _ _ ?_); (focus (simp; done)); clear htab tab hKK KK; simp only [thenA, blockA, reduceIte]) | (refine dEnd_of ?_ (hKK _ _ _ ?_); (focus (simp only [List.reverse_cons, List.reverse_nil, List.nil_append, List.cons_append, memA, mem1, and_true, true_and]; (repeat' apply And.intro); (all_goals (first | trivial | (refine .inr ⟨?_, ?_⟩ <;> (simp; done)) | (refine .inr ⟨?_, ?_⟩ <;> (simp <;> omega)) | (refine .inl ?_; rw [htab]; kernel_rfl))); done)); clear htab tab hKK KK; simp only [thenA, blockA, reduceIte]) | skip)
        | (refine AWP.if_t ?_ ?_; focus (simp (disch := omega) [hp0]; done))
        | (refine AWP.if_f ?_ ?_; focus (simp (disch := omega) [hp0]; done)))
      refine ⟨_, _, _, _, ?_, ⟨j + 1, 2 * q, by omega, rfl, hq2, rfl, by simp (disch := omega) only [upd_eq, upd_ne, del_ne, hd0], by simp (disch := omega) only [upd_eq, upd_ne, del_ne, hd1], by simp (disch := omega) only [upd_eq, upd_ne, del_ne, hd2], by omega⟩, Weak.tau (by simp [LQ, he2])⟩
      omega
    · have hje : j = pcN a := by omega
      rw [hje] at hq
      have hq3 : q = w.length := by omega
      subst hq3
      have h0 : pcN a - j = 0 := by omega
      rw [h0]
      repeat' (first
        | refine AWP.seq ?_
        | refine AWP.block ?_
        | (refine AWP.skip ?_; simp only [thenA, blockA, reduceIte])
        | (refine AWP.exit ?_; simp only [thenA, blockA, eq_self, reduceIte, Nat.reduceEqDiff, Nat.succ_ne_zero])
        | (refine AWP.ret ?_; simp only [thenA, blockA, reduceIte])
        | (refine AWP.region (by rfl) (fun KK hKK => ?_); (repeat (simp (disch := omega) [])); first | (refine hKK _ _ _ ?_; clear hKK KK; simp only [thenA, blockA, reduceIte]) | skip)
        | (refine AWP.draw' mixd (by rfl) (by kernel_rfl) (fun KK tab hKK htab => ?_); (repeat (simp (disch := omega) [])); first | (refine dEnd_ro ?_ (hKK _ _ _ ?_); (focus (simp; done)); clear htab tab hKK KK; simp only [thenA, blockA, reduceIte]) | (refine dEnd_of ?_ (hKK _ _ _ ?_); (focus (simp only [List.reverse_cons, List.reverse_nil, List.nil_append, List.cons_append, memA, mem1, and_true, true_and]; (repeat' apply And.intro); (all_goals (first | trivial | (refine .inr ⟨?_, ?_⟩ <;> (simp; done)) | (refine .inr ⟨?_, ?_⟩ <;> (simp <;> omega)) | (refine .inl ?_; rw [htab]; kernel_rfl))); done)); clear htab tab hKK KK; simp only [thenA, blockA, reduceIte]) | skip)
        | (refine AWP.if_t ?_ ?_; focus (simp (disch := omega) []; done))
        | (refine AWP.if_f ?_ ?_; focus (simp (disch := omega) []; done)))
      refine AWP.loop (fun n τ τ2 M => ∃ k : Nat, k ≤ w.length ∧ n = w.length - k ∧ τ = [(3, .ptr (K + 2) 0 0), (4, .v (.int .i64 a)), (5, .sl (K + 2 + 1) 0 w.length (some w.length) 1), (6, .v (.int .i64 w.length)), (8, .v (.int .i64 k))] ∧ τ2 K = some (blkD ds) ∧ τ2 (K + 2) = some ⟨25, 2, [[.sl K 0 ds.length none 2, .v (.int .i64 bd)]], true⟩ ∧ τ2 (K + 2 + 1) = some (blkI w) ∧ K + 2 + 1 < M)
        ⟨_, _, _, _, ⟨0, by omega, rfl, rfl, by simp (disch := omega) only [upd_eq, upd_ne, del_ne, hd0], by simp (disch := omega) only [upd_eq, upd_ne, del_ne, hd1], by simp (disch := omega) only [upd_eq, upd_ne, del_ne, hd2], by omega⟩, Weak.tau (by simp [LQ])⟩ ?_
      rintro n τ σ3 M1 ⟨k, hk, rfl, rfl, ha0, ha1, ha2, hM1⟩
      by_cases hkl : k < w.length
      · have hrk : (rowsI w)[k]? = some [.v (.int .i64 w[k])] := by rw [List.getElem?_eq_getElem (by rw [rowsI_len]; exact hkl), rowsI_get _ _ hkl]
        have hhk := hmem _ (List.getElem_mem hkl)
        repeat' (first
          | refine AWP.seq ?_
          | refine AWP.block ?_
          | (refine AWP.skip ?_; simp only [thenA, blockA, reduceIte])
          | (refine AWP.exit ?_; simp only [thenA, blockA, eq_self, reduceIte, Nat.reduceEqDiff, Nat.succ_ne_zero])
          | (refine AWP.ret ?_; simp only [thenA, blockA, reduceIte])
          | (refine AWP.region (by rfl) (fun KK hKK => ?_); (repeat (simp (disch := omega) [hkl, ha1, ha2, hrk, hhk])); first | (refine hKK _ _ _ ?_; clear hKK KK; simp only [thenA, blockA, reduceIte]) | skip)
          | (refine AWP.draw' mixd (by rfl) (by kernel_rfl) (fun KK tab hKK htab => ?_); (repeat (simp (disch := omega) [hkl, ha1, ha2, hrk, hhk])); first | (refine dEnd_ro ?_ (hKK _ _ _ ?_); (focus (simp; done)); clear htab tab hKK KK; simp only [thenA, blockA, reduceIte]) | (refine dEnd_of ?_ (hKK _ _ _ ?_); (focus (simp only [List.reverse_cons, List.reverse_nil, List.nil_append, List.cons_append, memA, mem1, and_true, true_and]; (repeat' apply And.intro); (all_goals (first | trivial | (refine .inr ⟨?_, ?_⟩ <;> (simp; done)) | (refine .inr ⟨?_, ?_⟩ <;> (simp <;> omega)) | (refine .inl ?_; rw [htab]; kernel_rfl))); done)); clear htab tab hKK KK; simp only [thenA, blockA, reduceIte]) | skip)
          | (refine AWP.if_t ?_ ?_; focus (simp (disch := omega) [hkl, ha1, ha2, hrk, hhk]; done))
          | (refine AWP.if_f ?_ ?_; focus (simp (disch := omega) [hkl, ha1, ha2, hrk, hhk]; done)))
        repeat
          first
            | (refine dStop_roA (fun σ' hσ' => hasAll_c σ' _ _ ds bd _ _ (by first | exact (Sl.whole (t := 77) (r := true) ((hσ' _ (by simp)).trans (by simp (disch := omega) only [upd_eq, upd_ne, del_ne, ha0])) (by simp [rowsD_len])) | exact (Sl.whole (t := 77) (r := true) (by simp (disch := omega) only [upd_eq, upd_ne, del_ne, ha0]) (by simp [rowsD_len]))) hl9 hsz) ?_)
          (repeat (simp (disch := omega) [hkl, ha1, ha2, hrk, hhk]))
          first | (refine dEnd_ro ?_ (hKK _ _ _ ?_); (focus (simp; done)); clear htab tab hKK KK; simp only [thenA, blockA, reduceIte]) | (refine dEnd_of ?_ (hKK _ _ _ ?_); (focus (simp only [List.reverse_cons, List.reverse_nil, List.nil_append, List.cons_append, memA, mem1, and_true, true_and]; (repeat' apply And.intro); (all_goals (first | trivial | (refine .inr ⟨?_, ?_⟩ <;> (simp; done)) | (refine .inr ⟨?_, ?_⟩ <;> (simp <;> omega)) | (refine .inl ?_; rw [htab]; kernel_rfl))); done)); clear htab tab hKK KK; simp only [thenA, blockA, reduceIte]) | (refine hKK _ _ _ ?_; clear hKK KK; simp only [thenA, blockA, reduceIte]) | skip
          repeat' (first
            | refine AWP.seq ?_
            | refine AWP.block ?_
            | (refine AWP.skip ?_; simp only [thenA, blockA, reduceIte])
            | (refine AWP.exit ?_; simp only [thenA, blockA, eq_self, reduceIte, Nat.reduceEqDiff, Nat.succ_ne_zero])
            | (refine AWP.ret ?_; simp only [thenA, blockA, reduceIte])
            | (refine AWP.region (by rfl) (fun KK hKK => ?_); (repeat (simp (disch := omega) [hkl, ha1, ha2, hrk, hhk])); first | (refine hKK _ _ _ ?_; clear hKK KK; simp only [thenA, blockA, reduceIte]) | skip)
            | (refine AWP.draw' mixd (by rfl) (by kernel_rfl) (fun KK tab hKK htab => ?_); (repeat (simp (disch := omega) [hkl, ha1, ha2, hrk, hhk])); first | (refine dEnd_ro ?_ (hKK _ _ _ ?_); (focus (simp; done)); clear htab tab hKK KK; simp only [thenA, blockA, reduceIte]) | (refine dEnd_of ?_ (hKK _ _ _ ?_); (focus (simp only [List.reverse_cons, List.reverse_nil, List.nil_append, List.cons_append, memA, mem1, and_true, true_and]; (repeat' apply And.intro); (all_goals (first | trivial | (refine .inr ⟨?_, ?_⟩ <;> (simp; done)) | (refine .inr ⟨?_, ?_⟩ <;> (simp <;> omega)) | (refine .inl ?_; rw [htab]; kernel_rfl))); done)); clear htab tab hKK KK; simp only [thenA, blockA, reduceIte]) | skip)
            | (refine AWP.if_t ?_ ?_; focus (simp (disch := omega) [hkl, ha1, ha2, hrk, hhk]; done))
            | (refine AWP.if_f ?_ ?_; focus (simp (disch := omega) [hkl, ha1, ha2, hrk, hhk]; done)))
        refine ⟨_, _, _, _, ?_, ⟨k + 1, by omega, rfl, rfl, by simp (disch := omega) only [upd_eq, upd_ne, del_ne, ha0], by simp (disch := omega) only [upd_eq, upd_ne, del_ne, ha1], by simp (disch := omega) only [upd_eq, upd_ne, del_ne, ha2], by omega⟩, Weak.tau (by simp [LQ])⟩
        omega
      · have e1 : ((w.length : Nat) : Int) - 1 = (w.length - 1 : Nat) := by omega
        have e2 : (0 : Int) ≤ (w.length : Int) - 1 := by omega
        have e3 : ((w.length : Int) - 1).toNat = w.length - 1 := by omega
        have e4 : w.length - 1 < w.length := by omega
        have e5 : (1 : Int) ≤ w.length := by omega
        have e6 : (w.length : Int) - 1 < w.length := by omega
        repeat' (first
          | refine AWP.seq ?_
          | refine AWP.block ?_
          | (refine AWP.skip ?_; simp only [thenA, blockA, reduceIte])
          | (refine AWP.exit ?_; simp only [thenA, blockA, eq_self, reduceIte, Nat.reduceEqDiff, Nat.succ_ne_zero])
          | (refine AWP.ret ?_; simp only [thenA, blockA, reduceIte])
          | (refine AWP.region (by rfl) (fun KK hKK => ?_); (repeat (simp (disch := omega) [hkl, ha2, hf0, hfl, hw1, e2, e3, e4, e5, e6])); first | (refine hKK _ _ _ ?_; clear hKK KK; simp only [thenA, blockA, reduceIte]) | skip)
          | (refine AWP.draw' mixd (by rfl) (by kernel_rfl) (fun KK tab hKK htab => ?_); (repeat (simp (disch := omega) [hkl, ha2, hf0, hfl, hw1, e2, e3, e4, e5, e6])); first | (refine dEnd_ro ?_ (hKK _ _ _ ?_); (focus (simp; done)); clear htab tab hKK KK; simp only [thenA, blockA, reduceIte]) | (refine dEnd_of ?_ (hKK _ _ _ ?_); (focus (simp only [List.reverse_cons, List.reverse_nil, List.nil_append, List.cons_append, memA, mem1, and_true, true_and]; (repeat' apply And.intro); (all_goals (first | trivial | (refine .inr ⟨?_, ?_⟩ <;> (simp; done)) | (refine .inr ⟨?_, ?_⟩ <;> (simp <;> omega)) | (refine .inl ?_; rw [htab]; kernel_rfl))); done)); clear htab tab hKK KK; simp only [thenA, blockA, reduceIte]) | skip)
          | (refine AWP.if_t ?_ ?_; focus (simp (disch := omega) [hkl, ha2, hf0, hfl, hw1, e2, e3, e4, e5, e6]; done))
          | (refine AWP.if_f ?_ ?_; focus (simp (disch := omega) [hkl, ha2, hf0, hfl, hw1, e2, e3, e4, e5, e6]; done)))
        repeat
          first
            | (refine aStop_of (ascends_yes _ _ _ w (by first | exact (Sl.whole (t := 3) (r := true) ((hσ' _ (by simp)).trans (by simp (disch := omega) only [upd_eq, upd_ne, del_ne, ha2])) (by simp [rowsI_len])) | exact (Sl.whole (t := 3) (r := true) (by simp (disch := omega) only [upd_eq, upd_ne, del_ne, ha2]) (by simp [rowsI_len]))) (by omega) hasc) ?_; rintro r δ ⟨rfl, rfl⟩)
          (repeat (simp (disch := omega) [hkl, ha2, hf0, hfl, hw1, e2, e3, e4, e5, e6]))
          first | (refine dEnd_ro ?_ (hKK _ _ _ ?_); (focus (simp; done)); clear htab tab hKK KK; simp only [thenA, blockA, reduceIte]) | (refine dEnd_of ?_ (hKK _ _ _ ?_); (focus (simp only [List.reverse_cons, List.reverse_nil, List.nil_append, List.cons_append, memA, mem1, and_true, true_and]; (repeat' apply And.intro); (all_goals (first | trivial | (refine .inr ⟨?_, ?_⟩ <;> (simp; done)) | (refine .inr ⟨?_, ?_⟩ <;> (simp <;> omega)) | (refine .inl ?_; rw [htab]; kernel_rfl))); done)); clear htab tab hKK KK; simp only [thenA, blockA, reduceIte]) | (refine hKK _ _ _ ?_; clear hKK KK; simp only [thenA, blockA, reduceIte]) | skip
          repeat' (first
            | refine AWP.seq ?_
            | refine AWP.block ?_
            | (refine AWP.skip ?_; simp only [thenA, blockA, reduceIte])
            | (refine AWP.exit ?_; simp only [thenA, blockA, eq_self, reduceIte, Nat.reduceEqDiff, Nat.succ_ne_zero])
            | (refine AWP.ret ?_; simp only [thenA, blockA, reduceIte])
            | (refine AWP.region (by rfl) (fun KK hKK => ?_); (repeat (simp (disch := omega) [hkl, ha2, hf0, hfl, hw1, e2, e3, e4, e5, e6])); first | (refine hKK _ _ _ ?_; clear hKK KK; simp only [thenA, blockA, reduceIte]) | skip)
            | (refine AWP.draw' mixd (by rfl) (by kernel_rfl) (fun KK tab hKK htab => ?_); (repeat (simp (disch := omega) [hkl, ha2, hf0, hfl, hw1, e2, e3, e4, e5, e6])); first | (refine dEnd_ro ?_ (hKK _ _ _ ?_); (focus (simp; done)); clear htab tab hKK KK; simp only [thenA, blockA, reduceIte]) | (refine dEnd_of ?_ (hKK _ _ _ ?_); (focus (simp only [List.reverse_cons, List.reverse_nil, List.nil_append, List.cons_append, memA, mem1, and_true, true_and]; (repeat' apply And.intro); (all_goals (first | trivial | (refine .inr ⟨?_, ?_⟩ <;> (simp; done)) | (refine .inr ⟨?_, ?_⟩ <;> (simp <;> omega)) | (refine .inl ?_; rw [htab]; kernel_rfl))); done)); clear htab tab hKK KK; simp only [thenA, blockA, reduceIte]) | skip)
            | (refine AWP.if_t ?_ ?_; focus (simp (disch := omega) [hkl, ha2, hf0, hfl, hw1, e2, e3, e4, e5, e6]; done))
            | (refine AWP.if_f ?_ ?_; focus (simp (disch := omega) [hkl, ha2, hf0, hfl, hw1, e2, e3, e4, e5, e6]; done)))
        refine ⟨by simp, _, rfl, fin0 ⟨?_, rfl⟩ (by simp [resO, get, nms, nmss]; try (simp [nms, nmss] at hn; simp_all))⟩
        simp [resO, get, ren, rens]
end Go.Proofs.Ytbcooikoaplhcaa
