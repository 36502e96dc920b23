/- The law of NextMember, walked: it answers true for every code. No condition but sizes that every input has. -/
import Derived.Test.YthjjfdbkggiaeaaN1
import Derived.Test.YthjjfdbkggiaeaaG6
set_option linter.unusedSimpArgs false
set_option linter.unusedVariables false
namespace Go.Proofs.Ythjjfdbkggiaeaa
open Go Go.RowKit

theorem nxN_at {ds : List Df} {i j : Nat} (hj : j < (memF ds).length) (h : i % (memF ds).length = j) : nxN ds i = (memF ds)[j].1 := by
  unfold nxN
  rw [h, List.getD_eq_getElem?_getD, List.getElem?_eq_getElem hj]
  rfl
/-- The member behind that of rank m. -/
theorem next_step {ds : List Df} (hok : okDs (-1000) 1000 ds = true) {t : ByteArray} {m : Nat} (hm : rkO ds t = (m % (memF ds).length : Nat)) (hL : 0 < (memF ds).length) : nxO ds t = some (nxN ds (m + 1)) ∧ rkO ds (nxN ds (m + 1)) = ((m + 1) % (memF ds).length : Nat) := by
  have h1 : nxN ds (m % (memF ds).length + 1) = nxN ds (m + 1) := by unfold nxN; rw [Nat.mod_add_mod]
  refine ⟨?_, ?_⟩
  · unfold nxO
    rw [if_pos (by omega), hm, ← h1]
    rfl
  · have hlt : (m + 1) % (memF ds).length < (memF ds).length := Nat.mod_lt _ hL
    rw [nxN_at hlt rfl]
    exact rk_mem hok hlt

set_option maxRecDepth 10000 in
set_option maxHeartbeats 4000000 in
theorem next_law_c (σ : Sto) (ν : Nat) (x : AV) (cs : List Int) (hx : Sl σ x 1 (rowsB cs)) (hlen : cs.length ≤ 9223372036854775807) (h8 : ∀ y ∈ cs, 0 ≤ y ∧ y ≤ 255) :
    AC Try.prog 11 [x] σ ν fun r δ => r = .v (.bool true) ∧ δ = noS := by
  obtain ⟨b, o, cap, z, rfl⟩ := hx.out
  simp only [rowsB_len] at hx ⊢
  refine AC.intro [] ent_11 Try.func11 rfl (by simp [Try.f11]) (by simp) ?_
  intro K s hs hB hn hν hA hFr
  simp only [argT, Nat.zero_add, Nat.reduceAdd]
  have hx' := hx.vw hs.vw
  by_cases h1 : (1048576 : Int) < cs.length
  · repeat' (first
      | refine AWP.seq ?_
      | refine AWP.block ?_
      | (refine AWP.skip ?_; simp only [thenA, blockA, reduceIte])
      | (refine AWP.exit ?_; simp only [thenA, blockA, eq_self, reduceIte, Nat.reduceEqDiff, Nat.succ_ne_zero])
      | (refine AWP.ret ?_; simp only [thenA, blockA, reduceIte])
      | (refine AWP.region (by rfl) (fun KK hKK => ?_); (repeat (simp (disch := omega) [h1])); first | (refine hKK _ _ _ ?_; clear hKK KK; simp only [thenA, blockA, reduceIte]) | skip)
      | (refine AWP.if_t ?_ ?_; focus (simp (disch := omega) [h1]; done))
      | (refine AWP.if_f ?_ ?_; focus (simp (disch := omega) [h1]; done)))
    refine ⟨by simp, _, rfl, fin0 ⟨?_, rfl⟩ (by simp [resO, get, nms, nmss]; try (simp [nms, nmss] at hn; simp_all))⟩
    simp [resO, get, ren, rens]
  repeat' (first
    | refine AWP.seq ?_
    | refine AWP.block ?_
    | (refine AWP.skip ?_; simp only [thenA, blockA, reduceIte])
    | (refine AWP.exit ?_; simp only [thenA, blockA, eq_self, reduceIte, Nat.reduceEqDiff, Nat.succ_ne_zero])
    | (refine AWP.ret ?_; simp only [thenA, blockA, reduceIte])
    | (refine AWP.region (by rfl) (fun KK hKK => ?_); (repeat (simp (disch := omega) [h1])); first | (refine hKK _ _ _ ?_; clear hKK KK; simp only [thenA, blockA, reduceIte]) | skip)
    | (refine AWP.if_t ?_ ?_; focus (simp (disch := omega) [h1]; done))
    | (refine AWP.if_f ?_ ?_; focus (simp (disch := omega) [h1]; done)))
  refine aStop_of (DrawNextMember_c _ _ _ cs (hx'.vw ((Vw.refl _).over (by repeat (first | exact Over.refl _ | exact hov | refine Over.upd ?_ hB (by omega) | refine Over.del ?_ hB (by omega))))) h8 hlen) ?_
  rintro r δ ⟨ds, t, hgd, hnm, rfl, rfl⟩
  (repeat (simp (disch := omega) []))
  first | (refine hKK _ _ _ ?_; clear hKK KK; simp only [thenA, blockA, reduceIte]) | skip
  have hl := hgd.len
  have hml := memF_len ds
  have hsz : ∀ d ∈ ds, d.1.size ≤ 9223372036854775807 := fun d hd => by have := hgd.sz d hd; omega
  repeat' (first
    | refine AWP.seq ?_
    | refine AWP.block ?_
    | (refine AWP.skip ?_; simp only [thenA, blockA, reduceIte])
    | (refine AWP.exit ?_; simp only [thenA, blockA, eq_self, reduceIte, Nat.reduceEqDiff, Nat.succ_ne_zero])
    | (refine AWP.ret ?_; simp only [thenA, blockA, reduceIte])
    | (refine AWP.region (by rfl) (fun KK hKK => ?_); (repeat (simp (disch := omega) [])); first | (refine hKK _ _ _ ?_; clear hKK KK; simp only [thenA, blockA, reduceIte]) | skip)
    | (refine AWP.if_t ?_ ?_; focus (simp (disch := omega) []; done))
    | (refine AWP.if_f ?_ ?_; focus (simp (disch := omega) []; done)))
  cases hv : valO ds t with
  | none =>
    have hr : rkO ds t = -1 := by simp only [rkO, hv]
    have ho : nxO ds t = none := by unfold nxO; rw [if_neg (by omega)]
    refine aStop_of (nextMember_c _ _ _ ds _ (Sl.whole (t := 33) (r := true) (by simp (disch := omega)) (by simp [rowsD_len])) (by omega) hsz) ?_
    rintro r δ ⟨rfl, rfl⟩
    (repeat (simp (disch := omega) [ho]))
    first | (refine hKK _ _ _ ?_; clear hKK KK; simp only [thenA, blockA, reduceIte]) | skip
    repeat' (first
      | refine AWP.seq ?_
      | refine AWP.block ?_
      | (refine AWP.skip ?_; simp only [thenA, blockA, reduceIte])
      | (refine AWP.exit ?_; simp only [thenA, blockA, eq_self, reduceIte, Nat.reduceEqDiff, Nat.succ_ne_zero])
      | (refine AWP.ret ?_; simp only [thenA, blockA, reduceIte])
      | (refine AWP.region (by rfl) (fun KK hKK => ?_); (repeat (simp (disch := omega) [])); first | (refine hKK _ _ _ ?_; clear hKK KK; simp only [thenA, blockA, reduceIte]) | skip)
      | (refine AWP.if_t ?_ ?_; focus (simp (disch := omega) []; done))
      | (refine AWP.if_f ?_ ?_; focus (simp (disch := omega) []; done)))
    refine aStop_of (nextMemberS_c _ _ _ ds _ (Sl.whole (t := 33) (r := true) (by simp (disch := omega)) (by simp [rowsD_len])) (by omega) hsz) ?_
    rintro r δ ⟨rfl, rfl⟩
    (repeat (simp (disch := omega) [ho]))
    first | (refine hKK _ _ _ ?_; clear hKK KK; simp only [thenA, blockA, reduceIte]) | skip
    repeat' (first
      | refine AWP.seq ?_
      | refine AWP.block ?_
      | (refine AWP.skip ?_; simp only [thenA, blockA, reduceIte])
      | (refine AWP.exit ?_; simp only [thenA, blockA, eq_self, reduceIte, Nat.reduceEqDiff, Nat.succ_ne_zero])
      | (refine AWP.ret ?_; simp only [thenA, blockA, reduceIte])
      | (refine AWP.region (by rfl) (fun KK hKK => ?_); (repeat (simp (disch := omega) [])); first | (refine hKK _ _ _ ?_; clear hKK KK; simp only [thenA, blockA, reduceIte]) | skip)
      | (refine AWP.if_t ?_ ?_; focus (simp (disch := omega) []; done))
      | (refine AWP.if_f ?_ ?_; focus (simp (disch := omega) []; done)))
    refine ⟨by simp, _, rfl, fin0 ⟨?_, rfl⟩ (by simp [resO, get, nms, nmss]; try (simp [nms, nmss] at hn; simp_all))⟩
    simp [resO, get, ren, rens]
  | some n =>
    obtain ⟨hok, _⟩ := valO_some hv
    obtain ⟨r, hrl, hr, _, _⟩ := rk_some hv
    have hr2 : rkO ds t = (r % (memF ds).length : Nat) := by rw [Nat.mod_eq_of_lt hrl, hr]
    obtain ⟨ho, _⟩ := next_step hok hr2 (by omega)
    have hnl : (nmF (fun _ => true) (memF ds)).length = (memF ds).length := by rw [nmF_true, List.length_map]
    have hm : mnO ds = some (nmF (fun _ => true) (memF ds)) := by simp [mnO, hok]
    refine aStop_of (nextMember_c _ _ _ ds _ (Sl.whole (t := 33) (r := true) (by simp (disch := omega)) (by simp [rowsD_len])) (by omega) hsz) ?_
    rintro r δ ⟨rfl, rfl⟩
    (repeat (simp (disch := omega) [ho]))
    first | (refine hKK _ _ _ ?_; clear hKK KK; simp only [thenA, blockA, reduceIte]) | skip
    repeat' (first
      | refine AWP.seq ?_
      | refine AWP.block ?_
      | (refine AWP.skip ?_; simp only [thenA, blockA, reduceIte])
      | (refine AWP.exit ?_; simp only [thenA, blockA, eq_self, reduceIte, Nat.reduceEqDiff, Nat.succ_ne_zero])
      | (refine AWP.ret ?_; simp only [thenA, blockA, reduceIte])
      | (refine AWP.region (by rfl) (fun KK hKK => ?_); (repeat (simp (disch := omega) [])); first | (refine hKK _ _ _ ?_; clear hKK KK; simp only [thenA, blockA, reduceIte]) | skip)
      | (refine AWP.if_t ?_ ?_; focus (simp (disch := omega) []; done))
      | (refine AWP.if_f ?_ ?_; focus (simp (disch := omega) []; done)))
    refine aStop_of (nextMemberS_c _ _ _ ds _ (Sl.whole (t := 33) (r := true) (by simp (disch := omega)) (by simp [rowsD_len])) (by omega) hsz) ?_
    rintro r δ ⟨rfl, rfl⟩
    (repeat (simp (disch := omega) [ho]))
    first | (refine hKK _ _ _ ?_; clear hKK KK; simp only [thenA, blockA, reduceIte]) | skip
    repeat' (first
      | refine AWP.seq ?_
      | refine AWP.block ?_
      | (refine AWP.skip ?_; simp only [thenA, blockA, reduceIte])
      | (refine AWP.exit ?_; simp only [thenA, blockA, eq_self, reduceIte, Nat.reduceEqDiff, Nat.succ_ne_zero])
      | (refine AWP.ret ?_; simp only [thenA, blockA, reduceIte])
      | (refine AWP.region (by rfl) (fun KK hKK => ?_); (repeat (simp (disch := omega) [])); first | (refine hKK _ _ _ ?_; clear hKK KK; simp only [thenA, blockA, reduceIte]) | skip)
      | (refine AWP.if_t ?_ ?_; focus (simp (disch := omega) []; done))
      | (refine AWP.if_f ?_ ?_; focus (simp (disch := omega) []; done)))
    refine aStop_of (MembersOf_c _ _ _ ds (Sl.whole (t := 33) (r := true) (by simp (disch := omega)) (by simp [rowsD_len])) (by omega) hsz) ?_
    rintro r δ ⟨rfl, rfl⟩
    (repeat (simp (disch := omega) [hm, sOut_some, dOutS_some, hnl]))
    first | (refine hKK _ _ _ ?_; clear hKK KK; simp only [thenA, blockA, reduceIte]) | skip
    repeat' (first
      | refine AWP.seq ?_
      | refine AWP.block ?_
      | (refine AWP.skip ?_; simp only [thenA, blockA, reduceIte])
      | (refine AWP.exit ?_; simp only [thenA, blockA, eq_self, reduceIte, Nat.reduceEqDiff, Nat.succ_ne_zero])
      | (refine AWP.ret ?_; simp only [thenA, blockA, reduceIte])
      | (refine AWP.region (by rfl) (fun KK hKK => ?_); (repeat (simp (disch := omega) [])); first | (refine hKK _ _ _ ?_; clear hKK KK; simp only [thenA, blockA, reduceIte]) | skip)
      | (refine AWP.if_t ?_ ?_; focus (simp (disch := omega) []; done))
      | (refine AWP.if_f ?_ ?_; focus (simp (disch := omega) []; done)))
    refine AWP.loop (fun n τ τ2 M => ∃ (k : Nat) (now : ByteArray), k ≤ (memF ds).length ∧ n = (memF ds).length - k ∧ rkO ds now = ((r + k) % (memF ds).length : Nat) ∧ (k = 0 ∨ now = nxN ds (r + k)) ∧ τ = [(3, .ptr (K + 2) 0 0), (4, .v (.string t)), (5, .v (.string (nxN ds (r + 1)))), (9, .v (.string now)), (10, .sl (K + 2 + 1 + 2 + 2) 0 (memF ds).length (some (memF ds).length) 1), (11, .v (.int .i64 k))] ∧ τ2 K = some (blkD ds) ∧ τ2 (K + 2) = some (blkE (.sl K 0 ds.length none 2)) ∧ τ2 (K + 2 + 1 + 2 + 2) = some (blkS (nmF (fun _ => true) (memF ds))) ∧ K + 2 + 1 + 2 + 2 < M)
      ⟨_, _, _, _, ⟨0, t, by omega, rfl, hr2, .inl rfl, rfl, by simp (disch := omega) only [upd_eq, upd_ne], by simp (disch := omega) only [upd_eq, upd_ne], by simp (disch := omega) only [upd_eq, upd_ne], by omega⟩, Weak.tau (by simp [LQ])⟩ ?_
    rintro n τ σ2 M ⟨k, now, hk, rfl, hrk, hnw, rfl, hb0, hb1, hb2, hM⟩
    by_cases hlt : k < (memF ds).length
    · obtain ⟨hnx, hrk2⟩ := next_step hok hrk (by omega)
      repeat' (first
        | refine AWP.seq ?_
        | refine AWP.block ?_
        | (refine AWP.skip ?_; simp only [thenA, blockA, reduceIte])
        | (refine AWP.exit ?_; simp only [thenA, blockA, eq_self, reduceIte, Nat.reduceEqDiff, Nat.succ_ne_zero])
        | (refine AWP.ret ?_; simp only [thenA, blockA, reduceIte])
        | (refine AWP.region (by rfl) (fun KK hKK => ?_); (repeat (simp (disch := omega) [hlt, hb1])); first | (refine hKK _ _ _ ?_; clear hKK KK; simp only [thenA, blockA, reduceIte]) | skip)
        | (refine AWP.if_t ?_ ?_; focus (simp (disch := omega) [hlt, hb1]; done))
        | (refine AWP.if_f ?_ ?_; focus (simp (disch := omega) [hlt, hb1]; done)))
      refine aStop_of (nextMember_c _ _ _ ds _ (Sl.whole (t := 33) (r := true) (by simp (disch := omega) only [upd_eq, upd_ne, del_ne, hb0]) (by simp [rowsD_len])) (by omega) hsz) ?_
      rintro r δ ⟨rfl, rfl⟩
      (repeat (simp (disch := omega) [hnx]))
      first | (refine hKK _ _ _ ?_; clear hKK KK; simp only [thenA, blockA, reduceIte]) | skip
      repeat' (first
        | refine AWP.seq ?_
        | refine AWP.block ?_
        | (refine AWP.skip ?_; simp only [thenA, blockA, reduceIte])
        | (refine AWP.exit ?_; simp only [thenA, blockA, eq_self, reduceIte, Nat.reduceEqDiff, Nat.succ_ne_zero])
        | (refine AWP.ret ?_; simp only [thenA, blockA, reduceIte])
        | (refine AWP.region (by rfl) (fun KK hKK => ?_); (repeat (simp (disch := omega) [])); first | (refine hKK _ _ _ ?_; clear hKK KK; simp only [thenA, blockA, reduceIte]) | skip)
        | (refine AWP.if_t ?_ ?_; focus (simp (disch := omega) []; done))
        | (refine AWP.if_f ?_ ?_; focus (simp (disch := omega) []; done)))
      refine ⟨_, _, _, _, ?_, ⟨k + 1, nxN ds (r + k + 1), by omega, rfl, hrk2, .inr rfl, rfl, by simp (disch := omega) only [upd_eq, upd_ne, hb0], by simp (disch := omega) only [upd_eq, upd_ne, hb1], by simp (disch := omega) only [upd_eq, upd_ne, hb2], by omega⟩, Weak.tau (by simp [LQ])⟩
      omega
    · have hk' : k = (memF ds).length := by omega
      subst hk'
      have hnr : now = (memF ds)[r].1 := by
        rw [hnw.resolve_left (by omega)]
        exact nxN_at hrl (by rw [Nat.add_mod_right, Nat.mod_eq_of_lt hrl])
      have hat : (rowsS (nmF (fun _ => true) (memF ds)))[r]? = some [.v (.string (memF ds)[r].1)] := by
        rw [List.getElem?_eq_getElem (by rw [rowsS_len]; omega), rowsS_get _ _ (by omega)]
        simp [nmF_true]
      have hj1 : (r + 1) % (memF ds).length < (memF ds).length := Nat.mod_lt _ (by omega)
      have hh : hasF (nmF (fun _ => true) (memF ds)) (nxN ds (r + 1)) = true := by
        rw [hasF_iff, nmF_true, nxN_at hj1 rfl]
        exact List.mem_map.2 ⟨_, List.getElem_mem hj1, rfl⟩
      repeat' (first
        | refine AWP.seq ?_
        | refine AWP.block ?_
        | (refine AWP.skip ?_; simp only [thenA, blockA, reduceIte])
        | (refine AWP.exit ?_; simp only [thenA, blockA, eq_self, reduceIte, Nat.reduceEqDiff, Nat.succ_ne_zero])
        | (refine AWP.ret ?_; simp only [thenA, blockA, reduceIte])
        | (refine AWP.region (by rfl) (fun KK hKK => ?_); (repeat (simp (disch := omega) [hlt, hb1])); first | (refine hKK _ _ _ ?_; clear hKK KK; simp only [thenA, blockA, reduceIte]) | skip)
        | (refine AWP.if_t ?_ ?_; focus (simp (disch := omega) [hlt, hb1]; done))
        | (refine AWP.if_f ?_ ?_; focus (simp (disch := omega) [hlt, hb1]; done)))
      refine aStop_of (rankOf_c _ _ _ ds _ (Sl.whole (t := 33) (r := true) (by simp (disch := omega) only [upd_eq, upd_ne, del_ne, hb0]) (by simp [rowsD_len])) (by omega) hsz) ?_
      rintro r δ ⟨rfl, rfl⟩
      (repeat (simp (disch := omega) [hr, hrl, hb2, hat, hnr]))
      first | (refine hKK _ _ _ ?_; clear hKK KK; simp only [thenA, blockA, reduceIte]) | skip
      refine aStop_of (hasText_c _ _ _ (nmF (fun _ => true) (memF ds)) _ (hnl ▸ (Sl.whole (t := 9) (r := true) (by simp (disch := omega) only [upd_eq, upd_ne, del_ne, hb2]) (by simp [rowsS_len]))) (by omega)) ?_
      rintro r δ ⟨rfl, rfl⟩
      (repeat (simp (disch := omega) [hh]))
      first | (refine hKK _ _ _ ?_; clear hKK KK; simp only [thenA, blockA, reduceIte]) | skip
      repeat' (first
        | refine AWP.seq ?_
        | refine AWP.block ?_
        | (refine AWP.skip ?_; simp only [thenA, blockA, reduceIte])
        | (refine AWP.exit ?_; simp only [thenA, blockA, eq_self, reduceIte, Nat.reduceEqDiff, Nat.succ_ne_zero])
        | (refine AWP.ret ?_; simp only [thenA, blockA, reduceIte])
        | (refine AWP.region (by rfl) (fun KK hKK => ?_); (repeat (simp (disch := omega) [])); first | (refine hKK _ _ _ ?_; clear hKK KK; simp only [thenA, blockA, reduceIte]) | skip)
        | (refine AWP.if_t ?_ ?_; focus (simp (disch := omega) []; done))
        | (refine AWP.if_f ?_ ?_; focus (simp (disch := omega) []; done)))
      refine ⟨by simp, _, rfl, fin0 ⟨?_, rfl⟩ (by simp [resO, get, nms, nmss]; try (simp [nms, nmss] at hn; simp_all))⟩
      simp [resO, get, ren, rens]
end Go.Proofs.Ythjjfdbkggiaeaa
