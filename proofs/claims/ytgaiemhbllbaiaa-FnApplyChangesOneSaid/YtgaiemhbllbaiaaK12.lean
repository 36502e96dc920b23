/- Contracts: changes made one by one, in the reference. No condition but sizes. -/
import Derived.Test.YtgaiemhbllbaiaaK11
set_option linter.unusedSimpArgs false
set_option linter.unusedVariables false
namespace Go.Proofs.Ytgaiemhbllbaiaa
open Go Go.RowKit

theorem apC_sz {ds l : List Df} {c : Ch} (h : apC ds c = some l) (h1 : ∀ d ∈ ds, d.1.size ≤ 9223372036854775807) (h2 : c.2.1.size ≤ 9223372036854775807) : (∀ d ∈ l, d.1.size ≤ 9223372036854775807) ∧ l.length ≤ ds.length + 1 := by
  unfold apC at h
  split at h
  · split at h
    · cases h
      refine ⟨fun d hd => ?_, by simp⟩
      rcases List.mem_append.1 hd with hd | hd
      · exact h1 d hd
      · rw [List.mem_singleton.1 hd]; exact h2
    · cases h
  · split at h
    · cases h
    · split at h
      · split at h
        · split at h
          · cases h
            refine ⟨fun d hd => h1 d (List.mem_of_mem_eraseIdx hd), ?_⟩
            have := List.length_eraseIdx_le ds (nameIx ds c.2.1).toNat
            omega
          · cases h
        · split at h
          · cases h
            refine ⟨fun d hd => ?_, by simp⟩
            rcases List.mem_or_eq_of_mem_set hd with h | rfl
            · exact h1 d h
            · exact h2
          · cases h
      · cases h
set_option maxRecDepth 10000 in
set_option maxHeartbeats 8000000 in
theorem applyChangesS_c (σ : Sto) (ν : Nat) (x y : AV) (ds : List Df) (l : List Ch) (hx : Sl σ x 2 (rowsD ds)) (hy : Sl σ y 4 (rowsC l)) (hlen : ds.length ≤ 4294967295) (hsz : ∀ d ∈ ds, d.1.size ≤ 9223372036854775807) (hlen2 : l.length ≤ 4294967296) (hsc : ∀ c ∈ l, c.2.1.size ≤ 9223372036854775807) :
    AC Try.prog 30 [.agg [x], y] σ ν fun r δ => r = .tup [.agg [eOut ν (fun _ => none) (apO ds l)], .v (.bool (apO ds l).isSome)] ∧ δ = dOut ν (apO ds l) := by
  obtain ⟨b, o, cap, z, rfl⟩ := hx.out
  obtain ⟨b2, o2, cap2, z2, rfl⟩ := hy.out
  simp only [rowsD_len, rowsC_len] at hx hy ⊢
  cases hok : okDs (-1000) 1000 ds with
  | false =>
    have ho : apO ds l = none := apO_no (by simp [hok])
    rw [ho, eOut_none, dOut_none]
    refine AC.intro [] ent_30 Try.func30 rfl (by simp [Try.f30]) (by simp) ?_
    intro K s hs hB hn hν hA hFr
    simp only [argT, Nat.zero_add, Nat.reduceAdd]
    have hK0 : ¬ 0 = K := by omega
    have hK1 : ¬ 0 = K + 1 := by omega
    have hx' := hx.vw hs.vw
    repeat' (first
      | refine AWP.seq ?_
      | refine AWP.block ?_
      | (refine AWP.skip ?_; simp only [thenA, blockA, reduceIte])
      | (refine AWP.exit ?_; simp only [thenA, blockA, eq_self, reduceIte, Nat.reduceEqDiff, Nat.succ_ne_zero])
      | (refine AWP.ret ?_; simp only [thenA, blockA, reduceIte])
      | (refine AWP.region (by rfl) (fun KK hKK => ?_); (repeat (simp (disch := omega) [])); first | (refine hKK _ _ _ ?_; clear hKK KK; simp only [thenA, blockA, reduceIte]) | skip)
      | (refine AWP.draw' mixd (by rfl) (by kernel_rfl) (fun KK tab hKK htab => ?_); (repeat (simp (disch := omega) [])); first | (refine dEnd_ro ?_ (hKK _ _ _ ?_); (focus (simp; done)); clear htab tab hKK KK; simp only [thenA, blockA, reduceIte]) | (refine dEnd_of ?_ (hKK _ _ _ ?_); (focus (simp only [List.reverse_cons, List.reverse_nil, List.nil_append, List.cons_append, memA, mem1, and_true, true_and]; (repeat' apply And.intro); (all_goals (first | trivial | (refine .inr ⟨?_, ?_⟩ <;> (simp; done)) | (refine .inr ⟨?_, ?_⟩ <;> (simp <;> omega)) | (refine .inl ?_; rw [htab]; kernel_rfl))); done)); clear htab tab hKK KK; simp only [thenA, blockA, reduceIte]) | skip)
      | (refine AWP.if_t ?_ ?_; focus (simp (disch := omega) []; done))
      | (refine AWP.if_f ?_ ?_; focus (simp (disch := omega) []; done)))
    refine aStop_of (validEnumS_c _ _ _ ds (hx'.vw ((Vw.refl _).over (by repeat (first | exact Over.refl _ | exact hov | refine Over.upd ?_ hB (by omega) | refine Over.del ?_ hB (by omega))))) (by omega) hsz) ?_
    rintro r δ ⟨rfl, rfl⟩
    (repeat (simp (disch := omega) [hok]))
    first | (refine hKK _ _ _ ?_; clear hKK KK; simp only [thenA, blockA, reduceIte]) | skip
    repeat' (first
      | refine AWP.seq ?_
      | refine AWP.block ?_
      | (refine AWP.skip ?_; simp only [thenA, blockA, reduceIte])
      | (refine AWP.exit ?_; simp only [thenA, blockA, eq_self, reduceIte, Nat.reduceEqDiff, Nat.succ_ne_zero])
      | (refine AWP.ret ?_; simp only [thenA, blockA, reduceIte])
      | (refine AWP.region (by rfl) (fun KK hKK => ?_); (repeat (simp (disch := omega) [hok])); first | (refine hKK _ _ _ ?_; clear hKK KK; simp only [thenA, blockA, reduceIte]) | skip)
      | (refine AWP.draw' mixd (by rfl) (by kernel_rfl) (fun KK tab hKK htab => ?_); (repeat (simp (disch := omega) [hok])); first | (refine dEnd_ro ?_ (hKK _ _ _ ?_); (focus (simp; done)); clear htab tab hKK KK; simp only [thenA, blockA, reduceIte]) | (refine dEnd_of ?_ (hKK _ _ _ ?_); (focus (simp only [List.reverse_cons, List.reverse_nil, List.nil_append, List.cons_append, memA, mem1, and_true, true_and]; (repeat' apply And.intro); (all_goals (first | trivial | (refine .inr ⟨?_, ?_⟩ <;> (simp; done)) | (refine .inr ⟨?_, ?_⟩ <;> (simp <;> omega)) | (refine .inl ?_; rw [htab]; kernel_rfl))); done)); clear htab tab hKK KK; simp only [thenA, blockA, reduceIte]) | skip)
      | (refine AWP.if_t ?_ ?_; focus (simp (disch := omega) [hok]; done))
      | (refine AWP.if_f ?_ ?_; focus (simp (disch := omega) [hok]; done)))
    refine ⟨by simp, ?_⟩
    have hres : Try.f30.results.toList = [.cell 4 25, .tmp 5] := rfl
    rw [hres]
    simp (disch := omega) []
    refine fin0 ⟨?_, rfl⟩ (by simp [resO, nms, nmss])
    simp [resO, ren, rens, rho, hK0, hK1]
  | true =>
    by_cases h30 : l.length ≤ 30
    · have h30i : ¬ (30 : Int) < l.length := by omega
      have h30n : ¬ 30 < l.length := by omega
      rw [apO_yes ⟨hok, h30⟩]
      cases hO : apL ds l with
      | none =>
        rw [eOut_none, dOut_none]
        refine AC.intro [] ent_30 Try.func30 rfl (by simp [Try.f30]) (by simp) ?_
        intro K s hs hB hn hν hA hFr
        simp only [argT, Nat.zero_add, Nat.reduceAdd]
        have hK0 : ¬ 0 = K := by omega
        have hK1 : ¬ 0 = K + 1 := by omega
        have hx' := hx.vw hs.vw
        have hy' := hy.vw hs.vw
        have hbK : b < K := hA b (by simp [nmAs, nmA])
        have hbK2 : b2 < K := hA b2 (by simp [nmAs, nmA])
        repeat' (first
          | refine AWP.seq ?_
          | refine AWP.block ?_
          | (refine AWP.skip ?_; simp only [thenA, blockA, reduceIte])
          | (refine AWP.exit ?_; simp only [thenA, blockA, eq_self, reduceIte, Nat.reduceEqDiff, Nat.succ_ne_zero])
          | (refine AWP.ret ?_; simp only [thenA, blockA, reduceIte])
          | (refine AWP.region (by rfl) (fun KK hKK => ?_); (repeat (simp (disch := omega) [])); first | (refine hKK _ _ _ ?_; clear hKK KK; simp only [thenA, blockA, reduceIte]) | skip)
          | (refine AWP.draw' mixd (by rfl) (by kernel_rfl) (fun KK tab hKK htab => ?_); (repeat (simp (disch := omega) [])); first | (refine dEnd_ro ?_ (hKK _ _ _ ?_); (focus (simp; done)); clear htab tab hKK KK; simp only [thenA, blockA, reduceIte]) | (refine dEnd_of ?_ (hKK _ _ _ ?_); (focus (simp only [List.reverse_cons, List.reverse_nil, List.nil_append, List.cons_append, memA, mem1, and_true, true_and]; (repeat' apply And.intro); (all_goals (first | trivial | (refine .inr ⟨?_, ?_⟩ <;> (simp; done)) | (refine .inr ⟨?_, ?_⟩ <;> (simp <;> omega)) | (refine .inl ?_; rw [htab]; kernel_rfl))); done)); clear htab tab hKK KK; simp only [thenA, blockA, reduceIte]) | skip)
          | (refine AWP.if_t ?_ ?_; focus (simp (disch := omega) []; done))
          | (refine AWP.if_f ?_ ?_; focus (simp (disch := omega) []; done)))
        refine aStop_of (validEnumS_c _ _ _ ds (hx'.vw ((Vw.refl _).over (by repeat (first | exact Over.refl _ | exact hov | refine Over.upd ?_ hB (by omega) | refine Over.del ?_ hB (by omega))))) (by omega) hsz) ?_
        rintro r δ ⟨rfl, rfl⟩
        (repeat (simp (disch := omega) [hok, h30i, h30n]))
        first | (refine hKK _ _ _ ?_; clear hKK KK; simp only [thenA, blockA, reduceIte]) | skip
        repeat' (first
          | refine AWP.seq ?_
          | refine AWP.block ?_
          | (refine AWP.skip ?_; simp only [thenA, blockA, reduceIte])
          | (refine AWP.exit ?_; simp only [thenA, blockA, eq_self, reduceIte, Nat.reduceEqDiff, Nat.succ_ne_zero])
          | (refine AWP.ret ?_; simp only [thenA, blockA, reduceIte])
          | (refine AWP.region (by rfl) (fun KK hKK => ?_); (repeat (simp (disch := omega) [hok, h30i, h30n])); first | (refine hKK _ _ _ ?_; clear hKK KK; simp only [thenA, blockA, reduceIte]) | skip)
          | (refine AWP.draw' mixd (by rfl) (by kernel_rfl) (fun KK tab hKK htab => ?_); (repeat (simp (disch := omega) [hok, h30i, h30n])); first | (refine dEnd_ro ?_ (hKK _ _ _ ?_); (focus (simp; done)); clear htab tab hKK KK; simp only [thenA, blockA, reduceIte]) | (refine dEnd_of ?_ (hKK _ _ _ ?_); (focus (simp only [List.reverse_cons, List.reverse_nil, List.nil_append, List.cons_append, memA, mem1, and_true, true_and]; (repeat' apply And.intro); (all_goals (first | trivial | (refine .inr ⟨?_, ?_⟩ <;> (simp; done)) | (refine .inr ⟨?_, ?_⟩ <;> (simp <;> omega)) | (refine .inl ?_; rw [htab]; kernel_rfl))); done)); clear htab tab hKK KK; simp only [thenA, blockA, reduceIte]) | skip)
          | (refine AWP.if_t ?_ ?_; focus (simp (disch := omega) [hok, h30i, h30n]; done))
          | (refine AWP.if_f ?_ ?_; focus (simp (disch := omega) [hok, h30i, h30n]; done)))
        refine aStop_of (copyDefs_c _ _ _ ds (hx'.vw ((Vw.refl _).over (by repeat (first | exact Over.refl _ | exact hov | refine Over.upd ?_ hB (by omega) | refine Over.del ?_ hB (by omega))))) (by omega)) ?_
        rintro r δ ⟨rfl, rfl⟩
        (repeat (simp (disch := omega) []))
        first | (refine hKK _ _ _ ?_; clear hKK KK; simp only [thenA, blockA, reduceIte]) | skip
        repeat' (first
          | refine AWP.seq ?_
          | refine AWP.block ?_
          | (refine AWP.skip ?_; simp only [thenA, blockA, reduceIte])
          | (refine AWP.exit ?_; simp only [thenA, blockA, eq_self, reduceIte, Nat.reduceEqDiff, Nat.succ_ne_zero])
          | (refine AWP.ret ?_; simp only [thenA, blockA, reduceIte])
          | (refine AWP.region (by rfl) (fun KK hKK => ?_); (repeat (simp (disch := omega) [])); first | (refine hKK _ _ _ ?_; clear hKK KK; simp only [thenA, blockA, reduceIte]) | skip)
          | (refine AWP.draw' mixd (by rfl) (by kernel_rfl) (fun KK tab hKK htab => ?_); (repeat (simp (disch := omega) [])); first | (refine dEnd_ro ?_ (hKK _ _ _ ?_); (focus (simp; done)); clear htab tab hKK KK; simp only [thenA, blockA, reduceIte]) | (refine dEnd_of ?_ (hKK _ _ _ ?_); (focus (simp only [List.reverse_cons, List.reverse_nil, List.nil_append, List.cons_append, memA, mem1, and_true, true_and]; (repeat' apply And.intro); (all_goals (first | trivial | (refine .inr ⟨?_, ?_⟩ <;> (simp; done)) | (refine .inr ⟨?_, ?_⟩ <;> (simp <;> omega)) | (refine .inl ?_; rw [htab]; kernel_rfl))); done)); clear htab tab hKK KK; simp only [thenA, blockA, reduceIte]) | skip)
          | (refine AWP.if_t ?_ ?_; focus (simp (disch := omega) []; done))
          | (refine AWP.if_f ?_ ?_; focus (simp (disch := omega) []; done)))
        refine AWP.loop (fun n τ σ' M => ∃ (k cb : Nat) (e : List Df), k ≤ l.length ∧ n = l.length - k ∧ apL ds (l.take k) = some e ∧ τ = [(1, .sl b2 o2 l.length cap2 z2), (4, .ptr (K + 1) 0 0), (6, .sl cb 0 e.length none 2), (7, .v (.int .i64 k))] ∧
          σ' (K + 1) = some ⟨25, 1, [[nilA]], true⟩ ∧ σ' cb = some (blkD e) ∧ K + 1 < cb ∧ cb < M ∧ Over s σ')
          ⟨_, _, _, _, ⟨0, K + 1 + 1 + 2, ds, by omega, rfl, rfl, rfl, by simp (disch := omega) only [upd_eq, upd_ne], by simp (disch := omega) only [upd_eq, upd_ne], by omega, by omega, (by repeat (first | exact Over.refl _ | exact hov | refine Over.upd ?_ hB (by omega) | refine Over.del ?_ hB (by omega)))⟩, Weak.tau (by simp [LQ])⟩ ?_
        rintro n τ σ1 M ⟨k, cb, e, hk, rfl, he, rfl, k1, k3, n1, n3, hov⟩
        have hoke := apL_ok _ _ _ hok he
        have hle := okDs_len hoke
        have hsze := ok_sz hoke
        by_cases hlt : k < l.length
        · obtain ⟨_, rfl, kb, hkb, hat⟩ := hy'.at (i := k) (by rw [rowsC_len]; exact hlt)
          rw [rowsC_get _ _ hlt] at hat
          have hkb2 := hov _ _ hkb
          have hstep := apL_take (ds := ds) hlt
          rw [he] at hstep
          have hct := hsc _ (List.getElem_mem hlt)
          generalize l[k] = c at *
          obtain ⟨kd, t, ol, nw⟩ := c
          simp only [Option.bind_some] at hat hct hstep
          have hF : apF e (kd, t, ol, nw) = okO (apC e (kd, t, ol, nw)) := rfl
          rw [hF] at hstep
          have hcz := fun l' h => apC_sz (l := l') (c := (kd, t, ol, nw)) h hsze hct
          repeat' (first
            | refine AWP.seq ?_
            | refine AWP.block ?_
            | (refine AWP.skip ?_; simp only [thenA, blockA, reduceIte])
            | (refine AWP.exit ?_; simp only [thenA, blockA, eq_self, reduceIte, Nat.reduceEqDiff, Nat.succ_ne_zero])
            | (refine AWP.ret ?_; simp only [thenA, blockA, reduceIte])
            | (refine AWP.region (by rfl) (fun KK hKK => ?_); (repeat (simp (disch := omega) [hlt, hkb2, hat])); first | (refine hKK _ _ _ ?_; clear hKK KK; simp only [thenA, blockA, reduceIte]) | skip)
            | (refine AWP.draw' mixd (by rfl) (by kernel_rfl) (fun KK tab hKK htab => ?_); (repeat (simp (disch := omega) [hlt, hkb2, hat])); first | (refine dEnd_ro ?_ (hKK _ _ _ ?_); (focus (simp; done)); clear htab tab hKK KK; simp only [thenA, blockA, reduceIte]) | (refine dEnd_of ?_ (hKK _ _ _ ?_); (focus (simp only [List.reverse_cons, List.reverse_nil, List.nil_append, List.cons_append, memA, mem1, and_true, true_and]; (repeat' apply And.intro); (all_goals (first | trivial | (refine .inr ⟨?_, ?_⟩ <;> (simp; done)) | (refine .inr ⟨?_, ?_⟩ <;> (simp <;> omega)) | (refine .inl ?_; rw [htab]; kernel_rfl))); done)); clear htab tab hKK KK; simp only [thenA, blockA, reduceIte]) | skip)
            | (refine AWP.if_t ?_ ?_; focus (simp (disch := omega) [hlt, hkb2, hat]; done))
            | (refine AWP.if_f ?_ ?_; focus (simp (disch := omega) [hlt, hkb2, hat]; done)))
          by_cases hkd : kd = 0
          · subst hkd
            have hac : apC e (0, t, ol, nw) = if nameIx e t < 0 ∧ ol = 0 then some (e ++ [(t, nw)]) else none := if_pos rfl
            by_cases hc : nameIx e t < 0 ∧ ol = 0
            · rw [if_pos hc] at hac
              have hdec : (decide (nameIx e t < 0) && decide (ol = 0)) = true := by rw [decide_eq_true hc.1, decide_eq_true hc.2]; rfl
              obtain ⟨hz1, hz2⟩ := hcz _ hac
              rw [hac] at hstep
              have hel : (e ++ [(t, nw)]).length = e.length + 1 := by simp
              refine aStop_of (applied0_c _ _ (.sl cb 0 e.length none 2) e t ol nw (Sl.whole (t := 34) (r := true) k3 (by simp [rowsD_len])) (by omega)) ?_
              rintro r δ ⟨rfl, rfl⟩
              (repeat (simp (disch := omega) [hdec]))
              first | (refine hKK _ _ _ ?_; clear hKK KK; simp only [thenA, blockA, reduceIte]) | skip
              generalize e ++ [(t, nw)] = e' at *
              repeat' (first
                | refine AWP.seq ?_
                | refine AWP.block ?_
                | (refine AWP.skip ?_; simp only [thenA, blockA, reduceIte])
                | (refine AWP.exit ?_; simp only [thenA, blockA, eq_self, reduceIte, Nat.reduceEqDiff, Nat.succ_ne_zero])
                | (refine AWP.ret ?_; simp only [thenA, blockA, reduceIte])
                | (refine AWP.region (by rfl) (fun KK hKK => ?_); (repeat (simp (disch := omega) [hdec])); first | (refine hKK _ _ _ ?_; clear hKK KK; simp only [thenA, blockA, reduceIte]) | skip)
                | (refine AWP.draw' mixd (by rfl) (by kernel_rfl) (fun KK tab hKK htab => ?_); (repeat (simp (disch := omega) [hdec])); first | (refine dEnd_ro ?_ (hKK _ _ _ ?_); (focus (simp; done)); clear htab tab hKK KK; simp only [thenA, blockA, reduceIte]) | (refine dEnd_of ?_ (hKK _ _ _ ?_); (focus (simp only [List.reverse_cons, List.reverse_nil, List.nil_append, List.cons_append, memA, mem1, and_true, true_and]; (repeat' apply And.intro); (all_goals (first | trivial | (refine .inr ⟨?_, ?_⟩ <;> (simp; done)) | (refine .inr ⟨?_, ?_⟩ <;> (simp <;> omega)) | (refine .inl ?_; rw [htab]; kernel_rfl))); done)); clear htab tab hKK KK; simp only [thenA, blockA, reduceIte]) | skip)
                | (refine AWP.if_t ?_ ?_; focus (simp (disch := omega) [hdec]; done))
                | (refine AWP.if_f ?_ ?_; focus (simp (disch := omega) [hdec]; done)))
              cases hoke' : okDs (-1000) 1000 e' with
              | true =>
                have hokO : okO (some e') = some e' := if_pos hoke'
                rw [hokO] at hstep
                refine aStop_of (validEnumS_c _ _ (.sl M 0 (e.length + 1) none 2) e' (Sl.whole (t := 34) (r := true) (by simp (disch := omega) only [upd_eq, upd_ne]) (by simp [rowsD_len, hel])) (by omega) hz1) ?_
                rintro r δ ⟨rfl, rfl⟩
                (repeat (simp (disch := omega) [hoke']))
                first | (refine hKK _ _ _ ?_; clear hKK KK; simp only [thenA, blockA, reduceIte]) | skip
                repeat' (first
                  | refine AWP.seq ?_
                  | refine AWP.block ?_
                  | (refine AWP.skip ?_; simp only [thenA, blockA, reduceIte])
                  | (refine AWP.exit ?_; simp only [thenA, blockA, eq_self, reduceIte, Nat.reduceEqDiff, Nat.succ_ne_zero])
                  | (refine AWP.ret ?_; simp only [thenA, blockA, reduceIte])
                  | (refine AWP.region (by rfl) (fun KK hKK => ?_); (repeat (simp (disch := omega) [hoke'])); first | (refine hKK _ _ _ ?_; clear hKK KK; simp only [thenA, blockA, reduceIte]) | skip)
                  | (refine AWP.draw' mixd (by rfl) (by kernel_rfl) (fun KK tab hKK htab => ?_); (repeat (simp (disch := omega) [hoke'])); first | (refine dEnd_ro ?_ (hKK _ _ _ ?_); (focus (simp; done)); clear htab tab hKK KK; simp only [thenA, blockA, reduceIte]) | (refine dEnd_of ?_ (hKK _ _ _ ?_); (focus (simp only [List.reverse_cons, List.reverse_nil, List.nil_append, List.cons_append, memA, mem1, and_true, true_and]; (repeat' apply And.intro); (all_goals (first | trivial | (refine .inr ⟨?_, ?_⟩ <;> (simp; done)) | (refine .inr ⟨?_, ?_⟩ <;> (simp <;> omega)) | (refine .inl ?_; rw [htab]; kernel_rfl))); done)); clear htab tab hKK KK; simp only [thenA, blockA, reduceIte]) | skip)
                  | (refine AWP.if_t ?_ ?_; focus (simp (disch := omega) [hoke']; done))
                  | (refine AWP.if_f ?_ ?_; focus (simp (disch := omega) [hoke']; done)))
                refine ⟨_, _, _, _, ?_, ⟨k + 1, M, e', by omega, rfl, hstep, rfl, by simp (disch := omega) only [upd_eq, upd_ne, k1], by simp (disch := omega) only [upd_eq, upd_ne], by omega, by omega, (by repeat (first | exact Over.refl _ | exact hov | refine Over.upd ?_ hB (by omega) | refine Over.del ?_ hB (by omega)))⟩, Weak.tau (by simp [LQ, hel])⟩
                omega
              | false =>
                have hokO : okO (some e') = none := if_neg (by rw [hoke']; simp)
                rw [hokO] at hstep
                refine aStop_of (validEnumS_c _ _ (.sl M 0 (e.length + 1) none 2) e' (Sl.whole (t := 34) (r := true) (by simp (disch := omega) only [upd_eq, upd_ne]) (by simp [rowsD_len, hel])) (by omega) hz1) ?_
                rintro r δ ⟨rfl, rfl⟩
                (repeat (simp (disch := omega) [hoke']))
                first | (refine hKK _ _ _ ?_; clear hKK KK; simp only [thenA, blockA, reduceIte]) | skip
                repeat' (first
                  | refine AWP.seq ?_
                  | refine AWP.block ?_
                  | (refine AWP.skip ?_; simp only [thenA, blockA, reduceIte])
                  | (refine AWP.exit ?_; simp only [thenA, blockA, eq_self, reduceIte, Nat.reduceEqDiff, Nat.succ_ne_zero])
                  | (refine AWP.ret ?_; simp only [thenA, blockA, reduceIte])
                  | (refine AWP.region (by rfl) (fun KK hKK => ?_); (repeat (simp (disch := omega) [hoke', k1])); first | (refine hKK _ _ _ ?_; clear hKK KK; simp only [thenA, blockA, reduceIte]) | skip)
                  | (refine AWP.draw' mixd (by rfl) (by kernel_rfl) (fun KK tab hKK htab => ?_); (repeat (simp (disch := omega) [hoke', k1])); first | (refine dEnd_ro ?_ (hKK _ _ _ ?_); (focus (simp; done)); clear htab tab hKK KK; simp only [thenA, blockA, reduceIte]) | (refine dEnd_of ?_ (hKK _ _ _ ?_); (focus (simp only [List.reverse_cons, List.reverse_nil, List.nil_append, List.cons_append, memA, mem1, and_true, true_and]; (repeat' apply And.intro); (all_goals (first | trivial | (refine .inr ⟨?_, ?_⟩ <;> (simp; done)) | (refine .inr ⟨?_, ?_⟩ <;> (simp <;> omega)) | (refine .inl ?_; rw [htab]; kernel_rfl))); done)); clear htab tab hKK KK; simp only [thenA, blockA, reduceIte]) | skip)
                  | (refine AWP.if_t ?_ ?_; focus (simp (disch := omega) [hoke', k1]; done))
                  | (refine AWP.if_f ?_ ?_; focus (simp (disch := omega) [hoke', k1]; done)))
                refine ⟨by simp, ?_⟩
                have hres : Try.f30.results.toList = [.cell 4 25, .tmp 5] := rfl
                rw [hres]
                simp (disch := omega) []
                refine fin0 ⟨?_, rfl⟩ (by simp [resO, nms, nmss])
                simp [resO, ren, rens, rho, hK0, hK1]
            · rw [if_neg hc] at hac
              have hdec : (decide (nameIx e t < 0) && decide (ol = 0)) = false := by
                cases h1 : decide (nameIx e t < 0) && decide (ol = 0) with
                | false => rfl
                | true =>
                  rw [Bool.and_eq_true] at h1
                  exact absurd ⟨of_decide_eq_true h1.1, of_decide_eq_true h1.2⟩ hc
              rw [hac] at hstep
              refine aStop_of (applied0_c _ _ (.sl cb 0 e.length none 2) e t ol nw (Sl.whole (t := 34) (r := true) k3 (by simp [rowsD_len])) (by omega)) ?_
              rintro r δ ⟨rfl, rfl⟩
              (repeat (simp (disch := omega) [hdec]))
              first | (refine hKK _ _ _ ?_; clear hKK KK; simp only [thenA, blockA, reduceIte]) | skip
              repeat' (first
                | refine AWP.seq ?_
                | refine AWP.block ?_
                | (refine AWP.skip ?_; simp only [thenA, blockA, reduceIte])
                | (refine AWP.exit ?_; simp only [thenA, blockA, eq_self, reduceIte, Nat.reduceEqDiff, Nat.succ_ne_zero])
                | (refine AWP.ret ?_; simp only [thenA, blockA, reduceIte])
                | (refine AWP.region (by rfl) (fun KK hKK => ?_); (repeat (simp (disch := omega) [hdec, k1])); first | (refine hKK _ _ _ ?_; clear hKK KK; simp only [thenA, blockA, reduceIte]) | skip)
                | (refine AWP.draw' mixd (by rfl) (by kernel_rfl) (fun KK tab hKK htab => ?_); (repeat (simp (disch := omega) [hdec, k1])); first | (refine dEnd_ro ?_ (hKK _ _ _ ?_); (focus (simp; done)); clear htab tab hKK KK; simp only [thenA, blockA, reduceIte]) | (refine dEnd_of ?_ (hKK _ _ _ ?_); (focus (simp only [List.reverse_cons, List.reverse_nil, List.nil_append, List.cons_append, memA, mem1, and_true, true_and]; (repeat' apply And.intro); (all_goals (first | trivial | (refine .inr ⟨?_, ?_⟩ <;> (simp; done)) | (refine .inr ⟨?_, ?_⟩ <;> (simp <;> omega)) | (refine .inl ?_; rw [htab]; kernel_rfl))); done)); clear htab tab hKK KK; simp only [thenA, blockA, reduceIte]) | skip)
                | (refine AWP.if_t ?_ ?_; focus (simp (disch := omega) [hdec, k1]; done))
                | (refine AWP.if_f ?_ ?_; focus (simp (disch := omega) [hdec, k1]; done)))
              refine ⟨by simp, ?_⟩
              have hres : Try.f30.results.toList = [.cell 4 25, .tmp 5] := rfl
              rw [hres]
              simp (disch := omega) []
              refine fin0 ⟨?_, rfl⟩ (by simp [resO, nms, nmss])
              simp [resO, ren, rens, rho, hK0, hK1]
          · cases hac : apC e (kd, t, ol, nw) with
            | none =>
              rw [hac] at hstep
              refine aStop_of (appliedN_c _ _ (.sl cb 0 e.length none 2) e kd t ol nw hkd (Sl.whole (t := 34) (r := true) k3 (by simp [rowsD_len])) (by omega)) ?_
              rintro r δ ⟨rfl, rfl⟩
              (repeat (simp (disch := omega) [hac, eOut_none, dOut_none]))
              first | (refine hKK _ _ _ ?_; clear hKK KK; simp only [thenA, blockA, reduceIte]) | skip
              repeat' (first
                | refine AWP.seq ?_
                | refine AWP.block ?_
                | (refine AWP.skip ?_; simp only [thenA, blockA, reduceIte])
                | (refine AWP.exit ?_; simp only [thenA, blockA, eq_self, reduceIte, Nat.reduceEqDiff, Nat.succ_ne_zero])
                | (refine AWP.ret ?_; simp only [thenA, blockA, reduceIte])
                | (refine AWP.region (by rfl) (fun KK hKK => ?_); (repeat (simp (disch := omega) [k1])); first | (refine hKK _ _ _ ?_; clear hKK KK; simp only [thenA, blockA, reduceIte]) | skip)
                | (refine AWP.draw' mixd (by rfl) (by kernel_rfl) (fun KK tab hKK htab => ?_); (repeat (simp (disch := omega) [k1])); first | (refine dEnd_ro ?_ (hKK _ _ _ ?_); (focus (simp; done)); clear htab tab hKK KK; simp only [thenA, blockA, reduceIte]) | (refine dEnd_of ?_ (hKK _ _ _ ?_); (focus (simp only [List.reverse_cons, List.reverse_nil, List.nil_append, List.cons_append, memA, mem1, and_true, true_and]; (repeat' apply And.intro); (all_goals (first | trivial | (refine .inr ⟨?_, ?_⟩ <;> (simp; done)) | (refine .inr ⟨?_, ?_⟩ <;> (simp <;> omega)) | (refine .inl ?_; rw [htab]; kernel_rfl))); done)); clear htab tab hKK KK; simp only [thenA, blockA, reduceIte]) | skip)
                | (refine AWP.if_t ?_ ?_; focus (simp (disch := omega) [k1]; done))
                | (refine AWP.if_f ?_ ?_; focus (simp (disch := omega) [k1]; done)))
              refine ⟨by simp, ?_⟩
              have hres : Try.f30.results.toList = [.cell 4 25, .tmp 5] := rfl
              rw [hres]
              simp (disch := omega) []
              refine fin0 ⟨?_, rfl⟩ (by simp [resO, nms, nmss])
              simp [resO, ren, rens, rho, hK0, hK1]
            | some e' =>
              obtain ⟨hz1, hz2⟩ := hcz _ hac
              rw [hac] at hstep
              refine aStop_of (appliedN_c _ _ (.sl cb 0 e.length none 2) e kd t ol nw hkd (Sl.whole (t := 34) (r := true) k3 (by simp [rowsD_len])) (by omega)) ?_
              rintro r δ ⟨rfl, rfl⟩
              (repeat (simp (disch := omega) [hac, eOut_some, dOut_some]))
              first | (refine hKK _ _ _ ?_; clear hKK KK; simp only [thenA, blockA, reduceIte]) | skip
              repeat' (first
                | refine AWP.seq ?_
                | refine AWP.block ?_
                | (refine AWP.skip ?_; simp only [thenA, blockA, reduceIte])
                | (refine AWP.exit ?_; simp only [thenA, blockA, eq_self, reduceIte, Nat.reduceEqDiff, Nat.succ_ne_zero])
                | (refine AWP.ret ?_; simp only [thenA, blockA, reduceIte])
                | (refine AWP.region (by rfl) (fun KK hKK => ?_); (repeat (simp (disch := omega) [])); first | (refine hKK _ _ _ ?_; clear hKK KK; simp only [thenA, blockA, reduceIte]) | skip)
                | (refine AWP.draw' mixd (by rfl) (by kernel_rfl) (fun KK tab hKK htab => ?_); (repeat (simp (disch := omega) [])); first | (refine dEnd_ro ?_ (hKK _ _ _ ?_); (focus (simp; done)); clear htab tab hKK KK; simp only [thenA, blockA, reduceIte]) | (refine dEnd_of ?_ (hKK _ _ _ ?_); (focus (simp only [List.reverse_cons, List.reverse_nil, List.nil_append, List.cons_append, memA, mem1, and_true, true_and]; (repeat' apply And.intro); (all_goals (first | trivial | (refine .inr ⟨?_, ?_⟩ <;> (simp; done)) | (refine .inr ⟨?_, ?_⟩ <;> (simp <;> omega)) | (refine .inl ?_; rw [htab]; kernel_rfl))); done)); clear htab tab hKK KK; simp only [thenA, blockA, reduceIte]) | skip)
                | (refine AWP.if_t ?_ ?_; focus (simp (disch := omega) []; done))
                | (refine AWP.if_f ?_ ?_; focus (simp (disch := omega) []; done)))
              cases hoke' : okDs (-1000) 1000 e' with
              | true =>
                have hokO : okO (some e') = some e' := if_pos hoke'
                rw [hokO] at hstep
                refine aStop_of (validEnumS_c _ _ (.sl M 0 e'.length none 2) e' (Sl.whole (t := 34) (r := true) (by simp (disch := omega) only [upd_eq, upd_ne]) (by simp [rowsD_len])) (by omega) hz1) ?_
                rintro r δ ⟨rfl, rfl⟩
                (repeat (simp (disch := omega) [hoke']))
                first | (refine hKK _ _ _ ?_; clear hKK KK; simp only [thenA, blockA, reduceIte]) | skip
                repeat' (first
                  | refine AWP.seq ?_
                  | refine AWP.block ?_
                  | (refine AWP.skip ?_; simp only [thenA, blockA, reduceIte])
                  | (refine AWP.exit ?_; simp only [thenA, blockA, eq_self, reduceIte, Nat.reduceEqDiff, Nat.succ_ne_zero])
                  | (refine AWP.ret ?_; simp only [thenA, blockA, reduceIte])
                  | (refine AWP.region (by rfl) (fun KK hKK => ?_); (repeat (simp (disch := omega) [hoke'])); first | (refine hKK _ _ _ ?_; clear hKK KK; simp only [thenA, blockA, reduceIte]) | skip)
                  | (refine AWP.draw' mixd (by rfl) (by kernel_rfl) (fun KK tab hKK htab => ?_); (repeat (simp (disch := omega) [hoke'])); first | (refine dEnd_ro ?_ (hKK _ _ _ ?_); (focus (simp; done)); clear htab tab hKK KK; simp only [thenA, blockA, reduceIte]) | (refine dEnd_of ?_ (hKK _ _ _ ?_); (focus (simp only [List.reverse_cons, List.reverse_nil, List.nil_append, List.cons_append, memA, mem1, and_true, true_and]; (repeat' apply And.intro); (all_goals (first | trivial | (refine .inr ⟨?_, ?_⟩ <;> (simp; done)) | (refine .inr ⟨?_, ?_⟩ <;> (simp <;> omega)) | (refine .inl ?_; rw [htab]; kernel_rfl))); done)); clear htab tab hKK KK; simp only [thenA, blockA, reduceIte]) | skip)
                  | (refine AWP.if_t ?_ ?_; focus (simp (disch := omega) [hoke']; done))
                  | (refine AWP.if_f ?_ ?_; focus (simp (disch := omega) [hoke']; done)))
                refine ⟨_, _, _, _, ?_, ⟨k + 1, M, e', by omega, rfl, hstep, rfl, by simp (disch := omega) only [upd_eq, upd_ne, k1], by simp (disch := omega) only [upd_eq, upd_ne], by omega, by omega, (by repeat (first | exact Over.refl _ | exact hov | refine Over.upd ?_ hB (by omega) | refine Over.del ?_ hB (by omega)))⟩, Weak.tau (by simp [LQ])⟩
                omega
              | false =>
                have hokO : okO (some e') = none := if_neg (by rw [hoke']; simp)
                rw [hokO] at hstep
                refine aStop_of (validEnumS_c _ _ (.sl M 0 e'.length none 2) e' (Sl.whole (t := 34) (r := true) (by simp (disch := omega) only [upd_eq, upd_ne]) (by simp [rowsD_len])) (by omega) hz1) ?_
                rintro r δ ⟨rfl, rfl⟩
                (repeat (simp (disch := omega) [hoke']))
                first | (refine hKK _ _ _ ?_; clear hKK KK; simp only [thenA, blockA, reduceIte]) | skip
                repeat' (first
                  | refine AWP.seq ?_
                  | refine AWP.block ?_
                  | (refine AWP.skip ?_; simp only [thenA, blockA, reduceIte])
                  | (refine AWP.exit ?_; simp only [thenA, blockA, eq_self, reduceIte, Nat.reduceEqDiff, Nat.succ_ne_zero])
                  | (refine AWP.ret ?_; simp only [thenA, blockA, reduceIte])
                  | (refine AWP.region (by rfl) (fun KK hKK => ?_); (repeat (simp (disch := omega) [hoke', k1])); first | (refine hKK _ _ _ ?_; clear hKK KK; simp only [thenA, blockA, reduceIte]) | skip)
                  | (refine AWP.draw' mixd (by rfl) (by kernel_rfl) (fun KK tab hKK htab => ?_); (repeat (simp (disch := omega) [hoke', k1])); first | (refine dEnd_ro ?_ (hKK _ _ _ ?_); (focus (simp; done)); clear htab tab hKK KK; simp only [thenA, blockA, reduceIte]) | (refine dEnd_of ?_ (hKK _ _ _ ?_); (focus (simp only [List.reverse_cons, List.reverse_nil, List.nil_append, List.cons_append, memA, mem1, and_true, true_and]; (repeat' apply And.intro); (all_goals (first | trivial | (refine .inr ⟨?_, ?_⟩ <;> (simp; done)) | (refine .inr ⟨?_, ?_⟩ <;> (simp <;> omega)) | (refine .inl ?_; rw [htab]; kernel_rfl))); done)); clear htab tab hKK KK; simp only [thenA, blockA, reduceIte]) | skip)
                  | (refine AWP.if_t ?_ ?_; focus (simp (disch := omega) [hoke', k1]; done))
                  | (refine AWP.if_f ?_ ?_; focus (simp (disch := omega) [hoke', k1]; done)))
                refine ⟨by simp, ?_⟩
                have hres : Try.f30.results.toList = [.cell 4 25, .tmp 5] := rfl
                rw [hres]
                simp (disch := omega) []
                refine fin0 ⟨?_, rfl⟩ (by simp [resO, nms, nmss])
                simp [resO, ren, rens, rho, hK0, hK1]
        · have hk' : k = l.length := by omega
          subst hk'
          rw [List.take_length, hO] at he
          cases he
      | some R =>
        rw [eOut_some, dOut_some]
        refine AC.intro [] ent_30 Try.func30 rfl (by simp [Try.f30]) (by simp) ?_
        intro K s hs hB hn hν hA hFr
        simp only [argT, Nat.zero_add, Nat.reduceAdd]
        have hK0 : ¬ 0 = K := by omega
        have hK1 : ¬ 0 = K + 1 := by omega
        have hx' := hx.vw hs.vw
        have hy' := hy.vw hs.vw
        have hbK : b < K := hA b (by simp [nmAs, nmA])
        have hbK2 : b2 < K := hA b2 (by simp [nmAs, nmA])
        repeat' (first
          | refine AWP.seq ?_
          | refine AWP.block ?_
          | (refine AWP.skip ?_; simp only [thenA, blockA, reduceIte])
          | (refine AWP.exit ?_; simp only [thenA, blockA, eq_self, reduceIte, Nat.reduceEqDiff, Nat.succ_ne_zero])
          | (refine AWP.ret ?_; simp only [thenA, blockA, reduceIte])
          | (refine AWP.region (by rfl) (fun KK hKK => ?_); (repeat (simp (disch := omega) [])); first | (refine hKK _ _ _ ?_; clear hKK KK; simp only [thenA, blockA, reduceIte]) | skip)
          | (refine AWP.draw' mixd (by rfl) (by kernel_rfl) (fun KK tab hKK htab => ?_); (repeat (simp (disch := omega) [])); first | (refine dEnd_ro ?_ (hKK _ _ _ ?_); (focus (simp; done)); clear htab tab hKK KK; simp only [thenA, blockA, reduceIte]) | (refine dEnd_of ?_ (hKK _ _ _ ?_); (focus (simp only [List.reverse_cons, List.reverse_nil, List.nil_append, List.cons_append, memA, mem1, and_true, true_and]; (repeat' apply And.intro); (all_goals (first | trivial | (refine .inr ⟨?_, ?_⟩ <;> (simp; done)) | (refine .inr ⟨?_, ?_⟩ <;> (simp <;> omega)) | (refine .inl ?_; rw [htab]; kernel_rfl))); done)); clear htab tab hKK KK; simp only [thenA, blockA, reduceIte]) | skip)
          | (refine AWP.if_t ?_ ?_; focus (simp (disch := omega) []; done))
          | (refine AWP.if_f ?_ ?_; focus (simp (disch := omega) []; done)))
        refine aStop_of (validEnumS_c _ _ _ ds (hx'.vw ((Vw.refl _).over (by repeat (first | exact Over.refl _ | exact hov | refine Over.upd ?_ hB (by omega) | refine Over.del ?_ hB (by omega))))) (by omega) hsz) ?_
        rintro r δ ⟨rfl, rfl⟩
        (repeat (simp (disch := omega) [hok, h30i, h30n]))
        first | (refine hKK _ _ _ ?_; clear hKK KK; simp only [thenA, blockA, reduceIte]) | skip
        repeat' (first
          | refine AWP.seq ?_
          | refine AWP.block ?_
          | (refine AWP.skip ?_; simp only [thenA, blockA, reduceIte])
          | (refine AWP.exit ?_; simp only [thenA, blockA, eq_self, reduceIte, Nat.reduceEqDiff, Nat.succ_ne_zero])
          | (refine AWP.ret ?_; simp only [thenA, blockA, reduceIte])
          | (refine AWP.region (by rfl) (fun KK hKK => ?_); (repeat (simp (disch := omega) [hok, h30i, h30n])); first | (refine hKK _ _ _ ?_; clear hKK KK; simp only [thenA, blockA, reduceIte]) | skip)
          | (refine AWP.draw' mixd (by rfl) (by kernel_rfl) (fun KK tab hKK htab => ?_); (repeat (simp (disch := omega) [hok, h30i, h30n])); first | (refine dEnd_ro ?_ (hKK _ _ _ ?_); (focus (simp; done)); clear htab tab hKK KK; simp only [thenA, blockA, reduceIte]) | (refine dEnd_of ?_ (hKK _ _ _ ?_); (focus (simp only [List.reverse_cons, List.reverse_nil, List.nil_append, List.cons_append, memA, mem1, and_true, true_and]; (repeat' apply And.intro); (all_goals (first | trivial | (refine .inr ⟨?_, ?_⟩ <;> (simp; done)) | (refine .inr ⟨?_, ?_⟩ <;> (simp <;> omega)) | (refine .inl ?_; rw [htab]; kernel_rfl))); done)); clear htab tab hKK KK; simp only [thenA, blockA, reduceIte]) | skip)
          | (refine AWP.if_t ?_ ?_; focus (simp (disch := omega) [hok, h30i, h30n]; done))
          | (refine AWP.if_f ?_ ?_; focus (simp (disch := omega) [hok, h30i, h30n]; done)))
        refine aStop_of (copyDefs_c _ _ _ ds (hx'.vw ((Vw.refl _).over (by repeat (first | exact Over.refl _ | exact hov | refine Over.upd ?_ hB (by omega) | refine Over.del ?_ hB (by omega))))) (by omega)) ?_
        rintro r δ ⟨rfl, rfl⟩
        (repeat (simp (disch := omega) []))
        first | (refine hKK _ _ _ ?_; clear hKK KK; simp only [thenA, blockA, reduceIte]) | skip
        repeat' (first
          | refine AWP.seq ?_
          | refine AWP.block ?_
          | (refine AWP.skip ?_; simp only [thenA, blockA, reduceIte])
          | (refine AWP.exit ?_; simp only [thenA, blockA, eq_self, reduceIte, Nat.reduceEqDiff, Nat.succ_ne_zero])
          | (refine AWP.ret ?_; simp only [thenA, blockA, reduceIte])
          | (refine AWP.region (by rfl) (fun KK hKK => ?_); (repeat (simp (disch := omega) [])); first | (refine hKK _ _ _ ?_; clear hKK KK; simp only [thenA, blockA, reduceIte]) | skip)
          | (refine AWP.draw' mixd (by rfl) (by kernel_rfl) (fun KK tab hKK htab => ?_); (repeat (simp (disch := omega) [])); first | (refine dEnd_ro ?_ (hKK _ _ _ ?_); (focus (simp; done)); clear htab tab hKK KK; simp only [thenA, blockA, reduceIte]) | (refine dEnd_of ?_ (hKK _ _ _ ?_); (focus (simp only [List.reverse_cons, List.reverse_nil, List.nil_append, List.cons_append, memA, mem1, and_true, true_and]; (repeat' apply And.intro); (all_goals (first | trivial | (refine .inr ⟨?_, ?_⟩ <;> (simp; done)) | (refine .inr ⟨?_, ?_⟩ <;> (simp <;> omega)) | (refine .inl ?_; rw [htab]; kernel_rfl))); done)); clear htab tab hKK KK; simp only [thenA, blockA, reduceIte]) | skip)
          | (refine AWP.if_t ?_ ?_; focus (simp (disch := omega) []; done))
          | (refine AWP.if_f ?_ ?_; focus (simp (disch := omega) []; done)))
        refine AWP.loop (fun n τ σ' M => ∃ (k cb : Nat) (e : List Df), k ≤ l.length ∧ n = l.length - k ∧ apL ds (l.take k) = some e ∧ τ = [(1, .sl b2 o2 l.length cap2 z2), (4, .ptr (K + 1) 0 0), (6, .sl cb 0 e.length none 2), (7, .v (.int .i64 k))] ∧
          σ' (K + 1) = some ⟨25, 1, [[nilA]], true⟩ ∧ σ' cb = some (blkD e) ∧ K + 1 < cb ∧ cb < M ∧ Over s σ')
          ⟨_, _, _, _, ⟨0, K + 1 + 1 + 2, ds, by omega, rfl, rfl, rfl, by simp (disch := omega) only [upd_eq, upd_ne], by simp (disch := omega) only [upd_eq, upd_ne], by omega, by omega, (by repeat (first | exact Over.refl _ | exact hov | refine Over.upd ?_ hB (by omega) | refine Over.del ?_ hB (by omega)))⟩, Weak.tau (by simp [LQ])⟩ ?_
        rintro n τ σ1 M ⟨k, cb, e, hk, rfl, he, rfl, k1, k3, n1, n3, hov⟩
        have hoke := apL_ok _ _ _ hok he
        have hle := okDs_len hoke
        have hsze := ok_sz hoke
        by_cases hlt : k < l.length
        · obtain ⟨_, rfl, kb, hkb, hat⟩ := hy'.at (i := k) (by rw [rowsC_len]; exact hlt)
          rw [rowsC_get _ _ hlt] at hat
          have hkb2 := hov _ _ hkb
          have hstep := apL_take (ds := ds) hlt
          rw [he] at hstep
          have hct := hsc _ (List.getElem_mem hlt)
          generalize l[k] = c at *
          obtain ⟨kd, t, ol, nw⟩ := c
          simp only [Option.bind_some] at hat hct hstep
          have hF : apF e (kd, t, ol, nw) = okO (apC e (kd, t, ol, nw)) := rfl
          rw [hF] at hstep
          have hcz := fun l' h => apC_sz (l := l') (c := (kd, t, ol, nw)) h hsze hct
          repeat' (first
            | refine AWP.seq ?_
            | refine AWP.block ?_
            | (refine AWP.skip ?_; simp only [thenA, blockA, reduceIte])
            | (refine AWP.exit ?_; simp only [thenA, blockA, eq_self, reduceIte, Nat.reduceEqDiff, Nat.succ_ne_zero])
            | (refine AWP.ret ?_; simp only [thenA, blockA, reduceIte])
            | (refine AWP.region (by rfl) (fun KK hKK => ?_); (repeat (simp (disch := omega) [hlt, hkb2, hat])); first | (refine hKK _ _ _ ?_; clear hKK KK; simp only [thenA, blockA, reduceIte]) | skip)
            | (refine AWP.draw' mixd (by rfl) (by kernel_rfl) (fun KK tab hKK htab => ?_); (repeat (simp (disch := omega) [hlt, hkb2, hat])); first | (refine dEnd_ro ?_ (hKK _ _ _ ?_); (focus (simp; done)); clear htab tab hKK KK; simp only [thenA, blockA, reduceIte]) | (refine dEnd_of ?_ (hKK _ _ _ ?_); (focus (simp only [List.reverse_cons, List.reverse_nil, List.nil_append, List.cons_append, memA, mem1, and_true, true_and]; (repeat' apply And.intro); (all_goals (first | trivial | (refine .inr ⟨?_, ?_⟩ <;> (simp; done)) | (refine .inr ⟨?_, ?_⟩ <;> (simp <;> omega)) | (refine .inl ?_; rw [htab]; kernel_rfl))); done)); clear htab tab hKK KK; simp only [thenA, blockA, reduceIte]) | skip)
            | (refine AWP.if_t ?_ ?_; focus (simp (disch := omega) [hlt, hkb2, hat]; done))
            | (refine AWP.if_f ?_ ?_; focus (simp (disch := omega) [hlt, hkb2, hat]; done)))
          by_cases hkd : kd = 0
          · subst hkd
            have hac : apC e (0, t, ol, nw) = if nameIx e t < 0 ∧ ol = 0 then some (e ++ [(t, nw)]) else none := if_pos rfl
            by_cases hc : nameIx e t < 0 ∧ ol = 0
            · rw [if_pos hc] at hac
              have hdec : (decide (nameIx e t < 0) && decide (ol = 0)) = true := by rw [decide_eq_true hc.1, decide_eq_true hc.2]; rfl
              obtain ⟨hz1, hz2⟩ := hcz _ hac
              rw [hac] at hstep
              have hel : (e ++ [(t, nw)]).length = e.length + 1 := by simp
              refine aStop_of (applied0_c _ _ (.sl cb 0 e.length none 2) e t ol nw (Sl.whole (t := 34) (r := true) k3 (by simp [rowsD_len])) (by omega)) ?_
              rintro r δ ⟨rfl, rfl⟩
              (repeat (simp (disch := omega) [hdec]))
              first | (refine hKK _ _ _ ?_; clear hKK KK; simp only [thenA, blockA, reduceIte]) | skip
              generalize e ++ [(t, nw)] = e' at *
              repeat' (first
                | refine AWP.seq ?_
                | refine AWP.block ?_
                | (refine AWP.skip ?_; simp only [thenA, blockA, reduceIte])
                | (refine AWP.exit ?_; simp only [thenA, blockA, eq_self, reduceIte, Nat.reduceEqDiff, Nat.succ_ne_zero])
                | (refine AWP.ret ?_; simp only [thenA, blockA, reduceIte])
                | (refine AWP.region (by rfl) (fun KK hKK => ?_); (repeat (simp (disch := omega) [hdec])); first | (refine hKK _ _ _ ?_; clear hKK KK; simp only [thenA, blockA, reduceIte]) | skip)
                | (refine AWP.draw' mixd (by rfl) (by kernel_rfl) (fun KK tab hKK htab => ?_); (repeat (simp (disch := omega) [hdec])); first | (refine dEnd_ro ?_ (hKK _ _ _ ?_); (focus (simp; done)); clear htab tab hKK KK; simp only [thenA, blockA, reduceIte]) | (refine dEnd_of ?_ (hKK _ _ _ ?_); (focus (simp only [List.reverse_cons, List.reverse_nil, List.nil_append, List.cons_append, memA, mem1, and_true, true_and]; (repeat' apply And.intro); (all_goals (first | trivial | (refine .inr ⟨?_, ?_⟩ <;> (simp; done)) | (refine .inr ⟨?_, ?_⟩ <;> (simp <;> omega)) | (refine .inl ?_; rw [htab]; kernel_rfl))); done)); clear htab tab hKK KK; simp only [thenA, blockA, reduceIte]) | skip)
                | (refine AWP.if_t ?_ ?_; focus (simp (disch := omega) [hdec]; done))
                | (refine AWP.if_f ?_ ?_; focus (simp (disch := omega) [hdec]; done)))
              cases hoke' : okDs (-1000) 1000 e' with
              | true =>
                have hokO : okO (some e') = some e' := if_pos hoke'
                rw [hokO] at hstep
                refine aStop_of (validEnumS_c _ _ (.sl M 0 (e.length + 1) none 2) e' (Sl.whole (t := 34) (r := true) (by simp (disch := omega) only [upd_eq, upd_ne]) (by simp [rowsD_len, hel])) (by omega) hz1) ?_
                rintro r δ ⟨rfl, rfl⟩
                (repeat (simp (disch := omega) [hoke']))
                first | (refine hKK _ _ _ ?_; clear hKK KK; simp only [thenA, blockA, reduceIte]) | skip
                repeat' (first
                  | refine AWP.seq ?_
                  | refine AWP.block ?_
                  | (refine AWP.skip ?_; simp only [thenA, blockA, reduceIte])
                  | (refine AWP.exit ?_; simp only [thenA, blockA, eq_self, reduceIte, Nat.reduceEqDiff, Nat.succ_ne_zero])
                  | (refine AWP.ret ?_; simp only [thenA, blockA, reduceIte])
                  | (refine AWP.region (by rfl) (fun KK hKK => ?_); (repeat (simp (disch := omega) [hoke'])); first | (refine hKK _ _ _ ?_; clear hKK KK; simp only [thenA, blockA, reduceIte]) | skip)
                  | (refine AWP.draw' mixd (by rfl) (by kernel_rfl) (fun KK tab hKK htab => ?_); (repeat (simp (disch := omega) [hoke'])); first | (refine dEnd_ro ?_ (hKK _ _ _ ?_); (focus (simp; done)); clear htab tab hKK KK; simp only [thenA, blockA, reduceIte]) | (refine dEnd_of ?_ (hKK _ _ _ ?_); (focus (simp only [List.reverse_cons, List.reverse_nil, List.nil_append, List.cons_append, memA, mem1, and_true, true_and]; (repeat' apply And.intro); (all_goals (first | trivial | (refine .inr ⟨?_, ?_⟩ <;> (simp; done)) | (refine .inr ⟨?_, ?_⟩ <;> (simp <;> omega)) | (refine .inl ?_; rw [htab]; kernel_rfl))); done)); clear htab tab hKK KK; simp only [thenA, blockA, reduceIte]) | skip)
                  | (refine AWP.if_t ?_ ?_; focus (simp (disch := omega) [hoke']; done))
                  | (refine AWP.if_f ?_ ?_; focus (simp (disch := omega) [hoke']; done)))
                refine ⟨_, _, _, _, ?_, ⟨k + 1, M, e', by omega, rfl, hstep, rfl, by simp (disch := omega) only [upd_eq, upd_ne, k1], by simp (disch := omega) only [upd_eq, upd_ne], by omega, by omega, (by repeat (first | exact Over.refl _ | exact hov | refine Over.upd ?_ hB (by omega) | refine Over.del ?_ hB (by omega)))⟩, Weak.tau (by simp [LQ, hel])⟩
                omega
              | false =>
                have hokO : okO (some e') = none := if_neg (by rw [hoke']; simp)
                rw [hokO] at hstep
                refine aStop_of (validEnumS_c _ _ (.sl M 0 (e.length + 1) none 2) e' (Sl.whole (t := 34) (r := true) (by simp (disch := omega) only [upd_eq, upd_ne]) (by simp [rowsD_len, hel])) (by omega) hz1) ?_
                rintro r δ ⟨rfl, rfl⟩
                (repeat (simp (disch := omega) [hoke']))
                first | (refine hKK _ _ _ ?_; clear hKK KK; simp only [thenA, blockA, reduceIte]) | skip
                repeat' (first
                  | refine AWP.seq ?_
                  | refine AWP.block ?_
                  | (refine AWP.skip ?_; simp only [thenA, blockA, reduceIte])
                  | (refine AWP.exit ?_; simp only [thenA, blockA, eq_self, reduceIte, Nat.reduceEqDiff, Nat.succ_ne_zero])
                  | (refine AWP.ret ?_; simp only [thenA, blockA, reduceIte])
                  | (refine AWP.region (by rfl) (fun KK hKK => ?_); (repeat (simp (disch := omega) [hoke', k1])); first | (refine hKK _ _ _ ?_; clear hKK KK; simp only [thenA, blockA, reduceIte]) | skip)
                  | (refine AWP.draw' mixd (by rfl) (by kernel_rfl) (fun KK tab hKK htab => ?_); (repeat (simp (disch := omega) [hoke', k1])); first | (refine dEnd_ro ?_ (hKK _ _ _ ?_); (focus (simp; done)); clear htab tab hKK KK; simp only [thenA, blockA, reduceIte]) | (refine dEnd_of ?_ (hKK _ _ _ ?_); (focus (simp only [List.reverse_cons, List.reverse_nil, List.nil_append, List.cons_append, memA, mem1, and_true, true_and]; (repeat' apply And.intro); (all_goals (first | trivial | (refine .inr ⟨?_, ?_⟩ <;> (simp; done)) | (refine .inr ⟨?_, ?_⟩ <;> (simp <;> omega)) | (refine .inl ?_; rw [htab]; kernel_rfl))); done)); clear htab tab hKK KK; simp only [thenA, blockA, reduceIte]) | skip)
                  | (refine AWP.if_t ?_ ?_; focus (simp (disch := omega) [hoke', k1]; done))
                  | (refine AWP.if_f ?_ ?_; focus (simp (disch := omega) [hoke', k1]; done)))
                have hcon := apL_none (hstep.trans rfl)
                rw [hO] at hcon
                cases hcon
            · rw [if_neg hc] at hac
              have hdec : (decide (nameIx e t < 0) && decide (ol = 0)) = false := by
                cases h1 : decide (nameIx e t < 0) && decide (ol = 0) with
                | false => rfl
                | true =>
                  rw [Bool.and_eq_true] at h1
                  exact absurd ⟨of_decide_eq_true h1.1, of_decide_eq_true h1.2⟩ hc
              rw [hac] at hstep
              refine aStop_of (applied0_c _ _ (.sl cb 0 e.length none 2) e t ol nw (Sl.whole (t := 34) (r := true) k3 (by simp [rowsD_len])) (by omega)) ?_
              rintro r δ ⟨rfl, rfl⟩
              (repeat (simp (disch := omega) [hdec]))
              first | (refine hKK _ _ _ ?_; clear hKK KK; simp only [thenA, blockA, reduceIte]) | skip
              repeat' (first
                | refine AWP.seq ?_
                | refine AWP.block ?_
                | (refine AWP.skip ?_; simp only [thenA, blockA, reduceIte])
                | (refine AWP.exit ?_; simp only [thenA, blockA, eq_self, reduceIte, Nat.reduceEqDiff, Nat.succ_ne_zero])
                | (refine AWP.ret ?_; simp only [thenA, blockA, reduceIte])
                | (refine AWP.region (by rfl) (fun KK hKK => ?_); (repeat (simp (disch := omega) [hdec, k1])); first | (refine hKK _ _ _ ?_; clear hKK KK; simp only [thenA, blockA, reduceIte]) | skip)
                | (refine AWP.draw' mixd (by rfl) (by kernel_rfl) (fun KK tab hKK htab => ?_); (repeat (simp (disch := omega) [hdec, k1])); first | (refine dEnd_ro ?_ (hKK _ _ _ ?_); (focus (simp; done)); clear htab tab hKK KK; simp only [thenA, blockA, reduceIte]) | (refine dEnd_of ?_ (hKK _ _ _ ?_); (focus (simp only [List.reverse_cons, List.reverse_nil, List.nil_append, List.cons_append, memA, mem1, and_true, true_and]; (repeat' apply And.intro); (all_goals (first | trivial | (refine .inr ⟨?_, ?_⟩ <;> (simp; done)) | (refine .inr ⟨?_, ?_⟩ <;> (simp <;> omega)) | (refine .inl ?_; rw [htab]; kernel_rfl))); done)); clear htab tab hKK KK; simp only [thenA, blockA, reduceIte]) | skip)
                | (refine AWP.if_t ?_ ?_; focus (simp (disch := omega) [hdec, k1]; done))
                | (refine AWP.if_f ?_ ?_; focus (simp (disch := omega) [hdec, k1]; done)))
              have hcon := apL_none (hstep.trans rfl)
              rw [hO] at hcon
              cases hcon
          · cases hac : apC e (kd, t, ol, nw) with
            | none =>
              rw [hac] at hstep
              refine aStop_of (appliedN_c _ _ (.sl cb 0 e.length none 2) e kd t ol nw hkd (Sl.whole (t := 34) (r := true) k3 (by simp [rowsD_len])) (by omega)) ?_
              rintro r δ ⟨rfl, rfl⟩
              (repeat (simp (disch := omega) [hac, eOut_none, dOut_none]))
              first | (refine hKK _ _ _ ?_; clear hKK KK; simp only [thenA, blockA, reduceIte]) | skip
              repeat' (first
                | refine AWP.seq ?_
                | refine AWP.block ?_
                | (refine AWP.skip ?_; simp only [thenA, blockA, reduceIte])
                | (refine AWP.exit ?_; simp only [thenA, blockA, eq_self, reduceIte, Nat.reduceEqDiff, Nat.succ_ne_zero])
                | (refine AWP.ret ?_; simp only [thenA, blockA, reduceIte])
                | (refine AWP.region (by rfl) (fun KK hKK => ?_); (repeat (simp (disch := omega) [k1])); first | (refine hKK _ _ _ ?_; clear hKK KK; simp only [thenA, blockA, reduceIte]) | skip)
                | (refine AWP.draw' mixd (by rfl) (by kernel_rfl) (fun KK tab hKK htab => ?_); (repeat (simp (disch := omega) [k1])); first | (refine dEnd_ro ?_ (hKK _ _ _ ?_); (focus (simp; done)); clear htab tab hKK KK; simp only [thenA, blockA, reduceIte]) | (refine dEnd_of ?_ (hKK _ _ _ ?_); (focus (simp only [List.reverse_cons, List.reverse_nil, List.nil_append, List.cons_append, memA, mem1, and_true, true_and]; (repeat' apply And.intro); (all_goals (first | trivial | (refine .inr ⟨?_, ?_⟩ <;> (simp; done)) | (refine .inr ⟨?_, ?_⟩ <;> (simp <;> omega)) | (refine .inl ?_; rw [htab]; kernel_rfl))); done)); clear htab tab hKK KK; simp only [thenA, blockA, reduceIte]) | skip)
                | (refine AWP.if_t ?_ ?_; focus (simp (disch := omega) [k1]; done))
                | (refine AWP.if_f ?_ ?_; focus (simp (disch := omega) [k1]; done)))
              have hcon := apL_none (hstep.trans rfl)
              rw [hO] at hcon
              cases hcon
            | some e' =>
              obtain ⟨hz1, hz2⟩ := hcz _ hac
              rw [hac] at hstep
              refine aStop_of (appliedN_c _ _ (.sl cb 0 e.length none 2) e kd t ol nw hkd (Sl.whole (t := 34) (r := true) k3 (by simp [rowsD_len])) (by omega)) ?_
              rintro r δ ⟨rfl, rfl⟩
              (repeat (simp (disch := omega) [hac, eOut_some, dOut_some]))
              first | (refine hKK _ _ _ ?_; clear hKK KK; simp only [thenA, blockA, reduceIte]) | skip
              repeat' (first
                | refine AWP.seq ?_
                | refine AWP.block ?_
                | (refine AWP.skip ?_; simp only [thenA, blockA, reduceIte])
                | (refine AWP.exit ?_; simp only [thenA, blockA, eq_self, reduceIte, Nat.reduceEqDiff, Nat.succ_ne_zero])
                | (refine AWP.ret ?_; simp only [thenA, blockA, reduceIte])
                | (refine AWP.region (by rfl) (fun KK hKK => ?_); (repeat (simp (disch := omega) [])); first | (refine hKK _ _ _ ?_; clear hKK KK; simp only [thenA, blockA, reduceIte]) | skip)
                | (refine AWP.draw' mixd (by rfl) (by kernel_rfl) (fun KK tab hKK htab => ?_); (repeat (simp (disch := omega) [])); first | (refine dEnd_ro ?_ (hKK _ _ _ ?_); (focus (simp; done)); clear htab tab hKK KK; simp only [thenA, blockA, reduceIte]) | (refine dEnd_of ?_ (hKK _ _ _ ?_); (focus (simp only [List.reverse_cons, List.reverse_nil, List.nil_append, List.cons_append, memA, mem1, and_true, true_and]; (repeat' apply And.intro); (all_goals (first | trivial | (refine .inr ⟨?_, ?_⟩ <;> (simp; done)) | (refine .inr ⟨?_, ?_⟩ <;> (simp <;> omega)) | (refine .inl ?_; rw [htab]; kernel_rfl))); done)); clear htab tab hKK KK; simp only [thenA, blockA, reduceIte]) | skip)
                | (refine AWP.if_t ?_ ?_; focus (simp (disch := omega) []; done))
                | (refine AWP.if_f ?_ ?_; focus (simp (disch := omega) []; done)))
              cases hoke' : okDs (-1000) 1000 e' with
              | true =>
                have hokO : okO (some e') = some e' := if_pos hoke'
                rw [hokO] at hstep
                refine aStop_of (validEnumS_c _ _ (.sl M 0 e'.length none 2) e' (Sl.whole (t := 34) (r := true) (by simp (disch := omega) only [upd_eq, upd_ne]) (by simp [rowsD_len])) (by omega) hz1) ?_
                rintro r δ ⟨rfl, rfl⟩
                (repeat (simp (disch := omega) [hoke']))
                first | (refine hKK _ _ _ ?_; clear hKK KK; simp only [thenA, blockA, reduceIte]) | skip
                repeat' (first
                  | refine AWP.seq ?_
                  | refine AWP.block ?_
                  | (refine AWP.skip ?_; simp only [thenA, blockA, reduceIte])
                  | (refine AWP.exit ?_; simp only [thenA, blockA, eq_self, reduceIte, Nat.reduceEqDiff, Nat.succ_ne_zero])
                  | (refine AWP.ret ?_; simp only [thenA, blockA, reduceIte])
                  | (refine AWP.region (by rfl) (fun KK hKK => ?_); (repeat (simp (disch := omega) [hoke'])); first | (refine hKK _ _ _ ?_; clear hKK KK; simp only [thenA, blockA, reduceIte]) | skip)
                  | (refine AWP.draw' mixd (by rfl) (by kernel_rfl) (fun KK tab hKK htab => ?_); (repeat (simp (disch := omega) [hoke'])); first | (refine dEnd_ro ?_ (hKK _ _ _ ?_); (focus (simp; done)); clear htab tab hKK KK; simp only [thenA, blockA, reduceIte]) | (refine dEnd_of ?_ (hKK _ _ _ ?_); (focus (simp only [List.reverse_cons, List.reverse_nil, List.nil_append, List.cons_append, memA, mem1, and_true, true_and]; (repeat' apply And.intro); (all_goals (first | trivial | (refine .inr ⟨?_, ?_⟩ <;> (simp; done)) | (refine .inr ⟨?_, ?_⟩ <;> (simp <;> omega)) | (refine .inl ?_; rw [htab]; kernel_rfl))); done)); clear htab tab hKK KK; simp only [thenA, blockA, reduceIte]) | skip)
                  | (refine AWP.if_t ?_ ?_; focus (simp (disch := omega) [hoke']; done))
                  | (refine AWP.if_f ?_ ?_; focus (simp (disch := omega) [hoke']; done)))
                refine ⟨_, _, _, _, ?_, ⟨k + 1, M, e', by omega, rfl, hstep, rfl, by simp (disch := omega) only [upd_eq, upd_ne, k1], by simp (disch := omega) only [upd_eq, upd_ne], by omega, by omega, (by repeat (first | exact Over.refl _ | exact hov | refine Over.upd ?_ hB (by omega) | refine Over.del ?_ hB (by omega)))⟩, Weak.tau (by simp [LQ])⟩
                omega
              | false =>
                have hokO : okO (some e') = none := if_neg (by rw [hoke']; simp)
                rw [hokO] at hstep
                refine aStop_of (validEnumS_c _ _ (.sl M 0 e'.length none 2) e' (Sl.whole (t := 34) (r := true) (by simp (disch := omega) only [upd_eq, upd_ne]) (by simp [rowsD_len])) (by omega) hz1) ?_
                rintro r δ ⟨rfl, rfl⟩
                (repeat (simp (disch := omega) [hoke']))
                first | (refine hKK _ _ _ ?_; clear hKK KK; simp only [thenA, blockA, reduceIte]) | skip
                repeat' (first
                  | refine AWP.seq ?_
                  | refine AWP.block ?_
                  | (refine AWP.skip ?_; simp only [thenA, blockA, reduceIte])
                  | (refine AWP.exit ?_; simp only [thenA, blockA, eq_self, reduceIte, Nat.reduceEqDiff, Nat.succ_ne_zero])
                  | (refine AWP.ret ?_; simp only [thenA, blockA, reduceIte])
                  | (refine AWP.region (by rfl) (fun KK hKK => ?_); (repeat (simp (disch := omega) [hoke', k1])); first | (refine hKK _ _ _ ?_; clear hKK KK; simp only [thenA, blockA, reduceIte]) | skip)
                  | (refine AWP.draw' mixd (by rfl) (by kernel_rfl) (fun KK tab hKK htab => ?_); (repeat (simp (disch := omega) [hoke', k1])); first | (refine dEnd_ro ?_ (hKK _ _ _ ?_); (focus (simp; done)); clear htab tab hKK KK; simp only [thenA, blockA, reduceIte]) | (refine dEnd_of ?_ (hKK _ _ _ ?_); (focus (simp only [List.reverse_cons, List.reverse_nil, List.nil_append, List.cons_append, memA, mem1, and_true, true_and]; (repeat' apply And.intro); (all_goals (first | trivial | (refine .inr ⟨?_, ?_⟩ <;> (simp; done)) | (refine .inr ⟨?_, ?_⟩ <;> (simp <;> omega)) | (refine .inl ?_; rw [htab]; kernel_rfl))); done)); clear htab tab hKK KK; simp only [thenA, blockA, reduceIte]) | skip)
                  | (refine AWP.if_t ?_ ?_; focus (simp (disch := omega) [hoke', k1]; done))
                  | (refine AWP.if_f ?_ ?_; focus (simp (disch := omega) [hoke', k1]; done)))
                have hcon := apL_none (hstep.trans rfl)
                rw [hO] at hcon
                cases hcon
        · have hk' : k = l.length := by omega
          subst hk'
          rw [List.take_length, hO] at he
          cases he
          repeat' (first
            | refine AWP.seq ?_
            | refine AWP.block ?_
            | (refine AWP.skip ?_; simp only [thenA, blockA, reduceIte])
            | (refine AWP.exit ?_; simp only [thenA, blockA, eq_self, reduceIte, Nat.reduceEqDiff, Nat.succ_ne_zero])
            | (refine AWP.ret ?_; simp only [thenA, blockA, reduceIte])
            | (refine AWP.region (by rfl) (fun KK hKK => ?_); (repeat (simp (disch := omega) [hlt, k1])); first | (refine hKK _ _ _ ?_; clear hKK KK; simp only [thenA, blockA, reduceIte]) | skip)
            | (refine AWP.draw' mixd (by rfl) (by kernel_rfl) (fun KK tab hKK htab => ?_); (repeat (simp (disch := omega) [hlt, k1])); first | (refine dEnd_ro ?_ (hKK _ _ _ ?_); (focus (simp; done)); clear htab tab hKK KK; simp only [thenA, blockA, reduceIte]) | (refine dEnd_of ?_ (hKK _ _ _ ?_); (focus (simp only [List.reverse_cons, List.reverse_nil, List.nil_append, List.cons_append, memA, mem1, and_true, true_and]; (repeat' apply And.intro); (all_goals (first | trivial | (refine .inr ⟨?_, ?_⟩ <;> (simp; done)) | (refine .inr ⟨?_, ?_⟩ <;> (simp <;> omega)) | (refine .inl ?_; rw [htab]; kernel_rfl))); done)); clear htab tab hKK KK; simp only [thenA, blockA, reduceIte]) | skip)
            | (refine AWP.if_t ?_ ?_; focus (simp (disch := omega) [hlt, k1]; done))
            | (refine AWP.if_f ?_ ?_; focus (simp (disch := omega) [hlt, k1]; done)))
          refine ⟨by simp, ?_⟩
          have hres : Try.f30.results.toList = [.cell 4 25, .tmp 5] := rfl
          rw [hres]
          simp (disch := omega) []
          refine fin1 cb (blkD R) (by simp (disch := omega) only [upd_eq, upd_ne, k3]) rfl (flatD _) ⟨?_, rfl⟩ (by omega) (by simp [resO, nms, nmss]; try (intros; omega))
          simp [resO, ren, rens, rho]
    · have h30i : (30 : Int) < l.length := by omega
      have h30n : 30 < l.length := by omega
      have ho : apO ds l = none := apO_no (by simp [h30])
      rw [ho, eOut_none, dOut_none]
      refine AC.intro [] ent_30 Try.func30 rfl (by simp [Try.f30]) (by simp) ?_
      intro K s hs hB hn hν hA hFr
      simp only [argT, Nat.zero_add, Nat.reduceAdd]
      have hK0 : ¬ 0 = K := by omega
      have hK1 : ¬ 0 = K + 1 := by omega
      have hx' := hx.vw hs.vw
      repeat' (first
        | refine AWP.seq ?_
        | refine AWP.block ?_
        | (refine AWP.skip ?_; simp only [thenA, blockA, reduceIte])
        | (refine AWP.exit ?_; simp only [thenA, blockA, eq_self, reduceIte, Nat.reduceEqDiff, Nat.succ_ne_zero])
        | (refine AWP.ret ?_; simp only [thenA, blockA, reduceIte])
        | (refine AWP.region (by rfl) (fun KK hKK => ?_); (repeat (simp (disch := omega) [])); first | (refine hKK _ _ _ ?_; clear hKK KK; simp only [thenA, blockA, reduceIte]) | skip)
        | (refine AWP.draw' mixd (by rfl) (by kernel_rfl) (fun KK tab hKK htab => ?_); (repeat (simp (disch := omega) [])); first | (refine dEnd_ro ?_ (hKK _ _ _ ?_); (focus (simp; done)); clear htab tab hKK KK; simp only [thenA, blockA, reduceIte]) | (refine dEnd_of ?_ (hKK _ _ _ ?_); (focus (simp only [List.reverse_cons, List.reverse_nil, List.nil_append, List.cons_append, memA, mem1, and_true, true_and]; (repeat' apply And.intro); (all_goals (first | trivial | (refine .inr ⟨?_, ?_⟩ <;> (simp; done)) | (refine .inr ⟨?_, ?_⟩ <;> (simp <;> omega)) | (refine .inl ?_; rw [htab]; kernel_rfl))); done)); clear htab tab hKK KK; simp only [thenA, blockA, reduceIte]) | skip)
        | (refine AWP.if_t ?_ ?_; focus (simp (disch := omega) []; done))
        | (refine AWP.if_f ?_ ?_; focus (simp (disch := omega) []; done)))
      refine aStop_of (validEnumS_c _ _ _ ds (hx'.vw ((Vw.refl _).over (by repeat (first | exact Over.refl _ | exact hov | refine Over.upd ?_ hB (by omega) | refine Over.del ?_ hB (by omega))))) (by omega) hsz) ?_
      rintro r δ ⟨rfl, rfl⟩
      (repeat (simp (disch := omega) [hok, h30i, h30n]))
      first | (refine hKK _ _ _ ?_; clear hKK KK; simp only [thenA, blockA, reduceIte]) | skip
      repeat' (first
        | refine AWP.seq ?_
        | refine AWP.block ?_
        | (refine AWP.skip ?_; simp only [thenA, blockA, reduceIte])
        | (refine AWP.exit ?_; simp only [thenA, blockA, eq_self, reduceIte, Nat.reduceEqDiff, Nat.succ_ne_zero])
        | (refine AWP.ret ?_; simp only [thenA, blockA, reduceIte])
        | (refine AWP.region (by rfl) (fun KK hKK => ?_); (repeat (simp (disch := omega) [hok, h30i, h30n])); first | (refine hKK _ _ _ ?_; clear hKK KK; simp only [thenA, blockA, reduceIte]) | skip)
        | (refine AWP.draw' mixd (by rfl) (by kernel_rfl) (fun KK tab hKK htab => ?_); (repeat (simp (disch := omega) [hok, h30i, h30n])); first | (refine dEnd_ro ?_ (hKK _ _ _ ?_); (focus (simp; done)); clear htab tab hKK KK; simp only [thenA, blockA, reduceIte]) | (refine dEnd_of ?_ (hKK _ _ _ ?_); (focus (simp only [List.reverse_cons, List.reverse_nil, List.nil_append, List.cons_append, memA, mem1, and_true, true_and]; (repeat' apply And.intro); (all_goals (first | trivial | (refine .inr ⟨?_, ?_⟩ <;> (simp; done)) | (refine .inr ⟨?_, ?_⟩ <;> (simp <;> omega)) | (refine .inl ?_; rw [htab]; kernel_rfl))); done)); clear htab tab hKK KK; simp only [thenA, blockA, reduceIte]) | skip)
        | (refine AWP.if_t ?_ ?_; focus (simp (disch := omega) [hok, h30i, h30n]; done))
        | (refine AWP.if_f ?_ ?_; focus (simp (disch := omega) [hok, h30i, h30n]; done)))
      refine ⟨by simp, ?_⟩
      have hres : Try.f30.results.toList = [.cell 4 25, .tmp 5] := rfl
      rw [hres]
      simp (disch := omega) []
      refine fin0 ⟨?_, rfl⟩ (by simp [resO, nms, nmss])
      simp [resO, ren, rens, rho, hK0, hK1]
end Go.Proofs.Ytgaiemhbllbaiaa
