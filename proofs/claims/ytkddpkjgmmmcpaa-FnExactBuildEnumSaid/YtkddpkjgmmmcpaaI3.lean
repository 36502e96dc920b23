/- Contracts: BuildEnum of the reference. No condition. -/
import Derived.Test.YtkddpkjgmmmcpaaI2
import Derived.Test.YtkddpkjgmmmcpaaLB
set_option linter.unusedSimpArgs false
set_option linter.unusedVariables false
namespace Go.Proofs.Ytkddpkjgmmmcpaa
open Go Go.RowKit

theorem vIt_iff {lo hi : Int} {its : List It} : vIt lo hi its = true ↔ its.length ≤ 12 ∧ ∀ i, ∀ h : i < its.length, vname its[i].1 = true ∧ itOk its[i] = true ∧ lo ≤ its[i].2.2 ∧ its[i].2.2 ≤ hi ∧ ∀ x ∈ its.take i, x.1 ≠ its[i].1 := by
  unfold vIt vTo
  simp only [Bool.and_eq_true, List.all_eq_true, List.mem_range, decide_eq_true_eq]
  constructor
  · rintro ⟨h1, h2⟩
    refine ⟨by omega, fun i hi' => ?_⟩
    have := h1 i hi'
    rw [vAt_eq _ _ _ _ hi'] at this
    simp only [Bool.and_eq_true, decide_eq_true_eq] at this
    exact ⟨this.1.1.1, this.1.1.2, this.1.2.1, this.1.2.2, this.2⟩
  · rintro ⟨h1, h2⟩
    refine ⟨fun i hi' => ?_, by omega⟩
    obtain ⟨a, b, c, d, e⟩ := h2 i hi'
    rw [vAt_eq _ _ _ _ hi']
    simp only [Bool.and_eq_true, decide_eq_true_eq]
    exact ⟨⟨⟨a, b⟩, c, d⟩, e⟩
theorem bdL_names : ∀ its : List It, (bdL its).map (·.1) = its.map (·.1) := by
  intro its
  induction its using rev_ind with
  | nil => rfl
  | snoc l t ih => rw [bdL_snoc]; simp [ih]
theorem bdL_has : ∀ its : List It, ∀ t ∈ its, ∃ d ∈ bdL its, d.1 = t.1 ∧ (t.2.1 = false → d.2 = t.2.2) := by
  intro its
  induction its using rev_ind with
  | nil => intro t ht; simp at ht
  | snoc l u ih =>
    intro t ht
    rw [bdL_snoc]
    rcases List.mem_append.1 ht with ht | ht
    · obtain ⟨d, hd, h⟩ := ih t ht
      exact ⟨d, by simp [hd], h⟩
    · rw [List.mem_singleton.1 ht]
      exact ⟨(u.1, if u.2.1 = true then nxV (bdL l) else u.2.2), by simp, rfl, fun h => if_neg (by simp [h])⟩
theorem blO_valid {its : List It} {l : List Df} (h : blO its = some l) : vIt (-1000) 1000 its = true := by
  unfold blO at h
  split at h
  · rename_i hh
    obtain ⟨h1, h2, h3⟩ := hh
    obtain ⟨_, h5, h6⟩ := okDs_pw.1 h3
    rw [List.all_eq_true] at h2
    refine vIt_iff.2 ⟨h1, fun i hi => ?_⟩
    have hm := List.getElem_mem hi
    obtain ⟨d, hd, e1, e2⟩ := bdL_has its _ hm
    obtain ⟨v1, v2, v3⟩ := h5 d hd
    have hok := h2 _ hm
    have hpw : its.Pairwise fun a b => a.1 ≠ b.1 := by
      have : ((bdL its).map (·.1)).Pairwise (· ≠ ·) := List.pairwise_map.2 h6
      rw [bdL_names] at this
      exact List.pairwise_map.1 this
    have hr : (-1000 : Int) ≤ its[i].2.2 ∧ its[i].2.2 ≤ 1000 := by
      cases ha : its[i].2.1 with
      | true =>
        have : its[i].2.2 = 0 := by simpa [itOk, ha] using hok
        omega
      | false =>
        rw [← e2 ha]
        exact ⟨v2, v3⟩
    refine ⟨by rw [← e1]; exact v1, hok, hr.1, hr.2, fun x hx => ?_⟩
    obtain ⟨j, hj, rfl⟩ := List.mem_take_iff_getElem.1 hx
    exact List.pairwise_iff_getElem.1 hpw j i (by omega) hi (by omega)
  · cases h
theorem grV_bd2 {lo hi : Int} (h0 : lo ≤ 0 ∧ 0 ≤ hi) (ds : List Df) (h : ∀ d ∈ ds, lo ≤ d.2 ∧ d.2 ≤ hi) : lo ≤ grV ds 0 ∧ grV ds 0 ≤ hi := by
  cases ds with
  | nil => exact h0
  | cons d l => exact gtV_bd l d.2 (fun e he => h e (by simp [he])) (h d (by simp))
theorem nxV_eq {ds : List Df} (h : ∀ d ∈ ds, -1000000 ≤ d.2 ∧ d.2 ≤ 1000000) : nxV ds = grV ds 0 + 1 := by
  have := grV_bd2 (lo := -1000000) (hi := 1000000) (by omega) ds h
  exact wrap_sm _ (by omega) (by omega)
theorem bdL_bd : ∀ its : List It, its.length ≤ 900000 → (∀ t ∈ its, -1000 ≤ t.2.2 ∧ t.2.2 ≤ 1000) → ∀ d ∈ bdL its, -1000 ≤ d.2 ∧ d.2 ≤ 1000 + its.length := by
  intro its
  induction its using rev_ind with
  | nil => intro _ _ d hd; simp [bdL] at hd
  | snoc l t ih =>
    intro hl h d hd
    simp only [List.length_append, List.length_cons, List.length_nil] at hl ⊢
    have ih' := ih (by omega) (fun u hu => h u (by simp [hu]))
    rw [bdL_snoc] at hd
    rcases List.mem_append.1 hd with hd | hd
    · have := ih' d hd
      omega
    · rw [List.mem_singleton.1 hd]
      simp only
      split
      · rw [nxV_eq fun e he => by have := ih' e he; omega]
        have := grV_bd2 (lo := -1000) (hi := 1000 + l.length) (by omega) (bdL l) ih'
        omega
      · have := h t (by simp)
        omega

set_option maxRecDepth 10000 in
set_option maxHeartbeats 4000000 in
theorem buildEnumS_c (σ : Sto) (ν : Nat) (x : AV) (its : List It) (hx : Sl σ x 3 (rowsT its)) (hlen : its.length ≤ 4294967296) (hsz : ∀ t ∈ its, t.1.size ≤ 9223372036854775807) :
    AC Try.prog 55 [x] σ ν fun r δ => r = .tup [.agg [eOut ν (fun _ => none) (blO its)], .v (.bool (blO its).isSome)] ∧ δ = dOut ν (blO its) := by
  obtain ⟨b, o, cap, z, rfl⟩ := hx.out
  simp only [rowsT_len] at hx ⊢
  refine AC.intro [] ent_55 Try.func55 rfl (by simp [Try.f55]) (by simp) ?_
  intro K s hs hB hn hν hA hFr
  simp only [argT, Nat.zero_add, Nat.reduceAdd]
  have hx' := hx.vw hs.vw
  have hbK : b < K := hA b (by simp [nmAs, nmA])
  have hK0 : ¬ 0 = K := by omega
  repeat' (first
    | refine AWP.seq ?_
    | refine AWP.block ?_
    | (refine AWP.skip ?_; simp only [thenA, blockA, reduceIte])
    | (refine AWP.exit ?_; simp only [thenA, blockA, eq_self, reduceIte, Nat.reduceEqDiff, Nat.succ_ne_zero])
    | (refine AWP.ret ?_; simp only [thenA, blockA, reduceIte])
    | (refine AWP.region (by rfl) (fun KK hKK => ?_); (repeat (simp (disch := omega) [])); first | (refine hKK _ _ _ ?_; clear hKK KK; simp only [thenA, blockA, reduceIte]) | skip)
    | (refine AWP.draw' mixd (by rfl) (by kernel_rfl) (fun KK tab hKK htab => ?_); (repeat (simp (disch := omega) [])); first | (refine dEnd_ro ?_ (hKK _ _ _ ?_); (focus (simp; done)); clear htab tab hKK KK; simp only [thenA, blockA, reduceIte]) | (refine dEnd_of ?_ (hKK _ _ _ ?_); (focus (simp only [List.reverse_cons, List.reverse_nil, List.nil_append, List.cons_append, memA, mem1, and_true, true_and]; (repeat' apply And.intro); (all_goals (first | trivial | (refine .inr ⟨?_, ?_⟩ <;> (simp; done)) | (refine .inr ⟨?_, ?_⟩ <;> (simp <;> omega)) | (refine .inl ?_; rw [htab]; kernel_rfl))); done)); clear htab tab hKK KK; simp only [thenA, blockA, reduceIte]) | skip)
    | (refine AWP.if_t ?_ ?_; focus (simp (disch := omega) []; done))
    | (refine AWP.if_f ?_ ?_; focus (simp (disch := omega) []; done)))
  refine aStop_of (validItems_c _ _ _ its _ _ (hx'.vw ((Vw.refl _).over (by repeat (first | exact Over.refl _ | exact hov | refine Over.upd ?_ hB (by omega) | refine Over.del ?_ hB (by omega))))) (by omega) hsz) ?_
  rintro r δ ⟨rfl, rfl⟩
  (repeat (simp (disch := omega) []))
  first | (refine hKK _ _ _ ?_; clear hKK KK; simp only [thenA, blockA, reduceIte]) | skip
  cases hv : vIt (-1000) 1000 its with
  | false =>
    have ho : blO its = none := by
      cases h : blO its with
      | none => rfl
      | some l => rw [blO_valid h] at hv; cases hv
    repeat' (first
      | refine AWP.seq ?_
      | refine AWP.block ?_
      | (refine AWP.skip ?_; simp only [thenA, blockA, reduceIte])
      | (refine AWP.exit ?_; simp only [thenA, blockA, eq_self, reduceIte, Nat.reduceEqDiff, Nat.succ_ne_zero])
      | (refine AWP.ret ?_; simp only [thenA, blockA, reduceIte])
      | (refine AWP.region (by rfl) (fun KK hKK => ?_); (repeat (simp (disch := omega) [hv])); first | (refine hKK _ _ _ ?_; clear hKK KK; simp only [thenA, blockA, reduceIte]) | skip)
      | (refine AWP.draw' mixd (by rfl) (by kernel_rfl) (fun KK tab hKK htab => ?_); (repeat (simp (disch := omega) [hv])); first | (refine dEnd_ro ?_ (hKK _ _ _ ?_); (focus (simp; done)); clear htab tab hKK KK; simp only [thenA, blockA, reduceIte]) | (refine dEnd_of ?_ (hKK _ _ _ ?_); (focus (simp only [List.reverse_cons, List.reverse_nil, List.nil_append, List.cons_append, memA, mem1, and_true, true_and]; (repeat' apply And.intro); (all_goals (first | trivial | (refine .inr ⟨?_, ?_⟩ <;> (simp; done)) | (refine .inr ⟨?_, ?_⟩ <;> (simp <;> omega)) | (refine .inl ?_; rw [htab]; kernel_rfl))); done)); clear htab tab hKK KK; simp only [thenA, blockA, reduceIte]) | skip)
      | (refine AWP.if_t ?_ ?_; focus (simp (disch := omega) [hv]; done))
      | (refine AWP.if_f ?_ ?_; focus (simp (disch := omega) [hv]; done)))
    refine ⟨by simp, ?_⟩
    have hres : Try.f55.results.toList = [.cell 2 31, .tmp 3] := rfl
    rw [hres]
    simp (disch := omega) []
    rw [ho]
    refine fin0 ⟨?_, rfl⟩ (by simp [resO, nms, nmss])
    simp [resO, ren, rens, rho, hK0, eOut]
  | true =>
    obtain ⟨h12, hat0⟩ := vIt_iff.1 hv
    have hall : its.all itOk = true := List.all_eq_true.2 fun t ht => by
      obtain ⟨i, hi, rfl⟩ := List.mem_iff_getElem.1 ht
      exact (hat0 i hi).2.1
    have hbd : ∀ k, k ≤ its.length → ∀ d ∈ bdL (its.take k), -1000000 ≤ d.2 ∧ d.2 ≤ 1000000 := fun k hk d hd => by
      have := bdL_bd (its.take k) (by simp; omega) (fun t ht => by
        obtain ⟨i, hi, rfl⟩ := List.mem_iff_getElem.1 (List.mem_of_mem_take ht)
        exact ⟨(hat0 i hi).2.2.1, (hat0 i hi).2.2.2.1⟩) d hd
      simp only [List.length_take] at this
      omega
    repeat' (first
      | refine AWP.seq ?_
      | refine AWP.block ?_
      | (refine AWP.skip ?_; simp only [thenA, blockA, reduceIte])
      | (refine AWP.exit ?_; simp only [thenA, blockA, eq_self, reduceIte, Nat.reduceEqDiff, Nat.succ_ne_zero])
      | (refine AWP.ret ?_; simp only [thenA, blockA, reduceIte])
      | (refine AWP.region (by rfl) (fun KK hKK => ?_); (repeat (simp (disch := omega) [hv])); first | (refine hKK _ _ _ ?_; clear hKK KK; simp only [thenA, blockA, reduceIte]) | skip)
      | (refine AWP.draw' mixd (by rfl) (by kernel_rfl) (fun KK tab hKK htab => ?_); (repeat (simp (disch := omega) [hv])); first | (refine dEnd_ro ?_ (hKK _ _ _ ?_); (focus (simp; done)); clear htab tab hKK KK; simp only [thenA, blockA, reduceIte]) | (refine dEnd_of ?_ (hKK _ _ _ ?_); (focus (simp only [List.reverse_cons, List.reverse_nil, List.nil_append, List.cons_append, memA, mem1, and_true, true_and]; (repeat' apply And.intro); (all_goals (first | trivial | (refine .inr ⟨?_, ?_⟩ <;> (simp; done)) | (refine .inr ⟨?_, ?_⟩ <;> (simp <;> omega)) | (refine .inl ?_; rw [htab]; kernel_rfl))); done)); clear htab tab hKK KK; simp only [thenA, blockA, reduceIte]) | skip)
      | (refine AWP.if_t ?_ ?_; focus (simp (disch := omega) [hv]; done))
      | (refine AWP.if_f ?_ ?_; focus (simp (disch := omega) [hv]; done)))
    refine AWP.weak (Weak.virtE (b := K + 1 + 2) 31 61 2 0 0 0 true (by simp (disch := omega) only [upd_eq, upd_ne]) (by omega)) ?_
    refine AWP.loop (fun n τ σ' M => ∃ (k cb : Nat), k ≤ its.length ∧ n = its.length - k ∧ τ = [(0, .sl b o its.length cap z), (2, .ptr K 0 0), (4, .ptr (K + 1 + 2) 0 0), (5, .v (.int .i64 k))] ∧ σ' K = some (blkE nilA) ∧ σ' (K + 1 + 2) = some (blkE (.sl cb 0 (bdL (its.take k)).length none 2)) ∧ σ' cb = some (blkD (bdL (its.take k))) ∧ K + 1 + 2 < cb ∧ cb < M ∧ Over s σ')
      ⟨_, _, _, _, ⟨0, K + 1 + 2 + 1, by omega, rfl, rfl, by simp (disch := omega) only [upd_eq, upd_ne], by simp (disch := omega) only [upd_eq, upd_ne]; simp [bdL], by simp (disch := omega) only [upd_eq, upd_ne]; simp [bdL]; rfl, by omega, by omega, (by repeat (first | exact Over.refl _ | exact hov | refine Over.upd ?_ hB (by omega) | refine Over.del ?_ hB (by omega)))⟩, Weak.tau (by simp [LQ])⟩ ?_
    rintro n τ σ' M ⟨k, cb, hk, rfl, rfl, hr0, he0, hc0, hc1, hc2, hov⟩
    have htk : (bdL (its.take k)).length = k := by rw [bdL_len]; simp; omega
    have hb1 : ¬ b = K + 1 + 2 := by omega
    have hcb1 : ¬ cb = K + 1 + 2 := by omega
    by_cases hlt : k < its.length
    · obtain ⟨_, rfl, kb, hkb, hat⟩ := hx'.at (i := k) (by rw [rowsT_len]; exact hlt)
      rw [rowsT_get _ _ hlt] at hat
      have hkb' := hov _ _ hkb
      have hz1 : ((bdL (its.take k)).length + 1) * 24 ≤ 140737488355328 := by omega
      have hz2 : (bdL (its.take k)).length + 1 ≤ 4611686018427387904 := by omega
      have hst := bdL_take hlt
      have hbk := hbd k hk
      have hnx := nxV_eq hbk
      have hgr := grV_bd2 (lo := -1000000) (hi := 1000000) (by omega) _ hbk
      cases ha : its[k].2.1 with
      | true =>
        rw [if_pos ha, hnx] at hst
        repeat' (first
          | refine AWP.seq ?_
          | refine AWP.block ?_
          | (refine AWP.skip ?_; simp only [thenA, blockA, reduceIte])
          | (refine AWP.exit ?_; simp only [thenA, blockA, eq_self, reduceIte, Nat.reduceEqDiff, Nat.succ_ne_zero])
          | (refine AWP.ret ?_; simp only [thenA, blockA, reduceIte])
          | (refine AWP.region (by rfl) (fun KK hKK => ?_); (repeat (simp (disch := omega) [hlt, hkb', hat, ha, he0])); first | (refine hKK _ _ _ ?_; clear hKK KK; simp only [thenA, blockA, reduceIte]) | skip)
          | (refine AWP.draw' mixd (by rfl) (by kernel_rfl) (fun KK tab hKK htab => ?_); (repeat (simp (disch := omega) [hlt, hkb', hat, ha, he0])); first | (refine dEnd_ro ?_ (hKK _ _ _ ?_); (focus (simp; done)); clear htab tab hKK KK; simp only [thenA, blockA, reduceIte]) | (refine dEnd_of ?_ (hKK _ _ _ ?_); (focus (simp only [List.reverse_cons, List.reverse_nil, List.nil_append, List.cons_append, memA, mem1, and_true, true_and]; (repeat' apply And.intro); (all_goals (first | trivial | (refine .inr ⟨?_, ?_⟩ <;> (simp; done)) | (refine .inr ⟨?_, ?_⟩ <;> (simp <;> omega)) | (refine .inl ?_; rw [htab]; kernel_rfl))); done)); clear htab tab hKK KK; simp only [thenA, blockA, reduceIte]) | skip)
          | (refine AWP.if_t ?_ ?_; focus (simp (disch := omega) [hlt, hkb', hat, ha, he0]; done))
          | (refine AWP.if_f ?_ ?_; focus (simp (disch := omega) [hlt, hkb', hat, ha, he0]; done)))
        refine aStop_of (highest_c _ _ _ (bdL (its.take k)) (Sl.whole (t := 61) (r := true) (by simp (disch := omega) only [upd_eq, upd_ne, del_ne, hc0]) (by simp [rowsD_len])) (by omega) hbk) ?_
        rintro r δ ⟨rfl, rfl⟩
        (repeat (simp (disch := omega) []))
        first | (refine hKK _ _ _ ?_; clear hKK KK; simp only [thenA, blockA, reduceIte]) | skip
        repeat' (first
          | refine AWP.seq ?_
          | refine AWP.block ?_
          | (refine AWP.skip ?_; simp only [thenA, blockA, reduceIte])
          | (refine AWP.exit ?_; simp only [thenA, blockA, eq_self, reduceIte, Nat.reduceEqDiff, Nat.succ_ne_zero])
          | (refine AWP.ret ?_; simp only [thenA, blockA, reduceIte])
          | (refine AWP.region (by rfl) (fun KK hKK => ?_); (repeat (simp (disch := omega) [elems, rowsD_len, rowsD_snoc, rowsD_take, hz1, hz2, hc0, he0, hcb1])); first | (refine hKK _ _ _ ?_; clear hKK KK; simp only [thenA, blockA, reduceIte]) | skip)
          | (refine AWP.draw' mixd (by rfl) (by kernel_rfl) (fun KK tab hKK htab => ?_); (repeat (simp (disch := omega) [elems, rowsD_len, rowsD_snoc, rowsD_take, hz1, hz2, hc0, he0, hcb1])); first | (refine dEnd_ro ?_ (hKK _ _ _ ?_); (focus (simp; done)); clear htab tab hKK KK; simp only [thenA, blockA, reduceIte]) | (refine dEnd_of ?_ (hKK _ _ _ ?_); (focus (simp only [List.reverse_cons, List.reverse_nil, List.nil_append, List.cons_append, memA, mem1, and_true, true_and]; (repeat' apply And.intro); (all_goals (first | trivial | (refine .inr ⟨?_, ?_⟩ <;> (simp; done)) | (refine .inr ⟨?_, ?_⟩ <;> (simp <;> omega)) | (refine .inl ?_; rw [htab]; kernel_rfl))); done)); clear htab tab hKK KK; simp only [thenA, blockA, reduceIte]) | skip)
          | (refine AWP.if_t ?_ ?_; focus (simp (disch := omega) [elems, rowsD_len, rowsD_snoc, rowsD_take, hz1, hz2, hc0, he0, hcb1]; done))
          | (refine AWP.if_f ?_ ?_; focus (simp (disch := omega) [elems, rowsD_len, rowsD_snoc, rowsD_take, hz1, hz2, hc0, he0, hcb1]; done)))
        refine ⟨_, _, _, _, ?_, ⟨k + 1, M + 26 + 2 + 1, by omega, rfl, rfl, by simp (disch := omega) only [upd_eq, upd_ne, del_ne, hr0], by rw [hst]; simp (disch := omega) only [upd_eq, upd_ne, del_ne]; simp, by rw [hst]; simp (disch := omega) only [upd_eq, upd_ne, del_ne], by omega, by omega, (by repeat (first | exact Over.refl _ | exact hov | refine Over.upd ?_ hB (by omega) | refine Over.del ?_ hB (by omega)))⟩, Weak.tau (by simp [LQ])⟩
        omega
      | false =>
        rw [if_neg (by rw [ha]; simp)] at hst
        repeat' (first
          | refine AWP.seq ?_
          | refine AWP.block ?_
          | (refine AWP.skip ?_; simp only [thenA, blockA, reduceIte])
          | (refine AWP.exit ?_; simp only [thenA, blockA, eq_self, reduceIte, Nat.reduceEqDiff, Nat.succ_ne_zero])
          | (refine AWP.ret ?_; simp only [thenA, blockA, reduceIte])
          | (refine AWP.region (by rfl) (fun KK hKK => ?_); (repeat (simp (disch := omega) [hlt, hkb', hat, ha, elems, rowsD_len, rowsD_snoc, rowsD_take, hz1, hz2, hc0, he0, hcb1])); first | (refine hKK _ _ _ ?_; clear hKK KK; simp only [thenA, blockA, reduceIte]) | skip)
          | (refine AWP.draw' mixd (by rfl) (by kernel_rfl) (fun KK tab hKK htab => ?_); (repeat (simp (disch := omega) [hlt, hkb', hat, ha, elems, rowsD_len, rowsD_snoc, rowsD_take, hz1, hz2, hc0, he0, hcb1])); first | (refine dEnd_ro ?_ (hKK _ _ _ ?_); (focus (simp; done)); clear htab tab hKK KK; simp only [thenA, blockA, reduceIte]) | (refine dEnd_of ?_ (hKK _ _ _ ?_); (focus (simp only [List.reverse_cons, List.reverse_nil, List.nil_append, List.cons_append, memA, mem1, and_true, true_and]; (repeat' apply And.intro); (all_goals (first | trivial | (refine .inr ⟨?_, ?_⟩ <;> (simp; done)) | (refine .inr ⟨?_, ?_⟩ <;> (simp <;> omega)) | (refine .inl ?_; rw [htab]; kernel_rfl))); done)); clear htab tab hKK KK; simp only [thenA, blockA, reduceIte]) | skip)
          | (refine AWP.if_t ?_ ?_; focus (simp (disch := omega) [hlt, hkb', hat, ha, elems, rowsD_len, rowsD_snoc, rowsD_take, hz1, hz2, hc0, he0, hcb1]; done))
          | (refine AWP.if_f ?_ ?_; focus (simp (disch := omega) [hlt, hkb', hat, ha, elems, rowsD_len, rowsD_snoc, rowsD_take, hz1, hz2, hc0, he0, hcb1]; done)))
        refine ⟨_, _, _, _, ?_, ⟨k + 1, M + 26 + 1, by omega, rfl, rfl, by simp (disch := omega) only [upd_eq, upd_ne, del_ne, hr0], by rw [hst]; simp (disch := omega) only [upd_eq, upd_ne, del_ne]; simp, by rw [hst]; simp (disch := omega) only [upd_eq, upd_ne, del_ne], by omega, by omega, (by repeat (first | exact Over.refl _ | exact hov | refine Over.upd ?_ hB (by omega) | refine Over.del ?_ hB (by omega)))⟩, Weak.tau (by simp [LQ])⟩
        omega
    · have hk' : k = its.length := by omega
      subst hk'
      rw [List.take_length] at *
      have hds := bdL_sz its hsz
      repeat' (first
        | refine AWP.seq ?_
        | refine AWP.block ?_
        | (refine AWP.skip ?_; simp only [thenA, blockA, reduceIte])
        | (refine AWP.exit ?_; simp only [thenA, blockA, eq_self, reduceIte, Nat.reduceEqDiff, Nat.succ_ne_zero])
        | (refine AWP.ret ?_; simp only [thenA, blockA, reduceIte])
        | (refine AWP.region (by rfl) (fun KK hKK => ?_); (repeat (simp (disch := omega) [hlt, he0])); first | (refine hKK _ _ _ ?_; clear hKK KK; simp only [thenA, blockA, reduceIte]) | skip)
        | (refine AWP.draw' mixd (by rfl) (by kernel_rfl) (fun KK tab hKK htab => ?_); (repeat (simp (disch := omega) [hlt, he0])); first | (refine dEnd_ro ?_ (hKK _ _ _ ?_); (focus (simp; done)); clear htab tab hKK KK; simp only [thenA, blockA, reduceIte]) | (refine dEnd_of ?_ (hKK _ _ _ ?_); (focus (simp only [List.reverse_cons, List.reverse_nil, List.nil_append, List.cons_append, memA, mem1, and_true, true_and]; (repeat' apply And.intro); (all_goals (first | trivial | (refine .inr ⟨?_, ?_⟩ <;> (simp; done)) | (refine .inr ⟨?_, ?_⟩ <;> (simp <;> omega)) | (refine .inl ?_; rw [htab]; kernel_rfl))); done)); clear htab tab hKK KK; simp only [thenA, blockA, reduceIte]) | skip)
        | (refine AWP.if_t ?_ ?_; focus (simp (disch := omega) [hlt, he0]; done))
        | (refine AWP.if_f ?_ ?_; focus (simp (disch := omega) [hlt, he0]; done)))
      refine aStop_of (validEnumS_c _ _ _ (bdL its) (Sl.whole (t := 61) (r := true) (by simp (disch := omega) only [upd_eq, upd_ne, del_ne, hc0]) (by simp [rowsD_len])) (by omega) hds) ?_
      rintro r δ ⟨rfl, rfl⟩
      (repeat (simp (disch := omega) []))
      first | (refine hKK _ _ _ ?_; clear hKK KK; simp only [thenA, blockA, reduceIte]) | skip
      cases hok : okDs (-1000) 1000 (bdL its) with
      | true =>
        have ho : blO its = some (bdL its) := if_pos ⟨by omega, hall, hok⟩
        repeat' (first
          | refine AWP.seq ?_
          | refine AWP.block ?_
          | (refine AWP.skip ?_; simp only [thenA, blockA, reduceIte])
          | (refine AWP.exit ?_; simp only [thenA, blockA, eq_self, reduceIte, Nat.reduceEqDiff, Nat.succ_ne_zero])
          | (refine AWP.ret ?_; simp only [thenA, blockA, reduceIte])
          | (refine AWP.region (by rfl) (fun KK hKK => ?_); (repeat (simp (disch := omega) [hok, he0, hr0])); first | (refine hKK _ _ _ ?_; clear hKK KK; simp only [thenA, blockA, reduceIte]) | skip)
          | (refine AWP.draw' mixd (by rfl) (by kernel_rfl) (fun KK tab hKK htab => ?_); (repeat (simp (disch := omega) [hok, he0, hr0])); first | (refine dEnd_ro ?_ (hKK _ _ _ ?_); (focus (simp; done)); clear htab tab hKK KK; simp only [thenA, blockA, reduceIte]) | (refine dEnd_of ?_ (hKK _ _ _ ?_); (focus (simp only [List.reverse_cons, List.reverse_nil, List.nil_append, List.cons_append, memA, mem1, and_true, true_and]; (repeat' apply And.intro); (all_goals (first | trivial | (refine .inr ⟨?_, ?_⟩ <;> (simp; done)) | (refine .inr ⟨?_, ?_⟩ <;> (simp <;> omega)) | (refine .inl ?_; rw [htab]; kernel_rfl))); done)); clear htab tab hKK KK; simp only [thenA, blockA, reduceIte]) | skip)
          | (refine AWP.if_t ?_ ?_; focus (simp (disch := omega) [hok, he0, hr0]; done))
          | (refine AWP.if_f ?_ ?_; focus (simp (disch := omega) [hok, he0, hr0]; done)))
        refine ⟨by simp, ?_⟩
        have hres : Try.f55.results.toList = [.cell 2 31, .tmp 3] := rfl
        rw [hres]
        simp (disch := omega) []
        rw [ho]
        refine fin1 cb (blkD (bdL its)) (by simp (disch := omega) only [upd_eq, upd_ne, hc0]) rfl (flatD _) ⟨?_, by simp [dOut]⟩ (by omega) (by simp [resO, nms, nmss])
        simp [resO, ren, rens, rho, eOut, htk]
      | false =>
        have ho : blO its = none := by unfold blO; rw [if_neg (by simp [hok])]
        repeat' (first
          | refine AWP.seq ?_
          | refine AWP.block ?_
          | (refine AWP.skip ?_; simp only [thenA, blockA, reduceIte])
          | (refine AWP.exit ?_; simp only [thenA, blockA, eq_self, reduceIte, Nat.reduceEqDiff, Nat.succ_ne_zero])
          | (refine AWP.ret ?_; simp only [thenA, blockA, reduceIte])
          | (refine AWP.region (by rfl) (fun KK hKK => ?_); (repeat (simp (disch := omega) [hok, hr0])); first | (refine hKK _ _ _ ?_; clear hKK KK; simp only [thenA, blockA, reduceIte]) | skip)
          | (refine AWP.draw' mixd (by rfl) (by kernel_rfl) (fun KK tab hKK htab => ?_); (repeat (simp (disch := omega) [hok, hr0])); first | (refine dEnd_ro ?_ (hKK _ _ _ ?_); (focus (simp; done)); clear htab tab hKK KK; simp only [thenA, blockA, reduceIte]) | (refine dEnd_of ?_ (hKK _ _ _ ?_); (focus (simp only [List.reverse_cons, List.reverse_nil, List.nil_append, List.cons_append, memA, mem1, and_true, true_and]; (repeat' apply And.intro); (all_goals (first | trivial | (refine .inr ⟨?_, ?_⟩ <;> (simp; done)) | (refine .inr ⟨?_, ?_⟩ <;> (simp <;> omega)) | (refine .inl ?_; rw [htab]; kernel_rfl))); done)); clear htab tab hKK KK; simp only [thenA, blockA, reduceIte]) | skip)
          | (refine AWP.if_t ?_ ?_; focus (simp (disch := omega) [hok, hr0]; done))
          | (refine AWP.if_f ?_ ?_; focus (simp (disch := omega) [hok, hr0]; done)))
        refine ⟨by simp, ?_⟩
        have hres : Try.f55.results.toList = [.cell 2 31, .tmp 3] := rfl
        rw [hres]
        simp (disch := omega) []
        rw [ho]
        refine fin0 ⟨?_, rfl⟩ (by simp [resO, nms, nmss])
        simp [resO, ren, rens, rho, hK0, eOut]
end Go.Proofs.Ytkddpkjgmmmcpaa
