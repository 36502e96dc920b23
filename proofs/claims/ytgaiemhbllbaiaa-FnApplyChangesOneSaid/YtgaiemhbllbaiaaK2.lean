/- Contracts: slices.Grow and slices.Concat on changes. No condition. -/
import Derived.Test.YtgaiemhbllbaiaaK1
set_option linter.unusedSimpArgs false
set_option linter.unusedVariables false
namespace Go.Proofs.Ytgaiemhbllbaiaa
open Go Go.RowKit

def zC (n : Nat) : List Ch := List.replicate n (0, ByteArray.empty, 0, 0)
theorem rowsC_zC (n : Nat) : List.replicate n [AV.v (.int .i64 0), AV.v (.string ByteArray.empty), AV.v (.int .i64 0), AV.v (.int .i64 0)] = rowsC (zC n) := by
  unfold rowsC zC
  rw [List.map_replicate]
  rfl
set_option maxRecDepth 10000 in
set_option maxHeartbeats 1000000 in
/-- Grow of nothing by n: a slice without elements, of room. -/
theorem growC_c (σ : Sto) (ν : Nat) (n : Nat) (h0 : 0 < n) (hn : n ≤ 4294967296) :
    AC Try.prog 94 [nilA, .v (.int .i64 n)] σ ν fun r δ => r = .sl ν 0 0 none 4 ∧ δ = upd noS ν (blkC (zC n)) := by
  refine AC.intro [] ent_94 Try.func94 rfl (by simp [Try.f94]) (by simp) ?_
  intro K s hs hB hn hν hA hFr
  simp only [argT, Nat.zero_add, Nat.reduceAdd]
  have h1 : ¬ ((n : Int) < 0) := by omega
  have h2 : 0 < (n : Int) := by omega
  have hz1 : n * 40 ≤ 140737488355328 := by omega
  have hz2 : n ≤ 4611686018427387904 := by omega
  have hrz := rowsC_zC n
  repeat' (first
    | refine AWP.seq ?_
    | refine AWP.block ?_
    | (refine AWP.skip ?_; simp only [thenA, blockA, reduceIte])
    | (refine AWP.exit ?_; simp only [thenA, blockA, eq_self, reduceIte, Nat.reduceEqDiff, Nat.succ_ne_zero])
    | (refine AWP.ret ?_; simp only [thenA, blockA, reduceIte])
    | (refine AWP.region (by rfl) (fun KK hKK => ?_); (repeat (simp (disch := omega) [h1, h2, h0, hz1, hz2, hrz])); first | (refine hKK _ _ _ ?_; clear hKK KK; simp only [thenA, blockA, reduceIte]) | skip)
    | (refine AWP.draw' mixd (by rfl) (by kernel_rfl) (fun KK tab hKK htab => ?_); (repeat (simp (disch := omega) [h1, h2, h0, hz1, hz2, hrz])); first | (refine dEnd_ro ?_ (hKK _ _ _ ?_); (focus (simp; done)); clear htab tab hKK KK; simp only [thenA, blockA, reduceIte]) | (refine dEnd_of ?_ (hKK _ _ _ ?_); (focus (simp only [List.reverse_cons, List.reverse_nil, List.nil_append, List.cons_append, memA, mem1, and_true, true_and]; (repeat' apply And.intro); (all_goals (first | trivial | (refine .inr ⟨?_, ?_⟩ <;> (simp; done)) | (refine .inr ⟨?_, ?_⟩ <;> (simp <;> omega)) | (refine .inl ?_; rw [htab]; kernel_rfl))); done)); clear htab tab hKK KK; simp only [thenA, blockA, reduceIte]) | skip)
    | (refine AWP.if_t ?_ ?_; focus (simp (disch := omega) [h1, h2, h0, hz1, hz2, hrz]; done))
    | (refine AWP.if_f ?_ ?_; focus (simp (disch := omega) [h1, h2, h0, hz1, hz2, hrz]; done)))
  refine ⟨by simp, _, rfl, fin1 (K) (blkC (zC n)) (by simp (disch := omega)) rfl (flatC _) ⟨?_, rfl⟩ (by omega) (by simp [resO, get, nms, nmss])⟩
  simp [resO, get, ren, rens, rho]

set_option maxRecDepth 10000 in
set_option maxHeartbeats 400000 in
theorem growC_0 (σ : Sto) (ν : Nat) :
    AC Try.prog 94 [nilA, .v (.int .i64 0)] σ ν fun r δ => r = nilA ∧ δ = noS := by
  refine AC.intro [] ent_94 Try.func94 rfl (by simp [Try.f94]) (by simp) ?_
  intro K s hs hB hn hν hA hFr
  simp only [argT, Nat.zero_add, Nat.reduceAdd]
  have hK0 : ¬ 0 = K := by omega
  repeat' (first
    | refine AWP.seq ?_
    | refine AWP.block ?_
    | (refine AWP.skip ?_; simp only [thenA, blockA, reduceIte])
    | (refine AWP.exit ?_; simp only [thenA, blockA, eq_self, reduceIte, Nat.reduceEqDiff, Nat.succ_ne_zero])
    | (refine AWP.ret ?_; simp only [thenA, blockA, reduceIte])
    | (refine AWP.region (by rfl) (fun KK hKK => ?_); (repeat (simp (disch := omega) [])); first | (refine hKK _ _ _ ?_; clear hKK KK; simp only [thenA, blockA, reduceIte]) | skip)
    | (refine AWP.draw' mixd (by rfl) (by kernel_rfl) (fun KK tab hKK htab => ?_); (repeat (simp (disch := omega) [])); first | (refine dEnd_ro ?_ (hKK _ _ _ ?_); (focus (simp; done)); clear htab tab hKK KK; simp only [thenA, blockA, reduceIte]) | (refine dEnd_of ?_ (hKK _ _ _ ?_); (focus (simp only [List.reverse_cons, List.reverse_nil, List.nil_append, List.cons_append, memA, mem1, and_true, true_and]; (repeat' apply And.intro); (all_goals (first | trivial | (refine .inr ⟨?_, ?_⟩ <;> (simp; done)) | (refine .inr ⟨?_, ?_⟩ <;> (simp <;> omega)) | (refine .inl ?_; rw [htab]; kernel_rfl))); done)); clear htab tab hKK KK; simp only [thenA, blockA, reduceIte]) | skip)
    | (refine AWP.if_t ?_ ?_; focus (simp (disch := omega) []; done))
    | (refine AWP.if_f ?_ ?_; focus (simp (disch := omega) []; done)))
  refine ⟨by simp, _, rfl, fin0 ⟨?_, rfl⟩ (by simp [resO, get, nms, nmss]; try (simp [nms, nmss] at hn; simp_all))⟩
  simp [resO, get, ren, rens, rho, hK0]

def flC (dss : List (List Ch)) (k : Nat) : List Ch := (dss.take k).flatten
def totC (dss : List (List Ch)) (k : Nat) : Nat := (flC dss k).length
theorem flC_succ {l : List (List Ch)} {k : Nat} (h : k < l.length) : flC l (k + 1) = flC l k ++ l[k] := by
  unfold flC
  rw [List.take_succ_eq_append_getElem h, List.flatten_append]
  simp
theorem totC_succ {l : List (List Ch)} {k : Nat} (h : k < l.length) : totC l (k + 1) = totC l k + l[k].length := by
  unfold totC
  rw [flC_succ h, List.length_append]
theorem totC_le (l : List (List Ch)) (k : Nat) : totC l k ≤ l.flatten.length := by
  unfold totC flC
  conv => rhs; rw [← List.take_append_drop k l, List.flatten_append, List.length_append]
  omega
theorem rowsC_app (ds es : List Ch) : rowsC ds ++ rowsC es = rowsC (ds ++ es) := by simp [rowsC]

set_option maxRecDepth 10000 in
set_option maxHeartbeats 2000000 in
theorem concatC_c (σ : Sto) (ν c : Nat) (r0 : Bool) (xs : List AV) (dss : List (List Ch)) (hc : σ c = some ⟨36, 1, xs.map fun x => [x], r0⟩) (hl : xs.length = dss.length) (hS : ∀ i, ∀ h : i < xs.length, Sl σ xs[i] 4 (rowsC (dss[i]'(by omega))))
    (hlen : dss.flatten.length ≤ 4294967296) (hN : xs.length ≤ 4294967296) (hN0 : 0 < xs.length) :
    AC Try.prog 57 [.sl c 0 xs.length (some xs.length) 1] σ ν fun r δ => r = .sl ν 0 (flC dss xs.length).length none 4 ∧ δ = upd noS ν (blkC (flC dss xs.length)) := by
  refine AC.intro [] ent_57 Try.func57 rfl (by simp [Try.f57]) (by simp) ?_
  intro K s hs hB hn hν hA hFr
  simp only [argT, Nat.zero_add, Nat.reduceAdd]
  have hcK : c < K := hA c (by simp [nmAs, nmA])
  obtain ⟨r1, hc'⟩ := hs.vw c _ hc
  repeat' (first
    | refine AWP.seq ?_
    | refine AWP.block ?_
    | (refine AWP.skip ?_; simp only [thenA, blockA, reduceIte])
    | (refine AWP.exit ?_; simp only [thenA, blockA, eq_self, reduceIte, Nat.reduceEqDiff, Nat.succ_ne_zero])
    | (refine AWP.ret ?_; simp only [thenA, blockA, reduceIte])
    | (refine AWP.region (by rfl) (fun KK hKK => ?_); (repeat (simp (disch := omega) [])); first | (refine hKK _ _ _ ?_; clear hKK KK; simp only [thenA, blockA, reduceIte]) | skip)
    | (refine AWP.draw' mixd (by rfl) (by kernel_rfl) (fun KK tab hKK htab => ?_); (repeat (simp (disch := omega) [])); first | (refine dEnd_ro ?_ (hKK _ _ _ ?_); (focus (simp; done)); clear htab tab hKK KK; simp only [thenA, blockA, reduceIte]) | (refine dEnd_of ?_ (hKK _ _ _ ?_); (focus (simp only [List.reverse_cons, List.reverse_nil, List.nil_append, List.cons_append, memA, mem1, and_true, true_and]; (repeat' apply And.intro); (all_goals (first | trivial | (refine .inr ⟨?_, ?_⟩ <;> (simp; done)) | (refine .inr ⟨?_, ?_⟩ <;> (simp <;> omega)) | (refine .inl ?_; rw [htab]; kernel_rfl))); done)); clear htab tab hKK KK; simp only [thenA, blockA, reduceIte]) | skip)
    | (refine AWP.if_t ?_ ?_; focus (simp (disch := omega) []; done))
    | (refine AWP.if_f ?_ ?_; focus (simp (disch := omega) []; done)))
  refine AWP.loop (fun n τ σ' M => ∃ k : Nat, k ≤ xs.length ∧ n = xs.length - k ∧ τ = [(0, .sl c 0 xs.length (some xs.length) 1), (3, .v (.int .i64 (totC dss k))), (9, .sl c 0 xs.length (some xs.length) 1), (10, .v (.int .i64 xs.length)), (11, .v (.int .i64 k))] ∧ σ' = s ∧ M = K)
    ⟨_, _, _, _, ⟨0, by omega, rfl, rfl, rfl, rfl⟩, (Weak.base hB (by repeat (first | exact Over.refl _ | exact hov | refine Over.upd ?_ hB (by omega) | refine Over.del ?_ hB (by omega))) (by simp [LT, get, nms, nmss, hcK, totC, flC] <;> omega))⟩ ?_
  rintro n τ σ' M ⟨k, hk, rfl, rfl, rfl, rfl⟩
  have hfl := totC_le dss k
  by_cases hlt : k < xs.length
  · have hlt2 : k < dss.length := by omega
    have hsk := hS k hlt
    obtain ⟨b, o, cap, z, hxk⟩ := hsk.out
    rw [rowsC_len] at hxk
    have hat : (xs.map fun x => [x])[k]? = some [.sl b o dss[k].length cap z] := by rw [List.getElem?_map, List.getElem?_eq_getElem hlt, hxk]; rfl
    have hf1 := totC_succ hlt2
    have hfl1 := totC_le dss (k + 1)
    have hnn : ¬ ((totC dss k : Int) + dss[k].length < 0) := by omega
    repeat' (first
      | refine AWP.seq ?_
      | refine AWP.block ?_
      | (refine AWP.skip ?_; simp only [thenA, blockA, reduceIte])
      | (refine AWP.exit ?_; simp only [thenA, blockA, eq_self, reduceIte, Nat.reduceEqDiff, Nat.succ_ne_zero])
      | (refine AWP.ret ?_; simp only [thenA, blockA, reduceIte])
      | (refine AWP.region (by rfl) (fun KK hKK => ?_); (repeat (simp (disch := omega) [hlt, hc', hat, hnn])); first | (refine hKK _ _ _ ?_; clear hKK KK; simp only [thenA, blockA, reduceIte]) | skip)
      | (refine AWP.draw' mixd (by rfl) (by kernel_rfl) (fun KK tab hKK htab => ?_); (repeat (simp (disch := omega) [hlt, hc', hat, hnn])); first | (refine dEnd_ro ?_ (hKK _ _ _ ?_); (focus (simp; done)); clear htab tab hKK KK; simp only [thenA, blockA, reduceIte]) | (refine dEnd_of ?_ (hKK _ _ _ ?_); (focus (simp only [List.reverse_cons, List.reverse_nil, List.nil_append, List.cons_append, memA, mem1, and_true, true_and]; (repeat' apply And.intro); (all_goals (first | trivial | (refine .inr ⟨?_, ?_⟩ <;> (simp; done)) | (refine .inr ⟨?_, ?_⟩ <;> (simp <;> omega)) | (refine .inl ?_; rw [htab]; kernel_rfl))); done)); clear htab tab hKK KK; simp only [thenA, blockA, reduceIte]) | skip)
      | (refine AWP.if_t ?_ ?_; focus (simp (disch := omega) [hlt, hc', hat, hnn]; done))
      | (refine AWP.if_f ?_ ?_; focus (simp (disch := omega) [hlt, hc', hat, hnn]; done)))
    refine ⟨_, _, _, _, ?_, ⟨k + 1, by omega, rfl, rfl, rfl, rfl⟩, (Weak.base hB (by repeat (first | exact Over.refl _ | exact hov | refine Over.upd ?_ hB (by omega) | refine Over.del ?_ hB (by omega))) (by simp [LT, get, nms, nmss, hcK, hf1] <;> omega))⟩
    omega
  · have hk' : k = xs.length := by omega
    subst hk'
    have hen : (flC dss xs.length).length = totC dss xs.length := rfl
    rw [hen]
    by_cases h0 : totC dss xs.length = 0
    · have h0i : ((totC dss xs.length : Nat) : Int) = 0 := by omega
      repeat' (first
        | refine AWP.seq ?_
        | refine AWP.block ?_
        | (refine AWP.skip ?_; simp only [thenA, blockA, reduceIte])
        | (refine AWP.exit ?_; simp only [thenA, blockA, eq_self, reduceIte, Nat.reduceEqDiff, Nat.succ_ne_zero])
        | (refine AWP.ret ?_; simp only [thenA, blockA, reduceIte])
        | (refine AWP.region (by rfl) (fun KK hKK => ?_); (repeat (simp (disch := omega) [h0i])); first | (refine hKK _ _ _ ?_; clear hKK KK; simp only [thenA, blockA, reduceIte]) | skip)
        | (refine AWP.draw' mixd (by rfl) (by kernel_rfl) (fun KK tab hKK htab => ?_); (repeat (simp (disch := omega) [h0i])); first | (refine dEnd_ro ?_ (hKK _ _ _ ?_); (focus (simp; done)); clear htab tab hKK KK; simp only [thenA, blockA, reduceIte]) | (refine dEnd_of ?_ (hKK _ _ _ ?_); (focus (simp only [List.reverse_cons, List.reverse_nil, List.nil_append, List.cons_append, memA, mem1, and_true, true_and]; (repeat' apply And.intro); (all_goals (first | trivial | (refine .inr ⟨?_, ?_⟩ <;> (simp; done)) | (refine .inr ⟨?_, ?_⟩ <;> (simp <;> omega)) | (refine .inl ?_; rw [htab]; kernel_rfl))); done)); clear htab tab hKK KK; simp only [thenA, blockA, reduceIte]) | skip)
        | (refine AWP.if_t ?_ ?_; focus (simp (disch := omega) [h0i]; done))
        | (refine AWP.if_f ?_ ?_; focus (simp (disch := omega) [h0i]; done)))
      refine aStop_of (growC_0 _ _) ?_
      rintro r δ ⟨rfl, rfl⟩
      (repeat (simp (disch := omega) []))
      first | (refine hKK _ _ _ ?_; clear hKK KK; simp only [thenA, blockA, reduceIte]) | skip
      repeat' (first
        | refine AWP.seq ?_
        | refine AWP.block ?_
        | (refine AWP.skip ?_; simp only [thenA, blockA, reduceIte])
        | (refine AWP.exit ?_; simp only [thenA, blockA, eq_self, reduceIte, Nat.reduceEqDiff, Nat.succ_ne_zero])
        | (refine AWP.ret ?_; simp only [thenA, blockA, reduceIte])
        | (refine AWP.region (by rfl) (fun KK hKK => ?_); (repeat (simp (disch := omega) [])); first | (refine hKK _ _ _ ?_; clear hKK KK; simp only [thenA, blockA, reduceIte]) | skip)
        | (refine AWP.draw' mixd (by rfl) (by kernel_rfl) (fun KK tab hKK htab => ?_); (repeat (simp (disch := omega) [])); first | (refine dEnd_ro ?_ (hKK _ _ _ ?_); (focus (simp; done)); clear htab tab hKK KK; simp only [thenA, blockA, reduceIte]) | (refine dEnd_of ?_ (hKK _ _ _ ?_); (focus (simp only [List.reverse_cons, List.reverse_nil, List.nil_append, List.cons_append, memA, mem1, and_true, true_and]; (repeat' apply And.intro); (all_goals (first | trivial | (refine .inr ⟨?_, ?_⟩ <;> (simp; done)) | (refine .inr ⟨?_, ?_⟩ <;> (simp <;> omega)) | (refine .inl ?_; rw [htab]; kernel_rfl))); done)); clear htab tab hKK KK; simp only [thenA, blockA, reduceIte]) | skip)
        | (refine AWP.if_t ?_ ?_; focus (simp (disch := omega) []; done))
        | (refine AWP.if_f ?_ ?_; focus (simp (disch := omega) []; done)))
      refine AWP.weak (Weak.virt 6 77 4 0 0 0 (by simp) (by omega)) ?_
      refine AWP.loop (fun n τ τ2 N => ∃ (k cb : Nat) (rws : List (List AV)), k ≤ xs.length ∧ n = xs.length - k ∧ (k = 0 ∨ rws = rowsC (flC dss k)) ∧ τ = [(6, .sl cb 0 (totC dss k) none 4), (25, .sl c 0 xs.length (some xs.length) 1), (26, .v (.int .i64 xs.length)), (27, .v (.int .i64 k))] ∧ τ2 cb = some ⟨77, 4, rws, true⟩ ∧ M ≤ cb ∧ cb < N ∧ Over σ' τ2)
        ⟨_, _, _, _, ⟨0, M + 2, rowsC ([]), by omega, rfl, .inl rfl, rfl, by simp only [upd_eq]; try rfl, by omega, by omega, (by repeat (first | exact Over.refl _ | exact hov | refine Over.upd ?_ hB (by omega) | refine Over.del ?_ hB (by omega)))⟩, Weak.tau (by simp [LQ, totC, flC])⟩ ?_
      rintro n τ σ2 N ⟨k, cb, rws, hk, rfl, hrw, rfl, hc0, hc1, hc2, hov⟩
      have hrt : rws.take (totC dss k) = rowsC (flC dss k) := by
        rcases hrw with rfl | rfl
        · simp [totC, flC, rowsC]
        · exact List.take_of_length_le (by rw [rowsC_len]; exact Nat.le_refl _)
      have hrl : totC dss k ≤ rws.length := by
        rcases hrw with rfl | rfl
        · simp [totC, flC]
        · rw [rowsC_len]; exact Nat.le_refl _
      by_cases hlt : k < xs.length
      · have hlt2 : k < dss.length := by omega
        obtain ⟨b, o, cap, z, hxk⟩ := (hS k hlt).out
        rw [rowsC_len] at hxk
        have hxs := hS k hlt
        rw [hxk] at hxs
        have hx' := hxs.vw hs.vw
        have hel := ((hx'.vw ((Vw.refl _).over (by repeat (first | exact Over.refl _ | exact hov | refine Over.upd ?_ hB (by omega) | refine Over.del ?_ hB (by omega)))))).elems (σ := σ2)
        have hat : (xs.map fun x => [x])[k]? = some [.sl b o dss[k].length cap z] := by rw [List.getElem?_map, List.getElem?_eq_getElem hlt, hxk]; rfl
        have hc2' := hov _ _ hc'
        have hf1 := totC_succ hlt2
        have hfl1 := totC_le dss (k + 1)
        have hz1 : (totC dss k + dss[k].length) * 40 ≤ 140737488355328 := by omega
        have hz2 : totC dss k + dss[k].length ≤ 4611686018427387904 := by omega
        have hap : rowsC (flC dss k) ++ rowsC dss[k] = rowsC (flC dss (k + 1)) := by rw [rowsC_app, flC_succ hlt2]
        repeat' (first
          | refine AWP.seq ?_
          | refine AWP.block ?_
          | (refine AWP.skip ?_; simp only [thenA, blockA, reduceIte])
          | (refine AWP.exit ?_; simp only [thenA, blockA, eq_self, reduceIte, Nat.reduceEqDiff, Nat.succ_ne_zero])
          | (refine AWP.ret ?_; simp only [thenA, blockA, reduceIte])
          | (refine AWP.region (by rfl) (fun KK hKK => ?_); (repeat (simp (disch := omega) [hlt, hc2', hat, hel, rowsC_len, hz1, hz2, hc0, hrt, hrl, hap])); first | (refine hKK _ _ _ ?_; clear hKK KK; simp only [thenA, blockA, reduceIte]) | skip)
          | (refine AWP.draw' mixd (by rfl) (by kernel_rfl) (fun KK tab hKK htab => ?_); (repeat (simp (disch := omega) [hlt, hc2', hat, hel, rowsC_len, hz1, hz2, hc0, hrt, hrl, hap])); first | (refine dEnd_ro ?_ (hKK _ _ _ ?_); (focus (simp; done)); clear htab tab hKK KK; simp only [thenA, blockA, reduceIte]) | (refine dEnd_of ?_ (hKK _ _ _ ?_); (focus (simp only [List.reverse_cons, List.reverse_nil, List.nil_append, List.cons_append, memA, mem1, and_true, true_and]; (repeat' apply And.intro); (all_goals (first | trivial | (refine .inr ⟨?_, ?_⟩ <;> (simp; done)) | (refine .inr ⟨?_, ?_⟩ <;> (simp <;> omega)) | (refine .inl ?_; rw [htab]; kernel_rfl))); done)); clear htab tab hKK KK; simp only [thenA, blockA, reduceIte]) | skip)
          | (refine AWP.if_t ?_ ?_; focus (simp (disch := omega) [hlt, hc2', hat, hel, rowsC_len, hz1, hz2, hc0, hrt, hrl, hap]; done))
          | (refine AWP.if_f ?_ ?_; focus (simp (disch := omega) [hlt, hc2', hat, hel, rowsC_len, hz1, hz2, hc0, hrt, hrl, hap]; done)))
        refine ⟨_, _, _, _, ?_, ⟨k + 1, N, rowsC (flC dss (k + 1)), by omega, rfl, .inr rfl, rfl, by simp (disch := omega) only [upd_eq, upd_ne, del_ne], ?_, ?_, (by repeat (first | exact Over.refl _ | exact hov | refine Over.upd ?_ hB (by omega) | refine Over.del ?_ hB (by omega)))⟩, Weak.tau (by simp [LQ, hf1])⟩
        · omega
        · omega
        · omega
      · have hk' : k = xs.length := by omega
        subst hk'
        obtain rfl := hrw.resolve_left (by omega)
        repeat' (first
          | refine AWP.seq ?_
          | refine AWP.block ?_
          | (refine AWP.skip ?_; simp only [thenA, blockA, reduceIte])
          | (refine AWP.exit ?_; simp only [thenA, blockA, eq_self, reduceIte, Nat.reduceEqDiff, Nat.succ_ne_zero])
          | (refine AWP.ret ?_; simp only [thenA, blockA, reduceIte])
          | (refine AWP.region (by rfl) (fun KK hKK => ?_); (repeat (simp (disch := omega) [])); first | (refine hKK _ _ _ ?_; clear hKK KK; simp only [thenA, blockA, reduceIte]) | skip)
          | (refine AWP.draw' mixd (by rfl) (by kernel_rfl) (fun KK tab hKK htab => ?_); (repeat (simp (disch := omega) [])); first | (refine dEnd_ro ?_ (hKK _ _ _ ?_); (focus (simp; done)); clear htab tab hKK KK; simp only [thenA, blockA, reduceIte]) | (refine dEnd_of ?_ (hKK _ _ _ ?_); (focus (simp only [List.reverse_cons, List.reverse_nil, List.nil_append, List.cons_append, memA, mem1, and_true, true_and]; (repeat' apply And.intro); (all_goals (first | trivial | (refine .inr ⟨?_, ?_⟩ <;> (simp; done)) | (refine .inr ⟨?_, ?_⟩ <;> (simp <;> omega)) | (refine .inl ?_; rw [htab]; kernel_rfl))); done)); clear htab tab hKK KK; simp only [thenA, blockA, reduceIte]) | skip)
          | (refine AWP.if_t ?_ ?_; focus (simp (disch := omega) []; done))
          | (refine AWP.if_f ?_ ?_; focus (simp (disch := omega) []; done)))
        refine ⟨by simp, _, rfl, fin1 cb (blkC (flC dss xs.length)) (by simp (disch := omega) only [upd_eq, upd_ne, del_ne, hc0]) rfl (flatC _) ⟨by simp [resO, get, ren, rho], rfl⟩ hc1 (by simp [resO, get, nms])⟩
    · repeat' (first
        | refine AWP.seq ?_
        | refine AWP.block ?_
        | (refine AWP.skip ?_; simp only [thenA, blockA, reduceIte])
        | (refine AWP.exit ?_; simp only [thenA, blockA, eq_self, reduceIte, Nat.reduceEqDiff, Nat.succ_ne_zero])
        | (refine AWP.ret ?_; simp only [thenA, blockA, reduceIte])
        | (refine AWP.region (by rfl) (fun KK hKK => ?_); (repeat (simp (disch := omega) [])); first | (refine hKK _ _ _ ?_; clear hKK KK; simp only [thenA, blockA, reduceIte]) | skip)
        | (refine AWP.draw' mixd (by rfl) (by kernel_rfl) (fun KK tab hKK htab => ?_); (repeat (simp (disch := omega) [])); first | (refine dEnd_ro ?_ (hKK _ _ _ ?_); (focus (simp; done)); clear htab tab hKK KK; simp only [thenA, blockA, reduceIte]) | (refine dEnd_of ?_ (hKK _ _ _ ?_); (focus (simp only [List.reverse_cons, List.reverse_nil, List.nil_append, List.cons_append, memA, mem1, and_true, true_and]; (repeat' apply And.intro); (all_goals (first | trivial | (refine .inr ⟨?_, ?_⟩ <;> (simp; done)) | (refine .inr ⟨?_, ?_⟩ <;> (simp <;> omega)) | (refine .inl ?_; rw [htab]; kernel_rfl))); done)); clear htab tab hKK KK; simp only [thenA, blockA, reduceIte]) | skip)
        | (refine AWP.if_t ?_ ?_; focus (simp (disch := omega) []; done))
        | (refine AWP.if_f ?_ ?_; focus (simp (disch := omega) []; done)))
      refine aStop_of (growC_c _ _ (totC dss xs.length) (by omega) (by omega)) ?_
      rintro r δ ⟨rfl, rfl⟩
      (repeat (simp (disch := omega) []))
      first | (refine hKK _ _ _ ?_; clear hKK KK; simp only [thenA, blockA, reduceIte]) | skip
      repeat' (first
        | refine AWP.seq ?_
        | refine AWP.block ?_
        | (refine AWP.skip ?_; simp only [thenA, blockA, reduceIte])
        | (refine AWP.exit ?_; simp only [thenA, blockA, eq_self, reduceIte, Nat.reduceEqDiff, Nat.succ_ne_zero])
        | (refine AWP.ret ?_; simp only [thenA, blockA, reduceIte])
        | (refine AWP.region (by rfl) (fun KK hKK => ?_); (repeat (simp (disch := omega) [])); first | (refine hKK _ _ _ ?_; clear hKK KK; simp only [thenA, blockA, reduceIte]) | skip)
        | (refine AWP.draw' mixd (by rfl) (by kernel_rfl) (fun KK tab hKK htab => ?_); (repeat (simp (disch := omega) [])); first | (refine dEnd_ro ?_ (hKK _ _ _ ?_); (focus (simp; done)); clear htab tab hKK KK; simp only [thenA, blockA, reduceIte]) | (refine dEnd_of ?_ (hKK _ _ _ ?_); (focus (simp only [List.reverse_cons, List.reverse_nil, List.nil_append, List.cons_append, memA, mem1, and_true, true_and]; (repeat' apply And.intro); (all_goals (first | trivial | (refine .inr ⟨?_, ?_⟩ <;> (simp; done)) | (refine .inr ⟨?_, ?_⟩ <;> (simp <;> omega)) | (refine .inl ?_; rw [htab]; kernel_rfl))); done)); clear htab tab hKK KK; simp only [thenA, blockA, reduceIte]) | skip)
        | (refine AWP.if_t ?_ ?_; focus (simp (disch := omega) []; done))
        | (refine AWP.if_f ?_ ?_; focus (simp (disch := omega) []; done)))
      refine AWP.loop (fun n τ τ2 N => ∃ (k cb : Nat) (rws : List (List AV)), k ≤ xs.length ∧ n = xs.length - k ∧ (k = 0 ∨ rws = rowsC (flC dss k)) ∧ τ = [(6, .sl cb 0 (totC dss k) none 4), (25, .sl c 0 xs.length (some xs.length) 1), (26, .v (.int .i64 xs.length)), (27, .v (.int .i64 k))] ∧ τ2 cb = some ⟨77, 4, rws, true⟩ ∧ M ≤ cb ∧ cb < N ∧ Over σ' τ2)
        ⟨_, _, _, _, ⟨0, M, rowsC (zC (totC dss xs.length)), by omega, rfl, .inl rfl, rfl, by simp only [upd_eq]; try rfl, by omega, by omega, (by repeat (first | exact Over.refl _ | exact hov | refine Over.upd ?_ hB (by omega) | refine Over.del ?_ hB (by omega)))⟩, Weak.tau (by simp [LQ, totC, flC])⟩ ?_
      rintro n τ σ2 N ⟨k, cb, rws, hk, rfl, hrw, rfl, hc0, hc1, hc2, hov⟩
      have hrt : rws.take (totC dss k) = rowsC (flC dss k) := by
        rcases hrw with rfl | rfl
        · simp [totC, flC, rowsC]
        · exact List.take_of_length_le (by rw [rowsC_len]; exact Nat.le_refl _)
      have hrl : totC dss k ≤ rws.length := by
        rcases hrw with rfl | rfl
        · simp [totC, flC]
        · rw [rowsC_len]; exact Nat.le_refl _
      by_cases hlt : k < xs.length
      · have hlt2 : k < dss.length := by omega
        obtain ⟨b, o, cap, z, hxk⟩ := (hS k hlt).out
        rw [rowsC_len] at hxk
        have hxs := hS k hlt
        rw [hxk] at hxs
        have hx' := hxs.vw hs.vw
        have hel := ((hx'.vw ((Vw.refl _).over (by repeat (first | exact Over.refl _ | exact hov | refine Over.upd ?_ hB (by omega) | refine Over.del ?_ hB (by omega)))))).elems (σ := σ2)
        have hat : (xs.map fun x => [x])[k]? = some [.sl b o dss[k].length cap z] := by rw [List.getElem?_map, List.getElem?_eq_getElem hlt, hxk]; rfl
        have hc2' := hov _ _ hc'
        have hf1 := totC_succ hlt2
        have hfl1 := totC_le dss (k + 1)
        have hz1 : (totC dss k + dss[k].length) * 40 ≤ 140737488355328 := by omega
        have hz2 : totC dss k + dss[k].length ≤ 4611686018427387904 := by omega
        have hap : rowsC (flC dss k) ++ rowsC dss[k] = rowsC (flC dss (k + 1)) := by rw [rowsC_app, flC_succ hlt2]
        repeat' (first
          | refine AWP.seq ?_
          | refine AWP.block ?_
          | (refine AWP.skip ?_; simp only [thenA, blockA, reduceIte])
          | (refine AWP.exit ?_; simp only [thenA, blockA, eq_self, reduceIte, Nat.reduceEqDiff, Nat.succ_ne_zero])
          | (refine AWP.ret ?_; simp only [thenA, blockA, reduceIte])
          | (refine AWP.region (by rfl) (fun KK hKK => ?_); (repeat (simp (disch := omega) [hlt, hc2', hat, hel, rowsC_len, hz1, hz2, hc0, hrt, hrl, hap])); first | (refine hKK _ _ _ ?_; clear hKK KK; simp only [thenA, blockA, reduceIte]) | skip)
          | (refine AWP.draw' mixd (by rfl) (by kernel_rfl) (fun KK tab hKK htab => ?_); (repeat (simp (disch := omega) [hlt, hc2', hat, hel, rowsC_len, hz1, hz2, hc0, hrt, hrl, hap])); first | (refine dEnd_ro ?_ (hKK _ _ _ ?_); (focus (simp; done)); clear htab tab hKK KK; simp only [thenA, blockA, reduceIte]) | (refine dEnd_of ?_ (hKK _ _ _ ?_); (focus (simp only [List.reverse_cons, List.reverse_nil, List.nil_append, List.cons_append, memA, mem1, and_true, true_and]; (repeat' apply And.intro); (all_goals (first | trivial | (refine .inr ⟨?_, ?_⟩ <;> (simp; done)) | (refine .inr ⟨?_, ?_⟩ <;> (simp <;> omega)) | (refine .inl ?_; rw [htab]; kernel_rfl))); done)); clear htab tab hKK KK; simp only [thenA, blockA, reduceIte]) | skip)
          | (refine AWP.if_t ?_ ?_; focus (simp (disch := omega) [hlt, hc2', hat, hel, rowsC_len, hz1, hz2, hc0, hrt, hrl, hap]; done))
          | (refine AWP.if_f ?_ ?_; focus (simp (disch := omega) [hlt, hc2', hat, hel, rowsC_len, hz1, hz2, hc0, hrt, hrl, hap]; done)))
        refine ⟨_, _, _, _, ?_, ⟨k + 1, N, rowsC (flC dss (k + 1)), by omega, rfl, .inr rfl, rfl, by simp (disch := omega) only [upd_eq, upd_ne, del_ne], ?_, ?_, (by repeat (first | exact Over.refl _ | exact hov | refine Over.upd ?_ hB (by omega) | refine Over.del ?_ hB (by omega)))⟩, Weak.tau (by simp [LQ, hf1])⟩
        · omega
        · omega
        · omega
      · have hk' : k = xs.length := by omega
        subst hk'
        obtain rfl := hrw.resolve_left (by omega)
        repeat' (first
          | refine AWP.seq ?_
          | refine AWP.block ?_
          | (refine AWP.skip ?_; simp only [thenA, blockA, reduceIte])
          | (refine AWP.exit ?_; simp only [thenA, blockA, eq_self, reduceIte, Nat.reduceEqDiff, Nat.succ_ne_zero])
          | (refine AWP.ret ?_; simp only [thenA, blockA, reduceIte])
          | (refine AWP.region (by rfl) (fun KK hKK => ?_); (repeat (simp (disch := omega) [])); first | (refine hKK _ _ _ ?_; clear hKK KK; simp only [thenA, blockA, reduceIte]) | skip)
          | (refine AWP.draw' mixd (by rfl) (by kernel_rfl) (fun KK tab hKK htab => ?_); (repeat (simp (disch := omega) [])); first | (refine dEnd_ro ?_ (hKK _ _ _ ?_); (focus (simp; done)); clear htab tab hKK KK; simp only [thenA, blockA, reduceIte]) | (refine dEnd_of ?_ (hKK _ _ _ ?_); (focus (simp only [List.reverse_cons, List.reverse_nil, List.nil_append, List.cons_append, memA, mem1, and_true, true_and]; (repeat' apply And.intro); (all_goals (first | trivial | (refine .inr ⟨?_, ?_⟩ <;> (simp; done)) | (refine .inr ⟨?_, ?_⟩ <;> (simp <;> omega)) | (refine .inl ?_; rw [htab]; kernel_rfl))); done)); clear htab tab hKK KK; simp only [thenA, blockA, reduceIte]) | skip)
          | (refine AWP.if_t ?_ ?_; focus (simp (disch := omega) []; done))
          | (refine AWP.if_f ?_ ?_; focus (simp (disch := omega) []; done)))
        refine ⟨by simp, _, rfl, fin1 cb (blkC (flC dss xs.length)) (by simp (disch := omega) only [upd_eq, upd_ne, del_ne, hc0]) rfl (flatC _) ⟨by simp [resO, get, ren, rho], rfl⟩ hc1 (by simp [resO, get, nms])⟩
set_option maxRecDepth 10000 in
set_option maxHeartbeats 400000 in
theorem clipC_c (σ : Sto) (ν : Nat) (b o n : Nat) (h : n ≤ 4294967296) :
    AC Try.prog 56 [.sl b o n none 4] σ ν fun r δ => r = .sl b o n (some n) 4 ∧ δ = noS := by
  refine AC.intro [] ent_56 Try.func56 rfl (by simp [Try.f56]) (by simp) ?_
  intro K s hs hB hn hν hA hFr
  simp only [argT, Nat.zero_add, Nat.reduceAdd]
  have hb : b < K := hn b (by simp [nmss, nms])
  have e1 : b ≠ K := by omega
  have e2 : b ≠ K + 1 := by omega
  repeat' (first
    | refine AWP.seq ?_
    | refine AWP.block ?_
    | (refine AWP.skip ?_; simp only [thenA, blockA, reduceIte])
    | (refine AWP.exit ?_; simp only [thenA, blockA, eq_self, reduceIte, Nat.reduceEqDiff, Nat.succ_ne_zero])
    | (refine AWP.ret ?_; simp only [thenA, blockA, reduceIte])
    | (refine AWP.region (by rfl) (fun KK hKK => ?_); (repeat (simp (disch := omega) [])); first | (refine hKK _ _ _ ?_; clear hKK KK; simp only [thenA, blockA, reduceIte]) | skip)
    | (refine AWP.draw' mixd (by rfl) (by kernel_rfl) (fun KK tab hKK htab => ?_); (repeat (simp (disch := omega) [])); first | (refine dEnd_ro ?_ (hKK _ _ _ ?_); (focus (simp; done)); clear htab tab hKK KK; simp only [thenA, blockA, reduceIte]) | (refine dEnd_of ?_ (hKK _ _ _ ?_); (focus (simp only [List.reverse_cons, List.reverse_nil, List.nil_append, List.cons_append, memA, mem1, and_true, true_and]; (repeat' apply And.intro); (all_goals (first | trivial | (refine .inr ⟨?_, ?_⟩ <;> (simp; done)) | (refine .inr ⟨?_, ?_⟩ <;> (simp <;> omega)) | (refine .inl ?_; rw [htab]; kernel_rfl))); done)); clear htab tab hKK KK; simp only [thenA, blockA, reduceIte]) | skip)
    | (refine AWP.if_t ?_ ?_; focus (simp (disch := omega) []; done))
    | (refine AWP.if_f ?_ ?_; focus (simp (disch := omega) []; done)))
  refine ⟨by simp, _, rfl, fin0 ⟨?_, rfl⟩ (by simp [resO, get, nms, nmss]; try (simp [nms, nmss] at hn; simp_all))⟩
  simp [resO, get, ren, rens, rho, e1, e2]

theorem concat3_c (σ : Sto) (ν c : Nat) (r0 : Bool) (x y z : AV) (ds es fs : List Ch) (hc : σ c = some ⟨36, 1, [[x], [y], [z]], r0⟩) (hx : Sl σ x 4 (rowsC ds)) (hy : Sl σ y 4 (rowsC es)) (hz : Sl σ z 4 (rowsC fs)) (hlen : ds.length + es.length + fs.length ≤ 4294967296) :
    AC Try.prog 57 [.sl c 0 3 (some 3) 1] σ ν fun r δ => r = .sl ν 0 (ds ++ es ++ fs).length none 4 ∧ δ = upd noS ν (blkC (ds ++ es ++ fs)) := by
  have h := concatC_c σ ν c r0 [x, y, z] [ds, es, fs] hc rfl (fun i h => by
    match i, h with
    | 0, _ => exact hx
    | 1, _ => exact hy
    | 2, _ => exact hz
    | n + 3, h => exact absurd h (by simp)) (by simp; omega) (by simp) (by simp)
  have e : flC [ds, es, fs] [x, y, z].length = ds ++ es ++ fs := by simp [flC]
  rw [e] at h
  exact h
end Go.Proofs.Ytgaiemhbllbaiaa
