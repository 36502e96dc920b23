/- Contracts: slices.Grow and slices.Concat on definitions. No condition. -/
import Derived.Test.YtgaiemhbllbaiaaLC
set_option linter.unusedSimpArgs false
set_option linter.unusedVariables false
namespace Go.Proofs.Ytgaiemhbllbaiaa
open Go Go.RowKit

def zD (n : Nat) : List Df := List.replicate n (ByteArray.empty, 0)
theorem rowsD_zD (n : Nat) : List.replicate n [AV.v (.string ByteArray.empty), AV.v (.int .i64 0)] = rowsD (zD n) := by
  unfold rowsD zD
  rw [List.map_replicate]
  rfl
set_option maxRecDepth 10000 in
set_option maxHeartbeats 1000000 in
/-- Grow of nothing by n: a slice without elements, of room. -/
theorem growD_c (σ : Sto) (ν : Nat) (n : Nat) (h0 : 0 < n) (hn : n ≤ 4294967296) :
    AC Try.prog 117 [nilA, .v (.int .i64 n)] σ ν fun r δ => r = .sl ν 0 0 none 2 ∧ δ = upd noS ν (blkD (zD n)) := by
  refine AC.intro [] ent_117 Try.func117 rfl (by simp [Try.f117]) (by simp) ?_
  intro K s hs hB hn hν hA hFr
  simp only [argT, Nat.zero_add, Nat.reduceAdd]
  have h1 : ¬ ((n : Int) < 0) := by omega
  have h2 : 0 < (n : Int) := by omega
  have hz1 : n * 24 ≤ 140737488355328 := by omega
  have hz2 : n ≤ 4611686018427387904 := by omega
  have hrz := rowsD_zD n
  repeat' (first
    | refine AWP.seq ?_
    | refine AWP.block ?_
    | (refine AWP.skip ?_; simp only [thenA, blockA, reduceIte])
    | (refine AWP.exit ?_; simp only [thenA, blockA, eq_self, reduceIte, Nat.reduceEqDiff, Nat.succ_ne_zero])
    | (refine AWP.ret ?_; simp only [thenA, blockA, reduceIte])
    | (refine AWP.region (by rfl) (fun KK hKK => ?_); (repeat (simp (disch := omega) [h1, h2, h0, hz1, hz2, hrz])); first | (refine hKK _ _ _ ?_; clear hKK KK; simp only [thenA, blockA, reduceIte]) | skip)
    | (refine AWP.if_t ?_ ?_; focus (simp (disch := omega) [h1, h2, h0, hz1, hz2, hrz]; done))
    | (refine AWP.if_f ?_ ?_; focus (simp (disch := omega) [h1, h2, h0, hz1, hz2, hrz]; done)))
  refine ⟨by simp, _, rfl, fin1 (K) (blkD (zD n)) (by simp (disch := omega)) rfl (flatD _) ⟨?_, rfl⟩ (by omega) (by simp [resO, get, nms, nmss])⟩
  simp [resO, get, ren, rens, rho]

set_option maxRecDepth 10000 in
set_option maxHeartbeats 400000 in
theorem growD_0 (σ : Sto) (ν : Nat) :
    AC Try.prog 117 [nilA, .v (.int .i64 0)] σ ν fun r δ => r = nilA ∧ δ = noS := by
  refine AC.intro [] ent_117 Try.func117 rfl (by simp [Try.f117]) (by simp) ?_
  intro K s hs hB hn hν hA hFr
  simp only [argT, Nat.zero_add, Nat.reduceAdd]
  have hK0 : ¬ 0 = K := by omega
  repeat' (first
    | refine AWP.seq ?_
    | refine AWP.block ?_
    | (refine AWP.skip ?_; simp only [thenA, blockA, reduceIte])
    | (refine AWP.exit ?_; simp only [thenA, blockA, eq_self, reduceIte, Nat.reduceEqDiff, Nat.succ_ne_zero])
    | (refine AWP.ret ?_; simp only [thenA, blockA, reduceIte])
    | (refine AWP.region (by rfl) (fun KK hKK => ?_); (repeat (simp (disch := omega) [])); first | (refine hKK _ _ _ ?_; clear hKK KK; simp only [thenA, blockA, reduceIte]) | skip)
    | (refine AWP.if_t ?_ ?_; focus (simp (disch := omega) []; done))
    | (refine AWP.if_f ?_ ?_; focus (simp (disch := omega) []; done)))
  refine ⟨by simp, _, rfl, fin0 ⟨?_, rfl⟩ (by simp [resO, get, nms, nmss]; try (simp [nms, nmss] at hn; simp_all))⟩
  simp [resO, get, ren, rens, rho, hK0]

def flD (dss : List (List Df)) (k : Nat) : List Df := (dss.take k).flatten
def totL (dss : List (List Df)) (k : Nat) : Nat := (flD dss k).length
theorem flD_succ {l : List (List Df)} {k : Nat} (h : k < l.length) : flD l (k + 1) = flD l k ++ l[k] := by
  unfold flD
  rw [List.take_succ_eq_append_getElem h, List.flatten_append]
  simp
theorem totL_succ {l : List (List Df)} {k : Nat} (h : k < l.length) : totL l (k + 1) = totL l k + l[k].length := by
  unfold totL
  rw [flD_succ h, List.length_append]
theorem totL_le (l : List (List Df)) (k : Nat) : totL l k ≤ l.flatten.length := by
  unfold totL flD
  conv => rhs; rw [← List.take_append_drop k l, List.flatten_append, List.length_append]
  omega
theorem rowsD_app (ds es : List Df) : rowsD ds ++ rowsD es = rowsD (ds ++ es) := by simp [rowsD]

set_option maxRecDepth 10000 in
set_option maxHeartbeats 2000000 in
theorem concatD_c (σ : Sto) (ν c : Nat) (r0 : Bool) (xs : List AV) (dss : List (List Df)) (hc : σ c = some ⟨23, 1, xs.map fun x => [x], r0⟩) (hl : xs.length = dss.length) (hS : ∀ i, ∀ h : i < xs.length, Sl σ xs[i] 2 (rowsD (dss[i]'(by omega))))
    (hlen : dss.flatten.length ≤ 4294967296) (hN : xs.length ≤ 4294967296) (hN0 : 0 < xs.length) :
    AC Try.prog 114 [.sl c 0 xs.length (some xs.length) 1] σ ν fun r δ => r = .sl ν 0 (flD dss xs.length).length none 2 ∧ δ = upd noS ν (blkD (flD dss xs.length)) := by
  refine AC.intro [] ent_114 Try.func114 rfl (by simp [Try.f114]) (by simp) ?_
  intro K s hs hB hn hν hA hFr
  simp only [argT, Nat.zero_add, Nat.reduceAdd]
  have hcK : c < K := hA c (by simp [nmAs, nmA])
  obtain ⟨r1, hc'⟩ := hs.vw c _ hc
  repeat' (first
    | refine AWP.seq ?_
    | refine AWP.block ?_
    | (refine AWP.skip ?_; simp only [thenA, blockA, reduceIte])
    | (refine AWP.exit ?_; simp only [thenA, blockA, eq_self, reduceIte, Nat.reduceEqDiff, Nat.succ_ne_zero])
    | (refine AWP.ret ?_; simp only [thenA, blockA, reduceIte])
    | (refine AWP.region (by rfl) (fun KK hKK => ?_); (repeat (simp (disch := omega) [])); first | (refine hKK _ _ _ ?_; clear hKK KK; simp only [thenA, blockA, reduceIte]) | skip)
    | (refine AWP.if_t ?_ ?_; focus (simp (disch := omega) []; done))
    | (refine AWP.if_f ?_ ?_; focus (simp (disch := omega) []; done)))
  refine AWP.loop (fun n τ σ' M => ∃ k : Nat, k ≤ xs.length ∧ n = xs.length - k ∧ τ = [(0, .sl c 0 xs.length (some xs.length) 1), (3, .v (.int .i64 (totL dss k))), (9, .sl c 0 xs.length (some xs.length) 1), (10, .v (.int .i64 xs.length)), (11, .v (.int .i64 k))] ∧ σ' = s ∧ M = K)
    ⟨_, _, _, _, ⟨0, by omega, rfl, rfl, rfl, rfl⟩, (Weak.base hB (by repeat (first | exact Over.refl _ | exact hov | refine Over.upd ?_ hB (by omega) | refine Over.del ?_ hB (by omega))) (by simp [LT, get, nms, nmss, hcK, totL, flD] <;> omega))⟩ ?_
  rintro n τ σ' M ⟨k, hk, rfl, rfl, rfl, rfl⟩
  have hfl := totL_le dss k
  by_cases hlt : k < xs.length
  · have hlt2 : k < dss.length := by omega
    have hsk := hS k hlt
    obtain ⟨b, o, cap, z, hxk⟩ := hsk.out
    rw [rowsD_len] at hxk
    have hat : (xs.map fun x => [x])[k]? = some [.sl b o dss[k].length cap z] := by rw [List.getElem?_map, List.getElem?_eq_getElem hlt, hxk]; rfl
    have hf1 := totL_succ hlt2
    have hfl1 := totL_le dss (k + 1)
    have hnn : ¬ ((totL dss k : Int) + dss[k].length < 0) := by omega
    repeat' (first
      | refine AWP.seq ?_
      | refine AWP.block ?_
      | (refine AWP.skip ?_; simp only [thenA, blockA, reduceIte])
      | (refine AWP.exit ?_; simp only [thenA, blockA, eq_self, reduceIte, Nat.reduceEqDiff, Nat.succ_ne_zero])
      | (refine AWP.ret ?_; simp only [thenA, blockA, reduceIte])
      | (refine AWP.region (by rfl) (fun KK hKK => ?_); (repeat (simp (disch := omega) [hlt, hc', hat, hnn])); first | (refine hKK _ _ _ ?_; clear hKK KK; simp only [thenA, blockA, reduceIte]) | skip)
      | (refine AWP.if_t ?_ ?_; focus (simp (disch := omega) [hlt, hc', hat, hnn]; done))
      | (refine AWP.if_f ?_ ?_; focus (simp (disch := omega) [hlt, hc', hat, hnn]; done)))
    refine ⟨_, _, _, _, ?_, ⟨k + 1, by omega, rfl, rfl, rfl, rfl⟩, (Weak.base hB (by repeat (first | exact Over.refl _ | exact hov | refine Over.upd ?_ hB (by omega) | refine Over.del ?_ hB (by omega))) (by simp [LT, get, nms, nmss, hcK, hf1] <;> omega))⟩
    omega
  · have hk' : k = xs.length := by omega
    subst hk'
    have hen : (flD dss xs.length).length = totL dss xs.length := rfl
    rw [hen]
    by_cases h0 : totL dss xs.length = 0
    · have h0i : ((totL dss xs.length : Nat) : Int) = 0 := by omega
      repeat' (first
        | refine AWP.seq ?_
        | refine AWP.block ?_
        | (refine AWP.skip ?_; simp only [thenA, blockA, reduceIte])
        | (refine AWP.exit ?_; simp only [thenA, blockA, eq_self, reduceIte, Nat.reduceEqDiff, Nat.succ_ne_zero])
        | (refine AWP.ret ?_; simp only [thenA, blockA, reduceIte])
        | (refine AWP.region (by rfl) (fun KK hKK => ?_); (repeat (simp (disch := omega) [h0i])); first | (refine hKK _ _ _ ?_; clear hKK KK; simp only [thenA, blockA, reduceIte]) | skip)
        | (refine AWP.if_t ?_ ?_; focus (simp (disch := omega) [h0i]; done))
        | (refine AWP.if_f ?_ ?_; focus (simp (disch := omega) [h0i]; done)))
      refine aStop_of (growD_0 _ _) ?_
      rintro r δ ⟨rfl, rfl⟩
      (repeat (simp (disch := omega) []))
      first | (refine hKK _ _ _ ?_; clear hKK KK; simp only [thenA, blockA, reduceIte]) | skip
      repeat' (first
        | refine AWP.seq ?_
        | refine AWP.block ?_
        | (refine AWP.skip ?_; simp only [thenA, blockA, reduceIte])
        | (refine AWP.exit ?_; simp only [thenA, blockA, eq_self, reduceIte, Nat.reduceEqDiff, Nat.succ_ne_zero])
        | (refine AWP.ret ?_; simp only [thenA, blockA, reduceIte])
        | (refine AWP.region (by rfl) (fun KK hKK => ?_); (repeat (simp (disch := omega) [])); first | (refine hKK _ _ _ ?_; clear hKK KK; simp only [thenA, blockA, reduceIte]) | skip)
        | (refine AWP.if_t ?_ ?_; focus (simp (disch := omega) []; done))
        | (refine AWP.if_f ?_ ?_; focus (simp (disch := omega) []; done)))
      refine AWP.weak (Weak.virt 6 34 2 0 0 0 (by simp) (by omega)) ?_
      refine AWP.loop (fun n τ τ2 N => ∃ (k cb : Nat) (rws : List (List AV)), k ≤ xs.length ∧ n = xs.length - k ∧ (k = 0 ∨ rws = rowsD (flD dss k)) ∧ τ = [(6, .sl cb 0 (totL dss k) none 2), (25, .sl c 0 xs.length (some xs.length) 1), (26, .v (.int .i64 xs.length)), (27, .v (.int .i64 k))] ∧ τ2 cb = some ⟨34, 2, rws, true⟩ ∧ M ≤ cb ∧ cb < N ∧ Over σ' τ2)
        ⟨_, _, _, _, ⟨0, M + 2, rowsD ([]), by omega, rfl, .inl rfl, rfl, by simp only [upd_eq]; try rfl, by omega, by omega, (by repeat (first | exact Over.refl _ | exact hov | refine Over.upd ?_ hB (by omega) | refine Over.del ?_ hB (by omega)))⟩, Weak.tau (by simp [LQ, totL, flD])⟩ ?_
      rintro n τ σ2 N ⟨k, cb, rws, hk, rfl, hrw, rfl, hc0, hc1, hc2, hov⟩
      have hrt : rws.take (totL dss k) = rowsD (flD dss k) := by
        rcases hrw with rfl | rfl
        · simp [totL, flD, rowsD]
        · exact List.take_of_length_le (by rw [rowsD_len]; exact Nat.le_refl _)
      have hrl : totL dss k ≤ rws.length := by
        rcases hrw with rfl | rfl
        · simp [totL, flD]
        · rw [rowsD_len]; exact Nat.le_refl _
      by_cases hlt : k < xs.length
      · have hlt2 : k < dss.length := by omega
        obtain ⟨b, o, cap, z, hxk⟩ := (hS k hlt).out
        rw [rowsD_len] at hxk
        have hxs := hS k hlt
        rw [hxk] at hxs
        have hx' := hxs.vw hs.vw
        have hel := ((hx'.vw ((Vw.refl _).over (by repeat (first | exact Over.refl _ | exact hov | refine Over.upd ?_ hB (by omega) | refine Over.del ?_ hB (by omega)))))).elems (σ := σ2)
        have hat : (xs.map fun x => [x])[k]? = some [.sl b o dss[k].length cap z] := by rw [List.getElem?_map, List.getElem?_eq_getElem hlt, hxk]; rfl
        have hc2' := hov _ _ hc'
        have hf1 := totL_succ hlt2
        have hfl1 := totL_le dss (k + 1)
        have hz1 : (totL dss k + dss[k].length) * 24 ≤ 140737488355328 := by omega
        have hz2 : totL dss k + dss[k].length ≤ 4611686018427387904 := by omega
        have hap : rowsD (flD dss k) ++ rowsD dss[k] = rowsD (flD dss (k + 1)) := by rw [rowsD_app, flD_succ hlt2]
        repeat' (first
          | refine AWP.seq ?_
          | refine AWP.block ?_
          | (refine AWP.skip ?_; simp only [thenA, blockA, reduceIte])
          | (refine AWP.exit ?_; simp only [thenA, blockA, eq_self, reduceIte, Nat.reduceEqDiff, Nat.succ_ne_zero])
          | (refine AWP.ret ?_; simp only [thenA, blockA, reduceIte])
          | (refine AWP.region (by rfl) (fun KK hKK => ?_); (repeat (simp (disch := omega) [hlt, hc2', hat, hel, rowsD_len, hz1, hz2, hc0, hrt, hrl, hap])); first | (refine hKK _ _ _ ?_; clear hKK KK; simp only [thenA, blockA, reduceIte]) | skip)
          | (refine AWP.if_t ?_ ?_; focus (simp (disch := omega) [hlt, hc2', hat, hel, rowsD_len, hz1, hz2, hc0, hrt, hrl, hap]; done))
          | (refine AWP.if_f ?_ ?_; focus (simp (disch := omega) [hlt, hc2', hat, hel, rowsD_len, hz1, hz2, hc0, hrt, hrl, hap]; done)))
        refine ⟨_, _, _, _, ?_, ⟨k + 1, N, rowsD (flD dss (k + 1)), by omega, rfl, .inr rfl, rfl, by simp (disch := omega) only [upd_eq, upd_ne, del_ne], ?_, ?_, (by repeat (first | exact Over.refl _ | exact hov | refine Over.upd ?_ hB (by omega) | refine Over.del ?_ hB (by omega)))⟩, Weak.tau (by simp [LQ, hf1])⟩
        · omega
        · omega
        · omega
      · have hk' : k = xs.length := by omega
        subst hk'
        obtain rfl := hrw.resolve_left (by omega)
        repeat' (first
          | refine AWP.seq ?_
          | refine AWP.block ?_
          | (refine AWP.skip ?_; simp only [thenA, blockA, reduceIte])
          | (refine AWP.exit ?_; simp only [thenA, blockA, eq_self, reduceIte, Nat.reduceEqDiff, Nat.succ_ne_zero])
          | (refine AWP.ret ?_; simp only [thenA, blockA, reduceIte])
          | (refine AWP.region (by rfl) (fun KK hKK => ?_); (repeat (simp (disch := omega) [])); first | (refine hKK _ _ _ ?_; clear hKK KK; simp only [thenA, blockA, reduceIte]) | skip)
          | (refine AWP.if_t ?_ ?_; focus (simp (disch := omega) []; done))
          | (refine AWP.if_f ?_ ?_; focus (simp (disch := omega) []; done)))
        refine ⟨by simp, _, rfl, fin1 cb (blkD (flD dss xs.length)) (by simp (disch := omega) only [upd_eq, upd_ne, del_ne, hc0]) rfl (flatD _) ⟨by simp [resO, get, ren, rho], rfl⟩ hc1 (by simp [resO, get, nms])⟩
    · repeat' (first
        | refine AWP.seq ?_
        | refine AWP.block ?_
        | (refine AWP.skip ?_; simp only [thenA, blockA, reduceIte])
        | (refine AWP.exit ?_; simp only [thenA, blockA, eq_self, reduceIte, Nat.reduceEqDiff, Nat.succ_ne_zero])
        | (refine AWP.ret ?_; simp only [thenA, blockA, reduceIte])
        | (refine AWP.region (by rfl) (fun KK hKK => ?_); (repeat (simp (disch := omega) [])); first | (refine hKK _ _ _ ?_; clear hKK KK; simp only [thenA, blockA, reduceIte]) | skip)
        | (refine AWP.if_t ?_ ?_; focus (simp (disch := omega) []; done))
        | (refine AWP.if_f ?_ ?_; focus (simp (disch := omega) []; done)))
      refine aStop_of (growD_c _ _ (totL dss xs.length) (by omega) (by omega)) ?_
      rintro r δ ⟨rfl, rfl⟩
      (repeat (simp (disch := omega) []))
      first | (refine hKK _ _ _ ?_; clear hKK KK; simp only [thenA, blockA, reduceIte]) | skip
      repeat' (first
        | refine AWP.seq ?_
        | refine AWP.block ?_
        | (refine AWP.skip ?_; simp only [thenA, blockA, reduceIte])
        | (refine AWP.exit ?_; simp only [thenA, blockA, eq_self, reduceIte, Nat.reduceEqDiff, Nat.succ_ne_zero])
        | (refine AWP.ret ?_; simp only [thenA, blockA, reduceIte])
        | (refine AWP.region (by rfl) (fun KK hKK => ?_); (repeat (simp (disch := omega) [])); first | (refine hKK _ _ _ ?_; clear hKK KK; simp only [thenA, blockA, reduceIte]) | skip)
        | (refine AWP.if_t ?_ ?_; focus (simp (disch := omega) []; done))
        | (refine AWP.if_f ?_ ?_; focus (simp (disch := omega) []; done)))
      refine AWP.loop (fun n τ τ2 N => ∃ (k cb : Nat) (rws : List (List AV)), k ≤ xs.length ∧ n = xs.length - k ∧ (k = 0 ∨ rws = rowsD (flD dss k)) ∧ τ = [(6, .sl cb 0 (totL dss k) none 2), (25, .sl c 0 xs.length (some xs.length) 1), (26, .v (.int .i64 xs.length)), (27, .v (.int .i64 k))] ∧ τ2 cb = some ⟨34, 2, rws, true⟩ ∧ M ≤ cb ∧ cb < N ∧ Over σ' τ2)
        ⟨_, _, _, _, ⟨0, M, rowsD (zD (totL dss xs.length)), by omega, rfl, .inl rfl, rfl, by simp only [upd_eq]; try rfl, by omega, by omega, (by repeat (first | exact Over.refl _ | exact hov | refine Over.upd ?_ hB (by omega) | refine Over.del ?_ hB (by omega)))⟩, Weak.tau (by simp [LQ, totL, flD])⟩ ?_
      rintro n τ σ2 N ⟨k, cb, rws, hk, rfl, hrw, rfl, hc0, hc1, hc2, hov⟩
      have hrt : rws.take (totL dss k) = rowsD (flD dss k) := by
        rcases hrw with rfl | rfl
        · simp [totL, flD, rowsD]
        · exact List.take_of_length_le (by rw [rowsD_len]; exact Nat.le_refl _)
      have hrl : totL dss k ≤ rws.length := by
        rcases hrw with rfl | rfl
        · simp [totL, flD]
        · rw [rowsD_len]; exact Nat.le_refl _
      by_cases hlt : k < xs.length
      · have hlt2 : k < dss.length := by omega
        obtain ⟨b, o, cap, z, hxk⟩ := (hS k hlt).out
        rw [rowsD_len] at hxk
        have hxs := hS k hlt
        rw [hxk] at hxs
        have hx' := hxs.vw hs.vw
        have hel := ((hx'.vw ((Vw.refl _).over (by repeat (first | exact Over.refl _ | exact hov | refine Over.upd ?_ hB (by omega) | refine Over.del ?_ hB (by omega)))))).elems (σ := σ2)
        have hat : (xs.map fun x => [x])[k]? = some [.sl b o dss[k].length cap z] := by rw [List.getElem?_map, List.getElem?_eq_getElem hlt, hxk]; rfl
        have hc2' := hov _ _ hc'
        have hf1 := totL_succ hlt2
        have hfl1 := totL_le dss (k + 1)
        have hz1 : (totL dss k + dss[k].length) * 24 ≤ 140737488355328 := by omega
        have hz2 : totL dss k + dss[k].length ≤ 4611686018427387904 := by omega
        have hap : rowsD (flD dss k) ++ rowsD dss[k] = rowsD (flD dss (k + 1)) := by rw [rowsD_app, flD_succ hlt2]
        repeat' (first
          | refine AWP.seq ?_
          | refine AWP.block ?_
          | (refine AWP.skip ?_; simp only [thenA, blockA, reduceIte])
          | (refine AWP.exit ?_; simp only [thenA, blockA, eq_self, reduceIte, Nat.reduceEqDiff, Nat.succ_ne_zero])
          | (refine AWP.ret ?_; simp only [thenA, blockA, reduceIte])
          | (refine AWP.region (by rfl) (fun KK hKK => ?_); (repeat (simp (disch := omega) [hlt, hc2', hat, hel, rowsD_len, hz1, hz2, hc0, hrt, hrl, hap])); first | (refine hKK _ _ _ ?_; clear hKK KK; simp only [thenA, blockA, reduceIte]) | skip)
          | (refine AWP.if_t ?_ ?_; focus (simp (disch := omega) [hlt, hc2', hat, hel, rowsD_len, hz1, hz2, hc0, hrt, hrl, hap]; done))
          | (refine AWP.if_f ?_ ?_; focus (simp (disch := omega) [hlt, hc2', hat, hel, rowsD_len, hz1, hz2, hc0, hrt, hrl, hap]; done)))
        refine ⟨_, _, _, _, ?_, ⟨k + 1, N, rowsD (flD dss (k + 1)), by omega, rfl, .inr rfl, rfl, by simp (disch := omega) only [upd_eq, upd_ne, del_ne], ?_, ?_, (by repeat (first | exact Over.refl _ | exact hov | refine Over.upd ?_ hB (by omega) | refine Over.del ?_ hB (by omega)))⟩, Weak.tau (by simp [LQ, hf1])⟩
        · omega
        · omega
        · omega
      · have hk' : k = xs.length := by omega
        subst hk'
        obtain rfl := hrw.resolve_left (by omega)
        repeat' (first
          | refine AWP.seq ?_
          | refine AWP.block ?_
          | (refine AWP.skip ?_; simp only [thenA, blockA, reduceIte])
          | (refine AWP.exit ?_; simp only [thenA, blockA, eq_self, reduceIte, Nat.reduceEqDiff, Nat.succ_ne_zero])
          | (refine AWP.ret ?_; simp only [thenA, blockA, reduceIte])
          | (refine AWP.region (by rfl) (fun KK hKK => ?_); (repeat (simp (disch := omega) [])); first | (refine hKK _ _ _ ?_; clear hKK KK; simp only [thenA, blockA, reduceIte]) | skip)
          | (refine AWP.if_t ?_ ?_; focus (simp (disch := omega) []; done))
          | (refine AWP.if_f ?_ ?_; focus (simp (disch := omega) []; done)))
        refine ⟨by simp, _, rfl, fin1 cb (blkD (flD dss xs.length)) (by simp (disch := omega) only [upd_eq, upd_ne, del_ne, hc0]) rfl (flatD _) ⟨by simp [resO, get, ren, rho], rfl⟩ hc1 (by simp [resO, get, nms])⟩
end Go.Proofs.Ytgaiemhbllbaiaa
