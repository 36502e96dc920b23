/- Contracts of the exact laws' helpers: items. No condition. -/
import Derived.Test.YtkddpkjgmmmcpaaI1
import Derived.Test.YtkddpkjgmmmcpaaE1
set_option linter.unusedSimpArgs false
set_option linter.unusedVariables false
namespace Go.Proofs.Ytkddpkjgmmmcpaa
open Go Go.RowKit

set_option maxRecDepth 10000 in
set_option maxHeartbeats 400000 in
theorem toItem_c (σ : Sto) (ν : Nat) (s : ByteArray) (a : Bool) (n : Int) : AC Try.prog 100 [.agg [.v (.string s), .v (.bool a), .v (.int .i64 n)]] σ ν fun r δ => r = .agg [.v (.string s), .v (.bool a), .v (.int .i64 n)] ∧ δ = noS := by
  refine AC.intro [] ent_100 Try.func100 rfl (by simp [Try.f100]) (by simp) ?_
  intro K s hs hB hn hν hA hFr
  simp only [argT, Nat.zero_add, Nat.reduceAdd]
  repeat' (first
    | refine AWP.seq ?_
    | refine AWP.block ?_
    | (refine AWP.skip ?_; simp only [thenA, blockA, reduceIte])
    | (refine AWP.exit ?_; simp only [thenA, blockA, eq_self, reduceIte, Nat.reduceEqDiff, Nat.succ_ne_zero])
    | (refine AWP.ret ?_; simp only [thenA, blockA, reduceIte])
    | (refine AWP.region (by rfl) (fun KK hKK => ?_); (repeat (simp (disch := omega) [])); first | (refine hKK _ _ _ ?_; clear hKK KK; simp only [thenA, blockA, reduceIte]) | skip)
    | (refine AWP.if_t ?_ ?_; focus (simp (disch := omega) []; done))
    | (refine AWP.if_f ?_ ?_; focus (simp (disch := omega) []; done)))
  refine ⟨by simp, ?_⟩
  have hres : Try.f100.results.toList = [.cell 2 112] := rfl
  rw [hres]
  simp (disch := omega) []
  refine fin0 ⟨?_, rfl⟩ (by simp [resO, nms, nmss])
  simp [resO, ren, rens]
set_option maxRecDepth 10000 in
set_option maxHeartbeats 400000 in
theorem szItem_c (σ : Sto) (ν : Nat) (t : ByteArray) (a : Bool) (n k : Int) (ht : t.size ≤ 9223372036854775807) (hk : -1 ≤ k ∧ k ≤ 4294967296) : AC Try.prog 98 [.agg [.v (.string t), .v (.bool a), .v (.int .i64 n)], .v (.int .i64 k)] σ ν fun r δ => r = .v (.int .i64 (if k - t.size < 0 then -1 else k - t.size)) ∧ δ = noS := by
  refine AC.intro [] ent_98 Try.func98 rfl (by simp [Try.f98]) (by simp) ?_
  intro K s hs hB hn hν hA hFr
  simp only [argT, Nat.zero_add, Nat.reduceAdd]
  by_cases h : k - t.size < 0
  · repeat' (first
      | refine AWP.seq ?_
      | refine AWP.block ?_
      | (refine AWP.skip ?_; simp only [thenA, blockA, reduceIte])
      | (refine AWP.exit ?_; simp only [thenA, blockA, eq_self, reduceIte, Nat.reduceEqDiff, Nat.succ_ne_zero])
      | (refine AWP.ret ?_; simp only [thenA, blockA, reduceIte])
      | (refine AWP.region (by rfl) (fun KK hKK => ?_); (repeat (simp (disch := omega) [h])); first | (refine hKK _ _ _ ?_; clear hKK KK; simp only [thenA, blockA, reduceIte]) | skip)
      | (refine AWP.if_t ?_ ?_; focus (simp (disch := omega) [h]; done))
      | (refine AWP.if_f ?_ ?_; focus (simp (disch := omega) [h]; done)))
    refine ⟨by simp, _, rfl, fin0 ⟨?_, rfl⟩ (by simp [resO, get, nms, nmss]; try (simp [nms, nmss] at hn; simp_all))⟩
    simp [resO, get, ren, rens, h]
  · repeat' (first
      | refine AWP.seq ?_
      | refine AWP.block ?_
      | (refine AWP.skip ?_; simp only [thenA, blockA, reduceIte])
      | (refine AWP.exit ?_; simp only [thenA, blockA, eq_self, reduceIte, Nat.reduceEqDiff, Nat.succ_ne_zero])
      | (refine AWP.ret ?_; simp only [thenA, blockA, reduceIte])
      | (refine AWP.region (by rfl) (fun KK hKK => ?_); (repeat (simp (disch := omega) [h])); first | (refine hKK _ _ _ ?_; clear hKK KK; simp only [thenA, blockA, reduceIte]) | skip)
      | (refine AWP.if_t ?_ ?_; focus (simp (disch := omega) [h]; done))
      | (refine AWP.if_f ?_ ?_; focus (simp (disch := omega) [h]; done)))
    refine ⟨by simp, _, rfl, fin0 ⟨?_, rfl⟩ (by simp [resO, get, nms, nmss]; try (simp [nms, nmss] at hn; simp_all))⟩
    simp [resO, get, ren, rens, h]
set_option maxRecDepth 10000 in
set_option maxHeartbeats 400000 in
theorem eqItem_c (σ : Sto) (ν : Nat) (d e : It) : AC Try.prog 103 [.agg [.v (.string d.1), .v (.bool d.2.1), .v (.int .i64 d.2.2)], .agg [.v (.string e.1), .v (.bool e.2.1), .v (.int .i64 e.2.2)]] σ ν fun r δ => r = .v (.bool (decide (d = e))) ∧ δ = noS := by
  obtain ⟨a, p, m⟩ := d
  obtain ⟨b, q, n⟩ := e
  refine AC.intro [] ent_103 Try.func103 rfl (by simp [Try.f103]) (by simp) ?_
  intro K s hs hB hn hν hA hFr
  simp only [argT, Nat.zero_add, Nat.reduceAdd]
  by_cases h1 : a = b
  · by_cases h2 : p = q
    · by_cases h3 : m = n
      · repeat' (first
          | refine AWP.seq ?_
          | refine AWP.block ?_
          | (refine AWP.skip ?_; simp only [thenA, blockA, reduceIte])
          | (refine AWP.exit ?_; simp only [thenA, blockA, eq_self, reduceIte, Nat.reduceEqDiff, Nat.succ_ne_zero])
          | (refine AWP.ret ?_; simp only [thenA, blockA, reduceIte])
          | (refine AWP.region (by rfl) (fun KK hKK => ?_); (repeat (simp (disch := omega) [h1, h2, h3])); first | (refine hKK _ _ _ ?_; clear hKK KK; simp only [thenA, blockA, reduceIte]) | skip)
          | (refine AWP.if_t ?_ ?_; focus (simp (disch := omega) [h1, h2, h3]; done))
          | (refine AWP.if_f ?_ ?_; focus (simp (disch := omega) [h1, h2, h3]; done)))
        refine ⟨by simp, _, rfl, fin0 ⟨?_, rfl⟩ (by simp [resO, get, nms, nmss]; try (simp [nms, nmss] at hn; simp_all))⟩
        simp [resO, get, ren, rens, h1, h2, h3]
      · repeat' (first
          | refine AWP.seq ?_
          | refine AWP.block ?_
          | (refine AWP.skip ?_; simp only [thenA, blockA, reduceIte])
          | (refine AWP.exit ?_; simp only [thenA, blockA, eq_self, reduceIte, Nat.reduceEqDiff, Nat.succ_ne_zero])
          | (refine AWP.ret ?_; simp only [thenA, blockA, reduceIte])
          | (refine AWP.region (by rfl) (fun KK hKK => ?_); (repeat (simp (disch := omega) [h1, h2, h3])); first | (refine hKK _ _ _ ?_; clear hKK KK; simp only [thenA, blockA, reduceIte]) | skip)
          | (refine AWP.if_t ?_ ?_; focus (simp (disch := omega) [h1, h2, h3]; done))
          | (refine AWP.if_f ?_ ?_; focus (simp (disch := omega) [h1, h2, h3]; done)))
        refine ⟨by simp, _, rfl, fin0 ⟨?_, rfl⟩ (by simp [resO, get, nms, nmss]; try (simp [nms, nmss] at hn; simp_all))⟩
        simp [resO, get, ren, rens, h1, h2, h3]
    · repeat' (first
        | refine AWP.seq ?_
        | refine AWP.block ?_
        | (refine AWP.skip ?_; simp only [thenA, blockA, reduceIte])
        | (refine AWP.exit ?_; simp only [thenA, blockA, eq_self, reduceIte, Nat.reduceEqDiff, Nat.succ_ne_zero])
        | (refine AWP.ret ?_; simp only [thenA, blockA, reduceIte])
        | (refine AWP.region (by rfl) (fun KK hKK => ?_); (repeat (simp (disch := omega) [h1, h2])); first | (refine hKK _ _ _ ?_; clear hKK KK; simp only [thenA, blockA, reduceIte]) | skip)
        | (refine AWP.if_t ?_ ?_; focus (simp (disch := omega) [h1, h2]; done))
        | (refine AWP.if_f ?_ ?_; focus (simp (disch := omega) [h1, h2]; done)))
      refine ⟨by simp, _, rfl, fin0 ⟨?_, rfl⟩ (by simp [resO, get, nms, nmss]; try (simp [nms, nmss] at hn; simp_all))⟩
      simp [resO, get, ren, rens, h1, h2]
  · repeat' (first
      | refine AWP.seq ?_
      | refine AWP.block ?_
      | (refine AWP.skip ?_; simp only [thenA, blockA, reduceIte])
      | (refine AWP.exit ?_; simp only [thenA, blockA, eq_self, reduceIte, Nat.reduceEqDiff, Nat.succ_ne_zero])
      | (refine AWP.ret ?_; simp only [thenA, blockA, reduceIte])
      | (refine AWP.region (by rfl) (fun KK hKK => ?_); (repeat (simp (disch := omega) [h1])); first | (refine hKK _ _ _ ?_; clear hKK KK; simp only [thenA, blockA, reduceIte]) | skip)
      | (refine AWP.if_t ?_ ?_; focus (simp (disch := omega) [h1]; done))
      | (refine AWP.if_f ?_ ?_; focus (simp (disch := omega) [h1]; done)))
    refine ⟨by simp, _, rfl, fin0 ⟨?_, rfl⟩ (by simp [resO, get, nms, nmss]; try (simp [nms, nmss] at hn; simp_all))⟩
    simp [resO, get, ren, rens, h1]

set_option maxRecDepth 10000 in
set_option maxHeartbeats 1000000 in
theorem toItemS_c (σ : Sto) (ν : Nat) (x : AV) (l : List It) (hx : Sl σ x 3 (rowsT l)) (hlen : l.length ≤ 4294967296) :
    AC Try.prog 56 [x] σ ν fun r δ => r = .sl ν 0 l.length (some l.length) 3 ∧ δ = upd noS ν (blkT l) := by
  obtain ⟨b, o, cap, z, rfl⟩ := hx.out
  simp only [rowsT_len] at hx ⊢
  refine AC.intro [] ent_56 Try.func56 rfl (by simp [Try.f56]) (by simp) ?_
  intro K s hs hB hn hν hA hFr
  simp only [argT, Nat.zero_add, Nat.reduceAdd]
  have hx' := hx.vw hs.vw
  have hbK : b < K := hA b (by simp [nmAs, nmA])
  have hb1 : ¬ b = K := by omega
  have hbig : 32 * l.length ≤ 140737488355328 := by omega
  have hbig2 : l.length ≤ 4611686018427387904 := by omega
  repeat' (first
    | refine AWP.seq ?_
    | refine AWP.block ?_
    | (refine AWP.skip ?_; simp only [thenA, blockA, reduceIte])
    | (refine AWP.exit ?_; simp only [thenA, blockA, eq_self, reduceIte, Nat.reduceEqDiff, Nat.succ_ne_zero])
    | (refine AWP.ret ?_; simp only [thenA, blockA, reduceIte])
    | (refine AWP.region (by rfl) (fun KK hKK => ?_); (repeat (simp (disch := omega) [hbig, hbig2])); first | (refine hKK _ _ _ ?_; clear hKK KK; simp only [thenA, blockA, reduceIte]) | skip)
    | (refine AWP.if_t ?_ ?_; focus (simp (disch := omega) [hbig, hbig2]; done))
    | (refine AWP.if_f ?_ ?_; focus (simp (disch := omega) [hbig, hbig2]; done)))
  refine AWP.loop (fun n τ σ' M => ∃ k : Nat, k ≤ l.length ∧ n = l.length - k ∧ τ = [(0, .sl b o l.length cap z), (3, .sl K 0 l.length (some l.length) 3), (4, .v (.int .i64 k))] ∧ σ' = upd s K ⟨112, 3, fillR [.v (.string ByteArray.empty), .v (.bool false), .v (.int .i64 0)] (rowsT l) k, true⟩ ∧ M = K + 1) ⟨_, _, _, _, ⟨0, by omega, rfl, rfl, rfl, rfl⟩, Weak.keep (c := K) (k0 := ⟨112, 3, List.replicate l.length [.v (.string ByteArray.empty), .v (.bool false), .v (.int .i64 0)], true⟩) hB (by repeat (first | exact Over.refl _ | exact hov | refine Over.upd ?_ hB (by omega) | refine Over.del ?_ hB (by omega))) (by simp) (by simp [fillR, rowsT_len]) (fillR_flat (r := true) (flatT l) (by simp [nms]) 0) (.inl rfl) (by simp [LeT, ren, swl, nms, hb1]; omega)⟩ ?_
  rintro n τ σ' M ⟨k, hk, rfl, rfl, rfl, rfl⟩
  by_cases hlt : k < l.length
  · have hlr : k < (rowsT l).length := by rw [rowsT_len]; exact hlt
    obtain ⟨_, rfl, kb, hkb, hat⟩ := hx'.at (i := k) hlr
    have hset := fillR_set [.v (.string ByteArray.empty), .v (.bool false), .v (.int .i64 0)] (rowsT l) k hlr
    have hz := fillR_at [.v (.string ByteArray.empty), .v (.bool false), .v (.int .i64 0)] (rowsT l) k hlr
    rw [rowsT_get _ _ hlt] at hat hset
    repeat' (first
      | refine AWP.seq ?_
      | refine AWP.block ?_
      | (refine AWP.skip ?_; simp only [thenA, blockA, reduceIte])
      | (refine AWP.exit ?_; simp only [thenA, blockA, eq_self, reduceIte, Nat.reduceEqDiff, Nat.succ_ne_zero])
      | (refine AWP.ret ?_; simp only [thenA, blockA, reduceIte])
      | (refine AWP.region (by rfl) (fun KK hKK => ?_); (repeat (simp (disch := omega) [hlt, hkb, hat])); first | (refine hKK _ _ _ ?_; clear hKK KK; simp only [thenA, blockA, reduceIte]) | skip)
      | (refine AWP.if_t ?_ ?_; focus (simp (disch := omega) [hlt, hkb, hat]; done))
      | (refine AWP.if_f ?_ ?_; focus (simp (disch := omega) [hlt, hkb, hat]; done)))
    refine aStop_of (toItem_c _ _ _ _ _) ?_
    rintro r δ ⟨rfl, rfl⟩
    (repeat (simp (disch := omega) [hlt, hz, hset]))
    first | (refine hKK _ _ _ ?_; clear hKK KK; simp only [thenA, blockA, reduceIte]) | skip
    repeat' (first
      | refine AWP.seq ?_
      | refine AWP.block ?_
      | (refine AWP.skip ?_; simp only [thenA, blockA, reduceIte])
      | (refine AWP.exit ?_; simp only [thenA, blockA, eq_self, reduceIte, Nat.reduceEqDiff, Nat.succ_ne_zero])
      | (refine AWP.ret ?_; simp only [thenA, blockA, reduceIte])
      | (refine AWP.region (by rfl) (fun KK hKK => ?_); (repeat (simp (disch := omega) [])); first | (refine hKK _ _ _ ?_; clear hKK KK; simp only [thenA, blockA, reduceIte]) | skip)
      | (refine AWP.if_t ?_ ?_; focus (simp (disch := omega) []; done))
      | (refine AWP.if_f ?_ ?_; focus (simp (disch := omega) []; done)))
    refine ⟨_, _, _, _, ?_, ⟨k + 1, by omega, rfl, rfl, rfl, rfl⟩, Weak.keep (c := K) hB (by repeat (first | exact Over.refl _ | exact hov | refine Over.upd ?_ hB (by omega) | refine Over.del ?_ hB (by omega))) (upd_eq _ _ _) rfl (fillR_flat (r := true) (flatT l) (by simp [nms]) (k + 1)) (.inl rfl) (by simp [LeT, ren, swl, nms, hb1]; omega)⟩
    omega
  · have hk' : k = l.length := by omega
    subst hk'
    have hfa : fillR [.v (.string ByteArray.empty), .v (.bool false), .v (.int .i64 0)] (rowsT l) l.length = rowsT l := by have := fillR_all [.v (.string ByteArray.empty), .v (.bool false), .v (.int .i64 0)] (rowsT l); rwa [rowsT_len] at this
    repeat' (first
      | refine AWP.seq ?_
      | refine AWP.block ?_
      | (refine AWP.skip ?_; simp only [thenA, blockA, reduceIte])
      | (refine AWP.exit ?_; simp only [thenA, blockA, eq_self, reduceIte, Nat.reduceEqDiff, Nat.succ_ne_zero])
      | (refine AWP.ret ?_; simp only [thenA, blockA, reduceIte])
      | (refine AWP.region (by rfl) (fun KK hKK => ?_); (repeat (simp (disch := omega) [])); first | (refine hKK _ _ _ ?_; clear hKK KK; simp only [thenA, blockA, reduceIte]) | skip)
      | (refine AWP.if_t ?_ ?_; focus (simp (disch := omega) []; done))
      | (refine AWP.if_f ?_ ?_; focus (simp (disch := omega) []; done)))
    refine ⟨by simp, _, rfl, fin1 (K) (blkT l) (by simp (disch := omega) [hfa]) rfl (flatT l) ⟨?_, rfl⟩ (by omega) (by simp [resO, get, nms, nmss])⟩
    simp [resO, get, ren, rens, rho, hfa]

def szFt : List It → Int → Int
  | [], k => k
  | d :: ds, k => if k - d.1.size < 0 then -1 else szFt ds (k - d.1.size)
def szLt (l : List It) (k : Int) : Int := if k - l.length < 0 then -1 else szFt l (k - l.length)
theorem szLt_len {l : List It} {k : Int} (h : 0 ≤ szLt l k) : (l.length : Int) ≤ k := by
  unfold szLt at h
  split at h <;> omega

set_option maxRecDepth 10000 in
set_option maxHeartbeats 1000000 in
theorem szItemS_c (σ : Sto) (ν : Nat) (x : AV) (l : List It) (k : Int) (hx : Sl σ x 3 (rowsT l)) (hlen : l.length ≤ 9223372036854775807) (hsz : ∀ t ∈ l, t.1.size ≤ 9223372036854775807) (hk : 0 ≤ k ∧ k ≤ 4294967296) :
    AC Try.prog 54 [x, .v (.int .i64 k)] σ ν fun r δ => r = .v (.int .i64 (szLt l k)) ∧ δ = noS := by
  obtain ⟨b, o, cap, z, rfl⟩ := hx.out
  simp only [rowsT_len] at hx ⊢
  refine AC.intro [] ent_54 Try.func54 rfl (by simp [Try.f54]) (by simp) ?_
  intro K s hs hB hn hν hA hFr
  simp only [argT, Nat.zero_add, Nat.reduceAdd]
  have hx' := hx.vw hs.vw
  by_cases h0 : k - l.length < 0
  · repeat' (first
      | refine AWP.seq ?_
      | refine AWP.block ?_
      | (refine AWP.skip ?_; simp only [thenA, blockA, reduceIte])
      | (refine AWP.exit ?_; simp only [thenA, blockA, eq_self, reduceIte, Nat.reduceEqDiff, Nat.succ_ne_zero])
      | (refine AWP.ret ?_; simp only [thenA, blockA, reduceIte])
      | (refine AWP.region (by rfl) (fun KK hKK => ?_); (repeat (simp (disch := omega) [h0])); first | (refine hKK _ _ _ ?_; clear hKK KK; simp only [thenA, blockA, reduceIte]) | skip)
      | (refine AWP.if_t ?_ ?_; focus (simp (disch := omega) [h0]; done))
      | (refine AWP.if_f ?_ ?_; focus (simp (disch := omega) [h0]; done)))
    refine ⟨by simp, _, rfl, fin0 ⟨?_, rfl⟩ (by simp [resO, get, nms, nmss]; try (simp [nms, nmss] at hn; simp_all))⟩
    simp [resO, get, ren, rens, szLt, h0]
  · repeat' (first
      | refine AWP.seq ?_
      | refine AWP.block ?_
      | (refine AWP.skip ?_; simp only [thenA, blockA, reduceIte])
      | (refine AWP.exit ?_; simp only [thenA, blockA, eq_self, reduceIte, Nat.reduceEqDiff, Nat.succ_ne_zero])
      | (refine AWP.ret ?_; simp only [thenA, blockA, reduceIte])
      | (refine AWP.region (by rfl) (fun KK hKK => ?_); (repeat (simp (disch := omega) [h0])); first | (refine hKK _ _ _ ?_; clear hKK KK; simp only [thenA, blockA, reduceIte]) | skip)
      | (refine AWP.if_t ?_ ?_; focus (simp (disch := omega) [h0]; done))
      | (refine AWP.if_f ?_ ?_; focus (simp (disch := omega) [h0]; done)))
    refine AWP.loop (fun n τ σ' M => ∃ (i : Nat) (m : Int), i ≤ l.length ∧ n = l.length - i ∧ 0 ≤ m ∧ m ≤ 4294967296 ∧ szFt (l.drop i) m = szFt l (k - l.length) ∧ τ = [(0, .sl b o l.length cap z), (1, .v (.int .i64 m)), (5, .v (.int .i64 i))] ∧ σ' = s ∧ K ≤ M) ⟨_, _, _, _, ⟨0, k - l.length, by omega, rfl, by omega, by omega, by simp, rfl, rfl, Nat.le_refl _⟩, Weak.tau (by simp [LQ])⟩ ?_
    rintro n τ σ' M ⟨i, m, hi, rfl, hm0, hm1, hf, rfl, rfl, hM⟩
    by_cases hlt : i < l.length
    · obtain ⟨_, rfl, kb, hkb, hat⟩ := hx'.at (i := i) (by rw [rowsT_len]; exact hlt)
      rw [rowsT_get _ _ hlt] at hat
      have hmem := hsz _ (List.getElem_mem hlt)
      rw [List.drop_eq_getElem_cons hlt] at hf
      simp only [szFt] at hf
      repeat' (first
        | refine AWP.seq ?_
        | refine AWP.block ?_
        | (refine AWP.skip ?_; simp only [thenA, blockA, reduceIte])
        | (refine AWP.exit ?_; simp only [thenA, blockA, eq_self, reduceIte, Nat.reduceEqDiff, Nat.succ_ne_zero])
        | (refine AWP.ret ?_; simp only [thenA, blockA, reduceIte])
        | (refine AWP.region (by rfl) (fun KK hKK => ?_); (repeat (simp (disch := omega) [hlt, hkb, hat])); first | (refine hKK _ _ _ ?_; clear hKK KK; simp only [thenA, blockA, reduceIte]) | skip)
        | (refine AWP.if_t ?_ ?_; focus (simp (disch := omega) [hlt, hkb, hat]; done))
        | (refine AWP.if_f ?_ ?_; focus (simp (disch := omega) [hlt, hkb, hat]; done)))
      refine aStop_of (szItem_c _ _ _ _ _ m hmem (by omega)) ?_
      rintro r δ ⟨rfl, rfl⟩
      (repeat (simp (disch := omega) []))
      first | (refine hKK _ _ _ ?_; clear hKK KK; simp only [thenA, blockA, reduceIte]) | skip
      by_cases h1 : m - l[i].1.size < 0
      · rw [if_pos h1] at hf
        repeat' (first
          | refine AWP.seq ?_
          | refine AWP.block ?_
          | (refine AWP.skip ?_; simp only [thenA, blockA, reduceIte])
          | (refine AWP.exit ?_; simp only [thenA, blockA, eq_self, reduceIte, Nat.reduceEqDiff, Nat.succ_ne_zero])
          | (refine AWP.ret ?_; simp only [thenA, blockA, reduceIte])
          | (refine AWP.region (by rfl) (fun KK hKK => ?_); (repeat (simp (disch := omega) [h1])); first | (refine hKK _ _ _ ?_; clear hKK KK; simp only [thenA, blockA, reduceIte]) | skip)
          | (refine AWP.if_t ?_ ?_; focus (simp (disch := omega) [h1]; done))
          | (refine AWP.if_f ?_ ?_; focus (simp (disch := omega) [h1]; done)))
        refine ⟨by simp, _, rfl, fin0 ⟨?_, rfl⟩ (by simp [resO, get, nms, nmss]; try (simp [nms, nmss] at hn; simp_all))⟩
        simp [resO, get, ren, rens, szLt, h0, ← hf]
      · rw [if_neg h1] at hf
        repeat' (first
          | refine AWP.seq ?_
          | refine AWP.block ?_
          | (refine AWP.skip ?_; simp only [thenA, blockA, reduceIte])
          | (refine AWP.exit ?_; simp only [thenA, blockA, eq_self, reduceIte, Nat.reduceEqDiff, Nat.succ_ne_zero])
          | (refine AWP.ret ?_; simp only [thenA, blockA, reduceIte])
          | (refine AWP.region (by rfl) (fun KK hKK => ?_); (repeat (simp (disch := omega) [h1])); first | (refine hKK _ _ _ ?_; clear hKK KK; simp only [thenA, blockA, reduceIte]) | skip)
          | (refine AWP.if_t ?_ ?_; focus (simp (disch := omega) [h1]; done))
          | (refine AWP.if_f ?_ ?_; focus (simp (disch := omega) [h1]; done)))
        refine ⟨_, _, _, _, ?_, ⟨i + 1, m - l[i].1.size, by omega, rfl, by omega, by omega, hf, rfl, rfl, by omega⟩, Weak.tau (by simp [LQ])⟩
        omega
    · have hk' : i = l.length := by omega
      subst hk'
      rw [List.drop_length] at hf
      repeat' (first
        | refine AWP.seq ?_
        | refine AWP.block ?_
        | (refine AWP.skip ?_; simp only [thenA, blockA, reduceIte])
        | (refine AWP.exit ?_; simp only [thenA, blockA, eq_self, reduceIte, Nat.reduceEqDiff, Nat.succ_ne_zero])
        | (refine AWP.ret ?_; simp only [thenA, blockA, reduceIte])
        | (refine AWP.region (by rfl) (fun KK hKK => ?_); (repeat (simp (disch := omega) [])); first | (refine hKK _ _ _ ?_; clear hKK KK; simp only [thenA, blockA, reduceIte]) | skip)
        | (refine AWP.if_t ?_ ?_; focus (simp (disch := omega) []; done))
        | (refine AWP.if_f ?_ ?_; focus (simp (disch := omega) []; done)))
      refine ⟨by simp, _, rfl, fin0 ⟨?_, rfl⟩ (by simp [resO, get, nms, nmss]; try (simp [nms, nmss] at hn; simp_all))⟩
      simp [resO, get, ren, rens, szLt, h0, ← hf, szFt]

set_option maxRecDepth 10000 in
set_option maxHeartbeats 1000000 in
theorem eqItemS_c (σ : Sto) (ν : Nat) (x y : AV) (ds es : List It) (hx : Sl σ x 3 (rowsT ds)) (hy : Sl σ y 3 (rowsT es)) (hl1 : ds.length ≤ 4294967296) (hl2 : es.length ≤ 4294967296) :
    AC Try.prog 58 [x, y] σ ν fun r δ => r = .v (.bool (decide (ds = es))) ∧ δ = noS := by
  obtain ⟨b, o, cap, z, rfl⟩ := hx.out
  obtain ⟨b2, o2, cap2, z2, rfl⟩ := hy.out
  simp only [rowsT_len] at hx hy ⊢
  refine AC.intro [] ent_58 Try.func58 rfl (by simp [Try.f58]) (by simp) ?_
  intro K s hs hB hn hν hA hFr
  simp only [argT, Nat.zero_add, Nat.reduceAdd]
  have hx' := hx.vw hs.vw
  have hy' := hy.vw hs.vw
  by_cases hl : ds.length = es.length
  · have hli : (ds.length : Int) = es.length := by omega
    repeat' (first
      | refine AWP.seq ?_
      | refine AWP.block ?_
      | (refine AWP.skip ?_; simp only [thenA, blockA, reduceIte])
      | (refine AWP.exit ?_; simp only [thenA, blockA, eq_self, reduceIte, Nat.reduceEqDiff, Nat.succ_ne_zero])
      | (refine AWP.ret ?_; simp only [thenA, blockA, reduceIte])
      | (refine AWP.region (by rfl) (fun KK hKK => ?_); (repeat (simp (disch := omega) [hli])); first | (refine hKK _ _ _ ?_; clear hKK KK; simp only [thenA, blockA, reduceIte]) | skip)
      | (refine AWP.draw' mixd (by rfl) (by kernel_rfl) (fun KK tab hKK htab => ?_); (repeat (simp (disch := omega) [hli])); first | (refine dEnd_ro ?_ (hKK _ _ _ ?_); (focus (simp; done)); clear htab tab hKK KK; simp only [thenA, blockA, reduceIte]) | (refine dEnd_of ?_ (hKK _ _ _ ?_); (focus (simp only [List.reverse_cons, List.reverse_nil, List.nil_append, List.cons_append, memA, mem1, and_true, true_and]; (repeat' apply And.intro); (all_goals (first | trivial | (refine .inr ⟨?_, ?_⟩ <;> (simp; done)) | (refine .inr ⟨?_, ?_⟩ <;> (simp <;> omega)) | (refine .inl ?_; rw [htab]; kernel_rfl))); done)); clear htab tab hKK KK; simp only [thenA, blockA, reduceIte]) | skip)
      | (refine AWP.if_t ?_ ?_; focus (simp (disch := omega) [hli]; done))
      | (refine AWP.if_f ?_ ?_; focus (simp (disch := omega) [hli]; done)))
    refine AWP.loop (fun n τ σ' M => ∃ k : Nat, k ≤ ds.length ∧ n = ds.length - k ∧ ds.take k = es.take k ∧ τ = [(0, .sl b o ds.length cap z), (1, .sl b2 o2 es.length cap2 z2), (5, .v (.int .i64 k))] ∧ σ' = s ∧ K ≤ M) ⟨_, _, _, _, ⟨0, by omega, rfl, by simp, rfl, rfl, Nat.le_refl _⟩, Weak.tau (by simp [LQ])⟩ ?_
    rintro n τ σ' M ⟨k, hk, rfl, ht, rfl, rfl, hM⟩
    by_cases hlt : k < ds.length
    · have hlt2 : k < es.length := by omega
      obtain ⟨_, rfl, kb, hkb, hat⟩ := hx'.at (i := k) (by rw [rowsT_len]; exact hlt)
      obtain ⟨_, rfl, kb2, hkb2, hat2⟩ := hy'.at (i := k) (by rw [rowsT_len]; exact hlt2)
      rw [rowsT_get _ _ hlt] at hat
      rw [rowsT_get _ _ hlt2] at hat2
      by_cases he : ds[k] = es[k]
      · repeat' (first
          | refine AWP.seq ?_
          | refine AWP.block ?_
          | (refine AWP.skip ?_; simp only [thenA, blockA, reduceIte])
          | (refine AWP.exit ?_; simp only [thenA, blockA, eq_self, reduceIte, Nat.reduceEqDiff, Nat.succ_ne_zero])
          | (refine AWP.ret ?_; simp only [thenA, blockA, reduceIte])
          | (refine AWP.region (by rfl) (fun KK hKK => ?_); (repeat (simp (disch := omega) [hlt, hlt2, hkb, hat, hkb2, hat2])); first | (refine hKK _ _ _ ?_; clear hKK KK; simp only [thenA, blockA, reduceIte]) | skip)
          | (refine AWP.draw' mixd (by rfl) (by kernel_rfl) (fun KK tab hKK htab => ?_); (repeat (simp (disch := omega) [hlt, hlt2, hkb, hat, hkb2, hat2])); first | (refine dEnd_ro ?_ (hKK _ _ _ ?_); (focus (simp; done)); clear htab tab hKK KK; simp only [thenA, blockA, reduceIte]) | (refine dEnd_of ?_ (hKK _ _ _ ?_); (focus (simp only [List.reverse_cons, List.reverse_nil, List.nil_append, List.cons_append, memA, mem1, and_true, true_and]; (repeat' apply And.intro); (all_goals (first | trivial | (refine .inr ⟨?_, ?_⟩ <;> (simp; done)) | (refine .inr ⟨?_, ?_⟩ <;> (simp <;> omega)) | (refine .inl ?_; rw [htab]; kernel_rfl))); done)); clear htab tab hKK KK; simp only [thenA, blockA, reduceIte]) | skip)
          | (refine AWP.if_t ?_ ?_; focus (simp (disch := omega) [hlt, hlt2, hkb, hat, hkb2, hat2]; done))
          | (refine AWP.if_f ?_ ?_; focus (simp (disch := omega) [hlt, hlt2, hkb, hat, hkb2, hat2]; done)))
        refine dStop_pure (fun σ' => eqItem_c σ' _ ds[k] es[k]) ?_
        (repeat (simp (disch := omega) [he]))
        first | (refine dEnd_ro ?_ (hKK _ _ _ ?_); (focus (simp; done)); clear htab tab hKK KK; simp only [thenA, blockA, reduceIte]) | (refine dEnd_of ?_ (hKK _ _ _ ?_); (focus (simp only [List.reverse_cons, List.reverse_nil, List.nil_append, List.cons_append, memA, mem1, and_true, true_and]; (repeat' apply And.intro); (all_goals (first | trivial | (refine .inr ⟨?_, ?_⟩ <;> (simp; done)) | (refine .inr ⟨?_, ?_⟩ <;> (simp <;> omega)) | (refine .inl ?_; rw [htab]; kernel_rfl))); done)); clear htab tab hKK KK; simp only [thenA, blockA, reduceIte]) | skip
        repeat' (first
          | refine AWP.seq ?_
          | refine AWP.block ?_
          | (refine AWP.skip ?_; simp only [thenA, blockA, reduceIte])
          | (refine AWP.exit ?_; simp only [thenA, blockA, eq_self, reduceIte, Nat.reduceEqDiff, Nat.succ_ne_zero])
          | (refine AWP.ret ?_; simp only [thenA, blockA, reduceIte])
          | (refine AWP.region (by rfl) (fun KK hKK => ?_); (repeat (simp (disch := omega) [])); first | (refine hKK _ _ _ ?_; clear hKK KK; simp only [thenA, blockA, reduceIte]) | skip)
          | (refine AWP.draw' mixd (by rfl) (by kernel_rfl) (fun KK tab hKK htab => ?_); (repeat (simp (disch := omega) [])); first | (refine dEnd_ro ?_ (hKK _ _ _ ?_); (focus (simp; done)); clear htab tab hKK KK; simp only [thenA, blockA, reduceIte]) | (refine dEnd_of ?_ (hKK _ _ _ ?_); (focus (simp only [List.reverse_cons, List.reverse_nil, List.nil_append, List.cons_append, memA, mem1, and_true, true_and]; (repeat' apply And.intro); (all_goals (first | trivial | (refine .inr ⟨?_, ?_⟩ <;> (simp; done)) | (refine .inr ⟨?_, ?_⟩ <;> (simp <;> omega)) | (refine .inl ?_; rw [htab]; kernel_rfl))); done)); clear htab tab hKK KK; simp only [thenA, blockA, reduceIte]) | skip)
          | (refine AWP.if_t ?_ ?_; focus (simp (disch := omega) []; done))
          | (refine AWP.if_f ?_ ?_; focus (simp (disch := omega) []; done)))
        refine ⟨_, _, _, _, ?_, ⟨k + 1, by omega, rfl, take_succ_eq hlt hlt2 ht he, rfl, rfl, by omega⟩, Weak.tau (by simp [LQ])⟩
        omega
      · have hne := take_ne hlt hlt2 he
        repeat' (first
          | refine AWP.seq ?_
          | refine AWP.block ?_
          | (refine AWP.skip ?_; simp only [thenA, blockA, reduceIte])
          | (refine AWP.exit ?_; simp only [thenA, blockA, eq_self, reduceIte, Nat.reduceEqDiff, Nat.succ_ne_zero])
          | (refine AWP.ret ?_; simp only [thenA, blockA, reduceIte])
          | (refine AWP.region (by rfl) (fun KK hKK => ?_); (repeat (simp (disch := omega) [hlt, hlt2, hkb, hat, hkb2, hat2])); first | (refine hKK _ _ _ ?_; clear hKK KK; simp only [thenA, blockA, reduceIte]) | skip)
          | (refine AWP.draw' mixd (by rfl) (by kernel_rfl) (fun KK tab hKK htab => ?_); (repeat (simp (disch := omega) [hlt, hlt2, hkb, hat, hkb2, hat2])); first | (refine dEnd_ro ?_ (hKK _ _ _ ?_); (focus (simp; done)); clear htab tab hKK KK; simp only [thenA, blockA, reduceIte]) | (refine dEnd_of ?_ (hKK _ _ _ ?_); (focus (simp only [List.reverse_cons, List.reverse_nil, List.nil_append, List.cons_append, memA, mem1, and_true, true_and]; (repeat' apply And.intro); (all_goals (first | trivial | (refine .inr ⟨?_, ?_⟩ <;> (simp; done)) | (refine .inr ⟨?_, ?_⟩ <;> (simp <;> omega)) | (refine .inl ?_; rw [htab]; kernel_rfl))); done)); clear htab tab hKK KK; simp only [thenA, blockA, reduceIte]) | skip)
          | (refine AWP.if_t ?_ ?_; focus (simp (disch := omega) [hlt, hlt2, hkb, hat, hkb2, hat2]; done))
          | (refine AWP.if_f ?_ ?_; focus (simp (disch := omega) [hlt, hlt2, hkb, hat, hkb2, hat2]; done)))
        refine dStop_pure (fun σ' => eqItem_c σ' _ ds[k] es[k]) ?_
        (repeat (simp (disch := omega) [he]))
        first | (refine dEnd_ro ?_ (hKK _ _ _ ?_); (focus (simp; done)); clear htab tab hKK KK; simp only [thenA, blockA, reduceIte]) | (refine dEnd_of ?_ (hKK _ _ _ ?_); (focus (simp only [List.reverse_cons, List.reverse_nil, List.nil_append, List.cons_append, memA, mem1, and_true, true_and]; (repeat' apply And.intro); (all_goals (first | trivial | (refine .inr ⟨?_, ?_⟩ <;> (simp; done)) | (refine .inr ⟨?_, ?_⟩ <;> (simp <;> omega)) | (refine .inl ?_; rw [htab]; kernel_rfl))); done)); clear htab tab hKK KK; simp only [thenA, blockA, reduceIte]) | skip
        repeat' (first
          | refine AWP.seq ?_
          | refine AWP.block ?_
          | (refine AWP.skip ?_; simp only [thenA, blockA, reduceIte])
          | (refine AWP.exit ?_; simp only [thenA, blockA, eq_self, reduceIte, Nat.reduceEqDiff, Nat.succ_ne_zero])
          | (refine AWP.ret ?_; simp only [thenA, blockA, reduceIte])
          | (refine AWP.region (by rfl) (fun KK hKK => ?_); (repeat (simp (disch := omega) [])); first | (refine hKK _ _ _ ?_; clear hKK KK; simp only [thenA, blockA, reduceIte]) | skip)
          | (refine AWP.draw' mixd (by rfl) (by kernel_rfl) (fun KK tab hKK htab => ?_); (repeat (simp (disch := omega) [])); first | (refine dEnd_ro ?_ (hKK _ _ _ ?_); (focus (simp; done)); clear htab tab hKK KK; simp only [thenA, blockA, reduceIte]) | (refine dEnd_of ?_ (hKK _ _ _ ?_); (focus (simp only [List.reverse_cons, List.reverse_nil, List.nil_append, List.cons_append, memA, mem1, and_true, true_and]; (repeat' apply And.intro); (all_goals (first | trivial | (refine .inr ⟨?_, ?_⟩ <;> (simp; done)) | (refine .inr ⟨?_, ?_⟩ <;> (simp <;> omega)) | (refine .inl ?_; rw [htab]; kernel_rfl))); done)); clear htab tab hKK KK; simp only [thenA, blockA, reduceIte]) | skip)
          | (refine AWP.if_t ?_ ?_; focus (simp (disch := omega) []; done))
          | (refine AWP.if_f ?_ ?_; focus (simp (disch := omega) []; done)))
        refine ⟨by simp, _, rfl, fin0 ⟨?_, rfl⟩ (by simp [resO, get, nms, nmss]; try (simp [nms, nmss] at hn; simp_all))⟩
        simp [resO, get, ren, rens, hne]
    · have hk' : k = ds.length := by omega
      have e := take_all hk' hl ht
      subst e
      subst hk'
      repeat' (first
        | refine AWP.seq ?_
        | refine AWP.block ?_
        | (refine AWP.skip ?_; simp only [thenA, blockA, reduceIte])
        | (refine AWP.exit ?_; simp only [thenA, blockA, eq_self, reduceIte, Nat.reduceEqDiff, Nat.succ_ne_zero])
        | (refine AWP.ret ?_; simp only [thenA, blockA, reduceIte])
        | (refine AWP.region (by rfl) (fun KK hKK => ?_); (repeat (simp (disch := omega) [])); first | (refine hKK _ _ _ ?_; clear hKK KK; simp only [thenA, blockA, reduceIte]) | skip)
        | (refine AWP.draw' mixd (by rfl) (by kernel_rfl) (fun KK tab hKK htab => ?_); (repeat (simp (disch := omega) [])); first | (refine dEnd_ro ?_ (hKK _ _ _ ?_); (focus (simp; done)); clear htab tab hKK KK; simp only [thenA, blockA, reduceIte]) | (refine dEnd_of ?_ (hKK _ _ _ ?_); (focus (simp only [List.reverse_cons, List.reverse_nil, List.nil_append, List.cons_append, memA, mem1, and_true, true_and]; (repeat' apply And.intro); (all_goals (first | trivial | (refine .inr ⟨?_, ?_⟩ <;> (simp; done)) | (refine .inr ⟨?_, ?_⟩ <;> (simp <;> omega)) | (refine .inl ?_; rw [htab]; kernel_rfl))); done)); clear htab tab hKK KK; simp only [thenA, blockA, reduceIte]) | skip)
        | (refine AWP.if_t ?_ ?_; focus (simp (disch := omega) []; done))
        | (refine AWP.if_f ?_ ?_; focus (simp (disch := omega) []; done)))
      refine ⟨by simp, _, rfl, fin0 ⟨?_, rfl⟩ (by simp [resO, get, nms, nmss]; try (simp [nms, nmss] at hn; simp_all))⟩
      simp [resO, get, ren, rens]
  · have hli : ¬ (ds.length : Int) = es.length := by omega
    have hne : ds ≠ es := fun e => hl (by rw [e])
    repeat' (first
      | refine AWP.seq ?_
      | refine AWP.block ?_
      | (refine AWP.skip ?_; simp only [thenA, blockA, reduceIte])
      | (refine AWP.exit ?_; simp only [thenA, blockA, eq_self, reduceIte, Nat.reduceEqDiff, Nat.succ_ne_zero])
      | (refine AWP.ret ?_; simp only [thenA, blockA, reduceIte])
      | (refine AWP.region (by rfl) (fun KK hKK => ?_); (repeat (simp (disch := omega) [hli])); first | (refine hKK _ _ _ ?_; clear hKK KK; simp only [thenA, blockA, reduceIte]) | skip)
      | (refine AWP.draw' mixd (by rfl) (by kernel_rfl) (fun KK tab hKK htab => ?_); (repeat (simp (disch := omega) [hli])); first | (refine dEnd_ro ?_ (hKK _ _ _ ?_); (focus (simp; done)); clear htab tab hKK KK; simp only [thenA, blockA, reduceIte]) | (refine dEnd_of ?_ (hKK _ _ _ ?_); (focus (simp only [List.reverse_cons, List.reverse_nil, List.nil_append, List.cons_append, memA, mem1, and_true, true_and]; (repeat' apply And.intro); (all_goals (first | trivial | (refine .inr ⟨?_, ?_⟩ <;> (simp; done)) | (refine .inr ⟨?_, ?_⟩ <;> (simp <;> omega)) | (refine .inl ?_; rw [htab]; kernel_rfl))); done)); clear htab tab hKK KK; simp only [thenA, blockA, reduceIte]) | skip)
      | (refine AWP.if_t ?_ ?_; focus (simp (disch := omega) [hli]; done))
      | (refine AWP.if_f ?_ ?_; focus (simp (disch := omega) [hli]; done)))
    refine ⟨by simp, _, rfl, fin0 ⟨?_, rfl⟩ (by simp [resO, get, nms, nmss]; try (simp [nms, nmss] at hn; simp_all))⟩
    simp [resO, get, ren, rens, hne]

def mkT (n : Nat) (k : Int) : List It := (List.range n).map fun i : Nat => (mT (k + 3 * (i : Int)), decide ((k + 3 * (i : Int) + 1).tmod 3 = 0), k + 3 * (i : Int) + 2)
theorem mkT_len (n : Nat) (k : Int) : (mkT n k).length = n := by simp [mkT]
theorem mkT_succ (n : Nat) (k : Int) : mkT (n + 1) k = mkT n k ++ [(mT (k + 3 * n), decide ((k + 3 * (n : Int) + 1).tmod 3 = 0), k + 3 * n + 2)] := by simp [mkT, List.range_succ]
def rowsMT (l : List It) (k : Int) (i : Nat) : List (List AV) := rowsT (mkT i k ++ l.drop i)
theorem rowsMT_at (l : List It) (k : Int) (i : Nat) (h : i < l.length) : (rowsMT l k i)[i]? = some [.v (.string l[i].1), .v (.bool l[i].2.1), .v (.int .i64 l[i].2.2)] := by
  unfold rowsMT rowsT
  rw [List.getElem?_map, List.getElem?_append_right (by rw [mkT_len]; omega), mkT_len]
  simp [rowT, List.getElem?_eq_getElem h]
theorem rowsMT_set (l : List It) (k : Int) (i : Nat) (h : i < l.length) : (rowsMT l k i).set i [.v (.string (mT (k + 3 * i))), .v (.bool (decide ((k + 3 * (i : Int) + 1).tmod 3 = 0))), .v (.int .i64 (k + 3 * i + 2))] = rowsMT l k (i + 1) := by
  unfold rowsMT rowsT
  rw [mkT_succ, List.drop_eq_getElem_cons h, List.map_append, List.set_append_right _ _ (by simp [mkT_len])]
  simp only [List.length_map, mkT_len, Nat.sub_self, List.map_cons, List.set_cons_zero, List.map_append, List.append_assoc, List.cons_append, List.nil_append, List.map_nil, rowT]
theorem rowsMT_flat (l : List It) (k : Int) (i : Nat) : flatB ⟨112, 3, rowsMT l k i, true⟩ := flatT _
theorem rowsMT_len (l : List It) (k : Int) (i : Nat) (h : i ≤ l.length) : (rowsMT l k i).length = l.length := by simp [rowsMT, rowsT, mkT_len]; omega

set_option maxRecDepth 10000 in
set_option maxHeartbeats 1000000 in
theorem markItemS_c (σ : Sto) (ν : Nat) (b : Nat) (cap : Option Nat) (l : List It) (k : Int) (hb : σ b = some (blkT l)) (hlen : l.length ≤ 4294967296) (hk : 0 ≤ k ∧ k ≤ 4294967296) :
    AC Try.prog 59 [.sl b 0 l.length cap 3, .v (.int .i64 k)] σ ν fun r δ => r = .v (.int .i64 (k + 3 * l.length)) ∧ δ = upd noS b (blkT (mkT l.length k)) := by
  refine AC.intro [b] ent_59 Try.func59 rfl (by simp [Try.f59]) (by simp [hb]) ?_
  intro K s hs hB hn hν hA hFr
  simp only [argT, Nat.zero_add, Nat.reduceAdd]
  have hsb : s b = some (blkT l) := by rw [hs b, hb]; simp
  have hbK : b < K := hA b (by simp [nmAs, nmA])
  have hb1 : ¬ b = K := by omega
  have hk0 := hk.1
  have hk1 := hk.2
  repeat' (first
    | refine AWP.seq ?_
    | refine AWP.block ?_
    | (refine AWP.skip ?_; simp only [thenA, blockA, reduceIte])
    | (refine AWP.exit ?_; simp only [thenA, blockA, eq_self, reduceIte, Nat.reduceEqDiff, Nat.succ_ne_zero])
    | (refine AWP.ret ?_; simp only [thenA, blockA, reduceIte])
    | (refine AWP.region (by rfl) (fun KK hKK => ?_); (repeat (simp (disch := omega) [])); first | (refine hKK _ _ _ ?_; clear hKK KK; simp only [thenA, blockA, reduceIte]) | skip)
    | (refine AWP.if_t ?_ ?_; focus (simp (disch := omega) []; done))
    | (refine AWP.if_f ?_ ?_; focus (simp (disch := omega) []; done)))
  refine AWP.loop (fun n τ σ' M => ∃ i : Nat, i ≤ l.length ∧ n = l.length - i ∧ τ = [(0, .sl b 0 l.length cap 3), (1, .v (.int .i64 (k + 3 * i))), (5, .v (.int .i64 i))] ∧ σ' = upd s b ⟨112, 3, rowsMT l k i, true⟩ ∧ M = K) ⟨_, _, _, _, ⟨0, by omega, rfl, rfl, rfl, rfl⟩, Weak.mod hB hbK (fun c kc hc h => h) (by rw [hsb]; simp [rowsMT, mkT]) (rowsMT_flat l k 0) (by simp [LT, get, nms]; omega)⟩ ?_
  rintro n τ σ' M ⟨i, hi, rfl, rfl, rfl, rfl⟩
  by_cases hlt : i < l.length
  · have h1 := rowsMT_at l k i hlt
    have h2 := rowsMT_set l k i hlt
    have h3 : ((rowsMT l k i).set i [.v (.string (mT (k + 3 * i))), .v (.bool l[i].2.1), .v (.int .i64 l[i].2.2)])[i]? = some [.v (.string (mT (k + 3 * i))), .v (.bool l[i].2.1), .v (.int .i64 l[i].2.2)] := by
      rw [List.getElem?_set_self (by rw [rowsMT_len l k i (by omega)]; exact hlt)]
    have h4 : ((rowsMT l k i).set i [.v (.string (mT (k + 3 * i))), .v (.bool (decide ((k + 3 * (i : Int) + 1).tmod 3 = 0))), .v (.int .i64 l[i].2.2)])[i]? = some [.v (.string (mT (k + 3 * i))), .v (.bool (decide ((k + 3 * (i : Int) + 1).tmod 3 = 0))), .v (.int .i64 l[i].2.2)] := by
      rw [List.getElem?_set_self (by rw [rowsMT_len l k i (by omega)]; exact hlt)]
    have e2 : k + 3 * (i : Int) + 1 + 1 = k + 3 * i + 2 := by omega
    generalize hq : decide ((k + 3 * (i : Int) + 1).tmod 3 = 0) = q at *
    repeat' (first
      | refine AWP.seq ?_
      | refine AWP.block ?_
      | (refine AWP.skip ?_; simp only [thenA, blockA, reduceIte])
      | (refine AWP.exit ?_; simp only [thenA, blockA, eq_self, reduceIte, Nat.reduceEqDiff, Nat.succ_ne_zero])
      | (refine AWP.ret ?_; simp only [thenA, blockA, reduceIte])
      | (refine AWP.region (by rfl) (fun KK hKK => ?_); (repeat (simp (disch := omega) [hlt])); first | (refine hKK _ _ _ ?_; clear hKK KK; simp only [thenA, blockA, reduceIte]) | skip)
      | (refine AWP.if_t ?_ ?_; focus (simp (disch := omega) [hlt]; done))
      | (refine AWP.if_f ?_ ?_; focus (simp (disch := omega) [hlt]; done)))
    refine aStop_of (markText_c _ _ _ (by omega)) ?_
    rintro r δ ⟨rfl, rfl⟩
    (repeat (simp (disch := omega) [hlt, h1]))
    first | (refine hKK _ _ _ ?_; clear hKK KK; simp only [thenA, blockA, reduceIte]) | skip
    repeat' (first
      | refine AWP.seq ?_
      | refine AWP.block ?_
      | (refine AWP.skip ?_; simp only [thenA, blockA, reduceIte])
      | (refine AWP.exit ?_; simp only [thenA, blockA, eq_self, reduceIte, Nat.reduceEqDiff, Nat.succ_ne_zero])
      | (refine AWP.ret ?_; simp only [thenA, blockA, reduceIte])
      | (refine AWP.region (by rfl) (fun KK hKK => ?_); (repeat (simp (disch := omega) [hlt, h3, h4, hq])); first | (refine hKK _ _ _ ?_; clear hKK KK; simp only [thenA, blockA, reduceIte]) | skip)
      | (refine AWP.if_t ?_ ?_; focus (simp (disch := omega) [hlt, h3, h4, hq]; done))
      | (refine AWP.if_f ?_ ?_; focus (simp (disch := omega) [hlt, h3, h4, hq]; done)))
    refine ⟨_, _, _, _, ?_, ⟨i + 1, by omega, rfl, rfl, rfl, rfl⟩, Weak.mod hB hbK (fun c kc hc h => by simp [upd, hc, h]) (by simp [e2, h2]) (rowsMT_flat l k (i + 1)) (by simp [LT, get, nms]; omega)⟩
    omega
  · have hi' : i = l.length := by omega
    subst hi'
    have h4 : rowsMT l k l.length = rowsT (mkT l.length k) := by simp [rowsMT]
    repeat' (first
      | refine AWP.seq ?_
      | refine AWP.block ?_
      | (refine AWP.skip ?_; simp only [thenA, blockA, reduceIte])
      | (refine AWP.exit ?_; simp only [thenA, blockA, eq_self, reduceIte, Nat.reduceEqDiff, Nat.succ_ne_zero])
      | (refine AWP.ret ?_; simp only [thenA, blockA, reduceIte])
      | (refine AWP.region (by rfl) (fun KK hKK => ?_); (repeat (simp (disch := omega) [])); first | (refine hKK _ _ _ ?_; clear hKK KK; simp only [thenA, blockA, reduceIte]) | skip)
      | (refine AWP.if_t ?_ ?_; focus (simp (disch := omega) []; done))
      | (refine AWP.if_f ?_ ?_; focus (simp (disch := omega) []; done)))
    refine ⟨by simp, _, rfl, finM (k := blkT (mkT l.length k)) (by simp [h4]) rfl (flatT _) ⟨?_, rfl⟩ (by simp [resO, get, nms, nmss])⟩
    simp [resO, get, ren]
end Go.Proofs.Ytkddpkjgmmmcpaa
