/- Contracts of the exact laws' helpers: lists of numbers and of texts, classes of flags. No condition. -/
import Derived.Test.YtgaiemhbllbaiaaB3
import Derived.Test.YtgaiemhbllbaiaaLC
set_option linter.unusedSimpArgs false
set_option linter.unusedVariables false
namespace Go.Proofs.Ytgaiemhbllbaiaa
open Go Go.RowKit
/-- Rows that are filled one by one. -/
def fillR (z : List AV) (rs : List (List AV)) (k : Nat) : List (List AV) := rs.take k ++ List.replicate (rs.length - k) z
theorem fillR_at (z : List AV) (rs : List (List AV)) (k : Nat) (h : k < rs.length) : (fillR z rs k)[k]? = some z := by
  unfold fillR
  rw [List.getElem?_append_right (by simp; omega)]
  rw [List.getElem?_replicate, if_pos (by simp; omega)]
theorem fillR_set (z : List AV) (rs : List (List AV)) (k : Nat) (h : k < rs.length) : (fillR z rs k).set k rs[k] = fillR z rs (k + 1) := by
  unfold fillR
  rw [List.set_append_right _ _ (by simp; omega)]
  have e : rs.length - k = (rs.length - (k + 1)) + 1 := by omega
  have e2 : k - (rs.take k).length = 0 := by simp; omega
  rw [e2, e, List.replicate_succ, List.set_cons_zero]
  rw [List.take_succ_eq_append_getElem h]
  simp only [List.append_assoc, List.cons_append, List.nil_append]
theorem fillR_all (z : List AV) (rs : List (List AV)) : fillR z rs rs.length = rs := by simp [fillR]
theorem fillR_zero (z : List AV) (rs : List (List AV)) : fillR z rs 0 = List.replicate rs.length z := by simp [fillR]
theorem fillR_flat {t s : Nat} {z : List AV} {rs : List (List AV)} {r : Bool} (h : flatB ⟨t, s, rs, r⟩) (hz : ∀ v ∈ z, nms v = []) (k : Nat) : flatB ⟨t, s, fillR z rs k, true⟩ := by
  intro e he v hv
  simp only [fillR] at he
  rcases List.mem_append.1 he with he | he
  · exact h e (List.mem_of_mem_take he) v hv
  · rw [(List.mem_replicate.1 he).2] at hv
    exact hz v hv

set_option maxRecDepth 10000 in
set_option maxHeartbeats 1000000 in
theorem toStringS_c (σ : Sto) (ν : Nat) (x : AV) (l : List ByteArray) (hx : Sl σ x 1 (rowsS l)) (hlen : l.length ≤ 4294967296) :
    AC Try.prog 38 [x] σ ν fun r δ => r = .sl ν 0 l.length (some l.length) 1 ∧ δ = upd noS ν (blkS l) := by
  obtain ⟨b, o, cap, z, rfl⟩ := hx.out
  simp only [rowsS_len] at hx ⊢
  refine AC.intro [] ent_38 Try.func38 rfl (by simp [Try.f38]) (by simp) ?_
  intro K s hs hB hn hν hA hFr
  simp only [argT, Nat.zero_add, Nat.reduceAdd]
  have hx' := hx.vw hs.vw
  have hbK : b < K := hA b (by simp [nmAs, nmA])
  have hb1 : ¬ b = K := by omega
  have hbig : 16 * l.length ≤ 140737488355328 := by omega
  have hbig2 : l.length ≤ 4611686018427387904 := by omega
  have hbig3 : l.length ≤ 17592186044416 := by omega
  repeat' (first
    | refine AWP.seq ?_
    | refine AWP.block ?_
    | (refine AWP.skip ?_; simp only [thenA, blockA, reduceIte])
    | (refine AWP.exit ?_; simp only [thenA, blockA, eq_self, reduceIte, Nat.reduceEqDiff, Nat.succ_ne_zero])
    | (refine AWP.ret ?_; simp only [thenA, blockA, reduceIte])
    | (refine AWP.region (by rfl) (fun KK hKK => ?_); (repeat (simp (disch := omega) [hbig, hbig2, hbig3])); first | (refine hKK _ _ _ ?_; clear hKK KK; simp only [thenA, blockA, reduceIte]) | skip)
    | (refine AWP.if_t ?_ ?_; focus (simp (disch := omega) [hbig, hbig2, hbig3]; done))
    | (refine AWP.if_f ?_ ?_; focus (simp (disch := omega) [hbig, hbig2, hbig3]; done)))
  refine AWP.loop (fun n τ σ' M => ∃ k : Nat, k ≤ l.length ∧ n = l.length - k ∧ τ = [(0, .sl b o l.length cap z), (3, .sl K 0 l.length (some l.length) 1), (4, .v (.int .i64 k))] ∧ σ' = upd s K ⟨9, 1, fillR [.v (.string ByteArray.empty)] (rowsS l) k, true⟩ ∧ M = K + 1) ⟨_, _, _, _, ⟨0, by omega, rfl, rfl, rfl, rfl⟩, Weak.keep (c := K) (k0 := ⟨9, 1, List.replicate l.length [.v (.string ByteArray.empty)], true⟩) hB (by repeat (first | exact Over.refl _ | exact hov | refine Over.upd ?_ hB (by omega) | refine Over.del ?_ hB (by omega))) (by simp) (by simp [fillR, rowsS_len]) (fillR_flat (r := true) (flatS l) (by simp [nms]) 0) (.inl rfl) (by simp [LeT, ren, swl, nms, hb1]; omega)⟩ ?_
  rintro n τ σ' M ⟨k, hk, rfl, rfl, rfl, rfl⟩
  by_cases hlt : k < l.length
  · have hlr : k < (rowsS l).length := by rw [rowsS_len]; exact hlt
    obtain ⟨_, rfl, kb, hkb, hat⟩ := hx'.at (i := k) hlr
    have hset := fillR_set [.v (.string ByteArray.empty)] (rowsS l) k hlr
    have hz := fillR_at [.v (.string ByteArray.empty)] (rowsS l) k hlr
    rw [rowsS_get _ _ hlt] at hat hset
    repeat' (first
      | refine AWP.seq ?_
      | refine AWP.block ?_
      | (refine AWP.skip ?_; simp only [thenA, blockA, reduceIte])
      | (refine AWP.exit ?_; simp only [thenA, blockA, eq_self, reduceIte, Nat.reduceEqDiff, Nat.succ_ne_zero])
      | (refine AWP.ret ?_; simp only [thenA, blockA, reduceIte])
      | (refine AWP.region (by rfl) (fun KK hKK => ?_); (repeat (simp (disch := omega) [hlt, hkb, hat, hz, hset])); first | (refine hKK _ _ _ ?_; clear hKK KK; simp only [thenA, blockA, reduceIte]) | skip)
      | (refine AWP.if_t ?_ ?_; focus (simp (disch := omega) [hlt, hkb, hat, hz, hset]; done))
      | (refine AWP.if_f ?_ ?_; focus (simp (disch := omega) [hlt, hkb, hat, hz, hset]; done)))
    refine ⟨_, _, _, _, ?_, ⟨k + 1, by omega, rfl, rfl, rfl, rfl⟩, Weak.keep (c := K) hB (by repeat (first | exact Over.refl _ | exact hov | refine Over.upd ?_ hB (by omega) | refine Over.del ?_ hB (by omega))) (upd_eq _ _ _) rfl (fillR_flat (r := true) (flatS l) (by simp [nms]) (k + 1)) (.inl rfl) (by simp [LeT, ren, swl, nms, hb1]; omega)⟩
    omega
  · have hk' : k = l.length := by omega
    subst hk'
    have hfa : fillR [.v (.string ByteArray.empty)] (rowsS l) l.length = rowsS l := by have := fillR_all [.v (.string ByteArray.empty)] (rowsS l); rwa [rowsS_len] at this
    repeat' (first
      | refine AWP.seq ?_
      | refine AWP.block ?_
      | (refine AWP.skip ?_; simp only [thenA, blockA, reduceIte])
      | (refine AWP.exit ?_; simp only [thenA, blockA, eq_self, reduceIte, Nat.reduceEqDiff, Nat.succ_ne_zero])
      | (refine AWP.ret ?_; simp only [thenA, blockA, reduceIte])
      | (refine AWP.region (by rfl) (fun KK hKK => ?_); (repeat (simp (disch := omega) [])); first | (refine hKK _ _ _ ?_; clear hKK KK; simp only [thenA, blockA, reduceIte]) | skip)
      | (refine AWP.if_t ?_ ?_; focus (simp (disch := omega) []; done))
      | (refine AWP.if_f ?_ ?_; focus (simp (disch := omega) []; done)))
    refine ⟨by simp, _, rfl, fin1 (K) (blkS l) (by simp (disch := omega) [hfa]) rfl (flatS l) ⟨?_, rfl⟩ (by omega) (by simp [resO, get, nms, nmss])⟩
    simp [resO, get, ren, rens, rho, hfa]

def szFs : List ByteArray → Int → Int
  | [], k => k
  | d :: ds, k => if k - d.size < 0 then -1 else szFs ds (k - d.size)
def szLs (l : List ByteArray) (k : Int) : Int := if k - l.length < 0 then -1 else szFs l (k - l.length)
theorem szLs_len {l : List ByteArray} {k : Int} (hk : 0 ≤ k) (h : 0 ≤ szLs l k) : (l.length : Int) ≤ k := by
  unfold szLs at h
  split at h <;> omega

set_option maxRecDepth 10000 in
set_option maxHeartbeats 1000000 in
theorem szStringS_c (σ : Sto) (ν : Nat) (x : AV) (l : List ByteArray) (k : Int) (hx : Sl σ x 1 (rowsS l)) (hlen : l.length ≤ 9223372036854775807) (hsz : ∀ t ∈ l, t.size ≤ 9223372036854775807) (hk : 0 ≤ k ∧ k ≤ 4294967296) :
    AC Try.prog 37 [x, .v (.int .i64 k)] σ ν fun r δ => r = .v (.int .i64 (szLs l k)) ∧ δ = noS := by
  obtain ⟨b, o, cap, z, rfl⟩ := hx.out
  simp only [rowsS_len] at hx ⊢
  refine AC.intro [] ent_37 Try.func37 rfl (by simp [Try.f37]) (by simp) ?_
  intro K s hs hB hn hν hA hFr
  simp only [argT, Nat.zero_add, Nat.reduceAdd]
  have hx' := hx.vw hs.vw
  by_cases h0 : k - l.length < 0
  · repeat' (first
      | refine AWP.seq ?_
      | refine AWP.block ?_
      | (refine AWP.skip ?_; simp only [thenA, blockA, reduceIte])
      | (refine AWP.exit ?_; simp only [thenA, blockA, eq_self, reduceIte, Nat.reduceEqDiff, Nat.succ_ne_zero])
      | (refine AWP.ret ?_; simp only [thenA, blockA, reduceIte])
      | (refine AWP.region (by rfl) (fun KK hKK => ?_); (repeat (simp (disch := omega) [h0])); first | (refine hKK _ _ _ ?_; clear hKK KK; simp only [thenA, blockA, reduceIte]) | skip)
      | (refine AWP.if_t ?_ ?_; focus (simp (disch := omega) [h0]; done))
      | (refine AWP.if_f ?_ ?_; focus (simp (disch := omega) [h0]; done)))
    refine ⟨by simp, _, rfl, fin0 ⟨?_, rfl⟩ (by simp [resO, get, nms, nmss]; try (simp [nms, nmss] at hn; simp_all))⟩
    simp [resO, get, ren, rens, szLs, h0]
  · repeat' (first
      | refine AWP.seq ?_
      | refine AWP.block ?_
      | (refine AWP.skip ?_; simp only [thenA, blockA, reduceIte])
      | (refine AWP.exit ?_; simp only [thenA, blockA, eq_self, reduceIte, Nat.reduceEqDiff, Nat.succ_ne_zero])
      | (refine AWP.ret ?_; simp only [thenA, blockA, reduceIte])
      | (refine AWP.region (by rfl) (fun KK hKK => ?_); (repeat (simp (disch := omega) [h0])); first | (refine hKK _ _ _ ?_; clear hKK KK; simp only [thenA, blockA, reduceIte]) | skip)
      | (refine AWP.if_t ?_ ?_; focus (simp (disch := omega) [h0]; done))
      | (refine AWP.if_f ?_ ?_; focus (simp (disch := omega) [h0]; done)))
    refine AWP.loop (fun n τ σ' M => ∃ (i : Nat) (m : Int), i ≤ l.length ∧ n = l.length - i ∧ 0 ≤ m ∧ m ≤ 4294967296 ∧ szFs (l.drop i) m = szFs l (k - l.length) ∧ τ = [(0, .sl b o l.length cap z), (1, .v (.int .i64 m)), (5, .v (.int .i64 i))] ∧ σ' = s ∧ M = K) ⟨_, _, _, _, ⟨0, k - l.length, by omega, rfl, by omega, by omega, by simp, rfl, rfl, rfl⟩, (Weak.base hB (by repeat (first | exact Over.refl _ | exact hov | refine Over.upd ?_ hB (by omega) | refine Over.del ?_ hB (by omega))) (by simp [LT, get, nms, nmss]; try (simp [nms, nmss] at hn; simp_all)))⟩ ?_
    rintro n τ σ' M ⟨i, m, hi, rfl, hm0, hm1, hf, rfl, rfl, rfl⟩
    by_cases hlt : i < l.length
    · obtain ⟨_, rfl, kb, hkb, hat⟩ := hx'.at (i := i) (by rw [rowsS_len]; exact hlt)
      rw [rowsS_get _ _ hlt] at hat
      have hmem := hsz _ (List.getElem_mem hlt)
      have hbK : b < M := (hB b _ hkb).1
      rw [List.drop_eq_getElem_cons hlt] at hf
      simp only [szFs] at hf
      by_cases h1 : m - l[i].size < 0
      · rw [if_pos h1] at hf
        repeat' (first
          | refine AWP.seq ?_
          | refine AWP.block ?_
          | (refine AWP.skip ?_; simp only [thenA, blockA, reduceIte])
          | (refine AWP.exit ?_; simp only [thenA, blockA, eq_self, reduceIte, Nat.reduceEqDiff, Nat.succ_ne_zero])
          | (refine AWP.ret ?_; simp only [thenA, blockA, reduceIte])
          | (refine AWP.region (by rfl) (fun KK hKK => ?_); (repeat (simp (disch := omega) [hlt, hkb, hat, h1])); first | (refine hKK _ _ _ ?_; clear hKK KK; simp only [thenA, blockA, reduceIte]) | skip)
          | (refine AWP.if_t ?_ ?_; focus (simp (disch := omega) [hlt, hkb, hat, h1]; done))
          | (refine AWP.if_f ?_ ?_; focus (simp (disch := omega) [hlt, hkb, hat, h1]; done)))
        refine ⟨by simp, _, rfl, fin0 ⟨?_, rfl⟩ (by simp [resO, get, nms, nmss]; try (simp [nms, nmss] at hn; simp_all))⟩
        simp [resO, get, ren, rens, szLs, h0, ← hf]
      · rw [if_neg h1] at hf
        repeat' (first
          | refine AWP.seq ?_
          | refine AWP.block ?_
          | (refine AWP.skip ?_; simp only [thenA, blockA, reduceIte])
          | (refine AWP.exit ?_; simp only [thenA, blockA, eq_self, reduceIte, Nat.reduceEqDiff, Nat.succ_ne_zero])
          | (refine AWP.ret ?_; simp only [thenA, blockA, reduceIte])
          | (refine AWP.region (by rfl) (fun KK hKK => ?_); (repeat (simp (disch := omega) [hlt, hkb, hat, h1])); first | (refine hKK _ _ _ ?_; clear hKK KK; simp only [thenA, blockA, reduceIte]) | skip)
          | (refine AWP.if_t ?_ ?_; focus (simp (disch := omega) [hlt, hkb, hat, h1]; done))
          | (refine AWP.if_f ?_ ?_; focus (simp (disch := omega) [hlt, hkb, hat, h1]; done)))
        refine ⟨_, _, _, _, ?_, ⟨i + 1, m - l[i].size, by omega, rfl, by omega, by omega, hf, rfl, rfl, rfl⟩, (Weak.base hB (by repeat (first | exact Over.refl _ | exact hov | refine Over.upd ?_ hB (by omega) | refine Over.del ?_ hB (by omega))) (by simp [LT, get, nms, nmss, hbK] <;> omega))⟩
        omega
    · have hk' : i = l.length := by omega
      subst hk'
      rw [List.drop_length] at hf
      repeat' (first
        | refine AWP.seq ?_
        | refine AWP.block ?_
        | (refine AWP.skip ?_; simp only [thenA, blockA, reduceIte])
        | (refine AWP.exit ?_; simp only [thenA, blockA, eq_self, reduceIte, Nat.reduceEqDiff, Nat.succ_ne_zero])
        | (refine AWP.ret ?_; simp only [thenA, blockA, reduceIte])
        | (refine AWP.region (by rfl) (fun KK hKK => ?_); (repeat (simp (disch := omega) [])); first | (refine hKK _ _ _ ?_; clear hKK KK; simp only [thenA, blockA, reduceIte]) | skip)
        | (refine AWP.if_t ?_ ?_; focus (simp (disch := omega) []; done))
        | (refine AWP.if_f ?_ ?_; focus (simp (disch := omega) []; done)))
      refine ⟨by simp, _, rfl, fin0 ⟨?_, rfl⟩ (by simp [resO, get, nms, nmss]; try (simp [nms, nmss] at hn; simp_all))⟩
      simp [resO, get, ren, rens, szLs, h0, ← hf, szFs]

def mkI (n : Nat) (k : Int) : List Int := (List.range n).map fun i : Nat => k + (i : Int)
theorem mkI_len (n : Nat) (k : Int) : (mkI n k).length = n := by simp [mkI]
theorem mkI_succ (n : Nat) (k : Int) : mkI (n + 1) k = mkI n k ++ [k + n] := by simp [mkI, List.range_succ]
theorem mkI_get (n : Nat) (k : Int) (i : Nat) (h : i < (mkI n k).length) : (mkI n k)[i] = k + i := by simp [mkI]
def rowsMI (l : List Int) (k : Int) (i : Nat) : List (List AV) := rowsI (mkI i k ++ l.drop i)
theorem rowsMI_at (l : List Int) (k : Int) (i : Nat) (h : i < l.length) : (rowsMI l k i)[i]? = some [.v (.int .i64 l[i])] := by
  unfold rowsMI rowsI
  rw [List.getElem?_map, List.getElem?_append_right (by rw [mkI_len]; omega), mkI_len]
  simp [List.getElem?_eq_getElem h]
theorem rowsMI_set (l : List Int) (k : Int) (i : Nat) (h : i < l.length) : (rowsMI l k i).set i [.v (.int .i64 (k + i))] = rowsMI l k (i + 1) := by
  unfold rowsMI rowsI
  rw [mkI_succ, List.drop_eq_getElem_cons h, List.map_append, List.set_append_right _ _ (by simp [mkI_len])]
  simp only [List.length_map, mkI_len, Nat.sub_self, List.map_cons, List.set_cons_zero, List.map_append, List.append_assoc, List.cons_append, List.nil_append, List.map_nil]
theorem rowsMI_flat (l : List Int) (k : Int) (i : Nat) : flatB ⟨3, 1, rowsMI l k i, true⟩ := flatI _

end Go.Proofs.Ytgaiemhbllbaiaa
