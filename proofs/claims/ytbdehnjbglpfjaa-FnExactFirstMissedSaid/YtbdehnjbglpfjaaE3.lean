/- Contracts of the exact laws' helpers: arms. No condition. -/
import Derived.Test.YtbdehnjbglpfjaaA2
import Derived.Test.YtbdehnjbglpfjaaLC
set_option linter.unusedSimpArgs false
set_option linter.unusedVariables false
namespace Go.Proofs.Ytbdehnjbglpfjaa
open Go Go.RowKit

set_option maxRecDepth 10000 in
set_option maxHeartbeats 400000 in
theorem toArm_c (σ : Sto) (ν : Nat) (p q : Int) : AC Try.prog 24 [.agg [.v (.int .i64 p), .v (.int .i64 q)]] σ ν fun r δ => r = .agg [.v (.int .i64 p), .v (.int .i64 q)] ∧ δ = noS := by
  refine AC.intro [] ent_24 Try.func24 rfl (by simp [Try.f24]) (by simp) ?_
  intro K s hs hB hn hν hA hFr
  simp only [argT, Nat.zero_add, Nat.reduceAdd]
  repeat' (first
    | refine AWP.seq ?_
    | refine AWP.block ?_
    | (refine AWP.skip ?_; simp only [thenA, blockA, reduceIte])
    | (refine AWP.exit ?_; simp only [thenA, blockA, eq_self, reduceIte, Nat.reduceEqDiff, Nat.succ_ne_zero])
    | (refine AWP.ret ?_; simp only [thenA, blockA, reduceIte])
    | (refine AWP.region (by rfl) (fun KK hKK => ?_); (repeat (simp (disch := omega) [])); first | (refine hKK _ _ _ ?_; clear hKK KK; simp only [thenA, blockA, reduceIte]) | skip)
    | (refine AWP.if_t ?_ ?_; focus (simp (disch := omega) []; done))
    | (refine AWP.if_f ?_ ?_; focus (simp (disch := omega) []; done)))
  refine ⟨by simp, ?_⟩
  have hres : Try.f24.results.toList = [.cell 2 27] := rfl
  rw [hres]
  simp (disch := omega) []
  refine fin0 ⟨?_, rfl⟩ (by simp [resO, nms, nmss])
  simp [resO, ren, rens]
set_option maxRecDepth 10000 in
set_option maxHeartbeats 400000 in
theorem szArmS_c (σ : Sto) (ν : Nat) (x : AV) (l : List Ar) (k : Int) (hx : Sl σ x 2 (rowsA l)) (hlen : l.length ≤ 9223372036854775807) (hk : 0 ≤ k ∧ k ≤ 4294967296) :
    AC Try.prog 36 [x, .v (.int .i64 k)] σ ν fun r δ => r = .v (.int .i64 (if k - l.length < 0 then -1 else k - l.length)) ∧ δ = noS := by
  obtain ⟨b, o, cap, z, rfl⟩ := hx.out
  simp only [rowsA_len] at hx ⊢
  refine AC.intro [] ent_36 Try.func36 rfl (by simp [Try.f36]) (by simp) ?_
  intro K s hs hB hn hν hA hFr
  simp only [argT, Nat.zero_add, Nat.reduceAdd]
  by_cases h : k - l.length < 0
  · repeat' (first
      | refine AWP.seq ?_
      | refine AWP.block ?_
      | (refine AWP.skip ?_; simp only [thenA, blockA, reduceIte])
      | (refine AWP.exit ?_; simp only [thenA, blockA, eq_self, reduceIte, Nat.reduceEqDiff, Nat.succ_ne_zero])
      | (refine AWP.ret ?_; simp only [thenA, blockA, reduceIte])
      | (refine AWP.region (by rfl) (fun KK hKK => ?_); (repeat (simp (disch := omega) [h])); first | (refine hKK _ _ _ ?_; clear hKK KK; simp only [thenA, blockA, reduceIte]) | skip)
      | (refine AWP.if_t ?_ ?_; focus (simp (disch := omega) [h]; done))
      | (refine AWP.if_f ?_ ?_; focus (simp (disch := omega) [h]; done)))
    refine ⟨by simp, _, rfl, fin0 ⟨?_, rfl⟩ (by simp [resO, get, nms, nmss]; try (simp [nms, nmss] at hn; simp_all))⟩
    simp [resO, get, ren, rens, h]
  · repeat' (first
      | refine AWP.seq ?_
      | refine AWP.block ?_
      | (refine AWP.skip ?_; simp only [thenA, blockA, reduceIte])
      | (refine AWP.exit ?_; simp only [thenA, blockA, eq_self, reduceIte, Nat.reduceEqDiff, Nat.succ_ne_zero])
      | (refine AWP.ret ?_; simp only [thenA, blockA, reduceIte])
      | (refine AWP.region (by rfl) (fun KK hKK => ?_); (repeat (simp (disch := omega) [h])); first | (refine hKK _ _ _ ?_; clear hKK KK; simp only [thenA, blockA, reduceIte]) | skip)
      | (refine AWP.if_t ?_ ?_; focus (simp (disch := omega) [h]; done))
      | (refine AWP.if_f ?_ ?_; focus (simp (disch := omega) [h]; done)))
    refine ⟨by simp, _, rfl, fin0 ⟨?_, rfl⟩ (by simp [resO, get, nms, nmss]; try (simp [nms, nmss] at hn; simp_all))⟩
    simp [resO, get, ren, rens, h]
abbrev zeroA : List AV := [.v (.int .i64 0), .v (.int .i64 0)]
def fillAr (ds : List Ar) (k : Nat) : List (List AV) := rowsA (ds.take k) ++ List.replicate (ds.length - k) zeroA
theorem fillAr_at (ds : List Ar) (k : Nat) (h : k < ds.length) : (fillAr ds k)[k]? = some zeroA := by
  unfold fillAr
  rw [List.getElem?_append_right (by simp [rowsA]; omega)]
  rw [List.getElem?_replicate, if_pos (by simp [rowsA]; omega)]
theorem fillAr_set (ds : List Ar) (k : Nat) (h : k < ds.length) : (fillAr ds k).set k [.v (.int .i64 ds[k].1), .v (.int .i64 ds[k].2)] = fillAr ds (k + 1) := by
  unfold fillAr
  rw [List.set_append_right _ _ (by simp [rowsA]; omega)]
  have e : ds.length - k = (ds.length - (k + 1)) + 1 := by omega
  have e2 : k - (rowsA (ds.take k)).length = 0 := by simp [rowsA]; omega
  rw [e2, e, List.replicate_succ, List.set_cons_zero]
  rw [List.take_succ_eq_append_getElem h]
  simp only [rowsA, List.map_append, List.map_cons, List.map_nil, List.append_assoc, List.cons_append, List.nil_append]
theorem fillAr_flat (ds : List Ar) (k t : Nat) : flatB ⟨t, 2, fillAr ds k, true⟩ := by
  intro e he v hv
  simp only [fillAr] at he
  rcases List.mem_append.1 he with he | he
  · exact flatA _ e he v hv
  · rw [(List.mem_replicate.1 he).2] at hv
    simp at hv
    rcases hv with rfl | rfl <;> rfl
set_option maxRecDepth 10000 in
set_option maxHeartbeats 1000000 in
theorem toArmS_c (σ : Sto) (ν : Nat) (x : AV) (ds : List Ar) (hx : Sl σ x 2 (rowsA ds)) (hlen : ds.length ≤ 4294967296) :
    AC Try.prog 38 [x] σ ν fun r δ => r = .sl ν 0 ds.length (some ds.length) 2 ∧ δ = upd noS ν (blkA ds) := by
  obtain ⟨b, o, cap, z, rfl⟩ := hx.out
  simp only [rowsA_len] at hx ⊢
  refine AC.intro [] ent_38 Try.func38 rfl (by simp [Try.f38]) (by simp) ?_
  intro K s hs hB hn hν hA hFr
  simp only [argT, Nat.zero_add, Nat.reduceAdd]
  have hx' := hx.vw hs.vw
  have hbK : b < K := hA b (by simp [nmAs, nmA])
  have hb1 : ¬ b = K := by omega
  have hbig : 16 * ds.length ≤ 140737488355328 := by omega
  have hbig2 : ds.length ≤ 4611686018427387904 := by omega
  repeat' (first
    | refine AWP.seq ?_
    | refine AWP.block ?_
    | (refine AWP.skip ?_; simp only [thenA, blockA, reduceIte])
    | (refine AWP.exit ?_; simp only [thenA, blockA, eq_self, reduceIte, Nat.reduceEqDiff, Nat.succ_ne_zero])
    | (refine AWP.ret ?_; simp only [thenA, blockA, reduceIte])
    | (refine AWP.region (by rfl) (fun KK hKK => ?_); (repeat (simp (disch := omega) [hbig, hbig2])); first | (refine hKK _ _ _ ?_; clear hKK KK; simp only [thenA, blockA, reduceIte]) | skip)
    | (refine AWP.if_t ?_ ?_; focus (simp (disch := omega) [hbig, hbig2]; done))
    | (refine AWP.if_f ?_ ?_; focus (simp (disch := omega) [hbig, hbig2]; done)))
  refine AWP.loop (fun n τ σ' M => ∃ k : Nat, k ≤ ds.length ∧ n = ds.length - k ∧ τ = [(0, .sl b o ds.length cap z), (3, .sl K 0 ds.length (some ds.length) 2), (4, .v (.int .i64 k))] ∧ σ' = upd s K ⟨27, 2, fillAr ds k, true⟩ ∧ M = K + 1) ⟨_, _, _, _, ⟨0, by omega, rfl, rfl, rfl, rfl⟩, Weak.keep (c := K) (k0 := ⟨27, 2, List.replicate ds.length zeroA, true⟩) hB (by repeat (first | exact Over.refl _ | exact hov | refine Over.upd ?_ hB (by omega) | refine Over.del ?_ hB (by omega))) (by simp) (by simp [fillAr, rowsA]) (fillAr_flat ds 0 _) (.inl rfl) (by simp [LeT, ren, swl, nms, hb1]; omega)⟩ ?_
  rintro n τ σ' M ⟨k, hk, rfl, rfl, rfl, rfl⟩
  by_cases hlt : k < ds.length
  · obtain ⟨_, rfl, kb, hkb, hat⟩ := hx'.at (i := k) (by rw [rowsA_len]; exact hlt)
    rw [rowsA_get _ _ hlt] at hat
    have hz := fillAr_at ds k hlt
    have hset := fillAr_set ds k hlt
    repeat' (first
      | refine AWP.seq ?_
      | refine AWP.block ?_
      | (refine AWP.skip ?_; simp only [thenA, blockA, reduceIte])
      | (refine AWP.exit ?_; simp only [thenA, blockA, eq_self, reduceIte, Nat.reduceEqDiff, Nat.succ_ne_zero])
      | (refine AWP.ret ?_; simp only [thenA, blockA, reduceIte])
      | (refine AWP.region (by rfl) (fun KK hKK => ?_); (repeat (simp (disch := omega) [hlt, hkb, hat])); first | (refine hKK _ _ _ ?_; clear hKK KK; simp only [thenA, blockA, reduceIte]) | skip)
      | (refine AWP.if_t ?_ ?_; focus (simp (disch := omega) [hlt, hkb, hat]; done))
      | (refine AWP.if_f ?_ ?_; focus (simp (disch := omega) [hlt, hkb, hat]; done)))
    refine aStop_of (toArm_c _ _ _ _) ?_
    rintro r δ ⟨rfl, rfl⟩
    (repeat (simp (disch := omega) [hlt, hz, hset]))
    first | (refine hKK _ _ _ ?_; clear hKK KK; simp only [thenA, blockA, reduceIte]) | skip
    repeat' (first
      | refine AWP.seq ?_
      | refine AWP.block ?_
      | (refine AWP.skip ?_; simp only [thenA, blockA, reduceIte])
      | (refine AWP.exit ?_; simp only [thenA, blockA, eq_self, reduceIte, Nat.reduceEqDiff, Nat.succ_ne_zero])
      | (refine AWP.ret ?_; simp only [thenA, blockA, reduceIte])
      | (refine AWP.region (by rfl) (fun KK hKK => ?_); (repeat (simp (disch := omega) [])); first | (refine hKK _ _ _ ?_; clear hKK KK; simp only [thenA, blockA, reduceIte]) | skip)
      | (refine AWP.if_t ?_ ?_; focus (simp (disch := omega) []; done))
      | (refine AWP.if_f ?_ ?_; focus (simp (disch := omega) []; done)))
    refine ⟨_, _, _, _, ?_, ⟨k + 1, by omega, rfl, rfl, rfl, rfl⟩, Weak.keep (c := K) hB (by repeat (first | exact Over.refl _ | exact hov | refine Over.upd ?_ hB (by omega) | refine Over.del ?_ hB (by omega))) (upd_eq _ _ _) rfl (fillAr_flat ds (k + 1) _) (.inl rfl) (by simp [LeT, ren, swl, nms, hb1]; omega)⟩
    omega
  · have hk' : k = ds.length := by omega
    subst hk'
    repeat' (first
      | refine AWP.seq ?_
      | refine AWP.block ?_
      | (refine AWP.skip ?_; simp only [thenA, blockA, reduceIte])
      | (refine AWP.exit ?_; simp only [thenA, blockA, eq_self, reduceIte, Nat.reduceEqDiff, Nat.succ_ne_zero])
      | (refine AWP.ret ?_; simp only [thenA, blockA, reduceIte])
      | (refine AWP.region (by rfl) (fun KK hKK => ?_); (repeat (simp (disch := omega) [])); first | (refine hKK _ _ _ ?_; clear hKK KK; simp only [thenA, blockA, reduceIte]) | skip)
      | (refine AWP.if_t ?_ ?_; focus (simp (disch := omega) []; done))
      | (refine AWP.if_f ?_ ?_; focus (simp (disch := omega) []; done)))
    refine ⟨by simp, _, rfl, fin1 (K) (blkA ds) (by simp (disch := omega) [fillAr]) rfl (flatA ds) ⟨?_, rfl⟩ (by omega) (by simp [resO, get, nms, nmss])⟩
    simp [resO, get, ren, rens, rho, fillAr]
set_option maxRecDepth 10000 in
set_option maxHeartbeats 400000 in
theorem eqArm_c (σ : Sto) (ν : Nat) (d e : Ar) : AC Try.prog 93 [.agg [.v (.int .i64 d.1), .v (.int .i64 d.2)], .agg [.v (.int .i64 e.1), .v (.int .i64 e.2)]] σ ν fun r δ => r = .v (.bool (decide (d = e))) ∧ δ = noS := by
  obtain ⟨a, m⟩ := d
  obtain ⟨b, n⟩ := e
  refine AC.intro [] ent_93 Try.func93 rfl (by simp [Try.f93]) (by simp) ?_
  intro K s hs hB hn hν hA hFr
  simp only [argT, Nat.zero_add, Nat.reduceAdd]
  by_cases h1 : a = b
  · by_cases h2 : m = n
    · repeat' (first
        | refine AWP.seq ?_
        | refine AWP.block ?_
        | (refine AWP.skip ?_; simp only [thenA, blockA, reduceIte])
        | (refine AWP.exit ?_; simp only [thenA, blockA, eq_self, reduceIte, Nat.reduceEqDiff, Nat.succ_ne_zero])
        | (refine AWP.ret ?_; simp only [thenA, blockA, reduceIte])
        | (refine AWP.region (by rfl) (fun KK hKK => ?_); (repeat (simp (disch := omega) [h1, h2])); first | (refine hKK _ _ _ ?_; clear hKK KK; simp only [thenA, blockA, reduceIte]) | skip)
        | (refine AWP.if_t ?_ ?_; focus (simp (disch := omega) [h1, h2]; done))
        | (refine AWP.if_f ?_ ?_; focus (simp (disch := omega) [h1, h2]; done)))
      refine ⟨by simp, _, rfl, fin0 ⟨?_, rfl⟩ (by simp [resO, get, nms, nmss]; try (simp [nms, nmss] at hn; simp_all))⟩
      simp [resO, get, ren, rens, h1, h2]
    · repeat' (first
        | refine AWP.seq ?_
        | refine AWP.block ?_
        | (refine AWP.skip ?_; simp only [thenA, blockA, reduceIte])
        | (refine AWP.exit ?_; simp only [thenA, blockA, eq_self, reduceIte, Nat.reduceEqDiff, Nat.succ_ne_zero])
        | (refine AWP.ret ?_; simp only [thenA, blockA, reduceIte])
        | (refine AWP.region (by rfl) (fun KK hKK => ?_); (repeat (simp (disch := omega) [h1, h2])); first | (refine hKK _ _ _ ?_; clear hKK KK; simp only [thenA, blockA, reduceIte]) | skip)
        | (refine AWP.if_t ?_ ?_; focus (simp (disch := omega) [h1, h2]; done))
        | (refine AWP.if_f ?_ ?_; focus (simp (disch := omega) [h1, h2]; done)))
      refine ⟨by simp, _, rfl, fin0 ⟨?_, rfl⟩ (by simp [resO, get, nms, nmss]; try (simp [nms, nmss] at hn; simp_all))⟩
      simp [resO, get, ren, rens, h1, h2]
  · repeat' (first
      | refine AWP.seq ?_
      | refine AWP.block ?_
      | (refine AWP.skip ?_; simp only [thenA, blockA, reduceIte])
      | (refine AWP.exit ?_; simp only [thenA, blockA, eq_self, reduceIte, Nat.reduceEqDiff, Nat.succ_ne_zero])
      | (refine AWP.ret ?_; simp only [thenA, blockA, reduceIte])
      | (refine AWP.region (by rfl) (fun KK hKK => ?_); (repeat (simp (disch := omega) [h1])); first | (refine hKK _ _ _ ?_; clear hKK KK; simp only [thenA, blockA, reduceIte]) | skip)
      | (refine AWP.if_t ?_ ?_; focus (simp (disch := omega) [h1]; done))
      | (refine AWP.if_f ?_ ?_; focus (simp (disch := omega) [h1]; done)))
    refine ⟨by simp, _, rfl, fin0 ⟨?_, rfl⟩ (by simp [resO, get, nms, nmss]; try (simp [nms, nmss] at hn; simp_all))⟩
    simp [resO, get, ren, rens, h1]
set_option maxRecDepth 10000 in
set_option maxHeartbeats 1000000 in
theorem eqArmS_c (σ : Sto) (ν : Nat) (x y : AV) (ds es : List Ar) (hx : Sl σ x 2 (rowsA ds)) (hy : Sl σ y 2 (rowsA es)) (hl1 : ds.length ≤ 4294967296) (hl2 : es.length ≤ 4294967296) :
    AC Try.prog 40 [x, y] σ ν fun r δ => r = .v (.bool (decide (ds = es))) ∧ δ = noS := by
  obtain ⟨b, o, cap, z, rfl⟩ := hx.out
  obtain ⟨b2, o2, cap2, z2, rfl⟩ := hy.out
  simp only [rowsA_len] at hx hy ⊢
  refine AC.intro [] ent_40 Try.func40 rfl (by simp [Try.f40]) (by simp) ?_
  intro K s hs hB hn hν hA hFr
  simp only [argT, Nat.zero_add, Nat.reduceAdd]
  have hx' := hx.vw hs.vw
  have hy' := hy.vw hs.vw
  by_cases hl : ds.length = es.length
  · have hli : (ds.length : Int) = es.length := by omega
    repeat' (first
      | refine AWP.seq ?_
      | refine AWP.block ?_
      | (refine AWP.skip ?_; simp only [thenA, blockA, reduceIte])
      | (refine AWP.exit ?_; simp only [thenA, blockA, eq_self, reduceIte, Nat.reduceEqDiff, Nat.succ_ne_zero])
      | (refine AWP.ret ?_; simp only [thenA, blockA, reduceIte])
      | (refine AWP.region (by rfl) (fun KK hKK => ?_); (repeat (simp (disch := omega) [hli])); first | (refine hKK _ _ _ ?_; clear hKK KK; simp only [thenA, blockA, reduceIte]) | skip)
      | (refine AWP.draw' mixd (by rfl) (by kernel_rfl) (fun KK tab hKK htab => ?_); (repeat (simp (disch := omega) [hli])); first | (refine dEnd_ro ?_ (hKK _ _ _ ?_); (focus (simp; done)); clear htab tab hKK KK; simp only [thenA, blockA, reduceIte]) | (refine dEnd_of ?_ (hKK _ _ _ ?_); (focus (simp only [List.reverse_cons, List.reverse_nil, List.nil_append, List.cons_append, memA, mem1, and_true, true_and]; (repeat' apply And.intro); (all_goals (first | trivial | (refine .inr ⟨?_, ?_⟩ <;> (simp; done)) | (refine .inr ⟨?_, ?_⟩ <;> (simp <;> omega)) | (refine .inl ?_; rw [htab]; kernel_rfl))); done)); clear htab tab hKK KK; simp only [thenA, blockA, reduceIte]) | skip)
      | (refine AWP.if_t ?_ ?_; focus (simp (disch := omega) [hli]; done))
      | (refine AWP.if_f ?_ ?_; focus (simp (disch := omega) [hli]; done)))
    refine AWP.loop (fun n τ σ' M => ∃ k : Nat, k ≤ ds.length ∧ n = ds.length - k ∧ ds.take k = es.take k ∧ τ = [(0, .sl b o ds.length cap z), (1, .sl b2 o2 es.length cap2 z2), (5, .v (.int .i64 k))] ∧ σ' = s ∧ M = K) ⟨_, _, _, _, ⟨0, by omega, rfl, by simp, rfl, rfl, rfl⟩, (Weak.base hB (by repeat (first | exact Over.refl _ | exact hov | refine Over.upd ?_ hB (by omega) | refine Over.del ?_ hB (by omega))) (by simp [LT, get, nms, nmss]; try (simp [nms, nmss] at hn; simp_all)))⟩ ?_
    rintro n τ σ' M ⟨k, hk, rfl, ht, rfl, rfl, rfl⟩
    by_cases hlt : k < ds.length
    · have hlt2 : k < es.length := by omega
      obtain ⟨_, rfl, kb, hkb, hat⟩ := hx'.at (i := k) (by rw [rowsA_len]; exact hlt)
      obtain ⟨_, rfl, kb2, hkb2, hat2⟩ := hy'.at (i := k) (by rw [rowsA_len]; exact hlt2)
      rw [rowsA_get _ _ hlt] at hat
      rw [rowsA_get _ _ hlt2] at hat2
      by_cases he : ds[k] = es[k]
      · repeat' (first
          | refine AWP.seq ?_
          | refine AWP.block ?_
          | (refine AWP.skip ?_; simp only [thenA, blockA, reduceIte])
          | (refine AWP.exit ?_; simp only [thenA, blockA, eq_self, reduceIte, Nat.reduceEqDiff, Nat.succ_ne_zero])
          | (refine AWP.ret ?_; simp only [thenA, blockA, reduceIte])
          | (refine AWP.region (by rfl) (fun KK hKK => ?_); (repeat (simp (disch := omega) [hlt, hlt2, hkb, hat, hkb2, hat2])); first | (refine hKK _ _ _ ?_; clear hKK KK; simp only [thenA, blockA, reduceIte]) | skip)
          | (refine AWP.draw' mixd (by rfl) (by kernel_rfl) (fun KK tab hKK htab => ?_); (repeat (simp (disch := omega) [hlt, hlt2, hkb, hat, hkb2, hat2])); first | (refine dEnd_ro ?_ (hKK _ _ _ ?_); (focus (simp; done)); clear htab tab hKK KK; simp only [thenA, blockA, reduceIte]) | (refine dEnd_of ?_ (hKK _ _ _ ?_); (focus (simp only [List.reverse_cons, List.reverse_nil, List.nil_append, List.cons_append, memA, mem1, and_true, true_and]; (repeat' apply And.intro); (all_goals (first | trivial | (refine .inr ⟨?_, ?_⟩ <;> (simp; done)) | (refine .inr ⟨?_, ?_⟩ <;> (simp <;> omega)) | (refine .inl ?_; rw [htab]; kernel_rfl))); done)); clear htab tab hKK KK; simp only [thenA, blockA, reduceIte]) | skip)
          | (refine AWP.if_t ?_ ?_; focus (simp (disch := omega) [hlt, hlt2, hkb, hat, hkb2, hat2]; done))
          | (refine AWP.if_f ?_ ?_; focus (simp (disch := omega) [hlt, hlt2, hkb, hat, hkb2, hat2]; done)))
        refine dStop_pure (fun σ' => eqArm_c σ' _ ds[k] es[k]) ?_
        (repeat (simp (disch := omega) [he]))
        first | (refine dEnd_ro ?_ (hKK _ _ _ ?_); (focus (simp; done)); clear htab tab hKK KK; simp only [thenA, blockA, reduceIte]) | (refine dEnd_of ?_ (hKK _ _ _ ?_); (focus (simp only [List.reverse_cons, List.reverse_nil, List.nil_append, List.cons_append, memA, mem1, and_true, true_and]; (repeat' apply And.intro); (all_goals (first | trivial | (refine .inr ⟨?_, ?_⟩ <;> (simp; done)) | (refine .inr ⟨?_, ?_⟩ <;> (simp <;> omega)) | (refine .inl ?_; rw [htab]; kernel_rfl))); done)); clear htab tab hKK KK; simp only [thenA, blockA, reduceIte]) | skip
        repeat' (first
          | refine AWP.seq ?_
          | refine AWP.block ?_
          | (refine AWP.skip ?_; simp only [thenA, blockA, reduceIte])
          | (refine AWP.exit ?_; simp only [thenA, blockA, eq_self, reduceIte, Nat.reduceEqDiff, Nat.succ_ne_zero])
          | (refine AWP.ret ?_; simp only [thenA, blockA, reduceIte])
          | (refine AWP.region (by rfl) (fun KK hKK => ?_); (repeat (simp (disch := omega) [])); first | (refine hKK _ _ _ ?_; clear hKK KK; simp only [thenA, blockA, reduceIte]) | skip)
          | (refine AWP.draw' mixd (by rfl) (by kernel_rfl) (fun KK tab hKK htab => ?_); (repeat (simp (disch := omega) [])); first | (refine dEnd_ro ?_ (hKK _ _ _ ?_); (focus (simp; done)); clear htab tab hKK KK; simp only [thenA, blockA, reduceIte]) | (refine dEnd_of ?_ (hKK _ _ _ ?_); (focus (simp only [List.reverse_cons, List.reverse_nil, List.nil_append, List.cons_append, memA, mem1, and_true, true_and]; (repeat' apply And.intro); (all_goals (first | trivial | (refine .inr ⟨?_, ?_⟩ <;> (simp; done)) | (refine .inr ⟨?_, ?_⟩ <;> (simp <;> omega)) | (refine .inl ?_; rw [htab]; kernel_rfl))); done)); clear htab tab hKK KK; simp only [thenA, blockA, reduceIte]) | skip)
          | (refine AWP.if_t ?_ ?_; focus (simp (disch := omega) []; done))
          | (refine AWP.if_f ?_ ?_; focus (simp (disch := omega) []; done)))
        refine ⟨_, _, _, _, ?_, ⟨k + 1, by omega, rfl, take_succ_eq hlt hlt2 ht he, rfl, rfl, rfl⟩, (Weak.base hB (by repeat (first | exact Over.refl _ | exact hov | refine Over.upd ?_ hB (by omega) | refine Over.del ?_ hB (by omega))) (by simp [LT, get, nms, nmss]; try (simp [nms, nmss] at hn; simp_all)))⟩
        omega
      · have hne := take_ne hlt hlt2 he
        repeat' (first
          | refine AWP.seq ?_
          | refine AWP.block ?_
          | (refine AWP.skip ?_; simp only [thenA, blockA, reduceIte])
          | (refine AWP.exit ?_; simp only [thenA, blockA, eq_self, reduceIte, Nat.reduceEqDiff, Nat.succ_ne_zero])
          | (refine AWP.ret ?_; simp only [thenA, blockA, reduceIte])
          | (refine AWP.region (by rfl) (fun KK hKK => ?_); (repeat (simp (disch := omega) [hlt, hlt2, hkb, hat, hkb2, hat2])); first | (refine hKK _ _ _ ?_; clear hKK KK; simp only [thenA, blockA, reduceIte]) | skip)
          | (refine AWP.draw' mixd (by rfl) (by kernel_rfl) (fun KK tab hKK htab => ?_); (repeat (simp (disch := omega) [hlt, hlt2, hkb, hat, hkb2, hat2])); first | (refine dEnd_ro ?_ (hKK _ _ _ ?_); (focus (simp; done)); clear htab tab hKK KK; simp only [thenA, blockA, reduceIte]) | (refine dEnd_of ?_ (hKK _ _ _ ?_); (focus (simp only [List.reverse_cons, List.reverse_nil, List.nil_append, List.cons_append, memA, mem1, and_true, true_and]; (repeat' apply And.intro); (all_goals (first | trivial | (refine .inr ⟨?_, ?_⟩ <;> (simp; done)) | (refine .inr ⟨?_, ?_⟩ <;> (simp <;> omega)) | (refine .inl ?_; rw [htab]; kernel_rfl))); done)); clear htab tab hKK KK; simp only [thenA, blockA, reduceIte]) | skip)
          | (refine AWP.if_t ?_ ?_; focus (simp (disch := omega) [hlt, hlt2, hkb, hat, hkb2, hat2]; done))
          | (refine AWP.if_f ?_ ?_; focus (simp (disch := omega) [hlt, hlt2, hkb, hat, hkb2, hat2]; done)))
        refine dStop_pure (fun σ' => eqArm_c σ' _ ds[k] es[k]) ?_
        (repeat (simp (disch := omega) [he]))
        first | (refine dEnd_ro ?_ (hKK _ _ _ ?_); (focus (simp; done)); clear htab tab hKK KK; simp only [thenA, blockA, reduceIte]) | (refine dEnd_of ?_ (hKK _ _ _ ?_); (focus (simp only [List.reverse_cons, List.reverse_nil, List.nil_append, List.cons_append, memA, mem1, and_true, true_and]; (repeat' apply And.intro); (all_goals (first | trivial | (refine .inr ⟨?_, ?_⟩ <;> (simp; done)) | (refine .inr ⟨?_, ?_⟩ <;> (simp <;> omega)) | (refine .inl ?_; rw [htab]; kernel_rfl))); done)); clear htab tab hKK KK; simp only [thenA, blockA, reduceIte]) | skip
        repeat' (first
          | refine AWP.seq ?_
          | refine AWP.block ?_
          | (refine AWP.skip ?_; simp only [thenA, blockA, reduceIte])
          | (refine AWP.exit ?_; simp only [thenA, blockA, eq_self, reduceIte, Nat.reduceEqDiff, Nat.succ_ne_zero])
          | (refine AWP.ret ?_; simp only [thenA, blockA, reduceIte])
          | (refine AWP.region (by rfl) (fun KK hKK => ?_); (repeat (simp (disch := omega) [])); first | (refine hKK _ _ _ ?_; clear hKK KK; simp only [thenA, blockA, reduceIte]) | skip)
          | (refine AWP.draw' mixd (by rfl) (by kernel_rfl) (fun KK tab hKK htab => ?_); (repeat (simp (disch := omega) [])); first | (refine dEnd_ro ?_ (hKK _ _ _ ?_); (focus (simp; done)); clear htab tab hKK KK; simp only [thenA, blockA, reduceIte]) | (refine dEnd_of ?_ (hKK _ _ _ ?_); (focus (simp only [List.reverse_cons, List.reverse_nil, List.nil_append, List.cons_append, memA, mem1, and_true, true_and]; (repeat' apply And.intro); (all_goals (first | trivial | (refine .inr ⟨?_, ?_⟩ <;> (simp; done)) | (refine .inr ⟨?_, ?_⟩ <;> (simp <;> omega)) | (refine .inl ?_; rw [htab]; kernel_rfl))); done)); clear htab tab hKK KK; simp only [thenA, blockA, reduceIte]) | skip)
          | (refine AWP.if_t ?_ ?_; focus (simp (disch := omega) []; done))
          | (refine AWP.if_f ?_ ?_; focus (simp (disch := omega) []; done)))
        refine ⟨by simp, _, rfl, fin0 ⟨?_, rfl⟩ (by simp [resO, get, nms, nmss]; try (simp [nms, nmss] at hn; simp_all))⟩
        simp [resO, get, ren, rens, hne]
    · have hk' : k = ds.length := by omega
      have e := take_all hk' hl ht
      subst e
      subst hk'
      repeat' (first
        | refine AWP.seq ?_
        | refine AWP.block ?_
        | (refine AWP.skip ?_; simp only [thenA, blockA, reduceIte])
        | (refine AWP.exit ?_; simp only [thenA, blockA, eq_self, reduceIte, Nat.reduceEqDiff, Nat.succ_ne_zero])
        | (refine AWP.ret ?_; simp only [thenA, blockA, reduceIte])
        | (refine AWP.region (by rfl) (fun KK hKK => ?_); (repeat (simp (disch := omega) [])); first | (refine hKK _ _ _ ?_; clear hKK KK; simp only [thenA, blockA, reduceIte]) | skip)
        | (refine AWP.draw' mixd (by rfl) (by kernel_rfl) (fun KK tab hKK htab => ?_); (repeat (simp (disch := omega) [])); first | (refine dEnd_ro ?_ (hKK _ _ _ ?_); (focus (simp; done)); clear htab tab hKK KK; simp only [thenA, blockA, reduceIte]) | (refine dEnd_of ?_ (hKK _ _ _ ?_); (focus (simp only [List.reverse_cons, List.reverse_nil, List.nil_append, List.cons_append, memA, mem1, and_true, true_and]; (repeat' apply And.intro); (all_goals (first | trivial | (refine .inr ⟨?_, ?_⟩ <;> (simp; done)) | (refine .inr ⟨?_, ?_⟩ <;> (simp <;> omega)) | (refine .inl ?_; rw [htab]; kernel_rfl))); done)); clear htab tab hKK KK; simp only [thenA, blockA, reduceIte]) | skip)
        | (refine AWP.if_t ?_ ?_; focus (simp (disch := omega) []; done))
        | (refine AWP.if_f ?_ ?_; focus (simp (disch := omega) []; done)))
      refine ⟨by simp, _, rfl, fin0 ⟨?_, rfl⟩ (by simp [resO, get, nms, nmss]; try (simp [nms, nmss] at hn; simp_all))⟩
      simp [resO, get, ren, rens]
  · have hli : ¬ (ds.length : Int) = es.length := by omega
    have hne : ds ≠ es := fun e => hl (by rw [e])
    repeat' (first
      | refine AWP.seq ?_
      | refine AWP.block ?_
      | (refine AWP.skip ?_; simp only [thenA, blockA, reduceIte])
      | (refine AWP.exit ?_; simp only [thenA, blockA, eq_self, reduceIte, Nat.reduceEqDiff, Nat.succ_ne_zero])
      | (refine AWP.ret ?_; simp only [thenA, blockA, reduceIte])
      | (refine AWP.region (by rfl) (fun KK hKK => ?_); (repeat (simp (disch := omega) [hli])); first | (refine hKK _ _ _ ?_; clear hKK KK; simp only [thenA, blockA, reduceIte]) | skip)
      | (refine AWP.draw' mixd (by rfl) (by kernel_rfl) (fun KK tab hKK htab => ?_); (repeat (simp (disch := omega) [hli])); first | (refine dEnd_ro ?_ (hKK _ _ _ ?_); (focus (simp; done)); clear htab tab hKK KK; simp only [thenA, blockA, reduceIte]) | (refine dEnd_of ?_ (hKK _ _ _ ?_); (focus (simp only [List.reverse_cons, List.reverse_nil, List.nil_append, List.cons_append, memA, mem1, and_true, true_and]; (repeat' apply And.intro); (all_goals (first | trivial | (refine .inr ⟨?_, ?_⟩ <;> (simp; done)) | (refine .inr ⟨?_, ?_⟩ <;> (simp <;> omega)) | (refine .inl ?_; rw [htab]; kernel_rfl))); done)); clear htab tab hKK KK; simp only [thenA, blockA, reduceIte]) | skip)
      | (refine AWP.if_t ?_ ?_; focus (simp (disch := omega) [hli]; done))
      | (refine AWP.if_f ?_ ?_; focus (simp (disch := omega) [hli]; done)))
    refine ⟨by simp, _, rfl, fin0 ⟨?_, rfl⟩ (by simp [resO, get, nms, nmss]; try (simp [nms, nmss] at hn; simp_all))⟩
    simp [resO, get, ren, rens, hne]
end Go.Proofs.Ytbdehnjbglpfjaa
