/- Contracts of the exact laws' helpers: lists from the laws' types to the program's. No condition. -/
import Derived.Test.YthjjfdbkggiaeaaC10
set_option linter.unusedSimpArgs false
set_option linter.unusedVariables false
namespace Go.Proofs.Ythjjfdbkggiaeaa
open Go Go.RowKit

abbrev zeroD : List AV := [.v (.string ByteArray.empty), .v (.int .i64 0)]
def fillD (ds : List Df) (k : Nat) : List (List AV) := rowsD (ds.take k) ++ List.replicate (ds.length - k) zeroD
theorem fillD_at (ds : List Df) (k : Nat) (h : k < ds.length) : (fillD ds k)[k]? = some zeroD := by
  unfold fillD
  rw [List.getElem?_append_right (by simp [rowsD]; omega)]
  rw [List.getElem?_replicate, if_pos (by simp [rowsD]; omega)]
theorem fillD_set (ds : List Df) (k : Nat) (h : k < ds.length) : (fillD ds k).set k [.v (.string ds[k].1), .v (.int .i64 ds[k].2)] = fillD ds (k + 1) := by
  unfold fillD
  rw [List.set_append_right _ _ (by simp [rowsD]; omega)]
  have e : ds.length - k = (ds.length - (k + 1)) + 1 := by omega
  have e2 : k - (rowsD (ds.take k)).length = 0 := by simp [rowsD]; omega
  rw [e2, e, List.replicate_succ, List.set_cons_zero]
  rw [List.take_succ_eq_append_getElem h]
  simp only [rowsD, List.map_append, List.map_cons, List.map_nil, List.append_assoc, List.cons_append, List.nil_append, rowD]
theorem fillD_flat (ds : List Df) (k t : Nat) : flatB ⟨t, 2, fillD ds k, true⟩ := by
  intro e he v hv
  simp only [fillD] at he
  rcases List.mem_append.1 he with he | he
  · exact flatD _ e he v hv
  · rw [(List.mem_replicate.1 he).2] at hv
    simp at hv
    rcases hv with rfl | rfl <;> rfl

set_option maxRecDepth 10000 in
set_option maxHeartbeats 1000000 in
theorem toDefS_c (σ : Sto) (ν : Nat) (x : AV) (ds : List Df) (hx : Sl σ x 2 (rowsD ds)) (hlen : ds.length ≤ 4294967296) :
    AC Try.prog 75 [x] σ ν fun r δ => r = .sl ν 0 ds.length (some ds.length) 2 ∧ δ = upd noS ν (blkD ds) := by
  obtain ⟨b, o, cap, z, rfl⟩ := hx.out
  simp only [rowsD_len] at hx ⊢
  refine AC.intro [] ent_75 Try.func75 rfl (by simp [Try.f75]) (by simp) ?_
  intro K s hs hB hn hν hA hFr
  simp only [argT, Nat.zero_add, Nat.reduceAdd]
  have hx' := hx.vw hs.vw
  have hbK : b < K := hA b (by simp [nmAs, nmA])
  have hb1 : ¬ b = K := by omega
  have hbig : 24 * ds.length ≤ 140737488355328 := by omega
  have hbig2 : ds.length ≤ 4611686018427387904 := by omega
  repeat' (first
    | refine AWP.seq ?_
    | refine AWP.block ?_
    | (refine AWP.skip ?_; simp only [thenA, blockA, reduceIte])
    | (refine AWP.exit ?_; simp only [thenA, blockA, eq_self, reduceIte, Nat.reduceEqDiff, Nat.succ_ne_zero])
    | (refine AWP.ret ?_; simp only [thenA, blockA, reduceIte])
    | (refine AWP.region (by rfl) (fun KK hKK => ?_); (repeat (simp (disch := omega) [hbig, hbig2])); first | (refine hKK _ _ _ ?_; clear hKK KK; simp only [thenA, blockA, reduceIte]) | skip)
    | (refine AWP.if_t ?_ ?_; focus (simp (disch := omega) [hbig, hbig2]; done))
    | (refine AWP.if_f ?_ ?_; focus (simp (disch := omega) [hbig, hbig2]; done)))
  refine AWP.loop (fun n τ σ' M => ∃ k : Nat, k ≤ ds.length ∧ n = ds.length - k ∧ τ = [(0, .sl b o ds.length cap z), (3, .sl K 0 ds.length (some ds.length) 2), (4, .v (.int .i64 k))] ∧ σ' = upd s K ⟨33, 2, fillD ds k, true⟩ ∧ M = K + 1) ⟨_, _, _, _, ⟨0, by omega, rfl, rfl, rfl, rfl⟩, Weak.keep (c := K) (k0 := ⟨33, 2, List.replicate ds.length zeroD, true⟩) hB (by repeat (first | exact Over.refl _ | exact hov | refine Over.upd ?_ hB (by omega) | refine Over.del ?_ hB (by omega))) (by simp) (by simp [fillD, rowsD]) (fillD_flat ds 0 _) (.inl rfl) (by simp [LeT, ren, swl, nms, hb1]; omega)⟩ ?_
  rintro n τ σ' M ⟨k, hk, rfl, rfl, rfl, rfl⟩
  by_cases hlt : k < ds.length
  · obtain ⟨_, rfl, kb, hkb, hat⟩ := hx'.at (i := k) (by rw [rowsD_len]; exact hlt)
    have hrow : (rowsD ds)[k]'(by rw [rowsD_len]; exact hlt) = [.v (.string ds[k].1), .v (.int .i64 ds[k].2)] := by simp [rowsD, rowD]
    rw [hrow] at hat
    have hz := fillD_at ds k hlt
    have hset := fillD_set ds k hlt
    repeat' (first
      | refine AWP.seq ?_
      | refine AWP.block ?_
      | (refine AWP.skip ?_; simp only [thenA, blockA, reduceIte])
      | (refine AWP.exit ?_; simp only [thenA, blockA, eq_self, reduceIte, Nat.reduceEqDiff, Nat.succ_ne_zero])
      | (refine AWP.ret ?_; simp only [thenA, blockA, reduceIte])
      | (refine AWP.region (by rfl) (fun KK hKK => ?_); (repeat (simp (disch := omega) [hlt, hkb, hat])); first | (refine hKK _ _ _ ?_; clear hKK KK; simp only [thenA, blockA, reduceIte]) | skip)
      | (refine AWP.if_t ?_ ?_; focus (simp (disch := omega) [hlt, hkb, hat]; done))
      | (refine AWP.if_f ?_ ?_; focus (simp (disch := omega) [hlt, hkb, hat]; done)))
    refine aStop_of (toDef_c _ _ _ _) ?_
    rintro r δ ⟨rfl, rfl⟩
    (repeat (simp (disch := omega) [hlt, hz, hset]))
    first | (refine hKK _ _ _ ?_; clear hKK KK; simp only [thenA, blockA, reduceIte]) | skip
    repeat' (first
      | refine AWP.seq ?_
      | refine AWP.block ?_
      | (refine AWP.skip ?_; simp only [thenA, blockA, reduceIte])
      | (refine AWP.exit ?_; simp only [thenA, blockA, eq_self, reduceIte, Nat.reduceEqDiff, Nat.succ_ne_zero])
      | (refine AWP.ret ?_; simp only [thenA, blockA, reduceIte])
      | (refine AWP.region (by rfl) (fun KK hKK => ?_); (repeat (simp (disch := omega) [])); first | (refine hKK _ _ _ ?_; clear hKK KK; simp only [thenA, blockA, reduceIte]) | skip)
      | (refine AWP.if_t ?_ ?_; focus (simp (disch := omega) []; done))
      | (refine AWP.if_f ?_ ?_; focus (simp (disch := omega) []; done)))
    refine ⟨_, _, _, _, ?_, ⟨k + 1, by omega, rfl, rfl, rfl, rfl⟩, Weak.keep (c := K) hB (by repeat (first | exact Over.refl _ | exact hov | refine Over.upd ?_ hB (by omega) | refine Over.del ?_ hB (by omega))) (upd_eq _ _ _) rfl (fillD_flat ds (k + 1) _) (.inl rfl) (by simp [LeT, ren, swl, nms, hb1]; omega)⟩
    omega
  · have hk' : k = ds.length := by omega
    subst hk'
    repeat' (first
      | refine AWP.seq ?_
      | refine AWP.block ?_
      | (refine AWP.skip ?_; simp only [thenA, blockA, reduceIte])
      | (refine AWP.exit ?_; simp only [thenA, blockA, eq_self, reduceIte, Nat.reduceEqDiff, Nat.succ_ne_zero])
      | (refine AWP.ret ?_; simp only [thenA, blockA, reduceIte])
      | (refine AWP.region (by rfl) (fun KK hKK => ?_); (repeat (simp (disch := omega) [])); first | (refine hKK _ _ _ ?_; clear hKK KK; simp only [thenA, blockA, reduceIte]) | skip)
      | (refine AWP.if_t ?_ ?_; focus (simp (disch := omega) []; done))
      | (refine AWP.if_f ?_ ?_; focus (simp (disch := omega) []; done)))
    refine ⟨by simp, _, rfl, fin1 (K) (blkD ds) (by simp (disch := omega) [fillD]) rfl (flatD ds) ⟨?_, rfl⟩ (by omega) (by simp [resO, get, nms, nmss])⟩
    simp [resO, get, ren, rens, rho, fillD]
end Go.Proofs.Ythjjfdbkggiaeaa
