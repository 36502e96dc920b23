/- Contracts: enumerations whose values are made of ranks. No condition but sizes. -/
import Derived.Test.YtbdehnjbglpfjaaT1
import Derived.Test.YtbdehnjbglpfjaaLC
import Derived.Test.YtbdehnjbglpfjaaPM
set_option linter.unusedSimpArgs false
set_option linter.unusedVariables false
namespace Go.Proofs.Ytbdehnjbglpfjaa
open Go Go.RowKit

/-- The first elements of a list, ahead of the rest of another one. -/
def mixD (A B : List Df) (k : Nat) : List (List AV) := rowsD (A.take k ++ B.drop k)
theorem mixD_at {A B : List Df} {k : Nat} (hl : A.length = B.length) (h : k < B.length) : (mixD A B k)[k]? = some [.v (.string B[k].1), .v (.int .i64 B[k].2)] := by
  unfold mixD rowsD
  have e : (A.take k).length = k := by simp; omega
  rw [List.getElem?_map, List.getElem?_append_right (by omega), e]
  simp [rowD, List.getElem?_eq_getElem h]
theorem mixD_set {A B : List Df} {k : Nat} (hl : A.length = B.length) (h : k < B.length) : (mixD A B k).set k [.v (.string (A[k]'(by omega)).1), .v (.int .i64 (A[k]'(by omega)).2)] = mixD A B (k + 1) := by
  unfold mixD rowsD
  have e : (A.take k).length = k := by simp; omega
  rw [List.take_succ_eq_append_getElem (by omega), List.drop_eq_getElem_cons h, List.map_append, List.set_append_right _ _ (by simp; omega)]
  simp only [List.length_map, e, Nat.sub_self, List.map_cons, List.set_cons_zero, List.map_append, List.append_assoc, List.cons_append, List.nil_append, List.map_nil, rowD]
theorem mixD_flat (A B : List Df) (k : Nat) : flatB ⟨133, 2, mixD A B k, true⟩ := flatD _
theorem mixD_len {A B : List Df} (k : Nat) (hl : A.length = B.length) (h : k ≤ B.length) : (mixD A B k).length = B.length := by simp [mixD, rowsD_len]; omega
theorem mixD_all {A B : List Df} (hl : A.length = B.length) : mixD A B B.length = rowsD A := by
  unfold mixD
  rw [← hl, List.take_length, hl, List.drop_length, List.append_nil]
theorem mixD_zero (A B : List Df) : mixD A B 0 = rowsD B := by simp [mixD]

/-- Each name with what a function makes of its rank. -/
def rkD (g : Int → Int) (ds : List Df) : List Df := ds.map fun d => (d.1, g (rkO ds d.1))
theorem rkD_len (g : Int → Int) (ds : List Df) : (rkD g ds).length = ds.length := by simp [rkD]
theorem rkD_at (g : Int → Int) (ds : List Df) (k : Nat) (h : k < ds.length) : (rkD g ds)[k]'(by rw [rkD_len]; exact h) = (ds[k].1, g (rkO ds ds[k].1)) := by simp [rkD]
theorem rk_name {ds : List Df} (hok : okDs (-1000) 1000 ds = true) {k : Nat} (h : k < ds.length) : rkO ds ds[k].1 = valueIx (memF ds) ds[k].2 ∧ 0 ≤ rkO ds ds[k].1 ∧ rkO ds ds[k].1 < (memF ds).length := by
  have hv := valO_yes hok h (name_at hok h)
  obtain ⟨r, hr, e, e2, _⟩ := rk_some hv
  refine ⟨by rw [e, e2], by omega, by omega⟩

set_option maxRecDepth 10000 in
set_option maxHeartbeats 2000000 in
theorem ranked_c (σ : Sto) (ν : Nat) (x : AV) (f : FuncId) (caps : List AV) (ds : List Df) (g : Int → Int) (hx : Sl σ x 2 (rowsD ds)) (hlen : ds.length ≤ 4294967296) (hsz : ∀ d ∈ ds, d.1.size ≤ 9223372036854775807) (hok : okDs (-1000) 1000 ds = true)
    (hcl : ∀ s, Vw σ s → ∀ ν, ∀ r : Int, 0 ≤ r → r < (memF ds).length → AC Try.prog f (.v (.int .i64 r) :: caps) s ν fun q δ => q = .v (.int .i64 (g r)) ∧ δ = noS) :
    AC Try.prog 110 [.agg [x], .fn f caps] σ ν fun r δ => r = .sl ν 0 ds.length (some ds.length) 2 ∧ δ = upd noS ν (blkD (rkD g ds)) := by
  obtain ⟨b, o, cap, z, rfl⟩ := hx.out
  simp only [rowsD_len] at hx ⊢
  refine AC.intro [] ent_110 Try.func110 rfl (by simp [Try.f110]) (by simp) ?_
  intro K s hs hB hn hν hA hFr
  simp only [argT, Nat.zero_add, Nat.reduceAdd]
  have hx' := hx.vw hs.vw
  have hbK : b < K := hA b (by simp [nmAs, nmA])
  have hgl := rkD_len g ds
  repeat' (first
    | refine AWP.seq ?_
    | refine AWP.block ?_
    | (refine AWP.skip ?_; simp only [thenA, blockA, reduceIte])
    | (refine AWP.exit ?_; simp only [thenA, blockA, eq_self, reduceIte, Nat.reduceEqDiff, Nat.succ_ne_zero])
    | (refine AWP.ret ?_; simp only [thenA, blockA, reduceIte])
    | (refine AWP.region (by rfl) (fun KK hKK => ?_); (repeat (simp (disch := omega) [])); first | (refine hKK _ _ _ ?_; clear hKK KK; simp only [thenA, blockA, reduceIte]) | skip)
    | (refine AWP.if_t ?_ ?_; focus (simp (disch := omega) []; done))
    | (refine AWP.if_f ?_ ?_; focus (simp (disch := omega) []; done)))
  refine aStop_of (clone_c _ _ _ ds (hx'.vw ((Vw.refl _).over (by repeat (first | exact Over.refl _ | exact hov | refine Over.upd ?_ hB (by omega) | refine Over.del ?_ hB (by omega))))) hlen) ?_
  rintro r δ ⟨rfl, rfl⟩
  (repeat (simp (disch := omega) []))
  first | (refine hKK _ _ _ ?_; clear hKK KK; simp only [thenA, blockA, reduceIte]) | skip
  repeat' (first
    | refine AWP.seq ?_
    | refine AWP.block ?_
    | (refine AWP.skip ?_; simp only [thenA, blockA, reduceIte])
    | (refine AWP.exit ?_; simp only [thenA, blockA, eq_self, reduceIte, Nat.reduceEqDiff, Nat.succ_ne_zero])
    | (refine AWP.ret ?_; simp only [thenA, blockA, reduceIte])
    | (refine AWP.region (by rfl) (fun KK hKK => ?_); (repeat (simp (disch := omega) [])); first | (refine hKK _ _ _ ?_; clear hKK KK; simp only [thenA, blockA, reduceIte]) | skip)
    | (refine AWP.if_t ?_ ?_; focus (simp (disch := omega) []; done))
    | (refine AWP.if_f ?_ ?_; focus (simp (disch := omega) []; done)))
  refine AWP.loop (fun n τ σ' M => ∃ k : Nat, k ≤ ds.length ∧ n = ds.length - k ∧ τ = [(1, .fn f caps), (2, .ptr K 0 0), (5, .sl (K + 1) 0 ds.length (some ds.length) 2), (11, .sl (K + 1) 0 ds.length (some ds.length) 2), (12, .v (.int .i64 ds.length)), (13, .v (.int .i64 k))] ∧ σ' K = some (blkE (.sl b o ds.length cap z)) ∧ σ' (K + 1) = some ⟨133, 2, mixD (rkD g ds) ds k, true⟩ ∧ K + 1 < M ∧ Over s σ')
    ⟨_, _, _, _, ⟨0, by omega, rfl, rfl, by simp (disch := omega) only [upd_eq, upd_ne], by simp (disch := omega) only [upd_eq, upd_ne, mixD_zero], by omega, (by repeat (first | exact Over.refl _ | exact hov | refine Over.upd ?_ hB (by omega) | refine Over.del ?_ hB (by omega)))⟩, Weak.tau (by simp [LQ])⟩ ?_
  rintro n τ σ' M ⟨k, hk, rfl, rfl, hb0, hb1, hM, hov⟩
  by_cases hlt : k < ds.length
  · have hat := mixD_at (A := rkD g ds) (B := ds) hgl hlt
    have hset := mixD_set (A := rkD g ds) (B := ds) hgl hlt
    rw [rkD_at g ds k hlt] at hset
    obtain ⟨_, r0, r1⟩ := rk_name hok hlt
    repeat' (first
      | refine AWP.seq ?_
      | refine AWP.block ?_
      | (refine AWP.skip ?_; simp only [thenA, blockA, reduceIte])
      | (refine AWP.exit ?_; simp only [thenA, blockA, eq_self, reduceIte, Nat.reduceEqDiff, Nat.succ_ne_zero])
      | (refine AWP.ret ?_; simp only [thenA, blockA, reduceIte])
      | (refine AWP.region (by rfl) (fun KK hKK => ?_); (repeat (simp (disch := omega) [hlt, hb0, hb1, hat])); first | (refine hKK _ _ _ ?_; clear hKK KK; simp only [thenA, blockA, reduceIte]) | skip)
      | (refine AWP.if_t ?_ ?_; focus (simp (disch := omega) [hlt, hb0, hb1, hat]; done))
      | (refine AWP.if_f ?_ ?_; focus (simp (disch := omega) [hlt, hb0, hb1, hat]; done)))
    refine aStop_of (rankOf_c _ _ _ ds _ (hx'.vw ((Vw.refl _).over (by repeat (first | exact Over.refl _ | exact hov | refine Over.upd ?_ hB (by omega) | refine Over.del ?_ hB (by omega))))) hlen hsz) ?_
    rintro r δ ⟨rfl, rfl⟩
    (repeat (simp (disch := omega) []))
    first | (refine hKK _ _ _ ?_; clear hKK KK; simp only [thenA, blockA, reduceIte]) | skip
    refine aStop_of (hcl _ (hs.vw.over (by repeat (first | exact Over.refl _ | exact hov | refine Over.upd ?_ hB (by omega) | refine Over.del ?_ hB (by omega)))) _ _ r0 r1) ?_
    rintro r δ ⟨rfl, rfl⟩
    (repeat (simp (disch := omega) [hlt, hb1, hat, hset]))
    first | (refine hKK _ _ _ ?_; clear hKK KK; simp only [thenA, blockA, reduceIte]) | skip
    repeat' (first
      | refine AWP.seq ?_
      | refine AWP.block ?_
      | (refine AWP.skip ?_; simp only [thenA, blockA, reduceIte])
      | (refine AWP.exit ?_; simp only [thenA, blockA, eq_self, reduceIte, Nat.reduceEqDiff, Nat.succ_ne_zero])
      | (refine AWP.ret ?_; simp only [thenA, blockA, reduceIte])
      | (refine AWP.region (by rfl) (fun KK hKK => ?_); (repeat (simp (disch := omega) [])); first | (refine hKK _ _ _ ?_; clear hKK KK; simp only [thenA, blockA, reduceIte]) | skip)
      | (refine AWP.if_t ?_ ?_; focus (simp (disch := omega) []; done))
      | (refine AWP.if_f ?_ ?_; focus (simp (disch := omega) []; done)))
    refine ⟨_, _, _, _, ?_, ⟨k + 1, by omega, rfl, rfl, by simp (disch := omega) only [upd_eq, upd_ne, hb0], by simp (disch := omega) only [upd_eq, upd_ne], by omega, (by repeat (first | exact Over.refl _ | exact hov | refine Over.upd ?_ hB (by omega) | refine Over.del ?_ hB (by omega)))⟩, Weak.tau (by simp [LQ])⟩
    omega
  · have hk' : k = ds.length := by omega
    subst hk'
    rw [mixD_all hgl] at hb1
    repeat' (first
      | refine AWP.seq ?_
      | refine AWP.block ?_
      | (refine AWP.skip ?_; simp only [thenA, blockA, reduceIte])
      | (refine AWP.exit ?_; simp only [thenA, blockA, eq_self, reduceIte, Nat.reduceEqDiff, Nat.succ_ne_zero])
      | (refine AWP.ret ?_; simp only [thenA, blockA, reduceIte])
      | (refine AWP.region (by rfl) (fun KK hKK => ?_); (repeat (simp (disch := omega) [hlt])); first | (refine hKK _ _ _ ?_; clear hKK KK; simp only [thenA, blockA, reduceIte]) | skip)
      | (refine AWP.if_t ?_ ?_; focus (simp (disch := omega) [hlt]; done))
      | (refine AWP.if_f ?_ ?_; focus (simp (disch := omega) [hlt]; done)))
    refine ⟨by simp, _, rfl, fin1 (K + 1) (blkD (rkD g ds)) (by simp (disch := omega) only [upd_eq, upd_ne, hb1]) rfl (flatD _) ⟨by simp [resO, get, ren, rho], rfl⟩ (by omega) (by simp [resO, get, nms])⟩

def rnO (ds : List Df) : Option (List Df) := if okDs (-1000) 1000 ds = true then some (rkD (fun r => r) ds) else none
theorem rkD_snoc {ds : List Df} (g : Int → Int) {k : Nat} (h : k < ds.length) : (rkD g ds).take (k + 1) = (rkD g ds).take k ++ [(ds[k].1, g (rkO ds ds[k].1))] := by
  rw [List.take_succ_eq_append_getElem (by rw [rkD_len]; exact h), rkD_at g ds k h]
end Go.Proofs.Ytbdehnjbglpfjaa
