/- Contracts of the exact laws' helpers: marks. No condition. -/
import Derived.Test.YthjjfdbkggiaeaaC11
set_option linter.unusedSimpArgs false
set_option linter.unusedVariables false
namespace Go.Proofs.Ythjjfdbkggiaeaa
open Go Go.RowKit

set_option maxRecDepth 10000 in
set_option maxHeartbeats 400000 in
theorem toEnum_c (σ : Sto) (ν : Nat) (x : AV) (ds : List Df) (hx : Sl σ x 2 (rowsD ds)) (hlen : ds.length ≤ 4294967296) :
    AC Try.prog 23 [.agg [x]] σ ν fun r δ => r = .agg [.sl ν 0 ds.length (some ds.length) 2] ∧ δ = upd noS ν (blkD ds) := by
  obtain ⟨b, o, cap, z, rfl⟩ := hx.out
  refine AC.intro [] ent_23 Try.func23 rfl (by simp [Try.f23]) (by simp) ?_
  intro K s hs hB hn hν hA hFr
  simp only [argT, Nat.zero_add, Nat.reduceAdd]
  have hx' := hx.vw hs.vw
  repeat' (first
    | refine AWP.seq ?_
    | refine AWP.block ?_
    | (refine AWP.skip ?_; simp only [thenA, blockA, reduceIte])
    | (refine AWP.exit ?_; simp only [thenA, blockA, eq_self, reduceIte, Nat.reduceEqDiff, Nat.succ_ne_zero])
    | (refine AWP.ret ?_; simp only [thenA, blockA, reduceIte])
    | (refine AWP.region (by rfl) (fun KK hKK => ?_); (repeat (simp (disch := omega) [])); first | (refine hKK _ _ _ ?_; clear hKK KK; simp only [thenA, blockA, reduceIte]) | skip)
    | (refine AWP.if_t ?_ ?_; focus (simp (disch := omega) []; done))
    | (refine AWP.if_f ?_ ?_; focus (simp (disch := omega) []; done)))
  refine aStop_of (toDefS_c _ _ _ ds (hx'.vw ((Vw.refl _).over (by repeat (first | exact Over.refl _ | exact hov | refine Over.upd ?_ hB (by omega) | refine Over.del ?_ hB (by omega))))) hlen) ?_
  rintro r δ ⟨rfl, rfl⟩
  (repeat (simp (disch := omega) []))
  first | (refine hKK _ _ _ ?_; clear hKK KK; simp only [thenA, blockA, reduceIte]) | skip
  repeat' (first
    | refine AWP.seq ?_
    | refine AWP.block ?_
    | (refine AWP.skip ?_; simp only [thenA, blockA, reduceIte])
    | (refine AWP.exit ?_; simp only [thenA, blockA, eq_self, reduceIte, Nat.reduceEqDiff, Nat.succ_ne_zero])
    | (refine AWP.ret ?_; simp only [thenA, blockA, reduceIte])
    | (refine AWP.region (by rfl) (fun KK hKK => ?_); (repeat (simp (disch := omega) [])); first | (refine hKK _ _ _ ?_; clear hKK KK; simp only [thenA, blockA, reduceIte]) | skip)
    | (refine AWP.if_t ?_ ?_; focus (simp (disch := omega) []; done))
    | (refine AWP.if_f ?_ ?_; focus (simp (disch := omega) []; done)))
  refine ⟨by simp, ?_⟩
  have hres : Try.f23.results.toList = [.cell 2 25] := rfl
  rw [hres]
  simp (disch := omega) []
  refine fin1 (K + 1 + 1 + 1) (blkD ds) (by simp (disch := omega)) rfl (flatD _) ⟨?_, rfl⟩ (by omega) (by simp [resO, nms, nmss])
  simp [resO, ren, rens, rho]

/-- One digit; the digits of a number, ahead of what is there. -/
def dg (m : Int) : ByteArray := strOf [IntKind.u8.wrap (IntKind.i64.wrap (48 + m.tmod 10))]
theorem dg_size (m : Int) : (dg m).size = 1 := rfl
def mD : Nat → Int → ByteArray → ByteArray
  | 0, _, out => out
  | f + 1, m, out => if 0 < m then mD f (m.tdiv 10) (dg m ++ out) else out
def mT (k : Int) : ByteArray := if k ≤ 0 then ⟨#[109, 48]⟩ else ⟨#[109]⟩ ++ mD 20 k ⟨#[]⟩

set_option maxRecDepth 10000 in
set_option maxHeartbeats 400000 in
theorem markText_c (σ : Sto) (ν : Nat) (k : Int) (hk : k ≤ 9223372036854775807) : AC Try.prog 102 [.v (.int .i64 k)] σ ν fun r δ => r = .v (.string (mT k)) ∧ δ = noS := by
  refine AC.intro [] ent_102 Try.func102 rfl (by simp [Try.f102]) (by simp) ?_
  intro K s hs hB hn hν hA hFr
  simp only [argT, Nat.zero_add, Nat.reduceAdd]
  by_cases h0 : k ≤ 0
  · repeat' (first
      | refine AWP.seq ?_
      | refine AWP.block ?_
      | (refine AWP.skip ?_; simp only [thenA, blockA, reduceIte])
      | (refine AWP.exit ?_; simp only [thenA, blockA, eq_self, reduceIte, Nat.reduceEqDiff, Nat.succ_ne_zero])
      | (refine AWP.ret ?_; simp only [thenA, blockA, reduceIte])
      | (refine AWP.region (by rfl) (fun KK hKK => ?_); (repeat (simp (disch := omega) [h0])); first | (refine hKK _ _ _ ?_; clear hKK KK; simp only [thenA, blockA, reduceIte]) | skip)
      | (refine AWP.if_t ?_ ?_; focus (simp (disch := omega) [h0]; done))
      | (refine AWP.if_f ?_ ?_; focus (simp (disch := omega) [h0]; done)))
    refine ⟨by simp, _, rfl, fin0 ⟨?_, rfl⟩ (by simp [resO, get, nms, nmss]; try (simp [nms, nmss] at hn; simp_all))⟩
    simp [resO, get, ren, rens, mT, h0]
  · repeat' (first
      | refine AWP.seq ?_
      | refine AWP.block ?_
      | (refine AWP.skip ?_; simp only [thenA, blockA, reduceIte])
      | (refine AWP.exit ?_; simp only [thenA, blockA, eq_self, reduceIte, Nat.reduceEqDiff, Nat.succ_ne_zero])
      | (refine AWP.ret ?_; simp only [thenA, blockA, reduceIte])
      | (refine AWP.region (by rfl) (fun KK hKK => ?_); (repeat (simp (disch := omega) [h0])); first | (refine hKK _ _ _ ?_; clear hKK KK; simp only [thenA, blockA, reduceIte]) | skip)
      | (refine AWP.if_t ?_ ?_; focus (simp (disch := omega) [h0]; done))
      | (refine AWP.if_f ?_ ?_; focus (simp (disch := omega) [h0]; done)))
    refine AWP.loop (fun n τ σ' M => ∃ (m : Int) (out : ByteArray) (f : Nat), 0 ≤ m ∧ m ≤ 9223372036854775807 ∧ m < 10 ^ f ∧ f + out.size ≤ 20 ∧ mD f m out = mD 20 k ⟨#[]⟩ ∧ n = m.toNat ∧ τ = [(0, .v (.int .i64 m)), (3, .v (.string out))] ∧ σ' = s ∧ M = K) ⟨_, _, _, _, ⟨k, ⟨#[]⟩, 20, by omega, hk, by omega, by decide, rfl, rfl, rfl, rfl, rfl⟩, (Weak.base hB (by repeat (first | exact Over.refl _ | exact hov | refine Over.upd ?_ hB (by omega) | refine Over.del ?_ hB (by omega))) (by simp [LT, get, nms, nmss]; try (simp [nms, nmss] at hn; simp_all)))⟩ ?_
    rintro n τ σ' M ⟨m, out, f, hm, hmb, hmf, hof, hmd, rfl, rfl, rfl, rfl⟩
    by_cases h1 : 0 < m
    · obtain ⟨f, rfl⟩ : ∃ g, f = g + 1 := by
        cases f with
        | zero => exact absurd hmf (by simp; omega)
        | succ g => exact ⟨g, rfl⟩
      simp only [mD, if_pos h1] at hmd
      have e : strOf [IntKind.u8.wrap (IntKind.i64.wrap (48 + m.tmod 10))] = dg m := rfl
      have hs1 : (dg m).size + out.size ≤ 9223372036854775807 := by rw [dg_size]; omega
      have hs2 : (dg m ++ out).size = 1 + out.size := by rw [ByteArray.size_append, dg_size]
      have hdiv : m.tdiv 10 = m / 10 := Int.tdiv_eq_ediv_of_nonneg hm
      have hw : IntKind.i64.wrap (m.tdiv 10) = m.tdiv 10 := w64 _ (by rw [hdiv]; omega) (by rw [hdiv]; omega)
      repeat' (first
        | refine AWP.seq ?_
        | refine AWP.block ?_
        | (refine AWP.skip ?_; simp only [thenA, blockA, reduceIte])
        | (refine AWP.exit ?_; simp only [thenA, blockA, eq_self, reduceIte, Nat.reduceEqDiff, Nat.succ_ne_zero])
        | (refine AWP.ret ?_; simp only [thenA, blockA, reduceIte])
        | (refine AWP.region (by rfl) (fun KK hKK => ?_); (repeat (simp (disch := omega) [h1, elems, e, hs1, hw])); first | (refine hKK _ _ _ ?_; clear hKK KK; simp only [thenA, blockA, reduceIte]) | skip)
        | (refine AWP.if_t ?_ ?_; focus (simp (disch := omega) [h1, elems, e, hs1, hw]; done))
        | (refine AWP.if_f ?_ ?_; focus (simp (disch := omega) [h1, elems, e, hs1, hw]; done)))
      refine ⟨_, _, _, _, ?_, ⟨m.tdiv 10, dg m ++ out, f, by rw [hdiv]; omega, by rw [hdiv]; omega, by rw [hdiv]; rw [Int.pow_succ] at hmf; omega, by omega, hmd, rfl, rfl, rfl, rfl⟩, Weak.base hB (by repeat (first | exact Over.refl _ | exact hov | refine Over.upd ?_ hB (by omega) | refine Over.del ?_ hB (by omega))) (by simp [LT, get, nms])⟩
      rw [hdiv]; omega
    · have hm0 : m = 0 := by omega
      subst hm0
      have hout : out = mD 20 k ⟨#[]⟩ := by
        rw [← hmd]
        cases f <;> simp [mD]
      have hs3 : (⟨#[109]⟩ : ByteArray).size + out.size ≤ 9223372036854775807 := by show 1 + _ ≤ _; omega
      repeat' (first
        | refine AWP.seq ?_
        | refine AWP.block ?_
        | (refine AWP.skip ?_; simp only [thenA, blockA, reduceIte])
        | (refine AWP.exit ?_; simp only [thenA, blockA, eq_self, reduceIte, Nat.reduceEqDiff, Nat.succ_ne_zero])
        | (refine AWP.ret ?_; simp only [thenA, blockA, reduceIte])
        | (refine AWP.region (by rfl) (fun KK hKK => ?_); (repeat (simp (disch := omega) [hs3])); first | (refine hKK _ _ _ ?_; clear hKK KK; simp only [thenA, blockA, reduceIte]) | skip)
        | (refine AWP.if_t ?_ ?_; focus (simp (disch := omega) [hs3]; done))
        | (refine AWP.if_f ?_ ?_; focus (simp (disch := omega) [hs3]; done)))
      refine ⟨by simp, _, rfl, fin0 ⟨?_, rfl⟩ (by simp [resO, get, nms, nmss]; try (simp [nms, nmss] at hn; simp_all))⟩
      simp [resO, get, ren, rens, mT, h0, ← hout]
end Go.Proofs.Ythjjfdbkggiaeaa
