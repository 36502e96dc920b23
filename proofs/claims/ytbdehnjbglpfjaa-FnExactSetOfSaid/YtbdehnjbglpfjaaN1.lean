/- Contracts: ranks, next members. No condition. -/
import Derived.Test.YtbdehnjbglpfjaaPM
set_option linter.unusedSimpArgs false
set_option linter.unusedVariables false
namespace Go.Proofs.Ytbdehnjbglpfjaa
open Go Go.RowKit

def rkO (ds : List Df) (t : ByteArray) : Int := match valO ds t with
  | some n => valueIx (memF ds) n
  | none => -1
def nxN (ds : List Df) (i : Nat) : ByteArray := ((memF ds).getD (i % (memF ds).length) (⟨#[]⟩, 0)).1
def nxO (ds : List Df) (t : ByteArray) : Option ByteArray := if 0 ≤ rkO ds t then some (nxN ds ((rkO ds t).toNat + 1)) else none
theorem valO_some {ds : List Df} {t : ByteArray} {n : Int} (h : valO ds t = some n) : okDs (-1000) 1000 ds = true ∧ ∃ i : Nat, ∃ hi : i < ds.length, nameIx ds t = i ∧ ds[i].1 = t ∧ ds[i].2 = n := by
  unfold valO at h
  split at h
  · rename_i hh
    refine ⟨hh.1, ?_⟩
    rcases nameIx_cases ds t with h2 | ⟨i, hi, h2, h3⟩
    · omega
    · rw [h2] at h
      exact ⟨i, hi, h2, h3, by simpa [List.getD_eq_getElem?_getD, List.getElem?_eq_getElem hi] using h⟩
  · cases h
theorem rk_val {ds : List Df} {n : Int} (h : ∃ d ∈ ds, d.2 = n) : ∃ r : Nat, ∃ hr : r < (memF ds).length, valueIx (memF ds) n = r ∧ (memF ds)[r].2 = n := by
  obtain ⟨d, hd, rfl⟩ := (memF_val ds n).2 h
  rcases valueIx_cases (memF ds) d.2 with ⟨_, h2⟩ | ⟨i, hi, h2, h3, _⟩
  · exact absurd rfl (h2 d hd)
  · exact ⟨i, hi, h2, h3⟩
theorem rk_some {ds : List Df} {t : ByteArray} {n : Int} (h : valO ds t = some n) : ∃ r : Nat, ∃ hr : r < (memF ds).length, rkO ds t = r ∧ valueIx (memF ds) n = r ∧ (memF ds)[r].2 = n := by
  obtain ⟨_, i, hi, _, _, h3⟩ := valO_some h
  obtain ⟨r, hr, h4, h5⟩ := rk_val ⟨ds[i], List.getElem_mem hi, h3⟩
  exact ⟨r, hr, by simp only [rkO, h, h4], h4, h5⟩
theorem valO_mem {ds : List Df} (h : okDs (-1000) 1000 ds = true) {d : Df} (hd : d ∈ memF ds) : valO ds d.1 = some d.2 := by
  obtain ⟨i, hi, rfl, hv⟩ := memF_first ds d hd
  exact valO_yes h hi (name_at h hi)
/-- A member's rank is its index. -/
theorem rk_mem {ds : List Df} (h : okDs (-1000) 1000 ds = true) {j : Nat} (hj : j < (memF ds).length) : rkO ds (memF ds)[j].1 = j := by
  obtain ⟨r, hr, h1, _, h2⟩ := rk_some (valO_mem h (List.getElem_mem hj))
  have hp := List.pairwise_iff_getElem.1 (memF_pw ds)
  have : r = j := by
    rcases Nat.lt_trichotomy r j with h3 | h3 | h3
    · exact absurd h2 (hp _ _ hr hj h3)
    · exact h3
    · exact absurd h2.symm (hp _ _ hj hr h3)
  rw [h1, this]

set_option maxRecDepth 10000 in
set_option maxHeartbeats 1000000 in
theorem rankOf_c (σ : Sto) (ν : Nat) (x : AV) (ds : List Df) (t : ByteArray) (hx : Sl σ x 2 (rowsD ds)) (hlen : ds.length ≤ 4294967296) (hsz : ∀ d ∈ ds, d.1.size ≤ 9223372036854775807) :
    AC Try.prog 145 [.agg [x], .v (.string t)] σ ν fun r δ => r = .v (.int .i64 (rkO ds t)) ∧ δ = noS := by
  obtain ⟨b, o, cap, z, rfl⟩ := hx.out
  simp only [rowsD_len] at hx ⊢
  refine AC.intro [] ent_145 Try.func145 rfl (by simp [Try.f145]) (by simp) ?_
  intro K s hs hB hn hν hA hFr
  simp only [argT, Nat.zero_add, Nat.reduceAdd]
  have hx' := hx.vw hs.vw
  have hml := memF_len ds
  cases hv : valO ds t with
  | none =>
    have hr : rkO ds t = -1 := by simp only [rkO, hv]
    repeat' (first
      | refine AWP.seq ?_
      | refine AWP.block ?_
      | (refine AWP.skip ?_; simp only [thenA, blockA, reduceIte])
      | (refine AWP.exit ?_; simp only [thenA, blockA, eq_self, reduceIte, Nat.reduceEqDiff, Nat.succ_ne_zero])
      | (refine AWP.ret ?_; simp only [thenA, blockA, reduceIte])
      | (refine AWP.region (by rfl) (fun KK hKK => ?_); (repeat (simp (disch := omega) [])); first | (refine hKK _ _ _ ?_; clear hKK KK; simp only [thenA, blockA, reduceIte]) | skip)
      | (refine AWP.if_t ?_ ?_; focus (simp (disch := omega) []; done))
      | (refine AWP.if_f ?_ ?_; focus (simp (disch := omega) []; done)))
    refine aStop_of (ValueOf_c _ _ _ ds _ (hx'.vw ((Vw.refl _).over (by repeat (first | exact Over.refl _ | exact hov | refine Over.upd ?_ hB (by omega) | refine Over.del ?_ hB (by omega))))) (by omega) hsz) ?_
    rintro r δ ⟨rfl, rfl⟩
    (repeat (simp (disch := omega) [hv]))
    first | (refine hKK _ _ _ ?_; clear hKK KK; simp only [thenA, blockA, reduceIte]) | skip
    repeat' (first
      | refine AWP.seq ?_
      | refine AWP.block ?_
      | (refine AWP.skip ?_; simp only [thenA, blockA, reduceIte])
      | (refine AWP.exit ?_; simp only [thenA, blockA, eq_self, reduceIte, Nat.reduceEqDiff, Nat.succ_ne_zero])
      | (refine AWP.ret ?_; simp only [thenA, blockA, reduceIte])
      | (refine AWP.region (by rfl) (fun KK hKK => ?_); (repeat (simp (disch := omega) [])); first | (refine hKK _ _ _ ?_; clear hKK KK; simp only [thenA, blockA, reduceIte]) | skip)
      | (refine AWP.if_t ?_ ?_; focus (simp (disch := omega) []; done))
      | (refine AWP.if_f ?_ ?_; focus (simp (disch := omega) []; done)))
    refine ⟨by simp, _, rfl, fin0 ⟨?_, rfl⟩ (by simp [resO, get, nms, nmss]; try (simp [nms, nmss] at hn; simp_all))⟩
    simp [resO, get, ren, rens, hr]
  | some n =>
    have hr : rkO ds t = valueIx (memF ds) n := by simp only [rkO, hv]
    repeat' (first
      | refine AWP.seq ?_
      | refine AWP.block ?_
      | (refine AWP.skip ?_; simp only [thenA, blockA, reduceIte])
      | (refine AWP.exit ?_; simp only [thenA, blockA, eq_self, reduceIte, Nat.reduceEqDiff, Nat.succ_ne_zero])
      | (refine AWP.ret ?_; simp only [thenA, blockA, reduceIte])
      | (refine AWP.region (by rfl) (fun KK hKK => ?_); (repeat (simp (disch := omega) [])); first | (refine hKK _ _ _ ?_; clear hKK KK; simp only [thenA, blockA, reduceIte]) | skip)
      | (refine AWP.if_t ?_ ?_; focus (simp (disch := omega) []; done))
      | (refine AWP.if_f ?_ ?_; focus (simp (disch := omega) []; done)))
    refine aStop_of (ValueOf_c _ _ _ ds _ (hx'.vw ((Vw.refl _).over (by repeat (first | exact Over.refl _ | exact hov | refine Over.upd ?_ hB (by omega) | refine Over.del ?_ hB (by omega))))) (by omega) hsz) ?_
    rintro r δ ⟨rfl, rfl⟩
    (repeat (simp (disch := omega) [hv]))
    first | (refine hKK _ _ _ ?_; clear hKK KK; simp only [thenA, blockA, reduceIte]) | skip
    repeat' (first
      | refine AWP.seq ?_
      | refine AWP.block ?_
      | (refine AWP.skip ?_; simp only [thenA, blockA, reduceIte])
      | (refine AWP.exit ?_; simp only [thenA, blockA, eq_self, reduceIte, Nat.reduceEqDiff, Nat.succ_ne_zero])
      | (refine AWP.ret ?_; simp only [thenA, blockA, reduceIte])
      | (refine AWP.region (by rfl) (fun KK hKK => ?_); (repeat (simp (disch := omega) [])); first | (refine hKK _ _ _ ?_; clear hKK KK; simp only [thenA, blockA, reduceIte]) | skip)
      | (refine AWP.if_t ?_ ?_; focus (simp (disch := omega) []; done))
      | (refine AWP.if_f ?_ ?_; focus (simp (disch := omega) []; done)))
    refine aStop_of (members_c _ _ _ ds (hx'.vw ((Vw.refl _).over (by repeat (first | exact Over.refl _ | exact hov | refine Over.upd ?_ hB (by omega) | refine Over.del ?_ hB (by omega))))) hlen) ?_
    rintro r δ ⟨rfl, rfl⟩
    (repeat (simp (disch := omega) []))
    first | (refine hKK _ _ _ ?_; clear hKK KK; simp only [thenA, blockA, reduceIte]) | skip
    refine aStop_of (valued_c _ _ _ (memF ds) _ (Sl.whole (t := 133) (r := true) (by simp (disch := omega)) (by simp [rowsD_len])) (by omega)) ?_
    rintro r δ ⟨rfl, rfl⟩
    (repeat (simp (disch := omega) []))
    first | (refine hKK _ _ _ ?_; clear hKK KK; simp only [thenA, blockA, reduceIte]) | skip
    repeat' (first
      | refine AWP.seq ?_
      | refine AWP.block ?_
      | (refine AWP.skip ?_; simp only [thenA, blockA, reduceIte])
      | (refine AWP.exit ?_; simp only [thenA, blockA, eq_self, reduceIte, Nat.reduceEqDiff, Nat.succ_ne_zero])
      | (refine AWP.ret ?_; simp only [thenA, blockA, reduceIte])
      | (refine AWP.region (by rfl) (fun KK hKK => ?_); (repeat (simp (disch := omega) [])); first | (refine hKK _ _ _ ?_; clear hKK KK; simp only [thenA, blockA, reduceIte]) | skip)
      | (refine AWP.if_t ?_ ?_; focus (simp (disch := omega) []; done))
      | (refine AWP.if_f ?_ ?_; focus (simp (disch := omega) []; done)))
    refine ⟨by simp, _, rfl, fin0 ⟨?_, rfl⟩ (by simp [resO, get, nms, nmss]; try (simp [nms, nmss] at hn; simp_all))⟩
    simp [resO, get, ren, rens, hr]

end Go.Proofs.Ytbdehnjbglpfjaa
