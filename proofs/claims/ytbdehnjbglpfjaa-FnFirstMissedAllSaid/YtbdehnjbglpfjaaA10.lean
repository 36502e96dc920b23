/- Contracts: bits left out of a value; facts that the laws of arms need. No condition but sizes. -/
import Derived.Test.YtbdehnjbglpfjaaF8
import Derived.Test.YtbdehnjbglpfjaaF9
import Derived.Test.YtbdehnjbglpfjaaA7
import Derived.Test.YtbdehnjbglpfjaaA9
set_option linter.unusedSimpArgs false
set_option linter.unusedVariables false
namespace Go.Proofs.Ytbdehnjbglpfjaa
open Go Go.RowKit

def lvG (m n : Nat) : Nat := m - (m &&& n)
set_option maxRecDepth 10000 in
set_option maxHeartbeats 400000 in
theorem lessV1_c (σ : Sto) (ν : Nat) (m n : Nat) (hm : m < 4096) (hn4 : n < 4096) : AC Try.prog 82 [.v (.int .i64 m), .v (.int .i64 n)] σ ν fun r δ => r = .v (.int .i64 ((lvG m n : Nat) : Int)) ∧ δ = noS := by
  have hop : bits .andNot .i64 (m : Int) (n : Int) = ((lvG m n : Nat) : Int) := i_andNot m n (by omega) (by omega)
  refine AC.intro [] ent_82 Try.func82 rfl (by simp [Try.f82]) (by simp) ?_
  intro K s hs hB hn hν hA hFr
  simp only [argT, Nat.zero_add, Nat.reduceAdd]
  repeat' (first
    | refine AWP.seq ?_
    | refine AWP.block ?_
    | (refine AWP.skip ?_; simp only [thenA, blockA, reduceIte])
    | (refine AWP.exit ?_; simp only [thenA, blockA, eq_self, reduceIte, Nat.reduceEqDiff, Nat.succ_ne_zero])
    | (refine AWP.ret ?_; simp only [thenA, blockA, reduceIte])
    | (refine AWP.region (by rfl) (fun KK hKK => ?_); (repeat (simp (disch := omega) [hop])); first | (refine hKK _ _ _ ?_; clear hKK KK; simp only [thenA, blockA, reduceIte]) | skip)
    | (refine AWP.if_t ?_ ?_; focus (simp (disch := omega) [hop]; done))
    | (refine AWP.if_f ?_ ?_; focus (simp (disch := omega) [hop]; done)))
  refine ⟨by simp, _, rfl, fin0 ⟨?_, rfl⟩ (by simp [resO, get, nms, nmss]; try (simp [nms, nmss] at hn; simp_all))⟩
  simp [resO, get, ren, rens, hop]
set_option maxRecDepth 10000 in
set_option maxHeartbeats 400000 in
theorem lessV_c (σ : Sto) (ν : Nat) (x : AV) (ds : List Df) (bd a b : Int) (hx : Sl σ x 2 (rowsD ds)) (hlen : ds.length ≤ 9223372036854775807) (hsz : ∀ d ∈ ds, d.1.size ≤ 9223372036854775807) :
    AC Try.prog 28 [.agg [x, .v (.int .i64 bd)], .v (.int .i64 a), .v (.int .i64 b)] σ ν fun r δ => r = .v (.int .i64 (opI lvG ds bd a b)) ∧ δ = noS := by
  obtain ⟨bk, o, cap, z, rfl⟩ := hx.out
  refine AC.intro [] ent_28 Try.func28 rfl (by simp [Try.f28]) (by simp) ?_
  intro K s hs hB hn hν hA hFr
  simp only [argT, Nat.zero_add, Nat.reduceAdd]
  have hx' := hx.vw hs.vw
  repeat' (first
    | refine AWP.seq ?_
    | refine AWP.block ?_
    | (refine AWP.skip ?_; simp only [thenA, blockA, reduceIte])
    | (refine AWP.exit ?_; simp only [thenA, blockA, eq_self, reduceIte, Nat.reduceEqDiff, Nat.succ_ne_zero])
    | (refine AWP.ret ?_; simp only [thenA, blockA, reduceIte])
    | (refine AWP.region (by rfl) (fun KK hKK => ?_); (repeat (simp (disch := omega) [])); first | (refine hKK _ _ _ ?_; clear hKK KK; simp only [thenA, blockA, reduceIte]) | skip)
    | (refine AWP.if_t ?_ ?_; focus (simp (disch := omega) []; done))
    | (refine AWP.if_f ?_ ?_; focus (simp (disch := omega) []; done)))
  refine aStop_of (join_c _ _ _ _ lvG ds bd a b (hx'.vw ((Vw.refl _).over (by repeat (first | exact Over.refl _ | exact hov | refine Over.upd ?_ hB (by omega) | refine Over.del ?_ hB (by omega))))) hlen hsz (fun s ν m n hm hn => lessV1_c s ν m n hm hn)) ?_
  rintro r δ ⟨rfl, rfl⟩
  (repeat (simp (disch := omega) []))
  first | (refine hKK _ _ _ ?_; clear hKK KK; simp only [thenA, blockA, reduceIte]) | skip
  repeat' (first
    | refine AWP.seq ?_
    | refine AWP.block ?_
    | (refine AWP.skip ?_; simp only [thenA, blockA, reduceIte])
    | (refine AWP.exit ?_; simp only [thenA, blockA, eq_self, reduceIte, Nat.reduceEqDiff, Nat.succ_ne_zero])
    | (refine AWP.ret ?_; simp only [thenA, blockA, reduceIte])
    | (refine AWP.region (by rfl) (fun KK hKK => ?_); (repeat (simp (disch := omega) [])); first | (refine hKK _ _ _ ?_; clear hKK KK; simp only [thenA, blockA, reduceIte]) | skip)
    | (refine AWP.if_t ?_ ?_; focus (simp (disch := omega) []; done))
    | (refine AWP.if_f ?_ ?_; focus (simp (disch := omega) []; done)))
  refine ⟨by simp, _, rfl, fin0 ⟨?_, rfl⟩ (by simp [resO, get, nms, nmss]; try (simp [nms, nmss] at hn; simp_all))⟩
  simp [resO, get, ren, rens]
theorem lv_yes {ds : List Df} {bd : Int} {a b : Nat} (h1 : isv ds bd a = true) (h2 : isv ds bd b = true) : opI lvG ds bd a b = ((a - (a &&& b) : Nat) : Int) := opI_yes h1 h2
theorem isv_in {ds : List Df} {bd : Int} {m : Nat} (hok : okFl ds bd = true) (hm : m < 4096) (h : m &&& mkN ds = m) : isv ds bd m = true := (isv_iff hok hm).2 (.inr h)
theorem ha_dec {ds : List Df} {bd : Int} {a b : Nat} (h1 : isv ds bd a = true) (h2 : isv ds bd b = true) : haB ds bd a b = decide (b &&& a = b) := by
  simp only [haB, h1, h2, Bool.true_and, Int.toNat_natCast]
  rw [decide_eq_decide]
  exact sub_zero_iff _ _
theorem or_in {a b m : Nat} (h1 : a &&& m = a) (h2 : b &&& m = b) : (a ||| b) &&& m = a ||| b := by rw [Nat.and_or_distrib_right, h1, h2]
theorem sub_mk {a m : Nat} (hm : m < 4096) (ha : a < 4096) : (m - (m &&& a)) &&& m = m - (m &&& a) := sub_in hm ha (Nat.and_self _)
theorem okF_3 {ds : List Df} {bd : Int} (hok : okFl ds bd = true) : okFl ds 3 = true := by
  obtain ⟨h1, _, _⟩ := okFl_ok hok
  simp [okFl, h1]
end Go.Proofs.Ytbdehnjbglpfjaa
