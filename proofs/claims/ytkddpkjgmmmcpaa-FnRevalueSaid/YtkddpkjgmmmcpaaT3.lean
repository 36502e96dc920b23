/- Contracts: Revalue. No condition but sizes. -/
import Derived.Test.YtkddpkjgmmmcpaaT2
set_option linter.unusedSimpArgs false
set_option linter.unusedVariables false
namespace Go.Proofs.Ytkddpkjgmmmcpaa
open Go Go.RowKit

def tabF (t : List Int) (r : Int) : Int := t[r.toNat]?.getD 0
def rvO (ds : List Df) (t : List Int) : Option (List Df) := if tkO ds t = true then some (rkD (tabF t) ds) else none
set_option maxRecDepth 10000 in
set_option maxHeartbeats 400000 in
theorem revalue1_c (σ : Sto) (ν : Nat) (y : AV) (b : Nat) (r0 : Bool) (t : List Int) (n : Int) (hy : Sl σ y 1 (rowsI t)) (hb : σ b = some ⟨25, 1, [[y]], r0⟩) (h0 : 0 ≤ n) (h1 : n < t.length) :
    AC Try.prog 90 [.v (.int .i64 n), .ptr b 0 0] σ ν fun q δ => q = .v (.int .i64 (tabF t n)) ∧ δ = noS := by
  obtain ⟨b2, o2, cap2, z2, rfl⟩ := hy.out
  simp only [rowsI_len] at hy hb ⊢
  refine AC.intro [] ent_90 Try.func90 rfl (by simp [Try.f90]) (by simp) ?_
  intro K s hs hB hn hν hA hFr
  simp only [argT, Nat.zero_add, Nat.reduceAdd]
  have hy' := hy.vw hs.vw
  obtain ⟨r1, hsb⟩ := hs.vw b _ hb
  have hil : n.toNat < t.length := by omega
  obtain ⟨_, rfl, kb, hkb, hat⟩ := hy'.at (i := n.toNat) (by rw [rowsI_len]; exact hil)
  rw [rowsI_get _ _ hil] at hat
  have hg : t[n.toNat]?.getD 0 = t[n.toNat] := by rw [List.getElem?_eq_getElem hil]; rfl
  repeat' (first
    | refine AWP.seq ?_
    | refine AWP.block ?_
    | (refine AWP.skip ?_; simp only [thenA, blockA, reduceIte])
    | (refine AWP.exit ?_; simp only [thenA, blockA, eq_self, reduceIte, Nat.reduceEqDiff, Nat.succ_ne_zero])
    | (refine AWP.ret ?_; simp only [thenA, blockA, reduceIte])
    | (refine AWP.region (by rfl) (fun KK hKK => ?_); (repeat (simp (disch := omega) [hsb, h0, h1, hil, hkb, hat])); first | (refine hKK _ _ _ ?_; clear hKK KK; simp only [thenA, blockA, reduceIte]) | skip)
    | (refine AWP.if_t ?_ ?_; focus (simp (disch := omega) [hsb, h0, h1, hil, hkb, hat]; done))
    | (refine AWP.if_f ?_ ?_; focus (simp (disch := omega) [hsb, h0, h1, hil, hkb, hat]; done)))
  refine ⟨by simp, _, rfl, fin0 ⟨?_, rfl⟩ (by simp [resO, get, nms, nmss]; try (simp [nms, nmss] at hn; simp_all))⟩
  simp [resO, get, ren, rens, tabF, hg]

set_option maxRecDepth 10000 in
set_option maxHeartbeats 1000000 in
theorem revalue_c (σ : Sto) (ν : Nat) (x y : AV) (ds : List Df) (t : List Int) (hx : Sl σ x 2 (rowsD ds)) (hy : Sl σ y 1 (rowsI t)) (hlen : ds.length ≤ 4294967296) (hlt : t.length ≤ 4294967296) (hsz : ∀ d ∈ ds, d.1.size ≤ 9223372036854775807) :
    AC Try.prog 42 [.agg [x], y] σ ν fun r δ => r = .tup [.agg [eOut ν some (rvO ds t)], .v (.bool (rvO ds t).isSome)] ∧ δ = dOut ν (rvO ds t) := by
  obtain ⟨b, o, cap, z, rfl⟩ := hx.out
  obtain ⟨b2, o2, cap2, z2, rfl⟩ := hy.out
  refine AC.intro [] ent_42 Try.func42 rfl (by simp [Try.f42]) (by simp) ?_
  intro K s hs hB hn hν hA hFr
  simp only [argT, Nat.zero_add, Nat.reduceAdd]
  have hx' := hx.vw hs.vw
  have hy' := hy.vw hs.vw
  have hbK : b < K := hA b (by simp [nmAs, nmA])
  have hbK2 : b2 < K := hA b2 (by simp [nmAs, nmA])
  have hK0 : ¬ 0 = K := by omega
  have hK1 : ¬ 0 = K + 1 := by omega
  have hK2 : ¬ 0 = K + 1 + 1 := by omega
  repeat' (first
    | refine AWP.seq ?_
    | refine AWP.block ?_
    | (refine AWP.skip ?_; simp only [thenA, blockA, reduceIte])
    | (refine AWP.exit ?_; simp only [thenA, blockA, eq_self, reduceIte, Nat.reduceEqDiff, Nat.succ_ne_zero])
    | (refine AWP.ret ?_; simp only [thenA, blockA, reduceIte])
    | (refine AWP.region (by rfl) (fun KK hKK => ?_); (repeat (simp (disch := omega) [])); first | (refine hKK _ _ _ ?_; clear hKK KK; simp only [thenA, blockA, reduceIte]) | skip)
    | (refine AWP.if_t ?_ ?_; focus (simp (disch := omega) []; done))
    | (refine AWP.if_f ?_ ?_; focus (simp (disch := omega) []; done)))
  cases hok : tkO ds t with
  | false =>
    have ho : rvO ds t = none := by unfold rvO; rw [hok]; rfl
    refine aStop_of (tableOk_c _ _ _ _ ds t (hx'.vw ((Vw.refl _).over (by repeat (first | exact Over.refl _ | exact hov | refine Over.upd ?_ hB (by omega) | refine Over.del ?_ hB (by omega))))) (hy'.vw ((Vw.refl _).over (by repeat (first | exact Over.refl _ | exact hov | refine Over.upd ?_ hB (by omega) | refine Over.del ?_ hB (by omega))))) hlen hlt hsz) ?_
    rintro r δ ⟨rfl, rfl⟩
    (repeat (simp (disch := omega) [hok]))
    first | (refine hKK _ _ _ ?_; clear hKK KK; simp only [thenA, blockA, reduceIte]) | skip
    repeat' (first
      | refine AWP.seq ?_
      | refine AWP.block ?_
      | (refine AWP.skip ?_; simp only [thenA, blockA, reduceIte])
      | (refine AWP.exit ?_; simp only [thenA, blockA, eq_self, reduceIte, Nat.reduceEqDiff, Nat.succ_ne_zero])
      | (refine AWP.ret ?_; simp only [thenA, blockA, reduceIte])
      | (refine AWP.region (by rfl) (fun KK hKK => ?_); (repeat (simp (disch := omega) [])); first | (refine hKK _ _ _ ?_; clear hKK KK; simp only [thenA, blockA, reduceIte]) | skip)
      | (refine AWP.if_t ?_ ?_; focus (simp (disch := omega) []; done))
      | (refine AWP.if_f ?_ ?_; focus (simp (disch := omega) []; done)))
    refine ⟨by simp, ?_⟩
    have hres : Try.f42.results.toList = [.cell 4 31, .tmp 5] := rfl
    rw [hres]
    simp (disch := omega) []
    rw [ho]
    refine fin0 ⟨?_, rfl⟩ (by simp [resO, nms, nmss])
    simp [resO, ren, rens, rho, hK0, hK1, hK2, eOut]
  | true =>
    have ho : rvO ds t = some (rkD (tabF t) ds) := if_pos hok
    obtain ⟨hoe, htl, _⟩ := tkO_ok hok
    have hgl := rkD_len (tabF t) ds
    refine aStop_of (tableOk_c _ _ _ _ ds t (hx'.vw ((Vw.refl _).over (by repeat (first | exact Over.refl _ | exact hov | refine Over.upd ?_ hB (by omega) | refine Over.del ?_ hB (by omega))))) (hy'.vw ((Vw.refl _).over (by repeat (first | exact Over.refl _ | exact hov | refine Over.upd ?_ hB (by omega) | refine Over.del ?_ hB (by omega))))) hlen hlt hsz) ?_
    rintro r δ ⟨rfl, rfl⟩
    (repeat (simp (disch := omega) [hok]))
    first | (refine hKK _ _ _ ?_; clear hKK KK; simp only [thenA, blockA, reduceIte]) | skip
    repeat' (first
      | refine AWP.seq ?_
      | refine AWP.block ?_
      | (refine AWP.skip ?_; simp only [thenA, blockA, reduceIte])
      | (refine AWP.exit ?_; simp only [thenA, blockA, eq_self, reduceIte, Nat.reduceEqDiff, Nat.succ_ne_zero])
      | (refine AWP.ret ?_; simp only [thenA, blockA, reduceIte])
      | (refine AWP.region (by rfl) (fun KK hKK => ?_); (repeat (simp (disch := omega) [])); first | (refine hKK _ _ _ ?_; clear hKK KK; simp only [thenA, blockA, reduceIte]) | skip)
      | (refine AWP.if_t ?_ ?_; focus (simp (disch := omega) []; done))
      | (refine AWP.if_f ?_ ?_; focus (simp (disch := omega) []; done)))
    have hy2 := hy'.vw ((Vw.refl _).over (show Over s (upd (upd (upd s K (blkE (.sl b o (rowsD ds).length cap z))) (K + 1) ⟨25, 1, [[.sl b2 o2 (rowsI t).length cap2 z2]], true⟩) (K + 1 + 1) (blkE nilA)) from (by repeat (first | exact Over.refl _ | exact hov | refine Over.upd ?_ hB (by omega) | refine Over.del ?_ hB (by omega)))))
    have hcl : ∀ s', Vw (upd (upd (upd s K (blkE (.sl b o (rowsD ds).length cap z))) (K + 1) ⟨25, 1, [[.sl b2 o2 (rowsI t).length cap2 z2]], true⟩) (K + 1 + 1) (blkE nilA)) s' → ∀ ν, ∀ r : Int, 0 ≤ r → r < (memF ds).length → AC Try.prog 90 (.v (.int .i64 r) :: [.ptr (K + 1) 0 0]) s' ν fun q δ => q = .v (.int .i64 (tabF t r)) ∧ δ = noS := fun s' hv ν r h0 h1 => by
      obtain ⟨r1, hr1⟩ := hv (K + 1) ⟨25, 1, [[.sl b2 o2 (rowsI t).length cap2 z2]], true⟩ (by simp (disch := omega) only [upd_eq, upd_ne])
      exact revalue1_c s' ν _ (K + 1) r1 t r (hy2.vw hv) hr1 h0 (by omega)
    refine aStop_of (ranked_c _ _ _ _ [.ptr (K + 1) 0 0] ds (tabF t) (hx'.vw ((Vw.refl _).over (by repeat (first | exact Over.refl _ | exact hov | refine Over.upd ?_ hB (by omega) | refine Over.del ?_ hB (by omega))))) hlen hsz hoe hcl) ?_
    rintro r δ ⟨rfl, rfl⟩
    (repeat (simp (disch := omega) []))
    first | (refine hKK _ _ _ ?_; clear hKK KK; simp only [thenA, blockA, reduceIte]) | skip
    repeat' (first
      | refine AWP.seq ?_
      | refine AWP.block ?_
      | (refine AWP.skip ?_; simp only [thenA, blockA, reduceIte])
      | (refine AWP.exit ?_; simp only [thenA, blockA, eq_self, reduceIte, Nat.reduceEqDiff, Nat.succ_ne_zero])
      | (refine AWP.ret ?_; simp only [thenA, blockA, reduceIte])
      | (refine AWP.region (by rfl) (fun KK hKK => ?_); (repeat (simp (disch := omega) [])); first | (refine hKK _ _ _ ?_; clear hKK KK; simp only [thenA, blockA, reduceIte]) | skip)
      | (refine AWP.if_t ?_ ?_; focus (simp (disch := omega) []; done))
      | (refine AWP.if_f ?_ ?_; focus (simp (disch := omega) []; done)))
    refine ⟨by simp, ?_⟩
    have hres : Try.f42.results.toList = [.cell 4 31, .tmp 5] := rfl
    rw [hres]
    simp (disch := omega) []
    rw [ho, dOut_some]
    refine fin1 (K + 1 + 1 + 1 + 2) (blkD (rkD (tabF t) ds)) (by simp (disch := omega) only [upd_eq, upd_ne]) rfl (flatD _) ⟨?_, rfl⟩ (by omega) (by simp [resO, nms, nmss])
    simp [resO, ren, rens, rho, eOut, hgl]

set_option maxRecDepth 10000 in
set_option maxHeartbeats 2000000 in
theorem revalueS_c (σ : Sto) (ν : Nat) (x y : AV) (ds : List Df) (t : List Int) (hx : Sl σ x 2 (rowsD ds)) (hy : Sl σ y 1 (rowsI t)) (hlen : ds.length ≤ 4294967296) (htl4 : t.length ≤ 4294967296) (hsz : ∀ d ∈ ds, d.1.size ≤ 9223372036854775807) :
    AC Try.prog 43 [.agg [x], y] σ ν fun r δ => r = .tup [.agg [eOut ν (fun _ => none) (rvO ds t)], .v (.bool (rvO ds t).isSome)] ∧ δ = dOut ν (rvO ds t) := by
  obtain ⟨b, o, cap, z, rfl⟩ := hx.out
  obtain ⟨b2, o2, cap2, z2, rfl⟩ := hy.out
  simp only [rowsD_len, rowsI_len] at hx hy ⊢
  refine AC.intro [] ent_43 Try.func43 rfl (by simp [Try.f43]) (by simp) ?_
  intro K s hs hB hn hν hA hFr
  simp only [argT, Nat.zero_add, Nat.reduceAdd]
  have hx' := hx.vw hs.vw
  have hy' := hy.vw hs.vw
  have hbK : b < K := hA b (by simp [nmAs, nmA])
  have hbK2 : b2 < K := hA b2 (by simp [nmAs, nmA])
  have hK0 : ¬ 0 = K := by omega
  have hK1 : ¬ 0 = K + 1 := by omega
  repeat' (first
    | refine AWP.seq ?_
    | refine AWP.block ?_
    | (refine AWP.skip ?_; simp only [thenA, blockA, reduceIte])
    | (refine AWP.exit ?_; simp only [thenA, blockA, eq_self, reduceIte, Nat.reduceEqDiff, Nat.succ_ne_zero])
    | (refine AWP.ret ?_; simp only [thenA, blockA, reduceIte])
    | (refine AWP.region (by rfl) (fun KK hKK => ?_); (repeat (simp (disch := omega) [])); first | (refine hKK _ _ _ ?_; clear hKK KK; simp only [thenA, blockA, reduceIte]) | skip)
    | (refine AWP.draw' mixd (by rfl) (by kernel_rfl) (fun KK tab hKK htab => ?_); (repeat (simp (disch := omega) [])); first | (refine dEnd_ro ?_ (hKK _ _ _ ?_); (focus (simp; done)); clear htab tab hKK KK; simp only [thenA, blockA, reduceIte]) | (refine dEnd_of ?_ (hKK _ _ _ ?_); (focus (simp only [List.reverse_cons, List.reverse_nil, List.nil_append, List.cons_append, memA, mem1, and_true, true_and]; (repeat' apply And.intro); (all_goals (first | trivial | (refine .inr ⟨?_, ?_⟩ <;> (simp; done)) | (refine .inr ⟨?_, ?_⟩ <;> (simp <;> omega)) | (refine .inl ?_; rw [htab]; kernel_rfl))); done)); clear htab tab hKK KK; simp only [thenA, blockA, reduceIte]) | skip)
    | (refine AWP.if_t ?_ ?_; focus (simp (disch := omega) []; done))
    | (refine AWP.if_f ?_ ?_; focus (simp (disch := omega) []; done)))
  cases hok : tkO ds t with
  | false =>
    have ho : rvO ds t = none := by unfold rvO; rw [hok]; rfl
    refine aStop_of (validTable_c _ _ _ _ ds t (hx'.vw ((Vw.refl _).over (by repeat (first | exact Over.refl _ | exact hov | refine Over.upd ?_ hB (by omega) | refine Over.del ?_ hB (by omega))))) (hy'.vw ((Vw.refl _).over (by repeat (first | exact Over.refl _ | exact hov | refine Over.upd ?_ hB (by omega) | refine Over.del ?_ hB (by omega))))) hlen htl4 hsz) ?_
    rintro r δ ⟨rfl, rfl⟩
    (repeat (simp (disch := omega) [hok]))
    first | (refine hKK _ _ _ ?_; clear hKK KK; simp only [thenA, blockA, reduceIte]) | skip
    repeat' (first
      | refine AWP.seq ?_
      | refine AWP.block ?_
      | (refine AWP.skip ?_; simp only [thenA, blockA, reduceIte])
      | (refine AWP.exit ?_; simp only [thenA, blockA, eq_self, reduceIte, Nat.reduceEqDiff, Nat.succ_ne_zero])
      | (refine AWP.ret ?_; simp only [thenA, blockA, reduceIte])
      | (refine AWP.region (by rfl) (fun KK hKK => ?_); (repeat (simp (disch := omega) [])); first | (refine hKK _ _ _ ?_; clear hKK KK; simp only [thenA, blockA, reduceIte]) | skip)
      | (refine AWP.draw' mixd (by rfl) (by kernel_rfl) (fun KK tab hKK htab => ?_); (repeat (simp (disch := omega) [])); first | (refine dEnd_ro ?_ (hKK _ _ _ ?_); (focus (simp; done)); clear htab tab hKK KK; simp only [thenA, blockA, reduceIte]) | (refine dEnd_of ?_ (hKK _ _ _ ?_); (focus (simp only [List.reverse_cons, List.reverse_nil, List.nil_append, List.cons_append, memA, mem1, and_true, true_and]; (repeat' apply And.intro); (all_goals (first | trivial | (refine .inr ⟨?_, ?_⟩ <;> (simp; done)) | (refine .inr ⟨?_, ?_⟩ <;> (simp <;> omega)) | (refine .inl ?_; rw [htab]; kernel_rfl))); done)); clear htab tab hKK KK; simp only [thenA, blockA, reduceIte]) | skip)
      | (refine AWP.if_t ?_ ?_; focus (simp (disch := omega) []; done))
      | (refine AWP.if_f ?_ ?_; focus (simp (disch := omega) []; done)))
    refine ⟨by simp, ?_⟩
    have hres : Try.f43.results.toList = [.cell 4 31, .tmp 5] := rfl
    rw [hres]
    simp (disch := omega) []
    rw [ho]
    refine fin0 ⟨?_, rfl⟩ (by simp [resO, nms, nmss])
    simp [resO, ren, rens, rho, hK0, hK1, eOut]
  | true =>
    have ho : rvO ds t = some (rkD (tabF t) ds) := if_pos hok
    obtain ⟨hoe, htl, _⟩ := tkO_ok hok
    refine aStop_of (validTable_c _ _ _ _ ds t (hx'.vw ((Vw.refl _).over (by repeat (first | exact Over.refl _ | exact hov | refine Over.upd ?_ hB (by omega) | refine Over.del ?_ hB (by omega))))) (hy'.vw ((Vw.refl _).over (by repeat (first | exact Over.refl _ | exact hov | refine Over.upd ?_ hB (by omega) | refine Over.del ?_ hB (by omega))))) hlen htl4 hsz) ?_
    rintro r δ ⟨rfl, rfl⟩
    (repeat (simp (disch := omega) [hok]))
    first | (refine hKK _ _ _ ?_; clear hKK KK; simp only [thenA, blockA, reduceIte]) | skip
    have hok := hoe
    repeat' (first
      | refine AWP.seq ?_
      | refine AWP.block ?_
      | (refine AWP.skip ?_; simp only [thenA, blockA, reduceIte])
      | (refine AWP.exit ?_; simp only [thenA, blockA, eq_self, reduceIte, Nat.reduceEqDiff, Nat.succ_ne_zero])
      | (refine AWP.ret ?_; simp only [thenA, blockA, reduceIte])
      | (refine AWP.region (by rfl) (fun KK hKK => ?_); (repeat (simp (disch := omega) [])); first | (refine hKK _ _ _ ?_; clear hKK KK; simp only [thenA, blockA, reduceIte]) | skip)
      | (refine AWP.draw' mixd (by rfl) (by kernel_rfl) (fun KK tab hKK htab => ?_); (repeat (simp (disch := omega) [])); first | (refine dEnd_ro ?_ (hKK _ _ _ ?_); (focus (simp; done)); clear htab tab hKK KK; simp only [thenA, blockA, reduceIte]) | (refine dEnd_of ?_ (hKK _ _ _ ?_); (focus (simp only [List.reverse_cons, List.reverse_nil, List.nil_append, List.cons_append, memA, mem1, and_true, true_and]; (repeat' apply And.intro); (all_goals (first | trivial | (refine .inr ⟨?_, ?_⟩ <;> (simp; done)) | (refine .inr ⟨?_, ?_⟩ <;> (simp <;> omega)) | (refine .inl ?_; rw [htab]; kernel_rfl))); done)); clear htab tab hKK KK; simp only [thenA, blockA, reduceIte]) | skip)
      | (refine AWP.if_t ?_ ?_; focus (simp (disch := omega) []; done))
      | (refine AWP.if_f ?_ ?_; focus (simp (disch := omega) []; done)))
    refine aStop_of (membersS_c _ _ _ ds (hx'.vw ((Vw.refl _).over (by repeat (first | exact Over.refl _ | exact hov | refine Over.upd ?_ hB (by omega) | refine Over.del ?_ hB (by omega))))) hlen) ?_
    rintro r δ ⟨rfl, rfl⟩
    (repeat (simp (disch := omega) []))
    first | (refine hKK _ _ _ ?_; clear hKK KK; simp only [thenA, blockA, reduceIte]) | skip
    repeat' (first
      | refine AWP.seq ?_
      | refine AWP.block ?_
      | (refine AWP.skip ?_; simp only [thenA, blockA, reduceIte])
      | (refine AWP.exit ?_; simp only [thenA, blockA, eq_self, reduceIte, Nat.reduceEqDiff, Nat.succ_ne_zero])
      | (refine AWP.ret ?_; simp only [thenA, blockA, reduceIte])
      | (refine AWP.region (by rfl) (fun KK hKK => ?_); (repeat (simp (disch := omega) [])); first | (refine hKK _ _ _ ?_; clear hKK KK; simp only [thenA, blockA, reduceIte]) | skip)
      | (refine AWP.draw' mixd (by rfl) (by kernel_rfl) (fun KK tab hKK htab => ?_); (repeat (simp (disch := omega) [])); first | (refine dEnd_ro ?_ (hKK _ _ _ ?_); (focus (simp; done)); clear htab tab hKK KK; simp only [thenA, blockA, reduceIte]) | (refine dEnd_of ?_ (hKK _ _ _ ?_); (focus (simp only [List.reverse_cons, List.reverse_nil, List.nil_append, List.cons_append, memA, mem1, and_true, true_and]; (repeat' apply And.intro); (all_goals (first | trivial | (refine .inr ⟨?_, ?_⟩ <;> (simp; done)) | (refine .inr ⟨?_, ?_⟩ <;> (simp <;> omega)) | (refine .inl ?_; rw [htab]; kernel_rfl))); done)); clear htab tab hKK KK; simp only [thenA, blockA, reduceIte]) | skip)
      | (refine AWP.if_t ?_ ?_; focus (simp (disch := omega) []; done))
      | (refine AWP.if_f ?_ ?_; focus (simp (disch := omega) []; done)))
    refine AWP.weak (Weak.virt 7 61 2 0 0 0 (by simp) (by omega)) ?_
    refine AWP.loop (fun n τ σ' M => ∃ k cb : Nat, k ≤ ds.length ∧ n = ds.length - k ∧ τ = [(1, .sl b2 o2 t.length cap2 z2), (2, .ptr K 0 0), (4, .ptr (K + 1) 0 0), (6, .sl (K + 1 + 1 + 2) 0 (memF ds).length none 2), (7, .sl cb 0 ((rkD (tabF t) ds).take k).length none 2), (8, .v (.int .i64 k))] ∧ σ' (K + 1) = some (blkE nilA) ∧ σ' K = some (blkE (.sl b o ds.length cap z)) ∧ σ' (K + 1 + 1 + 2) = some (blkD (memF ds)) ∧ σ' cb = some (blkD ((rkD (tabF t) ds).take k)) ∧ K + 1 + 1 + 2 < cb ∧ cb < M ∧ Over s σ')
      ⟨_, _, _, _, ⟨0, K + 1 + 1 + 2 + 2, by omega, rfl, rfl, by simp (disch := omega) only [upd_eq, upd_ne], by simp (disch := omega) only [upd_eq, upd_ne], by simp (disch := omega) only [upd_eq, upd_ne], by simp only [upd_eq]; rfl, by omega, by omega, (by repeat (first | exact Over.refl _ | exact hov | refine Over.upd ?_ hB (by omega) | refine Over.del ?_ hB (by omega)))⟩, Weak.tau (by simp [LQ])⟩ ?_
    rintro n τ σ' M ⟨k, cb, hk, rfl, rfl, hb0, hb1, hb2, hb3, hc1, hc2, hov⟩
    have hgl := rkD_len (tabF t) ds
    by_cases hlt : k < ds.length
    · obtain ⟨_, rfl, kb, hkb, hat⟩ := hx'.at (i := k) (by rw [rowsD_len]; exact hlt)
      have hrow : (rowsD ds)[k]'(by rw [rowsD_len]; exact hlt) = [.v (.string ds[k].1), .v (.int .i64 ds[k].2)] := by simp [rowsD, rowD]
      rw [hrow] at hat
      have hkb' := hov _ _ hkb
      obtain ⟨r2, r0, r1⟩ := rk_name hok hlt
      have hst := rkD_snoc (tabF t) hlt
      have htk : ((rkD (tabF t) ds).take k).length = k := by simp [hgl]; omega
      generalize hL : (rkD (tabF t) ds).take k = L at *
      have hz1 : (L.length + 1) * 24 ≤ 140737488355328 := by omega
      have hz2 : L.length + 1 ≤ 4611686018427387904 := by omega
      have hil : (rkO ds ds[k].1).toNat < t.length := by omega
      obtain ⟨_, rfl, kb2, hkb2, hat2⟩ := hy'.at (i := (rkO ds ds[k].1).toNat) (by rw [rowsI_len]; exact hil)
      rw [rowsI_get _ _ hil] at hat2
      have hyb := hov _ _ hkb2
      have r1i : rkO ds ds[k].1 < t.length := by omega
      have ht2 : t[(rkO ds ds[k].1).toNat] = tabF t (rkO ds ds[k].1) := by unfold tabF; rw [List.getElem?_eq_getElem hil]; rfl
      repeat' (first
        | refine AWP.seq ?_
        | refine AWP.block ?_
        | (refine AWP.skip ?_; simp only [thenA, blockA, reduceIte])
        | (refine AWP.exit ?_; simp only [thenA, blockA, eq_self, reduceIte, Nat.reduceEqDiff, Nat.succ_ne_zero])
        | (refine AWP.ret ?_; simp only [thenA, blockA, reduceIte])
        | (refine AWP.region (by rfl) (fun KK hKK => ?_); (repeat (simp (disch := omega) [hlt, hb1, hkb', hat])); first | (refine hKK _ _ _ ?_; clear hKK KK; simp only [thenA, blockA, reduceIte]) | skip)
        | (refine AWP.draw' mixd (by rfl) (by kernel_rfl) (fun KK tab hKK htab => ?_); (repeat (simp (disch := omega) [hlt, hb1, hkb', hat])); first | (refine dEnd_ro ?_ (hKK _ _ _ ?_); (focus (simp; done)); clear htab tab hKK KK; simp only [thenA, blockA, reduceIte]) | (refine dEnd_of ?_ (hKK _ _ _ ?_); (focus (simp only [List.reverse_cons, List.reverse_nil, List.nil_append, List.cons_append, memA, mem1, and_true, true_and]; (repeat' apply And.intro); (all_goals (first | trivial | (refine .inr ⟨?_, ?_⟩ <;> (simp; done)) | (refine .inr ⟨?_, ?_⟩ <;> (simp <;> omega)) | (refine .inl ?_; rw [htab]; kernel_rfl))); done)); clear htab tab hKK KK; simp only [thenA, blockA, reduceIte]) | skip)
        | (refine AWP.if_t ?_ ?_; focus (simp (disch := omega) [hlt, hb1, hkb', hat]; done))
        | (refine AWP.if_f ?_ ?_; focus (simp (disch := omega) [hlt, hb1, hkb', hat]; done)))
      refine dStop_roA (fun σ' hσ' => valueAt_c σ' _ _ (memF ds) _ (Sl.whole (t := 61) (r := true) ((hσ' _ (by simp)).trans (by simp (disch := omega) only [upd_eq, upd_ne, del_ne, hb2])) (by simp [rowsD_len])) (by have := memF_len ds; omega)) ?_
      (repeat (simp (disch := omega) [← r2, elems, rowsD_len, rowsD_snoc, rowsD_take, hz1, hz2, hb3, hlt, hb1, hkb', hat, hyb, hat2, r0, r1i, hil, ht2]))
      first | (refine dEnd_ro ?_ (hKK _ _ _ ?_); (focus (simp; done)); clear htab tab hKK KK; simp only [thenA, blockA, reduceIte]) | (refine dEnd_of ?_ (hKK _ _ _ ?_); (focus (simp only [List.reverse_cons, List.reverse_nil, List.nil_append, List.cons_append, memA, mem1, and_true, true_and]; (repeat' apply And.intro); (all_goals (first | trivial | (refine .inr ⟨?_, ?_⟩ <;> (simp; done)) | (refine .inr ⟨?_, ?_⟩ <;> (simp <;> omega)) | (refine .inl ?_; rw [htab]; kernel_rfl))); done)); clear htab tab hKK KK; simp only [thenA, blockA, reduceIte]) | skip
      repeat' (first
        | refine AWP.seq ?_
        | refine AWP.block ?_
        | (refine AWP.skip ?_; simp only [thenA, blockA, reduceIte])
        | (refine AWP.exit ?_; simp only [thenA, blockA, eq_self, reduceIte, Nat.reduceEqDiff, Nat.succ_ne_zero])
        | (refine AWP.ret ?_; simp only [thenA, blockA, reduceIte])
        | (refine AWP.region (by rfl) (fun KK hKK => ?_); (repeat (simp (disch := omega) [])); first | (refine hKK _ _ _ ?_; clear hKK KK; simp only [thenA, blockA, reduceIte]) | skip)
        | (refine AWP.draw' mixd (by rfl) (by kernel_rfl) (fun KK tab hKK htab => ?_); (repeat (simp (disch := omega) [])); first | (refine dEnd_ro ?_ (hKK _ _ _ ?_); (focus (simp; done)); clear htab tab hKK KK; simp only [thenA, blockA, reduceIte]) | (refine dEnd_of ?_ (hKK _ _ _ ?_); (focus (simp only [List.reverse_cons, List.reverse_nil, List.nil_append, List.cons_append, memA, mem1, and_true, true_and]; (repeat' apply And.intro); (all_goals (first | trivial | (refine .inr ⟨?_, ?_⟩ <;> (simp; done)) | (refine .inr ⟨?_, ?_⟩ <;> (simp <;> omega)) | (refine .inl ?_; rw [htab]; kernel_rfl))); done)); clear htab tab hKK KK; simp only [thenA, blockA, reduceIte]) | skip)
        | (refine AWP.if_t ?_ ?_; focus (simp (disch := omega) []; done))
        | (refine AWP.if_f ?_ ?_; focus (simp (disch := omega) []; done)))
      refine ⟨_, _, _, _, ?_, ⟨k + 1, M + 40, by omega, rfl, rfl, by simp (disch := omega) only [upd_eq, upd_ne, del_ne, hb0], by simp (disch := omega) only [upd_eq, upd_ne, del_ne, hb1], by simp (disch := omega) only [upd_eq, upd_ne, del_ne, hb2], by rw [hst]; simp (disch := omega) only [upd_eq, upd_ne, del_ne], by omega, by omega, (by repeat (first | exact Over.refl _ | exact hov | refine Over.upd ?_ hB (by omega) | refine Over.del ?_ hB (by omega)))⟩, Weak.tau (by rw [hst]; simp [LQ])⟩
      omega
    · have hk' : k = ds.length := by omega
      subst hk'
      rw [List.take_of_length_le (by omega : (rkD (tabF t) ds).length ≤ ds.length)] at *
      repeat' (first
        | refine AWP.seq ?_
        | refine AWP.block ?_
        | (refine AWP.skip ?_; simp only [thenA, blockA, reduceIte])
        | (refine AWP.exit ?_; simp only [thenA, blockA, eq_self, reduceIte, Nat.reduceEqDiff, Nat.succ_ne_zero])
        | (refine AWP.ret ?_; simp only [thenA, blockA, reduceIte])
        | (refine AWP.region (by rfl) (fun KK hKK => ?_); (repeat (simp (disch := omega) [hlt, hb0, hb1])); first | (refine hKK _ _ _ ?_; clear hKK KK; simp only [thenA, blockA, reduceIte]) | skip)
        | (refine AWP.draw' mixd (by rfl) (by kernel_rfl) (fun KK tab hKK htab => ?_); (repeat (simp (disch := omega) [hlt, hb0, hb1])); first | (refine dEnd_ro ?_ (hKK _ _ _ ?_); (focus (simp; done)); clear htab tab hKK KK; simp only [thenA, blockA, reduceIte]) | (refine dEnd_of ?_ (hKK _ _ _ ?_); (focus (simp only [List.reverse_cons, List.reverse_nil, List.nil_append, List.cons_append, memA, mem1, and_true, true_and]; (repeat' apply And.intro); (all_goals (first | trivial | (refine .inr ⟨?_, ?_⟩ <;> (simp; done)) | (refine .inr ⟨?_, ?_⟩ <;> (simp <;> omega)) | (refine .inl ?_; rw [htab]; kernel_rfl))); done)); clear htab tab hKK KK; simp only [thenA, blockA, reduceIte]) | skip)
        | (refine AWP.if_t ?_ ?_; focus (simp (disch := omega) [hlt, hb0, hb1]; done))
        | (refine AWP.if_f ?_ ?_; focus (simp (disch := omega) [hlt, hb0, hb1]; done)))
      refine ⟨by simp, ?_⟩
      have hres : Try.f43.results.toList = [.cell 4 31, .tmp 5] := rfl
      rw [hres]
      simp (disch := omega) []
      rw [ho, dOut_some]
      refine fin1 cb (blkD (rkD (tabF t) ds)) (by simp (disch := omega) only [upd_eq, upd_ne, hb3]) rfl (flatD _) ⟨?_, rfl⟩ (by omega) (by simp [resO, nms, nmss])
      simp [resO, ren, rens, rho, eOut, hgl]
end Go.Proofs.Ytkddpkjgmmmcpaa
