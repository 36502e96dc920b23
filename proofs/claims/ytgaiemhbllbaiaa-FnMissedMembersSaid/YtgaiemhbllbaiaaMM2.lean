/- Contracts: members that no name is a name of, in the program, which keeps the values met in a map. No condition but sizes. -/
import Derived.Test.YtgaiemhbllbaiaaMp
import Derived.Test.YtgaiemhbllbaiaaMM1
set_option linter.unusedSimpArgs false
set_option linter.unusedVariables false
namespace Go.Proofs.Ytgaiemhbllbaiaa
open Go Go.RowKit

theorem mapTy : MapTy Try.prog 93 3 4 := ⟨by kernel_rfl, by kernel_rfl, by kernel_rfl, fun w => by kernel_rfl⟩
theorem wf_i64 {n : Int} (h : -9223372036854775808 ≤ n ∧ n ≤ 9223372036854775807) : (Lit.int .i64 n).wf = true := by
  simp [Lit.wf, IntKind.min, IntKind.max, IntKind.signed, IntKind.bits]
  omega

theorem valO_rg {ds : List Df} {t : ByteArray} {v : Int} (h : valO ds t = some v) : -9223372036854775808 ≤ v ∧ v ≤ 9223372036854775807 := by
  by_cases hc : okDs (-1000) 1000 ds = true ∧ 0 ≤ nameIx ds t
  · rcases nameIx_cases ds t with h1 | ⟨i, hi, h1, _⟩
    · omega
    · rw [valO_yes hc.1 hi h1] at h
      cases h
      obtain ⟨_, h2, h3, _⟩ := okDs_at hc.1 hi
      exact ⟨by omega, by omega⟩
  · rw [valO_no hc] at h
    cases h

set_option maxRecDepth 10000 in
set_option maxHeartbeats 1000000 in
theorem missed1_c [Side] {g : Nat} {L : List Int} (hS : MapHas Try.prog 3 4 g L) (σ : Sto) (ν : Nat) (d : Df) (b : Nat) (r0 : Bool) (hb : σ b = some ⟨93, 1, [[.v (.map (some g))]], r0⟩) (hd : -9223372036854775808 ≤ d.2 ∧ d.2 ≤ 9223372036854775807) :
    AC Try.prog 73 [.agg [.v (.string d.1), .v (.int .i64 d.2)], .ptr b 0 0] σ ν fun r δ => r = .v (.bool (!decide (d.2 ∈ L))) ∧ δ = noS := by
  obtain ⟨nm, vl⟩ := d
  have hwf := wf_i64 hd
  refine AC.intro [] ent_73 Try.func73 rfl (by simp [Try.f73]) (by simp) ?_
  intro K s hs hB hn hν hA hFr
  simp only [argT, Nat.zero_add, Nat.reduceAdd]
  have hb' := hs.ro hb
  have hbK := (hB b _ hb').1
  repeat' (first
    | refine AWP.seq ?_
    | refine AWP.block ?_
    | (refine AWP.skip ?_; simp only [thenA, blockA, reduceIte])
    | (refine AWP.exit ?_; simp only [thenA, blockA, eq_self, reduceIte, Nat.reduceEqDiff, Nat.succ_ne_zero])
    | (refine AWP.ret ?_; simp only [thenA, blockA, reduceIte])
    | (refine AWP.look mapTy hS [_, _, _] [_, _] _ (by rfl) rfl ⟨rfl, rfl, rfl⟩ (fun KK hKK => ?_); (repeat (simp (disch := omega) [hb', hwf])))
    | (refine AWP.region (by rfl) (fun KK hKK => ?_); (repeat (simp (disch := omega) [hb', hwf])); first | (refine hKK _ _ _ ?_; clear hKK KK; simp only [thenA, blockA, reduceIte]) | skip)
    | (refine AWP.if_t ?_ ?_; focus (simp (disch := omega) [hb', hwf]; done))
    | (refine AWP.if_f ?_ ?_; focus (simp (disch := omega) [hb', hwf]; done)))
  refine hKK _ _ _ ?_
  clear hKK KK
  simp only [thenA, blockA, reduceIte]
  repeat' (first
    | refine AWP.seq ?_
    | refine AWP.block ?_
    | (refine AWP.skip ?_; simp only [thenA, blockA, reduceIte])
    | (refine AWP.exit ?_; simp only [thenA, blockA, eq_self, reduceIte, Nat.reduceEqDiff, Nat.succ_ne_zero])
    | (refine AWP.ret ?_; simp only [thenA, blockA, reduceIte])
    | (refine AWP.region (by rfl) (fun KK hKK => ?_); (repeat (simp (disch := omega) [])); first | (refine hKK _ _ _ ?_; clear hKK KK; simp only [thenA, blockA, reduceIte]) | skip)
    | (refine AWP.if_t ?_ ?_; focus (simp (disch := omega) []; done))
    | (refine AWP.if_f ?_ ?_; focus (simp (disch := omega) []; done)))
  refine ⟨by simp, _, rfl, fin0 ⟨?_, rfl⟩ (by simp [resO, get, nms, nmss]; try (simp [nms, nmss] at hn; simp_all))⟩
  simp [resO, get, ren, rens]

set_option maxRecDepth 10000 in
set_option maxHeartbeats 8000000 in
theorem missed_c (σ : Sto) (ν : Nat) (x y : AV) (ds : List Df) (ts : List ByteArray) (hx : Sl σ x 2 (rowsD ds)) (hlen : ds.length ≤ 4294967296) (hsz : ∀ d ∈ ds, d.1.size ≤ 9223372036854775807) (hy : Sl σ y 1 (rowsS ts)) (hlt : ts.length ≤ 4294967296) :
    AC Try.prog 32 [.agg [x], y] σ ν fun r δ => r = sOut ν some (msO ds ts) ∧ δ = dOutS ν (msO ds ts) := by
  obtain ⟨b, o, cap, z, rfl⟩ := hx.out
  obtain ⟨b2, o2, cap2, z2, rfl⟩ := hy.out
  simp only [rowsD_len, rowsS_len] at hx hy ⊢
  refine AC.intro [] ent_32 Try.func32 rfl (by simp [Try.f32]) (by simp) ?_
  intro K s hs hB hn hν hA hFr
  simp only [argT, Nat.zero_add, Nat.reduceAdd]
  have hx' := hx.vw hs.vw
  have hy' := hy.vw hs.vw
  have hbK : b < K := hA b (by simp [nmAs, nmA])
  have hbK2 : b2 < K := hA b2 (by simp [nmAs, nmA])
  have hK0 : ¬ 0 = K := by omega
  have hl9 : ds.length ≤ 9223372036854775807 := by omega
  cases hok : okDs (-1000) 1000 ds with
  | false =>
    have hno : msO ds ts = none := by unfold msO; rw [if_neg (by simp [hok])]
    repeat' (first
      | refine AWP.seq ?_
      | refine AWP.block ?_
      | (refine AWP.skip ?_; simp only [thenA, blockA, reduceIte])
      | (refine AWP.exit ?_; simp only [thenA, blockA, eq_self, reduceIte, Nat.reduceEqDiff, Nat.succ_ne_zero])
      | (refine AWP.ret ?_; simp only [thenA, blockA, reduceIte])
      | (refine AWP.region (by rfl) (fun KK hKK => ?_); (repeat (simp (disch := omega) [])); first | (refine hKK _ _ _ ?_; clear hKK KK; simp only [thenA, blockA, reduceIte]) | skip)
      | (refine AWP.if_t ?_ ?_; focus (simp (disch := omega) []; done))
      | (refine AWP.if_f ?_ ?_; focus (simp (disch := omega) []; done)))
    refine aStop_of (validEnum_c _ _ _ ds (hx'.vw ((Vw.refl _).over (by repeat (first | exact Over.refl _ | exact hov | refine Over.upd ?_ hB (by omega) | refine Over.del ?_ hB (by omega))))) (by omega) hsz) ?_
    rintro r δ ⟨rfl, rfl⟩
    (repeat (simp (disch := omega) [hok]))
    first | (refine hKK _ _ _ ?_; clear hKK KK; simp only [thenA, blockA, reduceIte]) | skip
    repeat' (first
      | refine AWP.seq ?_
      | refine AWP.block ?_
      | (refine AWP.skip ?_; simp only [thenA, blockA, reduceIte])
      | (refine AWP.exit ?_; simp only [thenA, blockA, eq_self, reduceIte, Nat.reduceEqDiff, Nat.succ_ne_zero])
      | (refine AWP.ret ?_; simp only [thenA, blockA, reduceIte])
      | (refine AWP.region (by rfl) (fun KK hKK => ?_); (repeat (simp (disch := omega) [])); first | (refine hKK _ _ _ ?_; clear hKK KK; simp only [thenA, blockA, reduceIte]) | skip)
      | (refine AWP.if_t ?_ ?_; focus (simp (disch := omega) []; done))
      | (refine AWP.if_f ?_ ?_; focus (simp (disch := omega) []; done)))
    rw [hno, sOut_none, dOutS_none]
    refine ⟨by simp, _, rfl, fin0 ⟨?_, rfl⟩ (by simp [resO, get, nms, nmss]; try (simp [nms, nmss] at hn; simp_all))⟩
    simp [resO, get, ren, rens, rho, hK0]
  | true =>
    refine SWP.awp 3 4 ?_
    repeat' (first
      | refine SWP.seq ?_
      | refine SWP.block ?_
      | (refine SWP.skip ?_; simp only [thenS, blockS, reduceIte])
      | (refine SWP.exit ?_; simp only [thenS, blockS, eq_self, reduceIte, Nat.reduceEqDiff, Nat.succ_ne_zero])
      | (refine SWP.ret ?_; simp only [thenS, blockS, reduceIte])
      | (refine SWP.mk (t := 93) _ _ (by rfl) rfl ⟨rfl, rfl, rfl⟩ (fun g KK hKK iS hS => ?_); (repeat (simp (disch := omega) [])); first | (refine hKK _ _ _ ?_; clear hS iS hKK KK; simp only [thenS, blockS, reduceIte]) | skip)
      | (refine SWP.region (by rfl) (fun KK hKK iS hS => ?_); (repeat (simp (disch := omega) [])); first | (refine hKK _ _ _ ?_; clear hS iS hKK KK; simp only [thenS, blockS, reduceIte]) | skip)
      | (refine SWP.if_t ?_ ?_; focus (simp (disch := omega) []; done))
      | (refine SWP.if_f ?_ ?_; focus (simp (disch := omega) []; done)))
    refine aStop_of ((validEnum_c _ _ _ ds (hx'.vw ((Vw.refl _).over (by repeat (first | exact Over.refl _ | exact hov | refine Over.upd ?_ hB (by omega) | refine Over.del ?_ hB (by omega))))) (by omega) hsz).side) ?_
    rintro r δ ⟨rfl, rfl⟩
    (repeat (simp (disch := omega) [hok]))
    first | (refine hKK _ _ _ ?_; clear hS iS hKK KK; simp only [thenS, blockS, reduceIte]) | skip
    repeat' (first
      | refine SWP.seq ?_
      | refine SWP.block ?_
      | (refine SWP.skip ?_; simp only [thenS, blockS, reduceIte])
      | (refine SWP.exit ?_; simp only [thenS, blockS, eq_self, reduceIte, Nat.reduceEqDiff, Nat.succ_ne_zero])
      | (refine SWP.ret ?_; simp only [thenS, blockS, reduceIte])
      | (refine SWP.mk (t := 93) _ _ (by rfl) rfl ⟨rfl, rfl, rfl⟩ (fun g KK hKK iS hS => ?_); (repeat (simp (disch := omega) [])); first | (refine hKK _ _ _ ?_; clear hS iS hKK KK; simp only [thenS, blockS, reduceIte]) | skip)
      | (refine SWP.region (by rfl) (fun KK hKK iS hS => ?_); (repeat (simp (disch := omega) [])); first | (refine hKK _ _ _ ?_; clear hS iS hKK KK; simp only [thenS, blockS, reduceIte]) | skip)
      | (refine SWP.if_t ?_ ?_; focus (simp (disch := omega) []; done))
      | (refine SWP.if_f ?_ ?_; focus (simp (disch := omega) []; done)))
    refine SWP.loop (fun n st τ σ' M => ∃ k : Nat, k ≤ ts.length ∧ n = ts.length - k ∧ knT ds (ts.take k) = true ∧ st = some (g, (vlL ds (ts.take k)).reverse) ∧ τ = [(2, .ptr K 0 0), (5, .ptr (K + 1 + 2) 0 0), (14, .sl b2 o2 ts.length cap2 z2), (15, .v (.int .i64 ts.length)), (16, .v (.int .i64 k))] ∧ σ' K = some ⟨25, 1, [[.sl b o ds.length cap z]], true⟩ ∧ σ' (K + 1 + 2) = some ⟨93, 1, [[.v (.map (some g))]], true⟩ ∧ K + 1 + 2 + 1 ≤ M ∧ Over s σ')
      ⟨_, _, _, _, ⟨0, by omega, rfl, rfl, rfl, rfl, by simp (disch := omega) only [upd_eq, upd_ne], by simp (disch := omega) only [upd_eq, upd_ne], by omega, (by repeat (first | exact Over.refl _ | exact hov | refine Over.upd ?_ hB (by omega) | refine Over.del ?_ hB (by omega)))⟩, Weak.tau (by simp [LQ])⟩ ?_
    rintro n st τ σ' M ⟨k, hk, rfl, hkn, rfl, rfl, hb0, hb5, hM, hov⟩
    by_cases hl1 : k < ts.length
    · obtain ⟨_, rfl, kb2, hkb2, hat2⟩ := hy'.at (i := k) (by rw [rowsS_len]; exact hl1)
      rw [rowsS_get _ _ hl1] at hat2
      have hkb2' := hov _ _ hkb2
      cases hv0 : valO ds ts[k] with
      | none =>
        have hno : msO ds ts = none := by unfold msO; rw [if_neg (by rw [knT_no hl1 hv0]; simp)]
        repeat' (first
          | refine SWP.seq ?_
          | refine SWP.block ?_
          | (refine SWP.skip ?_; simp only [thenS, blockS, reduceIte])
          | (refine SWP.exit ?_; simp only [thenS, blockS, eq_self, reduceIte, Nat.reduceEqDiff, Nat.succ_ne_zero])
          | (refine SWP.ret ?_; simp only [thenS, blockS, reduceIte])
          | (refine SWP.region (by rfl) (fun KK hKK iS hS => ?_); (repeat (simp (disch := omega) [hl1, hb0, hkb2', hat2])); first | (refine hKK _ _ _ ?_; clear hS iS hKK KK; simp only [thenS, blockS, reduceIte]) | skip)
          | (refine SWP.if_t ?_ ?_; focus (simp (disch := omega) [hl1, hb0, hkb2', hat2]; done))
          | (refine SWP.if_f ?_ ?_; focus (simp (disch := omega) [hl1, hb0, hkb2', hat2]; done)))
        refine aStop_of ((ValueOf_c _ _ _ ds _ (hx'.vw ((Vw.refl _).over (by repeat (first | exact Over.refl _ | exact hov | refine Over.upd ?_ hB (by omega) | refine Over.del ?_ hB (by omega))))) hl9 hsz).side) ?_
        rintro r δ ⟨rfl, rfl⟩
        (repeat (simp (disch := omega) [hv0]))
        first | (refine hKK _ _ _ ?_; clear hS iS hKK KK; simp only [thenS, blockS, reduceIte]) | skip
        repeat' (first
          | refine SWP.seq ?_
          | refine SWP.block ?_
          | (refine SWP.skip ?_; simp only [thenS, blockS, reduceIte])
          | (refine SWP.exit ?_; simp only [thenS, blockS, eq_self, reduceIte, Nat.reduceEqDiff, Nat.succ_ne_zero])
          | (refine SWP.ret ?_; simp only [thenS, blockS, reduceIte])
          | (refine SWP.region (by rfl) (fun KK hKK iS hS => ?_); (repeat (simp (disch := omega) [])); first | (refine hKK _ _ _ ?_; clear hS iS hKK KK; simp only [thenS, blockS, reduceIte]) | skip)
          | (refine SWP.if_t ?_ ?_; focus (simp (disch := omega) []; done))
          | (refine SWP.if_f ?_ ?_; focus (simp (disch := omega) []; done)))
        rw [hno, sOut_none, dOutS_none]
        refine ⟨by simp, _, rfl, fin0 ⟨?_, rfl⟩ (by simp [resO, get, nms, nmss]; try (simp [nms, nmss] at hn; simp_all))⟩
        simp [resO, get, ren, rens, rho, hK0]
      | some v =>
        have hkn' := knT_take hl1 hkn hv0
        have hvt := vlL_take hl1 hv0
        have hwf : (Lit.int .i64 v).wf = true := wf_i64 (valO_rg hv0)
        have hvl : (vlL ds (ts.take k)).length = k := by rw [vlL_len]; simp; omega
        generalize vlL ds (ts.take k) = L at *
        have hL : L.reverse.length < maxLen := by rw [List.length_reverse, hvl]; unfold maxLen; omega
        repeat' (first
          | refine SWP.seq ?_
          | refine SWP.block ?_
          | (refine SWP.skip ?_; simp only [thenS, blockS, reduceIte])
          | (refine SWP.exit ?_; simp only [thenS, blockS, eq_self, reduceIte, Nat.reduceEqDiff, Nat.succ_ne_zero])
          | (refine SWP.ret ?_; simp only [thenS, blockS, reduceIte])
          | (refine SWP.region (by rfl) (fun KK hKK iS hS => ?_); (repeat (simp (disch := omega) [hl1, hb0, hkb2', hat2])); first | (refine hKK _ _ _ ?_; clear hS iS hKK KK; simp only [thenS, blockS, reduceIte]) | skip)
          | (refine SWP.if_t ?_ ?_; focus (simp (disch := omega) [hl1, hb0, hkb2', hat2]; done))
          | (refine SWP.if_f ?_ ?_; focus (simp (disch := omega) [hl1, hb0, hkb2', hat2]; done)))
        refine aStop_of ((ValueOf_c _ _ _ ds _ (hx'.vw ((Vw.refl _).over (by repeat (first | exact Over.refl _ | exact hov | refine Over.upd ?_ hB (by omega) | refine Over.del ?_ hB (by omega))))) hl9 hsz).side) ?_
        rintro r δ ⟨rfl, rfl⟩
        (repeat (simp (disch := omega) [hv0]))
        first | (refine hKK _ _ _ ?_; clear hS iS hKK KK; simp only [thenS, blockS, reduceIte]) | skip
        repeat' (first
          | refine SWP.seq ?_
          | refine SWP.block ?_
          | (refine SWP.skip ?_; simp only [thenS, blockS, reduceIte])
          | (refine SWP.exit ?_; simp only [thenS, blockS, eq_self, reduceIte, Nat.reduceEqDiff, Nat.succ_ne_zero])
          | (refine SWP.ret ?_; simp only [thenS, blockS, reduceIte])
          | (refine SWP.put mapTy hL [_, _] _ (by rfl) rfl ⟨rfl, rfl, rfl⟩ (fun KK hKK iS hS => ?_); (repeat (simp (disch := omega) [hb5, hwf])))
          | (refine SWP.region (by rfl) (fun KK hKK iS hS => ?_); (repeat (simp (disch := omega) [hb5, hwf])); first | (refine hKK _ _ _ ?_; clear hS iS hKK KK; simp only [thenS, blockS, reduceIte]) | skip)
          | (refine SWP.if_t ?_ ?_; focus (simp (disch := omega) [hb5, hwf]; done))
          | (refine SWP.if_f ?_ ?_; focus (simp (disch := omega) [hb5, hwf]; done)))
        refine hKK _ _ _ _ ?_
        clear hS iS hKK KK
        simp only [thenS, blockS, reduceIte]
        repeat' (first
          | refine SWP.seq ?_
          | refine SWP.block ?_
          | (refine SWP.skip ?_; simp only [thenS, blockS, reduceIte])
          | (refine SWP.exit ?_; simp only [thenS, blockS, eq_self, reduceIte, Nat.reduceEqDiff, Nat.succ_ne_zero])
          | (refine SWP.ret ?_; simp only [thenS, blockS, reduceIte])
          | (refine SWP.region (by rfl) (fun KK hKK iS hS => ?_); (repeat (simp (disch := omega) [])); first | (refine hKK _ _ _ ?_; clear hS iS hKK KK; simp only [thenS, blockS, reduceIte]) | skip)
          | (refine SWP.if_t ?_ ?_; focus (simp (disch := omega) []; done))
          | (refine SWP.if_f ?_ ?_; focus (simp (disch := omega) []; done)))
        refine ⟨_, _, _, _, ?_, ⟨k + 1, by omega, rfl, hkn', by rw [hvt, List.reverse_append]; rfl, rfl, by simp (disch := omega) only [upd_eq, upd_ne, hb0], by simp (disch := omega) only [upd_eq, upd_ne, hb5], by omega, (by repeat (first | exact Over.refl _ | exact hov | refine Over.upd ?_ hB (by omega) | refine Over.del ?_ hB (by omega)))⟩, Weak.tau (by simp [LQ])⟩
        omega
    · have hk' : k = ts.length := by omega
      subst hk'
      rw [List.take_length] at *
      have hyes : msO ds ts = some (nmF (msP ds ts) (memF ds)) := by unfold msO; rw [if_pos ⟨hok, hkn⟩]
      have hml := memF_len ds
      have hrev : ∀ d : Df, (!decide (d.2 ∈ (vlL ds ts).reverse)) = msP ds ts d := fun d => by simp [msP]
      repeat' (first
        | refine SWP.seq ?_
        | refine SWP.block ?_
        | (refine SWP.skip ?_; simp only [thenS, blockS, reduceIte])
        | (refine SWP.exit ?_; simp only [thenS, blockS, eq_self, reduceIte, Nat.reduceEqDiff, Nat.succ_ne_zero])
        | (refine SWP.ret ?_; simp only [thenS, blockS, reduceIte])
        | (refine SWP.region (by rfl) (fun KK hKK iS hS => ?_); (repeat (simp (disch := omega) [hl1, hb0, hb5])); first | (refine hKK _ _ _ ?_; clear hS iS hKK KK; simp only [thenS, blockS, reduceIte]) | skip)
        | (refine SWP.if_t ?_ ?_; focus (simp (disch := omega) [hl1, hb0, hb5]; done))
        | (refine SWP.if_f ?_ ?_; focus (simp (disch := omega) [hl1, hb0, hb5]; done)))
      refine aStop_of ((members_c _ _ _ ds (hx'.vw ((Vw.refl _).over (by repeat (first | exact Over.refl _ | exact hov | refine Over.upd ?_ hB (by omega) | refine Over.del ?_ hB (by omega))))) hlen).side) ?_
      rintro r δ ⟨rfl, rfl⟩
      (repeat (simp (disch := omega) []))
      first | (refine hKK _ _ _ ?_; clear hS iS hKK KK; simp only [thenS, blockS, reduceIte]) | skip
      have hcl : ∀ s' : Sto, Vw (upd σ' M (blkD (memF ds))) s' → ∀ ν', ∀ d ∈ memF ds, AC Try.prog 73 [.agg [.v (.string d.1), .v (.int .i64 d.2)], .ptr (K + 1 + 2) 0 0] s' ν' fun r δ => r = .v (.bool (msP ds ts d)) ∧ δ = noS := fun s' hv' ν' d hd => by
        obtain ⟨r0, hr0⟩ := hv' (K + 1 + 2) ⟨93, 1, [[.v (.map (some g))]], true⟩ (by simp (disch := omega) only [upd_ne, hb5])
        obtain ⟨i, hi, rfl⟩ := List.mem_iff_getElem.1 (memF_sub ds d hd)
        obtain ⟨_, h2, h3, _⟩ := okDs_at hok hi
        have h4 := missed1_c hS.map s' ν' ds[i] (K + 1 + 2) r0 hr0 ⟨by omega, by omega⟩
        rwa [hrev] at h4
      refine aStop_of (names_c _ _ _ _ _ (memF ds) (msP ds ts) (Sl.whole (t := 34) (r := true) (by simp (disch := omega)) (by simp [rowsD_len])) (by omega) hcl) ?_
      rintro r δ ⟨rfl, rfl⟩
      (repeat (simp (disch := omega) []))
      first | (refine hKK _ _ _ ?_; clear hS iS hKK KK; simp only [thenS, blockS, reduceIte]) | skip
      clear hcl
      refine hKK _ _ _ ?_
      clear hS iS hKK KK
      simp only [thenS, blockS, reduceIte]
      repeat' (first
        | refine SWP.seq ?_
        | refine SWP.block ?_
        | (refine SWP.skip ?_; simp only [thenS, blockS, reduceIte])
        | (refine SWP.exit ?_; simp only [thenS, blockS, eq_self, reduceIte, Nat.reduceEqDiff, Nat.succ_ne_zero])
        | (refine SWP.ret ?_; simp only [thenS, blockS, reduceIte])
        | (refine SWP.region (by rfl) (fun KK hKK iS hS => ?_); (repeat (simp (disch := omega) [])); first | (refine hKK _ _ _ ?_; clear hS iS hKK KK; simp only [thenS, blockS, reduceIte]) | skip)
        | (refine SWP.if_t ?_ ?_; focus (simp (disch := omega) []; done))
        | (refine SWP.if_f ?_ ?_; focus (simp (disch := omega) []; done)))
      rw [hyes, sOut_some, dOutS_some]
      refine ⟨by simp, _, rfl, fin1 ((M + 2)) (blkS (nmF (msP ds ts) (memF ds))) (by simp (disch := omega)) rfl (flatS _) ⟨?_, rfl⟩ (by omega) (by simp [resO, get, nms, nmss])⟩
      simp [resO, get, ren, rens, rho]
end Go.Proofs.Ytgaiemhbllbaiaa
