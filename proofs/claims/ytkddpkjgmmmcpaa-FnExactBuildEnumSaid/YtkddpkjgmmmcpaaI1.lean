/- Contracts: items of enumerations, in the program and in the reference. No condition. -/
import Derived.Test.YtkddpkjgmmmcpaaB1
import Derived.Test.YtkddpkjgmmmcpaaLC
import Derived.Test.YtkddpkjgmmmcpaaLB
set_option linter.unusedSimpArgs false
set_option linter.unusedVariables false
namespace Go.Proofs.Ytkddpkjgmmmcpaa
open Go Go.RowKit

abbrev It := ByteArray × Bool × Int
def rowT (t : It) : List AV := [.v (.string t.1), .v (.bool t.2.1), .v (.int .i64 t.2.2)]
def rowsT (l : List It) : List (List AV) := l.map rowT
theorem rowsT_len (l : List It) : (rowsT l).length = l.length := by simp [rowsT]
theorem rowsT_get (l : List It) (i : Nat) (h : i < l.length) : (rowsT l)[i]'(by rw [rowsT_len]; exact h) = [.v (.string l[i].1), .v (.bool l[i].2.1), .v (.int .i64 l[i].2.2)] := by simp [rowsT, rowT]
theorem rowsT_at (l : List It) (i : Nat) (h : i < l.length) : (rowsT l)[i]? = some [.v (.string l[i].1), .v (.bool l[i].2.1), .v (.int .i64 l[i].2.2)] := by simp [rowsT, rowT, h]
theorem rowsT_snoc (l : List It) (s : ByteArray) (a : Bool) (n : Int) : rowsT l ++ [[.v (.string s), .v (.bool a), .v (.int .i64 n)]] = rowsT (l ++ [(s, a, n)]) := by simp [rowsT, rowT]
theorem rowsT_take (l : List It) : (rowsT l).take l.length = rowsT l := List.take_of_length_le (by rw [rowsT_len]; exact Nat.le_refl _)
abbrev blkT (l : List It) : Blk := ⟨112, 3, rowsT l, true⟩
theorem flatT (l : List It) : flatB (blkT l) := by
  intro e he v hv
  simp only [rowsT, List.mem_map] at he
  obtain ⟨d, _, rfl⟩ := he
  simp only [rowT, List.mem_cons, List.not_mem_nil, or_false] at hv
  rcases hv with rfl | rfl | rfl <;> rfl

/-- The value behind all others. -/
def nxV (out : List Df) : Int := IntKind.wrap .i64 (grV out 0 + 1)
def bdS (out : List Df) (t : It) : List Df := out ++ [(t.1, if t.2.1 = true then nxV out else t.2.2)]
def bdL (its : List It) : List Df := its.foldl bdS []
theorem bdL_snoc (its : List It) (t : It) : bdL (its ++ [t]) = bdL its ++ [(t.1, if t.2.1 = true then nxV (bdL its) else t.2.2)] := by simp [bdL, bdS]
theorem bdL_take {its : List It} {k : Nat} (h : k < its.length) : bdL (its.take (k + 1)) = bdL (its.take k) ++ [(its[k].1, if its[k].2.1 = true then nxV (bdL (its.take k)) else its[k].2.2)] := by
  rw [List.take_succ_eq_append_getElem h, bdL_snoc]
theorem bdL_len : ∀ its : List It, (bdL its).length = its.length := by
  intro its
  induction its using rev_ind with
  | nil => rfl
  | snoc l t ih => rw [bdL_snoc]; simp [ih]
def itOk (t : It) : Bool := !t.2.1 || decide (t.2.2 = 0)
def blI (its : List It) : Option (List Df) := if its.all itOk = true then some (bdL its) else none
set_option maxRecDepth 10000 in
set_option maxHeartbeats 1000000 in
theorem buildEnum1_c (σ : Sto) (ν : Nat) (x : AV) (ds : List Df) (hx : Sl σ x 2 (rowsD ds)) (hlen : ds.length ≤ 9223372036854775807) :
    AC Try.prog 102 [x] σ ν fun r δ => r = .v (.int .i64 (nxV ds)) ∧ δ = noS := by
  obtain ⟨b, o, cap, z, rfl⟩ := hx.out
  simp only [rowsD_len] at hx ⊢
  refine AC.intro [] ent_102 Try.func102 rfl (by simp [Try.f102]) (by simp) ?_
  intro K s hs hB hn hν hA hFr
  simp only [argT, Nat.zero_add, Nat.reduceAdd]
  have hx' := hx.vw hs.vw
  repeat' (first
    | refine AWP.seq ?_
    | refine AWP.block ?_
    | (refine AWP.skip ?_; simp only [thenA, blockA, reduceIte])
    | (refine AWP.exit ?_; simp only [thenA, blockA, eq_self, reduceIte, Nat.reduceEqDiff, Nat.succ_ne_zero])
    | (refine AWP.ret ?_; simp only [thenA, blockA, reduceIte])
    | (refine AWP.region (by rfl) (fun KK hKK => ?_); (repeat (simp (disch := omega) [])); first | (refine hKK _ _ _ ?_; clear hKK KK; simp only [thenA, blockA, reduceIte]) | skip)
    | (refine AWP.if_t ?_ ?_; focus (simp (disch := omega) []; done))
    | (refine AWP.if_f ?_ ?_; focus (simp (disch := omega) []; done)))
  refine aStop_of (greatest_c _ _ _ ds 0 (hx'.vw ((Vw.refl _).over (by repeat (first | exact Over.refl _ | exact hov | refine Over.upd ?_ hB (by omega) | refine Over.del ?_ hB (by omega))))) (by omega)) ?_
  rintro r δ ⟨rfl, rfl⟩
  (repeat (simp (disch := omega) []))
  first | (refine hKK _ _ _ ?_; clear hKK KK; simp only [thenA, blockA, reduceIte]) | skip
  repeat' (first
    | refine AWP.seq ?_
    | refine AWP.block ?_
    | (refine AWP.skip ?_; simp only [thenA, blockA, reduceIte])
    | (refine AWP.exit ?_; simp only [thenA, blockA, eq_self, reduceIte, Nat.reduceEqDiff, Nat.succ_ne_zero])
    | (refine AWP.ret ?_; simp only [thenA, blockA, reduceIte])
    | (refine AWP.region (by rfl) (fun KK hKK => ?_); (repeat (simp (disch := omega) [])); first | (refine hKK _ _ _ ?_; clear hKK KK; simp only [thenA, blockA, reduceIte]) | skip)
    | (refine AWP.if_t ?_ ?_; focus (simp (disch := omega) []; done))
    | (refine AWP.if_f ?_ ?_; focus (simp (disch := omega) []; done)))
  refine ⟨by simp, _, rfl, fin0 ⟨?_, rfl⟩ (by simp [resO, get, nms, nmss]; try (simp [nms, nmss] at hn; simp_all))⟩
  simp [resO, get, ren, rens, nxV]

set_option maxRecDepth 10000 in
set_option maxHeartbeats 4000000 in
theorem build_c (σ : Sto) (ν : Nat) (x : AV) (its : List It) (hx : Sl σ x 3 (rowsT its)) (hlen : its.length ≤ 4294967296) :
    AC Try.prog 101 [x, .fn 102 []] σ ν fun r δ => r = .tup [eOut ν some (blI its), .v (.bool (blI its).isSome)] ∧ δ = dOut ν (blI its) := by
  obtain ⟨b, o, cap, z, rfl⟩ := hx.out
  simp only [rowsT_len] at hx ⊢
  refine AC.intro [] ent_101 Try.func101 rfl (by simp [Try.f101]) (by simp) ?_
  intro K s hs hB hn hν hA hFr
  simp only [argT, Nat.zero_add, Nat.reduceAdd]
  have hx' := hx.vw hs.vw
  have hbK : b < K := hA b (by simp [nmAs, nmA])
  have hK0 : ¬ 0 = K := by omega
  repeat' (first
    | refine AWP.seq ?_
    | refine AWP.block ?_
    | (refine AWP.skip ?_; simp only [thenA, blockA, reduceIte])
    | (refine AWP.exit ?_; simp only [thenA, blockA, eq_self, reduceIte, Nat.reduceEqDiff, Nat.succ_ne_zero])
    | (refine AWP.ret ?_; simp only [thenA, blockA, reduceIte])
    | (refine AWP.region (by rfl) (fun KK hKK => ?_); (repeat (simp (disch := omega) [])); first | (refine hKK _ _ _ ?_; clear hKK KK; simp only [thenA, blockA, reduceIte]) | skip)
    | (refine AWP.if_t ?_ ?_; focus (simp (disch := omega) []; done))
    | (refine AWP.if_f ?_ ?_; focus (simp (disch := omega) []; done)))
  refine AWP.weak (Weak.virt 6 61 2 0 0 0 (by simp) (by omega)) ?_
  refine AWP.loop (fun n τ σ' M => ∃ (k cb : Nat), k ≤ its.length ∧ n = its.length - k ∧ (∀ t ∈ its.take k, itOk t = true) ∧ τ = [(1, .fn 102 []), (6, .sl cb 0 (bdL (its.take k)).length none 2), (9, .sl b o its.length cap z), (10, .v (.int .i64 its.length)), (11, .v (.int .i64 k))] ∧ σ' cb = some (blkD (bdL (its.take k))) ∧ K ≤ cb ∧ cb < M ∧ Over s σ')
    ⟨_, _, _, _, ⟨0, K, by omega, rfl, by simp, rfl, (by simp only [upd_eq]; simp [bdL]; rfl), by omega, by omega, (by repeat (first | exact Over.refl _ | exact hov | refine Over.upd ?_ hB (by omega) | refine Over.del ?_ hB (by omega)))⟩, Weak.tau (by simp [LQ, bdL])⟩ ?_
  rintro n τ σ' M ⟨k, cb, hk, rfl, hall, rfl, hc0, hc1, hc2, hov⟩
  have htk : (bdL (its.take k)).length = k := by rw [bdL_len]; simp; omega
  by_cases hlt : k < its.length
  · obtain ⟨_, rfl, kb, hkb, hat⟩ := hx'.at (i := k) (by rw [rowsT_len]; exact hlt)
    rw [rowsT_get _ _ hlt] at hat
    have hkb' := hov _ _ hkb
    have hz1 : ((bdL (its.take k)).length + 1) * 24 ≤ 140737488355328 := by omega
    have hz2 : (bdL (its.take k)).length + 1 ≤ 4611686018427387904 := by omega
    have hst := bdL_take hlt
    cases ha : its[k].2.1 with
    | true =>
      by_cases h0 : its[k].2.2 = 0
      · rw [if_pos ha] at hst
        have hok : itOk its[k] = true := by simp [itOk, h0]
        repeat' (first
          | refine AWP.seq ?_
          | refine AWP.block ?_
          | (refine AWP.skip ?_; simp only [thenA, blockA, reduceIte])
          | (refine AWP.exit ?_; simp only [thenA, blockA, eq_self, reduceIte, Nat.reduceEqDiff, Nat.succ_ne_zero])
          | (refine AWP.ret ?_; simp only [thenA, blockA, reduceIte])
          | (refine AWP.region (by rfl) (fun KK hKK => ?_); (repeat (simp (disch := omega) [hlt, hkb', hat, ha, h0])); first | (refine hKK _ _ _ ?_; clear hKK KK; simp only [thenA, blockA, reduceIte]) | skip)
          | (refine AWP.if_t ?_ ?_; focus (simp (disch := omega) [hlt, hkb', hat, ha, h0]; done))
          | (refine AWP.if_f ?_ ?_; focus (simp (disch := omega) [hlt, hkb', hat, ha, h0]; done)))
        refine aStop_of (buildEnum1_c _ _ _ (bdL (its.take k)) (Sl.whole (t := 61) (r := true) (by simp (disch := omega) only [upd_eq, upd_ne, del_ne, hc0]) (by simp [rowsD_len])) (by omega)) ?_
        rintro r δ ⟨rfl, rfl⟩
        (repeat (simp (disch := omega) []))
        first | (refine hKK _ _ _ ?_; clear hKK KK; simp only [thenA, blockA, reduceIte]) | skip
        repeat' (first
          | refine AWP.seq ?_
          | refine AWP.block ?_
          | (refine AWP.skip ?_; simp only [thenA, blockA, reduceIte])
          | (refine AWP.exit ?_; simp only [thenA, blockA, eq_self, reduceIte, Nat.reduceEqDiff, Nat.succ_ne_zero])
          | (refine AWP.ret ?_; simp only [thenA, blockA, reduceIte])
          | (refine AWP.region (by rfl) (fun KK hKK => ?_); (repeat (simp (disch := omega) [elems, rowsD_len, rowsD_snoc, rowsD_take, hz1, hz2, hc0])); first | (refine hKK _ _ _ ?_; clear hKK KK; simp only [thenA, blockA, reduceIte]) | skip)
          | (refine AWP.if_t ?_ ?_; focus (simp (disch := omega) [elems, rowsD_len, rowsD_snoc, rowsD_take, hz1, hz2, hc0]; done))
          | (refine AWP.if_f ?_ ?_; focus (simp (disch := omega) [elems, rowsD_len, rowsD_snoc, rowsD_take, hz1, hz2, hc0]; done)))
        refine ⟨_, _, _, _, ?_, ⟨k + 1, M + 1 + 2 + 1, by omega, rfl, tk_all hlt hall hok, rfl, by rw [hst]; simp (disch := omega) only [upd_eq, upd_ne, del_ne], by omega, by omega, (by repeat (first | exact Over.refl _ | exact hov | refine Over.upd ?_ hB (by omega) | refine Over.del ?_ hB (by omega)))⟩, Weak.tau (by rw [hst]; simp [LQ, htk])⟩
        omega
      · have hok : itOk its[k] = false := by simp [itOk, h0, ha]
        have hn' : blI its = none := if_neg (all_no' hlt hok)
        repeat' (first
          | refine AWP.seq ?_
          | refine AWP.block ?_
          | (refine AWP.skip ?_; simp only [thenA, blockA, reduceIte])
          | (refine AWP.exit ?_; simp only [thenA, blockA, eq_self, reduceIte, Nat.reduceEqDiff, Nat.succ_ne_zero])
          | (refine AWP.ret ?_; simp only [thenA, blockA, reduceIte])
          | (refine AWP.region (by rfl) (fun KK hKK => ?_); (repeat (simp (disch := omega) [hlt, hkb', hat, ha, h0])); first | (refine hKK _ _ _ ?_; clear hKK KK; simp only [thenA, blockA, reduceIte]) | skip)
          | (refine AWP.if_t ?_ ?_; focus (simp (disch := omega) [hlt, hkb', hat, ha, h0]; done))
          | (refine AWP.if_f ?_ ?_; focus (simp (disch := omega) [hlt, hkb', hat, ha, h0]; done)))
        rw [hn']
        refine ⟨by simp, _, rfl, fin0 ⟨?_, rfl⟩ (by simp [resO, get, nms, nmss]; try (simp [nms, nmss] at hn; simp_all))⟩
        simp [resO, get, ren, rens, rho, hK0, eOut, dOut]
    | false =>
      rw [if_neg (by rw [ha]; simp)] at hst
      have hok : itOk its[k] = true := by simp [itOk, ha]
      repeat' (first
        | refine AWP.seq ?_
        | refine AWP.block ?_
        | (refine AWP.skip ?_; simp only [thenA, blockA, reduceIte])
        | (refine AWP.exit ?_; simp only [thenA, blockA, eq_self, reduceIte, Nat.reduceEqDiff, Nat.succ_ne_zero])
        | (refine AWP.ret ?_; simp only [thenA, blockA, reduceIte])
        | (refine AWP.region (by rfl) (fun KK hKK => ?_); (repeat (simp (disch := omega) [hlt, hkb', hat, ha, elems, rowsD_len, rowsD_snoc, rowsD_take, hz1, hz2, hc0])); first | (refine hKK _ _ _ ?_; clear hKK KK; simp only [thenA, blockA, reduceIte]) | skip)
        | (refine AWP.if_t ?_ ?_; focus (simp (disch := omega) [hlt, hkb', hat, ha, elems, rowsD_len, rowsD_snoc, rowsD_take, hz1, hz2, hc0]; done))
        | (refine AWP.if_f ?_ ?_; focus (simp (disch := omega) [hlt, hkb', hat, ha, elems, rowsD_len, rowsD_snoc, rowsD_take, hz1, hz2, hc0]; done)))
      refine ⟨_, _, _, _, ?_, ⟨k + 1, M + 1 + 1, by omega, rfl, tk_all hlt hall hok, rfl, by rw [hst]; simp (disch := omega) only [upd_eq, upd_ne, del_ne], by omega, by omega, (by repeat (first | exact Over.refl _ | exact hov | refine Over.upd ?_ hB (by omega) | refine Over.del ?_ hB (by omega)))⟩, Weak.tau (by rw [hst]; simp [LQ, htk])⟩
      omega
  · have hk' : k = its.length := by omega
    subst hk'
    rw [List.take_length] at *
    have hs' : blI its = some (bdL its) := if_pos (List.all_eq_true.2 hall)
    repeat' (first
      | refine AWP.seq ?_
      | refine AWP.block ?_
      | (refine AWP.skip ?_; simp only [thenA, blockA, reduceIte])
      | (refine AWP.exit ?_; simp only [thenA, blockA, eq_self, reduceIte, Nat.reduceEqDiff, Nat.succ_ne_zero])
      | (refine AWP.ret ?_; simp only [thenA, blockA, reduceIte])
      | (refine AWP.region (by rfl) (fun KK hKK => ?_); (repeat (simp (disch := omega) [htk])); first | (refine hKK _ _ _ ?_; clear hKK KK; simp only [thenA, blockA, reduceIte]) | skip)
      | (refine AWP.if_t ?_ ?_; focus (simp (disch := omega) [htk]; done))
      | (refine AWP.if_f ?_ ?_; focus (simp (disch := omega) [htk]; done)))
    refine aStop_of (clipD_c _ _ cb 0 _ (by omega)) ?_
    rintro r δ ⟨rfl, rfl⟩
    (repeat (simp (disch := omega) []))
    first | (refine hKK _ _ _ ?_; clear hKK KK; simp only [thenA, blockA, reduceIte]) | skip
    repeat' (first
      | refine AWP.seq ?_
      | refine AWP.block ?_
      | (refine AWP.skip ?_; simp only [thenA, blockA, reduceIte])
      | (refine AWP.exit ?_; simp only [thenA, blockA, eq_self, reduceIte, Nat.reduceEqDiff, Nat.succ_ne_zero])
      | (refine AWP.ret ?_; simp only [thenA, blockA, reduceIte])
      | (refine AWP.region (by rfl) (fun KK hKK => ?_); (repeat (simp (disch := omega) [])); first | (refine hKK _ _ _ ?_; clear hKK KK; simp only [thenA, blockA, reduceIte]) | skip)
      | (refine AWP.if_t ?_ ?_; focus (simp (disch := omega) []; done))
      | (refine AWP.if_f ?_ ?_; focus (simp (disch := omega) []; done)))
    rw [hs']
    refine ⟨by simp, _, rfl, fin1 cb (blkD (bdL its)) (by simp (disch := omega) only [upd_eq, upd_ne, del_ne, hc0]; try rfl) rfl (flatD _) ⟨by simp [resO, get, ren, rens, rho, eOut, htk], by simp [dOut]⟩ (by omega) (by simp [resO, get, nms, nmss])⟩

def blO (its : List It) : Option (List Df) := if its.length ≤ 12 ∧ its.all itOk = true ∧ okDs (-1000) 1000 (bdL its) = true then some (bdL its) else none
theorem bdL_sz : ∀ its : List It, (∀ t ∈ its, t.1.size ≤ 9223372036854775807) → ∀ d ∈ bdL its, d.1.size ≤ 9223372036854775807 := by
  intro its
  induction its using rev_ind with
  | nil => intro _ d hd; simp [bdL] at hd
  | snoc l t ih =>
    intro h d hd
    rw [bdL_snoc] at hd
    rcases List.mem_append.1 hd with hd | hd
    · exact ih (fun u hu => h u (by simp [hu])) d hd
    · rw [List.mem_singleton.1 hd]; exact h t (by simp)

set_option maxRecDepth 10000 in
set_option maxHeartbeats 2000000 in
theorem buildEnum_c (σ : Sto) (ν : Nat) (x : AV) (its : List It) (hx : Sl σ x 3 (rowsT its)) (hlen : its.length ≤ 4294967296) (hsz : ∀ t ∈ its, t.1.size ≤ 9223372036854775807) :
    AC Try.prog 57 [x] σ ν fun r δ => r = .tup [.agg [eOut ν some (blO its)], .v (.bool (blO its).isSome)] ∧ δ = dOut ν (blO its) := by
  obtain ⟨b, o, cap, z, rfl⟩ := hx.out
  simp only [rowsT_len] at hx ⊢
  refine AC.intro [] ent_57 Try.func57 rfl (by simp [Try.f57]) (by simp) ?_
  intro K s hs hB hn hν hA hFr
  simp only [argT, Nat.zero_add, Nat.reduceAdd]
  have hx' := hx.vw hs.vw
  have hbK : b < K := hA b (by simp [nmAs, nmA])
  have hK0 : ¬ 0 = K := by omega
  by_cases h12 : (12 : Int) < its.length
  · have ho : blO its = none := by unfold blO; rw [if_neg (by omega)]
    repeat' (first
      | refine AWP.seq ?_
      | refine AWP.block ?_
      | (refine AWP.skip ?_; simp only [thenA, blockA, reduceIte])
      | (refine AWP.exit ?_; simp only [thenA, blockA, eq_self, reduceIte, Nat.reduceEqDiff, Nat.succ_ne_zero])
      | (refine AWP.ret ?_; simp only [thenA, blockA, reduceIte])
      | (refine AWP.region (by rfl) (fun KK hKK => ?_); (repeat (simp (disch := omega) [h12])); first | (refine hKK _ _ _ ?_; clear hKK KK; simp only [thenA, blockA, reduceIte]) | skip)
      | (refine AWP.if_t ?_ ?_; focus (simp (disch := omega) [h12]; done))
      | (refine AWP.if_f ?_ ?_; focus (simp (disch := omega) [h12]; done)))
    refine ⟨by simp, ?_⟩
    have hres : Try.f57.results.toList = [.cell 2 31, .tmp 3] := rfl
    rw [hres]
    simp (disch := omega) []
    rw [ho]
    refine fin0 ⟨?_, rfl⟩ (by simp [resO, nms, nmss])
    simp [resO, ren, rens, rho, hK0, eOut]
  repeat' (first
    | refine AWP.seq ?_
    | refine AWP.block ?_
    | (refine AWP.skip ?_; simp only [thenA, blockA, reduceIte])
    | (refine AWP.exit ?_; simp only [thenA, blockA, eq_self, reduceIte, Nat.reduceEqDiff, Nat.succ_ne_zero])
    | (refine AWP.ret ?_; simp only [thenA, blockA, reduceIte])
    | (refine AWP.region (by rfl) (fun KK hKK => ?_); (repeat (simp (disch := omega) [h12])); first | (refine hKK _ _ _ ?_; clear hKK KK; simp only [thenA, blockA, reduceIte]) | skip)
    | (refine AWP.if_t ?_ ?_; focus (simp (disch := omega) [h12]; done))
    | (refine AWP.if_f ?_ ?_; focus (simp (disch := omega) [h12]; done)))
  by_cases ha : its.all itOk = true
  · have hb' : blI its = some (bdL its) := if_pos ha
    refine aStop_of (build_c _ _ _ its (hx'.vw ((Vw.refl _).over (by repeat (first | exact Over.refl _ | exact hov | refine Over.upd ?_ hB (by omega) | refine Over.del ?_ hB (by omega))))) hlen) ?_
    rintro r δ ⟨rfl, rfl⟩
    (repeat (simp (disch := omega) [hb', eOut, dOut]))
    first | (refine hKK _ _ _ ?_; clear hKK KK; simp only [thenA, blockA, reduceIte]) | skip
    have hds := bdL_sz its hsz
    have hdl := bdL_len its
    cases hok : okDs (-1000) 1000 (bdL its) with
    | true =>
      have ho : blO its = some (bdL its) := if_pos ⟨by omega, ha, hok⟩
      refine aStop_of (enumOf_yes _ _ _ (bdL its) (by first | exact (Sl.whole (t := 61) (r := true) (by simp (disch := omega) only [upd_eq, upd_ne, del_ne]) (by simp [rowsD_len])) | exact (Sl.whole (t := 61) (r := true) ((hσ' _ (by simp)).trans (by simp (disch := omega) only [upd_eq, upd_ne, del_ne])) (by simp [rowsD_len]))) (by omega) hds hok) ?_
      rintro r δ ⟨rfl, rfl⟩
      (repeat (simp (disch := omega) []))
      first | (refine hKK _ _ _ ?_; clear hKK KK; simp only [thenA, blockA, reduceIte]) | skip
      repeat' (first
        | refine AWP.seq ?_
        | refine AWP.block ?_
        | (refine AWP.skip ?_; simp only [thenA, blockA, reduceIte])
        | (refine AWP.exit ?_; simp only [thenA, blockA, eq_self, reduceIte, Nat.reduceEqDiff, Nat.succ_ne_zero])
        | (refine AWP.ret ?_; simp only [thenA, blockA, reduceIte])
        | (refine AWP.region (by rfl) (fun KK hKK => ?_); (repeat (simp (disch := omega) [])); first | (refine hKK _ _ _ ?_; clear hKK KK; simp only [thenA, blockA, reduceIte]) | skip)
        | (refine AWP.if_t ?_ ?_; focus (simp (disch := omega) []; done))
        | (refine AWP.if_f ?_ ?_; focus (simp (disch := omega) []; done)))
      refine ⟨by simp, ?_⟩
      have hres : Try.f57.results.toList = [.cell 2 31, .tmp 3] := rfl
      rw [hres]
      simp (disch := omega) []
      rw [ho]
      refine fin1 (K + 1 + 2) (blkD (bdL its)) (by simp (disch := omega) only [upd_eq, upd_ne]) rfl (flatD _) ⟨?_, by simp [dOut]⟩ (by omega) (by simp [resO, nms, nmss])
      simp [resO, ren, rens, rho, eOut]
    | false =>
      have ho : blO its = none := by unfold blO; rw [if_neg (by simp [hok])]
      refine aStop_of (enumOf_no _ _ _ true (bdL its) (by first | exact (Sl.whole (t := 61) (r := true) (by simp (disch := omega) only [upd_eq, upd_ne, del_ne]) (by simp [rowsD_len])) | exact (Sl.whole (t := 61) (r := true) ((hσ' _ (by simp)).trans (by simp (disch := omega) only [upd_eq, upd_ne, del_ne])) (by simp [rowsD_len]))) (by omega) hds (by simp [hok])) ?_
      rintro r δ ⟨rfl, rfl⟩
      (repeat (simp (disch := omega) []))
      first | (refine hKK _ _ _ ?_; clear hKK KK; simp only [thenA, blockA, reduceIte]) | skip
      repeat' (first
        | refine AWP.seq ?_
        | refine AWP.block ?_
        | (refine AWP.skip ?_; simp only [thenA, blockA, reduceIte])
        | (refine AWP.exit ?_; simp only [thenA, blockA, eq_self, reduceIte, Nat.reduceEqDiff, Nat.succ_ne_zero])
        | (refine AWP.ret ?_; simp only [thenA, blockA, reduceIte])
        | (refine AWP.region (by rfl) (fun KK hKK => ?_); (repeat (simp (disch := omega) [])); first | (refine hKK _ _ _ ?_; clear hKK KK; simp only [thenA, blockA, reduceIte]) | skip)
        | (refine AWP.if_t ?_ ?_; focus (simp (disch := omega) []; done))
        | (refine AWP.if_f ?_ ?_; focus (simp (disch := omega) []; done)))
      refine ⟨by simp, ?_⟩
      have hres : Try.f57.results.toList = [.cell 2 31, .tmp 3] := rfl
      rw [hres]
      simp (disch := omega) []
      rw [ho]
      refine fin0 ⟨?_, rfl⟩ (by simp [resO, nms, nmss])
      simp [resO, ren, rens, rho, hK0, eOut]
  · have hb' : blI its = none := if_neg ha
    have ho : blO its = none := by unfold blO; rw [if_neg (by simp [ha])]
    refine aStop_of (build_c _ _ _ its (hx'.vw ((Vw.refl _).over (by repeat (first | exact Over.refl _ | exact hov | refine Over.upd ?_ hB (by omega) | refine Over.del ?_ hB (by omega))))) hlen) ?_
    rintro r δ ⟨rfl, rfl⟩
    (repeat (simp (disch := omega) [hb', eOut, dOut]))
    first | (refine hKK _ _ _ ?_; clear hKK KK; simp only [thenA, blockA, reduceIte]) | skip
    refine aStop_of (enumOf_no _ _ nilA false [] (Sl.nil _ _ _ _ _) (by simp) (by simp) (by simp)) ?_
    rintro r δ ⟨rfl, rfl⟩
    (repeat (simp (disch := omega) []))
    first | (refine hKK _ _ _ ?_; clear hKK KK; simp only [thenA, blockA, reduceIte]) | skip
    repeat' (first
      | refine AWP.seq ?_
      | refine AWP.block ?_
      | (refine AWP.skip ?_; simp only [thenA, blockA, reduceIte])
      | (refine AWP.exit ?_; simp only [thenA, blockA, eq_self, reduceIte, Nat.reduceEqDiff, Nat.succ_ne_zero])
      | (refine AWP.ret ?_; simp only [thenA, blockA, reduceIte])
      | (refine AWP.region (by rfl) (fun KK hKK => ?_); (repeat (simp (disch := omega) [])); first | (refine hKK _ _ _ ?_; clear hKK KK; simp only [thenA, blockA, reduceIte]) | skip)
      | (refine AWP.if_t ?_ ?_; focus (simp (disch := omega) []; done))
      | (refine AWP.if_f ?_ ?_; focus (simp (disch := omega) []; done)))
    refine ⟨by simp, ?_⟩
    have hres : Try.f57.results.toList = [.cell 2 31, .tmp 3] := rfl
    rw [hres]
    simp (disch := omega) []
    rw [ho]
    refine fin0 ⟨?_, rfl⟩ (by simp [resO, nms, nmss])
    simp [resO, ren, rens, rho, hK0, eOut]
end Go.Proofs.Ytkddpkjgmmmcpaa
