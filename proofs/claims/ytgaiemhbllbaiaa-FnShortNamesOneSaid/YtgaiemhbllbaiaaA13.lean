/- Contracts: names that fit into a value, in the program and in the reference. No condition but sizes. -/
import Derived.Test.YtgaiemhbllbaiaaCl
import Derived.Test.YtgaiemhbllbaiaaF7
import Derived.Test.YtgaiemhbllbaiaaF9
import Derived.Test.YtgaiemhbllbaiaaCE4
set_option linter.unusedSimpArgs false
set_option linter.unusedVariables false
namespace Go.Proofs.Ytgaiemhbllbaiaa
open Go Go.RowKit

/-- A definition whose bits a number all has. -/
def ftP (a : Nat) (d : Df) : Bool := decide (0 < d.2) && decide (d.2.toNat - (d.2.toNat &&& a) = 0)
set_option maxRecDepth 10000 in
set_option maxHeartbeats 1000000 in
theorem fit1_c (σ : Sto) (ν : Nat) (d : Df) (a : Nat) (b : Nat) (r0 : Bool) (hb : σ b = some ⟨3, 1, [[.v (.int .i64 a)]], r0⟩) (h : 0 ≤ d.2 ∧ d.2 ≤ 4095) (ha : a < 4096) :
    AC Try.prog 116 [.agg [.v (.string d.1), .v (.int .i64 d.2)], .ptr b 0 0] σ ν fun r δ => r = .v (.bool (!ftP a d)) ∧ δ = noS := by
  obtain ⟨t, n⟩ := d
  simp only at h ⊢
  obtain ⟨m, rfl⟩ := Int.eq_ofNat_of_zero_le h.1
  have hm : m < 4096 := by omega
  have hft : ftP a (t, (m : Int)) = (decide (0 < m) && decide (m - (m &&& a) = 0)) := by
    unfold ftP
    simp only [Int.toNat_natCast]
    congr 1
    rw [decide_eq_decide]
    omega
  have han := i_andNot m a (by omega) (by omega)
  generalize hQ : m - (m &&& a) = Q at *
  refine AC.intro [] ent_116 Try.func116 rfl (by simp [Try.f116]) (by simp) ?_
  intro K s hs hB hn hν hA hFr
  simp only [argT, Nat.zero_add, Nat.reduceAdd]
  obtain ⟨r1, hsb⟩ := hs.vw b _ hb
  have hbK : b < K := (hB b _ hsb).1
  by_cases h0 : m = 0
  · have h0i : (m : Int) = 0 := by omega
    have hf0 : ftP a (t, 0) = false := rfl
    repeat' (first
      | refine AWP.seq ?_
      | refine AWP.block ?_
      | (refine AWP.skip ?_; simp only [thenA, blockA, reduceIte])
      | (refine AWP.exit ?_; simp only [thenA, blockA, eq_self, reduceIte, Nat.reduceEqDiff, Nat.succ_ne_zero])
      | (refine AWP.ret ?_; simp only [thenA, blockA, reduceIte])
      | (refine AWP.region (by rfl) (fun KK hKK => ?_); (repeat (simp (disch := omega) [hsb, h0, h0i])); first | (refine hKK _ _ _ ?_; clear hKK KK; simp only [thenA, blockA, reduceIte]) | skip)
      | (refine AWP.if_t ?_ ?_; focus (simp (disch := omega) [hsb, h0, h0i]; done))
      | (refine AWP.if_f ?_ ?_; focus (simp (disch := omega) [hsb, h0, h0i]; done)))
    refine ⟨by simp, _, rfl, fin0 ⟨?_, rfl⟩ (by simp [resO, get, nms, nmss]; try (simp [nms, nmss] at hn; simp_all))⟩
    simp [resO, get, ren, rens, hf0, h0]
  · have h0i : ¬ (m : Int) = 0 := by omega
    have h0p : 0 < m := by omega
    by_cases h1 : Q = 0
    · have h1i : (Q : Int) = 0 := by omega
      repeat' (first
        | refine AWP.seq ?_
        | refine AWP.block ?_
        | (refine AWP.skip ?_; simp only [thenA, blockA, reduceIte])
        | (refine AWP.exit ?_; simp only [thenA, blockA, eq_self, reduceIte, Nat.reduceEqDiff, Nat.succ_ne_zero])
        | (refine AWP.ret ?_; simp only [thenA, blockA, reduceIte])
        | (refine AWP.region (by rfl) (fun KK hKK => ?_); (repeat (simp (disch := omega) [hsb, h0, h0i, han, h1, h1i])); first | (refine hKK _ _ _ ?_; clear hKK KK; simp only [thenA, blockA, reduceIte]) | skip)
        | (refine AWP.if_t ?_ ?_; focus (simp (disch := omega) [hsb, h0, h0i, han, h1, h1i]; done))
        | (refine AWP.if_f ?_ ?_; focus (simp (disch := omega) [hsb, h0, h0i, han, h1, h1i]; done)))
      refine ⟨by simp, _, rfl, fin0 ⟨?_, rfl⟩ (by simp [resO, get, nms, nmss]; try (simp [nms, nmss] at hn; simp_all))⟩
      simp [resO, get, ren, rens, hft, h0p, h1]
    · have h1i : ¬ (Q : Int) = 0 := by omega
      repeat' (first
        | refine AWP.seq ?_
        | refine AWP.block ?_
        | (refine AWP.skip ?_; simp only [thenA, blockA, reduceIte])
        | (refine AWP.exit ?_; simp only [thenA, blockA, eq_self, reduceIte, Nat.reduceEqDiff, Nat.succ_ne_zero])
        | (refine AWP.ret ?_; simp only [thenA, blockA, reduceIte])
        | (refine AWP.region (by rfl) (fun KK hKK => ?_); (repeat (simp (disch := omega) [hsb, h0, h0i, han, h1, h1i])); first | (refine hKK _ _ _ ?_; clear hKK KK; simp only [thenA, blockA, reduceIte]) | skip)
        | (refine AWP.if_t ?_ ?_; focus (simp (disch := omega) [hsb, h0, h0i, han, h1, h1i]; done))
        | (refine AWP.if_f ?_ ?_; focus (simp (disch := omega) [hsb, h0, h0i, han, h1, h1i]; done)))
      refine ⟨by simp, _, rfl, fin0 ⟨?_, rfl⟩ (by simp [resO, get, nms, nmss]; try (simp [nms, nmss] at hn; simp_all))⟩
      simp [resO, get, ren, rens, hft, h0p, h1]
theorem filter_take_yes {p : Df → Bool} {ds : List Df} {k : Nat} (h : k < ds.length) (hp : p ds[k] = true) : (ds.take (k + 1)).filter p = (ds.take k).filter p ++ [ds[k]] := by
  rw [List.take_succ_eq_append_getElem h, List.filter_append, List.filter_cons_of_pos hp]
  rfl
theorem filter_take_no {p : Df → Bool} {ds : List Df} {k : Nat} (h : k < ds.length) (hp : p ds[k] = false) : (ds.take (k + 1)).filter p = (ds.take k).filter p := by
  rw [List.take_succ_eq_append_getElem h, List.filter_append, List.filter_cons_of_neg (by rw [hp]; simp)]
  simp
def rowN (p : Df → Bool) (e : List AV) : Bool := match e with
  | [.v (.string s), .v (.int .i64 n)] => p (s, n)
  | _ => false
theorem idx_rows (p : Df → Bool) (ds : List Df) : idx (rowN p) (rowsD ds) = idx p ds := by
  unfold idx rowsD
  rw [List.findIdx?_map]
  have : rowN p ∘ rowD = p := by funext d; rfl
  rw [this]
set_option maxRecDepth 10000 in
set_option maxHeartbeats 4000000 in
theorem deleteFit_c (σ : Sto) (ν b cb a : Nat) (cap0 : Option Nat) (r0 : Bool) (ds : List Df) (hb : σ b = some (blkD ds)) (hc : σ cb = some ⟨3, 1, [[.v (.int .i64 a)]], r0⟩) (hne : b ≠ cb) (hlen : ds.length ≤ 4294967296) (hv : ∀ d ∈ ds, 0 ≤ d.2 ∧ d.2 ≤ 4095) (ha : a < 4096) :
    AC Try.prog 115 [.sl b 0 ds.length cap0 2, .fn 116 [.ptr cb 0 0]] σ ν fun r δ => r = .sl b 0 (ds.filter (ftP a)).length cap0 2 ∧ δ = upd noS b (blkD (ds.filter (ftP a))) := by
  refine AC.intro [b] ent_115 Try.func115 rfl (by simp [Try.f115]) (by simp [hb]) ?_
  intro K s hs hB hn hν hA hFr
  simp only [argT, Nat.zero_add, Nat.reduceAdd]
  have hsb : s b = some (blkD ds) := by rw [hs b, hb]; simp
  obtain ⟨hbK, hlo⟩ := hB b _ hsb
  obtain ⟨r1, hsc⟩ := hs.vw cb _ hc
  have hcK : cb < K := (hB cb _ hsc).1
  have hcl : ∀ s', (∃ r, s' cb = some ⟨3, 1, [[.v (.int .i64 a)]], r⟩) → ∀ ν, ∀ d ∈ ds, AC Try.prog 116 (.agg [.v (.string d.1), .v (.int .i64 d.2)] :: [.ptr cb 0 0]) s' ν fun r δ => r = .v (.bool (!ftP a d)) ∧ δ = noS := fun s' ⟨r, hr⟩ ν d hd => fit1_c s' ν d a cb r hr (hv d hd) ha
  have hcl2 : ∀ s', Vw s s' → ∀ ν, ∀ e ∈ rowsD ds, AC Try.prog 116 (.agg e :: [.ptr cb 0 0]) s' ν fun r δ => r = .v (.bool (rowN (fun d => !ftP a d) e)) ∧ δ = noS := fun s' hv' ν e he => by
    obtain ⟨d, hd, rfl⟩ := List.mem_map.1 he
    exact hcl s' (hv' cb _ hsc) ν d hd
  have hix := idx_rows (fun d => !ftP a d) ds
  have hx' : Sl s (.sl b 0 ds.length cap0 2) 2 (rowsD ds) := Sl.whole (t := 34) (r := true) hsb (by rw [rowsD_len])
  repeat' (first
    | refine AWP.seq ?_
    | refine AWP.block ?_
    | (refine AWP.skip ?_; simp only [thenA, blockA, reduceIte])
    | (refine AWP.exit ?_; simp only [thenA, blockA, eq_self, reduceIte, Nat.reduceEqDiff, Nat.succ_ne_zero])
    | (refine AWP.ret ?_; simp only [thenA, blockA, reduceIte])
    | (refine AWP.region (by rfl) (fun KK hKK => ?_); (repeat (simp (disch := omega) [])); first | (refine hKK _ _ _ ?_; clear hKK KK; simp only [thenA, blockA, reduceIte]) | skip)
    | (refine AWP.if_t ?_ ?_; focus (simp (disch := omega) []; done))
    | (refine AWP.if_f ?_ ?_; focus (simp (disch := omega) []; done)))
  refine aStop_of (indexFunc_c _ _ _ _ [.ptr cb 0 0] (rowsD ds) (rowN fun d => !ftP a d) hx' (by intro e he; obtain ⟨d, _, rfl⟩ := List.mem_map.1 he; rfl) (by rw [rowsD_len]; omega) hcl2) ?_
  rintro r δ ⟨rfl, rfl⟩
  (repeat (simp (disch := omega) [hix]))
  first | (refine hKK _ _ _ ?_; clear hKK KK; simp only [thenA, blockA, reduceIte]) | skip
  rcases idx_cases (fun d => !ftP a d) ds with ⟨e1, e2⟩ | ⟨i, hi, e1, e2, e3⟩
  · have hall : ds.filter (ftP a) = ds := List.filter_eq_self.2 fun d hd => by have := e2 d hd; simpa using this
    rw [hall]
    repeat' (first
      | refine AWP.seq ?_
      | refine AWP.block ?_
      | (refine AWP.skip ?_; simp only [thenA, blockA, reduceIte])
      | (refine AWP.exit ?_; simp only [thenA, blockA, eq_self, reduceIte, Nat.reduceEqDiff, Nat.succ_ne_zero])
      | (refine AWP.ret ?_; simp only [thenA, blockA, reduceIte])
      | (refine AWP.region (by rfl) (fun KK hKK => ?_); (repeat (simp (disch := omega) [e1])); first | (refine hKK _ _ _ ?_; clear hKK KK; simp only [thenA, blockA, reduceIte]) | skip)
      | (refine AWP.if_t ?_ ?_; focus (simp (disch := omega) [e1]; done))
      | (refine AWP.if_f ?_ ?_; focus (simp (disch := omega) [e1]; done)))
    refine ⟨by simp, _, rfl, fin0M (blkD ds) hsb rfl (flatD _).low ⟨?_, rfl⟩ (by simp [resO, get, nms, nmss]; omega)⟩
    have n1 : ¬ b = K := by omega
    have n2 : ¬ b = K + 1 := by omega
    simp [resO, get, ren, rens, rho, n1, n2]
  · have hF0 : (ds.take (i + 1)).filter (ftP a) = ds.take i := by
      rw [filter_take_no hi (by simpa using e2)]
      exact List.filter_eq_self.2 fun d hd => by have := e3 d hd; simpa using this
    have htl : (ds.take i).length = i := by simp; omega
    repeat' (first
      | refine AWP.seq ?_
      | refine AWP.block ?_
      | (refine AWP.skip ?_; simp only [thenA, blockA, reduceIte])
      | (refine AWP.exit ?_; simp only [thenA, blockA, eq_self, reduceIte, Nat.reduceEqDiff, Nat.succ_ne_zero])
      | (refine AWP.ret ?_; simp only [thenA, blockA, reduceIte])
      | (refine AWP.region (by rfl) (fun KK hKK => ?_); (repeat (simp (disch := omega) [e1])); first | (refine hKK _ _ _ ?_; clear hKK KK; simp only [thenA, blockA, reduceIte]) | skip)
      | (refine AWP.if_t ?_ ?_; focus (simp (disch := omega) [e1]; done))
      | (refine AWP.if_f ?_ ?_; focus (simp (disch := omega) [e1]; done)))
    refine AWP.loop (fun n τ σ' M => ∃ (j : Nat) (mid : List Df), j ≤ ds.length ∧ n = ds.length - j ∧ 0 < mid.length ∧ ((ds.take j).filter (ftP a)).length + mid.length = j ∧ τ = [(0, .sl b 0 ds.length cap0 2), (1, .fn 116 [.ptr cb 0 0]), (5, .v (.int .i64 ((ds.take j).filter (ftP a)).length)), (6, .v (.int .i64 j))] ∧
      σ' b = some (blkD ((ds.take j).filter (ftP a) ++ mid ++ ds.drop j)) ∧ σ' cb = some ⟨3, 1, [[.v (.int .i64 a)]], r1⟩ ∧ K ≤ M)
      ⟨_, _, _, _, ⟨i + 1, [ds[i]], by omega, rfl, by simp, by rw [hF0]; simp; omega, rfl, by rw [hF0, hsb, List.append_assoc, List.singleton_append, ← List.drop_eq_getElem_cons hi, List.take_append_drop], hsc, by omega⟩, Weak.tau (by rw [hF0, htl]; simp [LQ])⟩ ?_
    rintro n τ σ1 M ⟨j, mid, hj, rfl, hmp, hml, rfl, h1, h2, hM⟩
    generalize hF : (ds.take j).filter (ftP a) = F at *
    have hdl : (F ++ mid ++ ds.drop j).length = ds.length := by simp; omega
    by_cases hlt : j < ds.length
    · obtain ⟨m0, mt, rfl⟩ : ∃ m0 mt, mid = m0 :: mt := by cases mid with | nil => simp at hmp | cons m0 mt => exact ⟨m0, mt, rfl⟩
      have hdrop : ds.drop j = ds[j] :: ds.drop (j + 1) := List.drop_eq_getElem_cons hlt
      have hrow : (rowsD (F ++ m0 :: mt ++ ds.drop j))[j]? = some [.v (.string ds[j].1), .v (.int .i64 ds[j].2)] := by
        rw [hdrop]
        simp only [rowsD, List.getElem?_map]
        rw [List.getElem?_append_right (by simp; simp at hml; omega)]
        have : j - (F ++ m0 :: mt).length = 0 := by simp; simp at hml; omega
        rw [this]
        rfl
      have hfl : F.length < ds.length := by simp at hml; omega
      have hrow2 : (rowsD (F ++ m0 :: mt ++ ds.drop j))[F.length]? = some [.v (.string m0.1), .v (.int .i64 m0.2)] := by
        simp only [rowsD, List.getElem?_map, List.append_assoc]
        rw [List.getElem?_append_right (Nat.le_refl _), Nat.sub_self]
        rfl
      have hset : (rowsD (F ++ m0 :: mt ++ ds.drop j)).set F.length [.v (.string ds[j].1), .v (.int .i64 ds[j].2)] = rowsD (F ++ [ds[j]] ++ (mt ++ [ds[j]]) ++ ds.drop (j + 1)) := by
        have e : [AV.v (.string ds[j].1), .v (.int .i64 ds[j].2)] = rowD ds[j] := rfl
        rw [e, hdrop]
        simp only [rowsD]
        rw [← List.map_set, List.append_assoc, List.set_append_right _ _ (Nat.le_refl _), Nat.sub_self]
        simp
      have hdkf : F ++ (m0 :: mt ++ [ds[j]]) ++ ds.drop (j + 1) = F ++ m0 :: mt ++ ds.drop j := by rw [hdrop]; simp
      obtain ⟨dk2, hdk2⟩ : ∃ dk2, dk2 = F ++ [ds[j]] ++ (mt ++ [ds[j]]) ++ ds.drop (j + 1) := ⟨_, rfl⟩
      rw [← hdk2] at hset
      generalize F ++ m0 :: mt ++ ds.drop j = dk at *
      cases h5 : ftP a ds[j] with
      | true =>
        have hF2 : (ds.take (j + 1)).filter (ftP a) = F ++ [ds[j]] := by rw [filter_take_yes hlt h5, hF]
        repeat' (first
          | refine AWP.seq ?_
          | refine AWP.block ?_
          | (refine AWP.skip ?_; simp only [thenA, blockA, reduceIte])
          | (refine AWP.exit ?_; simp only [thenA, blockA, eq_self, reduceIte, Nat.reduceEqDiff, Nat.succ_ne_zero])
          | (refine AWP.ret ?_; simp only [thenA, blockA, reduceIte])
          | (refine AWP.region (by rfl) (fun KK hKK => ?_); (repeat (simp (disch := omega) [hlt, h1, hrow])); first | (refine hKK _ _ _ ?_; clear hKK KK; simp only [thenA, blockA, reduceIte]) | skip)
          | (refine AWP.if_t ?_ ?_; focus (simp (disch := omega) [hlt, h1, hrow]; done))
          | (refine AWP.if_f ?_ ?_; focus (simp (disch := omega) [hlt, h1, hrow]; done)))
        refine aStop_of (hcl (upd σ1 M ⟨34, 2, [[.v (.string ds[j].1), .v (.int .i64 ds[j].2)]], true⟩) ⟨r1, by simp (disch := omega) only [upd_eq, upd_ne, h2]⟩ _ _ (List.getElem_mem hlt)) ?_
        rintro r δ ⟨rfl, rfl⟩
        (repeat (simp (disch := omega) [h5, hfl, h1, hrow2, hset]))
        first | (refine hKK _ _ _ ?_; clear hKK KK; simp only [thenA, blockA, reduceIte]) | skip
        repeat' (first
          | refine AWP.seq ?_
          | refine AWP.block ?_
          | (refine AWP.skip ?_; simp only [thenA, blockA, reduceIte])
          | (refine AWP.exit ?_; simp only [thenA, blockA, eq_self, reduceIte, Nat.reduceEqDiff, Nat.succ_ne_zero])
          | (refine AWP.ret ?_; simp only [thenA, blockA, reduceIte])
          | (refine AWP.region (by rfl) (fun KK hKK => ?_); (repeat (simp (disch := omega) [h5, hfl, h1, hrow2, hset])); first | (refine hKK _ _ _ ?_; clear hKK KK; simp only [thenA, blockA, reduceIte]) | skip)
          | (refine AWP.if_t ?_ ?_; focus (simp (disch := omega) [h5, hfl, h1, hrow2, hset]; done))
          | (refine AWP.if_f ?_ ?_; focus (simp (disch := omega) [h5, hfl, h1, hrow2, hset]; done)))
        refine ⟨_, _, _, _, ?_, ⟨j + 1, mt ++ [ds[j]], by omega, rfl, by simp, by rw [hF2]; simp at hml ⊢; omega, rfl, by rw [hF2, ← hdk2]; simp (disch := omega) only [upd_eq, upd_ne], by simp (disch := omega) only [upd_eq, upd_ne, h2], by omega⟩, Weak.tau (by rw [hF2]; simp [LQ])⟩
        omega
      | false =>
        have hF2 : (ds.take (j + 1)).filter (ftP a) = F := by rw [filter_take_no hlt h5, hF]
        repeat' (first
          | refine AWP.seq ?_
          | refine AWP.block ?_
          | (refine AWP.skip ?_; simp only [thenA, blockA, reduceIte])
          | (refine AWP.exit ?_; simp only [thenA, blockA, eq_self, reduceIte, Nat.reduceEqDiff, Nat.succ_ne_zero])
          | (refine AWP.ret ?_; simp only [thenA, blockA, reduceIte])
          | (refine AWP.region (by rfl) (fun KK hKK => ?_); (repeat (simp (disch := omega) [hlt, h1, hrow])); first | (refine hKK _ _ _ ?_; clear hKK KK; simp only [thenA, blockA, reduceIte]) | skip)
          | (refine AWP.if_t ?_ ?_; focus (simp (disch := omega) [hlt, h1, hrow]; done))
          | (refine AWP.if_f ?_ ?_; focus (simp (disch := omega) [hlt, h1, hrow]; done)))
        refine aStop_of (hcl (upd σ1 M ⟨34, 2, [[.v (.string ds[j].1), .v (.int .i64 ds[j].2)]], true⟩) ⟨r1, by simp (disch := omega) only [upd_eq, upd_ne, h2]⟩ _ _ (List.getElem_mem hlt)) ?_
        rintro r δ ⟨rfl, rfl⟩
        (repeat (simp (disch := omega) [h5]))
        first | (refine hKK _ _ _ ?_; clear hKK KK; simp only [thenA, blockA, reduceIte]) | skip
        repeat' (first
          | refine AWP.seq ?_
          | refine AWP.block ?_
          | (refine AWP.skip ?_; simp only [thenA, blockA, reduceIte])
          | (refine AWP.exit ?_; simp only [thenA, blockA, eq_self, reduceIte, Nat.reduceEqDiff, Nat.succ_ne_zero])
          | (refine AWP.ret ?_; simp only [thenA, blockA, reduceIte])
          | (refine AWP.region (by rfl) (fun KK hKK => ?_); (repeat (simp (disch := omega) [h5])); first | (refine hKK _ _ _ ?_; clear hKK KK; simp only [thenA, blockA, reduceIte]) | skip)
          | (refine AWP.if_t ?_ ?_; focus (simp (disch := omega) [h5]; done))
          | (refine AWP.if_f ?_ ?_; focus (simp (disch := omega) [h5]; done)))
        refine ⟨_, _, _, _, ?_, ⟨j + 1, m0 :: mt ++ [ds[j]], by omega, rfl, by simp, by rw [hF2]; simp at hml ⊢; omega, rfl, by rw [hF2, hdkf]; simp (disch := omega) only [upd_eq, upd_ne, h1], by simp (disch := omega) only [upd_eq, upd_ne, h2], by omega⟩, Weak.tau (by rw [hF2]; simp [LQ])⟩
        omega
    · have hjn : j = ds.length := by omega
      subst hjn
      have hfle : F.length ≤ ds.length := by omega
      repeat' (first
        | refine AWP.seq ?_
        | refine AWP.block ?_
        | (refine AWP.skip ?_; simp only [thenA, blockA, reduceIte])
        | (refine AWP.exit ?_; simp only [thenA, blockA, eq_self, reduceIte, Nat.reduceEqDiff, Nat.succ_ne_zero])
        | (refine AWP.ret ?_; simp only [thenA, blockA, reduceIte])
        | (refine AWP.clear (pre := [_, _, _]) (by rfl) (by rfl) (fun KK hKK => ?_); (repeat (simp (disch := omega) [hlt, hfle])))
        | (refine AWP.region (by rfl) (fun KK hKK => ?_); (repeat (simp (disch := omega) [hlt, hfle])); first | (refine hKK _ _ _ ?_; clear hKK KK; simp only [thenA, blockA, reduceIte]) | skip)
        | (refine AWP.if_t ?_ ?_; focus (simp (disch := omega) [hlt, hfle]; done))
        | (refine AWP.if_f ?_ ?_; focus (simp (disch := omega) [hlt, hfle]; done)))
      rw [List.take_length] at hF
      rw [List.drop_length, List.append_nil] at h1
      have hel : (rowsD (F ++ mid)).take F.length = rowsD F := by
        unfold rowsD
        rw [← List.map_take, List.take_left']
        rfl
      refine hKK _ _ _ ⟨b, F.length, ds.length - F.length, 2, 24, cap0.map (fun x => x - F.length), blkD (F ++ mid), 34, by simp, h1, rfl, by simp, rfl, by simp [rowsD_len]; omega, ?_⟩
      clear hKK KK
      simp only [thenA, blockA, reduceIte]
      repeat' (first
        | refine AWP.seq ?_
        | refine AWP.block ?_
        | (refine AWP.skip ?_; simp only [thenA, blockA, reduceIte])
        | (refine AWP.exit ?_; simp only [thenA, blockA, eq_self, reduceIte, Nat.reduceEqDiff, Nat.succ_ne_zero])
        | (refine AWP.ret ?_; simp only [thenA, blockA, reduceIte])
        | (refine AWP.region (by rfl) (fun KK hKK => ?_); (repeat (simp (disch := omega) [hlt, hfle])); first | (refine hKK _ _ _ ?_; clear hKK KK; simp only [thenA, blockA, reduceIte]) | skip)
        | (refine AWP.if_t ?_ ?_; focus (simp (disch := omega) [hlt, hfle]; done))
        | (refine AWP.if_f ?_ ?_; focus (simp (disch := omega) [hlt, hfle]; done)))
      rw [hel, hF]
      have n1 : ¬ b = K := by omega
      have n2 : ¬ b = K + 1 := by omega
      refine ⟨by simp, _, rfl, fin0M (blkD F) (by simp only [upd_eq]) rfl (flatD _).low ⟨?_, rfl⟩ (by simp [resO, get, nms, nmss]; omega)⟩
      simp [resO, get, ren, rens, rho, n1, n2]
set_option maxRecDepth 10000 in
set_option maxHeartbeats 1000000 in
theorem fitting_c (σ : Sto) (ν : Nat) (x : AV) (ds : List Df) (bd : Int) (a : Nat) (hx : Sl σ x 2 (rowsD ds)) (hlen : ds.length ≤ 4294967296) (hv : ∀ d ∈ ds, 0 ≤ d.2 ∧ d.2 ≤ 4095) (ha : a < 4096) :
    AC Try.prog 109 [.agg [x, .v (.int .i64 bd)], .v (.int .i64 a)] σ ν fun r δ => r = .sl ν 0 (ds.filter (ftP a)).length none 2 ∧ δ = upd noS ν (blkD (ds.filter (ftP a))) := by
  obtain ⟨b, o, cap, z, rfl⟩ := hx.out
  simp only [rowsD_len] at hx ⊢
  refine AC.intro [] ent_109 Try.func109 rfl (by simp [Try.f109]) (by simp) ?_
  intro K s hs hB hn hν hA hFr
  simp only [argT, Nat.zero_add, Nat.reduceAdd]
  have hx' := hx.vw hs.vw
  have hbK : b < K := hA b (by simp [nmAs, nmA])
  repeat' (first
    | refine AWP.seq ?_
    | refine AWP.block ?_
    | (refine AWP.skip ?_; simp only [thenA, blockA, reduceIte])
    | (refine AWP.exit ?_; simp only [thenA, blockA, eq_self, reduceIte, Nat.reduceEqDiff, Nat.succ_ne_zero])
    | (refine AWP.ret ?_; simp only [thenA, blockA, reduceIte])
    | (refine AWP.region (by rfl) (fun KK hKK => ?_); (repeat (simp (disch := omega) [])); first | (refine hKK _ _ _ ?_; clear hKK KK; simp only [thenA, blockA, reduceIte]) | skip)
    | (refine AWP.if_t ?_ ?_; focus (simp (disch := omega) []; done))
    | (refine AWP.if_f ?_ ?_; focus (simp (disch := omega) []; done)))
  refine aStop_of (cloneD_c _ _ _ ds (hx'.vw ((Vw.refl _).over (by repeat (first | exact Over.refl _ | exact hov | refine Over.upd ?_ hB (by omega) | refine Over.del ?_ hB (by omega))))) hlen) ?_
  rintro r δ ⟨rfl, rfl⟩
  (repeat (simp (disch := omega) []))
  first | (refine hKK _ _ _ ?_; clear hKK KK; simp only [thenA, blockA, reduceIte]) | skip
  repeat' (first
    | refine AWP.seq ?_
    | refine AWP.block ?_
    | (refine AWP.skip ?_; simp only [thenA, blockA, reduceIte])
    | (refine AWP.exit ?_; simp only [thenA, blockA, eq_self, reduceIte, Nat.reduceEqDiff, Nat.succ_ne_zero])
    | (refine AWP.ret ?_; simp only [thenA, blockA, reduceIte])
    | (refine AWP.region (by rfl) (fun KK hKK => ?_); (repeat (simp (disch := omega) [])); first | (refine hKK _ _ _ ?_; clear hKK KK; simp only [thenA, blockA, reduceIte]) | skip)
    | (refine AWP.if_t ?_ ?_; focus (simp (disch := omega) []; done))
    | (refine AWP.if_f ?_ ?_; focus (simp (disch := omega) []; done)))
  refine aStop_of (deleteFit_c _ _ (K + 1 + 1) (K + 1) a none true ds (by simp (disch := omega) only [upd_eq, upd_ne]) (by simp (disch := omega) only [upd_eq, upd_ne]) (by omega) hlen hv ha) ?_
  rintro r δ ⟨rfl, rfl⟩
  (repeat (simp (disch := omega) []))
  first | (refine hKK _ _ _ ?_; clear hKK KK; simp only [thenA, blockA, reduceIte]) | skip
  repeat' (first
    | refine AWP.seq ?_
    | refine AWP.block ?_
    | (refine AWP.skip ?_; simp only [thenA, blockA, reduceIte])
    | (refine AWP.exit ?_; simp only [thenA, blockA, eq_self, reduceIte, Nat.reduceEqDiff, Nat.succ_ne_zero])
    | (refine AWP.ret ?_; simp only [thenA, blockA, reduceIte])
    | (refine AWP.region (by rfl) (fun KK hKK => ?_); (repeat (simp (disch := omega) [])); first | (refine hKK _ _ _ ?_; clear hKK KK; simp only [thenA, blockA, reduceIte]) | skip)
    | (refine AWP.if_t ?_ ?_; focus (simp (disch := omega) []; done))
    | (refine AWP.if_f ?_ ?_; focus (simp (disch := omega) []; done)))
  refine ⟨by simp, _, rfl, fin1 ((K + 1 + 1)) (blkD (ds.filter (ftP a))) (by simp (disch := omega)) rfl (flatD _) ⟨?_, rfl⟩ (by omega) (by simp [resO, get, nms, nmss])⟩
  simp [resO, get, ren, rens, rho]
/-- The names that fit into a value. -/
def ftO (ds : List Df) (bd n : Int) : Option (List ByteArray) := if isv ds bd n = true then some (nmF (fun _ => true) (ds.filter (ftP n.toNat))) else none
end Go.Proofs.Ytgaiemhbllbaiaa
