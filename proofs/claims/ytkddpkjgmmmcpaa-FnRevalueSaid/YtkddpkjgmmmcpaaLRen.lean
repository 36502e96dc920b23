/- The law of Renumber, walked: it answers true for every code. No condition but sizes that every input has. -/
import Derived.Test.YtkddpkjgmmmcpaaT2
import Derived.Test.YtkddpkjgmmmcpaaT5
import Derived.Test.YtkddpkjgmmmcpaaB5
import Derived.Test.YtkddpkjgmmmcpaaM2
import Derived.Test.YtkddpkjgmmmcpaaCE3
import Derived.Test.YtkddpkjgmmmcpaaCE4
set_option linter.unusedSimpArgs false
set_option linter.unusedVariables false
namespace Go.Proofs.Ytkddpkjgmmmcpaa
open Go Go.RowKit

theorem okDs_pw' {lo hi : Int} {ds : List Df} : okDs lo hi ds = true ↔ ds.length ≤ 12 ∧ (∀ d ∈ ds, vname d.1 = true ∧ lo ≤ d.2 ∧ d.2 ≤ hi) ∧ ds.Pairwise fun a b => a.1 ≠ b.1 := by
  constructor
  · intro h
    refine ⟨okDs_len h, fun d hd => ?_, ok_names h⟩
    obtain ⟨i, hi', rfl⟩ := List.mem_iff_getElem.1 hd
    obtain ⟨a, b, c, _⟩ := okDs_at h hi'
    exact ⟨a, b, c⟩
  · rintro ⟨h1, h2, h3⟩
    refine okDs_iff.2 ⟨h1, fun i hi' => ?_⟩
    obtain ⟨a, b, c⟩ := h2 _ (List.getElem_mem hi')
    refine ⟨a, b, c, nameIx_neg.2 fun d hd => ?_⟩
    obtain ⟨j, hj, rfl⟩ := List.mem_take_iff_getElem.1 hd
    exact List.pairwise_iff_getElem.1 h3 j i (by omega) hi' (by omega)
theorem gtV_memb : ∀ (l : List Df) (m : Int), gtV l m = m ∨ ∃ d ∈ l, d.2 = gtV l m
  | [], m => .inl rfl
  | d :: l, m => by
    have e : gtV (d :: l) m = gtV l (if m < d.2 then d.2 else m) := rfl
    rw [e]
    rcases gtV_memb l (if m < d.2 then d.2 else m) with h | ⟨x, hx, h⟩
    · rw [h]
      split
      · exact .inr ⟨d, by simp, rfl⟩
      · exact .inl rfl
    · exact .inr ⟨x, by simp [hx], h⟩
theorem ltV_memb : ∀ (l : List Df) (m : Int), ltV l m = m ∨ ∃ d ∈ l, d.2 = ltV l m
  | [], m => .inl rfl
  | d :: l, m => by
    have e : ltV (d :: l) m = ltV l (if d.2 < m then d.2 else m) := rfl
    rw [e]
    rcases ltV_memb l (if d.2 < m then d.2 else m) with h | ⟨x, hx, h⟩
    · rw [h]
      split
      · exact .inr ⟨d, by simp, rfl⟩
      · exact .inl rfl
    · exact .inr ⟨x, by simp [hx], h⟩
theorem grV_memb {ds : List Df} (h : ds ≠ []) : ∃ d ∈ ds, d.2 = grV ds 0 := by
  match ds, h with
  | d :: l, _ =>
    rcases gtV_memb l d.2 with h | ⟨x, hx, h⟩
    · exact ⟨d, by simp, by rw [grV, h]⟩
    · exact ⟨x, by simp [hx], h⟩
theorem loV_memb {ds : List Df} (h : ds ≠ []) : ∃ d ∈ ds, d.2 = loV ds := by
  match ds, h with
  | d :: l, _ =>
    rcases ltV_memb l d.2 with h | ⟨x, hx, h⟩
    · exact ⟨d, by simp, by rw [loV, h]⟩
    · exact ⟨x, by simp [hx], h⟩
theorem fold_pre : ∀ (l out : List Df), ∃ m, l.foldl memStep out = out ++ m
  | [], out => ⟨[], by simp⟩
  | d :: l, out => by
    obtain ⟨m, h⟩ := fold_pre l (memStep out d)
    simp only [List.foldl_cons]
    rw [h]
    unfold memStep
    split
    · exact ⟨d :: m, by simp⟩
    · exact ⟨m, rfl⟩
theorem memF_pre (ds : List Df) (k : Nat) : ∃ m, memF ds = memF (ds.take k) ++ m := by
  have h := fold_pre (ds.drop k) (memF (ds.take k))
  have e : memF ds = (ds.drop k).foldl memStep (memF (ds.take k)) := by
    unfold memF
    rw [← List.foldl_append, List.take_append_drop]
  rw [e]
  exact h
/-- Where the values of a list all differ, a value stands where it stands. -/
theorem valueIx_at {l : List Df} (hp : l.Pairwise fun a b => a.2 ≠ b.2) {j : Nat} (hj : j < l.length) : valueIx l l[j].2 = j := by
  rcases valueIx_cases l l[j].2 with ⟨_, h⟩ | ⟨i, hi, hx, hv, _⟩
  · exact absurd rfl (h _ (List.getElem_mem hj))
  · rw [hx]
    rcases Nat.lt_trichotomy i j with h | h | h
    · exact absurd hv (List.pairwise_iff_getElem.1 hp i j hi hj h)
    · rw [h]
    · exact absurd hv.symm (List.pairwise_iff_getElem.1 hp j i hj hi h)
/-- Members with their ranks. -/
def rkM (L : List Df) : List Df := L.mapIdx fun j d => (d.1, (j : Int))
theorem rkM_len (L : List Df) : (rkM L).length = L.length := by simp [rkM]
theorem rkM_at (L : List Df) (j : Nat) (h : j < L.length) : (rkM L)[j]'(by rw [rkM_len]; exact h) = (L[j].1, (j : Int)) := by simp [rkM]
theorem rkM_snoc (L : List Df) (d : Df) : rkM (L ++ [d]) = rkM L ++ [(d.1, (L.length : Int))] := by simp [rkM, List.mapIdx_append]
theorem rkM_val (L : List Df) (n : Int) : (∃ d ∈ rkM L, d.2 = n) ↔ 0 ≤ n ∧ n < L.length := by
  constructor
  · rintro ⟨d, hd, rfl⟩
    obtain ⟨j, hj, rfl⟩ := List.mem_iff_getElem.1 hd
    rw [rkM_len] at hj
    rw [rkM_at L j hj]
    simp only
    omega
  · rintro ⟨h0, h1⟩
    have hj : n.toNat < L.length := by omega
    refine ⟨(rkM L)[n.toNat]'(by rw [rkM_len]; exact hj), List.getElem_mem _, ?_⟩
    rw [rkM_at L _ hj]
    simp only
    omega
theorem valueIx_iff (l : List Df) (n : Int) : valueIx l n < 0 ↔ ¬ ∃ d ∈ l, d.2 = n := by
  rw [valueIx_neg]
  constructor
  · rintro h ⟨d, hd, e⟩
    exact h d hd e
  · intro h d hd e
    exact h ⟨d, hd, e⟩
/-- The members of a renumbered enumeration. -/
theorem memF_rk {ds : List Df} (hok : okDs (-1000) 1000 ds = true) : ∀ k, k ≤ ds.length → memF ((rkD (fun r => r) ds).take k) = rkM (memF (ds.take k))
  | 0, _ => by simp [memF, rkM]
  | k + 1, hk => by
    have hlt : k < ds.length := by omega
    have hlt2 : k < (rkD (fun r => r) ds).length := by rw [rkD_len]; exact hlt
    rw [memF_take hlt2, memF_take hlt, memF_rk hok k (by omega), rkD_at _ ds k hlt]
    obtain ⟨hr, _, _⟩ := rk_name hok hlt
    rw [hr]
    obtain ⟨m, hm⟩ := memF_pre ds (k + 1)
    rw [memF_take hlt] at hm
    have hpw := memF_pw ds
    unfold memStep at hm ⊢
    by_cases hnew : valueIx (memF (ds.take k)) ds[k].2 < 0
    · rw [if_pos hnew] at hm ⊢
      have hj : (memF (ds.take k)).length < (memF ds).length := by rw [hm]; simp
      have hje : (memF ds)[(memF (ds.take k)).length] = ds[k] := by
        simp only [hm]
        rw [List.getElem_append_left (by simp)]
        simp
      have hv := valueIx_at hpw hj
      rw [hje] at hv
      rw [hv]
      rw [if_pos ((valueIx_iff _ _).2 fun h => by have := (rkM_val _ _).1 h; omega), rkM_snoc]
    · rw [if_neg hnew] at hm ⊢
      have hex : ∃ d ∈ memF (ds.take k), d.2 = ds[k].2 := by
        rcases Classical.em (∃ d ∈ memF (ds.take k), d.2 = ds[k].2) with h | h
        · exact h
        · exact absurd ((valueIx_iff _ _).2 h) hnew
      obtain ⟨d, hd, hdv⟩ := hex
      obtain ⟨j, hj, rfl⟩ := List.mem_iff_getElem.1 hd
      have hj2 : j < (memF ds).length := by rw [hm]; simp; omega
      have hje : (memF ds)[j] = (memF (ds.take k))[j] := by
        simp only [hm]
        rw [List.getElem_append_left hj]
      have hv := valueIx_at hpw hj2
      rw [hje, hdv] at hv
      rw [hv]
      rw [if_neg fun h => (valueIx_iff _ _).1 h ((rkM_val _ _).2 ⟨by omega, by omega⟩)]
theorem memF_rn {ds : List Df} (hok : okDs (-1000) 1000 ds = true) : memF (rkD (fun r => r) ds) = rkM (memF ds) := by
  have h := memF_rk hok ds.length (Nat.le_refl _)
  rw [List.take_length, List.take_of_length_le (by rw [rkD_len]; exact Nat.le_refl _)] at h
  exact h
theorem rn_names {ds : List Df} (hok : okDs (-1000) 1000 ds = true) : nmF (fun _ => true) (memF (rkD (fun r => r) ds)) = nmF (fun _ => true) (memF ds) := by
  rw [memF_rn hok, nmF_true, nmF_true]
  apply List.ext_getElem
  · simp [rkM_len]
  · intro i h1 h2
    simp only [List.length_map] at h2
    simp only [List.getElem_map]
    rw [rkM_at _ i h2]
theorem rn_ok {ds : List Df} (hok : okDs (-1000) 1000 ds = true) : okDs (-1000) 1000 (rkD (fun r => r) ds) = true := by
  obtain ⟨h1, h2, h3⟩ := okDs_pw'.1 hok
  have hml := memF_len ds
  refine okDs_pw'.2 ⟨by rw [rkD_len]; exact h1, fun d hd => ?_, ?_⟩
  · obtain ⟨i, hi, rfl⟩ := List.mem_iff_getElem.1 hd
    rw [rkD_len] at hi
    rw [rkD_at _ ds i hi]
    obtain ⟨_, r0, r1⟩ := rk_name hok hi
    exact ⟨(h2 _ (List.getElem_mem hi)).1, by simp only; omega, by simp only; omega⟩
  · unfold rkD
    rw [List.pairwise_map]
    exact h3
theorem rn_val {ds : List Df} (hok : okDs (-1000) 1000 ds = true) {d : Df} (hd : d ∈ rkD (fun r => r) ds) : 0 ≤ d.2 ∧ d.2 < (memF ds).length := by
  obtain ⟨i, hi, rfl⟩ := List.mem_iff_getElem.1 hd
  rw [rkD_len] at hi
  rw [rkD_at _ ds i hi]
  exact (rk_name hok hi).2
theorem rn_gaps {ds : List Df} (hok : okDs (-1000) 1000 ds = true) (hne : rkD (fun r => r) ds ≠ []) : gpA (rkD (fun r => r) ds) = [] := by
  apply List.eq_nil_iff_forall_not_mem.2
  intro n hn
  obtain ⟨h1, h2, h3⟩ := gpL_mem.1 hn
  obtain ⟨d, hd, e1⟩ := loV_memb hne
  obtain ⟨d', hd', e2⟩ := grV_memb hne
  have b1 := rn_val hok hd
  have b2 := rn_val hok hd'
  have hg : n < grV (rkD (fun r => r) ds) 0 := by unfold gpN at h2; omega
  refine (valueIx_iff _ _).1 h3 ?_
  have hj : n.toNat < (memF ds).length := by omega
  have hj2 : n.toNat < (memF (rkD (fun r => r) ds)).length := by rw [memF_rn hok, rkM_len]; exact hj
  refine ⟨(memF (rkD (fun r => r) ds))[n.toNat], memF_sub _ _ (List.getElem_mem hj2), ?_⟩
  simp only [memF_rn hok]
  rw [rkM_at _ _ hj]
  simp only
  omega
theorem rn_again {ds : List Df} (hok : okDs (-1000) 1000 ds = true) : rkD (fun r => r) (rkD (fun r => r) ds) = rkD (fun r => r) ds := by
  have hok2 := rn_ok hok
  apply List.ext_getElem
  · rw [rkD_len]
  · intro i h1 h2
    rw [rkD_at _ _ i h2]
    obtain ⟨hr, _, _⟩ := rk_name hok2 h2
    have hv := rn_val hok (List.getElem_mem h2)
    have hj : ((rkD (fun r => r) ds)[i].2).toNat < (memF (rkD (fun r => r) ds)).length := by rw [memF_rn hok, rkM_len]; omega
    have hat := valueIx_at (memF_pw (rkD (fun r => r) ds)) hj
    have e : (memF (rkD (fun r => r) ds))[((rkD (fun r => r) ds)[i].2).toNat].2 = (rkD (fun r => r) ds)[i].2 := by
      simp only [memF_rn hok]
      rw [rkM_at _ _ (by omega)]
      simp only
      omega
    rw [e] at hat
    rw [hr, hat]
    refine Prod.ext rfl ?_
    simp only
    omega
theorem rn_mem_val {ds : List Df} (hok : okDs (-1000) 1000 ds = true) {k : Nat} (h : k < (memF ds).length) : valO (rkD (fun r => r) ds) (memF ds)[k].1 = some (k : Int) := by
  have h2 : k < (memF (rkD (fun r => r) ds)).length := by rw [memF_rn hok, rkM_len]; exact h
  have e : (memF (rkD (fun r => r) ds))[k] = ((memF ds)[k].1, (k : Int)) := by simp only [memF_rn hok]; rw [rkM_at _ k h]
  have hv := valO_mem (rn_ok hok) (List.getElem_mem h2)
  rw [e] at hv
  exact hv
theorem gpI_two {ds : List Df} (hok : okDs (-1000) 1000 ds = true) : gpI (rkD (fun r => r) ds) = none ∨ gpI (rkD (fun r => r) ds) = some [] := by
  unfold gpI
  by_cases h : rkD (fun r => r) ds = []
  · rw [if_pos h]; exact .inl rfl
  · rw [if_neg h]
    unfold gpO
    rw [rn_gaps hok h, if_pos ⟨rn_ok hok, by simp⟩]
    exact .inr rfl

theorem renumS_some {ds l : List Df} (h : rnO ds = some l) (σ : Sto) (ν : Nat) (x : AV) (hx : Sl σ x 2 (rowsD ds)) (hlen : ds.length ≤ 4294967296) (hsz : ∀ d ∈ ds, d.1.size ≤ 9223372036854775807) :
    AC Try.prog 35 [.agg [x]] σ ν fun r δ => r = .agg [.sl ν 0 l.length none 2] ∧ δ = upd noS ν (blkD l) := by
  have c := renumberS_c σ ν x ds hx hlen hsz
  rw [h] at c
  exact c
theorem renumS_none {ds : List Df} (h : rnO ds = none) (σ : Sto) (ν : Nat) (x : AV) (hx : Sl σ x 2 (rowsD ds)) (hlen : ds.length ≤ 4294967296) (hsz : ∀ d ∈ ds, d.1.size ≤ 9223372036854775807) :
    AC Try.prog 35 [.agg [x]] σ ν fun r δ => r = .agg [nilA] ∧ δ = noS := by
  have c := renumberS_c σ ν x ds hx hlen hsz
  rw [h] at c
  exact c
theorem renum_some {ds l : List Df} (h : rnO ds = some l) (σ : Sto) (ν : Nat) (x : AV) (hx : Sl σ x 2 (rowsD ds)) (hlen : ds.length ≤ 4294967296) (hsz : ∀ d ∈ ds, d.1.size ≤ 9223372036854775807) :
    AC Try.prog 36 [.agg [x]] σ ν fun r δ => r = .agg [.sl ν 0 l.length (some l.length) 2] ∧ δ = upd noS ν (blkD l) := by
  have c := renumber_c σ ν x ds hx hlen hsz
  rw [h] at c
  exact c
theorem members_some {ds : List Df} {l : List ByteArray} (h : mnO ds = some l) (σ : Sto) (ν : Nat) (x : AV) (hx : Sl σ x 2 (rowsD ds)) (hlen : ds.length ≤ 4294967296) (hsz : ∀ d ∈ ds, d.1.size ≤ 9223372036854775807) :
    AC Try.prog 31 [.agg [x]] σ ν fun r δ => r = .sl ν 0 l.length (some l.length) 1 ∧ δ = upd noS ν (blkS l) := by
  have c := MembersOf_c σ ν x ds hx hlen hsz
  rw [h] at c
  exact c
theorem gaps_some {ds : List Df} {l : List Int} (h : gpI ds = some l) (σ : Sto) (ν : Nat) (x : AV) (hx : Sl σ x 2 (rowsD ds)) (hlen : ds.length ≤ 4294967296) (hsz : ∀ d ∈ ds, d.1.size ≤ 9223372036854775807) :
    AC Try.prog 38 [.agg [x]] σ ν fun r δ => r = .sl ν 0 l.length (some l.length) 1 ∧ δ = upd noS ν (blkI l) := by
  have c := gaps_c σ ν x ds hx hlen hsz
  rw [h] at c
  exact c
theorem gaps_none {ds : List Df} (h : gpI ds = none) (σ : Sto) (ν : Nat) (x : AV) (hx : Sl σ x 2 (rowsD ds)) (hlen : ds.length ≤ 4294967296) (hsz : ∀ d ∈ ds, d.1.size ≤ 9223372036854775807) :
    AC Try.prog 38 [.agg [x]] σ ν fun r δ => r = nilA ∧ δ = noS := by
  have c := gaps_c σ ν x ds hx hlen hsz
  rw [h] at c
  exact c

set_option maxRecDepth 10000 in
set_option maxHeartbeats 8000000 in
theorem renum_law_c (σ : Sto) (ν : Nat) (x : AV) (cs : List Int) (hx : Sl σ x 1 (rowsB cs)) (hlen : cs.length ≤ 9223372036854775807) (h8 : ∀ y ∈ cs, 0 ≤ y ∧ y ≤ 255) :
    AC Try.prog 10 [x] σ ν fun r δ => r = .v (.bool true) ∧ δ = noS := by
  obtain ⟨b, o, cap, z, rfl⟩ := hx.out
  simp only [rowsB_len] at hx ⊢
  refine AC.intro [] ent_10 Try.func10 rfl (by simp [Try.f10]) (by simp) ?_
  intro K s hs hB hn hν hA hFr
  simp only [argT, Nat.zero_add, Nat.reduceAdd]
  have hx' := hx.vw hs.vw
  by_cases h1 : (1048576 : Int) < cs.length
  · repeat' (first
      | refine AWP.seq ?_
      | refine AWP.block ?_
      | (refine AWP.skip ?_; simp only [thenA, blockA, reduceIte])
      | (refine AWP.exit ?_; simp only [thenA, blockA, eq_self, reduceIte, Nat.reduceEqDiff, Nat.succ_ne_zero])
      | (refine AWP.ret ?_; simp only [thenA, blockA, reduceIte])
      | (refine AWP.region (by rfl) (fun KK hKK => ?_); (repeat (simp (disch := omega) [h1])); first | (refine hKK _ _ _ ?_; clear hKK KK; simp only [thenA, blockA, reduceIte]) | skip)
      | (refine AWP.draw' mixd (by rfl) (by kernel_rfl) (fun KK tab hKK htab => ?_); (repeat (simp (disch := omega) [h1])); first | (refine dEnd_ro ?_ (hKK _ _ _ ?_); (focus (simp; done)); clear htab tab hKK KK; simp only [thenA, blockA, reduceIte]) | (refine dEnd_of ?_ (hKK _ _ _ ?_); (focus (simp only [List.reverse_cons, List.reverse_nil, List.nil_append, List.cons_append, memA, mem1, and_true, true_and]; (repeat' apply And.intro); (all_goals (first | trivial | (refine .inr ⟨?_, ?_⟩ <;> (simp; done)) | (refine .inr ⟨?_, ?_⟩ <;> (simp <;> omega)) | (refine .inl ?_; rw [htab]; kernel_rfl))); done)); clear htab tab hKK KK; simp only [thenA, blockA, reduceIte]) | skip)
      | (refine AWP.if_t ?_ ?_; focus (simp (disch := omega) [h1]; done))
      | (refine AWP.if_f ?_ ?_; focus (simp (disch := omega) [h1]; done)))
    refine ⟨by simp, _, rfl, fin0 ⟨?_, rfl⟩ (by simp [resO, get, nms, nmss]; try (simp [nms, nmss] at hn; simp_all))⟩
    simp [resO, get, ren, rens]
  repeat' (first
    | refine AWP.seq ?_
    | refine AWP.block ?_
    | (refine AWP.skip ?_; simp only [thenA, blockA, reduceIte])
    | (refine AWP.exit ?_; simp only [thenA, blockA, eq_self, reduceIte, Nat.reduceEqDiff, Nat.succ_ne_zero])
    | (refine AWP.ret ?_; simp only [thenA, blockA, reduceIte])
    | (refine AWP.region (by rfl) (fun KK hKK => ?_); (repeat (simp (disch := omega) [h1])); first | (refine hKK _ _ _ ?_; clear hKK KK; simp only [thenA, blockA, reduceIte]) | skip)
    | (refine AWP.draw' mixd (by rfl) (by kernel_rfl) (fun KK tab hKK htab => ?_); (repeat (simp (disch := omega) [h1])); first | (refine dEnd_ro ?_ (hKK _ _ _ ?_); (focus (simp; done)); clear htab tab hKK KK; simp only [thenA, blockA, reduceIte]) | (refine dEnd_of ?_ (hKK _ _ _ ?_); (focus (simp only [List.reverse_cons, List.reverse_nil, List.nil_append, List.cons_append, memA, mem1, and_true, true_and]; (repeat' apply And.intro); (all_goals (first | trivial | (refine .inr ⟨?_, ?_⟩ <;> (simp; done)) | (refine .inr ⟨?_, ?_⟩ <;> (simp <;> omega)) | (refine .inl ?_; rw [htab]; kernel_rfl))); done)); clear htab tab hKK KK; simp only [thenA, blockA, reduceIte]) | skip)
    | (refine AWP.if_t ?_ ?_; focus (simp (disch := omega) [h1]; done))
    | (refine AWP.if_f ?_ ?_; focus (simp (disch := omega) [h1]; done)))
  refine aStop_of (DrawRenumber_c _ _ _ cs (hx'.vw ((Vw.refl _).over (by repeat (first | exact Over.refl _ | exact hov | refine Over.upd ?_ hB (by omega) | refine Over.del ?_ hB (by omega))))) h8 hlen) ?_
  rintro r δ ⟨ds, hgd, rfl, rfl⟩
  (repeat (simp (disch := omega) []))
  first | (refine hKK _ _ _ ?_; clear hKK KK; simp only [thenA, blockA, reduceIte]) | skip
  have hl := hgd.len
  have hsz : ∀ d ∈ ds, d.1.size ≤ 9223372036854775807 := fun d hd => by have := hgd.sz d hd; omega
  repeat' (first
    | refine AWP.seq ?_
    | refine AWP.block ?_
    | (refine AWP.skip ?_; simp only [thenA, blockA, reduceIte])
    | (refine AWP.exit ?_; simp only [thenA, blockA, eq_self, reduceIte, Nat.reduceEqDiff, Nat.succ_ne_zero])
    | (refine AWP.ret ?_; simp only [thenA, blockA, reduceIte])
    | (refine AWP.region (by rfl) (fun KK hKK => ?_); (repeat (simp (disch := omega) [])); first | (refine hKK _ _ _ ?_; clear hKK KK; simp only [thenA, blockA, reduceIte]) | skip)
    | (refine AWP.draw' mixd (by rfl) (by kernel_rfl) (fun KK tab hKK htab => ?_); (repeat (simp (disch := omega) [])); first | (refine dEnd_ro ?_ (hKK _ _ _ ?_); (focus (simp; done)); clear htab tab hKK KK; simp only [thenA, blockA, reduceIte]) | (refine dEnd_of ?_ (hKK _ _ _ ?_); (focus (simp only [List.reverse_cons, List.reverse_nil, List.nil_append, List.cons_append, memA, mem1, and_true, true_and]; (repeat' apply And.intro); (all_goals (first | trivial | (refine .inr ⟨?_, ?_⟩ <;> (simp; done)) | (refine .inr ⟨?_, ?_⟩ <;> (simp <;> omega)) | (refine .inl ?_; rw [htab]; kernel_rfl))); done)); clear htab tab hKK KK; simp only [thenA, blockA, reduceIte]) | skip)
    | (refine AWP.if_t ?_ ?_; focus (simp (disch := omega) []; done))
    | (refine AWP.if_f ?_ ?_; focus (simp (disch := omega) []; done)))
  cases hok : okDs (-1000) 1000 ds with
  | false =>
    have hO : rnO ds = none := by unfold rnO; rw [hok]; rfl
    repeat' (first
      | refine AWP.seq ?_
      | refine AWP.block ?_
      | (refine AWP.skip ?_; simp only [thenA, blockA, reduceIte])
      | (refine AWP.exit ?_; simp only [thenA, blockA, eq_self, reduceIte, Nat.reduceEqDiff, Nat.succ_ne_zero])
      | (refine AWP.ret ?_; simp only [thenA, blockA, reduceIte])
      | (refine AWP.region (by rfl) (fun KK hKK => ?_); (repeat (simp (disch := omega) [hO, hok, eOut_none, dOut_none])); first | (refine hKK _ _ _ ?_; clear hKK KK; simp only [thenA, blockA, reduceIte]) | skip)
      | (refine AWP.draw' mixd (by rfl) (by kernel_rfl) (fun KK tab hKK htab => ?_); (repeat (simp (disch := omega) [hO, hok, eOut_none, dOut_none])); first | (refine dEnd_ro ?_ (hKK _ _ _ ?_); (focus (simp; done)); clear htab tab hKK KK; simp only [thenA, blockA, reduceIte]) | (refine dEnd_of ?_ (hKK _ _ _ ?_); (focus (simp only [List.reverse_cons, List.reverse_nil, List.nil_append, List.cons_append, memA, mem1, and_true, true_and]; (repeat' apply And.intro); (all_goals (first | trivial | (refine .inr ⟨?_, ?_⟩ <;> (simp; done)) | (refine .inr ⟨?_, ?_⟩ <;> (simp <;> omega)) | (refine .inl ?_; rw [htab]; kernel_rfl))); done)); clear htab tab hKK KK; simp only [thenA, blockA, reduceIte]) | skip)
      | (refine AWP.if_t ?_ ?_; focus (simp (disch := omega) [hO, hok, eOut_none, dOut_none]; done))
      | (refine AWP.if_f ?_ ?_; focus (simp (disch := omega) [hO, hok, eOut_none, dOut_none]; done)))
    repeat
      first
        | (refine aStop_of (renumber_c _ _ _ ds (by first | exact (Sl.whole (t := 61) (r := true) ((hσ' _ (by simp)).trans (by simp (disch := omega) only [upd_eq, upd_ne, del_ne])) (by simp [rowsD_len])) | exact (Sl.whole (t := 61) (r := true) (by simp (disch := omega) only [upd_eq, upd_ne, del_ne]) (by simp [rowsD_len]))) (by omega) hsz) ?_; rintro r δ ⟨rfl, rfl⟩)
        | (refine dStop_roA (fun σ' hσ' => renumS_none hO σ' _ _ (by first | exact (Sl.whole (t := 61) (r := true) ((hσ' _ (by simp)).trans (by simp (disch := omega) only [upd_eq, upd_ne, del_ne])) (by simp [rowsD_len])) | exact (Sl.whole (t := 61) (r := true) (by simp (disch := omega) only [upd_eq, upd_ne, del_ne]) (by simp [rowsD_len]))) (by omega) hsz) ?_)
        | (refine dStop_roA (fun σ' hσ' => equalEnum_c σ' _ nilA nilA [] [] (Sl.nil _ _ _ _ _) (Sl.nil _ _ _ _ _) (by simp) (by simp)) ?_)
        | (refine dStop_roA (fun σ' hσ' => validEnum_c σ' _ _ ds (by first | exact (Sl.whole (t := 61) (r := true) ((hσ' _ (by simp)).trans (by simp (disch := omega) only [upd_eq, upd_ne, del_ne])) (by simp [rowsD_len])) | exact (Sl.whole (t := 61) (r := true) (by simp (disch := omega) only [upd_eq, upd_ne, del_ne]) (by simp [rowsD_len]))) (by omega) hsz) ?_)
      (repeat (simp (disch := omega) [hO, hok, eOut_none, dOut_none]))
      first | (refine dEnd_ro ?_ (hKK _ _ _ ?_); (focus (simp; done)); clear htab tab hKK KK; simp only [thenA, blockA, reduceIte]) | (refine dEnd_of ?_ (hKK _ _ _ ?_); (focus (simp only [List.reverse_cons, List.reverse_nil, List.nil_append, List.cons_append, memA, mem1, and_true, true_and]; (repeat' apply And.intro); (all_goals (first | trivial | (refine .inr ⟨?_, ?_⟩ <;> (simp; done)) | (refine .inr ⟨?_, ?_⟩ <;> (simp <;> omega)) | (refine .inl ?_; rw [htab]; kernel_rfl))); done)); clear htab tab hKK KK; simp only [thenA, blockA, reduceIte]) | (refine hKK _ _ _ ?_; clear hKK KK; simp only [thenA, blockA, reduceIte]) | skip
      repeat' (first
        | refine AWP.seq ?_
        | refine AWP.block ?_
        | (refine AWP.skip ?_; simp only [thenA, blockA, reduceIte])
        | (refine AWP.exit ?_; simp only [thenA, blockA, eq_self, reduceIte, Nat.reduceEqDiff, Nat.succ_ne_zero])
        | (refine AWP.ret ?_; simp only [thenA, blockA, reduceIte])
        | (refine AWP.region (by rfl) (fun KK hKK => ?_); (repeat (simp (disch := omega) [hO, hok, eOut_none, dOut_none])); first | (refine hKK _ _ _ ?_; clear hKK KK; simp only [thenA, blockA, reduceIte]) | skip)
        | (refine AWP.draw' mixd (by rfl) (by kernel_rfl) (fun KK tab hKK htab => ?_); (repeat (simp (disch := omega) [hO, hok, eOut_none, dOut_none])); first | (refine dEnd_ro ?_ (hKK _ _ _ ?_); (focus (simp; done)); clear htab tab hKK KK; simp only [thenA, blockA, reduceIte]) | (refine dEnd_of ?_ (hKK _ _ _ ?_); (focus (simp only [List.reverse_cons, List.reverse_nil, List.nil_append, List.cons_append, memA, mem1, and_true, true_and]; (repeat' apply And.intro); (all_goals (first | trivial | (refine .inr ⟨?_, ?_⟩ <;> (simp; done)) | (refine .inr ⟨?_, ?_⟩ <;> (simp <;> omega)) | (refine .inl ?_; rw [htab]; kernel_rfl))); done)); clear htab tab hKK KK; simp only [thenA, blockA, reduceIte]) | skip)
        | (refine AWP.if_t ?_ ?_; focus (simp (disch := omega) [hO, hok, eOut_none, dOut_none]; done))
        | (refine AWP.if_f ?_ ?_; focus (simp (disch := omega) [hO, hok, eOut_none, dOut_none]; done)))
    refine ⟨by simp, _, rfl, fin0 ⟨?_, rfl⟩ (by simp [resO, get, nms, nmss]; try (simp [nms, nmss] at hn; simp_all))⟩
    simp [resO, get, ren, rens]
  | true =>
    have hO : rnO ds = some (rkD (fun r => r) ds) := if_pos hok
    have hok2 := rn_ok hok
    have hml := memF_len ds
    have hrl := rkD_len (fun r => r) ds
    have hm2 : mnO (rkD (fun r => r) ds) = some (nmF (fun _ => true) (memF ds)) := by simp [mnO, hok2, rn_names hok]
    have hm1 : mnO ds = some (nmF (fun _ => true) (memF ds)) := by simp [mnO, hok]
    have hO2 : rnO (rkD (fun r => r) ds) = some (rkD (fun r => r) ds) := by unfold rnO; rw [if_pos hok2, rn_again hok]
    have hsz2 : ∀ d ∈ rkD (fun r => r) ds, d.1.size ≤ 9223372036854775807 := fun d hd => by
      obtain ⟨e, he, rfl⟩ := List.mem_map.1 hd
      exact hsz e he
    have hval : ∀ k (h : k < (memF ds).length), valO (rkD (fun r => r) ds) (memF ds)[k].1 = some (k : Int) := fun k h => rn_mem_val hok h
    have hnl : (nmF (fun _ => true) (memF ds)).length = (memF ds).length := by rw [nmF_true, List.length_map]
    have hg2 := gpI_two hok
    generalize rkD (fun r => r) ds = rs at *
    repeat' (first
      | refine AWP.seq ?_
      | refine AWP.block ?_
      | (refine AWP.skip ?_; simp only [thenA, blockA, reduceIte])
      | (refine AWP.exit ?_; simp only [thenA, blockA, eq_self, reduceIte, Nat.reduceEqDiff, Nat.succ_ne_zero])
      | (refine AWP.ret ?_; simp only [thenA, blockA, reduceIte])
      | (refine AWP.region (by rfl) (fun KK hKK => ?_); (repeat (simp (disch := omega) [hO, hok, hm2, eOut_some, dOut_some, sOut_some, dOutS_some])); first | (refine hKK _ _ _ ?_; clear hKK KK; simp only [thenA, blockA, reduceIte]) | skip)
      | (refine AWP.draw' mixd (by rfl) (by kernel_rfl) (fun KK tab hKK htab => ?_); (repeat (simp (disch := omega) [hO, hok, hm2, eOut_some, dOut_some, sOut_some, dOutS_some])); first | (refine dEnd_ro ?_ (hKK _ _ _ ?_); (focus (simp; done)); clear htab tab hKK KK; simp only [thenA, blockA, reduceIte]) | (refine dEnd_of ?_ (hKK _ _ _ ?_); (focus (simp only [List.reverse_cons, List.reverse_nil, List.nil_append, List.cons_append, memA, mem1, and_true, true_and]; (repeat' apply And.intro); (all_goals (first | trivial | (refine .inr ⟨?_, ?_⟩ <;> (simp; done)) | (refine .inr ⟨?_, ?_⟩ <;> (simp <;> omega)) | (refine .inl ?_; rw [htab]; kernel_rfl))); done)); clear htab tab hKK KK; simp only [thenA, blockA, reduceIte]) | skip)
      | (refine AWP.if_t ?_ ?_; focus (simp (disch := omega) [hO, hok, hm2, eOut_some, dOut_some, sOut_some, dOutS_some]; done))
      | (refine AWP.if_f ?_ ?_; focus (simp (disch := omega) [hO, hok, hm2, eOut_some, dOut_some, sOut_some, dOutS_some]; done)))
    repeat
      first
        | (refine aStop_of (renumber_c _ _ _ ds (by first | exact (Sl.whole (t := 61) (r := true) ((hσ' _ (by simp)).trans (by simp (disch := omega) only [upd_eq, upd_ne, del_ne])) (by simp [rowsD_len])) | exact (Sl.whole (t := 61) (r := true) (by simp (disch := omega) only [upd_eq, upd_ne, del_ne]) (by simp [rowsD_len]))) (by omega) hsz) ?_; rintro r δ ⟨rfl, rfl⟩)
        | (refine dStop_newA (fun σ' hσ' => renumS_some hO σ' _ _ (by first | exact (Sl.whole (t := 61) (r := true) ((hσ' _ (by simp)).trans (by simp (disch := omega) only [upd_eq, upd_ne, del_ne])) (by simp [rowsD_len])) | exact (Sl.whole (t := 61) (r := true) (by simp (disch := omega) only [upd_eq, upd_ne, del_ne]) (by simp [rowsD_len]))) (by omega) hsz) ?_)
        | (refine dStop_roA (fun σ' hσ' => equalEnum_c σ' _ _ _ rs rs (by first | exact (Sl.whole (t := 61) (r := true) ((hσ' _ (by simp)).trans (by simp (disch := omega) only [upd_eq, upd_ne, del_ne])) (by simp [rowsD_len])) | exact (Sl.whole (t := 61) (r := true) (by simp (disch := omega) only [upd_eq, upd_ne, del_ne]) (by simp [rowsD_len]))) (by first | exact (Sl.whole (t := 61) (r := true) ((hσ' _ (by simp)).trans (by simp (disch := omega) only [upd_eq, upd_ne, del_ne])) (by simp [rowsD_len])) | exact (Sl.whole (t := 61) (r := true) (by simp (disch := omega) only [upd_eq, upd_ne, del_ne]) (by simp [rowsD_len]))) (by omega) (by omega)) ?_)
        | (refine dStop_roA (fun σ' hσ' => validEnum_c σ' _ _ ds (by first | exact (Sl.whole (t := 61) (r := true) ((hσ' _ (by simp)).trans (by simp (disch := omega) only [upd_eq, upd_ne, del_ne])) (by simp [rowsD_len])) | exact (Sl.whole (t := 61) (r := true) (by simp (disch := omega) only [upd_eq, upd_ne, del_ne]) (by simp [rowsD_len]))) (by omega) hsz) ?_)
        | (refine aStop_of (MembersOf_c _ _ _ rs (by first | exact (Sl.whole (t := 61) (r := true) ((hσ' _ (by simp)).trans (by simp (disch := omega) only [upd_eq, upd_ne, del_ne])) (by simp [rowsD_len])) | exact (Sl.whole (t := 61) (r := true) (by simp (disch := omega) only [upd_eq, upd_ne, del_ne]) (by simp [rowsD_len]))) (by omega) hsz2) ?_; rintro r δ ⟨rfl, rfl⟩)
      (repeat (simp (disch := omega) [hO, hok, hm2, eOut_some, dOut_some, sOut_some, dOutS_some]))
      first | (refine dEnd_ro ?_ (hKK _ _ _ ?_); (focus (simp; done)); clear htab tab hKK KK; simp only [thenA, blockA, reduceIte]) | (refine dEnd_of ?_ (hKK _ _ _ ?_); (focus (simp only [List.reverse_cons, List.reverse_nil, List.nil_append, List.cons_append, memA, mem1, and_true, true_and]; (repeat' apply And.intro); (all_goals (first | trivial | (refine .inr ⟨?_, ?_⟩ <;> (simp; done)) | (refine .inr ⟨?_, ?_⟩ <;> (simp <;> omega)) | (refine .inl ?_; rw [htab]; kernel_rfl))); done)); clear htab tab hKK KK; simp only [thenA, blockA, reduceIte]) | (refine hKK _ _ _ ?_; clear hKK KK; simp only [thenA, blockA, reduceIte]) | skip
      repeat' (first
        | refine AWP.seq ?_
        | refine AWP.block ?_
        | (refine AWP.skip ?_; simp only [thenA, blockA, reduceIte])
        | (refine AWP.exit ?_; simp only [thenA, blockA, eq_self, reduceIte, Nat.reduceEqDiff, Nat.succ_ne_zero])
        | (refine AWP.ret ?_; simp only [thenA, blockA, reduceIte])
        | (refine AWP.region (by rfl) (fun KK hKK => ?_); (repeat (simp (disch := omega) [hO, hok, hm2, eOut_some, dOut_some, sOut_some, dOutS_some])); first | (refine hKK _ _ _ ?_; clear hKK KK; simp only [thenA, blockA, reduceIte]) | skip)
        | (refine AWP.draw' mixd (by rfl) (by kernel_rfl) (fun KK tab hKK htab => ?_); (repeat (simp (disch := omega) [hO, hok, hm2, eOut_some, dOut_some, sOut_some, dOutS_some])); first | (refine dEnd_ro ?_ (hKK _ _ _ ?_); (focus (simp; done)); clear htab tab hKK KK; simp only [thenA, blockA, reduceIte]) | (refine dEnd_of ?_ (hKK _ _ _ ?_); (focus (simp only [List.reverse_cons, List.reverse_nil, List.nil_append, List.cons_append, memA, mem1, and_true, true_and]; (repeat' apply And.intro); (all_goals (first | trivial | (refine .inr ⟨?_, ?_⟩ <;> (simp; done)) | (refine .inr ⟨?_, ?_⟩ <;> (simp <;> omega)) | (refine .inl ?_; rw [htab]; kernel_rfl))); done)); clear htab tab hKK KK; simp only [thenA, blockA, reduceIte]) | skip)
        | (refine AWP.if_t ?_ ?_; focus (simp (disch := omega) [hO, hok, hm2, eOut_some, dOut_some, sOut_some, dOutS_some]; done))
        | (refine AWP.if_f ?_ ?_; focus (simp (disch := omega) [hO, hok, hm2, eOut_some, dOut_some, sOut_some, dOutS_some]; done)))
    refine AWP.loop (fun n τ τ2 M => ∃ k : Nat, k ≤ (memF ds).length ∧ n = (memF ds).length - k ∧ τ = [(3, .ptr (K + 2) 0 0), (4, .ptr (K + 2 + 1 + 2) 0 0), (5, .sl (K + 2 + 1 + 2 + 1 + 20) 0 (nmF (fun _ => true) (memF ds)).length (some (nmF (fun _ => true) (memF ds)).length) 1), (6, .v (.int .i64 k))] ∧ τ2 K = some (blkD ds) ∧ τ2 (K + 2) = some (blkE (.sl K 0 ds.length none 2)) ∧ τ2 (K + 2 + 1) = some (blkD rs) ∧ τ2 (K + 2 + 1 + 2) = some (blkE (.sl (K + 2 + 1) 0 rs.length (some rs.length) 2)) ∧ τ2 (K + 2 + 1 + 2 + 1 + 20) = some (blkS (nmF (fun _ => true) (memF ds))) ∧ K + 2 + 1 + 2 + 1 + 20 < M)
      ⟨_, _, _, _, ⟨0, by omega, rfl, rfl, by simp (disch := omega) only [upd_eq, upd_ne], by simp (disch := omega) only [upd_eq, upd_ne], by simp (disch := omega) only [upd_eq, upd_ne], by simp (disch := omega) only [upd_eq, upd_ne], by simp (disch := omega) only [upd_eq, upd_ne], by omega⟩, Weak.tau (by simp [LQ])⟩ ?_
    rintro n τ σ2 M ⟨k, hk, rfl, rfl, hb0, hb1, hb2, hb3, hb4, hM⟩
    by_cases hlt : k < (memF ds).length
    · have hnk : (nmF (fun _ => true) (memF ds))[k]'(by omega) = (memF ds)[k].1 := by simp [nmF_true]
      have hat : (rowsS (nmF (fun _ => true) (memF ds)))[k]? = some [.v (.string (memF ds)[k].1)] := by
        rw [List.getElem?_eq_getElem (by rw [rowsS_len]; omega), rowsS_get _ _ (by omega), hnk]
      have hvk := hval k hlt
      have hlt2 : k < (nmF (fun _ => true) (memF ds)).length := by omega
      repeat' (first
        | refine AWP.seq ?_
        | refine AWP.block ?_
        | (refine AWP.skip ?_; simp only [thenA, blockA, reduceIte])
        | (refine AWP.exit ?_; simp only [thenA, blockA, eq_self, reduceIte, Nat.reduceEqDiff, Nat.succ_ne_zero])
        | (refine AWP.ret ?_; simp only [thenA, blockA, reduceIte])
        | (refine AWP.region (by rfl) (fun KK hKK => ?_); (repeat (simp (disch := omega) [hlt, hlt2, hb1, hb3, hb4, hat, hvk])); first | (refine hKK _ _ _ ?_; clear hKK KK; simp only [thenA, blockA, reduceIte]) | skip)
        | (refine AWP.draw' mixd (by rfl) (by kernel_rfl) (fun KK tab hKK htab => ?_); (repeat (simp (disch := omega) [hlt, hlt2, hb1, hb3, hb4, hat, hvk])); first | (refine dEnd_ro ?_ (hKK _ _ _ ?_); (focus (simp; done)); clear htab tab hKK KK; simp only [thenA, blockA, reduceIte]) | (refine dEnd_of ?_ (hKK _ _ _ ?_); (focus (simp only [List.reverse_cons, List.reverse_nil, List.nil_append, List.cons_append, memA, mem1, and_true, true_and]; (repeat' apply And.intro); (all_goals (first | trivial | (refine .inr ⟨?_, ?_⟩ <;> (simp; done)) | (refine .inr ⟨?_, ?_⟩ <;> (simp <;> omega)) | (refine .inl ?_; rw [htab]; kernel_rfl))); done)); clear htab tab hKK KK; simp only [thenA, blockA, reduceIte]) | skip)
        | (refine AWP.if_t ?_ ?_; focus (simp (disch := omega) [hlt, hlt2, hb1, hb3, hb4, hat, hvk]; done))
        | (refine AWP.if_f ?_ ?_; focus (simp (disch := omega) [hlt, hlt2, hb1, hb3, hb4, hat, hvk]; done)))
      repeat
        first
          | (refine dStop_roA (fun σ' hσ' => ValueOf_c σ' _ _ rs _ (by first | exact (Sl.whole (t := 61) (r := true) ((hσ' _ (by simp)).trans (by simp (disch := omega) only [upd_eq, upd_ne, del_ne, hb2])) (by simp [rowsD_len])) | exact (Sl.whole (t := 61) (r := true) (by simp (disch := omega) only [upd_eq, upd_ne, del_ne, hb2]) (by simp [rowsD_len]))) (by omega) hsz2) ?_)
        (repeat (simp (disch := omega) [hlt, hlt2, hb1, hb3, hb4, hat, hvk]))
        first | (refine dEnd_ro ?_ (hKK _ _ _ ?_); (focus (simp; done)); clear htab tab hKK KK; simp only [thenA, blockA, reduceIte]) | (refine dEnd_of ?_ (hKK _ _ _ ?_); (focus (simp only [List.reverse_cons, List.reverse_nil, List.nil_append, List.cons_append, memA, mem1, and_true, true_and]; (repeat' apply And.intro); (all_goals (first | trivial | (refine .inr ⟨?_, ?_⟩ <;> (simp; done)) | (refine .inr ⟨?_, ?_⟩ <;> (simp <;> omega)) | (refine .inl ?_; rw [htab]; kernel_rfl))); done)); clear htab tab hKK KK; simp only [thenA, blockA, reduceIte]) | (refine hKK _ _ _ ?_; clear hKK KK; simp only [thenA, blockA, reduceIte]) | skip
        repeat' (first
          | refine AWP.seq ?_
          | refine AWP.block ?_
          | (refine AWP.skip ?_; simp only [thenA, blockA, reduceIte])
          | (refine AWP.exit ?_; simp only [thenA, blockA, eq_self, reduceIte, Nat.reduceEqDiff, Nat.succ_ne_zero])
          | (refine AWP.ret ?_; simp only [thenA, blockA, reduceIte])
          | (refine AWP.region (by rfl) (fun KK hKK => ?_); (repeat (simp (disch := omega) [hlt, hlt2, hb1, hb3, hb4, hat, hvk])); first | (refine hKK _ _ _ ?_; clear hKK KK; simp only [thenA, blockA, reduceIte]) | skip)
          | (refine AWP.draw' mixd (by rfl) (by kernel_rfl) (fun KK tab hKK htab => ?_); (repeat (simp (disch := omega) [hlt, hlt2, hb1, hb3, hb4, hat, hvk])); first | (refine dEnd_ro ?_ (hKK _ _ _ ?_); (focus (simp; done)); clear htab tab hKK KK; simp only [thenA, blockA, reduceIte]) | (refine dEnd_of ?_ (hKK _ _ _ ?_); (focus (simp only [List.reverse_cons, List.reverse_nil, List.nil_append, List.cons_append, memA, mem1, and_true, true_and]; (repeat' apply And.intro); (all_goals (first | trivial | (refine .inr ⟨?_, ?_⟩ <;> (simp; done)) | (refine .inr ⟨?_, ?_⟩ <;> (simp <;> omega)) | (refine .inl ?_; rw [htab]; kernel_rfl))); done)); clear htab tab hKK KK; simp only [thenA, blockA, reduceIte]) | skip)
          | (refine AWP.if_t ?_ ?_; focus (simp (disch := omega) [hlt, hlt2, hb1, hb3, hb4, hat, hvk]; done))
          | (refine AWP.if_f ?_ ?_; focus (simp (disch := omega) [hlt, hlt2, hb1, hb3, hb4, hat, hvk]; done)))
      refine ⟨_, _, _, _, ?_, ⟨k + 1, by omega, rfl, rfl, by simp (disch := omega) only [upd_eq, upd_ne, hb0], by simp (disch := omega) only [upd_eq, upd_ne, hb1], by simp (disch := omega) only [upd_eq, upd_ne, hb2], by simp (disch := omega) only [upd_eq, upd_ne, hb3], by simp (disch := omega) only [upd_eq, upd_ne, hb4], by omega⟩, Weak.tau (by simp [LQ])⟩
      omega
    · have hk' : k = (memF ds).length := by omega
      subst hk'
      have hlt2 : ¬ (memF ds).length < (nmF (fun _ => true) (memF ds)).length := by omega
      rcases hg2 with hg2 | hg2
      · repeat' (first
          | refine AWP.seq ?_
          | refine AWP.block ?_
          | (refine AWP.skip ?_; simp only [thenA, blockA, reduceIte])
          | (refine AWP.exit ?_; simp only [thenA, blockA, eq_self, reduceIte, Nat.reduceEqDiff, Nat.succ_ne_zero])
          | (refine AWP.ret ?_; simp only [thenA, blockA, reduceIte])
          | (refine AWP.region (by rfl) (fun KK hKK => ?_); (repeat (simp (disch := omega) [hlt, hlt2, hb1, hb3])); first | (refine hKK _ _ _ ?_; clear hKK KK; simp only [thenA, blockA, reduceIte]) | skip)
          | (refine AWP.draw' mixd (by rfl) (by kernel_rfl) (fun KK tab hKK htab => ?_); (repeat (simp (disch := omega) [hlt, hlt2, hb1, hb3])); first | (refine dEnd_ro ?_ (hKK _ _ _ ?_); (focus (simp; done)); clear htab tab hKK KK; simp only [thenA, blockA, reduceIte]) | (refine dEnd_of ?_ (hKK _ _ _ ?_); (focus (simp only [List.reverse_cons, List.reverse_nil, List.nil_append, List.cons_append, memA, mem1, and_true, true_and]; (repeat' apply And.intro); (all_goals (first | trivial | (refine .inr ⟨?_, ?_⟩ <;> (simp; done)) | (refine .inr ⟨?_, ?_⟩ <;> (simp <;> omega)) | (refine .inl ?_; rw [htab]; kernel_rfl))); done)); clear htab tab hKK KK; simp only [thenA, blockA, reduceIte]) | skip)
          | (refine AWP.if_t ?_ ?_; focus (simp (disch := omega) [hlt, hlt2, hb1, hb3]; done))
          | (refine AWP.if_f ?_ ?_; focus (simp (disch := omega) [hlt, hlt2, hb1, hb3]; done)))
        repeat
          first
            | (refine dStop_newA (fun σ' hσ' => members_some hm1 σ' _ _ (by first | exact (Sl.whole (t := 61) (r := true) ((hσ' _ (by simp)).trans (by simp (disch := omega) only [upd_eq, upd_ne, del_ne, hb0])) (by simp [rowsD_len])) | exact (Sl.whole (t := 61) (r := true) (by simp (disch := omega) only [upd_eq, upd_ne, del_ne, hb0]) (by simp [rowsD_len]))) (by omega) hsz) ?_)
            | (refine dStop_roA (fun σ' hσ' => equalTexts_c σ' _ _ _ (nmF (fun _ => true) (memF ds)) (nmF (fun _ => true) (memF ds)) (by first | exact (Sl.whole (t := 9) (r := true) ((hσ' _ (by simp)).trans (by simp (disch := omega) only [upd_eq, upd_ne, del_ne, hb4])) (by simp [rowsS_len])) | exact (Sl.whole (t := 9) (r := true) (by simp (disch := omega) only [upd_eq, upd_ne, del_ne, hb4]) (by simp [rowsS_len]))) (by first | exact (Sl.whole (t := 9) (r := true) ((hσ' _ (by simp)).trans (by simp (disch := omega) only [upd_eq, upd_ne, del_ne, hb4])) (by simp [rowsS_len])) | exact (Sl.whole (t := 9) (r := true) (by simp (disch := omega) only [upd_eq, upd_ne, del_ne, hb4]) (by simp [rowsS_len]))) (by omega) (by omega)) ?_)
            | (refine dStop_roA (fun σ' hσ' => gaps_none hg2 σ' _ _ (by first | exact (Sl.whole (t := 61) (r := true) ((hσ' _ (by simp)).trans (by simp (disch := omega) only [upd_eq, upd_ne, del_ne, hb2])) (by simp [rowsD_len])) | exact (Sl.whole (t := 61) (r := true) (by simp (disch := omega) only [upd_eq, upd_ne, del_ne, hb2]) (by simp [rowsD_len]))) (by omega) hsz2) ?_)
            | (refine dStop_newA (fun σ' hσ' => renum_some hO2 σ' _ _ (by first | exact (Sl.whole (t := 61) (r := true) ((hσ' _ (by simp)).trans (by simp (disch := omega) only [upd_eq, upd_ne, del_ne, hb2])) (by simp [rowsD_len])) | exact (Sl.whole (t := 61) (r := true) (by simp (disch := omega) only [upd_eq, upd_ne, del_ne, hb2]) (by simp [rowsD_len]))) (by omega) hsz2) ?_)
            | (refine dStop_roA (fun σ' hσ' => equalEnum_c σ' _ _ _ rs rs (by first | exact (Sl.whole (t := 61) (r := true) ((hσ' _ (by simp)).trans (by simp (disch := omega) only [upd_eq, upd_ne, del_ne, hb2])) (by simp [rowsD_len])) | exact (Sl.whole (t := 61) (r := true) (by simp (disch := omega) only [upd_eq, upd_ne, del_ne, hb2]) (by simp [rowsD_len]))) (by first | exact (Sl.whole (t := 61) (r := true) ((hσ' _ (by simp)).trans (by simp (disch := omega) only [upd_eq, upd_ne, del_ne, hb2])) (by simp [rowsD_len])) | exact (Sl.whole (t := 61) (r := true) (by simp (disch := omega) only [upd_eq, upd_ne, del_ne, hb2]) (by simp [rowsD_len]))) (by omega) (by omega)) ?_)
          (repeat (simp (disch := omega) [hlt, hlt2, hb1, hb3]))
          first | (refine dEnd_ro ?_ (hKK _ _ _ ?_); (focus (simp; done)); clear htab tab hKK KK; simp only [thenA, blockA, reduceIte]) | (refine dEnd_of ?_ (hKK _ _ _ ?_); (focus (simp only [List.reverse_cons, List.reverse_nil, List.nil_append, List.cons_append, memA, mem1, and_true, true_and]; (repeat' apply And.intro); (all_goals (first | trivial | (refine .inr ⟨?_, ?_⟩ <;> (simp; done)) | (refine .inr ⟨?_, ?_⟩ <;> (simp <;> omega)) | (refine .inl ?_; rw [htab]; kernel_rfl))); done)); clear htab tab hKK KK; simp only [thenA, blockA, reduceIte]) | (refine hKK _ _ _ ?_; clear hKK KK; simp only [thenA, blockA, reduceIte]) | skip
          repeat' (first
            | refine AWP.seq ?_
            | refine AWP.block ?_
            | (refine AWP.skip ?_; simp only [thenA, blockA, reduceIte])
            | (refine AWP.exit ?_; simp only [thenA, blockA, eq_self, reduceIte, Nat.reduceEqDiff, Nat.succ_ne_zero])
            | (refine AWP.ret ?_; simp only [thenA, blockA, reduceIte])
            | (refine AWP.region (by rfl) (fun KK hKK => ?_); (repeat (simp (disch := omega) [hlt, hlt2, hb1, hb3])); first | (refine hKK _ _ _ ?_; clear hKK KK; simp only [thenA, blockA, reduceIte]) | skip)
            | (refine AWP.draw' mixd (by rfl) (by kernel_rfl) (fun KK tab hKK htab => ?_); (repeat (simp (disch := omega) [hlt, hlt2, hb1, hb3])); first | (refine dEnd_ro ?_ (hKK _ _ _ ?_); (focus (simp; done)); clear htab tab hKK KK; simp only [thenA, blockA, reduceIte]) | (refine dEnd_of ?_ (hKK _ _ _ ?_); (focus (simp only [List.reverse_cons, List.reverse_nil, List.nil_append, List.cons_append, memA, mem1, and_true, true_and]; (repeat' apply And.intro); (all_goals (first | trivial | (refine .inr ⟨?_, ?_⟩ <;> (simp; done)) | (refine .inr ⟨?_, ?_⟩ <;> (simp <;> omega)) | (refine .inl ?_; rw [htab]; kernel_rfl))); done)); clear htab tab hKK KK; simp only [thenA, blockA, reduceIte]) | skip)
            | (refine AWP.if_t ?_ ?_; focus (simp (disch := omega) [hlt, hlt2, hb1, hb3]; done))
            | (refine AWP.if_f ?_ ?_; focus (simp (disch := omega) [hlt, hlt2, hb1, hb3]; done)))
        refine ⟨by simp, _, rfl, fin0 ⟨?_, rfl⟩ (by simp [resO, get, nms, nmss]; try (simp [nms, nmss] at hn; simp_all))⟩
        simp [resO, get, ren, rens]
      · repeat' (first
          | refine AWP.seq ?_
          | refine AWP.block ?_
          | (refine AWP.skip ?_; simp only [thenA, blockA, reduceIte])
          | (refine AWP.exit ?_; simp only [thenA, blockA, eq_self, reduceIte, Nat.reduceEqDiff, Nat.succ_ne_zero])
          | (refine AWP.ret ?_; simp only [thenA, blockA, reduceIte])
          | (refine AWP.region (by rfl) (fun KK hKK => ?_); (repeat (simp (disch := omega) [hlt, hlt2, hb1, hb3])); first | (refine hKK _ _ _ ?_; clear hKK KK; simp only [thenA, blockA, reduceIte]) | skip)
          | (refine AWP.draw' mixd (by rfl) (by kernel_rfl) (fun KK tab hKK htab => ?_); (repeat (simp (disch := omega) [hlt, hlt2, hb1, hb3])); first | (refine dEnd_ro ?_ (hKK _ _ _ ?_); (focus (simp; done)); clear htab tab hKK KK; simp only [thenA, blockA, reduceIte]) | (refine dEnd_of ?_ (hKK _ _ _ ?_); (focus (simp only [List.reverse_cons, List.reverse_nil, List.nil_append, List.cons_append, memA, mem1, and_true, true_and]; (repeat' apply And.intro); (all_goals (first | trivial | (refine .inr ⟨?_, ?_⟩ <;> (simp; done)) | (refine .inr ⟨?_, ?_⟩ <;> (simp <;> omega)) | (refine .inl ?_; rw [htab]; kernel_rfl))); done)); clear htab tab hKK KK; simp only [thenA, blockA, reduceIte]) | skip)
          | (refine AWP.if_t ?_ ?_; focus (simp (disch := omega) [hlt, hlt2, hb1, hb3]; done))
          | (refine AWP.if_f ?_ ?_; focus (simp (disch := omega) [hlt, hlt2, hb1, hb3]; done)))
        repeat
          first
            | (refine dStop_newA (fun σ' hσ' => members_some hm1 σ' _ _ (by first | exact (Sl.whole (t := 61) (r := true) ((hσ' _ (by simp)).trans (by simp (disch := omega) only [upd_eq, upd_ne, del_ne, hb0])) (by simp [rowsD_len])) | exact (Sl.whole (t := 61) (r := true) (by simp (disch := omega) only [upd_eq, upd_ne, del_ne, hb0]) (by simp [rowsD_len]))) (by omega) hsz) ?_)
            | (refine dStop_roA (fun σ' hσ' => equalTexts_c σ' _ _ _ (nmF (fun _ => true) (memF ds)) (nmF (fun _ => true) (memF ds)) (by first | exact (Sl.whole (t := 9) (r := true) ((hσ' _ (by simp)).trans (by simp (disch := omega) only [upd_eq, upd_ne, del_ne, hb4])) (by simp [rowsS_len])) | exact (Sl.whole (t := 9) (r := true) (by simp (disch := omega) only [upd_eq, upd_ne, del_ne, hb4]) (by simp [rowsS_len]))) (by first | exact (Sl.whole (t := 9) (r := true) ((hσ' _ (by simp)).trans (by simp (disch := omega) only [upd_eq, upd_ne, del_ne, hb4])) (by simp [rowsS_len])) | exact (Sl.whole (t := 9) (r := true) (by simp (disch := omega) only [upd_eq, upd_ne, del_ne, hb4]) (by simp [rowsS_len]))) (by omega) (by omega)) ?_)
            | (refine dStop_newA (fun σ' hσ' => gaps_some hg2 σ' _ _ (by first | exact (Sl.whole (t := 61) (r := true) ((hσ' _ (by simp)).trans (by simp (disch := omega) only [upd_eq, upd_ne, del_ne, hb2])) (by simp [rowsD_len])) | exact (Sl.whole (t := 61) (r := true) (by simp (disch := omega) only [upd_eq, upd_ne, del_ne, hb2]) (by simp [rowsD_len]))) (by omega) hsz2) ?_)
            | (refine dStop_newA (fun σ' hσ' => renum_some hO2 σ' _ _ (by first | exact (Sl.whole (t := 61) (r := true) ((hσ' _ (by simp)).trans (by simp (disch := omega) only [upd_eq, upd_ne, del_ne, hb2])) (by simp [rowsD_len])) | exact (Sl.whole (t := 61) (r := true) (by simp (disch := omega) only [upd_eq, upd_ne, del_ne, hb2]) (by simp [rowsD_len]))) (by omega) hsz2) ?_)
            | (refine dStop_roA (fun σ' hσ' => equalEnum_c σ' _ _ _ rs rs (by first | exact (Sl.whole (t := 61) (r := true) ((hσ' _ (by simp)).trans (by simp (disch := omega) only [upd_eq, upd_ne, del_ne, hb2])) (by simp [rowsD_len])) | exact (Sl.whole (t := 61) (r := true) (by simp (disch := omega) only [upd_eq, upd_ne, del_ne, hb2]) (by simp [rowsD_len]))) (by first | exact (Sl.whole (t := 61) (r := true) ((hσ' _ (by simp)).trans (by simp (disch := omega) only [upd_eq, upd_ne, del_ne, hb2])) (by simp [rowsD_len])) | exact (Sl.whole (t := 61) (r := true) (by simp (disch := omega) only [upd_eq, upd_ne, del_ne, hb2]) (by simp [rowsD_len]))) (by omega) (by omega)) ?_)
          (repeat (simp (disch := omega) [hlt, hlt2, hb1, hb3]))
          first | (refine dEnd_ro ?_ (hKK _ _ _ ?_); (focus (simp; done)); clear htab tab hKK KK; simp only [thenA, blockA, reduceIte]) | (refine dEnd_of ?_ (hKK _ _ _ ?_); (focus (simp only [List.reverse_cons, List.reverse_nil, List.nil_append, List.cons_append, memA, mem1, and_true, true_and]; (repeat' apply And.intro); (all_goals (first | trivial | (refine .inr ⟨?_, ?_⟩ <;> (simp; done)) | (refine .inr ⟨?_, ?_⟩ <;> (simp <;> omega)) | (refine .inl ?_; rw [htab]; kernel_rfl))); done)); clear htab tab hKK KK; simp only [thenA, blockA, reduceIte]) | (refine hKK _ _ _ ?_; clear hKK KK; simp only [thenA, blockA, reduceIte]) | skip
          repeat' (first
            | refine AWP.seq ?_
            | refine AWP.block ?_
            | (refine AWP.skip ?_; simp only [thenA, blockA, reduceIte])
            | (refine AWP.exit ?_; simp only [thenA, blockA, eq_self, reduceIte, Nat.reduceEqDiff, Nat.succ_ne_zero])
            | (refine AWP.ret ?_; simp only [thenA, blockA, reduceIte])
            | (refine AWP.region (by rfl) (fun KK hKK => ?_); (repeat (simp (disch := omega) [hlt, hlt2, hb1, hb3])); first | (refine hKK _ _ _ ?_; clear hKK KK; simp only [thenA, blockA, reduceIte]) | skip)
            | (refine AWP.draw' mixd (by rfl) (by kernel_rfl) (fun KK tab hKK htab => ?_); (repeat (simp (disch := omega) [hlt, hlt2, hb1, hb3])); first | (refine dEnd_ro ?_ (hKK _ _ _ ?_); (focus (simp; done)); clear htab tab hKK KK; simp only [thenA, blockA, reduceIte]) | (refine dEnd_of ?_ (hKK _ _ _ ?_); (focus (simp only [List.reverse_cons, List.reverse_nil, List.nil_append, List.cons_append, memA, mem1, and_true, true_and]; (repeat' apply And.intro); (all_goals (first | trivial | (refine .inr ⟨?_, ?_⟩ <;> (simp; done)) | (refine .inr ⟨?_, ?_⟩ <;> (simp <;> omega)) | (refine .inl ?_; rw [htab]; kernel_rfl))); done)); clear htab tab hKK KK; simp only [thenA, blockA, reduceIte]) | skip)
            | (refine AWP.if_t ?_ ?_; focus (simp (disch := omega) [hlt, hlt2, hb1, hb3]; done))
            | (refine AWP.if_f ?_ ?_; focus (simp (disch := omega) [hlt, hlt2, hb1, hb3]; done)))
        refine ⟨by simp, _, rfl, fin0 ⟨?_, rfl⟩ (by simp [resO, get, nms, nmss]; try (simp [nms, nmss] at hn; simp_all))⟩
        simp [resO, get, ren, rens]
end Go.Proofs.Ytkddpkjgmmmcpaa
