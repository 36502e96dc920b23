/- Contracts: greatest and least values. No condition. -/
import Derived.Test.YtkddpkjgmmmcpaaLC
set_option linter.unusedSimpArgs false
set_option linter.unusedVariables false
namespace Go.Proofs.Ytkddpkjgmmmcpaa
open Go Go.RowKit

/-- The greatest, the least value, from a value on. -/
def gtV (ds : List Df) (m : Int) : Int := ds.foldl (fun m e => if m < e.2 then e.2 else m) m
def ltV (ds : List Df) (m : Int) : Int := ds.foldl (fun m e => if e.2 < m then e.2 else m) m
def grV (ds : List Df) (z : Int) : Int := match ds with
  | [] => z
  | d :: l => gtV l d.2
theorem gtV_snoc {ds : List Df} {k : Nat} (h : k < ds.length) (m : Int) : gtV (ds.take (k + 1)) m = if gtV (ds.take k) m < ds[k].2 then ds[k].2 else gtV (ds.take k) m := by
  unfold gtV
  rw [List.take_succ_eq_append_getElem h, List.foldl_append]
  rfl
theorem ltV_snoc {ds : List Df} {k : Nat} (h : k < ds.length) (m : Int) : ltV (ds.take (k + 1)) m = if ds[k].2 < ltV (ds.take k) m then ds[k].2 else ltV (ds.take k) m := by
  unfold ltV
  rw [List.take_succ_eq_append_getElem h, List.foldl_append]
  rfl
theorem grV_one {ds : List Df} (h : 0 < ds.length) (z : Int) : grV (ds.take 1) z = ds[0].2 := by
  match ds, h with
  | d :: l, _ => rfl
theorem grV_snoc {ds : List Df} {k : Nat} (h : k < ds.length) (hk : 0 < k) (z : Int) : grV (ds.take (k + 1)) z = if grV (ds.take k) z < ds[k].2 then ds[k].2 else grV (ds.take k) z := by
  match ds, k, hk with
  | d :: l, k + 1, _ =>
    simp only [List.length_cons] at h
    exact gtV_snoc (ds := l) (k := k) (by omega) d.2

set_option maxRecDepth 10000 in
set_option maxHeartbeats 1000000 in
theorem greatest_c (σ : Sto) (ν : Nat) (x : AV) (ds : List Df) (v : Int) (hx : Sl σ x 2 (rowsD ds)) (hlen : ds.length ≤ 9223372036854775807) :
    AC Try.prog 88 [x, .v (.int .i64 v)] σ ν fun r δ => r = .v (.int .i64 (grV ds v)) ∧ δ = noS := by
  obtain ⟨b, o, cap, z, rfl⟩ := hx.out
  simp only [rowsD_len] at hx ⊢
  refine AC.intro [] ent_88 Try.func88 rfl (by simp [Try.f88]) (by simp) ?_
  intro K s hs hB hn hν hA hFr
  simp only [argT, Nat.zero_add, Nat.reduceAdd]
  have hx' := hx.vw hs.vw
  repeat' (first
    | refine AWP.seq ?_
    | refine AWP.block ?_
    | (refine AWP.skip ?_; simp only [thenA, blockA, reduceIte])
    | (refine AWP.exit ?_; simp only [thenA, blockA, eq_self, reduceIte, Nat.reduceEqDiff, Nat.succ_ne_zero])
    | (refine AWP.ret ?_; simp only [thenA, blockA, reduceIte])
    | (refine AWP.region (by rfl) (fun KK hKK => ?_); (repeat (simp (disch := omega) [])); first | (refine hKK _ _ _ ?_; clear hKK KK; simp only [thenA, blockA, reduceIte]) | skip)
    | (refine AWP.if_t ?_ ?_; focus (simp (disch := omega) []; done))
    | (refine AWP.if_f ?_ ?_; focus (simp (disch := omega) []; done)))
  refine AWP.loop (fun n τ σ' M => ∃ k : Nat, k ≤ ds.length ∧ n = ds.length - k ∧ τ = [(5, .v (.int .i64 (grV (ds.take k) v))), (9, .sl b o ds.length cap z), (10, .v (.int .i64 ds.length)), (11, .v (.int .i64 k))] ∧ Over s σ' ∧ K ≤ M)
    ⟨_, _, _, _, ⟨0, by omega, rfl, rfl, (by repeat (first | exact Over.refl _ | exact hov | refine Over.upd ?_ hB (by omega) | refine Over.del ?_ hB (by omega))), by omega⟩, Weak.tau (by simp [LQ, grV])⟩ ?_
  rintro n τ σ' M ⟨k, hk, rfl, rfl, hov, hM⟩
  by_cases hlt : k < ds.length
  · obtain ⟨_, rfl, kb, hkb, hat⟩ := hx'.at (i := k) (by rw [rowsD_len]; exact hlt)
    have hrow : (rowsD ds)[k]'(by rw [rowsD_len]; exact hlt) = [.v (.string ds[k].1), .v (.int .i64 ds[k].2)] := by simp [rowsD, rowD]
    rw [hrow] at hat
    have hkb' := hov _ _ hkb
    by_cases h0 : k = 0
    · subst h0
      have hg := grV_one (z := v) hlt
      rw [Nat.add_zero] at hat
      repeat' (first
        | refine AWP.seq ?_
        | refine AWP.block ?_
        | (refine AWP.skip ?_; simp only [thenA, blockA, reduceIte])
        | (refine AWP.exit ?_; simp only [thenA, blockA, eq_self, reduceIte, Nat.reduceEqDiff, Nat.succ_ne_zero])
        | (refine AWP.ret ?_; simp only [thenA, blockA, reduceIte])
        | (refine AWP.region (by rfl) (fun KK hKK => ?_); (repeat (simp (disch := omega) [hlt, hkb', hat])); first | (refine hKK _ _ _ ?_; clear hKK KK; simp only [thenA, blockA, reduceIte]) | skip)
        | (refine AWP.if_t ?_ ?_; focus (simp (disch := omega) [hlt, hkb', hat]; done))
        | (refine AWP.if_f ?_ ?_; focus (simp (disch := omega) [hlt, hkb', hat]; done)))
      refine ⟨_, _, _, _, ?_, ⟨1, by omega, rfl, rfl, (by repeat (first | exact Over.refl _ | exact hov | refine Over.upd ?_ hB (by omega) | refine Over.del ?_ hB (by omega))), by omega⟩, Weak.tau (by simp [LQ, hg])⟩
      omega
    · have hg := grV_snoc (z := v) hlt (by omega)
      have h0i : ¬ ((k : Int) = 0) := by omega
      by_cases hq : grV (ds.take k) v < ds[k].2
      · rw [if_pos hq] at hg
        repeat' (first
          | refine AWP.seq ?_
          | refine AWP.block ?_
          | (refine AWP.skip ?_; simp only [thenA, blockA, reduceIte])
          | (refine AWP.exit ?_; simp only [thenA, blockA, eq_self, reduceIte, Nat.reduceEqDiff, Nat.succ_ne_zero])
          | (refine AWP.ret ?_; simp only [thenA, blockA, reduceIte])
          | (refine AWP.region (by rfl) (fun KK hKK => ?_); (repeat (simp (disch := omega) [hlt, hkb', hat, h0, h0i, hq])); first | (refine hKK _ _ _ ?_; clear hKK KK; simp only [thenA, blockA, reduceIte]) | skip)
          | (refine AWP.if_t ?_ ?_; focus (simp (disch := omega) [hlt, hkb', hat, h0, h0i, hq]; done))
          | (refine AWP.if_f ?_ ?_; focus (simp (disch := omega) [hlt, hkb', hat, h0, h0i, hq]; done)))
        refine ⟨_, _, _, _, ?_, ⟨k + 1, by omega, rfl, rfl, (by repeat (first | exact Over.refl _ | exact hov | refine Over.upd ?_ hB (by omega) | refine Over.del ?_ hB (by omega))), by omega⟩, Weak.tau (by simp [LQ, hg])⟩
        omega
      · rw [if_neg hq] at hg
        repeat' (first
          | refine AWP.seq ?_
          | refine AWP.block ?_
          | (refine AWP.skip ?_; simp only [thenA, blockA, reduceIte])
          | (refine AWP.exit ?_; simp only [thenA, blockA, eq_self, reduceIte, Nat.reduceEqDiff, Nat.succ_ne_zero])
          | (refine AWP.ret ?_; simp only [thenA, blockA, reduceIte])
          | (refine AWP.region (by rfl) (fun KK hKK => ?_); (repeat (simp (disch := omega) [hlt, hkb', hat, h0, h0i, hq])); first | (refine hKK _ _ _ ?_; clear hKK KK; simp only [thenA, blockA, reduceIte]) | skip)
          | (refine AWP.if_t ?_ ?_; focus (simp (disch := omega) [hlt, hkb', hat, h0, h0i, hq]; done))
          | (refine AWP.if_f ?_ ?_; focus (simp (disch := omega) [hlt, hkb', hat, h0, h0i, hq]; done)))
        refine ⟨_, _, _, _, ?_, ⟨k + 1, by omega, rfl, rfl, (by repeat (first | exact Over.refl _ | exact hov | refine Over.upd ?_ hB (by omega) | refine Over.del ?_ hB (by omega))), by omega⟩, Weak.tau (by simp [LQ, hg])⟩
        omega
  · have hk' : k = ds.length := by omega
    subst hk'
    rw [List.take_length]
    repeat' (first
      | refine AWP.seq ?_
      | refine AWP.block ?_
      | (refine AWP.skip ?_; simp only [thenA, blockA, reduceIte])
      | (refine AWP.exit ?_; simp only [thenA, blockA, eq_self, reduceIte, Nat.reduceEqDiff, Nat.succ_ne_zero])
      | (refine AWP.ret ?_; simp only [thenA, blockA, reduceIte])
      | (refine AWP.region (by rfl) (fun KK hKK => ?_); (repeat (simp (disch := omega) [])); first | (refine hKK _ _ _ ?_; clear hKK KK; simp only [thenA, blockA, reduceIte]) | skip)
      | (refine AWP.if_t ?_ ?_; focus (simp (disch := omega) []; done))
      | (refine AWP.if_f ?_ ?_; focus (simp (disch := omega) []; done)))
    refine ⟨by simp, _, rfl, fin0 ⟨?_, rfl⟩ (by simp [resO, get, nms, nmss]; try (simp [nms, nmss] at hn; simp_all))⟩
    simp [resO, get, ren, rens]

def loV (ds : List Df) : Int := match ds with
  | [] => 0
  | d :: l => ltV l d.2
theorem gtV_head {ds : List Df} (h : 0 < ds.length) (z : Int) : gtV ds ds[0].2 = grV ds z := by
  match ds, h with
  | d :: l, _ => simp [gtV, grV]
theorem ltV_head {ds : List Df} (h : 0 < ds.length) : ltV ds ds[0].2 = loV ds := by
  match ds, h with
  | d :: l, _ => simp [ltV, loV]

theorem gtV_bd {lo hi : Int} : ∀ (ds : List Df) (m : Int), (∀ d ∈ ds, lo ≤ d.2 ∧ d.2 ≤ hi) → lo ≤ m ∧ m ≤ hi → lo ≤ gtV ds m ∧ gtV ds m ≤ hi
  | [], m, _, h => h
  | d :: l, m, hv, h => by
    have hd := hv d (by simp)
    exact gtV_bd l (if m < d.2 then d.2 else m) (fun e he => hv e (by simp [he])) (by split <;> omega)
theorem ltV_bd {lo hi : Int} : ∀ (ds : List Df) (m : Int), (∀ d ∈ ds, lo ≤ d.2 ∧ d.2 ≤ hi) → lo ≤ m ∧ m ≤ hi → lo ≤ ltV ds m ∧ ltV ds m ≤ hi
  | [], m, _, h => h
  | d :: l, m, hv, h => by
    have hd := hv d (by simp)
    exact ltV_bd l (if d.2 < m then d.2 else m) (fun e he => hv e (by simp [he])) (by split <;> omega)

set_option maxRecDepth 10000 in
set_option maxHeartbeats 1000000 in
theorem highest_c (σ : Sto) (ν : Nat) (x : AV) (ds : List Df) (hx : Sl σ x 2 (rowsD ds)) (hlen : ds.length ≤ 9223372036854775807) (hv : ∀ d ∈ ds, -1000000 ≤ d.2 ∧ d.2 ≤ 1000000) :
    AC Try.prog 87 [x] σ ν fun r δ => r = .v (.int .i64 (grV ds 0 + 1)) ∧ δ = noS := by
  obtain ⟨b, o, cap, z, rfl⟩ := hx.out
  simp only [rowsD_len] at hx ⊢
  refine AC.intro [] ent_87 Try.func87 rfl (by simp [Try.f87]) (by simp) ?_
  intro K s hs hB hn hν hA hFr
  simp only [argT, Nat.zero_add, Nat.reduceAdd]
  have hx' := hx.vw hs.vw
  by_cases he : ds = []
  · subst he
    repeat' (first
      | refine AWP.seq ?_
      | refine AWP.block ?_
      | (refine AWP.skip ?_; simp only [thenA, blockA, reduceIte])
      | (refine AWP.exit ?_; simp only [thenA, blockA, eq_self, reduceIte, Nat.reduceEqDiff, Nat.succ_ne_zero])
      | (refine AWP.ret ?_; simp only [thenA, blockA, reduceIte])
      | (refine AWP.region (by rfl) (fun KK hKK => ?_); (repeat (simp (disch := omega) [])); first | (refine hKK _ _ _ ?_; clear hKK KK; simp only [thenA, blockA, reduceIte]) | skip)
      | (refine AWP.if_t ?_ ?_; focus (simp (disch := omega) []; done))
      | (refine AWP.if_f ?_ ?_; focus (simp (disch := omega) []; done)))
    refine ⟨by simp, _, rfl, fin0 ⟨?_, rfl⟩ (by simp [resO, get, nms, nmss]; try (simp [nms, nmss] at hn; simp_all))⟩
    simp [resO, get, ren, rens, grV, loV]
  have h0 : 0 < ds.length := List.length_pos_iff.2 he
  have h0i : ¬ ((ds.length : Int) = 0) := by omega
  obtain ⟨_, rfl, kb, hkb, hat⟩ := hx'.at (i := 0) (by rw [rowsD_len]; exact h0)
  have hrow : (rowsD ds)[0]'(by rw [rowsD_len]; exact h0) = [.v (.string ds[0].1), .v (.int .i64 ds[0].2)] := by simp [rowsD, rowD]
  rw [hrow, Nat.add_zero] at hat
  repeat' (first
    | refine AWP.seq ?_
    | refine AWP.block ?_
    | (refine AWP.skip ?_; simp only [thenA, blockA, reduceIte])
    | (refine AWP.exit ?_; simp only [thenA, blockA, eq_self, reduceIte, Nat.reduceEqDiff, Nat.succ_ne_zero])
    | (refine AWP.ret ?_; simp only [thenA, blockA, reduceIte])
    | (refine AWP.region (by rfl) (fun KK hKK => ?_); (repeat (simp (disch := omega) [he, h0, h0i, hkb, hat])); first | (refine hKK _ _ _ ?_; clear hKK KK; simp only [thenA, blockA, reduceIte]) | skip)
    | (refine AWP.if_t ?_ ?_; focus (simp (disch := omega) [he, h0, h0i, hkb, hat]; done))
    | (refine AWP.if_f ?_ ?_; focus (simp (disch := omega) [he, h0, h0i, hkb, hat]; done)))
  refine AWP.loop (fun n τ σ' M => ∃ k : Nat, k ≤ ds.length ∧ n = ds.length - k ∧ τ = [(0, .sl b o ds.length cap 2), (3, .v (.int .i64 (gtV (ds.take k) ds[0].2))), (4, .v (.int .i64 k))] ∧ σ' = s ∧ M = K)
    ⟨_, _, _, _, ⟨0, by omega, rfl, rfl, rfl, rfl⟩, Weak.tau (by simp [LQ, gtV])⟩ ?_
  rintro n τ σ' M ⟨k, hk, rfl, rfl, rfl, rfl⟩
  by_cases hlt : k < ds.length
  · obtain ⟨_, _, kb2, hkb2, hat2⟩ := hx'.at (i := k) (by rw [rowsD_len]; exact hlt)
    have hrow2 : (rowsD ds)[k]'(by rw [rowsD_len]; exact hlt) = [.v (.string ds[k].1), .v (.int .i64 ds[k].2)] := by simp [rowsD, rowD]
    rw [hrow2] at hat2
    have hg := gtV_snoc hlt ds[0].2
    have hm : max (gtV (ds.take k) ds[0].2) ds[k].2 = gtV (ds.take (k + 1)) ds[0].2 := by rw [hg]; split <;> omega
    repeat' (first
      | refine AWP.seq ?_
      | refine AWP.block ?_
      | (refine AWP.skip ?_; simp only [thenA, blockA, reduceIte])
      | (refine AWP.exit ?_; simp only [thenA, blockA, eq_self, reduceIte, Nat.reduceEqDiff, Nat.succ_ne_zero])
      | (refine AWP.ret ?_; simp only [thenA, blockA, reduceIte])
      | (refine AWP.region (by rfl) (fun KK hKK => ?_); (repeat (simp (disch := omega) [hlt, hkb2, hat2, hm])); first | (refine hKK _ _ _ ?_; clear hKK KK; simp only [thenA, blockA, reduceIte]) | skip)
      | (refine AWP.if_t ?_ ?_; focus (simp (disch := omega) [hlt, hkb2, hat2, hm]; done))
      | (refine AWP.if_f ?_ ?_; focus (simp (disch := omega) [hlt, hkb2, hat2, hm]; done)))
    refine ⟨_, _, _, _, ?_, ⟨k + 1, by omega, rfl, rfl, rfl, rfl⟩, Weak.tau (by simp [LQ])⟩
    omega
  · have hk' : k = ds.length := by omega
    subst hk'
    have hbd := gtV_bd ds ds[0].2 hv (hv _ (List.getElem_mem h0))
    rw [gtV_head h0 0] at hbd
    rw [List.take_length, gtV_head h0 0]
    repeat' (first
      | refine AWP.seq ?_
      | refine AWP.block ?_
      | (refine AWP.skip ?_; simp only [thenA, blockA, reduceIte])
      | (refine AWP.exit ?_; simp only [thenA, blockA, eq_self, reduceIte, Nat.reduceEqDiff, Nat.succ_ne_zero])
      | (refine AWP.ret ?_; simp only [thenA, blockA, reduceIte])
      | (refine AWP.region (by rfl) (fun KK hKK => ?_); (repeat (simp (disch := omega) [])); first | (refine hKK _ _ _ ?_; clear hKK KK; simp only [thenA, blockA, reduceIte]) | skip)
      | (refine AWP.if_t ?_ ?_; focus (simp (disch := omega) []; done))
      | (refine AWP.if_f ?_ ?_; focus (simp (disch := omega) []; done)))
    refine ⟨by simp, _, rfl, fin0 ⟨?_, rfl⟩ (by simp [resO, get, nms, nmss]; try (simp [nms, nmss] at hn; simp_all))⟩
    simp [resO, get, ren, rens]
set_option maxRecDepth 10000 in
set_option maxHeartbeats 1000000 in
theorem lowest_c (σ : Sto) (ν : Nat) (x : AV) (ds : List Df) (hx : Sl σ x 2 (rowsD ds)) (hlen : ds.length ≤ 9223372036854775807) (hv : ∀ d ∈ ds, -1000000 ≤ d.2 ∧ d.2 ≤ 1000000) :
    AC Try.prog 86 [x] σ ν fun r δ => r = .v (.int .i64 (loV ds)) ∧ δ = noS := by
  obtain ⟨b, o, cap, z, rfl⟩ := hx.out
  simp only [rowsD_len] at hx ⊢
  refine AC.intro [] ent_86 Try.func86 rfl (by simp [Try.f86]) (by simp) ?_
  intro K s hs hB hn hν hA hFr
  simp only [argT, Nat.zero_add, Nat.reduceAdd]
  have hx' := hx.vw hs.vw
  by_cases he : ds = []
  · subst he
    repeat' (first
      | refine AWP.seq ?_
      | refine AWP.block ?_
      | (refine AWP.skip ?_; simp only [thenA, blockA, reduceIte])
      | (refine AWP.exit ?_; simp only [thenA, blockA, eq_self, reduceIte, Nat.reduceEqDiff, Nat.succ_ne_zero])
      | (refine AWP.ret ?_; simp only [thenA, blockA, reduceIte])
      | (refine AWP.region (by rfl) (fun KK hKK => ?_); (repeat (simp (disch := omega) [])); first | (refine hKK _ _ _ ?_; clear hKK KK; simp only [thenA, blockA, reduceIte]) | skip)
      | (refine AWP.if_t ?_ ?_; focus (simp (disch := omega) []; done))
      | (refine AWP.if_f ?_ ?_; focus (simp (disch := omega) []; done)))
    refine ⟨by simp, _, rfl, fin0 ⟨?_, rfl⟩ (by simp [resO, get, nms, nmss]; try (simp [nms, nmss] at hn; simp_all))⟩
    simp [resO, get, ren, rens, grV, loV]
  have h0 : 0 < ds.length := List.length_pos_iff.2 he
  have h0i : ¬ ((ds.length : Int) = 0) := by omega
  obtain ⟨_, rfl, kb, hkb, hat⟩ := hx'.at (i := 0) (by rw [rowsD_len]; exact h0)
  have hrow : (rowsD ds)[0]'(by rw [rowsD_len]; exact h0) = [.v (.string ds[0].1), .v (.int .i64 ds[0].2)] := by simp [rowsD, rowD]
  rw [hrow, Nat.add_zero] at hat
  repeat' (first
    | refine AWP.seq ?_
    | refine AWP.block ?_
    | (refine AWP.skip ?_; simp only [thenA, blockA, reduceIte])
    | (refine AWP.exit ?_; simp only [thenA, blockA, eq_self, reduceIte, Nat.reduceEqDiff, Nat.succ_ne_zero])
    | (refine AWP.ret ?_; simp only [thenA, blockA, reduceIte])
    | (refine AWP.region (by rfl) (fun KK hKK => ?_); (repeat (simp (disch := omega) [he, h0, h0i, hkb, hat])); first | (refine hKK _ _ _ ?_; clear hKK KK; simp only [thenA, blockA, reduceIte]) | skip)
    | (refine AWP.if_t ?_ ?_; focus (simp (disch := omega) [he, h0, h0i, hkb, hat]; done))
    | (refine AWP.if_f ?_ ?_; focus (simp (disch := omega) [he, h0, h0i, hkb, hat]; done)))
  refine AWP.loop (fun n τ σ' M => ∃ k : Nat, k ≤ ds.length ∧ n = ds.length - k ∧ τ = [(0, .sl b o ds.length cap 2), (3, .v (.int .i64 (ltV (ds.take k) ds[0].2))), (4, .v (.int .i64 k))] ∧ σ' = s ∧ M = K)
    ⟨_, _, _, _, ⟨0, by omega, rfl, rfl, rfl, rfl⟩, Weak.tau (by simp [LQ, ltV])⟩ ?_
  rintro n τ σ' M ⟨k, hk, rfl, rfl, rfl, rfl⟩
  by_cases hlt : k < ds.length
  · obtain ⟨_, _, kb2, hkb2, hat2⟩ := hx'.at (i := k) (by rw [rowsD_len]; exact hlt)
    have hrow2 : (rowsD ds)[k]'(by rw [rowsD_len]; exact hlt) = [.v (.string ds[k].1), .v (.int .i64 ds[k].2)] := by simp [rowsD, rowD]
    rw [hrow2] at hat2
    have hg := ltV_snoc hlt ds[0].2
    have hm : min (ltV (ds.take k) ds[0].2) ds[k].2 = ltV (ds.take (k + 1)) ds[0].2 := by rw [hg]; split <;> omega
    repeat' (first
      | refine AWP.seq ?_
      | refine AWP.block ?_
      | (refine AWP.skip ?_; simp only [thenA, blockA, reduceIte])
      | (refine AWP.exit ?_; simp only [thenA, blockA, eq_self, reduceIte, Nat.reduceEqDiff, Nat.succ_ne_zero])
      | (refine AWP.ret ?_; simp only [thenA, blockA, reduceIte])
      | (refine AWP.region (by rfl) (fun KK hKK => ?_); (repeat (simp (disch := omega) [hlt, hkb2, hat2, hm])); first | (refine hKK _ _ _ ?_; clear hKK KK; simp only [thenA, blockA, reduceIte]) | skip)
      | (refine AWP.if_t ?_ ?_; focus (simp (disch := omega) [hlt, hkb2, hat2, hm]; done))
      | (refine AWP.if_f ?_ ?_; focus (simp (disch := omega) [hlt, hkb2, hat2, hm]; done)))
    refine ⟨_, _, _, _, ?_, ⟨k + 1, by omega, rfl, rfl, rfl, rfl⟩, Weak.tau (by simp [LQ])⟩
    omega
  · have hk' : k = ds.length := by omega
    subst hk'
    have hbd := ltV_bd ds ds[0].2 hv (hv _ (List.getElem_mem h0))
    rw [ltV_head h0] at hbd
    rw [List.take_length, ltV_head h0]
    repeat' (first
      | refine AWP.seq ?_
      | refine AWP.block ?_
      | (refine AWP.skip ?_; simp only [thenA, blockA, reduceIte])
      | (refine AWP.exit ?_; simp only [thenA, blockA, eq_self, reduceIte, Nat.reduceEqDiff, Nat.succ_ne_zero])
      | (refine AWP.ret ?_; simp only [thenA, blockA, reduceIte])
      | (refine AWP.region (by rfl) (fun KK hKK => ?_); (repeat (simp (disch := omega) [])); first | (refine hKK _ _ _ ?_; clear hKK KK; simp only [thenA, blockA, reduceIte]) | skip)
      | (refine AWP.if_t ?_ ?_; focus (simp (disch := omega) []; done))
      | (refine AWP.if_f ?_ ?_; focus (simp (disch := omega) []; done)))
    refine ⟨by simp, _, rfl, fin0 ⟨?_, rfl⟩ (by simp [resO, get, nms, nmss]; try (simp [nms, nmss] at hn; simp_all))⟩
    simp [resO, get, ren, rens]
end Go.Proofs.Ytkddpkjgmmmcpaa
