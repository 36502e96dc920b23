/- Contracts: MergeEnums, in the program and in the reference. No condition. -/
import Derived.Test.YtgaiemhbllbaiaaM1
set_option linter.unusedSimpArgs false
set_option linter.unusedVariables false
namespace Go.Proofs.Ytgaiemhbllbaiaa
open Go Go.RowKit

/-- A definition whose name has another value. -/
def conf (ds : List Df) (e : Df) : Bool := decide (0 ≤ nameIx ds e.1) && !decide ((ds.getD (nameIx ds e.1).toNat (⟨#[]⟩, 0)).2 = e.2)
def newD (ds : List Df) (e : Df) : Bool := decide (nameIx ds e.1 < 0)
def mgL (ds es : List Df) : List Df := ds ++ es.filter (newD ds)
def mgO (ds es : List Df) : Option (List Df) := if okDs (-1000) 1000 ds = true ∧ okDs (-1000) 1000 es = true ∧ es.any (conf ds) = false ∧ okDs (-1000) 1000 (mgL ds es) = true then some (mgL ds es) else none
theorem mgL_take {ds es : List Df} {k : Nat} (h : k < es.length) : mgL ds (es.take (k + 1)) = if newD ds es[k] = true then mgL ds (es.take k) ++ [es[k]] else mgL ds (es.take k) := by
  unfold mgL
  rw [List.take_succ_eq_append_getElem h, List.filter_append, ← List.append_assoc]
  cases hp : newD ds es[k] <;> simp [List.filter_cons, hp]
theorem mgL_len (ds es : List Df) : (mgL ds es).length ≤ ds.length + es.length := by
  unfold mgL
  rw [List.length_append]
  have := List.length_filter_le (newD ds) es
  omega
theorem mgL_sz {ds es : List Df} (h1 : ∀ d ∈ ds, d.1.size ≤ 9223372036854775807) (h2 : ∀ d ∈ es, d.1.size ≤ 9223372036854775807) : ∀ d ∈ mgL ds es, d.1.size ≤ 9223372036854775807 := by
  intro d hd
  rcases List.mem_append.1 hd with hd | hd
  · exact h1 d hd
  · exact h2 d (List.mem_filter.1 hd).1
theorem any_yes {α : Type} {p : α → Bool} {l : List α} {i : Nat} (h : i < l.length) (hp : p l[i] = true) : l.any p = true := List.any_eq_true.2 ⟨_, List.getElem_mem h, hp⟩
theorem any_no_of_take {α : Type} {p : α → Bool} {l : List α} (h : ∀ e ∈ l.take l.length, p e = false) : l.any p = false := by
  rw [List.take_length] at h
  rw [List.any_eq_false]
  exact fun e he => by simp [h e he]

set_option maxRecDepth 10000 in
set_option maxHeartbeats 4000000 in
theorem merge_c (σ : Sto) (ν : Nat) (x y : AV) (ds es : List Df) (hx : Sl σ x 2 (rowsD ds)) (hy : Sl σ y 2 (rowsD es)) (hl1 : ds.length ≤ 1073741824) (hl2 : es.length ≤ 1073741824)
    (hs1 : ∀ d ∈ ds, d.1.size ≤ 9223372036854775807) (hs2 : ∀ d ∈ es, d.1.size ≤ 9223372036854775807) :
    AC Try.prog 11 [.agg [x], .agg [y]] σ ν fun r δ => r = .tup [.agg [eOut ν some (mgO ds es)], .v (.bool (mgO ds es).isSome)] ∧ δ = dOut ν (mgO ds es) := by
  obtain ⟨b, o, cap, z, rfl⟩ := hx.out
  obtain ⟨b2, o2, cap2, z2, rfl⟩ := hy.out
  simp only [rowsD_len] at hx hy ⊢
  cases hok : okDs (-1000) 1000 ds with
  | false =>
    have ho : mgO ds es = none := by unfold mgO; rw [if_neg (by simp [hok])]
    rw [ho, eOut_none, dOut_none]
    refine AC.intro [] ent_11 Try.func11 rfl (by simp [Try.f11]) (by simp) ?_
    intro K s hs hB hn hν hA hFr
    simp only [argT, Nat.zero_add, Nat.reduceAdd]
    have hx' := hx.vw hs.vw
    have hy' := hy.vw hs.vw
    have hK0 : ¬ 0 = K := by omega
    have hK1 : ¬ 0 = K + 1 := by omega
    have hK2 : ¬ 0 = K + 1 + 1 := by omega
    repeat' (first
      | refine AWP.seq ?_
      | refine AWP.block ?_
      | (refine AWP.skip ?_; simp only [thenA, blockA, reduceIte])
      | (refine AWP.exit ?_; simp only [thenA, blockA, eq_self, reduceIte, Nat.reduceEqDiff, Nat.succ_ne_zero])
      | (refine AWP.ret ?_; simp only [thenA, blockA, reduceIte])
      | (refine AWP.region (by rfl) (fun KK hKK => ?_); (repeat (simp (disch := omega) [])); first | (refine hKK _ _ _ ?_; clear hKK KK; simp only [thenA, blockA, reduceIte]) | skip)
      | (refine AWP.draw' mixd (by rfl) (by kernel_rfl) (fun KK tab hKK htab => ?_); (repeat (simp (disch := omega) [])); first | (refine dEnd_ro ?_ (hKK _ _ _ ?_); (focus (simp; done)); clear htab tab hKK KK; simp only [thenA, blockA, reduceIte]) | skip)
      | (refine AWP.if_t ?_ ?_; focus (simp (disch := omega) []; done))
      | (refine AWP.if_f ?_ ?_; focus (simp (disch := omega) []; done)))
    refine aStop_of (validEnum_c _ _ _ ds (hx'.vw ((Vw.refl _).over (by repeat (first | exact Over.refl _ | exact hov | refine Over.upd ?_ hB (by omega) | refine Over.del ?_ hB (by omega))))) (by omega) hs1) ?_
    rintro r δ ⟨rfl, rfl⟩
    (repeat (simp (disch := omega) [hok]))
    first | (refine hKK _ _ _ ?_; clear hKK KK; simp only [thenA, blockA, reduceIte]) | skip
    repeat' (first
      | refine AWP.seq ?_
      | refine AWP.block ?_
      | (refine AWP.skip ?_; simp only [thenA, blockA, reduceIte])
      | (refine AWP.exit ?_; simp only [thenA, blockA, eq_self, reduceIte, Nat.reduceEqDiff, Nat.succ_ne_zero])
      | (refine AWP.ret ?_; simp only [thenA, blockA, reduceIte])
      | (refine AWP.region (by rfl) (fun KK hKK => ?_); (repeat (simp (disch := omega) [])); first | (refine hKK _ _ _ ?_; clear hKK KK; simp only [thenA, blockA, reduceIte]) | skip)
      | (refine AWP.draw' mixd (by rfl) (by kernel_rfl) (fun KK tab hKK htab => ?_); (repeat (simp (disch := omega) [])); first | (refine dEnd_ro ?_ (hKK _ _ _ ?_); (focus (simp; done)); clear htab tab hKK KK; simp only [thenA, blockA, reduceIte]) | skip)
      | (refine AWP.if_t ?_ ?_; focus (simp (disch := omega) []; done))
      | (refine AWP.if_f ?_ ?_; focus (simp (disch := omega) []; done)))
    refine ⟨by simp, ?_⟩
    have hres : Try.f11.results.toList = [.cell 4 25, .tmp 5] := rfl
    rw [hres]
    simp (disch := omega) []
    refine fin0 ⟨?_, rfl⟩ (by simp [resO, nms, nmss])
    simp [resO, ren, rens, rho, hK0, hK1, hK2]
  | true =>
    cases hok2 : okDs (-1000) 1000 es with
    | false =>
      have ho : mgO ds es = none := by unfold mgO; rw [if_neg (by simp [hok2])]
      rw [ho, eOut_none, dOut_none]
      refine AC.intro [] ent_11 Try.func11 rfl (by simp [Try.f11]) (by simp) ?_
      intro K s hs hB hn hν hA hFr
      simp only [argT, Nat.zero_add, Nat.reduceAdd]
      have hx' := hx.vw hs.vw
      have hy' := hy.vw hs.vw
      have hK0 : ¬ 0 = K := by omega
      have hK1 : ¬ 0 = K + 1 := by omega
      have hK2 : ¬ 0 = K + 1 + 1 := by omega
      repeat' (first
        | refine AWP.seq ?_
        | refine AWP.block ?_
        | (refine AWP.skip ?_; simp only [thenA, blockA, reduceIte])
        | (refine AWP.exit ?_; simp only [thenA, blockA, eq_self, reduceIte, Nat.reduceEqDiff, Nat.succ_ne_zero])
        | (refine AWP.ret ?_; simp only [thenA, blockA, reduceIte])
        | (refine AWP.region (by rfl) (fun KK hKK => ?_); (repeat (simp (disch := omega) [])); first | (refine hKK _ _ _ ?_; clear hKK KK; simp only [thenA, blockA, reduceIte]) | skip)
        | (refine AWP.draw' mixd (by rfl) (by kernel_rfl) (fun KK tab hKK htab => ?_); (repeat (simp (disch := omega) [])); first | (refine dEnd_ro ?_ (hKK _ _ _ ?_); (focus (simp; done)); clear htab tab hKK KK; simp only [thenA, blockA, reduceIte]) | skip)
        | (refine AWP.if_t ?_ ?_; focus (simp (disch := omega) []; done))
        | (refine AWP.if_f ?_ ?_; focus (simp (disch := omega) []; done)))
      refine aStop_of (validEnum_c _ _ _ ds (hx'.vw ((Vw.refl _).over (by repeat (first | exact Over.refl _ | exact hov | refine Over.upd ?_ hB (by omega) | refine Over.del ?_ hB (by omega))))) (by omega) hs1) ?_
      rintro r δ ⟨rfl, rfl⟩
      (repeat (simp (disch := omega) [hok]))
      first | (refine hKK _ _ _ ?_; clear hKK KK; simp only [thenA, blockA, reduceIte]) | skip
      repeat' (first
        | refine AWP.seq ?_
        | refine AWP.block ?_
        | (refine AWP.skip ?_; simp only [thenA, blockA, reduceIte])
        | (refine AWP.exit ?_; simp only [thenA, blockA, eq_self, reduceIte, Nat.reduceEqDiff, Nat.succ_ne_zero])
        | (refine AWP.ret ?_; simp only [thenA, blockA, reduceIte])
        | (refine AWP.region (by rfl) (fun KK hKK => ?_); (repeat (simp (disch := omega) [])); first | (refine hKK _ _ _ ?_; clear hKK KK; simp only [thenA, blockA, reduceIte]) | skip)
        | (refine AWP.draw' mixd (by rfl) (by kernel_rfl) (fun KK tab hKK htab => ?_); (repeat (simp (disch := omega) [])); first | (refine dEnd_ro ?_ (hKK _ _ _ ?_); (focus (simp; done)); clear htab tab hKK KK; simp only [thenA, blockA, reduceIte]) | skip)
        | (refine AWP.if_t ?_ ?_; focus (simp (disch := omega) []; done))
        | (refine AWP.if_f ?_ ?_; focus (simp (disch := omega) []; done)))
      refine aStop_of (validEnum_c _ _ _ es (hy'.vw ((Vw.refl _).over (by repeat (first | exact Over.refl _ | exact hov | refine Over.upd ?_ hB (by omega) | refine Over.del ?_ hB (by omega))))) (by omega) hs2) ?_
      rintro r δ ⟨rfl, rfl⟩
      (repeat (simp (disch := omega) [hok2]))
      first | (refine hKK _ _ _ ?_; clear hKK KK; simp only [thenA, blockA, reduceIte]) | skip
      repeat' (first
        | refine AWP.seq ?_
        | refine AWP.block ?_
        | (refine AWP.skip ?_; simp only [thenA, blockA, reduceIte])
        | (refine AWP.exit ?_; simp only [thenA, blockA, eq_self, reduceIte, Nat.reduceEqDiff, Nat.succ_ne_zero])
        | (refine AWP.ret ?_; simp only [thenA, blockA, reduceIte])
        | (refine AWP.region (by rfl) (fun KK hKK => ?_); (repeat (simp (disch := omega) [])); first | (refine hKK _ _ _ ?_; clear hKK KK; simp only [thenA, blockA, reduceIte]) | skip)
        | (refine AWP.draw' mixd (by rfl) (by kernel_rfl) (fun KK tab hKK htab => ?_); (repeat (simp (disch := omega) [])); first | (refine dEnd_ro ?_ (hKK _ _ _ ?_); (focus (simp; done)); clear htab tab hKK KK; simp only [thenA, blockA, reduceIte]) | skip)
        | (refine AWP.if_t ?_ ?_; focus (simp (disch := omega) []; done))
        | (refine AWP.if_f ?_ ?_; focus (simp (disch := omega) []; done)))
      refine ⟨by simp, ?_⟩
      have hres : Try.f11.results.toList = [.cell 4 25, .tmp 5] := rfl
      rw [hres]
      simp (disch := omega) []
      refine fin0 ⟨?_, rfl⟩ (by simp [resO, nms, nmss])
      simp [resO, ren, rens, rho, hK0, hK1, hK2]
    | true =>
      refine AC.intro [] ent_11 Try.func11 rfl (by simp [Try.f11]) (by simp) ?_
      intro K s hs hB hn hν hA hFr
      simp only [argT, Nat.zero_add, Nat.reduceAdd]
      have hx' := hx.vw hs.vw
      have hy' := hy.vw hs.vw
      have hbK : b < K := hA b (by simp [nmAs, nmA])
      have hbK2 : b2 < K := hA b2 (by simp [nmAs, nmA])
      have hK0 : ¬ 0 = K := by omega
      have hK1 : ¬ 0 = K + 1 := by omega
      have hK2 : ¬ 0 = K + 1 + 1 := by omega
      repeat' (first
        | refine AWP.seq ?_
        | refine AWP.block ?_
        | (refine AWP.skip ?_; simp only [thenA, blockA, reduceIte])
        | (refine AWP.exit ?_; simp only [thenA, blockA, eq_self, reduceIte, Nat.reduceEqDiff, Nat.succ_ne_zero])
        | (refine AWP.ret ?_; simp only [thenA, blockA, reduceIte])
        | (refine AWP.region (by rfl) (fun KK hKK => ?_); (repeat (simp (disch := omega) [])); first | (refine hKK _ _ _ ?_; clear hKK KK; simp only [thenA, blockA, reduceIte]) | skip)
        | (refine AWP.draw' mixd (by rfl) (by kernel_rfl) (fun KK tab hKK htab => ?_); (repeat (simp (disch := omega) [])); first | (refine dEnd_ro ?_ (hKK _ _ _ ?_); (focus (simp; done)); clear htab tab hKK KK; simp only [thenA, blockA, reduceIte]) | skip)
        | (refine AWP.if_t ?_ ?_; focus (simp (disch := omega) []; done))
        | (refine AWP.if_f ?_ ?_; focus (simp (disch := omega) []; done)))
      refine aStop_of (validEnum_c _ _ _ ds (hx'.vw ((Vw.refl _).over (by repeat (first | exact Over.refl _ | exact hov | refine Over.upd ?_ hB (by omega) | refine Over.del ?_ hB (by omega))))) (by omega) hs1) ?_
      rintro r δ ⟨rfl, rfl⟩
      (repeat (simp (disch := omega) [hok]))
      first | (refine hKK _ _ _ ?_; clear hKK KK; simp only [thenA, blockA, reduceIte]) | skip
      repeat' (first
        | refine AWP.seq ?_
        | refine AWP.block ?_
        | (refine AWP.skip ?_; simp only [thenA, blockA, reduceIte])
        | (refine AWP.exit ?_; simp only [thenA, blockA, eq_self, reduceIte, Nat.reduceEqDiff, Nat.succ_ne_zero])
        | (refine AWP.ret ?_; simp only [thenA, blockA, reduceIte])
        | (refine AWP.region (by rfl) (fun KK hKK => ?_); (repeat (simp (disch := omega) [])); first | (refine hKK _ _ _ ?_; clear hKK KK; simp only [thenA, blockA, reduceIte]) | skip)
        | (refine AWP.draw' mixd (by rfl) (by kernel_rfl) (fun KK tab hKK htab => ?_); (repeat (simp (disch := omega) [])); first | (refine dEnd_ro ?_ (hKK _ _ _ ?_); (focus (simp; done)); clear htab tab hKK KK; simp only [thenA, blockA, reduceIte]) | skip)
        | (refine AWP.if_t ?_ ?_; focus (simp (disch := omega) []; done))
        | (refine AWP.if_f ?_ ?_; focus (simp (disch := omega) []; done)))
      refine aStop_of (validEnum_c _ _ _ es (hy'.vw ((Vw.refl _).over (by repeat (first | exact Over.refl _ | exact hov | refine Over.upd ?_ hB (by omega) | refine Over.del ?_ hB (by omega))))) (by omega) hs2) ?_
      rintro r δ ⟨rfl, rfl⟩
      (repeat (simp (disch := omega) [hok2]))
      first | (refine hKK _ _ _ ?_; clear hKK KK; simp only [thenA, blockA, reduceIte]) | skip
      repeat' (first
        | refine AWP.seq ?_
        | refine AWP.block ?_
        | (refine AWP.skip ?_; simp only [thenA, blockA, reduceIte])
        | (refine AWP.exit ?_; simp only [thenA, blockA, eq_self, reduceIte, Nat.reduceEqDiff, Nat.succ_ne_zero])
        | (refine AWP.ret ?_; simp only [thenA, blockA, reduceIte])
        | (refine AWP.region (by rfl) (fun KK hKK => ?_); (repeat (simp (disch := omega) [])); first | (refine hKK _ _ _ ?_; clear hKK KK; simp only [thenA, blockA, reduceIte]) | skip)
        | (refine AWP.draw' mixd (by rfl) (by kernel_rfl) (fun KK tab hKK htab => ?_); (repeat (simp (disch := omega) [])); first | (refine dEnd_ro ?_ (hKK _ _ _ ?_); (focus (simp; done)); clear htab tab hKK KK; simp only [thenA, blockA, reduceIte]) | skip)
        | (refine AWP.if_t ?_ ?_; focus (simp (disch := omega) []; done))
        | (refine AWP.if_f ?_ ?_; focus (simp (disch := omega) []; done)))
      refine aStop_of (clone_c _ _ _ ds (hx'.vw ((Vw.refl _).over (by repeat (first | exact Over.refl _ | exact hov | refine Over.upd ?_ hB (by omega) | refine Over.del ?_ hB (by omega))))) (by omega)) ?_
      rintro r δ ⟨rfl, rfl⟩
      (repeat (simp (disch := omega) []))
      first | (refine hKK _ _ _ ?_; clear hKK KK; simp only [thenA, blockA, reduceIte]) | skip
      repeat' (first
        | refine AWP.seq ?_
        | refine AWP.block ?_
        | (refine AWP.skip ?_; simp only [thenA, blockA, reduceIte])
        | (refine AWP.exit ?_; simp only [thenA, blockA, eq_self, reduceIte, Nat.reduceEqDiff, Nat.succ_ne_zero])
        | (refine AWP.ret ?_; simp only [thenA, blockA, reduceIte])
        | (refine AWP.region (by rfl) (fun KK hKK => ?_); (repeat (simp (disch := omega) [])); first | (refine hKK _ _ _ ?_; clear hKK KK; simp only [thenA, blockA, reduceIte]) | skip)
        | (refine AWP.draw' mixd (by rfl) (by kernel_rfl) (fun KK tab hKK htab => ?_); (repeat (simp (disch := omega) [])); first | (refine dEnd_ro ?_ (hKK _ _ _ ?_); (focus (simp; done)); clear htab tab hKK KK; simp only [thenA, blockA, reduceIte]) | skip)
        | (refine AWP.if_t ?_ ?_; focus (simp (disch := omega) []; done))
        | (refine AWP.if_f ?_ ?_; focus (simp (disch := omega) []; done)))
      by_cases he : ds = []
      · have hl0 : ds.length = 0 := by simp [he]
        refine AWP.weak (Weak.virt 6 34 2 (K + 1 + 1 + 1 + 2 + 2) 0 2 (by simp [hl0]) (by omega)) ?_
        refine AWP.loop (fun n τ τ2 M => ∃ (k cb : Nat), k ≤ es.length ∧ n = es.length - k ∧ (∀ e ∈ es.take k, conf ds e = false) ∧ τ = [(2, .ptr K 0 0), (3, .ptr (K + 1) 0 0), (4, .ptr (K + 1 + 1) 0 0), (5, .v (.bool false)), (6, .sl cb 0 (mgL ds (es.take k)).length none 2), (23, .sl b2 o2 es.length cap2 z2), (24, .v (.int .i64 es.length)), (25, .v (.int .i64 k))] ∧ τ2 K = some (blkE (.sl b o ds.length cap z)) ∧ τ2 (K + 1) = some (blkE (.sl b2 o2 es.length cap2 z2)) ∧ τ2 (K + 1 + 1) = some (blkE nilA) ∧ τ2 cb = some (blkD (mgL ds (es.take k))) ∧ K + 1 + 1 < cb ∧ cb < M ∧ Over s τ2)
          ⟨_, _, _, _, ⟨0, K + 1 + 1 + 1 + 2 + 2 + 2, by omega, rfl, by simp, rfl, by simp (disch := omega) only [upd_eq, upd_ne], by simp (disch := omega) only [upd_eq, upd_ne], by simp (disch := omega) only [upd_eq, upd_ne], by (simp (disch := omega) only [upd_eq, upd_ne]; simp [mgL, rowsD, he]), by omega, by omega, (by repeat (first | exact Over.refl _ | exact hov | refine Over.upd ?_ hB (by omega) | refine Over.del ?_ hB (by omega)))⟩, Weak.tau (by simp [LQ, mgL, he])⟩ ?_
        rintro n τ σ2 M ⟨k, cb, hk, rfl, hnc, rfl, hb0, hb1, hb2, hc0, hc1, hc2, hov⟩
        clear hl0 he
        have hml := mgL_len ds (es.take k)
        have htk : (es.take k).length = k := by simp; omega
        by_cases hlt : k < es.length
        · obtain ⟨_, rfl, kb2, hkb2, hat2⟩ := hy'.at (i := k) (by rw [rowsD_len]; exact hlt)
          have hrow2 : (rowsD es)[k]'(by rw [rowsD_len]; exact hlt) = [.v (.string es[k].1), .v (.int .i64 es[k].2)] := by simp [rowsD, rowD]
          rw [hrow2] at hat2
          have hkb2' := hov _ _ hkb2
          have hst := mgL_take (ds := ds) hlt
          have hz1 : ((mgL ds (es.take k)).length + 1) * 24 ≤ 140737488355328 := by omega
          have hz2 : (mgL ds (es.take k)).length + 1 ≤ 4611686018427387904 := by omega
          repeat' (first
            | refine AWP.seq ?_
            | refine AWP.block ?_
            | (refine AWP.skip ?_; simp only [thenA, blockA, reduceIte])
            | (refine AWP.exit ?_; simp only [thenA, blockA, eq_self, reduceIte, Nat.reduceEqDiff, Nat.succ_ne_zero])
            | (refine AWP.ret ?_; simp only [thenA, blockA, reduceIte])
            | (refine AWP.region (by rfl) (fun KK hKK => ?_); (repeat (simp (disch := omega) [hlt, hkb2', hat2, hb0, hb1])); first | (refine hKK _ _ _ ?_; clear hKK KK; simp only [thenA, blockA, reduceIte]) | skip)
            | (refine AWP.draw' mixd (by rfl) (by kernel_rfl) (fun KK tab hKK htab => ?_); (repeat (simp (disch := omega) [hlt, hkb2', hat2, hb0, hb1])); first | (refine dEnd_ro ?_ (hKK _ _ _ ?_); (focus (simp; done)); clear htab tab hKK KK; simp only [thenA, blockA, reduceIte]) | skip)
            | (refine AWP.if_t ?_ ?_; focus (simp (disch := omega) [hlt, hkb2', hat2, hb0, hb1]; done))
            | (refine AWP.if_f ?_ ?_; focus (simp (disch := omega) [hlt, hkb2', hat2, hb0, hb1]; done)))
          refine aStop_of (named_c _ _ _ ds _ (hx'.vw ((Vw.refl _).over (by repeat (first | exact Over.refl _ | exact hov | refine Over.upd ?_ hB (by omega) | refine Over.del ?_ hB (by omega))))) (by omega)) ?_
          rintro r δ ⟨rfl, rfl⟩
          (repeat (simp (disch := omega) []))
          first | (refine hKK _ _ _ ?_; clear hKK KK; simp only [thenA, blockA, reduceIte]) | skip
          rcases nameIx_cases ds es[k].1 with hni | ⟨j, hj, hni, _⟩
          · have hcf : conf ds es[k] = false := by simp [conf, hni]
            have hnd : newD ds es[k] = true := by simp [newD, hni]
            rw [if_pos hnd] at hst
            repeat' (first
              | refine AWP.seq ?_
              | refine AWP.block ?_
              | (refine AWP.skip ?_; simp only [thenA, blockA, reduceIte])
              | (refine AWP.exit ?_; simp only [thenA, blockA, eq_self, reduceIte, Nat.reduceEqDiff, Nat.succ_ne_zero])
              | (refine AWP.ret ?_; simp only [thenA, blockA, reduceIte])
              | (refine AWP.region (by rfl) (fun KK hKK => ?_); (repeat (simp (disch := omega) [hni, elems, rowsD_len, rowsD_snoc, rowsD_take, hz1, hz2, hc0])); first | (refine hKK _ _ _ ?_; clear hKK KK; simp only [thenA, blockA, reduceIte]) | skip)
              | (refine AWP.draw' mixd (by rfl) (by kernel_rfl) (fun KK tab hKK htab => ?_); (repeat (simp (disch := omega) [hni, elems, rowsD_len, rowsD_snoc, rowsD_take, hz1, hz2, hc0])); first | (refine dEnd_ro ?_ (hKK _ _ _ ?_); (focus (simp; done)); clear htab tab hKK KK; simp only [thenA, blockA, reduceIte]) | skip)
              | (refine AWP.if_t ?_ ?_; focus (simp (disch := omega) [hni, elems, rowsD_len, rowsD_snoc, rowsD_take, hz1, hz2, hc0]; done))
              | (refine AWP.if_f ?_ ?_; focus (simp (disch := omega) [hni, elems, rowsD_len, rowsD_snoc, rowsD_take, hz1, hz2, hc0]; done)))
            refine ⟨_, _, _, _, ?_, ⟨k + 1, M + 1 + 2 + 1, by omega, rfl, take_snoc hlt hnc hcf, rfl, by simp (disch := omega) only [upd_eq, upd_ne, del_ne, hb0], by simp (disch := omega) only [upd_eq, upd_ne, del_ne, hb1], by simp (disch := omega) only [upd_eq, upd_ne, del_ne, hb2], by rw [hst]; simp (disch := omega) only [upd_eq], by omega, by omega, (by repeat (first | exact Over.refl _ | exact hov | refine Over.upd ?_ hB (by omega) | refine Over.del ?_ hB (by omega)))⟩, Weak.tau (by rw [hst]; simp [LQ])⟩
            omega
          · have hnd : newD ds es[k] = false := by simp [newD, hni]
            rw [hnd, if_neg (by simp)] at hst
            obtain ⟨_, rfl, kb, hkb, hat⟩ := hx'.at (i := j) (by rw [rowsD_len]; exact hj)
            have hrow : (rowsD ds)[j]'(by rw [rowsD_len]; exact hj) = [.v (.string ds[j].1), .v (.int .i64 ds[j].2)] := by simp [rowsD, rowD]
            rw [hrow] at hat
            have hkb' := hov _ _ hkb
            have hj0 : ¬ ((j : Int) < 0) := by omega
            have hgd : (ds.getD ((j : Int)).toNat (⟨#[]⟩, 0)).2 = ds[j].2 := by simp [List.getD_eq_getElem?_getD, List.getElem?_eq_getElem hj]
            by_cases hq : ds[j].2 = es[k].2
            · have hcf : conf ds es[k] = false := by unfold conf; rw [hni, hgd]; simp [hq]
              repeat' (first
                | refine AWP.seq ?_
                | refine AWP.block ?_
                | (refine AWP.skip ?_; simp only [thenA, blockA, reduceIte])
                | (refine AWP.exit ?_; simp only [thenA, blockA, eq_self, reduceIte, Nat.reduceEqDiff, Nat.succ_ne_zero])
                | (refine AWP.ret ?_; simp only [thenA, blockA, reduceIte])
                | (refine AWP.region (by rfl) (fun KK hKK => ?_); (repeat (simp (disch := omega) [hni, hj0, hj, hb0, hkb', hat, hq])); first | (refine hKK _ _ _ ?_; clear hKK KK; simp only [thenA, blockA, reduceIte]) | skip)
                | (refine AWP.draw' mixd (by rfl) (by kernel_rfl) (fun KK tab hKK htab => ?_); (repeat (simp (disch := omega) [hni, hj0, hj, hb0, hkb', hat, hq])); first | (refine dEnd_ro ?_ (hKK _ _ _ ?_); (focus (simp; done)); clear htab tab hKK KK; simp only [thenA, blockA, reduceIte]) | skip)
                | (refine AWP.if_t ?_ ?_; focus (simp (disch := omega) [hni, hj0, hj, hb0, hkb', hat, hq]; done))
                | (refine AWP.if_f ?_ ?_; focus (simp (disch := omega) [hni, hj0, hj, hb0, hkb', hat, hq]; done)))
              refine ⟨_, _, _, _, ?_, ⟨k + 1, cb, by omega, rfl, take_snoc hlt hnc hcf, rfl, by simp (disch := omega) only [upd_eq, upd_ne, hb0], by simp (disch := omega) only [upd_eq, upd_ne, hb1], by simp (disch := omega) only [upd_eq, upd_ne, hb2], by rw [hst]; simp (disch := omega) only [upd_eq, upd_ne, hc0], by omega, by omega, (by repeat (first | exact Over.refl _ | exact hov | refine Over.upd ?_ hB (by omega) | refine Over.del ?_ hB (by omega)))⟩, Weak.tau (by rw [hst]; simp [LQ])⟩
              omega
            · have hcf : conf ds es[k] = true := by unfold conf; rw [hni, hgd]; simp [hq]
              have ho : mgO ds es = none := by unfold mgO; rw [if_neg (by simp [any_yes hlt hcf])]
              repeat' (first
                | refine AWP.seq ?_
                | refine AWP.block ?_
                | (refine AWP.skip ?_; simp only [thenA, blockA, reduceIte])
                | (refine AWP.exit ?_; simp only [thenA, blockA, eq_self, reduceIte, Nat.reduceEqDiff, Nat.succ_ne_zero])
                | (refine AWP.ret ?_; simp only [thenA, blockA, reduceIte])
                | (refine AWP.region (by rfl) (fun KK hKK => ?_); (repeat (simp (disch := omega) [hni, hj0, hj, hb0, hb2, hkb', hat, hq])); first | (refine hKK _ _ _ ?_; clear hKK KK; simp only [thenA, blockA, reduceIte]) | skip)
                | (refine AWP.draw' mixd (by rfl) (by kernel_rfl) (fun KK tab hKK htab => ?_); (repeat (simp (disch := omega) [hni, hj0, hj, hb0, hb2, hkb', hat, hq])); first | (refine dEnd_ro ?_ (hKK _ _ _ ?_); (focus (simp; done)); clear htab tab hKK KK; simp only [thenA, blockA, reduceIte]) | skip)
                | (refine AWP.if_t ?_ ?_; focus (simp (disch := omega) [hni, hj0, hj, hb0, hb2, hkb', hat, hq]; done))
                | (refine AWP.if_f ?_ ?_; focus (simp (disch := omega) [hni, hj0, hj, hb0, hb2, hkb', hat, hq]; done)))
              refine ⟨by simp, ?_⟩
              have hres : Try.f11.results.toList = [.cell 4 25, .tmp 5] := rfl
              rw [hres]
              simp (disch := omega) [hb2, ho, eOut_none, dOut_none]
              refine fin0 ⟨?_, rfl⟩ (by simp [resO, nms, nmss])
              simp [resO, ren, rens, rho, hK0, hK1, hK2]
        · have hk' : k = es.length := by omega
          subst hk'
          have hany := any_no_of_take hnc
          rw [List.take_length] at *
          have hmsz := mgL_sz hs1 hs2
          repeat' (first
            | refine AWP.seq ?_
            | refine AWP.block ?_
            | (refine AWP.skip ?_; simp only [thenA, blockA, reduceIte])
            | (refine AWP.exit ?_; simp only [thenA, blockA, eq_self, reduceIte, Nat.reduceEqDiff, Nat.succ_ne_zero])
            | (refine AWP.ret ?_; simp only [thenA, blockA, reduceIte])
            | (refine AWP.region (by rfl) (fun KK hKK => ?_); (repeat (simp (disch := omega) [])); first | (refine hKK _ _ _ ?_; clear hKK KK; simp only [thenA, blockA, reduceIte]) | skip)
            | (refine AWP.draw' mixd (by rfl) (by kernel_rfl) (fun KK tab hKK htab => ?_); (repeat (simp (disch := omega) [])); first | (refine dEnd_ro ?_ (hKK _ _ _ ?_); (focus (simp; done)); clear htab tab hKK KK; simp only [thenA, blockA, reduceIte]) | skip)
            | (refine AWP.if_t ?_ ?_; focus (simp (disch := omega) []; done))
            | (refine AWP.if_f ?_ ?_; focus (simp (disch := omega) []; done)))
          cases hok3 : okDs (-1000) 1000 (mgL ds es) with
          | false =>
            have ho : mgO ds es = none := by unfold mgO; rw [if_neg (by simp [hok3])]
            refine aStop_of (enumOf_no _ _ _ true (mgL ds es) (Sl.whole (t := 34) (r := true) (by simp (disch := omega) only [upd_eq, upd_ne, del_ne, hc0]) (by simp [rowsD_len])) (by omega) hmsz (by rw [hok3]; rfl)) ?_
            rintro r δ ⟨rfl, rfl⟩
            (repeat (simp (disch := omega) [hb2]))
            first | (refine hKK _ _ _ ?_; clear hKK KK; simp only [thenA, blockA, reduceIte]) | skip
            repeat' (first
              | refine AWP.seq ?_
              | refine AWP.block ?_
              | (refine AWP.skip ?_; simp only [thenA, blockA, reduceIte])
              | (refine AWP.exit ?_; simp only [thenA, blockA, eq_self, reduceIte, Nat.reduceEqDiff, Nat.succ_ne_zero])
              | (refine AWP.ret ?_; simp only [thenA, blockA, reduceIte])
              | (refine AWP.region (by rfl) (fun KK hKK => ?_); (repeat (simp (disch := omega) [])); first | (refine hKK _ _ _ ?_; clear hKK KK; simp only [thenA, blockA, reduceIte]) | skip)
              | (refine AWP.draw' mixd (by rfl) (by kernel_rfl) (fun KK tab hKK htab => ?_); (repeat (simp (disch := omega) [])); first | (refine dEnd_ro ?_ (hKK _ _ _ ?_); (focus (simp; done)); clear htab tab hKK KK; simp only [thenA, blockA, reduceIte]) | skip)
              | (refine AWP.if_t ?_ ?_; focus (simp (disch := omega) []; done))
              | (refine AWP.if_f ?_ ?_; focus (simp (disch := omega) []; done)))
            refine ⟨by simp, ?_⟩
            have hres : Try.f11.results.toList = [.cell 4 25, .tmp 5] := rfl
            rw [hres]
            simp (disch := omega) [ho, eOut_none, dOut_none]
            refine fin0 ⟨?_, rfl⟩ (by simp [resO, nms, nmss])
            simp [resO, ren, rens, rho, hK0, hK1, hK2]
          | true =>
            have ho : mgO ds es = some (mgL ds es) := by unfold mgO; rw [if_pos ⟨hok, hok2, hany, hok3⟩]
            refine aStop_of (enumOf_yes _ _ _ (mgL ds es) (Sl.whole (t := 34) (r := true) (by simp (disch := omega) only [upd_eq, upd_ne, del_ne, hc0]) (by simp [rowsD_len])) (by omega) hmsz hok3) ?_
            rintro r δ ⟨rfl, rfl⟩
            (repeat (simp (disch := omega) [hb2]))
            first | (refine hKK _ _ _ ?_; clear hKK KK; simp only [thenA, blockA, reduceIte]) | skip
            repeat' (first
              | refine AWP.seq ?_
              | refine AWP.block ?_
              | (refine AWP.skip ?_; simp only [thenA, blockA, reduceIte])
              | (refine AWP.exit ?_; simp only [thenA, blockA, eq_self, reduceIte, Nat.reduceEqDiff, Nat.succ_ne_zero])
              | (refine AWP.ret ?_; simp only [thenA, blockA, reduceIte])
              | (refine AWP.region (by rfl) (fun KK hKK => ?_); (repeat (simp (disch := omega) [])); first | (refine hKK _ _ _ ?_; clear hKK KK; simp only [thenA, blockA, reduceIte]) | skip)
              | (refine AWP.draw' mixd (by rfl) (by kernel_rfl) (fun KK tab hKK htab => ?_); (repeat (simp (disch := omega) [])); first | (refine dEnd_ro ?_ (hKK _ _ _ ?_); (focus (simp; done)); clear htab tab hKK KK; simp only [thenA, blockA, reduceIte]) | skip)
              | (refine AWP.if_t ?_ ?_; focus (simp (disch := omega) []; done))
              | (refine AWP.if_f ?_ ?_; focus (simp (disch := omega) []; done)))
            refine ⟨by simp, ?_⟩
            have hres : Try.f11.results.toList = [.cell 4 25, .tmp 5] := rfl
            rw [hres]
            simp (disch := omega) [ho, eOut_some, dOut_some]
            refine fin1 M (blkD (mgL ds es)) (by simp (disch := omega) only [upd_eq, upd_ne]) rfl (flatD _) ⟨?_, rfl⟩ (by omega) (by simp [resO, nms, nmss] <;> (intros; omega))
            simp [resO, ren, rens, rho]
      · have hl0 : 0 < ds.length := List.length_pos_iff.2 he
        refine AWP.weak (Weak.uncap 6 (K + 1 + 1 + 1 + 2 + 2) 0 ds.length ds.length 2 (by simp) hl0) ?_
        refine AWP.loop (fun n τ τ2 M => ∃ (k cb : Nat), k ≤ es.length ∧ n = es.length - k ∧ (∀ e ∈ es.take k, conf ds e = false) ∧ τ = [(2, .ptr K 0 0), (3, .ptr (K + 1) 0 0), (4, .ptr (K + 1 + 1) 0 0), (5, .v (.bool false)), (6, .sl cb 0 (mgL ds (es.take k)).length none 2), (23, .sl b2 o2 es.length cap2 z2), (24, .v (.int .i64 es.length)), (25, .v (.int .i64 k))] ∧ τ2 K = some (blkE (.sl b o ds.length cap z)) ∧ τ2 (K + 1) = some (blkE (.sl b2 o2 es.length cap2 z2)) ∧ τ2 (K + 1 + 1) = some (blkE nilA) ∧ τ2 cb = some (blkD (mgL ds (es.take k))) ∧ K + 1 + 1 < cb ∧ cb < M ∧ Over s τ2)
          ⟨_, _, _, _, ⟨0, K + 1 + 1 + 1 + 2 + 2, by omega, rfl, by simp, rfl, by simp (disch := omega) only [upd_eq, upd_ne], by simp (disch := omega) only [upd_eq, upd_ne], by simp (disch := omega) only [upd_eq, upd_ne], by (simp (disch := omega) only [upd_eq, upd_ne]; simp [mgL, rowsD, he]), by omega, by omega, (by repeat (first | exact Over.refl _ | exact hov | refine Over.upd ?_ hB (by omega) | refine Over.del ?_ hB (by omega)))⟩, Weak.tau (by simp [LQ, mgL, he])⟩ ?_
        rintro n τ σ2 M ⟨k, cb, hk, rfl, hnc, rfl, hb0, hb1, hb2, hc0, hc1, hc2, hov⟩
        clear hl0 he
        have hml := mgL_len ds (es.take k)
        have htk : (es.take k).length = k := by simp; omega
        by_cases hlt : k < es.length
        · obtain ⟨_, rfl, kb2, hkb2, hat2⟩ := hy'.at (i := k) (by rw [rowsD_len]; exact hlt)
          have hrow2 : (rowsD es)[k]'(by rw [rowsD_len]; exact hlt) = [.v (.string es[k].1), .v (.int .i64 es[k].2)] := by simp [rowsD, rowD]
          rw [hrow2] at hat2
          have hkb2' := hov _ _ hkb2
          have hst := mgL_take (ds := ds) hlt
          have hz1 : ((mgL ds (es.take k)).length + 1) * 24 ≤ 140737488355328 := by omega
          have hz2 : (mgL ds (es.take k)).length + 1 ≤ 4611686018427387904 := by omega
          repeat' (first
            | refine AWP.seq ?_
            | refine AWP.block ?_
            | (refine AWP.skip ?_; simp only [thenA, blockA, reduceIte])
            | (refine AWP.exit ?_; simp only [thenA, blockA, eq_self, reduceIte, Nat.reduceEqDiff, Nat.succ_ne_zero])
            | (refine AWP.ret ?_; simp only [thenA, blockA, reduceIte])
            | (refine AWP.region (by rfl) (fun KK hKK => ?_); (repeat (simp (disch := omega) [hlt, hkb2', hat2, hb0, hb1])); first | (refine hKK _ _ _ ?_; clear hKK KK; simp only [thenA, blockA, reduceIte]) | skip)
            | (refine AWP.draw' mixd (by rfl) (by kernel_rfl) (fun KK tab hKK htab => ?_); (repeat (simp (disch := omega) [hlt, hkb2', hat2, hb0, hb1])); first | (refine dEnd_ro ?_ (hKK _ _ _ ?_); (focus (simp; done)); clear htab tab hKK KK; simp only [thenA, blockA, reduceIte]) | skip)
            | (refine AWP.if_t ?_ ?_; focus (simp (disch := omega) [hlt, hkb2', hat2, hb0, hb1]; done))
            | (refine AWP.if_f ?_ ?_; focus (simp (disch := omega) [hlt, hkb2', hat2, hb0, hb1]; done)))
          refine aStop_of (named_c _ _ _ ds _ (hx'.vw ((Vw.refl _).over (by repeat (first | exact Over.refl _ | exact hov | refine Over.upd ?_ hB (by omega) | refine Over.del ?_ hB (by omega))))) (by omega)) ?_
          rintro r δ ⟨rfl, rfl⟩
          (repeat (simp (disch := omega) []))
          first | (refine hKK _ _ _ ?_; clear hKK KK; simp only [thenA, blockA, reduceIte]) | skip
          rcases nameIx_cases ds es[k].1 with hni | ⟨j, hj, hni, _⟩
          · have hcf : conf ds es[k] = false := by simp [conf, hni]
            have hnd : newD ds es[k] = true := by simp [newD, hni]
            rw [if_pos hnd] at hst
            repeat' (first
              | refine AWP.seq ?_
              | refine AWP.block ?_
              | (refine AWP.skip ?_; simp only [thenA, blockA, reduceIte])
              | (refine AWP.exit ?_; simp only [thenA, blockA, eq_self, reduceIte, Nat.reduceEqDiff, Nat.succ_ne_zero])
              | (refine AWP.ret ?_; simp only [thenA, blockA, reduceIte])
              | (refine AWP.region (by rfl) (fun KK hKK => ?_); (repeat (simp (disch := omega) [hni, elems, rowsD_len, rowsD_snoc, rowsD_take, hz1, hz2, hc0])); first | (refine hKK _ _ _ ?_; clear hKK KK; simp only [thenA, blockA, reduceIte]) | skip)
              | (refine AWP.draw' mixd (by rfl) (by kernel_rfl) (fun KK tab hKK htab => ?_); (repeat (simp (disch := omega) [hni, elems, rowsD_len, rowsD_snoc, rowsD_take, hz1, hz2, hc0])); first | (refine dEnd_ro ?_ (hKK _ _ _ ?_); (focus (simp; done)); clear htab tab hKK KK; simp only [thenA, blockA, reduceIte]) | skip)
              | (refine AWP.if_t ?_ ?_; focus (simp (disch := omega) [hni, elems, rowsD_len, rowsD_snoc, rowsD_take, hz1, hz2, hc0]; done))
              | (refine AWP.if_f ?_ ?_; focus (simp (disch := omega) [hni, elems, rowsD_len, rowsD_snoc, rowsD_take, hz1, hz2, hc0]; done)))
            refine ⟨_, _, _, _, ?_, ⟨k + 1, M + 1 + 2 + 1, by omega, rfl, take_snoc hlt hnc hcf, rfl, by simp (disch := omega) only [upd_eq, upd_ne, del_ne, hb0], by simp (disch := omega) only [upd_eq, upd_ne, del_ne, hb1], by simp (disch := omega) only [upd_eq, upd_ne, del_ne, hb2], by rw [hst]; simp (disch := omega) only [upd_eq], by omega, by omega, (by repeat (first | exact Over.refl _ | exact hov | refine Over.upd ?_ hB (by omega) | refine Over.del ?_ hB (by omega)))⟩, Weak.tau (by rw [hst]; simp [LQ])⟩
            omega
          · have hnd : newD ds es[k] = false := by simp [newD, hni]
            rw [hnd, if_neg (by simp)] at hst
            obtain ⟨_, rfl, kb, hkb, hat⟩ := hx'.at (i := j) (by rw [rowsD_len]; exact hj)
            have hrow : (rowsD ds)[j]'(by rw [rowsD_len]; exact hj) = [.v (.string ds[j].1), .v (.int .i64 ds[j].2)] := by simp [rowsD, rowD]
            rw [hrow] at hat
            have hkb' := hov _ _ hkb
            have hj0 : ¬ ((j : Int) < 0) := by omega
            have hgd : (ds.getD ((j : Int)).toNat (⟨#[]⟩, 0)).2 = ds[j].2 := by simp [List.getD_eq_getElem?_getD, List.getElem?_eq_getElem hj]
            by_cases hq : ds[j].2 = es[k].2
            · have hcf : conf ds es[k] = false := by unfold conf; rw [hni, hgd]; simp [hq]
              repeat' (first
                | refine AWP.seq ?_
                | refine AWP.block ?_
                | (refine AWP.skip ?_; simp only [thenA, blockA, reduceIte])
                | (refine AWP.exit ?_; simp only [thenA, blockA, eq_self, reduceIte, Nat.reduceEqDiff, Nat.succ_ne_zero])
                | (refine AWP.ret ?_; simp only [thenA, blockA, reduceIte])
                | (refine AWP.region (by rfl) (fun KK hKK => ?_); (repeat (simp (disch := omega) [hni, hj0, hj, hb0, hkb', hat, hq])); first | (refine hKK _ _ _ ?_; clear hKK KK; simp only [thenA, blockA, reduceIte]) | skip)
                | (refine AWP.draw' mixd (by rfl) (by kernel_rfl) (fun KK tab hKK htab => ?_); (repeat (simp (disch := omega) [hni, hj0, hj, hb0, hkb', hat, hq])); first | (refine dEnd_ro ?_ (hKK _ _ _ ?_); (focus (simp; done)); clear htab tab hKK KK; simp only [thenA, blockA, reduceIte]) | skip)
                | (refine AWP.if_t ?_ ?_; focus (simp (disch := omega) [hni, hj0, hj, hb0, hkb', hat, hq]; done))
                | (refine AWP.if_f ?_ ?_; focus (simp (disch := omega) [hni, hj0, hj, hb0, hkb', hat, hq]; done)))
              refine ⟨_, _, _, _, ?_, ⟨k + 1, cb, by omega, rfl, take_snoc hlt hnc hcf, rfl, by simp (disch := omega) only [upd_eq, upd_ne, hb0], by simp (disch := omega) only [upd_eq, upd_ne, hb1], by simp (disch := omega) only [upd_eq, upd_ne, hb2], by rw [hst]; simp (disch := omega) only [upd_eq, upd_ne, hc0], by omega, by omega, (by repeat (first | exact Over.refl _ | exact hov | refine Over.upd ?_ hB (by omega) | refine Over.del ?_ hB (by omega)))⟩, Weak.tau (by rw [hst]; simp [LQ])⟩
              omega
            · have hcf : conf ds es[k] = true := by unfold conf; rw [hni, hgd]; simp [hq]
              have ho : mgO ds es = none := by unfold mgO; rw [if_neg (by simp [any_yes hlt hcf])]
              repeat' (first
                | refine AWP.seq ?_
                | refine AWP.block ?_
                | (refine AWP.skip ?_; simp only [thenA, blockA, reduceIte])
                | (refine AWP.exit ?_; simp only [thenA, blockA, eq_self, reduceIte, Nat.reduceEqDiff, Nat.succ_ne_zero])
                | (refine AWP.ret ?_; simp only [thenA, blockA, reduceIte])
                | (refine AWP.region (by rfl) (fun KK hKK => ?_); (repeat (simp (disch := omega) [hni, hj0, hj, hb0, hb2, hkb', hat, hq])); first | (refine hKK _ _ _ ?_; clear hKK KK; simp only [thenA, blockA, reduceIte]) | skip)
                | (refine AWP.draw' mixd (by rfl) (by kernel_rfl) (fun KK tab hKK htab => ?_); (repeat (simp (disch := omega) [hni, hj0, hj, hb0, hb2, hkb', hat, hq])); first | (refine dEnd_ro ?_ (hKK _ _ _ ?_); (focus (simp; done)); clear htab tab hKK KK; simp only [thenA, blockA, reduceIte]) | skip)
                | (refine AWP.if_t ?_ ?_; focus (simp (disch := omega) [hni, hj0, hj, hb0, hb2, hkb', hat, hq]; done))
                | (refine AWP.if_f ?_ ?_; focus (simp (disch := omega) [hni, hj0, hj, hb0, hb2, hkb', hat, hq]; done)))
              refine ⟨by simp, ?_⟩
              have hres : Try.f11.results.toList = [.cell 4 25, .tmp 5] := rfl
              rw [hres]
              simp (disch := omega) [hb2, ho, eOut_none, dOut_none]
              refine fin0 ⟨?_, rfl⟩ (by simp [resO, nms, nmss])
              simp [resO, ren, rens, rho, hK0, hK1, hK2]
        · have hk' : k = es.length := by omega
          subst hk'
          have hany := any_no_of_take hnc
          rw [List.take_length] at *
          have hmsz := mgL_sz hs1 hs2
          repeat' (first
            | refine AWP.seq ?_
            | refine AWP.block ?_
            | (refine AWP.skip ?_; simp only [thenA, blockA, reduceIte])
            | (refine AWP.exit ?_; simp only [thenA, blockA, eq_self, reduceIte, Nat.reduceEqDiff, Nat.succ_ne_zero])
            | (refine AWP.ret ?_; simp only [thenA, blockA, reduceIte])
            | (refine AWP.region (by rfl) (fun KK hKK => ?_); (repeat (simp (disch := omega) [])); first | (refine hKK _ _ _ ?_; clear hKK KK; simp only [thenA, blockA, reduceIte]) | skip)
            | (refine AWP.draw' mixd (by rfl) (by kernel_rfl) (fun KK tab hKK htab => ?_); (repeat (simp (disch := omega) [])); first | (refine dEnd_ro ?_ (hKK _ _ _ ?_); (focus (simp; done)); clear htab tab hKK KK; simp only [thenA, blockA, reduceIte]) | skip)
            | (refine AWP.if_t ?_ ?_; focus (simp (disch := omega) []; done))
            | (refine AWP.if_f ?_ ?_; focus (simp (disch := omega) []; done)))
          cases hok3 : okDs (-1000) 1000 (mgL ds es) with
          | false =>
            have ho : mgO ds es = none := by unfold mgO; rw [if_neg (by simp [hok3])]
            refine aStop_of (enumOf_no _ _ _ true (mgL ds es) (Sl.whole (t := 34) (r := true) (by simp (disch := omega) only [upd_eq, upd_ne, del_ne, hc0]) (by simp [rowsD_len])) (by omega) hmsz (by rw [hok3]; rfl)) ?_
            rintro r δ ⟨rfl, rfl⟩
            (repeat (simp (disch := omega) [hb2]))
            first | (refine hKK _ _ _ ?_; clear hKK KK; simp only [thenA, blockA, reduceIte]) | skip
            repeat' (first
              | refine AWP.seq ?_
              | refine AWP.block ?_
              | (refine AWP.skip ?_; simp only [thenA, blockA, reduceIte])
              | (refine AWP.exit ?_; simp only [thenA, blockA, eq_self, reduceIte, Nat.reduceEqDiff, Nat.succ_ne_zero])
              | (refine AWP.ret ?_; simp only [thenA, blockA, reduceIte])
              | (refine AWP.region (by rfl) (fun KK hKK => ?_); (repeat (simp (disch := omega) [])); first | (refine hKK _ _ _ ?_; clear hKK KK; simp only [thenA, blockA, reduceIte]) | skip)
              | (refine AWP.draw' mixd (by rfl) (by kernel_rfl) (fun KK tab hKK htab => ?_); (repeat (simp (disch := omega) [])); first | (refine dEnd_ro ?_ (hKK _ _ _ ?_); (focus (simp; done)); clear htab tab hKK KK; simp only [thenA, blockA, reduceIte]) | skip)
              | (refine AWP.if_t ?_ ?_; focus (simp (disch := omega) []; done))
              | (refine AWP.if_f ?_ ?_; focus (simp (disch := omega) []; done)))
            refine ⟨by simp, ?_⟩
            have hres : Try.f11.results.toList = [.cell 4 25, .tmp 5] := rfl
            rw [hres]
            simp (disch := omega) [ho, eOut_none, dOut_none]
            refine fin0 ⟨?_, rfl⟩ (by simp [resO, nms, nmss])
            simp [resO, ren, rens, rho, hK0, hK1, hK2]
          | true =>
            have ho : mgO ds es = some (mgL ds es) := by unfold mgO; rw [if_pos ⟨hok, hok2, hany, hok3⟩]
            refine aStop_of (enumOf_yes _ _ _ (mgL ds es) (Sl.whole (t := 34) (r := true) (by simp (disch := omega) only [upd_eq, upd_ne, del_ne, hc0]) (by simp [rowsD_len])) (by omega) hmsz hok3) ?_
            rintro r δ ⟨rfl, rfl⟩
            (repeat (simp (disch := omega) [hb2]))
            first | (refine hKK _ _ _ ?_; clear hKK KK; simp only [thenA, blockA, reduceIte]) | skip
            repeat' (first
              | refine AWP.seq ?_
              | refine AWP.block ?_
              | (refine AWP.skip ?_; simp only [thenA, blockA, reduceIte])
              | (refine AWP.exit ?_; simp only [thenA, blockA, eq_self, reduceIte, Nat.reduceEqDiff, Nat.succ_ne_zero])
              | (refine AWP.ret ?_; simp only [thenA, blockA, reduceIte])
              | (refine AWP.region (by rfl) (fun KK hKK => ?_); (repeat (simp (disch := omega) [])); first | (refine hKK _ _ _ ?_; clear hKK KK; simp only [thenA, blockA, reduceIte]) | skip)
              | (refine AWP.draw' mixd (by rfl) (by kernel_rfl) (fun KK tab hKK htab => ?_); (repeat (simp (disch := omega) [])); first | (refine dEnd_ro ?_ (hKK _ _ _ ?_); (focus (simp; done)); clear htab tab hKK KK; simp only [thenA, blockA, reduceIte]) | skip)
              | (refine AWP.if_t ?_ ?_; focus (simp (disch := omega) []; done))
              | (refine AWP.if_f ?_ ?_; focus (simp (disch := omega) []; done)))
            refine ⟨by simp, ?_⟩
            have hres : Try.f11.results.toList = [.cell 4 25, .tmp 5] := rfl
            rw [hres]
            simp (disch := omega) [ho, eOut_some, dOut_some]
            refine fin1 M (blkD (mgL ds es)) (by simp (disch := omega) only [upd_eq, upd_ne]) rfl (flatD _) ⟨?_, rfl⟩ (by omega) (by simp [resO, nms, nmss] <;> (intros; omega))
            simp [resO, ren, rens, rho]
end Go.Proofs.Ytgaiemhbllbaiaa
