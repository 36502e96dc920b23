/- Contracts: TableOf. No condition but sizes. -/
import Derived.Test.YtkddpkjgmmmcpaaT1
import Derived.Test.YtkddpkjgmmmcpaaB5
set_option linter.unusedSimpArgs false
set_option linter.unusedVariables false
namespace Go.Proofs.Ytkddpkjgmmmcpaa
open Go Go.RowKit

/-- The slots of a table, filled one after the other. -/
abbrev Slots := List (Option Int)
def tbP (ds : List Df) (s : Slots) (d : Df) : Option Slots :=
  if 0 ≤ rkO ds d.1 ∧ s[(rkO ds d.1).toNat]? = some none then some (s.set (rkO ds d.1).toNat (some d.2)) else none
def tbF (ds : List Df) (L : List Df) : Option Slots := L.foldl (fun a d => a.bind fun s => tbP ds s d) (some (List.replicate (memF ds).length none))
theorem tbF_snoc (ds L : List Df) (d : Df) : tbF ds (L ++ [d]) = (tbF ds L).bind fun s => tbP ds s d := by simp [tbF]
theorem tbF_take {ds L : List Df} {k : Nat} (h : k < L.length) : tbF ds (L.take (k + 1)) = (tbF ds (L.take k)).bind fun s => tbP ds s L[k] := by
  rw [List.take_succ_eq_append_getElem h, tbF_snoc]
theorem fold_none (ds : List Df) : ∀ L : List Df, L.foldl (fun a d => a.bind fun s => tbP ds s d) none = none
  | [] => rfl
  | d :: L => by simp only [List.foldl_cons, Option.bind_none]; exact fold_none ds L
theorem tbF_none {ds L : List Df} {k : Nat} (h : tbF ds (L.take k) = none) : tbF ds L = none := by
  have e : tbF ds L = (L.drop k).foldl (fun a d => a.bind fun s => tbP ds s d) (tbF ds (L.take k)) := by
    unfold tbF
    rw [← List.foldl_append, List.take_append_drop]
  rw [e, h]
  exact fold_none ds _
/-- What the slots hold. -/
theorem tbF_inv {ds : List Df} : ∀ (L : List Df) (s : Slots), tbF ds L = some s → s.length = (memF ds).length ∧ (∀ v, some v ∈ s ↔ ∃ d ∈ L, d.2 = v) ∧ (∀ d ∈ L, 0 ≤ rkO ds d.1 ∧ s[(rkO ds d.1).toNat]? = some (some d.2)) := by
  intro L
  induction L using rev_ind with
  | nil =>
    intro s h
    have e : s = List.replicate (memF ds).length none := by simpa [tbF] using h.symm
    subst e
    refine ⟨by simp, fun v => ?_, fun d hd => by simp at hd⟩
    simp
  | snoc L d ih =>
    intro s h
    rw [tbF_snoc] at h
    cases hp : tbF ds L with
    | none => rw [hp] at h; simp at h
    | some s0 =>
      rw [hp] at h
      simp only [Option.bind_some, tbP] at h
      split at h
      · rename_i hh
        obtain ⟨h0, h1⟩ := hh
        simp only [Option.some.injEq] at h
        subst h
        obtain ⟨i1, i2, i3⟩ := ih s0 hp
        obtain ⟨hlt, he⟩ := List.getElem?_eq_some_iff.1 h1
        refine ⟨by simp [i1], fun v => ?_, fun e he2 => ?_⟩
        · constructor
          · intro hm
            obtain ⟨j, hj, e⟩ := List.mem_iff_getElem.1 hm
            rw [List.getElem_set] at e
            split at e
            · exact ⟨d, by simp, by simpa using e⟩
            · obtain ⟨e1, h1, h2⟩ := (i2 v).1 (by rw [← e]; exact List.getElem_mem _)
              exact ⟨e1, by simp [h1], h2⟩
          · rintro ⟨e, he2, rfl⟩
            rcases List.mem_append.1 he2 with h2 | h2
            · obtain ⟨j, hj, e3⟩ := List.mem_iff_getElem.1 ((i2 e.2).2 ⟨e, h2, rfl⟩)
              have hne : (rkO ds d.1).toNat ≠ j := by
                rintro rfl
                rw [he] at e3; cases e3
              refine List.mem_iff_getElem.2 ⟨j, by simpa using hj, ?_⟩
              rw [List.getElem_set_ne hne]
              exact e3
            · rw [List.mem_singleton.1 h2]
              exact List.mem_iff_getElem.2 ⟨(rkO ds d.1).toNat, by simpa using hlt, by simp⟩
        · rcases List.mem_append.1 he2 with h2 | h2
          · obtain ⟨a, b⟩ := i3 e h2
            refine ⟨a, ?_⟩
            have hne : (rkO ds d.1).toNat ≠ (rkO ds e.1).toNat := by
              intro e3
              rw [← e3, h1] at b; cases b
            rw [List.getElem?_set_ne hne]
            exact b
          · rw [List.mem_singleton.1 h2]
            exact ⟨h0, by simp [hlt]⟩
      · cases h
/-- The numbers of the slots. -/
def slI (s : Slots) : List Int := s.map fun v => v.getD 0
theorem slI_len (s : Slots) : (slI s).length = s.length := by simp [slI]
def rowsBo (l : List Bool) : List (List AV) := l.map fun v => [.v (.bool v)]
def slB (s : Slots) : List Bool := s.map fun v => v.isSome
def tbO (ds L : List Df) : Option (List Int) :=
  if okDs (-1000) 1000 ds = true ∧ L.length ≤ 12 ∧ L.length = (memF ds).length ∧ ∀ d ∈ L, inT d.2 = true then (tbF ds L).map slI else none
theorem tbO_no {ds L : List Df} (h : ¬ (okDs (-1000) 1000 ds = true ∧ L.length ≤ 12 ∧ L.length = (memF ds).length)) : tbO ds L = none := by
  unfold tbO
  rw [if_neg fun hh => h ⟨hh.1, hh.2.1, hh.2.2.1⟩]
theorem tbO_none {ds L : List Df} {k : Nat} (h : tbF ds (L.take k) = none) : tbO ds L = none := by
  unfold tbO
  rw [tbF_none h]
  split <;> rfl
theorem tbO_bad {ds L : List Df} {k : Nat} (h : k < L.length) (hb : inT L[k].2 = false) : tbO ds L = none := by
  unfold tbO
  rw [if_neg fun hh => by rw [hh.2.2.2 _ (List.getElem_mem h)] at hb; cases hb]
theorem tbO_yes {ds L : List Df} {s : Slots} (h1 : okDs (-1000) 1000 ds = true) (h2 : L.length ≤ 12) (h3 : L.length = (memF ds).length) (h4 : ∀ d ∈ L, inT d.2 = true) (h : tbF ds L = some s) : tbO ds L = some (slI s) := by
  unfold tbO
  rw [if_pos ⟨h1, h2, h3, h4⟩, h]
  rfl
/-- The table is valid where the numbers given are. -/
theorem slots_ok {ds L : List Df} {s : Slots} (hok : okDs (-1000) 1000 ds = true) (h : tbF ds L = some s) : tkO ds (slI s) = decide (∀ d ∈ L, inT d.2 = true) := by
  obtain ⟨h1, h2, _⟩ := tbF_inv L s h
  simp only [tkO, hok, slI_len, h1, Bool.true_and, decide_true]
  rw [Bool.eq_iff_iff, decide_eq_true_eq, List.all_eq_true]
  constructor
  · intro ha d hd
    exact ha _ (List.mem_map.2 ⟨some d.2, (h2 d.2).2 ⟨d, hd, rfl⟩, rfl⟩)
  · intro ha n hn
    obtain ⟨v, hv, rfl⟩ := List.mem_map.1 hn
    cases v with
    | none => rfl
    | some v =>
      obtain ⟨d, hd, e⟩ := (h2 v).1 hv
      simp only [Option.getD_some]
      rw [← e]
      exact ha d hd
theorem slB_at {s : Slots} {j : Nat} (h : j < s.length) : (rowsBo (slB s))[j]? = some [.v (.bool s[j].isSome)] := by simp [rowsBo, slB, List.getElem?_eq_getElem h]
theorem slI_at {s : Slots} {j : Nat} (h : j < s.length) : (rowsI (slI s))[j]? = some [.v (.int .i64 (s[j].getD 0))] := by simp [rowsI, slI, List.getElem?_eq_getElem h]
theorem slB_set (s : Slots) (j : Nat) (v : Int) : (rowsBo (slB s)).set j [.v (.bool true)] = rowsBo (slB (s.set j (some v))) := by simp [rowsBo, slB, List.map_set]
theorem slI_set (s : Slots) (j : Nat) (v : Int) : (rowsI (slI s)).set j [.v (.int .i64 v)] = rowsI (slI (s.set j (some v))) := by simp [rowsI, slI, List.map_set]
theorem rowsBo_len (l : List Bool) : (rowsBo l).length = l.length := by simp [rowsBo]
theorem slB_len (s : Slots) : (slB s).length = s.length := by simp [slB]
theorem slI_rep (n : Nat) : rowsI (slI (List.replicate n none)) = List.replicate n [.v (.int .i64 0)] := by simp [rowsI, slI]
theorem slB_rep (n : Nat) : rowsBo (slB (List.replicate n none)) = List.replicate n [.v (.bool false)] := by simp [rowsBo, slB]

set_option maxRecDepth 10000 in
set_option maxHeartbeats 4000000 in
theorem tableOf_c (σ : Sto) (ν : Nat) (x y : AV) (ds L : List Df) (hx : Sl σ x 2 (rowsD ds)) (hy : Sl σ y 2 (rowsD L)) (hlen : ds.length ≤ 4294967296) (hlL : L.length ≤ 4294967296) (hsz : ∀ d ∈ ds, d.1.size ≤ 9223372036854775807) :
    AC Try.prog 51 [.agg [x], y] σ ν fun r δ => r = .tup [iOut ν some (tbO ds L), .v (.bool (tbO ds L).isSome)] ∧ δ = dOutI ν (tbO ds L) := by
  obtain ⟨b, o, cap, z, rfl⟩ := hx.out
  obtain ⟨b2, o2, cap2, z2, rfl⟩ := hy.out
  simp only [rowsD_len] at hx hy ⊢
  by_cases hc : ¬ (okDs (-1000) 1000 ds = true ∧ L.length ≤ 12 ∧ L.length = (memF ds).length)
  · rw [tbO_no hc, iOut_none, dOutI_none]
    refine AC.intro [] ent_51 Try.func51 rfl (by simp [Try.f51]) (by simp) ?_
    intro K s hs hB hn hν hA hFr
    simp only [argT, Nat.zero_add, Nat.reduceAdd]
    have hx' := hx.vw hs.vw
    have hy' := hy.vw hs.vw
    have hK0 : ¬ 0 = K := by omega
    repeat' (first
      | refine AWP.seq ?_
      | refine AWP.block ?_
      | (refine AWP.skip ?_; simp only [thenA, blockA, reduceIte])
      | (refine AWP.exit ?_; simp only [thenA, blockA, eq_self, reduceIte, Nat.reduceEqDiff, Nat.succ_ne_zero])
      | (refine AWP.ret ?_; simp only [thenA, blockA, reduceIte])
      | (refine AWP.region (by rfl) (fun KK hKK => ?_); (repeat (simp (disch := omega) [])); first | (refine hKK _ _ _ ?_; clear hKK KK; simp only [thenA, blockA, reduceIte]) | skip)
      | (refine AWP.if_t ?_ ?_; focus (simp (disch := omega) []; done))
      | (refine AWP.if_f ?_ ?_; focus (simp (disch := omega) []; done)))
    cases hok : okDs (-1000) 1000 ds with
    | false =>
      refine aStop_of (validEnum_c _ _ _ ds (hx'.vw ((Vw.refl _).over (by repeat (first | exact Over.refl _ | exact hov | refine Over.upd ?_ hB (by omega) | refine Over.del ?_ hB (by omega))))) (by omega) hsz) ?_
      rintro r δ ⟨rfl, rfl⟩
      (repeat (simp (disch := omega) [hok]))
      first | (refine hKK _ _ _ ?_; clear hKK KK; simp only [thenA, blockA, reduceIte]) | skip
      repeat' (first
        | refine AWP.seq ?_
        | refine AWP.block ?_
        | (refine AWP.skip ?_; simp only [thenA, blockA, reduceIte])
        | (refine AWP.exit ?_; simp only [thenA, blockA, eq_self, reduceIte, Nat.reduceEqDiff, Nat.succ_ne_zero])
        | (refine AWP.ret ?_; simp only [thenA, blockA, reduceIte])
        | (refine AWP.region (by rfl) (fun KK hKK => ?_); (repeat (simp (disch := omega) [])); first | (refine hKK _ _ _ ?_; clear hKK KK; simp only [thenA, blockA, reduceIte]) | skip)
        | (refine AWP.if_t ?_ ?_; focus (simp (disch := omega) []; done))
        | (refine AWP.if_f ?_ ?_; focus (simp (disch := omega) []; done)))
      refine ⟨by simp, _, rfl, fin0 ⟨?_, rfl⟩ (by simp [resO, get, nms, nmss]; try (simp [nms, nmss] at hn; simp_all))⟩
      simp [resO, get, ren, rens, rho, hK0]
    | true =>
      by_cases h12 : (12 : Int) < L.length
      · refine aStop_of (validEnum_c _ _ _ ds (hx'.vw ((Vw.refl _).over (by repeat (first | exact Over.refl _ | exact hov | refine Over.upd ?_ hB (by omega) | refine Over.del ?_ hB (by omega))))) (by omega) hsz) ?_
        rintro r δ ⟨rfl, rfl⟩
        (repeat (simp (disch := omega) [hok, h12]))
        first | (refine hKK _ _ _ ?_; clear hKK KK; simp only [thenA, blockA, reduceIte]) | skip
        repeat' (first
          | refine AWP.seq ?_
          | refine AWP.block ?_
          | (refine AWP.skip ?_; simp only [thenA, blockA, reduceIte])
          | (refine AWP.exit ?_; simp only [thenA, blockA, eq_self, reduceIte, Nat.reduceEqDiff, Nat.succ_ne_zero])
          | (refine AWP.ret ?_; simp only [thenA, blockA, reduceIte])
          | (refine AWP.region (by rfl) (fun KK hKK => ?_); (repeat (simp (disch := omega) [])); first | (refine hKK _ _ _ ?_; clear hKK KK; simp only [thenA, blockA, reduceIte]) | skip)
          | (refine AWP.if_t ?_ ?_; focus (simp (disch := omega) []; done))
          | (refine AWP.if_f ?_ ?_; focus (simp (disch := omega) []; done)))
        refine ⟨by simp, _, rfl, fin0 ⟨?_, rfl⟩ (by simp [resO, get, nms, nmss]; try (simp [nms, nmss] at hn; simp_all))⟩
        simp [resO, get, ren, rens, rho, hK0]
      · have hne : ¬ (L.length : Int) = (memF ds).length := by
          intro e
          exact hc ⟨hok, by omega, by omega⟩
        refine aStop_of (validEnum_c _ _ _ ds (hx'.vw ((Vw.refl _).over (by repeat (first | exact Over.refl _ | exact hov | refine Over.upd ?_ hB (by omega) | refine Over.del ?_ hB (by omega))))) (by omega) hsz) ?_
        rintro r δ ⟨rfl, rfl⟩
        (repeat (simp (disch := omega) [hok, h12]))
        first | (refine hKK _ _ _ ?_; clear hKK KK; simp only [thenA, blockA, reduceIte]) | skip
        repeat' (first
          | refine AWP.seq ?_
          | refine AWP.block ?_
          | (refine AWP.skip ?_; simp only [thenA, blockA, reduceIte])
          | (refine AWP.exit ?_; simp only [thenA, blockA, eq_self, reduceIte, Nat.reduceEqDiff, Nat.succ_ne_zero])
          | (refine AWP.ret ?_; simp only [thenA, blockA, reduceIte])
          | (refine AWP.region (by rfl) (fun KK hKK => ?_); (repeat (simp (disch := omega) [])); first | (refine hKK _ _ _ ?_; clear hKK KK; simp only [thenA, blockA, reduceIte]) | skip)
          | (refine AWP.if_t ?_ ?_; focus (simp (disch := omega) []; done))
          | (refine AWP.if_f ?_ ?_; focus (simp (disch := omega) []; done)))
        refine aStop_of (members_c _ _ _ ds (hx'.vw ((Vw.refl _).over (by repeat (first | exact Over.refl _ | exact hov | refine Over.upd ?_ hB (by omega) | refine Over.del ?_ hB (by omega))))) hlen) ?_
        rintro r δ ⟨rfl, rfl⟩
        (repeat (simp (disch := omega) [hne]))
        first | (refine hKK _ _ _ ?_; clear hKK KK; simp only [thenA, blockA, reduceIte]) | skip
        repeat' (first
          | refine AWP.seq ?_
          | refine AWP.block ?_
          | (refine AWP.skip ?_; simp only [thenA, blockA, reduceIte])
          | (refine AWP.exit ?_; simp only [thenA, blockA, eq_self, reduceIte, Nat.reduceEqDiff, Nat.succ_ne_zero])
          | (refine AWP.ret ?_; simp only [thenA, blockA, reduceIte])
          | (refine AWP.region (by rfl) (fun KK hKK => ?_); (repeat (simp (disch := omega) [])); first | (refine hKK _ _ _ ?_; clear hKK KK; simp only [thenA, blockA, reduceIte]) | skip)
          | (refine AWP.if_t ?_ ?_; focus (simp (disch := omega) []; done))
          | (refine AWP.if_f ?_ ?_; focus (simp (disch := omega) []; done)))
        refine ⟨by simp, _, rfl, fin0 ⟨?_, rfl⟩ (by simp [resO, get, nms, nmss]; try (simp [nms, nmss] at hn; simp_all))⟩
        simp [resO, get, ren, rens, rho, hK0]
  have hcc : okDs (-1000) 1000 ds = true ∧ L.length ≤ 12 ∧ L.length = (memF ds).length := Classical.not_not.1 hc
  obtain ⟨hok, h12, hlm⟩ := hcc
  refine AC.intro [] ent_51 Try.func51 rfl (by simp [Try.f51]) (by simp) ?_
  intro K s hs hB hn hν hA hFr
  simp only [argT, Nat.zero_add, Nat.reduceAdd]
  have hx' := hx.vw hs.vw
  have hy' := hy.vw hs.vw
  have hbK : b < K := hA b (by simp [nmAs, nmA])
  have hbK2 : b2 < K := hA b2 (by simp [nmAs, nmA])
  have h12i : ¬ (12 : Int) < L.length := by omega
  have hli : (L.length : Int) = (memF ds).length := by omega
  have hbig : 8 * L.length ≤ 140737488355328 := by omega
  have hbig2 : L.length ≤ 4611686018427387904 := by omega
  have hbig3 : L.length ≤ 140737488355328 := by omega
  repeat' (first
    | refine AWP.seq ?_
    | refine AWP.block ?_
    | (refine AWP.skip ?_; simp only [thenA, blockA, reduceIte])
    | (refine AWP.exit ?_; simp only [thenA, blockA, eq_self, reduceIte, Nat.reduceEqDiff, Nat.succ_ne_zero])
    | (refine AWP.ret ?_; simp only [thenA, blockA, reduceIte])
    | (refine AWP.region (by rfl) (fun KK hKK => ?_); (repeat (simp (disch := omega) [])); first | (refine hKK _ _ _ ?_; clear hKK KK; simp only [thenA, blockA, reduceIte]) | skip)
    | (refine AWP.if_t ?_ ?_; focus (simp (disch := omega) []; done))
    | (refine AWP.if_f ?_ ?_; focus (simp (disch := omega) []; done)))
  refine aStop_of (validEnum_c _ _ _ ds (hx'.vw ((Vw.refl _).over (by repeat (first | exact Over.refl _ | exact hov | refine Over.upd ?_ hB (by omega) | refine Over.del ?_ hB (by omega))))) (by omega) hsz) ?_
  rintro r δ ⟨rfl, rfl⟩
  (repeat (simp (disch := omega) [hok, h12i]))
  first | (refine hKK _ _ _ ?_; clear hKK KK; simp only [thenA, blockA, reduceIte]) | skip
  repeat' (first
    | refine AWP.seq ?_
    | refine AWP.block ?_
    | (refine AWP.skip ?_; simp only [thenA, blockA, reduceIte])
    | (refine AWP.exit ?_; simp only [thenA, blockA, eq_self, reduceIte, Nat.reduceEqDiff, Nat.succ_ne_zero])
    | (refine AWP.ret ?_; simp only [thenA, blockA, reduceIte])
    | (refine AWP.region (by rfl) (fun KK hKK => ?_); (repeat (simp (disch := omega) [h12i])); first | (refine hKK _ _ _ ?_; clear hKK KK; simp only [thenA, blockA, reduceIte]) | skip)
    | (refine AWP.if_t ?_ ?_; focus (simp (disch := omega) [h12i]; done))
    | (refine AWP.if_f ?_ ?_; focus (simp (disch := omega) [h12i]; done)))
  refine aStop_of (members_c _ _ _ ds (hx'.vw ((Vw.refl _).over (by repeat (first | exact Over.refl _ | exact hov | refine Over.upd ?_ hB (by omega) | refine Over.del ?_ hB (by omega))))) hlen) ?_
  rintro r δ ⟨rfl, rfl⟩
  (repeat (simp (disch := omega) [hli]))
  first | (refine hKK _ _ _ ?_; clear hKK KK; simp only [thenA, blockA, reduceIte]) | skip
  repeat' (first
    | refine AWP.seq ?_
    | refine AWP.block ?_
    | (refine AWP.skip ?_; simp only [thenA, blockA, reduceIte])
    | (refine AWP.exit ?_; simp only [thenA, blockA, eq_self, reduceIte, Nat.reduceEqDiff, Nat.succ_ne_zero])
    | (refine AWP.ret ?_; simp only [thenA, blockA, reduceIte])
    | (refine AWP.region (by rfl) (fun KK hKK => ?_); (repeat (simp (disch := omega) [hbig, hbig2, hbig3])); first | (refine hKK _ _ _ ?_; clear hKK KK; simp only [thenA, blockA, reduceIte]) | skip)
    | (refine AWP.if_t ?_ ?_; focus (simp (disch := omega) [hbig, hbig2, hbig3]; done))
    | (refine AWP.if_f ?_ ?_; focus (simp (disch := omega) [hbig, hbig2, hbig3]; done)))
  have er1 : (⟨3, 1, List.replicate L.length [.v (.int .i64 0)], true⟩ : Blk) = blkI (slI (List.replicate (memF ds).length none)) := by rw [hlm, ← slI_rep]
  have er2 : (⟨4, 1, List.replicate L.length [.v (.bool false)], true⟩ : Blk) = ⟨4, 1, rowsBo (slB (List.replicate (memF ds).length none)), true⟩ := by rw [hlm, ← slB_rep]
  refine AWP.loop (fun n τ σ' M => ∃ (k : Nat) (sl : Slots), k ≤ L.length ∧ n = L.length - k ∧ tbF ds (L.take k) = some sl ∧ (∀ d ∈ L.take k, inT d.2 = true) ∧ τ = [(2, .ptr K 0 0), (6, .sl (K + 1 + 2 + 2) 0 L.length (some L.length) 1), (7, .sl (K + 1 + 2 + 2 + 1) 0 L.length (some L.length) 1), (33, .sl b2 o2 L.length cap2 z2), (34, .v (.int .i64 L.length)), (35, .v (.int .i64 k))] ∧ σ' K = some (blkE (.sl b o ds.length cap z)) ∧ σ' (K + 1 + 2 + 2) = some (blkI (slI sl)) ∧ σ' (K + 1 + 2 + 2 + 1) = some ⟨4, 1, rowsBo (slB sl), true⟩ ∧ K + 1 + 2 + 2 + 1 < M ∧ Over s σ')
    ⟨_, _, _, _, ⟨0, List.replicate (memF ds).length none, by omega, rfl, rfl, by simp, rfl, by simp (disch := omega) only [upd_eq, upd_ne], by simp (disch := omega) only [upd_eq, upd_ne, er1], by simp (disch := omega) only [upd_eq, upd_ne, er2], by omega, (by repeat (first | exact Over.refl _ | exact hov | refine Over.upd ?_ hB (by omega) | refine Over.del ?_ hB (by omega)))⟩, Weak.tau (by simp [LQ])⟩ ?_
  rintro n τ σ1 M ⟨k, sl, hk, rfl, htb, hin, rfl, hb0, hb1, hb2, hM, hov⟩
  obtain ⟨hsl, _, _⟩ := tbF_inv _ _ htb
  by_cases hlt : k < L.length
  · obtain ⟨_, rfl, kb, hkb, hat⟩ := hy'.at (i := k) (by rw [rowsD_len]; exact hlt)
    have hrow : (rowsD L)[k]'(by rw [rowsD_len]; exact hlt) = [.v (.string L[k].1), .v (.int .i64 L[k].2)] := by simp [rowsD, rowD]
    rw [hrow] at hat
    have hkb' := hov _ _ hkb
    have hnx := tbF_take (ds := ds) hlt
    rw [htb] at hnx
    simp only [Option.bind_some, tbP] at hnx
    by_cases hr : rkO ds L[k].1 < 0
    · have ho : tbO ds L = none := tbO_none (k := k + 1) (by rw [hnx, if_neg (by omega)])
      rw [ho, iOut_none, dOutI_none]
      have hK0 : ¬ 0 = K := by omega
      repeat' (first
        | refine AWP.seq ?_
        | refine AWP.block ?_
        | (refine AWP.skip ?_; simp only [thenA, blockA, reduceIte])
        | (refine AWP.exit ?_; simp only [thenA, blockA, eq_self, reduceIte, Nat.reduceEqDiff, Nat.succ_ne_zero])
        | (refine AWP.ret ?_; simp only [thenA, blockA, reduceIte])
        | (refine AWP.region (by rfl) (fun KK hKK => ?_); (repeat (simp (disch := omega) [hlt, hb0, hkb', hat])); first | (refine hKK _ _ _ ?_; clear hKK KK; simp only [thenA, blockA, reduceIte]) | skip)
        | (refine AWP.if_t ?_ ?_; focus (simp (disch := omega) [hlt, hb0, hkb', hat]; done))
        | (refine AWP.if_f ?_ ?_; focus (simp (disch := omega) [hlt, hb0, hkb', hat]; done)))
      refine aStop_of (rankOf_c _ _ _ ds _ (hx'.vw ((Vw.refl _).over (by repeat (first | exact Over.refl _ | exact hov | refine Over.upd ?_ hB (by omega) | refine Over.del ?_ hB (by omega))))) hlen hsz) ?_
      rintro r δ ⟨rfl, rfl⟩
      (repeat (simp (disch := omega) [hr]))
      first | (refine hKK _ _ _ ?_; clear hKK KK; simp only [thenA, blockA, reduceIte]) | skip
      repeat' (first
        | refine AWP.seq ?_
        | refine AWP.block ?_
        | (refine AWP.skip ?_; simp only [thenA, blockA, reduceIte])
        | (refine AWP.exit ?_; simp only [thenA, blockA, eq_self, reduceIte, Nat.reduceEqDiff, Nat.succ_ne_zero])
        | (refine AWP.ret ?_; simp only [thenA, blockA, reduceIte])
        | (refine AWP.region (by rfl) (fun KK hKK => ?_); (repeat (simp (disch := omega) [hr])); first | (refine hKK _ _ _ ?_; clear hKK KK; simp only [thenA, blockA, reduceIte]) | skip)
        | (refine AWP.if_t ?_ ?_; focus (simp (disch := omega) [hr]; done))
        | (refine AWP.if_f ?_ ?_; focus (simp (disch := omega) [hr]; done)))
      refine ⟨by simp, _, rfl, fin0 ⟨?_, rfl⟩ (by simp [resO, get, nms, nmss]; try (simp [nms, nmss] at hn; simp_all))⟩
      simp [resO, get, ren, rens, rho, hK0]
    have hr0 : 0 ≤ rkO ds L[k].1 := by omega
    have hrl := rk_lt hr0
    have hil : (rkO ds L[k].1).toNat < sl.length := by omega
    have hiL : rkO ds L[k].1 < L.length := by omega
    have hbo := slB_at hil
    have hii := slI_at hil
    have hse := List.getElem?_eq_getElem hil
    cases hs0 : sl[(rkO ds L[k].1).toNat] with
    | some w =>
      have ho : tbO ds L = none := tbO_none (k := k + 1) (by rw [hnx, if_neg (by rw [hse, hs0]; simp)])
      rw [hs0, Option.isSome_some] at hbo
      rw [ho, iOut_none, dOutI_none]
      have hK0 : ¬ 0 = K := by omega
      repeat' (first
        | refine AWP.seq ?_
        | refine AWP.block ?_
        | (refine AWP.skip ?_; simp only [thenA, blockA, reduceIte])
        | (refine AWP.exit ?_; simp only [thenA, blockA, eq_self, reduceIte, Nat.reduceEqDiff, Nat.succ_ne_zero])
        | (refine AWP.ret ?_; simp only [thenA, blockA, reduceIte])
        | (refine AWP.region (by rfl) (fun KK hKK => ?_); (repeat (simp (disch := omega) [hlt, hb0, hkb', hat])); first | (refine hKK _ _ _ ?_; clear hKK KK; simp only [thenA, blockA, reduceIte]) | skip)
        | (refine AWP.if_t ?_ ?_; focus (simp (disch := omega) [hlt, hb0, hkb', hat]; done))
        | (refine AWP.if_f ?_ ?_; focus (simp (disch := omega) [hlt, hb0, hkb', hat]; done)))
      refine aStop_of (rankOf_c _ _ _ ds _ (hx'.vw ((Vw.refl _).over (by repeat (first | exact Over.refl _ | exact hov | refine Over.upd ?_ hB (by omega) | refine Over.del ?_ hB (by omega))))) hlen hsz) ?_
      rintro r δ ⟨rfl, rfl⟩
      (repeat (simp (disch := omega) [hr, hr0, hiL, hb2, hbo]))
      first | (refine hKK _ _ _ ?_; clear hKK KK; simp only [thenA, blockA, reduceIte]) | skip
      repeat' (first
        | refine AWP.seq ?_
        | refine AWP.block ?_
        | (refine AWP.skip ?_; simp only [thenA, blockA, reduceIte])
        | (refine AWP.exit ?_; simp only [thenA, blockA, eq_self, reduceIte, Nat.reduceEqDiff, Nat.succ_ne_zero])
        | (refine AWP.ret ?_; simp only [thenA, blockA, reduceIte])
        | (refine AWP.region (by rfl) (fun KK hKK => ?_); (repeat (simp (disch := omega) [hr, hr0, hiL, hb2, hbo])); first | (refine hKK _ _ _ ?_; clear hKK KK; simp only [thenA, blockA, reduceIte]) | skip)
        | (refine AWP.if_t ?_ ?_; focus (simp (disch := omega) [hr, hr0, hiL, hb2, hbo]; done))
        | (refine AWP.if_f ?_ ?_; focus (simp (disch := omega) [hr, hr0, hiL, hb2, hbo]; done)))
      refine ⟨by simp, _, rfl, fin0 ⟨?_, rfl⟩ (by simp [resO, get, nms, nmss]; try (simp [nms, nmss] at hn; simp_all))⟩
      simp [resO, get, ren, rens, rho, hK0]
    | none =>
      rw [hs0, Option.isSome_none] at hbo
      rw [hs0, Option.getD_none] at hii
      rw [if_pos ⟨hr0, by rw [hse, hs0]⟩] at hnx
      cases hi : inT L[k].2 with
      | false =>
        have ho : tbO ds L = none := tbO_bad hlt hi
        rw [ho, iOut_none, dOutI_none]
        have hK0 : ¬ 0 = K := by omega
        repeat' (first
          | refine AWP.seq ?_
          | refine AWP.block ?_
          | (refine AWP.skip ?_; simp only [thenA, blockA, reduceIte])
          | (refine AWP.exit ?_; simp only [thenA, blockA, eq_self, reduceIte, Nat.reduceEqDiff, Nat.succ_ne_zero])
          | (refine AWP.ret ?_; simp only [thenA, blockA, reduceIte])
          | (refine AWP.region (by rfl) (fun KK hKK => ?_); (repeat (simp (disch := omega) [hlt, hb0, hkb', hat])); first | (refine hKK _ _ _ ?_; clear hKK KK; simp only [thenA, blockA, reduceIte]) | skip)
          | (refine AWP.if_t ?_ ?_; focus (simp (disch := omega) [hlt, hb0, hkb', hat]; done))
          | (refine AWP.if_f ?_ ?_; focus (simp (disch := omega) [hlt, hb0, hkb', hat]; done)))
        refine aStop_of (rankOf_c _ _ _ ds _ (hx'.vw ((Vw.refl _).over (by repeat (first | exact Over.refl _ | exact hov | refine Over.upd ?_ hB (by omega) | refine Over.del ?_ hB (by omega))))) hlen hsz) ?_
        rintro r δ ⟨rfl, rfl⟩
        (repeat (simp (disch := omega) [hr, hr0, hiL, hb2, hbo]))
        first | (refine hKK _ _ _ ?_; clear hKK KK; simp only [thenA, blockA, reduceIte]) | skip
        repeat' (first
          | refine AWP.seq ?_
          | refine AWP.block ?_
          | (refine AWP.skip ?_; simp only [thenA, blockA, reduceIte])
          | (refine AWP.exit ?_; simp only [thenA, blockA, eq_self, reduceIte, Nat.reduceEqDiff, Nat.succ_ne_zero])
          | (refine AWP.ret ?_; simp only [thenA, blockA, reduceIte])
          | (refine AWP.region (by rfl) (fun KK hKK => ?_); (repeat (simp (disch := omega) [hr, hr0, hiL, hb2, hbo])); first | (refine hKK _ _ _ ?_; clear hKK KK; simp only [thenA, blockA, reduceIte]) | skip)
          | (refine AWP.if_t ?_ ?_; focus (simp (disch := omega) [hr, hr0, hiL, hb2, hbo]; done))
          | (refine AWP.if_f ?_ ?_; focus (simp (disch := omega) [hr, hr0, hiL, hb2, hbo]; done)))
        refine aStop_of (inRangeI_c _ _ _) ?_
        rintro r δ ⟨rfl, rfl⟩
        (repeat (simp (disch := omega) [hi]))
        first | (refine hKK _ _ _ ?_; clear hKK KK; simp only [thenA, blockA, reduceIte]) | skip
        repeat' (first
          | refine AWP.seq ?_
          | refine AWP.block ?_
          | (refine AWP.skip ?_; simp only [thenA, blockA, reduceIte])
          | (refine AWP.exit ?_; simp only [thenA, blockA, eq_self, reduceIte, Nat.reduceEqDiff, Nat.succ_ne_zero])
          | (refine AWP.ret ?_; simp only [thenA, blockA, reduceIte])
          | (refine AWP.region (by rfl) (fun KK hKK => ?_); (repeat (simp (disch := omega) [hr, hr0, hiL, hb2, hbo])); first | (refine hKK _ _ _ ?_; clear hKK KK; simp only [thenA, blockA, reduceIte]) | skip)
          | (refine AWP.if_t ?_ ?_; focus (simp (disch := omega) [hr, hr0, hiL, hb2, hbo]; done))
          | (refine AWP.if_f ?_ ?_; focus (simp (disch := omega) [hr, hr0, hiL, hb2, hbo]; done)))
        refine ⟨by simp, _, rfl, fin0 ⟨?_, rfl⟩ (by simp [resO, get, nms, nmss]; try (simp [nms, nmss] at hn; simp_all))⟩
        simp [resO, get, ren, rens, rho, hK0]
      | true =>
        have hs1 := slI_set sl (rkO ds L[k].1).toNat L[k].2
        have hs2 := slB_set sl (rkO ds L[k].1).toNat L[k].2
        repeat' (first
          | refine AWP.seq ?_
          | refine AWP.block ?_
          | (refine AWP.skip ?_; simp only [thenA, blockA, reduceIte])
          | (refine AWP.exit ?_; simp only [thenA, blockA, eq_self, reduceIte, Nat.reduceEqDiff, Nat.succ_ne_zero])
          | (refine AWP.ret ?_; simp only [thenA, blockA, reduceIte])
          | (refine AWP.region (by rfl) (fun KK hKK => ?_); (repeat (simp (disch := omega) [hlt, hb0, hkb', hat])); first | (refine hKK _ _ _ ?_; clear hKK KK; simp only [thenA, blockA, reduceIte]) | skip)
          | (refine AWP.if_t ?_ ?_; focus (simp (disch := omega) [hlt, hb0, hkb', hat]; done))
          | (refine AWP.if_f ?_ ?_; focus (simp (disch := omega) [hlt, hb0, hkb', hat]; done)))
        refine aStop_of (rankOf_c _ _ _ ds _ (hx'.vw ((Vw.refl _).over (by repeat (first | exact Over.refl _ | exact hov | refine Over.upd ?_ hB (by omega) | refine Over.del ?_ hB (by omega))))) hlen hsz) ?_
        rintro r δ ⟨rfl, rfl⟩
        (repeat (simp (disch := omega) [hr, hr0, hiL, hb2, hbo]))
        first | (refine hKK _ _ _ ?_; clear hKK KK; simp only [thenA, blockA, reduceIte]) | skip
        repeat' (first
          | refine AWP.seq ?_
          | refine AWP.block ?_
          | (refine AWP.skip ?_; simp only [thenA, blockA, reduceIte])
          | (refine AWP.exit ?_; simp only [thenA, blockA, eq_self, reduceIte, Nat.reduceEqDiff, Nat.succ_ne_zero])
          | (refine AWP.ret ?_; simp only [thenA, blockA, reduceIte])
          | (refine AWP.region (by rfl) (fun KK hKK => ?_); (repeat (simp (disch := omega) [hr, hr0, hiL, hb2, hbo])); first | (refine hKK _ _ _ ?_; clear hKK KK; simp only [thenA, blockA, reduceIte]) | skip)
          | (refine AWP.if_t ?_ ?_; focus (simp (disch := omega) [hr, hr0, hiL, hb2, hbo]; done))
          | (refine AWP.if_f ?_ ?_; focus (simp (disch := omega) [hr, hr0, hiL, hb2, hbo]; done)))
        refine aStop_of (inRangeI_c _ _ _) ?_
        rintro r δ ⟨rfl, rfl⟩
        (repeat (simp (disch := omega) [hi]))
        first | (refine hKK _ _ _ ?_; clear hKK KK; simp only [thenA, blockA, reduceIte]) | skip
        repeat' (first
          | refine AWP.seq ?_
          | refine AWP.block ?_
          | (refine AWP.skip ?_; simp only [thenA, blockA, reduceIte])
          | (refine AWP.exit ?_; simp only [thenA, blockA, eq_self, reduceIte, Nat.reduceEqDiff, Nat.succ_ne_zero])
          | (refine AWP.ret ?_; simp only [thenA, blockA, reduceIte])
          | (refine AWP.region (by rfl) (fun KK hKK => ?_); (repeat (simp (disch := omega) [hr, hr0, hiL, hb1, hb2, hbo, hii, hs1, hs2])); first | (refine hKK _ _ _ ?_; clear hKK KK; simp only [thenA, blockA, reduceIte]) | skip)
          | (refine AWP.if_t ?_ ?_; focus (simp (disch := omega) [hr, hr0, hiL, hb1, hb2, hbo, hii, hs1, hs2]; done))
          | (refine AWP.if_f ?_ ?_; focus (simp (disch := omega) [hr, hr0, hiL, hb1, hb2, hbo, hii, hs1, hs2]; done)))
        refine ⟨_, _, _, _, ?_, ⟨k + 1, sl.set (rkO ds L[k].1).toNat (some L[k].2), by omega, rfl, hnx, tk_all hlt hin hi, rfl, by simp (disch := omega) only [upd_eq, upd_ne, hb0], by simp (disch := omega) only [upd_eq, upd_ne], by simp (disch := omega) only [upd_eq, upd_ne], by omega, (by repeat (first | exact Over.refl _ | exact hov | refine Over.upd ?_ hB (by omega) | refine Over.del ?_ hB (by omega)))⟩, Weak.tau (by simp [LQ])⟩
        omega
  · have hk' : k = L.length := by omega
    subst hk'
    rw [List.take_length] at htb hin
    have ho := tbO_yes hok h12 hlm hin htb
    have hsl2 := slI_len sl
    have hsl3 : (slI sl).length = L.length := by omega
    repeat' (first
      | refine AWP.seq ?_
      | refine AWP.block ?_
      | (refine AWP.skip ?_; simp only [thenA, blockA, reduceIte])
      | (refine AWP.exit ?_; simp only [thenA, blockA, eq_self, reduceIte, Nat.reduceEqDiff, Nat.succ_ne_zero])
      | (refine AWP.ret ?_; simp only [thenA, blockA, reduceIte])
      | (refine AWP.region (by rfl) (fun KK hKK => ?_); (repeat (simp (disch := omega) [hlt])); first | (refine hKK _ _ _ ?_; clear hKK KK; simp only [thenA, blockA, reduceIte]) | skip)
      | (refine AWP.if_t ?_ ?_; focus (simp (disch := omega) [hlt]; done))
      | (refine AWP.if_f ?_ ?_; focus (simp (disch := omega) [hlt]; done)))
    refine ⟨by simp, _, rfl, fin1 (K + 1 + 2 + 2) (blkI (slI sl)) (by simp (disch := omega) only [upd_eq, upd_ne, hb1]) rfl (flatI _) ⟨?_, by rw [ho, dOutI_some]⟩ (by omega) (by simp [resO, get, nms, nmss])⟩
    rw [ho, iOut_some, hsl3]
    simp [resO, get, ren, rens, rho]

set_option maxRecDepth 10000 in
set_option maxHeartbeats 4000000 in
theorem tableOfS_c (σ : Sto) (ν : Nat) (x y : AV) (ds L : List Df) (hx : Sl σ x 2 (rowsD ds)) (hy : Sl σ y 2 (rowsD L)) (hlen : ds.length ≤ 4294967296) (hlL : L.length ≤ 4294967296) (hsz : ∀ d ∈ ds, d.1.size ≤ 9223372036854775807) :
    AC Try.prog 49 [.agg [x], y] σ ν fun r δ => r = .tup [iOut ν some (tbO ds L), .v (.bool (tbO ds L).isSome)] ∧ δ = dOutI ν (tbO ds L) := by
  obtain ⟨b, o, cap, z, rfl⟩ := hx.out
  obtain ⟨b2, o2, cap2, z2, rfl⟩ := hy.out
  simp only [rowsD_len] at hx hy ⊢
  by_cases hc : ¬ (okDs (-1000) 1000 ds = true ∧ L.length ≤ 12)
  · rw [tbO_no (fun h => hc ⟨h.1, h.2.1⟩), iOut_none, dOutI_none]
    refine AC.intro [] ent_49 Try.func49 rfl (by simp [Try.f49]) (by simp) ?_
    intro K s hs hB hn hν hA hFr
    simp only [argT, Nat.zero_add, Nat.reduceAdd]
    have hx' := hx.vw hs.vw
    have hy' := hy.vw hs.vw
    have hK0 : ¬ 0 = K := by omega
    repeat' (first
      | refine AWP.seq ?_
      | refine AWP.block ?_
      | (refine AWP.skip ?_; simp only [thenA, blockA, reduceIte])
      | (refine AWP.exit ?_; simp only [thenA, blockA, eq_self, reduceIte, Nat.reduceEqDiff, Nat.succ_ne_zero])
      | (refine AWP.ret ?_; simp only [thenA, blockA, reduceIte])
      | (refine AWP.region (by rfl) (fun KK hKK => ?_); (repeat (simp (disch := omega) [])); first | (refine hKK _ _ _ ?_; clear hKK KK; simp only [thenA, blockA, reduceIte]) | skip)
      | (refine AWP.draw' mixd (by rfl) (by kernel_rfl) (fun KK tab hKK htab => ?_); (repeat (simp (disch := omega) [])); first | (refine dEnd_ro ?_ (hKK _ _ _ ?_); (focus (simp; done)); clear htab tab hKK KK; simp only [thenA, blockA, reduceIte]) | (refine dEnd_of ?_ (hKK _ _ _ ?_); (focus (simp only [List.reverse_cons, List.reverse_nil, List.nil_append, List.cons_append, memA, mem1, and_true, true_and]; (repeat' apply And.intro); (all_goals (first | trivial | (refine .inr ⟨?_, ?_⟩ <;> (simp; done)) | (refine .inr ⟨?_, ?_⟩ <;> (simp <;> omega)) | (refine .inl ?_; rw [htab]; kernel_rfl))); done)); clear htab tab hKK KK; simp only [thenA, blockA, reduceIte]) | skip)
      | (refine AWP.if_t ?_ ?_; focus (simp (disch := omega) []; done))
      | (refine AWP.if_f ?_ ?_; focus (simp (disch := omega) []; done)))
    cases hok : okDs (-1000) 1000 ds with
    | false =>
      refine aStop_of (validEnumS_c _ _ _ ds (hx'.vw ((Vw.refl _).over (by repeat (first | exact Over.refl _ | exact hov | refine Over.upd ?_ hB (by omega) | refine Over.del ?_ hB (by omega))))) (by omega) hsz) ?_
      rintro r δ ⟨rfl, rfl⟩
      (repeat (simp (disch := omega) [hok]))
      first | (refine hKK _ _ _ ?_; clear hKK KK; simp only [thenA, blockA, reduceIte]) | skip
      repeat' (first
        | refine AWP.seq ?_
        | refine AWP.block ?_
        | (refine AWP.skip ?_; simp only [thenA, blockA, reduceIte])
        | (refine AWP.exit ?_; simp only [thenA, blockA, eq_self, reduceIte, Nat.reduceEqDiff, Nat.succ_ne_zero])
        | (refine AWP.ret ?_; simp only [thenA, blockA, reduceIte])
        | (refine AWP.region (by rfl) (fun KK hKK => ?_); (repeat (simp (disch := omega) [])); first | (refine hKK _ _ _ ?_; clear hKK KK; simp only [thenA, blockA, reduceIte]) | skip)
        | (refine AWP.draw' mixd (by rfl) (by kernel_rfl) (fun KK tab hKK htab => ?_); (repeat (simp (disch := omega) [])); first | (refine dEnd_ro ?_ (hKK _ _ _ ?_); (focus (simp; done)); clear htab tab hKK KK; simp only [thenA, blockA, reduceIte]) | (refine dEnd_of ?_ (hKK _ _ _ ?_); (focus (simp only [List.reverse_cons, List.reverse_nil, List.nil_append, List.cons_append, memA, mem1, and_true, true_and]; (repeat' apply And.intro); (all_goals (first | trivial | (refine .inr ⟨?_, ?_⟩ <;> (simp; done)) | (refine .inr ⟨?_, ?_⟩ <;> (simp <;> omega)) | (refine .inl ?_; rw [htab]; kernel_rfl))); done)); clear htab tab hKK KK; simp only [thenA, blockA, reduceIte]) | skip)
        | (refine AWP.if_t ?_ ?_; focus (simp (disch := omega) []; done))
        | (refine AWP.if_f ?_ ?_; focus (simp (disch := omega) []; done)))
      refine ⟨by simp, _, rfl, fin0 ⟨?_, rfl⟩ (by simp [resO, get, nms, nmss]; try (simp [nms, nmss] at hn; simp_all))⟩
      simp [resO, get, ren, rens, rho, hK0]
    | true =>
      have h12 : (12 : Int) < L.length := by
        rcases Int.lt_or_le 12 (L.length : Int) with h | h
        · exact h
        · exact absurd ⟨hok, by omega⟩ hc
      refine aStop_of (validEnumS_c _ _ _ ds (hx'.vw ((Vw.refl _).over (by repeat (first | exact Over.refl _ | exact hov | refine Over.upd ?_ hB (by omega) | refine Over.del ?_ hB (by omega))))) (by omega) hsz) ?_
      rintro r δ ⟨rfl, rfl⟩
      (repeat (simp (disch := omega) [hok, h12]))
      first | (refine hKK _ _ _ ?_; clear hKK KK; simp only [thenA, blockA, reduceIte]) | skip
      repeat' (first
        | refine AWP.seq ?_
        | refine AWP.block ?_
        | (refine AWP.skip ?_; simp only [thenA, blockA, reduceIte])
        | (refine AWP.exit ?_; simp only [thenA, blockA, eq_self, reduceIte, Nat.reduceEqDiff, Nat.succ_ne_zero])
        | (refine AWP.ret ?_; simp only [thenA, blockA, reduceIte])
        | (refine AWP.region (by rfl) (fun KK hKK => ?_); (repeat (simp (disch := omega) [h12])); first | (refine hKK _ _ _ ?_; clear hKK KK; simp only [thenA, blockA, reduceIte]) | skip)
        | (refine AWP.draw' mixd (by rfl) (by kernel_rfl) (fun KK tab hKK htab => ?_); (repeat (simp (disch := omega) [h12])); first | (refine dEnd_ro ?_ (hKK _ _ _ ?_); (focus (simp; done)); clear htab tab hKK KK; simp only [thenA, blockA, reduceIte]) | (refine dEnd_of ?_ (hKK _ _ _ ?_); (focus (simp only [List.reverse_cons, List.reverse_nil, List.nil_append, List.cons_append, memA, mem1, and_true, true_and]; (repeat' apply And.intro); (all_goals (first | trivial | (refine .inr ⟨?_, ?_⟩ <;> (simp; done)) | (refine .inr ⟨?_, ?_⟩ <;> (simp <;> omega)) | (refine .inl ?_; rw [htab]; kernel_rfl))); done)); clear htab tab hKK KK; simp only [thenA, blockA, reduceIte]) | skip)
        | (refine AWP.if_t ?_ ?_; focus (simp (disch := omega) [h12]; done))
        | (refine AWP.if_f ?_ ?_; focus (simp (disch := omega) [h12]; done)))
      refine ⟨by simp, _, rfl, fin0 ⟨?_, rfl⟩ (by simp [resO, get, nms, nmss]; try (simp [nms, nmss] at hn; simp_all))⟩
      simp [resO, get, ren, rens, rho, hK0]
  have hcc : okDs (-1000) 1000 ds = true ∧ L.length ≤ 12 := Classical.not_not.1 hc
  obtain ⟨hok, h12⟩ := hcc
  refine AC.intro [] ent_49 Try.func49 rfl (by simp [Try.f49]) (by simp) ?_
  intro K s hs hB hn hν hA hFr
  simp only [argT, Nat.zero_add, Nat.reduceAdd]
  have hx' := hx.vw hs.vw
  have hy' := hy.vw hs.vw
  have hbK : b < K := hA b (by simp [nmAs, nmA])
  have hbK2 : b2 < K := hA b2 (by simp [nmAs, nmA])
  have h12i : ¬ (12 : Int) < L.length := by omega
  have hml := memF_len ds
  have hol := okDs_len hok
  have hbig : 8 * (memF ds).length ≤ 140737488355328 := by omega
  have hbig2 : (memF ds).length ≤ 4611686018427387904 := by omega
  have hbig3 : (memF ds).length ≤ 140737488355328 := by omega
  repeat' (first
    | refine AWP.seq ?_
    | refine AWP.block ?_
    | (refine AWP.skip ?_; simp only [thenA, blockA, reduceIte])
    | (refine AWP.exit ?_; simp only [thenA, blockA, eq_self, reduceIte, Nat.reduceEqDiff, Nat.succ_ne_zero])
    | (refine AWP.ret ?_; simp only [thenA, blockA, reduceIte])
    | (refine AWP.region (by rfl) (fun KK hKK => ?_); (repeat (simp (disch := omega) [])); first | (refine hKK _ _ _ ?_; clear hKK KK; simp only [thenA, blockA, reduceIte]) | skip)
    | (refine AWP.draw' mixd (by rfl) (by kernel_rfl) (fun KK tab hKK htab => ?_); (repeat (simp (disch := omega) [])); first | (refine dEnd_ro ?_ (hKK _ _ _ ?_); (focus (simp; done)); clear htab tab hKK KK; simp only [thenA, blockA, reduceIte]) | (refine dEnd_of ?_ (hKK _ _ _ ?_); (focus (simp only [List.reverse_cons, List.reverse_nil, List.nil_append, List.cons_append, memA, mem1, and_true, true_and]; (repeat' apply And.intro); (all_goals (first | trivial | (refine .inr ⟨?_, ?_⟩ <;> (simp; done)) | (refine .inr ⟨?_, ?_⟩ <;> (simp <;> omega)) | (refine .inl ?_; rw [htab]; kernel_rfl))); done)); clear htab tab hKK KK; simp only [thenA, blockA, reduceIte]) | skip)
    | (refine AWP.if_t ?_ ?_; focus (simp (disch := omega) []; done))
    | (refine AWP.if_f ?_ ?_; focus (simp (disch := omega) []; done)))
  refine aStop_of (validEnumS_c _ _ _ ds (hx'.vw ((Vw.refl _).over (by repeat (first | exact Over.refl _ | exact hov | refine Over.upd ?_ hB (by omega) | refine Over.del ?_ hB (by omega))))) (by omega) hsz) ?_
  rintro r δ ⟨rfl, rfl⟩
  (repeat (simp (disch := omega) [hok, h12i]))
  first | (refine hKK _ _ _ ?_; clear hKK KK; simp only [thenA, blockA, reduceIte]) | skip
  repeat' (first
    | refine AWP.seq ?_
    | refine AWP.block ?_
    | (refine AWP.skip ?_; simp only [thenA, blockA, reduceIte])
    | (refine AWP.exit ?_; simp only [thenA, blockA, eq_self, reduceIte, Nat.reduceEqDiff, Nat.succ_ne_zero])
    | (refine AWP.ret ?_; simp only [thenA, blockA, reduceIte])
    | (refine AWP.region (by rfl) (fun KK hKK => ?_); (repeat (simp (disch := omega) [h12i])); first | (refine hKK _ _ _ ?_; clear hKK KK; simp only [thenA, blockA, reduceIte]) | skip)
    | (refine AWP.draw' mixd (by rfl) (by kernel_rfl) (fun KK tab hKK htab => ?_); (repeat (simp (disch := omega) [h12i])); first | (refine dEnd_ro ?_ (hKK _ _ _ ?_); (focus (simp; done)); clear htab tab hKK KK; simp only [thenA, blockA, reduceIte]) | (refine dEnd_of ?_ (hKK _ _ _ ?_); (focus (simp only [List.reverse_cons, List.reverse_nil, List.nil_append, List.cons_append, memA, mem1, and_true, true_and]; (repeat' apply And.intro); (all_goals (first | trivial | (refine .inr ⟨?_, ?_⟩ <;> (simp; done)) | (refine .inr ⟨?_, ?_⟩ <;> (simp <;> omega)) | (refine .inl ?_; rw [htab]; kernel_rfl))); done)); clear htab tab hKK KK; simp only [thenA, blockA, reduceIte]) | skip)
    | (refine AWP.if_t ?_ ?_; focus (simp (disch := omega) [h12i]; done))
    | (refine AWP.if_f ?_ ?_; focus (simp (disch := omega) [h12i]; done)))
  refine aStop_of (membersS_c _ _ _ ds (hx'.vw ((Vw.refl _).over (by repeat (first | exact Over.refl _ | exact hov | refine Over.upd ?_ hB (by omega) | refine Over.del ?_ hB (by omega))))) hlen) ?_
  rintro r δ ⟨rfl, rfl⟩
  (repeat (simp (disch := omega) []))
  first | (refine hKK _ _ _ ?_; clear hKK KK; simp only [thenA, blockA, reduceIte]) | skip
  repeat' (first
    | refine AWP.seq ?_
    | refine AWP.block ?_
    | (refine AWP.skip ?_; simp only [thenA, blockA, reduceIte])
    | (refine AWP.exit ?_; simp only [thenA, blockA, eq_self, reduceIte, Nat.reduceEqDiff, Nat.succ_ne_zero])
    | (refine AWP.ret ?_; simp only [thenA, blockA, reduceIte])
    | (refine AWP.region (by rfl) (fun KK hKK => ?_); (repeat (simp (disch := omega) [hbig, hbig2, hbig3])); first | (refine hKK _ _ _ ?_; clear hKK KK; simp only [thenA, blockA, reduceIte]) | skip)
    | (refine AWP.draw' mixd (by rfl) (by kernel_rfl) (fun KK tab hKK htab => ?_); (repeat (simp (disch := omega) [hbig, hbig2, hbig3])); first | (refine dEnd_ro ?_ (hKK _ _ _ ?_); (focus (simp; done)); clear htab tab hKK KK; simp only [thenA, blockA, reduceIte]) | (refine dEnd_of ?_ (hKK _ _ _ ?_); (focus (simp only [List.reverse_cons, List.reverse_nil, List.nil_append, List.cons_append, memA, mem1, and_true, true_and]; (repeat' apply And.intro); (all_goals (first | trivial | (refine .inr ⟨?_, ?_⟩ <;> (simp; done)) | (refine .inr ⟨?_, ?_⟩ <;> (simp <;> omega)) | (refine .inl ?_; rw [htab]; kernel_rfl))); done)); clear htab tab hKK KK; simp only [thenA, blockA, reduceIte]) | skip)
    | (refine AWP.if_t ?_ ?_; focus (simp (disch := omega) [hbig, hbig2, hbig3]; done))
    | (refine AWP.if_f ?_ ?_; focus (simp (disch := omega) [hbig, hbig2, hbig3]; done)))
  have er1 : (⟨3, 1, List.replicate (memF ds).length [.v (.int .i64 0)], true⟩ : Blk) = blkI (slI (List.replicate (memF ds).length none)) := by rw [← slI_rep]
  have er2 : (⟨4, 1, List.replicate (memF ds).length [.v (.bool false)], true⟩ : Blk) = ⟨4, 1, rowsBo (slB (List.replicate (memF ds).length none)), true⟩ := by rw [← slB_rep]
  refine AWP.loop (fun n τ σ' M => ∃ (k : Nat) (sl : Slots), k ≤ L.length ∧ n = L.length - k ∧ tbF ds (L.take k) = some sl ∧ τ = [(1, .sl b2 o2 L.length cap2 z2), (2, .ptr K 0 0), (6, .sl (K + 1 + 2) 0 (memF ds).length none 2), (7, .sl (K + 1 + 2 + 2) 0 (memF ds).length (some (memF ds).length) 1), (8, .sl (K + 1 + 2 + 2 + 1) 0 (memF ds).length (some (memF ds).length) 1), (9, .v (.int .i64 k))] ∧ σ' K = some (blkE (.sl b o ds.length cap z)) ∧ σ' (K + 1 + 2) = some (blkD (memF ds)) ∧ σ' (K + 1 + 2 + 2) = some (blkI (slI sl)) ∧ σ' (K + 1 + 2 + 2 + 1) = some ⟨4, 1, rowsBo (slB sl), true⟩ ∧ K + 1 + 2 + 2 + 1 < M ∧ Over s σ')
    ⟨_, _, _, _, ⟨0, List.replicate (memF ds).length none, by omega, rfl, rfl, rfl, by simp (disch := omega) only [upd_eq, upd_ne], by simp (disch := omega) only [upd_eq, upd_ne], by simp (disch := omega) only [upd_eq, upd_ne, er1], by simp (disch := omega) only [upd_eq, upd_ne, er2], by omega, (by repeat (first | exact Over.refl _ | exact hov | refine Over.upd ?_ hB (by omega) | refine Over.del ?_ hB (by omega)))⟩, Weak.tau (by simp [LQ])⟩ ?_
  rintro n τ σ1 M ⟨k, sl, hk, rfl, htb, rfl, hb0, hbm, hb1, hb2, hM, hov⟩
  obtain ⟨hsl, _, _⟩ := tbF_inv _ _ htb
  by_cases hlt : k < L.length
  · obtain ⟨_, rfl, kb, hkb, hat⟩ := hy'.at (i := k) (by rw [rowsD_len]; exact hlt)
    have hrow : (rowsD L)[k]'(by rw [rowsD_len]; exact hlt) = [.v (.string L[k].1), .v (.int .i64 L[k].2)] := by simp [rowsD, rowD]
    rw [hrow] at hat
    have hkb' := hov _ _ hkb
    have hnx := tbF_take (ds := ds) hlt
    rw [htb] at hnx
    simp only [Option.bind_some, tbP] at hnx
    by_cases hni : nameIx ds L[k].1 < 0
    · have hr : rkO ds L[k].1 = -1 := by simp only [rkO, valO_no (t := L[k].1) (ds := ds) (fun h => by omega)]
      have ho : tbO ds L = none := tbO_none (k := k + 1) (by rw [hnx, if_neg (by omega)])
      rw [ho, iOut_none, dOutI_none]
      have hK0 : ¬ 0 = K := by omega
      repeat' (first
        | refine AWP.seq ?_
        | refine AWP.block ?_
        | (refine AWP.skip ?_; simp only [thenA, blockA, reduceIte])
        | (refine AWP.exit ?_; simp only [thenA, blockA, eq_self, reduceIte, Nat.reduceEqDiff, Nat.succ_ne_zero])
        | (refine AWP.ret ?_; simp only [thenA, blockA, reduceIte])
        | (refine AWP.region (by rfl) (fun KK hKK => ?_); (repeat (simp (disch := omega) [hlt, hb0, hkb', hat])); first | (refine hKK _ _ _ ?_; clear hKK KK; simp only [thenA, blockA, reduceIte]) | skip)
        | (refine AWP.draw' mixd (by rfl) (by kernel_rfl) (fun KK tab hKK htab => ?_); (repeat (simp (disch := omega) [hlt, hb0, hkb', hat])); first | (refine dEnd_ro ?_ (hKK _ _ _ ?_); (focus (simp; done)); clear htab tab hKK KK; simp only [thenA, blockA, reduceIte]) | (refine dEnd_of ?_ (hKK _ _ _ ?_); (focus (simp only [List.reverse_cons, List.reverse_nil, List.nil_append, List.cons_append, memA, mem1, and_true, true_and]; (repeat' apply And.intro); (all_goals (first | trivial | (refine .inr ⟨?_, ?_⟩ <;> (simp; done)) | (refine .inr ⟨?_, ?_⟩ <;> (simp <;> omega)) | (refine .inl ?_; rw [htab]; kernel_rfl))); done)); clear htab tab hKK KK; simp only [thenA, blockA, reduceIte]) | skip)
        | (refine AWP.if_t ?_ ?_; focus (simp (disch := omega) [hlt, hb0, hkb', hat]; done))
        | (refine AWP.if_f ?_ ?_; focus (simp (disch := omega) [hlt, hb0, hkb', hat]; done)))
      refine dStop_roA (fun σ' hσ' => indexOf_c σ' _ _ ds _ ((hx'.vw ((Vw.refl _).over (by repeat (first | exact Over.refl _ | exact hov | refine Over.upd ?_ hB (by omega) | refine Over.del ?_ hB (by omega))))).on (hσ' _ (by simp))) (by omega)) ?_
      (repeat (simp (disch := omega) [hni]))
      first | (refine dEnd_ro ?_ (hKK _ _ _ ?_); (focus (simp; done)); clear htab tab hKK KK; simp only [thenA, blockA, reduceIte]) | (refine dEnd_of ?_ (hKK _ _ _ ?_); (focus (simp only [List.reverse_cons, List.reverse_nil, List.nil_append, List.cons_append, memA, mem1, and_true, true_and]; (repeat' apply And.intro); (all_goals (first | trivial | (refine .inr ⟨?_, ?_⟩ <;> (simp; done)) | (refine .inr ⟨?_, ?_⟩ <;> (simp <;> omega)) | (refine .inl ?_; rw [htab]; kernel_rfl))); done)); clear htab tab hKK KK; simp only [thenA, blockA, reduceIte]) | skip
      repeat' (first
        | refine AWP.seq ?_
        | refine AWP.block ?_
        | (refine AWP.skip ?_; simp only [thenA, blockA, reduceIte])
        | (refine AWP.exit ?_; simp only [thenA, blockA, eq_self, reduceIte, Nat.reduceEqDiff, Nat.succ_ne_zero])
        | (refine AWP.ret ?_; simp only [thenA, blockA, reduceIte])
        | (refine AWP.region (by rfl) (fun KK hKK => ?_); (repeat (simp (disch := omega) [hni])); first | (refine hKK _ _ _ ?_; clear hKK KK; simp only [thenA, blockA, reduceIte]) | skip)
        | (refine AWP.draw' mixd (by rfl) (by kernel_rfl) (fun KK tab hKK htab => ?_); (repeat (simp (disch := omega) [hni])); first | (refine dEnd_ro ?_ (hKK _ _ _ ?_); (focus (simp; done)); clear htab tab hKK KK; simp only [thenA, blockA, reduceIte]) | (refine dEnd_of ?_ (hKK _ _ _ ?_); (focus (simp only [List.reverse_cons, List.reverse_nil, List.nil_append, List.cons_append, memA, mem1, and_true, true_and]; (repeat' apply And.intro); (all_goals (first | trivial | (refine .inr ⟨?_, ?_⟩ <;> (simp; done)) | (refine .inr ⟨?_, ?_⟩ <;> (simp <;> omega)) | (refine .inl ?_; rw [htab]; kernel_rfl))); done)); clear htab tab hKK KK; simp only [thenA, blockA, reduceIte]) | skip)
        | (refine AWP.if_t ?_ ?_; focus (simp (disch := omega) [hni]; done))
        | (refine AWP.if_f ?_ ?_; focus (simp (disch := omega) [hni]; done)))
      refine ⟨by simp, _, rfl, fin0 ⟨?_, rfl⟩ (by simp [resO, get, nms, nmss]; try (simp [nms, nmss] at hn; simp_all))⟩
      simp [resO, get, ren, rens, rho, hK0]
    rcases nameIx_cases ds L[k].1 with hnn | ⟨j, hj, hnj, hje⟩
    · omega
    have hvj : valO ds L[k].1 = some ds[j].2 := valO_yes hok hj hnj
    have hrk : rkO ds L[k].1 = valueIx (memF ds) ds[j].2 := by simp only [rkO, hvj]
    obtain ⟨r, hrl, hrr, _, _⟩ := rk_some hvj
    have hvx : valueIx (memF ds) ds[j].2 = r := by omega
    obtain ⟨_, rfl, kb2, hkb2, hat2⟩ := hx'.at (i := j) (by rw [rowsD_len]; exact hj)
    have hrow2 : (rowsD ds)[j]'(by rw [rowsD_len]; exact hj) = [.v (.string ds[j].1), .v (.int .i64 ds[j].2)] := by simp [rowsD, rowD]
    rw [hrow2] at hat2
    have hkb2' := hov _ _ hkb2
    have hj0 : ¬ ((j : Int) < 0) := by omega
    have hrt : (rkO ds L[k].1).toNat = r := by omega
    rw [hrt] at hnx
    have hil : r < sl.length := by omega
    have hbo := slB_at hil
    have hii := slI_at hil
    have hse := List.getElem?_eq_getElem hil
    cases hs0 : sl[r] with
    | some w =>
      have ho : tbO ds L = none := tbO_none (k := k + 1) (by rw [hnx, if_neg (by rw [hse, hs0]; simp)])
      rw [hs0, Option.isSome_some] at hbo
      rw [ho, iOut_none, dOutI_none]
      have hK0 : ¬ 0 = K := by omega
      repeat' (first
        | refine AWP.seq ?_
        | refine AWP.block ?_
        | (refine AWP.skip ?_; simp only [thenA, blockA, reduceIte])
        | (refine AWP.exit ?_; simp only [thenA, blockA, eq_self, reduceIte, Nat.reduceEqDiff, Nat.succ_ne_zero])
        | (refine AWP.ret ?_; simp only [thenA, blockA, reduceIte])
        | (refine AWP.region (by rfl) (fun KK hKK => ?_); (repeat (simp (disch := omega) [hlt, hb0, hkb', hat])); first | (refine hKK _ _ _ ?_; clear hKK KK; simp only [thenA, blockA, reduceIte]) | skip)
        | (refine AWP.draw' mixd (by rfl) (by kernel_rfl) (fun KK tab hKK htab => ?_); (repeat (simp (disch := omega) [hlt, hb0, hkb', hat])); first | (refine dEnd_ro ?_ (hKK _ _ _ ?_); (focus (simp; done)); clear htab tab hKK KK; simp only [thenA, blockA, reduceIte]) | (refine dEnd_of ?_ (hKK _ _ _ ?_); (focus (simp only [List.reverse_cons, List.reverse_nil, List.nil_append, List.cons_append, memA, mem1, and_true, true_and]; (repeat' apply And.intro); (all_goals (first | trivial | (refine .inr ⟨?_, ?_⟩ <;> (simp; done)) | (refine .inr ⟨?_, ?_⟩ <;> (simp <;> omega)) | (refine .inl ?_; rw [htab]; kernel_rfl))); done)); clear htab tab hKK KK; simp only [thenA, blockA, reduceIte]) | skip)
        | (refine AWP.if_t ?_ ?_; focus (simp (disch := omega) [hlt, hb0, hkb', hat]; done))
        | (refine AWP.if_f ?_ ?_; focus (simp (disch := omega) [hlt, hb0, hkb', hat]; done)))
      refine dStop_roA (fun σ' hσ' => indexOf_c σ' _ _ ds _ ((hx'.vw ((Vw.refl _).over (by repeat (first | exact Over.refl _ | exact hov | refine Over.upd ?_ hB (by omega) | refine Over.del ?_ hB (by omega))))).on (hσ' _ (by simp))) (by omega)) ?_
      (repeat (simp (disch := omega) [hnj, hj0, hj]))
      first | (refine dEnd_ro ?_ (hKK _ _ _ ?_); (focus (simp; done)); clear htab tab hKK KK; simp only [thenA, blockA, reduceIte]) | (refine dEnd_of ?_ (hKK _ _ _ ?_); (focus (simp only [List.reverse_cons, List.reverse_nil, List.nil_append, List.cons_append, memA, mem1, and_true, true_and]; (repeat' apply And.intro); (all_goals (first | trivial | (refine .inr ⟨?_, ?_⟩ <;> (simp; done)) | (refine .inr ⟨?_, ?_⟩ <;> (simp <;> omega)) | (refine .inl ?_; rw [htab]; kernel_rfl))); done)); clear htab tab hKK KK; simp only [thenA, blockA, reduceIte]) | skip
      repeat' (first
        | refine AWP.seq ?_
        | refine AWP.block ?_
        | (refine AWP.skip ?_; simp only [thenA, blockA, reduceIte])
        | (refine AWP.exit ?_; simp only [thenA, blockA, eq_self, reduceIte, Nat.reduceEqDiff, Nat.succ_ne_zero])
        | (refine AWP.ret ?_; simp only [thenA, blockA, reduceIte])
        | (refine AWP.region (by rfl) (fun KK hKK => ?_); (repeat (simp (disch := omega) [hnj, hj0, hj, hb0, hkb2', hat2])); first | (refine hKK _ _ _ ?_; clear hKK KK; simp only [thenA, blockA, reduceIte]) | skip)
        | (refine AWP.draw' mixd (by rfl) (by kernel_rfl) (fun KK tab hKK htab => ?_); (repeat (simp (disch := omega) [hnj, hj0, hj, hb0, hkb2', hat2])); first | (refine dEnd_ro ?_ (hKK _ _ _ ?_); (focus (simp; done)); clear htab tab hKK KK; simp only [thenA, blockA, reduceIte]) | (refine dEnd_of ?_ (hKK _ _ _ ?_); (focus (simp only [List.reverse_cons, List.reverse_nil, List.nil_append, List.cons_append, memA, mem1, and_true, true_and]; (repeat' apply And.intro); (all_goals (first | trivial | (refine .inr ⟨?_, ?_⟩ <;> (simp; done)) | (refine .inr ⟨?_, ?_⟩ <;> (simp <;> omega)) | (refine .inl ?_; rw [htab]; kernel_rfl))); done)); clear htab tab hKK KK; simp only [thenA, blockA, reduceIte]) | skip)
        | (refine AWP.if_t ?_ ?_; focus (simp (disch := omega) [hnj, hj0, hj, hb0, hkb2', hat2]; done))
        | (refine AWP.if_f ?_ ?_; focus (simp (disch := omega) [hnj, hj0, hj, hb0, hkb2', hat2]; done)))
      refine aStop_of (valueAt_c _ _ _ (memF ds) _ (Sl.whole (t := 61) (r := true) (by simp (disch := omega) only [upd_eq, upd_ne, del_ne, hbm]) (by simp [rowsD_len])) (by omega)) ?_
      rintro r δ ⟨rfl, rfl⟩
      (repeat (simp (disch := omega) [hvx]))
      first | (refine hKK _ _ _ ?_; clear hKK KK; simp only [thenA, blockA, reduceIte]) | skip
      repeat' (first
        | refine AWP.seq ?_
        | refine AWP.block ?_
        | (refine AWP.skip ?_; simp only [thenA, blockA, reduceIte])
        | (refine AWP.exit ?_; simp only [thenA, blockA, eq_self, reduceIte, Nat.reduceEqDiff, Nat.succ_ne_zero])
        | (refine AWP.ret ?_; simp only [thenA, blockA, reduceIte])
        | (refine AWP.region (by rfl) (fun KK hKK => ?_); (repeat (simp (disch := omega) [hvx, hrl, hb2, hbo])); first | (refine hKK _ _ _ ?_; clear hKK KK; simp only [thenA, blockA, reduceIte]) | skip)
        | (refine AWP.draw' mixd (by rfl) (by kernel_rfl) (fun KK tab hKK htab => ?_); (repeat (simp (disch := omega) [hvx, hrl, hb2, hbo])); first | (refine dEnd_ro ?_ (hKK _ _ _ ?_); (focus (simp; done)); clear htab tab hKK KK; simp only [thenA, blockA, reduceIte]) | (refine dEnd_of ?_ (hKK _ _ _ ?_); (focus (simp only [List.reverse_cons, List.reverse_nil, List.nil_append, List.cons_append, memA, mem1, and_true, true_and]; (repeat' apply And.intro); (all_goals (first | trivial | (refine .inr ⟨?_, ?_⟩ <;> (simp; done)) | (refine .inr ⟨?_, ?_⟩ <;> (simp <;> omega)) | (refine .inl ?_; rw [htab]; kernel_rfl))); done)); clear htab tab hKK KK; simp only [thenA, blockA, reduceIte]) | skip)
        | (refine AWP.if_t ?_ ?_; focus (simp (disch := omega) [hvx, hrl, hb2, hbo]; done))
        | (refine AWP.if_f ?_ ?_; focus (simp (disch := omega) [hvx, hrl, hb2, hbo]; done)))
      refine ⟨by simp, _, rfl, fin0 ⟨?_, rfl⟩ (by simp [resO, get, nms, nmss]; try (simp [nms, nmss] at hn; simp_all))⟩
      simp [resO, get, ren, rens, rho, hK0]
    | none =>
      rw [hs0, Option.isSome_none] at hbo
      rw [hs0, Option.getD_none] at hii
      rw [if_pos ⟨by omega, by rw [hse, hs0]⟩] at hnx
      have hs1 := slI_set sl r L[k].2
      have hs2 := slB_set sl r L[k].2
      repeat' (first
        | refine AWP.seq ?_
        | refine AWP.block ?_
        | (refine AWP.skip ?_; simp only [thenA, blockA, reduceIte])
        | (refine AWP.exit ?_; simp only [thenA, blockA, eq_self, reduceIte, Nat.reduceEqDiff, Nat.succ_ne_zero])
        | (refine AWP.ret ?_; simp only [thenA, blockA, reduceIte])
        | (refine AWP.region (by rfl) (fun KK hKK => ?_); (repeat (simp (disch := omega) [hlt, hb0, hkb', hat])); first | (refine hKK _ _ _ ?_; clear hKK KK; simp only [thenA, blockA, reduceIte]) | skip)
        | (refine AWP.draw' mixd (by rfl) (by kernel_rfl) (fun KK tab hKK htab => ?_); (repeat (simp (disch := omega) [hlt, hb0, hkb', hat])); first | (refine dEnd_ro ?_ (hKK _ _ _ ?_); (focus (simp; done)); clear htab tab hKK KK; simp only [thenA, blockA, reduceIte]) | (refine dEnd_of ?_ (hKK _ _ _ ?_); (focus (simp only [List.reverse_cons, List.reverse_nil, List.nil_append, List.cons_append, memA, mem1, and_true, true_and]; (repeat' apply And.intro); (all_goals (first | trivial | (refine .inr ⟨?_, ?_⟩ <;> (simp; done)) | (refine .inr ⟨?_, ?_⟩ <;> (simp <;> omega)) | (refine .inl ?_; rw [htab]; kernel_rfl))); done)); clear htab tab hKK KK; simp only [thenA, blockA, reduceIte]) | skip)
        | (refine AWP.if_t ?_ ?_; focus (simp (disch := omega) [hlt, hb0, hkb', hat]; done))
        | (refine AWP.if_f ?_ ?_; focus (simp (disch := omega) [hlt, hb0, hkb', hat]; done)))
      refine dStop_roA (fun σ' hσ' => indexOf_c σ' _ _ ds _ ((hx'.vw ((Vw.refl _).over (by repeat (first | exact Over.refl _ | exact hov | refine Over.upd ?_ hB (by omega) | refine Over.del ?_ hB (by omega))))).on (hσ' _ (by simp))) (by omega)) ?_
      (repeat (simp (disch := omega) [hnj, hj0, hj]))
      first | (refine dEnd_ro ?_ (hKK _ _ _ ?_); (focus (simp; done)); clear htab tab hKK KK; simp only [thenA, blockA, reduceIte]) | (refine dEnd_of ?_ (hKK _ _ _ ?_); (focus (simp only [List.reverse_cons, List.reverse_nil, List.nil_append, List.cons_append, memA, mem1, and_true, true_and]; (repeat' apply And.intro); (all_goals (first | trivial | (refine .inr ⟨?_, ?_⟩ <;> (simp; done)) | (refine .inr ⟨?_, ?_⟩ <;> (simp <;> omega)) | (refine .inl ?_; rw [htab]; kernel_rfl))); done)); clear htab tab hKK KK; simp only [thenA, blockA, reduceIte]) | skip
      repeat' (first
        | refine AWP.seq ?_
        | refine AWP.block ?_
        | (refine AWP.skip ?_; simp only [thenA, blockA, reduceIte])
        | (refine AWP.exit ?_; simp only [thenA, blockA, eq_self, reduceIte, Nat.reduceEqDiff, Nat.succ_ne_zero])
        | (refine AWP.ret ?_; simp only [thenA, blockA, reduceIte])
        | (refine AWP.region (by rfl) (fun KK hKK => ?_); (repeat (simp (disch := omega) [hnj, hj0, hj, hb0, hkb2', hat2])); first | (refine hKK _ _ _ ?_; clear hKK KK; simp only [thenA, blockA, reduceIte]) | skip)
        | (refine AWP.draw' mixd (by rfl) (by kernel_rfl) (fun KK tab hKK htab => ?_); (repeat (simp (disch := omega) [hnj, hj0, hj, hb0, hkb2', hat2])); first | (refine dEnd_ro ?_ (hKK _ _ _ ?_); (focus (simp; done)); clear htab tab hKK KK; simp only [thenA, blockA, reduceIte]) | (refine dEnd_of ?_ (hKK _ _ _ ?_); (focus (simp only [List.reverse_cons, List.reverse_nil, List.nil_append, List.cons_append, memA, mem1, and_true, true_and]; (repeat' apply And.intro); (all_goals (first | trivial | (refine .inr ⟨?_, ?_⟩ <;> (simp; done)) | (refine .inr ⟨?_, ?_⟩ <;> (simp <;> omega)) | (refine .inl ?_; rw [htab]; kernel_rfl))); done)); clear htab tab hKK KK; simp only [thenA, blockA, reduceIte]) | skip)
        | (refine AWP.if_t ?_ ?_; focus (simp (disch := omega) [hnj, hj0, hj, hb0, hkb2', hat2]; done))
        | (refine AWP.if_f ?_ ?_; focus (simp (disch := omega) [hnj, hj0, hj, hb0, hkb2', hat2]; done)))
      refine aStop_of (valueAt_c _ _ _ (memF ds) _ (Sl.whole (t := 61) (r := true) (by simp (disch := omega) only [upd_eq, upd_ne, del_ne, hbm]) (by simp [rowsD_len])) (by omega)) ?_
      rintro r δ ⟨rfl, rfl⟩
      (repeat (simp (disch := omega) [hvx]))
      first | (refine hKK _ _ _ ?_; clear hKK KK; simp only [thenA, blockA, reduceIte]) | skip
      repeat' (first
        | refine AWP.seq ?_
        | refine AWP.block ?_
        | (refine AWP.skip ?_; simp only [thenA, blockA, reduceIte])
        | (refine AWP.exit ?_; simp only [thenA, blockA, eq_self, reduceIte, Nat.reduceEqDiff, Nat.succ_ne_zero])
        | (refine AWP.ret ?_; simp only [thenA, blockA, reduceIte])
        | (refine AWP.region (by rfl) (fun KK hKK => ?_); (repeat (simp (disch := omega) [hvx, hrl, hb1, hb2, hbo, hii, hs1, hs2, hlt, hkb', hat])); first | (refine hKK _ _ _ ?_; clear hKK KK; simp only [thenA, blockA, reduceIte]) | skip)
        | (refine AWP.draw' mixd (by rfl) (by kernel_rfl) (fun KK tab hKK htab => ?_); (repeat (simp (disch := omega) [hvx, hrl, hb1, hb2, hbo, hii, hs1, hs2, hlt, hkb', hat])); first | (refine dEnd_ro ?_ (hKK _ _ _ ?_); (focus (simp; done)); clear htab tab hKK KK; simp only [thenA, blockA, reduceIte]) | (refine dEnd_of ?_ (hKK _ _ _ ?_); (focus (simp only [List.reverse_cons, List.reverse_nil, List.nil_append, List.cons_append, memA, mem1, and_true, true_and]; (repeat' apply And.intro); (all_goals (first | trivial | (refine .inr ⟨?_, ?_⟩ <;> (simp; done)) | (refine .inr ⟨?_, ?_⟩ <;> (simp <;> omega)) | (refine .inl ?_; rw [htab]; kernel_rfl))); done)); clear htab tab hKK KK; simp only [thenA, blockA, reduceIte]) | skip)
        | (refine AWP.if_t ?_ ?_; focus (simp (disch := omega) [hvx, hrl, hb1, hb2, hbo, hii, hs1, hs2, hlt, hkb', hat]; done))
        | (refine AWP.if_f ?_ ?_; focus (simp (disch := omega) [hvx, hrl, hb1, hb2, hbo, hii, hs1, hs2, hlt, hkb', hat]; done)))
      refine ⟨_, _, _, _, ?_, ⟨k + 1, sl.set r (some L[k].2), by omega, rfl, hnx, rfl, by simp (disch := omega) only [upd_eq, upd_ne, hb0], by simp (disch := omega) only [upd_eq, upd_ne, hbm], by simp (disch := omega) only [upd_eq, upd_ne], by simp (disch := omega) only [upd_eq, upd_ne], by omega, (by repeat (first | exact Over.refl _ | exact hov | refine Over.upd ?_ hB (by omega) | refine Over.del ?_ hB (by omega)))⟩, Weak.tau (by simp [LQ])⟩
      omega
  · have hk' : k = L.length := by omega
    subst hk'
    rw [List.take_length] at htb
    have hsl2 := slI_len sl
    have hsl3 : (slI sl).length = (memF ds).length := by omega
    have hso := slots_ok hok htb
    by_cases hli : (L.length : Int) = (memF ds).length
    · by_cases hin : ∀ d ∈ L, inT d.2 = true
      · have ho := tbO_yes hok h12 (by omega) hin htb
        rw [decide_eq_true hin] at hso
        repeat' (first
          | refine AWP.seq ?_
          | refine AWP.block ?_
          | (refine AWP.skip ?_; simp only [thenA, blockA, reduceIte])
          | (refine AWP.exit ?_; simp only [thenA, blockA, eq_self, reduceIte, Nat.reduceEqDiff, Nat.succ_ne_zero])
          | (refine AWP.ret ?_; simp only [thenA, blockA, reduceIte])
          | (refine AWP.region (by rfl) (fun KK hKK => ?_); (repeat (simp (disch := omega) [hlt, hli, hb0])); first | (refine hKK _ _ _ ?_; clear hKK KK; simp only [thenA, blockA, reduceIte]) | skip)
          | (refine AWP.draw' mixd (by rfl) (by kernel_rfl) (fun KK tab hKK htab => ?_); (repeat (simp (disch := omega) [hlt, hli, hb0])); first | (refine dEnd_ro ?_ (hKK _ _ _ ?_); (focus (simp; done)); clear htab tab hKK KK; simp only [thenA, blockA, reduceIte]) | (refine dEnd_of ?_ (hKK _ _ _ ?_); (focus (simp only [List.reverse_cons, List.reverse_nil, List.nil_append, List.cons_append, memA, mem1, and_true, true_and]; (repeat' apply And.intro); (all_goals (first | trivial | (refine .inr ⟨?_, ?_⟩ <;> (simp; done)) | (refine .inr ⟨?_, ?_⟩ <;> (simp <;> omega)) | (refine .inl ?_; rw [htab]; kernel_rfl))); done)); clear htab tab hKK KK; simp only [thenA, blockA, reduceIte]) | skip)
          | (refine AWP.if_t ?_ ?_; focus (simp (disch := omega) [hlt, hli, hb0]; done))
          | (refine AWP.if_f ?_ ?_; focus (simp (disch := omega) [hlt, hli, hb0]; done)))
        refine aStop_of (validTable_c _ _ _ _ ds (slI sl) (hx'.vw ((Vw.refl _).over (by repeat (first | exact Over.refl _ | exact hov | refine Over.upd ?_ hB (by omega) | refine Over.del ?_ hB (by omega))))) (hsl3 ▸ (Sl.whole (t := 3) (r := true) (by simp (disch := omega) only [upd_eq, upd_ne, del_ne, hb1]) (by simp [rowsI_len]))) hlen (by omega) hsz) ?_
        rintro r δ ⟨rfl, rfl⟩
        (repeat (simp (disch := omega) [hso]))
        first | (refine hKK _ _ _ ?_; clear hKK KK; simp only [thenA, blockA, reduceIte]) | skip
        repeat' (first
          | refine AWP.seq ?_
          | refine AWP.block ?_
          | (refine AWP.skip ?_; simp only [thenA, blockA, reduceIte])
          | (refine AWP.exit ?_; simp only [thenA, blockA, eq_self, reduceIte, Nat.reduceEqDiff, Nat.succ_ne_zero])
          | (refine AWP.ret ?_; simp only [thenA, blockA, reduceIte])
          | (refine AWP.region (by rfl) (fun KK hKK => ?_); (repeat (simp (disch := omega) [])); first | (refine hKK _ _ _ ?_; clear hKK KK; simp only [thenA, blockA, reduceIte]) | skip)
          | (refine AWP.draw' mixd (by rfl) (by kernel_rfl) (fun KK tab hKK htab => ?_); (repeat (simp (disch := omega) [])); first | (refine dEnd_ro ?_ (hKK _ _ _ ?_); (focus (simp; done)); clear htab tab hKK KK; simp only [thenA, blockA, reduceIte]) | (refine dEnd_of ?_ (hKK _ _ _ ?_); (focus (simp only [List.reverse_cons, List.reverse_nil, List.nil_append, List.cons_append, memA, mem1, and_true, true_and]; (repeat' apply And.intro); (all_goals (first | trivial | (refine .inr ⟨?_, ?_⟩ <;> (simp; done)) | (refine .inr ⟨?_, ?_⟩ <;> (simp <;> omega)) | (refine .inl ?_; rw [htab]; kernel_rfl))); done)); clear htab tab hKK KK; simp only [thenA, blockA, reduceIte]) | skip)
          | (refine AWP.if_t ?_ ?_; focus (simp (disch := omega) []; done))
          | (refine AWP.if_f ?_ ?_; focus (simp (disch := omega) []; done)))
        refine ⟨by simp, _, rfl, fin1 (K + 1 + 2 + 2) (blkI (slI sl)) (by simp (disch := omega) only [upd_eq, upd_ne, hb1]) rfl (flatI _) ⟨?_, by rw [ho, dOutI_some]⟩ (by omega) (by simp [resO, get, nms, nmss])⟩
        rw [ho, iOut_some, hsl3]
        simp [resO, get, ren, rens, rho]
      · have ho : tbO ds L = none := by unfold tbO; rw [if_neg (fun h => hin h.2.2.2)]
        rw [decide_eq_false hin] at hso
        rw [ho, iOut_none, dOutI_none]
        have hK0 : ¬ 0 = K := by omega
        repeat' (first
          | refine AWP.seq ?_
          | refine AWP.block ?_
          | (refine AWP.skip ?_; simp only [thenA, blockA, reduceIte])
          | (refine AWP.exit ?_; simp only [thenA, blockA, eq_self, reduceIte, Nat.reduceEqDiff, Nat.succ_ne_zero])
          | (refine AWP.ret ?_; simp only [thenA, blockA, reduceIte])
          | (refine AWP.region (by rfl) (fun KK hKK => ?_); (repeat (simp (disch := omega) [hlt, hli, hb0])); first | (refine hKK _ _ _ ?_; clear hKK KK; simp only [thenA, blockA, reduceIte]) | skip)
          | (refine AWP.draw' mixd (by rfl) (by kernel_rfl) (fun KK tab hKK htab => ?_); (repeat (simp (disch := omega) [hlt, hli, hb0])); first | (refine dEnd_ro ?_ (hKK _ _ _ ?_); (focus (simp; done)); clear htab tab hKK KK; simp only [thenA, blockA, reduceIte]) | (refine dEnd_of ?_ (hKK _ _ _ ?_); (focus (simp only [List.reverse_cons, List.reverse_nil, List.nil_append, List.cons_append, memA, mem1, and_true, true_and]; (repeat' apply And.intro); (all_goals (first | trivial | (refine .inr ⟨?_, ?_⟩ <;> (simp; done)) | (refine .inr ⟨?_, ?_⟩ <;> (simp <;> omega)) | (refine .inl ?_; rw [htab]; kernel_rfl))); done)); clear htab tab hKK KK; simp only [thenA, blockA, reduceIte]) | skip)
          | (refine AWP.if_t ?_ ?_; focus (simp (disch := omega) [hlt, hli, hb0]; done))
          | (refine AWP.if_f ?_ ?_; focus (simp (disch := omega) [hlt, hli, hb0]; done)))
        refine aStop_of (validTable_c _ _ _ _ ds (slI sl) (hx'.vw ((Vw.refl _).over (by repeat (first | exact Over.refl _ | exact hov | refine Over.upd ?_ hB (by omega) | refine Over.del ?_ hB (by omega))))) (hsl3 ▸ (Sl.whole (t := 3) (r := true) (by simp (disch := omega) only [upd_eq, upd_ne, del_ne, hb1]) (by simp [rowsI_len]))) hlen (by omega) hsz) ?_
        rintro r δ ⟨rfl, rfl⟩
        (repeat (simp (disch := omega) [hso]))
        first | (refine hKK _ _ _ ?_; clear hKK KK; simp only [thenA, blockA, reduceIte]) | skip
        repeat' (first
          | refine AWP.seq ?_
          | refine AWP.block ?_
          | (refine AWP.skip ?_; simp only [thenA, blockA, reduceIte])
          | (refine AWP.exit ?_; simp only [thenA, blockA, eq_self, reduceIte, Nat.reduceEqDiff, Nat.succ_ne_zero])
          | (refine AWP.ret ?_; simp only [thenA, blockA, reduceIte])
          | (refine AWP.region (by rfl) (fun KK hKK => ?_); (repeat (simp (disch := omega) [])); first | (refine hKK _ _ _ ?_; clear hKK KK; simp only [thenA, blockA, reduceIte]) | skip)
          | (refine AWP.draw' mixd (by rfl) (by kernel_rfl) (fun KK tab hKK htab => ?_); (repeat (simp (disch := omega) [])); first | (refine dEnd_ro ?_ (hKK _ _ _ ?_); (focus (simp; done)); clear htab tab hKK KK; simp only [thenA, blockA, reduceIte]) | (refine dEnd_of ?_ (hKK _ _ _ ?_); (focus (simp only [List.reverse_cons, List.reverse_nil, List.nil_append, List.cons_append, memA, mem1, and_true, true_and]; (repeat' apply And.intro); (all_goals (first | trivial | (refine .inr ⟨?_, ?_⟩ <;> (simp; done)) | (refine .inr ⟨?_, ?_⟩ <;> (simp <;> omega)) | (refine .inl ?_; rw [htab]; kernel_rfl))); done)); clear htab tab hKK KK; simp only [thenA, blockA, reduceIte]) | skip)
          | (refine AWP.if_t ?_ ?_; focus (simp (disch := omega) []; done))
          | (refine AWP.if_f ?_ ?_; focus (simp (disch := omega) []; done)))
        refine ⟨by simp, _, rfl, fin0 ⟨?_, rfl⟩ (by simp [resO, get, nms, nmss]; try (simp [nms, nmss] at hn; simp_all))⟩
        simp [resO, get, ren, rens, rho, hK0]
    · have ho : tbO ds L = none := tbO_no (fun h => hli (by omega))
      rw [ho, iOut_none, dOutI_none]
      have hK0 : ¬ 0 = K := by omega
      repeat' (first
        | refine AWP.seq ?_
        | refine AWP.block ?_
        | (refine AWP.skip ?_; simp only [thenA, blockA, reduceIte])
        | (refine AWP.exit ?_; simp only [thenA, blockA, eq_self, reduceIte, Nat.reduceEqDiff, Nat.succ_ne_zero])
        | (refine AWP.ret ?_; simp only [thenA, blockA, reduceIte])
        | (refine AWP.region (by rfl) (fun KK hKK => ?_); (repeat (simp (disch := omega) [hlt, hli])); first | (refine hKK _ _ _ ?_; clear hKK KK; simp only [thenA, blockA, reduceIte]) | skip)
        | (refine AWP.draw' mixd (by rfl) (by kernel_rfl) (fun KK tab hKK htab => ?_); (repeat (simp (disch := omega) [hlt, hli])); first | (refine dEnd_ro ?_ (hKK _ _ _ ?_); (focus (simp; done)); clear htab tab hKK KK; simp only [thenA, blockA, reduceIte]) | (refine dEnd_of ?_ (hKK _ _ _ ?_); (focus (simp only [List.reverse_cons, List.reverse_nil, List.nil_append, List.cons_append, memA, mem1, and_true, true_and]; (repeat' apply And.intro); (all_goals (first | trivial | (refine .inr ⟨?_, ?_⟩ <;> (simp; done)) | (refine .inr ⟨?_, ?_⟩ <;> (simp <;> omega)) | (refine .inl ?_; rw [htab]; kernel_rfl))); done)); clear htab tab hKK KK; simp only [thenA, blockA, reduceIte]) | skip)
        | (refine AWP.if_t ?_ ?_; focus (simp (disch := omega) [hlt, hli]; done))
        | (refine AWP.if_f ?_ ?_; focus (simp (disch := omega) [hlt, hli]; done)))
      refine ⟨by simp, _, rfl, fin0 ⟨?_, rfl⟩ (by simp [resO, get, nms, nmss]; try (simp [nms, nmss] at hn; simp_all))⟩
      simp [resO, get, ren, rens, rho, hK0]
end Go.Proofs.Ytkddpkjgmmmcpaa
