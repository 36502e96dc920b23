/- Plain facts on changes of enumerations: what they are, that they lead there, one by one. No condition: nothing of the program stands here but names of its types. -/
import Derived.Test.YtgaiemhbllbaiaaM4
import Derived.Test.YtgaiemhbllbaiaaM5
import Derived.Test.YtgaiemhbllbaiaaPM
set_option linter.unusedSimpArgs false
set_option linter.unusedVariables false
namespace Go.Proofs.Ytgaiemhbllbaiaa
open Go Go.RowKit

abbrev Ch := Int × ByteArray × Int × Int
def rowC (c : Ch) : List AV := [.v (.int .i64 c.1), .v (.string c.2.1), .v (.int .i64 c.2.2.1), .v (.int .i64 c.2.2.2)]
def rowsC (l : List Ch) : List (List AV) := l.map rowC
theorem rowsC_len (l : List Ch) : (rowsC l).length = l.length := by simp [rowsC]
theorem rowsC_snoc (l : List Ch) (k : Int) (t : ByteArray) (o n : Int) : rowsC l ++ [[.v (.int .i64 k), .v (.string t), .v (.int .i64 o), .v (.int .i64 n)]] = rowsC (l ++ [(k, t, o, n)]) := by simp [rowsC, rowC]
theorem rowsC_take (l : List Ch) : (rowsC l).take l.length = rowsC l := List.take_of_length_le (by rw [rowsC_len]; exact Nat.le_refl _)
theorem rowsC_get (l : List Ch) (i : Nat) (h : i < l.length) : (rowsC l)[i]'(by rw [rowsC_len]; exact h) = [.v (.int .i64 l[i].1), .v (.string l[i].2.1), .v (.int .i64 l[i].2.2.1), .v (.int .i64 l[i].2.2.2)] := by simp [rowsC, rowC]
abbrev blkC (l : List Ch) : Blk := ⟨77, 4, rowsC l, true⟩
theorem flatC (l : List Ch) : flatB (blkC l) := by
  intro e he v hv
  simp only [rowsC, List.mem_map] at he
  obtain ⟨d, _, rfl⟩ := he
  simp only [rowC, List.mem_cons, List.not_mem_nil, or_false] at hv
  rcases hv with rfl | rfl | rfl | rfl <;> rfl

/-- The definition at an index. -/
def eAt (ds : List Df) (i : Int) : Df := ds.getD i.toNat (⟨#[]⟩, 0)
theorem eAt_nat {ds : List Df} {i : Nat} (h : i < ds.length) : eAt ds i = ds[i] := by
  unfold eAt
  rw [Int.toNat_natCast, List.getD_eq_getElem?_getD, List.getElem?_eq_getElem h]
  rfl
/-- The changes from definitions to others. -/
def chD (es : List Df) (d : Df) : Option Ch := if nameIx es d.1 < 0 then some (1, d.1, d.2, 0) else none
def chT (es : List Df) (d : Df) : Option Ch := if nameIx es d.1 < 0 then none else if (eAt es (nameIx es d.1)).2 = d.2 then none else some (2, d.1, d.2, (eAt es (nameIx es d.1)).2)
def chA (ds : List Df) (d : Df) : Option Ch := if nameIx ds d.1 < 0 then some (0, d.1, 0, d.2) else none
def dfL (ds es : List Df) : List Ch := ds.filterMap (chD es) ++ ds.filterMap (chT es) ++ es.filterMap (chA ds)
def dfO (ds es : List Df) : Option (List Ch) := if okDs (-1000) 1000 ds = true ∧ okDs (-1000) 1000 es = true then some (dfL ds es) else none
theorem fm_take {α β : Type} (p : α → Option β) {l : List α} {k : Nat} (h : k < l.length) : (l.take (k + 1)).filterMap p = (l.take k).filterMap p ++ (p l[k]).toList := by
  rw [List.take_succ_eq_append_getElem h, List.filterMap_append]
  cases h2 : p l[k] <;> simp [List.filterMap_cons, h2]
theorem fm_len {α β : Type} (p : α → Option β) (l : List α) : (l.filterMap p).length ≤ l.length := List.length_filterMap_le _ _
theorem dt_len (es : List Df) : ∀ ds : List Df, (ds.filterMap (chD es)).length + (ds.filterMap (chT es)).length ≤ ds.length
  | [] => by simp
  | d :: ds => by
    have ih := dt_len es ds
    by_cases h : nameIx es d.1 < 0
    · have h1 : chD es d = some (1, d.1, d.2, 0) := if_pos h
      have h2 : chT es d = none := if_pos h
      rw [List.filterMap_cons, List.filterMap_cons, h1, h2]
      simp only [List.length_cons]
      omega
    · have h1 : chD es d = none := if_neg h
      rw [List.filterMap_cons, List.filterMap_cons, h1]
      cases h2 : chT es d with
      | none => simp only [List.length_cons]; omega
      | some c => simp only [List.length_cons]; omega
theorem dfL_len (ds es : List Df) : (dfL ds es).length ≤ ds.length + es.length := by
  have h1 := dt_len es ds
  have h2 := fm_len (chA ds) es
  unfold dfL
  simp only [List.length_append]
  omega
theorem dfO_no {ds es : List Df} (h : ¬ (okDs (-1000) 1000 ds = true ∧ okDs (-1000) 1000 es = true)) : dfO ds es = none := if_neg h
theorem dfO_yes {ds es : List Df} (h : okDs (-1000) 1000 ds = true ∧ okDs (-1000) 1000 es = true) : dfO ds es = some (dfL ds es) := if_pos h
/-- The same meaning. -/
def smB (ds es : List Df) : Bool := okDs (-1000) 1000 ds && okDs (-1000) 1000 es && decide ((dfL ds es).length = 0)

/-- A change made. -/
def apC (ds : List Df) (c : Ch) : Option (List Df) :=
  if c.1 = 0 then (if nameIx ds c.2.1 < 0 ∧ c.2.2.1 = 0 then some (ds ++ [(c.2.1, c.2.2.2)]) else none)
  else if nameIx ds c.2.1 < 0 then none
  else if (eAt ds (nameIx ds c.2.1)).2 = c.2.2.1 then
    if c.1 = 1 then (if c.2.2.2 = 0 then some (ds.eraseIdx (nameIx ds c.2.1).toNat) else none)
    else if c.1 = 2 then some (ds.set (nameIx ds c.2.1).toNat (c.2.1, c.2.2.2)) else none
  else none
def okO (o : Option (List Df)) : Option (List Df) := match o with
  | some l => if okDs (-1000) 1000 l = true then some l else none
  | none => none
def apF (ds : List Df) (c : Ch) : Option (List Df) := okO (apC ds c)
def apL (ds : List Df) : List Ch → Option (List Df)
  | [] => some ds
  | c :: l => match apF ds c with
    | some e => apL e l
    | none => none
def apO (ds : List Df) (l : List Ch) : Option (List Df) := if okDs (-1000) 1000 ds = true ∧ l.length ≤ 30 then apL ds l else none
theorem apL_app : ∀ (l m : List Ch) (ds : List Df), apL ds (l ++ m) = (apL ds l).bind fun e => apL e m
  | [], m, ds => rfl
  | c :: l, m, ds => by
    simp only [List.cons_append, apL]
    cases apF ds c with
    | none => rfl
    | some e => exact apL_app l m e
theorem apF_ok {ds l : List Df} {c : Ch} (h : apF ds c = some l) : okDs (-1000) 1000 l = true := by
  unfold apF okO at h
  split at h
  · split at h
    · cases h; assumption
    · cases h
  · cases h
theorem apL_ok : ∀ (l : List Ch) (ds e : List Df), okDs (-1000) 1000 ds = true → apL ds l = some e → okDs (-1000) 1000 e = true
  | [], ds, e, h, he => by cases he; exact h
  | c :: l, ds, e, h, he => by
    simp only [apL] at he
    cases hc : apF ds c with
    | none => rw [hc] at he; cases he
    | some d =>
      rw [hc] at he
      exact apL_ok l d e (apF_ok hc) he
theorem apL_snoc {ds : List Df} {l : List Ch} {c : Ch} : apL ds (l ++ [c]) = (apL ds l).bind fun e => apF e c := by
  rw [apL_app]
  congr 1
  funext e
  simp only [apL]
  cases apF e c <;> rfl
theorem apL_take {ds : List Df} {l : List Ch} {k : Nat} (h : k < l.length) : apL ds (l.take (k + 1)) = (apL ds (l.take k)).bind fun e => apF e l[k] := by
  rw [List.take_succ_eq_append_getElem h, apL_snoc]
theorem apL_none {ds : List Df} {l : List Ch} {k : Nat} (h : apL ds (l.take k) = none) : apL ds l = none := by
  rw [← List.take_append_drop k l, apL_app, h]
  rfl

/-- More names cannot lie in fewer. -/
theorem names_le : ∀ (X Y : List Df), (X.Pairwise fun a b => a.1 ≠ b.1) → (∀ d ∈ X, ∃ e ∈ Y, e.1 = d.1) → X.length ≤ Y.length
  | [], Y, _, _ => by simp
  | d :: X, Y, hp, h => by
    obtain ⟨e, he, hed⟩ := h d (by simp)
    have hl := List.length_eraseP_of_mem (p := fun e : Df => decide (e.1 = d.1)) he (decide_eq_true hed)
    have hpos := List.length_pos_of_mem he
    rw [List.pairwise_cons] at hp
    have := names_le X (Y.eraseP fun e => decide (e.1 = d.1)) hp.2 fun d' hd' => by
      obtain ⟨e', he', hed'⟩ := h d' (by simp [hd'])
      refine ⟨e', (List.mem_eraseP_of_neg ?_).2 he', hed'⟩
      intro hc
      exact hp.1 d' hd' ((of_decide_eq_true hc).symm.trans hed')
    simp only [List.length_cons]
    omega
theorem nameIx_pos {ds : List Df} {d : Df} (h : d ∈ ds) : ¬ nameIx ds d.1 < 0 := fun hn => nameIx_neg.1 hn d h rfl
theorem name_mem {ds : List Df} {t : ByteArray} (h : ¬ nameIx ds t < 0) : ∃ i : Nat, ∃ hi : i < ds.length, nameIx ds t = i ∧ ds[i].1 = t ∧ eAt ds (nameIx ds t) = ds[i] := by
  rcases nameIx_cases ds t with h1 | ⟨i, hi, h1, h2⟩
  · omega
  · exact ⟨i, hi, h1, h2, by rw [h1]; exact eAt_nat hi⟩
theorem eAt_mem {lo hi : Int} {ds : List Df} (h : okDs lo hi ds = true) {d : Df} (hd : d ∈ ds) : eAt ds (nameIx ds d.1) = d := by
  obtain ⟨i, hi', h1, h2, h3⟩ := name_mem (nameIx_pos hd)
  rw [h3]
  exact pw_eq (ok_names h) (List.getElem_mem hi') hd h2
theorem name_split {K R : List Df} {d : Df} (h : (K ++ d :: R).Pairwise fun a b => a.1 ≠ b.1) : nameIx (K ++ d :: R) d.1 = K.length := by
  have hl : K.length < (K ++ d :: R).length := by simp
  have hg : (K ++ d :: R)[K.length] = d := by simp
  unfold nameIx
  refine idx_at hl (fun e he => ?_) (by rw [hg]; simp)
  rw [List.take_left'] at he
  · rw [List.pairwise_append] at h
    exact decide_eq_false (h.2.2 e he d (by simp))
  · rfl
theorem eAt_split {K R : List Df} {d : Df} : eAt (K ++ d :: R) K.length = d := by
  rw [eAt_nat (by simp)]
  simp
theorem ok_set {K R : List Df} {d : Df} {v : Int} (h : okDs (-1000) 1000 (K ++ d :: R) = true) (h1 : -1000 ≤ v ∧ v ≤ 1000) : okDs (-1000) 1000 (K ++ (d.1, v) :: R) = true := by
  rw [okDs_pw] at h ⊢
  obtain ⟨a, b, c⟩ := h
  refine ⟨by simpa using a, fun e he => ?_, ?_⟩
  · rcases List.mem_append.1 he with he | he
    · exact b e (by simp [he])
    · rcases List.mem_cons.1 he with rfl | he
      · exact ⟨(b d (by simp)).1, h1⟩
      · exact b e (by simp [he])
  · have key : ∀ l : List Df, (l.Pairwise fun a b => a.1 ≠ b.1) ↔ (l.map (·.1)).Pairwise (· ≠ ·) := fun l => List.pairwise_map.symm
    rw [key] at c ⊢
    simpa using c
theorem set_split {K R : List Df} {d e : Df} : (K ++ d :: R).set K.length e = K ++ e :: R := by
  rw [List.set_append_right _ _ (Nat.le_refl _), Nat.sub_self]
  rfl
theorem erase_split {K R : List Df} {d : Df} : (K ++ d :: R).eraseIdx K.length = K ++ R := by
  rw [List.eraseIdx_append_of_length_le (Nat.le_refl _), Nat.sub_self]
  rfl

theorem ph_drop (es : List Df) : ∀ R K : List Df, okDs (-1000) 1000 (K ++ R) = true → apL (K ++ R) (R.filterMap (chD es)) = some (K ++ R.filter fun d => !decide (nameIx es d.1 < 0))
  | [], K, _ => by simp [apL]
  | d :: R, K, h => by
    by_cases hn : nameIx es d.1 < 0
    · have h1 : chD es d = some (1, d.1, d.2, 0) := if_pos hn
      have hp := ok_names h
      have hsub : okDs (-1000) 1000 (K ++ R) = true := okDs_sub h (List.Sublist.append (List.Sublist.refl _) (List.sublist_cons_self d R))
      have hf : apF (K ++ d :: R) (1, d.1, d.2, 0) = some (K ++ R) := by
        have hk : ¬ nameIx (K ++ d :: R) d.1 < 0 := by rw [name_split hp]; omega
        unfold apF apC
        rw [if_neg (by simp), if_neg hk, name_split hp, eAt_split, if_pos rfl, if_pos rfl, if_pos rfl, Int.toNat_natCast, erase_split]
        unfold okO
        exact if_pos hsub
      rw [List.filterMap_cons, h1, List.filter_cons_of_neg (by simp [hn])]
      simp only [apL, hf]
      exact ph_drop es R K hsub
    · have h1 : chD es d = none := if_neg hn
      rw [List.filterMap_cons, h1, List.filter_cons_of_pos (by simp [hn])]
      have := ph_drop es R (K ++ [d]) (by simpa using h)
      simpa using this
def trD (es : List Df) (d : Df) : Df := (d.1, (eAt es (nameIx es d.1)).2)
theorem ph_turn {es : List Df} (hes : okDs (-1000) 1000 es = true) : ∀ R K : List Df, okDs (-1000) 1000 (K ++ R) = true → (∀ d ∈ R, ¬ nameIx es d.1 < 0) → apL (K ++ R) (R.filterMap (chT es)) = some (K ++ R.map (trD es))
  | [], K, _, _ => by simp [apL]
  | d :: R, K, h, hin => by
    have hn := hin d (by simp)
    by_cases hv : (eAt es (nameIx es d.1)).2 = d.2
    · have h1 : chT es d = none := by unfold chT; rw [if_neg hn, if_pos hv]
      have ht : trD es d = d := by unfold trD; rw [hv]
      rw [List.filterMap_cons, h1, List.map_cons, ht]
      have := ph_turn hes R (K ++ [d]) (by simpa using h) fun e he => hin e (by simp [he])
      simpa using this
    · have h1 : chT es d = some (2, d.1, d.2, (eAt es (nameIx es d.1)).2) := by unfold chT; rw [if_neg hn, if_neg hv]
      have hp := ok_names h
      obtain ⟨i, hi, e1, e2, e3⟩ := name_mem hn
      have hr : -1000 ≤ (eAt es (nameIx es d.1)).2 ∧ (eAt es (nameIx es d.1)).2 ≤ 1000 := by
        rw [e3]
        exact ((okDs_pw.1 hes).2.1 _ (List.getElem_mem hi)).2
      have hok := ok_set h hr
      have hf : apF (K ++ d :: R) (2, d.1, d.2, (eAt es (nameIx es d.1)).2) = some (K ++ trD es d :: R) := by
        have hk : ¬ nameIx (K ++ d :: R) d.1 < 0 := by rw [name_split hp]; omega
        unfold apF apC
        rw [if_neg (by simp), if_neg hk, name_split hp, eAt_split, if_pos rfl, if_neg (by simp), if_pos rfl, Int.toNat_natCast, set_split]
        unfold okO
        exact if_pos hok
      rw [List.filterMap_cons, h1, List.map_cons]
      simp only [apL, hf]
      have := ph_turn hes R (K ++ [trD es d]) (by simpa [trD] using hok) fun e he => hin e (by simp [he])
      simpa using this
theorem ph_add (ds : List Df) : ∀ R S : List Df, okDs (-1000) 1000 S = true → (R.Pairwise fun a b => a.1 ≠ b.1) → (∀ e ∈ R, vname e.1 = true ∧ -1000 ≤ e.2 ∧ e.2 ≤ 1000) → (∀ e ∈ R, nameIx ds e.1 < 0 → nameIx S e.1 < 0) →
    S.length + (R.filter fun e => decide (nameIx ds e.1 < 0)).length ≤ 12 → apL S (R.filterMap (chA ds)) = some (S ++ R.filter fun e => decide (nameIx ds e.1 < 0))
  | [], S, _, _, _, _, _ => by simp [apL]
  | e :: R, S, h, hp, hv, hn, hl => by
    rw [List.pairwise_cons] at hp
    by_cases hd : nameIx ds e.1 < 0
    · have h1 : chA ds e = some (0, e.1, 0, e.2) := if_pos hd
      have hns := hn e (by simp) hd
      rw [List.filter_cons_of_pos (by simp [hd])] at hl ⊢
      simp only [List.length_cons] at hl
      have hok : okDs (-1000) 1000 (S ++ [e]) = true := by
        rw [okDs_pw] at h ⊢
        refine ⟨by simp; omega, fun x hx => ?_, ?_⟩
        · rcases List.mem_append.1 hx with hx | hx
          · exact h.2.1 x hx
          · have : x = e := by simpa using hx
            subst this
            exact hv x (by simp)
        · rw [List.pairwise_append]
          refine ⟨h.2.2, by simp, fun x hx y hy => ?_⟩
          have : y = e := by simpa using hy
          subst this
          exact nameIx_neg.1 hns x hx
      have hf : apF S (0, e.1, 0, e.2) = some (S ++ [e]) := by
        unfold apF apC
        rw [if_pos rfl, if_pos ⟨hns, rfl⟩]
        unfold okO
        exact if_pos hok
      rw [List.filterMap_cons, h1]
      simp only [apL, hf]
      have := ph_add ds R (S ++ [e]) hok hp.2 (fun x hx => hv x (by simp [hx])) (fun x hx hxd => by
        rw [nameIx_neg]
        intro y hy
        rcases List.mem_append.1 hy with hy | hy
        · exact nameIx_neg.1 (hn x (by simp [hx]) hxd) y hy
        · have : y = e := by simpa using hy
          subst this
          exact hp.1 x hx) (by simp; omega)
      simpa using this
    · have h1 : chA ds e = none := if_neg hd
      rw [List.filter_cons_of_neg (by simp [hd])] at hl ⊢
      rw [List.filterMap_cons, h1]
      exact ph_add ds R S h hp.2 (fun x hx => hv x (by simp [hx])) (fun x hx => hn x (by simp [hx])) hl

/-- Where the changes lead. -/
def goL (ds es : List Df) : List Df := (ds.filter fun d => !decide (nameIx es d.1 < 0)).map (trD es) ++ es.filter fun e => decide (nameIx ds e.1 < 0)
theorem goL_pw {ds es : List Df} (h1 : okDs (-1000) 1000 ds = true) (h2 : okDs (-1000) 1000 es = true) : (goL ds es).Pairwise fun a b => a.1 ≠ b.1 := by
  unfold goL
  rw [List.pairwise_append]
  refine ⟨?_, (ok_names h2).sublist List.filter_sublist, ?_⟩
  · rw [List.pairwise_map]
    exact (ok_names h1).sublist List.filter_sublist
  · intro x hx y hy
    obtain ⟨d, hd, rfl⟩ := List.mem_map.1 hx
    have hd2 := (List.mem_filter.1 hd).1
    have hy2 : nameIx ds y.1 < 0 := of_decide_eq_true (List.mem_filter.1 hy).2
    exact nameIx_neg.1 hy2 d hd2
theorem goL_in {ds es : List Df} : ∀ x ∈ goL ds es, ∃ e ∈ es, e.1 = x.1 ∧ e.2 = x.2 := by
  intro x hx
  rcases List.mem_append.1 hx with hx | hx
  · obtain ⟨d, hd, rfl⟩ := List.mem_map.1 hx
    have hn : ¬ nameIx es d.1 < 0 := by simpa using (List.mem_filter.1 hd).2
    obtain ⟨i, hi, e1, e2, e3⟩ := name_mem hn
    exact ⟨es[i], List.getElem_mem hi, e2, by unfold trD; rw [e3]⟩
  · exact ⟨x, (List.mem_filter.1 hx).1, rfl, rfl⟩
theorem goL_has {ds es : List Df} : ∀ e ∈ es, ∃ x ∈ goL ds es, x.1 = e.1 := by
  intro e he
  by_cases h : nameIx ds e.1 < 0
  · exact ⟨e, List.mem_append.2 (.inr (List.mem_filter.2 ⟨he, decide_eq_true h⟩)), rfl⟩
  · obtain ⟨i, hi, e1, e2, e3⟩ := name_mem h
    refine ⟨trD es ds[i], List.mem_append.2 (.inl (List.mem_map.2 ⟨ds[i], List.mem_filter.2 ⟨List.getElem_mem hi, ?_⟩, rfl⟩)), e2⟩
    have : ¬ nameIx es ds[i].1 < 0 := by rw [e2]; exact nameIx_pos he
    simpa using this
theorem ap_diff {ds es : List Df} (h1 : okDs (-1000) 1000 ds = true) (h2 : okDs (-1000) 1000 es = true) : apL ds (dfL ds es) = some (goL ds es) := by
  unfold dfL
  rw [apL_app, apL_app]
  have a := ph_drop es ds [] (by simpa using h1)
  simp only [List.nil_append] at a
  rw [a]
  simp only [Option.bind_some]
  generalize hF : (ds.filter fun d => !decide (nameIx es d.1 < 0)) = F at *
  have hFs : F.Sublist ds := by rw [← hF]; exact List.filter_sublist
  have hFo : okDs (-1000) 1000 F = true := okDs_sub h1 hFs
  have hFi : ∀ d ∈ F, ¬ nameIx es d.1 < 0 := fun d hd => by
    rw [← hF] at hd
    simpa using (List.mem_filter.1 hd).2
  have hch : ds.filterMap (chT es) = F.filterMap (chT es) := by
    rw [← hF]
    clear a hF hFs hFo hFi h1
    induction ds with
    | nil => rfl
    | cons d ds ih =>
      by_cases hn : nameIx es d.1 < 0
      · have : chT es d = none := if_pos hn
        rw [List.filterMap_cons, this, List.filter_cons_of_neg (by simp [hn])]
        exact ih
      · rw [List.filter_cons_of_pos (by simp [hn]), List.filterMap_cons, List.filterMap_cons, ih]
  have b := ph_turn h2 F [] (by simpa using hFo) hFi
  simp only [List.nil_append] at b
  rw [hch, b]
  simp only [Option.bind_some]
  have hg : goL ds es = F.map (trD es) ++ es.filter fun e => decide (nameIx ds e.1 < 0) := by unfold goL; rw [hF]
  have hpw := goL_pw h1 h2
  have hle := names_le _ es hpw fun x hx => by
    obtain ⟨e, he, h3, _⟩ := goL_in x hx
    exact ⟨e, he, h3⟩
  have h12 := (okDs_pw.1 h2).1
  rw [hg] at hle
  rw [ph_add ds es (F.map (trD es)) (apL_ok _ _ _ hFo b) (ok_names h2) (okDs_pw.1 h2).2.1 ?_ (by simp only [List.length_append] at hle; omega), hg]
  intro e he hn
  rw [nameIx_neg] at hn ⊢
  intro x hx
  obtain ⟨d, hd, rfl⟩ := List.mem_map.1 hx
  exact hn d (hFs.subset hd)
theorem same_of {X Y : List Df} (hX : okDs (-1000) 1000 X = true) (hY : okDs (-1000) 1000 Y = true) (h1 : ∀ x ∈ X, ∃ e ∈ Y, e.1 = x.1 ∧ e.2 = x.2) (h2 : ∀ e ∈ Y, ∃ x ∈ X, x.1 = e.1) : smB X Y = true := by
  unfold smB
  rw [hX, hY, Bool.true_and, Bool.true_and]
  apply decide_eq_true
  have e1 : X.filterMap (chD Y) = [] := List.filterMap_eq_nil_iff.2 fun x hx => by
    obtain ⟨e, he, h3, _⟩ := h1 x hx
    exact if_neg (by rw [← h3]; exact nameIx_pos he)
  have e2 : X.filterMap (chT Y) = [] := List.filterMap_eq_nil_iff.2 fun x hx => by
    obtain ⟨e, he, h3, h4⟩ := h1 x hx
    unfold chT
    rw [← h3, if_neg (nameIx_pos he), eAt_mem hY he, if_pos h4]
  have e3 : Y.filterMap (chA X) = [] := List.filterMap_eq_nil_iff.2 fun e he => by
    obtain ⟨x, hx, h3⟩ := h2 e he
    exact if_neg (by rw [← h3]; exact nameIx_pos hx)
  unfold dfL
  rw [e1, e2, e3]
  rfl
theorem diff_same {ds es : List Df} (h1 : okDs (-1000) 1000 ds = true) (h2 : okDs (-1000) 1000 es = true) : smB (goL ds es) es = true := same_of (apL_ok _ _ _ h1 (ap_diff h1 h2)) h2 goL_in goL_has
end Go.Proofs.Ytgaiemhbllbaiaa
