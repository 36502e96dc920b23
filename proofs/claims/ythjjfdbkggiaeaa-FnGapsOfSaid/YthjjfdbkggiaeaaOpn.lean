/- From arguments that read as data to the abstract store; from a walk that answers true to the law's row. No condition: nothing of a program stands here. -/
import Derived.Test.YthjjfdbkggiaeaaAb17
import Derived.ProofKit
import Derived.Deep.Slices
import Derived.Deep.Fields
import Derived.ChangeSame
import Derived.ChangeArms
import Derived.WideKeyArgs
set_option linter.unusedSimpArgs false
set_option linter.unusedVariables false
namespace Go.Proofs.Ythjjfdbkggiaeaa
open Go Go.RowKit Go.ChangeShapes Go.WideShapes Go.Deep

/-- A world that has not been touched yet, and read-only blocks in it. -/
structure Opn (W : World) (μ : Mu) (σ : Sto) (M : Nat) : Prop where
  rel : Rel W.heap.size W (fun _ => False) μ σ W
  fre : ∀ b, M ≤ b → μ b = none
  ro : ∀ b k, σ b = some k → k.rw = false
theorem Opn.start (W : World) : Opn W (fun _ => none) noS 0 :=
  ⟨⟨Keep.refl _ _ _, Nat.le_refl _, fun b k h => by simp [noS] at h, fun b b' k k' L L' _ h => by simp [noS] at h, ⟨0, fun _ _ => rfl⟩⟩, fun _ _ => rfl, fun b k h => by simp [noS] at h⟩
theorem Opn.more {W : World} {μ : Mu} {σ : Sto} {M : Nat} (h : Opn W μ σ M) : Opn W μ σ (M + 1) := ⟨h.rel, fun b hb => h.fre b (by omega), h.ro⟩
theorem Opn.add {W : World} {μ : Mu} {σ : Sto} {M : Nat} (h : Opn W μ σ M) {k : Blk} {L : Loc} (hk : k.rw = false) (hB : BRel W.heap.size (fun _ => False) μ W L k) : Opn W (upd μ M L) (upd σ M k) (M + 1) := by
  have h0 := h.fre M (Nat.le_refl _)
  have hs := Sub.upd h0 L
  have hro : ∀ b k', upd σ M k b = some k' → k'.rw = false := fun b k' hb => by
    by_cases e : b = M
    · subst e; rw [upd_eq] at hb; cases hb; exact hk
    · rw [upd_ne _ _ _ _ e] at hb; exact h.ro b k' hb
  refine ⟨⟨h.rel.keep, h.rel.big, fun b k' hb => ?_, fun b b' k1 k2 L1 L2 hne hb hb' hL hL' hr => ?_, ⟨M + 1, fun b hb => ?_⟩⟩, fun b hb => ?_, hro⟩
  · by_cases e : b = M
    · subst e; rw [upd_eq] at hb; cases hb
      exact ⟨L, upd_eq _ _ _, hB.keep hs fun _ => rfl⟩
    · rw [upd_ne _ _ _ _ e] at hb
      obtain ⟨L', hL', hB'⟩ := h.rel.blk b k' hb
      exact ⟨L', hs b L' hL', hB'.keep hs fun _ => rfl⟩
  · rw [hro b k1 hb] at hr; cases hr
  · rw [upd_ne _ _ _ _ (by omega)]; exact h.fre b (by omega)
  · rw [upd_ne _ _ _ _ (by omega)]; exact h.fre b (by omega)

/-- A cell of a plain type. -/
def okV (P : Program) (t : TypeId) (v : Value) : Prop :=
  (P.underlying t = some .bool ∧ ∃ b, v = .bool b) ∨ (∃ k, P.underlying t = some (.int k) ∧ ∃ n, v = .int k n ∧ (Lit.int k n).wf = true) ∨ (P.underlying t = some .string ∧ ∃ s : ByteArray, v = .string s ∧ s.size ≤ 9223372036854775807)
theorem okV_one {P : Program} {t : TypeId} {v : Value} (h : okV P t v) : v.oneCell' = true := by
  rcases h with ⟨_, b, rfl⟩ | ⟨k, _, n, rfl, _⟩ | ⟨_, s, rfl, _⟩ <;> rfl
theorem okV_int {P : Program} {t : TypeId} {v : Value} (ht : P.underlying t = some (.int .i64)) (h : okV P t v) : ∃ n, v = .int .i64 n ∧ -9223372036854775808 ≤ n ∧ n ≤ 9223372036854775807 := by
  rcases h with ⟨h, _⟩ | ⟨k, h, n, rfl, hw⟩ | ⟨h, _⟩ <;> rw [ht] at h
  · cases h
  · cases h
    simp [Lit.wf, IntKind.min, IntKind.max, IntKind.signed, IntKind.bits] at hw
    exact ⟨n, rfl, hw.1, hw.2⟩
  · cases h
theorem okV_u8 {P : Program} {t : TypeId} {v : Value} (ht : P.underlying t = some (.int .u8)) (h : okV P t v) : ∃ n, v = .int .u8 n ∧ 0 ≤ n ∧ n ≤ 255 := by
  rcases h with ⟨h, _⟩ | ⟨k, h, n, rfl, hw⟩ | ⟨h, _⟩ <;> rw [ht] at h
  · cases h
  · cases h
    simp [Lit.wf, IntKind.min, IntKind.max, IntKind.signed, IntKind.bits] at hw
    exact ⟨n, rfl, hw.1, hw.2⟩
  · cases h
theorem okV_str {P : Program} {t : TypeId} {v : Value} (ht : P.underlying t = some .string) (h : okV P t v) : ∃ s : ByteArray, v = .string s ∧ s.size ≤ 9223372036854775807 := by
  rcases h with ⟨h, _⟩ | ⟨k, h, _⟩ | ⟨h, s, h2⟩
  · rw [ht] at h; cases h
  · rw [ht] at h; cases h
  · exact ⟨s, h2⟩
theorem okV_bool {P : Program} {t : TypeId} {v : Value} (ht : P.underlying t = some .bool) (h : okV P t v) : ∃ b, v = .bool b := by
  rcases h with ⟨h, h2⟩ | ⟨k, h, _⟩ | ⟨h, _⟩
  · exact h2
  · rw [ht] at h; cases h
  · rw [ht] at h; cases h

/-- A row of plain cells. -/
def rowV (P : Program) : List TypeId → List Value → Prop
  | [], [] => True
  | t :: ts, v :: vs => okV P t v ∧ rowV P ts vs
  | _, _ => False
theorem rowV_len {P : Program} : ∀ {ts : List TypeId} {vs : List Value}, rowV P ts vs → vs.length = ts.length
  | [], [], _ => rfl
  | t :: ts, v :: vs, h => by simp only [rowV] at h; simp [rowV_len h.2]
  | [], _ :: _, h => by simp [rowV] at h
  | _ :: _, [], h => by simp [rowV] at h
theorem rowV_one {P : Program} : ∀ {ts : List TypeId} {vs : List Value}, rowV P ts vs → ∀ v ∈ vs, v.oneCell' = true
  | [], [], _, v, hv => by cases hv
  | t :: ts, u :: vs, h, v, hv => by
    simp only [rowV] at h
    rcases List.mem_cons.1 hv with rfl | hv
    · exact okV_one h.1
    · exact rowV_one h.2 v hv
  | [], _ :: _, h, _, _ => by simp [rowV] at h
  | _ :: _, [], h, _, _ => by simp [rowV] at h
theorem rowV_mk {P : Program} : ∀ {ts : List TypeId} {vs : List Value}, vs.length = ts.length → (∀ (j : Nat) (t : TypeId) (v : Value), ts[j]? = some t → vs[j]? = some v → okV P t v) → rowV P ts vs
  | [], [], _, _ => trivial
  | t :: ts, v :: vs, hl, h => ⟨h 0 t v rfl rfl, rowV_mk (by simpa using hl) fun j t v h1 h2 => h (j + 1) t v (by simpa using h1) (by simpa using h2)⟩
  | [], _ :: _, hl, _ => by simp at hl
  | _ :: _, [], hl, _ => by simp at hl
theorem listOf {Q : Nat → List Value → Prop} : ∀ n : Nat, (∀ i, i < n → ∃ c, Q i c) → ∃ l : List (List Value), l.length = n ∧ ∀ i c, l[i]? = some c → Q i c
  | 0, _ => ⟨[], rfl, fun i c h => by simp at h⟩
  | n + 1, h => by
    obtain ⟨l, h1, h2⟩ := listOf n fun i hi => h i (by omega)
    obtain ⟨c, hc⟩ := h n (by omega)
    refine ⟨l ++ [c], by simp [h1], fun i d hd => ?_⟩
    rcases Nat.lt_or_ge i n with hi | hi
    · rw [List.getElem?_append_left (by omega)] at hd; exact h2 i d hd
    · rw [List.getElem?_append_right (by omega)] at hd
      have : i = n := by
        rcases Nat.eq_zero_or_pos (i - l.length) with h0 | h0
        · omega
        · rw [List.getElem?_eq_none (by simp; omega)] at hd; cases hd
      subst this
      simp [h1] at hd
      exact hd ▸ hc

section
variable {H : Type} {enc : TypeId × Value → H} {P : Program} {W : World} {base : Nat} {spare : Nat → Bool} {held : Bool}

/-- What a type's cells read as. -/
def elemOk (P : Program) (e : TypeId) (ts : List TypeId) : Prop :=
  (∃ fs : Array Field, P.underlying e = some (.struct fs) ∧ ts = fs.toList.map (·.type) ∧ ∀ (j : Nat) (f : Field), fs[j]? = some f → f.offset = j ∧ P.cellsOf f.type = 1 ∧ ((P.underlying f.type = some .bool ∨ ∃ k, P.underlying f.type = some (.int k)) ∨ P.underlying f.type = some .string)) ∨
  (ts = [e] ∧ ((P.underlying e = some .bool ∨ ∃ k, P.underlying e = some (.int k)) ∨ P.underlying e = some .string))
theorem cell_okV {t : TypeId} {n : Nat} {cs : List Value} {x : DataW H × List MemPlace} (ht : (P.underlying t = some .bool ∨ ∃ k, P.underlying t = some (.int k)) ∨ P.underlying t = some .string) (h : DataW.trod enc P W base spare held n t cs = some x) : ∃ v, cs = [v] ∧ okV P t v := by
  rcases ht with (ht | ⟨k, ht⟩) | ht
  · obtain ⟨b, rfl, _⟩ := DataW.trod_bool ht h
    exact ⟨_, rfl, .inl ⟨ht, b, rfl⟩⟩
  · obtain ⟨m, rfl, _, hw⟩ := DataW.trod_int ht h
    exact ⟨_, rfl, .inr (.inl ⟨k, ht, m, rfl, hw⟩)⟩
  · obtain ⟨s, rfl, _, hs⟩ := DataW.trod_string ht h
    exact ⟨_, rfl, .inr (.inr ⟨ht, s, rfl, by unfold maxLen at hs; omega⟩)⟩
theorem row_of {e : TypeId} {ts : List TypeId} (he : elemOk P e ts) (hC : P.cellsOf e = ts.length) {n : Nat} {cs : List Value} {x : DataW H × List MemPlace} (h : DataW.trod enc P W base spare held n e cs = some x) : rowV P ts cs := by
  rcases he with ⟨fs, hu, rfl, hf⟩ | ⟨rfl, ht⟩
  · obtain ⟨xs, m, _, _, hl, hxl, hg⟩ := DataW.trod_struct hu h
    refine rowV_mk (by rw [hl, hC]) fun j t v hj hv => ?_
    simp only [List.getElem?_map, Option.map_eq_some_iff] at hj
    obtain ⟨f, hj, rfl⟩ := hj
    have hj' : fs[j]? = some f := by simpa using hj
    obtain ⟨ho, hc1, ht⟩ := hf j f hj'
    have hjl : j < fs.size := (Array.getElem?_eq_some_iff.1 hj').1
    have := hg j f hj'
    rw [List.getElem?_eq_getElem (by omega)] at this
    obtain ⟨u, hu2, hok⟩ := cell_okV ht this
    rw [ho, hc1] at hu2
    obtain ⟨hlt, hve⟩ := List.getElem?_eq_some_iff.1 hv
    rw [List.drop_eq_getElem_cons hlt, hve] at hu2
    simp at hu2
    exact hu2 ▸ hok
  · obtain ⟨v, rfl, hok⟩ := cell_okV ht h
    exact ⟨hok, trivial⟩

/-- What a slice of rows is. -/
def RowsV (P : Program) (W : World) (ts : List TypeId) (v : Value) : Prop :=
  ∃ (a : Option Addr) (m : Nat) (rs : List (List Value)), v = .slice a rs.length m ∧ rs.length ≤ m ∧ m ≤ 9223372036854775807 ∧ (a = none → m = 0) ∧ (∀ r ∈ rs, rowV P ts r) ∧
    ∀ a0, a = some a0 → ∀ i r, rs[i]? = some r → ∀ j u, r[j]? = some u → W.cell? (a0.add (i * ts.length + j)) = some u
theorem rows_of {t e : TypeId} {ts : List TypeId} {n : Nat} {v : Value} {x : DataW H × List MemPlace} (ht : P.underlying t = some (.slice e)) (he : elemOk P e ts) (hC : P.cellsOf e = ts.length) (h : DataW.trod enc P W base spare held n t [v] = some x) : RowsV P W ts v := by
  rcases open_slice ht h with ⟨hcs, _⟩ | ⟨a, len, cap, m, n', D, Pl, hcs, _, hl, hm, hmm, _, hi⟩
  · simp at hcs
    exact ⟨none, 0, [], by simpa using hcs, Nat.le_refl _, by omega, fun _ => rfl, by simp, (by intro a0 h; cases h)⟩
  · simp at hcs
    obtain ⟨l, hll, hlq⟩ := listOf (Q := fun i c => rowV P ts c ∧ ∀ j u, c[j]? = some u → W.cell? (a.add (i * ts.length + j)) = some u) len fun i hil => by
      have him : i < m := by rw [hmm]; split <;> omega
      obtain ⟨cs', hc, ht'⟩ := hi i him
      obtain ⟨_, hcl, hat⟩ := World.cells?_some hc
      refine ⟨cs', row_of he hC ht', fun j u hu => ?_⟩
      have hjl : j < P.cellsOf e := by rw [← hcl]; exact (List.getElem?_eq_some_iff.1 hu).1
      have := hat j hjl
      rw [hu, add_add] at this
      rw [← hC]
      exact this
    subst hll
    refine ⟨some a, cap, l, hcs, hl, by unfold maxLen at hm; omega, (by intro h; cases h), fun r hr => ?_, fun a0 h0 i r hr => ?_⟩
    · obtain ⟨i, hi, rfl⟩ := List.mem_iff_getElem.1 hr
      exact (hlq i _ (List.getElem?_eq_getElem hi)).1
    · cases h0
      exact (hlq i r hr).2
end

theorem Opn.rows {P : Program} {W : World} {μ : Mu} {σ : Sto} {M : Nat} {ts : List TypeId} {v : Value} (h : Opn W μ σ M) (hp : 0 < ts.length) (hv : RowsV P W ts v) :
    ∃ (μ' : Mu) (σ' : Sto) (x : AV) (rs : List (List Value)), Opn W μ' σ' (M + 1) ∧ Sub μ μ' ∧ Vw σ σ' ∧ VRel μ' x v ∧ Sl σ' x ts.length (rs.map (List.map AV.v)) ∧ rs.length ≤ 9223372036854775807 ∧ ∀ r ∈ rs, rowV P ts r := by
  obtain ⟨a, m, rs, rfl, hl, hm, h0, hr, hc⟩ := hv
  cases a with
  | none =>
    have hm0 := h0 rfl
    subst hm0
    have hrs : rs = [] := List.eq_nil_of_length_eq_zero (by omega)
    subst hrs
    refine ⟨μ, σ, .sl 0 0 0 (some 0) 0, [], h.more, Sub.refl _, Vw.refl _, ?_, Sl.nil _ _ _ _ _, by simp, by simp⟩
    simp only [VRel]
    exact ⟨none, 0, rfl, Nat.le_refl _, fun k hk => (by cases hk; rfl), .inl (by simp)⟩
  | some a =>
    have hM := h.fre M (Nat.le_refl _)
    have hB : BRel W.heap.size (fun _ => False) μ W ⟨a, m, ts.length⟩ ⟨0, ts.length, rs.map (List.map AV.v), false⟩ := by
      refine ⟨rfl, hp, fun e he => ?_, fun i e he c u hu => ?_, (by intro h; cases h)⟩
      · obtain ⟨r, hrm, rfl⟩ := List.mem_map.1 he
        simp [rowV_len (hr r hrm)]
      · simp only [List.getElem?_map, Option.map_eq_some_iff] at he
        obtain ⟨r, hri, rfl⟩ := he
        simp only [List.getElem?_map, Option.map_eq_some_iff] at hu
        obtain ⟨w, hw, rfl⟩ := hu
        exact ⟨w, hc a rfl i r hri c w hw, rowV_one (hr r (List.mem_of_getElem? hri)) w (List.mem_of_getElem? hw), by simp [VRel]⟩
    have hσM : σ M = none := free_of h.rel hM
    refine ⟨upd μ M ⟨a, m, ts.length⟩, upd σ M ⟨0, ts.length, rs.map (List.map AV.v), false⟩, .sl M 0 rs.length none ts.length, rs, h.add rfl hB, Sub.upd hM _, fun b k hb => ?_, ?_, ?_, by omega, hr⟩
    · have : b ≠ M := fun e => by subst e; rw [hσM] at hb; cases hb
      exact ⟨k.rw, by rw [upd_ne _ _ _ _ this]; simpa using hb⟩
    · simp only [VRel]
      exact ⟨some a, m, rfl, hl, fun k hk => (by cases hk), .inr ⟨_, upd_eq _ _ _, rfl, fun _ => ⟨by simp [Addr.add], by simp⟩⟩⟩
    · exact Sl.whole (upd_eq _ _ _) (by simp)

/-- The call, out of the contract. -/
theorem Opn.calls {P : Program} {W : World} {μ : Mu} {σ : Sto} {M : Nat} (h : Opn W μ σ M) {f : FuncId} {args : List AV} {vs : List Value} (hc : AC P f args σ M fun r δ => r = .v (.bool true) ∧ δ = noS) (hv : VRels μ args vs) :
    Calls P f vs.toArray W fun e W' => e = .returned (.bool true) ∧ Below W.heap.size W W' := by
  refine (hc.2 W.heap.size W (fun _ => False) μ W vs h.rel (h.fre M (Nat.le_refl _)) (h.fre (M + 1) (by omega)) hv).mono fun e W' => ?_
  rintro ⟨r, δ, μ', v', rfl, ⟨rfl, rfl⟩, hr, hR, _⟩
  simp only [VRel] at hr
  exact ⟨by rw [hr], hR.keep.below⟩

section
variable {H : Type} {enc : TypeId × Value → H} {P : Program}

/-- The arguments read as before. -/
theorem trodAll_below (hl : laidOutB P = true) {W W' : World} (hb : Below W.heap.size W W') {sp : Nat → Bool} : ∀ {ts : List TypeId} {vs : List Value} {ds : List (DataW H)} {ps : List MemPlace}, (∀ t ∈ ts, P.readableRec t = true ∧ t < P.types.size) →
    DataW.TrodAll enc P W 0 (fun _ => true) true ts vs ds ps → (∀ x ∈ ps, x.block < W.heap.size ∧ sp x.block = true) → DataW.TrodAll enc P W' 0 sp true ts vs ds ps
  | [], vs, ds, ps, _, h, _ => by
    obtain ⟨rfl, rfl, rfl⟩ := trodAll_nil h
    exact trodAll_mk0
  | t :: ts, vs, ds, ps, hr, h, hp => by
    obtain ⟨v, vs', d, ds', p, q, rfl, rfl, rfl, h1, h2⟩ := trodAll_cons h
    have h3 := WideElems.Trod_stays (sp' := sp) hl (hr t (by simp)).1 (hr t (by simp)).2 h1 (fun x hx => hb.same (hp x (by simp [hx])).1) (fun x hx => (hp x (by simp [hx])).2)
    have h4 := trodAll_below hl hb (sp := sp) (fun t' ht' => hr t' (by simp [ht'])) h2 (fun x hx => hp x (by simp [hx]))
    exact ⟨p, q, h3, h4, rfl⟩

/-- The row's last step, for a law: it answers true, and what was there is as it was. -/
theorem law_post {f : Func} {s : ChangeSpec} {apart fresh handsOn again : Bool} {tb : TypeId} (hl : laidOutB P = true) (hr : ∀ t ∈ f.params.toList, P.readableRec t = true ∧ t < P.types.size) (hrt : f.resultTypes = #[tb]) (htb : P.underlying tb = some .bool)
    (hv : s.vars = []) {W W' : World} {args : Array Value} {ds gs : List (DataW H)} {before : List MemPlace} (hs : s.fn H ds = { results := [.lit (.bool true)], args := ds })
    (hW : DataW.Whole enc P f.params.toList s.vars apart W args.toList ds gs before) (hb : Below W.heap.size W W') :
    s.post enc P f apart fresh handsOn again W args (.bool true) W' := by
  have hW0 := hW
  have hlt : ∀ p ∈ before, p.block < W.heap.size := fun p hp => hW.lt p hp
  obtain ⟨p, q, hA, hV, hpq, hz, hn⟩ := hW
  rw [hv] at hV
  obtain ⟨rfl, rfl⟩ := trodVars_none hV
  simp only [List.append_nil] at hpq
  subst hpq
  have hres : ∀ (b : Nat) (sp : Nat → Bool) (hd : Bool), DataW.TrodAll enc P W' b sp hd f.resultTypes.toList ((Value.bool true).resultList f.resultTypes.size) (s.fn H (ds ++ [])).results [] := fun b sp hd => by
    rw [List.append_nil, hs, hrt]
    exact trodAll_mk1 ⟨1, by simp [DataW.trod, Value.cells, htb]⟩
  have hargs : ∀ sp : Nat → Bool, (∀ x ∈ before, sp x.block = true) → DataW.TrodAll enc P W' 0 sp true f.params.toList args.toList (s.fn H (ds ++ [])).args before := fun sp hsp => by
    rw [List.append_nil, hs]
    exact trodAll_below hl hb hr hA fun x hx => ⟨hlt x hx, hsp x hx⟩
  have hvars : ∀ sp : Nat → Bool, (∀ x ∈ before, sp x.block = true) → DataW.TrodVars enc P W' sp s.vars (s.fn H (ds ++ [])).vars [] := fun sp hsp => by
    rw [List.append_nil, hs, hv]
    simp [DataW.TrodVars]
  have hold : ∀ x ∈ before, (fun b => decide (b < W.heap.size)) x.block = true := fun x hx => by simpa using hlt x hx
  refine ⟨ds, [], before, [], before, [], hW0, hres _ _ _, hargs _ hold, hvars _ hold, World.keptBut_mono (fun x hx => ⟨hx, .inr (by simpa using hx)⟩) (hb.frame (· ∈ before)), fun _ => ?_⟩
  refine ⟨?_, _, _, ([] ++ before) ++ [], ⟨[] ++ before, [], trodAll_append (hargs _ (fun _ _ => rfl)) (hres _ _ _), hvars _ (fun _ _ => rfl), rfl, ?_, ?_⟩, ?_⟩
  · intro j t r hj hr'
    rw [hrt] at hj hr'
    match j, hj, hr' with
    | 0, hj, hr' =>
      simp [Value.resultList] at hj hr'
      subst hj; subst hr'
      simp [Value.okWide, htb, Cell.okWide, Cell.ok]
  · intro b off hp
    have hin : MemPlace.cell b off ∈ before := by simpa using hp
    rw [hb.frozen (hlt _ hin)]
    exact hz b off hin
  · intro ha
    simpa using hn ha
  · intro p hp _
    simpa using hp
end
end Go.Proofs.Ythjjfdbkggiaeaa
