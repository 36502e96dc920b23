/- An abstract store for walks, part 7: append, held against the model's own operation. No condition: nothing of a program stands here. -/
import Derived.Test.YthjjfdbkggiaeaaAb6
set_option linter.unusedSimpArgs false
set_option linter.unusedVariables false
namespace Go.Proofs.Ythjjfdbkggiaeaa
open Go Go.RowKit

section
variable {P : Program} {B : Nat} {w0 : World} {X : Nat → Prop} {μ : Mu} {σ : Sto} {w : World}

theorem Rel.trunc (h : Rel B w0 X μ σ w) {b : Nat} {k : Blk} (hb : σ b = some k) (n : Nat) : Rel B w0 X μ (upd σ b { k with es := k.es.take n }) w := by
  have look : ∀ c kc, upd σ b { k with es := k.es.take n } c = some kc → ∃ k0, σ c = some k0 ∧ kc.rw = k0.rw ∧ (∀ L, occ kc L → occ k0 L) := fun c kc hc => by
    by_cases e : c = b
    · subst e
      rw [upd_eq] at hc; cases hc
      exact ⟨k, hb, rfl, fun L ho => ho.imp (fun h1 h2 => h1 (by simp [h2])) id⟩
    · rw [upd_ne _ _ _ _ e] at hc
      exact ⟨kc, hc, rfl, fun L ho => ho⟩
  refine ⟨h.keep, h.big, fun c kc hc => ?_, fun c c' k1 k2 L1 L2 hne hc hc' hL1 hL2 hr hC ho => ?_, h.fin⟩
  · by_cases e : c = b
    · subst e
      rw [upd_eq] at hc; cases hc
      obtain ⟨L, hL, hR⟩ := h.blk c k hb
      refine ⟨L, hL, hR.sz, hR.pos, fun e he => hR.len e (List.mem_of_mem_take he), fun i e he => hR.rd i e ?_, fun hr => ?_⟩
      · rw [List.getElem?_take] at he
        split at he
        · exact he
        · cases he
      · rcases hR.own hr with ⟨h1, h2⟩ | ⟨g, cs, h1, h2, h3, h4, h5, h6⟩
        · exact .inl ⟨by simp [h1], h2⟩
        · exact .inr ⟨g, cs, h1, h2, h3, h4, by simp; omega, h6⟩
    · rw [upd_ne _ _ _ _ e] at hc
      exact h.blk c kc hc
  · obtain ⟨k1', h1, e1, _⟩ := look c k1 hc
    obtain ⟨k2', h2, _, f2⟩ := look c' k2 hc'
    exact h.sep c c' k1' k2' L1 L2 hne h1 h2 hL1 hL2 (e1 ▸ hr) hC (f2 _ ho)

/-- A block under another name. -/
theorem Rel.rename (h : Rel B w0 X μ σ w) {b M : Nat} {k : Blk} {L : Loc} (hb : σ b = some k) (hL : μ b = some L) (hM : μ M = none) : Rel B w0 X (upd μ M L) (upd (Go.Proofs.Ythjjfdbkggiaeaa.del σ b) M k) w := by
  have hbM : b ≠ M := fun e => by subst e; rw [hM] at hL; cases hL
  have hsub := Sub.upd hM L
  have look : ∀ c kc Lc, upd (Go.Proofs.Ythjjfdbkggiaeaa.del σ b) M k c = some kc → upd μ M L c = some Lc → ∃ d, σ d = some kc ∧ μ d = some Lc ∧ (c = M ∧ d = b ∨ c ≠ M ∧ c ≠ b ∧ d = c) := fun c kc Lc hc hLc => by
    by_cases e : c = M
    · subst e
      rw [upd_eq] at hc hLc; cases hc; cases hLc
      exact ⟨b, hb, hL, .inl ⟨rfl, rfl⟩⟩
    · rw [upd_ne _ _ _ _ e] at hc hLc
      by_cases e2 : c = b
      · subst e2; rw [del_eq] at hc; cases hc
      · rw [del_ne _ _ _ e2] at hc
        exact ⟨c, hc, hLc, .inr ⟨e, e2, rfl⟩⟩
  refine ⟨h.keep, h.big, fun c kc hc => ?_, fun c c' k1 k2 L1 L2 hne hc hc' hL1 hL2 hr hC ho => ?_, ?_⟩
  · by_cases e : c = M
    · subst e
      rw [upd_eq] at hc; cases hc
      obtain ⟨L0, hL0, hR⟩ := h.blk b k hb
      rw [hL] at hL0; cases hL0
      exact ⟨L, upd_eq _ _ _, hR.keep hsub fun _ => rfl⟩
    · rw [upd_ne _ _ _ _ e] at hc
      by_cases e2 : c = b
      · subst e2; rw [del_eq] at hc; cases hc
      · rw [del_ne _ _ _ e2] at hc
        obtain ⟨L0, hL0, hR⟩ := h.blk c kc hc
        exact ⟨L0, hsub _ _ hL0, hR.keep hsub fun _ => rfl⟩
  · obtain ⟨d1, s1, m1, c1⟩ := look c k1 L1 hc hL1
    obtain ⟨d2, s2, m2, c2⟩ := look c' k2 L2 hc' hL2
    refine h.sep d1 d2 k1 k2 L1 L2 ?_ s1 s2 m1 m2 hr hC ho
    rcases c1 with ⟨a1, a2⟩ | ⟨a1, a2, a3⟩ <;> rcases c2 with ⟨b1, b2⟩ | ⟨b1, b2, b3⟩
    · exact absurd (a1.trans b1.symm) hne
    · rw [a2, b3]; exact Ne.symm b2
    · rw [a3, b2]; exact a2
    · rw [a3, b3]; exact hne
  · obtain ⟨K, hK⟩ := h.fin
    refine ⟨max K (M + 1), fun c hc => ?_⟩
    rw [upd_ne _ _ _ _ (by omega)]
    exact hK c (by omega)

theorem run_append_zero {t ty e : TypeId} {i : TypeInfo} (ht : P.underlying t = some (.slice e)) (hi : P.info? e = some i) (base y : Option Addr) (n m c : Nat) (hnm : n ≤ m) (w : World) :
    (Builtin.append_ #[t, t] ty #[.slice base n m, .slice y 0 c]).run P w = .ok (.slice base n m) w := by
  cases base <;> cases y <;> simp [Builtin.append_, run_underlying ht, sizeOf, typeInfo, hi, Builtin.lenOf, Builtin.firstCells, loadCells, loadCellsFrom, storeCells, hnm]

/-- The elements of a slice. -/
def elems (s : Nat) (x : AV) (σ : Sto) : Option (List (List AV)) :=
  match x with
  | .sl b o n _ sz => match σ b with
    | some k => if sz = s ∧ k.sz = s ∧ o + n ≤ k.es.length then some ((k.es.drop o).take n) else if n = 0 then some [] else none
    | none => if n = 0 then some [] else none
  | _ => none
theorem elems_ok {s : Nat} {b o n : Nat} {cap : Option Nat} {sz : Nat} {c : Value} {es : List (List AV)} (hR : Rel B w0 X μ σ w) (hx : VRel μ (.sl b o n cap sz) c) (h : elems s (.sl b o n cap sz) σ = some es) :
    ∃ (y : Option Addr) (m : Nat) (cs : List Value), c = .slice y n m ∧ n ≤ m ∧ es.length = n ∧ (∀ e ∈ es, e.length = s) ∧ cs.length = n * s ∧ VRels μ es.flatten cs ∧ (∀ u ∈ cs, u.oneCell' = true) ∧
      (0 < n → ∃ a, y = some a ∧ ∀ j u, cs[j]? = some u → w.cell? (a.add j) = some u) := by
  simp only [VRel] at hx
  obtain ⟨y, m, rfl, hnm, hcap, hm⟩ := hx
  have zero : es = [] → n = 0 → ∃ (y' : Option Addr) (m' : Nat) (cs : List Value), Value.slice y n m = .slice y' n m' ∧ n ≤ m' ∧ es.length = n ∧ (∀ e ∈ es, e.length = s) ∧ cs.length = n * s ∧ VRels μ es.flatten cs ∧ (∀ u ∈ cs, u.oneCell' = true) ∧
      (0 < n → ∃ a, y' = some a ∧ ∀ j u, cs[j]? = some u → w.cell? (a.add j) = some u) := fun h1 h2 => by
    subst h1; subst h2
    exact ⟨y, m, [], rfl, hnm, rfl, by simp, by simp, by simp [VRels], by simp, fun h => absurd h (by omega)⟩
  unfold elems at h
  simp only at h
  split at h
  · rename_i k hk
    split at h
    · rename_i hc
      obtain ⟨rfl, hks, hle⟩ := hc
      cases h
      obtain ⟨L, hL, hB⟩ := hR.blk b k hk
      obtain ⟨cs, h1, h2, h3, h4⟩ := hB.cells o n hle
      refine ⟨y, m, cs, rfl, hnm, by simp; omega, fun e he => by rw [← hks]; exact hB.len e (List.mem_of_mem_drop (List.mem_of_mem_take he)), by rw [h1, hks], h3, h4, fun h0 => ?_⟩
      obtain ⟨L', hL', _, hy⟩ := hm.resolve_left (fun e => by have := hcap 0 e; omega)
      obtain ⟨hy, _⟩ := hy (by omega)
      rw [hL] at hL'; cases hL'
      refine ⟨_, hy, ?_⟩
      rw [hks] at h2
      exact h2
    · split at h <;> try (cases h; done)
      rename_i h0
      cases h
      exact zero rfl h0
  · split at h <;> try (cases h; done)
    rename_i h0
    cases h
    exact zero rfl h0

theorem After.grown {M : Nat} (hR : Rel B w0 X μ σ w) (hM : μ M = none) {e : TypeId} {s n : Nat} (hs : 0 < s) {es : List (List AV)} {cs : List Value} {z : Array Value} {cap : Nat} (hn : 0 < n) (hcap : n ≤ cap) (hz : z.size = s)
    (hes : es.length = n) (hl : ∀ e ∈ es, e.length = s) (hc : cs.length = n * s) (hv : VRels μ es.flatten cs) (h1 : ∀ u ∈ cs, u.oneCell' = true) (A : Array Value) (hA : A = cs.toArray) :
    After B w0 X μ M (.sl M 0 n none s, upd σ M ⟨e, s, es, true⟩, M + 1) (.slice (some ⟨w.heap.size, 0, none⟩) n cap) (w.drew.alloc (.cells (A ++ Builtin.zeroCells z (cap - n)) e)) (upd μ M ⟨⟨w.heap.size, 0, none⟩, cap, s⟩) := by
  subst hA
  have := After.alloc (M := M) hR.drew hM (t := e) (sz := s) (C := cap) (es := es) (cs := cs.toArray ++ Builtin.zeroCells z (cap - n)) hs (by omega) ?_ (by omega) hl ?_ (v := .sl M 0 n none s) (u := .slice (some ⟨w.heap.size, 0, none⟩) n cap) ?_
  · exact this
  · rw [Array.size_append, List.size_toArray, size_zeroCells, hc, hz, ← Nat.add_mul]
    congr 1
    omega
  · intro i e he c v hq
    obtain ⟨u, hu, h2, h3⟩ := rd_flat hl hv h1 i e he c v hq
    refine ⟨u, ?_, h2, h3⟩
    have hlt := (List.getElem?_eq_some_iff.1 hu).1
    rw [Array.getElem?_append_left (by simpa using hlt)]
    simpa using hu
  · simp only [VRel]
    exact ⟨_, _, rfl, hcap, fun k hk => (by cases hk), .inr ⟨_, upd_eq _ _ _, rfl, fun _ => ⟨by simp [Addr.add], by simp⟩⟩⟩

def fApp (e : Option TypeId) (s : Option Nat) (by_ : Nat) (x y : AV) (σ : Sto) (M : Nat) : Option Out :=
  match e with
  | some e => match s with
    | some s => match x with
      | .sl b o n cap sz => match elems s y σ with
        | some news =>
          if 0 < s ∧ (n + news.length) * by_ ≤ 140737488355328 ∧ n + news.length ≤ 4611686018427387904 then
            match cap with
            | some c => if n = 0 ∧ c = 0 then some (.sl M 0 news.length none s, upd σ M ⟨e, s, news, true⟩, M + 1)
              else if c < n + news.length ∧ 0 < news.length then match elems s (.sl b o n cap sz) σ with
                | some olds => some (.sl M 0 (n + news.length) none s, upd σ M ⟨e, s, olds ++ news, true⟩, M + 1)
                | none => none
              else none
            | none => match σ b with
              | some k => if o = 0 ∧ k.rw = true ∧ sz = s ∧ k.sz = s ∧ k.ty = e ∧ n ≤ k.es.length then some (.sl M 0 (n + news.length) none s, upd (del σ b) M ⟨e, s, k.es.take n ++ news, true⟩, M + 1) else none
              | none => none
          else none
        | none => none
      | _ => none
    | none => none
  | none => none

theorem fApp_ok {t ty : TypeId} {M : Nat} {x y : AV} {c d : Value} {o : Out} (hR : Rel B w0 X μ σ w) (hM : μ M = none) (hx : VRel μ x c) (hy : VRel μ y d)
    (hz : ∀ e, elO P t = some e → (zrO P e).map (·.length) = szO P e) (hy2 : ∃ b o n cap sz, y = .sl b o n cap sz)
    (h : fApp (elO P t) ((elO P t).bind (szO P)) (((elO P t).map (byO P)).getD 0) x y σ M = some o) :
    ∃ u w' μ', (Builtin.append_ #[t, t] ty #[c, d]).run P w = .ok u w' ∧ After B w0 X μ M o u w' μ' := by
  obtain ⟨b2, o2, n2, cap2, sz2, rfl⟩ := hy2
  unfold fApp at h
  split at h <;> try (cases h; done)
  rename_i e he
  rw [he] at h
  simp only [Option.bind_some, Option.map_some, Option.getD_some] at h
  split at h <;> try (cases h; done)
  rename_i s hs
  split at h <;> try (cases h; done)
  rename_i b o' n cap sz
  split at h <;> try (cases h; done)
  rename_i news hnews
  split at h <;> try (cases h; done)
  rename_i hcnd
  obtain ⟨hs0, hby, hbig⟩ := hcnd
  have hz' := hz e he
  unfold elO at he
  split at he <;> try (cases he; done)
  rename_i hu
  cases he
  obtain ⟨y2, m2, ns, rfl, hnm2, hnl, hne, hnsl, hnv, hn1, hna⟩ := elems_ok hR hy hnews
  unfold byO at hby
  unfold zrO at hz'
  unfold szO at hs hz'
  cases hi : P.info? e with
  | none => simp [hi] at hs
  | some ie =>
    cases hzz : ie.zero with
    | none => simp [hi, hzz] at hz'
    | some zv =>
      simp only [hi, hzz, Option.bind_some, Option.map_some, Option.some.injEq, Option.getD_some, List.length_map, Array.length_toList] at hz' hs hby
      have hzs : zv.cells.size = s := by rw [← hs]; exact hz'
      have hlen := hnl
      rw [hlen] at h hby hbig
      have h0 := hM
      split at h
      · rename_i cp
        split at h
        · -- nothing is there yet
          rename_i hc0
          obtain ⟨rfl, rfl⟩ := hc0
          cases h
          simp only [VRel] at hx
          obtain ⟨y1, m1, rfl, _, hm1, _⟩ := hx
          have := hm1 0 rfl
          subst this
          rcases Nat.eq_zero_or_pos n2 with rfl | hpos
          · have hnil : news = [] := List.eq_nil_of_length_eq_zero hlen
            subst hnil
            refine ⟨_, _, _, run_append_zero hu hi y1 y2 0 0 m2 (Nat.le_refl _) w, ?_, hR.virt h0 e s hs0 (free_of hR h0) ⟨0, 0, none⟩, Sub.upd h0 _, .inr ⟨rfl, fun b hb => upd_ne _ _ _ _ hb⟩⟩
            simp only [VRel]
            exact ⟨_, _, rfl, Nat.le_refl _, fun k hk => (by cases hk), .inr ⟨_, upd_eq _ _ _, rfl, fun h => absurd h (by omega)⟩⟩
          · obtain ⟨a2, rfl, hcells⟩ := hna hpos
            have hA : ns.toArray = ns.toArray := rfl
            cases y1 with
            | none =>
              have hrun := run_append_nil (P := P) w t ty e ie zv hu hi hzz a2 n2 m2 ns (by rw [hnsl, hs]) hcells hpos (by omega) (by have := hby; rw [Nat.zero_add] at this; omega)
              exact ⟨_, _, _, hrun, After.grown hR hM hs0 hpos (grownCap_ge _ _ _ _) hzs hlen hne hnsl hnv hn1 _ rfl⟩
            | some a1 =>
              have hrun := run_append_grow (P := P) w t ty e ie zv hu hi hzz a1 0 0 [] (by simp) (by simp) a2 n2 m2 ns (by rw [hnsl, hs]) hcells (by omega) (by omega) (growslice_fits (by omega) (by simpa using hby))
              simp only [Nat.zero_add] at hrun
              exact ⟨_, _, _, hrun, After.grown hR hM hs0 hpos (grownCap_ge _ _ _ _) hzs hlen hne hnsl hnv hn1 _ (by simp)⟩
        · split at h <;> try (cases h; done)
          rename_i hnc hgr
          obtain ⟨hlt, hpos⟩ := hgr
          split at h <;> try (cases h; done)
          rename_i olds holds
          cases h
          obtain ⟨y1, m1, os, hc1, hnm1, hol, hoe, hosl, hov, ho1, hoa⟩ := elems_ok hR hx holds
          subst hc1
          obtain ⟨a2, rfl, hcells⟩ := hna hpos
          have hm1 : m1 = cp := by
            simp only [VRel] at hx
            obtain ⟨y', m', hyy, _, hk, _⟩ := hx
            cases hyy
            exact hk cp rfl
          subst hm1
          have hes : (olds ++ news).length = n + n2 := by simp [hol, hlen]
          have hle : ∀ e ∈ olds ++ news, e.length = s := fun e he => by
            rcases List.mem_append.1 he with he | he
            · exact hoe e he
            · exact hne e he
          have hvv : VRels μ (olds ++ news).flatten (os ++ ns) := by rw [List.flatten_append]; exact hov.append hnv
          have h11 : ∀ u ∈ os ++ ns, u.oneCell' = true := fun u hu => by
            rcases List.mem_append.1 hu with hu | hu
            · exact ho1 u hu
            · exact hn1 u hu
          have hcl : (os ++ ns).length = (n + n2) * s := by rw [List.length_append, hosl, hnsl, Nat.add_mul]
          cases y1 with
          | none =>
            have hn0 : n = 0 := by
              rcases Nat.eq_zero_or_pos n with h | h
              · exact h
              · obtain ⟨a, ha, _⟩ := hoa h; cases ha
            subst hn0
            have hm0 : m1 = 0 := by
              simp only [VRel] at hx
              obtain ⟨y', m', hyy, _, hk0, hk⟩ := hx
              cases hyy
              rcases hk with hk | ⟨_, _, _, hk⟩
              · exact hk0 0 hk
              · rcases Nat.eq_zero_or_pos m1 with h | h
                · exact h
                · obtain ⟨ha, _⟩ := hk h; cases ha
            subst hm0
            exact absurd ⟨rfl, rfl⟩ hnc
          | some a1 =>
            have hoc : ∀ j u, os[j]? = some u → w.cell? (a1.add j) = some u := fun j u hu => by
              rcases Nat.eq_zero_or_pos n with h | h
              · have : os = [] := List.eq_nil_of_length_eq_zero (by rw [hosl, h]; simp)
                rw [this] at hu; simp at hu
              · obtain ⟨a, ha, hb⟩ := hoa h
                cases ha
                exact hb j u hu
            have hrun := run_append_grow (P := P) w t ty e ie zv hu hi hzz a1 n m1 os (by rw [hosl, hs]) hoc a2 n2 m2 ns (by rw [hnsl, hs]) hcells (by omega) (by omega) (growslice_fits (by omega) hby)
            exact ⟨_, _, _, hrun, After.grown hR hM hs0 (by omega) (grownCap_ge _ _ _ _) hzs hes hle hcl hvv h11 _ (by simp)⟩
      · split at h <;> try (cases h; done)
        rename_i k hk
        split at h <;> try (cases h; done)
        rename_i hkc
        obtain ⟨rfl, hrw, rfl, hks, hkt, hkn⟩ := hkc
        cases h
        obtain ⟨L, hL, hB⟩ := hR.blk b k hk
        have hx' := hx
        simp only [VRel] at hx
        obtain ⟨y1, m1, rfl, hnm1, _, hm1⟩ := hx
        have hm1 := hm1.resolve_left (by simp)
        have hbM : b ≠ M := fun e => by subst e; rw [h0] at hL; cases hL
        obtain ⟨os, hosl, hoc, hov, ho1⟩ := hB.cells 0 n (by omega)
        simp only [Nat.zero_mul, List.drop_zero, add_add, Nat.zero_add] at hoc hov
        rw [hks] at hosl
        have hol : (k.es.take n).length = n := by simp; omega
        have hes : (k.es.take n ++ news).length = n + n2 := by simp [hlen]; omega
        have hle : ∀ e ∈ k.es.take n ++ news, e.length = sz := fun e he => by
          rcases List.mem_append.1 he with he | he
          · rw [← hks]; exact hB.len e (List.mem_of_mem_take he)
          · exact hne e he
        have hvv : VRels μ (k.es.take n ++ news).flatten (os ++ ns) := by rw [List.flatten_append]; exact hov.append hnv
        have h11 : ∀ u ∈ os ++ ns, u.oneCell' = true := fun u hu => by
          rcases List.mem_append.1 hu with hu | hu
          · exact ho1 u hu
          · exact hn1 u hu
        have hcl : (os ++ ns).length = (n + n2) * sz := by rw [List.length_append, hosl, hnsl, Nat.add_mul]
        by_cases hroom : n + n2 ≤ m1
        · -- in place
          rcases Nat.eq_zero_or_pos n2 with hz2 | hpos
          · subst hz2
            have hnil : news = [] := List.eq_nil_of_length_eq_zero hlen
            subst hnil
            have ht := (hR.trunc hk n).rename (M := M) (upd_eq _ _ _) hL h0
            have e1 : upd (del (upd σ b { k with es := k.es.take n }) b) M { k with es := k.es.take n } = upd (del σ b) M ⟨e, sz, k.es.take n ++ [], true⟩ := by
              have hblk : ({ k with es := k.es.take n } : Blk) = ⟨e, sz, k.es.take n ++ [], true⟩ := by
                show Blk.mk k.ty k.sz _ k.rw = _
                rw [hkt, hks, hrw]; simp
              rw [hblk]
              congr 1
              funext c
              by_cases hc : c = b
              · subst hc; simp [del_eq]
              · rw [del_ne _ _ _ hc, del_ne _ _ _ hc, upd_ne _ _ _ _ hc]
            rw [e1] at ht
            refine ⟨_, _, _, run_append_zero hu hi y1 y2 n m1 m2 hnm1 w, ?_, ht, Sub.upd h0 _, .inr ⟨rfl, fun b hb => upd_ne _ _ _ _ hb⟩⟩
            simp only [VRel]
            refine ⟨_, _, rfl, hnm1, fun k hk => (by cases hk), ?_⟩
            obtain ⟨L', hL', h2, h3⟩ := hm1
            rw [hL] at hL'; cases hL'
            exact .inr ⟨L, upd_eq _ _ _, h2, h3⟩
          · obtain ⟨a2, rfl, hcells⟩ := hna hpos
            obtain ⟨L', hL', hLs, hm1⟩ := hm1
            obtain ⟨hy1, hC⟩ := hm1 (by omega)
            rw [hL] at hL'; cases hL'
            rcases hB.own hrw with ⟨_, hC0⟩ | ⟨g, cs, ha, hbx, hg, hcs, hen, hC0⟩
            · omega
            have hy1' : y1 = some ⟨g, 0, none⟩ := by rw [hy1, ha]; simp [Addr.add]
            subst hy1'
            rw [hkt] at hg
            have hfit : n * ie.size + ns.length ≤ cs.size := by
              rw [hnsl, hcs, hks, hs, ← Nat.add_mul]
              exact Nat.mul_le_mul_right _ (by omega)
            have hrun := run_append_room (P := P) w t ty e ie hu hi g n m1 cs hg a2 n2 m2 ns (by rw [hnsl, hs]) hcells hn1 hroom hfit
            have hcsl : (cs.toList.take (n * ie.size)).length = n * sz := by rw [List.length_take, Array.length_toList, hs]; rw [hs] at hfit; omega
            have htk : cs.toList.take (n * ie.size) = os := by
              apply List.ext_getElem?
              intro j
              rcases Nat.lt_or_ge j (n * sz) with hj | hj
              · have hjo : j < os.length := by omega
                have := hoc j os[j] (List.getElem?_eq_getElem hjo)
                rw [ha, add_row, cell_of_row _ _ _ _ _ _ hg] at this
                rw [List.getElem?_take_of_lt (by rw [hs]; exact hj), List.getElem?_eq_getElem hjo]
                simpa using this
              · rw [List.getElem?_eq_none (by omega), List.getElem?_eq_none (by omega)]
            have hset := hR.setRow hk hL hrw ha (by rw [hkt]; exact hg) hbx hC0 (cs.toList.take (n * ie.size) ++ ns ++ cs.toList.drop (n * ie.size + ns.length)).toArray (k.es.take n ++ news)
              (by simp only [List.size_toArray, List.length_append, List.length_drop, Array.length_toList, hcsl]; rw [hs] at hfit ⊢; omega) hcs (by rw [hes]; omega) (by rw [hks]; exact hle) (by
                intro i e' he' c v hv
                rw [htk, hks]
                obtain ⟨u, hu', h2, h3⟩ := rd_flat hle hvv h11 i e' he' c v hv
                refine ⟨u, ?_, h2, h3⟩
                rw [List.getElem?_toArray, List.getElem?_append_left (List.getElem?_eq_some_iff.1 hu').1]
                exact hu')
            have ht := hset.rename (M := M) (upd_eq _ _ _) hL h0
            have e1 : upd (del (upd σ b { k with es := k.es.take n ++ news }) b) M { k with es := k.es.take n ++ news } = upd (del σ b) M ⟨e, sz, k.es.take n ++ news, true⟩ := by
              have hblk : ({ k with es := k.es.take n ++ news } : Blk) = ⟨e, sz, k.es.take n ++ news, true⟩ := by
                show Blk.mk k.ty k.sz _ k.rw = _
                rw [hkt, hks, hrw]
              rw [hblk]
              congr 1
              funext c
              by_cases hc : c = b
              · subst hc; simp [del_eq]
              · rw [del_ne _ _ _ hc, del_ne _ _ _ hc, upd_ne _ _ _ _ hc]
            rw [e1] at ht
            refine ⟨_, _, _, hrun, ?_, ht, Sub.upd h0 _, .inr ⟨rfl, fun b hb => upd_ne _ _ _ _ hb⟩⟩
            simp only [VRel]
            exact ⟨_, _, rfl, by omega, fun k hk => (by cases hk), .inr ⟨L, upd_eq _ _ _, hLs, fun _ => ⟨by rw [ha]; simp [Addr.add], hC⟩⟩⟩
        · have hpos : 0 < n2 := by omega
          obtain ⟨a2, rfl, hcells⟩ := hna hpos
          have hR' := hR.del b
          have hoc' : ∀ a1, y1 = some a1 → ∀ j u, os[j]? = some u → w.cell? (a1.add j) = some u := fun a1 hy j u hu => by
            rcases Nat.eq_zero_or_pos n with h | h
            · have : os = [] := List.eq_nil_of_length_eq_zero (by rw [hosl, h]; simp)
              rw [this] at hu; simp at hu
            · obtain ⟨L', hL', _, hm2⟩ := hm1
              obtain ⟨hy1, _⟩ := hm2 (by omega)
              rw [hL] at hL'; cases hL'
              rw [hy1] at hy; cases hy
              rw [add_add]
              simpa using hoc j u hu
          cases y1 with
          | none =>
            have hm0 : m1 = 0 := by
              obtain ⟨_, _, _, hm2⟩ := hm1
              rcases Nat.eq_zero_or_pos m1 with h | h
              · exact h
              · obtain ⟨ha, _⟩ := hm2 h; cases ha
            subst hm0
            have hn0 : n = 0 := by omega
            subst hn0
            have hos0 : os = [] := List.eq_nil_of_length_eq_zero (by simpa using hosl)
            subst hos0
            have hrun := run_append_nil (P := P) w t ty e ie zv hu hi hzz a2 n2 m2 ns (by rw [hnsl, hs]) hcells hpos (by omega) (by have := hby; rw [Nat.zero_add] at this; omega)
            simp only [Nat.zero_add, List.nil_append] at hes hcl hvv h11 ⊢
            exact ⟨_, _, _, hrun, After.grown hR' hM hs0 hpos (grownCap_ge _ _ _ _) hzs hes hle hcl hvv h11 _ rfl⟩
          | some a1 =>
            have hrun := run_append_grow (P := P) w t ty e ie zv hu hi hzz a1 n m1 os (by rw [hosl, hs]) (hoc' a1 rfl) a2 n2 m2 ns (by rw [hnsl, hs]) hcells (by omega) (by omega) (growslice_fits (by omega) hby)
            exact ⟨_, _, _, hrun, After.grown hR' hM hs0 (by omega) (grownCap_ge _ _ _ _) hzs hes hle hcl hvv h11 _ (by simp)⟩

end
end Go.Proofs.Ythjjfdbkggiaeaa
