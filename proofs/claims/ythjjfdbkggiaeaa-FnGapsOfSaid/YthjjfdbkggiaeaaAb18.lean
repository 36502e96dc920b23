/- An abstract store for walks, part 18: append of zero elements (append of a make), held against the model's own operation. No condition: nothing of a program stands here. -/
import Derived.Test.YthjjfdbkggiaeaaAb7
set_option linter.unusedSimpArgs false
set_option linter.unusedVariables false
namespace Go.Proofs.Ythjjfdbkggiaeaa
open Go Go.RowKit

section
variable {P : Program}
theorem run_appendz_room (w : World) (t u ty e : TypeId) (i : TypeInfo) (z : Value) (kz : IntKind) (ht : P.underlying t = some (.slice e)) (hu : P.underlying u = some (.int kz)) (hi : P.info? e = some i) (hz : i.zero = some z)
    (g sLen sCap : Nat) (cur : Array Value) (hg : w.heap[g]? = some (.cells cur e (0, 0))) (k : IntKind) (n : Nat) (ns : List Value) (hns : (Builtin.zeroCells z.cells n).toList = ns) (hn : 0 < n) (hs : 0 < i.size) (hb : (n : Int) * i.bytes ≤ 281474976710656 ∧ n ≤ 4611686018427387904) (h1 : ∀ u ∈ ns, u.oneCell' = true)
    (hroom : sLen + n ≤ sCap) (hfit : sLen * i.size + ns.length ≤ cur.size) :
    (Builtin.append_ #[t, u] ty #[.slice (some ⟨g, 0, none⟩) sLen sCap, .int k (n : Int)]).run P w =
      .ok (.slice (some ⟨g, 0, none⟩) (sLen + n) sCap) (w.setRow g (cur.toList.take (sLen * i.size) ++ ns ++ cur.toList.drop (sLen * i.size + ns.length)).toArray) := by
  have hst := run_storeCells_at P g (sLen * i.size) e ns 0 cur w hg (by simpa using hfit) h1
  simp only [Nat.add_zero] at hst
  have hw : IntKind.i64.wrap (n : Int) = (n : Int) := by rw [IntKind.wrap_i64]; omega
  have hneg : ¬ ((n : Int) < 0) := by omega
  have hbig : ¬ (281474976710656 < (n : Int) * i.bytes) := by omega
  have h0 : ¬ (n * i.size = 0) := Nat.mul_ne_zero (by omega) (by omega)
  have h0' : ¬ (n = 0 ∨ i.size = 0) := by omega
  have h0m : ¬ (n * i.size = 0) := Nat.mul_ne_zero (by omega) (by omega)
  simp [Builtin.append_, run_underlying ht, run_underlying hu, sizeOf, typeInfo, zeroValue, hi, hz, asInt, asIntOf, hw, hneg, hbig, h0', h0m, hroom, Addr.add_lit, hns, hst]
theorem run_appendz_grow (w : World) (t u ty e : TypeId) (i : TypeInfo) (z : Value) (kz : IntKind) (ht : P.underlying t = some (.slice e)) (hu : P.underlying u = some (.int kz)) (hi : P.info? e = some i) (hz : i.zero = some z)
    (b : Addr) (sLen sCap : Nat) (olds : List Value) (hlo : olds.length = sLen * i.size) (holds : ∀ (j : Nat) (v : Value), olds[j]? = some v → w.cell? (b.add j) = some v)
    (k : IntKind) (n : Nat) (ns : List Value) (hns : (Builtin.zeroCells z.cells n).toList = ns) (hn : 0 < n) (hs : 0 < i.size) (hb : (n : Int) * i.bytes ≤ 281474976710656 ∧ n ≤ 4611686018427387904)
    (hg : sCap < sLen + n) (h63 : ((sLen + n : Nat) : Int) ≤ 9223372036854775807) (hfit : Builtin.nextslicecap (sLen + n) sCap * i.bytes ≤ 281474976710656) :
    (Builtin.append_ #[t, u] ty #[.slice (some b) sLen sCap, .int k (n : Int)]).run P w =
      .ok (.slice (some ⟨w.heap.size, 0, none⟩) (sLen + n) (grownCap w (sLen + n) sCap e))
        (w.drew.alloc (.cells (olds.toArray ++ ns.toArray ++ Builtin.zeroCells z.cells (grownCap w (sLen + n) sCap e - (sLen + n))) e)) := by
  have hn' : ¬ (sLen + n ≤ sCap) := by omega
  have h63' : ¬ (9223372036854775807 < ((sLen : Int) + (n : Int))) := by omega
  have h48' : ¬ (281474976710656 < Builtin.nextslicecap (sLen + n) sCap * i.bytes) := by omega
  have hfo := run_firstCells_some (P := P) w.drew i.size sLen b sLen sCap olds hlo (by simpa using holds)
  have hw : IntKind.i64.wrap (n : Int) = (n : Int) := by rw [IntKind.wrap_i64]; omega
  have hneg : ¬ ((n : Int) < 0) := by omega
  have hbig : ¬ (281474976710656 < (n : Int) * i.bytes) := by omega
  have h0' : ¬ (n = 0 ∨ i.size = 0) := by omega
  have h0m : ¬ (n * i.size = 0) := Nat.mul_ne_zero (by omega) (by omega)
  have hmx : ¬ (IntKind.i64.max < (sLen : Int) + (n : Int)) := by show ¬ (9223372036854775807 < _); omega
  simp [Builtin.append_, run_underlying ht, run_underlying hu, sizeOf, typeInfo, zeroValue, hi, hz, asInt, asIntOf, hw, hneg, hbig, h0', h0m, hn', h63', h48', hmx, Question.forced, hfo, newRow, grownCap]
  subst hns
  congr 2
  apply Array.ext'
  simp [List.append_assoc]
theorem run_appendz_nil (w : World) (t u ty e : TypeId) (i : TypeInfo) (z : Value) (kz : IntKind) (ht : P.underlying t = some (.slice e)) (hu : P.underlying u = some (.int kz)) (hi : P.info? e = some i) (hz : i.zero = some z)
    (k : IntKind) (n : Nat) (ns : List Value) (hns : (Builtin.zeroCells z.cells n).toList = ns) (hn : 0 < n) (hs : 0 < i.size) (hb : (n : Int) * i.bytes ≤ 281474976710656 ∧ n ≤ 4611686018427387904)
    (h63 : (n : Int) ≤ 9223372036854775807) (hfit : Builtin.nextslicecap n 0 * i.bytes ≤ 281474976710656) :
    (Builtin.append_ #[t, u] ty #[.slice none 0 0, .int k (n : Int)]).run P w =
      .ok (.slice (some ⟨w.heap.size, 0, none⟩) n (grownCap w n 0 e))
        (w.drew.alloc (.cells (ns.toArray ++ Builtin.zeroCells z.cells (grownCap w n 0 e - n)) e)) := by
  have hn' : ¬ (n ≤ 0) := by omega
  have h63' : ¬ (9223372036854775807 < (n : Int)) := by omega
  have h48' : ¬ (281474976710656 < Builtin.nextslicecap n 0 * i.bytes) := by omega
  have hw : IntKind.i64.wrap (n : Int) = (n : Int) := by rw [IntKind.wrap_i64]; omega
  have hneg : ¬ ((n : Int) < 0) := by omega
  have hbig : ¬ (281474976710656 < (n : Int) * i.bytes) := by omega
  have h0' : ¬ (n = 0 ∨ i.size = 0) := by omega
  have h0m : ¬ (n * i.size = 0) := Nat.mul_ne_zero (by omega) (by omega)
  have h00 : ¬ n = 0 := by omega
  have hmx : ¬ (IntKind.i64.max < (n : Int)) := by show ¬ (9223372036854775807 < _); omega
  simp [Builtin.append_, Builtin.firstCells, loadCells, loadCellsFrom, run_underlying ht, run_underlying hu, sizeOf, typeInfo, zeroValue, hi, hz, asInt, asIntOf, hw, hneg, hbig, h0', h0m, h00, hn', h63', h48', hmx, Question.forced, newRow, grownCap]
  subst hns
  rfl
end
section
variable {P : Program} {B : Nat} {w0 : World} {X : Nat → Prop} {μ : Mu} {σ : Sto} {w : World}
def fAppZ (e : Option TypeId) (s : Option Nat) (z : Option (List AV)) (by_ : Nat) (x y : AV) (σ : Sto) (M : Nat) : Option Out :=
  match e with
  | some e => match s with
    | some s => match z with
      | some z => match x with
        | .sl b o n none sz => match y with
          | .v (.int _ q) => if 0 < q ∧ 0 < s ∧ z.length = s ∧ (n + q.toNat) * by_ ≤ 140737488355328 ∧ n + q.toNat ≤ 4611686018427387904 then
              match σ b with
              | some k => if o = 0 ∧ k.rw = true ∧ sz = s ∧ k.sz = s ∧ k.ty = e ∧ n ≤ k.es.length then some (.sl M 0 (n + q.toNat) none s, upd (del σ b) M ⟨e, s, k.es.take n ++ List.replicate q.toNat z, true⟩, M + 1) else none
              | none => none
            else none
          | _ => none
        | .sl _ _ 0 (some 0) _ => match y with
          | .v (.int _ q) => if 0 < q ∧ 0 < s ∧ z.length = s ∧ q.toNat * by_ ≤ 140737488355328 ∧ q.toNat ≤ 4611686018427387904 then some (.sl M 0 q.toNat none s, upd σ M ⟨e, s, List.replicate q.toNat z, true⟩, M + 1) else none
          | _ => none
        | _ => none
      | none => none
    | none => none
  | none => none
theorem zc_list (z : Array Value) : ∀ n : Nat, (Builtin.zeroCells z n).toList = (List.replicate n z.toList).flatten := by
  intro n
  simp only [Builtin.zeroCells, Array.toList_map, Array.toList_range]
  induction n with
  | zero => simp
  | succ n ih =>
    rw [Nat.add_mul, Nat.one_mul, List.range_add, List.map_append, ih, List.replicate_succ', List.flatten_append]
    congr 1
    simp only [List.map_map, List.flatten_cons, List.flatten_nil, List.append_nil]
    apply List.ext_getElem
    · simp
    · intro i h1 h2
      simp at h1
      have : (n * z.size + i) % z.size = i := by rw [Nat.mul_comm, Nat.mul_add_mod, Nat.mod_eq_of_lt h1]
      simp [this, h1]
theorem rel_rep {μ : Mu} {l : List AV} {cs : List Value} (h : VRels μ l cs) : ∀ n : Nat, VRels μ (List.replicate n l).flatten (List.replicate n cs).flatten
  | 0 => by simp [VRels]
  | n + 1 => by
    simp only [List.replicate_succ, List.flatten_cons]
    exact h.append (rel_rep h n)
theorem fAppZ_ok {t u ty : TypeId} {kz : IntKind} {M : Nat} {x y : AV} {c d : Value} {o : Out} (hR : Rel B w0 X μ σ w) (hM : μ M = none) (hx : VRel μ x c) (hy : VRel μ y d) (hut : P.underlying u = some (.int kz))
    (hz1 : ∀ e, elO P t = some e → zrOk P e = true)
    (h : fAppZ (elO P t) ((elO P t).bind (szO P)) ((elO P t).bind (zrO P)) (((elO P t).map (byO P)).getD 0) x y σ M = some o) :
    ∃ u' w' μ', (Builtin.append_ #[t, u] ty #[c, d]).run P w = .ok u' w' ∧ After B w0 X μ M o u' w' μ' := by
  unfold fAppZ at h
  split at h <;> try (cases h; done)
  rename_i e he
  have hz1' := hz1 e he
  rw [he] at h
  simp only [Option.bind_some, Option.map_some, Option.getD_some] at h
  split at h <;> try (cases h; done)
  rename_i s hs
  split at h <;> try (cases h; done)
  rename_i z hz
  split at h <;> try (cases h; done)
  rotate_left
  · -- nothing is there yet
    split at h <;> try (cases h; done)
    rename_i kn q
    split at h <;> try (cases h; done)
    rename_i hcnd
    obtain ⟨hq0, hs0, hzl, hby, hbig⟩ := hcnd
    cases h
    obtain ⟨n2, rfl⟩ := Int.eq_ofNat_of_zero_le (show 0 ≤ q by omega)
    simp only [VRel] at hy
    subst hy
    have e0 : (Int.ofNat n2).toNat = n2 := rfl
    simp only [Int.toNat_natCast] at hby hbig ⊢
    have hpos : 0 < n2 := by omega
    unfold elO at he
    split at he <;> try (cases he; done)
    rename_i hu
    cases he
    unfold byO at hby
    unfold zrO at hz
    unfold szO at hs
    unfold zrOk at hz1'
    cases hi : P.info? e with
    | none => simp [hi] at hs
    | some ie =>
    cases hzz : ie.zero with
    | none => simp [hi, hzz] at hz
    | some zv =>
    simp only [hi, hzz, Option.bind_some, Option.map_some, Option.some.injEq, Option.getD_some] at hz hs hby hz1'
    have hzs : zv.cells.size = s := by rw [← hzl, ← hz]; simp
    have hzc : (Builtin.zeroCells zv.cells n2).toList = (List.replicate n2 zv.cells.toList).flatten := zc_list _ _
    have hbz : ((n2 : Nat) : Int) * ie.bytes ≤ 281474976710656 ∧ n2 ≤ 4611686018427387904 := by
      have h2 : ((n2 * ie.bytes : Nat) : Int) ≤ 281474976710656 := by omega
      rw [Int.natCast_mul] at h2
      exact ⟨h2, by omega⟩
    generalize hnw : List.replicate n2 z = news at *
    generalize hng : (List.replicate n2 zv.cells.toList).flatten = ns at *
    have hlen : news.length = n2 := by rw [← hnw]; simp
    have hnsl : ns.length = n2 * s := by rw [← hng]; simp [hzs]
    have hne : ∀ e ∈ news, e.length = s := fun e he => by
      rw [← hnw] at he
      rw [(List.mem_replicate.1 he).2, hzl]
    have hnv : VRels μ news.flatten ns := by
      rw [← hnw, ← hng, ← hz]
      exact rel_rep (ofVs_rel μ _) n2
    have hn1 : ∀ u ∈ ns, u.oneCell' = true := fun u hu' => by
      rw [← hng] at hu'
      obtain ⟨l, hl, hul⟩ := List.mem_flatten.1 hu'
      rw [(List.mem_replicate.1 hl).2] at hul
      exact List.all_eq_true.1 hz1' u hul
    simp only [VRel] at hx
    obtain ⟨y1, m1, rfl, _, hm1, _⟩ := hx
    have := hm1 0 rfl
    subst this
    cases y1 with
    | none =>
      have hrun := run_appendz_nil (P := P) w t u ty e ie zv kz hu hut hi hzz kn n2 ns hzc hpos (by rw [hs]; omega) hbz (by omega) (growslice_fits (by omega) (by have := hby; simpa using this))
      exact ⟨_, _, _, hrun, After.grown hR hM hs0 hpos (grownCap_ge _ _ _ _) hzs hlen hne hnsl hnv hn1 _ rfl⟩
    | some a1 =>
      have hrun := run_appendz_grow (P := P) w t u ty e ie zv kz hu hut hi hzz a1 0 0 [] (by simp) (by simp) kn n2 ns hzc hpos (by rw [hs]; omega) hbz (by omega) (by omega) (growslice_fits (by omega) (by simpa using hby))
      simp only [Nat.zero_add] at hrun
      exact ⟨_, _, _, hrun, After.grown hR hM hs0 hpos (grownCap_ge _ _ _ _) hzs hlen hne hnsl hnv hn1 _ (by simp)⟩
  rename_i b o' n sz
  split at h <;> try (cases h; done)
  rename_i kn q
  split at h <;> try (cases h; done)
  rename_i hcnd
  obtain ⟨hq0, hs0, hzl, hby, hbig⟩ := hcnd
  split at h <;> try (cases h; done)
  rename_i k hk
  split at h <;> try (cases h; done)
  rename_i hkc
  obtain ⟨rfl, hrw, rfl, hks, hkt, hkn⟩ := hkc
  cases h
  obtain ⟨n2, rfl⟩ := Int.eq_ofNat_of_zero_le (show 0 ≤ q by omega)
  simp only [VRel] at hy
  subst hy
  have e0 : (Int.ofNat n2).toNat = n2 := rfl
  simp only [Int.toNat_natCast] at hby hbig ⊢
  have hpos : 0 < n2 := by omega
  unfold elO at he
  split at he <;> try (cases he; done)
  rename_i hu
  cases he
  unfold byO at hby
  unfold zrO at hz
  unfold szO at hs
  unfold zrOk at hz1'
  cases hi : P.info? e with
  | none => simp [hi] at hs
  | some ie =>
  cases hzz : ie.zero with
  | none => simp [hi, hzz] at hz
  | some zv =>
  simp only [hi, hzz, Option.bind_some, Option.map_some, Option.some.injEq, Option.getD_some] at hz hs hby hz1'
  have hzs : zv.cells.size = sz := by rw [← hzl, ← hz]; simp
  have hzc : (Builtin.zeroCells zv.cells n2).toList = (List.replicate n2 zv.cells.toList).flatten := zc_list _ _
  have hbz : ((n2 : Nat) : Int) * ie.bytes ≤ 281474976710656 ∧ n2 ≤ 4611686018427387904 := by
    have h1 : n2 * ie.bytes ≤ (n + n2) * ie.bytes := Nat.mul_le_mul_right _ (by omega)
    have h2 : ((n2 * ie.bytes : Nat) : Int) ≤ 281474976710656 := by omega
    rw [Int.natCast_mul] at h2
    exact ⟨h2, by omega⟩
  have h0 := hM
  generalize hnw : List.replicate n2 z = news at *
  generalize hng : (List.replicate n2 zv.cells.toList).flatten = ns at *
  have hlen : news.length = n2 := by rw [← hnw]; simp
  have hnsl : ns.length = n2 * sz := by rw [← hng]; simp [hzs]
  have hne : ∀ e ∈ news, e.length = sz := fun e he => by
    rw [← hnw] at he
    rw [(List.mem_replicate.1 he).2, hzl]
  have hnv : VRels μ news.flatten ns := by
    rw [← hnw, ← hng, ← hz]
    exact rel_rep (ofVs_rel μ _) n2
  have hn1 : ∀ u ∈ ns, u.oneCell' = true := fun u hu' => by
    rw [← hng] at hu'
    obtain ⟨l, hl, hul⟩ := List.mem_flatten.1 hu'
    rw [(List.mem_replicate.1 hl).2] at hul
    exact List.all_eq_true.1 hz1' u hul
  obtain ⟨L, hL, hB⟩ := hR.blk b k hk
  have hx' := hx
  simp only [VRel] at hx
  obtain ⟨y1, m1, rfl, hnm1, _, hm1⟩ := hx
  have hm1 := hm1.resolve_left (by simp)
  have hbM : b ≠ M := fun e => by subst e; rw [h0] at hL; cases hL
  obtain ⟨os, hosl, hoc, hov, ho1⟩ := hB.cells 0 n (by omega)
  simp only [Nat.zero_mul, List.drop_zero, add_add, Nat.zero_add] at hoc hov
  rw [hks] at hosl
  have hol : (k.es.take n).length = n := by simp; omega
  have hes : (k.es.take n ++ news).length = n + n2 := by simp [hlen]; omega
  have hle : ∀ e ∈ k.es.take n ++ news, e.length = sz := fun e he => by
    rcases List.mem_append.1 he with he | he
    · rw [← hks]; exact hB.len e (List.mem_of_mem_take he)
    · exact hne e he
  have hvv : VRels μ (k.es.take n ++ news).flatten (os ++ ns) := by rw [List.flatten_append]; exact hov.append hnv
  have h11 : ∀ u ∈ os ++ ns, u.oneCell' = true := fun u hu => by
    rcases List.mem_append.1 hu with hu | hu
    · exact ho1 u hu
    · exact hn1 u hu
  have hcl : (os ++ ns).length = (n + n2) * sz := by rw [List.length_append, hosl, hnsl, Nat.add_mul]
  by_cases hroom : n + n2 ≤ m1
  · -- in place
    · skip
      obtain ⟨L', hL', hLs, hm1⟩ := hm1
      obtain ⟨hy1, hC⟩ := hm1 (by omega)
      rw [hL] at hL'; cases hL'
      rcases hB.own hrw with ⟨_, hC0⟩ | ⟨g, cs, ha, hbx, hg, hcs, hen, hC0⟩
      · omega
      have hy1' : y1 = some ⟨g, 0, none⟩ := by rw [hy1, ha]; simp [Addr.add]
      subst hy1'
      rw [hkt] at hg
      have hfit : n * ie.size + ns.length ≤ cs.size := by
        rw [hnsl, hcs, hks, hs, ← Nat.add_mul]
        exact Nat.mul_le_mul_right _ (by omega)
      have hrun := run_appendz_room (P := P) w t u ty e ie zv kz hu hut hi hzz g n m1 cs hg kn n2 ns hzc hpos (by rw [hs]; omega) hbz hn1 hroom hfit
      have hcsl : (cs.toList.take (n * ie.size)).length = n * sz := by rw [List.length_take, Array.length_toList, hs]; rw [hs] at hfit; omega
      have htk : cs.toList.take (n * ie.size) = os := by
        apply List.ext_getElem?
        intro j
        rcases Nat.lt_or_ge j (n * sz) with hj | hj
        · have hjo : j < os.length := by omega
          have := hoc j os[j] (List.getElem?_eq_getElem hjo)
          rw [ha, add_row, cell_of_row _ _ _ _ _ _ hg] at this
          rw [List.getElem?_take_of_lt (by rw [hs]; exact hj), List.getElem?_eq_getElem hjo]
          simpa using this
        · rw [List.getElem?_eq_none (by omega), List.getElem?_eq_none (by omega)]
      have hset := hR.setRow hk hL hrw ha (by rw [hkt]; exact hg) hbx hC0 (cs.toList.take (n * ie.size) ++ ns ++ cs.toList.drop (n * ie.size + ns.length)).toArray (k.es.take n ++ news)
        (by simp only [List.size_toArray, List.length_append, List.length_drop, Array.length_toList, hcsl]; rw [hs] at hfit ⊢; omega) hcs (by rw [hes]; omega) (by rw [hks]; exact hle) (by
          intro i e' he' c v hv
          rw [htk, hks]
          obtain ⟨u, hu', h2, h3⟩ := rd_flat hle hvv h11 i e' he' c v hv
          refine ⟨u, ?_, h2, h3⟩
          rw [List.getElem?_toArray, List.getElem?_append_left (List.getElem?_eq_some_iff.1 hu').1]
          exact hu')
      have ht := hset.rename (M := M) (upd_eq _ _ _) hL h0
      have e1 : upd (del (upd σ b { k with es := k.es.take n ++ news }) b) M { k with es := k.es.take n ++ news } = upd (del σ b) M ⟨e, sz, k.es.take n ++ news, true⟩ := by
        have hblk : ({ k with es := k.es.take n ++ news } : Blk) = ⟨e, sz, k.es.take n ++ news, true⟩ := by
          show Blk.mk k.ty k.sz _ k.rw = _
          rw [hkt, hks, hrw]
        rw [hblk]
        congr 1
        funext c
        by_cases hc : c = b
        · subst hc; simp [del_eq]
        · rw [del_ne _ _ _ hc, del_ne _ _ _ hc, upd_ne _ _ _ _ hc]
      rw [e1] at ht
      refine ⟨_, _, _, hrun, ?_, ht, Sub.upd h0 _, .inr ⟨rfl, fun b hb => upd_ne _ _ _ _ hb⟩⟩
      simp only [VRel]
      exact ⟨_, _, rfl, by omega, fun k hk => (by cases hk), .inr ⟨L, upd_eq _ _ _, hLs, fun _ => ⟨by rw [ha]; simp [Addr.add], hC⟩⟩⟩
  · have hR' := hR.del b
    have hoc' : ∀ a1, y1 = some a1 → ∀ j u, os[j]? = some u → w.cell? (a1.add j) = some u := fun a1 hy j u hu => by
      rcases Nat.eq_zero_or_pos n with h | h
      · have : os = [] := List.eq_nil_of_length_eq_zero (by rw [hosl, h]; simp)
        rw [this] at hu; simp at hu
      · obtain ⟨L', hL', _, hm2⟩ := hm1
        obtain ⟨hy1, _⟩ := hm2 (by omega)
        rw [hL] at hL'; cases hL'
        rw [hy1] at hy; cases hy
        rw [add_add]
        simpa using hoc j u hu
    cases y1 with
    | none =>
      have hm0 : m1 = 0 := by
        obtain ⟨_, _, _, hm2⟩ := hm1
        rcases Nat.eq_zero_or_pos m1 with h | h
        · exact h
        · obtain ⟨ha, _⟩ := hm2 h; cases ha
      subst hm0
      have hn0 : n = 0 := by omega
      subst hn0
      have hos0 : os = [] := List.eq_nil_of_length_eq_zero (by simpa using hosl)
      subst hos0
      have hrun := run_appendz_nil (P := P) w t u ty e ie zv kz hu hut hi hzz kn n2 ns hzc hpos (by rw [hs]; omega) hbz (by omega) (growslice_fits (by omega) (by have := hby; rwa [Nat.zero_add] at this))
      simp only [Nat.zero_add, List.nil_append] at hes hcl hvv h11 ⊢
      exact ⟨_, _, _, hrun, After.grown hR' hM hs0 hpos (grownCap_ge _ _ _ _) hzs hes hle hcl hvv h11 _ rfl⟩
    | some a1 =>
      have hrun := run_appendz_grow (P := P) w t u ty e ie zv kz hu hut hi hzz a1 n m1 os (by rw [hosl, hs]) (hoc' a1 rfl) kn n2 ns hzc hpos (by rw [hs]; omega) hbz (by omega) (by omega) (growslice_fits (by omega) hby)
      exact ⟨_, _, _, hrun, After.grown hR' hM hs0 (by omega) (grownCap_ge _ _ _ _) hzs hes hle hcl hvv h11 _ (by simp)⟩

end
end Go.Proofs.Ythjjfdbkggiaeaa
