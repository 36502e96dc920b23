/- Contracts: searching. No condition. -/
import Derived.Test.YthjjfdbkggiaeaaC1
set_option linter.unusedSimpArgs false
set_option linter.unusedVariables false
namespace Go.Proofs.Ythjjfdbkggiaeaa
open Go Go.RowKit

set_option maxRecDepth 10000 in
set_option maxHeartbeats 400000 in
theorem indexFunc_c (σ : Sto) (ν : Nat) (x : AV) (f : FuncId) (caps : List AV) (l : List (List AV)) (p : List AV → Bool) (hx : Sl σ x 2 l) (h2 : ∀ e ∈ l, e.length = 2) (hlen : l.length ≤ 9223372036854775807)
    (hcl : ∀ s, Vw σ s → ∀ ν, ∀ e ∈ l, AC Try.prog f (.agg e :: caps) s ν fun r δ => r = .v (.bool (p e)) ∧ δ = noS) :
    AC Try.prog 109 [x, .fn f caps] σ ν fun r δ => r = .v (.int .i64 (idx p l)) ∧ δ = noS := by
  obtain ⟨b, o, cap, z, rfl⟩ := hx.out
  refine AC.intro [] ent_109 Try.func109 rfl (by simp [Try.f109]) (by simp) ?_
  intro K s hs hB hn hν hA hFr
  simp only [argT, Nat.zero_add, Nat.reduceAdd]
  have hx' := hx.vw hs.vw
  repeat' (first
    | refine AWP.seq ?_
    | refine AWP.block ?_
    | (refine AWP.skip ?_; simp only [thenA, blockA, reduceIte])
    | (refine AWP.exit ?_; simp only [thenA, blockA, eq_self, reduceIte, Nat.reduceEqDiff, Nat.succ_ne_zero])
    | (refine AWP.ret ?_; simp only [thenA, blockA, reduceIte])
    | (refine AWP.region (by rfl) (fun KK hKK => ?_); (repeat (simp (disch := omega) [])); first | (refine hKK _ _ _ ?_; clear hKK KK; simp only [thenA, blockA, reduceIte]) | skip)
    | (refine AWP.if_t ?_ ?_; focus (simp (disch := omega) []; done))
    | (refine AWP.if_f ?_ ?_; focus (simp (disch := omega) []; done)))
  refine AWP.loop (fun n τ σ' M => ∃ k : Nat, k ≤ l.length ∧ n = l.length - k ∧ (∀ e ∈ l.take k, p e = false) ∧ τ = [(0, .sl b o l.length cap z), (1, .fn f caps), (7, .v (.int .i64 l.length)), (8, .v (.int .i64 k))] ∧ σ' = s ∧ M = K) ⟨_, _, _, _, ⟨0, by omega, rfl, by simp, rfl, rfl, rfl⟩, (Weak.base hB (by repeat (first | exact Over.refl _ | exact hov | refine Over.upd ?_ hB (by omega) | refine Over.del ?_ hB (by omega))) (by simp [LT, get, nms, nmss]; try (simp [nms, nmss] at hn; simp_all)))⟩ ?_
  rintro n τ σ' M ⟨k, hk, rfl, hl, rfl, rfl, rfl⟩
  by_cases hlt : k < l.length
  · obtain ⟨_, rfl, kb, hkb, hat⟩ := hx'.at hlt
    have hrow := h2 l[k] (by simp)
    have hrow2 : l[k].take 2 = l[k] := List.take_of_length_le (by omega)
    repeat' (first
      | refine AWP.seq ?_
      | refine AWP.block ?_
      | (refine AWP.skip ?_; simp only [thenA, blockA, reduceIte])
      | (refine AWP.exit ?_; simp only [thenA, blockA, eq_self, reduceIte, Nat.reduceEqDiff, Nat.succ_ne_zero])
      | (refine AWP.ret ?_; simp only [thenA, blockA, reduceIte])
      | (refine AWP.region (by rfl) (fun KK hKK => ?_); (repeat (simp (disch := omega) [hlt, hkb, hat, hrow, hrow2])); first | (refine hKK _ _ _ ?_; clear hKK KK; simp only [thenA, blockA, reduceIte]) | skip)
      | (refine AWP.if_t ?_ ?_; focus (simp (disch := omega) [hlt, hkb, hat, hrow, hrow2]; done))
      | (refine AWP.if_f ?_ ?_; focus (simp (disch := omega) [hlt, hkb, hat, hrow, hrow2]; done)))
    refine aStop_of (hcl _ hs.vw _ _ (List.getElem_mem hlt)) ?_
    rintro r δ ⟨rfl, rfl⟩
    (repeat (simp (disch := omega) []))
    first | (refine hKK _ _ _ ?_; clear hKK KK; simp only [thenA, blockA, reduceIte]) | skip
    cases hp : p l[k] with
    | true =>
      repeat' (first
        | refine AWP.seq ?_
        | refine AWP.block ?_
        | (refine AWP.skip ?_; simp only [thenA, blockA, reduceIte])
        | (refine AWP.exit ?_; simp only [thenA, blockA, eq_self, reduceIte, Nat.reduceEqDiff, Nat.succ_ne_zero])
        | (refine AWP.ret ?_; simp only [thenA, blockA, reduceIte])
        | (refine AWP.region (by rfl) (fun KK hKK => ?_); (repeat (simp (disch := omega) [hp])); first | (refine hKK _ _ _ ?_; clear hKK KK; simp only [thenA, blockA, reduceIte]) | skip)
        | (refine AWP.if_t ?_ ?_; focus (simp (disch := omega) [hp]; done))
        | (refine AWP.if_f ?_ ?_; focus (simp (disch := omega) [hp]; done)))
      refine ⟨by simp, _, rfl, fin0 ⟨?_, rfl⟩ (by simp [resO, get, nms, nmss]; try (simp [nms, nmss] at hn; simp_all))⟩
      simp [resO, get, ren, rens, idx_at hlt hl hp]
    | false =>
      repeat' (first
        | refine AWP.seq ?_
        | refine AWP.block ?_
        | (refine AWP.skip ?_; simp only [thenA, blockA, reduceIte])
        | (refine AWP.exit ?_; simp only [thenA, blockA, eq_self, reduceIte, Nat.reduceEqDiff, Nat.succ_ne_zero])
        | (refine AWP.ret ?_; simp only [thenA, blockA, reduceIte])
        | (refine AWP.region (by rfl) (fun KK hKK => ?_); (repeat (simp (disch := omega) [hp])); first | (refine hKK _ _ _ ?_; clear hKK KK; simp only [thenA, blockA, reduceIte]) | skip)
        | (refine AWP.if_t ?_ ?_; focus (simp (disch := omega) [hp]; done))
        | (refine AWP.if_f ?_ ?_; focus (simp (disch := omega) [hp]; done)))
      refine ⟨_, _, _, _, ?_, ⟨k + 1, by omega, rfl, take_snoc hlt hl hp, rfl, rfl, rfl⟩, (Weak.base hB (by repeat (first | exact Over.refl _ | exact hov | refine Over.upd ?_ hB (by omega) | refine Over.del ?_ hB (by omega))) (by simp [LT, get, nms, nmss]; try (simp [nms, nmss] at hn; simp_all)))⟩
      omega
  · have hk' : k = l.length := by omega
    subst hk'
    have hl' : ∀ e ∈ l, p e = false := fun e he => hl e (by rw [List.take_length]; exact he)
    repeat' (first
      | refine AWP.seq ?_
      | refine AWP.block ?_
      | (refine AWP.skip ?_; simp only [thenA, blockA, reduceIte])
      | (refine AWP.exit ?_; simp only [thenA, blockA, eq_self, reduceIte, Nat.reduceEqDiff, Nat.succ_ne_zero])
      | (refine AWP.ret ?_; simp only [thenA, blockA, reduceIte])
      | (refine AWP.region (by rfl) (fun KK hKK => ?_); (repeat (simp (disch := omega) [])); first | (refine hKK _ _ _ ?_; clear hKK KK; simp only [thenA, blockA, reduceIte]) | skip)
      | (refine AWP.if_t ?_ ?_; focus (simp (disch := omega) []; done))
      | (refine AWP.if_f ?_ ?_; focus (simp (disch := omega) []; done)))
    refine ⟨by simp, _, rfl, fin0 ⟨?_, rfl⟩ (by simp [resO, get, nms, nmss]; try (simp [nms, nmss] at hn; simp_all))⟩
    simp [resO, get, ren, rens, idx_no hl']

abbrev Df := ByteArray × Int
def rowD (d : Df) : List AV := [.v (.string d.1), .v (.int .i64 d.2)]
def rowsD (l : List Df) : List (List AV) := l.map rowD
theorem rowsD_len (l : List Df) : (rowsD l).length = l.length := by simp [rowsD]
theorem rowsD_two (l : List Df) : ∀ e ∈ rowsD l, e.length = 2 := by
  intro e he
  simp only [rowsD, List.mem_map] at he
  obtain ⟨d, _, rfl⟩ := he
  rfl
def isName (t : ByteArray) : List AV → Bool
  | [.v (.string s), _] => decide (s = t)
  | _ => false
def isValue (n : Int) : List AV → Bool
  | [_, .v (.int _ m)] => decide (m = n)
  | _ => false
theorem idx_map {α β : Type} (p : β → Bool) (f : α → β) (l : List α) : idx p (l.map f) = idx (fun x => p (f x)) l := by
  simp only [idx, List.findIdx?_map]
  rfl
def nameIx (l : List Df) (t : ByteArray) : Int := idx (fun d => decide (d.1 = t)) l
def valueIx (l : List Df) (n : Int) : Int := idx (fun d => decide (d.2 = n)) l

set_option maxRecDepth 10000 in
set_option maxHeartbeats 400000 in
theorem named1_c (σ : Sto) (ν : Nat) (d : Df) (t : ByteArray) (b : Nat) (r0 : Bool) (hb : σ b = some ⟨9, 1, [[.v (.string t)]], r0⟩) : AC Try.prog 111 [.agg (rowD d), .ptr b 0 0] σ ν fun r δ => r = .v (.bool (decide (d.1 = t))) ∧ δ = noS := by
  obtain ⟨nm, vl⟩ := d
  refine AC.intro [] ent_111 Try.func111 rfl (by simp [Try.f111]) (by simp) ?_
  intro K s hs hB hn hν hA hFr
  simp only [argT, Nat.zero_add, Nat.reduceAdd]
  have hb' := hs.ro hb
  have hbK := (hB b _ hb').1
  repeat' (first
    | refine AWP.seq ?_
    | refine AWP.block ?_
    | (refine AWP.skip ?_; simp only [thenA, blockA, reduceIte])
    | (refine AWP.exit ?_; simp only [thenA, blockA, eq_self, reduceIte, Nat.reduceEqDiff, Nat.succ_ne_zero])
    | (refine AWP.ret ?_; simp only [thenA, blockA, reduceIte])
    | (refine AWP.region (by rfl) (fun KK hKK => ?_); (repeat (simp (disch := omega) [rowD, hb'])); first | (refine hKK _ _ _ ?_; clear hKK KK; simp only [thenA, blockA, reduceIte]) | skip)
    | (refine AWP.if_t ?_ ?_; focus (simp (disch := omega) [rowD, hb']; done))
    | (refine AWP.if_f ?_ ?_; focus (simp (disch := omega) [rowD, hb']; done)))
  refine ⟨by simp, _, rfl, fin0 ⟨?_, rfl⟩ (by simp [resO, get, nms, nmss]; try (simp [nms, nmss] at hn; simp_all))⟩
  simp [resO, get, ren, rens]

set_option maxRecDepth 10000 in
set_option maxHeartbeats 400000 in
theorem valued1_c (σ : Sto) (ν : Nat) (d : Df) (t : Int) (b : Nat) (r0 : Bool) (hb : σ b = some ⟨3, 1, [[.v (.int .i64 t)]], r0⟩) : AC Try.prog 110 [.agg (rowD d), .ptr b 0 0] σ ν fun r δ => r = .v (.bool (decide (d.2 = t))) ∧ δ = noS := by
  obtain ⟨nm, vl⟩ := d
  refine AC.intro [] ent_110 Try.func110 rfl (by simp [Try.f110]) (by simp) ?_
  intro K s hs hB hn hν hA hFr
  simp only [argT, Nat.zero_add, Nat.reduceAdd]
  have hb' := hs.ro hb
  have hbK := (hB b _ hb').1
  repeat' (first
    | refine AWP.seq ?_
    | refine AWP.block ?_
    | (refine AWP.skip ?_; simp only [thenA, blockA, reduceIte])
    | (refine AWP.exit ?_; simp only [thenA, blockA, eq_self, reduceIte, Nat.reduceEqDiff, Nat.succ_ne_zero])
    | (refine AWP.ret ?_; simp only [thenA, blockA, reduceIte])
    | (refine AWP.region (by rfl) (fun KK hKK => ?_); (repeat (simp (disch := omega) [rowD, hb'])); first | (refine hKK _ _ _ ?_; clear hKK KK; simp only [thenA, blockA, reduceIte]) | skip)
    | (refine AWP.if_t ?_ ?_; focus (simp (disch := omega) [rowD, hb']; done))
    | (refine AWP.if_f ?_ ?_; focus (simp (disch := omega) [rowD, hb']; done)))
  refine ⟨by simp, _, rfl, fin0 ⟨?_, rfl⟩ (by simp [resO, get, nms, nmss]; try (simp [nms, nmss] at hn; simp_all))⟩
  simp [resO, get, ren, rens]

end Go.Proofs.Ythjjfdbkggiaeaa
