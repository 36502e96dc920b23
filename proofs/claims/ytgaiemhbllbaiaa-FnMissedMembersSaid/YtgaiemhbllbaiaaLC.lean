/- Contracts of the functions that all walks need: validity of enumerations, copies, helpers of the exact laws. No condition. -/
import Derived.Test.YtgaiemhbllbaiaaAbF
set_option linter.unusedSimpArgs false
set_option linter.unusedVariables false
set_option linter.unusedSectionVars false
namespace Go.Proofs.Ytgaiemhbllbaiaa
open Go Go.RowKit
set_option maxRecDepth 10000 in
set_option maxHeartbeats 400000 in
theorem in_c (σ : Sto) (ν : Nat) (n lo hi : Int) : AC Try.prog 96 [.v (.int .i64 n), .v (.int .i64 lo), .v (.int .i64 hi)] σ ν fun r δ => r = .v (.bool (decide (lo ≤ n ∧ n ≤ hi))) ∧ δ = noS := by
  refine AC.intro [] ent_96 Try.func96 rfl (by simp [Try.f96]) (by simp) ?_
  intro K s hs hB hn hν hA hFr
  simp only [argT, Nat.zero_add, Nat.reduceAdd]
  by_cases h1 : lo ≤ n
  · repeat' (first
      | refine AWP.seq ?_
      | refine AWP.block ?_
      | (refine AWP.skip ?_; simp only [thenA, blockA, reduceIte])
      | (refine AWP.exit ?_; simp only [thenA, blockA, eq_self, reduceIte, Nat.reduceEqDiff, Nat.succ_ne_zero])
      | (refine AWP.ret ?_; simp only [thenA, blockA, reduceIte])
      | (refine AWP.region (by rfl) (fun KK hKK => ?_); (repeat (simp (disch := omega) [h1])); first | (refine hKK _ _ _ ?_; clear hKK KK; simp only [thenA, blockA, reduceIte]) | skip)
      | (refine AWP.if_t ?_ ?_; focus (simp (disch := omega) [h1]; done))
      | (refine AWP.if_f ?_ ?_; focus (simp (disch := omega) [h1]; done)))
    refine ⟨by simp, _, rfl, fin0 ⟨?_, rfl⟩ (by simp [resO, get, nms, nmss]; try (simp [nms, nmss] at hn; simp_all))⟩
    simp [resO, get, ren, rens, h1]
  · repeat' (first
      | refine AWP.seq ?_
      | refine AWP.block ?_
      | (refine AWP.skip ?_; simp only [thenA, blockA, reduceIte])
      | (refine AWP.exit ?_; simp only [thenA, blockA, eq_self, reduceIte, Nat.reduceEqDiff, Nat.succ_ne_zero])
      | (refine AWP.ret ?_; simp only [thenA, blockA, reduceIte])
      | (refine AWP.region (by rfl) (fun KK hKK => ?_); (repeat (simp (disch := omega) [h1])); first | (refine hKK _ _ _ ?_; clear hKK KK; simp only [thenA, blockA, reduceIte]) | skip)
      | (refine AWP.if_t ?_ ?_; focus (simp (disch := omega) [h1]; done))
      | (refine AWP.if_f ?_ ?_; focus (simp (disch := omega) [h1]; done)))
    refine ⟨by simp, _, rfl, fin0 ⟨?_, rfl⟩ (by simp [resO, get, nms, nmss]; try (simp [nms, nmss] at hn; simp_all))⟩
    simp [resO, get, ren, rens, h1]

/-- The letters of a name, from k on. -/
def lower (l : List UInt8) : Bool := l.all fun c => decide (97 ≤ c.toNat ∧ c.toNat ≤ 122)
def vname (s : ByteArray) : Bool := lower s.data.toList && decide (1 ≤ (s.size : Int) ∧ (s.size : Int) ≤ 6)

theorem lower_snoc (t : ByteArray) (k : Nat) (h : k < t.size) : lower (t.data.toList.take (k + 1)) = (lower (t.data.toList.take k) && decide (97 ≤ t[k].toNat ∧ t[k].toNat ≤ 122)) := by
  rw [List.take_succ_eq_append_getElem (by simpa using h)]
  unfold lower
  rw [List.all_append]
  simp
  rfl
theorem lower_take (l : List UInt8) (k : Nat) (h : lower l = true) : lower (l.take k) = true := by
  unfold lower at *
  rw [List.all_eq_true] at *
  exact fun x hx => h x (List.mem_of_mem_take hx)

set_option maxRecDepth 10000 in
set_option maxHeartbeats 400000 in
theorem validName_c (σ : Sto) (ν : Nat) (t : ByteArray) (ht : t.size ≤ 9223372036854775807) : AC Try.prog 95 [.v (.string t)] σ ν fun r δ => r = .v (.bool (vname t)) ∧ δ = noS := by
  refine AC.intro [] ent_95 Try.func95 rfl (by simp [Try.f95]) (by simp) ?_
  intro K s hs hB hn hν hA hFr
  simp only [argT, Nat.zero_add, Nat.reduceAdd]
  repeat' (first
    | refine AWP.seq ?_
    | refine AWP.block ?_
    | (refine AWP.skip ?_; simp only [thenA, blockA, reduceIte])
    | (refine AWP.exit ?_; simp only [thenA, blockA, eq_self, reduceIte, Nat.reduceEqDiff, Nat.succ_ne_zero])
    | (refine AWP.ret ?_; simp only [thenA, blockA, reduceIte])
    | (refine AWP.region (by rfl) (fun KK hKK => ?_); (repeat (simp (disch := omega) [])); first | (refine hKK _ _ _ ?_; clear hKK KK; simp only [thenA, blockA, reduceIte]) | skip)
    | (refine AWP.if_t ?_ ?_; focus (simp (disch := omega) []; done))
    | (refine AWP.if_f ?_ ?_; focus (simp (disch := omega) []; done)))
  refine AWP.loop (fun n τ σ' M => ∃ k : Nat, k ≤ t.size ∧ n = t.size - k ∧ lower (t.data.toList.take k) = true ∧ τ = [(0, .v (.string t)), (3, .v (.int .i64 k))] ∧ σ' = s ∧ M = K) ⟨_, _, _, _, ⟨0, by omega, rfl, by simp [lower], rfl, rfl, rfl⟩, (Weak.mk [] (by simp) (by simp) (by omega) (by simp [LeT, ren, rens, swl, nms, nmss]) (LeS.base hB (by omega) (fun _ _ => rfl) (Over.refl _)))⟩ ?_
  rintro n τ σ' M ⟨k, hk, rfl, hl, rfl, rfl, rfl⟩
  by_cases hlt : k < t.size
  · have hs := lower_snoc t k hlt
    rw [hl, Bool.true_and] at hs
    by_cases h1 : (t[k].toNat : Int) < 97
    · have hv : vname t = false := by
        unfold vname
        cases hh : lower t.data.toList with
        | false => rfl
        | true =>
          have := lower_take _ (k + 1) hh
          rw [hs] at this
          simp at this
          omega
      repeat' (first
        | refine AWP.seq ?_
        | refine AWP.block ?_
        | (refine AWP.skip ?_; simp only [thenA, blockA, reduceIte])
        | (refine AWP.exit ?_; simp only [thenA, blockA, eq_self, reduceIte, Nat.reduceEqDiff, Nat.succ_ne_zero])
        | (refine AWP.ret ?_; simp only [thenA, blockA, reduceIte])
        | (refine AWP.region (by rfl) (fun KK hKK => ?_); (repeat (simp (disch := omega) [hlt, h1])); first | (refine hKK _ _ _ ?_; clear hKK KK; simp only [thenA, blockA, reduceIte]) | skip)
        | (refine AWP.if_t ?_ ?_; focus (simp (disch := omega) [hlt, h1]; done))
        | (refine AWP.if_f ?_ ?_; focus (simp (disch := omega) [hlt, h1]; done)))
      refine ⟨by simp, _, rfl, fin0 ⟨?_, rfl⟩ (by simp [resO, get, nms, nmss]; try (simp [nms, nmss] at hn; simp_all))⟩
      simp [resO, get, ren, rens, hv]
    · by_cases h2 : 122 < (t[k].toNat : Int)
      · have hv : vname t = false := by
          unfold vname
          cases hh : lower t.data.toList with
          | false => rfl
          | true =>
            have := lower_take _ (k + 1) hh
            rw [hs] at this
            simp at this
            omega
        repeat' (first
          | refine AWP.seq ?_
          | refine AWP.block ?_
          | (refine AWP.skip ?_; simp only [thenA, blockA, reduceIte])
          | (refine AWP.exit ?_; simp only [thenA, blockA, eq_self, reduceIte, Nat.reduceEqDiff, Nat.succ_ne_zero])
          | (refine AWP.ret ?_; simp only [thenA, blockA, reduceIte])
          | (refine AWP.region (by rfl) (fun KK hKK => ?_); (repeat (simp (disch := omega) [hlt, h1, h2])); first | (refine hKK _ _ _ ?_; clear hKK KK; simp only [thenA, blockA, reduceIte]) | skip)
          | (refine AWP.if_t ?_ ?_; focus (simp (disch := omega) [hlt, h1, h2]; done))
          | (refine AWP.if_f ?_ ?_; focus (simp (disch := omega) [hlt, h1, h2]; done)))
        refine ⟨by simp, _, rfl, fin0 ⟨?_, rfl⟩ (by simp [resO, get, nms, nmss]; try (simp [nms, nmss] at hn; simp_all))⟩
        simp [resO, get, ren, rens, hv]
      · repeat' (first
          | refine AWP.seq ?_
          | refine AWP.block ?_
          | (refine AWP.skip ?_; simp only [thenA, blockA, reduceIte])
          | (refine AWP.exit ?_; simp only [thenA, blockA, eq_self, reduceIte, Nat.reduceEqDiff, Nat.succ_ne_zero])
          | (refine AWP.ret ?_; simp only [thenA, blockA, reduceIte])
          | (refine AWP.region (by rfl) (fun KK hKK => ?_); (repeat (simp (disch := omega) [hlt, h1, h2])); first | (refine hKK _ _ _ ?_; clear hKK KK; simp only [thenA, blockA, reduceIte]) | skip)
          | (refine AWP.if_t ?_ ?_; focus (simp (disch := omega) [hlt, h1, h2]; done))
          | (refine AWP.if_f ?_ ?_; focus (simp (disch := omega) [hlt, h1, h2]; done)))
        refine ⟨_, _, _, _, ?_, ⟨k + 1, by omega, rfl, by rw [hs]; simp; omega, rfl, rfl, rfl⟩, (Weak.mk [] (by simp) (by simp) (by omega) (by simp [LeT, ren, rens, swl, nms, nmss]) (LeS.base hB (by omega) (fun _ _ => rfl) (Over.refl _)))⟩
        omega
  · have hk' : k = t.size := by omega
    subst hk'
    repeat' (first
      | refine AWP.seq ?_
      | refine AWP.block ?_
      | (refine AWP.skip ?_; simp only [thenA, blockA, reduceIte])
      | (refine AWP.exit ?_; simp only [thenA, blockA, eq_self, reduceIte, Nat.reduceEqDiff, Nat.succ_ne_zero])
      | (refine AWP.ret ?_; simp only [thenA, blockA, reduceIte])
      | (refine AWP.region (by rfl) (fun KK hKK => ?_); (repeat (simp (disch := omega) [])); first | (refine hKK _ _ _ ?_; clear hKK KK; simp only [thenA, blockA, reduceIte]) | skip)
      | (refine AWP.if_t ?_ ?_; focus (simp (disch := omega) []; done))
      | (refine AWP.if_f ?_ ?_; focus (simp (disch := omega) []; done)))
    refine aStop_of (in_c _ _ _ _ _) ?_
    rintro r δ ⟨rfl, rfl⟩
    (repeat (simp (disch := omega) []))
    first | (refine hKK _ _ _ ?_; clear hKK KK; simp only [thenA, blockA, reduceIte]) | skip
    have hl' : lower t.data.toList = true := by
      rw [← hl, List.take_of_length_le (by simp)]
    repeat' (first
      | refine AWP.seq ?_
      | refine AWP.block ?_
      | (refine AWP.skip ?_; simp only [thenA, blockA, reduceIte])
      | (refine AWP.exit ?_; simp only [thenA, blockA, eq_self, reduceIte, Nat.reduceEqDiff, Nat.succ_ne_zero])
      | (refine AWP.ret ?_; simp only [thenA, blockA, reduceIte])
      | (refine AWP.region (by rfl) (fun KK hKK => ?_); (repeat (simp (disch := omega) [])); first | (refine hKK _ _ _ ?_; clear hKK KK; simp only [thenA, blockA, reduceIte]) | skip)
      | (refine AWP.if_t ?_ ?_; focus (simp (disch := omega) []; done))
      | (refine AWP.if_f ?_ ?_; focus (simp (disch := omega) []; done)))
    refine ⟨by simp, _, rfl, fin0 ⟨?_, rfl⟩ (by simp [resO, get, nms, nmss]; try (simp [nms, nmss] at hn; simp_all))⟩
    simp [resO, get, ren, rens, vname, hl']
end Go.Proofs.Ytgaiemhbllbaiaa
namespace Go.Proofs.Ytgaiemhbllbaiaa
open Go Go.RowKit

set_option maxRecDepth 10000 in
set_option maxHeartbeats 400000 in
theorem indexFunc_c (σ : Sto) (ν : Nat) (x : AV) (f : FuncId) (caps : List AV) (l : List (List AV)) (p : List AV → Bool) (hx : Sl σ x 2 l) (h2 : ∀ e ∈ l, e.length = 2) (hlen : l.length ≤ 9223372036854775807)
    (hcl : ∀ s, Vw σ s → ∀ ν, ∀ e ∈ l, AC Try.prog f (.agg e :: caps) s ν fun r δ => r = .v (.bool (p e)) ∧ δ = noS) :
    AC Try.prog 91 [x, .fn f caps] σ ν fun r δ => r = .v (.int .i64 (idx p l)) ∧ δ = noS := by
  obtain ⟨b, o, cap, z, rfl⟩ := hx.out
  refine AC.intro [] ent_91 Try.func91 rfl (by simp [Try.f91]) (by simp) ?_
  intro K s hs hB hn hν hA hFr
  simp only [argT, Nat.zero_add, Nat.reduceAdd]
  have hx' := hx.vw hs.vw
  repeat' (first
    | refine AWP.seq ?_
    | refine AWP.block ?_
    | (refine AWP.skip ?_; simp only [thenA, blockA, reduceIte])
    | (refine AWP.exit ?_; simp only [thenA, blockA, eq_self, reduceIte, Nat.reduceEqDiff, Nat.succ_ne_zero])
    | (refine AWP.ret ?_; simp only [thenA, blockA, reduceIte])
    | (refine AWP.region (by rfl) (fun KK hKK => ?_); (repeat (simp (disch := omega) [])); first | (refine hKK _ _ _ ?_; clear hKK KK; simp only [thenA, blockA, reduceIte]) | skip)
    | (refine AWP.if_t ?_ ?_; focus (simp (disch := omega) []; done))
    | (refine AWP.if_f ?_ ?_; focus (simp (disch := omega) []; done)))
  refine AWP.loop (fun n τ σ' M => ∃ k : Nat, k ≤ l.length ∧ n = l.length - k ∧ (∀ e ∈ l.take k, p e = false) ∧ τ = [(0, .sl b o l.length cap z), (1, .fn f caps), (7, .v (.int .i64 l.length)), (8, .v (.int .i64 k))] ∧ σ' = s ∧ M = K) ⟨_, _, _, _, ⟨0, by omega, rfl, by simp, rfl, rfl, rfl⟩, (Weak.base hB (by repeat (first | exact Over.refl _ | exact hov | refine Over.upd ?_ hB (by omega) | refine Over.del ?_ hB (by omega))) (by simp [LT, get, nms, nmss]; try (simp [nms, nmss] at hn; simp_all)))⟩ ?_
  rintro n τ σ' M ⟨k, hk, rfl, hl, rfl, rfl, rfl⟩
  by_cases hlt : k < l.length
  · obtain ⟨_, rfl, kb, hkb, hat⟩ := hx'.at hlt
    have hrow := h2 l[k] (by simp)
    have hrow2 : l[k].take 2 = l[k] := List.take_of_length_le (by omega)
    repeat' (first
      | refine AWP.seq ?_
      | refine AWP.block ?_
      | (refine AWP.skip ?_; simp only [thenA, blockA, reduceIte])
      | (refine AWP.exit ?_; simp only [thenA, blockA, eq_self, reduceIte, Nat.reduceEqDiff, Nat.succ_ne_zero])
      | (refine AWP.ret ?_; simp only [thenA, blockA, reduceIte])
      | (refine AWP.region (by rfl) (fun KK hKK => ?_); (repeat (simp (disch := omega) [hlt, hkb, hat, hrow, hrow2])); first | (refine hKK _ _ _ ?_; clear hKK KK; simp only [thenA, blockA, reduceIte]) | skip)
      | (refine AWP.if_t ?_ ?_; focus (simp (disch := omega) [hlt, hkb, hat, hrow, hrow2]; done))
      | (refine AWP.if_f ?_ ?_; focus (simp (disch := omega) [hlt, hkb, hat, hrow, hrow2]; done)))
    refine aStop_of (hcl _ hs.vw _ _ (List.getElem_mem hlt)) ?_
    rintro r δ ⟨rfl, rfl⟩
    (repeat (simp (disch := omega) []))
    first | (refine hKK _ _ _ ?_; clear hKK KK; simp only [thenA, blockA, reduceIte]) | skip
    cases hp : p l[k] with
    | true =>
      repeat' (first
        | refine AWP.seq ?_
        | refine AWP.block ?_
        | (refine AWP.skip ?_; simp only [thenA, blockA, reduceIte])
        | (refine AWP.exit ?_; simp only [thenA, blockA, eq_self, reduceIte, Nat.reduceEqDiff, Nat.succ_ne_zero])
        | (refine AWP.ret ?_; simp only [thenA, blockA, reduceIte])
        | (refine AWP.region (by rfl) (fun KK hKK => ?_); (repeat (simp (disch := omega) [hp])); first | (refine hKK _ _ _ ?_; clear hKK KK; simp only [thenA, blockA, reduceIte]) | skip)
        | (refine AWP.if_t ?_ ?_; focus (simp (disch := omega) [hp]; done))
        | (refine AWP.if_f ?_ ?_; focus (simp (disch := omega) [hp]; done)))
      refine ⟨by simp, _, rfl, fin0 ⟨?_, rfl⟩ (by simp [resO, get, nms, nmss]; try (simp [nms, nmss] at hn; simp_all))⟩
      simp [resO, get, ren, rens, idx_at hlt hl hp]
    | false =>
      repeat' (first
        | refine AWP.seq ?_
        | refine AWP.block ?_
        | (refine AWP.skip ?_; simp only [thenA, blockA, reduceIte])
        | (refine AWP.exit ?_; simp only [thenA, blockA, eq_self, reduceIte, Nat.reduceEqDiff, Nat.succ_ne_zero])
        | (refine AWP.ret ?_; simp only [thenA, blockA, reduceIte])
        | (refine AWP.region (by rfl) (fun KK hKK => ?_); (repeat (simp (disch := omega) [hp])); first | (refine hKK _ _ _ ?_; clear hKK KK; simp only [thenA, blockA, reduceIte]) | skip)
        | (refine AWP.if_t ?_ ?_; focus (simp (disch := omega) [hp]; done))
        | (refine AWP.if_f ?_ ?_; focus (simp (disch := omega) [hp]; done)))
      refine ⟨_, _, _, _, ?_, ⟨k + 1, by omega, rfl, take_snoc hlt hl hp, rfl, rfl, rfl⟩, (Weak.base hB (by repeat (first | exact Over.refl _ | exact hov | refine Over.upd ?_ hB (by omega) | refine Over.del ?_ hB (by omega))) (by simp [LT, get, nms, nmss]; try (simp [nms, nmss] at hn; simp_all)))⟩
      omega
  · have hk' : k = l.length := by omega
    subst hk'
    have hl' : ∀ e ∈ l, p e = false := fun e he => hl e (by rw [List.take_length]; exact he)
    repeat' (first
      | refine AWP.seq ?_
      | refine AWP.block ?_
      | (refine AWP.skip ?_; simp only [thenA, blockA, reduceIte])
      | (refine AWP.exit ?_; simp only [thenA, blockA, eq_self, reduceIte, Nat.reduceEqDiff, Nat.succ_ne_zero])
      | (refine AWP.ret ?_; simp only [thenA, blockA, reduceIte])
      | (refine AWP.region (by rfl) (fun KK hKK => ?_); (repeat (simp (disch := omega) [])); first | (refine hKK _ _ _ ?_; clear hKK KK; simp only [thenA, blockA, reduceIte]) | skip)
      | (refine AWP.if_t ?_ ?_; focus (simp (disch := omega) []; done))
      | (refine AWP.if_f ?_ ?_; focus (simp (disch := omega) []; done)))
    refine ⟨by simp, _, rfl, fin0 ⟨?_, rfl⟩ (by simp [resO, get, nms, nmss]; try (simp [nms, nmss] at hn; simp_all))⟩
    simp [resO, get, ren, rens, idx_no hl']

abbrev Df := ByteArray × Int
def rowD (d : Df) : List AV := [.v (.string d.1), .v (.int .i64 d.2)]
def rowsD (l : List Df) : List (List AV) := l.map rowD
theorem rowsD_len (l : List Df) : (rowsD l).length = l.length := by simp [rowsD]
theorem rowsD_two (l : List Df) : ∀ e ∈ rowsD l, e.length = 2 := by
  intro e he
  simp only [rowsD, List.mem_map] at he
  obtain ⟨d, _, rfl⟩ := he
  rfl
def isName (t : ByteArray) : List AV → Bool
  | [.v (.string s), _] => decide (s = t)
  | _ => false
def isValue (n : Int) : List AV → Bool
  | [_, .v (.int _ m)] => decide (m = n)
  | _ => false
theorem idx_map {α β : Type} (p : β → Bool) (f : α → β) (l : List α) : idx p (l.map f) = idx (fun x => p (f x)) l := by
  simp only [idx, List.findIdx?_map]
  rfl
def nameIx (l : List Df) (t : ByteArray) : Int := idx (fun d => decide (d.1 = t)) l
def valueIx (l : List Df) (n : Int) : Int := idx (fun d => decide (d.2 = n)) l

set_option maxRecDepth 10000 in
set_option maxHeartbeats 400000 in
theorem named1_c (σ : Sto) (ν : Nat) (d : Df) (t : ByteArray) (b : Nat) (r0 : Bool) (hb : σ b = some ⟨9, 1, [[.v (.string t)]], r0⟩) : AC Try.prog 92 [.agg (rowD d), .ptr b 0 0] σ ν fun r δ => r = .v (.bool (decide (d.1 = t))) ∧ δ = noS := by
  obtain ⟨nm, vl⟩ := d
  refine AC.intro [] ent_92 Try.func92 rfl (by simp [Try.f92]) (by simp) ?_
  intro K s hs hB hn hν hA hFr
  simp only [argT, Nat.zero_add, Nat.reduceAdd]
  have hb' := hs.ro hb
  have hbK := (hB b _ hb').1
  repeat' (first
    | refine AWP.seq ?_
    | refine AWP.block ?_
    | (refine AWP.skip ?_; simp only [thenA, blockA, reduceIte])
    | (refine AWP.exit ?_; simp only [thenA, blockA, eq_self, reduceIte, Nat.reduceEqDiff, Nat.succ_ne_zero])
    | (refine AWP.ret ?_; simp only [thenA, blockA, reduceIte])
    | (refine AWP.region (by rfl) (fun KK hKK => ?_); (repeat (simp (disch := omega) [rowD, hb'])); first | (refine hKK _ _ _ ?_; clear hKK KK; simp only [thenA, blockA, reduceIte]) | skip)
    | (refine AWP.if_t ?_ ?_; focus (simp (disch := omega) [rowD, hb']; done))
    | (refine AWP.if_f ?_ ?_; focus (simp (disch := omega) [rowD, hb']; done)))
  refine ⟨by simp, _, rfl, fin0 ⟨?_, rfl⟩ (by simp [resO, get, nms, nmss]; try (simp [nms, nmss] at hn; simp_all))⟩
  simp [resO, get, ren, rens]

set_option maxRecDepth 10000 in
set_option maxHeartbeats 400000 in
theorem valued1_c (σ : Sto) (ν : Nat) (d : Df) (t : Int) (b : Nat) (r0 : Bool) (hb : σ b = some ⟨3, 1, [[.v (.int .i64 t)]], r0⟩) : AC Try.prog 106 [.agg (rowD d), .ptr b 0 0] σ ν fun r δ => r = .v (.bool (decide (d.2 = t))) ∧ δ = noS := by
  obtain ⟨nm, vl⟩ := d
  refine AC.intro [] ent_106 Try.func106 rfl (by simp [Try.f106]) (by simp) ?_
  intro K s hs hB hn hν hA hFr
  simp only [argT, Nat.zero_add, Nat.reduceAdd]
  have hb' := hs.ro hb
  have hbK := (hB b _ hb').1
  repeat' (first
    | refine AWP.seq ?_
    | refine AWP.block ?_
    | (refine AWP.skip ?_; simp only [thenA, blockA, reduceIte])
    | (refine AWP.exit ?_; simp only [thenA, blockA, eq_self, reduceIte, Nat.reduceEqDiff, Nat.succ_ne_zero])
    | (refine AWP.ret ?_; simp only [thenA, blockA, reduceIte])
    | (refine AWP.region (by rfl) (fun KK hKK => ?_); (repeat (simp (disch := omega) [rowD, hb'])); first | (refine hKK _ _ _ ?_; clear hKK KK; simp only [thenA, blockA, reduceIte]) | skip)
    | (refine AWP.if_t ?_ ?_; focus (simp (disch := omega) [rowD, hb']; done))
    | (refine AWP.if_f ?_ ?_; focus (simp (disch := omega) [rowD, hb']; done)))
  refine ⟨by simp, _, rfl, fin0 ⟨?_, rfl⟩ (by simp [resO, get, nms, nmss]; try (simp [nms, nmss] at hn; simp_all))⟩
  simp [resO, get, ren, rens]

end Go.Proofs.Ytgaiemhbllbaiaa
namespace Go.Proofs.Ytgaiemhbllbaiaa
open Go Go.RowKit
abbrev nilA : AV := .sl 0 0 0 (some 0) 0
abbrev blkE (x : AV) : Blk := ⟨25, 1, [[x]], true⟩
abbrev blkD (ds : List Df) : Blk := ⟨34, 2, rowsD ds, true⟩
theorem flatD (ds : List Df) : flatB (blkD ds) := by
  intro e he v hv
  simp only [rowsD, List.mem_map] at he
  obtain ⟨d, _, rfl⟩ := he
  simp [rowD] at hv
  rcases hv with rfl | rfl <;> rfl
def renD (ds : List Df) (i : Nat) (t : ByteArray) : List Df := ds.modify i fun d => (t, d.2)
theorem rowsD_ren (ds : List Df) (i : Nat) (h : i < ds.length) (t : ByteArray) : rowsD (renD ds i t) = (rowsD ds).set i [.v (.string t), .v (.int .i64 ds[i].2)] := by
  unfold rowsD renD
  rw [List.modify_eq_set, List.getElem?_eq_getElem h]
  simp [List.map_set, rowD]
theorem renD_len (ds : List Df) (i : Nat) (t : ByteArray) : (renD ds i t).length = ds.length := by simp [renD]
def valD (ds : List Df) (i : Nat) (v : Int) : List Df := ds.modify i fun d => (d.1, v)
theorem rowsD_val (ds : List Df) (i : Nat) (h : i < ds.length) (v : Int) : rowsD (valD ds i v) = (rowsD ds).set i [.v (.string ds[i].1), .v (.int .i64 v)] := by
  unfold rowsD valD
  rw [List.modify_eq_set, List.getElem?_eq_getElem h]
  simp [List.map_set, rowD]
theorem valD_len (ds : List Df) (i : Nat) (v : Int) : (valD ds i v).length = ds.length := by simp [valD]
theorem rowsD_at (ds : List Df) (i : Nat) (h : i < ds.length) : (rowsD ds)[i]? = some [.v (.string ds[i].1), .v (.int .i64 ds[i].2)] := by simp [rowsD, rowD, h]
theorem rowsD_snoc (ds : List Df) (s : ByteArray) (n : Int) : rowsD ds ++ [[.v (.string s), .v (.int .i64 n)]] = rowsD (ds ++ [(s, n)]) := by simp [rowsD, rowD]
theorem rowsD_take (ds : List Df) : (rowsD ds).take ds.length = rowsD ds := List.take_of_length_le (by rw [rowsD_len]; exact Nat.le_refl _)
end Go.Proofs.Ytgaiemhbllbaiaa
namespace Go.Proofs.Ytgaiemhbllbaiaa
open Go Go.RowKit

set_option maxRecDepth 10000 in
set_option maxHeartbeats 400000 in
theorem named_c (σ : Sto) (ν : Nat) (x : AV) (ds : List Df) (t : ByteArray) (hx : Sl σ x 2 (rowsD ds)) (hlen : ds.length ≤ 9223372036854775807) :
    AC Try.prog 49 [x, .v (.string t)] σ ν fun r δ => r = .v (.int .i64 (nameIx ds t)) ∧ δ = noS := by
  refine AC.intro [] ent_49 Try.func49 rfl (by simp [Try.f49]) (by simp) ?_
  intro K s hs hB hn hν hA hFr
  simp only [argT, Nat.zero_add, Nat.reduceAdd]
  have hx' := (hx.vw hs.vw).vw (Vw.upd hB (Nat.le_refl K) (k := ⟨9, 1, [[.v (.string t)]], true⟩))
  have hcl : ∀ s', Vw (upd s K (⟨9, 1, [[.v (.string t)]], true⟩ : Blk)) s' → ∀ ν, ∀ e ∈ rowsD ds, AC Try.prog 92 (.agg e :: [.ptr K 0 0]) s' ν fun r δ => r = .v (.bool (isName t e)) ∧ δ = noS := fun s' hv ν e he => by
    simp only [rowsD, List.mem_map] at he
    obtain ⟨d, _, rfl⟩ := he
    obtain ⟨r, hr⟩ := hv K _ (upd_eq _ _ _)
    exact named1_c s' ν d t K r hr
  repeat' (first
    | refine AWP.seq ?_
    | refine AWP.block ?_
    | (refine AWP.skip ?_; simp only [thenA, blockA, reduceIte])
    | (refine AWP.exit ?_; simp only [thenA, blockA, eq_self, reduceIte, Nat.reduceEqDiff, Nat.succ_ne_zero])
    | (refine AWP.ret ?_; simp only [thenA, blockA, reduceIte])
    | (refine AWP.region (by rfl) (fun KK hKK => ?_); (repeat (simp (disch := omega) [])); first | (refine hKK _ _ _ ?_; clear hKK KK; simp only [thenA, blockA, reduceIte]) | skip)
    | (refine AWP.if_t ?_ ?_; focus (simp (disch := omega) []; done))
    | (refine AWP.if_f ?_ ?_; focus (simp (disch := omega) []; done)))
  refine aStop_of (indexFunc_c _ _ _ _ _ _ (isName t) hx' (rowsD_two _) (by rw [rowsD_len]; exact hlen) hcl) ?_
  rintro r δ ⟨rfl, rfl⟩
  (repeat (simp (disch := omega) []))
  first | (refine hKK _ _ _ ?_; clear hKK KK; simp only [thenA, blockA, reduceIte]) | skip
  repeat' (first
    | refine AWP.seq ?_
    | refine AWP.block ?_
    | (refine AWP.skip ?_; simp only [thenA, blockA, reduceIte])
    | (refine AWP.exit ?_; simp only [thenA, blockA, eq_self, reduceIte, Nat.reduceEqDiff, Nat.succ_ne_zero])
    | (refine AWP.ret ?_; simp only [thenA, blockA, reduceIte])
    | (refine AWP.region (by rfl) (fun KK hKK => ?_); (repeat (simp (disch := omega) [])); first | (refine hKK _ _ _ ?_; clear hKK KK; simp only [thenA, blockA, reduceIte]) | skip)
    | (refine AWP.if_t ?_ ?_; focus (simp (disch := omega) []; done))
    | (refine AWP.if_f ?_ ?_; focus (simp (disch := omega) []; done)))
  have e : idx (isName t) (rowsD ds) = nameIx ds t := idx_map _ _ _
  refine ⟨by simp, _, rfl, fin0 ⟨?_, rfl⟩ (by simp [resO, get, nms, nmss]; try (simp [nms, nmss] at hn; simp_all))⟩
  simp [resO, get, ren, rens, e]

set_option maxRecDepth 10000 in
set_option maxHeartbeats 400000 in
theorem valued_c (σ : Sto) (ν : Nat) (x : AV) (ds : List Df) (t : Int) (hx : Sl σ x 2 (rowsD ds)) (hlen : ds.length ≤ 9223372036854775807) :
    AC Try.prog 80 [x, .v (.int .i64 t)] σ ν fun r δ => r = .v (.int .i64 (valueIx ds t)) ∧ δ = noS := by
  refine AC.intro [] ent_80 Try.func80 rfl (by simp [Try.f80]) (by simp) ?_
  intro K s hs hB hn hν hA hFr
  simp only [argT, Nat.zero_add, Nat.reduceAdd]
  have hx' := (hx.vw hs.vw).vw (Vw.upd hB (Nat.le_refl K) (k := ⟨3, 1, [[.v (.int .i64 t)]], true⟩))
  have hcl : ∀ s', Vw (upd s K (⟨3, 1, [[.v (.int .i64 t)]], true⟩ : Blk)) s' → ∀ ν, ∀ e ∈ rowsD ds, AC Try.prog 106 (.agg e :: [.ptr K 0 0]) s' ν fun r δ => r = .v (.bool (isValue t e)) ∧ δ = noS := fun s' hv ν e he => by
    simp only [rowsD, List.mem_map] at he
    obtain ⟨d, _, rfl⟩ := he
    obtain ⟨r, hr⟩ := hv K _ (upd_eq _ _ _)
    exact valued1_c s' ν d t K r hr
  repeat' (first
    | refine AWP.seq ?_
    | refine AWP.block ?_
    | (refine AWP.skip ?_; simp only [thenA, blockA, reduceIte])
    | (refine AWP.exit ?_; simp only [thenA, blockA, eq_self, reduceIte, Nat.reduceEqDiff, Nat.succ_ne_zero])
    | (refine AWP.ret ?_; simp only [thenA, blockA, reduceIte])
    | (refine AWP.region (by rfl) (fun KK hKK => ?_); (repeat (simp (disch := omega) [])); first | (refine hKK _ _ _ ?_; clear hKK KK; simp only [thenA, blockA, reduceIte]) | skip)
    | (refine AWP.if_t ?_ ?_; focus (simp (disch := omega) []; done))
    | (refine AWP.if_f ?_ ?_; focus (simp (disch := omega) []; done)))
  refine aStop_of (indexFunc_c _ _ _ _ _ _ (isValue t) hx' (rowsD_two _) (by rw [rowsD_len]; exact hlen) hcl) ?_
  rintro r δ ⟨rfl, rfl⟩
  (repeat (simp (disch := omega) []))
  first | (refine hKK _ _ _ ?_; clear hKK KK; simp only [thenA, blockA, reduceIte]) | skip
  repeat' (first
    | refine AWP.seq ?_
    | refine AWP.block ?_
    | (refine AWP.skip ?_; simp only [thenA, blockA, reduceIte])
    | (refine AWP.exit ?_; simp only [thenA, blockA, eq_self, reduceIte, Nat.reduceEqDiff, Nat.succ_ne_zero])
    | (refine AWP.ret ?_; simp only [thenA, blockA, reduceIte])
    | (refine AWP.region (by rfl) (fun KK hKK => ?_); (repeat (simp (disch := omega) [])); first | (refine hKK _ _ _ ?_; clear hKK KK; simp only [thenA, blockA, reduceIte]) | skip)
    | (refine AWP.if_t ?_ ?_; focus (simp (disch := omega) []; done))
    | (refine AWP.if_f ?_ ?_; focus (simp (disch := omega) []; done)))
  have e : idx (isValue t) (rowsD ds) = valueIx ds t := idx_map _ _ _
  refine ⟨by simp, _, rfl, fin0 ⟨?_, rfl⟩ (by simp [resO, get, nms, nmss]; try (simp [nms, nmss] at hn; simp_all))⟩
  simp [resO, get, ren, rens, e]

def okAt (lo hi : Int) (ds : List Df) (i : Nat) : Bool := match ds[i]? with
  | some d => vname d.1 && decide (lo ≤ d.2 ∧ d.2 ≤ hi) && decide (nameIx (ds.take i) d.1 < 0)
  | none => true
def okTo (lo hi : Int) (ds : List Df) (k : Nat) : Bool := (List.range k).all (okAt lo hi ds)
def okDs (lo hi : Int) (ds : List Df) : Bool := okTo lo hi ds ds.length && decide ((ds.length : Int) ≤ 12)
theorem okTo_succ (lo hi : Int) (ds : List Df) (k : Nat) : okTo lo hi ds (k + 1) = (okTo lo hi ds k && okAt lo hi ds k) := by simp [okTo, List.range_succ, List.all_append]
theorem okAt_eq (lo hi : Int) (ds : List Df) (k : Nat) (h : k < ds.length) : okAt lo hi ds k = (vname ds[k].1 && decide (lo ≤ ds[k].2 ∧ ds[k].2 ≤ hi) && decide (nameIx (ds.take k) ds[k].1 < 0)) := by simp [okAt, List.getElem?_eq_getElem h]
theorem okTo_bad (lo hi : Int) (ds : List Df) (k : Nat) (h : k < ds.length) (hb : okAt lo hi ds k = false) : okTo lo hi ds ds.length = false := by
  rw [okTo, List.all_eq_false]
  exact ⟨k, by simp [h], by simp [hb]⟩

set_option maxRecDepth 10000 in
set_option maxHeartbeats 1000000 in
theorem defsValid_c (σ : Sto) (ν : Nat) (x : AV) (ds : List Df) (lo hi : Int) (hx : Sl σ x 2 (rowsD ds)) (hlen : ds.length ≤ 9223372036854775807) (hsz : ∀ d ∈ ds, d.1.size ≤ 9223372036854775807) :
    AC Try.prog 59 [x, .v (.int .i64 lo), .v (.int .i64 hi)] σ ν fun r δ => r = .v (.bool (okDs lo hi ds)) ∧ δ = noS := by
  obtain ⟨b, o, cap, z, rfl⟩ := hx.out
  simp only [rowsD_len] at hx ⊢
  refine AC.intro [] ent_59 Try.func59 rfl (by simp [Try.f59]) (by simp) ?_
  intro K s hs hB hn hν hA hFr
  simp only [argT, Nat.zero_add, Nat.reduceAdd]
  have hx' := hx.vw hs.vw
  repeat' (first
    | refine AWP.seq ?_
    | refine AWP.block ?_
    | (refine AWP.skip ?_; simp only [thenA, blockA, reduceIte])
    | (refine AWP.exit ?_; simp only [thenA, blockA, eq_self, reduceIte, Nat.reduceEqDiff, Nat.succ_ne_zero])
    | (refine AWP.ret ?_; simp only [thenA, blockA, reduceIte])
    | (refine AWP.region (by rfl) (fun KK hKK => ?_); (repeat (simp (disch := omega) [])); first | (refine hKK _ _ _ ?_; clear hKK KK; simp only [thenA, blockA, reduceIte]) | skip)
    | (refine AWP.draw' mixd (by rfl) (by kernel_rfl) (fun KK tab hKK htab => ?_); (repeat (simp (disch := omega) [])); first | (refine dEnd_ro ?_ (hKK _ _ _ ?_); (focus (simp; done)); clear htab tab hKK KK; simp only [thenA, blockA, reduceIte]) | (refine dEnd_of ?_ (hKK _ _ _ ?_); (focus (simp only [List.reverse_cons, List.reverse_nil, List.nil_append, List.cons_append, memA, mem1, and_true, true_and]; (repeat' apply And.intro); (all_goals (first | trivial | (refine .inr ⟨?_, ?_⟩ <;> (simp; done)) | (refine .inr ⟨?_, ?_⟩ <;> (simp <;> omega)) | (refine .inl ?_; rw [htab]; kernel_rfl))); done)); clear htab tab hKK KK; simp only [thenA, blockA, reduceIte]) | skip)
    | (refine AWP.if_t ?_ ?_; focus (simp (disch := omega) []; done))
    | (refine AWP.if_f ?_ ?_; focus (simp (disch := omega) []; done)))
  refine AWP.loop (fun n τ σ' M => ∃ k : Nat, k ≤ ds.length ∧ n = ds.length - k ∧ okTo lo hi ds k = true ∧ τ = [(0, .sl b o ds.length cap z), (1, .v (.int .i64 lo)), (2, .v (.int .i64 hi)), (9, .sl b o ds.length cap z), (10, .v (.int .i64 ds.length)), (11, .v (.int .i64 k))] ∧ σ' = s ∧ M = K) ⟨_, _, _, _, ⟨0, by omega, rfl, by simp [okTo], rfl, rfl, rfl⟩, (Weak.base hB (by repeat (first | exact Over.refl _ | exact hov | refine Over.upd ?_ hB (by omega) | refine Over.del ?_ hB (by omega))) (by simp [LT, get, nms, nmss]; try (simp [nms, nmss] at hn; simp_all)))⟩ ?_
  rintro n τ σ' M ⟨k, hk, rfl, hl, rfl, rfl, rfl⟩
  by_cases hlt : k < ds.length
  · obtain ⟨_, rfl, kb, hkb, hat⟩ := hx'.at (i := k) (by rw [rowsD_len]; exact hlt)
    have hrow : (rowsD ds)[k]'(by rw [rowsD_len]; exact hlt) = [.v (.string ds[k].1), .v (.int .i64 ds[k].2)] := by simp [rowsD, rowD]
    rw [hrow] at hat
    have hmem : ds[k] ∈ ds := List.getElem_mem hlt
    have hbK : b < M := (hB b _ hkb).1
    have hok := okAt_eq lo hi ds k hlt
    have hxk : Sl σ' (.sl b o k cap 2) 2 (rowsD (ds.take k)) := by
      have := hx'.take (i := k) (by rw [rowsD_len]; omega) cap id
      simpa [rowsD, List.map_take] using this
    cases h1 : vname ds[k].1 with
    | false =>
      have hbad := okTo_bad lo hi ds k hlt (by rw [hok, h1]; rfl)
      repeat' (first
        | refine AWP.seq ?_
        | refine AWP.block ?_
        | (refine AWP.skip ?_; simp only [thenA, blockA, reduceIte])
        | (refine AWP.exit ?_; simp only [thenA, blockA, eq_self, reduceIte, Nat.reduceEqDiff, Nat.succ_ne_zero])
        | (refine AWP.ret ?_; simp only [thenA, blockA, reduceIte])
        | (refine AWP.region (by rfl) (fun KK hKK => ?_); (repeat (simp (disch := omega) [hlt, hkb, hat])); first | (refine hKK _ _ _ ?_; clear hKK KK; simp only [thenA, blockA, reduceIte]) | skip)
        | (refine AWP.draw' mixd (by rfl) (by kernel_rfl) (fun KK tab hKK htab => ?_); (repeat (simp (disch := omega) [hlt, hkb, hat])); first | (refine dEnd_ro ?_ (hKK _ _ _ ?_); (focus (simp; done)); clear htab tab hKK KK; simp only [thenA, blockA, reduceIte]) | (refine dEnd_of ?_ (hKK _ _ _ ?_); (focus (simp only [List.reverse_cons, List.reverse_nil, List.nil_append, List.cons_append, memA, mem1, and_true, true_and]; (repeat' apply And.intro); (all_goals (first | trivial | (refine .inr ⟨?_, ?_⟩ <;> (simp; done)) | (refine .inr ⟨?_, ?_⟩ <;> (simp <;> omega)) | (refine .inl ?_; rw [htab]; kernel_rfl))); done)); clear htab tab hKK KK; simp only [thenA, blockA, reduceIte]) | skip)
        | (refine AWP.if_t ?_ ?_; focus (simp (disch := omega) [hlt, hkb, hat]; done))
        | (refine AWP.if_f ?_ ?_; focus (simp (disch := omega) [hlt, hkb, hat]; done)))
      refine dStop_pure (fun σ' => validName_c σ' _ _ (hsz _ hmem)) ?_
      (repeat (simp (disch := omega) [h1]))
      first | (refine dEnd_ro ?_ (hKK _ _ _ ?_); (focus (simp; done)); clear htab tab hKK KK; simp only [thenA, blockA, reduceIte]) | (refine dEnd_of ?_ (hKK _ _ _ ?_); (focus (simp only [List.reverse_cons, List.reverse_nil, List.nil_append, List.cons_append, memA, mem1, and_true, true_and]; (repeat' apply And.intro); (all_goals (first | trivial | (refine .inr ⟨?_, ?_⟩ <;> (simp; done)) | (refine .inr ⟨?_, ?_⟩ <;> (simp <;> omega)) | (refine .inl ?_; rw [htab]; kernel_rfl))); done)); clear htab tab hKK KK; simp only [thenA, blockA, reduceIte]) | skip
      repeat' (first
        | refine AWP.seq ?_
        | refine AWP.block ?_
        | (refine AWP.skip ?_; simp only [thenA, blockA, reduceIte])
        | (refine AWP.exit ?_; simp only [thenA, blockA, eq_self, reduceIte, Nat.reduceEqDiff, Nat.succ_ne_zero])
        | (refine AWP.ret ?_; simp only [thenA, blockA, reduceIte])
        | (refine AWP.region (by rfl) (fun KK hKK => ?_); (repeat (simp (disch := omega) [])); first | (refine hKK _ _ _ ?_; clear hKK KK; simp only [thenA, blockA, reduceIte]) | skip)
        | (refine AWP.draw' mixd (by rfl) (by kernel_rfl) (fun KK tab hKK htab => ?_); (repeat (simp (disch := omega) [])); first | (refine dEnd_ro ?_ (hKK _ _ _ ?_); (focus (simp; done)); clear htab tab hKK KK; simp only [thenA, blockA, reduceIte]) | (refine dEnd_of ?_ (hKK _ _ _ ?_); (focus (simp only [List.reverse_cons, List.reverse_nil, List.nil_append, List.cons_append, memA, mem1, and_true, true_and]; (repeat' apply And.intro); (all_goals (first | trivial | (refine .inr ⟨?_, ?_⟩ <;> (simp; done)) | (refine .inr ⟨?_, ?_⟩ <;> (simp <;> omega)) | (refine .inl ?_; rw [htab]; kernel_rfl))); done)); clear htab tab hKK KK; simp only [thenA, blockA, reduceIte]) | skip)
        | (refine AWP.if_t ?_ ?_; focus (simp (disch := omega) []; done))
        | (refine AWP.if_f ?_ ?_; focus (simp (disch := omega) []; done)))
      refine ⟨by simp, _, rfl, fin0 ⟨?_, rfl⟩ (by simp [resO, get, nms, nmss]; try (simp [nms, nmss] at hn; simp_all))⟩
      simp [resO, get, ren, rens, okDs, hbad]
    | true =>
      by_cases h2 : lo ≤ ds[k].2 ∧ ds[k].2 ≤ hi
      · by_cases h3 : nameIx (ds.take k) ds[k].1 < 0
        · have hgood : okTo lo hi ds (k + 1) = true := by rw [okTo_succ, hl, hok]; simp [h1, h2, h3]
          have h3' : ¬ (0 ≤ nameIx (ds.take k) ds[k].1) := by omega
          repeat' (first
            | refine AWP.seq ?_
            | refine AWP.block ?_
            | (refine AWP.skip ?_; simp only [thenA, blockA, reduceIte])
            | (refine AWP.exit ?_; simp only [thenA, blockA, eq_self, reduceIte, Nat.reduceEqDiff, Nat.succ_ne_zero])
            | (refine AWP.ret ?_; simp only [thenA, blockA, reduceIte])
            | (refine AWP.region (by rfl) (fun KK hKK => ?_); (repeat (simp (disch := omega) [hlt, hkb, hat])); first | (refine hKK _ _ _ ?_; clear hKK KK; simp only [thenA, blockA, reduceIte]) | skip)
            | (refine AWP.draw' mixd (by rfl) (by kernel_rfl) (fun KK tab hKK htab => ?_); (repeat (simp (disch := omega) [hlt, hkb, hat])); first | (refine dEnd_ro ?_ (hKK _ _ _ ?_); (focus (simp; done)); clear htab tab hKK KK; simp only [thenA, blockA, reduceIte]) | (refine dEnd_of ?_ (hKK _ _ _ ?_); (focus (simp only [List.reverse_cons, List.reverse_nil, List.nil_append, List.cons_append, memA, mem1, and_true, true_and]; (repeat' apply And.intro); (all_goals (first | trivial | (refine .inr ⟨?_, ?_⟩ <;> (simp; done)) | (refine .inr ⟨?_, ?_⟩ <;> (simp <;> omega)) | (refine .inl ?_; rw [htab]; kernel_rfl))); done)); clear htab tab hKK KK; simp only [thenA, blockA, reduceIte]) | skip)
            | (refine AWP.if_t ?_ ?_; focus (simp (disch := omega) [hlt, hkb, hat]; done))
            | (refine AWP.if_f ?_ ?_; focus (simp (disch := omega) [hlt, hkb, hat]; done)))
          refine dStop_pure (fun σ' => validName_c σ' _ _ (hsz _ hmem)) ?_
          (repeat (simp (disch := omega) [h1]))
          first | (refine dEnd_ro ?_ (hKK _ _ _ ?_); (focus (simp; done)); clear htab tab hKK KK; simp only [thenA, blockA, reduceIte]) | (refine dEnd_of ?_ (hKK _ _ _ ?_); (focus (simp only [List.reverse_cons, List.reverse_nil, List.nil_append, List.cons_append, memA, mem1, and_true, true_and]; (repeat' apply And.intro); (all_goals (first | trivial | (refine .inr ⟨?_, ?_⟩ <;> (simp; done)) | (refine .inr ⟨?_, ?_⟩ <;> (simp <;> omega)) | (refine .inl ?_; rw [htab]; kernel_rfl))); done)); clear htab tab hKK KK; simp only [thenA, blockA, reduceIte]) | skip
          refine dStop_pure (fun σ' => in_c σ' _ _ _ _) ?_
          (repeat (simp (disch := omega) [h2, hlt, hk]))
          first | (refine dEnd_ro ?_ (hKK _ _ _ ?_); (focus (simp; done)); clear htab tab hKK KK; simp only [thenA, blockA, reduceIte]) | (refine dEnd_of ?_ (hKK _ _ _ ?_); (focus (simp only [List.reverse_cons, List.reverse_nil, List.nil_append, List.cons_append, memA, mem1, and_true, true_and]; (repeat' apply And.intro); (all_goals (first | trivial | (refine .inr ⟨?_, ?_⟩ <;> (simp; done)) | (refine .inr ⟨?_, ?_⟩ <;> (simp <;> omega)) | (refine .inl ?_; rw [htab]; kernel_rfl))); done)); clear htab tab hKK KK; simp only [thenA, blockA, reduceIte]) | skip
          refine dStop_ro [b] (fun σ' hσ' => named_c σ' _ _ (ds.take k) _ (hxk.on (by rw [hσ' b (by simp)]; simp (disch := omega))) (by simp; omega)) ?_
          (repeat (simp (disch := omega) [h3']))
          first | (refine dEnd_ro ?_ (hKK _ _ _ ?_); (focus (simp; done)); clear htab tab hKK KK; simp only [thenA, blockA, reduceIte]) | (refine dEnd_of ?_ (hKK _ _ _ ?_); (focus (simp only [List.reverse_cons, List.reverse_nil, List.nil_append, List.cons_append, memA, mem1, and_true, true_and]; (repeat' apply And.intro); (all_goals (first | trivial | (refine .inr ⟨?_, ?_⟩ <;> (simp; done)) | (refine .inr ⟨?_, ?_⟩ <;> (simp <;> omega)) | (refine .inl ?_; rw [htab]; kernel_rfl))); done)); clear htab tab hKK KK; simp only [thenA, blockA, reduceIte]) | skip
          repeat' (first
            | refine AWP.seq ?_
            | refine AWP.block ?_
            | (refine AWP.skip ?_; simp only [thenA, blockA, reduceIte])
            | (refine AWP.exit ?_; simp only [thenA, blockA, eq_self, reduceIte, Nat.reduceEqDiff, Nat.succ_ne_zero])
            | (refine AWP.ret ?_; simp only [thenA, blockA, reduceIte])
            | (refine AWP.region (by rfl) (fun KK hKK => ?_); (repeat (simp (disch := omega) [])); first | (refine hKK _ _ _ ?_; clear hKK KK; simp only [thenA, blockA, reduceIte]) | skip)
            | (refine AWP.draw' mixd (by rfl) (by kernel_rfl) (fun KK tab hKK htab => ?_); (repeat (simp (disch := omega) [])); first | (refine dEnd_ro ?_ (hKK _ _ _ ?_); (focus (simp; done)); clear htab tab hKK KK; simp only [thenA, blockA, reduceIte]) | (refine dEnd_of ?_ (hKK _ _ _ ?_); (focus (simp only [List.reverse_cons, List.reverse_nil, List.nil_append, List.cons_append, memA, mem1, and_true, true_and]; (repeat' apply And.intro); (all_goals (first | trivial | (refine .inr ⟨?_, ?_⟩ <;> (simp; done)) | (refine .inr ⟨?_, ?_⟩ <;> (simp <;> omega)) | (refine .inl ?_; rw [htab]; kernel_rfl))); done)); clear htab tab hKK KK; simp only [thenA, blockA, reduceIte]) | skip)
            | (refine AWP.if_t ?_ ?_; focus (simp (disch := omega) []; done))
            | (refine AWP.if_f ?_ ?_; focus (simp (disch := omega) []; done)))
          refine ⟨_, _, _, _, ?_, ⟨k + 1, by omega, rfl, hgood, rfl, rfl, rfl⟩, (Weak.base hB (by repeat (first | exact Over.refl _ | exact hov | refine Over.upd ?_ hB (by omega) | refine Over.del ?_ hB (by omega))) (by simp [LT, get, nms, nmss]; try (simp [nms, nmss] at hn; simp_all)))⟩
          omega
        · have hbad := okTo_bad lo hi ds k hlt (by rw [hok]; simp [h3])
          have h3' : 0 ≤ nameIx (ds.take k) ds[k].1 := by omega
          repeat' (first
            | refine AWP.seq ?_
            | refine AWP.block ?_
            | (refine AWP.skip ?_; simp only [thenA, blockA, reduceIte])
            | (refine AWP.exit ?_; simp only [thenA, blockA, eq_self, reduceIte, Nat.reduceEqDiff, Nat.succ_ne_zero])
            | (refine AWP.ret ?_; simp only [thenA, blockA, reduceIte])
            | (refine AWP.region (by rfl) (fun KK hKK => ?_); (repeat (simp (disch := omega) [hlt, hkb, hat])); first | (refine hKK _ _ _ ?_; clear hKK KK; simp only [thenA, blockA, reduceIte]) | skip)
            | (refine AWP.draw' mixd (by rfl) (by kernel_rfl) (fun KK tab hKK htab => ?_); (repeat (simp (disch := omega) [hlt, hkb, hat])); first | (refine dEnd_ro ?_ (hKK _ _ _ ?_); (focus (simp; done)); clear htab tab hKK KK; simp only [thenA, blockA, reduceIte]) | (refine dEnd_of ?_ (hKK _ _ _ ?_); (focus (simp only [List.reverse_cons, List.reverse_nil, List.nil_append, List.cons_append, memA, mem1, and_true, true_and]; (repeat' apply And.intro); (all_goals (first | trivial | (refine .inr ⟨?_, ?_⟩ <;> (simp; done)) | (refine .inr ⟨?_, ?_⟩ <;> (simp <;> omega)) | (refine .inl ?_; rw [htab]; kernel_rfl))); done)); clear htab tab hKK KK; simp only [thenA, blockA, reduceIte]) | skip)
            | (refine AWP.if_t ?_ ?_; focus (simp (disch := omega) [hlt, hkb, hat]; done))
            | (refine AWP.if_f ?_ ?_; focus (simp (disch := omega) [hlt, hkb, hat]; done)))
          refine dStop_pure (fun σ' => validName_c σ' _ _ (hsz _ hmem)) ?_
          (repeat (simp (disch := omega) [h1]))
          first | (refine dEnd_ro ?_ (hKK _ _ _ ?_); (focus (simp; done)); clear htab tab hKK KK; simp only [thenA, blockA, reduceIte]) | (refine dEnd_of ?_ (hKK _ _ _ ?_); (focus (simp only [List.reverse_cons, List.reverse_nil, List.nil_append, List.cons_append, memA, mem1, and_true, true_and]; (repeat' apply And.intro); (all_goals (first | trivial | (refine .inr ⟨?_, ?_⟩ <;> (simp; done)) | (refine .inr ⟨?_, ?_⟩ <;> (simp <;> omega)) | (refine .inl ?_; rw [htab]; kernel_rfl))); done)); clear htab tab hKK KK; simp only [thenA, blockA, reduceIte]) | skip
          refine dStop_pure (fun σ' => in_c σ' _ _ _ _) ?_
          (repeat (simp (disch := omega) [h2, hlt, hk]))
          first | (refine dEnd_ro ?_ (hKK _ _ _ ?_); (focus (simp; done)); clear htab tab hKK KK; simp only [thenA, blockA, reduceIte]) | (refine dEnd_of ?_ (hKK _ _ _ ?_); (focus (simp only [List.reverse_cons, List.reverse_nil, List.nil_append, List.cons_append, memA, mem1, and_true, true_and]; (repeat' apply And.intro); (all_goals (first | trivial | (refine .inr ⟨?_, ?_⟩ <;> (simp; done)) | (refine .inr ⟨?_, ?_⟩ <;> (simp <;> omega)) | (refine .inl ?_; rw [htab]; kernel_rfl))); done)); clear htab tab hKK KK; simp only [thenA, blockA, reduceIte]) | skip
          refine dStop_ro [b] (fun σ' hσ' => named_c σ' _ _ (ds.take k) _ (hxk.on (by rw [hσ' b (by simp)]; simp (disch := omega))) (by simp; omega)) ?_
          (repeat (simp (disch := omega) [h3']))
          first | (refine dEnd_ro ?_ (hKK _ _ _ ?_); (focus (simp; done)); clear htab tab hKK KK; simp only [thenA, blockA, reduceIte]) | (refine dEnd_of ?_ (hKK _ _ _ ?_); (focus (simp only [List.reverse_cons, List.reverse_nil, List.nil_append, List.cons_append, memA, mem1, and_true, true_and]; (repeat' apply And.intro); (all_goals (first | trivial | (refine .inr ⟨?_, ?_⟩ <;> (simp; done)) | (refine .inr ⟨?_, ?_⟩ <;> (simp <;> omega)) | (refine .inl ?_; rw [htab]; kernel_rfl))); done)); clear htab tab hKK KK; simp only [thenA, blockA, reduceIte]) | skip
          repeat' (first
            | refine AWP.seq ?_
            | refine AWP.block ?_
            | (refine AWP.skip ?_; simp only [thenA, blockA, reduceIte])
            | (refine AWP.exit ?_; simp only [thenA, blockA, eq_self, reduceIte, Nat.reduceEqDiff, Nat.succ_ne_zero])
            | (refine AWP.ret ?_; simp only [thenA, blockA, reduceIte])
            | (refine AWP.region (by rfl) (fun KK hKK => ?_); (repeat (simp (disch := omega) [])); first | (refine hKK _ _ _ ?_; clear hKK KK; simp only [thenA, blockA, reduceIte]) | skip)
            | (refine AWP.draw' mixd (by rfl) (by kernel_rfl) (fun KK tab hKK htab => ?_); (repeat (simp (disch := omega) [])); first | (refine dEnd_ro ?_ (hKK _ _ _ ?_); (focus (simp; done)); clear htab tab hKK KK; simp only [thenA, blockA, reduceIte]) | (refine dEnd_of ?_ (hKK _ _ _ ?_); (focus (simp only [List.reverse_cons, List.reverse_nil, List.nil_append, List.cons_append, memA, mem1, and_true, true_and]; (repeat' apply And.intro); (all_goals (first | trivial | (refine .inr ⟨?_, ?_⟩ <;> (simp; done)) | (refine .inr ⟨?_, ?_⟩ <;> (simp <;> omega)) | (refine .inl ?_; rw [htab]; kernel_rfl))); done)); clear htab tab hKK KK; simp only [thenA, blockA, reduceIte]) | skip)
            | (refine AWP.if_t ?_ ?_; focus (simp (disch := omega) []; done))
            | (refine AWP.if_f ?_ ?_; focus (simp (disch := omega) []; done)))
          refine ⟨by simp, _, rfl, fin0 ⟨?_, rfl⟩ (by simp [resO, get, nms, nmss]; try (simp [nms, nmss] at hn; simp_all))⟩
          simp [resO, get, ren, rens, okDs, hbad]
      · have hbad := okTo_bad lo hi ds k hlt (by rw [hok]; simp [h2])
        repeat' (first
          | refine AWP.seq ?_
          | refine AWP.block ?_
          | (refine AWP.skip ?_; simp only [thenA, blockA, reduceIte])
          | (refine AWP.exit ?_; simp only [thenA, blockA, eq_self, reduceIte, Nat.reduceEqDiff, Nat.succ_ne_zero])
          | (refine AWP.ret ?_; simp only [thenA, blockA, reduceIte])
          | (refine AWP.region (by rfl) (fun KK hKK => ?_); (repeat (simp (disch := omega) [hlt, hkb, hat])); first | (refine hKK _ _ _ ?_; clear hKK KK; simp only [thenA, blockA, reduceIte]) | skip)
          | (refine AWP.draw' mixd (by rfl) (by kernel_rfl) (fun KK tab hKK htab => ?_); (repeat (simp (disch := omega) [hlt, hkb, hat])); first | (refine dEnd_ro ?_ (hKK _ _ _ ?_); (focus (simp; done)); clear htab tab hKK KK; simp only [thenA, blockA, reduceIte]) | (refine dEnd_of ?_ (hKK _ _ _ ?_); (focus (simp only [List.reverse_cons, List.reverse_nil, List.nil_append, List.cons_append, memA, mem1, and_true, true_and]; (repeat' apply And.intro); (all_goals (first | trivial | (refine .inr ⟨?_, ?_⟩ <;> (simp; done)) | (refine .inr ⟨?_, ?_⟩ <;> (simp <;> omega)) | (refine .inl ?_; rw [htab]; kernel_rfl))); done)); clear htab tab hKK KK; simp only [thenA, blockA, reduceIte]) | skip)
          | (refine AWP.if_t ?_ ?_; focus (simp (disch := omega) [hlt, hkb, hat]; done))
          | (refine AWP.if_f ?_ ?_; focus (simp (disch := omega) [hlt, hkb, hat]; done)))
        refine dStop_pure (fun σ' => validName_c σ' _ _ (hsz _ hmem)) ?_
        (repeat (simp (disch := omega) [h1]))
        first | (refine dEnd_ro ?_ (hKK _ _ _ ?_); (focus (simp; done)); clear htab tab hKK KK; simp only [thenA, blockA, reduceIte]) | (refine dEnd_of ?_ (hKK _ _ _ ?_); (focus (simp only [List.reverse_cons, List.reverse_nil, List.nil_append, List.cons_append, memA, mem1, and_true, true_and]; (repeat' apply And.intro); (all_goals (first | trivial | (refine .inr ⟨?_, ?_⟩ <;> (simp; done)) | (refine .inr ⟨?_, ?_⟩ <;> (simp <;> omega)) | (refine .inl ?_; rw [htab]; kernel_rfl))); done)); clear htab tab hKK KK; simp only [thenA, blockA, reduceIte]) | skip
        refine dStop_pure (fun σ' => in_c σ' _ _ _ _) ?_
        (repeat (simp (disch := omega) [h2]))
        first | (refine dEnd_ro ?_ (hKK _ _ _ ?_); (focus (simp; done)); clear htab tab hKK KK; simp only [thenA, blockA, reduceIte]) | (refine dEnd_of ?_ (hKK _ _ _ ?_); (focus (simp only [List.reverse_cons, List.reverse_nil, List.nil_append, List.cons_append, memA, mem1, and_true, true_and]; (repeat' apply And.intro); (all_goals (first | trivial | (refine .inr ⟨?_, ?_⟩ <;> (simp; done)) | (refine .inr ⟨?_, ?_⟩ <;> (simp <;> omega)) | (refine .inl ?_; rw [htab]; kernel_rfl))); done)); clear htab tab hKK KK; simp only [thenA, blockA, reduceIte]) | skip
        repeat' (first
          | refine AWP.seq ?_
          | refine AWP.block ?_
          | (refine AWP.skip ?_; simp only [thenA, blockA, reduceIte])
          | (refine AWP.exit ?_; simp only [thenA, blockA, eq_self, reduceIte, Nat.reduceEqDiff, Nat.succ_ne_zero])
          | (refine AWP.ret ?_; simp only [thenA, blockA, reduceIte])
          | (refine AWP.region (by rfl) (fun KK hKK => ?_); (repeat (simp (disch := omega) [])); first | (refine hKK _ _ _ ?_; clear hKK KK; simp only [thenA, blockA, reduceIte]) | skip)
          | (refine AWP.draw' mixd (by rfl) (by kernel_rfl) (fun KK tab hKK htab => ?_); (repeat (simp (disch := omega) [])); first | (refine dEnd_ro ?_ (hKK _ _ _ ?_); (focus (simp; done)); clear htab tab hKK KK; simp only [thenA, blockA, reduceIte]) | (refine dEnd_of ?_ (hKK _ _ _ ?_); (focus (simp only [List.reverse_cons, List.reverse_nil, List.nil_append, List.cons_append, memA, mem1, and_true, true_and]; (repeat' apply And.intro); (all_goals (first | trivial | (refine .inr ⟨?_, ?_⟩ <;> (simp; done)) | (refine .inr ⟨?_, ?_⟩ <;> (simp <;> omega)) | (refine .inl ?_; rw [htab]; kernel_rfl))); done)); clear htab tab hKK KK; simp only [thenA, blockA, reduceIte]) | skip)
          | (refine AWP.if_t ?_ ?_; focus (simp (disch := omega) []; done))
          | (refine AWP.if_f ?_ ?_; focus (simp (disch := omega) []; done)))
        refine ⟨by simp, _, rfl, fin0 ⟨?_, rfl⟩ (by simp [resO, get, nms, nmss]; try (simp [nms, nmss] at hn; simp_all))⟩
        simp [resO, get, ren, rens, okDs, hbad]
  · have hk' : k = ds.length := by omega
    subst hk'
    repeat' (first
      | refine AWP.seq ?_
      | refine AWP.block ?_
      | (refine AWP.skip ?_; simp only [thenA, blockA, reduceIte])
      | (refine AWP.exit ?_; simp only [thenA, blockA, eq_self, reduceIte, Nat.reduceEqDiff, Nat.succ_ne_zero])
      | (refine AWP.ret ?_; simp only [thenA, blockA, reduceIte])
      | (refine AWP.region (by rfl) (fun KK hKK => ?_); (repeat (simp (disch := omega) [])); first | (refine hKK _ _ _ ?_; clear hKK KK; simp only [thenA, blockA, reduceIte]) | skip)
      | (refine AWP.draw' mixd (by rfl) (by kernel_rfl) (fun KK tab hKK htab => ?_); (repeat (simp (disch := omega) [])); first | (refine dEnd_ro ?_ (hKK _ _ _ ?_); (focus (simp; done)); clear htab tab hKK KK; simp only [thenA, blockA, reduceIte]) | (refine dEnd_of ?_ (hKK _ _ _ ?_); (focus (simp only [List.reverse_cons, List.reverse_nil, List.nil_append, List.cons_append, memA, mem1, and_true, true_and]; (repeat' apply And.intro); (all_goals (first | trivial | (refine .inr ⟨?_, ?_⟩ <;> (simp; done)) | (refine .inr ⟨?_, ?_⟩ <;> (simp <;> omega)) | (refine .inl ?_; rw [htab]; kernel_rfl))); done)); clear htab tab hKK KK; simp only [thenA, blockA, reduceIte]) | skip)
      | (refine AWP.if_t ?_ ?_; focus (simp (disch := omega) []; done))
      | (refine AWP.if_f ?_ ?_; focus (simp (disch := omega) []; done)))
    refine ⟨by simp, _, rfl, fin0 ⟨?_, rfl⟩ (by simp [resO, get, nms, nmss]; try (simp [nms, nmss] at hn; simp_all))⟩
    simp [resO, get, ren, rens, okDs, hl]

set_option maxRecDepth 10000 in
set_option maxHeartbeats 400000 in
theorem validEnum_c (σ : Sto) (ν : Nat) (x : AV) (ds : List Df) (hx : Sl σ x 2 (rowsD ds)) (hlen : ds.length ≤ 9223372036854775807) (hsz : ∀ d ∈ ds, d.1.size ≤ 9223372036854775807) :
    AC Try.prog 20 [.agg [x]] σ ν fun r δ => r = .v (.bool (okDs (-1000) 1000 ds)) ∧ δ = noS := by
  obtain ⟨b, o, cap, z, rfl⟩ := hx.out
  refine AC.intro [] ent_20 Try.func20 rfl (by simp [Try.f20]) (by simp) ?_
  intro K s hs hB hn hν hA hFr
  simp only [argT, Nat.zero_add, Nat.reduceAdd]
  have hx' := hx.vw hs.vw
  repeat' (first
    | refine AWP.seq ?_
    | refine AWP.block ?_
    | (refine AWP.skip ?_; simp only [thenA, blockA, reduceIte])
    | (refine AWP.exit ?_; simp only [thenA, blockA, eq_self, reduceIte, Nat.reduceEqDiff, Nat.succ_ne_zero])
    | (refine AWP.ret ?_; simp only [thenA, blockA, reduceIte])
    | (refine AWP.region (by rfl) (fun KK hKK => ?_); (repeat (simp (disch := omega) [])); first | (refine hKK _ _ _ ?_; clear hKK KK; simp only [thenA, blockA, reduceIte]) | skip)
    | (refine AWP.if_t ?_ ?_; focus (simp (disch := omega) []; done))
    | (refine AWP.if_f ?_ ?_; focus (simp (disch := omega) []; done)))
  refine aStop_of (defsValid_c _ _ _ ds _ _ (hx'.vw ((Vw.refl _).over (by repeat (first | exact Over.refl _ | exact hov | refine Over.upd ?_ hB (by omega) | refine Over.del ?_ hB (by omega))))) hlen hsz) ?_
  rintro r δ ⟨rfl, rfl⟩
  (repeat (simp (disch := omega) []))
  first | (refine hKK _ _ _ ?_; clear hKK KK; simp only [thenA, blockA, reduceIte]) | skip
  repeat' (first
    | refine AWP.seq ?_
    | refine AWP.block ?_
    | (refine AWP.skip ?_; simp only [thenA, blockA, reduceIte])
    | (refine AWP.exit ?_; simp only [thenA, blockA, eq_self, reduceIte, Nat.reduceEqDiff, Nat.succ_ne_zero])
    | (refine AWP.ret ?_; simp only [thenA, blockA, reduceIte])
    | (refine AWP.region (by rfl) (fun KK hKK => ?_); (repeat (simp (disch := omega) [])); first | (refine hKK _ _ _ ?_; clear hKK KK; simp only [thenA, blockA, reduceIte]) | skip)
    | (refine AWP.if_t ?_ ?_; focus (simp (disch := omega) []; done))
    | (refine AWP.if_f ?_ ?_; focus (simp (disch := omega) []; done)))
  refine ⟨by simp, _, rfl, fin0 ⟨?_, rfl⟩ (by simp [resO, get, nms, nmss]; try (simp [nms, nmss] at hn; simp_all))⟩
  simp [resO, get, ren, rens]
end Go.Proofs.Ytgaiemhbllbaiaa
namespace Go.Proofs.Ytgaiemhbllbaiaa
open Go Go.RowKit

theorem idx_cases {α : Type} (p : α → Bool) (l : List α) : (idx p l = -1 ∧ ∀ e ∈ l, p e = false) ∨ ∃ i : Nat, ∃ h : i < l.length, idx p l = i ∧ p l[i] = true ∧ ∀ e ∈ l.take i, p e = false := by
  unfold idx
  cases h : l.findIdx? p with
  | none =>
    rw [List.findIdx?_eq_none_iff] at h
    exact .inl ⟨rfl, h⟩
  | some i =>
    rw [List.findIdx?_eq_some_iff_getElem] at h
    obtain ⟨h1, h2, h3⟩ := h
    refine .inr ⟨i, h1, rfl, h2, fun e he => ?_⟩
    rw [List.mem_take_iff_getElem] at he
    obtain ⟨j, hj, rfl⟩ := he
    have := h3 j (by omega)
    simpa using this
theorem idx_neg {α : Type} {p : α → Bool} {l : List α} : idx p l < 0 ↔ ∀ e ∈ l, p e = false := by
  rcases idx_cases p l with ⟨h1, h2⟩ | ⟨i, hi, h1, h2, h3⟩
  · exact ⟨fun _ => h2, fun _ => by omega⟩
  · refine ⟨fun h => by omega, fun h => ?_⟩
    rw [h _ (List.getElem_mem hi)] at h2
    cases h2
theorem valueIx_neg {l : List Df} {n : Int} : valueIx l n < 0 ↔ ∀ d ∈ l, d.2 ≠ n := by
  unfold valueIx
  rw [idx_neg]
  simp
theorem nameIx_neg {l : List Df} {t : ByteArray} : nameIx l t < 0 ↔ ∀ d ∈ l, d.1 ≠ t := by
  unfold nameIx
  rw [idx_neg]
  simp
theorem valueIx_cases (l : List Df) (n : Int) : (valueIx l n = -1 ∧ ∀ d ∈ l, d.2 ≠ n) ∨ ∃ i : Nat, ∃ h : i < l.length, valueIx l n = i ∧ l[i].2 = n ∧ ∀ d ∈ l.take i, d.2 ≠ n := by
  rcases idx_cases (fun d : Df => decide (d.2 = n)) l with ⟨h1, h2⟩ | ⟨i, hi, h1, h2, h3⟩
  · exact .inl ⟨h1, by simpa using h2⟩
  · exact .inr ⟨i, hi, h1, by simpa using h2, by simpa using h3⟩
theorem nameIx_all (l : List Df) (t : ByteArray) : (nameIx l t = -1 ∧ ∀ d ∈ l, d.1 ≠ t) ∨ ∃ i : Nat, ∃ h : i < l.length, nameIx l t = i ∧ l[i].1 = t ∧ ∀ d ∈ l.take i, d.1 ≠ t := by
  rcases idx_cases (fun d : Df => decide (d.1 = t)) l with ⟨h1, h2⟩ | ⟨i, hi, h1, h2, h3⟩
  · exact .inl ⟨h1, by simpa using h2⟩
  · exact .inr ⟨i, hi, h1, by simpa using h2, by simpa using h3⟩

theorem nameIx_cases (ds : List Df) (t : ByteArray) : nameIx ds t = -1 ∨ ∃ i : Nat, ∃ h : i < ds.length, nameIx ds t = i ∧ ds[i].1 = t := by
  rcases nameIx_all ds t with ⟨h, _⟩ | ⟨i, h, e, h2, _⟩
  · exact .inl h
  · exact .inr ⟨i, h, e, h2⟩

/-- The members: the first definition of each value. -/
def memStep (out : List Df) (d : Df) : List Df := if valueIx out d.2 < 0 then out ++ [d] else out
def memF (ds : List Df) : List Df := ds.foldl memStep []
theorem memF_snoc (ds : List Df) (d : Df) : memF (ds ++ [d]) = memStep (memF ds) d := by simp [memF]
theorem memF_take {ds : List Df} {k : Nat} (h : k < ds.length) : memF (ds.take (k + 1)) = memStep (memF (ds.take k)) ds[k] := by
  rw [List.take_succ_eq_append_getElem h, memF_snoc]
theorem memF_len (ds : List Df) : (memF ds).length ≤ ds.length := by
  have key : ∀ k, k ≤ ds.length → (memF (ds.take k)).length ≤ k := by
    intro k
    induction k with
    | zero => intro _; simp [memF]
    | succ k ih =>
      intro h
      rw [memF_take (by omega)]
      have := ih (by omega)
      unfold memStep
      split
      · simp; omega
      · omega
  have := key ds.length (Nat.le_refl _)
  rwa [List.take_length] at this
theorem memF_sub (ds : List Df) : ∀ d ∈ memF ds, d ∈ ds := by
  have key : ∀ k, k ≤ ds.length → ∀ d ∈ memF (ds.take k), d ∈ ds := by
    intro k
    induction k with
    | zero => intro _ d hd; simp [memF] at hd
    | succ k ih =>
      intro h d hd
      rw [memF_take (by omega)] at hd
      unfold memStep at hd
      split at hd
      · rcases List.mem_append.1 hd with hd | hd
        · exact ih (by omega) d hd
        · rw [List.mem_singleton.1 hd]; exact List.getElem_mem _
      · exact ih (by omega) d hd
  have := key ds.length (Nat.le_refl _)
  rwa [List.take_length] at this
theorem memF_val (ds : List Df) (n : Int) : (∃ d ∈ memF ds, d.2 = n) ↔ ∃ d ∈ ds, d.2 = n := by
  have key : ∀ k, k ≤ ds.length → ((∃ d ∈ memF (ds.take k), d.2 = n) ↔ ∃ d ∈ ds.take k, d.2 = n) := by
    intro k
    induction k with
    | zero => intro _; simp [memF]
    | succ k ih =>
      intro h
      have ih := ih (by omega)
      rw [memF_take (by omega), List.take_succ_eq_append_getElem (by omega)]
      unfold memStep
      split
      · constructor
        · rintro ⟨d, hd, rfl⟩
          rcases List.mem_append.1 hd with hd | hd
          · obtain ⟨e, he, h2⟩ := ih.1 ⟨d, hd, rfl⟩
            exact ⟨e, List.mem_append.2 (.inl he), h2⟩
          · exact ⟨d, List.mem_append.2 (.inr hd), rfl⟩
        · rintro ⟨d, hd, rfl⟩
          rcases List.mem_append.1 hd with hd | hd
          · obtain ⟨e, he, h2⟩ := ih.2 ⟨d, hd, rfl⟩
            exact ⟨e, List.mem_append.2 (.inl he), h2⟩
          · exact ⟨d, List.mem_append.2 (.inr hd), rfl⟩
      · rename_i hn
        constructor
        · rintro hd
          obtain ⟨e, he, h2⟩ := ih.1 hd
          exact ⟨e, List.mem_append.2 (.inl he), h2⟩
        · rintro ⟨d, hd, rfl⟩
          rcases List.mem_append.1 hd with hd | hd
          · exact ih.2 ⟨d, hd, rfl⟩
          · rw [List.mem_singleton.1 hd] at *
            rcases valueIx_cases (memF (ds.take k)) ds[k].2 with ⟨h1, _⟩ | ⟨i, hi, _, h2, _⟩
            · omega
            · exact ⟨_, List.getElem_mem hi, h2⟩
  have := key ds.length (Nat.le_refl _)
  rwa [List.take_length] at this
/-- A definition is a member where no one ahead of it has its value. -/
theorem mem_iff {ds : List Df} {k : Nat} (h : k < ds.length) : valueIx (memF (ds.take k)) ds[k].2 < 0 ↔ valueIx ds ds[k].2 = k := by
  have h1 : valueIx (memF (ds.take k)) ds[k].2 < 0 ↔ ∀ d ∈ ds.take k, d.2 ≠ ds[k].2 := by
    rw [valueIx_neg]
    have := memF_val (ds.take k) ds[k].2
    constructor
    · intro hh d hd e
      obtain ⟨d', hd', e'⟩ := this.2 ⟨d, hd, e⟩
      exact hh d' hd' e'
    · intro hh d hd e
      obtain ⟨d', hd', e'⟩ := this.1 ⟨d, hd, e⟩
      exact hh d' hd' e'
  rw [h1]
  constructor
  · intro hh
    exact idx_at h (fun e he => by simpa using hh e he) (by simp)
  · intro hh
    rcases valueIx_cases ds ds[k].2 with ⟨h2, _⟩ | ⟨i, hi, h2, _, h3⟩
    · omega
    · have : i = k := by omega
      subst this
      exact h3
theorem okDs_len {lo hi : Int} {ds : List Df} (h : okDs lo hi ds = true) : ds.length ≤ 12 := by
  unfold okDs at h
  simp only [Bool.and_eq_true, decide_eq_true_eq] at h
  omega
theorem okDs_at {lo hi : Int} {ds : List Df} (h : okDs lo hi ds = true) {i : Nat} (hi' : i < ds.length) : vname ds[i].1 = true ∧ lo ≤ ds[i].2 ∧ ds[i].2 ≤ hi ∧ nameIx (ds.take i) ds[i].1 < 0 := by
  unfold okDs okTo at h
  simp only [Bool.and_eq_true, decide_eq_true_eq, List.all_eq_true, List.mem_range] at h
  have := h.1 i hi'
  rw [okAt_eq _ _ _ _ hi'] at this
  simp only [Bool.and_eq_true, decide_eq_true_eq] at this
  exact ⟨this.1.1, this.1.2.1, this.1.2.2, this.2⟩
theorem okDs_iff {lo hi : Int} {ds : List Df} : okDs lo hi ds = true ↔ ds.length ≤ 12 ∧ ∀ i, ∀ h : i < ds.length, vname ds[i].1 = true ∧ lo ≤ ds[i].2 ∧ ds[i].2 ≤ hi ∧ nameIx (ds.take i) ds[i].1 < 0 := by
  refine ⟨fun h => ⟨okDs_len h, fun i hi' => okDs_at h hi'⟩, fun ⟨h1, h2⟩ => ?_⟩
  unfold okDs okTo
  simp only [Bool.and_eq_true, decide_eq_true_eq, List.all_eq_true, List.mem_range]
  refine ⟨fun i hi' => ?_, by omega⟩
  rw [okAt_eq _ _ _ _ hi']
  obtain ⟨a, b, c, d⟩ := h2 i hi'
  simp [a, b, c, d]
/-- The value of a name, the member of a value. -/
def valO (ds : List Df) (t : ByteArray) : Option Int := if okDs (-1000) 1000 ds = true ∧ 0 ≤ nameIx ds t then some (ds.getD (nameIx ds t).toNat (ByteArray.empty, 0)).2 else none
def nameO (ds : List Df) (n : Int) : Option ByteArray := if okDs (-1000) 1000 ds = true ∧ 0 ≤ valueIx ds n then some (ds.getD (valueIx ds n).toNat (ByteArray.empty, 0)).1 else none
theorem valO_no {ds : List Df} {t : ByteArray} (h : ¬ (okDs (-1000) 1000 ds = true ∧ 0 ≤ nameIx ds t)) : valO ds t = none := by unfold valO; rw [if_neg h]
theorem valO_yes {ds : List Df} {t : ByteArray} {i : Nat} (h : okDs (-1000) 1000 ds = true) (hi : i < ds.length) (hx : nameIx ds t = i) : valO ds t = some ds[i].2 := by
  unfold valO
  rw [if_pos ⟨h, by omega⟩, hx]
  simp [List.getD_eq_getElem?_getD, List.getElem?_eq_getElem hi]
theorem nameO_no {ds : List Df} {n : Int} (h : ¬ (okDs (-1000) 1000 ds = true ∧ 0 ≤ valueIx ds n)) : nameO ds n = none := by unfold nameO; rw [if_neg h]
theorem nameO_yes {ds : List Df} {n : Int} {i : Nat} (h : okDs (-1000) 1000 ds = true) (hi : i < ds.length) (hx : valueIx ds n = i) : nameO ds n = some ds[i].1 := by
  unfold nameO
  rw [if_pos ⟨h, by omega⟩, hx]
  simp [List.getD_eq_getElem?_getD, List.getElem?_eq_getElem hi]
end Go.Proofs.Ytgaiemhbllbaiaa
namespace Go.Proofs.Ytgaiemhbllbaiaa
open Go Go.RowKit

set_option maxRecDepth 10000 in
set_option maxHeartbeats 400000 in
theorem inRange_c (σ : Sto) (ν : Nat) (n lo hi : Int) : AC Try.prog 107 [.v (.int .i64 n), .v (.int .i64 lo), .v (.int .i64 hi)] σ ν fun r δ => r = .v (.bool (decide (lo ≤ n ∧ n ≤ hi))) ∧ δ = noS := by
  refine AC.intro [] ent_107 Try.func107 rfl (by simp [Try.f107]) (by simp) ?_
  intro K s hs hB hn hν hA hFr
  simp only [argT, Nat.zero_add, Nat.reduceAdd]
  by_cases h1 : lo ≤ n
  · repeat' (first
      | refine AWP.seq ?_
      | refine AWP.block ?_
      | (refine AWP.skip ?_; simp only [thenA, blockA, reduceIte])
      | (refine AWP.exit ?_; simp only [thenA, blockA, eq_self, reduceIte, Nat.reduceEqDiff, Nat.succ_ne_zero])
      | (refine AWP.ret ?_; simp only [thenA, blockA, reduceIte])
      | (refine AWP.region (by rfl) (fun KK hKK => ?_); (repeat (simp (disch := omega) [h1])); first | (refine hKK _ _ _ ?_; clear hKK KK; simp only [thenA, blockA, reduceIte]) | skip)
      | (refine AWP.if_t ?_ ?_; focus (simp (disch := omega) [h1]; done))
      | (refine AWP.if_f ?_ ?_; focus (simp (disch := omega) [h1]; done)))
    refine ⟨by simp, _, rfl, fin0 ⟨?_, rfl⟩ (by simp [resO, get, nms, nmss]; try (simp [nms, nmss] at hn; simp_all))⟩
    simp [resO, get, ren, rens, h1]
  · repeat' (first
      | refine AWP.seq ?_
      | refine AWP.block ?_
      | (refine AWP.skip ?_; simp only [thenA, blockA, reduceIte])
      | (refine AWP.exit ?_; simp only [thenA, blockA, eq_self, reduceIte, Nat.reduceEqDiff, Nat.succ_ne_zero])
      | (refine AWP.ret ?_; simp only [thenA, blockA, reduceIte])
      | (refine AWP.region (by rfl) (fun KK hKK => ?_); (repeat (simp (disch := omega) [h1])); first | (refine hKK _ _ _ ?_; clear hKK KK; simp only [thenA, blockA, reduceIte]) | skip)
      | (refine AWP.if_t ?_ ?_; focus (simp (disch := omega) [h1]; done))
      | (refine AWP.if_f ?_ ?_; focus (simp (disch := omega) [h1]; done)))
    refine ⟨by simp, _, rfl, fin0 ⟨?_, rfl⟩ (by simp [resO, get, nms, nmss]; try (simp [nms, nmss] at hn; simp_all))⟩
    simp [resO, get, ren, rens, h1]

set_option maxRecDepth 10000 in
set_option maxHeartbeats 400000 in
theorem validNameS_c (σ : Sto) (ν : Nat) (t : ByteArray) (ht : t.size ≤ 9223372036854775807) : AC Try.prog 113 [.v (.string t)] σ ν fun r δ => r = .v (.bool (vname t)) ∧ δ = noS := by
  refine AC.intro [] ent_113 Try.func113 rfl (by simp [Try.f113]) (by simp) ?_
  intro K s hs hB hn hν hA hFr
  simp only [argT, Nat.zero_add, Nat.reduceAdd]
  repeat' (first
    | refine AWP.seq ?_
    | refine AWP.block ?_
    | (refine AWP.skip ?_; simp only [thenA, blockA, reduceIte])
    | (refine AWP.exit ?_; simp only [thenA, blockA, eq_self, reduceIte, Nat.reduceEqDiff, Nat.succ_ne_zero])
    | (refine AWP.ret ?_; simp only [thenA, blockA, reduceIte])
    | (refine AWP.region (by rfl) (fun KK hKK => ?_); (repeat (simp (disch := omega) [])); first | (refine hKK _ _ _ ?_; clear hKK KK; simp only [thenA, blockA, reduceIte]) | skip)
    | (refine AWP.if_t ?_ ?_; focus (simp (disch := omega) []; done))
    | (refine AWP.if_f ?_ ?_; focus (simp (disch := omega) []; done)))
  refine AWP.loop (fun n τ σ' M => ∃ k : Nat, k ≤ t.size ∧ n = t.size - k ∧ lower (t.data.toList.take k) = true ∧ τ = [(0, .v (.string t)), (3, .v (.int .i64 k))] ∧ σ' = s ∧ M = K) ⟨_, _, _, _, ⟨0, by omega, rfl, by simp [lower], rfl, rfl, rfl⟩, (Weak.mk [] (by simp) (by simp) (by omega) (by simp [LeT, ren, rens, swl, nms, nmss]) (LeS.base hB (by omega) (fun _ _ => rfl) (Over.refl _)))⟩ ?_
  rintro n τ σ' M ⟨k, hk, rfl, hl, rfl, rfl, rfl⟩
  by_cases hlt : k < t.size
  · have hs := lower_snoc t k hlt
    rw [hl, Bool.true_and] at hs
    by_cases h1 : (t[k].toNat : Int) < 97
    · have hv : vname t = false := by
        unfold vname
        cases hh : lower t.data.toList with
        | false => rfl
        | true =>
          have := lower_take _ (k + 1) hh
          rw [hs] at this
          simp at this
          omega
      repeat' (first
        | refine AWP.seq ?_
        | refine AWP.block ?_
        | (refine AWP.skip ?_; simp only [thenA, blockA, reduceIte])
        | (refine AWP.exit ?_; simp only [thenA, blockA, eq_self, reduceIte, Nat.reduceEqDiff, Nat.succ_ne_zero])
        | (refine AWP.ret ?_; simp only [thenA, blockA, reduceIte])
        | (refine AWP.region (by rfl) (fun KK hKK => ?_); (repeat (simp (disch := omega) [hlt, h1])); first | (refine hKK _ _ _ ?_; clear hKK KK; simp only [thenA, blockA, reduceIte]) | skip)
        | (refine AWP.if_t ?_ ?_; focus (simp (disch := omega) [hlt, h1]; done))
        | (refine AWP.if_f ?_ ?_; focus (simp (disch := omega) [hlt, h1]; done)))
      refine ⟨by simp, _, rfl, fin0 ⟨?_, rfl⟩ (by simp [resO, get, nms, nmss]; try (simp [nms, nmss] at hn; simp_all))⟩
      simp [resO, get, ren, rens, hv]
    · by_cases h2 : 122 < (t[k].toNat : Int)
      · have hv : vname t = false := by
          unfold vname
          cases hh : lower t.data.toList with
          | false => rfl
          | true =>
            have := lower_take _ (k + 1) hh
            rw [hs] at this
            simp at this
            omega
        repeat' (first
          | refine AWP.seq ?_
          | refine AWP.block ?_
          | (refine AWP.skip ?_; simp only [thenA, blockA, reduceIte])
          | (refine AWP.exit ?_; simp only [thenA, blockA, eq_self, reduceIte, Nat.reduceEqDiff, Nat.succ_ne_zero])
          | (refine AWP.ret ?_; simp only [thenA, blockA, reduceIte])
          | (refine AWP.region (by rfl) (fun KK hKK => ?_); (repeat (simp (disch := omega) [hlt, h1, h2])); first | (refine hKK _ _ _ ?_; clear hKK KK; simp only [thenA, blockA, reduceIte]) | skip)
          | (refine AWP.if_t ?_ ?_; focus (simp (disch := omega) [hlt, h1, h2]; done))
          | (refine AWP.if_f ?_ ?_; focus (simp (disch := omega) [hlt, h1, h2]; done)))
        refine ⟨by simp, _, rfl, fin0 ⟨?_, rfl⟩ (by simp [resO, get, nms, nmss]; try (simp [nms, nmss] at hn; simp_all))⟩
        simp [resO, get, ren, rens, hv]
      · repeat' (first
          | refine AWP.seq ?_
          | refine AWP.block ?_
          | (refine AWP.skip ?_; simp only [thenA, blockA, reduceIte])
          | (refine AWP.exit ?_; simp only [thenA, blockA, eq_self, reduceIte, Nat.reduceEqDiff, Nat.succ_ne_zero])
          | (refine AWP.ret ?_; simp only [thenA, blockA, reduceIte])
          | (refine AWP.region (by rfl) (fun KK hKK => ?_); (repeat (simp (disch := omega) [hlt, h1, h2])); first | (refine hKK _ _ _ ?_; clear hKK KK; simp only [thenA, blockA, reduceIte]) | skip)
          | (refine AWP.if_t ?_ ?_; focus (simp (disch := omega) [hlt, h1, h2]; done))
          | (refine AWP.if_f ?_ ?_; focus (simp (disch := omega) [hlt, h1, h2]; done)))
        refine ⟨_, _, _, _, ?_, ⟨k + 1, by omega, rfl, by rw [hs]; simp; omega, rfl, rfl, rfl⟩, (Weak.mk [] (by simp) (by simp) (by omega) (by simp [LeT, ren, rens, swl, nms, nmss]) (LeS.base hB (by omega) (fun _ _ => rfl) (Over.refl _)))⟩
        omega
  · have hk' : k = t.size := by omega
    subst hk'
    repeat' (first
      | refine AWP.seq ?_
      | refine AWP.block ?_
      | (refine AWP.skip ?_; simp only [thenA, blockA, reduceIte])
      | (refine AWP.exit ?_; simp only [thenA, blockA, eq_self, reduceIte, Nat.reduceEqDiff, Nat.succ_ne_zero])
      | (refine AWP.ret ?_; simp only [thenA, blockA, reduceIte])
      | (refine AWP.region (by rfl) (fun KK hKK => ?_); (repeat (simp (disch := omega) [])); first | (refine hKK _ _ _ ?_; clear hKK KK; simp only [thenA, blockA, reduceIte]) | skip)
      | (refine AWP.if_t ?_ ?_; focus (simp (disch := omega) []; done))
      | (refine AWP.if_f ?_ ?_; focus (simp (disch := omega) []; done)))
    refine aStop_of (inRange_c _ _ _ _ _) ?_
    rintro r δ ⟨rfl, rfl⟩
    (repeat (simp (disch := omega) []))
    first | (refine hKK _ _ _ ?_; clear hKK KK; simp only [thenA, blockA, reduceIte]) | skip
    have hl' : lower t.data.toList = true := by
      rw [← hl, List.take_of_length_le (by simp)]
    repeat' (first
      | refine AWP.seq ?_
      | refine AWP.block ?_
      | (refine AWP.skip ?_; simp only [thenA, blockA, reduceIte])
      | (refine AWP.exit ?_; simp only [thenA, blockA, eq_self, reduceIte, Nat.reduceEqDiff, Nat.succ_ne_zero])
      | (refine AWP.ret ?_; simp only [thenA, blockA, reduceIte])
      | (refine AWP.region (by rfl) (fun KK hKK => ?_); (repeat (simp (disch := omega) [])); first | (refine hKK _ _ _ ?_; clear hKK KK; simp only [thenA, blockA, reduceIte]) | skip)
      | (refine AWP.if_t ?_ ?_; focus (simp (disch := omega) []; done))
      | (refine AWP.if_f ?_ ?_; focus (simp (disch := omega) []; done)))
    refine ⟨by simp, _, rfl, fin0 ⟨?_, rfl⟩ (by simp [resO, get, nms, nmss]; try (simp [nms, nmss] at hn; simp_all))⟩
    simp [resO, get, ren, rens, vname, hl']

set_option maxRecDepth 10000 in
set_option maxHeartbeats 400000 in
theorem indexOf_c (σ : Sto) (ν : Nat) (x : AV) (ds : List Df) (t : ByteArray) (hx : Sl σ x 2 (rowsD ds)) (hlen : ds.length ≤ 9223372036854775807) :
    AC Try.prog 53 [x, .v (.string t)] σ ν fun r δ => r = .v (.int .i64 (nameIx ds t)) ∧ δ = noS := by
  obtain ⟨b, o, cap, z, rfl⟩ := hx.out
  simp only [rowsD_len] at hx ⊢
  refine AC.intro [] ent_53 Try.func53 rfl (by simp [Try.f53]) (by simp) ?_
  intro K s hs hB hn hν hA hFr
  simp only [argT, Nat.zero_add, Nat.reduceAdd]
  have hx' := hx.vw hs.vw
  repeat' (first
    | refine AWP.seq ?_
    | refine AWP.block ?_
    | (refine AWP.skip ?_; simp only [thenA, blockA, reduceIte])
    | (refine AWP.exit ?_; simp only [thenA, blockA, eq_self, reduceIte, Nat.reduceEqDiff, Nat.succ_ne_zero])
    | (refine AWP.ret ?_; simp only [thenA, blockA, reduceIte])
    | (refine AWP.region (by rfl) (fun KK hKK => ?_); (repeat (simp (disch := omega) [])); first | (refine hKK _ _ _ ?_; clear hKK KK; simp only [thenA, blockA, reduceIte]) | skip)
    | (refine AWP.if_t ?_ ?_; focus (simp (disch := omega) []; done))
    | (refine AWP.if_f ?_ ?_; focus (simp (disch := omega) []; done)))
  refine AWP.loop (fun n τ σ' M => ∃ k : Nat, k ≤ ds.length ∧ n = ds.length - k ∧ (∀ e ∈ ds.take k, (fun d => decide (d.1 = t)) e = false) ∧ τ = [(0, .sl b o ds.length cap z), (1, .v (.string t)), (5, .v (.int .i64 k))] ∧ σ' = s ∧ M = K) ⟨_, _, _, _, ⟨0, by omega, rfl, by simp, rfl, rfl, rfl⟩, (Weak.base hB (by repeat (first | exact Over.refl _ | exact hov | refine Over.upd ?_ hB (by omega) | refine Over.del ?_ hB (by omega))) (by simp [LT, get, nms, nmss]; try (simp [nms, nmss] at hn; simp_all)))⟩ ?_
  rintro n τ σ' M ⟨k, hk, rfl, hl, rfl, rfl, rfl⟩
  by_cases hlt : k < ds.length
  · obtain ⟨_, rfl, kb, hkb, hat⟩ := hx'.at (i := k) (by rw [rowsD_len]; exact hlt)
    have hrow : (rowsD ds)[k]'(by rw [rowsD_len]; exact hlt) = [.v (.string ds[k].1), .v (.int .i64 ds[k].2)] := by simp [rowsD, rowD]
    rw [hrow] at hat
    by_cases hp : ds[k].1 = t
    · have e : nameIx ds t = k := idx_at hlt hl (by simp [hp])
      repeat' (first
        | refine AWP.seq ?_
        | refine AWP.block ?_
        | (refine AWP.skip ?_; simp only [thenA, blockA, reduceIte])
        | (refine AWP.exit ?_; simp only [thenA, blockA, eq_self, reduceIte, Nat.reduceEqDiff, Nat.succ_ne_zero])
        | (refine AWP.ret ?_; simp only [thenA, blockA, reduceIte])
        | (refine AWP.region (by rfl) (fun KK hKK => ?_); (repeat (simp (disch := omega) [hlt, hkb, hat, hp])); first | (refine hKK _ _ _ ?_; clear hKK KK; simp only [thenA, blockA, reduceIte]) | skip)
        | (refine AWP.if_t ?_ ?_; focus (simp (disch := omega) [hlt, hkb, hat, hp]; done))
        | (refine AWP.if_f ?_ ?_; focus (simp (disch := omega) [hlt, hkb, hat, hp]; done)))
      refine ⟨by simp, _, rfl, fin0 ⟨?_, rfl⟩ (by simp [resO, get, nms, nmss]; try (simp [nms, nmss] at hn; simp_all))⟩
      simp [resO, get, ren, rens, e]
    · repeat' (first
        | refine AWP.seq ?_
        | refine AWP.block ?_
        | (refine AWP.skip ?_; simp only [thenA, blockA, reduceIte])
        | (refine AWP.exit ?_; simp only [thenA, blockA, eq_self, reduceIte, Nat.reduceEqDiff, Nat.succ_ne_zero])
        | (refine AWP.ret ?_; simp only [thenA, blockA, reduceIte])
        | (refine AWP.region (by rfl) (fun KK hKK => ?_); (repeat (simp (disch := omega) [hlt, hkb, hat, hp])); first | (refine hKK _ _ _ ?_; clear hKK KK; simp only [thenA, blockA, reduceIte]) | skip)
        | (refine AWP.if_t ?_ ?_; focus (simp (disch := omega) [hlt, hkb, hat, hp]; done))
        | (refine AWP.if_f ?_ ?_; focus (simp (disch := omega) [hlt, hkb, hat, hp]; done)))
      refine ⟨_, _, _, _, ?_, ⟨k + 1, by omega, rfl, take_snoc hlt hl (by simp [hp]), rfl, rfl, rfl⟩, (Weak.base hB (by repeat (first | exact Over.refl _ | exact hov | refine Over.upd ?_ hB (by omega) | refine Over.del ?_ hB (by omega))) (by simp [LT, get, nms, nmss]; try (simp [nms, nmss] at hn; simp_all)))⟩
      omega
  · have hk' : k = ds.length := by omega
    subst hk'
    have e : nameIx ds t = -1 := idx_no (fun e he => hl e (by rw [List.take_length]; exact he))
    repeat' (first
      | refine AWP.seq ?_
      | refine AWP.block ?_
      | (refine AWP.skip ?_; simp only [thenA, blockA, reduceIte])
      | (refine AWP.exit ?_; simp only [thenA, blockA, eq_self, reduceIte, Nat.reduceEqDiff, Nat.succ_ne_zero])
      | (refine AWP.ret ?_; simp only [thenA, blockA, reduceIte])
      | (refine AWP.region (by rfl) (fun KK hKK => ?_); (repeat (simp (disch := omega) [])); first | (refine hKK _ _ _ ?_; clear hKK KK; simp only [thenA, blockA, reduceIte]) | skip)
      | (refine AWP.if_t ?_ ?_; focus (simp (disch := omega) []; done))
      | (refine AWP.if_f ?_ ?_; focus (simp (disch := omega) []; done)))
    refine ⟨by simp, _, rfl, fin0 ⟨?_, rfl⟩ (by simp [resO, get, nms, nmss]; try (simp [nms, nmss] at hn; simp_all))⟩
    simp [resO, get, ren, rens, e]

set_option maxRecDepth 10000 in
set_option maxHeartbeats 1000000 in
theorem validDefs_c (σ : Sto) (ν : Nat) (x : AV) (ds : List Df) (lo hi : Int) (hx : Sl σ x 2 (rowsD ds)) (hlen : ds.length ≤ 9223372036854775807) (hsz : ∀ d ∈ ds, d.1.size ≤ 9223372036854775807) :
    AC Try.prog 93 [x, .v (.int .i64 lo), .v (.int .i64 hi)] σ ν fun r δ => r = .v (.bool (okDs lo hi ds)) ∧ δ = noS := by
  obtain ⟨b, o, cap, z, rfl⟩ := hx.out
  simp only [rowsD_len] at hx ⊢
  refine AC.intro [] ent_93 Try.func93 rfl (by simp [Try.f93]) (by simp) ?_
  intro K s hs hB hn hν hA hFr
  simp only [argT, Nat.zero_add, Nat.reduceAdd]
  have hx' := hx.vw hs.vw
  repeat' (first
    | refine AWP.seq ?_
    | refine AWP.block ?_
    | (refine AWP.skip ?_; simp only [thenA, blockA, reduceIte])
    | (refine AWP.exit ?_; simp only [thenA, blockA, eq_self, reduceIte, Nat.reduceEqDiff, Nat.succ_ne_zero])
    | (refine AWP.ret ?_; simp only [thenA, blockA, reduceIte])
    | (refine AWP.region (by rfl) (fun KK hKK => ?_); (repeat (simp (disch := omega) [])); first | (refine hKK _ _ _ ?_; clear hKK KK; simp only [thenA, blockA, reduceIte]) | skip)
    | (refine AWP.draw' mixd (by rfl) (by kernel_rfl) (fun KK tab hKK htab => ?_); (repeat (simp (disch := omega) [])); first | (refine dEnd_ro ?_ (hKK _ _ _ ?_); (focus (simp; done)); clear htab tab hKK KK; simp only [thenA, blockA, reduceIte]) | (refine dEnd_of ?_ (hKK _ _ _ ?_); (focus (simp only [List.reverse_cons, List.reverse_nil, List.nil_append, List.cons_append, memA, mem1, and_true, true_and]; (repeat' apply And.intro); (all_goals (first | trivial | (refine .inr ⟨?_, ?_⟩ <;> (simp; done)) | (refine .inr ⟨?_, ?_⟩ <;> (simp <;> omega)) | (refine .inl ?_; rw [htab]; kernel_rfl))); done)); clear htab tab hKK KK; simp only [thenA, blockA, reduceIte]) | skip)
    | (refine AWP.if_t ?_ ?_; focus (simp (disch := omega) []; done))
    | (refine AWP.if_f ?_ ?_; focus (simp (disch := omega) []; done)))
  refine AWP.loop (fun n τ σ' M => ∃ k : Nat, k ≤ ds.length ∧ n = ds.length - k ∧ okTo lo hi ds k = true ∧ τ = [(0, .sl b o ds.length cap z), (1, .v (.int .i64 lo)), (2, .v (.int .i64 hi)), (7, .v (.int .i64 k))] ∧ σ' = s ∧ M = K) ⟨_, _, _, _, ⟨0, by omega, rfl, by simp [okTo], rfl, rfl, rfl⟩, (Weak.base hB (by repeat (first | exact Over.refl _ | exact hov | refine Over.upd ?_ hB (by omega) | refine Over.del ?_ hB (by omega))) (by simp [LT, get, nms, nmss]; try (simp [nms, nmss] at hn; simp_all)))⟩ ?_
  rintro n τ σ' M ⟨k, hk, rfl, hl, rfl, rfl, rfl⟩
  by_cases hlt : k < ds.length
  · obtain ⟨_, rfl, kb, hkb, hat⟩ := hx'.at (i := k) (by rw [rowsD_len]; exact hlt)
    have hrow : (rowsD ds)[k]'(by rw [rowsD_len]; exact hlt) = [.v (.string ds[k].1), .v (.int .i64 ds[k].2)] := by simp [rowsD, rowD]
    rw [hrow] at hat
    have hmem : ds[k] ∈ ds := List.getElem_mem hlt
    have hbK : b < M := (hB b _ hkb).1
    have hok := okAt_eq lo hi ds k hlt
    have hxk : Sl σ' (.sl b o k cap 2) 2 (rowsD (ds.take k)) := by
      have := hx'.take (i := k) (by rw [rowsD_len]; omega) cap id
      simpa [rowsD, List.map_take] using this
    cases h1 : vname ds[k].1 with
    | false =>
      have hbad := okTo_bad lo hi ds k hlt (by rw [hok, h1]; rfl)
      repeat' (first
        | refine AWP.seq ?_
        | refine AWP.block ?_
        | (refine AWP.skip ?_; simp only [thenA, blockA, reduceIte])
        | (refine AWP.exit ?_; simp only [thenA, blockA, eq_self, reduceIte, Nat.reduceEqDiff, Nat.succ_ne_zero])
        | (refine AWP.ret ?_; simp only [thenA, blockA, reduceIte])
        | (refine AWP.region (by rfl) (fun KK hKK => ?_); (repeat (simp (disch := omega) [hlt, hkb, hat])); first | (refine hKK _ _ _ ?_; clear hKK KK; simp only [thenA, blockA, reduceIte]) | skip)
        | (refine AWP.draw' mixd (by rfl) (by kernel_rfl) (fun KK tab hKK htab => ?_); (repeat (simp (disch := omega) [hlt, hkb, hat])); first | (refine dEnd_ro ?_ (hKK _ _ _ ?_); (focus (simp; done)); clear htab tab hKK KK; simp only [thenA, blockA, reduceIte]) | (refine dEnd_of ?_ (hKK _ _ _ ?_); (focus (simp only [List.reverse_cons, List.reverse_nil, List.nil_append, List.cons_append, memA, mem1, and_true, true_and]; (repeat' apply And.intro); (all_goals (first | trivial | (refine .inr ⟨?_, ?_⟩ <;> (simp; done)) | (refine .inr ⟨?_, ?_⟩ <;> (simp <;> omega)) | (refine .inl ?_; rw [htab]; kernel_rfl))); done)); clear htab tab hKK KK; simp only [thenA, blockA, reduceIte]) | skip)
        | (refine AWP.if_t ?_ ?_; focus (simp (disch := omega) [hlt, hkb, hat]; done))
        | (refine AWP.if_f ?_ ?_; focus (simp (disch := omega) [hlt, hkb, hat]; done)))
      refine dStop_pure (fun σ' => validNameS_c σ' _ _ (hsz _ hmem)) ?_
      (repeat (simp (disch := omega) [h1]))
      first | (refine dEnd_ro ?_ (hKK _ _ _ ?_); (focus (simp; done)); clear htab tab hKK KK; simp only [thenA, blockA, reduceIte]) | (refine dEnd_of ?_ (hKK _ _ _ ?_); (focus (simp only [List.reverse_cons, List.reverse_nil, List.nil_append, List.cons_append, memA, mem1, and_true, true_and]; (repeat' apply And.intro); (all_goals (first | trivial | (refine .inr ⟨?_, ?_⟩ <;> (simp; done)) | (refine .inr ⟨?_, ?_⟩ <;> (simp <;> omega)) | (refine .inl ?_; rw [htab]; kernel_rfl))); done)); clear htab tab hKK KK; simp only [thenA, blockA, reduceIte]) | skip
      repeat' (first
        | refine AWP.seq ?_
        | refine AWP.block ?_
        | (refine AWP.skip ?_; simp only [thenA, blockA, reduceIte])
        | (refine AWP.exit ?_; simp only [thenA, blockA, eq_self, reduceIte, Nat.reduceEqDiff, Nat.succ_ne_zero])
        | (refine AWP.ret ?_; simp only [thenA, blockA, reduceIte])
        | (refine AWP.region (by rfl) (fun KK hKK => ?_); (repeat (simp (disch := omega) [])); first | (refine hKK _ _ _ ?_; clear hKK KK; simp only [thenA, blockA, reduceIte]) | skip)
        | (refine AWP.draw' mixd (by rfl) (by kernel_rfl) (fun KK tab hKK htab => ?_); (repeat (simp (disch := omega) [])); first | (refine dEnd_ro ?_ (hKK _ _ _ ?_); (focus (simp; done)); clear htab tab hKK KK; simp only [thenA, blockA, reduceIte]) | (refine dEnd_of ?_ (hKK _ _ _ ?_); (focus (simp only [List.reverse_cons, List.reverse_nil, List.nil_append, List.cons_append, memA, mem1, and_true, true_and]; (repeat' apply And.intro); (all_goals (first | trivial | (refine .inr ⟨?_, ?_⟩ <;> (simp; done)) | (refine .inr ⟨?_, ?_⟩ <;> (simp <;> omega)) | (refine .inl ?_; rw [htab]; kernel_rfl))); done)); clear htab tab hKK KK; simp only [thenA, blockA, reduceIte]) | skip)
        | (refine AWP.if_t ?_ ?_; focus (simp (disch := omega) []; done))
        | (refine AWP.if_f ?_ ?_; focus (simp (disch := omega) []; done)))
      refine ⟨by simp, _, rfl, fin0 ⟨?_, rfl⟩ (by simp [resO, get, nms, nmss]; try (simp [nms, nmss] at hn; simp_all))⟩
      simp [resO, get, ren, rens, okDs, hbad]
    | true =>
      by_cases h2 : lo ≤ ds[k].2 ∧ ds[k].2 ≤ hi
      · by_cases h3 : nameIx (ds.take k) ds[k].1 < 0
        · have hgood : okTo lo hi ds (k + 1) = true := by rw [okTo_succ, hl, hok]; simp [h1, h2, h3]
          have h3' : ¬ (0 ≤ nameIx (ds.take k) ds[k].1) := by omega
          repeat' (first
            | refine AWP.seq ?_
            | refine AWP.block ?_
            | (refine AWP.skip ?_; simp only [thenA, blockA, reduceIte])
            | (refine AWP.exit ?_; simp only [thenA, blockA, eq_self, reduceIte, Nat.reduceEqDiff, Nat.succ_ne_zero])
            | (refine AWP.ret ?_; simp only [thenA, blockA, reduceIte])
            | (refine AWP.region (by rfl) (fun KK hKK => ?_); (repeat (simp (disch := omega) [hlt, hkb, hat])); first | (refine hKK _ _ _ ?_; clear hKK KK; simp only [thenA, blockA, reduceIte]) | skip)
            | (refine AWP.draw' mixd (by rfl) (by kernel_rfl) (fun KK tab hKK htab => ?_); (repeat (simp (disch := omega) [hlt, hkb, hat])); first | (refine dEnd_ro ?_ (hKK _ _ _ ?_); (focus (simp; done)); clear htab tab hKK KK; simp only [thenA, blockA, reduceIte]) | (refine dEnd_of ?_ (hKK _ _ _ ?_); (focus (simp only [List.reverse_cons, List.reverse_nil, List.nil_append, List.cons_append, memA, mem1, and_true, true_and]; (repeat' apply And.intro); (all_goals (first | trivial | (refine .inr ⟨?_, ?_⟩ <;> (simp; done)) | (refine .inr ⟨?_, ?_⟩ <;> (simp <;> omega)) | (refine .inl ?_; rw [htab]; kernel_rfl))); done)); clear htab tab hKK KK; simp only [thenA, blockA, reduceIte]) | skip)
            | (refine AWP.if_t ?_ ?_; focus (simp (disch := omega) [hlt, hkb, hat]; done))
            | (refine AWP.if_f ?_ ?_; focus (simp (disch := omega) [hlt, hkb, hat]; done)))
          refine dStop_pure (fun σ' => validNameS_c σ' _ _ (hsz _ hmem)) ?_
          (repeat (simp (disch := omega) [h1, hlt, hkb, hat]))
          first | (refine dEnd_ro ?_ (hKK _ _ _ ?_); (focus (simp; done)); clear htab tab hKK KK; simp only [thenA, blockA, reduceIte]) | (refine dEnd_of ?_ (hKK _ _ _ ?_); (focus (simp only [List.reverse_cons, List.reverse_nil, List.nil_append, List.cons_append, memA, mem1, and_true, true_and]; (repeat' apply And.intro); (all_goals (first | trivial | (refine .inr ⟨?_, ?_⟩ <;> (simp; done)) | (refine .inr ⟨?_, ?_⟩ <;> (simp <;> omega)) | (refine .inl ?_; rw [htab]; kernel_rfl))); done)); clear htab tab hKK KK; simp only [thenA, blockA, reduceIte]) | skip
          refine dStop_pure (fun σ' => inRange_c σ' _ _ _ _) ?_
          (repeat (simp (disch := omega) [h2, hlt, hk, hkb, hat]))
          first | (refine dEnd_ro ?_ (hKK _ _ _ ?_); (focus (simp; done)); clear htab tab hKK KK; simp only [thenA, blockA, reduceIte]) | (refine dEnd_of ?_ (hKK _ _ _ ?_); (focus (simp only [List.reverse_cons, List.reverse_nil, List.nil_append, List.cons_append, memA, mem1, and_true, true_and]; (repeat' apply And.intro); (all_goals (first | trivial | (refine .inr ⟨?_, ?_⟩ <;> (simp; done)) | (refine .inr ⟨?_, ?_⟩ <;> (simp <;> omega)) | (refine .inl ?_; rw [htab]; kernel_rfl))); done)); clear htab tab hKK KK; simp only [thenA, blockA, reduceIte]) | skip
          refine dStop_ro [b] (fun σ' hσ' => indexOf_c σ' _ _ (ds.take k) _ (hxk.on (by rw [hσ' b (by simp)])) (by simp; omega)) ?_
          (repeat (simp (disch := omega) [h3']))
          first | (refine dEnd_ro ?_ (hKK _ _ _ ?_); (focus (simp; done)); clear htab tab hKK KK; simp only [thenA, blockA, reduceIte]) | (refine dEnd_of ?_ (hKK _ _ _ ?_); (focus (simp only [List.reverse_cons, List.reverse_nil, List.nil_append, List.cons_append, memA, mem1, and_true, true_and]; (repeat' apply And.intro); (all_goals (first | trivial | (refine .inr ⟨?_, ?_⟩ <;> (simp; done)) | (refine .inr ⟨?_, ?_⟩ <;> (simp <;> omega)) | (refine .inl ?_; rw [htab]; kernel_rfl))); done)); clear htab tab hKK KK; simp only [thenA, blockA, reduceIte]) | skip
          repeat' (first
            | refine AWP.seq ?_
            | refine AWP.block ?_
            | (refine AWP.skip ?_; simp only [thenA, blockA, reduceIte])
            | (refine AWP.exit ?_; simp only [thenA, blockA, eq_self, reduceIte, Nat.reduceEqDiff, Nat.succ_ne_zero])
            | (refine AWP.ret ?_; simp only [thenA, blockA, reduceIte])
            | (refine AWP.region (by rfl) (fun KK hKK => ?_); (repeat (simp (disch := omega) [])); first | (refine hKK _ _ _ ?_; clear hKK KK; simp only [thenA, blockA, reduceIte]) | skip)
            | (refine AWP.draw' mixd (by rfl) (by kernel_rfl) (fun KK tab hKK htab => ?_); (repeat (simp (disch := omega) [])); first | (refine dEnd_ro ?_ (hKK _ _ _ ?_); (focus (simp; done)); clear htab tab hKK KK; simp only [thenA, blockA, reduceIte]) | (refine dEnd_of ?_ (hKK _ _ _ ?_); (focus (simp only [List.reverse_cons, List.reverse_nil, List.nil_append, List.cons_append, memA, mem1, and_true, true_and]; (repeat' apply And.intro); (all_goals (first | trivial | (refine .inr ⟨?_, ?_⟩ <;> (simp; done)) | (refine .inr ⟨?_, ?_⟩ <;> (simp <;> omega)) | (refine .inl ?_; rw [htab]; kernel_rfl))); done)); clear htab tab hKK KK; simp only [thenA, blockA, reduceIte]) | skip)
            | (refine AWP.if_t ?_ ?_; focus (simp (disch := omega) []; done))
            | (refine AWP.if_f ?_ ?_; focus (simp (disch := omega) []; done)))
          refine ⟨_, _, _, _, ?_, ⟨k + 1, by omega, rfl, hgood, rfl, rfl, rfl⟩, (Weak.base hB (by repeat (first | exact Over.refl _ | exact hov | refine Over.upd ?_ hB (by omega) | refine Over.del ?_ hB (by omega))) (by simp [LT, get, nms, nmss]; try (simp [nms, nmss] at hn; simp_all)))⟩
          omega
        · have hbad := okTo_bad lo hi ds k hlt (by rw [hok]; simp [h3])
          have h3' : 0 ≤ nameIx (ds.take k) ds[k].1 := by omega
          repeat' (first
            | refine AWP.seq ?_
            | refine AWP.block ?_
            | (refine AWP.skip ?_; simp only [thenA, blockA, reduceIte])
            | (refine AWP.exit ?_; simp only [thenA, blockA, eq_self, reduceIte, Nat.reduceEqDiff, Nat.succ_ne_zero])
            | (refine AWP.ret ?_; simp only [thenA, blockA, reduceIte])
            | (refine AWP.region (by rfl) (fun KK hKK => ?_); (repeat (simp (disch := omega) [hlt, hkb, hat])); first | (refine hKK _ _ _ ?_; clear hKK KK; simp only [thenA, blockA, reduceIte]) | skip)
            | (refine AWP.draw' mixd (by rfl) (by kernel_rfl) (fun KK tab hKK htab => ?_); (repeat (simp (disch := omega) [hlt, hkb, hat])); first | (refine dEnd_ro ?_ (hKK _ _ _ ?_); (focus (simp; done)); clear htab tab hKK KK; simp only [thenA, blockA, reduceIte]) | (refine dEnd_of ?_ (hKK _ _ _ ?_); (focus (simp only [List.reverse_cons, List.reverse_nil, List.nil_append, List.cons_append, memA, mem1, and_true, true_and]; (repeat' apply And.intro); (all_goals (first | trivial | (refine .inr ⟨?_, ?_⟩ <;> (simp; done)) | (refine .inr ⟨?_, ?_⟩ <;> (simp <;> omega)) | (refine .inl ?_; rw [htab]; kernel_rfl))); done)); clear htab tab hKK KK; simp only [thenA, blockA, reduceIte]) | skip)
            | (refine AWP.if_t ?_ ?_; focus (simp (disch := omega) [hlt, hkb, hat]; done))
            | (refine AWP.if_f ?_ ?_; focus (simp (disch := omega) [hlt, hkb, hat]; done)))
          refine dStop_pure (fun σ' => validNameS_c σ' _ _ (hsz _ hmem)) ?_
          (repeat (simp (disch := omega) [h1, hlt, hkb, hat]))
          first | (refine dEnd_ro ?_ (hKK _ _ _ ?_); (focus (simp; done)); clear htab tab hKK KK; simp only [thenA, blockA, reduceIte]) | (refine dEnd_of ?_ (hKK _ _ _ ?_); (focus (simp only [List.reverse_cons, List.reverse_nil, List.nil_append, List.cons_append, memA, mem1, and_true, true_and]; (repeat' apply And.intro); (all_goals (first | trivial | (refine .inr ⟨?_, ?_⟩ <;> (simp; done)) | (refine .inr ⟨?_, ?_⟩ <;> (simp <;> omega)) | (refine .inl ?_; rw [htab]; kernel_rfl))); done)); clear htab tab hKK KK; simp only [thenA, blockA, reduceIte]) | skip
          refine dStop_pure (fun σ' => inRange_c σ' _ _ _ _) ?_
          (repeat (simp (disch := omega) [h2, hlt, hk, hkb, hat]))
          first | (refine dEnd_ro ?_ (hKK _ _ _ ?_); (focus (simp; done)); clear htab tab hKK KK; simp only [thenA, blockA, reduceIte]) | (refine dEnd_of ?_ (hKK _ _ _ ?_); (focus (simp only [List.reverse_cons, List.reverse_nil, List.nil_append, List.cons_append, memA, mem1, and_true, true_and]; (repeat' apply And.intro); (all_goals (first | trivial | (refine .inr ⟨?_, ?_⟩ <;> (simp; done)) | (refine .inr ⟨?_, ?_⟩ <;> (simp <;> omega)) | (refine .inl ?_; rw [htab]; kernel_rfl))); done)); clear htab tab hKK KK; simp only [thenA, blockA, reduceIte]) | skip
          refine dStop_ro [b] (fun σ' hσ' => indexOf_c σ' _ _ (ds.take k) _ (hxk.on (by rw [hσ' b (by simp)])) (by simp; omega)) ?_
          (repeat (simp (disch := omega) [h3']))
          first | (refine dEnd_ro ?_ (hKK _ _ _ ?_); (focus (simp; done)); clear htab tab hKK KK; simp only [thenA, blockA, reduceIte]) | (refine dEnd_of ?_ (hKK _ _ _ ?_); (focus (simp only [List.reverse_cons, List.reverse_nil, List.nil_append, List.cons_append, memA, mem1, and_true, true_and]; (repeat' apply And.intro); (all_goals (first | trivial | (refine .inr ⟨?_, ?_⟩ <;> (simp; done)) | (refine .inr ⟨?_, ?_⟩ <;> (simp <;> omega)) | (refine .inl ?_; rw [htab]; kernel_rfl))); done)); clear htab tab hKK KK; simp only [thenA, blockA, reduceIte]) | skip
          repeat' (first
            | refine AWP.seq ?_
            | refine AWP.block ?_
            | (refine AWP.skip ?_; simp only [thenA, blockA, reduceIte])
            | (refine AWP.exit ?_; simp only [thenA, blockA, eq_self, reduceIte, Nat.reduceEqDiff, Nat.succ_ne_zero])
            | (refine AWP.ret ?_; simp only [thenA, blockA, reduceIte])
            | (refine AWP.region (by rfl) (fun KK hKK => ?_); (repeat (simp (disch := omega) [])); first | (refine hKK _ _ _ ?_; clear hKK KK; simp only [thenA, blockA, reduceIte]) | skip)
            | (refine AWP.draw' mixd (by rfl) (by kernel_rfl) (fun KK tab hKK htab => ?_); (repeat (simp (disch := omega) [])); first | (refine dEnd_ro ?_ (hKK _ _ _ ?_); (focus (simp; done)); clear htab tab hKK KK; simp only [thenA, blockA, reduceIte]) | (refine dEnd_of ?_ (hKK _ _ _ ?_); (focus (simp only [List.reverse_cons, List.reverse_nil, List.nil_append, List.cons_append, memA, mem1, and_true, true_and]; (repeat' apply And.intro); (all_goals (first | trivial | (refine .inr ⟨?_, ?_⟩ <;> (simp; done)) | (refine .inr ⟨?_, ?_⟩ <;> (simp <;> omega)) | (refine .inl ?_; rw [htab]; kernel_rfl))); done)); clear htab tab hKK KK; simp only [thenA, blockA, reduceIte]) | skip)
            | (refine AWP.if_t ?_ ?_; focus (simp (disch := omega) []; done))
            | (refine AWP.if_f ?_ ?_; focus (simp (disch := omega) []; done)))
          refine ⟨by simp, _, rfl, fin0 ⟨?_, rfl⟩ (by simp [resO, get, nms, nmss]; try (simp [nms, nmss] at hn; simp_all))⟩
          simp [resO, get, ren, rens, okDs, hbad]
      · have hbad := okTo_bad lo hi ds k hlt (by rw [hok]; simp [h2])
        repeat' (first
          | refine AWP.seq ?_
          | refine AWP.block ?_
          | (refine AWP.skip ?_; simp only [thenA, blockA, reduceIte])
          | (refine AWP.exit ?_; simp only [thenA, blockA, eq_self, reduceIte, Nat.reduceEqDiff, Nat.succ_ne_zero])
          | (refine AWP.ret ?_; simp only [thenA, blockA, reduceIte])
          | (refine AWP.region (by rfl) (fun KK hKK => ?_); (repeat (simp (disch := omega) [hlt, hkb, hat])); first | (refine hKK _ _ _ ?_; clear hKK KK; simp only [thenA, blockA, reduceIte]) | skip)
          | (refine AWP.draw' mixd (by rfl) (by kernel_rfl) (fun KK tab hKK htab => ?_); (repeat (simp (disch := omega) [hlt, hkb, hat])); first | (refine dEnd_ro ?_ (hKK _ _ _ ?_); (focus (simp; done)); clear htab tab hKK KK; simp only [thenA, blockA, reduceIte]) | (refine dEnd_of ?_ (hKK _ _ _ ?_); (focus (simp only [List.reverse_cons, List.reverse_nil, List.nil_append, List.cons_append, memA, mem1, and_true, true_and]; (repeat' apply And.intro); (all_goals (first | trivial | (refine .inr ⟨?_, ?_⟩ <;> (simp; done)) | (refine .inr ⟨?_, ?_⟩ <;> (simp <;> omega)) | (refine .inl ?_; rw [htab]; kernel_rfl))); done)); clear htab tab hKK KK; simp only [thenA, blockA, reduceIte]) | skip)
          | (refine AWP.if_t ?_ ?_; focus (simp (disch := omega) [hlt, hkb, hat]; done))
          | (refine AWP.if_f ?_ ?_; focus (simp (disch := omega) [hlt, hkb, hat]; done)))
        refine dStop_pure (fun σ' => validNameS_c σ' _ _ (hsz _ hmem)) ?_
        (repeat (simp (disch := omega) [h1, hlt, hkb, hat]))
        first | (refine dEnd_ro ?_ (hKK _ _ _ ?_); (focus (simp; done)); clear htab tab hKK KK; simp only [thenA, blockA, reduceIte]) | (refine dEnd_of ?_ (hKK _ _ _ ?_); (focus (simp only [List.reverse_cons, List.reverse_nil, List.nil_append, List.cons_append, memA, mem1, and_true, true_and]; (repeat' apply And.intro); (all_goals (first | trivial | (refine .inr ⟨?_, ?_⟩ <;> (simp; done)) | (refine .inr ⟨?_, ?_⟩ <;> (simp <;> omega)) | (refine .inl ?_; rw [htab]; kernel_rfl))); done)); clear htab tab hKK KK; simp only [thenA, blockA, reduceIte]) | skip
        refine dStop_pure (fun σ' => inRange_c σ' _ _ _ _) ?_
        (repeat (simp (disch := omega) [h2, hlt, hk, hkb, hat]))
        first | (refine dEnd_ro ?_ (hKK _ _ _ ?_); (focus (simp; done)); clear htab tab hKK KK; simp only [thenA, blockA, reduceIte]) | (refine dEnd_of ?_ (hKK _ _ _ ?_); (focus (simp only [List.reverse_cons, List.reverse_nil, List.nil_append, List.cons_append, memA, mem1, and_true, true_and]; (repeat' apply And.intro); (all_goals (first | trivial | (refine .inr ⟨?_, ?_⟩ <;> (simp; done)) | (refine .inr ⟨?_, ?_⟩ <;> (simp <;> omega)) | (refine .inl ?_; rw [htab]; kernel_rfl))); done)); clear htab tab hKK KK; simp only [thenA, blockA, reduceIte]) | skip
        repeat' (first
          | refine AWP.seq ?_
          | refine AWP.block ?_
          | (refine AWP.skip ?_; simp only [thenA, blockA, reduceIte])
          | (refine AWP.exit ?_; simp only [thenA, blockA, eq_self, reduceIte, Nat.reduceEqDiff, Nat.succ_ne_zero])
          | (refine AWP.ret ?_; simp only [thenA, blockA, reduceIte])
          | (refine AWP.region (by rfl) (fun KK hKK => ?_); (repeat (simp (disch := omega) [])); first | (refine hKK _ _ _ ?_; clear hKK KK; simp only [thenA, blockA, reduceIte]) | skip)
          | (refine AWP.draw' mixd (by rfl) (by kernel_rfl) (fun KK tab hKK htab => ?_); (repeat (simp (disch := omega) [])); first | (refine dEnd_ro ?_ (hKK _ _ _ ?_); (focus (simp; done)); clear htab tab hKK KK; simp only [thenA, blockA, reduceIte]) | (refine dEnd_of ?_ (hKK _ _ _ ?_); (focus (simp only [List.reverse_cons, List.reverse_nil, List.nil_append, List.cons_append, memA, mem1, and_true, true_and]; (repeat' apply And.intro); (all_goals (first | trivial | (refine .inr ⟨?_, ?_⟩ <;> (simp; done)) | (refine .inr ⟨?_, ?_⟩ <;> (simp <;> omega)) | (refine .inl ?_; rw [htab]; kernel_rfl))); done)); clear htab tab hKK KK; simp only [thenA, blockA, reduceIte]) | skip)
          | (refine AWP.if_t ?_ ?_; focus (simp (disch := omega) []; done))
          | (refine AWP.if_f ?_ ?_; focus (simp (disch := omega) []; done)))
        refine ⟨by simp, _, rfl, fin0 ⟨?_, rfl⟩ (by simp [resO, get, nms, nmss]; try (simp [nms, nmss] at hn; simp_all))⟩
        simp [resO, get, ren, rens, okDs, hbad]
  · have hk' : k = ds.length := by omega
    subst hk'
    repeat' (first
      | refine AWP.seq ?_
      | refine AWP.block ?_
      | (refine AWP.skip ?_; simp only [thenA, blockA, reduceIte])
      | (refine AWP.exit ?_; simp only [thenA, blockA, eq_self, reduceIte, Nat.reduceEqDiff, Nat.succ_ne_zero])
      | (refine AWP.ret ?_; simp only [thenA, blockA, reduceIte])
      | (refine AWP.region (by rfl) (fun KK hKK => ?_); (repeat (simp (disch := omega) [])); first | (refine hKK _ _ _ ?_; clear hKK KK; simp only [thenA, blockA, reduceIte]) | skip)
      | (refine AWP.draw' mixd (by rfl) (by kernel_rfl) (fun KK tab hKK htab => ?_); (repeat (simp (disch := omega) [])); first | (refine dEnd_ro ?_ (hKK _ _ _ ?_); (focus (simp; done)); clear htab tab hKK KK; simp only [thenA, blockA, reduceIte]) | (refine dEnd_of ?_ (hKK _ _ _ ?_); (focus (simp only [List.reverse_cons, List.reverse_nil, List.nil_append, List.cons_append, memA, mem1, and_true, true_and]; (repeat' apply And.intro); (all_goals (first | trivial | (refine .inr ⟨?_, ?_⟩ <;> (simp; done)) | (refine .inr ⟨?_, ?_⟩ <;> (simp <;> omega)) | (refine .inl ?_; rw [htab]; kernel_rfl))); done)); clear htab tab hKK KK; simp only [thenA, blockA, reduceIte]) | skip)
      | (refine AWP.if_t ?_ ?_; focus (simp (disch := omega) []; done))
      | (refine AWP.if_f ?_ ?_; focus (simp (disch := omega) []; done)))
    refine ⟨by simp, _, rfl, fin0 ⟨?_, rfl⟩ (by simp [resO, get, nms, nmss]; try (simp [nms, nmss] at hn; simp_all))⟩
    simp [resO, get, ren, rens, okDs, hl]

set_option maxRecDepth 10000 in
set_option maxHeartbeats 400000 in
theorem validEnumS_c (σ : Sto) (ν : Nat) (x : AV) (ds : List Df) (hx : Sl σ x 2 (rowsD ds)) (hlen : ds.length ≤ 9223372036854775807) (hsz : ∀ d ∈ ds, d.1.size ≤ 9223372036854775807) :
    AC Try.prog 51 [.agg [x]] σ ν fun r δ => r = .v (.bool (okDs (-1000) 1000 ds)) ∧ δ = noS := by
  obtain ⟨b, o, cap, z, rfl⟩ := hx.out
  refine AC.intro [] ent_51 Try.func51 rfl (by simp [Try.f51]) (by simp) ?_
  intro K s hs hB hn hν hA hFr
  simp only [argT, Nat.zero_add, Nat.reduceAdd]
  have hx' := hx.vw hs.vw
  repeat' (first
    | refine AWP.seq ?_
    | refine AWP.block ?_
    | (refine AWP.skip ?_; simp only [thenA, blockA, reduceIte])
    | (refine AWP.exit ?_; simp only [thenA, blockA, eq_self, reduceIte, Nat.reduceEqDiff, Nat.succ_ne_zero])
    | (refine AWP.ret ?_; simp only [thenA, blockA, reduceIte])
    | (refine AWP.region (by rfl) (fun KK hKK => ?_); (repeat (simp (disch := omega) [])); first | (refine hKK _ _ _ ?_; clear hKK KK; simp only [thenA, blockA, reduceIte]) | skip)
    | (refine AWP.if_t ?_ ?_; focus (simp (disch := omega) []; done))
    | (refine AWP.if_f ?_ ?_; focus (simp (disch := omega) []; done)))
  refine aStop_of (validDefs_c _ _ _ ds _ _ (hx'.vw ((Vw.refl _).over (by repeat (first | exact Over.refl _ | exact hov | refine Over.upd ?_ hB (by omega) | refine Over.del ?_ hB (by omega))))) hlen hsz) ?_
  rintro r δ ⟨rfl, rfl⟩
  (repeat (simp (disch := omega) []))
  first | (refine hKK _ _ _ ?_; clear hKK KK; simp only [thenA, blockA, reduceIte]) | skip
  repeat' (first
    | refine AWP.seq ?_
    | refine AWP.block ?_
    | (refine AWP.skip ?_; simp only [thenA, blockA, reduceIte])
    | (refine AWP.exit ?_; simp only [thenA, blockA, eq_self, reduceIte, Nat.reduceEqDiff, Nat.succ_ne_zero])
    | (refine AWP.ret ?_; simp only [thenA, blockA, reduceIte])
    | (refine AWP.region (by rfl) (fun KK hKK => ?_); (repeat (simp (disch := omega) [])); first | (refine hKK _ _ _ ?_; clear hKK KK; simp only [thenA, blockA, reduceIte]) | skip)
    | (refine AWP.if_t ?_ ?_; focus (simp (disch := omega) []; done))
    | (refine AWP.if_f ?_ ?_; focus (simp (disch := omega) []; done)))
  refine ⟨by simp, _, rfl, fin0 ⟨?_, rfl⟩ (by simp [resO, get, nms, nmss]; try (simp [nms, nmss] at hn; simp_all))⟩
  simp [resO, get, ren, rens]
end Go.Proofs.Ytgaiemhbllbaiaa
namespace Go.Proofs.Ytgaiemhbllbaiaa
open Go Go.RowKit

set_option maxRecDepth 10000 in
set_option maxHeartbeats 400000 in
theorem copyDefs_c (σ : Sto) (ν : Nat) (x : AV) (ds : List Df) (hx : Sl σ x 2 (rowsD ds)) (hlen : ds.length ≤ 4294967296) :
    AC Try.prog 52 [x] σ ν fun r δ => r = .sl ν 0 ds.length none 2 ∧ δ = upd noS ν (blkD ds) := by
  obtain ⟨b, o, cap, z, rfl⟩ := hx.out
  simp only [rowsD_len] at hx ⊢
  refine AC.intro [] ent_52 Try.func52 rfl (by simp [Try.f52]) (by simp) ?_
  intro K s hs hB hn hν hA hFr
  simp only [argT, Nat.zero_add, Nat.reduceAdd]
  have hx' := hx.vw hs.vw
  have hel := hx'.elems
  have hbig : ds.length * 24 ≤ 140737488355328 := by omega
  have hbig2 : ds.length ≤ 4611686018427387904 := by omega
  repeat' (first
    | refine AWP.seq ?_
    | refine AWP.block ?_
    | (refine AWP.skip ?_; simp only [thenA, blockA, reduceIte])
    | (refine AWP.exit ?_; simp only [thenA, blockA, eq_self, reduceIte, Nat.reduceEqDiff, Nat.succ_ne_zero])
    | (refine AWP.ret ?_; simp only [thenA, blockA, reduceIte])
    | (refine AWP.region (by rfl) (fun KK hKK => ?_); (repeat (simp (disch := omega) [hel, rowsD_len, hbig, hbig2])); first | (refine hKK _ _ _ ?_; clear hKK KK; simp only [thenA, blockA, reduceIte]) | skip)
    | (refine AWP.if_t ?_ ?_; focus (simp (disch := omega) [hel, rowsD_len, hbig, hbig2]; done))
    | (refine AWP.if_f ?_ ?_; focus (simp (disch := omega) [hel, rowsD_len, hbig, hbig2]; done)))
  refine ⟨by simp, _, rfl, fin1 (K) (blkD ds) (by simp (disch := omega)) rfl (flatD ds) ⟨?_, rfl⟩ (by omega) (by simp [resO, get, nms, nmss])⟩
  simp [resO, get, ren, rens, rho]

set_option maxRecDepth 10000 in
set_option maxHeartbeats 400000 in
theorem clipD_c (σ : Sto) (ν : Nat) (b o n : Nat) (h : n ≤ 4294967296) :
    AC Try.prog 89 [.sl b o n none 2] σ ν fun r δ => r = .sl b o n (some n) 2 ∧ δ = noS := by
  refine AC.intro [] ent_89 Try.func89 rfl (by simp [Try.f89]) (by simp) ?_
  intro K s hs hB hn hν hA hFr
  simp only [argT, Nat.zero_add, Nat.reduceAdd]
  have hb : b < K := hn b (by simp [nmss, nms])
  have e1 : b ≠ K := by omega
  have e2 : b ≠ K + 1 := by omega
  repeat' (first
    | refine AWP.seq ?_
    | refine AWP.block ?_
    | (refine AWP.skip ?_; simp only [thenA, blockA, reduceIte])
    | (refine AWP.exit ?_; simp only [thenA, blockA, eq_self, reduceIte, Nat.reduceEqDiff, Nat.succ_ne_zero])
    | (refine AWP.ret ?_; simp only [thenA, blockA, reduceIte])
    | (refine AWP.region (by rfl) (fun KK hKK => ?_); (repeat (simp (disch := omega) [])); first | (refine hKK _ _ _ ?_; clear hKK KK; simp only [thenA, blockA, reduceIte]) | skip)
    | (refine AWP.if_t ?_ ?_; focus (simp (disch := omega) []; done))
    | (refine AWP.if_f ?_ ?_; focus (simp (disch := omega) []; done)))
  refine ⟨by simp, _, rfl, fin0 ⟨?_, rfl⟩ (by simp [resO, get, nms, nmss]; try (simp [nms, nmss] at hn; simp_all))⟩
  simp [resO, get, ren, rens, rho, e1, e2]

set_option maxRecDepth 10000 in
set_option maxHeartbeats 400000 in
theorem cloneD_c (σ : Sto) (ν : Nat) (x : AV) (ds : List Df) (hx : Sl σ x 2 (rowsD ds)) (hlen : ds.length ≤ 4294967296) :
    AC Try.prog 90 [x] σ ν fun r δ => r = .sl ν 0 ds.length none 2 ∧ δ = upd noS ν (blkD ds) := by
  obtain ⟨b, o, cap, z, rfl⟩ := hx.out
  simp only [rowsD_len] at hx ⊢
  refine AC.intro [] ent_90 Try.func90 rfl (by simp [Try.f90]) (by simp) ?_
  intro K s hs hB hn hν hA hFr
  simp only [argT, Nat.zero_add, Nat.reduceAdd]
  have hx' := hx.vw hs.vw
  have hel := hx'.elems
  have hbig : ds.length * 24 ≤ 140737488355328 := by omega
  have hbig2 : ds.length ≤ 4611686018427387904 := by omega
  by_cases he : ds = []
  · subst he
    have hr : rowsD [] = [] := rfl
    have hel0 : elems 2 (.sl b o 0 cap z) s = some [] := hel
    repeat' (first
      | refine AWP.seq ?_
      | refine AWP.block ?_
      | (refine AWP.skip ?_; simp only [thenA, blockA, reduceIte])
      | (refine AWP.exit ?_; simp only [thenA, blockA, eq_self, reduceIte, Nat.reduceEqDiff, Nat.succ_ne_zero])
      | (refine AWP.ret ?_; simp only [thenA, blockA, reduceIte])
      | (refine AWP.region (by rfl) (fun KK hKK => ?_); (repeat (simp (disch := omega) [])); first | (refine hKK _ _ _ ?_; clear hKK KK; simp only [thenA, blockA, reduceIte]) | skip)
      | (refine AWP.if_t ?_ ?_; focus (simp (disch := omega) []; done))
      | (refine AWP.if_f ?_ ?_; focus (simp (disch := omega) []; done)))
    refine AWP.if_b (by simp) ?_ ?_
    · refine AWP.seq ?_
      (refine AWP.region (by rfl) (fun KK hKK => ?_); (repeat (simp (disch := omega) [])); first | (refine hKK _ _ _ ?_; clear hKK KK; simp only [thenA, blockA, reduceIte]) | skip)
      refine AWP.weak (Weak.virt 2 34 2 0 0 0 (by simp) (by omega)) ?_
      repeat' (first
        | refine AWP.seq ?_
        | refine AWP.block ?_
        | (refine AWP.skip ?_; simp only [thenA, blockA, reduceIte])
        | (refine AWP.exit ?_; simp only [thenA, blockA, eq_self, reduceIte, Nat.reduceEqDiff, Nat.succ_ne_zero])
        | (refine AWP.ret ?_; simp only [thenA, blockA, reduceIte])
        | (refine AWP.region (by rfl) (fun KK hKK => ?_); (repeat (simp (disch := omega) [])); first | (refine hKK _ _ _ ?_; clear hKK KK; simp only [thenA, blockA, reduceIte]) | skip)
        | (refine AWP.if_t ?_ ?_; focus (simp (disch := omega) []; done))
        | (refine AWP.if_f ?_ ?_; focus (simp (disch := omega) []; done)))
      refine ⟨by simp, _, rfl, fin1 (K) (blkD []) (by simp (disch := omega) [hr]) rfl (flatD []) ⟨?_, rfl⟩ (by omega) (by simp [resO, get, nms, nmss])⟩
      simp [resO, get, ren, rens, rho, hr]
    · repeat' (first
        | refine AWP.seq ?_
        | refine AWP.block ?_
        | (refine AWP.skip ?_; simp only [thenA, blockA, reduceIte])
        | (refine AWP.exit ?_; simp only [thenA, blockA, eq_self, reduceIte, Nat.reduceEqDiff, Nat.succ_ne_zero])
        | (refine AWP.ret ?_; simp only [thenA, blockA, reduceIte])
        | (refine AWP.region (by rfl) (fun KK hKK => ?_); (repeat (simp (disch := omega) [hel0])); first | (refine hKK _ _ _ ?_; clear hKK KK; simp only [thenA, blockA, reduceIte]) | skip)
        | (refine AWP.if_t ?_ ?_; focus (simp (disch := omega) [hel0]; done))
        | (refine AWP.if_f ?_ ?_; focus (simp (disch := omega) [hel0]; done)))
      refine ⟨by simp, _, rfl, fin1 (K) (blkD []) (by simp (disch := omega) [hr]) rfl (flatD []) ⟨?_, rfl⟩ (by omega) (by simp [resO, get, nms, nmss])⟩
      simp [resO, get, ren, rens, rho, hr]
  · have he2 : ds.length ≠ 0 := by simpa using he
    repeat' (first
      | refine AWP.seq ?_
      | refine AWP.block ?_
      | (refine AWP.skip ?_; simp only [thenA, blockA, reduceIte])
      | (refine AWP.exit ?_; simp only [thenA, blockA, eq_self, reduceIte, Nat.reduceEqDiff, Nat.succ_ne_zero])
      | (refine AWP.ret ?_; simp only [thenA, blockA, reduceIte])
      | (refine AWP.region (by rfl) (fun KK hKK => ?_); (repeat (simp (disch := omega) [hel, rowsD_len, hbig, hbig2, he, he2])); first | (refine hKK _ _ _ ?_; clear hKK KK; simp only [thenA, blockA, reduceIte]) | skip)
      | (refine AWP.if_t ?_ ?_; focus (simp (disch := omega) [hel, rowsD_len, hbig, hbig2, he, he2]; done))
      | (refine AWP.if_f ?_ ?_; focus (simp (disch := omega) [hel, rowsD_len, hbig, hbig2, he, he2]; done)))
    refine ⟨by simp, _, rfl, fin1 (K) (blkD ds) (by simp (disch := omega)) rfl (flatD ds) ⟨?_, rfl⟩ (by omega) (by simp [resO, get, nms, nmss])⟩
    simp [resO, get, ren, rens, rho]

set_option maxRecDepth 10000 in
set_option maxHeartbeats 400000 in
theorem clone_c (σ : Sto) (ν : Nat) (x : AV) (ds : List Df) (hx : Sl σ x 2 (rowsD ds)) (hlen : ds.length ≤ 4294967296) :
    AC Try.prog 48 [x] σ ν fun r δ => r = .sl ν 0 ds.length (some ds.length) 2 ∧ δ = upd noS ν (blkD ds) := by
  refine AC.intro [] ent_48 Try.func48 rfl (by simp [Try.f48]) (by simp) ?_
  intro K s hs hB hn hν hA hFr
  simp only [argT, Nat.zero_add, Nat.reduceAdd]
  have hx' := hx.vw hs.vw
  repeat' (first
    | refine AWP.seq ?_
    | refine AWP.block ?_
    | (refine AWP.skip ?_; simp only [thenA, blockA, reduceIte])
    | (refine AWP.exit ?_; simp only [thenA, blockA, eq_self, reduceIte, Nat.reduceEqDiff, Nat.succ_ne_zero])
    | (refine AWP.ret ?_; simp only [thenA, blockA, reduceIte])
    | (refine AWP.region (by rfl) (fun KK hKK => ?_); (repeat (simp (disch := omega) [])); first | (refine hKK _ _ _ ?_; clear hKK KK; simp only [thenA, blockA, reduceIte]) | skip)
    | (refine AWP.if_t ?_ ?_; focus (simp (disch := omega) []; done))
    | (refine AWP.if_f ?_ ?_; focus (simp (disch := omega) []; done)))
  refine aStop_of (cloneD_c _ _ _ ds hx' hlen) ?_
  rintro r δ ⟨rfl, rfl⟩
  (repeat (simp (disch := omega) []))
  first | (refine hKK _ _ _ ?_; clear hKK KK; simp only [thenA, blockA, reduceIte]) | skip
  refine aStop_of (clipD_c _ _ _ _ _ hlen) ?_
  rintro r δ ⟨rfl, rfl⟩
  (repeat (simp (disch := omega) []))
  first | (refine hKK _ _ _ ?_; clear hKK KK; simp only [thenA, blockA, reduceIte]) | skip
  repeat' (first
    | refine AWP.seq ?_
    | refine AWP.block ?_
    | (refine AWP.skip ?_; simp only [thenA, blockA, reduceIte])
    | (refine AWP.exit ?_; simp only [thenA, blockA, eq_self, reduceIte, Nat.reduceEqDiff, Nat.succ_ne_zero])
    | (refine AWP.ret ?_; simp only [thenA, blockA, reduceIte])
    | (refine AWP.region (by rfl) (fun KK hKK => ?_); (repeat (simp (disch := omega) [])); first | (refine hKK _ _ _ ?_; clear hKK KK; simp only [thenA, blockA, reduceIte]) | skip)
    | (refine AWP.if_t ?_ ?_; focus (simp (disch := omega) []; done))
    | (refine AWP.if_f ?_ ?_; focus (simp (disch := omega) []; done)))
  refine ⟨by simp, _, rfl, fin1 (K) (blkD ds) (by simp (disch := omega)) rfl (flatD ds) ⟨?_, rfl⟩ (by omega) (by simp [resO, get, nms, nmss])⟩
  simp [resO, get, ren, rens, rho]
end Go.Proofs.Ytgaiemhbllbaiaa
namespace Go.Proofs.Ytgaiemhbllbaiaa
open Go Go.RowKit


set_option maxRecDepth 10000 in
set_option maxHeartbeats 400000 in
/-- checkedEnum: the definitions as an enumeration, where they are valid. -/
theorem checkedEnum_c (σ : Sto) (ν : Nat) (b n : Nat) (ds : List Df) (hx : Sl σ (.sl b 0 n none 2) 2 (rowsD ds)) (hlen : ds.length ≤ 4294967296) (hsz : ∀ d ∈ ds, d.1.size ≤ 9223372036854775807) :
    AC Try.prog 54 [.sl b 0 n none 2] σ ν fun r δ => r = .tup [.agg [if okDs (-1000) 1000 ds = true then .sl b 0 n none 2 else nilA], .v (.bool (okDs (-1000) 1000 ds))] ∧ δ = noS := by
  refine AC.intro [] ent_54 Try.func54 rfl (by simp [Try.f54]) (by simp) ?_
  intro K s hs hB hn hν hA hFr
  simp only [argT, Nat.zero_add, Nat.reduceAdd]
  have hK0 : ¬ 0 = K := by omega
  have hb : b < K := hn b (by simp [nmss, nms])
  have e1 : b ≠ K := by omega
  have e2 : b ≠ K + 1 := by omega
  have hx' := hx.vw hs.vw
  have h4 : 4294967296 ≤ 9223372036854775807 := by omega
  repeat' (first
    | refine AWP.seq ?_
    | refine AWP.block ?_
    | (refine AWP.skip ?_; simp only [thenA, blockA, reduceIte])
    | (refine AWP.exit ?_; simp only [thenA, blockA, eq_self, reduceIte, Nat.reduceEqDiff, Nat.succ_ne_zero])
    | (refine AWP.ret ?_; simp only [thenA, blockA, reduceIte])
    | (refine AWP.region (by rfl) (fun KK hKK => ?_); (repeat (simp (disch := omega) [])); first | (refine hKK _ _ _ ?_; clear hKK KK; simp only [thenA, blockA, reduceIte]) | skip)
    | (refine AWP.if_t ?_ ?_; focus (simp (disch := omega) []; done))
    | (refine AWP.if_f ?_ ?_; focus (simp (disch := omega) []; done)))
  refine aStop_of (validEnumS_c _ _ _ ds (hx'.on (by simp (disch := omega))) (by omega) hsz) ?_
  rintro r δ ⟨rfl, rfl⟩
  (repeat (simp (disch := omega) []))
  first | (refine hKK _ _ _ ?_; clear hKK KK; simp only [thenA, blockA, reduceIte]) | skip
  cases hok : okDs (-1000) 1000 ds with
  | true =>
    repeat' (first
      | refine AWP.seq ?_
      | refine AWP.block ?_
      | (refine AWP.skip ?_; simp only [thenA, blockA, reduceIte])
      | (refine AWP.exit ?_; simp only [thenA, blockA, eq_self, reduceIte, Nat.reduceEqDiff, Nat.succ_ne_zero])
      | (refine AWP.ret ?_; simp only [thenA, blockA, reduceIte])
      | (refine AWP.region (by rfl) (fun KK hKK => ?_); (repeat (simp (disch := omega) [hok])); first | (refine hKK _ _ _ ?_; clear hKK KK; simp only [thenA, blockA, reduceIte]) | skip)
      | (refine AWP.if_t ?_ ?_; focus (simp (disch := omega) [hok]; done))
      | (refine AWP.if_f ?_ ?_; focus (simp (disch := omega) [hok]; done)))
    refine ⟨by simp, ?_⟩
    have hres : Try.f54.results.toList = [.cell 2 25, .tmp 3] := rfl
    rw [hres]
    simp (disch := omega) []
    refine fin0 ⟨?_, rfl⟩ (by simp [resO, nms, nmss]; omega)
    simp [resO, ren, rens, rho, e1, e2]
  | false =>
    repeat' (first
      | refine AWP.seq ?_
      | refine AWP.block ?_
      | (refine AWP.skip ?_; simp only [thenA, blockA, reduceIte])
      | (refine AWP.exit ?_; simp only [thenA, blockA, eq_self, reduceIte, Nat.reduceEqDiff, Nat.succ_ne_zero])
      | (refine AWP.ret ?_; simp only [thenA, blockA, reduceIte])
      | (refine AWP.region (by rfl) (fun KK hKK => ?_); (repeat (simp (disch := omega) [hok])); first | (refine hKK _ _ _ ?_; clear hKK KK; simp only [thenA, blockA, reduceIte]) | skip)
      | (refine AWP.if_t ?_ ?_; focus (simp (disch := omega) [hok]; done))
      | (refine AWP.if_f ?_ ?_; focus (simp (disch := omega) [hok]; done)))
    refine ⟨by simp, ?_⟩
    have hres : Try.f54.results.toList = [.cell 2 25, .tmp 3] := rfl
    rw [hres]
    simp (disch := omega) []
    refine fin0 ⟨?_, rfl⟩ (by simp [resO, nms, nmss])
    simp [resO, ren, rens, rho, hK0]

set_option maxRecDepth 10000 in
set_option maxHeartbeats 400000 in
theorem enumOf_yes (σ : Sto) (ν : Nat) (x : AV) (ds : List Df) (hx : Sl σ x 2 (rowsD ds)) (hlen : ds.length ≤ 4294967296) (hsz : ∀ d ∈ ds, d.1.size ≤ 9223372036854775807) (hok : okDs (-1000) 1000 ds = true) :
    AC Try.prog 50 [x, .v (.bool true)] σ ν fun r δ => r = .tup [.agg [.sl ν 0 ds.length (some ds.length) 2], .v (.bool true)] ∧ δ = upd noS ν (blkD ds) := by
  obtain ⟨b, o, cap, z, rfl⟩ := hx.out
  refine AC.intro [] ent_50 Try.func50 rfl (by simp [Try.f50]) (by simp) ?_
  intro K s hs hB hn hν hA hFr
  simp only [argT, Nat.zero_add, Nat.reduceAdd]
  have hK0 : ¬ 0 = K := by omega
  have hK1 : ¬ K + 1 = K := by omega
  have hx' := hx.vw hs.vw
  repeat' (first
    | refine AWP.seq ?_
    | refine AWP.block ?_
    | (refine AWP.skip ?_; simp only [thenA, blockA, reduceIte])
    | (refine AWP.exit ?_; simp only [thenA, blockA, eq_self, reduceIte, Nat.reduceEqDiff, Nat.succ_ne_zero])
    | (refine AWP.ret ?_; simp only [thenA, blockA, reduceIte])
    | (refine AWP.region (by rfl) (fun KK hKK => ?_); (repeat (simp (disch := omega) [])); first | (refine hKK _ _ _ ?_; clear hKK KK; simp only [thenA, blockA, reduceIte]) | skip)
    | (refine AWP.if_t ?_ ?_; focus (simp (disch := omega) []; done))
    | (refine AWP.if_f ?_ ?_; focus (simp (disch := omega) []; done)))
  refine aStop_of (validEnum_c _ _ _ ds (hx'.vw ((Vw.refl _).over (by repeat (first | exact Over.refl _ | exact hov | refine Over.upd ?_ hB (by omega) | refine Over.del ?_ hB (by omega))))) (by omega) hsz) ?_
  rintro r δ ⟨rfl, rfl⟩
  (repeat (simp (disch := omega) []))
  first | (refine hKK _ _ _ ?_; clear hKK KK; simp only [thenA, blockA, reduceIte]) | skip
  repeat' (first
    | refine AWP.seq ?_
    | refine AWP.block ?_
    | (refine AWP.skip ?_; simp only [thenA, blockA, reduceIte])
    | (refine AWP.exit ?_; simp only [thenA, blockA, eq_self, reduceIte, Nat.reduceEqDiff, Nat.succ_ne_zero])
    | (refine AWP.ret ?_; simp only [thenA, blockA, reduceIte])
    | (refine AWP.region (by rfl) (fun KK hKK => ?_); (repeat (simp (disch := omega) [hok])); first | (refine hKK _ _ _ ?_; clear hKK KK; simp only [thenA, blockA, reduceIte]) | skip)
    | (refine AWP.if_t ?_ ?_; focus (simp (disch := omega) [hok]; done))
    | (refine AWP.if_f ?_ ?_; focus (simp (disch := omega) [hok]; done)))
  refine aStop_of (clone_c _ _ _ ds (hx'.vw ((Vw.refl _).over (by repeat (first | exact Over.refl _ | exact hov | refine Over.upd ?_ hB (by omega) | refine Over.del ?_ hB (by omega))))) hlen) ?_
  rintro r δ ⟨rfl, rfl⟩
  (repeat (simp (disch := omega) []))
  first | (refine hKK _ _ _ ?_; clear hKK KK; simp only [thenA, blockA, reduceIte]) | skip
  repeat' (first
    | refine AWP.seq ?_
    | refine AWP.block ?_
    | (refine AWP.skip ?_; simp only [thenA, blockA, reduceIte])
    | (refine AWP.exit ?_; simp only [thenA, blockA, eq_self, reduceIte, Nat.reduceEqDiff, Nat.succ_ne_zero])
    | (refine AWP.ret ?_; simp only [thenA, blockA, reduceIte])
    | (refine AWP.region (by rfl) (fun KK hKK => ?_); (repeat (simp (disch := omega) [])); first | (refine hKK _ _ _ ?_; clear hKK KK; simp only [thenA, blockA, reduceIte]) | skip)
    | (refine AWP.if_t ?_ ?_; focus (simp (disch := omega) []; done))
    | (refine AWP.if_f ?_ ?_; focus (simp (disch := omega) []; done)))
  refine ⟨by simp, ?_⟩
  have hres : Try.f50.results.toList = [.cell 4 25, .tmp 5] := rfl
  rw [hres]
  simp (disch := omega) []
  refine fin1 (K + 1 + 2) (blkD ds) (by simp (disch := omega)) rfl (flatD ds) ⟨?_, rfl⟩ (by omega) (by simp [resO, nms, nmss])
  simp [resO, ren, rens, rho]

set_option maxRecDepth 10000 in
set_option maxHeartbeats 400000 in
theorem enumOf_no (σ : Sto) (ν : Nat) (x : AV) (c : Bool) (ds : List Df) (hx : Sl σ x 2 (rowsD ds)) (hlen : ds.length ≤ 4294967296) (hsz : ∀ d ∈ ds, d.1.size ≤ 9223372036854775807) (hok : (c && okDs (-1000) 1000 ds) = false) :
    AC Try.prog 50 [x, .v (.bool c)] σ ν fun r δ => r = .tup [.agg [nilA], .v (.bool false)] ∧ δ = noS := by
  obtain ⟨b, o, cap, z, rfl⟩ := hx.out
  refine AC.intro [] ent_50 Try.func50 rfl (by simp [Try.f50]) (by simp) ?_
  intro K s hs hB hn hν hA hFr
  simp only [argT, Nat.zero_add, Nat.reduceAdd]
  have hK0 : ¬ 0 = K := by omega
  have hK1 : ¬ K + 1 = K := by omega
  have hx' := hx.vw hs.vw
  cases c with
  | false =>
    repeat' (first
      | refine AWP.seq ?_
      | refine AWP.block ?_
      | (refine AWP.skip ?_; simp only [thenA, blockA, reduceIte])
      | (refine AWP.exit ?_; simp only [thenA, blockA, eq_self, reduceIte, Nat.reduceEqDiff, Nat.succ_ne_zero])
      | (refine AWP.ret ?_; simp only [thenA, blockA, reduceIte])
      | (refine AWP.region (by rfl) (fun KK hKK => ?_); (repeat (simp (disch := omega) [])); first | (refine hKK _ _ _ ?_; clear hKK KK; simp only [thenA, blockA, reduceIte]) | skip)
      | (refine AWP.if_t ?_ ?_; focus (simp (disch := omega) []; done))
      | (refine AWP.if_f ?_ ?_; focus (simp (disch := omega) []; done)))
    refine ⟨by simp, ?_⟩
    have hres : Try.f50.results.toList = [.cell 4 25, .tmp 5] := rfl
    rw [hres]
    simp (disch := omega) []
    refine fin0 ⟨?_, rfl⟩ (by simp [resO, nms, nmss])
    simp [resO, ren, rens, rho, hK0]
  | true =>
    rw [Bool.true_and] at hok
    repeat' (first
      | refine AWP.seq ?_
      | refine AWP.block ?_
      | (refine AWP.skip ?_; simp only [thenA, blockA, reduceIte])
      | (refine AWP.exit ?_; simp only [thenA, blockA, eq_self, reduceIte, Nat.reduceEqDiff, Nat.succ_ne_zero])
      | (refine AWP.ret ?_; simp only [thenA, blockA, reduceIte])
      | (refine AWP.region (by rfl) (fun KK hKK => ?_); (repeat (simp (disch := omega) [])); first | (refine hKK _ _ _ ?_; clear hKK KK; simp only [thenA, blockA, reduceIte]) | skip)
      | (refine AWP.if_t ?_ ?_; focus (simp (disch := omega) []; done))
      | (refine AWP.if_f ?_ ?_; focus (simp (disch := omega) []; done)))
    refine aStop_of (validEnum_c _ _ _ ds (hx'.vw ((Vw.refl _).over (by repeat (first | exact Over.refl _ | exact hov | refine Over.upd ?_ hB (by omega) | refine Over.del ?_ hB (by omega))))) (by omega) hsz) ?_
    rintro r δ ⟨rfl, rfl⟩
    (repeat (simp (disch := omega) []))
    first | (refine hKK _ _ _ ?_; clear hKK KK; simp only [thenA, blockA, reduceIte]) | skip
    repeat' (first
      | refine AWP.seq ?_
      | refine AWP.block ?_
      | (refine AWP.skip ?_; simp only [thenA, blockA, reduceIte])
      | (refine AWP.exit ?_; simp only [thenA, blockA, eq_self, reduceIte, Nat.reduceEqDiff, Nat.succ_ne_zero])
      | (refine AWP.ret ?_; simp only [thenA, blockA, reduceIte])
      | (refine AWP.region (by rfl) (fun KK hKK => ?_); (repeat (simp (disch := omega) [hok])); first | (refine hKK _ _ _ ?_; clear hKK KK; simp only [thenA, blockA, reduceIte]) | skip)
      | (refine AWP.if_t ?_ ?_; focus (simp (disch := omega) [hok]; done))
      | (refine AWP.if_f ?_ ?_; focus (simp (disch := omega) [hok]; done)))
    refine ⟨by simp, ?_⟩
    have hres : Try.f50.results.toList = [.cell 4 25, .tmp 5] := rfl
    rw [hres]
    simp (disch := omega) []
    refine fin0 ⟨?_, rfl⟩ (by simp [resO, nms, nmss])
    simp [resO, ren, rens, rho, hK0]
end Go.Proofs.Ytgaiemhbllbaiaa
namespace Go.Proofs.Ytgaiemhbllbaiaa
open Go Go.RowKit

theorem nameIx_lt (ds : List Df) (t : ByteArray) : nameIx ds t = -1 ∨ 0 ≤ nameIx ds t ∧ nameIx ds t < ds.length := by
  rcases nameIx_cases ds t with h | ⟨i, h, e, _⟩
  · exact .inl h
  · exact .inr (by omega)
theorem renD_sz {ds : List Df} {i : Nat} {u : ByteArray} (hsz : ∀ d ∈ ds, d.1.size ≤ 9223372036854775807) (hu : u.size ≤ 9223372036854775807) (hil : i < ds.length) : ∀ d ∈ renD ds i u, d.1.size ≤ 9223372036854775807 := by
  intro d hd
  unfold renD at hd
  rw [List.modify_eq_set, List.getElem?_eq_getElem hil] at hd
  rcases List.mem_or_eq_of_mem_set hd with h | h
  · exact hsz d h
  · rw [h]; exact hu
end Go.Proofs.Ytgaiemhbllbaiaa
namespace Go.Proofs.Ytgaiemhbllbaiaa
open Go Go.RowKit

end Go.Proofs.Ytgaiemhbllbaiaa
namespace Go.Proofs.Ytgaiemhbllbaiaa
open Go Go.RowKit

set_option maxRecDepth 10000 in
set_option maxHeartbeats 400000 in
theorem eqDef_c (σ : Sto) (ν : Nat) (d e : Df) : AC Try.prog 101 [.agg [.v (.string d.1), .v (.int .i64 d.2)], .agg [.v (.string e.1), .v (.int .i64 e.2)]] σ ν fun r δ => r = .v (.bool (decide (d = e))) ∧ δ = noS := by
  obtain ⟨a, m⟩ := d
  obtain ⟨b, n⟩ := e
  refine AC.intro [] ent_101 Try.func101 rfl (by simp [Try.f101]) (by simp) ?_
  intro K s hs hB hn hν hA hFr
  simp only [argT, Nat.zero_add, Nat.reduceAdd]
  by_cases h1 : a = b
  · by_cases h2 : m = n
    · repeat' (first
        | refine AWP.seq ?_
        | refine AWP.block ?_
        | (refine AWP.skip ?_; simp only [thenA, blockA, reduceIte])
        | (refine AWP.exit ?_; simp only [thenA, blockA, eq_self, reduceIte, Nat.reduceEqDiff, Nat.succ_ne_zero])
        | (refine AWP.ret ?_; simp only [thenA, blockA, reduceIte])
        | (refine AWP.region (by rfl) (fun KK hKK => ?_); (repeat (simp (disch := omega) [h1, h2])); first | (refine hKK _ _ _ ?_; clear hKK KK; simp only [thenA, blockA, reduceIte]) | skip)
        | (refine AWP.if_t ?_ ?_; focus (simp (disch := omega) [h1, h2]; done))
        | (refine AWP.if_f ?_ ?_; focus (simp (disch := omega) [h1, h2]; done)))
      refine ⟨by simp, _, rfl, fin0 ⟨?_, rfl⟩ (by simp [resO, get, nms, nmss]; try (simp [nms, nmss] at hn; simp_all))⟩
      simp [resO, get, ren, rens, h1, h2]
    · repeat' (first
        | refine AWP.seq ?_
        | refine AWP.block ?_
        | (refine AWP.skip ?_; simp only [thenA, blockA, reduceIte])
        | (refine AWP.exit ?_; simp only [thenA, blockA, eq_self, reduceIte, Nat.reduceEqDiff, Nat.succ_ne_zero])
        | (refine AWP.ret ?_; simp only [thenA, blockA, reduceIte])
        | (refine AWP.region (by rfl) (fun KK hKK => ?_); (repeat (simp (disch := omega) [h1, h2])); first | (refine hKK _ _ _ ?_; clear hKK KK; simp only [thenA, blockA, reduceIte]) | skip)
        | (refine AWP.if_t ?_ ?_; focus (simp (disch := omega) [h1, h2]; done))
        | (refine AWP.if_f ?_ ?_; focus (simp (disch := omega) [h1, h2]; done)))
      refine ⟨by simp, _, rfl, fin0 ⟨?_, rfl⟩ (by simp [resO, get, nms, nmss]; try (simp [nms, nmss] at hn; simp_all))⟩
      simp [resO, get, ren, rens, h1, h2]
  · repeat' (first
      | refine AWP.seq ?_
      | refine AWP.block ?_
      | (refine AWP.skip ?_; simp only [thenA, blockA, reduceIte])
      | (refine AWP.exit ?_; simp only [thenA, blockA, eq_self, reduceIte, Nat.reduceEqDiff, Nat.succ_ne_zero])
      | (refine AWP.ret ?_; simp only [thenA, blockA, reduceIte])
      | (refine AWP.region (by rfl) (fun KK hKK => ?_); (repeat (simp (disch := omega) [h1])); first | (refine hKK _ _ _ ?_; clear hKK KK; simp only [thenA, blockA, reduceIte]) | skip)
      | (refine AWP.if_t ?_ ?_; focus (simp (disch := omega) [h1]; done))
      | (refine AWP.if_f ?_ ?_; focus (simp (disch := omega) [h1]; done)))
    refine ⟨by simp, _, rfl, fin0 ⟨?_, rfl⟩ (by simp [resO, get, nms, nmss]; try (simp [nms, nmss] at hn; simp_all))⟩
    simp [resO, get, ren, rens, h1]

theorem take_ne {α : Type} {l m : List α} {k : Nat} (h1 : k < l.length) (h2 : k < m.length) (h : l[k] ≠ m[k]) : l ≠ m := fun e => by subst e; exact h rfl
theorem take_all {α : Type} {l m : List α} {k : Nat} (hk : k = l.length) (hl : l.length = m.length) (h : l.take k = m.take k) : l = m := by
  subst hk
  rwa [List.take_length, hl, List.take_length] at h
theorem take_succ_eq {α : Type} {l m : List α} {k : Nat} (h1 : k < l.length) (h2 : k < m.length) (h : l.take k = m.take k) (e : l[k] = m[k]) : l.take (k + 1) = m.take (k + 1) := by
  rw [List.take_succ_eq_append_getElem h1, List.take_succ_eq_append_getElem h2, h, e]

set_option maxRecDepth 10000 in
set_option maxHeartbeats 1000000 in
theorem eqDefS_c (σ : Sto) (ν : Nat) (x y : AV) (ds es : List Df) (hx : Sl σ x 2 (rowsD ds)) (hy : Sl σ y 2 (rowsD es)) (hl1 : ds.length ≤ 4294967296) (hl2 : es.length ≤ 4294967296) :
    AC Try.prog 64 [x, y] σ ν fun r δ => r = .v (.bool (decide (ds = es))) ∧ δ = noS := by
  obtain ⟨b, o, cap, z, rfl⟩ := hx.out
  obtain ⟨b2, o2, cap2, z2, rfl⟩ := hy.out
  simp only [rowsD_len] at hx hy ⊢
  refine AC.intro [] ent_64 Try.func64 rfl (by simp [Try.f64]) (by simp) ?_
  intro K s hs hB hn hν hA hFr
  simp only [argT, Nat.zero_add, Nat.reduceAdd]
  have hx' := hx.vw hs.vw
  have hy' := hy.vw hs.vw
  by_cases hl : ds.length = es.length
  · have hli : (ds.length : Int) = es.length := by omega
    repeat' (first
      | refine AWP.seq ?_
      | refine AWP.block ?_
      | (refine AWP.skip ?_; simp only [thenA, blockA, reduceIte])
      | (refine AWP.exit ?_; simp only [thenA, blockA, eq_self, reduceIte, Nat.reduceEqDiff, Nat.succ_ne_zero])
      | (refine AWP.ret ?_; simp only [thenA, blockA, reduceIte])
      | (refine AWP.region (by rfl) (fun KK hKK => ?_); (repeat (simp (disch := omega) [hli])); first | (refine hKK _ _ _ ?_; clear hKK KK; simp only [thenA, blockA, reduceIte]) | skip)
      | (refine AWP.draw' mixd (by rfl) (by kernel_rfl) (fun KK tab hKK htab => ?_); (repeat (simp (disch := omega) [hli])); first | (refine dEnd_ro ?_ (hKK _ _ _ ?_); (focus (simp; done)); clear htab tab hKK KK; simp only [thenA, blockA, reduceIte]) | (refine dEnd_of ?_ (hKK _ _ _ ?_); (focus (simp only [List.reverse_cons, List.reverse_nil, List.nil_append, List.cons_append, memA, mem1, and_true, true_and]; (repeat' apply And.intro); (all_goals (first | trivial | (refine .inr ⟨?_, ?_⟩ <;> (simp; done)) | (refine .inr ⟨?_, ?_⟩ <;> (simp <;> omega)) | (refine .inl ?_; rw [htab]; kernel_rfl))); done)); clear htab tab hKK KK; simp only [thenA, blockA, reduceIte]) | skip)
      | (refine AWP.if_t ?_ ?_; focus (simp (disch := omega) [hli]; done))
      | (refine AWP.if_f ?_ ?_; focus (simp (disch := omega) [hli]; done)))
    refine AWP.loop (fun n τ σ' M => ∃ k : Nat, k ≤ ds.length ∧ n = ds.length - k ∧ ds.take k = es.take k ∧ τ = [(0, .sl b o ds.length cap z), (1, .sl b2 o2 es.length cap2 z2), (5, .v (.int .i64 k))] ∧ σ' = s ∧ M = K) ⟨_, _, _, _, ⟨0, by omega, rfl, by simp, rfl, rfl, rfl⟩, (Weak.base hB (by repeat (first | exact Over.refl _ | exact hov | refine Over.upd ?_ hB (by omega) | refine Over.del ?_ hB (by omega))) (by simp [LT, get, nms, nmss]; try (simp [nms, nmss] at hn; simp_all)))⟩ ?_
    rintro n τ σ' M ⟨k, hk, rfl, ht, rfl, rfl, rfl⟩
    by_cases hlt : k < ds.length
    · have hlt2 : k < es.length := by omega
      obtain ⟨_, rfl, kb, hkb, hat⟩ := hx'.at (i := k) (by rw [rowsD_len]; exact hlt)
      obtain ⟨_, rfl, kb2, hkb2, hat2⟩ := hy'.at (i := k) (by rw [rowsD_len]; exact hlt2)
      have hrow : (rowsD ds)[k]'(by rw [rowsD_len]; exact hlt) = [.v (.string ds[k].1), .v (.int .i64 ds[k].2)] := by simp [rowsD, rowD]
      have hrow2 : (rowsD es)[k]'(by rw [rowsD_len]; exact hlt2) = [.v (.string es[k].1), .v (.int .i64 es[k].2)] := by simp [rowsD, rowD]
      rw [hrow] at hat
      rw [hrow2] at hat2
      by_cases he : ds[k] = es[k]
      · repeat' (first
          | refine AWP.seq ?_
          | refine AWP.block ?_
          | (refine AWP.skip ?_; simp only [thenA, blockA, reduceIte])
          | (refine AWP.exit ?_; simp only [thenA, blockA, eq_self, reduceIte, Nat.reduceEqDiff, Nat.succ_ne_zero])
          | (refine AWP.ret ?_; simp only [thenA, blockA, reduceIte])
          | (refine AWP.region (by rfl) (fun KK hKK => ?_); (repeat (simp (disch := omega) [hlt, hlt2, hkb, hat, hkb2, hat2])); first | (refine hKK _ _ _ ?_; clear hKK KK; simp only [thenA, blockA, reduceIte]) | skip)
          | (refine AWP.draw' mixd (by rfl) (by kernel_rfl) (fun KK tab hKK htab => ?_); (repeat (simp (disch := omega) [hlt, hlt2, hkb, hat, hkb2, hat2])); first | (refine dEnd_ro ?_ (hKK _ _ _ ?_); (focus (simp; done)); clear htab tab hKK KK; simp only [thenA, blockA, reduceIte]) | (refine dEnd_of ?_ (hKK _ _ _ ?_); (focus (simp only [List.reverse_cons, List.reverse_nil, List.nil_append, List.cons_append, memA, mem1, and_true, true_and]; (repeat' apply And.intro); (all_goals (first | trivial | (refine .inr ⟨?_, ?_⟩ <;> (simp; done)) | (refine .inr ⟨?_, ?_⟩ <;> (simp <;> omega)) | (refine .inl ?_; rw [htab]; kernel_rfl))); done)); clear htab tab hKK KK; simp only [thenA, blockA, reduceIte]) | skip)
          | (refine AWP.if_t ?_ ?_; focus (simp (disch := omega) [hlt, hlt2, hkb, hat, hkb2, hat2]; done))
          | (refine AWP.if_f ?_ ?_; focus (simp (disch := omega) [hlt, hlt2, hkb, hat, hkb2, hat2]; done)))
        refine dStop_pure (fun σ' => eqDef_c σ' _ ds[k] es[k]) ?_
        (repeat (simp (disch := omega) [he]))
        first | (refine dEnd_ro ?_ (hKK _ _ _ ?_); (focus (simp; done)); clear htab tab hKK KK; simp only [thenA, blockA, reduceIte]) | (refine dEnd_of ?_ (hKK _ _ _ ?_); (focus (simp only [List.reverse_cons, List.reverse_nil, List.nil_append, List.cons_append, memA, mem1, and_true, true_and]; (repeat' apply And.intro); (all_goals (first | trivial | (refine .inr ⟨?_, ?_⟩ <;> (simp; done)) | (refine .inr ⟨?_, ?_⟩ <;> (simp <;> omega)) | (refine .inl ?_; rw [htab]; kernel_rfl))); done)); clear htab tab hKK KK; simp only [thenA, blockA, reduceIte]) | skip
        repeat' (first
          | refine AWP.seq ?_
          | refine AWP.block ?_
          | (refine AWP.skip ?_; simp only [thenA, blockA, reduceIte])
          | (refine AWP.exit ?_; simp only [thenA, blockA, eq_self, reduceIte, Nat.reduceEqDiff, Nat.succ_ne_zero])
          | (refine AWP.ret ?_; simp only [thenA, blockA, reduceIte])
          | (refine AWP.region (by rfl) (fun KK hKK => ?_); (repeat (simp (disch := omega) [])); first | (refine hKK _ _ _ ?_; clear hKK KK; simp only [thenA, blockA, reduceIte]) | skip)
          | (refine AWP.draw' mixd (by rfl) (by kernel_rfl) (fun KK tab hKK htab => ?_); (repeat (simp (disch := omega) [])); first | (refine dEnd_ro ?_ (hKK _ _ _ ?_); (focus (simp; done)); clear htab tab hKK KK; simp only [thenA, blockA, reduceIte]) | (refine dEnd_of ?_ (hKK _ _ _ ?_); (focus (simp only [List.reverse_cons, List.reverse_nil, List.nil_append, List.cons_append, memA, mem1, and_true, true_and]; (repeat' apply And.intro); (all_goals (first | trivial | (refine .inr ⟨?_, ?_⟩ <;> (simp; done)) | (refine .inr ⟨?_, ?_⟩ <;> (simp <;> omega)) | (refine .inl ?_; rw [htab]; kernel_rfl))); done)); clear htab tab hKK KK; simp only [thenA, blockA, reduceIte]) | skip)
          | (refine AWP.if_t ?_ ?_; focus (simp (disch := omega) []; done))
          | (refine AWP.if_f ?_ ?_; focus (simp (disch := omega) []; done)))
        refine ⟨_, _, _, _, ?_, ⟨k + 1, by omega, rfl, take_succ_eq hlt hlt2 ht he, rfl, rfl, rfl⟩, (Weak.base hB (by repeat (first | exact Over.refl _ | exact hov | refine Over.upd ?_ hB (by omega) | refine Over.del ?_ hB (by omega))) (by simp [LT, get, nms, nmss]; try (simp [nms, nmss] at hn; simp_all)))⟩
        omega
      · have hne := take_ne hlt hlt2 he
        repeat' (first
          | refine AWP.seq ?_
          | refine AWP.block ?_
          | (refine AWP.skip ?_; simp only [thenA, blockA, reduceIte])
          | (refine AWP.exit ?_; simp only [thenA, blockA, eq_self, reduceIte, Nat.reduceEqDiff, Nat.succ_ne_zero])
          | (refine AWP.ret ?_; simp only [thenA, blockA, reduceIte])
          | (refine AWP.region (by rfl) (fun KK hKK => ?_); (repeat (simp (disch := omega) [hlt, hlt2, hkb, hat, hkb2, hat2])); first | (refine hKK _ _ _ ?_; clear hKK KK; simp only [thenA, blockA, reduceIte]) | skip)
          | (refine AWP.draw' mixd (by rfl) (by kernel_rfl) (fun KK tab hKK htab => ?_); (repeat (simp (disch := omega) [hlt, hlt2, hkb, hat, hkb2, hat2])); first | (refine dEnd_ro ?_ (hKK _ _ _ ?_); (focus (simp; done)); clear htab tab hKK KK; simp only [thenA, blockA, reduceIte]) | (refine dEnd_of ?_ (hKK _ _ _ ?_); (focus (simp only [List.reverse_cons, List.reverse_nil, List.nil_append, List.cons_append, memA, mem1, and_true, true_and]; (repeat' apply And.intro); (all_goals (first | trivial | (refine .inr ⟨?_, ?_⟩ <;> (simp; done)) | (refine .inr ⟨?_, ?_⟩ <;> (simp <;> omega)) | (refine .inl ?_; rw [htab]; kernel_rfl))); done)); clear htab tab hKK KK; simp only [thenA, blockA, reduceIte]) | skip)
          | (refine AWP.if_t ?_ ?_; focus (simp (disch := omega) [hlt, hlt2, hkb, hat, hkb2, hat2]; done))
          | (refine AWP.if_f ?_ ?_; focus (simp (disch := omega) [hlt, hlt2, hkb, hat, hkb2, hat2]; done)))
        refine dStop_pure (fun σ' => eqDef_c σ' _ ds[k] es[k]) ?_
        (repeat (simp (disch := omega) [he]))
        first | (refine dEnd_ro ?_ (hKK _ _ _ ?_); (focus (simp; done)); clear htab tab hKK KK; simp only [thenA, blockA, reduceIte]) | (refine dEnd_of ?_ (hKK _ _ _ ?_); (focus (simp only [List.reverse_cons, List.reverse_nil, List.nil_append, List.cons_append, memA, mem1, and_true, true_and]; (repeat' apply And.intro); (all_goals (first | trivial | (refine .inr ⟨?_, ?_⟩ <;> (simp; done)) | (refine .inr ⟨?_, ?_⟩ <;> (simp <;> omega)) | (refine .inl ?_; rw [htab]; kernel_rfl))); done)); clear htab tab hKK KK; simp only [thenA, blockA, reduceIte]) | skip
        repeat' (first
          | refine AWP.seq ?_
          | refine AWP.block ?_
          | (refine AWP.skip ?_; simp only [thenA, blockA, reduceIte])
          | (refine AWP.exit ?_; simp only [thenA, blockA, eq_self, reduceIte, Nat.reduceEqDiff, Nat.succ_ne_zero])
          | (refine AWP.ret ?_; simp only [thenA, blockA, reduceIte])
          | (refine AWP.region (by rfl) (fun KK hKK => ?_); (repeat (simp (disch := omega) [])); first | (refine hKK _ _ _ ?_; clear hKK KK; simp only [thenA, blockA, reduceIte]) | skip)
          | (refine AWP.draw' mixd (by rfl) (by kernel_rfl) (fun KK tab hKK htab => ?_); (repeat (simp (disch := omega) [])); first | (refine dEnd_ro ?_ (hKK _ _ _ ?_); (focus (simp; done)); clear htab tab hKK KK; simp only [thenA, blockA, reduceIte]) | (refine dEnd_of ?_ (hKK _ _ _ ?_); (focus (simp only [List.reverse_cons, List.reverse_nil, List.nil_append, List.cons_append, memA, mem1, and_true, true_and]; (repeat' apply And.intro); (all_goals (first | trivial | (refine .inr ⟨?_, ?_⟩ <;> (simp; done)) | (refine .inr ⟨?_, ?_⟩ <;> (simp <;> omega)) | (refine .inl ?_; rw [htab]; kernel_rfl))); done)); clear htab tab hKK KK; simp only [thenA, blockA, reduceIte]) | skip)
          | (refine AWP.if_t ?_ ?_; focus (simp (disch := omega) []; done))
          | (refine AWP.if_f ?_ ?_; focus (simp (disch := omega) []; done)))
        refine ⟨by simp, _, rfl, fin0 ⟨?_, rfl⟩ (by simp [resO, get, nms, nmss]; try (simp [nms, nmss] at hn; simp_all))⟩
        simp [resO, get, ren, rens, hne]
    · have hk' : k = ds.length := by omega
      have e := take_all hk' hl ht
      subst e
      subst hk'
      repeat' (first
        | refine AWP.seq ?_
        | refine AWP.block ?_
        | (refine AWP.skip ?_; simp only [thenA, blockA, reduceIte])
        | (refine AWP.exit ?_; simp only [thenA, blockA, eq_self, reduceIte, Nat.reduceEqDiff, Nat.succ_ne_zero])
        | (refine AWP.ret ?_; simp only [thenA, blockA, reduceIte])
        | (refine AWP.region (by rfl) (fun KK hKK => ?_); (repeat (simp (disch := omega) [])); first | (refine hKK _ _ _ ?_; clear hKK KK; simp only [thenA, blockA, reduceIte]) | skip)
        | (refine AWP.draw' mixd (by rfl) (by kernel_rfl) (fun KK tab hKK htab => ?_); (repeat (simp (disch := omega) [])); first | (refine dEnd_ro ?_ (hKK _ _ _ ?_); (focus (simp; done)); clear htab tab hKK KK; simp only [thenA, blockA, reduceIte]) | (refine dEnd_of ?_ (hKK _ _ _ ?_); (focus (simp only [List.reverse_cons, List.reverse_nil, List.nil_append, List.cons_append, memA, mem1, and_true, true_and]; (repeat' apply And.intro); (all_goals (first | trivial | (refine .inr ⟨?_, ?_⟩ <;> (simp; done)) | (refine .inr ⟨?_, ?_⟩ <;> (simp <;> omega)) | (refine .inl ?_; rw [htab]; kernel_rfl))); done)); clear htab tab hKK KK; simp only [thenA, blockA, reduceIte]) | skip)
        | (refine AWP.if_t ?_ ?_; focus (simp (disch := omega) []; done))
        | (refine AWP.if_f ?_ ?_; focus (simp (disch := omega) []; done)))
      refine ⟨by simp, _, rfl, fin0 ⟨?_, rfl⟩ (by simp [resO, get, nms, nmss]; try (simp [nms, nmss] at hn; simp_all))⟩
      simp [resO, get, ren, rens]
  · have hli : ¬ (ds.length : Int) = es.length := by omega
    have hne : ds ≠ es := fun e => hl (by rw [e])
    repeat' (first
      | refine AWP.seq ?_
      | refine AWP.block ?_
      | (refine AWP.skip ?_; simp only [thenA, blockA, reduceIte])
      | (refine AWP.exit ?_; simp only [thenA, blockA, eq_self, reduceIte, Nat.reduceEqDiff, Nat.succ_ne_zero])
      | (refine AWP.ret ?_; simp only [thenA, blockA, reduceIte])
      | (refine AWP.region (by rfl) (fun KK hKK => ?_); (repeat (simp (disch := omega) [hli])); first | (refine hKK _ _ _ ?_; clear hKK KK; simp only [thenA, blockA, reduceIte]) | skip)
      | (refine AWP.draw' mixd (by rfl) (by kernel_rfl) (fun KK tab hKK htab => ?_); (repeat (simp (disch := omega) [hli])); first | (refine dEnd_ro ?_ (hKK _ _ _ ?_); (focus (simp; done)); clear htab tab hKK KK; simp only [thenA, blockA, reduceIte]) | (refine dEnd_of ?_ (hKK _ _ _ ?_); (focus (simp only [List.reverse_cons, List.reverse_nil, List.nil_append, List.cons_append, memA, mem1, and_true, true_and]; (repeat' apply And.intro); (all_goals (first | trivial | (refine .inr ⟨?_, ?_⟩ <;> (simp; done)) | (refine .inr ⟨?_, ?_⟩ <;> (simp <;> omega)) | (refine .inl ?_; rw [htab]; kernel_rfl))); done)); clear htab tab hKK KK; simp only [thenA, blockA, reduceIte]) | skip)
      | (refine AWP.if_t ?_ ?_; focus (simp (disch := omega) [hli]; done))
      | (refine AWP.if_f ?_ ?_; focus (simp (disch := omega) [hli]; done)))
    refine ⟨by simp, _, rfl, fin0 ⟨?_, rfl⟩ (by simp [resO, get, nms, nmss]; try (simp [nms, nmss] at hn; simp_all))⟩
    simp [resO, get, ren, rens, hne]
end Go.Proofs.Ytgaiemhbllbaiaa
namespace Go.Proofs.Ytgaiemhbllbaiaa
open Go Go.RowKit

set_option maxRecDepth 10000 in
set_option maxHeartbeats 400000 in
theorem eqEnum_c (σ : Sto) (ν : Nat) (x y : AV) (ds es : List Df) (hx : Sl σ x 2 (rowsD ds)) (hy : Sl σ y 2 (rowsD es)) (hl1 : ds.length ≤ 4294967296) (hl2 : es.length ≤ 4294967296) :
    AC Try.prog 25 [.agg [x], .agg [y]] σ ν fun r δ => r = .v (.bool (decide (ds = es))) ∧ δ = noS := by
  obtain ⟨b, o, cap, z, rfl⟩ := hx.out
  obtain ⟨b2, o2, cap2, z2, rfl⟩ := hy.out
  refine AC.intro [] ent_25 Try.func25 rfl (by simp [Try.f25]) (by simp) ?_
  intro K s hs hB hn hν hA hFr
  simp only [argT, Nat.zero_add, Nat.reduceAdd]
  have hx' := hx.vw hs.vw
  have hy' := hy.vw hs.vw
  repeat' (first
    | refine AWP.seq ?_
    | refine AWP.block ?_
    | (refine AWP.skip ?_; simp only [thenA, blockA, reduceIte])
    | (refine AWP.exit ?_; simp only [thenA, blockA, eq_self, reduceIte, Nat.reduceEqDiff, Nat.succ_ne_zero])
    | (refine AWP.ret ?_; simp only [thenA, blockA, reduceIte])
    | (refine AWP.region (by rfl) (fun KK hKK => ?_); (repeat (simp (disch := omega) [])); first | (refine hKK _ _ _ ?_; clear hKK KK; simp only [thenA, blockA, reduceIte]) | skip)
    | (refine AWP.if_t ?_ ?_; focus (simp (disch := omega) []; done))
    | (refine AWP.if_f ?_ ?_; focus (simp (disch := omega) []; done)))
  refine aStop_of (eqDefS_c _ _ _ _ ds es (hx'.vw ((Vw.refl _).over (by repeat (first | exact Over.refl _ | exact hov | refine Over.upd ?_ hB (by omega) | refine Over.del ?_ hB (by omega))))) (hy'.vw ((Vw.refl _).over (by repeat (first | exact Over.refl _ | exact hov | refine Over.upd ?_ hB (by omega) | refine Over.del ?_ hB (by omega))))) hl1 hl2) ?_
  rintro r δ ⟨rfl, rfl⟩
  (repeat (simp (disch := omega) []))
  first | (refine hKK _ _ _ ?_; clear hKK KK; simp only [thenA, blockA, reduceIte]) | skip
  by_cases h : ds = es
  · repeat' (first
      | refine AWP.seq ?_
      | refine AWP.block ?_
      | (refine AWP.skip ?_; simp only [thenA, blockA, reduceIte])
      | (refine AWP.exit ?_; simp only [thenA, blockA, eq_self, reduceIte, Nat.reduceEqDiff, Nat.succ_ne_zero])
      | (refine AWP.ret ?_; simp only [thenA, blockA, reduceIte])
      | (refine AWP.region (by rfl) (fun KK hKK => ?_); (repeat (simp (disch := omega) [h])); first | (refine hKK _ _ _ ?_; clear hKK KK; simp only [thenA, blockA, reduceIte]) | skip)
      | (refine AWP.if_t ?_ ?_; focus (simp (disch := omega) [h]; done))
      | (refine AWP.if_f ?_ ?_; focus (simp (disch := omega) [h]; done)))
    refine ⟨by simp, _, rfl, fin0 ⟨?_, rfl⟩ (by simp [resO, get, nms, nmss]; try (simp [nms, nmss] at hn; simp_all))⟩
    simp [resO, get, ren, rens, h]
  · repeat' (first
      | refine AWP.seq ?_
      | refine AWP.block ?_
      | (refine AWP.skip ?_; simp only [thenA, blockA, reduceIte])
      | (refine AWP.exit ?_; simp only [thenA, blockA, eq_self, reduceIte, Nat.reduceEqDiff, Nat.succ_ne_zero])
      | (refine AWP.ret ?_; simp only [thenA, blockA, reduceIte])
      | (refine AWP.region (by rfl) (fun KK hKK => ?_); (repeat (simp (disch := omega) [h])); first | (refine hKK _ _ _ ?_; clear hKK KK; simp only [thenA, blockA, reduceIte]) | skip)
      | (refine AWP.if_t ?_ ?_; focus (simp (disch := omega) [h]; done))
      | (refine AWP.if_f ?_ ?_; focus (simp (disch := omega) [h]; done)))
    refine ⟨by simp, _, rfl, fin0 ⟨?_, rfl⟩ (by simp [resO, get, nms, nmss]; try (simp [nms, nmss] at hn; simp_all))⟩
    simp [resO, get, ren, rens, h]

set_option maxRecDepth 10000 in
set_option maxHeartbeats 400000 in
theorem toDef_c (σ : Sto) (ν : Nat) (t : ByteArray) (n : Int) : AC Try.prog 100 [.agg [.v (.string t), .v (.int .i64 n)]] σ ν fun r δ => r = .agg [.v (.string t), .v (.int .i64 n)] ∧ δ = noS := by
  refine AC.intro [] ent_100 Try.func100 rfl (by simp [Try.f100]) (by simp) ?_
  intro K s hs hB hn hν hA hFr
  simp only [argT, Nat.zero_add, Nat.reduceAdd]
  repeat' (first
    | refine AWP.seq ?_
    | refine AWP.block ?_
    | (refine AWP.skip ?_; simp only [thenA, blockA, reduceIte])
    | (refine AWP.exit ?_; simp only [thenA, blockA, eq_self, reduceIte, Nat.reduceEqDiff, Nat.succ_ne_zero])
    | (refine AWP.ret ?_; simp only [thenA, blockA, reduceIte])
    | (refine AWP.region (by rfl) (fun KK hKK => ?_); (repeat (simp (disch := omega) [])); first | (refine hKK _ _ _ ?_; clear hKK KK; simp only [thenA, blockA, reduceIte]) | skip)
    | (refine AWP.if_t ?_ ?_; focus (simp (disch := omega) []; done))
    | (refine AWP.if_f ?_ ?_; focus (simp (disch := omega) []; done)))
  refine ⟨by simp, ?_⟩
  have hres : Try.f100.results.toList = [.cell 2 34] := rfl
  rw [hres]
  simp (disch := omega) []
  refine fin0 ⟨?_, rfl⟩ (by simp [resO, nms, nmss])
  simp [resO, ren, rens]

set_option maxRecDepth 10000 in
set_option maxHeartbeats 400000 in
theorem szDef_c (σ : Sto) (ν : Nat) (t : ByteArray) (n k : Int) (ht : t.size ≤ 9223372036854775807) (hk : -1 ≤ k ∧ k ≤ 4294967296) : AC Try.prog 99 [.agg [.v (.string t), .v (.int .i64 n)], .v (.int .i64 k)] σ ν fun r δ => r = .v (.int .i64 (if k - t.size < 0 then -1 else k - t.size)) ∧ δ = noS := by
  refine AC.intro [] ent_99 Try.func99 rfl (by simp [Try.f99]) (by simp) ?_
  intro K s hs hB hn hν hA hFr
  simp only [argT, Nat.zero_add, Nat.reduceAdd]
  by_cases h : k - t.size < 0
  · repeat' (first
      | refine AWP.seq ?_
      | refine AWP.block ?_
      | (refine AWP.skip ?_; simp only [thenA, blockA, reduceIte])
      | (refine AWP.exit ?_; simp only [thenA, blockA, eq_self, reduceIte, Nat.reduceEqDiff, Nat.succ_ne_zero])
      | (refine AWP.ret ?_; simp only [thenA, blockA, reduceIte])
      | (refine AWP.region (by rfl) (fun KK hKK => ?_); (repeat (simp (disch := omega) [h])); first | (refine hKK _ _ _ ?_; clear hKK KK; simp only [thenA, blockA, reduceIte]) | skip)
      | (refine AWP.if_t ?_ ?_; focus (simp (disch := omega) [h]; done))
      | (refine AWP.if_f ?_ ?_; focus (simp (disch := omega) [h]; done)))
    refine ⟨by simp, _, rfl, fin0 ⟨?_, rfl⟩ (by simp [resO, get, nms, nmss]; try (simp [nms, nmss] at hn; simp_all))⟩
    simp [resO, get, ren, rens, h]
  · repeat' (first
      | refine AWP.seq ?_
      | refine AWP.block ?_
      | (refine AWP.skip ?_; simp only [thenA, blockA, reduceIte])
      | (refine AWP.exit ?_; simp only [thenA, blockA, eq_self, reduceIte, Nat.reduceEqDiff, Nat.succ_ne_zero])
      | (refine AWP.ret ?_; simp only [thenA, blockA, reduceIte])
      | (refine AWP.region (by rfl) (fun KK hKK => ?_); (repeat (simp (disch := omega) [h])); first | (refine hKK _ _ _ ?_; clear hKK KK; simp only [thenA, blockA, reduceIte]) | skip)
      | (refine AWP.if_t ?_ ?_; focus (simp (disch := omega) [h]; done))
      | (refine AWP.if_f ?_ ?_; focus (simp (disch := omega) [h]; done)))
    refine ⟨by simp, _, rfl, fin0 ⟨?_, rfl⟩ (by simp [resO, get, nms, nmss]; try (simp [nms, nmss] at hn; simp_all))⟩
    simp [resO, get, ren, rens, h]

/-- The room that is left behind the names of a list. -/
def szF : List Df → Int → Int
  | [], k => k
  | d :: ds, k => if k - d.1.size < 0 then -1 else szF ds (k - d.1.size)
def szL (ds : List Df) (k : Int) : Int := if k - ds.length < 0 then -1 else szF ds (k - ds.length)

set_option maxRecDepth 10000 in
set_option maxHeartbeats 1000000 in
theorem szDefS_c (σ : Sto) (ν : Nat) (x : AV) (ds : List Df) (k : Int) (hx : Sl σ x 2 (rowsD ds)) (hlen : ds.length ≤ 9223372036854775807) (hsz : ∀ d ∈ ds, d.1.size ≤ 9223372036854775807) (hk : 0 ≤ k ∧ k ≤ 4294967296) :
    AC Try.prog 61 [x, .v (.int .i64 k)] σ ν fun r δ => r = .v (.int .i64 (szL ds k)) ∧ δ = noS := by
  obtain ⟨b, o, cap, z, rfl⟩ := hx.out
  simp only [rowsD_len] at hx ⊢
  refine AC.intro [] ent_61 Try.func61 rfl (by simp [Try.f61]) (by simp) ?_
  intro K s hs hB hn hν hA hFr
  simp only [argT, Nat.zero_add, Nat.reduceAdd]
  have hx' := hx.vw hs.vw
  by_cases h0 : k - ds.length < 0
  · repeat' (first
      | refine AWP.seq ?_
      | refine AWP.block ?_
      | (refine AWP.skip ?_; simp only [thenA, blockA, reduceIte])
      | (refine AWP.exit ?_; simp only [thenA, blockA, eq_self, reduceIte, Nat.reduceEqDiff, Nat.succ_ne_zero])
      | (refine AWP.ret ?_; simp only [thenA, blockA, reduceIte])
      | (refine AWP.region (by rfl) (fun KK hKK => ?_); (repeat (simp (disch := omega) [h0])); first | (refine hKK _ _ _ ?_; clear hKK KK; simp only [thenA, blockA, reduceIte]) | skip)
      | (refine AWP.if_t ?_ ?_; focus (simp (disch := omega) [h0]; done))
      | (refine AWP.if_f ?_ ?_; focus (simp (disch := omega) [h0]; done)))
    refine ⟨by simp, _, rfl, fin0 ⟨?_, rfl⟩ (by simp [resO, get, nms, nmss]; try (simp [nms, nmss] at hn; simp_all))⟩
    simp [resO, get, ren, rens, szL, h0]
  · repeat' (first
      | refine AWP.seq ?_
      | refine AWP.block ?_
      | (refine AWP.skip ?_; simp only [thenA, blockA, reduceIte])
      | (refine AWP.exit ?_; simp only [thenA, blockA, eq_self, reduceIte, Nat.reduceEqDiff, Nat.succ_ne_zero])
      | (refine AWP.ret ?_; simp only [thenA, blockA, reduceIte])
      | (refine AWP.region (by rfl) (fun KK hKK => ?_); (repeat (simp (disch := omega) [h0])); first | (refine hKK _ _ _ ?_; clear hKK KK; simp only [thenA, blockA, reduceIte]) | skip)
      | (refine AWP.if_t ?_ ?_; focus (simp (disch := omega) [h0]; done))
      | (refine AWP.if_f ?_ ?_; focus (simp (disch := omega) [h0]; done)))
    refine AWP.loop (fun n τ σ' M => ∃ (i : Nat) (m : Int), i ≤ ds.length ∧ n = ds.length - i ∧ 0 ≤ m ∧ m ≤ 4294967296 ∧ szF (ds.drop i) m = szF ds (k - ds.length) ∧ τ = [(0, .sl b o ds.length cap z), (1, .v (.int .i64 m)), (5, .v (.int .i64 i))] ∧ σ' = s ∧ M = K) ⟨_, _, _, _, ⟨0, k - ds.length, by omega, rfl, by omega, by omega, by simp, rfl, rfl, rfl⟩, (Weak.base hB (by repeat (first | exact Over.refl _ | exact hov | refine Over.upd ?_ hB (by omega) | refine Over.del ?_ hB (by omega))) (by simp [LT, get, nms, nmss]; try (simp [nms, nmss] at hn; simp_all)))⟩ ?_
    rintro n τ σ' M ⟨i, m, hi, rfl, hm0, hm1, hf, rfl, rfl, rfl⟩
    by_cases hlt : i < ds.length
    · obtain ⟨_, rfl, kb, hkb, hat⟩ := hx'.at (i := i) (by rw [rowsD_len]; exact hlt)
      have hrow : (rowsD ds)[i]'(by rw [rowsD_len]; exact hlt) = [.v (.string ds[i].1), .v (.int .i64 ds[i].2)] := by simp [rowsD, rowD]
      rw [hrow] at hat
      have hmem : ds[i] ∈ ds := List.getElem_mem hlt
      rw [List.drop_eq_getElem_cons hlt] at hf
      simp only [szF] at hf
      repeat' (first
        | refine AWP.seq ?_
        | refine AWP.block ?_
        | (refine AWP.skip ?_; simp only [thenA, blockA, reduceIte])
        | (refine AWP.exit ?_; simp only [thenA, blockA, eq_self, reduceIte, Nat.reduceEqDiff, Nat.succ_ne_zero])
        | (refine AWP.ret ?_; simp only [thenA, blockA, reduceIte])
        | (refine AWP.region (by rfl) (fun KK hKK => ?_); (repeat (simp (disch := omega) [hlt, hkb, hat])); first | (refine hKK _ _ _ ?_; clear hKK KK; simp only [thenA, blockA, reduceIte]) | skip)
        | (refine AWP.if_t ?_ ?_; focus (simp (disch := omega) [hlt, hkb, hat]; done))
        | (refine AWP.if_f ?_ ?_; focus (simp (disch := omega) [hlt, hkb, hat]; done)))
      refine aStop_of (szDef_c _ _ _ _ m (hsz _ hmem) (by omega)) ?_
      rintro r δ ⟨rfl, rfl⟩
      (repeat (simp (disch := omega) []))
      first | (refine hKK _ _ _ ?_; clear hKK KK; simp only [thenA, blockA, reduceIte]) | skip
      by_cases h1 : m - ds[i].1.size < 0
      · rw [if_pos h1] at hf
        repeat' (first
          | refine AWP.seq ?_
          | refine AWP.block ?_
          | (refine AWP.skip ?_; simp only [thenA, blockA, reduceIte])
          | (refine AWP.exit ?_; simp only [thenA, blockA, eq_self, reduceIte, Nat.reduceEqDiff, Nat.succ_ne_zero])
          | (refine AWP.ret ?_; simp only [thenA, blockA, reduceIte])
          | (refine AWP.region (by rfl) (fun KK hKK => ?_); (repeat (simp (disch := omega) [h1])); first | (refine hKK _ _ _ ?_; clear hKK KK; simp only [thenA, blockA, reduceIte]) | skip)
          | (refine AWP.if_t ?_ ?_; focus (simp (disch := omega) [h1]; done))
          | (refine AWP.if_f ?_ ?_; focus (simp (disch := omega) [h1]; done)))
        refine ⟨by simp, _, rfl, fin0 ⟨?_, rfl⟩ (by simp [resO, get, nms, nmss]; try (simp [nms, nmss] at hn; simp_all))⟩
        simp [resO, get, ren, rens, szL, h0, ← hf]
      · rw [if_neg h1] at hf
        repeat' (first
          | refine AWP.seq ?_
          | refine AWP.block ?_
          | (refine AWP.skip ?_; simp only [thenA, blockA, reduceIte])
          | (refine AWP.exit ?_; simp only [thenA, blockA, eq_self, reduceIte, Nat.reduceEqDiff, Nat.succ_ne_zero])
          | (refine AWP.ret ?_; simp only [thenA, blockA, reduceIte])
          | (refine AWP.region (by rfl) (fun KK hKK => ?_); (repeat (simp (disch := omega) [h1])); first | (refine hKK _ _ _ ?_; clear hKK KK; simp only [thenA, blockA, reduceIte]) | skip)
          | (refine AWP.if_t ?_ ?_; focus (simp (disch := omega) [h1]; done))
          | (refine AWP.if_f ?_ ?_; focus (simp (disch := omega) [h1]; done)))
        refine ⟨_, _, _, _, ?_, ⟨i + 1, m - ds[i].1.size, by omega, rfl, by omega, by omega, hf, rfl, rfl, rfl⟩, (Weak.base hB (by repeat (first | exact Over.refl _ | exact hov | refine Over.upd ?_ hB (by omega) | refine Over.del ?_ hB (by omega))) (by simp [LT, get, nms, nmss]; try (simp [nms, nmss] at hn; simp_all)))⟩
        omega
    · have hk' : i = ds.length := by omega
      subst hk'
      rw [List.drop_length] at hf
      repeat' (first
        | refine AWP.seq ?_
        | refine AWP.block ?_
        | (refine AWP.skip ?_; simp only [thenA, blockA, reduceIte])
        | (refine AWP.exit ?_; simp only [thenA, blockA, eq_self, reduceIte, Nat.reduceEqDiff, Nat.succ_ne_zero])
        | (refine AWP.ret ?_; simp only [thenA, blockA, reduceIte])
        | (refine AWP.region (by rfl) (fun KK hKK => ?_); (repeat (simp (disch := omega) [])); first | (refine hKK _ _ _ ?_; clear hKK KK; simp only [thenA, blockA, reduceIte]) | skip)
        | (refine AWP.if_t ?_ ?_; focus (simp (disch := omega) []; done))
        | (refine AWP.if_f ?_ ?_; focus (simp (disch := omega) []; done)))
      refine ⟨by simp, _, rfl, fin0 ⟨?_, rfl⟩ (by simp [resO, get, nms, nmss]; try (simp [nms, nmss] at hn; simp_all))⟩
      simp [resO, get, ren, rens, szL, h0, ← hf, szF]

set_option maxRecDepth 10000 in
set_option maxHeartbeats 400000 in
theorem szEnum_c (σ : Sto) (ν : Nat) (x : AV) (ds : List Df) (k : Int) (hx : Sl σ x 2 (rowsD ds)) (hlen : ds.length ≤ 9223372036854775807) (hsz : ∀ d ∈ ds, d.1.size ≤ 9223372036854775807) (hk : 0 ≤ k ∧ k ≤ 4294967296) :
    AC Try.prog 22 [.agg [x], .v (.int .i64 k)] σ ν fun r δ => r = .v (.int .i64 (if szL ds k < 0 then -1 else szL ds k)) ∧ δ = noS := by
  obtain ⟨b, o, cap, z, rfl⟩ := hx.out
  refine AC.intro [] ent_22 Try.func22 rfl (by simp [Try.f22]) (by simp) ?_
  intro K s hs hB hn hν hA hFr
  simp only [argT, Nat.zero_add, Nat.reduceAdd]
  have hx' := hx.vw hs.vw
  repeat' (first
    | refine AWP.seq ?_
    | refine AWP.block ?_
    | (refine AWP.skip ?_; simp only [thenA, blockA, reduceIte])
    | (refine AWP.exit ?_; simp only [thenA, blockA, eq_self, reduceIte, Nat.reduceEqDiff, Nat.succ_ne_zero])
    | (refine AWP.ret ?_; simp only [thenA, blockA, reduceIte])
    | (refine AWP.region (by rfl) (fun KK hKK => ?_); (repeat (simp (disch := omega) [])); first | (refine hKK _ _ _ ?_; clear hKK KK; simp only [thenA, blockA, reduceIte]) | skip)
    | (refine AWP.if_t ?_ ?_; focus (simp (disch := omega) []; done))
    | (refine AWP.if_f ?_ ?_; focus (simp (disch := omega) []; done)))
  refine aStop_of (szDefS_c _ _ _ ds k (hx'.vw ((Vw.refl _).over (by repeat (first | exact Over.refl _ | exact hov | refine Over.upd ?_ hB (by omega) | refine Over.del ?_ hB (by omega))))) hlen hsz hk) ?_
  rintro r δ ⟨rfl, rfl⟩
  (repeat (simp (disch := omega) []))
  first | (refine hKK _ _ _ ?_; clear hKK KK; simp only [thenA, blockA, reduceIte]) | skip
  by_cases h : szL ds k < 0
  · repeat' (first
      | refine AWP.seq ?_
      | refine AWP.block ?_
      | (refine AWP.skip ?_; simp only [thenA, blockA, reduceIte])
      | (refine AWP.exit ?_; simp only [thenA, blockA, eq_self, reduceIte, Nat.reduceEqDiff, Nat.succ_ne_zero])
      | (refine AWP.ret ?_; simp only [thenA, blockA, reduceIte])
      | (refine AWP.region (by rfl) (fun KK hKK => ?_); (repeat (simp (disch := omega) [h])); first | (refine hKK _ _ _ ?_; clear hKK KK; simp only [thenA, blockA, reduceIte]) | skip)
      | (refine AWP.if_t ?_ ?_; focus (simp (disch := omega) [h]; done))
      | (refine AWP.if_f ?_ ?_; focus (simp (disch := omega) [h]; done)))
    refine ⟨by simp, _, rfl, fin0 ⟨?_, rfl⟩ (by simp [resO, get, nms, nmss]; try (simp [nms, nmss] at hn; simp_all))⟩
    simp [resO, get, ren, rens, h]
  · repeat' (first
      | refine AWP.seq ?_
      | refine AWP.block ?_
      | (refine AWP.skip ?_; simp only [thenA, blockA, reduceIte])
      | (refine AWP.exit ?_; simp only [thenA, blockA, eq_self, reduceIte, Nat.reduceEqDiff, Nat.succ_ne_zero])
      | (refine AWP.ret ?_; simp only [thenA, blockA, reduceIte])
      | (refine AWP.region (by rfl) (fun KK hKK => ?_); (repeat (simp (disch := omega) [h])); first | (refine hKK _ _ _ ?_; clear hKK KK; simp only [thenA, blockA, reduceIte]) | skip)
      | (refine AWP.if_t ?_ ?_; focus (simp (disch := omega) [h]; done))
      | (refine AWP.if_f ?_ ?_; focus (simp (disch := omega) [h]; done)))
    refine ⟨by simp, _, rfl, fin0 ⟨?_, rfl⟩ (by simp [resO, get, nms, nmss]; try (simp [nms, nmss] at hn; simp_all))⟩
    simp [resO, get, ren, rens, h]
end Go.Proofs.Ytgaiemhbllbaiaa
namespace Go.Proofs.Ytgaiemhbllbaiaa
open Go Go.RowKit

abbrev zeroD : List AV := [.v (.string ByteArray.empty), .v (.int .i64 0)]
def fillD (ds : List Df) (k : Nat) : List (List AV) := rowsD (ds.take k) ++ List.replicate (ds.length - k) zeroD
theorem fillD_at (ds : List Df) (k : Nat) (h : k < ds.length) : (fillD ds k)[k]? = some zeroD := by
  unfold fillD
  rw [List.getElem?_append_right (by simp [rowsD]; omega)]
  rw [List.getElem?_replicate, if_pos (by simp [rowsD]; omega)]
theorem fillD_set (ds : List Df) (k : Nat) (h : k < ds.length) : (fillD ds k).set k [.v (.string ds[k].1), .v (.int .i64 ds[k].2)] = fillD ds (k + 1) := by
  unfold fillD
  rw [List.set_append_right _ _ (by simp [rowsD]; omega)]
  have e : ds.length - k = (ds.length - (k + 1)) + 1 := by omega
  have e2 : k - (rowsD (ds.take k)).length = 0 := by simp [rowsD]; omega
  rw [e2, e, List.replicate_succ, List.set_cons_zero]
  rw [List.take_succ_eq_append_getElem h]
  simp only [rowsD, List.map_append, List.map_cons, List.map_nil, List.append_assoc, List.cons_append, List.nil_append, rowD]
theorem fillD_flat (ds : List Df) (k t : Nat) : flatB ⟨t, 2, fillD ds k, true⟩ := by
  intro e he v hv
  simp only [fillD] at he
  rcases List.mem_append.1 he with he | he
  · exact flatD _ e he v hv
  · rw [(List.mem_replicate.1 he).2] at hv
    simp at hv
    rcases hv with rfl | rfl <;> rfl

set_option maxRecDepth 10000 in
set_option maxHeartbeats 1000000 in
theorem toDefS_c (σ : Sto) (ν : Nat) (x : AV) (ds : List Df) (hx : Sl σ x 2 (rowsD ds)) (hlen : ds.length ≤ 4294967296) :
    AC Try.prog 62 [x] σ ν fun r δ => r = .sl ν 0 ds.length (some ds.length) 2 ∧ δ = upd noS ν (blkD ds) := by
  obtain ⟨b, o, cap, z, rfl⟩ := hx.out
  simp only [rowsD_len] at hx ⊢
  refine AC.intro [] ent_62 Try.func62 rfl (by simp [Try.f62]) (by simp) ?_
  intro K s hs hB hn hν hA hFr
  simp only [argT, Nat.zero_add, Nat.reduceAdd]
  have hx' := hx.vw hs.vw
  have hbK : b < K := hA b (by simp [nmAs, nmA])
  have hb1 : ¬ b = K := by omega
  have hbig : 24 * ds.length ≤ 140737488355328 := by omega
  have hbig2 : ds.length ≤ 4611686018427387904 := by omega
  repeat' (first
    | refine AWP.seq ?_
    | refine AWP.block ?_
    | (refine AWP.skip ?_; simp only [thenA, blockA, reduceIte])
    | (refine AWP.exit ?_; simp only [thenA, blockA, eq_self, reduceIte, Nat.reduceEqDiff, Nat.succ_ne_zero])
    | (refine AWP.ret ?_; simp only [thenA, blockA, reduceIte])
    | (refine AWP.region (by rfl) (fun KK hKK => ?_); (repeat (simp (disch := omega) [hbig, hbig2])); first | (refine hKK _ _ _ ?_; clear hKK KK; simp only [thenA, blockA, reduceIte]) | skip)
    | (refine AWP.if_t ?_ ?_; focus (simp (disch := omega) [hbig, hbig2]; done))
    | (refine AWP.if_f ?_ ?_; focus (simp (disch := omega) [hbig, hbig2]; done)))
  refine AWP.loop (fun n τ σ' M => ∃ k : Nat, k ≤ ds.length ∧ n = ds.length - k ∧ τ = [(0, .sl b o ds.length cap z), (3, .sl K 0 ds.length (some ds.length) 2), (4, .v (.int .i64 k))] ∧ σ' = upd s K ⟨34, 2, fillD ds k, true⟩ ∧ M = K + 1) ⟨_, _, _, _, ⟨0, by omega, rfl, rfl, rfl, rfl⟩, Weak.keep (c := K) (k0 := ⟨34, 2, List.replicate ds.length zeroD, true⟩) hB (by repeat (first | exact Over.refl _ | exact hov | refine Over.upd ?_ hB (by omega) | refine Over.del ?_ hB (by omega))) (by simp) (by simp [fillD, rowsD]) (fillD_flat ds 0 _) (.inl rfl) (by simp [LeT, ren, swl, nms, hb1]; omega)⟩ ?_
  rintro n τ σ' M ⟨k, hk, rfl, rfl, rfl, rfl⟩
  by_cases hlt : k < ds.length
  · obtain ⟨_, rfl, kb, hkb, hat⟩ := hx'.at (i := k) (by rw [rowsD_len]; exact hlt)
    have hrow : (rowsD ds)[k]'(by rw [rowsD_len]; exact hlt) = [.v (.string ds[k].1), .v (.int .i64 ds[k].2)] := by simp [rowsD, rowD]
    rw [hrow] at hat
    have hz := fillD_at ds k hlt
    have hset := fillD_set ds k hlt
    repeat' (first
      | refine AWP.seq ?_
      | refine AWP.block ?_
      | (refine AWP.skip ?_; simp only [thenA, blockA, reduceIte])
      | (refine AWP.exit ?_; simp only [thenA, blockA, eq_self, reduceIte, Nat.reduceEqDiff, Nat.succ_ne_zero])
      | (refine AWP.ret ?_; simp only [thenA, blockA, reduceIte])
      | (refine AWP.region (by rfl) (fun KK hKK => ?_); (repeat (simp (disch := omega) [hlt, hkb, hat])); first | (refine hKK _ _ _ ?_; clear hKK KK; simp only [thenA, blockA, reduceIte]) | skip)
      | (refine AWP.if_t ?_ ?_; focus (simp (disch := omega) [hlt, hkb, hat]; done))
      | (refine AWP.if_f ?_ ?_; focus (simp (disch := omega) [hlt, hkb, hat]; done)))
    refine aStop_of (toDef_c _ _ _ _) ?_
    rintro r δ ⟨rfl, rfl⟩
    (repeat (simp (disch := omega) [hlt, hz, hset]))
    first | (refine hKK _ _ _ ?_; clear hKK KK; simp only [thenA, blockA, reduceIte]) | skip
    repeat' (first
      | refine AWP.seq ?_
      | refine AWP.block ?_
      | (refine AWP.skip ?_; simp only [thenA, blockA, reduceIte])
      | (refine AWP.exit ?_; simp only [thenA, blockA, eq_self, reduceIte, Nat.reduceEqDiff, Nat.succ_ne_zero])
      | (refine AWP.ret ?_; simp only [thenA, blockA, reduceIte])
      | (refine AWP.region (by rfl) (fun KK hKK => ?_); (repeat (simp (disch := omega) [])); first | (refine hKK _ _ _ ?_; clear hKK KK; simp only [thenA, blockA, reduceIte]) | skip)
      | (refine AWP.if_t ?_ ?_; focus (simp (disch := omega) []; done))
      | (refine AWP.if_f ?_ ?_; focus (simp (disch := omega) []; done)))
    refine ⟨_, _, _, _, ?_, ⟨k + 1, by omega, rfl, rfl, rfl, rfl⟩, Weak.keep (c := K) hB (by repeat (first | exact Over.refl _ | exact hov | refine Over.upd ?_ hB (by omega) | refine Over.del ?_ hB (by omega))) (upd_eq _ _ _) rfl (fillD_flat ds (k + 1) _) (.inl rfl) (by simp [LeT, ren, swl, nms, hb1]; omega)⟩
    omega
  · have hk' : k = ds.length := by omega
    subst hk'
    repeat' (first
      | refine AWP.seq ?_
      | refine AWP.block ?_
      | (refine AWP.skip ?_; simp only [thenA, blockA, reduceIte])
      | (refine AWP.exit ?_; simp only [thenA, blockA, eq_self, reduceIte, Nat.reduceEqDiff, Nat.succ_ne_zero])
      | (refine AWP.ret ?_; simp only [thenA, blockA, reduceIte])
      | (refine AWP.region (by rfl) (fun KK hKK => ?_); (repeat (simp (disch := omega) [])); first | (refine hKK _ _ _ ?_; clear hKK KK; simp only [thenA, blockA, reduceIte]) | skip)
      | (refine AWP.if_t ?_ ?_; focus (simp (disch := omega) []; done))
      | (refine AWP.if_f ?_ ?_; focus (simp (disch := omega) []; done)))
    refine ⟨by simp, _, rfl, fin1 (K) (blkD ds) (by simp (disch := omega) [fillD]) rfl (flatD ds) ⟨?_, rfl⟩ (by omega) (by simp [resO, get, nms, nmss])⟩
    simp [resO, get, ren, rens, rho, fillD]
end Go.Proofs.Ytgaiemhbllbaiaa
namespace Go.Proofs.Ytgaiemhbllbaiaa
open Go Go.RowKit

set_option maxRecDepth 10000 in
set_option maxHeartbeats 400000 in
theorem toEnum_c (σ : Sto) (ν : Nat) (x : AV) (ds : List Df) (hx : Sl σ x 2 (rowsD ds)) (hlen : ds.length ≤ 4294967296) :
    AC Try.prog 23 [.agg [x]] σ ν fun r δ => r = .agg [.sl ν 0 ds.length (some ds.length) 2] ∧ δ = upd noS ν (blkD ds) := by
  obtain ⟨b, o, cap, z, rfl⟩ := hx.out
  refine AC.intro [] ent_23 Try.func23 rfl (by simp [Try.f23]) (by simp) ?_
  intro K s hs hB hn hν hA hFr
  simp only [argT, Nat.zero_add, Nat.reduceAdd]
  have hx' := hx.vw hs.vw
  repeat' (first
    | refine AWP.seq ?_
    | refine AWP.block ?_
    | (refine AWP.skip ?_; simp only [thenA, blockA, reduceIte])
    | (refine AWP.exit ?_; simp only [thenA, blockA, eq_self, reduceIte, Nat.reduceEqDiff, Nat.succ_ne_zero])
    | (refine AWP.ret ?_; simp only [thenA, blockA, reduceIte])
    | (refine AWP.region (by rfl) (fun KK hKK => ?_); (repeat (simp (disch := omega) [])); first | (refine hKK _ _ _ ?_; clear hKK KK; simp only [thenA, blockA, reduceIte]) | skip)
    | (refine AWP.if_t ?_ ?_; focus (simp (disch := omega) []; done))
    | (refine AWP.if_f ?_ ?_; focus (simp (disch := omega) []; done)))
  refine aStop_of (toDefS_c _ _ _ ds (hx'.vw ((Vw.refl _).over (by repeat (first | exact Over.refl _ | exact hov | refine Over.upd ?_ hB (by omega) | refine Over.del ?_ hB (by omega))))) hlen) ?_
  rintro r δ ⟨rfl, rfl⟩
  (repeat (simp (disch := omega) []))
  first | (refine hKK _ _ _ ?_; clear hKK KK; simp only [thenA, blockA, reduceIte]) | skip
  repeat' (first
    | refine AWP.seq ?_
    | refine AWP.block ?_
    | (refine AWP.skip ?_; simp only [thenA, blockA, reduceIte])
    | (refine AWP.exit ?_; simp only [thenA, blockA, eq_self, reduceIte, Nat.reduceEqDiff, Nat.succ_ne_zero])
    | (refine AWP.ret ?_; simp only [thenA, blockA, reduceIte])
    | (refine AWP.region (by rfl) (fun KK hKK => ?_); (repeat (simp (disch := omega) [])); first | (refine hKK _ _ _ ?_; clear hKK KK; simp only [thenA, blockA, reduceIte]) | skip)
    | (refine AWP.if_t ?_ ?_; focus (simp (disch := omega) []; done))
    | (refine AWP.if_f ?_ ?_; focus (simp (disch := omega) []; done)))
  refine ⟨by simp, ?_⟩
  have hres : Try.f23.results.toList = [.cell 2 25] := rfl
  rw [hres]
  simp (disch := omega) []
  refine fin1 (K + 1 + 1 + 1) (blkD ds) (by simp (disch := omega)) rfl (flatD _) ⟨?_, rfl⟩ (by omega) (by simp [resO, nms, nmss])
  simp [resO, ren, rens, rho]

/-- One digit; the digits of a number, ahead of what is there. -/
def dg (m : Int) : ByteArray := strOf [IntKind.u8.wrap (IntKind.i64.wrap (48 + m.tmod 10))]
theorem dg_size (m : Int) : (dg m).size = 1 := rfl
def mD : Nat → Int → ByteArray → ByteArray
  | 0, _, out => out
  | f + 1, m, out => if 0 < m then mD f (m.tdiv 10) (dg m ++ out) else out
def mT (k : Int) : ByteArray := if k ≤ 0 then ⟨#[109, 48]⟩ else ⟨#[109]⟩ ++ mD 20 k ⟨#[]⟩

set_option maxRecDepth 10000 in
set_option maxHeartbeats 400000 in
theorem markText_c (σ : Sto) (ν : Nat) (k : Int) (hk : k ≤ 9223372036854775807) : AC Try.prog 66 [.v (.int .i64 k)] σ ν fun r δ => r = .v (.string (mT k)) ∧ δ = noS := by
  refine AC.intro [] ent_66 Try.func66 rfl (by simp [Try.f66]) (by simp) ?_
  intro K s hs hB hn hν hA hFr
  simp only [argT, Nat.zero_add, Nat.reduceAdd]
  by_cases h0 : k ≤ 0
  · repeat' (first
      | refine AWP.seq ?_
      | refine AWP.block ?_
      | (refine AWP.skip ?_; simp only [thenA, blockA, reduceIte])
      | (refine AWP.exit ?_; simp only [thenA, blockA, eq_self, reduceIte, Nat.reduceEqDiff, Nat.succ_ne_zero])
      | (refine AWP.ret ?_; simp only [thenA, blockA, reduceIte])
      | (refine AWP.region (by rfl) (fun KK hKK => ?_); (repeat (simp (disch := omega) [h0])); first | (refine hKK _ _ _ ?_; clear hKK KK; simp only [thenA, blockA, reduceIte]) | skip)
      | (refine AWP.if_t ?_ ?_; focus (simp (disch := omega) [h0]; done))
      | (refine AWP.if_f ?_ ?_; focus (simp (disch := omega) [h0]; done)))
    refine ⟨by simp, _, rfl, fin0 ⟨?_, rfl⟩ (by simp [resO, get, nms, nmss]; try (simp [nms, nmss] at hn; simp_all))⟩
    simp [resO, get, ren, rens, mT, h0]
  · repeat' (first
      | refine AWP.seq ?_
      | refine AWP.block ?_
      | (refine AWP.skip ?_; simp only [thenA, blockA, reduceIte])
      | (refine AWP.exit ?_; simp only [thenA, blockA, eq_self, reduceIte, Nat.reduceEqDiff, Nat.succ_ne_zero])
      | (refine AWP.ret ?_; simp only [thenA, blockA, reduceIte])
      | (refine AWP.region (by rfl) (fun KK hKK => ?_); (repeat (simp (disch := omega) [h0])); first | (refine hKK _ _ _ ?_; clear hKK KK; simp only [thenA, blockA, reduceIte]) | skip)
      | (refine AWP.if_t ?_ ?_; focus (simp (disch := omega) [h0]; done))
      | (refine AWP.if_f ?_ ?_; focus (simp (disch := omega) [h0]; done)))
    refine AWP.loop (fun n τ σ' M => ∃ (m : Int) (out : ByteArray) (f : Nat), 0 ≤ m ∧ m ≤ 9223372036854775807 ∧ m < 10 ^ f ∧ f + out.size ≤ 20 ∧ mD f m out = mD 20 k ⟨#[]⟩ ∧ n = m.toNat ∧ τ = [(0, .v (.int .i64 m)), (3, .v (.string out))] ∧ σ' = s ∧ M = K) ⟨_, _, _, _, ⟨k, ⟨#[]⟩, 20, by omega, hk, by omega, by decide, rfl, rfl, rfl, rfl, rfl⟩, (Weak.base hB (by repeat (first | exact Over.refl _ | exact hov | refine Over.upd ?_ hB (by omega) | refine Over.del ?_ hB (by omega))) (by simp [LT, get, nms, nmss]; try (simp [nms, nmss] at hn; simp_all)))⟩ ?_
    rintro n τ σ' M ⟨m, out, f, hm, hmb, hmf, hof, hmd, rfl, rfl, rfl, rfl⟩
    by_cases h1 : 0 < m
    · obtain ⟨f, rfl⟩ : ∃ g, f = g + 1 := by
        cases f with
        | zero => exact absurd hmf (by simp; omega)
        | succ g => exact ⟨g, rfl⟩
      simp only [mD, if_pos h1] at hmd
      have e : strOf [IntKind.u8.wrap (IntKind.i64.wrap (48 + m.tmod 10))] = dg m := rfl
      have hs1 : (dg m).size + out.size ≤ 9223372036854775807 := by rw [dg_size]; omega
      have hs2 : (dg m ++ out).size = 1 + out.size := by rw [ByteArray.size_append, dg_size]
      have hdiv : m.tdiv 10 = m / 10 := Int.tdiv_eq_ediv_of_nonneg hm
      have hw : IntKind.i64.wrap (m.tdiv 10) = m.tdiv 10 := w64 _ (by rw [hdiv]; omega) (by rw [hdiv]; omega)
      repeat' (first
        | refine AWP.seq ?_
        | refine AWP.block ?_
        | (refine AWP.skip ?_; simp only [thenA, blockA, reduceIte])
        | (refine AWP.exit ?_; simp only [thenA, blockA, eq_self, reduceIte, Nat.reduceEqDiff, Nat.succ_ne_zero])
        | (refine AWP.ret ?_; simp only [thenA, blockA, reduceIte])
        | (refine AWP.region (by rfl) (fun KK hKK => ?_); (repeat (simp (disch := omega) [h1, elems, e, hs1, hw])); first | (refine hKK _ _ _ ?_; clear hKK KK; simp only [thenA, blockA, reduceIte]) | skip)
        | (refine AWP.if_t ?_ ?_; focus (simp (disch := omega) [h1, elems, e, hs1, hw]; done))
        | (refine AWP.if_f ?_ ?_; focus (simp (disch := omega) [h1, elems, e, hs1, hw]; done)))
      refine ⟨_, _, _, _, ?_, ⟨m.tdiv 10, dg m ++ out, f, by rw [hdiv]; omega, by rw [hdiv]; omega, by rw [hdiv]; rw [Int.pow_succ] at hmf; omega, by omega, hmd, rfl, rfl, rfl, rfl⟩, Weak.base hB (by repeat (first | exact Over.refl _ | exact hov | refine Over.upd ?_ hB (by omega) | refine Over.del ?_ hB (by omega))) (by simp [LT, get, nms])⟩
      rw [hdiv]; omega
    · have hm0 : m = 0 := by omega
      subst hm0
      have hout : out = mD 20 k ⟨#[]⟩ := by
        rw [← hmd]
        cases f <;> simp [mD]
      have hs3 : (⟨#[109]⟩ : ByteArray).size + out.size ≤ 9223372036854775807 := by show 1 + _ ≤ _; omega
      repeat' (first
        | refine AWP.seq ?_
        | refine AWP.block ?_
        | (refine AWP.skip ?_; simp only [thenA, blockA, reduceIte])
        | (refine AWP.exit ?_; simp only [thenA, blockA, eq_self, reduceIte, Nat.reduceEqDiff, Nat.succ_ne_zero])
        | (refine AWP.ret ?_; simp only [thenA, blockA, reduceIte])
        | (refine AWP.region (by rfl) (fun KK hKK => ?_); (repeat (simp (disch := omega) [hs3])); first | (refine hKK _ _ _ ?_; clear hKK KK; simp only [thenA, blockA, reduceIte]) | skip)
        | (refine AWP.if_t ?_ ?_; focus (simp (disch := omega) [hs3]; done))
        | (refine AWP.if_f ?_ ?_; focus (simp (disch := omega) [hs3]; done)))
      refine ⟨by simp, _, rfl, fin0 ⟨?_, rfl⟩ (by simp [resO, get, nms, nmss]; try (simp [nms, nmss] at hn; simp_all))⟩
      simp [resO, get, ren, rens, mT, h0, ← hout]
end Go.Proofs.Ytgaiemhbllbaiaa
namespace Go.Proofs.Ytgaiemhbllbaiaa
open Go Go.RowKit

def mkL (n : Nat) (k : Int) : List Df := (List.range n).map fun i : Nat => (mT (k + 2 * (i : Int)), k + 2 * (i : Int) + 1)
theorem mkL_len (n : Nat) (k : Int) : (mkL n k).length = n := by simp [mkL]
theorem mkL_succ (n : Nat) (k : Int) : mkL (n + 1) k = mkL n k ++ [(mT (k + 2 * n), k + 2 * n + 1)] := by simp [mkL, List.range_succ]
theorem mkL_get (n : Nat) (k : Int) (i : Nat) (h : i < (mkL n k).length) : (mkL n k)[i] = (mT (k + 2 * i), k + 2 * i + 1) := by simp [mkL]
def rowsM (ds : List Df) (k : Int) (i : Nat) : List (List AV) := rowsD (mkL i k ++ ds.drop i)
theorem rowsM_at (ds : List Df) (k : Int) (i : Nat) (h : i < ds.length) : (rowsM ds k i)[i]? = some [.v (.string ds[i].1), .v (.int .i64 ds[i].2)] := by
  unfold rowsM rowsD
  rw [List.getElem?_map, List.getElem?_append_right (by rw [mkL_len]; omega), mkL_len]
  simp [rowD, List.getElem?_eq_getElem h]
theorem rowsM_set (ds : List Df) (k : Int) (i : Nat) (h : i < ds.length) : (rowsM ds k i).set i [.v (.string (mT (k + 2 * i))), .v (.int .i64 (k + 2 * i + 1))] = rowsM ds k (i + 1) := by
  unfold rowsM rowsD
  rw [mkL_succ, List.drop_eq_getElem_cons h, List.map_append, List.set_append_right _ _ (by simp [mkL_len])]
  simp only [List.length_map, mkL_len, Nat.sub_self, List.map_cons, List.set_cons_zero, List.map_append, List.append_assoc, List.cons_append, List.nil_append, List.map_nil, rowD]
theorem rowsM_flat (ds : List Df) (k : Int) (i : Nat) : flatB ⟨34, 2, rowsM ds k i, true⟩ := flatD _
theorem rowsM_len (ds : List Df) (k : Int) (i : Nat) (h : i ≤ ds.length) : (rowsM ds k i).length = ds.length := by simp [rowsM, rowsD, mkL_len]; omega

set_option maxRecDepth 10000 in
set_option maxHeartbeats 1000000 in
theorem markDefS_c (σ : Sto) (ν : Nat) (b : Nat) (cap : Option Nat) (ds : List Df) (k : Int) (hb : σ b = some (blkD ds)) (hlen : ds.length ≤ 4294967296) (hk : 0 ≤ k ∧ k ≤ 4294967296) :
    AC Try.prog 65 [.sl b 0 ds.length cap 2, .v (.int .i64 k)] σ ν fun r δ => r = .v (.int .i64 (k + 2 * ds.length)) ∧ δ = upd noS b (blkD (mkL ds.length k)) := by
  refine AC.intro [b] ent_65 Try.func65 rfl (by simp [Try.f65]) (by simp [hb]) ?_
  intro K s hs hB hn hν hA hFr
  simp only [argT, Nat.zero_add, Nat.reduceAdd]
  have hsb : s b = some (blkD ds) := by rw [hs b, hb]; simp
  have hbK : b < K := hA b (by simp [nmAs, nmA])
  have hb1 : ¬ b = K := by omega
  have hk0 := hk.1
  have hk1 := hk.2
  repeat' (first
    | refine AWP.seq ?_
    | refine AWP.block ?_
    | (refine AWP.skip ?_; simp only [thenA, blockA, reduceIte])
    | (refine AWP.exit ?_; simp only [thenA, blockA, eq_self, reduceIte, Nat.reduceEqDiff, Nat.succ_ne_zero])
    | (refine AWP.ret ?_; simp only [thenA, blockA, reduceIte])
    | (refine AWP.region (by rfl) (fun KK hKK => ?_); (repeat (simp (disch := omega) [])); first | (refine hKK _ _ _ ?_; clear hKK KK; simp only [thenA, blockA, reduceIte]) | skip)
    | (refine AWP.if_t ?_ ?_; focus (simp (disch := omega) []; done))
    | (refine AWP.if_f ?_ ?_; focus (simp (disch := omega) []; done)))
  refine AWP.loop (fun n τ σ' M => ∃ i : Nat, i ≤ ds.length ∧ n = ds.length - i ∧ τ = [(0, .sl b 0 ds.length cap 2), (1, .v (.int .i64 (k + 2 * i))), (5, .v (.int .i64 i))] ∧ σ' = upd s b ⟨34, 2, rowsM ds k i, true⟩ ∧ M = K) ⟨_, _, _, _, ⟨0, by omega, rfl, rfl, rfl, rfl⟩, Weak.mod hB hbK (fun c kc hc h => h) (by rw [hsb]; simp [rowsM, mkL]) (rowsM_flat ds k 0) (by simp [LT, get, nms]; omega)⟩ ?_
  rintro n τ σ' M ⟨i, hi, rfl, rfl, rfl, rfl⟩
  by_cases hlt : i < ds.length
  · have h1 := rowsM_at ds k i hlt
    have h2 := rowsM_set ds k i hlt
    have h3 : ((rowsM ds k i).set i [.v (.string (mT (k + 2 * i))), .v (.int .i64 ds[i].2)])[i]? = some [.v (.string (mT (k + 2 * i))), .v (.int .i64 ds[i].2)] := by
      rw [List.getElem?_set_self (by rw [rowsM_len ds k i (by omega)]; exact hlt)]
    repeat' (first
      | refine AWP.seq ?_
      | refine AWP.block ?_
      | (refine AWP.skip ?_; simp only [thenA, blockA, reduceIte])
      | (refine AWP.exit ?_; simp only [thenA, blockA, eq_self, reduceIte, Nat.reduceEqDiff, Nat.succ_ne_zero])
      | (refine AWP.ret ?_; simp only [thenA, blockA, reduceIte])
      | (refine AWP.region (by rfl) (fun KK hKK => ?_); (repeat (simp (disch := omega) [hlt])); first | (refine hKK _ _ _ ?_; clear hKK KK; simp only [thenA, blockA, reduceIte]) | skip)
      | (refine AWP.if_t ?_ ?_; focus (simp (disch := omega) [hlt]; done))
      | (refine AWP.if_f ?_ ?_; focus (simp (disch := omega) [hlt]; done)))
    refine aStop_of (markText_c _ _ _ (by omega)) ?_
    rintro r δ ⟨rfl, rfl⟩
    (repeat (simp (disch := omega) [hlt, h1]))
    first | (refine hKK _ _ _ ?_; clear hKK KK; simp only [thenA, blockA, reduceIte]) | skip
    repeat' (first
      | refine AWP.seq ?_
      | refine AWP.block ?_
      | (refine AWP.skip ?_; simp only [thenA, blockA, reduceIte])
      | (refine AWP.exit ?_; simp only [thenA, blockA, eq_self, reduceIte, Nat.reduceEqDiff, Nat.succ_ne_zero])
      | (refine AWP.ret ?_; simp only [thenA, blockA, reduceIte])
      | (refine AWP.region (by rfl) (fun KK hKK => ?_); (repeat (simp (disch := omega) [hlt, h3])); first | (refine hKK _ _ _ ?_; clear hKK KK; simp only [thenA, blockA, reduceIte]) | skip)
      | (refine AWP.if_t ?_ ?_; focus (simp (disch := omega) [hlt, h3]; done))
      | (refine AWP.if_f ?_ ?_; focus (simp (disch := omega) [hlt, h3]; done)))
    refine ⟨_, _, _, _, ?_, ⟨i + 1, by omega, rfl, rfl, rfl, rfl⟩, Weak.mod hB hbK (fun c kc hc h => by simp [upd, hc, h]) (by simp [h2]) (rowsM_flat ds k (i + 1)) (by simp [LT, get, nms]; omega)⟩
    omega
  · have hi' : i = ds.length := by omega
    subst hi'
    have h4 : rowsM ds k ds.length = rowsD (mkL ds.length k) := by simp [rowsM]
    repeat' (first
      | refine AWP.seq ?_
      | refine AWP.block ?_
      | (refine AWP.skip ?_; simp only [thenA, blockA, reduceIte])
      | (refine AWP.exit ?_; simp only [thenA, blockA, eq_self, reduceIte, Nat.reduceEqDiff, Nat.succ_ne_zero])
      | (refine AWP.ret ?_; simp only [thenA, blockA, reduceIte])
      | (refine AWP.region (by rfl) (fun KK hKK => ?_); (repeat (simp (disch := omega) [])); first | (refine hKK _ _ _ ?_; clear hKK KK; simp only [thenA, blockA, reduceIte]) | skip)
      | (refine AWP.if_t ?_ ?_; focus (simp (disch := omega) []; done))
      | (refine AWP.if_f ?_ ?_; focus (simp (disch := omega) []; done)))
    refine ⟨by simp, _, rfl, finM (k := blkD (mkL ds.length k)) (by simp [h4]) rfl (flatD _) ⟨?_, rfl⟩ (by simp [resO, get, nms, nmss])⟩
    simp [resO, get, ren]

set_option maxRecDepth 10000 in
set_option maxHeartbeats 400000 in
theorem markDefS_nil (σ : Sto) (ν : Nat) (b o z : Nat) (cap : Option Nat) (k : Int) :
    AC Try.prog 65 [.sl b o 0 cap z, .v (.int .i64 k)] σ ν fun r δ => r = .v (.int .i64 k) ∧ δ = noS := by
  refine AC.intro [] ent_65 Try.func65 rfl (by simp [Try.f65]) (by simp) ?_
  intro K s hs hB hn hν hA hFr
  simp only [argT, Nat.zero_add, Nat.reduceAdd]
  repeat' (first
    | refine AWP.seq ?_
    | refine AWP.block ?_
    | (refine AWP.skip ?_; simp only [thenA, blockA, reduceIte])
    | (refine AWP.exit ?_; simp only [thenA, blockA, eq_self, reduceIte, Nat.reduceEqDiff, Nat.succ_ne_zero])
    | (refine AWP.ret ?_; simp only [thenA, blockA, reduceIte])
    | (refine AWP.region (by rfl) (fun KK hKK => ?_); (repeat (simp (disch := omega) [])); first | (refine hKK _ _ _ ?_; clear hKK KK; simp only [thenA, blockA, reduceIte]) | skip)
    | (refine AWP.if_t ?_ ?_; focus (simp (disch := omega) []; done))
    | (refine AWP.if_f ?_ ?_; focus (simp (disch := omega) []; done)))
  refine AWP.loop (fun n τ σ' M => n = 0 ∧ τ = [(0, .sl b o 0 cap z), (1, .v (.int .i64 k)), (5, .v (.int .i64 0))] ∧ σ' = s ∧ M = K) ⟨_, _, _, _, ⟨rfl, rfl, rfl, rfl⟩, (Weak.base hB (by repeat (first | exact Over.refl _ | exact hov | refine Over.upd ?_ hB (by omega) | refine Over.del ?_ hB (by omega))) (by simp [LT, get, nms, nmss]; try (simp [nms, nmss] at hn; simp_all)))⟩ ?_
  rintro n τ σ' M ⟨rfl, rfl, rfl, rfl⟩
  repeat' (first
    | refine AWP.seq ?_
    | refine AWP.block ?_
    | (refine AWP.skip ?_; simp only [thenA, blockA, reduceIte])
    | (refine AWP.exit ?_; simp only [thenA, blockA, eq_self, reduceIte, Nat.reduceEqDiff, Nat.succ_ne_zero])
    | (refine AWP.ret ?_; simp only [thenA, blockA, reduceIte])
    | (refine AWP.region (by rfl) (fun KK hKK => ?_); (repeat (simp (disch := omega) [])); first | (refine hKK _ _ _ ?_; clear hKK KK; simp only [thenA, blockA, reduceIte]) | skip)
    | (refine AWP.if_t ?_ ?_; focus (simp (disch := omega) []; done))
    | (refine AWP.if_f ?_ ?_; focus (simp (disch := omega) []; done)))
  refine ⟨by simp, _, rfl, fin0 ⟨?_, rfl⟩ (by simp [resO, get, nms, nmss]; try (simp [nms, nmss] at hn; simp_all))⟩
  simp [resO, get, ren, rens]

set_option maxRecDepth 10000 in
set_option maxHeartbeats 400000 in
theorem markEnum_c (σ : Sto) (ν : Nat) (b : Nat) (cap : Option Nat) (ds : List Df) (k : Int) (hb : σ b = some (blkD ds)) (hlen : ds.length ≤ 4294967296) (hk : 0 ≤ k ∧ k ≤ 4294967296) :
    AC Try.prog 26 [.agg [.sl b 0 ds.length cap 2], .v (.int .i64 k)] σ ν fun r δ => r = .v (.int .i64 (k + 2 * ds.length)) ∧ δ = upd noS b (blkD (mkL ds.length k)) := by
  refine AC.intro [b] ent_26 Try.func26 rfl (by simp [Try.f26]) (by simp [hb]) ?_
  intro K s hs hB hn hν hA hFr
  simp only [argT, Nat.zero_add, Nat.reduceAdd]
  have hsb : s b = some (blkD ds) := by rw [hs b, hb]; simp
  have hbK : b < K := hA b (by simp [nmAs, nmAs, nmA])
  have hb1 : ¬ b = K := by omega
  repeat' (first
    | refine AWP.seq ?_
    | refine AWP.block ?_
    | (refine AWP.skip ?_; simp only [thenA, blockA, reduceIte])
    | (refine AWP.exit ?_; simp only [thenA, blockA, eq_self, reduceIte, Nat.reduceEqDiff, Nat.succ_ne_zero])
    | (refine AWP.ret ?_; simp only [thenA, blockA, reduceIte])
    | (refine AWP.region (by rfl) (fun KK hKK => ?_); (repeat (simp (disch := omega) [])); first | (refine hKK _ _ _ ?_; clear hKK KK; simp only [thenA, blockA, reduceIte]) | skip)
    | (refine AWP.if_t ?_ ?_; focus (simp (disch := omega) []; done))
    | (refine AWP.if_f ?_ ?_; focus (simp (disch := omega) []; done)))
  refine aStop_of (markDefS_c _ _ b cap ds k (by simp (disch := omega) [hsb]) hlen hk) ?_
  rintro r δ ⟨rfl, rfl⟩
  (repeat (simp (disch := omega) []))
  first | (refine hKK _ _ _ ?_; clear hKK KK; simp only [thenA, blockA, reduceIte]) | skip
  repeat' (first
    | refine AWP.seq ?_
    | refine AWP.block ?_
    | (refine AWP.skip ?_; simp only [thenA, blockA, reduceIte])
    | (refine AWP.exit ?_; simp only [thenA, blockA, eq_self, reduceIte, Nat.reduceEqDiff, Nat.succ_ne_zero])
    | (refine AWP.ret ?_; simp only [thenA, blockA, reduceIte])
    | (refine AWP.region (by rfl) (fun KK hKK => ?_); (repeat (simp (disch := omega) [])); first | (refine hKK _ _ _ ?_; clear hKK KK; simp only [thenA, blockA, reduceIte]) | skip)
    | (refine AWP.if_t ?_ ?_; focus (simp (disch := omega) []; done))
    | (refine AWP.if_f ?_ ?_; focus (simp (disch := omega) []; done)))
  refine ⟨by simp, _, rfl, finM (k := blkD (mkL ds.length k)) (by simp (disch := omega)) rfl (flatD _) ⟨?_, rfl⟩ (by simp [resO, get, nms, nmss])⟩
  simp [resO, get, ren]

set_option maxRecDepth 10000 in
set_option maxHeartbeats 400000 in
theorem markEnum_nil (σ : Sto) (ν : Nat) (b o z : Nat) (cap : Option Nat) (k : Int) :
    AC Try.prog 26 [.agg [.sl b o 0 cap z], .v (.int .i64 k)] σ ν fun r δ => r = .v (.int .i64 k) ∧ δ = noS := by
  refine AC.intro [] ent_26 Try.func26 rfl (by simp [Try.f26]) (by simp) ?_
  intro K s hs hB hn hν hA hFr
  simp only [argT, Nat.zero_add, Nat.reduceAdd]
  repeat' (first
    | refine AWP.seq ?_
    | refine AWP.block ?_
    | (refine AWP.skip ?_; simp only [thenA, blockA, reduceIte])
    | (refine AWP.exit ?_; simp only [thenA, blockA, eq_self, reduceIte, Nat.reduceEqDiff, Nat.succ_ne_zero])
    | (refine AWP.ret ?_; simp only [thenA, blockA, reduceIte])
    | (refine AWP.region (by rfl) (fun KK hKK => ?_); (repeat (simp (disch := omega) [])); first | (refine hKK _ _ _ ?_; clear hKK KK; simp only [thenA, blockA, reduceIte]) | skip)
    | (refine AWP.if_t ?_ ?_; focus (simp (disch := omega) []; done))
    | (refine AWP.if_f ?_ ?_; focus (simp (disch := omega) []; done)))
  refine aStop_of (markDefS_nil _ _ b o z cap k) ?_
  rintro r δ ⟨rfl, rfl⟩
  (repeat (simp (disch := omega) []))
  first | (refine hKK _ _ _ ?_; clear hKK KK; simp only [thenA, blockA, reduceIte]) | skip
  repeat' (first
    | refine AWP.seq ?_
    | refine AWP.block ?_
    | (refine AWP.skip ?_; simp only [thenA, blockA, reduceIte])
    | (refine AWP.exit ?_; simp only [thenA, blockA, eq_self, reduceIte, Nat.reduceEqDiff, Nat.succ_ne_zero])
    | (refine AWP.ret ?_; simp only [thenA, blockA, reduceIte])
    | (refine AWP.region (by rfl) (fun KK hKK => ?_); (repeat (simp (disch := omega) [])); first | (refine hKK _ _ _ ?_; clear hKK KK; simp only [thenA, blockA, reduceIte]) | skip)
    | (refine AWP.if_t ?_ ?_; focus (simp (disch := omega) []; done))
    | (refine AWP.if_f ?_ ?_; focus (simp (disch := omega) []; done)))
  refine ⟨by simp, _, rfl, fin0 ⟨?_, rfl⟩ (by simp [resO, get, nms, nmss]; try (simp [nms, nmss] at hn; simp_all))⟩
  simp [resO, get, ren, rens]

end Go.Proofs.Ytgaiemhbllbaiaa
namespace Go.Proofs.Ytgaiemhbllbaiaa
open Go Go.RowKit

/-- How an enumeration that may be none is handed back. -/
def eOut (ν : Nat) (cap : Nat → Option Nat) : Option (List Df) → AV
  | some l => .sl ν 0 l.length (cap l.length) 2
  | none => nilA
def dOut (ν : Nat) : Option (List Df) → Sto
  | some l => upd noS ν (blkD l)
  | none => noS
theorem eOut_some (ν : Nat) (cap : Nat → Option Nat) (l : List Df) : eOut ν cap (some l) = .sl ν 0 l.length (cap l.length) 2 := by simp only [eOut]
theorem eOut_none (ν : Nat) (cap : Nat → Option Nat) : eOut ν cap none = nilA := by simp only [eOut]
theorem dOut_some (ν : Nat) (l : List Df) : dOut ν (some l) = upd noS ν (blkD l) := by simp only [dOut]
theorem dOut_none (ν : Nat) : dOut ν none = noS := by simp only [dOut]

def renO (ds : List Df) (t u : ByteArray) : Option (List Df) :=
  if okDs (-1000) 1000 ds = true ∧ 0 ≤ nameIx ds t ∧ okDs (-1000) 1000 (renD ds (nameIx ds t).toNat u) = true then some (renD ds (nameIx ds t).toNat u) else none

theorem szF_neg : ∀ (ds : List Df) (k : Int), k < 0 → ds = [] ∨ szF ds k = -1
  | [], k, h => .inl rfl
  | d :: ds, k, h => .inr (by simp only [szF]; rw [if_pos (by omega)])
theorem szF_sz : ∀ (ds : List Df) (k : Int), 0 ≤ k → 0 ≤ szF ds k → ∀ d ∈ ds, (d.1.size : Int) ≤ k
  | [], k, _, h, d, hd => by simp at hd
  | x :: ds, k, hk, h, d, hd => by
    simp only [szF] at h
    split at h
    · omega
    · rename_i h0
      rcases List.mem_cons.1 hd with rfl | hd
      · omega
      · have := szF_sz ds _ (by omega) h d hd
        omega
theorem szF_le : ∀ (ds : List Df) (k : Int), 0 ≤ k → szF ds k ≤ k
  | [], k, _ => by simp [szF]
  | x :: ds, k, hk => by
    simp only [szF]
    split
    · omega
    · have := szF_le ds (k - x.1.size) (by omega)
      omega
theorem szL_sz {ds : List Df} {k : Int} (hk : 0 ≤ k) (h : 0 ≤ szL ds k) : (ds.length : Int) ≤ k ∧ (∀ d ∈ ds, (d.1.size : Int) ≤ k) ∧ szL ds k ≤ k := by
  unfold szL at h ⊢
  split at h
  · omega
  · rename_i h0
    rw [if_neg h0]
    have := szF_le ds (k - ds.length) (by omega)
    refine ⟨by omega, fun d hd => ?_, by omega⟩
    have := szF_sz ds (k - ds.length) (by omega) h d hd
    omega

theorem renO_len {ds : List Df} {t u : ByteArray} {l : List Df} (h : renO ds t u = some l) : l.length = ds.length := by
  unfold renO at h
  split at h
  · cases h; exact renD_len _ _ _
  · cases h
end Go.Proofs.Ytgaiemhbllbaiaa
