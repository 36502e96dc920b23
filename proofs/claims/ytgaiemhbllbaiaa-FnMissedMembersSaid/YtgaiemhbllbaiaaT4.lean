/- Contracts of the generators: enumerations with tables. No condition. -/
import Derived.Test.YtgaiemhbllbaiaaG5
import Derived.Test.YtgaiemhbllbaiaaCE2
import Derived.Test.YtgaiemhbllbaiaaB3
import Derived.Test.YtgaiemhbllbaiaaC5b
set_option linter.unusedSimpArgs false
set_option linter.unusedVariables false
namespace Go.Proofs.Ytgaiemhbllbaiaa
open Go Go.RowKit

/-- Numbers that a generator makes. -/
structure Gi (l : List Int) (m : Nat) : Prop where
  len : l.length ≤ m
  ok : ∀ n ∈ l, -4096 ≤ n ∧ n ≤ 4096
theorem Gi.snoc {l : List Int} {m : Nat} (h : Gi l m) {n : Int} (h1 : -4096 ≤ n) (h2 : n ≤ 4096) : Gi (l ++ [n]) (m + 1) :=
  ⟨by simp [h.len], fun d hd => by
    rcases List.mem_append.1 hd with hd | hd
    · exact h.ok d hd
    · rw [List.mem_singleton.1 hd]; exact ⟨h1, h2⟩⟩
theorem Gi.drop {l : List Int} {m : Nat} (h : Gi l m) (o : Nat) : Gi (l.drop o) m := ⟨by simp; have := h.len; omega, fun d hd => h.ok d (List.mem_of_mem_drop hd)⟩
theorem sl_drop {σ : Sto} {b o : Nat} {l : List Int} {r : Bool} (hb : σ b = some ⟨3, 1, rowsI l, r⟩) (ho : o ≤ l.length) : Sl σ (.sl b o (l.drop o).length none 1) 1 (rowsI (l.drop o)) := by
  refine Sl.mk hb rfl (by rw [rowsI_len]) ?_
  have e : (rowsI l).drop o = rowsI (l.drop o) := by simp [rowsI, List.map_drop]
  rw [e, List.take_length]

/-- An enumeration and a table, at most N picks. -/
def GotEI (ν rb : Nat) (x : AV) (p : Int) (r : AV) (δ : Sto) : Prop := ∃ (ds : List Df) (l : List Int) (o : Nat) (q : Int), Gd ds 25 ∧ Gi l 26 ∧ o ≤ l.length ∧ p ≤ q ∧ q ≤ p + 300 ∧ r = .tup [.agg [.sl ν 0 ds.length none 2], .sl (ν + 1) o (l.drop o).length none 1] ∧ δ = upd (upd (upd noS rb (rdB x q)) ν (blkD ds)) (ν + 1) (blkI l)

/-- A reader is made out of the code's own bytes. -/
theorem newReader2_c (σ : Sto) (ν : Nat) (b o : Nat) (cap : Option Nat) (z : Nat) (bs : List Int) (hx : Sl σ (.sl b o bs.length cap z) 1 (rowsB bs)) (h8 : ∀ y ∈ bs, 0 ≤ y ∧ y ≤ 255) (hl : bs.length ≤ 9223372036854775807) :
    AC Try.prog 47 [.sl b o bs.length cap z] σ ν fun r δ => ∃ b8 : List Int, Sl σ (.sl b o b8.length cap z) 1 (rowsB b8) ∧ Code8 b8 ∧ r = .ptr ν 0 0 ∧ δ = upd noS ν (rdB (.sl b o b8.length cap z) 0) := by
  refine AC.intro [] ent_47 Try.func47 rfl (by simp [Try.f47]) (by simp) ?_
  intro K s hs hB hn hν hA hFr
  simp only [argT, Nat.zero_add, Nat.reduceAdd]
  have hbK : b < K := hA b (by simp [nmAs, nmA])
  have e1 : b ≠ K := by omega
  have e2 : b ≠ K + 1 := by omega
  by_cases h : (2000 : Int) < bs.length
  · obtain ⟨_, rfl, _⟩ := hx.at (i := 0) (by rw [rowsB_len]; omega)
    have hle : 2000 ≤ bs.length := by omega
    repeat' (first
      | refine AWP.seq ?_
      | refine AWP.block ?_
      | (refine AWP.skip ?_; simp only [thenA, blockA, reduceIte])
      | (refine AWP.exit ?_; simp only [thenA, blockA, eq_self, reduceIte, Nat.reduceEqDiff, Nat.succ_ne_zero])
      | (refine AWP.ret ?_; simp only [thenA, blockA, reduceIte])
      | (refine AWP.region (by rfl) (fun KK hKK => ?_); (repeat (simp (disch := omega) [h, hle])); first | (refine hKK _ _ _ ?_; clear hKK KK; simp only [thenA, blockA, reduceIte]) | skip)
      | (refine AWP.if_t ?_ ?_; focus (simp (disch := omega) [h, hle]; done))
      | (refine AWP.if_f ?_ ?_; focus (simp (disch := omega) [h, hle]; done)))
    have ht := hx.take (i := 2000) (by rw [rowsB_len]; exact hle) cap id
    have e : (rowsB bs).take 2000 = rowsB (bs.take 2000) := by simp [rowsB, List.map_take]
    have el : (bs.take 2000).length = 2000 := by rw [List.length_take]; omega
    rw [e] at ht
    refine ⟨by simp, _, rfl, fin1L K (rdB (.sl b o 2000 cap 1) 0) (by simp) rfl ?_ ⟨bs.take 2000, by rw [el]; exact ht, ⟨fun y hy => h8 y (List.mem_of_mem_take hy), by simp; omega⟩, ?_, by rw [el]⟩ (by omega) (by simp [resO, get, nms, nmss])⟩
    · intro e he v hv n hn'
      simp only [List.mem_singleton] at he
      subst he
      simp only [List.mem_cons, List.not_mem_nil, or_false] at hv
      rcases hv with rfl | rfl
      · exact hn n (by simp [nmss, nms] at hn' ⊢; exact hn')
      · simp [nms] at hn'
    · simp [resO, get, ren, rho]
  · repeat' (first
      | refine AWP.seq ?_
      | refine AWP.block ?_
      | (refine AWP.skip ?_; simp only [thenA, blockA, reduceIte])
      | (refine AWP.exit ?_; simp only [thenA, blockA, eq_self, reduceIte, Nat.reduceEqDiff, Nat.succ_ne_zero])
      | (refine AWP.ret ?_; simp only [thenA, blockA, reduceIte])
      | (refine AWP.region (by rfl) (fun KK hKK => ?_); (repeat (simp (disch := omega) [h])); first | (refine hKK _ _ _ ?_; clear hKK KK; simp only [thenA, blockA, reduceIte]) | skip)
      | (refine AWP.if_t ?_ ?_; focus (simp (disch := omega) [h]; done))
      | (refine AWP.if_f ?_ ?_; focus (simp (disch := omega) [h]; done)))
    refine ⟨by simp, _, rfl, fin1L K (rdB (.sl b o bs.length cap z) 0) (by simp) rfl ?_ ⟨bs, hx, ⟨h8, by omega⟩, ?_, rfl⟩ (by omega) (by simp [resO, get, nms, nmss])⟩
    · intro e he v hv n hn'
      simp only [List.mem_singleton] at he
      subst he
      simp only [List.mem_cons, List.not_mem_nil, or_false] at hv
      rcases hv with rfl | rfl
      · exact hn n (by simp [nmss, hn'])
      · simp [nms] at hn'
    · simp [resO, get, ren, rho]
end Go.Proofs.Ytgaiemhbllbaiaa
