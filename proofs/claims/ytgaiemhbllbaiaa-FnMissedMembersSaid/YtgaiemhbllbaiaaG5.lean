/- Contracts of the generators: an enumeration and one of its names; the reader made. No condition. -/
import Derived.Test.YtgaiemhbllbaiaaG4
set_option linter.unusedSimpArgs false
set_option linter.unusedVariables false
namespace Go.Proofs.Ytgaiemhbllbaiaa
open Go Go.RowKit

def GotES (ν rb : Nat) (x : AV) (p : Int) (m N : Nat) (r : AV) (δ : Sto) : Prop := ∃ (ds : List Df) (q : Int) (nm : ByteArray), Gd ds m ∧ nm.size ≤ 7 ∧ p ≤ q ∧ q ≤ p + N ∧ r = .tup [.agg [.sl ν 0 ds.length none 2], .v (.string nm)] ∧ δ = upd (upd noS rb (rdB x q)) ν (blkD ds)

/-- A reader is made: of at most 2000 bytes. -/
def Rdr (σ : Sto) (ν : Nat) (r : AV) (δ : Sto) : Prop := ∃ (x : AV) (bs : List Int), Sl σ x 1 (rowsB bs) ∧ Code8 bs ∧ r = .ptr ν 0 0 ∧ δ = upd noS ν (rdB x 0)
set_option maxRecDepth 10000 in
set_option maxHeartbeats 1000000 in
theorem newReader_c (σ : Sto) (ν : Nat) (x : AV) (bs : List Int) (hx : Sl σ x 1 (rowsB bs)) (h8 : ∀ y ∈ bs, 0 ≤ y ∧ y ≤ 255) (hl : bs.length ≤ 9223372036854775807) :
    AC Try.prog 47 [x] σ ν (Rdr σ ν) := by
  obtain ⟨b, o, cap, z, rfl⟩ := hx.out
  simp only [rowsB_len] at hx ⊢
  refine AC.intro [] ent_47 Try.func47 rfl (by simp [Try.f47]) (by simp) ?_
  intro K s hs hB hn hν hA hFr
  simp only [argT, Nat.zero_add, Nat.reduceAdd]
  have hbK : b < K := hA b (by simp [nmAs, nmA])
  have e1 : b ≠ K := by omega
  have e2 : b ≠ K + 1 := by omega
  by_cases h : (2000 : Int) < bs.length
  · obtain ⟨_, rfl, _⟩ := hx.at (i := 0) (by rw [rowsB_len]; omega)
    have hle : 2000 ≤ bs.length := by omega
    repeat' (first
      | refine AWP.seq ?_
      | refine AWP.block ?_
      | (refine AWP.skip ?_; simp only [thenA, blockA, reduceIte])
      | (refine AWP.exit ?_; simp only [thenA, blockA, eq_self, reduceIte, Nat.reduceEqDiff, Nat.succ_ne_zero])
      | (refine AWP.ret ?_; simp only [thenA, blockA, reduceIte])
      | (refine AWP.region (by rfl) (fun KK hKK => ?_); (repeat (simp (disch := omega) [h, hle])); first | (refine hKK _ _ _ ?_; clear hKK KK; simp only [thenA, blockA, reduceIte]) | skip)
      | (refine AWP.if_t ?_ ?_; focus (simp (disch := omega) [h, hle]; done))
      | (refine AWP.if_f ?_ ?_; focus (simp (disch := omega) [h, hle]; done)))
    have ht := hx.take (i := 2000) (by rw [rowsB_len]; exact hle) cap id
    have e : (rowsB bs).take 2000 = rowsB (bs.take 2000) := by simp [rowsB, List.map_take]
    rw [e] at ht
    refine ⟨by simp, _, rfl, fin1L K (rdB (.sl b o 2000 cap 1) 0) (by simp) rfl ?_ ⟨.sl b o 2000 cap 1, bs.take 2000, ht, ⟨fun y hy => h8 y (List.mem_of_mem_take hy), by simp; omega⟩, ?_, ?_⟩ (by omega) (by simp [resO, get, nms, nmss])⟩
    · intro e he v hv n hn'
      simp only [List.mem_singleton] at he
      subst he
      simp only [List.mem_cons, List.not_mem_nil, or_false] at hv
      rcases hv with rfl | rfl
      · exact hn n (by simp [nmss, nms] at hn' ⊢; exact hn')
      · simp [nms] at hn'
    · simp [resO, get, ren, rho]
    · rfl
  · repeat' (first
      | refine AWP.seq ?_
      | refine AWP.block ?_
      | (refine AWP.skip ?_; simp only [thenA, blockA, reduceIte])
      | (refine AWP.exit ?_; simp only [thenA, blockA, eq_self, reduceIte, Nat.reduceEqDiff, Nat.succ_ne_zero])
      | (refine AWP.ret ?_; simp only [thenA, blockA, reduceIte])
      | (refine AWP.region (by rfl) (fun KK hKK => ?_); (repeat (simp (disch := omega) [h])); first | (refine hKK _ _ _ ?_; clear hKK KK; simp only [thenA, blockA, reduceIte]) | skip)
      | (refine AWP.if_t ?_ ?_; focus (simp (disch := omega) [h]; done))
      | (refine AWP.if_f ?_ ?_; focus (simp (disch := omega) [h]; done)))
    refine ⟨by simp, _, rfl, fin1L K (rdB (.sl b o bs.length cap z) 0) (by simp) rfl ?_ ⟨.sl b o bs.length cap z, bs, hx, ⟨h8, by omega⟩, ?_, ?_⟩ (by omega) (by simp [resO, get, nms, nmss])⟩
    · intro e he v hv n hn'
      simp only [List.mem_singleton] at he
      subst he
      simp only [List.mem_cons, List.not_mem_nil, or_false] at hv
      rcases hv with rfl | rfl
      · exact hn n (by simp [nmss, hn'])
      · simp [nms] at hn'
    · simp [resO, get, ren, rho]
    · rfl
end Go.Proofs.Ytgaiemhbllbaiaa
