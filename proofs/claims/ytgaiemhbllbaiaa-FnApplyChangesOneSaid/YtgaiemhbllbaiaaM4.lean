/- Contracts: DropDef, in the program and in the reference. No condition. -/
import Derived.Test.YtgaiemhbllbaiaaM3
import Derived.Test.YtgaiemhbllbaiaaC5b
import Derived.Test.YtgaiemhbllbaiaaPM
set_option linter.unusedSimpArgs false
set_option linter.unusedVariables false
namespace Go.Proofs.Ytgaiemhbllbaiaa
open Go Go.RowKit

theorem okDs_pw {lo hi : Int} {ds : List Df} : okDs lo hi ds = true ↔ ds.length ≤ 12 ∧ (∀ d ∈ ds, vname d.1 = true ∧ lo ≤ d.2 ∧ d.2 ≤ hi) ∧ ds.Pairwise fun a b => a.1 ≠ b.1 := by
  constructor
  · intro h
    refine ⟨okDs_len h, fun d hd => ?_, ok_names h⟩
    obtain ⟨i, hi', rfl⟩ := List.mem_iff_getElem.1 hd
    obtain ⟨a, b, c, _⟩ := okDs_at h hi'
    exact ⟨a, b, c⟩
  · rintro ⟨h1, h2, h3⟩
    refine okDs_iff.2 ⟨h1, fun i hi' => ?_⟩
    obtain ⟨a, b, c⟩ := h2 _ (List.getElem_mem hi')
    refine ⟨a, b, c, nameIx_neg.2 fun d hd => ?_⟩
    obtain ⟨j, hj, rfl⟩ := List.mem_take_iff_getElem.1 hd
    rw [List.pairwise_iff_getElem] at h3
    exact h3 j i (by omega) hi' (by omega)
theorem okDs_sub {lo hi : Int} {ds es : List Df} (h : okDs lo hi ds = true) (hs : es.Sublist ds) : okDs lo hi es = true := by
  obtain ⟨h1, h2, h3⟩ := okDs_pw.1 h
  exact okDs_pw.2 ⟨by have := hs.length_le; omega, fun d hd => h2 d (hs.subset hd), h3.sublist hs⟩

def dropO (ds : List Df) (t : ByteArray) : Option (List Df) := if okDs (-1000) 1000 ds = true ∧ 0 ≤ nameIx ds t then some (ds.eraseIdx (nameIx ds t).toNat) else none

set_option maxRecDepth 10000 in
set_option maxHeartbeats 1000000 in
theorem dropDef_no0 (σ : Sto) (ν : Nat) (x : AV) (ds : List Df) (t : ByteArray) (hx : Sl σ x 2 (rowsD ds)) (hlen : ds.length ≤ 4294967296) (hi : nameIx ds t = -1) :
    AC Try.prog 98 [.agg [x], .v (.string t)] σ ν fun r δ => r = .tup [.agg [nilA], .v (.bool false)] ∧ δ = noS := by
  obtain ⟨b, o, cap, z, rfl⟩ := hx.out
  refine AC.intro [] ent_98 Try.func98 rfl (by simp [Try.f98]) (by simp) ?_
  intro K s hs hB hn hν hA hFr
  simp only [argT, Nat.zero_add, Nat.reduceAdd]
  have hK0 : ¬ 0 = K := by omega
  have hK1 : ¬ 0 = K + 1 := by omega
  have hx' := hx.vw hs.vw
  repeat' (first
    | refine AWP.seq ?_
    | refine AWP.block ?_
    | (refine AWP.skip ?_; simp only [thenA, blockA, reduceIte])
    | (refine AWP.exit ?_; simp only [thenA, blockA, eq_self, reduceIte, Nat.reduceEqDiff, Nat.succ_ne_zero])
    | (refine AWP.ret ?_; simp only [thenA, blockA, reduceIte])
    | (refine AWP.region (by rfl) (fun KK hKK => ?_); (repeat (simp (disch := omega) [])); first | (refine hKK _ _ _ ?_; clear hKK KK; simp only [thenA, blockA, reduceIte]) | skip)
    | (refine AWP.draw' mixd (by rfl) (by kernel_rfl) (fun KK tab hKK htab => ?_); (repeat (simp (disch := omega) [])); first | (refine dEnd_ro ?_ (hKK _ _ _ ?_); (focus (simp; done)); clear htab tab hKK KK; simp only [thenA, blockA, reduceIte]) | (refine dEnd_of ?_ (hKK _ _ _ ?_); (focus (simp only [List.reverse_cons, List.reverse_nil, List.nil_append, List.cons_append, memA, mem1, and_true, true_and]; (repeat' apply And.intro); (all_goals (first | trivial | (refine .inr ⟨?_, ?_⟩ <;> (simp; done)) | (refine .inr ⟨?_, ?_⟩ <;> (simp <;> omega)) | (refine .inl ?_; rw [htab]; kernel_rfl))); done)); clear htab tab hKK KK; simp only [thenA, blockA, reduceIte]) | skip)
    | (refine AWP.if_t ?_ ?_; focus (simp (disch := omega) []; done))
    | (refine AWP.if_f ?_ ?_; focus (simp (disch := omega) []; done)))
  refine aStop_of (named_c _ _ _ ds _ (hx'.vw ((Vw.refl _).over (by repeat (first | exact Over.refl _ | exact hov | refine Over.upd ?_ hB (by omega) | refine Over.del ?_ hB (by omega))))) (by omega)) ?_
  rintro r δ ⟨rfl, rfl⟩
  (repeat (simp (disch := omega) [hi]))
  first | (refine hKK _ _ _ ?_; clear hKK KK; simp only [thenA, blockA, reduceIte]) | skip
  repeat' (first
    | refine AWP.seq ?_
    | refine AWP.block ?_
    | (refine AWP.skip ?_; simp only [thenA, blockA, reduceIte])
    | (refine AWP.exit ?_; simp only [thenA, blockA, eq_self, reduceIte, Nat.reduceEqDiff, Nat.succ_ne_zero])
    | (refine AWP.ret ?_; simp only [thenA, blockA, reduceIte])
    | (refine AWP.region (by rfl) (fun KK hKK => ?_); (repeat (simp (disch := omega) [])); first | (refine hKK _ _ _ ?_; clear hKK KK; simp only [thenA, blockA, reduceIte]) | skip)
    | (refine AWP.draw' mixd (by rfl) (by kernel_rfl) (fun KK tab hKK htab => ?_); (repeat (simp (disch := omega) [])); first | (refine dEnd_ro ?_ (hKK _ _ _ ?_); (focus (simp; done)); clear htab tab hKK KK; simp only [thenA, blockA, reduceIte]) | (refine dEnd_of ?_ (hKK _ _ _ ?_); (focus (simp only [List.reverse_cons, List.reverse_nil, List.nil_append, List.cons_append, memA, mem1, and_true, true_and]; (repeat' apply And.intro); (all_goals (first | trivial | (refine .inr ⟨?_, ?_⟩ <;> (simp; done)) | (refine .inr ⟨?_, ?_⟩ <;> (simp <;> omega)) | (refine .inl ?_; rw [htab]; kernel_rfl))); done)); clear htab tab hKK KK; simp only [thenA, blockA, reduceIte]) | skip)
    | (refine AWP.if_t ?_ ?_; focus (simp (disch := omega) []; done))
    | (refine AWP.if_f ?_ ?_; focus (simp (disch := omega) []; done)))
  refine ⟨by simp, ?_⟩
  have hres : Try.f98.results.toList = [.cell 4 25, .tmp 5] := rfl
  rw [hres]
  simp (disch := omega) []
  refine fin0 ⟨?_, rfl⟩ (by simp [resO, nms, nmss])
  simp [resO, ren, rens, rho, hK0, hK1]

theorem concat2_c (σ : Sto) (ν c : Nat) (r0 : Bool) (x y : AV) (ds es : List Df) (hc : σ c = some ⟨23, 1, [[x], [y]], r0⟩) (hx : Sl σ x 2 (rowsD ds)) (hy : Sl σ y 2 (rowsD es)) (hlen : ds.length + es.length ≤ 4294967296) :
    AC Try.prog 114 [.sl c 0 2 (some 2) 1] σ ν fun r δ => r = .sl ν 0 (ds ++ es).length none 2 ∧ δ = upd noS ν (blkD (ds ++ es)) := by
  have h := concatD_c σ ν c r0 [x, y] [ds, es] hc rfl (fun i h => by
    match i, h with
    | 0, _ => exact hx
    | 1, _ => exact hy
    | n + 2, h => exact absurd h (by simp)) (by simpa using hlen) (by simp) (by simp)
  have e : flD [ds, es] [x, y].length = ds ++ es := by simp [flD]
  rw [e] at h
  exact h
set_option maxRecDepth 10000 in
set_option maxHeartbeats 2000000 in
theorem dropDef_yes (σ : Sto) (ν : Nat) (x : AV) (ds : List Df) (t : ByteArray) (i : Nat) (hx : Sl σ x 2 (rowsD ds)) (hlen : ds.length ≤ 4294967296) (hsz : ∀ d ∈ ds, d.1.size ≤ 9223372036854775807) (hi : i < ds.length) (hni : nameIx ds t = i) (hok : okDs (-1000) 1000 ds = true) :
    AC Try.prog 98 [.agg [x], .v (.string t)] σ ν fun r δ => r = .tup [.agg [.sl ν 0 (ds.eraseIdx i).length (some (ds.eraseIdx i).length) 2], .v (.bool true)] ∧ δ = upd noS ν (blkD (ds.eraseIdx i)) := by
  obtain ⟨b, o, cap, z, rfl⟩ := hx.out
  simp only [rowsD_len] at hx ⊢
  obtain ⟨_, rfl, _⟩ := hx.at (i := i) (by rw [rowsD_len]; exact hi)
  have hee : (ds.eraseIdx i).length = i + (ds.length - (i + 1)) := by rw [List.length_eraseIdx_of_lt hi]; omega
  have hee2 : ds.length - 1 = i + (ds.length - (i + 1)) := by omega
  have hsz2 : ∀ d ∈ ds.eraseIdx i, d.1.size ≤ 9223372036854775807 := fun d hd => hsz d (List.mem_of_mem_eraseIdx hd)
  refine AC.intro [] ent_98 Try.func98 rfl (by simp [Try.f98]) (by simp) ?_
  intro K s hs hB hn hν hA hFr
  simp only [argT, Nat.zero_add, Nat.reduceAdd]
  have hx' := hx.vw hs.vw
  have hbK : b < K := hA b (by simp [nmAs, nmA])
  have hK0 : ¬ 0 = K := by omega
  have hK1 : ¬ 0 = K + 1 := by omega
  have h1 : i + 1 ≤ ds.length := hi
  have h2 : i ≤ ds.length := by omega
  have ht := hx'.take (i := i) (by rw [rowsD_len]; exact h2) cap id
  have e1 : (rowsD ds).take i = rowsD (ds.take i) := by simp [rowsD, List.map_take]
  rw [e1] at ht
  have h3 : 0 ≤ (i : Int) + 1 := by omega
  have hd := hx'.drop (i := i + 1) (m := ds.length - (i + 1)) (by rw [rowsD_len]; exact h1) (by rw [rowsD_len]) (cap.map (fun x => x - (i + 1))) (fun h => by rw [h]; simp)
  have e2 : (rowsD ds).drop (i + 1) = rowsD (ds.drop (i + 1)) := by simp [rowsD, List.map_drop]
  rw [e2] at hd
  repeat' (first
    | refine AWP.seq ?_
    | refine AWP.block ?_
    | (refine AWP.skip ?_; simp only [thenA, blockA, reduceIte])
    | (refine AWP.exit ?_; simp only [thenA, blockA, eq_self, reduceIte, Nat.reduceEqDiff, Nat.succ_ne_zero])
    | (refine AWP.ret ?_; simp only [thenA, blockA, reduceIte])
    | (refine AWP.region (by rfl) (fun KK hKK => ?_); (repeat (simp (disch := omega) [])); first | (refine hKK _ _ _ ?_; clear hKK KK; simp only [thenA, blockA, reduceIte]) | skip)
    | (refine AWP.draw' mixd (by rfl) (by kernel_rfl) (fun KK tab hKK htab => ?_); (repeat (simp (disch := omega) [])); first | (refine dEnd_ro ?_ (hKK _ _ _ ?_); (focus (simp; done)); clear htab tab hKK KK; simp only [thenA, blockA, reduceIte]) | (refine dEnd_of ?_ (hKK _ _ _ ?_); (focus (simp only [List.reverse_cons, List.reverse_nil, List.nil_append, List.cons_append, memA, mem1, and_true, true_and]; (repeat' apply And.intro); (all_goals (first | trivial | (refine .inr ⟨?_, ?_⟩ <;> (simp; done)) | (refine .inr ⟨?_, ?_⟩ <;> (simp <;> omega)) | (refine .inl ?_; rw [htab]; kernel_rfl))); done)); clear htab tab hKK KK; simp only [thenA, blockA, reduceIte]) | skip)
    | (refine AWP.if_t ?_ ?_; focus (simp (disch := omega) []; done))
    | (refine AWP.if_f ?_ ?_; focus (simp (disch := omega) []; done)))
  refine aStop_of (named_c _ _ _ ds _ (hx'.vw ((Vw.refl _).over (by repeat (first | exact Over.refl _ | exact hov | refine Over.upd ?_ hB (by omega) | refine Over.del ?_ hB (by omega))))) (by omega)) ?_
  rintro r δ ⟨rfl, rfl⟩
  (repeat (simp (disch := omega) [hni]))
  first | (refine hKK _ _ _ ?_; clear hKK KK; simp only [thenA, blockA, reduceIte]) | skip
  repeat' (first
    | refine AWP.seq ?_
    | refine AWP.block ?_
    | (refine AWP.skip ?_; simp only [thenA, blockA, reduceIte])
    | (refine AWP.exit ?_; simp only [thenA, blockA, eq_self, reduceIte, Nat.reduceEqDiff, Nat.succ_ne_zero])
    | (refine AWP.ret ?_; simp only [thenA, blockA, reduceIte])
    | (refine AWP.region (by rfl) (fun KK hKK => ?_); (repeat (simp (disch := omega) [h1, h2, h3])); first | (refine hKK _ _ _ ?_; clear hKK KK; simp only [thenA, blockA, reduceIte]) | skip)
    | (refine AWP.draw' mixd (by rfl) (by kernel_rfl) (fun KK tab hKK htab => ?_); (repeat (simp (disch := omega) [h1, h2, h3])); first | (refine dEnd_ro ?_ (hKK _ _ _ ?_); (focus (simp; done)); clear htab tab hKK KK; simp only [thenA, blockA, reduceIte]) | (refine dEnd_of ?_ (hKK _ _ _ ?_); (focus (simp only [List.reverse_cons, List.reverse_nil, List.nil_append, List.cons_append, memA, mem1, and_true, true_and]; (repeat' apply And.intro); (all_goals (first | trivial | (refine .inr ⟨?_, ?_⟩ <;> (simp; done)) | (refine .inr ⟨?_, ?_⟩ <;> (simp <;> omega)) | (refine .inl ?_; rw [htab]; kernel_rfl))); done)); clear htab tab hKK KK; simp only [thenA, blockA, reduceIte]) | skip)
    | (refine AWP.if_t ?_ ?_; focus (simp (disch := omega) [h1, h2, h3]; done))
    | (refine AWP.if_f ?_ ?_; focus (simp (disch := omega) [h1, h2, h3]; done)))
  refine dStop_modF [K + 1 + 1 + 2 + 18, b] (K + 1 + 1 + 2 + 20) (fun σ' hσ' => concat2_c σ' _ _ true _ _ (ds.take i) (ds.drop (i + 1)) ((hσ' _ (by simp)).trans (by simp (disch := omega) only [upd_eq])) (ht.on ((hσ' _ (by simp)).trans (by simp (disch := omega) only [upd_ne]))) (hd.on ((hσ' _ (by simp)).trans (by simp (disch := omega) only [upd_ne]))) (by simp; omega)) ?_
  (repeat (simp (disch := omega) [← List.eraseIdx_eq_take_drop_succ]))
  first | (refine dEnd_ro ?_ (hKK _ _ _ ?_); (focus (simp; done)); clear htab tab hKK KK; simp only [thenA, blockA, reduceIte]) | (refine dEnd_of ?_ (hKK _ _ _ ?_); (focus (simp only [List.reverse_cons, List.reverse_nil, List.nil_append, List.cons_append, memA, mem1, and_true, true_and]; (repeat' apply And.intro); (all_goals (first | trivial | (refine .inr ⟨?_, ?_⟩ <;> (simp; done)) | (refine .inr ⟨?_, ?_⟩ <;> (simp <;> omega)) | (refine .inl ?_; rw [htab]; kernel_rfl))); done)); clear htab tab hKK KK; simp only [thenA, blockA, reduceIte]) | skip
  repeat' (first
    | refine AWP.seq ?_
    | refine AWP.block ?_
    | (refine AWP.skip ?_; simp only [thenA, blockA, reduceIte])
    | (refine AWP.exit ?_; simp only [thenA, blockA, eq_self, reduceIte, Nat.reduceEqDiff, Nat.succ_ne_zero])
    | (refine AWP.ret ?_; simp only [thenA, blockA, reduceIte])
    | (refine AWP.region (by rfl) (fun KK hKK => ?_); (repeat (simp (disch := omega) [])); first | (refine hKK _ _ _ ?_; clear hKK KK; simp only [thenA, blockA, reduceIte]) | skip)
    | (refine AWP.draw' mixd (by rfl) (by kernel_rfl) (fun KK tab hKK htab => ?_); (repeat (simp (disch := omega) [])); first | (refine dEnd_ro ?_ (hKK _ _ _ ?_); (focus (simp; done)); clear htab tab hKK KK; simp only [thenA, blockA, reduceIte]) | (refine dEnd_of ?_ (hKK _ _ _ ?_); (focus (simp only [List.reverse_cons, List.reverse_nil, List.nil_append, List.cons_append, memA, mem1, and_true, true_and]; (repeat' apply And.intro); (all_goals (first | trivial | (refine .inr ⟨?_, ?_⟩ <;> (simp; done)) | (refine .inr ⟨?_, ?_⟩ <;> (simp <;> omega)) | (refine .inl ?_; rw [htab]; kernel_rfl))); done)); clear htab tab hKK KK; simp only [thenA, blockA, reduceIte]) | skip)
    | (refine AWP.if_t ?_ ?_; focus (simp (disch := omega) []; done))
    | (refine AWP.if_f ?_ ?_; focus (simp (disch := omega) []; done)))
  refine dStop_ro [b] (fun σ' hσ' => validEnum_c σ' _ _ ds ((hx'.vw ((Vw.refl _).over (by repeat (first | exact Over.refl _ | exact hov | refine Over.upd ?_ hB (by omega) | refine Over.del ?_ hB (by omega))))).on (hσ' _ (by simp))) (by omega) hsz) ?_
  (repeat (simp (disch := omega) [hok]))
  first | (refine dEnd_ro ?_ (hKK _ _ _ ?_); (focus (simp; done)); clear htab tab hKK KK; simp only [thenA, blockA, reduceIte]) | (refine dEnd_of ?_ (hKK _ _ _ ?_); (focus (simp only [List.reverse_cons, List.reverse_nil, List.nil_append, List.cons_append, memA, mem1, and_true, true_and]; (repeat' apply And.intro); (all_goals (first | trivial | (refine .inr ⟨?_, ?_⟩ <;> (simp; done)) | (refine .inr ⟨?_, ?_⟩ <;> (simp <;> omega)) | (refine .inl ?_; rw [htab]; kernel_rfl))); done)); clear htab tab hKK KK; simp only [thenA, blockA, reduceIte]) | skip
  repeat' (first
    | refine AWP.seq ?_
    | refine AWP.block ?_
    | (refine AWP.skip ?_; simp only [thenA, blockA, reduceIte])
    | (refine AWP.exit ?_; simp only [thenA, blockA, eq_self, reduceIte, Nat.reduceEqDiff, Nat.succ_ne_zero])
    | (refine AWP.ret ?_; simp only [thenA, blockA, reduceIte])
    | (refine AWP.region (by rfl) (fun KK hKK => ?_); (repeat (simp (disch := omega) [])); first | (refine hKK _ _ _ ?_; clear hKK KK; simp only [thenA, blockA, reduceIte]) | skip)
    | (refine AWP.draw' mixd (by rfl) (by kernel_rfl) (fun KK tab hKK htab => ?_); (repeat (simp (disch := omega) [])); first | (refine dEnd_ro ?_ (hKK _ _ _ ?_); (focus (simp; done)); clear htab tab hKK KK; simp only [thenA, blockA, reduceIte]) | (refine dEnd_of ?_ (hKK _ _ _ ?_); (focus (simp only [List.reverse_cons, List.reverse_nil, List.nil_append, List.cons_append, memA, mem1, and_true, true_and]; (repeat' apply And.intro); (all_goals (first | trivial | (refine .inr ⟨?_, ?_⟩ <;> (simp; done)) | (refine .inr ⟨?_, ?_⟩ <;> (simp <;> omega)) | (refine .inl ?_; rw [htab]; kernel_rfl))); done)); clear htab tab hKK KK; simp only [thenA, blockA, reduceIte]) | skip)
    | (refine AWP.if_t ?_ ?_; focus (simp (disch := omega) []; done))
    | (refine AWP.if_f ?_ ?_; focus (simp (disch := omega) []; done)))
  refine dStop_newA (fun σ' hσ' => enumOf_yes σ' _ _ (ds.eraseIdx i) (Sl.whole (t := 34) (r := true) ((hσ' _ (by simp)).trans (by simp (disch := omega) only [upd_eq, upd_ne])) (by simp [rowsD_len])) (by omega) hsz2 (okDs_sub hok (List.eraseIdx_sublist _ _))) ?_
  (repeat (simp (disch := omega) []))
  first | (refine dEnd_ro ?_ (hKK _ _ _ ?_); (focus (simp; done)); clear htab tab hKK KK; simp only [thenA, blockA, reduceIte]) | (refine dEnd_of ?_ (hKK _ _ _ ?_); (focus (simp only [List.reverse_cons, List.reverse_nil, List.nil_append, List.cons_append, memA, mem1, and_true, true_and]; (repeat' apply And.intro); (all_goals (first | trivial | (refine .inr ⟨?_, ?_⟩ <;> (simp; done)) | (refine .inr ⟨?_, ?_⟩ <;> (simp <;> omega)) | (refine .inl ?_; rw [htab]; kernel_rfl))); done)); clear htab tab hKK KK; simp only [thenA, blockA, reduceIte]) | skip
  repeat' (first
    | refine AWP.seq ?_
    | refine AWP.block ?_
    | (refine AWP.skip ?_; simp only [thenA, blockA, reduceIte])
    | (refine AWP.exit ?_; simp only [thenA, blockA, eq_self, reduceIte, Nat.reduceEqDiff, Nat.succ_ne_zero])
    | (refine AWP.ret ?_; simp only [thenA, blockA, reduceIte])
    | (refine AWP.region (by rfl) (fun KK hKK => ?_); (repeat (simp (disch := omega) [])); first | (refine hKK _ _ _ ?_; clear hKK KK; simp only [thenA, blockA, reduceIte]) | skip)
    | (refine AWP.draw' mixd (by rfl) (by kernel_rfl) (fun KK tab hKK htab => ?_); (repeat (simp (disch := omega) [])); first | (refine dEnd_ro ?_ (hKK _ _ _ ?_); (focus (simp; done)); clear htab tab hKK KK; simp only [thenA, blockA, reduceIte]) | (refine dEnd_of ?_ (hKK _ _ _ ?_); (focus (simp only [List.reverse_cons, List.reverse_nil, List.nil_append, List.cons_append, memA, mem1, and_true, true_and]; (repeat' apply And.intro); (all_goals (first | trivial | (refine .inr ⟨?_, ?_⟩ <;> (simp; done)) | (refine .inr ⟨?_, ?_⟩ <;> (simp <;> omega)) | (refine .inl ?_; rw [htab]; kernel_rfl))); done)); clear htab tab hKK KK; simp only [thenA, blockA, reduceIte]) | skip)
    | (refine AWP.if_t ?_ ?_; focus (simp (disch := omega) []; done))
    | (refine AWP.if_f ?_ ?_; focus (simp (disch := omega) []; done)))
  refine ⟨by simp, ?_⟩
  have hres : Try.f98.results.toList = [.cell 4 25, .tmp 5] := rfl
  rw [hres]
  simp (disch := omega) []
  refine fin1 (K + 1 + 1 + 2 + 26) (blkD (ds.eraseIdx i)) (by simp (disch := omega) only [upd_eq, upd_ne]) rfl (flatD _) ⟨?_, rfl⟩ (by omega) (by simp [resO, nms, nmss] <;> (intros; omega))
  simp [resO, ren, rens, rho]

set_option maxRecDepth 10000 in
set_option maxHeartbeats 2000000 in
theorem dropDef_no (σ : Sto) (ν : Nat) (x : AV) (ds : List Df) (t : ByteArray) (i : Nat) (hx : Sl σ x 2 (rowsD ds)) (hlen : ds.length ≤ 4294967296) (hsz : ∀ d ∈ ds, d.1.size ≤ 9223372036854775807) (hi : i < ds.length) (hni : nameIx ds t = i) (hok : okDs (-1000) 1000 ds = false) :
    AC Try.prog 98 [.agg [x], .v (.string t)] σ ν fun r δ => r = .tup [.agg [nilA], .v (.bool false)] ∧ δ = noS := by
  obtain ⟨b, o, cap, z, rfl⟩ := hx.out
  simp only [rowsD_len] at hx ⊢
  obtain ⟨_, rfl, _⟩ := hx.at (i := i) (by rw [rowsD_len]; exact hi)
  have hee : (ds.eraseIdx i).length = i + (ds.length - (i + 1)) := by rw [List.length_eraseIdx_of_lt hi]; omega
  have hee2 : ds.length - 1 = i + (ds.length - (i + 1)) := by omega
  have hsz2 : ∀ d ∈ ds.eraseIdx i, d.1.size ≤ 9223372036854775807 := fun d hd => hsz d (List.mem_of_mem_eraseIdx hd)
  refine AC.intro [] ent_98 Try.func98 rfl (by simp [Try.f98]) (by simp) ?_
  intro K s hs hB hn hν hA hFr
  simp only [argT, Nat.zero_add, Nat.reduceAdd]
  have hx' := hx.vw hs.vw
  have hbK : b < K := hA b (by simp [nmAs, nmA])
  have hK0 : ¬ 0 = K := by omega
  have hK1 : ¬ 0 = K + 1 := by omega
  have h1 : i + 1 ≤ ds.length := hi
  have h2 : i ≤ ds.length := by omega
  have ht := hx'.take (i := i) (by rw [rowsD_len]; exact h2) cap id
  have e1 : (rowsD ds).take i = rowsD (ds.take i) := by simp [rowsD, List.map_take]
  rw [e1] at ht
  have h3 : 0 ≤ (i : Int) + 1 := by omega
  have hd := hx'.drop (i := i + 1) (m := ds.length - (i + 1)) (by rw [rowsD_len]; exact h1) (by rw [rowsD_len]) (cap.map (fun x => x - (i + 1))) (fun h => by rw [h]; simp)
  have e2 : (rowsD ds).drop (i + 1) = rowsD (ds.drop (i + 1)) := by simp [rowsD, List.map_drop]
  rw [e2] at hd
  repeat' (first
    | refine AWP.seq ?_
    | refine AWP.block ?_
    | (refine AWP.skip ?_; simp only [thenA, blockA, reduceIte])
    | (refine AWP.exit ?_; simp only [thenA, blockA, eq_self, reduceIte, Nat.reduceEqDiff, Nat.succ_ne_zero])
    | (refine AWP.ret ?_; simp only [thenA, blockA, reduceIte])
    | (refine AWP.region (by rfl) (fun KK hKK => ?_); (repeat (simp (disch := omega) [])); first | (refine hKK _ _ _ ?_; clear hKK KK; simp only [thenA, blockA, reduceIte]) | skip)
    | (refine AWP.draw' mixd (by rfl) (by kernel_rfl) (fun KK tab hKK htab => ?_); (repeat (simp (disch := omega) [])); first | (refine dEnd_ro ?_ (hKK _ _ _ ?_); (focus (simp; done)); clear htab tab hKK KK; simp only [thenA, blockA, reduceIte]) | (refine dEnd_of ?_ (hKK _ _ _ ?_); (focus (simp only [List.reverse_cons, List.reverse_nil, List.nil_append, List.cons_append, memA, mem1, and_true, true_and]; (repeat' apply And.intro); (all_goals (first | trivial | (refine .inr ⟨?_, ?_⟩ <;> (simp; done)) | (refine .inr ⟨?_, ?_⟩ <;> (simp <;> omega)) | (refine .inl ?_; rw [htab]; kernel_rfl))); done)); clear htab tab hKK KK; simp only [thenA, blockA, reduceIte]) | skip)
    | (refine AWP.if_t ?_ ?_; focus (simp (disch := omega) []; done))
    | (refine AWP.if_f ?_ ?_; focus (simp (disch := omega) []; done)))
  refine aStop_of (named_c _ _ _ ds _ (hx'.vw ((Vw.refl _).over (by repeat (first | exact Over.refl _ | exact hov | refine Over.upd ?_ hB (by omega) | refine Over.del ?_ hB (by omega))))) (by omega)) ?_
  rintro r δ ⟨rfl, rfl⟩
  (repeat (simp (disch := omega) [hni]))
  first | (refine hKK _ _ _ ?_; clear hKK KK; simp only [thenA, blockA, reduceIte]) | skip
  repeat' (first
    | refine AWP.seq ?_
    | refine AWP.block ?_
    | (refine AWP.skip ?_; simp only [thenA, blockA, reduceIte])
    | (refine AWP.exit ?_; simp only [thenA, blockA, eq_self, reduceIte, Nat.reduceEqDiff, Nat.succ_ne_zero])
    | (refine AWP.ret ?_; simp only [thenA, blockA, reduceIte])
    | (refine AWP.region (by rfl) (fun KK hKK => ?_); (repeat (simp (disch := omega) [h1, h2, h3])); first | (refine hKK _ _ _ ?_; clear hKK KK; simp only [thenA, blockA, reduceIte]) | skip)
    | (refine AWP.draw' mixd (by rfl) (by kernel_rfl) (fun KK tab hKK htab => ?_); (repeat (simp (disch := omega) [h1, h2, h3])); first | (refine dEnd_ro ?_ (hKK _ _ _ ?_); (focus (simp; done)); clear htab tab hKK KK; simp only [thenA, blockA, reduceIte]) | (refine dEnd_of ?_ (hKK _ _ _ ?_); (focus (simp only [List.reverse_cons, List.reverse_nil, List.nil_append, List.cons_append, memA, mem1, and_true, true_and]; (repeat' apply And.intro); (all_goals (first | trivial | (refine .inr ⟨?_, ?_⟩ <;> (simp; done)) | (refine .inr ⟨?_, ?_⟩ <;> (simp <;> omega)) | (refine .inl ?_; rw [htab]; kernel_rfl))); done)); clear htab tab hKK KK; simp only [thenA, blockA, reduceIte]) | skip)
    | (refine AWP.if_t ?_ ?_; focus (simp (disch := omega) [h1, h2, h3]; done))
    | (refine AWP.if_f ?_ ?_; focus (simp (disch := omega) [h1, h2, h3]; done)))
  refine dStop_modF [K + 1 + 1 + 2 + 18, b] (K + 1 + 1 + 2 + 20) (fun σ' hσ' => concat2_c σ' _ _ true _ _ (ds.take i) (ds.drop (i + 1)) ((hσ' _ (by simp)).trans (by simp (disch := omega) only [upd_eq])) (ht.on ((hσ' _ (by simp)).trans (by simp (disch := omega) only [upd_ne]))) (hd.on ((hσ' _ (by simp)).trans (by simp (disch := omega) only [upd_ne]))) (by simp; omega)) ?_
  (repeat (simp (disch := omega) [← List.eraseIdx_eq_take_drop_succ]))
  first | (refine dEnd_ro ?_ (hKK _ _ _ ?_); (focus (simp; done)); clear htab tab hKK KK; simp only [thenA, blockA, reduceIte]) | (refine dEnd_of ?_ (hKK _ _ _ ?_); (focus (simp only [List.reverse_cons, List.reverse_nil, List.nil_append, List.cons_append, memA, mem1, and_true, true_and]; (repeat' apply And.intro); (all_goals (first | trivial | (refine .inr ⟨?_, ?_⟩ <;> (simp; done)) | (refine .inr ⟨?_, ?_⟩ <;> (simp <;> omega)) | (refine .inl ?_; rw [htab]; kernel_rfl))); done)); clear htab tab hKK KK; simp only [thenA, blockA, reduceIte]) | skip
  repeat' (first
    | refine AWP.seq ?_
    | refine AWP.block ?_
    | (refine AWP.skip ?_; simp only [thenA, blockA, reduceIte])
    | (refine AWP.exit ?_; simp only [thenA, blockA, eq_self, reduceIte, Nat.reduceEqDiff, Nat.succ_ne_zero])
    | (refine AWP.ret ?_; simp only [thenA, blockA, reduceIte])
    | (refine AWP.region (by rfl) (fun KK hKK => ?_); (repeat (simp (disch := omega) [])); first | (refine hKK _ _ _ ?_; clear hKK KK; simp only [thenA, blockA, reduceIte]) | skip)
    | (refine AWP.draw' mixd (by rfl) (by kernel_rfl) (fun KK tab hKK htab => ?_); (repeat (simp (disch := omega) [])); first | (refine dEnd_ro ?_ (hKK _ _ _ ?_); (focus (simp; done)); clear htab tab hKK KK; simp only [thenA, blockA, reduceIte]) | (refine dEnd_of ?_ (hKK _ _ _ ?_); (focus (simp only [List.reverse_cons, List.reverse_nil, List.nil_append, List.cons_append, memA, mem1, and_true, true_and]; (repeat' apply And.intro); (all_goals (first | trivial | (refine .inr ⟨?_, ?_⟩ <;> (simp; done)) | (refine .inr ⟨?_, ?_⟩ <;> (simp <;> omega)) | (refine .inl ?_; rw [htab]; kernel_rfl))); done)); clear htab tab hKK KK; simp only [thenA, blockA, reduceIte]) | skip)
    | (refine AWP.if_t ?_ ?_; focus (simp (disch := omega) []; done))
    | (refine AWP.if_f ?_ ?_; focus (simp (disch := omega) []; done)))
  refine dStop_ro [b] (fun σ' hσ' => validEnum_c σ' _ _ ds ((hx'.vw ((Vw.refl _).over (by repeat (first | exact Over.refl _ | exact hov | refine Over.upd ?_ hB (by omega) | refine Over.del ?_ hB (by omega))))).on (hσ' _ (by simp))) (by omega) hsz) ?_
  (repeat (simp (disch := omega) [hok]))
  first | (refine dEnd_ro ?_ (hKK _ _ _ ?_); (focus (simp; done)); clear htab tab hKK KK; simp only [thenA, blockA, reduceIte]) | (refine dEnd_of ?_ (hKK _ _ _ ?_); (focus (simp only [List.reverse_cons, List.reverse_nil, List.nil_append, List.cons_append, memA, mem1, and_true, true_and]; (repeat' apply And.intro); (all_goals (first | trivial | (refine .inr ⟨?_, ?_⟩ <;> (simp; done)) | (refine .inr ⟨?_, ?_⟩ <;> (simp <;> omega)) | (refine .inl ?_; rw [htab]; kernel_rfl))); done)); clear htab tab hKK KK; simp only [thenA, blockA, reduceIte]) | skip
  repeat' (first
    | refine AWP.seq ?_
    | refine AWP.block ?_
    | (refine AWP.skip ?_; simp only [thenA, blockA, reduceIte])
    | (refine AWP.exit ?_; simp only [thenA, blockA, eq_self, reduceIte, Nat.reduceEqDiff, Nat.succ_ne_zero])
    | (refine AWP.ret ?_; simp only [thenA, blockA, reduceIte])
    | (refine AWP.region (by rfl) (fun KK hKK => ?_); (repeat (simp (disch := omega) [])); first | (refine hKK _ _ _ ?_; clear hKK KK; simp only [thenA, blockA, reduceIte]) | skip)
    | (refine AWP.draw' mixd (by rfl) (by kernel_rfl) (fun KK tab hKK htab => ?_); (repeat (simp (disch := omega) [])); first | (refine dEnd_ro ?_ (hKK _ _ _ ?_); (focus (simp; done)); clear htab tab hKK KK; simp only [thenA, blockA, reduceIte]) | (refine dEnd_of ?_ (hKK _ _ _ ?_); (focus (simp only [List.reverse_cons, List.reverse_nil, List.nil_append, List.cons_append, memA, mem1, and_true, true_and]; (repeat' apply And.intro); (all_goals (first | trivial | (refine .inr ⟨?_, ?_⟩ <;> (simp; done)) | (refine .inr ⟨?_, ?_⟩ <;> (simp <;> omega)) | (refine .inl ?_; rw [htab]; kernel_rfl))); done)); clear htab tab hKK KK; simp only [thenA, blockA, reduceIte]) | skip)
    | (refine AWP.if_t ?_ ?_; focus (simp (disch := omega) []; done))
    | (refine AWP.if_f ?_ ?_; focus (simp (disch := omega) []; done)))
  refine dStop_ro [K + 1 + 1 + 2 + 20] (fun σ' hσ' => enumOf_no σ' _ _ false (ds.eraseIdx i) (Sl.whole (t := 34) (r := true) ((hσ' _ (by simp)).trans (by simp (disch := omega) only [upd_eq, upd_ne])) (by simp [rowsD_len])) (by omega) hsz2 rfl) ?_
  (repeat (simp (disch := omega) []))
  first | (refine dEnd_ro ?_ (hKK _ _ _ ?_); (focus (simp; done)); clear htab tab hKK KK; simp only [thenA, blockA, reduceIte]) | (refine dEnd_of ?_ (hKK _ _ _ ?_); (focus (simp only [List.reverse_cons, List.reverse_nil, List.nil_append, List.cons_append, memA, mem1, and_true, true_and]; (repeat' apply And.intro); (all_goals (first | trivial | (refine .inr ⟨?_, ?_⟩ <;> (simp; done)) | (refine .inr ⟨?_, ?_⟩ <;> (simp <;> omega)) | (refine .inl ?_; rw [htab]; kernel_rfl))); done)); clear htab tab hKK KK; simp only [thenA, blockA, reduceIte]) | skip
  repeat' (first
    | refine AWP.seq ?_
    | refine AWP.block ?_
    | (refine AWP.skip ?_; simp only [thenA, blockA, reduceIte])
    | (refine AWP.exit ?_; simp only [thenA, blockA, eq_self, reduceIte, Nat.reduceEqDiff, Nat.succ_ne_zero])
    | (refine AWP.ret ?_; simp only [thenA, blockA, reduceIte])
    | (refine AWP.region (by rfl) (fun KK hKK => ?_); (repeat (simp (disch := omega) [])); first | (refine hKK _ _ _ ?_; clear hKK KK; simp only [thenA, blockA, reduceIte]) | skip)
    | (refine AWP.draw' mixd (by rfl) (by kernel_rfl) (fun KK tab hKK htab => ?_); (repeat (simp (disch := omega) [])); first | (refine dEnd_ro ?_ (hKK _ _ _ ?_); (focus (simp; done)); clear htab tab hKK KK; simp only [thenA, blockA, reduceIte]) | (refine dEnd_of ?_ (hKK _ _ _ ?_); (focus (simp only [List.reverse_cons, List.reverse_nil, List.nil_append, List.cons_append, memA, mem1, and_true, true_and]; (repeat' apply And.intro); (all_goals (first | trivial | (refine .inr ⟨?_, ?_⟩ <;> (simp; done)) | (refine .inr ⟨?_, ?_⟩ <;> (simp <;> omega)) | (refine .inl ?_; rw [htab]; kernel_rfl))); done)); clear htab tab hKK KK; simp only [thenA, blockA, reduceIte]) | skip)
    | (refine AWP.if_t ?_ ?_; focus (simp (disch := omega) []; done))
    | (refine AWP.if_f ?_ ?_; focus (simp (disch := omega) []; done)))
  refine ⟨by simp, ?_⟩
  have hres : Try.f98.results.toList = [.cell 4 25, .tmp 5] := rfl
  rw [hres]
  simp (disch := omega) []
  refine fin0 ⟨?_, rfl⟩ (by simp [resO, nms, nmss])
  simp [resO, ren, rens, rho, hK0, hK1]

theorem dropDef_o (σ : Sto) (ν : Nat) (x : AV) (ds : List Df) (t : ByteArray) (hx : Sl σ x 2 (rowsD ds)) (hlen : ds.length ≤ 4294967296) (hsz : ∀ d ∈ ds, d.1.size ≤ 9223372036854775807) :
    AC Try.prog 98 [.agg [x], .v (.string t)] σ ν fun r δ => r = .tup [.agg [eOut ν some (dropO ds t)], .v (.bool (dropO ds t).isSome)] ∧ δ = dOut ν (dropO ds t) := by
  rcases nameIx_cases ds t with h | ⟨i, hil, hi, _⟩
  · have e : dropO ds t = none := by unfold dropO; rw [if_neg (by omega)]
    rw [e, eOut_none, dOut_none]
    exact dropDef_no0 σ ν x ds t hx hlen h
  · cases hok : okDs (-1000) 1000 ds with
    | false =>
      have e : dropO ds t = none := by unfold dropO; rw [if_neg (by simp [hok])]
      rw [e, eOut_none, dOut_none]
      exact dropDef_no σ ν x ds t i hx hlen hsz hil hi hok
    | true =>
      have e : dropO ds t = some (ds.eraseIdx i) := by unfold dropO; rw [if_pos ⟨hok, by omega⟩, hi]; rfl
      rw [e, eOut_some, dOut_some]
      exact dropDef_yes σ ν x ds t i hx hlen hsz hil hi hok

end Go.Proofs.Ytgaiemhbllbaiaa
