/- Contracts of the generators: an enumeration and one of its names; the reader made. No condition. -/
import Derived.Test.YthjjfdbkggiaeaaG4
set_option linter.unusedSimpArgs false
set_option linter.unusedVariables false
namespace Go.Proofs.Ythjjfdbkggiaeaa
open Go Go.RowKit

def GotES (ν rb : Nat) (x : AV) (p : Int) (m N : Nat) (r : AV) (δ : Sto) : Prop := ∃ (ds : List Df) (q : Int) (nm : ByteArray), Gd ds m ∧ nm.size ≤ 7 ∧ p ≤ q ∧ q ≤ p + N ∧ r = .tup [.agg [.sl ν 0 ds.length none 2], .v (.string nm)] ∧ δ = upd (upd noS rb (rdB x q)) ν (blkD ds)

set_option maxRecDepth 10000 in
set_option maxHeartbeats 4000000 in
theorem nameIn_c (σ : Sto) (ν rb : Nat) (x : AV) (bs : List Int) (p : Int) (hb : σ rb = some (rdB x p)) (hx : Sl σ x 1 (rowsB bs)) (h8 : Code8 bs) (hp : 0 ≤ p ∧ p ≤ 80000) :
    AC Try.prog 86 [.ptr rb 0 0] σ ν (GotES ν rb x p 25 300) := by
  obtain ⟨bx, ox, capx, zx, rfl⟩ := hx.out
  simp only [rowsB_len] at hx hb ⊢
  refine AC.intro [rb] ent_86 Try.func86 rfl (by simp [Try.f86]) (by simp [hb]) ?_
  intro K s hs hB hn hν hA hFr
  simp only [argT, Nat.zero_add, Nat.reduceAdd]
  have hrb : s rb = some (rdB (.sl bx ox bs.length capx zx) p) := by rw [hs rb, hb]; simp
  obtain ⟨hrK, hlo⟩ := hB rb _ hrb
  have hx' := hx.vw hs.vw
  have hrν : rb ≠ ν := fun e => by rw [e] at hb; rw [hFr.1] at hb; cases hb
  repeat' (first
    | refine AWP.seq ?_
    | refine AWP.block ?_
    | (refine AWP.skip ?_; simp only [thenA, blockA, reduceIte])
    | (refine AWP.exit ?_; simp only [thenA, blockA, eq_self, reduceIte, Nat.reduceEqDiff, Nat.succ_ne_zero])
    | (refine AWP.ret ?_; simp only [thenA, blockA, reduceIte])
    | (refine AWP.region (by rfl) (fun KK hKK => ?_); (repeat (simp (disch := omega) [])); first | (refine hKK _ _ _ ?_; clear hKK KK; simp only [thenA, blockA, reduceIte]) | skip)
    | (refine AWP.draw' mixd (by rfl) (by kernel_rfl) (fun KK tab hKK htab => ?_); (repeat (simp (disch := omega) [])); first | (refine dEnd_ro ?_ (hKK _ _ _ ?_); (focus (simp; done)); clear htab tab hKK KK; simp only [thenA, blockA, reduceIte]) | (refine dEnd_of ?_ (hKK _ _ _ ?_); (focus (simp only [List.reverse_cons, List.reverse_nil, List.nil_append, List.cons_append, memA, mem1, and_true, true_and]; (repeat' apply And.intro); (all_goals (first | trivial | (refine .inr ⟨?_, ?_⟩ <;> (simp; done)) | (refine .inr ⟨?_, ?_⟩ <;> (simp <;> omega)) | (refine .inl ?_; rw [htab]; kernel_rfl))); done)); clear htab tab hKK KK; simp only [thenA, blockA, reduceIte]) | skip)
    | (refine AWP.if_t ?_ ?_; focus (simp (disch := omega) []; done))
    | (refine AWP.if_f ?_ ?_; focus (simp (disch := omega) []; done)))
  refine aStop_of (someEnum_c _ _ rb _ bs p (by simp (disch := omega) only [upd_eq, upd_ne, del_ne, hrb]) (hx'.ovb hrb (fun c kc hc h => by have := (hB c kc h).1; first | exact h | (simp (disch := omega) only [upd_ne, del_ne]; exact h))) h8 (by omega)) ?_
  rintro r δ ⟨ds, q, hgd, hq0, hq1, rfl, rfl⟩
  (repeat (simp (disch := omega) []))
  first | (refine hKK _ _ _ ?_; clear hKK KK; simp only [thenA, blockA, reduceIte]) | skip
  by_cases hl : ¬ 0 < ds.length
  · repeat' (first
      | refine AWP.seq ?_
      | refine AWP.block ?_
      | (refine AWP.skip ?_; simp only [thenA, blockA, reduceIte])
      | (refine AWP.exit ?_; simp only [thenA, blockA, eq_self, reduceIte, Nat.reduceEqDiff, Nat.succ_ne_zero])
      | (refine AWP.ret ?_; simp only [thenA, blockA, reduceIte])
      | (refine AWP.region (by rfl) (fun KK hKK => ?_); (repeat (simp (disch := omega) [hl])); first | (refine hKK _ _ _ ?_; clear hKK KK; simp only [thenA, blockA, reduceIte]) | skip)
      | (refine AWP.draw' mixd (by rfl) (by kernel_rfl) (fun KK tab hKK htab => ?_); (repeat (simp (disch := omega) [hl])); first | (refine dEnd_ro ?_ (hKK _ _ _ ?_); (focus (simp; done)); clear htab tab hKK KK; simp only [thenA, blockA, reduceIte]) | (refine dEnd_of ?_ (hKK _ _ _ ?_); (focus (simp only [List.reverse_cons, List.reverse_nil, List.nil_append, List.cons_append, memA, mem1, and_true, true_and]; (repeat' apply And.intro); (all_goals (first | trivial | (refine .inr ⟨?_, ?_⟩ <;> (simp; done)) | (refine .inr ⟨?_, ?_⟩ <;> (simp <;> omega)) | (refine .inl ?_; rw [htab]; kernel_rfl))); done)); clear htab tab hKK KK; simp only [thenA, blockA, reduceIte]) | skip)
      | (refine AWP.if_t ?_ ?_; focus (simp (disch := omega) [hl]; done))
      | (refine AWP.if_f ?_ ?_; focus (simp (disch := omega) [hl]; done)))
    refine dStop_modF [rb, bx] rb (fun σ' hσ' => anyName_c σ' _ rb _ bs q ((hσ' _ (by simp)).trans (by simp (disch := omega) only [upd_eq, upd_ne, del_ne, hrb])) ((hx'.ovb hrb (fun c kc hc h => by have := (hB c kc h).1; first | exact h | (simp (disch := omega) only [upd_ne, del_ne]; exact h))).on (hσ' _ (by simp))) h8 (by omega)) ?_
    (repeat (simp (disch := omega) []))
    first | (refine dEnd_ro ?_ (hKK _ _ _ ?_); (focus (simp; done)); clear htab tab hKK KK; simp only [thenA, blockA, reduceIte]) | (refine dEnd_of ?_ (hKK _ _ _ ?_); (focus (simp only [List.reverse_cons, List.reverse_nil, List.nil_append, List.cons_append, memA, mem1, and_true, true_and]; (repeat' apply And.intro); (all_goals (first | trivial | (refine .inr ⟨?_, ?_⟩ <;> (simp; done)) | (refine .inr ⟨?_, ?_⟩ <;> (simp <;> omega)) | (refine .inl ?_; rw [htab]; kernel_rfl))); done)); clear htab tab hKK KK; simp only [thenA, blockA, reduceIte]) | skip
    repeat' (first
      | refine AWP.seq ?_
      | refine AWP.block ?_
      | (refine AWP.skip ?_; simp only [thenA, blockA, reduceIte])
      | (refine AWP.exit ?_; simp only [thenA, blockA, eq_self, reduceIte, Nat.reduceEqDiff, Nat.succ_ne_zero])
      | (refine AWP.ret ?_; simp only [thenA, blockA, reduceIte])
      | (refine AWP.region (by rfl) (fun KK hKK => ?_); (repeat (simp (disch := omega) [hl])); first | (refine hKK _ _ _ ?_; clear hKK KK; simp only [thenA, blockA, reduceIte]) | skip)
      | (refine AWP.draw' mixd (by rfl) (by kernel_rfl) (fun KK tab hKK htab => ?_); (repeat (simp (disch := omega) [hl])); first | (refine dEnd_ro ?_ (hKK _ _ _ ?_); (focus (simp; done)); clear htab tab hKK KK; simp only [thenA, blockA, reduceIte]) | (refine dEnd_of ?_ (hKK _ _ _ ?_); (focus (simp only [List.reverse_cons, List.reverse_nil, List.nil_append, List.cons_append, memA, mem1, and_true, true_and]; (repeat' apply And.intro); (all_goals (first | trivial | (refine .inr ⟨?_, ?_⟩ <;> (simp; done)) | (refine .inr ⟨?_, ?_⟩ <;> (simp <;> omega)) | (refine .inl ?_; rw [htab]; kernel_rfl))); done)); clear htab tab hKK KK; simp only [thenA, blockA, reduceIte]) | skip)
      | (refine AWP.if_t ?_ ?_; focus (simp (disch := omega) [hl]; done))
      | (refine AWP.if_f ?_ ?_; focus (simp (disch := omega) [hl]; done)))
    refine ⟨by simp, ?_⟩
    have hres : Try.f86.results.toList = [.cell 2 25, .tmp 3] := rfl
    rw [hres]
    simp (disch := omega) []
    refine fin1M (K + 1) (rdB (.sl bx ox bs.length capx zx) (q + 2)) (blkD ds) (by simp (disch := omega) only [upd_eq, upd_ne, del_ne, hrb]) rfl (low_rd hlo) (by simp (disch := omega) only [upd_eq, upd_ne, del_ne]) rfl (flatD _).low hrν ⟨ds, q + 2, anyNameF bs q, hgd, anyNameF_sz h8 (by omega), by omega, by omega, by simp [resO, ren, rens, rho], rfl⟩ (by omega) (by simp [resO, nms, nmss])
  have hl : 0 < ds.length := by omega
  by_cases c0 : 0 < pk bs q 6
  · repeat' (first
      | refine AWP.seq ?_
      | refine AWP.block ?_
      | (refine AWP.skip ?_; simp only [thenA, blockA, reduceIte])
      | (refine AWP.exit ?_; simp only [thenA, blockA, eq_self, reduceIte, Nat.reduceEqDiff, Nat.succ_ne_zero])
      | (refine AWP.ret ?_; simp only [thenA, blockA, reduceIte])
      | (refine AWP.region (by rfl) (fun KK hKK => ?_); (repeat (simp (disch := omega) [hl])); first | (refine hKK _ _ _ ?_; clear hKK KK; simp only [thenA, blockA, reduceIte]) | skip)
      | (refine AWP.draw' mixd (by rfl) (by kernel_rfl) (fun KK tab hKK htab => ?_); (repeat (simp (disch := omega) [hl])); first | (refine dEnd_ro ?_ (hKK _ _ _ ?_); (focus (simp; done)); clear htab tab hKK KK; simp only [thenA, blockA, reduceIte]) | (refine dEnd_of ?_ (hKK _ _ _ ?_); (focus (simp only [List.reverse_cons, List.reverse_nil, List.nil_append, List.cons_append, memA, mem1, and_true, true_and]; (repeat' apply And.intro); (all_goals (first | trivial | (refine .inr ⟨?_, ?_⟩ <;> (simp; done)) | (refine .inr ⟨?_, ?_⟩ <;> (simp <;> omega)) | (refine .inl ?_; rw [htab]; kernel_rfl))); done)); clear htab tab hKK KK; simp only [thenA, blockA, reduceIte]) | skip)
      | (refine AWP.if_t ?_ ?_; focus (simp (disch := omega) [hl]; done))
      | (refine AWP.if_f ?_ ?_; focus (simp (disch := omega) [hl]; done)))
    refine aStop_of (pick_c _ _ rb _ bs q 6 (by simp (disch := omega) only [upd_eq, upd_ne, del_ne, hrb]) (hx'.ovb hrb (fun c kc hc h => by have := (hB c kc h).1; first | exact h | (simp (disch := omega) only [upd_ne, del_ne]; exact h))) h8 (by omega)) ?_
    rintro r δ ⟨rfl, rfl⟩
    (repeat (simp (disch := omega) [c0]))
    first | (refine hKK _ _ _ ?_; clear hKK KK; simp only [thenA, blockA, reduceIte]) | skip
    have hk := pk_bd h8 (p := q + 1) (n := ds.length) (by omega) (by omega)
    have k0 := hk.1
    have k1 := hk.2
    have hil : (pk bs (q + 1) ds.length).toNat < ds.length := by omega
    have hrow := rowsD_at ds _ hil
    repeat' (first
      | refine AWP.seq ?_
      | refine AWP.block ?_
      | (refine AWP.skip ?_; simp only [thenA, blockA, reduceIte])
      | (refine AWP.exit ?_; simp only [thenA, blockA, eq_self, reduceIte, Nat.reduceEqDiff, Nat.succ_ne_zero])
      | (refine AWP.ret ?_; simp only [thenA, blockA, reduceIte])
      | (refine AWP.region (by rfl) (fun KK hKK => ?_); (repeat (simp (disch := omega) [hl])); first | (refine hKK _ _ _ ?_; clear hKK KK; simp only [thenA, blockA, reduceIte]) | skip)
      | (refine AWP.draw' mixd (by rfl) (by kernel_rfl) (fun KK tab hKK htab => ?_); (repeat (simp (disch := omega) [hl])); first | (refine dEnd_ro ?_ (hKK _ _ _ ?_); (focus (simp; done)); clear htab tab hKK KK; simp only [thenA, blockA, reduceIte]) | (refine dEnd_of ?_ (hKK _ _ _ ?_); (focus (simp only [List.reverse_cons, List.reverse_nil, List.nil_append, List.cons_append, memA, mem1, and_true, true_and]; (repeat' apply And.intro); (all_goals (first | trivial | (refine .inr ⟨?_, ?_⟩ <;> (simp; done)) | (refine .inr ⟨?_, ?_⟩ <;> (simp <;> omega)) | (refine .inl ?_; rw [htab]; kernel_rfl))); done)); clear htab tab hKK KK; simp only [thenA, blockA, reduceIte]) | skip)
      | (refine AWP.if_t ?_ ?_; focus (simp (disch := omega) [hl]; done))
      | (refine AWP.if_f ?_ ?_; focus (simp (disch := omega) [hl]; done)))
    refine dStop_modF [rb, bx] rb (fun σ' hσ' => pick_c σ' _ rb _ bs (q + 1) ds.length ((hσ' _ (by simp)).trans (by simp (disch := omega) only [upd_eq, upd_ne, del_ne, hrb])) ((hx'.ovb hrb (fun c kc hc h => by have := (hB c kc h).1; first | exact h | (simp (disch := omega) only [upd_ne, del_ne]; exact h))).on (hσ' _ (by simp))) h8 (by omega)) ?_
    (repeat (simp (disch := omega) [k0, k1, hrow]))
    first | (refine dEnd_ro ?_ (hKK _ _ _ ?_); (focus (simp; done)); clear htab tab hKK KK; simp only [thenA, blockA, reduceIte]) | (refine dEnd_of ?_ (hKK _ _ _ ?_); (focus (simp only [List.reverse_cons, List.reverse_nil, List.nil_append, List.cons_append, memA, mem1, and_true, true_and]; (repeat' apply And.intro); (all_goals (first | trivial | (refine .inr ⟨?_, ?_⟩ <;> (simp; done)) | (refine .inr ⟨?_, ?_⟩ <;> (simp <;> omega)) | (refine .inl ?_; rw [htab]; kernel_rfl))); done)); clear htab tab hKK KK; simp only [thenA, blockA, reduceIte]) | skip
    repeat' (first
      | refine AWP.seq ?_
      | refine AWP.block ?_
      | (refine AWP.skip ?_; simp only [thenA, blockA, reduceIte])
      | (refine AWP.exit ?_; simp only [thenA, blockA, eq_self, reduceIte, Nat.reduceEqDiff, Nat.succ_ne_zero])
      | (refine AWP.ret ?_; simp only [thenA, blockA, reduceIte])
      | (refine AWP.region (by rfl) (fun KK hKK => ?_); (repeat (simp (disch := omega) [hl])); first | (refine hKK _ _ _ ?_; clear hKK KK; simp only [thenA, blockA, reduceIte]) | skip)
      | (refine AWP.draw' mixd (by rfl) (by kernel_rfl) (fun KK tab hKK htab => ?_); (repeat (simp (disch := omega) [hl])); first | (refine dEnd_ro ?_ (hKK _ _ _ ?_); (focus (simp; done)); clear htab tab hKK KK; simp only [thenA, blockA, reduceIte]) | (refine dEnd_of ?_ (hKK _ _ _ ?_); (focus (simp only [List.reverse_cons, List.reverse_nil, List.nil_append, List.cons_append, memA, mem1, and_true, true_and]; (repeat' apply And.intro); (all_goals (first | trivial | (refine .inr ⟨?_, ?_⟩ <;> (simp; done)) | (refine .inr ⟨?_, ?_⟩ <;> (simp <;> omega)) | (refine .inl ?_; rw [htab]; kernel_rfl))); done)); clear htab tab hKK KK; simp only [thenA, blockA, reduceIte]) | skip)
      | (refine AWP.if_t ?_ ?_; focus (simp (disch := omega) [hl]; done))
      | (refine AWP.if_f ?_ ?_; focus (simp (disch := omega) [hl]; done)))
    refine ⟨by simp, ?_⟩
    have hres : Try.f86.results.toList = [.cell 2 25, .tmp 3] := rfl
    rw [hres]
    simp (disch := omega) []
    refine fin1M (K + 1) (rdB (.sl bx ox bs.length capx zx) (q + 1 + 1)) (blkD ds) (by simp (disch := omega) only [upd_eq, upd_ne, del_ne, hrb]) rfl (low_rd hlo) (by simp (disch := omega) only [upd_eq, upd_ne, del_ne]) rfl (flatD _).low hrν ⟨ds, q + 1 + 1, _, hgd, hgd.sz _ (List.getElem_mem hil), by omega, by omega, by simp [resO, ren, rens, rho], rfl⟩ (by omega) (by simp [resO, nms, nmss])
  · repeat' (first
      | refine AWP.seq ?_
      | refine AWP.block ?_
      | (refine AWP.skip ?_; simp only [thenA, blockA, reduceIte])
      | (refine AWP.exit ?_; simp only [thenA, blockA, eq_self, reduceIte, Nat.reduceEqDiff, Nat.succ_ne_zero])
      | (refine AWP.ret ?_; simp only [thenA, blockA, reduceIte])
      | (refine AWP.region (by rfl) (fun KK hKK => ?_); (repeat (simp (disch := omega) [hl])); first | (refine hKK _ _ _ ?_; clear hKK KK; simp only [thenA, blockA, reduceIte]) | skip)
      | (refine AWP.draw' mixd (by rfl) (by kernel_rfl) (fun KK tab hKK htab => ?_); (repeat (simp (disch := omega) [hl])); first | (refine dEnd_ro ?_ (hKK _ _ _ ?_); (focus (simp; done)); clear htab tab hKK KK; simp only [thenA, blockA, reduceIte]) | (refine dEnd_of ?_ (hKK _ _ _ ?_); (focus (simp only [List.reverse_cons, List.reverse_nil, List.nil_append, List.cons_append, memA, mem1, and_true, true_and]; (repeat' apply And.intro); (all_goals (first | trivial | (refine .inr ⟨?_, ?_⟩ <;> (simp; done)) | (refine .inr ⟨?_, ?_⟩ <;> (simp <;> omega)) | (refine .inl ?_; rw [htab]; kernel_rfl))); done)); clear htab tab hKK KK; simp only [thenA, blockA, reduceIte]) | skip)
      | (refine AWP.if_t ?_ ?_; focus (simp (disch := omega) [hl]; done))
      | (refine AWP.if_f ?_ ?_; focus (simp (disch := omega) [hl]; done)))
    refine aStop_of (pick_c _ _ rb _ bs q 6 (by simp (disch := omega) only [upd_eq, upd_ne, del_ne, hrb]) (hx'.ovb hrb (fun c kc hc h => by have := (hB c kc h).1; first | exact h | (simp (disch := omega) only [upd_ne, del_ne]; exact h))) h8 (by omega)) ?_
    rintro r δ ⟨rfl, rfl⟩
    (repeat (simp (disch := omega) [c0]))
    first | (refine hKK _ _ _ ?_; clear hKK KK; simp only [thenA, blockA, reduceIte]) | skip
    repeat' (first
      | refine AWP.seq ?_
      | refine AWP.block ?_
      | (refine AWP.skip ?_; simp only [thenA, blockA, reduceIte])
      | (refine AWP.exit ?_; simp only [thenA, blockA, eq_self, reduceIte, Nat.reduceEqDiff, Nat.succ_ne_zero])
      | (refine AWP.ret ?_; simp only [thenA, blockA, reduceIte])
      | (refine AWP.region (by rfl) (fun KK hKK => ?_); (repeat (simp (disch := omega) [hl])); first | (refine hKK _ _ _ ?_; clear hKK KK; simp only [thenA, blockA, reduceIte]) | skip)
      | (refine AWP.draw' mixd (by rfl) (by kernel_rfl) (fun KK tab hKK htab => ?_); (repeat (simp (disch := omega) [hl])); first | (refine dEnd_ro ?_ (hKK _ _ _ ?_); (focus (simp; done)); clear htab tab hKK KK; simp only [thenA, blockA, reduceIte]) | (refine dEnd_of ?_ (hKK _ _ _ ?_); (focus (simp only [List.reverse_cons, List.reverse_nil, List.nil_append, List.cons_append, memA, mem1, and_true, true_and]; (repeat' apply And.intro); (all_goals (first | trivial | (refine .inr ⟨?_, ?_⟩ <;> (simp; done)) | (refine .inr ⟨?_, ?_⟩ <;> (simp <;> omega)) | (refine .inl ?_; rw [htab]; kernel_rfl))); done)); clear htab tab hKK KK; simp only [thenA, blockA, reduceIte]) | skip)
      | (refine AWP.if_t ?_ ?_; focus (simp (disch := omega) [hl]; done))
      | (refine AWP.if_f ?_ ?_; focus (simp (disch := omega) [hl]; done)))
    refine dStop_modF [rb, bx] rb (fun σ' hσ' => anyName_c σ' _ rb _ bs (q + 1) ((hσ' _ (by simp)).trans (by simp (disch := omega) only [upd_eq, upd_ne, del_ne, hrb])) ((hx'.ovb hrb (fun c kc hc h => by have := (hB c kc h).1; first | exact h | (simp (disch := omega) only [upd_ne, del_ne]; exact h))).on (hσ' _ (by simp))) h8 (by omega)) ?_
    (repeat (simp (disch := omega) []))
    first | (refine dEnd_ro ?_ (hKK _ _ _ ?_); (focus (simp; done)); clear htab tab hKK KK; simp only [thenA, blockA, reduceIte]) | (refine dEnd_of ?_ (hKK _ _ _ ?_); (focus (simp only [List.reverse_cons, List.reverse_nil, List.nil_append, List.cons_append, memA, mem1, and_true, true_and]; (repeat' apply And.intro); (all_goals (first | trivial | (refine .inr ⟨?_, ?_⟩ <;> (simp; done)) | (refine .inr ⟨?_, ?_⟩ <;> (simp <;> omega)) | (refine .inl ?_; rw [htab]; kernel_rfl))); done)); clear htab tab hKK KK; simp only [thenA, blockA, reduceIte]) | skip
    repeat' (first
      | refine AWP.seq ?_
      | refine AWP.block ?_
      | (refine AWP.skip ?_; simp only [thenA, blockA, reduceIte])
      | (refine AWP.exit ?_; simp only [thenA, blockA, eq_self, reduceIte, Nat.reduceEqDiff, Nat.succ_ne_zero])
      | (refine AWP.ret ?_; simp only [thenA, blockA, reduceIte])
      | (refine AWP.region (by rfl) (fun KK hKK => ?_); (repeat (simp (disch := omega) [hl])); first | (refine hKK _ _ _ ?_; clear hKK KK; simp only [thenA, blockA, reduceIte]) | skip)
      | (refine AWP.draw' mixd (by rfl) (by kernel_rfl) (fun KK tab hKK htab => ?_); (repeat (simp (disch := omega) [hl])); first | (refine dEnd_ro ?_ (hKK _ _ _ ?_); (focus (simp; done)); clear htab tab hKK KK; simp only [thenA, blockA, reduceIte]) | (refine dEnd_of ?_ (hKK _ _ _ ?_); (focus (simp only [List.reverse_cons, List.reverse_nil, List.nil_append, List.cons_append, memA, mem1, and_true, true_and]; (repeat' apply And.intro); (all_goals (first | trivial | (refine .inr ⟨?_, ?_⟩ <;> (simp; done)) | (refine .inr ⟨?_, ?_⟩ <;> (simp <;> omega)) | (refine .inl ?_; rw [htab]; kernel_rfl))); done)); clear htab tab hKK KK; simp only [thenA, blockA, reduceIte]) | skip)
      | (refine AWP.if_t ?_ ?_; focus (simp (disch := omega) [hl]; done))
      | (refine AWP.if_f ?_ ?_; focus (simp (disch := omega) [hl]; done)))
    refine ⟨by simp, ?_⟩
    have hres : Try.f86.results.toList = [.cell 2 25, .tmp 3] := rfl
    rw [hres]
    simp (disch := omega) []
    refine fin1M (K + 1) (rdB (.sl bx ox bs.length capx zx) (q + 1 + 2)) (blkD ds) (by simp (disch := omega) only [upd_eq, upd_ne, del_ne, hrb]) rfl (low_rd hlo) (by simp (disch := omega) only [upd_eq, upd_ne, del_ne]) rfl (flatD _).low hrν ⟨ds, q + 1 + 2, anyNameF bs (q + 1), hgd, anyNameF_sz h8 (by omega), by omega, by omega, by simp [resO, ren, rens, rho], rfl⟩ (by omega) (by simp [resO, nms, nmss])

/-- A reader is made: of at most 2000 bytes. -/
def Rdr (σ : Sto) (ν : Nat) (r : AV) (δ : Sto) : Prop := ∃ (x : AV) (bs : List Int), Sl σ x 1 (rowsB bs) ∧ Code8 bs ∧ r = .ptr ν 0 0 ∧ δ = upd noS ν (rdB x 0)
set_option maxRecDepth 10000 in
set_option maxHeartbeats 1000000 in
theorem newReader_c (σ : Sto) (ν : Nat) (x : AV) (bs : List Int) (hx : Sl σ x 1 (rowsB bs)) (h8 : ∀ y ∈ bs, 0 ≤ y ∧ y ≤ 255) (hl : bs.length ≤ 9223372036854775807) :
    AC Try.prog 63 [x] σ ν (Rdr σ ν) := by
  obtain ⟨b, o, cap, z, rfl⟩ := hx.out
  simp only [rowsB_len] at hx ⊢
  refine AC.intro [] ent_63 Try.func63 rfl (by simp [Try.f63]) (by simp) ?_
  intro K s hs hB hn hν hA hFr
  simp only [argT, Nat.zero_add, Nat.reduceAdd]
  have hbK : b < K := hA b (by simp [nmAs, nmA])
  have e1 : b ≠ K := by omega
  have e2 : b ≠ K + 1 := by omega
  by_cases h : (2000 : Int) < bs.length
  · obtain ⟨_, rfl, _⟩ := hx.at (i := 0) (by rw [rowsB_len]; omega)
    have hle : 2000 ≤ bs.length := by omega
    repeat' (first
      | refine AWP.seq ?_
      | refine AWP.block ?_
      | (refine AWP.skip ?_; simp only [thenA, blockA, reduceIte])
      | (refine AWP.exit ?_; simp only [thenA, blockA, eq_self, reduceIte, Nat.reduceEqDiff, Nat.succ_ne_zero])
      | (refine AWP.ret ?_; simp only [thenA, blockA, reduceIte])
      | (refine AWP.region (by rfl) (fun KK hKK => ?_); (repeat (simp (disch := omega) [h, hle])); first | (refine hKK _ _ _ ?_; clear hKK KK; simp only [thenA, blockA, reduceIte]) | skip)
      | (refine AWP.if_t ?_ ?_; focus (simp (disch := omega) [h, hle]; done))
      | (refine AWP.if_f ?_ ?_; focus (simp (disch := omega) [h, hle]; done)))
    have ht := hx.take (i := 2000) (by rw [rowsB_len]; exact hle) cap id
    have e : (rowsB bs).take 2000 = rowsB (bs.take 2000) := by simp [rowsB, List.map_take]
    rw [e] at ht
    refine ⟨by simp, _, rfl, fin1L K (rdB (.sl b o 2000 cap 1) 0) (by simp) rfl ?_ ⟨.sl b o 2000 cap 1, bs.take 2000, ht, ⟨fun y hy => h8 y (List.mem_of_mem_take hy), by simp; omega⟩, ?_, ?_⟩ (by omega) (by simp [resO, get, nms, nmss])⟩
    · intro e he v hv n hn'
      simp only [List.mem_singleton] at he
      subst he
      simp only [List.mem_cons, List.not_mem_nil, or_false] at hv
      rcases hv with rfl | rfl
      · exact hn n (by simp [nmss, nms] at hn' ⊢; exact hn')
      · simp [nms] at hn'
    · simp [resO, get, ren, rho]
    · rfl
  · repeat' (first
      | refine AWP.seq ?_
      | refine AWP.block ?_
      | (refine AWP.skip ?_; simp only [thenA, blockA, reduceIte])
      | (refine AWP.exit ?_; simp only [thenA, blockA, eq_self, reduceIte, Nat.reduceEqDiff, Nat.succ_ne_zero])
      | (refine AWP.ret ?_; simp only [thenA, blockA, reduceIte])
      | (refine AWP.region (by rfl) (fun KK hKK => ?_); (repeat (simp (disch := omega) [h])); first | (refine hKK _ _ _ ?_; clear hKK KK; simp only [thenA, blockA, reduceIte]) | skip)
      | (refine AWP.if_t ?_ ?_; focus (simp (disch := omega) [h]; done))
      | (refine AWP.if_f ?_ ?_; focus (simp (disch := omega) [h]; done)))
    refine ⟨by simp, _, rfl, fin1L K (rdB (.sl b o bs.length cap z) 0) (by simp) rfl ?_ ⟨.sl b o bs.length cap z, bs, hx, ⟨h8, by omega⟩, ?_, ?_⟩ (by omega) (by simp [resO, get, nms, nmss])⟩
    · intro e he v hv n hn'
      simp only [List.mem_singleton] at he
      subst he
      simp only [List.mem_cons, List.not_mem_nil, or_false] at hv
      rcases hv with rfl | rfl
      · exact hn n (by simp [nmss, hn'])
      · simp [nms] at hn'
    · simp [resO, get, ren, rho]
    · rfl
end Go.Proofs.Ythjjfdbkggiaeaa
