/- Contracts of the generators of arguments: TableOf's. No condition. -/
import Derived.Test.YtkddpkjgmmmcpaaT4
import Derived.Test.YtkddpkjgmmmcpaaPM
set_option linter.unusedSimpArgs false
set_option linter.unusedVariables false
namespace Go.Proofs.Ytkddpkjgmmmcpaa
open Go Go.RowKit

theorem Gd.erase2 {ds : List Df} {m : Nat} (h : Gd ds m) (i : Nat) : Gd (ds.eraseIdx i) m :=
  ⟨Nat.le_trans (List.length_eraseIdx_le ds i) h.len, fun d hd => h.sz d (List.mem_of_mem_eraseIdx hd), fun d hd => h.lo d (List.mem_of_mem_eraseIdx hd), fun d hd => h.hi d (List.mem_of_mem_eraseIdx hd)⟩
def DrewTab (ν : Nat) (r : AV) (δ : Sto) : Prop := ∃ ds L : List Df, Gd ds 25 ∧ Gd L 25 ∧ r = .tup [.agg [.sl ν 0 ds.length none 2], .sl (ν + 1) 0 L.length none 2] ∧ δ = upd (upd noS ν (blkD ds)) (ν + 1) (blkD L)
set_option maxRecDepth 10000 in
set_option maxHeartbeats 8000000 in
theorem DrawTableOf_c (σ : Sto) (ν : Nat) (x : AV) (bs : List Int) (hx : Sl σ x 1 (rowsB bs)) (h8 : ∀ y ∈ bs, 0 ≤ y ∧ y ≤ 255) (hl : bs.length ≤ 9223372036854775807) : AC Try.prog 60 [x] σ ν (DrewTab ν) := by
  obtain ⟨b, o, cap, z, rfl⟩ := hx.out
  simp only [rowsB_len] at hx ⊢
  refine AC.intro [] ent_60 Try.func60 rfl (by simp [Try.f60]) (by simp) ?_
  intro K s hs hB hn hν hA hFr
  simp only [argT, Nat.zero_add, Nat.reduceAdd]
  have hx0 := hx.vw hs.vw
  have hbK : b < K := hA b (by simp [nmAs, nmA])
  repeat' (first
    | refine AWP.seq ?_
    | refine AWP.block ?_
    | (refine AWP.skip ?_; simp only [thenA, blockA, reduceIte])
    | (refine AWP.exit ?_; simp only [thenA, blockA, eq_self, reduceIte, Nat.reduceEqDiff, Nat.succ_ne_zero])
    | (refine AWP.ret ?_; simp only [thenA, blockA, reduceIte])
    | (refine AWP.region (by rfl) (fun KK hKK => ?_); (repeat (simp (disch := omega) [])); first | (refine hKK _ _ _ ?_; clear hKK KK; simp only [thenA, blockA, reduceIte]) | skip)
    | (refine AWP.draw' mixd (by rfl) (by kernel_rfl) (fun KK tab hKK htab => ?_); (repeat (simp (disch := omega) [])); first | (refine dEnd_ro ?_ (hKK _ _ _ ?_); (focus (simp; done)); clear htab tab hKK KK; simp only [thenA, blockA, reduceIte]) | (refine dEnd_of ?_ (hKK _ _ _ ?_); (focus (simp only [List.reverse_cons, List.reverse_nil, List.nil_append, List.cons_append, memA, mem1, and_true, true_and]; (repeat' apply And.intro); (all_goals (first | trivial | (refine .inr ⟨?_, ?_⟩ <;> (simp; done)) | (refine .inr ⟨?_, ?_⟩ <;> (simp <;> omega)) | (refine .inl ?_; rw [htab]; kernel_rfl))); done)); clear htab tab hKK KK; simp only [thenA, blockA, reduceIte]) | skip)
    | (refine AWP.if_t ?_ ?_; focus (simp (disch := omega) []; done))
    | (refine AWP.if_f ?_ ?_; focus (simp (disch := omega) []; done)))
  refine aStop_of (newReader2_c _ _ b o cap z bs (hx0.vw ((Vw.refl _).over (by repeat (first | exact Over.refl _ | exact hov | refine Over.upd ?_ hB (by omega) | refine Over.del ?_ hB (by omega))))) h8 hl) ?_
  rintro r δ ⟨b8, hy, hc8, rfl, rfl⟩
  (repeat (simp (disch := omega) []))
  first | (refine hKK _ _ _ ?_; clear hKK KK; simp only [thenA, blockA, reduceIte]) | skip
  have hy' : Sl s (.sl b o b8.length cap z) 1 (rowsB b8) := hy.on (by simp (disch := omega) only [upd_eq, upd_ne])
  have hrK : ¬ b = K + 1 := by omega
  repeat' (first
    | refine AWP.seq ?_
    | refine AWP.block ?_
    | (refine AWP.skip ?_; simp only [thenA, blockA, reduceIte])
    | (refine AWP.exit ?_; simp only [thenA, blockA, eq_self, reduceIte, Nat.reduceEqDiff, Nat.succ_ne_zero])
    | (refine AWP.ret ?_; simp only [thenA, blockA, reduceIte])
    | (refine AWP.region (by rfl) (fun KK hKK => ?_); (repeat (simp (disch := omega) [])); first | (refine hKK _ _ _ ?_; clear hKK KK; simp only [thenA, blockA, reduceIte]) | skip)
    | (refine AWP.draw' mixd (by rfl) (by kernel_rfl) (fun KK tab hKK htab => ?_); (repeat (simp (disch := omega) [])); first | (refine dEnd_ro ?_ (hKK _ _ _ ?_); (focus (simp; done)); clear htab tab hKK KK; simp only [thenA, blockA, reduceIte]) | (refine dEnd_of ?_ (hKK _ _ _ ?_); (focus (simp only [List.reverse_cons, List.reverse_nil, List.nil_append, List.cons_append, memA, mem1, and_true, true_and]; (repeat' apply And.intro); (all_goals (first | trivial | (refine .inr ⟨?_, ?_⟩ <;> (simp; done)) | (refine .inr ⟨?_, ?_⟩ <;> (simp <;> omega)) | (refine .inl ?_; rw [htab]; kernel_rfl))); done)); clear htab tab hKK KK; simp only [thenA, blockA, reduceIte]) | skip)
    | (refine AWP.if_t ?_ ?_; focus (simp (disch := omega) []; done))
    | (refine AWP.if_f ?_ ?_; focus (simp (disch := omega) []; done)))
  refine aStop_of (someEnum_c _ _ (K + 1) _ b8 0 (by simp only [upd_eq]) (hy'.vw ((Vw.refl _).over (by repeat (first | exact Over.refl _ | exact hov | refine Over.upd ?_ hB (by omega) | refine Over.del ?_ hB (by omega))))) hc8 (by omega)) ?_
  rintro r δ ⟨ds, q1, hgd, hq0, hq1, rfl, rfl⟩
  (repeat (simp (disch := omega) []))
  first | (refine hKK _ _ _ ?_; clear hKK KK; simp only [thenA, blockA, reduceIte]) | skip
  have hdl := hgd.len
  have hml := memF_len ds
  have hmsz : ∀ d ∈ memF ds, d.1.size ≤ 7 := fun d hd => hgd.sz d (memF_sub _ _ hd)
  repeat' (first
    | refine AWP.seq ?_
    | refine AWP.block ?_
    | (refine AWP.skip ?_; simp only [thenA, blockA, reduceIte])
    | (refine AWP.exit ?_; simp only [thenA, blockA, eq_self, reduceIte, Nat.reduceEqDiff, Nat.succ_ne_zero])
    | (refine AWP.ret ?_; simp only [thenA, blockA, reduceIte])
    | (refine AWP.region (by rfl) (fun KK hKK => ?_); (repeat (simp (disch := omega) [])); first | (refine hKK _ _ _ ?_; clear hKK KK; simp only [thenA, blockA, reduceIte]) | skip)
    | (refine AWP.draw' mixd (by rfl) (by kernel_rfl) (fun KK tab hKK htab => ?_); (repeat (simp (disch := omega) [])); first | (refine dEnd_ro ?_ (hKK _ _ _ ?_); (focus (simp; done)); clear htab tab hKK KK; simp only [thenA, blockA, reduceIte]) | (refine dEnd_of ?_ (hKK _ _ _ ?_); (focus (simp only [List.reverse_cons, List.reverse_nil, List.nil_append, List.cons_append, memA, mem1, and_true, true_and]; (repeat' apply And.intro); (all_goals (first | trivial | (refine .inr ⟨?_, ?_⟩ <;> (simp; done)) | (refine .inr ⟨?_, ?_⟩ <;> (simp <;> omega)) | (refine .inl ?_; rw [htab]; kernel_rfl))); done)); clear htab tab hKK KK; simp only [thenA, blockA, reduceIte]) | skip)
    | (refine AWP.if_t ?_ ?_; focus (simp (disch := omega) []; done))
    | (refine AWP.if_f ?_ ?_; focus (simp (disch := omega) []; done)))
  refine aStop_of (membersS_c _ _ _ ds (Sl.whole (t := 61) (r := true) (by simp (disch := omega)) (by simp [rowsD_len])) (by omega)) ?_
  rintro r δ ⟨rfl, rfl⟩
  (repeat (simp (disch := omega) []))
  first | (refine hKK _ _ _ ?_; clear hKK KK; simp only [thenA, blockA, reduceIte]) | skip
  repeat' (first
    | refine AWP.seq ?_
    | refine AWP.block ?_
    | (refine AWP.skip ?_; simp only [thenA, blockA, reduceIte])
    | (refine AWP.exit ?_; simp only [thenA, blockA, eq_self, reduceIte, Nat.reduceEqDiff, Nat.succ_ne_zero])
    | (refine AWP.ret ?_; simp only [thenA, blockA, reduceIte])
    | (refine AWP.region (by rfl) (fun KK hKK => ?_); (repeat (simp (disch := omega) [])); first | (refine hKK _ _ _ ?_; clear hKK KK; simp only [thenA, blockA, reduceIte]) | skip)
    | (refine AWP.draw' mixd (by rfl) (by kernel_rfl) (fun KK tab hKK htab => ?_); (repeat (simp (disch := omega) [])); first | (refine dEnd_ro ?_ (hKK _ _ _ ?_); (focus (simp; done)); clear htab tab hKK KK; simp only [thenA, blockA, reduceIte]) | (refine dEnd_of ?_ (hKK _ _ _ ?_); (focus (simp only [List.reverse_cons, List.reverse_nil, List.nil_append, List.cons_append, memA, mem1, and_true, true_and]; (repeat' apply And.intro); (all_goals (first | trivial | (refine .inr ⟨?_, ?_⟩ <;> (simp; done)) | (refine .inr ⟨?_, ?_⟩ <;> (simp <;> omega)) | (refine .inl ?_; rw [htab]; kernel_rfl))); done)); clear htab tab hKK KK; simp only [thenA, blockA, reduceIte]) | skip)
    | (refine AWP.if_t ?_ ?_; focus (simp (disch := omega) []; done))
    | (refine AWP.if_f ?_ ?_; focus (simp (disch := omega) []; done)))
  refine AWP.weak (Weak.virt 6 61 2 0 0 0 (by simp) (by omega)) ?_
  refine AWP.loop (fun n τ σ' M => ∃ (L : List Df) (q : Int) (m cb : Nat), n = m ∧ Gd L 25 ∧ L.length + m = (memF ds).length ∧ q1 ≤ q ∧ q ≤ q1 + 2 * (25 - (m : Int)) ∧ τ = [(2, .ptr K 0 0), (4, .ptr (K + 1) 0 0), (5, .ptr (K + 1 + 2 + 2) 0 0), (6, .sl cb 0 L.length none 2), (7, .sl (K + 1 + 2 + 2 + 1) 0 (memF ds).length none 2), (8, .v (.int .i64 ((m : Int) - 1)))] ∧
    σ' (K + 1) = some (rdB (.sl b o b8.length cap z) q) ∧ σ' K = some (blkE nilA) ∧ σ' (K + 1 + 2) = some (blkD ds) ∧ σ' (K + 1 + 2 + 2) = some (blkE (.sl (K + 1 + 2) 0 ds.length none 2)) ∧ σ' (K + 1 + 2 + 2 + 1) = some (blkD (memF ds)) ∧ σ' cb = some (blkD L) ∧ K + 1 + 2 + 2 + 1 < cb ∧ cb < M ∧ Over s σ')
    ⟨_, _, _, _, ⟨[], q1, (memF ds).length, K + 1 + 2 + 2 + 1 + 2, rfl, Gd.nil.more (by omega), by simp, by omega, by omega, rfl, by simp (disch := omega) only [upd_eq, upd_ne], by simp (disch := omega) only [upd_eq, upd_ne], by simp (disch := omega) only [upd_eq, upd_ne], by simp (disch := omega) only [upd_eq, upd_ne], by simp (disch := omega) only [upd_eq, upd_ne], by simp only [upd_eq]; rfl, by omega, by omega, (by repeat (first | exact Over.refl _ | exact hov | refine Over.upd ?_ hB (by omega) | refine Over.del ?_ hB (by omega)))⟩, Weak.tau (by simp [LQ])⟩ ?_
  rintro n τ σ1 M ⟨L, q, m, cb, rfl, hgL, hLm, hqa, hqb, rfl, h1, h2, h3, h4, h5, h6, hc1, hc2, hov⟩
  have hz1 : (L.length + 1) * 24 ≤ 140737488355328 := by omega
  have hz2 : L.length + 1 ≤ 4611686018427387904 := by omega
  have hlL := hgL.len
  rcases Nat.eq_zero_or_pos n with hm0 | hm0
  · subst hm0
    have hcK : ¬ cb = K + 1 + 2 := by omega
    by_cases hl0 : ¬ 0 < L.length
    · repeat' (first
        | refine AWP.seq ?_
        | refine AWP.block ?_
        | (refine AWP.skip ?_; simp only [thenA, blockA, reduceIte])
        | (refine AWP.exit ?_; simp only [thenA, blockA, eq_self, reduceIte, Nat.reduceEqDiff, Nat.succ_ne_zero])
        | (refine AWP.ret ?_; simp only [thenA, blockA, reduceIte])
        | (refine AWP.region (by rfl) (fun KK hKK => ?_); (repeat (simp (disch := omega) [hl0, h2, h4])); first | (refine hKK _ _ _ ?_; clear hKK KK; simp only [thenA, blockA, reduceIte]) | skip)
        | (refine AWP.draw' mixd (by rfl) (by kernel_rfl) (fun KK tab hKK htab => ?_); (repeat (simp (disch := omega) [hl0, h2, h4])); first | (refine dEnd_ro ?_ (hKK _ _ _ ?_); (focus (simp; done)); clear htab tab hKK KK; simp only [thenA, blockA, reduceIte]) | (refine dEnd_of ?_ (hKK _ _ _ ?_); (focus (simp only [List.reverse_cons, List.reverse_nil, List.nil_append, List.cons_append, memA, mem1, and_true, true_and]; (repeat' apply And.intro); (all_goals (first | trivial | (refine .inr ⟨?_, ?_⟩ <;> (simp; done)) | (refine .inr ⟨?_, ?_⟩ <;> (simp <;> omega)) | (refine .inl ?_; rw [htab]; kernel_rfl))); done)); clear htab tab hKK KK; simp only [thenA, blockA, reduceIte]) | skip)
        | (refine AWP.if_t ?_ ?_; focus (simp (disch := omega) [hl0, h2, h4]; done))
        | (refine AWP.if_f ?_ ?_; focus (simp (disch := omega) [hl0, h2, h4]; done)))
      refine ⟨by simp, ?_⟩
      have hres : Try.f60.results.toList = [.cell 2 31, .tmp 3] := rfl
      rw [hres]
      simp (disch := omega) []
      refine fin2 (K + 1 + 2) (cb) (blkD ds) (blkD (L)) (by simp (disch := omega) only [upd_eq, upd_ne, del_ne, h3]) rfl (flatD _) (by simp (disch := omega) only [upd_eq, upd_ne, del_ne, h6]) rfl (flatD _) ⟨ds, L, hgd, hgL, by simp (disch := omega) [resO, ren, rens, rho, hcK], rfl⟩ (by omega) (by omega) (by omega) (by simp [resO, nms, nmss])
    have hl0 : 0 < L.length := by omega
    repeat' (first
      | refine AWP.seq ?_
      | refine AWP.block ?_
      | (refine AWP.skip ?_; simp only [thenA, blockA, reduceIte])
      | (refine AWP.exit ?_; simp only [thenA, blockA, eq_self, reduceIte, Nat.reduceEqDiff, Nat.succ_ne_zero])
      | (refine AWP.ret ?_; simp only [thenA, blockA, reduceIte])
      | (refine AWP.region (by rfl) (fun KK hKK => ?_); (repeat (simp (disch := omega) [hl0])); first | (refine hKK _ _ _ ?_; clear hKK KK; simp only [thenA, blockA, reduceIte]) | skip)
      | (refine AWP.draw' mixd (by rfl) (by kernel_rfl) (fun KK tab hKK htab => ?_); (repeat (simp (disch := omega) [hl0])); first | (refine dEnd_ro ?_ (hKK _ _ _ ?_); (focus (simp; done)); clear htab tab hKK KK; simp only [thenA, blockA, reduceIte]) | (refine dEnd_of ?_ (hKK _ _ _ ?_); (focus (simp only [List.reverse_cons, List.reverse_nil, List.nil_append, List.cons_append, memA, mem1, and_true, true_and]; (repeat' apply And.intro); (all_goals (first | trivial | (refine .inr ⟨?_, ?_⟩ <;> (simp; done)) | (refine .inr ⟨?_, ?_⟩ <;> (simp <;> omega)) | (refine .inl ?_; rw [htab]; kernel_rfl))); done)); clear htab tab hKK KK; simp only [thenA, blockA, reduceIte]) | skip)
      | (refine AWP.if_t ?_ ?_; focus (simp (disch := omega) [hl0]; done))
      | (refine AWP.if_f ?_ ?_; focus (simp (disch := omega) [hl0]; done)))
    by_cases c6 : ¬ pk b8 q 6 = 0
    · refine aStop_of (pick_c _ _ (K + 1) _ b8 q 6 (by simp (disch := omega) only [upd_eq, upd_ne, del_ne, h1]) (hy'.vw ((Vw.refl _).over (by repeat (first | exact Over.refl _ | exact hov | refine Over.upd ?_ hB (by omega) | refine Over.del ?_ hB (by omega))))) hc8 (by omega)) ?_
      rintro r δ ⟨rfl, rfl⟩
      (repeat (simp (disch := omega) [c6, hl0]))
      first | (refine hKK _ _ _ ?_; clear hKK KK; simp only [thenA, blockA, reduceIte]) | skip
      repeat' (first
        | refine AWP.seq ?_
        | refine AWP.block ?_
        | (refine AWP.skip ?_; simp only [thenA, blockA, reduceIte])
        | (refine AWP.exit ?_; simp only [thenA, blockA, eq_self, reduceIte, Nat.reduceEqDiff, Nat.succ_ne_zero])
        | (refine AWP.ret ?_; simp only [thenA, blockA, reduceIte])
        | (refine AWP.region (by rfl) (fun KK hKK => ?_); (repeat (simp (disch := omega) [h2, h4])); first | (refine hKK _ _ _ ?_; clear hKK KK; simp only [thenA, blockA, reduceIte]) | skip)
        | (refine AWP.draw' mixd (by rfl) (by kernel_rfl) (fun KK tab hKK htab => ?_); (repeat (simp (disch := omega) [h2, h4])); first | (refine dEnd_ro ?_ (hKK _ _ _ ?_); (focus (simp; done)); clear htab tab hKK KK; simp only [thenA, blockA, reduceIte]) | (refine dEnd_of ?_ (hKK _ _ _ ?_); (focus (simp only [List.reverse_cons, List.reverse_nil, List.nil_append, List.cons_append, memA, mem1, and_true, true_and]; (repeat' apply And.intro); (all_goals (first | trivial | (refine .inr ⟨?_, ?_⟩ <;> (simp; done)) | (refine .inr ⟨?_, ?_⟩ <;> (simp <;> omega)) | (refine .inl ?_; rw [htab]; kernel_rfl))); done)); clear htab tab hKK KK; simp only [thenA, blockA, reduceIte]) | skip)
        | (refine AWP.if_t ?_ ?_; focus (simp (disch := omega) [h2, h4]; done))
        | (refine AWP.if_f ?_ ?_; focus (simp (disch := omega) [h2, h4]; done)))
      refine ⟨by simp, ?_⟩
      have hres : Try.f60.results.toList = [.cell 2 31, .tmp 3] := rfl
      rw [hres]
      simp (disch := omega) []
      refine fin2 (K + 1 + 2) (cb) (blkD ds) (blkD (L)) (by simp (disch := omega) only [upd_eq, upd_ne, del_ne, h3]) rfl (flatD _) (by simp (disch := omega) only [upd_eq, upd_ne, del_ne, h6]) rfl (flatD _) ⟨ds, L, hgd, hgL, by simp (disch := omega) [resO, ren, rens, rho, hcK], rfl⟩ (by omega) (by omega) (by omega) (by simp [resO, nms, nmss])
    have c6 : pk b8 q 6 = 0 := by omega
    refine aStop_of (pick_c _ _ (K + 1) _ b8 q 6 (by simp (disch := omega) only [upd_eq, upd_ne, del_ne, h1]) (hy'.vw ((Vw.refl _).over (by repeat (first | exact Over.refl _ | exact hov | refine Over.upd ?_ hB (by omega) | refine Over.del ?_ hB (by omega))))) hc8 (by omega)) ?_
    rintro r δ ⟨rfl, rfl⟩
    (repeat (simp (disch := omega) [c6, hl0]))
    first | (refine hKK _ _ _ ?_; clear hKK KK; simp only [thenA, blockA, reduceIte]) | skip
    repeat' (first
      | refine AWP.seq ?_
      | refine AWP.block ?_
      | (refine AWP.skip ?_; simp only [thenA, blockA, reduceIte])
      | (refine AWP.exit ?_; simp only [thenA, blockA, eq_self, reduceIte, Nat.reduceEqDiff, Nat.succ_ne_zero])
      | (refine AWP.ret ?_; simp only [thenA, blockA, reduceIte])
      | (refine AWP.region (by rfl) (fun KK hKK => ?_); (repeat (simp (disch := omega) [])); first | (refine hKK _ _ _ ?_; clear hKK KK; simp only [thenA, blockA, reduceIte]) | skip)
      | (refine AWP.draw' mixd (by rfl) (by kernel_rfl) (fun KK tab hKK htab => ?_); (repeat (simp (disch := omega) [])); first | (refine dEnd_ro ?_ (hKK _ _ _ ?_); (focus (simp; done)); clear htab tab hKK KK; simp only [thenA, blockA, reduceIte]) | (refine dEnd_of ?_ (hKK _ _ _ ?_); (focus (simp only [List.reverse_cons, List.reverse_nil, List.nil_append, List.cons_append, memA, mem1, and_true, true_and]; (repeat' apply And.intro); (all_goals (first | trivial | (refine .inr ⟨?_, ?_⟩ <;> (simp; done)) | (refine .inr ⟨?_, ?_⟩ <;> (simp <;> omega)) | (refine .inl ?_; rw [htab]; kernel_rfl))); done)); clear htab tab hKK KK; simp only [thenA, blockA, reduceIte]) | skip)
      | (refine AWP.if_t ?_ ?_; focus (simp (disch := omega) []; done))
      | (refine AWP.if_f ?_ ?_; focus (simp (disch := omega) []; done)))
    have hkk := pk_bd hc8 (p := q + 1) (n := L.length) (by omega) (by omega)
    refine aStop_of (pick_c _ _ (K + 1) _ b8 (q + 1) L.length (by simp (disch := omega) only [upd_eq, upd_ne, del_ne, h1]) (hy'.vw ((Vw.refl _).over (by repeat (first | exact Over.refl _ | exact hov | refine Over.upd ?_ hB (by omega) | refine Over.del ?_ hB (by omega))))) hc8 (by omega)) ?_
    rintro r δ ⟨rfl, rfl⟩
    (repeat (simp (disch := omega) []))
    first | (refine hKK _ _ _ ?_; clear hKK KK; simp only [thenA, blockA, reduceIte]) | skip
    repeat' (first
      | refine AWP.seq ?_
      | refine AWP.block ?_
      | (refine AWP.skip ?_; simp only [thenA, blockA, reduceIte])
      | (refine AWP.exit ?_; simp only [thenA, blockA, eq_self, reduceIte, Nat.reduceEqDiff, Nat.succ_ne_zero])
      | (refine AWP.ret ?_; simp only [thenA, blockA, reduceIte])
      | (refine AWP.region (by rfl) (fun KK hKK => ?_); (repeat (simp (disch := omega) [])); first | (refine hKK _ _ _ ?_; clear hKK KK; simp only [thenA, blockA, reduceIte]) | skip)
      | (refine AWP.draw' mixd (by rfl) (by kernel_rfl) (fun KK tab hKK htab => ?_); (repeat (simp (disch := omega) [])); first | (refine dEnd_ro ?_ (hKK _ _ _ ?_); (focus (simp; done)); clear htab tab hKK KK; simp only [thenA, blockA, reduceIte]) | (refine dEnd_of ?_ (hKK _ _ _ ?_); (focus (simp only [List.reverse_cons, List.reverse_nil, List.nil_append, List.cons_append, memA, mem1, and_true, true_and]; (repeat' apply And.intro); (all_goals (first | trivial | (refine .inr ⟨?_, ?_⟩ <;> (simp; done)) | (refine .inr ⟨?_, ?_⟩ <;> (simp <;> omega)) | (refine .inl ?_; rw [htab]; kernel_rfl))); done)); clear htab tab hKK KK; simp only [thenA, blockA, reduceIte]) | skip)
      | (refine AWP.if_t ?_ ?_; focus (simp (disch := omega) []; done))
      | (refine AWP.if_f ?_ ?_; focus (simp (disch := omega) []; done)))
    generalize pk b8 (q + 1) L.length = kk at *
    obtain ⟨kn, rfl⟩ := Int.eq_ofNat_of_zero_le hkk.1
    have hil : kn < L.length := by omega
    have hrow := rowsD_at L _ hil
    by_cases a0 : pk b8 (q + 1 + 1) 3 = 0
    · have hnm := anyNameF_sz hc8 (p := q + 1 + 1 + 1) (by omega)
      refine aStop_of (pick_c _ _ (K + 1) _ b8 (q + 1 + 1) 3 (by simp (disch := omega) only [upd_eq, upd_ne, del_ne, h1]) (hy'.vw ((Vw.refl _).over (by repeat (first | exact Over.refl _ | exact hov | refine Over.upd ?_ hB (by omega) | refine Over.del ?_ hB (by omega))))) hc8 (by omega)) ?_
      rintro r δ ⟨rfl, rfl⟩
      (repeat (simp (disch := omega) [a0]))
      first | (refine hKK _ _ _ ?_; clear hKK KK; simp only [thenA, blockA, reduceIte]) | skip
      repeat' (first
        | refine AWP.seq ?_
        | refine AWP.block ?_
        | (refine AWP.skip ?_; simp only [thenA, blockA, reduceIte])
        | (refine AWP.exit ?_; simp only [thenA, blockA, eq_self, reduceIte, Nat.reduceEqDiff, Nat.succ_ne_zero])
        | (refine AWP.ret ?_; simp only [thenA, blockA, reduceIte])
        | (refine AWP.region (by rfl) (fun KK hKK => ?_); (repeat (simp (disch := omega) [a0])); first | (refine hKK _ _ _ ?_; clear hKK KK; simp only [thenA, blockA, reduceIte]) | skip)
        | (refine AWP.draw' mixd (by rfl) (by kernel_rfl) (fun KK tab hKK htab => ?_); (repeat (simp (disch := omega) [a0])); first | (refine dEnd_ro ?_ (hKK _ _ _ ?_); (focus (simp; done)); clear htab tab hKK KK; simp only [thenA, blockA, reduceIte]) | (refine dEnd_of ?_ (hKK _ _ _ ?_); (focus (simp only [List.reverse_cons, List.reverse_nil, List.nil_append, List.cons_append, memA, mem1, and_true, true_and]; (repeat' apply And.intro); (all_goals (first | trivial | (refine .inr ⟨?_, ?_⟩ <;> (simp; done)) | (refine .inr ⟨?_, ?_⟩ <;> (simp <;> omega)) | (refine .inl ?_; rw [htab]; kernel_rfl))); done)); clear htab tab hKK KK; simp only [thenA, blockA, reduceIte]) | skip)
        | (refine AWP.if_t ?_ ?_; focus (simp (disch := omega) [a0]; done))
        | (refine AWP.if_f ?_ ?_; focus (simp (disch := omega) [a0]; done)))
      refine aStop_of (anyName_c _ _ (K + 1) _ b8 (q + 1 + 1 + 1) (by simp (disch := omega) only [upd_eq, upd_ne, del_ne, h1]) (hy'.vw ((Vw.refl _).over (by repeat (first | exact Over.refl _ | exact hov | refine Over.upd ?_ hB (by omega) | refine Over.del ?_ hB (by omega))))) hc8 (by omega)) ?_
      rintro r δ ⟨rfl, rfl⟩
      (repeat (simp (disch := omega) [hil, hrow, h6]))
      first | (refine hKK _ _ _ ?_; clear hKK KK; simp only [thenA, blockA, reduceIte]) | skip
      repeat' (first
        | refine AWP.seq ?_
        | refine AWP.block ?_
        | (refine AWP.skip ?_; simp only [thenA, blockA, reduceIte])
        | (refine AWP.exit ?_; simp only [thenA, blockA, eq_self, reduceIte, Nat.reduceEqDiff, Nat.succ_ne_zero])
        | (refine AWP.ret ?_; simp only [thenA, blockA, reduceIte])
        | (refine AWP.region (by rfl) (fun KK hKK => ?_); (repeat (simp (disch := omega) [hil, hrow, h6, h2, h4])); first | (refine hKK _ _ _ ?_; clear hKK KK; simp only [thenA, blockA, reduceIte]) | skip)
        | (refine AWP.draw' mixd (by rfl) (by kernel_rfl) (fun KK tab hKK htab => ?_); (repeat (simp (disch := omega) [hil, hrow, h6, h2, h4])); first | (refine dEnd_ro ?_ (hKK _ _ _ ?_); (focus (simp; done)); clear htab tab hKK KK; simp only [thenA, blockA, reduceIte]) | (refine dEnd_of ?_ (hKK _ _ _ ?_); (focus (simp only [List.reverse_cons, List.reverse_nil, List.nil_append, List.cons_append, memA, mem1, and_true, true_and]; (repeat' apply And.intro); (all_goals (first | trivial | (refine .inr ⟨?_, ?_⟩ <;> (simp; done)) | (refine .inr ⟨?_, ?_⟩ <;> (simp <;> omega)) | (refine .inl ?_; rw [htab]; kernel_rfl))); done)); clear htab tab hKK KK; simp only [thenA, blockA, reduceIte]) | skip)
        | (refine AWP.if_t ?_ ?_; focus (simp (disch := omega) [hil, hrow, h6, h2, h4]; done))
        | (refine AWP.if_f ?_ ?_; focus (simp (disch := omega) [hil, hrow, h6, h2, h4]; done)))
      refine ⟨by simp, ?_⟩
      have hres : Try.f60.results.toList = [.cell 2 31, .tmp 3] := rfl
      rw [hres]
      simp (disch := omega) []
      refine fin2 (K + 1 + 2) (cb) (blkD ds) (blkD (renD L kn (anyNameF b8 (q + 1 + 1 + 1)))) (by simp (disch := omega) only [upd_eq, upd_ne, del_ne, h3]) rfl (flatD _) (by simp (disch := omega) only [upd_eq, upd_ne, del_ne, h6, blkD, rowsD_ren _ _ hil]) rfl (flatD _) ⟨ds, renD L kn (anyNameF b8 (q + 1 + 1 + 1)), hgd, hgL.ren hnm, by simp (disch := omega) [resO, ren, rens, rho, hcK, renD_len], rfl⟩ (by omega) (by omega) (by omega) (by simp [resO, nms, nmss])
    by_cases a1 : pk b8 (q + 1 + 1) 3 = 1
    · refine aStop_of (pick_c _ _ (K + 1) _ b8 (q + 1 + 1) 3 (by simp (disch := omega) only [upd_eq, upd_ne, del_ne, h1]) (hy'.vw ((Vw.refl _).over (by repeat (first | exact Over.refl _ | exact hov | refine Over.upd ?_ hB (by omega) | refine Over.del ?_ hB (by omega))))) hc8 (by omega)) ?_
      rintro r δ ⟨rfl, rfl⟩
      (repeat (simp (disch := omega) [a0, a1]))
      first | (refine hKK _ _ _ ?_; clear hKK KK; simp only [thenA, blockA, reduceIte]) | skip
      repeat' (first
        | refine AWP.seq ?_
        | refine AWP.block ?_
        | (refine AWP.skip ?_; simp only [thenA, blockA, reduceIte])
        | (refine AWP.exit ?_; simp only [thenA, blockA, eq_self, reduceIte, Nat.reduceEqDiff, Nat.succ_ne_zero])
        | (refine AWP.ret ?_; simp only [thenA, blockA, reduceIte])
        | (refine AWP.region (by rfl) (fun KK hKK => ?_); (repeat (simp (disch := omega) [a0, a1, hil, hrow, h6, h2, h4])); first | (refine hKK _ _ _ ?_; clear hKK KK; simp only [thenA, blockA, reduceIte]) | skip)
        | (refine AWP.draw' mixd (by rfl) (by kernel_rfl) (fun KK tab hKK htab => ?_); (repeat (simp (disch := omega) [a0, a1, hil, hrow, h6, h2, h4])); first | (refine dEnd_ro ?_ (hKK _ _ _ ?_); (focus (simp; done)); clear htab tab hKK KK; simp only [thenA, blockA, reduceIte]) | (refine dEnd_of ?_ (hKK _ _ _ ?_); (focus (simp only [List.reverse_cons, List.reverse_nil, List.nil_append, List.cons_append, memA, mem1, and_true, true_and]; (repeat' apply And.intro); (all_goals (first | trivial | (refine .inr ⟨?_, ?_⟩ <;> (simp; done)) | (refine .inr ⟨?_, ?_⟩ <;> (simp <;> omega)) | (refine .inl ?_; rw [htab]; kernel_rfl))); done)); clear htab tab hKK KK; simp only [thenA, blockA, reduceIte]) | skip)
        | (refine AWP.if_t ?_ ?_; focus (simp (disch := omega) [a0, a1, hil, hrow, h6, h2, h4]; done))
        | (refine AWP.if_f ?_ ?_; focus (simp (disch := omega) [a0, a1, hil, hrow, h6, h2, h4]; done)))
      refine ⟨by simp, ?_⟩
      have hres : Try.f60.results.toList = [.cell 2 31, .tmp 3] := rfl
      rw [hres]
      simp (disch := omega) []
      refine fin2 (K + 1 + 2) (cb) (blkD ds) (blkD (valD L kn 1001)) (by simp (disch := omega) only [upd_eq, upd_ne, del_ne, h3]) rfl (flatD _) (by simp (disch := omega) only [upd_eq, upd_ne, del_ne, h6, blkD, rowsD_val _ _ hil]) rfl (flatD _) ⟨ds, valD L kn 1001, hgd, hgL.val (by omega) (by omega), by simp (disch := omega) [resO, ren, rens, rho, hcK, valD_len], rfl⟩ (by omega) (by omega) (by omega) (by simp [resO, nms, nmss])
    · refine aStop_of (pick_c _ _ (K + 1) _ b8 (q + 1 + 1) 3 (by simp (disch := omega) only [upd_eq, upd_ne, del_ne, h1]) (hy'.vw ((Vw.refl _).over (by repeat (first | exact Over.refl _ | exact hov | refine Over.upd ?_ hB (by omega) | refine Over.del ?_ hB (by omega))))) hc8 (by omega)) ?_
      rintro r δ ⟨rfl, rfl⟩
      (repeat (simp (disch := omega) [a0, a1]))
      first | (refine hKK _ _ _ ?_; clear hKK KK; simp only [thenA, blockA, reduceIte]) | skip
      repeat' (first
        | refine AWP.seq ?_
        | refine AWP.block ?_
        | (refine AWP.skip ?_; simp only [thenA, blockA, reduceIte])
        | (refine AWP.exit ?_; simp only [thenA, blockA, eq_self, reduceIte, Nat.reduceEqDiff, Nat.succ_ne_zero])
        | (refine AWP.ret ?_; simp only [thenA, blockA, reduceIte])
        | (refine AWP.region (by rfl) (fun KK hKK => ?_); (repeat (simp (disch := omega) [a0, a1])); first | (refine hKK _ _ _ ?_; clear hKK KK; simp only [thenA, blockA, reduceIte]) | skip)
        | (refine AWP.draw' mixd (by rfl) (by kernel_rfl) (fun KK tab hKK htab => ?_); (repeat (simp (disch := omega) [a0, a1])); first | (refine dEnd_ro ?_ (hKK _ _ _ ?_); (focus (simp; done)); clear htab tab hKK KK; simp only [thenA, blockA, reduceIte]) | (refine dEnd_of ?_ (hKK _ _ _ ?_); (focus (simp only [List.reverse_cons, List.reverse_nil, List.nil_append, List.cons_append, memA, mem1, and_true, true_and]; (repeat' apply And.intro); (all_goals (first | trivial | (refine .inr ⟨?_, ?_⟩ <;> (simp; done)) | (refine .inr ⟨?_, ?_⟩ <;> (simp <;> omega)) | (refine .inl ?_; rw [htab]; kernel_rfl))); done)); clear htab tab hKK KK; simp only [thenA, blockA, reduceIte]) | skip)
        | (refine AWP.if_t ?_ ?_; focus (simp (disch := omega) [a0, a1]; done))
        | (refine AWP.if_f ?_ ?_; focus (simp (disch := omega) [a0, a1]; done)))
      refine aStop_of (dropped_c _ _ _ L kn (Sl.whole (t := 61) (r := true) (by simp (disch := omega) only [upd_eq, upd_ne, del_ne, h6]) (by simp [rowsD_len])) (by omega) hil) ?_
      rintro r δ ⟨rfl, rfl⟩
      (repeat (simp (disch := omega) []))
      first | (refine hKK _ _ _ ?_; clear hKK KK; simp only [thenA, blockA, reduceIte]) | skip
      have hcK : ¬ M + 3 = K := by omega
      repeat' (first
        | refine AWP.seq ?_
        | refine AWP.block ?_
        | (refine AWP.skip ?_; simp only [thenA, blockA, reduceIte])
        | (refine AWP.exit ?_; simp only [thenA, blockA, eq_self, reduceIte, Nat.reduceEqDiff, Nat.succ_ne_zero])
        | (refine AWP.ret ?_; simp only [thenA, blockA, reduceIte])
        | (refine AWP.region (by rfl) (fun KK hKK => ?_); (repeat (simp (disch := omega) [h2, h4])); first | (refine hKK _ _ _ ?_; clear hKK KK; simp only [thenA, blockA, reduceIte]) | skip)
        | (refine AWP.draw' mixd (by rfl) (by kernel_rfl) (fun KK tab hKK htab => ?_); (repeat (simp (disch := omega) [h2, h4])); first | (refine dEnd_ro ?_ (hKK _ _ _ ?_); (focus (simp; done)); clear htab tab hKK KK; simp only [thenA, blockA, reduceIte]) | (refine dEnd_of ?_ (hKK _ _ _ ?_); (focus (simp only [List.reverse_cons, List.reverse_nil, List.nil_append, List.cons_append, memA, mem1, and_true, true_and]; (repeat' apply And.intro); (all_goals (first | trivial | (refine .inr ⟨?_, ?_⟩ <;> (simp; done)) | (refine .inr ⟨?_, ?_⟩ <;> (simp <;> omega)) | (refine .inl ?_; rw [htab]; kernel_rfl))); done)); clear htab tab hKK KK; simp only [thenA, blockA, reduceIte]) | skip)
        | (refine AWP.if_t ?_ ?_; focus (simp (disch := omega) [h2, h4]; done))
        | (refine AWP.if_f ?_ ?_; focus (simp (disch := omega) [h2, h4]; done)))
      refine ⟨by simp, ?_⟩
      have hres : Try.f60.results.toList = [.cell 2 31, .tmp 3] := rfl
      rw [hres]
      simp (disch := omega) []
      refine fin2 (K + 1 + 2) (M + 2 + 2 + 2) (blkD ds) (blkD (L.eraseIdx kn)) (by simp (disch := omega) only [upd_eq, upd_ne, del_ne, h3]) rfl (flatD _) (by simp (disch := omega) only [upd_eq, upd_ne, del_ne, h6]) rfl (flatD _) ⟨ds, L.eraseIdx kn, hgd, hgL.erase2 kn, by simp (disch := omega) [resO, ren, rens, rho, hcK], rfl⟩ (by omega) (by omega) (by omega) (by simp [resO, nms, nmss])
  · obtain ⟨i, rfl⟩ : ∃ i, n = i + 1 := ⟨n - 1, by omega⟩
    have e8 : ((i + 1 : Nat) : Int) - 1 = i := by omega
    rw [e8]
    have hil : i < (memF ds).length := by omega
    have hrow := rowsD_at (memF ds) i hil
    have hk5 := pk_bd hc8 (p := q + 1) (n := 5) (by omega) (by omega)
    have hk20 := pk_bd hc8 (p := q) (n := 20) (by omega) (by omega)
    have hv := iAt_mem (l := [1, 5, pk b8 q 20, -3, 1000]) hk5.1 hk5.2
    simp only [List.mem_cons, List.not_mem_nil, or_false] at hv
    have hns := hmsz _ (List.getElem_mem hil)
    repeat' (first
      | refine AWP.seq ?_
      | refine AWP.block ?_
      | (refine AWP.skip ?_; simp only [thenA, blockA, reduceIte])
      | (refine AWP.exit ?_; simp only [thenA, blockA, eq_self, reduceIte, Nat.reduceEqDiff, Nat.succ_ne_zero])
      | (refine AWP.ret ?_; simp only [thenA, blockA, reduceIte])
      | (refine AWP.region (by rfl) (fun KK hKK => ?_); (repeat (simp (disch := omega) [h5, hil, hrow])); first | (refine hKK _ _ _ ?_; clear hKK KK; simp only [thenA, blockA, reduceIte]) | skip)
      | (refine AWP.draw' mixd (by rfl) (by kernel_rfl) (fun KK tab hKK htab => ?_); (repeat (simp (disch := omega) [h5, hil, hrow])); first | (refine dEnd_ro ?_ (hKK _ _ _ ?_); (focus (simp; done)); clear htab tab hKK KK; simp only [thenA, blockA, reduceIte]) | (refine dEnd_of ?_ (hKK _ _ _ ?_); (focus (simp only [List.reverse_cons, List.reverse_nil, List.nil_append, List.cons_append, memA, mem1, and_true, true_and]; (repeat' apply And.intro); (all_goals (first | trivial | (refine .inr ⟨?_, ?_⟩ <;> (simp; done)) | (refine .inr ⟨?_, ?_⟩ <;> (simp <;> omega)) | (refine .inl ?_; rw [htab]; kernel_rfl))); done)); clear htab tab hKK KK; simp only [thenA, blockA, reduceIte]) | skip)
      | (refine AWP.if_t ?_ ?_; focus (simp (disch := omega) [h5, hil, hrow]; done))
      | (refine AWP.if_f ?_ ?_; focus (simp (disch := omega) [h5, hil, hrow]; done)))
    refine dStop_modF [K + 1, b] (K + 1) (fun σ' hσ' => pick_c σ' _ (K + 1) _ b8 q 20 ((hσ' _ (by simp)).trans (by simp (disch := omega) only [upd_eq, upd_ne, del_ne, h1])) ((hy'.vw ((Vw.refl _).over (by repeat (first | exact Over.refl _ | exact hov | refine Over.upd ?_ hB (by omega) | refine Over.del ?_ hB (by omega))))).on (hσ' _ (by simp))) hc8 (by omega)) ?_
    (repeat (simp (disch := omega) [h5, hil, hrow]))
    first | (refine dEnd_ro ?_ (hKK _ _ _ ?_); (focus (simp; done)); clear htab tab hKK KK; simp only [thenA, blockA, reduceIte]) | (refine dEnd_of ?_ (hKK _ _ _ ?_); (focus (simp only [List.reverse_cons, List.reverse_nil, List.nil_append, List.cons_append, memA, mem1, and_true, true_and]; (repeat' apply And.intro); (all_goals (first | trivial | (refine .inr ⟨?_, ?_⟩ <;> (simp; done)) | (refine .inr ⟨?_, ?_⟩ <;> (simp <;> omega)) | (refine .inl ?_; rw [htab]; kernel_rfl))); done)); clear htab tab hKK KK; simp only [thenA, blockA, reduceIte]) | skip
    refine dStop_modF [K + 1, M + 18, b] (K + 1) (fun σ' hσ' => one_c σ' _ (K + 1) _ _ b8 (q + 1) [1, 5, pk b8 q 20, -3, 1000] ((hσ' _ (by simp)).trans (by simp (disch := omega) only [upd_eq, upd_ne, del_ne, h1])) ((hy'.vw ((Vw.refl _).over (by repeat (first | exact Over.refl _ | exact hov | refine Over.upd ?_ hB (by omega) | refine Over.del ?_ hB (by omega))))).on (hσ' _ (by simp))) hc8 (by omega) (Sl.whole (t := 3) (r := true) ((hσ' _ (by simp)).trans (by simp only [upd_eq]; rfl)) rfl) (by simp) (by simp)) ?_
    (repeat (simp (disch := omega) [elems, rowsD_len, rowsD_take, rowsD_snoc, hz1, hz2, h6]))
    first | (refine dEnd_ro ?_ (hKK _ _ _ ?_); (focus (simp; done)); clear htab tab hKK KK; simp only [thenA, blockA, reduceIte]) | (refine dEnd_of ?_ (hKK _ _ _ ?_); (focus (simp only [List.reverse_cons, List.reverse_nil, List.nil_append, List.cons_append, memA, mem1, and_true, true_and]; (repeat' apply And.intro); (all_goals (first | trivial | (refine .inr ⟨?_, ?_⟩ <;> (simp; done)) | (refine .inr ⟨?_, ?_⟩ <;> (simp <;> omega)) | (refine .inl ?_; rw [htab]; kernel_rfl))); done)); clear htab tab hKK KK; simp only [thenA, blockA, reduceIte]) | skip
    generalize iAt [1, 5, pk b8 q 20, -3, 1000] _ = v at *
    repeat' (first
      | refine AWP.seq ?_
      | refine AWP.block ?_
      | (refine AWP.skip ?_; simp only [thenA, blockA, reduceIte])
      | (refine AWP.exit ?_; simp only [thenA, blockA, eq_self, reduceIte, Nat.reduceEqDiff, Nat.succ_ne_zero])
      | (refine AWP.ret ?_; simp only [thenA, blockA, reduceIte])
      | (refine AWP.region (by rfl) (fun KK hKK => ?_); (repeat (simp (disch := omega) [])); first | (refine hKK _ _ _ ?_; clear hKK KK; simp only [thenA, blockA, reduceIte]) | skip)
      | (refine AWP.draw' mixd (by rfl) (by kernel_rfl) (fun KK tab hKK htab => ?_); (repeat (simp (disch := omega) [])); first | (refine dEnd_ro ?_ (hKK _ _ _ ?_); (focus (simp; done)); clear htab tab hKK KK; simp only [thenA, blockA, reduceIte]) | (refine dEnd_of ?_ (hKK _ _ _ ?_); (focus (simp only [List.reverse_cons, List.reverse_nil, List.nil_append, List.cons_append, memA, mem1, and_true, true_and]; (repeat' apply And.intro); (all_goals (first | trivial | (refine .inr ⟨?_, ?_⟩ <;> (simp; done)) | (refine .inr ⟨?_, ?_⟩ <;> (simp <;> omega)) | (refine .inl ?_; rw [htab]; kernel_rfl))); done)); clear htab tab hKK KK; simp only [thenA, blockA, reduceIte]) | skip)
      | (refine AWP.if_t ?_ ?_; focus (simp (disch := omega) []; done))
      | (refine AWP.if_f ?_ ?_; focus (simp (disch := omega) []; done)))
    refine ⟨_, _, _, _, ?_, ⟨L ++ [((memF ds)[i].1, v)], q + 1 + 1, i, M + 26, rfl, ⟨by simp; omega, (hgL.snoc hns (by omega) (by omega)).sz, (hgL.snoc hns (by omega) (by omega)).lo, (hgL.snoc hns (by omega) (by omega)).hi⟩, by simp; omega, by omega, by omega, rfl, by simp (disch := omega) only [upd_eq, upd_ne, del_ne], by simp (disch := omega) only [upd_eq, upd_ne, del_ne, h2], by simp (disch := omega) only [upd_eq, upd_ne, del_ne, h3], by simp (disch := omega) only [upd_eq, upd_ne, del_ne, h4], by simp (disch := omega) only [upd_eq, upd_ne, del_ne, h5], by simp (disch := omega) only [upd_eq, upd_ne, del_ne], by omega, by omega, (by repeat (first | exact Over.refl _ | exact hov | refine Over.upd ?_ hB (by omega) | refine Over.del ?_ hB (by omega)))⟩, Weak.tau (by simp [LQ])⟩
    omega
end Go.Proofs.Ytkddpkjgmmmcpaa
