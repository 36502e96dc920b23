/- Contracts of the generators: two enumerations. No condition. -/
import Derived.Test.YtgaiemhbllbaiaaG4
import Derived.Test.YtgaiemhbllbaiaaC5b
set_option linter.unusedSimpArgs false
set_option linter.unusedVariables false
namespace Go.Proofs.Ytgaiemhbllbaiaa
open Go Go.RowKit

theorem Gd.erase {ds : List Df} {m : Nat} (h : Gd ds m) (i : Nat) : Gd (ds.eraseIdx i) m :=
  ⟨Nat.le_trans (List.length_eraseIdx_le ds i) h.len, fun d hd => h.sz d (List.mem_of_mem_eraseIdx hd), fun d hd => h.lo d (List.mem_of_mem_eraseIdx hd), fun d hd => h.hi d (List.mem_of_mem_eraseIdx hd)⟩
def GotE2 (ν rb : Nat) (x : AV) (p : Int) (r : AV) (δ : Sto) : Prop := ∃ (da db : List Df) (q : Int), Gd da 25 ∧ Gd db 28 ∧ p ≤ q ∧ q ≤ p + 500 ∧ r = .tup [.agg [.sl ν 0 da.length none 2], .agg [.sl (ν + 1) 0 db.length none 2]] ∧ δ = upd (upd (upd noS rb (rdB x q)) ν (blkD da)) (ν + 1) (blkD db)

set_option maxRecDepth 10000 in
set_option maxHeartbeats 4000000 in
theorem twoEnums_c (σ : Sto) (ν rb : Nat) (x : AV) (bs : List Int) (p : Int) (hb : σ rb = some (rdB x p)) (hx : Sl σ x 1 (rowsB bs)) (h8 : Code8 bs) (hp : 0 ≤ p ∧ p ≤ 80000) :
    AC Try.prog 46 [.ptr rb 0 0] σ ν (GotE2 ν rb x p) := by
  obtain ⟨bx, ox, capx, zx, rfl⟩ := hx.out
  simp only [rowsB_len] at hx hb ⊢
  refine AC.intro [rb] ent_46 Try.func46 rfl (by simp [Try.f46]) (by simp [hb]) ?_
  intro K s hs hB hn hν hA hFr
  simp only [argT, Nat.zero_add, Nat.reduceAdd]
  have hrb : s rb = some (rdB (.sl bx ox bs.length capx zx) p) := by rw [hs rb, hb]; simp
  obtain ⟨hrK, hlo⟩ := hB rb _ hrb
  have hx' := hx.vw hs.vw
  have hrν : rb ≠ ν := fun e => by rw [e] at hb; rw [hFr.1] at hb; cases hb
  have hrν1 : rb ≠ ν + 1 := fun e => by rw [e] at hb; rw [hFr.2] at hb; cases hb
  repeat' (first
    | refine AWP.seq ?_
    | refine AWP.block ?_
    | (refine AWP.skip ?_; simp only [thenA, blockA, reduceIte])
    | (refine AWP.exit ?_; simp only [thenA, blockA, eq_self, reduceIte, Nat.reduceEqDiff, Nat.succ_ne_zero])
    | (refine AWP.ret ?_; simp only [thenA, blockA, reduceIte])
    | (refine AWP.region (by rfl) (fun KK hKK => ?_); (repeat (simp (disch := omega) [])); first | (refine hKK _ _ _ ?_; clear hKK KK; simp only [thenA, blockA, reduceIte]) | skip)
    | (refine AWP.draw' mixd (by rfl) (by kernel_rfl) (fun KK tab hKK htab => ?_); (repeat (simp (disch := omega) [])); first | (refine dEnd_ro ?_ (hKK _ _ _ ?_); (focus (simp; done)); clear htab tab hKK KK; simp only [thenA, blockA, reduceIte]) | (refine dEnd_of ?_ (hKK _ _ _ ?_); (focus (simp only [List.reverse_cons, List.reverse_nil, List.nil_append, List.cons_append, memA, mem1, and_true, true_and]; (repeat' apply And.intro); (all_goals (first | trivial | (refine .inr ⟨?_, ?_⟩ <;> (simp; done)) | (refine .inr ⟨?_, ?_⟩ <;> (simp <;> omega)) | (refine .inl ?_; rw [htab]; kernel_rfl))); done)); clear htab tab hKK KK; simp only [thenA, blockA, reduceIte]) | skip)
    | (refine AWP.if_t ?_ ?_; focus (simp (disch := omega) []; done))
    | (refine AWP.if_f ?_ ?_; focus (simp (disch := omega) []; done)))
  refine aStop_of (someEnum_c _ _ rb _ bs p (by simp (disch := omega) only [upd_eq, upd_ne, del_ne, hrb]) (hx'.ovb hrb (fun c kc hc h => by have := (hB c kc h).1; first | exact h | (simp (disch := omega) only [upd_ne, del_ne]; exact h))) h8 (by omega)) ?_
  rintro r δ ⟨da, q1, hga, hq0, hq1, rfl, rfl⟩
  (repeat (simp (disch := omega) []))
  first | (refine hKK _ _ _ ?_; clear hKK KK; simp only [thenA, blockA, reduceIte]) | skip
  repeat' (first
    | refine AWP.seq ?_
    | refine AWP.block ?_
    | (refine AWP.skip ?_; simp only [thenA, blockA, reduceIte])
    | (refine AWP.exit ?_; simp only [thenA, blockA, eq_self, reduceIte, Nat.reduceEqDiff, Nat.succ_ne_zero])
    | (refine AWP.ret ?_; simp only [thenA, blockA, reduceIte])
    | (refine AWP.region (by rfl) (fun KK hKK => ?_); (repeat (simp (disch := omega) [])); first | (refine hKK _ _ _ ?_; clear hKK KK; simp only [thenA, blockA, reduceIte]) | skip)
    | (refine AWP.draw' mixd (by rfl) (by kernel_rfl) (fun KK tab hKK htab => ?_); (repeat (simp (disch := omega) [])); first | (refine dEnd_ro ?_ (hKK _ _ _ ?_); (focus (simp; done)); clear htab tab hKK KK; simp only [thenA, blockA, reduceIte]) | (refine dEnd_of ?_ (hKK _ _ _ ?_); (focus (simp only [List.reverse_cons, List.reverse_nil, List.nil_append, List.cons_append, memA, mem1, and_true, true_and]; (repeat' apply And.intro); (all_goals (first | trivial | (refine .inr ⟨?_, ?_⟩ <;> (simp; done)) | (refine .inr ⟨?_, ?_⟩ <;> (simp <;> omega)) | (refine .inl ?_; rw [htab]; kernel_rfl))); done)); clear htab tab hKK KK; simp only [thenA, blockA, reduceIte]) | skip)
    | (refine AWP.if_t ?_ ?_; focus (simp (disch := omega) []; done))
    | (refine AWP.if_f ?_ ?_; focus (simp (disch := omega) []; done)))
  refine aStop_of (goodEnum_c _ _ rb _ bs q1 (by simp (disch := omega) only [upd_eq, upd_ne, del_ne, hrb]) (hx'.ovb hrb (fun c kc hc h => by have := (hB c kc h).1; first | exact h | (simp (disch := omega) only [upd_ne, del_ne]; exact h))) h8 (by omega)) ?_
  rintro r δ ⟨db, q2, hgb, hq2, hq3, rfl, rfl⟩
  (repeat (simp (disch := omega) []))
  first | (refine hKK _ _ _ ?_; clear hKK KK; simp only [thenA, blockA, reduceIte]) | skip
  have hal : da.length ≤ 9223372036854775807 := by have := hga.len; omega
  have has : ∀ d ∈ da, d.1.size ≤ 9223372036854775807 := fun d hd => by have := hga.sz d hd; omega
  repeat' (first
    | refine AWP.seq ?_
    | refine AWP.block ?_
    | (refine AWP.skip ?_; simp only [thenA, blockA, reduceIte])
    | (refine AWP.exit ?_; simp only [thenA, blockA, eq_self, reduceIte, Nat.reduceEqDiff, Nat.succ_ne_zero])
    | (refine AWP.ret ?_; simp only [thenA, blockA, reduceIte])
    | (refine AWP.region (by rfl) (fun KK hKK => ?_); (repeat (simp (disch := omega) [])); first | (refine hKK _ _ _ ?_; clear hKK KK; simp only [thenA, blockA, reduceIte]) | skip)
    | (refine AWP.draw' mixd (by rfl) (by kernel_rfl) (fun KK tab hKK htab => ?_); (repeat (simp (disch := omega) [])); first | (refine dEnd_ro ?_ (hKK _ _ _ ?_); (focus (simp; done)); clear htab tab hKK KK; simp only [thenA, blockA, reduceIte]) | (refine dEnd_of ?_ (hKK _ _ _ ?_); (focus (simp only [List.reverse_cons, List.reverse_nil, List.nil_append, List.cons_append, memA, mem1, and_true, true_and]; (repeat' apply And.intro); (all_goals (first | trivial | (refine .inr ⟨?_, ?_⟩ <;> (simp; done)) | (refine .inr ⟨?_, ?_⟩ <;> (simp <;> omega)) | (refine .inl ?_; rw [htab]; kernel_rfl))); done)); clear htab tab hKK KK; simp only [thenA, blockA, reduceIte]) | skip)
    | (refine AWP.if_t ?_ ?_; focus (simp (disch := omega) []; done))
    | (refine AWP.if_f ?_ ?_; focus (simp (disch := omega) []; done)))
  cases hok : okDs (-1000) 1000 da with
  | false =>
    refine aStop_of (validEnumS_c _ _ _ da (Sl.whole (t := 34) (r := true) (by simp (disch := omega) only [upd_eq, upd_ne]) (by simp [rowsD_len])) hal has) ?_
    rintro r δ ⟨rfl, rfl⟩
    (repeat (simp (disch := omega) [hok]))
    first | (refine hKK _ _ _ ?_; clear hKK KK; simp only [thenA, blockA, reduceIte]) | skip
    repeat' (first
      | refine AWP.seq ?_
      | refine AWP.block ?_
      | (refine AWP.skip ?_; simp only [thenA, blockA, reduceIte])
      | (refine AWP.exit ?_; simp only [thenA, blockA, eq_self, reduceIte, Nat.reduceEqDiff, Nat.succ_ne_zero])
      | (refine AWP.ret ?_; simp only [thenA, blockA, reduceIte])
      | (refine AWP.region (by rfl) (fun KK hKK => ?_); (repeat (simp (disch := omega) [hok])); first | (refine hKK _ _ _ ?_; clear hKK KK; simp only [thenA, blockA, reduceIte]) | skip)
      | (refine AWP.draw' mixd (by rfl) (by kernel_rfl) (fun KK tab hKK htab => ?_); (repeat (simp (disch := omega) [hok])); first | (refine dEnd_ro ?_ (hKK _ _ _ ?_); (focus (simp; done)); clear htab tab hKK KK; simp only [thenA, blockA, reduceIte]) | (refine dEnd_of ?_ (hKK _ _ _ ?_); (focus (simp only [List.reverse_cons, List.reverse_nil, List.nil_append, List.cons_append, memA, mem1, and_true, true_and]; (repeat' apply And.intro); (all_goals (first | trivial | (refine .inr ⟨?_, ?_⟩ <;> (simp; done)) | (refine .inr ⟨?_, ?_⟩ <;> (simp <;> omega)) | (refine .inl ?_; rw [htab]; kernel_rfl))); done)); clear htab tab hKK KK; simp only [thenA, blockA, reduceIte]) | skip)
      | (refine AWP.if_t ?_ ?_; focus (simp (disch := omega) [hok]; done))
      | (refine AWP.if_f ?_ ?_; focus (simp (disch := omega) [hok]; done)))
    refine ⟨by simp, ?_⟩
    have hres : Try.f46.results.toList = [.cell 2 25, .cell 3 25] := rfl
    rw [hres]
    simp (disch := omega) []
    refine fin2M (K + 1 + 1) (K + 1 + 1 + 2 + 1) (rdB (.sl bx ox bs.length capx zx) (q2)) (blkD da) (blkD db) ((by simp (disch := omega) only [upd_eq, upd_ne, del_ne, hrb])) rfl (low_rd hlo) (by simp (disch := omega) only [upd_eq, upd_ne, del_ne, hok]) rfl (flatD _).low (by simp (disch := omega) only [upd_eq, upd_ne, del_ne, hok]) rfl (flatD _).low hrν hrν1 ⟨da, db, q2, hga, hgb.more (by omega), by omega, by omega, by simp (disch := omega) [ren, rens, rho, hrν], rfl⟩ (by omega) (by omega) (by omega) (by simp [nms, nmss])
  | true =>
    refine aStop_of (validEnumS_c _ _ _ da (Sl.whole (t := 34) (r := true) (by simp (disch := omega) only [upd_eq, upd_ne]) (by simp [rowsD_len])) hal has) ?_
    rintro r δ ⟨rfl, rfl⟩
    (repeat (simp (disch := omega) [hok]))
    first | (refine hKK _ _ _ ?_; clear hKK KK; simp only [thenA, blockA, reduceIte]) | skip
    by_cases c0 : 0 < pk bs q2 3
    · refine aStop_of (pick_c _ _ rb _ bs q2 3 (by simp (disch := omega) only [upd_eq, upd_ne, del_ne, hrb]) (hx'.ovb hrb (fun c kc hc h => by have := (hB c kc h).1; first | exact h | (simp (disch := omega) only [upd_ne, del_ne]; exact h))) h8 (by omega)) ?_
      rintro r δ ⟨rfl, rfl⟩
      (repeat (simp (disch := omega) [c0]))
      first | (refine hKK _ _ _ ?_; clear hKK KK; simp only [thenA, blockA, reduceIte]) | skip
      repeat' (first
        | refine AWP.seq ?_
        | refine AWP.block ?_
        | (refine AWP.skip ?_; simp only [thenA, blockA, reduceIte])
        | (refine AWP.exit ?_; simp only [thenA, blockA, eq_self, reduceIte, Nat.reduceEqDiff, Nat.succ_ne_zero])
        | (refine AWP.ret ?_; simp only [thenA, blockA, reduceIte])
        | (refine AWP.region (by rfl) (fun KK hKK => ?_); (repeat (simp (disch := omega) [c0])); first | (refine hKK _ _ _ ?_; clear hKK KK; simp only [thenA, blockA, reduceIte]) | skip)
        | (refine AWP.draw' mixd (by rfl) (by kernel_rfl) (fun KK tab hKK htab => ?_); (repeat (simp (disch := omega) [c0])); first | (refine dEnd_ro ?_ (hKK _ _ _ ?_); (focus (simp; done)); clear htab tab hKK KK; simp only [thenA, blockA, reduceIte]) | (refine dEnd_of ?_ (hKK _ _ _ ?_); (focus (simp only [List.reverse_cons, List.reverse_nil, List.nil_append, List.cons_append, memA, mem1, and_true, true_and]; (repeat' apply And.intro); (all_goals (first | trivial | (refine .inr ⟨?_, ?_⟩ <;> (simp; done)) | (refine .inr ⟨?_, ?_⟩ <;> (simp <;> omega)) | (refine .inl ?_; rw [htab]; kernel_rfl))); done)); clear htab tab hKK KK; simp only [thenA, blockA, reduceIte]) | skip)
        | (refine AWP.if_t ?_ ?_; focus (simp (disch := omega) [c0]; done))
        | (refine AWP.if_f ?_ ?_; focus (simp (disch := omega) [c0]; done)))
      refine aStop_of (copyDefs_c _ _ _ da (Sl.whole (t := 34) (r := true) (by simp (disch := omega) only [upd_eq, upd_ne]) (by simp [rowsD_len])) (by have := hga.len; omega)) ?_
      rintro r δ ⟨rfl, rfl⟩
      (repeat (simp (disch := omega) []))
      first | (refine hKK _ _ _ ?_; clear hKK KK; simp only [thenA, blockA, reduceIte]) | skip
      repeat' (first
        | refine AWP.seq ?_
        | refine AWP.block ?_
        | (refine AWP.skip ?_; simp only [thenA, blockA, reduceIte])
        | (refine AWP.exit ?_; simp only [thenA, blockA, eq_self, reduceIte, Nat.reduceEqDiff, Nat.succ_ne_zero])
        | (refine AWP.ret ?_; simp only [thenA, blockA, reduceIte])
        | (refine AWP.region (by rfl) (fun KK hKK => ?_); (repeat (simp (disch := omega) [])); first | (refine hKK _ _ _ ?_; clear hKK KK; simp only [thenA, blockA, reduceIte]) | skip)
        | (refine AWP.draw' mixd (by rfl) (by kernel_rfl) (fun KK tab hKK htab => ?_); (repeat (simp (disch := omega) [])); first | (refine dEnd_ro ?_ (hKK _ _ _ ?_); (focus (simp; done)); clear htab tab hKK KK; simp only [thenA, blockA, reduceIte]) | (refine dEnd_of ?_ (hKK _ _ _ ?_); (focus (simp only [List.reverse_cons, List.reverse_nil, List.nil_append, List.cons_append, memA, mem1, and_true, true_and]; (repeat' apply And.intro); (all_goals (first | trivial | (refine .inr ⟨?_, ?_⟩ <;> (simp; done)) | (refine .inr ⟨?_, ?_⟩ <;> (simp <;> omega)) | (refine .inl ?_; rw [htab]; kernel_rfl))); done)); clear htab tab hKK KK; simp only [thenA, blockA, reduceIte]) | skip)
        | (refine AWP.if_t ?_ ?_; focus (simp (disch := omega) []; done))
        | (refine AWP.if_f ?_ ?_; focus (simp (disch := omega) []; done)))
      refine aStop_of (pick_c _ _ rb _ bs (q2 + 1) 4 (by simp (disch := omega) only [upd_eq, upd_ne, del_ne, hrb]) (hx'.ovb hrb (fun c kc hc h => by have := (hB c kc h).1; first | exact h | (simp (disch := omega) only [upd_ne, del_ne]; exact h))) h8 (by omega)) ?_
      rintro r δ ⟨rfl, rfl⟩
      (repeat (simp (disch := omega) []))
      first | (refine hKK _ _ _ ?_; clear hKK KK; simp only [thenA, blockA, reduceIte]) | skip
      repeat' (first
        | refine AWP.seq ?_
        | refine AWP.block ?_
        | (refine AWP.skip ?_; simp only [thenA, blockA, reduceIte])
        | (refine AWP.exit ?_; simp only [thenA, blockA, eq_self, reduceIte, Nat.reduceEqDiff, Nat.succ_ne_zero])
        | (refine AWP.ret ?_; simp only [thenA, blockA, reduceIte])
        | (refine AWP.region (by rfl) (fun KK hKK => ?_); (repeat (simp (disch := omega) [])); first | (refine hKK _ _ _ ?_; clear hKK KK; simp only [thenA, blockA, reduceIte]) | skip)
        | (refine AWP.draw' mixd (by rfl) (by kernel_rfl) (fun KK tab hKK htab => ?_); (repeat (simp (disch := omega) [])); first | (refine dEnd_ro ?_ (hKK _ _ _ ?_); (focus (simp; done)); clear htab tab hKK KK; simp only [thenA, blockA, reduceIte]) | (refine dEnd_of ?_ (hKK _ _ _ ?_); (focus (simp only [List.reverse_cons, List.reverse_nil, List.nil_append, List.cons_append, memA, mem1, and_true, true_and]; (repeat' apply And.intro); (all_goals (first | trivial | (refine .inr ⟨?_, ?_⟩ <;> (simp; done)) | (refine .inr ⟨?_, ?_⟩ <;> (simp <;> omega)) | (refine .inl ?_; rw [htab]; kernel_rfl))); done)); clear htab tab hKK KK; simp only [thenA, blockA, reduceIte]) | skip)
        | (refine AWP.if_t ?_ ?_; focus (simp (disch := omega) []; done))
        | (refine AWP.if_f ?_ ?_; focus (simp (disch := omega) []; done)))
      have hm := pk_bd h8 (p := q2 + 1) (n := 4) (by omega) (by omega)
      generalize pk bs (q2 + 1) 4 = m0 at *
      refine AWP.loop (fun n τ σ' M => ∃ (db : List Df) (q m : Int) (cb : Nat), n = m.toNat ∧ 0 ≤ m ∧ m ≤ 3 ∧ Gd db (28 - m.toNat) ∧ p ≤ q ∧ q ≤ q2 + 2 + 20 * (3 - m) ∧ τ = [(0, .ptr rb 0 0), (2, .ptr K 0 0), (3, .ptr (K + 1) 0 0), (4, .ptr (K + 1 + 1 + 2) 0 0), (5, .ptr (K + 1 + 1 + 2 + 1 + 2) 0 0), (6, .v (.int .i64 m))] ∧
        σ' rb = some (rdB (.sl bx ox bs.length capx zx) q) ∧ σ' K = some (blkE (.sl 0 0 0 (some 0) 0)) ∧ σ' (K + 1) = some (blkE (.sl 0 0 0 (some 0) 0)) ∧ σ' (K + 1 + 1) = some (blkD da) ∧ σ' (K + 1 + 1 + 2) = some (blkE (.sl (K + 1 + 1) 0 da.length none 2)) ∧ σ' (K + 1 + 1 + 2 + 1 + 2) = some (blkE (.sl cb 0 db.length none 2)) ∧ σ' cb = some (blkD db) ∧ K + 1 + 1 + 2 + 1 + 2 < cb ∧ cb < M ∧ ∀ c kc, c < K → c ≠ rb → s c = some kc → σ' c = some kc)
        ⟨_, _, _, _, ⟨da, q2 + 1 + 1, m0, K + 1 + 1 + 2 + 1 + 2 + 1 + 2 + 2, rfl, by omega, by omega, hga.more (by omega), by omega, by omega, rfl, (by simp (disch := omega) only [upd_eq, upd_ne, del_ne]), (by simp (disch := omega) only [upd_eq, upd_ne, del_ne]), (by simp (disch := omega) only [upd_eq, upd_ne, del_ne]), (by simp (disch := omega) only [upd_eq, upd_ne, del_ne]), (by simp (disch := omega) only [upd_eq, upd_ne, del_ne]), (by simp (disch := omega) only [upd_eq, upd_ne, del_ne]), (by simp (disch := omega) only [upd_eq, upd_ne, del_ne]), by omega, by omega, fun c kc hc hc2 hk => by simp (disch := omega) only [upd_ne]; exact hk⟩, Weak.tau (by simp [LQ, get])⟩ ?_
      rintro n τ σ' M ⟨db, q, m, cb, rfl, hm0, hm1, hgb, hq0', hq1', rfl, h1, h2, h3, h4, h5, h6, h7, hc1, hc2, hov⟩
      have hbl := hgb.len
      have hlen : db.length ≤ 4294967296 := by omega
      by_cases hlt : ¬ 0 < m
      · have hm : m = 0 := by omega
        subst hm
        have hcb : ¬ cb = K + 1 + 1 := by omega
        repeat' (first
          | refine AWP.seq ?_
          | refine AWP.block ?_
          | (refine AWP.skip ?_; simp only [thenA, blockA, reduceIte])
          | (refine AWP.exit ?_; simp only [thenA, blockA, eq_self, reduceIte, Nat.reduceEqDiff, Nat.succ_ne_zero])
          | (refine AWP.ret ?_; simp only [thenA, blockA, reduceIte])
          | (refine AWP.region (by rfl) (fun KK hKK => ?_); (repeat (simp (disch := omega) [h2, h3, h5, h6])); first | (refine hKK _ _ _ ?_; clear hKK KK; simp only [thenA, blockA, reduceIte]) | skip)
          | (refine AWP.draw' mixd (by rfl) (by kernel_rfl) (fun KK tab hKK htab => ?_); (repeat (simp (disch := omega) [h2, h3, h5, h6])); first | (refine dEnd_ro ?_ (hKK _ _ _ ?_); (focus (simp; done)); clear htab tab hKK KK; simp only [thenA, blockA, reduceIte]) | (refine dEnd_of ?_ (hKK _ _ _ ?_); (focus (simp only [List.reverse_cons, List.reverse_nil, List.nil_append, List.cons_append, memA, mem1, and_true, true_and]; (repeat' apply And.intro); (all_goals (first | trivial | (refine .inr ⟨?_, ?_⟩ <;> (simp; done)) | (refine .inr ⟨?_, ?_⟩ <;> (simp <;> omega)) | (refine .inl ?_; rw [htab]; kernel_rfl))); done)); clear htab tab hKK KK; simp only [thenA, blockA, reduceIte]) | skip)
          | (refine AWP.if_t ?_ ?_; focus (simp (disch := omega) [h2, h3, h5, h6]; done))
          | (refine AWP.if_f ?_ ?_; focus (simp (disch := omega) [h2, h3, h5, h6]; done)))
        repeat' (first
          | refine AWP.seq ?_
          | refine AWP.block ?_
          | (refine AWP.skip ?_; simp only [thenA, blockA, reduceIte])
          | (refine AWP.exit ?_; simp only [thenA, blockA, eq_self, reduceIte, Nat.reduceEqDiff, Nat.succ_ne_zero])
          | (refine AWP.ret ?_; simp only [thenA, blockA, reduceIte])
          | (refine AWP.region (by rfl) (fun KK hKK => ?_); (repeat (simp (disch := omega) [h1, h4, h7])); first | (refine hKK _ _ _ ?_; clear hKK KK; simp only [thenA, blockA, reduceIte]) | skip)
          | (refine AWP.draw' mixd (by rfl) (by kernel_rfl) (fun KK tab hKK htab => ?_); (repeat (simp (disch := omega) [h1, h4, h7])); first | (refine dEnd_ro ?_ (hKK _ _ _ ?_); (focus (simp; done)); clear htab tab hKK KK; simp only [thenA, blockA, reduceIte]) | (refine dEnd_of ?_ (hKK _ _ _ ?_); (focus (simp only [List.reverse_cons, List.reverse_nil, List.nil_append, List.cons_append, memA, mem1, and_true, true_and]; (repeat' apply And.intro); (all_goals (first | trivial | (refine .inr ⟨?_, ?_⟩ <;> (simp; done)) | (refine .inr ⟨?_, ?_⟩ <;> (simp <;> omega)) | (refine .inl ?_; rw [htab]; kernel_rfl))); done)); clear htab tab hKK KK; simp only [thenA, blockA, reduceIte]) | skip)
          | (refine AWP.if_t ?_ ?_; focus (simp (disch := omega) [h1, h4, h7]; done))
          | (refine AWP.if_f ?_ ?_; focus (simp (disch := omega) [h1, h4, h7]; done)))
        refine ⟨by simp, ?_⟩
        have hres : Try.f46.results.toList = [.cell 2 25, .cell 3 25] := rfl
        rw [hres]
        simp (disch := omega) []
        refine fin2M (K + 1 + 1) (cb) (rdB (.sl bx ox bs.length capx zx) (q)) (blkD da) (blkD db) (by simp (disch := omega) only [upd_eq, upd_ne, del_ne, h1]) rfl (low_rd hlo) (by simp (disch := omega) only [upd_eq, upd_ne, del_ne, h1, h4, h7]) rfl (flatD _).low (by simp (disch := omega) only [upd_eq, upd_ne, del_ne, h1, h4, h7]) rfl (flatD _).low hrν hrν1 ⟨da, db, q, hga, hgb.more (by omega), by omega, by omega, by simp (disch := omega) [ren, rens, rho, hcb], rfl⟩ (by omega) (by omega) (by omega) (by simp [nms, nmss])
      have hlt : 0 < m := by omega
      have hk := pk_bd h8 (p := q) (n := db.length + 1) (by omega) (by omega)
      have hv5 := pk_bd h8 (p := q + 1 + 1) (n := 5) (by omega) (by omega)
      have hv := iAt_mem (l := [1, 2, 3, 9, 0]) hv5.1 hv5.2
      have hnm := aNameF_sz h8 (p := q + 1) (by omega)
      have hw := w64 ((db.length : Int) + 1) (by omega) (by omega)
      repeat' (first
        | refine AWP.seq ?_
        | refine AWP.block ?_
        | (refine AWP.skip ?_; simp only [thenA, blockA, reduceIte])
        | (refine AWP.exit ?_; simp only [thenA, blockA, eq_self, reduceIte, Nat.reduceEqDiff, Nat.succ_ne_zero])
        | (refine AWP.ret ?_; simp only [thenA, blockA, reduceIte])
        | (refine AWP.region (by rfl) (fun KK hKK => ?_); (repeat (simp (disch := omega) [hlt, h6])); first | (refine hKK _ _ _ ?_; clear hKK KK; simp only [thenA, blockA, reduceIte]) | skip)
        | (refine AWP.draw' mixd (by rfl) (by kernel_rfl) (fun KK tab hKK htab => ?_); (repeat (simp (disch := omega) [hlt, h6])); first | (refine dEnd_ro ?_ (hKK _ _ _ ?_); (focus (simp; done)); clear htab tab hKK KK; simp only [thenA, blockA, reduceIte]) | (refine dEnd_of ?_ (hKK _ _ _ ?_); (focus (simp only [List.reverse_cons, List.reverse_nil, List.nil_append, List.cons_append, memA, mem1, and_true, true_and]; (repeat' apply And.intro); (all_goals (first | trivial | (refine .inr ⟨?_, ?_⟩ <;> (simp; done)) | (refine .inr ⟨?_, ?_⟩ <;> (simp <;> omega)) | (refine .inl ?_; rw [htab]; kernel_rfl))); done)); clear htab tab hKK KK; simp only [thenA, blockA, reduceIte]) | skip)
        | (refine AWP.if_t ?_ ?_; focus (simp (disch := omega) [hlt, h6]; done))
        | (refine AWP.if_f ?_ ?_; focus (simp (disch := omega) [hlt, h6]; done)))
      refine aStop_of (pick_c _ _ rb _ bs q (db.length + 1) (by simp (disch := omega) only [upd_eq, upd_ne, del_ne, h1]) (hx'.ovb hrb (fun c kc hc h => by have := (hB c kc h).1; have h2 := hov c kc this hc h; first | exact h2 | (simp (disch := omega) only [upd_ne, del_ne]; exact h2))) h8 (by omega)) ?_
      rintro r δ ⟨rfl, rfl⟩
      (repeat (simp (disch := omega) []))
      first | (refine hKK _ _ _ ?_; clear hKK KK; simp only [thenA, blockA, reduceIte]) | skip
      repeat' (first
        | refine AWP.seq ?_
        | refine AWP.block ?_
        | (refine AWP.skip ?_; simp only [thenA, blockA, reduceIte])
        | (refine AWP.exit ?_; simp only [thenA, blockA, eq_self, reduceIte, Nat.reduceEqDiff, Nat.succ_ne_zero])
        | (refine AWP.ret ?_; simp only [thenA, blockA, reduceIte])
        | (refine AWP.region (by rfl) (fun KK hKK => ?_); (repeat (simp (disch := omega) [])); first | (refine hKK _ _ _ ?_; clear hKK KK; simp only [thenA, blockA, reduceIte]) | skip)
        | (refine AWP.draw' mixd (by rfl) (by kernel_rfl) (fun KK tab hKK htab => ?_); (repeat (simp (disch := omega) [])); first | (refine dEnd_ro ?_ (hKK _ _ _ ?_); (focus (simp; done)); clear htab tab hKK KK; simp only [thenA, blockA, reduceIte]) | (refine dEnd_of ?_ (hKK _ _ _ ?_); (focus (simp only [List.reverse_cons, List.reverse_nil, List.nil_append, List.cons_append, memA, mem1, and_true, true_and]; (repeat' apply And.intro); (all_goals (first | trivial | (refine .inr ⟨?_, ?_⟩ <;> (simp; done)) | (refine .inr ⟨?_, ?_⟩ <;> (simp <;> omega)) | (refine .inl ?_; rw [htab]; kernel_rfl))); done)); clear htab tab hKK KK; simp only [thenA, blockA, reduceIte]) | skip)
        | (refine AWP.if_t ?_ ?_; focus (simp (disch := omega) []; done))
        | (refine AWP.if_f ?_ ?_; focus (simp (disch := omega) []; done)))
      refine aStop_of (aName_c _ _ rb _ bs (q + 1) (by simp (disch := omega) only [upd_eq, upd_ne, del_ne, h1]) (hx'.ovb hrb (fun c kc hc h => by have := (hB c kc h).1; have h2 := hov c kc this hc h; first | exact h2 | (simp (disch := omega) only [upd_ne, del_ne]; exact h2))) h8 (by omega)) ?_
      rintro r δ ⟨rfl, rfl⟩
      (repeat (simp (disch := omega) []))
      first | (refine hKK _ _ _ ?_; clear hKK KK; simp only [thenA, blockA, reduceIte]) | skip
      refine aStop_of (one_c _ _ rb _ _ bs (q + 1 + 1) [1, 2, 3, 9, 0] (by simp (disch := omega) only [upd_eq, upd_ne, del_ne, h1]) (hx'.ovb hrb (fun c kc hc h => by have := (hB c kc h).1; have h2 := hov c kc this hc h; first | exact h2 | (simp (disch := omega) only [upd_ne, del_ne]; exact h2))) h8 (by omega) (Sl.whole (t := 3) (r := true) (by simp only [upd_eq]; rfl) rfl) (by decide) (by decide)) ?_
      rintro r δ ⟨rfl, rfl⟩
      (repeat (simp (disch := omega) []))
      first | (refine hKK _ _ _ ?_; clear hKK KK; simp only [thenA, blockA, reduceIte]) | skip
      generalize iAt [1, 2, 3, 9, 0] _ = v at *
      generalize aNameF bs _ = nm at *
      simp only [List.mem_cons, List.not_mem_nil, or_false] at hv
      generalize pk bs q (db.length + 1) = kk at *
      obtain ⟨kn, rfl⟩ := Int.eq_ofNat_of_zero_le hk.1
      have hz1 : (db.length + 1) * 24 ≤ 140737488355328 := by omega
      have hz2 : db.length + 1 ≤ 4611686018427387904 := by omega
      by_cases a1 : (kn : Int) < db.length
      · have hil : kn < db.length := by omega
        have hrow := rowsD_at db _ hil
        by_cases a2 : pk bs (q + 1 + 1 + 1) 3 = 0
        · repeat' (first
            | refine AWP.seq ?_
            | refine AWP.block ?_
            | (refine AWP.skip ?_; simp only [thenA, blockA, reduceIte])
            | (refine AWP.exit ?_; simp only [thenA, blockA, eq_self, reduceIte, Nat.reduceEqDiff, Nat.succ_ne_zero])
            | (refine AWP.ret ?_; simp only [thenA, blockA, reduceIte])
            | (refine AWP.region (by rfl) (fun KK hKK => ?_); (repeat (simp (disch := omega) [h6, a1])); first | (refine hKK _ _ _ ?_; clear hKK KK; simp only [thenA, blockA, reduceIte]) | skip)
            | (refine AWP.draw' mixd (by rfl) (by kernel_rfl) (fun KK tab hKK htab => ?_); (repeat (simp (disch := omega) [h6, a1])); first | (refine dEnd_ro ?_ (hKK _ _ _ ?_); (focus (simp; done)); clear htab tab hKK KK; simp only [thenA, blockA, reduceIte]) | (refine dEnd_of ?_ (hKK _ _ _ ?_); (focus (simp only [List.reverse_cons, List.reverse_nil, List.nil_append, List.cons_append, memA, mem1, and_true, true_and]; (repeat' apply And.intro); (all_goals (first | trivial | (refine .inr ⟨?_, ?_⟩ <;> (simp; done)) | (refine .inr ⟨?_, ?_⟩ <;> (simp <;> omega)) | (refine .inl ?_; rw [htab]; kernel_rfl))); done)); clear htab tab hKK KK; simp only [thenA, blockA, reduceIte]) | skip)
            | (refine AWP.if_t ?_ ?_; focus (simp (disch := omega) [h6, a1]; done))
            | (refine AWP.if_f ?_ ?_; focus (simp (disch := omega) [h6, a1]; done)))
          refine aStop_of (pick_c _ _ rb _ bs (q + 1 + 1 + 1) 3 (by simp (disch := omega) only [upd_eq, upd_ne, del_ne, h1]) (hx'.ovb hrb (fun c kc hc h => by have := (hB c kc h).1; have h2 := hov c kc this hc h; first | exact h2 | (simp (disch := omega) only [upd_ne, del_ne]; exact h2))) h8 (by omega)) ?_
          rintro r δ ⟨rfl, rfl⟩
          (repeat (simp (disch := omega) [a2]))
          first | (refine hKK _ _ _ ?_; clear hKK KK; simp only [thenA, blockA, reduceIte]) | skip
          repeat' (first
            | refine AWP.seq ?_
            | refine AWP.block ?_
            | (refine AWP.skip ?_; simp only [thenA, blockA, reduceIte])
            | (refine AWP.exit ?_; simp only [thenA, blockA, eq_self, reduceIte, Nat.reduceEqDiff, Nat.succ_ne_zero])
            | (refine AWP.ret ?_; simp only [thenA, blockA, reduceIte])
            | (refine AWP.region (by rfl) (fun KK hKK => ?_); (repeat (simp (disch := omega) [h6])); first | (refine hKK _ _ _ ?_; clear hKK KK; simp only [thenA, blockA, reduceIte]) | skip)
            | (refine AWP.draw' mixd (by rfl) (by kernel_rfl) (fun KK tab hKK htab => ?_); (repeat (simp (disch := omega) [h6])); first | (refine dEnd_ro ?_ (hKK _ _ _ ?_); (focus (simp; done)); clear htab tab hKK KK; simp only [thenA, blockA, reduceIte]) | (refine dEnd_of ?_ (hKK _ _ _ ?_); (focus (simp only [List.reverse_cons, List.reverse_nil, List.nil_append, List.cons_append, memA, mem1, and_true, true_and]; (repeat' apply And.intro); (all_goals (first | trivial | (refine .inr ⟨?_, ?_⟩ <;> (simp; done)) | (refine .inr ⟨?_, ?_⟩ <;> (simp <;> omega)) | (refine .inl ?_; rw [htab]; kernel_rfl))); done)); clear htab tab hKK KK; simp only [thenA, blockA, reduceIte]) | skip)
            | (refine AWP.if_t ?_ ?_; focus (simp (disch := omega) [h6]; done))
            | (refine AWP.if_f ?_ ?_; focus (simp (disch := omega) [h6]; done)))
          refine aStop_of (dropped_c _ _ _ db kn (Sl.whole (t := 34) (r := true) (by simp (disch := omega) only [upd_eq, upd_ne, del_ne, h7]) (by simp [rowsD_len])) hlen hil) ?_
          rintro r δ ⟨rfl, rfl⟩
          (repeat (simp (disch := omega) [h6]))
          first | (refine hKK _ _ _ ?_; clear hKK KK; simp only [thenA, blockA, reduceIte]) | skip
          repeat' (first
            | refine AWP.seq ?_
            | refine AWP.block ?_
            | (refine AWP.skip ?_; simp only [thenA, blockA, reduceIte])
            | (refine AWP.exit ?_; simp only [thenA, blockA, eq_self, reduceIte, Nat.reduceEqDiff, Nat.succ_ne_zero])
            | (refine AWP.ret ?_; simp only [thenA, blockA, reduceIte])
            | (refine AWP.region (by rfl) (fun KK hKK => ?_); (repeat (simp (disch := omega) [])); first | (refine hKK _ _ _ ?_; clear hKK KK; simp only [thenA, blockA, reduceIte]) | skip)
            | (refine AWP.draw' mixd (by rfl) (by kernel_rfl) (fun KK tab hKK htab => ?_); (repeat (simp (disch := omega) [])); first | (refine dEnd_ro ?_ (hKK _ _ _ ?_); (focus (simp; done)); clear htab tab hKK KK; simp only [thenA, blockA, reduceIte]) | (refine dEnd_of ?_ (hKK _ _ _ ?_); (focus (simp only [List.reverse_cons, List.reverse_nil, List.nil_append, List.cons_append, memA, mem1, and_true, true_and]; (repeat' apply And.intro); (all_goals (first | trivial | (refine .inr ⟨?_, ?_⟩ <;> (simp; done)) | (refine .inr ⟨?_, ?_⟩ <;> (simp <;> omega)) | (refine .inl ?_; rw [htab]; kernel_rfl))); done)); clear htab tab hKK KK; simp only [thenA, blockA, reduceIte]) | skip)
            | (refine AWP.if_t ?_ ?_; focus (simp (disch := omega) []; done))
            | (refine AWP.if_f ?_ ?_; focus (simp (disch := omega) []; done)))
          refine ⟨_, _, _, _, ?_, ⟨db.eraseIdx kn, q + 1 + 1 + 1 + 1, m - 1, M + 2 + 2 + 1 + 2 + 1 + 2, rfl, by omega, by omega, (hgb.erase kn).more (by omega), by omega, by omega, rfl, (by simp (disch := omega) only [upd_eq, upd_ne, del_ne, h1]), (by simp (disch := omega) only [upd_eq, upd_ne, del_ne, h2]), (by simp (disch := omega) only [upd_eq, upd_ne, del_ne, h3]), (by simp (disch := omega) only [upd_eq, upd_ne, del_ne, h4]), (by simp (disch := omega) only [upd_eq, upd_ne, del_ne, h5]), (by simp (disch := omega) only [upd_eq, upd_ne, del_ne, h6, List.length_append, List.length_cons, List.length_nil, Nat.zero_add, valD_len]), (by simp (disch := omega) only [upd_eq, upd_ne, del_ne, h7]), by omega, by omega, fun c kc hc hc2 hk => by have hh := hov c kc hc hc2 hk; first | exact hh | (simp (disch := omega) only [upd_ne, del_ne]; exact hh)⟩, Weak.tau (by simp [LQ, get])⟩
          omega
        · by_cases a3 : pk bs (q + 1 + 1 + 1 + 1) 2 = 0
          · repeat' (first
              | refine AWP.seq ?_
              | refine AWP.block ?_
              | (refine AWP.skip ?_; simp only [thenA, blockA, reduceIte])
              | (refine AWP.exit ?_; simp only [thenA, blockA, eq_self, reduceIte, Nat.reduceEqDiff, Nat.succ_ne_zero])
              | (refine AWP.ret ?_; simp only [thenA, blockA, reduceIte])
              | (refine AWP.region (by rfl) (fun KK hKK => ?_); (repeat (simp (disch := omega) [h6, a1])); first | (refine hKK _ _ _ ?_; clear hKK KK; simp only [thenA, blockA, reduceIte]) | skip)
              | (refine AWP.draw' mixd (by rfl) (by kernel_rfl) (fun KK tab hKK htab => ?_); (repeat (simp (disch := omega) [h6, a1])); first | (refine dEnd_ro ?_ (hKK _ _ _ ?_); (focus (simp; done)); clear htab tab hKK KK; simp only [thenA, blockA, reduceIte]) | (refine dEnd_of ?_ (hKK _ _ _ ?_); (focus (simp only [List.reverse_cons, List.reverse_nil, List.nil_append, List.cons_append, memA, mem1, and_true, true_and]; (repeat' apply And.intro); (all_goals (first | trivial | (refine .inr ⟨?_, ?_⟩ <;> (simp; done)) | (refine .inr ⟨?_, ?_⟩ <;> (simp <;> omega)) | (refine .inl ?_; rw [htab]; kernel_rfl))); done)); clear htab tab hKK KK; simp only [thenA, blockA, reduceIte]) | skip)
              | (refine AWP.if_t ?_ ?_; focus (simp (disch := omega) [h6, a1]; done))
              | (refine AWP.if_f ?_ ?_; focus (simp (disch := omega) [h6, a1]; done)))
            refine aStop_of (pick_c _ _ rb _ bs (q + 1 + 1 + 1) 3 (by simp (disch := omega) only [upd_eq, upd_ne, del_ne, h1]) (hx'.ovb hrb (fun c kc hc h => by have := (hB c kc h).1; have h2 := hov c kc this hc h; first | exact h2 | (simp (disch := omega) only [upd_ne, del_ne]; exact h2))) h8 (by omega)) ?_
            rintro r δ ⟨rfl, rfl⟩
            (repeat (simp (disch := omega) [a2, h6, a1]))
            first | (refine hKK _ _ _ ?_; clear hKK KK; simp only [thenA, blockA, reduceIte]) | skip
            repeat' (first
              | refine AWP.seq ?_
              | refine AWP.block ?_
              | (refine AWP.skip ?_; simp only [thenA, blockA, reduceIte])
              | (refine AWP.exit ?_; simp only [thenA, blockA, eq_self, reduceIte, Nat.reduceEqDiff, Nat.succ_ne_zero])
              | (refine AWP.ret ?_; simp only [thenA, blockA, reduceIte])
              | (refine AWP.region (by rfl) (fun KK hKK => ?_); (repeat (simp (disch := omega) [h6, a1])); first | (refine hKK _ _ _ ?_; clear hKK KK; simp only [thenA, blockA, reduceIte]) | skip)
              | (refine AWP.draw' mixd (by rfl) (by kernel_rfl) (fun KK tab hKK htab => ?_); (repeat (simp (disch := omega) [h6, a1])); first | (refine dEnd_ro ?_ (hKK _ _ _ ?_); (focus (simp; done)); clear htab tab hKK KK; simp only [thenA, blockA, reduceIte]) | (refine dEnd_of ?_ (hKK _ _ _ ?_); (focus (simp only [List.reverse_cons, List.reverse_nil, List.nil_append, List.cons_append, memA, mem1, and_true, true_and]; (repeat' apply And.intro); (all_goals (first | trivial | (refine .inr ⟨?_, ?_⟩ <;> (simp; done)) | (refine .inr ⟨?_, ?_⟩ <;> (simp <;> omega)) | (refine .inl ?_; rw [htab]; kernel_rfl))); done)); clear htab tab hKK KK; simp only [thenA, blockA, reduceIte]) | skip)
              | (refine AWP.if_t ?_ ?_; focus (simp (disch := omega) [h6, a1]; done))
              | (refine AWP.if_f ?_ ?_; focus (simp (disch := omega) [h6, a1]; done)))
            refine aStop_of (pick_c _ _ rb _ bs (q + 1 + 1 + 1 + 1) 2 (by simp (disch := omega) only [upd_eq, upd_ne, del_ne, h1]) (hx'.ovb hrb (fun c kc hc h => by have := (hB c kc h).1; have h2 := hov c kc this hc h; first | exact h2 | (simp (disch := omega) only [upd_ne, del_ne]; exact h2))) h8 (by omega)) ?_
            rintro r δ ⟨rfl, rfl⟩
            (repeat (simp (disch := omega) [a3, h6, a1]))
            first | (refine hKK _ _ _ ?_; clear hKK KK; simp only [thenA, blockA, reduceIte]) | skip
            repeat' (first
              | refine AWP.seq ?_
              | refine AWP.block ?_
              | (refine AWP.skip ?_; simp only [thenA, blockA, reduceIte])
              | (refine AWP.exit ?_; simp only [thenA, blockA, eq_self, reduceIte, Nat.reduceEqDiff, Nat.succ_ne_zero])
              | (refine AWP.ret ?_; simp only [thenA, blockA, reduceIte])
              | (refine AWP.region (by rfl) (fun KK hKK => ?_); (repeat (simp (disch := omega) [h6, a1, h7, hrow])); first | (refine hKK _ _ _ ?_; clear hKK KK; simp only [thenA, blockA, reduceIte]) | skip)
              | (refine AWP.draw' mixd (by rfl) (by kernel_rfl) (fun KK tab hKK htab => ?_); (repeat (simp (disch := omega) [h6, a1, h7, hrow])); first | (refine dEnd_ro ?_ (hKK _ _ _ ?_); (focus (simp; done)); clear htab tab hKK KK; simp only [thenA, blockA, reduceIte]) | (refine dEnd_of ?_ (hKK _ _ _ ?_); (focus (simp only [List.reverse_cons, List.reverse_nil, List.nil_append, List.cons_append, memA, mem1, and_true, true_and]; (repeat' apply And.intro); (all_goals (first | trivial | (refine .inr ⟨?_, ?_⟩ <;> (simp; done)) | (refine .inr ⟨?_, ?_⟩ <;> (simp <;> omega)) | (refine .inl ?_; rw [htab]; kernel_rfl))); done)); clear htab tab hKK KK; simp only [thenA, blockA, reduceIte]) | skip)
              | (refine AWP.if_t ?_ ?_; focus (simp (disch := omega) [h6, a1, h7, hrow]; done))
              | (refine AWP.if_f ?_ ?_; focus (simp (disch := omega) [h6, a1, h7, hrow]; done)))
            refine ⟨_, _, _, _, ?_, ⟨valD db kn v, q + 1 + 1 + 1 + 1 + 1, m - 1, cb, rfl, by omega, by omega, (hgb.val (by omega) (by omega)).more (by omega), by omega, by omega, rfl, (by simp (disch := omega) only [upd_eq, upd_ne, del_ne, h1]), (by simp (disch := omega) only [upd_eq, upd_ne, del_ne, h2]), (by simp (disch := omega) only [upd_eq, upd_ne, del_ne, h3]), (by simp (disch := omega) only [upd_eq, upd_ne, del_ne, h4]), (by simp (disch := omega) only [upd_eq, upd_ne, del_ne, h5]), (by simp (disch := omega) only [upd_eq, upd_ne, del_ne, h6, List.length_append, List.length_cons, List.length_nil, Nat.zero_add, valD_len]), (by simp (disch := omega) only [upd_eq, upd_ne, del_ne, h7, blkD, rowsD_val _ _ hil]), by omega, by omega, fun c kc hc hc2 hk => by have hh := hov c kc hc hc2 hk; first | exact hh | (simp (disch := omega) only [upd_ne, del_ne]; exact hh)⟩, Weak.tau (by simp [LQ, get])⟩
            omega
          · repeat' (first
              | refine AWP.seq ?_
              | refine AWP.block ?_
              | (refine AWP.skip ?_; simp only [thenA, blockA, reduceIte])
              | (refine AWP.exit ?_; simp only [thenA, blockA, eq_self, reduceIte, Nat.reduceEqDiff, Nat.succ_ne_zero])
              | (refine AWP.ret ?_; simp only [thenA, blockA, reduceIte])
              | (refine AWP.region (by rfl) (fun KK hKK => ?_); (repeat (simp (disch := omega) [h6, a1])); first | (refine hKK _ _ _ ?_; clear hKK KK; simp only [thenA, blockA, reduceIte]) | skip)
              | (refine AWP.draw' mixd (by rfl) (by kernel_rfl) (fun KK tab hKK htab => ?_); (repeat (simp (disch := omega) [h6, a1])); first | (refine dEnd_ro ?_ (hKK _ _ _ ?_); (focus (simp; done)); clear htab tab hKK KK; simp only [thenA, blockA, reduceIte]) | (refine dEnd_of ?_ (hKK _ _ _ ?_); (focus (simp only [List.reverse_cons, List.reverse_nil, List.nil_append, List.cons_append, memA, mem1, and_true, true_and]; (repeat' apply And.intro); (all_goals (first | trivial | (refine .inr ⟨?_, ?_⟩ <;> (simp; done)) | (refine .inr ⟨?_, ?_⟩ <;> (simp <;> omega)) | (refine .inl ?_; rw [htab]; kernel_rfl))); done)); clear htab tab hKK KK; simp only [thenA, blockA, reduceIte]) | skip)
              | (refine AWP.if_t ?_ ?_; focus (simp (disch := omega) [h6, a1]; done))
              | (refine AWP.if_f ?_ ?_; focus (simp (disch := omega) [h6, a1]; done)))
            refine aStop_of (pick_c _ _ rb _ bs (q + 1 + 1 + 1) 3 (by simp (disch := omega) only [upd_eq, upd_ne, del_ne, h1]) (hx'.ovb hrb (fun c kc hc h => by have := (hB c kc h).1; have h2 := hov c kc this hc h; first | exact h2 | (simp (disch := omega) only [upd_ne, del_ne]; exact h2))) h8 (by omega)) ?_
            rintro r δ ⟨rfl, rfl⟩
            (repeat (simp (disch := omega) [a2, h6, a1]))
            first | (refine hKK _ _ _ ?_; clear hKK KK; simp only [thenA, blockA, reduceIte]) | skip
            repeat' (first
              | refine AWP.seq ?_
              | refine AWP.block ?_
              | (refine AWP.skip ?_; simp only [thenA, blockA, reduceIte])
              | (refine AWP.exit ?_; simp only [thenA, blockA, eq_self, reduceIte, Nat.reduceEqDiff, Nat.succ_ne_zero])
              | (refine AWP.ret ?_; simp only [thenA, blockA, reduceIte])
              | (refine AWP.region (by rfl) (fun KK hKK => ?_); (repeat (simp (disch := omega) [h6, a1])); first | (refine hKK _ _ _ ?_; clear hKK KK; simp only [thenA, blockA, reduceIte]) | skip)
              | (refine AWP.draw' mixd (by rfl) (by kernel_rfl) (fun KK tab hKK htab => ?_); (repeat (simp (disch := omega) [h6, a1])); first | (refine dEnd_ro ?_ (hKK _ _ _ ?_); (focus (simp; done)); clear htab tab hKK KK; simp only [thenA, blockA, reduceIte]) | (refine dEnd_of ?_ (hKK _ _ _ ?_); (focus (simp only [List.reverse_cons, List.reverse_nil, List.nil_append, List.cons_append, memA, mem1, and_true, true_and]; (repeat' apply And.intro); (all_goals (first | trivial | (refine .inr ⟨?_, ?_⟩ <;> (simp; done)) | (refine .inr ⟨?_, ?_⟩ <;> (simp <;> omega)) | (refine .inl ?_; rw [htab]; kernel_rfl))); done)); clear htab tab hKK KK; simp only [thenA, blockA, reduceIte]) | skip)
              | (refine AWP.if_t ?_ ?_; focus (simp (disch := omega) [h6, a1]; done))
              | (refine AWP.if_f ?_ ?_; focus (simp (disch := omega) [h6, a1]; done)))
            refine aStop_of (pick_c _ _ rb _ bs (q + 1 + 1 + 1 + 1) 2 (by simp (disch := omega) only [upd_eq, upd_ne, del_ne, h1]) (hx'.ovb hrb (fun c kc hc h => by have := (hB c kc h).1; have h2 := hov c kc this hc h; first | exact h2 | (simp (disch := omega) only [upd_ne, del_ne]; exact h2))) h8 (by omega)) ?_
            rintro r δ ⟨rfl, rfl⟩
            (repeat (simp (disch := omega) [a3, h6, a1]))
            first | (refine hKK _ _ _ ?_; clear hKK KK; simp only [thenA, blockA, reduceIte]) | skip
            by_cases b1 : nameIx db nm < 0
            · by_cases b2 : (db.length : Int) < 12
              · repeat' (first
                  | refine AWP.seq ?_
                  | refine AWP.block ?_
                  | (refine AWP.skip ?_; simp only [thenA, blockA, reduceIte])
                  | (refine AWP.exit ?_; simp only [thenA, blockA, eq_self, reduceIte, Nat.reduceEqDiff, Nat.succ_ne_zero])
                  | (refine AWP.ret ?_; simp only [thenA, blockA, reduceIte])
                  | (refine AWP.region (by rfl) (fun KK hKK => ?_); (repeat (simp (disch := omega) [h6])); first | (refine hKK _ _ _ ?_; clear hKK KK; simp only [thenA, blockA, reduceIte]) | skip)
                  | (refine AWP.draw' mixd (by rfl) (by kernel_rfl) (fun KK tab hKK htab => ?_); (repeat (simp (disch := omega) [h6])); first | (refine dEnd_ro ?_ (hKK _ _ _ ?_); (focus (simp; done)); clear htab tab hKK KK; simp only [thenA, blockA, reduceIte]) | (refine dEnd_of ?_ (hKK _ _ _ ?_); (focus (simp only [List.reverse_cons, List.reverse_nil, List.nil_append, List.cons_append, memA, mem1, and_true, true_and]; (repeat' apply And.intro); (all_goals (first | trivial | (refine .inr ⟨?_, ?_⟩ <;> (simp; done)) | (refine .inr ⟨?_, ?_⟩ <;> (simp <;> omega)) | (refine .inl ?_; rw [htab]; kernel_rfl))); done)); clear htab tab hKK KK; simp only [thenA, blockA, reduceIte]) | skip)
                  | (refine AWP.if_t ?_ ?_; focus (simp (disch := omega) [h6]; done))
                  | (refine AWP.if_f ?_ ?_; focus (simp (disch := omega) [h6]; done)))
                refine aStop_of (indexOf_c _ _ _ db nm (Sl.whole (t := 34) (r := true) (by simp (disch := omega) only [upd_eq, upd_ne, del_ne, h7]) (by simp [rowsD_len])) (by omega)) ?_
                rintro r δ ⟨rfl, rfl⟩
                (repeat (simp (disch := omega) [b1, b2, h6]))
                first | (refine hKK _ _ _ ?_; clear hKK KK; simp only [thenA, blockA, reduceIte]) | skip
                repeat' (first
                  | refine AWP.seq ?_
                  | refine AWP.block ?_
                  | (refine AWP.skip ?_; simp only [thenA, blockA, reduceIte])
                  | (refine AWP.exit ?_; simp only [thenA, blockA, eq_self, reduceIte, Nat.reduceEqDiff, Nat.succ_ne_zero])
                  | (refine AWP.ret ?_; simp only [thenA, blockA, reduceIte])
                  | (refine AWP.region (by rfl) (fun KK hKK => ?_); (repeat (simp (disch := omega) [h6, h7, elems, rowsD_len, rowsD_snoc, rowsD_take, hz1, hz2])); first | (refine hKK _ _ _ ?_; clear hKK KK; simp only [thenA, blockA, reduceIte]) | skip)
                  | (refine AWP.draw' mixd (by rfl) (by kernel_rfl) (fun KK tab hKK htab => ?_); (repeat (simp (disch := omega) [h6, h7, elems, rowsD_len, rowsD_snoc, rowsD_take, hz1, hz2])); first | (refine dEnd_ro ?_ (hKK _ _ _ ?_); (focus (simp; done)); clear htab tab hKK KK; simp only [thenA, blockA, reduceIte]) | (refine dEnd_of ?_ (hKK _ _ _ ?_); (focus (simp only [List.reverse_cons, List.reverse_nil, List.nil_append, List.cons_append, memA, mem1, and_true, true_and]; (repeat' apply And.intro); (all_goals (first | trivial | (refine .inr ⟨?_, ?_⟩ <;> (simp; done)) | (refine .inr ⟨?_, ?_⟩ <;> (simp <;> omega)) | (refine .inl ?_; rw [htab]; kernel_rfl))); done)); clear htab tab hKK KK; simp only [thenA, blockA, reduceIte]) | skip)
                  | (refine AWP.if_t ?_ ?_; focus (simp (disch := omega) [h6, h7, elems, rowsD_len, rowsD_snoc, rowsD_take, hz1, hz2]; done))
                  | (refine AWP.if_f ?_ ?_; focus (simp (disch := omega) [h6, h7, elems, rowsD_len, rowsD_snoc, rowsD_take, hz1, hz2]; done)))
                refine ⟨_, _, _, _, ?_, ⟨(db ++ [(nm, v)]), q + 1 + 1 + 1 + 1 + 1, m - 1, M + 2 + 2 + 1 + 2 + 1 + 2 + 2 + 2 + 1, rfl, by omega, by omega, (hgb.snoc hnm (by omega) (by omega)).more (by omega), by omega, by omega, rfl, (by simp (disch := omega) only [upd_eq, upd_ne, del_ne, h1]), (by simp (disch := omega) only [upd_eq, upd_ne, del_ne, h2]), (by simp (disch := omega) only [upd_eq, upd_ne, del_ne, h3]), (by simp (disch := omega) only [upd_eq, upd_ne, del_ne, h4]), (by simp (disch := omega) only [upd_eq, upd_ne, del_ne, h5]), (by simp (disch := omega) only [upd_eq, upd_ne, del_ne, h6, List.length_append, List.length_cons, List.length_nil, Nat.zero_add, valD_len]), (by simp (disch := omega) only [upd_eq, upd_ne, del_ne, h7]), by omega, by omega, fun c kc hc hc2 hk => by have hh := hov c kc hc hc2 hk; first | exact hh | (simp (disch := omega) only [upd_ne, del_ne]; exact hh)⟩, Weak.tau (by simp [LQ, get])⟩
                omega
              · repeat' (first
                  | refine AWP.seq ?_
                  | refine AWP.block ?_
                  | (refine AWP.skip ?_; simp only [thenA, blockA, reduceIte])
                  | (refine AWP.exit ?_; simp only [thenA, blockA, eq_self, reduceIte, Nat.reduceEqDiff, Nat.succ_ne_zero])
                  | (refine AWP.ret ?_; simp only [thenA, blockA, reduceIte])
                  | (refine AWP.region (by rfl) (fun KK hKK => ?_); (repeat (simp (disch := omega) [h6])); first | (refine hKK _ _ _ ?_; clear hKK KK; simp only [thenA, blockA, reduceIte]) | skip)
                  | (refine AWP.draw' mixd (by rfl) (by kernel_rfl) (fun KK tab hKK htab => ?_); (repeat (simp (disch := omega) [h6])); first | (refine dEnd_ro ?_ (hKK _ _ _ ?_); (focus (simp; done)); clear htab tab hKK KK; simp only [thenA, blockA, reduceIte]) | (refine dEnd_of ?_ (hKK _ _ _ ?_); (focus (simp only [List.reverse_cons, List.reverse_nil, List.nil_append, List.cons_append, memA, mem1, and_true, true_and]; (repeat' apply And.intro); (all_goals (first | trivial | (refine .inr ⟨?_, ?_⟩ <;> (simp; done)) | (refine .inr ⟨?_, ?_⟩ <;> (simp <;> omega)) | (refine .inl ?_; rw [htab]; kernel_rfl))); done)); clear htab tab hKK KK; simp only [thenA, blockA, reduceIte]) | skip)
                  | (refine AWP.if_t ?_ ?_; focus (simp (disch := omega) [h6]; done))
                  | (refine AWP.if_f ?_ ?_; focus (simp (disch := omega) [h6]; done)))
                refine aStop_of (indexOf_c _ _ _ db nm (Sl.whole (t := 34) (r := true) (by simp (disch := omega) only [upd_eq, upd_ne, del_ne, h7]) (by simp [rowsD_len])) (by omega)) ?_
                rintro r δ ⟨rfl, rfl⟩
                (repeat (simp (disch := omega) [b1, b2, h6]))
                first | (refine hKK _ _ _ ?_; clear hKK KK; simp only [thenA, blockA, reduceIte]) | skip
                repeat' (first
                  | refine AWP.seq ?_
                  | refine AWP.block ?_
                  | (refine AWP.skip ?_; simp only [thenA, blockA, reduceIte])
                  | (refine AWP.exit ?_; simp only [thenA, blockA, eq_self, reduceIte, Nat.reduceEqDiff, Nat.succ_ne_zero])
                  | (refine AWP.ret ?_; simp only [thenA, blockA, reduceIte])
                  | (refine AWP.region (by rfl) (fun KK hKK => ?_); (repeat (simp (disch := omega) [h6])); first | (refine hKK _ _ _ ?_; clear hKK KK; simp only [thenA, blockA, reduceIte]) | skip)
                  | (refine AWP.draw' mixd (by rfl) (by kernel_rfl) (fun KK tab hKK htab => ?_); (repeat (simp (disch := omega) [h6])); first | (refine dEnd_ro ?_ (hKK _ _ _ ?_); (focus (simp; done)); clear htab tab hKK KK; simp only [thenA, blockA, reduceIte]) | (refine dEnd_of ?_ (hKK _ _ _ ?_); (focus (simp only [List.reverse_cons, List.reverse_nil, List.nil_append, List.cons_append, memA, mem1, and_true, true_and]; (repeat' apply And.intro); (all_goals (first | trivial | (refine .inr ⟨?_, ?_⟩ <;> (simp; done)) | (refine .inr ⟨?_, ?_⟩ <;> (simp <;> omega)) | (refine .inl ?_; rw [htab]; kernel_rfl))); done)); clear htab tab hKK KK; simp only [thenA, blockA, reduceIte]) | skip)
                  | (refine AWP.if_t ?_ ?_; focus (simp (disch := omega) [h6]; done))
                  | (refine AWP.if_f ?_ ?_; focus (simp (disch := omega) [h6]; done)))
                refine ⟨_, _, _, _, ?_, ⟨db, q + 1 + 1 + 1 + 1 + 1, m - 1, cb, rfl, by omega, by omega, hgb.more (by omega), by omega, by omega, rfl, (by simp (disch := omega) only [upd_eq, upd_ne, del_ne, h1]), (by simp (disch := omega) only [upd_eq, upd_ne, del_ne, h2]), (by simp (disch := omega) only [upd_eq, upd_ne, del_ne, h3]), (by simp (disch := omega) only [upd_eq, upd_ne, del_ne, h4]), (by simp (disch := omega) only [upd_eq, upd_ne, del_ne, h5]), (by simp (disch := omega) only [upd_eq, upd_ne, del_ne, h6, List.length_append, List.length_cons, List.length_nil, Nat.zero_add, valD_len]), (by simp (disch := omega) only [upd_eq, upd_ne, del_ne, h7]), by omega, by omega, fun c kc hc hc2 hk => by have hh := hov c kc hc hc2 hk; first | exact hh | (simp (disch := omega) only [upd_ne, del_ne]; exact hh)⟩, Weak.tau (by simp [LQ, get])⟩
                omega
            · repeat' (first
                | refine AWP.seq ?_
                | refine AWP.block ?_
                | (refine AWP.skip ?_; simp only [thenA, blockA, reduceIte])
                | (refine AWP.exit ?_; simp only [thenA, blockA, eq_self, reduceIte, Nat.reduceEqDiff, Nat.succ_ne_zero])
                | (refine AWP.ret ?_; simp only [thenA, blockA, reduceIte])
                | (refine AWP.region (by rfl) (fun KK hKK => ?_); (repeat (simp (disch := omega) [h6])); first | (refine hKK _ _ _ ?_; clear hKK KK; simp only [thenA, blockA, reduceIte]) | skip)
                | (refine AWP.draw' mixd (by rfl) (by kernel_rfl) (fun KK tab hKK htab => ?_); (repeat (simp (disch := omega) [h6])); first | (refine dEnd_ro ?_ (hKK _ _ _ ?_); (focus (simp; done)); clear htab tab hKK KK; simp only [thenA, blockA, reduceIte]) | (refine dEnd_of ?_ (hKK _ _ _ ?_); (focus (simp only [List.reverse_cons, List.reverse_nil, List.nil_append, List.cons_append, memA, mem1, and_true, true_and]; (repeat' apply And.intro); (all_goals (first | trivial | (refine .inr ⟨?_, ?_⟩ <;> (simp; done)) | (refine .inr ⟨?_, ?_⟩ <;> (simp <;> omega)) | (refine .inl ?_; rw [htab]; kernel_rfl))); done)); clear htab tab hKK KK; simp only [thenA, blockA, reduceIte]) | skip)
                | (refine AWP.if_t ?_ ?_; focus (simp (disch := omega) [h6]; done))
                | (refine AWP.if_f ?_ ?_; focus (simp (disch := omega) [h6]; done)))
              refine aStop_of (indexOf_c _ _ _ db nm (Sl.whole (t := 34) (r := true) (by simp (disch := omega) only [upd_eq, upd_ne, del_ne, h7]) (by simp [rowsD_len])) (by omega)) ?_
              rintro r δ ⟨rfl, rfl⟩
              (repeat (simp (disch := omega) [b1, h6]))
              first | (refine hKK _ _ _ ?_; clear hKK KK; simp only [thenA, blockA, reduceIte]) | skip
              repeat' (first
                | refine AWP.seq ?_
                | refine AWP.block ?_
                | (refine AWP.skip ?_; simp only [thenA, blockA, reduceIte])
                | (refine AWP.exit ?_; simp only [thenA, blockA, eq_self, reduceIte, Nat.reduceEqDiff, Nat.succ_ne_zero])
                | (refine AWP.ret ?_; simp only [thenA, blockA, reduceIte])
                | (refine AWP.region (by rfl) (fun KK hKK => ?_); (repeat (simp (disch := omega) [h6])); first | (refine hKK _ _ _ ?_; clear hKK KK; simp only [thenA, blockA, reduceIte]) | skip)
                | (refine AWP.draw' mixd (by rfl) (by kernel_rfl) (fun KK tab hKK htab => ?_); (repeat (simp (disch := omega) [h6])); first | (refine dEnd_ro ?_ (hKK _ _ _ ?_); (focus (simp; done)); clear htab tab hKK KK; simp only [thenA, blockA, reduceIte]) | (refine dEnd_of ?_ (hKK _ _ _ ?_); (focus (simp only [List.reverse_cons, List.reverse_nil, List.nil_append, List.cons_append, memA, mem1, and_true, true_and]; (repeat' apply And.intro); (all_goals (first | trivial | (refine .inr ⟨?_, ?_⟩ <;> (simp; done)) | (refine .inr ⟨?_, ?_⟩ <;> (simp <;> omega)) | (refine .inl ?_; rw [htab]; kernel_rfl))); done)); clear htab tab hKK KK; simp only [thenA, blockA, reduceIte]) | skip)
                | (refine AWP.if_t ?_ ?_; focus (simp (disch := omega) [h6]; done))
                | (refine AWP.if_f ?_ ?_; focus (simp (disch := omega) [h6]; done)))
              refine ⟨_, _, _, _, ?_, ⟨db, q + 1 + 1 + 1 + 1 + 1, m - 1, cb, rfl, by omega, by omega, hgb.more (by omega), by omega, by omega, rfl, (by simp (disch := omega) only [upd_eq, upd_ne, del_ne, h1]), (by simp (disch := omega) only [upd_eq, upd_ne, del_ne, h2]), (by simp (disch := omega) only [upd_eq, upd_ne, del_ne, h3]), (by simp (disch := omega) only [upd_eq, upd_ne, del_ne, h4]), (by simp (disch := omega) only [upd_eq, upd_ne, del_ne, h5]), (by simp (disch := omega) only [upd_eq, upd_ne, del_ne, h6, List.length_append, List.length_cons, List.length_nil, Nat.zero_add, valD_len]), (by simp (disch := omega) only [upd_eq, upd_ne, del_ne, h7]), by omega, by omega, fun c kc hc hc2 hk => by have hh := hov c kc hc hc2 hk; first | exact hh | (simp (disch := omega) only [upd_ne, del_ne]; exact hh)⟩, Weak.tau (by simp [LQ, get])⟩
              omega
      · repeat' (first
          | refine AWP.seq ?_
          | refine AWP.block ?_
          | (refine AWP.skip ?_; simp only [thenA, blockA, reduceIte])
          | (refine AWP.exit ?_; simp only [thenA, blockA, eq_self, reduceIte, Nat.reduceEqDiff, Nat.succ_ne_zero])
          | (refine AWP.ret ?_; simp only [thenA, blockA, reduceIte])
          | (refine AWP.region (by rfl) (fun KK hKK => ?_); (repeat (simp (disch := omega) [h6, a1])); first | (refine hKK _ _ _ ?_; clear hKK KK; simp only [thenA, blockA, reduceIte]) | skip)
          | (refine AWP.draw' mixd (by rfl) (by kernel_rfl) (fun KK tab hKK htab => ?_); (repeat (simp (disch := omega) [h6, a1])); first | (refine dEnd_ro ?_ (hKK _ _ _ ?_); (focus (simp; done)); clear htab tab hKK KK; simp only [thenA, blockA, reduceIte]) | (refine dEnd_of ?_ (hKK _ _ _ ?_); (focus (simp only [List.reverse_cons, List.reverse_nil, List.nil_append, List.cons_append, memA, mem1, and_true, true_and]; (repeat' apply And.intro); (all_goals (first | trivial | (refine .inr ⟨?_, ?_⟩ <;> (simp; done)) | (refine .inr ⟨?_, ?_⟩ <;> (simp <;> omega)) | (refine .inl ?_; rw [htab]; kernel_rfl))); done)); clear htab tab hKK KK; simp only [thenA, blockA, reduceIte]) | skip)
          | (refine AWP.if_t ?_ ?_; focus (simp (disch := omega) [h6, a1]; done))
          | (refine AWP.if_f ?_ ?_; focus (simp (disch := omega) [h6, a1]; done)))
        by_cases b1 : nameIx db nm < 0
        · by_cases b2 : (db.length : Int) < 12
          · repeat' (first
              | refine AWP.seq ?_
              | refine AWP.block ?_
              | (refine AWP.skip ?_; simp only [thenA, blockA, reduceIte])
              | (refine AWP.exit ?_; simp only [thenA, blockA, eq_self, reduceIte, Nat.reduceEqDiff, Nat.succ_ne_zero])
              | (refine AWP.ret ?_; simp only [thenA, blockA, reduceIte])
              | (refine AWP.region (by rfl) (fun KK hKK => ?_); (repeat (simp (disch := omega) [h6])); first | (refine hKK _ _ _ ?_; clear hKK KK; simp only [thenA, blockA, reduceIte]) | skip)
              | (refine AWP.draw' mixd (by rfl) (by kernel_rfl) (fun KK tab hKK htab => ?_); (repeat (simp (disch := omega) [h6])); first | (refine dEnd_ro ?_ (hKK _ _ _ ?_); (focus (simp; done)); clear htab tab hKK KK; simp only [thenA, blockA, reduceIte]) | (refine dEnd_of ?_ (hKK _ _ _ ?_); (focus (simp only [List.reverse_cons, List.reverse_nil, List.nil_append, List.cons_append, memA, mem1, and_true, true_and]; (repeat' apply And.intro); (all_goals (first | trivial | (refine .inr ⟨?_, ?_⟩ <;> (simp; done)) | (refine .inr ⟨?_, ?_⟩ <;> (simp <;> omega)) | (refine .inl ?_; rw [htab]; kernel_rfl))); done)); clear htab tab hKK KK; simp only [thenA, blockA, reduceIte]) | skip)
              | (refine AWP.if_t ?_ ?_; focus (simp (disch := omega) [h6]; done))
              | (refine AWP.if_f ?_ ?_; focus (simp (disch := omega) [h6]; done)))
            refine aStop_of (indexOf_c _ _ _ db nm (Sl.whole (t := 34) (r := true) (by simp (disch := omega) only [upd_eq, upd_ne, del_ne, h7]) (by simp [rowsD_len])) (by omega)) ?_
            rintro r δ ⟨rfl, rfl⟩
            (repeat (simp (disch := omega) [b1, b2, h6]))
            first | (refine hKK _ _ _ ?_; clear hKK KK; simp only [thenA, blockA, reduceIte]) | skip
            repeat' (first
              | refine AWP.seq ?_
              | refine AWP.block ?_
              | (refine AWP.skip ?_; simp only [thenA, blockA, reduceIte])
              | (refine AWP.exit ?_; simp only [thenA, blockA, eq_self, reduceIte, Nat.reduceEqDiff, Nat.succ_ne_zero])
              | (refine AWP.ret ?_; simp only [thenA, blockA, reduceIte])
              | (refine AWP.region (by rfl) (fun KK hKK => ?_); (repeat (simp (disch := omega) [h6, h7, elems, rowsD_len, rowsD_snoc, rowsD_take, hz1, hz2])); first | (refine hKK _ _ _ ?_; clear hKK KK; simp only [thenA, blockA, reduceIte]) | skip)
              | (refine AWP.draw' mixd (by rfl) (by kernel_rfl) (fun KK tab hKK htab => ?_); (repeat (simp (disch := omega) [h6, h7, elems, rowsD_len, rowsD_snoc, rowsD_take, hz1, hz2])); first | (refine dEnd_ro ?_ (hKK _ _ _ ?_); (focus (simp; done)); clear htab tab hKK KK; simp only [thenA, blockA, reduceIte]) | (refine dEnd_of ?_ (hKK _ _ _ ?_); (focus (simp only [List.reverse_cons, List.reverse_nil, List.nil_append, List.cons_append, memA, mem1, and_true, true_and]; (repeat' apply And.intro); (all_goals (first | trivial | (refine .inr ⟨?_, ?_⟩ <;> (simp; done)) | (refine .inr ⟨?_, ?_⟩ <;> (simp <;> omega)) | (refine .inl ?_; rw [htab]; kernel_rfl))); done)); clear htab tab hKK KK; simp only [thenA, blockA, reduceIte]) | skip)
              | (refine AWP.if_t ?_ ?_; focus (simp (disch := omega) [h6, h7, elems, rowsD_len, rowsD_snoc, rowsD_take, hz1, hz2]; done))
              | (refine AWP.if_f ?_ ?_; focus (simp (disch := omega) [h6, h7, elems, rowsD_len, rowsD_snoc, rowsD_take, hz1, hz2]; done)))
            refine ⟨_, _, _, _, ?_, ⟨(db ++ [(nm, v)]), q + 1 + 1 + 1, m - 1, M + 2 + 2 + 1 + 2 + 1 + 2 + 1, rfl, by omega, by omega, (hgb.snoc hnm (by omega) (by omega)).more (by omega), by omega, by omega, rfl, (by simp (disch := omega) only [upd_eq, upd_ne, del_ne, h1]), (by simp (disch := omega) only [upd_eq, upd_ne, del_ne, h2]), (by simp (disch := omega) only [upd_eq, upd_ne, del_ne, h3]), (by simp (disch := omega) only [upd_eq, upd_ne, del_ne, h4]), (by simp (disch := omega) only [upd_eq, upd_ne, del_ne, h5]), (by simp (disch := omega) only [upd_eq, upd_ne, del_ne, h6, List.length_append, List.length_cons, List.length_nil, Nat.zero_add, valD_len]), (by simp (disch := omega) only [upd_eq, upd_ne, del_ne, h7]), by omega, by omega, fun c kc hc hc2 hk => by have hh := hov c kc hc hc2 hk; first | exact hh | (simp (disch := omega) only [upd_ne, del_ne]; exact hh)⟩, Weak.tau (by simp [LQ, get])⟩
            omega
          · repeat' (first
              | refine AWP.seq ?_
              | refine AWP.block ?_
              | (refine AWP.skip ?_; simp only [thenA, blockA, reduceIte])
              | (refine AWP.exit ?_; simp only [thenA, blockA, eq_self, reduceIte, Nat.reduceEqDiff, Nat.succ_ne_zero])
              | (refine AWP.ret ?_; simp only [thenA, blockA, reduceIte])
              | (refine AWP.region (by rfl) (fun KK hKK => ?_); (repeat (simp (disch := omega) [h6])); first | (refine hKK _ _ _ ?_; clear hKK KK; simp only [thenA, blockA, reduceIte]) | skip)
              | (refine AWP.draw' mixd (by rfl) (by kernel_rfl) (fun KK tab hKK htab => ?_); (repeat (simp (disch := omega) [h6])); first | (refine dEnd_ro ?_ (hKK _ _ _ ?_); (focus (simp; done)); clear htab tab hKK KK; simp only [thenA, blockA, reduceIte]) | (refine dEnd_of ?_ (hKK _ _ _ ?_); (focus (simp only [List.reverse_cons, List.reverse_nil, List.nil_append, List.cons_append, memA, mem1, and_true, true_and]; (repeat' apply And.intro); (all_goals (first | trivial | (refine .inr ⟨?_, ?_⟩ <;> (simp; done)) | (refine .inr ⟨?_, ?_⟩ <;> (simp <;> omega)) | (refine .inl ?_; rw [htab]; kernel_rfl))); done)); clear htab tab hKK KK; simp only [thenA, blockA, reduceIte]) | skip)
              | (refine AWP.if_t ?_ ?_; focus (simp (disch := omega) [h6]; done))
              | (refine AWP.if_f ?_ ?_; focus (simp (disch := omega) [h6]; done)))
            refine aStop_of (indexOf_c _ _ _ db nm (Sl.whole (t := 34) (r := true) (by simp (disch := omega) only [upd_eq, upd_ne, del_ne, h7]) (by simp [rowsD_len])) (by omega)) ?_
            rintro r δ ⟨rfl, rfl⟩
            (repeat (simp (disch := omega) [b1, b2, h6]))
            first | (refine hKK _ _ _ ?_; clear hKK KK; simp only [thenA, blockA, reduceIte]) | skip
            repeat' (first
              | refine AWP.seq ?_
              | refine AWP.block ?_
              | (refine AWP.skip ?_; simp only [thenA, blockA, reduceIte])
              | (refine AWP.exit ?_; simp only [thenA, blockA, eq_self, reduceIte, Nat.reduceEqDiff, Nat.succ_ne_zero])
              | (refine AWP.ret ?_; simp only [thenA, blockA, reduceIte])
              | (refine AWP.region (by rfl) (fun KK hKK => ?_); (repeat (simp (disch := omega) [h6])); first | (refine hKK _ _ _ ?_; clear hKK KK; simp only [thenA, blockA, reduceIte]) | skip)
              | (refine AWP.draw' mixd (by rfl) (by kernel_rfl) (fun KK tab hKK htab => ?_); (repeat (simp (disch := omega) [h6])); first | (refine dEnd_ro ?_ (hKK _ _ _ ?_); (focus (simp; done)); clear htab tab hKK KK; simp only [thenA, blockA, reduceIte]) | (refine dEnd_of ?_ (hKK _ _ _ ?_); (focus (simp only [List.reverse_cons, List.reverse_nil, List.nil_append, List.cons_append, memA, mem1, and_true, true_and]; (repeat' apply And.intro); (all_goals (first | trivial | (refine .inr ⟨?_, ?_⟩ <;> (simp; done)) | (refine .inr ⟨?_, ?_⟩ <;> (simp <;> omega)) | (refine .inl ?_; rw [htab]; kernel_rfl))); done)); clear htab tab hKK KK; simp only [thenA, blockA, reduceIte]) | skip)
              | (refine AWP.if_t ?_ ?_; focus (simp (disch := omega) [h6]; done))
              | (refine AWP.if_f ?_ ?_; focus (simp (disch := omega) [h6]; done)))
            refine ⟨_, _, _, _, ?_, ⟨db, q + 1 + 1 + 1, m - 1, cb, rfl, by omega, by omega, hgb.more (by omega), by omega, by omega, rfl, (by simp (disch := omega) only [upd_eq, upd_ne, del_ne, h1]), (by simp (disch := omega) only [upd_eq, upd_ne, del_ne, h2]), (by simp (disch := omega) only [upd_eq, upd_ne, del_ne, h3]), (by simp (disch := omega) only [upd_eq, upd_ne, del_ne, h4]), (by simp (disch := omega) only [upd_eq, upd_ne, del_ne, h5]), (by simp (disch := omega) only [upd_eq, upd_ne, del_ne, h6, List.length_append, List.length_cons, List.length_nil, Nat.zero_add, valD_len]), (by simp (disch := omega) only [upd_eq, upd_ne, del_ne, h7]), by omega, by omega, fun c kc hc hc2 hk => by have hh := hov c kc hc hc2 hk; first | exact hh | (simp (disch := omega) only [upd_ne, del_ne]; exact hh)⟩, Weak.tau (by simp [LQ, get])⟩
            omega
        · repeat' (first
            | refine AWP.seq ?_
            | refine AWP.block ?_
            | (refine AWP.skip ?_; simp only [thenA, blockA, reduceIte])
            | (refine AWP.exit ?_; simp only [thenA, blockA, eq_self, reduceIte, Nat.reduceEqDiff, Nat.succ_ne_zero])
            | (refine AWP.ret ?_; simp only [thenA, blockA, reduceIte])
            | (refine AWP.region (by rfl) (fun KK hKK => ?_); (repeat (simp (disch := omega) [h6])); first | (refine hKK _ _ _ ?_; clear hKK KK; simp only [thenA, blockA, reduceIte]) | skip)
            | (refine AWP.draw' mixd (by rfl) (by kernel_rfl) (fun KK tab hKK htab => ?_); (repeat (simp (disch := omega) [h6])); first | (refine dEnd_ro ?_ (hKK _ _ _ ?_); (focus (simp; done)); clear htab tab hKK KK; simp only [thenA, blockA, reduceIte]) | (refine dEnd_of ?_ (hKK _ _ _ ?_); (focus (simp only [List.reverse_cons, List.reverse_nil, List.nil_append, List.cons_append, memA, mem1, and_true, true_and]; (repeat' apply And.intro); (all_goals (first | trivial | (refine .inr ⟨?_, ?_⟩ <;> (simp; done)) | (refine .inr ⟨?_, ?_⟩ <;> (simp <;> omega)) | (refine .inl ?_; rw [htab]; kernel_rfl))); done)); clear htab tab hKK KK; simp only [thenA, blockA, reduceIte]) | skip)
            | (refine AWP.if_t ?_ ?_; focus (simp (disch := omega) [h6]; done))
            | (refine AWP.if_f ?_ ?_; focus (simp (disch := omega) [h6]; done)))
          refine aStop_of (indexOf_c _ _ _ db nm (Sl.whole (t := 34) (r := true) (by simp (disch := omega) only [upd_eq, upd_ne, del_ne, h7]) (by simp [rowsD_len])) (by omega)) ?_
          rintro r δ ⟨rfl, rfl⟩
          (repeat (simp (disch := omega) [b1, h6]))
          first | (refine hKK _ _ _ ?_; clear hKK KK; simp only [thenA, blockA, reduceIte]) | skip
          repeat' (first
            | refine AWP.seq ?_
            | refine AWP.block ?_
            | (refine AWP.skip ?_; simp only [thenA, blockA, reduceIte])
            | (refine AWP.exit ?_; simp only [thenA, blockA, eq_self, reduceIte, Nat.reduceEqDiff, Nat.succ_ne_zero])
            | (refine AWP.ret ?_; simp only [thenA, blockA, reduceIte])
            | (refine AWP.region (by rfl) (fun KK hKK => ?_); (repeat (simp (disch := omega) [h6])); first | (refine hKK _ _ _ ?_; clear hKK KK; simp only [thenA, blockA, reduceIte]) | skip)
            | (refine AWP.draw' mixd (by rfl) (by kernel_rfl) (fun KK tab hKK htab => ?_); (repeat (simp (disch := omega) [h6])); first | (refine dEnd_ro ?_ (hKK _ _ _ ?_); (focus (simp; done)); clear htab tab hKK KK; simp only [thenA, blockA, reduceIte]) | (refine dEnd_of ?_ (hKK _ _ _ ?_); (focus (simp only [List.reverse_cons, List.reverse_nil, List.nil_append, List.cons_append, memA, mem1, and_true, true_and]; (repeat' apply And.intro); (all_goals (first | trivial | (refine .inr ⟨?_, ?_⟩ <;> (simp; done)) | (refine .inr ⟨?_, ?_⟩ <;> (simp <;> omega)) | (refine .inl ?_; rw [htab]; kernel_rfl))); done)); clear htab tab hKK KK; simp only [thenA, blockA, reduceIte]) | skip)
            | (refine AWP.if_t ?_ ?_; focus (simp (disch := omega) [h6]; done))
            | (refine AWP.if_f ?_ ?_; focus (simp (disch := omega) [h6]; done)))
          refine ⟨_, _, _, _, ?_, ⟨db, q + 1 + 1 + 1, m - 1, cb, rfl, by omega, by omega, hgb.more (by omega), by omega, by omega, rfl, (by simp (disch := omega) only [upd_eq, upd_ne, del_ne, h1]), (by simp (disch := omega) only [upd_eq, upd_ne, del_ne, h2]), (by simp (disch := omega) only [upd_eq, upd_ne, del_ne, h3]), (by simp (disch := omega) only [upd_eq, upd_ne, del_ne, h4]), (by simp (disch := omega) only [upd_eq, upd_ne, del_ne, h5]), (by simp (disch := omega) only [upd_eq, upd_ne, del_ne, h6, List.length_append, List.length_cons, List.length_nil, Nat.zero_add, valD_len]), (by simp (disch := omega) only [upd_eq, upd_ne, del_ne, h7]), by omega, by omega, fun c kc hc hc2 hk => by have hh := hov c kc hc hc2 hk; first | exact hh | (simp (disch := omega) only [upd_ne, del_ne]; exact hh)⟩, Weak.tau (by simp [LQ, get])⟩
          omega
    · refine aStop_of (pick_c _ _ rb _ bs q2 3 (by simp (disch := omega) only [upd_eq, upd_ne, del_ne, hrb]) (hx'.ovb hrb (fun c kc hc h => by have := (hB c kc h).1; first | exact h | (simp (disch := omega) only [upd_ne, del_ne]; exact h))) h8 (by omega)) ?_
      rintro r δ ⟨rfl, rfl⟩
      (repeat (simp (disch := omega) [c0]))
      first | (refine hKK _ _ _ ?_; clear hKK KK; simp only [thenA, blockA, reduceIte]) | skip
      repeat' (first
        | refine AWP.seq ?_
        | refine AWP.block ?_
        | (refine AWP.skip ?_; simp only [thenA, blockA, reduceIte])
        | (refine AWP.exit ?_; simp only [thenA, blockA, eq_self, reduceIte, Nat.reduceEqDiff, Nat.succ_ne_zero])
        | (refine AWP.ret ?_; simp only [thenA, blockA, reduceIte])
        | (refine AWP.region (by rfl) (fun KK hKK => ?_); (repeat (simp (disch := omega) [c0])); first | (refine hKK _ _ _ ?_; clear hKK KK; simp only [thenA, blockA, reduceIte]) | skip)
        | (refine AWP.draw' mixd (by rfl) (by kernel_rfl) (fun KK tab hKK htab => ?_); (repeat (simp (disch := omega) [c0])); first | (refine dEnd_ro ?_ (hKK _ _ _ ?_); (focus (simp; done)); clear htab tab hKK KK; simp only [thenA, blockA, reduceIte]) | (refine dEnd_of ?_ (hKK _ _ _ ?_); (focus (simp only [List.reverse_cons, List.reverse_nil, List.nil_append, List.cons_append, memA, mem1, and_true, true_and]; (repeat' apply And.intro); (all_goals (first | trivial | (refine .inr ⟨?_, ?_⟩ <;> (simp; done)) | (refine .inr ⟨?_, ?_⟩ <;> (simp <;> omega)) | (refine .inl ?_; rw [htab]; kernel_rfl))); done)); clear htab tab hKK KK; simp only [thenA, blockA, reduceIte]) | skip)
        | (refine AWP.if_t ?_ ?_; focus (simp (disch := omega) [c0]; done))
        | (refine AWP.if_f ?_ ?_; focus (simp (disch := omega) [c0]; done)))
      refine ⟨by simp, ?_⟩
      have hres : Try.f46.results.toList = [.cell 2 25, .cell 3 25] := rfl
      rw [hres]
      simp (disch := omega) []
      refine fin2M (K + 1 + 1) (K + 1 + 1 + 2 + 1) (rdB (.sl bx ox bs.length capx zx) (q2 + 1)) (blkD da) (blkD db) ((by simp (disch := omega) only [upd_eq, upd_ne, del_ne, hrb])) rfl (low_rd hlo) (by simp (disch := omega) only [upd_eq, upd_ne, del_ne, c0]) rfl (flatD _).low (by simp (disch := omega) only [upd_eq, upd_ne, del_ne, c0]) rfl (flatD _).low hrν hrν1 ⟨da, db, q2 + 1, hga, hgb.more (by omega), by omega, by omega, by simp (disch := omega) [ren, rens, rho, hrν], rfl⟩ (by omega) (by omega) (by omega) (by simp [nms, nmss])
end Go.Proofs.Ytgaiemhbllbaiaa
