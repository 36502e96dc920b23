/- Contracts of the generators: items. No condition. -/
import Derived.Test.YthjjfdbkggiaeaaG5
import Derived.Test.YthjjfdbkggiaeaaI1
set_option linter.unusedSimpArgs false
set_option linter.unusedVariables false
namespace Go.Proofs.Ythjjfdbkggiaeaa
open Go Go.RowKit

/-- Items that a generator makes. -/
structure Gt (its : List It) (m : Nat) : Prop where
  len : its.length ≤ m
  ok : ∀ t ∈ its, t.1.size ≤ 7 ∧ -4096 ≤ t.2.2 ∧ t.2.2 ≤ 4096
theorem Gt.nil : Gt [] 0 := ⟨Nat.le_refl _, by simp⟩
theorem Gt.snoc {its : List It} {m : Nat} (h : Gt its m) {s : ByteArray} {a : Bool} {n : Int} (hs : s.size ≤ 7) (h1 : -4096 ≤ n) (h2 : n ≤ 4096) : Gt (its ++ [(s, a, n)]) (m + 1) :=
  ⟨by simp [h.len], fun d hd => by
    rcases List.mem_append.1 hd with hd | hd
    · exact h.ok d hd
    · rw [List.mem_singleton.1 hd]; exact ⟨hs, h1, h2⟩⟩
theorem Gt.set {its : List It} {m i : Nat} (h : Gt its m) {s : ByteArray} {a : Bool} {n : Int} (hs : s.size ≤ 7) (h1 : -4096 ≤ n) (h2 : n ≤ 4096) : Gt (its.set i (s, a, n)) m :=
  ⟨by simp [h.len], fun d hd => by
    rcases List.mem_or_eq_of_mem_set hd with hd | rfl
    · exact h.ok d hd
    · exact ⟨hs, h1, h2⟩⟩
theorem rowsT_set (its : List It) (i : Nat) (s : ByteArray) (a : Bool) (n : Int) : (rowsT its).set i [.v (.string s), .v (.bool a), .v (.int .i64 n)] = rowsT (its.set i (s, a, n)) := by
  unfold rowsT
  rw [List.map_set]
  rfl

set_option maxRecDepth 10000 in
set_option maxHeartbeats 4000000 in
theorem someItems_c (σ : Sto) (ν rb : Nat) (x : AV) (bs : List Int) (p high : Int) (hb : σ rb = some (rdB x p)) (hx : Sl σ x 1 (rowsB bs)) (h8 : Code8 bs) (hp : 0 ≤ p ∧ p ≤ 90000) :
    AC Try.prog 96 [.ptr rb 0 0, .v (.int .i64 high)] σ ν fun r δ => ∃ (its : List It) (q : Int), Gt its 12 ∧ p ≤ q ∧ q ≤ p + 200 ∧ r = .sl ν 0 its.length none 3 ∧ δ = upd (upd noS rb (rdB x q)) ν (blkT its) := by
  obtain ⟨bx, ox, capx, zx, rfl⟩ := hx.out
  simp only [rowsB_len] at hx hb ⊢
  refine AC.intro [rb] ent_96 Try.func96 rfl (by simp [Try.f96]) (by simp [hb]) ?_
  intro K s hs hB hn hν hA hFr
  simp only [argT, Nat.zero_add, Nat.reduceAdd]
  have hrb : s rb = some (rdB (.sl bx ox bs.length capx zx) p) := by rw [hs rb, hb]; simp
  obtain ⟨hrK, hlo⟩ := hB rb _ hrb
  have hx' := hx.vw hs.vw
  have hrν : rb ≠ ν := fun e => by rw [e] at hb; rw [hFr.1] at hb; cases hb
  repeat' (first
    | refine AWP.seq ?_
    | refine AWP.block ?_
    | (refine AWP.skip ?_; simp only [thenA, blockA, reduceIte])
    | (refine AWP.exit ?_; simp only [thenA, blockA, eq_self, reduceIte, Nat.reduceEqDiff, Nat.succ_ne_zero])
    | (refine AWP.ret ?_; simp only [thenA, blockA, reduceIte])
    | (refine AWP.region (by rfl) (fun KK hKK => ?_); (repeat (simp (disch := omega) [])); first | (refine hKK _ _ _ ?_; clear hKK KK; simp only [thenA, blockA, reduceIte]) | skip)
    | (refine AWP.draw' mixd (by rfl) (by kernel_rfl) (fun KK tab hKK htab => ?_); (repeat (simp (disch := omega) [])); first | (refine dEnd_ro ?_ (hKK _ _ _ ?_); (focus (simp; done)); clear htab tab hKK KK; simp only [thenA, blockA, reduceIte]) | (refine dEnd_of ?_ (hKK _ _ _ ?_); (focus (simp only [List.reverse_cons, List.reverse_nil, List.nil_append, List.cons_append, memA, mem1, and_true, true_and]; (repeat' apply And.intro); (all_goals (first | trivial | (refine .inr ⟨?_, ?_⟩ <;> (simp; done)) | (refine .inr ⟨?_, ?_⟩ <;> (simp <;> omega)) | (refine .inl ?_; rw [htab]; kernel_rfl))); done)); clear htab tab hKK KK; simp only [thenA, blockA, reduceIte]) | skip)
    | (refine AWP.if_t ?_ ?_; focus (simp (disch := omega) []; done))
    | (refine AWP.if_f ?_ ?_; focus (simp (disch := omega) []; done)))
  refine aStop_of (goodDefs_c _ _ rb _ bs p high (by simp (disch := omega) only [upd_eq, upd_ne, del_ne, hrb]) (hx'.ovb hrb (fun c kc hc h => by have := (hB c kc h).1; first | exact h | (simp (disch := omega) only [upd_ne, del_ne]; exact h))) h8 (by omega)) ?_
  rintro r δ ⟨ds, q1, hgd, hq0, hq1, rfl, rfl⟩
  (repeat (simp (disch := omega) []))
  first | (refine hKK _ _ _ ?_; clear hKK KK; simp only [thenA, blockA, reduceIte]) | skip
  have hdl := hgd.len
  repeat' (first
    | refine AWP.seq ?_
    | refine AWP.block ?_
    | (refine AWP.skip ?_; simp only [thenA, blockA, reduceIte])
    | (refine AWP.exit ?_; simp only [thenA, blockA, eq_self, reduceIte, Nat.reduceEqDiff, Nat.succ_ne_zero])
    | (refine AWP.ret ?_; simp only [thenA, blockA, reduceIte])
    | (refine AWP.region (by rfl) (fun KK hKK => ?_); (repeat (simp (disch := omega) [])); first | (refine hKK _ _ _ ?_; clear hKK KK; simp only [thenA, blockA, reduceIte]) | skip)
    | (refine AWP.draw' mixd (by rfl) (by kernel_rfl) (fun KK tab hKK htab => ?_); (repeat (simp (disch := omega) [])); first | (refine dEnd_ro ?_ (hKK _ _ _ ?_); (focus (simp; done)); clear htab tab hKK KK; simp only [thenA, blockA, reduceIte]) | (refine dEnd_of ?_ (hKK _ _ _ ?_); (focus (simp only [List.reverse_cons, List.reverse_nil, List.nil_append, List.cons_append, memA, mem1, and_true, true_and]; (repeat' apply And.intro); (all_goals (first | trivial | (refine .inr ⟨?_, ?_⟩ <;> (simp; done)) | (refine .inr ⟨?_, ?_⟩ <;> (simp <;> omega)) | (refine .inl ?_; rw [htab]; kernel_rfl))); done)); clear htab tab hKK KK; simp only [thenA, blockA, reduceIte]) | skip)
    | (refine AWP.if_t ?_ ?_; focus (simp (disch := omega) []; done))
    | (refine AWP.if_f ?_ ?_; focus (simp (disch := omega) []; done)))
  refine AWP.weak (Weak.virt 5 66 3 0 0 0 (by simp) (by omega)) ?_
  refine AWP.loop (fun n τ σ' M => ∃ (its : List It) (q : Int) (k cb : Nat), k ≤ ds.length ∧ n = ds.length - k ∧ its.length = k ∧ Gt its k ∧ q1 ≤ q ∧ q ≤ q1 + k ∧ τ = [(0, .ptr rb 0 0), (5, .sl cb 0 its.length none 3), (6, .sl K 0 ds.length none 2), (7, .v (.int .i64 k))] ∧ σ' rb = some (rdB (.sl bx ox bs.length capx zx) q) ∧ σ' K = some (blkD ds) ∧ σ' cb = some (blkT its) ∧ K < cb ∧ cb < M ∧ ∀ c kc, c < K → c ≠ rb → s c = some kc → σ' c = some kc)
    ⟨_, _, _, _, ⟨[], q1, 0, K + 2, by omega, rfl, rfl, Gt.nil, by omega, by omega, rfl, by simp (disch := omega) only [upd_eq, upd_ne], by simp (disch := omega) only [upd_eq, upd_ne], by simp only [upd_eq]; rfl, by omega, by omega, fun c kc hc hc2 hk => by simp (disch := omega) only [upd_ne]; exact hk⟩, Weak.tau (by simp [LQ])⟩ ?_
  rintro n τ σ1 M ⟨its, q, k, cb, hk, rfl, hik, hgi, hqa, hqb, rfl, h1, h2, h3, hc1, hc2, hov⟩
  by_cases hlt : k < ds.length
  · have hrow := rowsD_at ds k hlt
    have hs7 := hgd.sz _ (List.getElem_mem hlt)
    have hv1 := hgd.lo _ (List.getElem_mem hlt)
    have hv2 := hgd.hi _ (List.getElem_mem hlt)
    have hz1 : (its.length + 1) * 32 ≤ 140737488355328 := by omega
    have hz2 : its.length + 1 ≤ 4611686018427387904 := by omega
    repeat' (first
      | refine AWP.seq ?_
      | refine AWP.block ?_
      | (refine AWP.skip ?_; simp only [thenA, blockA, reduceIte])
      | (refine AWP.exit ?_; simp only [thenA, blockA, eq_self, reduceIte, Nat.reduceEqDiff, Nat.succ_ne_zero])
      | (refine AWP.ret ?_; simp only [thenA, blockA, reduceIte])
      | (refine AWP.region (by rfl) (fun KK hKK => ?_); (repeat (simp (disch := omega) [hlt, h2, hrow])); first | (refine hKK _ _ _ ?_; clear hKK KK; simp only [thenA, blockA, reduceIte]) | skip)
      | (refine AWP.draw' mixd (by rfl) (by kernel_rfl) (fun KK tab hKK htab => ?_); (repeat (simp (disch := omega) [hlt, h2, hrow])); first | (refine dEnd_ro ?_ (hKK _ _ _ ?_); (focus (simp; done)); clear htab tab hKK KK; simp only [thenA, blockA, reduceIte]) | (refine dEnd_of ?_ (hKK _ _ _ ?_); (focus (simp only [List.reverse_cons, List.reverse_nil, List.nil_append, List.cons_append, memA, mem1, and_true, true_and]; (repeat' apply And.intro); (all_goals (first | trivial | (refine .inr ⟨?_, ?_⟩ <;> (simp; done)) | (refine .inr ⟨?_, ?_⟩ <;> (simp <;> omega)) | (refine .inl ?_; rw [htab]; kernel_rfl))); done)); clear htab tab hKK KK; simp only [thenA, blockA, reduceIte]) | skip)
      | (refine AWP.if_t ?_ ?_; focus (simp (disch := omega) [hlt, h2, hrow]; done))
      | (refine AWP.if_f ?_ ?_; focus (simp (disch := omega) [hlt, h2, hrow]; done)))
    refine aStop_of (pick_c _ _ rb _ bs q 2 (by simp (disch := omega) only [upd_eq, upd_ne, del_ne, h1]) (hx'.ovb hrb (fun c kc hc h => by have := (hB c kc h).1; have h2 := hov c kc this hc h; first | exact h2 | (simp (disch := omega) only [upd_ne, del_ne]; exact h2))) h8 (by omega)) ?_
    rintro r δ ⟨rfl, rfl⟩
    (repeat (simp (disch := omega) []))
    first | (refine hKK _ _ _ ?_; clear hKK KK; simp only [thenA, blockA, reduceIte]) | skip
    by_cases c0 : pk bs q 2 = 0
    · repeat' (first
        | refine AWP.seq ?_
        | refine AWP.block ?_
        | (refine AWP.skip ?_; simp only [thenA, blockA, reduceIte])
        | (refine AWP.exit ?_; simp only [thenA, blockA, eq_self, reduceIte, Nat.reduceEqDiff, Nat.succ_ne_zero])
        | (refine AWP.ret ?_; simp only [thenA, blockA, reduceIte])
        | (refine AWP.region (by rfl) (fun KK hKK => ?_); (repeat (simp (disch := omega) [c0, hlt, h2, hrow, elems, rowsT_len, rowsT_snoc, rowsT_take, hz1, hz2, h3])); first | (refine hKK _ _ _ ?_; clear hKK KK; simp only [thenA, blockA, reduceIte]) | skip)
        | (refine AWP.draw' mixd (by rfl) (by kernel_rfl) (fun KK tab hKK htab => ?_); (repeat (simp (disch := omega) [c0, hlt, h2, hrow, elems, rowsT_len, rowsT_snoc, rowsT_take, hz1, hz2, h3])); first | (refine dEnd_ro ?_ (hKK _ _ _ ?_); (focus (simp; done)); clear htab tab hKK KK; simp only [thenA, blockA, reduceIte]) | (refine dEnd_of ?_ (hKK _ _ _ ?_); (focus (simp only [List.reverse_cons, List.reverse_nil, List.nil_append, List.cons_append, memA, mem1, and_true, true_and]; (repeat' apply And.intro); (all_goals (first | trivial | (refine .inr ⟨?_, ?_⟩ <;> (simp; done)) | (refine .inr ⟨?_, ?_⟩ <;> (simp <;> omega)) | (refine .inl ?_; rw [htab]; kernel_rfl))); done)); clear htab tab hKK KK; simp only [thenA, blockA, reduceIte]) | skip)
        | (refine AWP.if_t ?_ ?_; focus (simp (disch := omega) [c0, hlt, h2, hrow, elems, rowsT_len, rowsT_snoc, rowsT_take, hz1, hz2, h3]; done))
        | (refine AWP.if_f ?_ ?_; focus (simp (disch := omega) [c0, hlt, h2, hrow, elems, rowsT_len, rowsT_snoc, rowsT_take, hz1, hz2, h3]; done)))
      refine ⟨_, _, _, _, ?_, ⟨its ++ [(ds[k].1, true, 0)], q + 1, k + 1, M + 26 + 2 + 1, by omega, rfl, by simp [hik], hgi.snoc hs7 (by omega) (by omega), by omega, by omega, rfl, by simp (disch := omega) only [upd_eq, upd_ne, del_ne], by simp (disch := omega) only [upd_eq, upd_ne, del_ne, h2], by simp (disch := omega) only [upd_eq, upd_ne, del_ne], by omega, by omega, fun c kc hc hc2 hk => by have hh := hov c kc hc hc2 hk; first | exact hh | (simp (disch := omega) only [upd_ne, del_ne]; exact hh)⟩, Weak.tau (by simp [LQ])⟩
      omega
    · repeat' (first
        | refine AWP.seq ?_
        | refine AWP.block ?_
        | (refine AWP.skip ?_; simp only [thenA, blockA, reduceIte])
        | (refine AWP.exit ?_; simp only [thenA, blockA, eq_self, reduceIte, Nat.reduceEqDiff, Nat.succ_ne_zero])
        | (refine AWP.ret ?_; simp only [thenA, blockA, reduceIte])
        | (refine AWP.region (by rfl) (fun KK hKK => ?_); (repeat (simp (disch := omega) [c0, hlt, h2, hrow, elems, rowsT_len, rowsT_snoc, rowsT_take, hz1, hz2, h3])); first | (refine hKK _ _ _ ?_; clear hKK KK; simp only [thenA, blockA, reduceIte]) | skip)
        | (refine AWP.draw' mixd (by rfl) (by kernel_rfl) (fun KK tab hKK htab => ?_); (repeat (simp (disch := omega) [c0, hlt, h2, hrow, elems, rowsT_len, rowsT_snoc, rowsT_take, hz1, hz2, h3])); first | (refine dEnd_ro ?_ (hKK _ _ _ ?_); (focus (simp; done)); clear htab tab hKK KK; simp only [thenA, blockA, reduceIte]) | (refine dEnd_of ?_ (hKK _ _ _ ?_); (focus (simp only [List.reverse_cons, List.reverse_nil, List.nil_append, List.cons_append, memA, mem1, and_true, true_and]; (repeat' apply And.intro); (all_goals (first | trivial | (refine .inr ⟨?_, ?_⟩ <;> (simp; done)) | (refine .inr ⟨?_, ?_⟩ <;> (simp <;> omega)) | (refine .inl ?_; rw [htab]; kernel_rfl))); done)); clear htab tab hKK KK; simp only [thenA, blockA, reduceIte]) | skip)
        | (refine AWP.if_t ?_ ?_; focus (simp (disch := omega) [c0, hlt, h2, hrow, elems, rowsT_len, rowsT_snoc, rowsT_take, hz1, hz2, h3]; done))
        | (refine AWP.if_f ?_ ?_; focus (simp (disch := omega) [c0, hlt, h2, hrow, elems, rowsT_len, rowsT_snoc, rowsT_take, hz1, hz2, h3]; done)))
      refine ⟨_, _, _, _, ?_, ⟨its ++ [(ds[k].1, false, ds[k].2)], q + 1, k + 1, M + 26 + 2 + 1, by omega, rfl, by simp [hik], hgi.snoc hs7 (by omega) (by omega), by omega, by omega, rfl, by simp (disch := omega) only [upd_eq, upd_ne, del_ne], by simp (disch := omega) only [upd_eq, upd_ne, del_ne, h2], by simp (disch := omega) only [upd_eq, upd_ne, del_ne], by omega, by omega, fun c kc hc hc2 hk => by have hh := hov c kc hc hc2 hk; first | exact hh | (simp (disch := omega) only [upd_ne, del_ne]; exact hh)⟩, Weak.tau (by simp [LQ])⟩
      omega
  · have hk' : k = ds.length := by omega
    subst hk'
    by_cases hl0 : ¬ 0 < its.length
    · repeat' (first
        | refine AWP.seq ?_
        | refine AWP.block ?_
        | (refine AWP.skip ?_; simp only [thenA, blockA, reduceIte])
        | (refine AWP.exit ?_; simp only [thenA, blockA, eq_self, reduceIte, Nat.reduceEqDiff, Nat.succ_ne_zero])
        | (refine AWP.ret ?_; simp only [thenA, blockA, reduceIte])
        | (refine AWP.region (by rfl) (fun KK hKK => ?_); (repeat (simp (disch := omega) [hlt, hl0])); first | (refine hKK _ _ _ ?_; clear hKK KK; simp only [thenA, blockA, reduceIte]) | skip)
        | (refine AWP.draw' mixd (by rfl) (by kernel_rfl) (fun KK tab hKK htab => ?_); (repeat (simp (disch := omega) [hlt, hl0])); first | (refine dEnd_ro ?_ (hKK _ _ _ ?_); (focus (simp; done)); clear htab tab hKK KK; simp only [thenA, blockA, reduceIte]) | (refine dEnd_of ?_ (hKK _ _ _ ?_); (focus (simp only [List.reverse_cons, List.reverse_nil, List.nil_append, List.cons_append, memA, mem1, and_true, true_and]; (repeat' apply And.intro); (all_goals (first | trivial | (refine .inr ⟨?_, ?_⟩ <;> (simp; done)) | (refine .inr ⟨?_, ?_⟩ <;> (simp <;> omega)) | (refine .inl ?_; rw [htab]; kernel_rfl))); done)); clear htab tab hKK KK; simp only [thenA, blockA, reduceIte]) | skip)
        | (refine AWP.if_t ?_ ?_; focus (simp (disch := omega) [hlt, hl0]; done))
        | (refine AWP.if_f ?_ ?_; focus (simp (disch := omega) [hlt, hl0]; done)))
      refine ⟨by simp, _, rfl, fin1M (cb) (rdB (.sl bx ox bs.length capx zx) (q)) (blkT (its)) (by simp (disch := omega) only [upd_eq, upd_ne, del_ne, h1]) rfl (low_rd hlo) (by simp (disch := omega) only [upd_eq, upd_ne, del_ne, blkT, h3]) rfl (flatT _).low hrν ⟨its, q, ⟨by omega, hgi.ok⟩, by omega, by omega, by simp [resO, get, ren, rho], rfl⟩ (by omega) (by simp [resO, get, nms])⟩
    have hl0 : 0 < its.length := by omega
    repeat' (first
      | refine AWP.seq ?_
      | refine AWP.block ?_
      | (refine AWP.skip ?_; simp only [thenA, blockA, reduceIte])
      | (refine AWP.exit ?_; simp only [thenA, blockA, eq_self, reduceIte, Nat.reduceEqDiff, Nat.succ_ne_zero])
      | (refine AWP.ret ?_; simp only [thenA, blockA, reduceIte])
      | (refine AWP.region (by rfl) (fun KK hKK => ?_); (repeat (simp (disch := omega) [hlt, hl0])); first | (refine hKK _ _ _ ?_; clear hKK KK; simp only [thenA, blockA, reduceIte]) | skip)
      | (refine AWP.draw' mixd (by rfl) (by kernel_rfl) (fun KK tab hKK htab => ?_); (repeat (simp (disch := omega) [hlt, hl0])); first | (refine dEnd_ro ?_ (hKK _ _ _ ?_); (focus (simp; done)); clear htab tab hKK KK; simp only [thenA, blockA, reduceIte]) | (refine dEnd_of ?_ (hKK _ _ _ ?_); (focus (simp only [List.reverse_cons, List.reverse_nil, List.nil_append, List.cons_append, memA, mem1, and_true, true_and]; (repeat' apply And.intro); (all_goals (first | trivial | (refine .inr ⟨?_, ?_⟩ <;> (simp; done)) | (refine .inr ⟨?_, ?_⟩ <;> (simp <;> omega)) | (refine .inl ?_; rw [htab]; kernel_rfl))); done)); clear htab tab hKK KK; simp only [thenA, blockA, reduceIte]) | skip)
      | (refine AWP.if_t ?_ ?_; focus (simp (disch := omega) [hlt, hl0]; done))
      | (refine AWP.if_f ?_ ?_; focus (simp (disch := omega) [hlt, hl0]; done)))
    refine aStop_of (pick_c _ _ rb _ bs q 16 (by simp (disch := omega) only [upd_eq, upd_ne, del_ne, h1]) (hx'.ovb hrb (fun c kc hc h => by have := (hB c kc h).1; have h2 := hov c kc this hc h; first | exact h2 | (simp (disch := omega) only [upd_ne, del_ne]; exact h2))) h8 (by omega)) ?_
    rintro r δ ⟨rfl, rfl⟩
    (repeat (simp (disch := omega) [hl0]))
    first | (refine hKK _ _ _ ?_; clear hKK KK; simp only [thenA, blockA, reduceIte]) | skip
    by_cases c0 : ¬ pk bs q 16 = 0
    · repeat' (first
        | refine AWP.seq ?_
        | refine AWP.block ?_
        | (refine AWP.skip ?_; simp only [thenA, blockA, reduceIte])
        | (refine AWP.exit ?_; simp only [thenA, blockA, eq_self, reduceIte, Nat.reduceEqDiff, Nat.succ_ne_zero])
        | (refine AWP.ret ?_; simp only [thenA, blockA, reduceIte])
        | (refine AWP.region (by rfl) (fun KK hKK => ?_); (repeat (simp (disch := omega) [c0, hl0])); first | (refine hKK _ _ _ ?_; clear hKK KK; simp only [thenA, blockA, reduceIte]) | skip)
        | (refine AWP.draw' mixd (by rfl) (by kernel_rfl) (fun KK tab hKK htab => ?_); (repeat (simp (disch := omega) [c0, hl0])); first | (refine dEnd_ro ?_ (hKK _ _ _ ?_); (focus (simp; done)); clear htab tab hKK KK; simp only [thenA, blockA, reduceIte]) | (refine dEnd_of ?_ (hKK _ _ _ ?_); (focus (simp only [List.reverse_cons, List.reverse_nil, List.nil_append, List.cons_append, memA, mem1, and_true, true_and]; (repeat' apply And.intro); (all_goals (first | trivial | (refine .inr ⟨?_, ?_⟩ <;> (simp; done)) | (refine .inr ⟨?_, ?_⟩ <;> (simp <;> omega)) | (refine .inl ?_; rw [htab]; kernel_rfl))); done)); clear htab tab hKK KK; simp only [thenA, blockA, reduceIte]) | skip)
        | (refine AWP.if_t ?_ ?_; focus (simp (disch := omega) [c0, hl0]; done))
        | (refine AWP.if_f ?_ ?_; focus (simp (disch := omega) [c0, hl0]; done)))
      refine ⟨by simp, _, rfl, fin1M (cb) (rdB (.sl bx ox bs.length capx zx) (q + 1)) (blkT (its)) (by simp (disch := omega) only [upd_eq, upd_ne, del_ne, h1]) rfl (low_rd hlo) (by simp (disch := omega) only [upd_eq, upd_ne, del_ne, blkT, h3]) rfl (flatT _).low hrν ⟨its, q + 1, ⟨by omega, hgi.ok⟩, by omega, by omega, by simp [resO, get, ren, rho], rfl⟩ (by omega) (by simp [resO, get, nms])⟩
    have c0 : pk bs q 16 = 0 := by omega
    have hpk := pk_bd h8 (p := q + 1) (n := its.length) (by omega) (by omega)
    repeat' (first
      | refine AWP.seq ?_
      | refine AWP.block ?_
      | (refine AWP.skip ?_; simp only [thenA, blockA, reduceIte])
      | (refine AWP.exit ?_; simp only [thenA, blockA, eq_self, reduceIte, Nat.reduceEqDiff, Nat.succ_ne_zero])
      | (refine AWP.ret ?_; simp only [thenA, blockA, reduceIte])
      | (refine AWP.region (by rfl) (fun KK hKK => ?_); (repeat (simp (disch := omega) [c0, hl0])); first | (refine hKK _ _ _ ?_; clear hKK KK; simp only [thenA, blockA, reduceIte]) | skip)
      | (refine AWP.draw' mixd (by rfl) (by kernel_rfl) (fun KK tab hKK htab => ?_); (repeat (simp (disch := omega) [c0, hl0])); first | (refine dEnd_ro ?_ (hKK _ _ _ ?_); (focus (simp; done)); clear htab tab hKK KK; simp only [thenA, blockA, reduceIte]) | (refine dEnd_of ?_ (hKK _ _ _ ?_); (focus (simp only [List.reverse_cons, List.reverse_nil, List.nil_append, List.cons_append, memA, mem1, and_true, true_and]; (repeat' apply And.intro); (all_goals (first | trivial | (refine .inr ⟨?_, ?_⟩ <;> (simp; done)) | (refine .inr ⟨?_, ?_⟩ <;> (simp <;> omega)) | (refine .inl ?_; rw [htab]; kernel_rfl))); done)); clear htab tab hKK KK; simp only [thenA, blockA, reduceIte]) | skip)
      | (refine AWP.if_t ?_ ?_; focus (simp (disch := omega) [c0, hl0]; done))
      | (refine AWP.if_f ?_ ?_; focus (simp (disch := omega) [c0, hl0]; done)))
    refine aStop_of (pick_c _ _ rb _ bs (q + 1) its.length (by simp (disch := omega) only [upd_eq, upd_ne, del_ne, h1]) (hx'.ovb hrb (fun c kc hc h => by have := (hB c kc h).1; have h2 := hov c kc this hc h; first | exact h2 | (simp (disch := omega) only [upd_ne, del_ne]; exact h2))) h8 (by omega)) ?_
    rintro r δ ⟨rfl, rfl⟩
    (repeat (simp (disch := omega) []))
    first | (refine hKK _ _ _ ?_; clear hKK KK; simp only [thenA, blockA, reduceIte]) | skip
    generalize pk bs (q + 1) its.length = kk at *
    obtain ⟨kn, rfl⟩ := Int.eq_ofNat_of_zero_le hpk.1
    have hkn2 : kn < its.length := by omega
    have hrow := rowsT_at its kn hkn2
    repeat' (first
      | refine AWP.seq ?_
      | refine AWP.block ?_
      | (refine AWP.skip ?_; simp only [thenA, blockA, reduceIte])
      | (refine AWP.exit ?_; simp only [thenA, blockA, eq_self, reduceIte, Nat.reduceEqDiff, Nat.succ_ne_zero])
      | (refine AWP.ret ?_; simp only [thenA, blockA, reduceIte])
      | (refine AWP.region (by rfl) (fun KK hKK => ?_); (repeat (simp (disch := omega) [])); first | (refine hKK _ _ _ ?_; clear hKK KK; simp only [thenA, blockA, reduceIte]) | skip)
      | (refine AWP.draw' mixd (by rfl) (by kernel_rfl) (fun KK tab hKK htab => ?_); (repeat (simp (disch := omega) [])); first | (refine dEnd_ro ?_ (hKK _ _ _ ?_); (focus (simp; done)); clear htab tab hKK KK; simp only [thenA, blockA, reduceIte]) | (refine dEnd_of ?_ (hKK _ _ _ ?_); (focus (simp only [List.reverse_cons, List.reverse_nil, List.nil_append, List.cons_append, memA, mem1, and_true, true_and]; (repeat' apply And.intro); (all_goals (first | trivial | (refine .inr ⟨?_, ?_⟩ <;> (simp; done)) | (refine .inr ⟨?_, ?_⟩ <;> (simp <;> omega)) | (refine .inl ?_; rw [htab]; kernel_rfl))); done)); clear htab tab hKK KK; simp only [thenA, blockA, reduceIte]) | skip)
      | (refine AWP.if_t ?_ ?_; focus (simp (disch := omega) []; done))
      | (refine AWP.if_f ?_ ?_; focus (simp (disch := omega) []; done)))
    refine aStop_of (anyName_c _ _ rb _ bs (q + 1 + 1) (by simp (disch := omega) only [upd_eq, upd_ne, del_ne, h1]) (hx'.ovb hrb (fun c kc hc h => by have := (hB c kc h).1; have h2 := hov c kc this hc h; first | exact h2 | (simp (disch := omega) only [upd_ne, del_ne]; exact h2))) h8 (by omega)) ?_
    rintro r δ ⟨rfl, rfl⟩
    (repeat (simp (disch := omega) []))
    first | (refine hKK _ _ _ ?_; clear hKK KK; simp only [thenA, blockA, reduceIte]) | skip
    refine aStop_of (pick_c _ _ rb _ bs (q + 1 + 1 + 2) 2 (by simp (disch := omega) only [upd_eq, upd_ne, del_ne, h1]) (hx'.ovb hrb (fun c kc hc h => by have := (hB c kc h).1; have h2 := hov c kc this hc h; first | exact h2 | (simp (disch := omega) only [upd_ne, del_ne]; exact h2))) h8 (by omega)) ?_
    rintro r δ ⟨rfl, rfl⟩
    (repeat (simp (disch := omega) []))
    first | (refine hKK _ _ _ ?_; clear hKK KK; simp only [thenA, blockA, reduceIte]) | skip
    refine aStop_of (one_c _ _ rb _ _ bs (q + 1 + 1 + 2 + 1) [5, -1, 4096, 1001] (by simp (disch := omega) only [upd_eq, upd_ne, del_ne, h1]) (hx'.ovb hrb (fun c kc hc h => by have := (hB c kc h).1; have h2 := hov c kc this hc h; first | exact h2 | (simp (disch := omega) only [upd_ne, del_ne]; exact h2))) h8 (by omega) (Sl.whole (t := 3) (r := true) (by simp only [upd_eq]; rfl) rfl) (by decide) (by decide)) ?_
    rintro r δ ⟨rfl, rfl⟩
    (repeat (simp (disch := omega) [hkn2, hrow, h3, rowsT_len, rowsT_set]))
    first | (refine hKK _ _ _ ?_; clear hKK KK; simp only [thenA, blockA, reduceIte]) | skip
    have hnm := anyNameF_sz h8 (p := q + 1 + 1) (by omega)
    have hv4 := pk_bd h8 (p := q + 1 + 1 + 2 + 1) (n := 4) (by omega) (by omega)
    have hv := iAt_mem (l := [5, -1, 4096, 1001]) hv4.1 hv4.2
    simp only [List.mem_cons, List.not_mem_nil, or_false] at hv
    repeat' (first
      | refine AWP.seq ?_
      | refine AWP.block ?_
      | (refine AWP.skip ?_; simp only [thenA, blockA, reduceIte])
      | (refine AWP.exit ?_; simp only [thenA, blockA, eq_self, reduceIte, Nat.reduceEqDiff, Nat.succ_ne_zero])
      | (refine AWP.ret ?_; simp only [thenA, blockA, reduceIte])
      | (refine AWP.region (by rfl) (fun KK hKK => ?_); (repeat (simp (disch := omega) [hkn2, hrow, h3, rowsT_len, rowsT_set])); first | (refine hKK _ _ _ ?_; clear hKK KK; simp only [thenA, blockA, reduceIte]) | skip)
      | (refine AWP.draw' mixd (by rfl) (by kernel_rfl) (fun KK tab hKK htab => ?_); (repeat (simp (disch := omega) [hkn2, hrow, h3, rowsT_len, rowsT_set])); first | (refine dEnd_ro ?_ (hKK _ _ _ ?_); (focus (simp; done)); clear htab tab hKK KK; simp only [thenA, blockA, reduceIte]) | (refine dEnd_of ?_ (hKK _ _ _ ?_); (focus (simp only [List.reverse_cons, List.reverse_nil, List.nil_append, List.cons_append, memA, mem1, and_true, true_and]; (repeat' apply And.intro); (all_goals (first | trivial | (refine .inr ⟨?_, ?_⟩ <;> (simp; done)) | (refine .inr ⟨?_, ?_⟩ <;> (simp <;> omega)) | (refine .inl ?_; rw [htab]; kernel_rfl))); done)); clear htab tab hKK KK; simp only [thenA, blockA, reduceIte]) | skip)
      | (refine AWP.if_t ?_ ?_; focus (simp (disch := omega) [hkn2, hrow, h3, rowsT_len, rowsT_set]; done))
      | (refine AWP.if_f ?_ ?_; focus (simp (disch := omega) [hkn2, hrow, h3, rowsT_len, rowsT_set]; done)))
    refine ⟨by simp, _, rfl, fin1M (cb) (rdB (.sl bx ox bs.length capx zx) (q + 1 + 1 + 2 + 1 + 1)) (blkT (its.set kn (anyNameF bs (q + 1 + 1), decide (pk bs (q + 1 + 1 + 2) 2 = 0), iAt [5, -1, 4096, 1001] (pk bs (q + 1 + 1 + 2 + 1) 4)))) (by simp (disch := omega) only [upd_eq, upd_ne, del_ne, h1]) rfl (low_rd hlo) (by simp (disch := omega) only [upd_eq, upd_ne, del_ne, blkT, h3]) rfl (flatT _).low hrν ⟨its.set kn (anyNameF bs (q + 1 + 1), decide (pk bs (q + 1 + 1 + 2) 2 = 0), iAt [5, -1, 4096, 1001] (pk bs (q + 1 + 1 + 2 + 1) 4)), q + 1 + 1 + 2 + 1 + 1, (show Gt its 12 from ⟨by omega, hgi.ok⟩).set hnm (by omega) (by omega), by omega, by omega, by simp [resO, get, ren, rho], rfl⟩ (by omega) (by simp [resO, get, nms])⟩

set_option maxRecDepth 10000 in
set_option maxHeartbeats 1000000 in
theorem DrawBuildEnum_c (σ : Sto) (ν : Nat) (x : AV) (bs : List Int) (hx : Sl σ x 1 (rowsB bs)) (h8 : ∀ y ∈ bs, 0 ≤ y ∧ y ≤ 255) (hl : bs.length ≤ 9223372036854775807) :
    AC Try.prog 46 [x] σ ν fun r δ => ∃ its : List It, Gt its 12 ∧ r = .sl ν 0 its.length none 3 ∧ δ = upd noS ν (blkT its) := by
  obtain ⟨b, o, cap, z, rfl⟩ := hx.out
  simp only [rowsB_len] at hx ⊢
  refine AC.intro [] ent_46 Try.func46 rfl (by simp [Try.f46]) (by simp) ?_
  intro K s hs hB hn hν hA hFr
  simp only [argT, Nat.zero_add, Nat.reduceAdd]
  have hx' := hx.vw hs.vw
  repeat' (first
    | refine AWP.seq ?_
    | refine AWP.block ?_
    | (refine AWP.skip ?_; simp only [thenA, blockA, reduceIte])
    | (refine AWP.exit ?_; simp only [thenA, blockA, eq_self, reduceIte, Nat.reduceEqDiff, Nat.succ_ne_zero])
    | (refine AWP.ret ?_; simp only [thenA, blockA, reduceIte])
    | (refine AWP.region (by rfl) (fun KK hKK => ?_); (repeat (simp (disch := omega) [])); first | (refine hKK _ _ _ ?_; clear hKK KK; simp only [thenA, blockA, reduceIte]) | skip)
    | (refine AWP.if_t ?_ ?_; focus (simp (disch := omega) []; done))
    | (refine AWP.if_f ?_ ?_; focus (simp (disch := omega) []; done)))
  refine aStop_of (newReader_c _ _ _ bs (hx'.vw ((Vw.refl _).over (by repeat (first | exact Over.refl _ | exact hov | refine Over.upd ?_ hB (by omega) | refine Over.del ?_ hB (by omega))))) h8 hl) ?_
  rintro r δ ⟨y, b8, hy, hc8, rfl, rfl⟩
  (repeat (simp (disch := omega) []))
  first | (refine hKK _ _ _ ?_; clear hKK KK; simp only [thenA, blockA, reduceIte]) | skip
  have hy2 := hy.vw (Vw.new (ν := K) (k := rdB y 0) (hB.none (by omega)))
  repeat' (first
    | refine AWP.seq ?_
    | refine AWP.block ?_
    | (refine AWP.skip ?_; simp only [thenA, blockA, reduceIte])
    | (refine AWP.exit ?_; simp only [thenA, blockA, eq_self, reduceIte, Nat.reduceEqDiff, Nat.succ_ne_zero])
    | (refine AWP.ret ?_; simp only [thenA, blockA, reduceIte])
    | (refine AWP.region (by rfl) (fun KK hKK => ?_); (repeat (simp (disch := omega) [])); first | (refine hKK _ _ _ ?_; clear hKK KK; simp only [thenA, blockA, reduceIte]) | skip)
    | (refine AWP.if_t ?_ ?_; focus (simp (disch := omega) []; done))
    | (refine AWP.if_f ?_ ?_; focus (simp (disch := omega) []; done)))
  refine aStop_of (someItems_c _ _ K y b8 0 _ (by simp only [upd_eq]) hy2 hc8 (by omega)) ?_
  rintro r δ ⟨its, q, hgt, _, _, rfl, rfl⟩
  (repeat (simp (disch := omega) []))
  first | (refine hKK _ _ _ ?_; clear hKK KK; simp only [thenA, blockA, reduceIte]) | skip
  repeat' (first
    | refine AWP.seq ?_
    | refine AWP.block ?_
    | (refine AWP.skip ?_; simp only [thenA, blockA, reduceIte])
    | (refine AWP.exit ?_; simp only [thenA, blockA, eq_self, reduceIte, Nat.reduceEqDiff, Nat.succ_ne_zero])
    | (refine AWP.ret ?_; simp only [thenA, blockA, reduceIte])
    | (refine AWP.region (by rfl) (fun KK hKK => ?_); (repeat (simp (disch := omega) [])); first | (refine hKK _ _ _ ?_; clear hKK KK; simp only [thenA, blockA, reduceIte]) | skip)
    | (refine AWP.if_t ?_ ?_; focus (simp (disch := omega) []; done))
    | (refine AWP.if_f ?_ ?_; focus (simp (disch := omega) []; done)))
  refine ⟨by simp, _, rfl, fin1 (K + 2) (blkT its) (by simp (disch := omega) only [upd_eq, upd_ne]) rfl (flatT _) ⟨its, hgt, by simp [resO, get, ren, rho], rfl⟩ (by omega) (by simp [resO, get, nms])⟩
end Go.Proofs.Ythjjfdbkggiaeaa
