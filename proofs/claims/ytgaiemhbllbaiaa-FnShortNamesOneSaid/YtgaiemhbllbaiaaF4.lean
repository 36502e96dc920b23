/- Contracts of the generators: classes of flags, and values. No condition. -/
import Derived.Test.YtgaiemhbllbaiaaF3
import Derived.Test.YtgaiemhbllbaiaaG5
set_option linter.unusedSimpArgs false
set_option linter.unusedVariables false
namespace Go.Proofs.Ytgaiemhbllbaiaa
open Go Go.RowKit

theorem slE {σ σ' : Sto} {b o z s : Nat} {cap : Option Nat} (h : Sl σ (.sl b o 0 cap z) s []) : Sl σ' (.sl b o 0 cap z) s [] := ⟨b, o, cap, z, rfl, h.zs, .inl rfl⟩
def GotF (ν rb : Nat) (x : AV) (p : Int) (m N : Nat) (r : AV) (δ : Sto) : Prop := ∃ (ds : List Df) (bd q : Int), Gd ds m ∧ -1 ≤ bd ∧ bd ≤ 4 ∧ p ≤ q ∧ q ≤ p + N ∧ r = .agg [.sl ν 0 ds.length none 2, .v (.int .i64 bd)] ∧ δ = upd (upd noS rb (rdB x q)) ν (blkD ds)

set_option maxRecDepth 10000 in
set_option maxHeartbeats 1000000 in
theorem goodFlag_c (σ : Sto) (ν rb : Nat) (x : AV) (bs : List Int) (p : Int) (hb : σ rb = some (rdB x p)) (hx : Sl σ x 1 (rowsB bs)) (h8 : Code8 bs) (hp : 0 ≤ p ∧ p ≤ 90000) :
    AC Try.prog 105 [.ptr rb 0 0] σ ν (GotF ν rb x p 12 101) := by
  obtain ⟨bx, ox, capx, zx, rfl⟩ := hx.out
  simp only [rowsB_len] at hx hb ⊢
  refine AC.intro [rb] ent_105 Try.func105 rfl (by simp [Try.f105]) (by simp [hb]) ?_
  intro K s hs hB hn hν hA hFr
  simp only [argT, Nat.zero_add, Nat.reduceAdd]
  have hrb : s rb = some (rdB (.sl bx ox bs.length capx zx) p) := by rw [hs rb, hb]; simp
  obtain ⟨hrK, hlo⟩ := hB rb _ hrb
  have hx' := hx.vw hs.vw
  have hrν : rb ≠ ν := fun e => by rw [e] at hb; rw [hFr.1] at hb; cases hb
  repeat' (first
    | refine AWP.seq ?_
    | refine AWP.block ?_
    | (refine AWP.skip ?_; simp only [thenA, blockA, reduceIte])
    | (refine AWP.exit ?_; simp only [thenA, blockA, eq_self, reduceIte, Nat.reduceEqDiff, Nat.succ_ne_zero])
    | (refine AWP.ret ?_; simp only [thenA, blockA, reduceIte])
    | (refine AWP.region (by rfl) (fun KK hKK => ?_); (repeat (simp (disch := omega) [])); first | (refine hKK _ _ _ ?_; clear hKK KK; simp only [thenA, blockA, reduceIte]) | skip)
    | (refine AWP.if_t ?_ ?_; focus (simp (disch := omega) []; done))
    | (refine AWP.if_f ?_ ?_; focus (simp (disch := omega) []; done)))
  refine aStop_of (goodDefs_c _ _ rb _ bs p 4095 (by simp (disch := omega) only [upd_eq, upd_ne, del_ne, hrb]) (hx'.ovb hrb (fun c kc hc h => by have := (hB c kc h).1; first | exact h | (simp (disch := omega) only [upd_ne, del_ne]; exact h))) h8 (by omega)) ?_
  rintro r δ ⟨ds, q, hgd, hq0, hq1, rfl, rfl⟩
  (repeat (simp (disch := omega) []))
  first | (refine hKK _ _ _ ?_; clear hKK KK; simp only [thenA, blockA, reduceIte]) | skip
  refine aStop_of (pick_c _ _ rb _ bs q 4 (by simp (disch := omega) only [upd_eq, upd_ne, del_ne, hrb]) (hx'.ovb hrb (fun c kc hc h => by have := (hB c kc h).1; first | exact h | (simp (disch := omega) only [upd_ne, del_ne]; exact h))) h8 (by omega)) ?_
  rintro r δ ⟨rfl, rfl⟩
  (repeat (simp (disch := omega) []))
  first | (refine hKK _ _ _ ?_; clear hKK KK; simp only [thenA, blockA, reduceIte]) | skip
  have hpk := pk_bd h8 (p := q) (n := 4) (by omega) (by omega)
  repeat' (first
    | refine AWP.seq ?_
    | refine AWP.block ?_
    | (refine AWP.skip ?_; simp only [thenA, blockA, reduceIte])
    | (refine AWP.exit ?_; simp only [thenA, blockA, eq_self, reduceIte, Nat.reduceEqDiff, Nat.succ_ne_zero])
    | (refine AWP.ret ?_; simp only [thenA, blockA, reduceIte])
    | (refine AWP.region (by rfl) (fun KK hKK => ?_); (repeat (simp (disch := omega) [])); first | (refine hKK _ _ _ ?_; clear hKK KK; simp only [thenA, blockA, reduceIte]) | skip)
    | (refine AWP.if_t ?_ ?_; focus (simp (disch := omega) []; done))
    | (refine AWP.if_f ?_ ?_; focus (simp (disch := omega) []; done)))
  refine ⟨by simp, ?_⟩
  have hres : Try.f105.results.toList = [.cell 2 62] := rfl
  rw [hres]
  simp (disch := omega) []
  refine fin1M (K + 1) (rdB (.sl bx ox bs.length capx zx) (q + 1)) (blkD ds) (by simp (disch := omega) only [upd_eq, upd_ne, del_ne, hrb]) rfl (low_rd hlo) (by simp (disch := omega) only [upd_eq, upd_ne]) rfl (flatD _).low hrν ⟨ds, pk bs q 4, q + 1, hgd, by omega, by omega, by omega, by omega, by simp [resO, ren, rens, rho], rfl⟩ (by omega) (by simp [resO, nms, nmss])

set_option maxRecDepth 10000 in
set_option maxHeartbeats 4000000 in
theorem someFlag_c (σ : Sto) (ν rb : Nat) (x : AV) (bs : List Int) (p : Int) (hb : σ rb = some (rdB x p)) (hx : Sl σ x 1 (rowsB bs)) (h8 : Code8 bs) (hp : 0 ≤ p ∧ p ≤ 80000) :
    AC Try.prog 77 [.ptr rb 0 0] σ ν (GotF ν rb x p 13 110) := by
  obtain ⟨bx, ox, capx, zx, rfl⟩ := hx.out
  simp only [rowsB_len] at hx hb ⊢
  refine AC.intro [rb] ent_77 Try.func77 rfl (by simp [Try.f77]) (by simp [hb]) ?_
  intro K s hs hB hn hν hA hFr
  simp only [argT, Nat.zero_add, Nat.reduceAdd]
  have hrb : s rb = some (rdB (.sl bx ox bs.length capx zx) p) := by rw [hs rb, hb]; simp
  obtain ⟨hrK, hlo⟩ := hB rb _ hrb
  have hx' := hx.vw hs.vw
  have hrν : rb ≠ ν := fun e => by rw [e] at hb; rw [hFr.1] at hb; cases hb
  repeat' (first
    | refine AWP.seq ?_
    | refine AWP.block ?_
    | (refine AWP.skip ?_; simp only [thenA, blockA, reduceIte])
    | (refine AWP.exit ?_; simp only [thenA, blockA, eq_self, reduceIte, Nat.reduceEqDiff, Nat.succ_ne_zero])
    | (refine AWP.ret ?_; simp only [thenA, blockA, reduceIte])
    | (refine AWP.region (by rfl) (fun KK hKK => ?_); (repeat (simp (disch := omega) [])); first | (refine hKK _ _ _ ?_; clear hKK KK; simp only [thenA, blockA, reduceIte]) | skip)
    | (refine AWP.draw' mixd (by rfl) (by kernel_rfl) (fun KK tab hKK htab => ?_); (repeat (simp (disch := omega) [])); first | (refine dEnd_ro ?_ (hKK _ _ _ ?_); (focus (simp; done)); clear htab tab hKK KK; simp only [thenA, blockA, reduceIte]) | (refine dEnd_of ?_ (hKK _ _ _ ?_); (focus (simp only [List.reverse_cons, List.reverse_nil, List.nil_append, List.cons_append, memA, mem1, and_true, true_and]; (repeat' apply And.intro); (all_goals (first | trivial | (refine .inr ⟨?_, ?_⟩ <;> (simp; done)) | (refine .inr ⟨?_, ?_⟩ <;> (simp <;> omega)) | (refine .inl ?_; rw [htab]; kernel_rfl))); done)); clear htab tab hKK KK; simp only [thenA, blockA, reduceIte]) | skip)
    | (refine AWP.if_t ?_ ?_; focus (simp (disch := omega) []; done))
    | (refine AWP.if_f ?_ ?_; focus (simp (disch := omega) []; done)))
  refine aStop_of (goodFlag_c _ _ rb _ bs p (by simp (disch := omega) only [upd_eq, upd_ne, del_ne, hrb]) (hx'.ovb hrb (fun c kc hc h => by have := (hB c kc h).1; first | exact h | (simp (disch := omega) only [upd_ne, del_ne]; exact h))) h8 (by omega)) ?_
  rintro r δ ⟨ds, bd, q, hgd, hb0, hb1, hq0, hq1, rfl, rfl⟩
  (repeat (simp (disch := omega) []))
  first | (refine hKK _ _ _ ?_; clear hKK KK; simp only [thenA, blockA, reduceIte]) | skip
  repeat' (first
    | refine AWP.seq ?_
    | refine AWP.block ?_
    | (refine AWP.skip ?_; simp only [thenA, blockA, reduceIte])
    | (refine AWP.exit ?_; simp only [thenA, blockA, eq_self, reduceIte, Nat.reduceEqDiff, Nat.succ_ne_zero])
    | (refine AWP.ret ?_; simp only [thenA, blockA, reduceIte])
    | (refine AWP.region (by rfl) (fun KK hKK => ?_); (repeat (simp (disch := omega) [])); first | (refine hKK _ _ _ ?_; clear hKK KK; simp only [thenA, blockA, reduceIte]) | skip)
    | (refine AWP.draw' mixd (by rfl) (by kernel_rfl) (fun KK tab hKK htab => ?_); (repeat (simp (disch := omega) [])); first | (refine dEnd_ro ?_ (hKK _ _ _ ?_); (focus (simp; done)); clear htab tab hKK KK; simp only [thenA, blockA, reduceIte]) | (refine dEnd_of ?_ (hKK _ _ _ ?_); (focus (simp only [List.reverse_cons, List.reverse_nil, List.nil_append, List.cons_append, memA, mem1, and_true, true_and]; (repeat' apply And.intro); (all_goals (first | trivial | (refine .inr ⟨?_, ?_⟩ <;> (simp; done)) | (refine .inr ⟨?_, ?_⟩ <;> (simp <;> omega)) | (refine .inl ?_; rw [htab]; kernel_rfl))); done)); clear htab tab hKK KK; simp only [thenA, blockA, reduceIte]) | skip)
    | (refine AWP.if_t ?_ ?_; focus (simp (disch := omega) []; done))
    | (refine AWP.if_f ?_ ?_; focus (simp (disch := omega) []; done)))
  refine aStop_of (pick_c _ _ rb _ bs q 24 (by simp (disch := omega) only [upd_eq, upd_ne, del_ne, hrb]) (hx'.ovb hrb (fun c kc hc h => by have := (hB c kc h).1; first | exact h | (simp (disch := omega) only [upd_ne, del_ne]; exact h))) h8 (by omega)) ?_
  rintro r δ ⟨rfl, rfl⟩
  (repeat (simp (disch := omega) []))
  first | (refine hKK _ _ _ ?_; clear hKK KK; simp only [thenA, blockA, reduceIte]) | skip
  by_cases c0 : pk bs q 24 = 0
  · repeat' (first
      | refine AWP.seq ?_
      | refine AWP.block ?_
      | (refine AWP.skip ?_; simp only [thenA, blockA, reduceIte])
      | (refine AWP.exit ?_; simp only [thenA, blockA, eq_self, reduceIte, Nat.reduceEqDiff, Nat.succ_ne_zero])
      | (refine AWP.ret ?_; simp only [thenA, blockA, reduceIte])
      | (refine AWP.region (by rfl) (fun KK hKK => ?_); (repeat (simp (disch := omega) [c0])); first | (refine hKK _ _ _ ?_; clear hKK KK; simp only [thenA, blockA, reduceIte]) | skip)
      | (refine AWP.draw' mixd (by rfl) (by kernel_rfl) (fun KK tab hKK htab => ?_); (repeat (simp (disch := omega) [c0])); first | (refine dEnd_ro ?_ (hKK _ _ _ ?_); (focus (simp; done)); clear htab tab hKK KK; simp only [thenA, blockA, reduceIte]) | (refine dEnd_of ?_ (hKK _ _ _ ?_); (focus (simp only [List.reverse_cons, List.reverse_nil, List.nil_append, List.cons_append, memA, mem1, and_true, true_and]; (repeat' apply And.intro); (all_goals (first | trivial | (refine .inr ⟨?_, ?_⟩ <;> (simp; done)) | (refine .inr ⟨?_, ?_⟩ <;> (simp <;> omega)) | (refine .inl ?_; rw [htab]; kernel_rfl))); done)); clear htab tab hKK KK; simp only [thenA, blockA, reduceIte]) | skip)
      | (refine AWP.if_t ?_ ?_; focus (simp (disch := omega) [c0]; done))
      | (refine AWP.if_f ?_ ?_; focus (simp (disch := omega) [c0]; done)))
    refine aStop_of (one_c _ _ rb _ _ bs (q + 1) [-1, 4] (by simp (disch := omega) only [upd_eq, upd_ne, del_ne, hrb]) (hx'.ovb hrb (fun c kc hc h => by have := (hB c kc h).1; first | exact h | (simp (disch := omega) only [upd_ne, del_ne]; exact h))) h8 (by omega) (Sl.whole (t := 3) (r := true) (by simp only [upd_eq]; rfl) rfl) (by decide) (by decide)) ?_
    rintro r δ ⟨rfl, rfl⟩
    (repeat (simp (disch := omega) []))
    first | (refine hKK _ _ _ ?_; clear hKK KK; simp only [thenA, blockA, reduceIte]) | skip
    have hpk := pk_bd h8 (p := q + 1) (n := 2) (by omega) (by omega)
    have hv := iAt_mem (l := [-1, 4]) hpk.1 hpk.2
    simp only [List.mem_cons, List.not_mem_nil, or_false] at hv
    repeat' (first
      | refine AWP.seq ?_
      | refine AWP.block ?_
      | (refine AWP.skip ?_; simp only [thenA, blockA, reduceIte])
      | (refine AWP.exit ?_; simp only [thenA, blockA, eq_self, reduceIte, Nat.reduceEqDiff, Nat.succ_ne_zero])
      | (refine AWP.ret ?_; simp only [thenA, blockA, reduceIte])
      | (refine AWP.region (by rfl) (fun KK hKK => ?_); (repeat (simp (disch := omega) [])); first | (refine hKK _ _ _ ?_; clear hKK KK; simp only [thenA, blockA, reduceIte]) | skip)
      | (refine AWP.draw' mixd (by rfl) (by kernel_rfl) (fun KK tab hKK htab => ?_); (repeat (simp (disch := omega) [])); first | (refine dEnd_ro ?_ (hKK _ _ _ ?_); (focus (simp; done)); clear htab tab hKK KK; simp only [thenA, blockA, reduceIte]) | (refine dEnd_of ?_ (hKK _ _ _ ?_); (focus (simp only [List.reverse_cons, List.reverse_nil, List.nil_append, List.cons_append, memA, mem1, and_true, true_and]; (repeat' apply And.intro); (all_goals (first | trivial | (refine .inr ⟨?_, ?_⟩ <;> (simp; done)) | (refine .inr ⟨?_, ?_⟩ <;> (simp <;> omega)) | (refine .inl ?_; rw [htab]; kernel_rfl))); done)); clear htab tab hKK KK; simp only [thenA, blockA, reduceIte]) | skip)
      | (refine AWP.if_t ?_ ?_; focus (simp (disch := omega) []; done))
      | (refine AWP.if_f ?_ ?_; focus (simp (disch := omega) []; done)))
    refine ⟨by simp, ?_⟩
    have hres : Try.f77.results.toList = [.cell 2 62] := rfl
    rw [hres]
    simp (disch := omega) []
    refine fin1M (K + 1) (rdB (.sl bx ox bs.length capx zx) (q + 1 + 1)) (blkD (ds)) (by simp (disch := omega) only [upd_eq, upd_ne, del_ne, hrb]) rfl (low_rd hlo) (by simp (disch := omega) only [upd_eq, upd_ne, del_ne]) rfl (flatD _).low hrν ⟨ds, iAt [-1, 4] (pk bs (q + 1) 2), q + 1 + 1, hgd.more (by omega), by omega, by omega, by omega, by omega, by simp [resO, ren, rens, rho], rfl⟩ (by omega) (by simp [resO, nms, nmss])
  by_cases c1 : pk bs q 24 = 1
  · have hz1 : (ds.length + 1) * 24 ≤ 140737488355328 := by have := hgd.len; omega
    have hz2 : ds.length + 1 ≤ 4611686018427387904 := by have := hgd.len; omega
    have hs7 := anyNameF_sz h8 (p := q + 1) (by omega)
    have hpk := pk_bd h8 (p := q + 1 + 2) (n := 3) (by omega) (by omega)
    have hv := iAt_mem (l := [-1, 4096, 1]) hpk.1 hpk.2
    simp only [List.mem_cons, List.not_mem_nil, or_false] at hv
    have hcase : bx < K ∨ bs = [] := by
      rcases List.eq_nil_or_concat bs with h | ⟨l, a, h⟩
      · exact .inr h
      · have hl0 : 0 < bs.length := by rw [h]; simp
        obtain ⟨_, _, kb, hkb, _⟩ := hx'.at (i := 0) (by rw [rowsB_len]; exact hl0)
        exact .inl (hB bx _ hkb).1
    rcases hcase with hbxK | hbs
    · repeat' (first
        | refine AWP.seq ?_
        | refine AWP.block ?_
        | (refine AWP.skip ?_; simp only [thenA, blockA, reduceIte])
        | (refine AWP.exit ?_; simp only [thenA, blockA, eq_self, reduceIte, Nat.reduceEqDiff, Nat.succ_ne_zero])
        | (refine AWP.ret ?_; simp only [thenA, blockA, reduceIte])
        | (refine AWP.region (by rfl) (fun KK hKK => ?_); (repeat (simp (disch := omega) [c1])); first | (refine hKK _ _ _ ?_; clear hKK KK; simp only [thenA, blockA, reduceIte]) | skip)
        | (refine AWP.draw' mixd (by rfl) (by kernel_rfl) (fun KK tab hKK htab => ?_); (repeat (simp (disch := omega) [c1])); first | (refine dEnd_ro ?_ (hKK _ _ _ ?_); (focus (simp; done)); clear htab tab hKK KK; simp only [thenA, blockA, reduceIte]) | (refine dEnd_of ?_ (hKK _ _ _ ?_); (focus (simp only [List.reverse_cons, List.reverse_nil, List.nil_append, List.cons_append, memA, mem1, and_true, true_and]; (repeat' apply And.intro); (all_goals (first | trivial | (refine .inr ⟨?_, ?_⟩ <;> (simp; done)) | (refine .inr ⟨?_, ?_⟩ <;> (simp <;> omega)) | (refine .inl ?_; rw [htab]; kernel_rfl))); done)); clear htab tab hKK KK; simp only [thenA, blockA, reduceIte]) | skip)
        | (refine AWP.if_t ?_ ?_; focus (simp (disch := omega) [c1]; done))
        | (refine AWP.if_f ?_ ?_; focus (simp (disch := omega) [c1]; done)))
      refine dStop_modF [rb, bx] rb (fun σ' hσ' => anyName_c σ' _ rb _ bs (q + 1) ((hσ' _ (by simp)).trans (by simp (disch := omega) only [upd_eq, upd_ne, del_ne, hrb])) ((hx'.ovb hrb (fun c kc hc h => by have := (hB c kc h).1; first | exact h | (simp (disch := omega) only [upd_ne, del_ne]; exact h))).on (hσ' _ (by simp))) h8 (by omega)) ?_
      (repeat (simp (disch := omega) []))
      first | (refine dEnd_ro ?_ (hKK _ _ _ ?_); (focus (simp; done)); clear htab tab hKK KK; simp only [thenA, blockA, reduceIte]) | (refine dEnd_of ?_ (hKK _ _ _ ?_); (focus (simp only [List.reverse_cons, List.reverse_nil, List.nil_append, List.cons_append, memA, mem1, and_true, true_and]; (repeat' apply And.intro); (all_goals (first | trivial | (refine .inr ⟨?_, ?_⟩ <;> (simp; done)) | (refine .inr ⟨?_, ?_⟩ <;> (simp <;> omega)) | (refine .inl ?_; rw [htab]; kernel_rfl))); done)); clear htab tab hKK KK; simp only [thenA, blockA, reduceIte]) | skip
      refine dStop_modF [rb, K + 1 + 2 + 1 + 2 + 10, bx] rb (fun σ' hσ' => one_c σ' _ rb _ _ bs (q + 1 + 2) [-1, 4096, 1] ((hσ' _ (by simp)).trans (by simp (disch := omega) only [upd_eq, upd_ne, del_ne, hrb])) ((hx'.ovb hrb (fun c kc hc h => by have := (hB c kc h).1; first | exact h | (simp (disch := omega) only [upd_ne, del_ne]; exact h))).on (hσ' _ (by simp))) h8 (by omega) (Sl.whole (t := 3) (r := true) ((hσ' _ (by simp)).trans (by simp only [upd_eq]; rfl)) rfl) (by decide) (by decide)) ?_
      (repeat (simp (disch := omega) [elems, rowsD_len, rowsD_take, rowsD_snoc, hz1, hz2]))
      first | (refine dEnd_ro ?_ (hKK _ _ _ ?_); (focus (simp; done)); clear htab tab hKK KK; simp only [thenA, blockA, reduceIte]) | (refine dEnd_of ?_ (hKK _ _ _ ?_); (focus (simp only [List.reverse_cons, List.reverse_nil, List.nil_append, List.cons_append, memA, mem1, and_true, true_and]; (repeat' apply And.intro); (all_goals (first | trivial | (refine .inr ⟨?_, ?_⟩ <;> (simp; done)) | (refine .inr ⟨?_, ?_⟩ <;> (simp <;> omega)) | (refine .inl ?_; rw [htab]; kernel_rfl))); done)); clear htab tab hKK KK; simp only [thenA, blockA, reduceIte]) | skip
      repeat' (first
        | refine AWP.seq ?_
        | refine AWP.block ?_
        | (refine AWP.skip ?_; simp only [thenA, blockA, reduceIte])
        | (refine AWP.exit ?_; simp only [thenA, blockA, eq_self, reduceIte, Nat.reduceEqDiff, Nat.succ_ne_zero])
        | (refine AWP.ret ?_; simp only [thenA, blockA, reduceIte])
        | (refine AWP.region (by rfl) (fun KK hKK => ?_); (repeat (simp (disch := omega) [])); first | (refine hKK _ _ _ ?_; clear hKK KK; simp only [thenA, blockA, reduceIte]) | skip)
        | (refine AWP.draw' mixd (by rfl) (by kernel_rfl) (fun KK tab hKK htab => ?_); (repeat (simp (disch := omega) [])); first | (refine dEnd_ro ?_ (hKK _ _ _ ?_); (focus (simp; done)); clear htab tab hKK KK; simp only [thenA, blockA, reduceIte]) | (refine dEnd_of ?_ (hKK _ _ _ ?_); (focus (simp only [List.reverse_cons, List.reverse_nil, List.nil_append, List.cons_append, memA, mem1, and_true, true_and]; (repeat' apply And.intro); (all_goals (first | trivial | (refine .inr ⟨?_, ?_⟩ <;> (simp; done)) | (refine .inr ⟨?_, ?_⟩ <;> (simp <;> omega)) | (refine .inl ?_; rw [htab]; kernel_rfl))); done)); clear htab tab hKK KK; simp only [thenA, blockA, reduceIte]) | skip)
        | (refine AWP.if_t ?_ ?_; focus (simp (disch := omega) []; done))
        | (refine AWP.if_f ?_ ?_; focus (simp (disch := omega) []; done)))
      refine ⟨by simp, ?_⟩
      have hres : Try.f77.results.toList = [.cell 2 62] := rfl
      rw [hres]
      simp (disch := omega) []
      refine fin1M (K + 1 + 2 + 1 + 2 + 18) (rdB (.sl bx ox bs.length capx zx) (q + 1 + 2 + 1)) (blkD (ds ++ [(anyNameF bs (q + 1), iAt [-1, 4096, 1] (pk bs (q + 1 + 2) 3))])) (by simp (disch := omega) only [upd_eq, upd_ne, del_ne, hrb]) rfl (low_rd hlo) (by simp (disch := omega) only [upd_eq, upd_ne, del_ne]) rfl (flatD _).low hrν ⟨ds ++ [(anyNameF bs (q + 1), iAt [-1, 4096, 1] (pk bs (q + 1 + 2) 3))], bd, q + 1 + 2 + 1, hgd.snoc hs7 (by omega) (by omega), by omega, by omega, by omega, by omega, by simp [resO, ren, rens, rho], rfl⟩ (by omega) (by simp [resO, nms, nmss])
    · have hy0 : ∀ σ' : Sto, Sl σ' (.sl bx ox bs.length capx zx) 1 (rowsB bs) := fun σ' => by
        subst hbs
        exact slE hx'
      repeat' (first
        | refine AWP.seq ?_
        | refine AWP.block ?_
        | (refine AWP.skip ?_; simp only [thenA, blockA, reduceIte])
        | (refine AWP.exit ?_; simp only [thenA, blockA, eq_self, reduceIte, Nat.reduceEqDiff, Nat.succ_ne_zero])
        | (refine AWP.ret ?_; simp only [thenA, blockA, reduceIte])
        | (refine AWP.region (by rfl) (fun KK hKK => ?_); (repeat (simp (disch := omega) [c1])); first | (refine hKK _ _ _ ?_; clear hKK KK; simp only [thenA, blockA, reduceIte]) | skip)
        | (refine AWP.draw' mixd (by rfl) (by kernel_rfl) (fun KK tab hKK htab => ?_); (repeat (simp (disch := omega) [c1])); first | (refine dEnd_ro ?_ (hKK _ _ _ ?_); (focus (simp; done)); clear htab tab hKK KK; simp only [thenA, blockA, reduceIte]) | (refine dEnd_of ?_ (hKK _ _ _ ?_); (focus (simp only [List.reverse_cons, List.reverse_nil, List.nil_append, List.cons_append, memA, mem1, and_true, true_and]; (repeat' apply And.intro); (all_goals (first | trivial | (refine .inr ⟨?_, ?_⟩ <;> (simp; done)) | (refine .inr ⟨?_, ?_⟩ <;> (simp <;> omega)) | (refine .inl ?_; rw [htab]; kernel_rfl))); done)); clear htab tab hKK KK; simp only [thenA, blockA, reduceIte]) | skip)
        | (refine AWP.if_t ?_ ?_; focus (simp (disch := omega) [c1]; done))
        | (refine AWP.if_f ?_ ?_; focus (simp (disch := omega) [c1]; done)))
      refine dStop_modF [rb] rb (fun σ' hσ' => anyName_c σ' _ rb _ bs (q + 1) ((hσ' _ (by simp)).trans (by simp (disch := omega) only [upd_eq, upd_ne, del_ne, hrb])) (hy0 _) h8 (by omega)) ?_
      (repeat (simp (disch := omega) []))
      first | (refine dEnd_ro ?_ (hKK _ _ _ ?_); (focus (simp; done)); clear htab tab hKK KK; simp only [thenA, blockA, reduceIte]) | (refine dEnd_of ?_ (hKK _ _ _ ?_); (focus (simp only [List.reverse_cons, List.reverse_nil, List.nil_append, List.cons_append, memA, mem1, and_true, true_and]; (repeat' apply And.intro); (all_goals (first | trivial | (refine .inr ⟨?_, ?_⟩ <;> (simp; done)) | (refine .inr ⟨?_, ?_⟩ <;> (simp <;> omega)) | (refine .inl ?_; rw [htab]; kernel_rfl))); done)); clear htab tab hKK KK; simp only [thenA, blockA, reduceIte]) | skip
      refine dStop_modF [rb, K + 1 + 2 + 1 + 2 + 10] rb (fun σ' hσ' => one_c σ' _ rb _ _ bs (q + 1 + 2) [-1, 4096, 1] ((hσ' _ (by simp)).trans (by simp (disch := omega) only [upd_eq, upd_ne, del_ne, hrb])) (hy0 _) h8 (by omega) (Sl.whole (t := 3) (r := true) ((hσ' _ (by simp)).trans (by simp only [upd_eq]; rfl)) rfl) (by decide) (by decide)) ?_
      (repeat (simp (disch := omega) [elems, rowsD_len, rowsD_take, rowsD_snoc, hz1, hz2]))
      first | (refine dEnd_ro ?_ (hKK _ _ _ ?_); (focus (simp; done)); clear htab tab hKK KK; simp only [thenA, blockA, reduceIte]) | (refine dEnd_of ?_ (hKK _ _ _ ?_); (focus (simp only [List.reverse_cons, List.reverse_nil, List.nil_append, List.cons_append, memA, mem1, and_true, true_and]; (repeat' apply And.intro); (all_goals (first | trivial | (refine .inr ⟨?_, ?_⟩ <;> (simp; done)) | (refine .inr ⟨?_, ?_⟩ <;> (simp <;> omega)) | (refine .inl ?_; rw [htab]; kernel_rfl))); done)); clear htab tab hKK KK; simp only [thenA, blockA, reduceIte]) | skip
      repeat' (first
        | refine AWP.seq ?_
        | refine AWP.block ?_
        | (refine AWP.skip ?_; simp only [thenA, blockA, reduceIte])
        | (refine AWP.exit ?_; simp only [thenA, blockA, eq_self, reduceIte, Nat.reduceEqDiff, Nat.succ_ne_zero])
        | (refine AWP.ret ?_; simp only [thenA, blockA, reduceIte])
        | (refine AWP.region (by rfl) (fun KK hKK => ?_); (repeat (simp (disch := omega) [])); first | (refine hKK _ _ _ ?_; clear hKK KK; simp only [thenA, blockA, reduceIte]) | skip)
        | (refine AWP.draw' mixd (by rfl) (by kernel_rfl) (fun KK tab hKK htab => ?_); (repeat (simp (disch := omega) [])); first | (refine dEnd_ro ?_ (hKK _ _ _ ?_); (focus (simp; done)); clear htab tab hKK KK; simp only [thenA, blockA, reduceIte]) | (refine dEnd_of ?_ (hKK _ _ _ ?_); (focus (simp only [List.reverse_cons, List.reverse_nil, List.nil_append, List.cons_append, memA, mem1, and_true, true_and]; (repeat' apply And.intro); (all_goals (first | trivial | (refine .inr ⟨?_, ?_⟩ <;> (simp; done)) | (refine .inr ⟨?_, ?_⟩ <;> (simp <;> omega)) | (refine .inl ?_; rw [htab]; kernel_rfl))); done)); clear htab tab hKK KK; simp only [thenA, blockA, reduceIte]) | skip)
        | (refine AWP.if_t ?_ ?_; focus (simp (disch := omega) []; done))
        | (refine AWP.if_f ?_ ?_; focus (simp (disch := omega) []; done)))
      refine ⟨by simp, ?_⟩
      have hres : Try.f77.results.toList = [.cell 2 62] := rfl
      rw [hres]
      simp (disch := omega) []
      refine fin1M (K + 1 + 2 + 1 + 2 + 18) (rdB (.sl bx ox bs.length capx zx) (q + 1 + 2 + 1)) (blkD (ds ++ [(anyNameF bs (q + 1), iAt [-1, 4096, 1] (pk bs (q + 1 + 2) 3))])) (by simp (disch := omega) only [upd_eq, upd_ne, del_ne, hrb]) rfl (low_rd hlo) (by simp (disch := omega) only [upd_eq, upd_ne, del_ne]) rfl (flatD _).low hrν ⟨ds ++ [(anyNameF bs (q + 1), iAt [-1, 4096, 1] (pk bs (q + 1 + 2) 3))], bd, q + 1 + 2 + 1, hgd.snoc hs7 (by omega) (by omega), by omega, by omega, by omega, by omega, by simp [resO, ren, rens, rho], rfl⟩ (by omega) (by simp [resO, nms, nmss])
  · repeat' (first
      | refine AWP.seq ?_
      | refine AWP.block ?_
      | (refine AWP.skip ?_; simp only [thenA, blockA, reduceIte])
      | (refine AWP.exit ?_; simp only [thenA, blockA, eq_self, reduceIte, Nat.reduceEqDiff, Nat.succ_ne_zero])
      | (refine AWP.ret ?_; simp only [thenA, blockA, reduceIte])
      | (refine AWP.region (by rfl) (fun KK hKK => ?_); (repeat (simp (disch := omega) [c0, c1])); first | (refine hKK _ _ _ ?_; clear hKK KK; simp only [thenA, blockA, reduceIte]) | skip)
      | (refine AWP.draw' mixd (by rfl) (by kernel_rfl) (fun KK tab hKK htab => ?_); (repeat (simp (disch := omega) [c0, c1])); first | (refine dEnd_ro ?_ (hKK _ _ _ ?_); (focus (simp; done)); clear htab tab hKK KK; simp only [thenA, blockA, reduceIte]) | (refine dEnd_of ?_ (hKK _ _ _ ?_); (focus (simp only [List.reverse_cons, List.reverse_nil, List.nil_append, List.cons_append, memA, mem1, and_true, true_and]; (repeat' apply And.intro); (all_goals (first | trivial | (refine .inr ⟨?_, ?_⟩ <;> (simp; done)) | (refine .inr ⟨?_, ?_⟩ <;> (simp <;> omega)) | (refine .inl ?_; rw [htab]; kernel_rfl))); done)); clear htab tab hKK KK; simp only [thenA, blockA, reduceIte]) | skip)
      | (refine AWP.if_t ?_ ?_; focus (simp (disch := omega) [c0, c1]; done))
      | (refine AWP.if_f ?_ ?_; focus (simp (disch := omega) [c0, c1]; done)))
    refine ⟨by simp, ?_⟩
    have hres : Try.f77.results.toList = [.cell 2 62] := rfl
    rw [hres]
    simp (disch := omega) []
    refine fin1M (K + 1) (rdB (.sl bx ox bs.length capx zx) (q + 1)) (blkD (ds)) (by simp (disch := omega) only [upd_eq, upd_ne, del_ne, hrb]) rfl (low_rd hlo) (by simp (disch := omega) only [upd_eq, upd_ne, del_ne]) rfl (flatD _).low hrν ⟨ds, bd, q + 1, hgd.more (by omega), by omega, by omega, by omega, by omega, by simp [resO, ren, rens, rho], rfl⟩ (by omega) (by simp [resO, nms, nmss])

/-- The value that aValue draws, and where the reader stands behind it. -/
def av0 (bs : List Int) (p : Int) : Int := iAt [pk bs p 64, 1, 3, 7, 0, 63, 5, 2048] (pk bs (p + 1) 8)
def avM (bs : List Int) (p m : Int) : List Int := [bothI (av0 bs p) m, m, bothI (av0 bs p) m, bothI (av0 bs p) m]
def avF (bs : List Int) (p : Int) (ds : List Df) (bd : Int) : Int × Int :=
  if okFl ds bd = true then
    if 0 < pk bs (p + 2) 6 then
      if bd = 3 then if pk bs (p + 3) 2 = 0 then (av0 bs p, p + 4) else (iAt (avM bs p (mkN ds)) (pk bs (p + 4) 4), p + 5)
      else (iAt (avM bs p (mkN ds)) (pk bs (p + 3) 4), p + 4)
    else (iAt [av0 bs p, -1, 4096, av0 bs p] (pk bs (p + 3) 4), p + 4)
  else (iAt [av0 bs p, -1, 4096, av0 bs p] (pk bs (p + 2) 4), p + 3)
theorem av0_bd {bs : List Int} (h8 : Code8 bs) {p : Int} (hp : 0 ≤ p ∧ p ≤ 100000) : 0 ≤ av0 bs p ∧ av0 bs p ≤ 2048 := by
  have h1 := pk_bd h8 (p := p) (n := 64) (by omega) (by omega)
  have h2 := pk_bd h8 (p := p + 1) (n := 8) (by omega) (by omega)
  have hv := iAt_mem (l := [pk bs p 64, 1, 3, 7, 0, 63, 5, 2048]) h2.1 h2.2
  unfold av0
  simp only [List.mem_cons, List.not_mem_nil, or_false] at hv
  omega
theorem avF_bd {bs : List Int} (h8 : Code8 bs) {p : Int} (hp : 0 ≤ p ∧ p ≤ 90000) (ds : List Df) (bd : Int) : -1 ≤ (avF bs p ds bd).1 ∧ (avF bs p ds bd).1 ≤ 4096 ∧ p ≤ (avF bs p ds bd).2 ∧ (avF bs p ds bd).2 ≤ p + 5 := by
  have h0 := av0_bd h8 (p := p) (by omega)
  have hA : ∀ j, 0 ≤ j → j < 4 → okFl ds bd = true → 0 ≤ iAt (avM bs p (mkN ds)) j ∧ iAt (avM bs p (mkN ds)) j ≤ 4095 := fun j j0 j1 hok => by
    have hm := okFl_lt hok
    have hb := bothI_bd (av0 bs p) (mkN ds)
    have hv := iAt_mem (l := avM bs p (mkN ds)) j0 j1
    simp only [avM, List.mem_cons, List.not_mem_nil, or_false] at hv ⊢
    omega
  have hB : ∀ j, 0 ≤ j → j < 4 → -1 ≤ iAt [av0 bs p, -1, 4096, av0 bs p] j ∧ iAt [av0 bs p, -1, 4096, av0 bs p] j ≤ 4096 := fun j j0 j1 => by
    have hv := iAt_mem (l := [av0 bs p, -1, 4096, av0 bs p]) j0 j1
    simp only [List.mem_cons, List.not_mem_nil, or_false] at hv
    omega
  have k2 := pk_bd h8 (p := p + 2) (n := 4) (by omega) (by omega)
  have k3 := pk_bd h8 (p := p + 3) (n := 4) (by omega) (by omega)
  have k4 := pk_bd h8 (p := p + 4) (n := 4) (by omega) (by omega)
  unfold avF
  split
  · rename_i hok
    have a3 := hA _ k3.1 k3.2 hok
    have a4 := hA _ k4.1 k4.2 hok
    have b3 := hB _ k3.1 k3.2
    split
    · split
      · split
        · simp only; omega
        · simp only; omega
      · simp only; omega
    · simp only; omega
  · have b2 := hB _ k2.1 k2.2
    simp only; omega

def GotFV (ν rb : Nat) (x : AV) (p : Int) (r : AV) (δ : Sto) : Prop := ∃ (ds : List Df) (bd v q : Int), Gd ds 13 ∧ -1 ≤ bd ∧ bd ≤ 4 ∧ -1 ≤ v ∧ v ≤ 4096 ∧ p ≤ q ∧ q ≤ p + 120 ∧ r = .tup [.agg [.sl ν 0 ds.length none 2, .v (.int .i64 bd)], .v (.int .i64 v)] ∧ δ = upd (upd noS rb (rdB x q)) ν (blkD ds)
def GotFVV (ν rb : Nat) (x : AV) (p : Int) (r : AV) (δ : Sto) : Prop := ∃ (ds : List Df) (bd v w q : Int), Gd ds 13 ∧ -1 ≤ bd ∧ bd ≤ 4 ∧ -1 ≤ v ∧ v ≤ 4096 ∧ -1 ≤ w ∧ w ≤ 4096 ∧ p ≤ q ∧ q ≤ p + 130 ∧ r = .tup [.agg [.sl ν 0 ds.length none 2, .v (.int .i64 bd)], .v (.int .i64 v), .v (.int .i64 w)] ∧ δ = upd (upd noS rb (rdB x q)) ν (blkD ds)
end Go.Proofs.Ytgaiemhbllbaiaa
