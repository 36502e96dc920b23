/- Contracts of the generators: lists of arms. No condition. -/
import Derived.Test.YtbdehnjbglpfjaaA9
set_option linter.unusedSimpArgs false
set_option linter.unusedVariables false
namespace Go.Proofs.Ytbdehnjbglpfjaa
open Go Go.RowKit

/-- One arm of a list, and where the reader stands behind it. -/
def s1F (bs : List Int) (ds : List Df) (q : Int) : Ar × Int :=
  if pk bs (q + (sgL ds).length) 2 = 0 then ((iAt [(anA bs q ds).1, 0] (pk bs (q + (sgL ds).length + 1) 2), iAt [(anA bs q ds).2, 0] (pk bs (q + (sgL ds).length + 1 + 1) 2)), q + (sgL ds).length + 1 + 1 + 1)
  else (anA bs q ds, q + (sgL ds).length + 1)
theorem s1F_bd {bs : List Int} (h8 : Code8 bs) (ds : List Df) {q : Int} (hq : 0 ≤ q ∧ q ≤ 90000) : ArmR (s1F bs ds q).1.1 ∧ ArmR (s1F bs ds q).1.2 ∧ q ≤ (s1F bs ds q).2 ∧ (s1F bs ds q).2 ≤ q + 15 := by
  have h := anA_bd bs q ds
  have hl := (sgL_ok ds).1
  have k1 := pk_bd h8 (p := q + (sgL ds).length + 1) (n := 2) (by omega) (by omega)
  have k2 := pk_bd h8 (p := q + (sgL ds).length + 1 + 1) (n := 2) (by omega) (by omega)
  have v1 := iAt_mem (l := [(anA bs q ds).1, 0]) k1.1 k1.2
  have v2 := iAt_mem (l := [(anA bs q ds).2, 0]) k2.1 k2.2
  simp only [List.mem_cons, List.not_mem_nil, or_false] at v1 v2
  unfold s1F ArmR
  split
  · simp only; omega
  · simp only; omega
def smF (bs : List Int) (ds : List Df) (p : Int) : Nat → List Ar × Int
  | 0 => ([], p)
  | k + 1 => ((smF bs ds p k).1 ++ [(s1F bs ds (smF bs ds p k).2).1], (s1F bs ds (smF bs ds p k).2).2)
theorem smF_bd {bs : List Int} (h8 : Code8 bs) (ds : List Df) {p : Int} (hp : 0 ≤ p ∧ p ≤ 80000) : ∀ k, k ≤ 6 → (smF bs ds p k).1.length = k ∧ (∀ e ∈ (smF bs ds p k).1, ArmR e.1 ∧ ArmR e.2) ∧ p ≤ (smF bs ds p k).2 ∧ (smF bs ds p k).2 ≤ p + 15 * k
  | 0, _ => by simp [smF]
  | k + 1, hk => by
    obtain ⟨i1, i2, i3, i4⟩ := smF_bd h8 ds hp k (by omega)
    obtain ⟨j1, j2, j3, j4⟩ := s1F_bd h8 ds (q := (smF bs ds p k).2) (by omega)
    unfold smF
    refine ⟨by simp [i1], fun e he => ?_, ?_, ?_⟩
    · rcases List.mem_append.1 he with he | he
      · exact i2 e he
      · have : e = (s1F bs ds (smF bs ds p k).2).1 := by simpa using he
        subst this
        exact ⟨j1, j2⟩
    · simp only; omega
    · simp only; omega
def smN (bs : List Int) (p : Int) : Nat := (iAt [3, 2, 4, 1, 0, 6] (pk bs p 6)).toNat
def smA (bs : List Int) (p : Int) (ds : List Df) : List Ar × Int :=
  if pk bs (smF bs ds (p + 1) (smN bs p)).2 20 = 0 then ((smF bs ds (p + 1) (smN bs p)).1 ++ [(saF bs ((smF bs ds (p + 1) (smN bs p)).2 + 1) ds).1], (saF bs ((smF bs ds (p + 1) (smN bs p)).2 + 1) ds).2)
  else ((smF bs ds (p + 1) (smN bs p)).1, (smF bs ds (p + 1) (smN bs p)).2 + 1)
theorem smN_bd {bs : List Int} (h8 : Code8 bs) {p : Int} (hp : 0 ≤ p ∧ p ≤ 90000) : smN bs p ≤ 6 ∧ ((smN bs p : Nat) : Int) = iAt [3, 2, 4, 1, 0, 6] (pk bs p 6) := by
  have k1 := pk_bd h8 (p := p) (n := 6) (by omega) (by omega)
  have v1 := iAt_mem (l := [3, 2, 4, 1, 0, 6]) k1.1 k1.2
  simp only [List.mem_cons, List.not_mem_nil, or_false] at v1
  unfold smN
  omega
theorem smA_bd {bs : List Int} (h8 : Code8 bs) {p : Int} (hp : 0 ≤ p ∧ p ≤ 70000) (ds : List Df) : (smA bs p ds).1.length ≤ 7 ∧ (∀ e ∈ (smA bs p ds).1, ArmR e.1 ∧ ArmR e.2) ∧ p ≤ (smA bs p ds).2 ∧ (smA bs p ds).2 ≤ p + 120 := by
  have hn := (smN_bd h8 (p := p) (by omega)).1
  obtain ⟨i1, i2, i3, i4⟩ := smF_bd h8 ds (p := p + 1) (by omega) _ hn
  obtain ⟨b1, b2, b3, b4, b5, b6⟩ := saF_bd h8 (p := (smF bs ds (p + 1) (smN bs p)).2 + 1) (by omega) ds
  unfold smA
  split
  · refine ⟨by simp [i1]; omega, fun e he => ?_, ?_, ?_⟩
    · rcases List.mem_append.1 he with he | he
      · exact i2 e he
      · have : e = (saF bs ((smF bs ds (p + 1) (smN bs p)).2 + 1) ds).1 := by simpa using he
        subst this
        exact ⟨⟨by omega, by omega⟩, by omega, by omega⟩
    · simp only; omega
    · simp only; omega
  · exact ⟨by simp only; omega, i2, by simp only; omega, by simp only; omega⟩

set_option maxRecDepth 10000 in
set_option maxHeartbeats 8000000 in
theorem someArms_c (σ : Sto) (ν rb : Nat) (x : AV) (b2 o2 z2 : Nat) (cap2 : Option Nat) (bs : List Int) (p : Int) (ds : List Df) (bd : Int) (hb : σ rb = some (rdB x p)) (hx : Sl σ x 1 (rowsB bs)) (h8 : Code8 bs) (hp : 0 ≤ p ∧ p ≤ 70000) (hy : Sl σ (.sl b2 o2 ds.length cap2 z2) 2 (rowsD ds)) (hbr : b2 ≠ rb) (hlen : ds.length ≤ 4294967296) :
    AC Try.prog 95 [.ptr rb 0 0, .agg [.sl b2 o2 ds.length cap2 z2, .v (.int .i64 bd)]] σ ν fun r δ => r = .sl ν 0 (smA bs p ds).1.length none 2 ∧ δ = upd (upd noS rb (rdB x (smA bs p ds).2)) ν (blkA (smA bs p ds).1) := by
  obtain ⟨bx, ox, capx, zx, rfl⟩ := hx.out
  simp only [rowsB_len] at hx hb ⊢
  refine AC.intro [rb] ent_95 Try.func95 rfl (by simp [Try.f95]) (by simp [hb]) ?_
  intro K s hs hB hn hν hA hFr
  simp only [argT, Nat.zero_add, Nat.reduceAdd]
  have hrb : s rb = some (rdB (.sl bx ox bs.length capx zx) p) := by rw [hs rb, hb]; simp
  obtain ⟨hrK, hlo⟩ := hB rb _ hrb
  have hx' := hx.vw hs.vw
  have hrν : rb ≠ ν := fun e => by rw [e] at hb; rw [hFr.1] at hb; cases hb
  have hy' := hy.vw hs.vw
  have hgl := (sgL_ok ds).1
  obtain ⟨hn6, hnI⟩ := smN_bd h8 (p := p) (by omega)
  have hres0 : smA bs p ds = if pk bs (smF bs ds (p + 1) (smN bs p)).2 20 = 0 then ((smF bs ds (p + 1) (smN bs p)).1 ++ [(saF bs ((smF bs ds (p + 1) (smN bs p)).2 + 1) ds).1], (saF bs ((smF bs ds (p + 1) (smN bs p)).2 + 1) ds).2) else ((smF bs ds (p + 1) (smN bs p)).1, (smF bs ds (p + 1) (smN bs p)).2 + 1) := rfl
  have hcase : bx < K ∨ bs = [] := by
    rcases List.eq_nil_or_concat bs with h | ⟨l, a, h⟩
    · exact .inr h
    · have hl0 : 0 < bs.length := by rw [h]; simp
      obtain ⟨_, _, kb, hkb, _⟩ := hx'.at (i := 0) (by rw [rowsB_len]; exact hl0)
      exact .inl (hB bx _ hkb).1
  repeat' (first
    | refine AWP.seq ?_
    | refine AWP.block ?_
    | (refine AWP.skip ?_; simp only [thenA, blockA, reduceIte])
    | (refine AWP.exit ?_; simp only [thenA, blockA, eq_self, reduceIte, Nat.reduceEqDiff, Nat.succ_ne_zero])
    | (refine AWP.ret ?_; simp only [thenA, blockA, reduceIte])
    | (refine AWP.region (by rfl) (fun KK hKK => ?_); (repeat (simp (disch := omega) [])); first | (refine hKK _ _ _ ?_; clear hKK KK; simp only [thenA, blockA, reduceIte]) | skip)
    | (refine AWP.draw' mixd (by rfl) (by kernel_rfl) (fun KK tab hKK htab => ?_); (repeat (simp (disch := omega) [])); first | (refine dEnd_ro ?_ (hKK _ _ _ ?_); (focus (simp; done)); clear htab tab hKK KK; simp only [thenA, blockA, reduceIte]) | (refine dEnd_of ?_ (hKK _ _ _ ?_); (focus (simp only [List.reverse_cons, List.reverse_nil, List.nil_append, List.cons_append, memA, mem1, and_true, true_and]; (repeat' apply And.intro); (all_goals (first | trivial | (refine .inr ⟨?_, ?_⟩ <;> (simp; done)) | (refine .inr ⟨?_, ?_⟩ <;> (simp <;> omega)) | (refine .inl ?_; rw [htab]; kernel_rfl))); done)); clear htab tab hKK KK; simp only [thenA, blockA, reduceIte]) | skip)
    | (refine AWP.if_t ?_ ?_; focus (simp (disch := omega) []; done))
    | (refine AWP.if_f ?_ ?_; focus (simp (disch := omega) []; done)))
  refine aStop_of (one_c _ _ rb _ _ bs p [3, 2, 4, 1, 0, 6] (by simp (disch := omega) only [upd_eq, upd_ne, del_ne, hrb]) (hx'.ovb hrb (fun c kc hc h => by have := (hB c kc h).1; first | exact h | (simp (disch := omega) only [upd_ne, del_ne]; exact h))) h8 (by omega) (Sl.whole (t := 3) (r := true) (by simp only [upd_eq]; rfl) rfl) (by decide) (by decide)) ?_
  rintro r δ ⟨rfl, rfl⟩
  (repeat (simp (disch := omega) []))
  first | (refine hKK _ _ _ ?_; clear hKK KK; simp only [thenA, blockA, reduceIte]) | skip
  generalize hn0 : smN bs p = n0 at *
  rw [← hnI]
  repeat' (first
    | refine AWP.seq ?_
    | refine AWP.block ?_
    | (refine AWP.skip ?_; simp only [thenA, blockA, reduceIte])
    | (refine AWP.exit ?_; simp only [thenA, blockA, eq_self, reduceIte, Nat.reduceEqDiff, Nat.succ_ne_zero])
    | (refine AWP.ret ?_; simp only [thenA, blockA, reduceIte])
    | (refine AWP.region (by rfl) (fun KK hKK => ?_); (repeat (simp (disch := omega) [])); first | (refine hKK _ _ _ ?_; clear hKK KK; simp only [thenA, blockA, reduceIte]) | skip)
    | (refine AWP.draw' mixd (by rfl) (by kernel_rfl) (fun KK tab hKK htab => ?_); (repeat (simp (disch := omega) [])); first | (refine dEnd_ro ?_ (hKK _ _ _ ?_); (focus (simp; done)); clear htab tab hKK KK; simp only [thenA, blockA, reduceIte]) | (refine dEnd_of ?_ (hKK _ _ _ ?_); (focus (simp only [List.reverse_cons, List.reverse_nil, List.nil_append, List.cons_append, memA, mem1, and_true, true_and]; (repeat' apply And.intro); (all_goals (first | trivial | (refine .inr ⟨?_, ?_⟩ <;> (simp; done)) | (refine .inr ⟨?_, ?_⟩ <;> (simp <;> omega)) | (refine .inl ?_; rw [htab]; kernel_rfl))); done)); clear htab tab hKK KK; simp only [thenA, blockA, reduceIte]) | skip)
    | (refine AWP.if_t ?_ ?_; focus (simp (disch := omega) []; done))
    | (refine AWP.if_f ?_ ?_; focus (simp (disch := omega) []; done)))
  refine AWP.weak (Weak.virt 5 27 2 0 0 0 (by simp) (by omega)) ?_
  refine AWP.loop (fun n τ σ' M => ∃ (k : Nat) (m : Int) (cb : Nat), k ≤ n0 ∧ n = n0 - k ∧ m = n0 - k ∧ τ = [(0, .ptr rb 0 0), (3, .ptr K 0 0), (5, .sl cb 0 (smF bs ds (p + 1) k).1.length none 2), (6, .v (.int .i64 m))] ∧
    σ' rb = some (rdB (.sl bx ox bs.length capx zx) (smF bs ds (p + 1) k).2) ∧ σ' K = some ⟨25, 2, [[.sl b2 o2 ds.length cap2 z2, .v (.int .i64 bd)]], true⟩ ∧ σ' cb = some (blkA (smF bs ds (p + 1) k).1) ∧ K < cb ∧ cb < M ∧ ∀ c kc, c < K → c ≠ rb → s c = some kc → σ' c = some kc)
    ⟨_, _, _, _, ⟨0, n0, K + 1 + 1 + 2, by omega, rfl, by omega, rfl, by simp (disch := omega) only [upd_eq, upd_ne]; rfl, by simp (disch := omega) only [upd_eq, upd_ne], by simp only [upd_eq]; rfl, by omega, by omega, fun c kc hc hc2 hk => by simp (disch := omega) only [upd_ne]; exact hk⟩, Weak.tau (by simp [LQ, smF])⟩ ?_
  rintro n τ σ1 M ⟨k, m, cb, hk, rfl, hm, rfl, h1, h2, h3, hc1, hc2, hov⟩
  obtain ⟨i1, i2, i3, i4⟩ := smF_bd h8 ds (p := p + 1) (by omega) k (by omega)
  have hz1 : ((smF bs ds (p + 1) k).1.length + 1) * 16 ≤ 140737488355328 := by omega
  have hz2 : (smF bs ds (p + 1) k).1.length + 1 ≤ 4611686018427387904 := by omega
  by_cases hlt : k < n0
  · have hm0 : 0 < m := by omega
    have hs0 : smF bs ds (p + 1) (k + 1) = ((smF bs ds (p + 1) k).1 ++ [(s1F bs ds (smF bs ds (p + 1) k).2).1], (s1F bs ds (smF bs ds (p + 1) k).2).2) := rfl
    generalize smF bs ds (p + 1) k = w at *
    obtain ⟨l, q⟩ := w
    simp only at h1 h3 i1 i3 i4 hz1 hz2 hs0 ⊢
    have hs1 : s1F bs ds q = if pk bs (q + (sgL ds).length) 2 = 0 then ((iAt [(anA bs q ds).1, 0] (pk bs (q + (sgL ds).length + 1) 2), iAt [(anA bs q ds).2, 0] (pk bs (q + (sgL ds).length + 1 + 1) 2)), q + (sgL ds).length + 1 + 1 + 1) else (anA bs q ds, q + (sgL ds).length + 1) := rfl
    repeat' (first
      | refine AWP.seq ?_
      | refine AWP.block ?_
      | (refine AWP.skip ?_; simp only [thenA, blockA, reduceIte])
      | (refine AWP.exit ?_; simp only [thenA, blockA, eq_self, reduceIte, Nat.reduceEqDiff, Nat.succ_ne_zero])
      | (refine AWP.ret ?_; simp only [thenA, blockA, reduceIte])
      | (refine AWP.region (by rfl) (fun KK hKK => ?_); (repeat (simp (disch := omega) [hm0, h2])); first | (refine hKK _ _ _ ?_; clear hKK KK; simp only [thenA, blockA, reduceIte]) | skip)
      | (refine AWP.draw' mixd (by rfl) (by kernel_rfl) (fun KK tab hKK htab => ?_); (repeat (simp (disch := omega) [hm0, h2])); first | (refine dEnd_ro ?_ (hKK _ _ _ ?_); (focus (simp; done)); clear htab tab hKK KK; simp only [thenA, blockA, reduceIte]) | (refine dEnd_of ?_ (hKK _ _ _ ?_); (focus (simp only [List.reverse_cons, List.reverse_nil, List.nil_append, List.cons_append, memA, mem1, and_true, true_and]; (repeat' apply And.intro); (all_goals (first | trivial | (refine .inr ⟨?_, ?_⟩ <;> (simp; done)) | (refine .inr ⟨?_, ?_⟩ <;> (simp <;> omega)) | (refine .inl ?_; rw [htab]; kernel_rfl))); done)); clear htab tab hKK KK; simp only [thenA, blockA, reduceIte]) | skip)
      | (refine AWP.if_t ?_ ?_; focus (simp (disch := omega) [hm0, h2]; done))
      | (refine AWP.if_f ?_ ?_; focus (simp (disch := omega) [hm0, h2]; done)))
    refine aStop_of (anArm_c _ _ rb _ b2 o2 z2 cap2 bs q ds bd (by simp (disch := omega) only [upd_eq, upd_ne, del_ne, h1]) (hx'.ovb hrb (fun c kc hc h => by have := (hB c kc h).1; have h2 := hov c kc this hc h; first | exact h2 | (simp (disch := omega) only [upd_ne, del_ne]; exact h2))) h8 (by omega) (hy'.ovo hbr (fun c kc hc h => by have := (hB c kc h).1; have h2 := hov c kc this hc h; first | exact h2 | (simp (disch := omega) only [upd_ne, del_ne]; exact h2))) hbr hlen) ?_
    rintro r δ ⟨rfl, rfl⟩
    (repeat (simp (disch := omega) []))
    first | (refine hKK _ _ _ ?_; clear hKK KK; simp only [thenA, blockA, reduceIte]) | skip
    generalize hSg : ((sgL ds).length : Int) = g at *
    have hg0 : 0 ≤ g ∧ g ≤ 12 := by omega
    generalize anA bs q ds = a0 at *
    repeat' (first
      | refine AWP.seq ?_
      | refine AWP.block ?_
      | (refine AWP.skip ?_; simp only [thenA, blockA, reduceIte])
      | (refine AWP.exit ?_; simp only [thenA, blockA, eq_self, reduceIte, Nat.reduceEqDiff, Nat.succ_ne_zero])
      | (refine AWP.ret ?_; simp only [thenA, blockA, reduceIte])
      | (refine AWP.region (by rfl) (fun KK hKK => ?_); (repeat (simp (disch := omega) [])); first | (refine hKK _ _ _ ?_; clear hKK KK; simp only [thenA, blockA, reduceIte]) | skip)
      | (refine AWP.draw' mixd (by rfl) (by kernel_rfl) (fun KK tab hKK htab => ?_); (repeat (simp (disch := omega) [])); first | (refine dEnd_ro ?_ (hKK _ _ _ ?_); (focus (simp; done)); clear htab tab hKK KK; simp only [thenA, blockA, reduceIte]) | (refine dEnd_of ?_ (hKK _ _ _ ?_); (focus (simp only [List.reverse_cons, List.reverse_nil, List.nil_append, List.cons_append, memA, mem1, and_true, true_and]; (repeat' apply And.intro); (all_goals (first | trivial | (refine .inr ⟨?_, ?_⟩ <;> (simp; done)) | (refine .inr ⟨?_, ?_⟩ <;> (simp <;> omega)) | (refine .inl ?_; rw [htab]; kernel_rfl))); done)); clear htab tab hKK KK; simp only [thenA, blockA, reduceIte]) | skip)
      | (refine AWP.if_t ?_ ?_; focus (simp (disch := omega) []; done))
      | (refine AWP.if_f ?_ ?_; focus (simp (disch := omega) []; done)))
    by_cases c0 : pk bs (q + g) 2 = 0
    · rw [if_pos c0] at hs1
      rw [hs1] at hs0
      have hsn := hs0
      refine aStop_of (pick_c _ _ rb _ bs (q + g) 2 (by simp (disch := omega) only [upd_eq, upd_ne, del_ne, h1]) (hx'.ovb hrb (fun c kc hc h => by have := (hB c kc h).1; have h2 := hov c kc this hc h; first | exact h2 | (simp (disch := omega) only [upd_ne, del_ne]; exact h2))) h8 (by omega)) ?_
      rintro r δ ⟨rfl, rfl⟩
      (repeat (simp (disch := omega) [c0]))
      first | (refine hKK _ _ _ ?_; clear hKK KK; simp only [thenA, blockA, reduceIte]) | skip
      rcases hcase with hbxK | hbs
      · repeat' (first
          | refine AWP.seq ?_
          | refine AWP.block ?_
          | (refine AWP.skip ?_; simp only [thenA, blockA, reduceIte])
          | (refine AWP.exit ?_; simp only [thenA, blockA, eq_self, reduceIte, Nat.reduceEqDiff, Nat.succ_ne_zero])
          | (refine AWP.ret ?_; simp only [thenA, blockA, reduceIte])
          | (refine AWP.region (by rfl) (fun KK hKK => ?_); (repeat (simp (disch := omega) [c0])); first | (refine hKK _ _ _ ?_; clear hKK KK; simp only [thenA, blockA, reduceIte]) | skip)
          | (refine AWP.draw' mixd (by rfl) (by kernel_rfl) (fun KK tab hKK htab => ?_); (repeat (simp (disch := omega) [c0])); first | (refine dEnd_ro ?_ (hKK _ _ _ ?_); (focus (simp; done)); clear htab tab hKK KK; simp only [thenA, blockA, reduceIte]) | (refine dEnd_of ?_ (hKK _ _ _ ?_); (focus (simp only [List.reverse_cons, List.reverse_nil, List.nil_append, List.cons_append, memA, mem1, and_true, true_and]; (repeat' apply And.intro); (all_goals (first | trivial | (refine .inr ⟨?_, ?_⟩ <;> (simp; done)) | (refine .inr ⟨?_, ?_⟩ <;> (simp <;> omega)) | (refine .inl ?_; rw [htab]; kernel_rfl))); done)); clear htab tab hKK KK; simp only [thenA, blockA, reduceIte]) | skip)
          | (refine AWP.if_t ?_ ?_; focus (simp (disch := omega) [c0]; done))
          | (refine AWP.if_f ?_ ?_; focus (simp (disch := omega) [c0]; done)))
        refine dStop_modF [rb, M + 2 + 1 + 2 + 6, bx] rb (fun σ' hσ' => one_c σ' _ rb _ _ bs (q + g + 1) [a0.1, 0] ((hσ' _ (by simp)).trans (by simp (disch := omega) only [upd_eq, upd_ne, del_ne, h1])) ((hx'.ovb hrb (fun c kc hc h => by have := (hB c kc h).1; have h2 := hov c kc this hc h; first | exact h2 | (simp (disch := omega) only [upd_ne, del_ne]; exact h2))).on (hσ' _ (by simp))) h8 (by omega) (Sl.whole (t := 3) (r := true) ((hσ' _ (by simp)).trans (by simp (disch := omega) only [upd_eq, upd_ne]; rfl)) rfl) (by simp) (by simp)) ?_
        (repeat (simp (disch := omega) []))
        first | (refine dEnd_ro ?_ (hKK _ _ _ ?_); (focus (simp; done)); clear htab tab hKK KK; simp only [thenA, blockA, reduceIte]) | (refine dEnd_of ?_ (hKK _ _ _ ?_); (focus (simp only [List.reverse_cons, List.reverse_nil, List.nil_append, List.cons_append, memA, mem1, and_true, true_and]; (repeat' apply And.intro); (all_goals (first | trivial | (refine .inr ⟨?_, ?_⟩ <;> (simp; done)) | (refine .inr ⟨?_, ?_⟩ <;> (simp <;> omega)) | (refine .inl ?_; rw [htab]; kernel_rfl))); done)); clear htab tab hKK KK; simp only [thenA, blockA, reduceIte]) | skip
        refine dStop_modF [rb, M + 2 + 1 + 2 + 16, bx] rb (fun σ' hσ' => one_c σ' _ rb _ _ bs (q + g + 1 + 1) [a0.2, 0] ((hσ' _ (by simp)).trans (by simp (disch := omega) only [upd_eq, upd_ne, del_ne, h1])) ((hx'.ovb hrb (fun c kc hc h => by have := (hB c kc h).1; have h2 := hov c kc this hc h; first | exact h2 | (simp (disch := omega) only [upd_ne, del_ne]; exact h2))).on (hσ' _ (by simp))) h8 (by omega) (Sl.whole (t := 3) (r := true) ((hσ' _ (by simp)).trans (by simp (disch := omega) only [upd_eq, upd_ne]; rfl)) rfl) (by simp) (by simp)) ?_
        (repeat (simp (disch := omega) []))
        first | (refine dEnd_ro ?_ (hKK _ _ _ ?_); (focus (simp; done)); clear htab tab hKK KK; simp only [thenA, blockA, reduceIte]) | (refine dEnd_of ?_ (hKK _ _ _ ?_); (focus (simp only [List.reverse_cons, List.reverse_nil, List.nil_append, List.cons_append, memA, mem1, and_true, true_and]; (repeat' apply And.intro); (all_goals (first | trivial | (refine .inr ⟨?_, ?_⟩ <;> (simp; done)) | (refine .inr ⟨?_, ?_⟩ <;> (simp <;> omega)) | (refine .inl ?_; rw [htab]; kernel_rfl))); done)); clear htab tab hKK KK; simp only [thenA, blockA, reduceIte]) | skip
        repeat' (first
          | refine AWP.seq ?_
          | refine AWP.block ?_
          | (refine AWP.skip ?_; simp only [thenA, blockA, reduceIte])
          | (refine AWP.exit ?_; simp only [thenA, blockA, eq_self, reduceIte, Nat.reduceEqDiff, Nat.succ_ne_zero])
          | (refine AWP.ret ?_; simp only [thenA, blockA, reduceIte])
          | (refine AWP.region (by rfl) (fun KK hKK => ?_); (repeat (simp (disch := omega) [elems, rowsA_len, rowsA_snoc, rowsA_take, hz1, hz2, h3])); first | (refine hKK _ _ _ ?_; clear hKK KK; simp only [thenA, blockA, reduceIte]) | skip)
          | (refine AWP.draw' mixd (by rfl) (by kernel_rfl) (fun KK tab hKK htab => ?_); (repeat (simp (disch := omega) [elems, rowsA_len, rowsA_snoc, rowsA_take, hz1, hz2, h3])); first | (refine dEnd_ro ?_ (hKK _ _ _ ?_); (focus (simp; done)); clear htab tab hKK KK; simp only [thenA, blockA, reduceIte]) | (refine dEnd_of ?_ (hKK _ _ _ ?_); (focus (simp only [List.reverse_cons, List.reverse_nil, List.nil_append, List.cons_append, memA, mem1, and_true, true_and]; (repeat' apply And.intro); (all_goals (first | trivial | (refine .inr ⟨?_, ?_⟩ <;> (simp; done)) | (refine .inr ⟨?_, ?_⟩ <;> (simp <;> omega)) | (refine .inl ?_; rw [htab]; kernel_rfl))); done)); clear htab tab hKK KK; simp only [thenA, blockA, reduceIte]) | skip)
          | (refine AWP.if_t ?_ ?_; focus (simp (disch := omega) [elems, rowsA_len, rowsA_snoc, rowsA_take, hz1, hz2, h3]; done))
          | (refine AWP.if_f ?_ ?_; focus (simp (disch := omega) [elems, rowsA_len, rowsA_snoc, rowsA_take, hz1, hz2, h3]; done)))
        refine ⟨_, _, _, _, ?_, ⟨k + 1, m - 1, M + 2 + 1 + 2 + 24 + 1, by omega, rfl, by omega, rfl, by rw [hsn]; simp (disch := omega) only [upd_eq, upd_ne, del_ne], by simp (disch := omega) only [upd_eq, upd_ne, del_ne, h2], by rw [hsn]; simp (disch := omega) only [upd_eq, upd_ne, del_ne], by omega, by omega, fun c kc hc hc2 hk => by have hh := hov c kc hc hc2 hk; first | exact hh | (simp (disch := omega) only [upd_ne, del_ne]; exact hh)⟩, Weak.tau (by rw [hsn]; simp [LQ])⟩
        omega
      · have hy0 : ∀ σ' : Sto, Sl σ' (.sl bx ox bs.length capx zx) 1 (rowsB bs) := fun σ' => by
          subst hbs
          exact slE hx'
        repeat' (first
          | refine AWP.seq ?_
          | refine AWP.block ?_
          | (refine AWP.skip ?_; simp only [thenA, blockA, reduceIte])
          | (refine AWP.exit ?_; simp only [thenA, blockA, eq_self, reduceIte, Nat.reduceEqDiff, Nat.succ_ne_zero])
          | (refine AWP.ret ?_; simp only [thenA, blockA, reduceIte])
          | (refine AWP.region (by rfl) (fun KK hKK => ?_); (repeat (simp (disch := omega) [c0])); first | (refine hKK _ _ _ ?_; clear hKK KK; simp only [thenA, blockA, reduceIte]) | skip)
          | (refine AWP.draw' mixd (by rfl) (by kernel_rfl) (fun KK tab hKK htab => ?_); (repeat (simp (disch := omega) [c0])); first | (refine dEnd_ro ?_ (hKK _ _ _ ?_); (focus (simp; done)); clear htab tab hKK KK; simp only [thenA, blockA, reduceIte]) | (refine dEnd_of ?_ (hKK _ _ _ ?_); (focus (simp only [List.reverse_cons, List.reverse_nil, List.nil_append, List.cons_append, memA, mem1, and_true, true_and]; (repeat' apply And.intro); (all_goals (first | trivial | (refine .inr ⟨?_, ?_⟩ <;> (simp; done)) | (refine .inr ⟨?_, ?_⟩ <;> (simp <;> omega)) | (refine .inl ?_; rw [htab]; kernel_rfl))); done)); clear htab tab hKK KK; simp only [thenA, blockA, reduceIte]) | skip)
          | (refine AWP.if_t ?_ ?_; focus (simp (disch := omega) [c0]; done))
          | (refine AWP.if_f ?_ ?_; focus (simp (disch := omega) [c0]; done)))
        refine dStop_modF [rb, M + 2 + 1 + 2 + 6] rb (fun σ' hσ' => one_c σ' _ rb _ _ bs (q + g + 1) [a0.1, 0] ((hσ' _ (by simp)).trans (by simp (disch := omega) only [upd_eq, upd_ne, del_ne, h1])) (hy0 _) h8 (by omega) (Sl.whole (t := 3) (r := true) ((hσ' _ (by simp)).trans (by simp (disch := omega) only [upd_eq, upd_ne]; rfl)) rfl) (by simp) (by simp)) ?_
        (repeat (simp (disch := omega) []))
        first | (refine dEnd_ro ?_ (hKK _ _ _ ?_); (focus (simp; done)); clear htab tab hKK KK; simp only [thenA, blockA, reduceIte]) | (refine dEnd_of ?_ (hKK _ _ _ ?_); (focus (simp only [List.reverse_cons, List.reverse_nil, List.nil_append, List.cons_append, memA, mem1, and_true, true_and]; (repeat' apply And.intro); (all_goals (first | trivial | (refine .inr ⟨?_, ?_⟩ <;> (simp; done)) | (refine .inr ⟨?_, ?_⟩ <;> (simp <;> omega)) | (refine .inl ?_; rw [htab]; kernel_rfl))); done)); clear htab tab hKK KK; simp only [thenA, blockA, reduceIte]) | skip
        refine dStop_modF [rb, M + 2 + 1 + 2 + 16] rb (fun σ' hσ' => one_c σ' _ rb _ _ bs (q + g + 1 + 1) [a0.2, 0] ((hσ' _ (by simp)).trans (by simp (disch := omega) only [upd_eq, upd_ne, del_ne, h1])) (hy0 _) h8 (by omega) (Sl.whole (t := 3) (r := true) ((hσ' _ (by simp)).trans (by simp (disch := omega) only [upd_eq, upd_ne]; rfl)) rfl) (by simp) (by simp)) ?_
        (repeat (simp (disch := omega) []))
        first | (refine dEnd_ro ?_ (hKK _ _ _ ?_); (focus (simp; done)); clear htab tab hKK KK; simp only [thenA, blockA, reduceIte]) | (refine dEnd_of ?_ (hKK _ _ _ ?_); (focus (simp only [List.reverse_cons, List.reverse_nil, List.nil_append, List.cons_append, memA, mem1, and_true, true_and]; (repeat' apply And.intro); (all_goals (first | trivial | (refine .inr ⟨?_, ?_⟩ <;> (simp; done)) | (refine .inr ⟨?_, ?_⟩ <;> (simp <;> omega)) | (refine .inl ?_; rw [htab]; kernel_rfl))); done)); clear htab tab hKK KK; simp only [thenA, blockA, reduceIte]) | skip
        repeat' (first
          | refine AWP.seq ?_
          | refine AWP.block ?_
          | (refine AWP.skip ?_; simp only [thenA, blockA, reduceIte])
          | (refine AWP.exit ?_; simp only [thenA, blockA, eq_self, reduceIte, Nat.reduceEqDiff, Nat.succ_ne_zero])
          | (refine AWP.ret ?_; simp only [thenA, blockA, reduceIte])
          | (refine AWP.region (by rfl) (fun KK hKK => ?_); (repeat (simp (disch := omega) [elems, rowsA_len, rowsA_snoc, rowsA_take, hz1, hz2, h3])); first | (refine hKK _ _ _ ?_; clear hKK KK; simp only [thenA, blockA, reduceIte]) | skip)
          | (refine AWP.draw' mixd (by rfl) (by kernel_rfl) (fun KK tab hKK htab => ?_); (repeat (simp (disch := omega) [elems, rowsA_len, rowsA_snoc, rowsA_take, hz1, hz2, h3])); first | (refine dEnd_ro ?_ (hKK _ _ _ ?_); (focus (simp; done)); clear htab tab hKK KK; simp only [thenA, blockA, reduceIte]) | (refine dEnd_of ?_ (hKK _ _ _ ?_); (focus (simp only [List.reverse_cons, List.reverse_nil, List.nil_append, List.cons_append, memA, mem1, and_true, true_and]; (repeat' apply And.intro); (all_goals (first | trivial | (refine .inr ⟨?_, ?_⟩ <;> (simp; done)) | (refine .inr ⟨?_, ?_⟩ <;> (simp <;> omega)) | (refine .inl ?_; rw [htab]; kernel_rfl))); done)); clear htab tab hKK KK; simp only [thenA, blockA, reduceIte]) | skip)
          | (refine AWP.if_t ?_ ?_; focus (simp (disch := omega) [elems, rowsA_len, rowsA_snoc, rowsA_take, hz1, hz2, h3]; done))
          | (refine AWP.if_f ?_ ?_; focus (simp (disch := omega) [elems, rowsA_len, rowsA_snoc, rowsA_take, hz1, hz2, h3]; done)))
        refine ⟨_, _, _, _, ?_, ⟨k + 1, m - 1, M + 2 + 1 + 2 + 24 + 1, by omega, rfl, by omega, rfl, by rw [hsn]; simp (disch := omega) only [upd_eq, upd_ne, del_ne], by simp (disch := omega) only [upd_eq, upd_ne, del_ne, h2], by rw [hsn]; simp (disch := omega) only [upd_eq, upd_ne, del_ne], by omega, by omega, fun c kc hc hc2 hk => by have hh := hov c kc hc hc2 hk; first | exact hh | (simp (disch := omega) only [upd_ne, del_ne]; exact hh)⟩, Weak.tau (by rw [hsn]; simp [LQ])⟩
        omega
    · rw [if_neg c0] at hs1
      rw [hs1] at hs0
      have hsn := hs0
      refine aStop_of (pick_c _ _ rb _ bs (q + g) 2 (by simp (disch := omega) only [upd_eq, upd_ne, del_ne, h1]) (hx'.ovb hrb (fun c kc hc h => by have := (hB c kc h).1; have h2 := hov c kc this hc h; first | exact h2 | (simp (disch := omega) only [upd_ne, del_ne]; exact h2))) h8 (by omega)) ?_
      rintro r δ ⟨rfl, rfl⟩
      (repeat (simp (disch := omega) [c0]))
      first | (refine hKK _ _ _ ?_; clear hKK KK; simp only [thenA, blockA, reduceIte]) | skip
      repeat' (first
        | refine AWP.seq ?_
        | refine AWP.block ?_
        | (refine AWP.skip ?_; simp only [thenA, blockA, reduceIte])
        | (refine AWP.exit ?_; simp only [thenA, blockA, eq_self, reduceIte, Nat.reduceEqDiff, Nat.succ_ne_zero])
        | (refine AWP.ret ?_; simp only [thenA, blockA, reduceIte])
        | (refine AWP.region (by rfl) (fun KK hKK => ?_); (repeat (simp (disch := omega) [c0, elems, rowsA_len, rowsA_snoc, rowsA_take, hz1, hz2, h3])); first | (refine hKK _ _ _ ?_; clear hKK KK; simp only [thenA, blockA, reduceIte]) | skip)
        | (refine AWP.draw' mixd (by rfl) (by kernel_rfl) (fun KK tab hKK htab => ?_); (repeat (simp (disch := omega) [c0, elems, rowsA_len, rowsA_snoc, rowsA_take, hz1, hz2, h3])); first | (refine dEnd_ro ?_ (hKK _ _ _ ?_); (focus (simp; done)); clear htab tab hKK KK; simp only [thenA, blockA, reduceIte]) | (refine dEnd_of ?_ (hKK _ _ _ ?_); (focus (simp only [List.reverse_cons, List.reverse_nil, List.nil_append, List.cons_append, memA, mem1, and_true, true_and]; (repeat' apply And.intro); (all_goals (first | trivial | (refine .inr ⟨?_, ?_⟩ <;> (simp; done)) | (refine .inr ⟨?_, ?_⟩ <;> (simp <;> omega)) | (refine .inl ?_; rw [htab]; kernel_rfl))); done)); clear htab tab hKK KK; simp only [thenA, blockA, reduceIte]) | skip)
        | (refine AWP.if_t ?_ ?_; focus (simp (disch := omega) [c0, elems, rowsA_len, rowsA_snoc, rowsA_take, hz1, hz2, h3]; done))
        | (refine AWP.if_f ?_ ?_; focus (simp (disch := omega) [c0, elems, rowsA_len, rowsA_snoc, rowsA_take, hz1, hz2, h3]; done)))
      refine ⟨_, _, _, _, ?_, ⟨k + 1, m - 1, M + 2 + 1 + 2 + 1, by omega, rfl, by omega, rfl, by rw [hsn]; simp (disch := omega) only [upd_eq, upd_ne, del_ne], by simp (disch := omega) only [upd_eq, upd_ne, del_ne, h2], by rw [hsn]; simp (disch := omega) only [upd_eq, upd_ne, del_ne], by omega, by omega, fun c kc hc hc2 hk => by have hh := hov c kc hc hc2 hk; first | exact hh | (simp (disch := omega) only [upd_ne, del_ne]; exact hh)⟩, Weak.tau (by rw [hsn]; simp [LQ])⟩
      omega
  · have hkn : k = n0 := by omega
    subst hkn
    have hm0 : ¬ 0 < m := by omega
    generalize smF bs ds (p + 1) k = w at *
    obtain ⟨l, q⟩ := w
    simp only at h1 h3 i1 i3 i4 hz1 hz2 hres0 ⊢
    repeat' (first
      | refine AWP.seq ?_
      | refine AWP.block ?_
      | (refine AWP.skip ?_; simp only [thenA, blockA, reduceIte])
      | (refine AWP.exit ?_; simp only [thenA, blockA, eq_self, reduceIte, Nat.reduceEqDiff, Nat.succ_ne_zero])
      | (refine AWP.ret ?_; simp only [thenA, blockA, reduceIte])
      | (refine AWP.region (by rfl) (fun KK hKK => ?_); (repeat (simp (disch := omega) [hm0])); first | (refine hKK _ _ _ ?_; clear hKK KK; simp only [thenA, blockA, reduceIte]) | skip)
      | (refine AWP.draw' mixd (by rfl) (by kernel_rfl) (fun KK tab hKK htab => ?_); (repeat (simp (disch := omega) [hm0])); first | (refine dEnd_ro ?_ (hKK _ _ _ ?_); (focus (simp; done)); clear htab tab hKK KK; simp only [thenA, blockA, reduceIte]) | (refine dEnd_of ?_ (hKK _ _ _ ?_); (focus (simp only [List.reverse_cons, List.reverse_nil, List.nil_append, List.cons_append, memA, mem1, and_true, true_and]; (repeat' apply And.intro); (all_goals (first | trivial | (refine .inr ⟨?_, ?_⟩ <;> (simp; done)) | (refine .inr ⟨?_, ?_⟩ <;> (simp <;> omega)) | (refine .inl ?_; rw [htab]; kernel_rfl))); done)); clear htab tab hKK KK; simp only [thenA, blockA, reduceIte]) | skip)
      | (refine AWP.if_t ?_ ?_; focus (simp (disch := omega) [hm0]; done))
      | (refine AWP.if_f ?_ ?_; focus (simp (disch := omega) [hm0]; done)))
    by_cases c20 : pk bs q 20 = 0
    · rw [if_pos c20] at hres0
      refine aStop_of (pick_c _ _ rb _ bs q 20 (by simp (disch := omega) only [upd_eq, upd_ne, del_ne, h1]) (hx'.ovb hrb (fun c kc hc h => by have := (hB c kc h).1; have h2 := hov c kc this hc h; first | exact h2 | (simp (disch := omega) only [upd_ne, del_ne]; exact h2))) h8 (by omega)) ?_
      rintro r δ ⟨rfl, rfl⟩
      (repeat (simp (disch := omega) [c20]))
      first | (refine hKK _ _ _ ?_; clear hKK KK; simp only [thenA, blockA, reduceIte]) | skip
      repeat' (first
        | refine AWP.seq ?_
        | refine AWP.block ?_
        | (refine AWP.skip ?_; simp only [thenA, blockA, reduceIte])
        | (refine AWP.exit ?_; simp only [thenA, blockA, eq_self, reduceIte, Nat.reduceEqDiff, Nat.succ_ne_zero])
        | (refine AWP.ret ?_; simp only [thenA, blockA, reduceIte])
        | (refine AWP.region (by rfl) (fun KK hKK => ?_); (repeat (simp (disch := omega) [c20, h2])); first | (refine hKK _ _ _ ?_; clear hKK KK; simp only [thenA, blockA, reduceIte]) | skip)
        | (refine AWP.draw' mixd (by rfl) (by kernel_rfl) (fun KK tab hKK htab => ?_); (repeat (simp (disch := omega) [c20, h2])); first | (refine dEnd_ro ?_ (hKK _ _ _ ?_); (focus (simp; done)); clear htab tab hKK KK; simp only [thenA, blockA, reduceIte]) | (refine dEnd_of ?_ (hKK _ _ _ ?_); (focus (simp only [List.reverse_cons, List.reverse_nil, List.nil_append, List.cons_append, memA, mem1, and_true, true_and]; (repeat' apply And.intro); (all_goals (first | trivial | (refine .inr ⟨?_, ?_⟩ <;> (simp; done)) | (refine .inr ⟨?_, ?_⟩ <;> (simp <;> omega)) | (refine .inl ?_; rw [htab]; kernel_rfl))); done)); clear htab tab hKK KK; simp only [thenA, blockA, reduceIte]) | skip)
        | (refine AWP.if_t ?_ ?_; focus (simp (disch := omega) [c20, h2]; done))
        | (refine AWP.if_f ?_ ?_; focus (simp (disch := omega) [c20, h2]; done)))
      refine aStop_of (someArm_c _ _ rb _ b2 o2 z2 cap2 bs (q + 1) ds bd (by simp (disch := omega) only [upd_eq, upd_ne, del_ne, h1]) (hx'.ovb hrb (fun c kc hc h => by have := (hB c kc h).1; have h2 := hov c kc this hc h; first | exact h2 | (simp (disch := omega) only [upd_ne, del_ne]; exact h2))) h8 (by omega) (hy'.ovo hbr (fun c kc hc h => by have := (hB c kc h).1; have h2 := hov c kc this hc h; first | exact h2 | (simp (disch := omega) only [upd_ne, del_ne]; exact h2))) hbr hlen) ?_
      rintro r δ ⟨rfl, rfl⟩
      (repeat (simp (disch := omega) [elems, rowsA_len, rowsA_snoc, rowsA_take, hz1, hz2, h3]))
      first | (refine hKK _ _ _ ?_; clear hKK KK; simp only [thenA, blockA, reduceIte]) | skip
      repeat' (first
        | refine AWP.seq ?_
        | refine AWP.block ?_
        | (refine AWP.skip ?_; simp only [thenA, blockA, reduceIte])
        | (refine AWP.exit ?_; simp only [thenA, blockA, eq_self, reduceIte, Nat.reduceEqDiff, Nat.succ_ne_zero])
        | (refine AWP.ret ?_; simp only [thenA, blockA, reduceIte])
        | (refine AWP.region (by rfl) (fun KK hKK => ?_); (repeat (simp (disch := omega) [elems, rowsA_len, rowsA_snoc, rowsA_take, hz1, hz2, h3])); first | (refine hKK _ _ _ ?_; clear hKK KK; simp only [thenA, blockA, reduceIte]) | skip)
        | (refine AWP.draw' mixd (by rfl) (by kernel_rfl) (fun KK tab hKK htab => ?_); (repeat (simp (disch := omega) [elems, rowsA_len, rowsA_snoc, rowsA_take, hz1, hz2, h3])); first | (refine dEnd_ro ?_ (hKK _ _ _ ?_); (focus (simp; done)); clear htab tab hKK KK; simp only [thenA, blockA, reduceIte]) | (refine dEnd_of ?_ (hKK _ _ _ ?_); (focus (simp only [List.reverse_cons, List.reverse_nil, List.nil_append, List.cons_append, memA, mem1, and_true, true_and]; (repeat' apply And.intro); (all_goals (first | trivial | (refine .inr ⟨?_, ?_⟩ <;> (simp; done)) | (refine .inr ⟨?_, ?_⟩ <;> (simp <;> omega)) | (refine .inl ?_; rw [htab]; kernel_rfl))); done)); clear htab tab hKK KK; simp only [thenA, blockA, reduceIte]) | skip)
        | (refine AWP.if_t ?_ ?_; focus (simp (disch := omega) [elems, rowsA_len, rowsA_snoc, rowsA_take, hz1, hz2, h3]; done))
        | (refine AWP.if_f ?_ ?_; focus (simp (disch := omega) [elems, rowsA_len, rowsA_snoc, rowsA_take, hz1, hz2, h3]; done)))
      refine ⟨by simp, _, rfl, fin1M (M + 2 + 2 + 1) (rdB (.sl bx ox bs.length capx zx) ((saF bs (q + 1) ds).2)) (blkA (l ++ [(saF bs (q + 1) ds).1])) (by simp (disch := omega) only [upd_eq, upd_ne, del_ne, h1]) rfl (low_rd hlo) (by simp (disch := omega) only [upd_eq, upd_ne, del_ne, h3]) rfl (flatA _).low hrν ⟨?_, ?_⟩ (by omega) (by simp [resO, get, nms])⟩
      · rw [hres0]; simp [resO, get, ren, rho]
      · rw [hres0]
    · rw [if_neg c20] at hres0
      refine aStop_of (pick_c _ _ rb _ bs q 20 (by simp (disch := omega) only [upd_eq, upd_ne, del_ne, h1]) (hx'.ovb hrb (fun c kc hc h => by have := (hB c kc h).1; have h2 := hov c kc this hc h; first | exact h2 | (simp (disch := omega) only [upd_ne, del_ne]; exact h2))) h8 (by omega)) ?_
      rintro r δ ⟨rfl, rfl⟩
      (repeat (simp (disch := omega) [c20]))
      first | (refine hKK _ _ _ ?_; clear hKK KK; simp only [thenA, blockA, reduceIte]) | skip
      repeat' (first
        | refine AWP.seq ?_
        | refine AWP.block ?_
        | (refine AWP.skip ?_; simp only [thenA, blockA, reduceIte])
        | (refine AWP.exit ?_; simp only [thenA, blockA, eq_self, reduceIte, Nat.reduceEqDiff, Nat.succ_ne_zero])
        | (refine AWP.ret ?_; simp only [thenA, blockA, reduceIte])
        | (refine AWP.region (by rfl) (fun KK hKK => ?_); (repeat (simp (disch := omega) [c20])); first | (refine hKK _ _ _ ?_; clear hKK KK; simp only [thenA, blockA, reduceIte]) | skip)
        | (refine AWP.draw' mixd (by rfl) (by kernel_rfl) (fun KK tab hKK htab => ?_); (repeat (simp (disch := omega) [c20])); first | (refine dEnd_ro ?_ (hKK _ _ _ ?_); (focus (simp; done)); clear htab tab hKK KK; simp only [thenA, blockA, reduceIte]) | (refine dEnd_of ?_ (hKK _ _ _ ?_); (focus (simp only [List.reverse_cons, List.reverse_nil, List.nil_append, List.cons_append, memA, mem1, and_true, true_and]; (repeat' apply And.intro); (all_goals (first | trivial | (refine .inr ⟨?_, ?_⟩ <;> (simp; done)) | (refine .inr ⟨?_, ?_⟩ <;> (simp <;> omega)) | (refine .inl ?_; rw [htab]; kernel_rfl))); done)); clear htab tab hKK KK; simp only [thenA, blockA, reduceIte]) | skip)
        | (refine AWP.if_t ?_ ?_; focus (simp (disch := omega) [c20]; done))
        | (refine AWP.if_f ?_ ?_; focus (simp (disch := omega) [c20]; done)))
      refine ⟨by simp, _, rfl, fin1M (cb) (rdB (.sl bx ox bs.length capx zx) (q + 1)) (blkA (l)) (by simp (disch := omega) only [upd_eq, upd_ne, del_ne, h1]) rfl (low_rd hlo) (by simp (disch := omega) only [upd_eq, upd_ne, del_ne, h3]) rfl (flatA _).low hrν ⟨?_, ?_⟩ (by omega) (by simp [resO, get, nms])⟩
      · rw [hres0]; simp [resO, get, ren, rho]
      · rw [hres0]
end Go.Proofs.Ytbdehnjbglpfjaa
