/- Contracts of the generators: arms that may be invalid, lists of arms, two arms. No condition. -/
import Derived.Test.YtbdehnjbglpfjaaA6
import Derived.Test.YtbdehnjbglpfjaaA4
set_option linter.unusedSimpArgs false
set_option linter.unusedVariables false
namespace Go.Proofs.Ytbdehnjbglpfjaa
open Go Go.RowKit

section
variable {P : Program} {ds : List (Option Tmp)} {M0 : Nat} {K : DK} {tr : List En} {τ : Tm} {σ : Sto} {i : Nat}
/-- A call that writes an elder block and makes a new one. -/
theorem dStop_bothF {f : FuncId} {args : List AV} {d : Option Tmp} {rest : List Oper} (F : List Nat) (b : Nat) {v : AV} {k k2 : Blk} (h : ∀ σ' : Sto, (∀ b ∈ F, σ' b = σ b) → AC P f args σ' (M0 + 2 * i) fun r δ' => r = v ∧ δ' = upd (upd noS b k) (M0 + 2 * i) k2)
    (h3 : dOps P ds M0 rest (i + 1) K (⟨d, v, [b, M0 + 2 * i], upd (upd noS b k) (M0 + 2 * i) k2, F⟩ :: tr) (put d v τ) (upd (upd σ b k) (M0 + 2 * i) k2)) : dStop P ds M0 f args d rest i K tr τ σ := by
  refine ⟨F, [b, M0 + 2 * i], v, upd (upd noS b k) (M0 + 2 * i) k2, h, fun c hc => ?_, fun c hc => ?_, ?_⟩
  · simp only [List.mem_cons, List.not_mem_nil, or_false, not_or] at hc
    rw [upd_ne _ _ _ _ hc.2, upd_ne _ _ _ _ hc.1]
    rfl
  · by_cases e : c = M0 + 2 * i
    · subst e; rw [upd_eq]; simp
    · rw [upd_ne _ _ _ _ e]
      simp only [List.mem_cons, List.not_mem_nil, or_false] at hc
      rcases hc with hc | hc
      · subst hc; rw [upd_eq]; simp
      · exact absurd hc e
  · have e : ovr σ (upd (upd noS b k) (M0 + 2 * i) k2) = upd (upd σ b k) (M0 + 2 * i) k2 := by
      funext c
      unfold ovr
      by_cases e1 : c = M0 + 2 * i
      · subst e1; rw [upd_eq, upd_eq]
      · rw [upd_ne _ _ _ _ e1, upd_ne _ _ _ _ e1]
        by_cases e2 : c = b
        · subst e2; rw [upd_eq, upd_eq]
        · rw [upd_ne _ _ _ _ e2, upd_ne _ _ _ _ e2]
          rfl
    rw [e]
    exact h3
end

/-- The arm that someArm draws, and where the reader stands behind it. -/
def saF (bs : List Int) (p : Int) (ds : List Df) : (Int × Int) × Int :=
  if pk bs (p + (sgL ds).length) 16 = 0 then ((iAt [-1, 4096, 32, 1] (pk bs (p + (sgL ds).length + 1) 4), (anA bs p ds).2), p + (sgL ds).length + 1 + 1)
  else if pk bs (p + (sgL ds).length) 16 = 1 then (((anA bs p ds).1, iAt [-1, 4096, 32, (anA bs p ds).1] (pk bs (p + (sgL ds).length + 1) 4)), p + (sgL ds).length + 1 + 1)
  else (anA bs p ds, p + (sgL ds).length + 1)
theorem saF_bd {bs : List Int} (h8 : Code8 bs) {p : Int} (hp : 0 ≤ p ∧ p ≤ 90000) (ds : List Df) : -1 ≤ (saF bs p ds).1.1 ∧ (saF bs p ds).1.1 ≤ 24576 ∧ -1 ≤ (saF bs p ds).1.2 ∧ (saF bs p ds).1.2 ≤ 24576 ∧ p ≤ (saF bs p ds).2 ∧ (saF bs p ds).2 ≤ p + 14 := by
  have h := anA_bd bs p ds
  have hl := (sgL_ok ds).1
  have k1 := pk_bd h8 (p := p + (sgL ds).length + 1) (n := 4) (by omega) (by omega)
  have v1 := iAt_mem (l := [-1, 4096, 32, 1]) k1.1 k1.2
  have v2 := iAt_mem (l := [-1, 4096, 32, (anA bs p ds).1]) k1.1 k1.2
  simp only [List.mem_cons, List.not_mem_nil, or_false] at v1 v2
  unfold saF
  split
  · simp only; omega
  · split
    · simp only; omega
    · simp only; omega
set_option maxRecDepth 10000 in
set_option maxHeartbeats 4000000 in
theorem someArm_c (σ : Sto) (ν rb : Nat) (x : AV) (b2 o2 z2 : Nat) (cap2 : Option Nat) (bs : List Int) (p : Int) (ds : List Df) (bd : Int) (hb : σ rb = some (rdB x p)) (hx : Sl σ x 1 (rowsB bs)) (h8 : Code8 bs) (hp : 0 ≤ p ∧ p ≤ 80000) (hy : Sl σ (.sl b2 o2 ds.length cap2 z2) 2 (rowsD ds)) (hbr : b2 ≠ rb) (hlen : ds.length ≤ 4294967296) :
    AC Try.prog 115 [.ptr rb 0 0, .agg [.sl b2 o2 ds.length cap2 z2, .v (.int .i64 bd)]] σ ν fun r δ => r = .agg [.v (.int .i64 (saF bs p ds).1.1), .v (.int .i64 (saF bs p ds).1.2)] ∧ δ = upd noS rb (rdB x (saF bs p ds).2) := by
  obtain ⟨bx, ox, capx, zx, rfl⟩ := hx.out
  simp only [rowsB_len] at hx hb ⊢
  refine AC.intro [rb] ent_115 Try.func115 rfl (by simp [Try.f115]) (by simp [hb]) ?_
  intro K s hs hB hn hν hA hFr
  simp only [argT, Nat.zero_add, Nat.reduceAdd]
  have hrb : s rb = some (rdB (.sl bx ox bs.length capx zx) p) := by rw [hs rb, hb]; simp
  obtain ⟨hrK, hlo⟩ := hB rb _ hrb
  have hx' := hx.vw hs.vw
  have hrν : rb ≠ ν := fun e => by rw [e] at hb; rw [hFr.1] at hb; cases hb
  have hy' := hy.vw hs.vw
  have hgl := (sgL_ok ds).1
  repeat' (first
    | refine AWP.seq ?_
    | refine AWP.block ?_
    | (refine AWP.skip ?_; simp only [thenA, blockA, reduceIte])
    | (refine AWP.exit ?_; simp only [thenA, blockA, eq_self, reduceIte, Nat.reduceEqDiff, Nat.succ_ne_zero])
    | (refine AWP.ret ?_; simp only [thenA, blockA, reduceIte])
    | (refine AWP.region (by rfl) (fun KK hKK => ?_); (repeat (simp (disch := omega) [])); first | (refine hKK _ _ _ ?_; clear hKK KK; simp only [thenA, blockA, reduceIte]) | skip)
    | (refine AWP.if_t ?_ ?_; focus (simp (disch := omega) []; done))
    | (refine AWP.if_f ?_ ?_; focus (simp (disch := omega) []; done)))
  refine aStop_of (anArm_c _ _ rb _ b2 o2 z2 cap2 bs p ds bd (by simp (disch := omega) only [upd_eq, upd_ne, del_ne, hrb]) (hx'.ovb hrb (fun c kc hc h => by have := (hB c kc h).1; first | exact h | (simp (disch := omega) only [upd_ne, del_ne]; exact h))) h8 (by omega) (hy'.ovo hbr (fun c kc hc h => by have := (hB c kc h).1; first | exact h | (simp (disch := omega) only [upd_ne, del_ne]; exact h))) hbr hlen) ?_
  rintro r δ ⟨rfl, rfl⟩
  (repeat (simp (disch := omega) []))
  first | (refine hKK _ _ _ ?_; clear hKK KK; simp only [thenA, blockA, reduceIte]) | skip
  generalize hSg : ((sgL ds).length : Int) = g at *
  have hg0 : 0 ≤ g ∧ g ≤ 12 := by omega
  generalize hA0 : anA bs p ds = a0 at *
  repeat' (first
    | refine AWP.seq ?_
    | refine AWP.block ?_
    | (refine AWP.skip ?_; simp only [thenA, blockA, reduceIte])
    | (refine AWP.exit ?_; simp only [thenA, blockA, eq_self, reduceIte, Nat.reduceEqDiff, Nat.succ_ne_zero])
    | (refine AWP.ret ?_; simp only [thenA, blockA, reduceIte])
    | (refine AWP.region (by rfl) (fun KK hKK => ?_); (repeat (simp (disch := omega) [])); first | (refine hKK _ _ _ ?_; clear hKK KK; simp only [thenA, blockA, reduceIte]) | skip)
    | (refine AWP.if_t ?_ ?_; focus (simp (disch := omega) []; done))
    | (refine AWP.if_f ?_ ?_; focus (simp (disch := omega) []; done)))
  by_cases c0 : pk bs (p + g) 16 = 0
  · refine aStop_of (pick_c _ _ rb _ bs (p + g) 16 (by simp (disch := omega) only [upd_eq, upd_ne, del_ne, hrb]) (hx'.ovb hrb (fun c kc hc h => by have := (hB c kc h).1; first | exact h | (simp (disch := omega) only [upd_ne, del_ne]; exact h))) h8 (by omega)) ?_
    rintro r δ ⟨rfl, rfl⟩
    (repeat (simp (disch := omega) [c0]))
    first | (refine hKK _ _ _ ?_; clear hKK KK; simp only [thenA, blockA, reduceIte]) | skip
    repeat' (first
      | refine AWP.seq ?_
      | refine AWP.block ?_
      | (refine AWP.skip ?_; simp only [thenA, blockA, reduceIte])
      | (refine AWP.exit ?_; simp only [thenA, blockA, eq_self, reduceIte, Nat.reduceEqDiff, Nat.succ_ne_zero])
      | (refine AWP.ret ?_; simp only [thenA, blockA, reduceIte])
      | (refine AWP.region (by rfl) (fun KK hKK => ?_); (repeat (simp (disch := omega) [c0])); first | (refine hKK _ _ _ ?_; clear hKK KK; simp only [thenA, blockA, reduceIte]) | skip)
      | (refine AWP.if_t ?_ ?_; focus (simp (disch := omega) [c0]; done))
      | (refine AWP.if_f ?_ ?_; focus (simp (disch := omega) [c0]; done)))
    refine aStop_of (one_c _ _ rb _ _ bs (p + g + 1) [-1, 4096, 32, 1] (by simp (disch := omega) only [upd_eq, upd_ne, del_ne, hrb]) (hx'.ovb hrb (fun c kc hc h => by have := (hB c kc h).1; first | exact h | (simp (disch := omega) only [upd_ne, del_ne]; exact h))) h8 (by omega) (Sl.whole (t := 3) (r := true) (by simp only [upd_eq]; rfl) rfl) (by decide) (by decide)) ?_
    rintro r δ ⟨rfl, rfl⟩
    (repeat (simp (disch := omega) []))
    first | (refine hKK _ _ _ ?_; clear hKK KK; simp only [thenA, blockA, reduceIte]) | skip
    repeat' (first
      | refine AWP.seq ?_
      | refine AWP.block ?_
      | (refine AWP.skip ?_; simp only [thenA, blockA, reduceIte])
      | (refine AWP.exit ?_; simp only [thenA, blockA, eq_self, reduceIte, Nat.reduceEqDiff, Nat.succ_ne_zero])
      | (refine AWP.ret ?_; simp only [thenA, blockA, reduceIte])
      | (refine AWP.region (by rfl) (fun KK hKK => ?_); (repeat (simp (disch := omega) [])); first | (refine hKK _ _ _ ?_; clear hKK KK; simp only [thenA, blockA, reduceIte]) | skip)
      | (refine AWP.if_t ?_ ?_; focus (simp (disch := omega) []; done))
      | (refine AWP.if_f ?_ ?_; focus (simp (disch := omega) []; done)))
    refine ⟨by simp, ?_⟩
    have hres : Try.f115.results.toList = [.cell 4 27] := rfl
    rw [hres]
    simp (disch := omega) []
    refine fin0M (rdB (.sl bx ox bs.length capx zx) (p + g + 1 + 1)) (by simp (disch := omega) only [upd_eq, upd_ne, del_ne, hrb]) rfl (low_rd hlo) ⟨?_, ?_⟩ (by simp [resO, nms, nmss])
    · simp [resO, ren, rens, saF, hSg, hA0, c0]
    · simp [saF, hSg, c0]
  · by_cases c1 : pk bs (p + g) 16 = 1
    · refine aStop_of (pick_c _ _ rb _ bs (p + g) 16 (by simp (disch := omega) only [upd_eq, upd_ne, del_ne, hrb]) (hx'.ovb hrb (fun c kc hc h => by have := (hB c kc h).1; first | exact h | (simp (disch := omega) only [upd_ne, del_ne]; exact h))) h8 (by omega)) ?_
      rintro r δ ⟨rfl, rfl⟩
      (repeat (simp (disch := omega) [c1]))
      first | (refine hKK _ _ _ ?_; clear hKK KK; simp only [thenA, blockA, reduceIte]) | skip
      repeat' (first
        | refine AWP.seq ?_
        | refine AWP.block ?_
        | (refine AWP.skip ?_; simp only [thenA, blockA, reduceIte])
        | (refine AWP.exit ?_; simp only [thenA, blockA, eq_self, reduceIte, Nat.reduceEqDiff, Nat.succ_ne_zero])
        | (refine AWP.ret ?_; simp only [thenA, blockA, reduceIte])
        | (refine AWP.region (by rfl) (fun KK hKK => ?_); (repeat (simp (disch := omega) [c1])); first | (refine hKK _ _ _ ?_; clear hKK KK; simp only [thenA, blockA, reduceIte]) | skip)
        | (refine AWP.if_t ?_ ?_; focus (simp (disch := omega) [c1]; done))
        | (refine AWP.if_f ?_ ?_; focus (simp (disch := omega) [c1]; done)))
      refine aStop_of (one_c _ _ rb _ _ bs (p + g + 1) [-1, 4096, 32, a0.1] (by simp (disch := omega) only [upd_eq, upd_ne, del_ne, hrb]) (hx'.ovb hrb (fun c kc hc h => by have := (hB c kc h).1; first | exact h | (simp (disch := omega) only [upd_ne, del_ne]; exact h))) h8 (by omega) (Sl.whole (t := 3) (r := true) (by simp only [upd_eq]; rfl) rfl) (by simp) (by simp)) ?_
      rintro r δ ⟨rfl, rfl⟩
      (repeat (simp (disch := omega) []))
      first | (refine hKK _ _ _ ?_; clear hKK KK; simp only [thenA, blockA, reduceIte]) | skip
      repeat' (first
        | refine AWP.seq ?_
        | refine AWP.block ?_
        | (refine AWP.skip ?_; simp only [thenA, blockA, reduceIte])
        | (refine AWP.exit ?_; simp only [thenA, blockA, eq_self, reduceIte, Nat.reduceEqDiff, Nat.succ_ne_zero])
        | (refine AWP.ret ?_; simp only [thenA, blockA, reduceIte])
        | (refine AWP.region (by rfl) (fun KK hKK => ?_); (repeat (simp (disch := omega) [])); first | (refine hKK _ _ _ ?_; clear hKK KK; simp only [thenA, blockA, reduceIte]) | skip)
        | (refine AWP.if_t ?_ ?_; focus (simp (disch := omega) []; done))
        | (refine AWP.if_f ?_ ?_; focus (simp (disch := omega) []; done)))
      refine ⟨by simp, ?_⟩
      have hres : Try.f115.results.toList = [.cell 4 27] := rfl
      rw [hres]
      simp (disch := omega) []
      refine fin0M (rdB (.sl bx ox bs.length capx zx) (p + g + 1 + 1)) (by simp (disch := omega) only [upd_eq, upd_ne, del_ne, hrb]) rfl (low_rd hlo) ⟨?_, ?_⟩ (by simp [resO, nms, nmss])
      · simp [resO, ren, rens, saF, hSg, hA0, c1]
      · simp [saF, hSg, c1]
    · refine aStop_of (pick_c _ _ rb _ bs (p + g) 16 (by simp (disch := omega) only [upd_eq, upd_ne, del_ne, hrb]) (hx'.ovb hrb (fun c kc hc h => by have := (hB c kc h).1; first | exact h | (simp (disch := omega) only [upd_ne, del_ne]; exact h))) h8 (by omega)) ?_
      rintro r δ ⟨rfl, rfl⟩
      (repeat (simp (disch := omega) [c0, c1]))
      first | (refine hKK _ _ _ ?_; clear hKK KK; simp only [thenA, blockA, reduceIte]) | skip
      repeat' (first
        | refine AWP.seq ?_
        | refine AWP.block ?_
        | (refine AWP.skip ?_; simp only [thenA, blockA, reduceIte])
        | (refine AWP.exit ?_; simp only [thenA, blockA, eq_self, reduceIte, Nat.reduceEqDiff, Nat.succ_ne_zero])
        | (refine AWP.ret ?_; simp only [thenA, blockA, reduceIte])
        | (refine AWP.region (by rfl) (fun KK hKK => ?_); (repeat (simp (disch := omega) [c0, c1])); first | (refine hKK _ _ _ ?_; clear hKK KK; simp only [thenA, blockA, reduceIte]) | skip)
        | (refine AWP.if_t ?_ ?_; focus (simp (disch := omega) [c0, c1]; done))
        | (refine AWP.if_f ?_ ?_; focus (simp (disch := omega) [c0, c1]; done)))
      refine ⟨by simp, ?_⟩
      have hres : Try.f115.results.toList = [.cell 4 27] := rfl
      rw [hres]
      simp (disch := omega) []
      refine fin0M (rdB (.sl bx ox bs.length capx zx) (p + g + 1)) (by simp (disch := omega) only [upd_eq, upd_ne, del_ne, hrb]) rfl (low_rd hlo) ⟨?_, ?_⟩ (by simp [resO, nms, nmss])
      · simp [resO, ren, rens, saF, hSg, hA0, c0, c1]
      · simp [saF, hSg, c0, c1]

def GotFA (ν rb : Nat) (x : AV) (p : Int) (r : AV) (δ : Sto) : Prop := ∃ (ds : List Df) (bd a c q : Int), Gd ds 13 ∧ -1 ≤ bd ∧ bd ≤ 4 ∧ -1 ≤ a ∧ a ≤ 24576 ∧ -1 ≤ c ∧ c ≤ 24576 ∧ p ≤ q ∧ q ≤ p + 130 ∧ r = .tup [.agg [.sl ν 0 ds.length none 2, .v (.int .i64 bd)], armV a c] ∧ δ = upd (upd noS rb (rdB x q)) ν (blkD ds)
set_option maxRecDepth 10000 in
set_option maxHeartbeats 4000000 in
theorem armIn_c (σ : Sto) (ν rb : Nat) (x : AV) (bs : List Int) (p : Int) (hb : σ rb = some (rdB x p)) (hx : Sl σ x 1 (rowsB bs)) (h8 : Code8 bs) (hp : 0 ≤ p ∧ p ≤ 70000) :
    AC Try.prog 81 [.ptr rb 0 0] σ ν (GotFA ν rb x p) := by
  obtain ⟨bx, ox, capx, zx, rfl⟩ := hx.out
  simp only [rowsB_len] at hx hb ⊢
  refine AC.intro [rb] ent_81 Try.func81 rfl (by simp [Try.f81]) (by simp [hb]) ?_
  intro K s hs hB hn hν hA hFr
  simp only [argT, Nat.zero_add, Nat.reduceAdd]
  have hrb : s rb = some (rdB (.sl bx ox bs.length capx zx) p) := by rw [hs rb, hb]; simp
  obtain ⟨hrK, hlo⟩ := hB rb _ hrb
  have hx' := hx.vw hs.vw
  have hrν : rb ≠ ν := fun e => by rw [e] at hb; rw [hFr.1] at hb; cases hb
  repeat' (first
    | refine AWP.seq ?_
    | refine AWP.block ?_
    | (refine AWP.skip ?_; simp only [thenA, blockA, reduceIte])
    | (refine AWP.exit ?_; simp only [thenA, blockA, eq_self, reduceIte, Nat.reduceEqDiff, Nat.succ_ne_zero])
    | (refine AWP.ret ?_; simp only [thenA, blockA, reduceIte])
    | (refine AWP.region (by rfl) (fun KK hKK => ?_); (repeat (simp (disch := omega) [])); first | (refine hKK _ _ _ ?_; clear hKK KK; simp only [thenA, blockA, reduceIte]) | skip)
    | (refine AWP.draw' mixd (by rfl) (by kernel_rfl) (fun KK tab hKK htab => ?_); (repeat (simp (disch := omega) [])); first | (refine dEnd_ro ?_ (hKK _ _ _ ?_); (focus (simp; done)); clear htab tab hKK KK; simp only [thenA, blockA, reduceIte]) | (refine dEnd_of ?_ (hKK _ _ _ ?_); (focus (simp only [List.reverse_cons, List.reverse_nil, List.nil_append, List.cons_append, memA, mem1, and_true, true_and]; (repeat' apply And.intro); (all_goals (first | trivial | (refine .inr ⟨?_, ?_⟩ <;> (simp; done)) | (refine .inr ⟨?_, ?_⟩ <;> (simp <;> omega)) | (refine .inl ?_; rw [htab]; kernel_rfl))); done)); clear htab tab hKK KK; simp only [thenA, blockA, reduceIte]) | skip)
    | (refine AWP.if_t ?_ ?_; focus (simp (disch := omega) []; done))
    | (refine AWP.if_f ?_ ?_; focus (simp (disch := omega) []; done)))
  refine aStop_of (someFlag_c _ _ rb _ bs p (by simp (disch := omega) only [upd_eq, upd_ne, del_ne, hrb]) (hx'.ovb hrb (fun c kc hc h => by have := (hB c kc h).1; first | exact h | (simp (disch := omega) only [upd_ne, del_ne]; exact h))) h8 (by omega)) ?_
  rintro r δ ⟨ds, bd, q, hgd, hb0, hb1, hq0, hq1, rfl, rfl⟩
  (repeat (simp (disch := omega) []))
  first | (refine hKK _ _ _ ?_; clear hKK KK; simp only [thenA, blockA, reduceIte]) | skip
  have hrb1 : K + 1 + 1 ≠ rb := by omega
  have hl := hgd.len
  obtain ⟨a1, a2, a3, a4, a5, a6⟩ := saF_bd h8 (p := q) (by omega) ds
  repeat' (first
    | refine AWP.seq ?_
    | refine AWP.block ?_
    | (refine AWP.skip ?_; simp only [thenA, blockA, reduceIte])
    | (refine AWP.exit ?_; simp only [thenA, blockA, eq_self, reduceIte, Nat.reduceEqDiff, Nat.succ_ne_zero])
    | (refine AWP.ret ?_; simp only [thenA, blockA, reduceIte])
    | (refine AWP.region (by rfl) (fun KK hKK => ?_); (repeat (simp (disch := omega) [])); first | (refine hKK _ _ _ ?_; clear hKK KK; simp only [thenA, blockA, reduceIte]) | skip)
    | (refine AWP.draw' mixd (by rfl) (by kernel_rfl) (fun KK tab hKK htab => ?_); (repeat (simp (disch := omega) [])); first | (refine dEnd_ro ?_ (hKK _ _ _ ?_); (focus (simp; done)); clear htab tab hKK KK; simp only [thenA, blockA, reduceIte]) | (refine dEnd_of ?_ (hKK _ _ _ ?_); (focus (simp only [List.reverse_cons, List.reverse_nil, List.nil_append, List.cons_append, memA, mem1, and_true, true_and]; (repeat' apply And.intro); (all_goals (first | trivial | (refine .inr ⟨?_, ?_⟩ <;> (simp; done)) | (refine .inr ⟨?_, ?_⟩ <;> (simp <;> omega)) | (refine .inl ?_; rw [htab]; kernel_rfl))); done)); clear htab tab hKK KK; simp only [thenA, blockA, reduceIte]) | skip)
    | (refine AWP.if_t ?_ ?_; focus (simp (disch := omega) []; done))
    | (refine AWP.if_f ?_ ?_; focus (simp (disch := omega) []; done)))
  refine dStop_modF [rb, bx, K + 1 + 1] rb (fun σ' hσ' => someArm_c σ' _ rb _ (K + 1 + 1) 0 2 none bs q ds bd ((hσ' _ (by simp)).trans (by simp (disch := omega) only [upd_eq, upd_ne, del_ne, hrb])) ((hx'.ovb hrb (fun c kc hc h => by have := (hB c kc h).1; first | exact h | (simp (disch := omega) only [upd_ne, del_ne]; exact h))).on (hσ' _ (by simp))) h8 (by omega) (Sl.whole (t := 133) (r := true) ((hσ' _ (by simp)).trans (by simp (disch := omega))) (by simp [rowsD_len])) hrb1 (by omega)) ?_
  (repeat (simp (disch := omega) []))
  first | (refine dEnd_ro ?_ (hKK _ _ _ ?_); (focus (simp; done)); clear htab tab hKK KK; simp only [thenA, blockA, reduceIte]) | (refine dEnd_of ?_ (hKK _ _ _ ?_); (focus (simp only [List.reverse_cons, List.reverse_nil, List.nil_append, List.cons_append, memA, mem1, and_true, true_and]; (repeat' apply And.intro); (all_goals (first | trivial | (refine .inr ⟨?_, ?_⟩ <;> (simp; done)) | (refine .inr ⟨?_, ?_⟩ <;> (simp <;> omega)) | (refine .inl ?_; rw [htab]; kernel_rfl))); done)); clear htab tab hKK KK; simp only [thenA, blockA, reduceIte]) | skip
  generalize saF bs q ds = w at *
  repeat' (first
    | refine AWP.seq ?_
    | refine AWP.block ?_
    | (refine AWP.skip ?_; simp only [thenA, blockA, reduceIte])
    | (refine AWP.exit ?_; simp only [thenA, blockA, eq_self, reduceIte, Nat.reduceEqDiff, Nat.succ_ne_zero])
    | (refine AWP.ret ?_; simp only [thenA, blockA, reduceIte])
    | (refine AWP.region (by rfl) (fun KK hKK => ?_); (repeat (simp (disch := omega) [])); first | (refine hKK _ _ _ ?_; clear hKK KK; simp only [thenA, blockA, reduceIte]) | skip)
    | (refine AWP.draw' mixd (by rfl) (by kernel_rfl) (fun KK tab hKK htab => ?_); (repeat (simp (disch := omega) [])); first | (refine dEnd_ro ?_ (hKK _ _ _ ?_); (focus (simp; done)); clear htab tab hKK KK; simp only [thenA, blockA, reduceIte]) | (refine dEnd_of ?_ (hKK _ _ _ ?_); (focus (simp only [List.reverse_cons, List.reverse_nil, List.nil_append, List.cons_append, memA, mem1, and_true, true_and]; (repeat' apply And.intro); (all_goals (first | trivial | (refine .inr ⟨?_, ?_⟩ <;> (simp; done)) | (refine .inr ⟨?_, ?_⟩ <;> (simp <;> omega)) | (refine .inl ?_; rw [htab]; kernel_rfl))); done)); clear htab tab hKK KK; simp only [thenA, blockA, reduceIte]) | skip)
    | (refine AWP.if_t ?_ ?_; focus (simp (disch := omega) []; done))
    | (refine AWP.if_f ?_ ?_; focus (simp (disch := omega) []; done)))
  refine ⟨by simp, ?_⟩
  have hres : Try.f81.results.toList = [.cell 2 25, .cell 3 27] := rfl
  rw [hres]
  simp (disch := omega) []
  refine fin1M (K + 1 + 1) (rdB (.sl bx ox bs.length capx zx) w.2) (blkD ds) (by simp (disch := omega) only [upd_eq, upd_ne, del_ne, hrb]) rfl (low_rd hlo) (by simp (disch := omega) only [upd_eq, upd_ne, del_ne]) rfl (flatD _).low hrν ⟨ds, bd, w.1.1, w.1.2, w.2, hgd, by omega, by omega, by omega, by omega, by omega, by omega, by omega, by omega, by simp [resO, ren, rens, rho], rfl⟩ (by omega) (by simp [resO, nms, nmss])
end Go.Proofs.Ytbdehnjbglpfjaa
