/- Contracts: values joined, bounds kept. No condition but sizes. -/
import Derived.Test.YtbdehnjbglpfjaaF5
import Derived.Test.YtbdehnjbglpfjaaLC
set_option linter.unusedSimpArgs false
set_option linter.unusedVariables false
namespace Go.Proofs.Ytbdehnjbglpfjaa
open Go Go.RowKit

/-- Whether a value has all bits of another one. -/
def haB (ds : List Df) (bd a b : Int) : Bool := isv ds bd a && isv ds bd b && decide (b.toNat - (b.toNat &&& a.toNat) = 0)
set_option maxRecDepth 10000 in
set_option maxHeartbeats 1000000 in
theorem hasAll_c (σ : Sto) (ν : Nat) (x : AV) (ds : List Df) (bd a b : Int) (hx : Sl σ x 2 (rowsD ds)) (hlen : ds.length ≤ 9223372036854775807) (hsz : ∀ d ∈ ds, d.1.size ≤ 9223372036854775807) :
    AC Try.prog 30 [.agg [x, .v (.int .i64 bd)], .v (.int .i64 a), .v (.int .i64 b)] σ ν fun r δ => r = .v (.bool (haB ds bd a b)) ∧ δ = noS := by
  obtain ⟨bk, o, cap, z, rfl⟩ := hx.out
  refine AC.intro [] ent_30 Try.func30 rfl (by simp [Try.f30]) (by simp) ?_
  intro K s hs hB hn hν hA hFr
  simp only [argT, Nat.zero_add, Nat.reduceAdd]
  have hx' := hx.vw hs.vw
  repeat' (first
    | refine AWP.seq ?_
    | refine AWP.block ?_
    | (refine AWP.skip ?_; simp only [thenA, blockA, reduceIte])
    | (refine AWP.exit ?_; simp only [thenA, blockA, eq_self, reduceIte, Nat.reduceEqDiff, Nat.succ_ne_zero])
    | (refine AWP.ret ?_; simp only [thenA, blockA, reduceIte])
    | (refine AWP.region (by rfl) (fun KK hKK => ?_); (repeat (simp (disch := omega) [])); first | (refine hKK _ _ _ ?_; clear hKK KK; simp only [thenA, blockA, reduceIte]) | skip)
    | (refine AWP.if_t ?_ ?_; focus (simp (disch := omega) []; done))
    | (refine AWP.if_f ?_ ?_; focus (simp (disch := omega) []; done)))
  cases ha : isv ds bd a with
  | false =>
    refine aStop_of (isValueI_c _ _ _ ds bd a (hx'.vw ((Vw.refl _).over (by repeat (first | exact Over.refl _ | exact hov | refine Over.upd ?_ hB (by omega) | refine Over.del ?_ hB (by omega))))) hlen hsz) ?_
    rintro r δ ⟨rfl, rfl⟩
    (repeat (simp (disch := omega) [ha]))
    first | (refine hKK _ _ _ ?_; clear hKK KK; simp only [thenA, blockA, reduceIte]) | skip
    repeat' (first
      | refine AWP.seq ?_
      | refine AWP.block ?_
      | (refine AWP.skip ?_; simp only [thenA, blockA, reduceIte])
      | (refine AWP.exit ?_; simp only [thenA, blockA, eq_self, reduceIte, Nat.reduceEqDiff, Nat.succ_ne_zero])
      | (refine AWP.ret ?_; simp only [thenA, blockA, reduceIte])
      | (refine AWP.region (by rfl) (fun KK hKK => ?_); (repeat (simp (disch := omega) [])); first | (refine hKK _ _ _ ?_; clear hKK KK; simp only [thenA, blockA, reduceIte]) | skip)
      | (refine AWP.if_t ?_ ?_; focus (simp (disch := omega) []; done))
      | (refine AWP.if_f ?_ ?_; focus (simp (disch := omega) []; done)))
    refine ⟨by simp, _, rfl, fin0 ⟨?_, rfl⟩ (by simp [resO, get, nms, nmss]; try (simp [nms, nmss] at hn; simp_all))⟩
    simp [resO, get, ren, rens, haB, ha]
  | true =>
    refine aStop_of (isValueI_c _ _ _ ds bd a (hx'.vw ((Vw.refl _).over (by repeat (first | exact Over.refl _ | exact hov | refine Over.upd ?_ hB (by omega) | refine Over.del ?_ hB (by omega))))) hlen hsz) ?_
    rintro r δ ⟨rfl, rfl⟩
    (repeat (simp (disch := omega) [ha]))
    first | (refine hKK _ _ _ ?_; clear hKK KK; simp only [thenA, blockA, reduceIte]) | skip
    cases hb : isv ds bd b with
    | false =>
      refine aStop_of (isValueI_c _ _ _ ds bd b (hx'.vw ((Vw.refl _).over (by repeat (first | exact Over.refl _ | exact hov | refine Over.upd ?_ hB (by omega) | refine Over.del ?_ hB (by omega))))) hlen hsz) ?_
      rintro r δ ⟨rfl, rfl⟩
      (repeat (simp (disch := omega) [hb]))
      first | (refine hKK _ _ _ ?_; clear hKK KK; simp only [thenA, blockA, reduceIte]) | skip
      repeat' (first
        | refine AWP.seq ?_
        | refine AWP.block ?_
        | (refine AWP.skip ?_; simp only [thenA, blockA, reduceIte])
        | (refine AWP.exit ?_; simp only [thenA, blockA, eq_self, reduceIte, Nat.reduceEqDiff, Nat.succ_ne_zero])
        | (refine AWP.ret ?_; simp only [thenA, blockA, reduceIte])
        | (refine AWP.region (by rfl) (fun KK hKK => ?_); (repeat (simp (disch := omega) [])); first | (refine hKK _ _ _ ?_; clear hKK KK; simp only [thenA, blockA, reduceIte]) | skip)
        | (refine AWP.if_t ?_ ?_; focus (simp (disch := omega) []; done))
        | (refine AWP.if_f ?_ ?_; focus (simp (disch := omega) []; done)))
      refine ⟨by simp, _, rfl, fin0 ⟨?_, rfl⟩ (by simp [resO, get, nms, nmss]; try (simp [nms, nmss] at hn; simp_all))⟩
      simp [resO, get, ren, rens, haB, ha, hb]
    | true =>
      obtain ⟨_, a0, a1, _⟩ := isv_ok ha
      obtain ⟨_, b0, b1, _⟩ := isv_ok hb
      have he : haB ds bd a b = decide (b.toNat - (b.toNat &&& a.toNat) = 0) := by simp [haB, ha, hb]
      obtain ⟨m, rfl⟩ := Int.eq_ofNat_of_zero_le a0
      obtain ⟨n, rfl⟩ := Int.eq_ofNat_of_zero_le b0
      simp only [Int.toNat_natCast] at he
      have han := i_andNot n m (by omega) (by omega)
      have hdc : decide (((n - (n &&& m) : Nat) : Int) = 0) = decide (n - (n &&& m) = 0) := by
        by_cases h : n - (n &&& m) = 0
        · simp [h]
        · rw [decide_eq_false h, decide_eq_false (by omega)]
      refine aStop_of (isValueI_c _ _ _ ds bd n (hx'.vw ((Vw.refl _).over (by repeat (first | exact Over.refl _ | exact hov | refine Over.upd ?_ hB (by omega) | refine Over.del ?_ hB (by omega))))) hlen hsz) ?_
      rintro r δ ⟨rfl, rfl⟩
      (repeat (simp (disch := omega) [hb, han]))
      first | (refine hKK _ _ _ ?_; clear hKK KK; simp only [thenA, blockA, reduceIte]) | skip
      repeat' (first
        | refine AWP.seq ?_
        | refine AWP.block ?_
        | (refine AWP.skip ?_; simp only [thenA, blockA, reduceIte])
        | (refine AWP.exit ?_; simp only [thenA, blockA, eq_self, reduceIte, Nat.reduceEqDiff, Nat.succ_ne_zero])
        | (refine AWP.ret ?_; simp only [thenA, blockA, reduceIte])
        | (refine AWP.region (by rfl) (fun KK hKK => ?_); (repeat (simp (disch := omega) [han])); first | (refine hKK _ _ _ ?_; clear hKK KK; simp only [thenA, blockA, reduceIte]) | skip)
        | (refine AWP.if_t ?_ ?_; focus (simp (disch := omega) [han]; done))
        | (refine AWP.if_f ?_ ?_; focus (simp (disch := omega) [han]; done)))
      refine ⟨by simp, _, rfl, fin0 ⟨?_, rfl⟩ (by simp [resO, get, nms, nmss]; try (simp [nms, nmss] at hn; simp_all))⟩
      simp [resO, get, ren, rens, he, hdc]

/-- A value made of two ones. -/
def opI (g : Nat → Nat → Nat) (ds : List Df) (bd a b : Int) : Int := if isv ds bd a = true ∧ isv ds bd b = true then (g a.toNat b.toNat : Int) else -1
theorem opI_no {g : Nat → Nat → Nat} {ds : List Df} {bd a b : Int} (h : ¬ (isv ds bd a = true ∧ isv ds bd b = true)) : opI g ds bd a b = -1 := if_neg h
theorem opI_yes {g : Nat → Nat → Nat} {ds : List Df} {bd : Int} {a b : Nat} (h1 : isv ds bd a = true) (h2 : isv ds bd b = true) : opI g ds bd a b = (g a b : Int) := by
  unfold opI
  rw [if_pos ⟨h1, h2⟩, Int.toNat_natCast, Int.toNat_natCast]
set_option maxRecDepth 10000 in
set_option maxHeartbeats 1000000 in
theorem join_c (σ : Sto) (ν : Nat) (x : AV) (f : FuncId) (g : Nat → Nat → Nat) (ds : List Df) (bd a b : Int) (hx : Sl σ x 2 (rowsD ds)) (hlen : ds.length ≤ 9223372036854775807) (hsz : ∀ d ∈ ds, d.1.size ≤ 9223372036854775807)
    (hcl : ∀ s ν, ∀ m n : Nat, m < 4096 → n < 4096 → AC Try.prog f [.v (.int .i64 m), .v (.int .i64 n)] s ν fun r δ => r = .v (.int .i64 (g m n)) ∧ δ = noS) :
    AC Try.prog 71 [.agg [x, .v (.int .i64 bd)], .v (.int .i64 a), .v (.int .i64 b), .fn f []] σ ν fun r δ => r = .v (.int .i64 (opI g ds bd a b)) ∧ δ = noS := by
  obtain ⟨bk, o, cap, z, rfl⟩ := hx.out
  refine AC.intro [] ent_71 Try.func71 rfl (by simp [Try.f71]) (by simp) ?_
  intro K s hs hB hn hν hA hFr
  simp only [argT, Nat.zero_add, Nat.reduceAdd]
  have hx' := hx.vw hs.vw
  repeat' (first
    | refine AWP.seq ?_
    | refine AWP.block ?_
    | (refine AWP.skip ?_; simp only [thenA, blockA, reduceIte])
    | (refine AWP.exit ?_; simp only [thenA, blockA, eq_self, reduceIte, Nat.reduceEqDiff, Nat.succ_ne_zero])
    | (refine AWP.ret ?_; simp only [thenA, blockA, reduceIte])
    | (refine AWP.region (by rfl) (fun KK hKK => ?_); (repeat (simp (disch := omega) [])); first | (refine hKK _ _ _ ?_; clear hKK KK; simp only [thenA, blockA, reduceIte]) | skip)
    | (refine AWP.if_t ?_ ?_; focus (simp (disch := omega) []; done))
    | (refine AWP.if_f ?_ ?_; focus (simp (disch := omega) []; done)))
  cases ha : isv ds bd a with
  | false =>
    have he := opI_no (g := g) (ds := ds) (bd := bd) (a := a) (b := b) (by simp [ha])
    refine aStop_of (isValueI_c _ _ _ ds bd a (hx'.vw ((Vw.refl _).over (by repeat (first | exact Over.refl _ | exact hov | refine Over.upd ?_ hB (by omega) | refine Over.del ?_ hB (by omega))))) hlen hsz) ?_
    rintro r δ ⟨rfl, rfl⟩
    (repeat (simp (disch := omega) [ha]))
    first | (refine hKK _ _ _ ?_; clear hKK KK; simp only [thenA, blockA, reduceIte]) | skip
    repeat' (first
      | refine AWP.seq ?_
      | refine AWP.block ?_
      | (refine AWP.skip ?_; simp only [thenA, blockA, reduceIte])
      | (refine AWP.exit ?_; simp only [thenA, blockA, eq_self, reduceIte, Nat.reduceEqDiff, Nat.succ_ne_zero])
      | (refine AWP.ret ?_; simp only [thenA, blockA, reduceIte])
      | (refine AWP.region (by rfl) (fun KK hKK => ?_); (repeat (simp (disch := omega) [])); first | (refine hKK _ _ _ ?_; clear hKK KK; simp only [thenA, blockA, reduceIte]) | skip)
      | (refine AWP.if_t ?_ ?_; focus (simp (disch := omega) []; done))
      | (refine AWP.if_f ?_ ?_; focus (simp (disch := omega) []; done)))
    refine ⟨by simp, _, rfl, fin0 ⟨?_, rfl⟩ (by simp [resO, get, nms, nmss]; try (simp [nms, nmss] at hn; simp_all))⟩
    simp [resO, get, ren, rens, he]
  | true =>
    refine aStop_of (isValueI_c _ _ _ ds bd a (hx'.vw ((Vw.refl _).over (by repeat (first | exact Over.refl _ | exact hov | refine Over.upd ?_ hB (by omega) | refine Over.del ?_ hB (by omega))))) hlen hsz) ?_
    rintro r δ ⟨rfl, rfl⟩
    (repeat (simp (disch := omega) [ha]))
    first | (refine hKK _ _ _ ?_; clear hKK KK; simp only [thenA, blockA, reduceIte]) | skip
    cases hb : isv ds bd b with
    | false =>
      have he := opI_no (g := g) (ds := ds) (bd := bd) (a := a) (b := b) (by simp [hb])
      refine aStop_of (isValueI_c _ _ _ ds bd b (hx'.vw ((Vw.refl _).over (by repeat (first | exact Over.refl _ | exact hov | refine Over.upd ?_ hB (by omega) | refine Over.del ?_ hB (by omega))))) hlen hsz) ?_
      rintro r δ ⟨rfl, rfl⟩
      (repeat (simp (disch := omega) [hb]))
      first | (refine hKK _ _ _ ?_; clear hKK KK; simp only [thenA, blockA, reduceIte]) | skip
      repeat' (first
        | refine AWP.seq ?_
        | refine AWP.block ?_
        | (refine AWP.skip ?_; simp only [thenA, blockA, reduceIte])
        | (refine AWP.exit ?_; simp only [thenA, blockA, eq_self, reduceIte, Nat.reduceEqDiff, Nat.succ_ne_zero])
        | (refine AWP.ret ?_; simp only [thenA, blockA, reduceIte])
        | (refine AWP.region (by rfl) (fun KK hKK => ?_); (repeat (simp (disch := omega) [])); first | (refine hKK _ _ _ ?_; clear hKK KK; simp only [thenA, blockA, reduceIte]) | skip)
        | (refine AWP.if_t ?_ ?_; focus (simp (disch := omega) []; done))
        | (refine AWP.if_f ?_ ?_; focus (simp (disch := omega) []; done)))
      refine ⟨by simp, _, rfl, fin0 ⟨?_, rfl⟩ (by simp [resO, get, nms, nmss]; try (simp [nms, nmss] at hn; simp_all))⟩
      simp [resO, get, ren, rens, he]
    | true =>
      obtain ⟨_, a0, a1, _⟩ := isv_ok ha
      obtain ⟨_, b0, b1, _⟩ := isv_ok hb
      obtain ⟨m, rfl⟩ := Int.eq_ofNat_of_zero_le a0
      obtain ⟨n, rfl⟩ := Int.eq_ofNat_of_zero_le b0
      have he := opI_yes (g := g) ha hb
      refine aStop_of (isValueI_c _ _ _ ds bd n (hx'.vw ((Vw.refl _).over (by repeat (first | exact Over.refl _ | exact hov | refine Over.upd ?_ hB (by omega) | refine Over.del ?_ hB (by omega))))) hlen hsz) ?_
      rintro r δ ⟨rfl, rfl⟩
      (repeat (simp (disch := omega) [hb]))
      first | (refine hKK _ _ _ ?_; clear hKK KK; simp only [thenA, blockA, reduceIte]) | skip
      repeat' (first
        | refine AWP.seq ?_
        | refine AWP.block ?_
        | (refine AWP.skip ?_; simp only [thenA, blockA, reduceIte])
        | (refine AWP.exit ?_; simp only [thenA, blockA, eq_self, reduceIte, Nat.reduceEqDiff, Nat.succ_ne_zero])
        | (refine AWP.ret ?_; simp only [thenA, blockA, reduceIte])
        | (refine AWP.region (by rfl) (fun KK hKK => ?_); (repeat (simp (disch := omega) [])); first | (refine hKK _ _ _ ?_; clear hKK KK; simp only [thenA, blockA, reduceIte]) | skip)
        | (refine AWP.if_t ?_ ?_; focus (simp (disch := omega) []; done))
        | (refine AWP.if_f ?_ ?_; focus (simp (disch := omega) []; done)))
      refine aStop_of (hcl _ _ m n (by omega) (by omega)) ?_
      rintro r δ ⟨rfl, rfl⟩
      (repeat (simp (disch := omega) []))
      first | (refine hKK _ _ _ ?_; clear hKK KK; simp only [thenA, blockA, reduceIte]) | skip
      repeat' (first
        | refine AWP.seq ?_
        | refine AWP.block ?_
        | (refine AWP.skip ?_; simp only [thenA, blockA, reduceIte])
        | (refine AWP.exit ?_; simp only [thenA, blockA, eq_self, reduceIte, Nat.reduceEqDiff, Nat.succ_ne_zero])
        | (refine AWP.ret ?_; simp only [thenA, blockA, reduceIte])
        | (refine AWP.region (by rfl) (fun KK hKK => ?_); (repeat (simp (disch := omega) [])); first | (refine hKK _ _ _ ?_; clear hKK KK; simp only [thenA, blockA, reduceIte]) | skip)
        | (refine AWP.if_t ?_ ?_; focus (simp (disch := omega) []; done))
        | (refine AWP.if_f ?_ ?_; focus (simp (disch := omega) []; done)))
      refine ⟨by simp, _, rfl, fin0 ⟨?_, rfl⟩ (by simp [resO, get, nms, nmss]; try (simp [nms, nmss] at hn; simp_all))⟩
      simp [resO, get, ren, rens, he]
set_option maxRecDepth 10000 in
set_option maxHeartbeats 400000 in
theorem orV1_c (σ : Sto) (ν : Nat) (m n : Nat) (hm : m < 4096) (hn : n < 4096) : AC Try.prog 72 [.v (.int .i64 m), .v (.int .i64 n)] σ ν fun r δ => r = .v (.int .i64 (((fun m n => m ||| n) m n : Nat) : Int)) ∧ δ = noS := by
  have hop := i_or m n (by omega) (by omega)
  refine AC.intro [] ent_72 Try.func72 rfl (by simp [Try.f72]) (by simp) ?_
  intro K s hs hB hn hν hA hFr
  simp only [argT, Nat.zero_add, Nat.reduceAdd]
  repeat' (first
    | refine AWP.seq ?_
    | refine AWP.block ?_
    | (refine AWP.skip ?_; simp only [thenA, blockA, reduceIte])
    | (refine AWP.exit ?_; simp only [thenA, blockA, eq_self, reduceIte, Nat.reduceEqDiff, Nat.succ_ne_zero])
    | (refine AWP.ret ?_; simp only [thenA, blockA, reduceIte])
    | (refine AWP.region (by rfl) (fun KK hKK => ?_); (repeat (simp (disch := omega) [hop])); first | (refine hKK _ _ _ ?_; clear hKK KK; simp only [thenA, blockA, reduceIte]) | skip)
    | (refine AWP.if_t ?_ ?_; focus (simp (disch := omega) [hop]; done))
    | (refine AWP.if_f ?_ ?_; focus (simp (disch := omega) [hop]; done)))
  refine ⟨by simp, _, rfl, fin0 ⟨?_, rfl⟩ (by simp [resO, get, nms, nmss]; try (simp [nms, nmss] at hn; simp_all))⟩
  simp [resO, get, ren, rens, hop]
set_option maxRecDepth 10000 in
set_option maxHeartbeats 400000 in
theorem orV_c (σ : Sto) (ν : Nat) (x : AV) (ds : List Df) (bd a b : Int) (hx : Sl σ x 2 (rowsD ds)) (hlen : ds.length ≤ 9223372036854775807) (hsz : ∀ d ∈ ds, d.1.size ≤ 9223372036854775807) :
    AC Try.prog 19 [.agg [x, .v (.int .i64 bd)], .v (.int .i64 a), .v (.int .i64 b)] σ ν fun r δ => r = .v (.int .i64 (opI (fun m n => m ||| n) ds bd a b)) ∧ δ = noS := by
  obtain ⟨bk, o, cap, z, rfl⟩ := hx.out
  refine AC.intro [] ent_19 Try.func19 rfl (by simp [Try.f19]) (by simp) ?_
  intro K s hs hB hn hν hA hFr
  simp only [argT, Nat.zero_add, Nat.reduceAdd]
  have hx' := hx.vw hs.vw
  repeat' (first
    | refine AWP.seq ?_
    | refine AWP.block ?_
    | (refine AWP.skip ?_; simp only [thenA, blockA, reduceIte])
    | (refine AWP.exit ?_; simp only [thenA, blockA, eq_self, reduceIte, Nat.reduceEqDiff, Nat.succ_ne_zero])
    | (refine AWP.ret ?_; simp only [thenA, blockA, reduceIte])
    | (refine AWP.region (by rfl) (fun KK hKK => ?_); (repeat (simp (disch := omega) [])); first | (refine hKK _ _ _ ?_; clear hKK KK; simp only [thenA, blockA, reduceIte]) | skip)
    | (refine AWP.if_t ?_ ?_; focus (simp (disch := omega) []; done))
    | (refine AWP.if_f ?_ ?_; focus (simp (disch := omega) []; done)))
  refine aStop_of (join_c _ _ _ _ (fun m n => m ||| n) ds bd a b (hx'.vw ((Vw.refl _).over (by repeat (first | exact Over.refl _ | exact hov | refine Over.upd ?_ hB (by omega) | refine Over.del ?_ hB (by omega))))) hlen hsz (fun s ν m n hm hn => orV1_c s ν m n hm hn)) ?_
  rintro r δ ⟨rfl, rfl⟩
  (repeat (simp (disch := omega) []))
  first | (refine hKK _ _ _ ?_; clear hKK KK; simp only [thenA, blockA, reduceIte]) | skip
  repeat' (first
    | refine AWP.seq ?_
    | refine AWP.block ?_
    | (refine AWP.skip ?_; simp only [thenA, blockA, reduceIte])
    | (refine AWP.exit ?_; simp only [thenA, blockA, eq_self, reduceIte, Nat.reduceEqDiff, Nat.succ_ne_zero])
    | (refine AWP.ret ?_; simp only [thenA, blockA, reduceIte])
    | (refine AWP.region (by rfl) (fun KK hKK => ?_); (repeat (simp (disch := omega) [])); first | (refine hKK _ _ _ ?_; clear hKK KK; simp only [thenA, blockA, reduceIte]) | skip)
    | (refine AWP.if_t ?_ ?_; focus (simp (disch := omega) []; done))
    | (refine AWP.if_f ?_ ?_; focus (simp (disch := omega) []; done)))
  refine ⟨by simp, _, rfl, fin0 ⟨?_, rfl⟩ (by simp [resO, get, nms, nmss]; try (simp [nms, nmss] at hn; simp_all))⟩
  simp [resO, get, ren, rens]
set_option maxRecDepth 10000 in
set_option maxHeartbeats 400000 in
theorem andV1_c (σ : Sto) (ν : Nat) (m n : Nat) (hm : m < 4096) (hn : n < 4096) : AC Try.prog 88 [.v (.int .i64 m), .v (.int .i64 n)] σ ν fun r δ => r = .v (.int .i64 (((fun m n => m &&& n) m n : Nat) : Int)) ∧ δ = noS := by
  have hop := i_and m n (by omega) (by omega)
  refine AC.intro [] ent_88 Try.func88 rfl (by simp [Try.f88]) (by simp) ?_
  intro K s hs hB hn hν hA hFr
  simp only [argT, Nat.zero_add, Nat.reduceAdd]
  repeat' (first
    | refine AWP.seq ?_
    | refine AWP.block ?_
    | (refine AWP.skip ?_; simp only [thenA, blockA, reduceIte])
    | (refine AWP.exit ?_; simp only [thenA, blockA, eq_self, reduceIte, Nat.reduceEqDiff, Nat.succ_ne_zero])
    | (refine AWP.ret ?_; simp only [thenA, blockA, reduceIte])
    | (refine AWP.region (by rfl) (fun KK hKK => ?_); (repeat (simp (disch := omega) [hop])); first | (refine hKK _ _ _ ?_; clear hKK KK; simp only [thenA, blockA, reduceIte]) | skip)
    | (refine AWP.if_t ?_ ?_; focus (simp (disch := omega) [hop]; done))
    | (refine AWP.if_f ?_ ?_; focus (simp (disch := omega) [hop]; done)))
  refine ⟨by simp, _, rfl, fin0 ⟨?_, rfl⟩ (by simp [resO, get, nms, nmss]; try (simp [nms, nmss] at hn; simp_all))⟩
  simp [resO, get, ren, rens, hop]
set_option maxRecDepth 10000 in
set_option maxHeartbeats 400000 in
theorem andV_c (σ : Sto) (ν : Nat) (x : AV) (ds : List Df) (bd a b : Int) (hx : Sl σ x 2 (rowsD ds)) (hlen : ds.length ≤ 9223372036854775807) (hsz : ∀ d ∈ ds, d.1.size ≤ 9223372036854775807) :
    AC Try.prog 35 [.agg [x, .v (.int .i64 bd)], .v (.int .i64 a), .v (.int .i64 b)] σ ν fun r δ => r = .v (.int .i64 (opI (fun m n => m &&& n) ds bd a b)) ∧ δ = noS := by
  obtain ⟨bk, o, cap, z, rfl⟩ := hx.out
  refine AC.intro [] ent_35 Try.func35 rfl (by simp [Try.f35]) (by simp) ?_
  intro K s hs hB hn hν hA hFr
  simp only [argT, Nat.zero_add, Nat.reduceAdd]
  have hx' := hx.vw hs.vw
  repeat' (first
    | refine AWP.seq ?_
    | refine AWP.block ?_
    | (refine AWP.skip ?_; simp only [thenA, blockA, reduceIte])
    | (refine AWP.exit ?_; simp only [thenA, blockA, eq_self, reduceIte, Nat.reduceEqDiff, Nat.succ_ne_zero])
    | (refine AWP.ret ?_; simp only [thenA, blockA, reduceIte])
    | (refine AWP.region (by rfl) (fun KK hKK => ?_); (repeat (simp (disch := omega) [])); first | (refine hKK _ _ _ ?_; clear hKK KK; simp only [thenA, blockA, reduceIte]) | skip)
    | (refine AWP.if_t ?_ ?_; focus (simp (disch := omega) []; done))
    | (refine AWP.if_f ?_ ?_; focus (simp (disch := omega) []; done)))
  refine aStop_of (join_c _ _ _ _ (fun m n => m &&& n) ds bd a b (hx'.vw ((Vw.refl _).over (by repeat (first | exact Over.refl _ | exact hov | refine Over.upd ?_ hB (by omega) | refine Over.del ?_ hB (by omega))))) hlen hsz (fun s ν m n hm hn => andV1_c s ν m n hm hn)) ?_
  rintro r δ ⟨rfl, rfl⟩
  (repeat (simp (disch := omega) []))
  first | (refine hKK _ _ _ ?_; clear hKK KK; simp only [thenA, blockA, reduceIte]) | skip
  repeat' (first
    | refine AWP.seq ?_
    | refine AWP.block ?_
    | (refine AWP.skip ?_; simp only [thenA, blockA, reduceIte])
    | (refine AWP.exit ?_; simp only [thenA, blockA, eq_self, reduceIte, Nat.reduceEqDiff, Nat.succ_ne_zero])
    | (refine AWP.ret ?_; simp only [thenA, blockA, reduceIte])
    | (refine AWP.region (by rfl) (fun KK hKK => ?_); (repeat (simp (disch := omega) [])); first | (refine hKK _ _ _ ?_; clear hKK KK; simp only [thenA, blockA, reduceIte]) | skip)
    | (refine AWP.if_t ?_ ?_; focus (simp (disch := omega) []; done))
    | (refine AWP.if_f ?_ ?_; focus (simp (disch := omega) []; done)))
  refine ⟨by simp, _, rfl, fin0 ⟨?_, rfl⟩ (by simp [resO, get, nms, nmss]; try (simp [nms, nmss] at hn; simp_all))⟩
  simp [resO, get, ren, rens]
set_option maxRecDepth 10000 in
set_option maxHeartbeats 1000000 in
theorem flagOf_c (σ : Sto) (ν : Nat) (x : AV) (ds : List Df) (bd : Int) (hx : Sl σ x 2 (rowsD ds)) (hlen : ds.length ≤ 4294967296) (hsz : ∀ d ∈ ds, d.1.size ≤ 9223372036854775807) (hok : okFl ds bd = true) :
    AC Try.prog 127 [x, .v (.int .i64 bd), .v (.bool true)] σ ν fun r δ => r = .tup [.agg [.sl ν 0 ds.length (some ds.length) 2, .v (.int .i64 bd)], .v (.bool true)] ∧ δ = upd noS ν (blkD ds) := by
  obtain ⟨bk, o, cap, z, rfl⟩ := hx.out
  refine AC.intro [] ent_127 Try.func127 rfl (by simp [Try.f127]) (by simp) ?_
  intro K s hs hB hn hν hA hFr
  simp only [argT, Nat.zero_add, Nat.reduceAdd]
  have hx' := hx.vw hs.vw
  have hbK : bk < K := hA bk (by simp [nmAs, nmA])
  repeat' (first
    | refine AWP.seq ?_
    | refine AWP.block ?_
    | (refine AWP.skip ?_; simp only [thenA, blockA, reduceIte])
    | (refine AWP.exit ?_; simp only [thenA, blockA, eq_self, reduceIte, Nat.reduceEqDiff, Nat.succ_ne_zero])
    | (refine AWP.ret ?_; simp only [thenA, blockA, reduceIte])
    | (refine AWP.region (by rfl) (fun KK hKK => ?_); (repeat (simp (disch := omega) [])); first | (refine hKK _ _ _ ?_; clear hKK KK; simp only [thenA, blockA, reduceIte]) | skip)
    | (refine AWP.if_t ?_ ?_; focus (simp (disch := omega) []; done))
    | (refine AWP.if_f ?_ ?_; focus (simp (disch := omega) []; done)))
  refine aStop_of (clone_c _ _ _ ds (hx'.vw ((Vw.refl _).over (by repeat (first | exact Over.refl _ | exact hov | refine Over.upd ?_ hB (by omega) | refine Over.del ?_ hB (by omega))))) hlen) ?_
  rintro r δ ⟨rfl, rfl⟩
  (repeat (simp (disch := omega) []))
  first | (refine hKK _ _ _ ?_; clear hKK KK; simp only [thenA, blockA, reduceIte]) | skip
  repeat' (first
    | refine AWP.seq ?_
    | refine AWP.block ?_
    | (refine AWP.skip ?_; simp only [thenA, blockA, reduceIte])
    | (refine AWP.exit ?_; simp only [thenA, blockA, eq_self, reduceIte, Nat.reduceEqDiff, Nat.succ_ne_zero])
    | (refine AWP.ret ?_; simp only [thenA, blockA, reduceIte])
    | (refine AWP.region (by rfl) (fun KK hKK => ?_); (repeat (simp (disch := omega) [])); first | (refine hKK _ _ _ ?_; clear hKK KK; simp only [thenA, blockA, reduceIte]) | skip)
    | (refine AWP.if_t ?_ ?_; focus (simp (disch := omega) []; done))
    | (refine AWP.if_f ?_ ?_; focus (simp (disch := omega) []; done)))
  refine aStop_of (validFlag_c _ _ _ ds bd (Sl.whole (t := 133) (r := true) (by simp (disch := omega)) (by simp [rowsD_len])) (by omega) hsz) ?_
  rintro r δ ⟨rfl, rfl⟩
  (repeat (simp (disch := omega) [hok]))
  first | (refine hKK _ _ _ ?_; clear hKK KK; simp only [thenA, blockA, reduceIte]) | skip
  repeat' (first
    | refine AWP.seq ?_
    | refine AWP.block ?_
    | (refine AWP.skip ?_; simp only [thenA, blockA, reduceIte])
    | (refine AWP.exit ?_; simp only [thenA, blockA, eq_self, reduceIte, Nat.reduceEqDiff, Nat.succ_ne_zero])
    | (refine AWP.ret ?_; simp only [thenA, blockA, reduceIte])
    | (refine AWP.region (by rfl) (fun KK hKK => ?_); (repeat (simp (disch := omega) [])); first | (refine hKK _ _ _ ?_; clear hKK KK; simp only [thenA, blockA, reduceIte]) | skip)
    | (refine AWP.if_t ?_ ?_; focus (simp (disch := omega) []; done))
    | (refine AWP.if_f ?_ ?_; focus (simp (disch := omega) []; done)))
  refine ⟨by simp, ?_⟩
  have hres : Try.f127.results.toList = [.cell 6 25, .tmp 7] := rfl
  rw [hres]
  simp (disch := omega) []
  refine fin1 (K + 1) (blkD ds) (by simp (disch := omega) only [upd_eq, upd_ne]) rfl (flatD _) ⟨?_, rfl⟩ (by omega) (by simp [resO, nms, nmss])
  simp [resO, ren, rens, rho]
set_option maxRecDepth 10000 in
set_option maxHeartbeats 1000000 in
theorem withBound_c (σ : Sto) (ν : Nat) (x : AV) (ds : List Df) (bd k : Int) (hx : Sl σ x 2 (rowsD ds)) (hlen : ds.length ≤ 4294967296) (hsz : ∀ d ∈ ds, d.1.size ≤ 9223372036854775807) (hok : okFl ds bd = true) (hk : 0 ≤ k ∧ k ≤ 3) :
    AC Try.prog 83 [.agg [x, .v (.int .i64 bd)], .v (.int .i64 k)] σ ν fun r δ => r = .tup [.agg [.sl ν 0 ds.length (some ds.length) 2, .v (.int .i64 k)], .v (.bool true)] ∧ δ = upd noS ν (blkD ds) := by
  obtain ⟨bk, o, cap, z, rfl⟩ := hx.out
  have hok2 : okFl ds k = true := by
    obtain ⟨h1, _, _⟩ := okFl_ok hok
    simp only [okFl, h1, Bool.true_and, decide_eq_true_eq]
    exact hk
  refine AC.intro [] ent_83 Try.func83 rfl (by simp [Try.f83]) (by simp) ?_
  intro K s hs hB hn hν hA hFr
  simp only [argT, Nat.zero_add, Nat.reduceAdd]
  have hx' := hx.vw hs.vw
  have hbK : bk < K := hA bk (by simp [nmAs, nmA])
  repeat' (first
    | refine AWP.seq ?_
    | refine AWP.block ?_
    | (refine AWP.skip ?_; simp only [thenA, blockA, reduceIte])
    | (refine AWP.exit ?_; simp only [thenA, blockA, eq_self, reduceIte, Nat.reduceEqDiff, Nat.succ_ne_zero])
    | (refine AWP.ret ?_; simp only [thenA, blockA, reduceIte])
    | (refine AWP.region (by rfl) (fun KK hKK => ?_); (repeat (simp (disch := omega) [hok])); first | (refine hKK _ _ _ ?_; clear hKK KK; simp only [thenA, blockA, reduceIte]) | skip)
    | (refine AWP.draw' mixd (by rfl) (by kernel_rfl) (fun KK tab hKK htab => ?_); (repeat (simp (disch := omega) [hok])); first | (refine dEnd_ro ?_ (hKK _ _ _ ?_); (focus (simp; done)); clear htab tab hKK KK; simp only [thenA, blockA, reduceIte]) | (refine dEnd_of ?_ (hKK _ _ _ ?_); (focus (simp only [List.reverse_cons, List.reverse_nil, List.nil_append, List.cons_append, memA, mem1, and_true, true_and]; (repeat' apply And.intro); (all_goals (first | trivial | (refine .inr ⟨?_, ?_⟩ <;> (simp; done)) | (refine .inr ⟨?_, ?_⟩ <;> (simp <;> omega)) | (refine .inl ?_; rw [htab]; kernel_rfl))); done)); clear htab tab hKK KK; simp only [thenA, blockA, reduceIte]) | skip)
    | (refine AWP.if_t ?_ ?_; focus (simp (disch := omega) [hok]; done))
    | (refine AWP.if_f ?_ ?_; focus (simp (disch := omega) [hok]; done)))
  repeat
    first
      | (refine dStop_roA (fun σ' hσ' => validFlag_c σ' _ _ ds bd (by first | exact (Sl.whole (t := 133) (r := true) ((hσ' _ (by simp)).trans (by simp (disch := omega) only [upd_eq, upd_ne, del_ne])) (by simp [rowsD_len])) | exact ((hx'.vw ((Vw.refl _).over (by repeat (first | exact Over.refl _ | exact hov | refine Over.upd ?_ hB (by omega) | refine Over.del ?_ hB (by omega))))).on (hσ' _ (by simp))) | exact (Sl.whole (t := 133) (r := true) (by simp (disch := omega) only [upd_eq, upd_ne, del_ne]) (by simp [rowsD_len])) | exact (hx'.vw ((Vw.refl _).over (by repeat (first | exact Over.refl _ | exact hov | refine Over.upd ?_ hB (by omega) | refine Over.del ?_ hB (by omega)))))) (by omega) hsz) ?_)
      | (refine dStop_newA (fun σ' hσ' => flagOf_c σ' _ _ ds k (by first | exact (Sl.whole (t := 133) (r := true) ((hσ' _ (by simp)).trans (by simp (disch := omega) only [upd_eq, upd_ne, del_ne])) (by simp [rowsD_len])) | exact ((hx'.vw ((Vw.refl _).over (by repeat (first | exact Over.refl _ | exact hov | refine Over.upd ?_ hB (by omega) | refine Over.del ?_ hB (by omega))))).on (hσ' _ (by simp))) | exact (Sl.whole (t := 133) (r := true) (by simp (disch := omega) only [upd_eq, upd_ne, del_ne]) (by simp [rowsD_len])) | exact (hx'.vw ((Vw.refl _).over (by repeat (first | exact Over.refl _ | exact hov | refine Over.upd ?_ hB (by omega) | refine Over.del ?_ hB (by omega)))))) hlen hsz hok2) ?_)
    (repeat (simp (disch := omega) [hok]))
    first | (refine dEnd_ro ?_ (hKK _ _ _ ?_); (focus (simp; done)); clear htab tab hKK KK; simp only [thenA, blockA, reduceIte]) | (refine dEnd_of ?_ (hKK _ _ _ ?_); (focus (simp only [List.reverse_cons, List.reverse_nil, List.nil_append, List.cons_append, memA, mem1, and_true, true_and]; (repeat' apply And.intro); (all_goals (first | trivial | (refine .inr ⟨?_, ?_⟩ <;> (simp; done)) | (refine .inr ⟨?_, ?_⟩ <;> (simp <;> omega)) | (refine .inl ?_; rw [htab]; kernel_rfl))); done)); clear htab tab hKK KK; simp only [thenA, blockA, reduceIte]) | (refine hKK _ _ _ ?_; clear hKK KK; simp only [thenA, blockA, reduceIte]) | skip
    repeat' (first
      | refine AWP.seq ?_
      | refine AWP.block ?_
      | (refine AWP.skip ?_; simp only [thenA, blockA, reduceIte])
      | (refine AWP.exit ?_; simp only [thenA, blockA, eq_self, reduceIte, Nat.reduceEqDiff, Nat.succ_ne_zero])
      | (refine AWP.ret ?_; simp only [thenA, blockA, reduceIte])
      | (refine AWP.region (by rfl) (fun KK hKK => ?_); (repeat (simp (disch := omega) [hok])); first | (refine hKK _ _ _ ?_; clear hKK KK; simp only [thenA, blockA, reduceIte]) | skip)
      | (refine AWP.draw' mixd (by rfl) (by kernel_rfl) (fun KK tab hKK htab => ?_); (repeat (simp (disch := omega) [hok])); first | (refine dEnd_ro ?_ (hKK _ _ _ ?_); (focus (simp; done)); clear htab tab hKK KK; simp only [thenA, blockA, reduceIte]) | (refine dEnd_of ?_ (hKK _ _ _ ?_); (focus (simp only [List.reverse_cons, List.reverse_nil, List.nil_append, List.cons_append, memA, mem1, and_true, true_and]; (repeat' apply And.intro); (all_goals (first | trivial | (refine .inr ⟨?_, ?_⟩ <;> (simp; done)) | (refine .inr ⟨?_, ?_⟩ <;> (simp <;> omega)) | (refine .inl ?_; rw [htab]; kernel_rfl))); done)); clear htab tab hKK KK; simp only [thenA, blockA, reduceIte]) | skip)
      | (refine AWP.if_t ?_ ?_; focus (simp (disch := omega) [hok]; done))
      | (refine AWP.if_f ?_ ?_; focus (simp (disch := omega) [hok]; done)))
  refine ⟨by simp, ?_⟩
  have hres : Try.f83.results.toList = [.cell 4 25, .tmp 5] := rfl
  rw [hres]
  simp (disch := omega) []
  refine fin1 (K + 1 + 1 + 10) (blkD ds) (by simp (disch := omega) only [upd_eq, upd_ne]) rfl (flatD _) ⟨?_, rfl⟩ (by omega) (by simp [resO, nms, nmss])
  simp [resO, ren, rens, rho]
set_option maxRecDepth 10000 in
set_option maxHeartbeats 1000000 in
theorem kept_c (σ : Sto) (ν : Nat) (x : AV) (ds : List Df) (bd : Int) (hx : Sl σ x 2 (rowsD ds)) (hlen : ds.length ≤ 4294967296) (hsz : ∀ d ∈ ds, d.1.size ≤ 9223372036854775807) (hok : okFl ds bd = true) :
    AC Try.prog 31 [.agg [x, .v (.int .i64 bd)]] σ ν fun r δ => r = .agg [.sl ν 0 ds.length (some ds.length) 2, .v (.int .i64 3)] ∧ δ = upd noS ν (blkD ds) := by
  obtain ⟨bk, o, cap, z, rfl⟩ := hx.out
  refine AC.intro [] ent_31 Try.func31 rfl (by simp [Try.f31]) (by simp) ?_
  intro K s hs hB hn hν hA hFr
  simp only [argT, Nat.zero_add, Nat.reduceAdd]
  have hx' := hx.vw hs.vw
  have hbK : bk < K := hA bk (by simp [nmAs, nmA])
  repeat' (first
    | refine AWP.seq ?_
    | refine AWP.block ?_
    | (refine AWP.skip ?_; simp only [thenA, blockA, reduceIte])
    | (refine AWP.exit ?_; simp only [thenA, blockA, eq_self, reduceIte, Nat.reduceEqDiff, Nat.succ_ne_zero])
    | (refine AWP.ret ?_; simp only [thenA, blockA, reduceIte])
    | (refine AWP.region (by rfl) (fun KK hKK => ?_); (repeat (simp (disch := omega) [])); first | (refine hKK _ _ _ ?_; clear hKK KK; simp only [thenA, blockA, reduceIte]) | skip)
    | (refine AWP.if_t ?_ ?_; focus (simp (disch := omega) []; done))
    | (refine AWP.if_f ?_ ?_; focus (simp (disch := omega) []; done)))
  refine aStop_of (withBound_c _ _ _ ds bd 3 (hx'.vw ((Vw.refl _).over (by repeat (first | exact Over.refl _ | exact hov | refine Over.upd ?_ hB (by omega) | refine Over.del ?_ hB (by omega))))) hlen hsz hok (by omega)) ?_
  rintro r δ ⟨rfl, rfl⟩
  (repeat (simp (disch := omega) []))
  first | (refine hKK _ _ _ ?_; clear hKK KK; simp only [thenA, blockA, reduceIte]) | skip
  repeat' (first
    | refine AWP.seq ?_
    | refine AWP.block ?_
    | (refine AWP.skip ?_; simp only [thenA, blockA, reduceIte])
    | (refine AWP.exit ?_; simp only [thenA, blockA, eq_self, reduceIte, Nat.reduceEqDiff, Nat.succ_ne_zero])
    | (refine AWP.ret ?_; simp only [thenA, blockA, reduceIte])
    | (refine AWP.region (by rfl) (fun KK hKK => ?_); (repeat (simp (disch := omega) [])); first | (refine hKK _ _ _ ?_; clear hKK KK; simp only [thenA, blockA, reduceIte]) | skip)
    | (refine AWP.if_t ?_ ?_; focus (simp (disch := omega) []; done))
    | (refine AWP.if_f ?_ ?_; focus (simp (disch := omega) []; done)))
  refine ⟨by simp, ?_⟩
  have hres : Try.f31.results.toList = [.cell 2 25] := rfl
  rw [hres]
  simp (disch := omega) []
  refine fin1 (K + 1 + 1) (blkD ds) (by simp (disch := omega) only [upd_eq, upd_ne]) rfl (flatD _) ⟨?_, rfl⟩ (by omega) (by simp [resO, nms, nmss])
  simp [resO, ren, rens, rho]
end Go.Proofs.Ytbdehnjbglpfjaa
