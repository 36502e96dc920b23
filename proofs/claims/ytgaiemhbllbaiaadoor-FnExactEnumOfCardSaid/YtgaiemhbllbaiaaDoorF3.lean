/- Contracts: classes of flags, in the program and in the reference. No condition but sizes. -/
import Derived.Test.YtgaiemhbllbaiaaDoorF2
import Derived.Test.YtgaiemhbllbaiaaDoorLC
set_option linter.unusedSimpArgs false
set_option linter.unusedVariables false
namespace Go.Proofs.YtgaiemhbllbaiaaDoor
open Go Go.RowKit

def okFl (ds : List Df) (bd : Int) : Bool := okDs 0 4095 ds && decide (0 ≤ bd ∧ bd ≤ 3)
theorem okDs_rg {lo hi : Int} {ds : List Df} (h : okDs lo hi ds = true) : ∀ d ∈ ds, lo ≤ d.2 ∧ d.2 ≤ hi := fun d hd => by
  obtain ⟨i, hi', rfl⟩ := List.mem_iff_getElem.1 hd
  obtain ⟨_, a, b, _⟩ := okDs_at h hi'
  exact ⟨a, b⟩
theorem okFl_ok {ds : List Df} {bd : Int} (h : okFl ds bd = true) : okDs 0 4095 ds = true ∧ 0 ≤ bd ∧ bd ≤ 3 := by
  simp only [okFl, Bool.and_eq_true, decide_eq_true_eq] at h
  exact ⟨h.1, h.2.1, h.2.2⟩
theorem okFl_rg {ds : List Df} {bd : Int} (h : okFl ds bd = true) : ∀ d ∈ ds, 0 ≤ d.2 ∧ d.2 ≤ 4095 := okDs_rg (okFl_ok h).1
theorem okFl_lt {ds : List Df} {bd : Int} (h : okFl ds bd = true) : mkN ds < 4096 := mkN_lt ds (okFl_rg h)

set_option maxRecDepth 10000 in
set_option maxHeartbeats 400000 in
theorem validFlag_c (σ : Sto) (ν : Nat) (x : AV) (ds : List Df) (bd : Int) (hx : Sl σ x 2 (rowsD ds)) (hlen : ds.length ≤ 9223372036854775807) (hsz : ∀ d ∈ ds, d.1.size ≤ 9223372036854775807) :
    AC Tryd.prog 18 [.agg [x, .v (.int .i64 bd)]] σ ν fun r δ => r = .v (.bool (okFl ds bd)) ∧ δ = noS := by
  obtain ⟨b, o, cap, z, rfl⟩ := hx.out
  refine AC.intro [] ent_18 Tryd.func18 rfl (by simp [Tryd.f18]) (by simp) ?_
  intro K s hs hB hn hν hA hFr
  simp only [argT, Nat.zero_add, Nat.reduceAdd]
  have hx' := hx.vw hs.vw
  repeat' (first
    | refine AWP.seq ?_
    | refine AWP.block ?_
    | (refine AWP.skip ?_; simp only [thenA, blockA, reduceIte])
    | (refine AWP.exit ?_; simp only [thenA, blockA, eq_self, reduceIte, Nat.reduceEqDiff, Nat.succ_ne_zero])
    | (refine AWP.ret ?_; simp only [thenA, blockA, reduceIte])
    | (refine AWP.region (by rfl) (fun KK hKK => ?_); (repeat (simp (disch := omega) [])); first | (refine hKK _ _ _ ?_; clear hKK KK; simp only [thenA, blockA, reduceIte]) | skip)
    | (refine AWP.if_t ?_ ?_; focus (simp (disch := omega) []; done))
    | (refine AWP.if_f ?_ ?_; focus (simp (disch := omega) []; done)))
  cases hok : okDs 0 4095 ds with
  | false =>
    refine aStop_of (defsValid_c _ _ _ ds 0 4095 (hx'.vw ((Vw.refl _).over (by repeat (first | exact Over.refl _ | exact hov | refine Over.upd ?_ hB (by omega) | refine Over.del ?_ hB (by omega))))) hlen hsz) ?_
    rintro r δ ⟨rfl, rfl⟩
    (repeat (simp (disch := omega) [hok]))
    first | (refine hKK _ _ _ ?_; clear hKK KK; simp only [thenA, blockA, reduceIte]) | skip
    repeat' (first
      | refine AWP.seq ?_
      | refine AWP.block ?_
      | (refine AWP.skip ?_; simp only [thenA, blockA, reduceIte])
      | (refine AWP.exit ?_; simp only [thenA, blockA, eq_self, reduceIte, Nat.reduceEqDiff, Nat.succ_ne_zero])
      | (refine AWP.ret ?_; simp only [thenA, blockA, reduceIte])
      | (refine AWP.region (by rfl) (fun KK hKK => ?_); (repeat (simp (disch := omega) [])); first | (refine hKK _ _ _ ?_; clear hKK KK; simp only [thenA, blockA, reduceIte]) | skip)
      | (refine AWP.if_t ?_ ?_; focus (simp (disch := omega) []; done))
      | (refine AWP.if_f ?_ ?_; focus (simp (disch := omega) []; done)))
    refine ⟨by simp, _, rfl, fin0 ⟨?_, rfl⟩ (by simp [resO, get, nms, nmss]; try (simp [nms, nmss] at hn; simp_all))⟩
    simp [resO, get, ren, rens, okFl, hok]
  | true =>
    refine aStop_of (defsValid_c _ _ _ ds 0 4095 (hx'.vw ((Vw.refl _).over (by repeat (first | exact Over.refl _ | exact hov | refine Over.upd ?_ hB (by omega) | refine Over.del ?_ hB (by omega))))) hlen hsz) ?_
    rintro r δ ⟨rfl, rfl⟩
    (repeat (simp (disch := omega) [hok]))
    first | (refine hKK _ _ _ ?_; clear hKK KK; simp only [thenA, blockA, reduceIte]) | skip
    refine aStop_of (in_c _ _ _ _ _) ?_
    rintro r δ ⟨rfl, rfl⟩
    (repeat (simp (disch := omega) []))
    first | (refine hKK _ _ _ ?_; clear hKK KK; simp only [thenA, blockA, reduceIte]) | skip
    repeat' (first
      | refine AWP.seq ?_
      | refine AWP.block ?_
      | (refine AWP.skip ?_; simp only [thenA, blockA, reduceIte])
      | (refine AWP.exit ?_; simp only [thenA, blockA, eq_self, reduceIte, Nat.reduceEqDiff, Nat.succ_ne_zero])
      | (refine AWP.ret ?_; simp only [thenA, blockA, reduceIte])
      | (refine AWP.region (by rfl) (fun KK hKK => ?_); (repeat (simp (disch := omega) [])); first | (refine hKK _ _ _ ?_; clear hKK KK; simp only [thenA, blockA, reduceIte]) | skip)
      | (refine AWP.if_t ?_ ?_; focus (simp (disch := omega) []; done))
      | (refine AWP.if_f ?_ ?_; focus (simp (disch := omega) []; done)))
    refine ⟨by simp, _, rfl, fin0 ⟨?_, rfl⟩ (by simp [resO, get, nms, nmss]; try (simp [nms, nmss] at hn; simp_all))⟩
    simp [resO, get, ren, rens, okFl, hok]
set_option maxRecDepth 10000 in
set_option maxHeartbeats 400000 in
theorem validFlagS_c (σ : Sto) (ν : Nat) (x : AV) (ds : List Df) (bd : Int) (hx : Sl σ x 2 (rowsD ds)) (hlen : ds.length ≤ 9223372036854775807) (hsz : ∀ d ∈ ds, d.1.size ≤ 9223372036854775807) :
    AC Tryd.prog 14 [.agg [x, .v (.int .i64 bd)]] σ ν fun r δ => r = .v (.bool (okFl ds bd)) ∧ δ = noS := by
  obtain ⟨b, o, cap, z, rfl⟩ := hx.out
  refine AC.intro [] ent_14 Tryd.func14 rfl (by simp [Tryd.f14]) (by simp) ?_
  intro K s hs hB hn hν hA hFr
  simp only [argT, Nat.zero_add, Nat.reduceAdd]
  have hx' := hx.vw hs.vw
  repeat' (first
    | refine AWP.seq ?_
    | refine AWP.block ?_
    | (refine AWP.skip ?_; simp only [thenA, blockA, reduceIte])
    | (refine AWP.exit ?_; simp only [thenA, blockA, eq_self, reduceIte, Nat.reduceEqDiff, Nat.succ_ne_zero])
    | (refine AWP.ret ?_; simp only [thenA, blockA, reduceIte])
    | (refine AWP.region (by rfl) (fun KK hKK => ?_); (repeat (simp (disch := omega) [])); first | (refine hKK _ _ _ ?_; clear hKK KK; simp only [thenA, blockA, reduceIte]) | skip)
    | (refine AWP.if_t ?_ ?_; focus (simp (disch := omega) []; done))
    | (refine AWP.if_f ?_ ?_; focus (simp (disch := omega) []; done)))
  cases hok : okDs 0 4095 ds with
  | false =>
    refine aStop_of (validDefs_c _ _ _ ds 0 4095 (hx'.vw ((Vw.refl _).over (by repeat (first | exact Over.refl _ | exact hov | refine Over.upd ?_ hB (by omega) | refine Over.del ?_ hB (by omega))))) hlen hsz) ?_
    rintro r δ ⟨rfl, rfl⟩
    (repeat (simp (disch := omega) [hok]))
    first | (refine hKK _ _ _ ?_; clear hKK KK; simp only [thenA, blockA, reduceIte]) | skip
    repeat' (first
      | refine AWP.seq ?_
      | refine AWP.block ?_
      | (refine AWP.skip ?_; simp only [thenA, blockA, reduceIte])
      | (refine AWP.exit ?_; simp only [thenA, blockA, eq_self, reduceIte, Nat.reduceEqDiff, Nat.succ_ne_zero])
      | (refine AWP.ret ?_; simp only [thenA, blockA, reduceIte])
      | (refine AWP.region (by rfl) (fun KK hKK => ?_); (repeat (simp (disch := omega) [])); first | (refine hKK _ _ _ ?_; clear hKK KK; simp only [thenA, blockA, reduceIte]) | skip)
      | (refine AWP.if_t ?_ ?_; focus (simp (disch := omega) []; done))
      | (refine AWP.if_f ?_ ?_; focus (simp (disch := omega) []; done)))
    refine ⟨by simp, _, rfl, fin0 ⟨?_, rfl⟩ (by simp [resO, get, nms, nmss]; try (simp [nms, nmss] at hn; simp_all))⟩
    simp [resO, get, ren, rens, okFl, hok]
  | true =>
    refine aStop_of (validDefs_c _ _ _ ds 0 4095 (hx'.vw ((Vw.refl _).over (by repeat (first | exact Over.refl _ | exact hov | refine Over.upd ?_ hB (by omega) | refine Over.del ?_ hB (by omega))))) hlen hsz) ?_
    rintro r δ ⟨rfl, rfl⟩
    (repeat (simp (disch := omega) [hok]))
    first | (refine hKK _ _ _ ?_; clear hKK KK; simp only [thenA, blockA, reduceIte]) | skip
    refine aStop_of (inRange_c _ _ _ _ _) ?_
    rintro r δ ⟨rfl, rfl⟩
    (repeat (simp (disch := omega) []))
    first | (refine hKK _ _ _ ?_; clear hKK KK; simp only [thenA, blockA, reduceIte]) | skip
    repeat' (first
      | refine AWP.seq ?_
      | refine AWP.block ?_
      | (refine AWP.skip ?_; simp only [thenA, blockA, reduceIte])
      | (refine AWP.exit ?_; simp only [thenA, blockA, eq_self, reduceIte, Nat.reduceEqDiff, Nat.succ_ne_zero])
      | (refine AWP.ret ?_; simp only [thenA, blockA, reduceIte])
      | (refine AWP.region (by rfl) (fun KK hKK => ?_); (repeat (simp (disch := omega) [])); first | (refine hKK _ _ _ ?_; clear hKK KK; simp only [thenA, blockA, reduceIte]) | skip)
      | (refine AWP.if_t ?_ ?_; focus (simp (disch := omega) []; done))
      | (refine AWP.if_f ?_ ?_; focus (simp (disch := omega) []; done)))
    refine ⟨by simp, _, rfl, fin0 ⟨?_, rfl⟩ (by simp [resO, get, nms, nmss]; try (simp [nms, nmss] at hn; simp_all))⟩
    simp [resO, get, ren, rens, okFl, hok]

theorem u64_sm (n : Int) (h1 : 0 ≤ n) (h2 : n < 18446744073709551616) : IntKind.wrap .u64 n = n := by rw [IntKind.wrap_u64]; omega
theorem u8_sm (n : Int) (h1 : 0 ≤ n) (h2 : n < 256) : IntKind.wrap .u8 n = n := by rw [IntKind.wrap_u8]; omega
/-- The lengths of the numbers of eight bits. -/
abbrev lnT : ByteArray := ⟨#[0, 1, 2, 2, 3, 3, 3, 3, 4, 4, 4, 4, 4, 4, 4, 4, 5, 5, 5, 5, 5, 5, 5, 5, 5, 5, 5, 5, 5, 5, 5, 5, 6, 6, 6, 6, 6, 6, 6, 6, 6, 6, 6, 6, 6, 6, 6, 6, 6, 6, 6, 6, 6, 6, 6, 6, 6, 6, 6, 6, 6, 6, 6, 6, 7, 7, 7, 7, 7, 7, 7, 7, 7, 7, 7, 7, 7, 7, 7, 7, 7, 7, 7, 7, 7, 7, 7, 7, 7, 7, 7, 7, 7, 7, 7, 7, 7, 7, 7, 7, 7, 7, 7, 7, 7, 7, 7, 7, 7, 7, 7, 7, 7, 7, 7, 7, 7, 7, 7, 7, 7, 7, 7, 7, 7, 7, 7, 7, 8, 8, 8, 8, 8, 8, 8, 8, 8, 8, 8, 8, 8, 8, 8, 8, 8, 8, 8, 8, 8, 8, 8, 8, 8, 8, 8, 8, 8, 8, 8, 8, 8, 8, 8, 8, 8, 8, 8, 8, 8, 8, 8, 8, 8, 8, 8, 8, 8, 8, 8, 8, 8, 8, 8, 8, 8, 8, 8, 8, 8, 8, 8, 8, 8, 8, 8, 8, 8, 8, 8, 8, 8, 8, 8, 8, 8, 8, 8, 8, 8, 8, 8, 8, 8, 8, 8, 8, 8, 8, 8, 8, 8, 8, 8, 8, 8, 8, 8, 8, 8, 8, 8, 8, 8, 8, 8, 8, 8, 8, 8, 8, 8, 8, 8, 8, 8, 8, 8, 8, 8, 8, 8, 8, 8, 8, 8, 8]⟩
theorem lnT_at {i : Nat} (h : i < 256) : lnT[i]? = some (UInt8.ofNat (lnN i)) := by
  have hk : ∀ a < 16, ∀ b < 16, lnT[16 * a + b]? = some (UInt8.ofNat (lnN (16 * a + b))) := by decide +kernel
  have h2 := hk (i / 16) (by omega) (i % 16) (by omega)
  rwa [show 16 * (i / 16) + i % 16 = i by omega] at h2
theorem lnN_hi {m : Nat} (h : 256 ≤ m) : lnN m = lnN (m / 256) + 8 := by
  have h1 : ∀ k, lnN m ≤ k + 8 ↔ lnN (m / 256) ≤ k := fun k => by
    rw [lnN_le, lnN_le, Nat.pow_add]
    omega
  have h2 := (h1 (lnN (m / 256))).2 (Nat.le_refl _)
  have h3 : 8 ≤ lnN m := by
    rcases Nat.lt_or_ge (lnN m) 8 with h3 | h3
    · have := lnN_le.1 (show lnN m ≤ 7 by omega)
      omega
    · exact h3
  have h4 := (h1 (lnN m - 8)).1 (by omega)
  omega
theorem u8_nat {k : Nat} (h : k < 256) : ((UInt8.ofNat k).toNat : Int) = k := by
  rw [UInt8.toNat_ofNat']; omega

/-- The steps of Go's count of bits. -/
abbrev pcA (k : Nat) (x : Int) : Int := x.fdiv (2 ^ min k IntKind.u64.bits)
def pc1 (m : Int) : Int := IntKind.u64.wrap (bits .and .u64 (pcA 1 m) 6148914691236517205 + bits .and .u64 m 6148914691236517205)
def pc2 (x : Int) : Int := IntKind.u64.wrap (bits .and .u64 (pcA 2 x) 3689348814741910323 + bits .and .u64 x 3689348814741910323)
def pc3 (x : Int) : Int := bits .and .u64 (IntKind.u64.wrap (pcA 4 x + x)) 1085102592571150095
def pc4 (x : Int) : Int := IntKind.u64.wrap (x + pcA 8 x)
def pc5 (x : Int) : Int := IntKind.u64.wrap (x + pcA 16 x)
def pc6 (x : Int) : Int := IntKind.u64.wrap (x + pcA 32 x)
def pc7 (x : Int) : Int := bits .and .i64 (IntKind.i64.wrap x) 127
theorem pc_all {m : Nat} (h : m < 4096) : pc7 (pc6 (pc5 (pc4 (pc3 (pc2 (pc1 m)))))) = (pcN m : Int) := by
  have hk : ∀ a < 64, ∀ b < 64, pc7 (pc6 (pc5 (pc4 (pc3 (pc2 (pc1 ((64 * a + b : Nat) : Int))))))) = (pcN (64 * a + b) : Int) := by decide +kernel
  have h2 := hk (m / 64) (by omega) (m % 64) (by omega)
  rwa [show 64 * (m / 64) + m % 64 = m by omega] at h2
set_option maxRecDepth 10000 in
set_option maxHeartbeats 2000000 in
theorem onesCount64_c (σ : Sto) (ν : Nat) (m : Nat) (hm : m < 4096) :
    AC Tryd.prog 41 [.v (.int .u64 m)] σ ν fun r δ => r = .v (.int .i64 (pcN m)) ∧ δ = noS := by
  refine AC.intro [] ent_41 Tryd.func41 rfl (by simp [Tryd.f41]) (by simp) ?_
  intro K s hs hB hn hν hA hFr
  simp only [argT, Nat.zero_add, Nat.reduceAdd]
  repeat' (first
    | refine AWP.seq ?_
    | refine AWP.block ?_
    | (refine AWP.skip ?_; simp only [thenA, blockA, reduceIte])
    | (refine AWP.exit ?_; simp only [thenA, blockA, eq_self, reduceIte, Nat.reduceEqDiff, Nat.succ_ne_zero])
    | (refine AWP.ret ?_; simp only [thenA, blockA, reduceIte])
    | (refine AWP.region (by rfl) (fun KK hKK => ?_); (repeat (simp (disch := omega) [])); first | (refine hKK _ _ _ ?_; clear hKK KK; simp only [thenA, blockA, reduceIte]) | skip)
    | (refine AWP.if_t ?_ ?_; focus (simp (disch := omega) []; done))
    | (refine AWP.if_f ?_ ?_; focus (simp (disch := omega) []; done)))
  refine ⟨by simp, _, rfl, fin0 ⟨?_, rfl⟩ (by simp [resO, get, nms, nmss]; try (simp [nms, nmss] at hn; simp_all))⟩
  simp [resO, get, ren, rens]
  exact pc_all hm
set_option maxRecDepth 10000 in
set_option maxHeartbeats 400000 in
theorem onesCount_c (σ : Sto) (ν : Nat) (m : Nat) (hm : m < 4096) :
    AC Tryd.prog 31 [.v (.int .u64 m)] σ ν fun r δ => r = .v (.int .i64 (pcN m)) ∧ δ = noS := by
  refine AC.intro [] ent_31 Tryd.func31 rfl (by simp [Tryd.f31]) (by simp) ?_
  intro K s hs hB hn hν hA hFr
  simp only [argT, Nat.zero_add, Nat.reduceAdd]
  repeat' (first
    | refine AWP.seq ?_
    | refine AWP.block ?_
    | (refine AWP.skip ?_; simp only [thenA, blockA, reduceIte])
    | (refine AWP.exit ?_; simp only [thenA, blockA, eq_self, reduceIte, Nat.reduceEqDiff, Nat.succ_ne_zero])
    | (refine AWP.ret ?_; simp only [thenA, blockA, reduceIte])
    | (refine AWP.region (by rfl) (fun KK hKK => ?_); (repeat (simp (disch := omega) [])); first | (refine hKK _ _ _ ?_; clear hKK KK; simp only [thenA, blockA, reduceIte]) | skip)
    | (refine AWP.if_t ?_ ?_; focus (simp (disch := omega) []; done))
    | (refine AWP.if_f ?_ ?_; focus (simp (disch := omega) []; done)))
  refine aStop_of (onesCount64_c _ _ m hm) ?_
  rintro r δ ⟨rfl, rfl⟩
  (repeat (simp (disch := omega) []))
  first | (refine hKK _ _ _ ?_; clear hKK KK; simp only [thenA, blockA, reduceIte]) | skip
  repeat' (first
    | refine AWP.seq ?_
    | refine AWP.block ?_
    | (refine AWP.skip ?_; simp only [thenA, blockA, reduceIte])
    | (refine AWP.exit ?_; simp only [thenA, blockA, eq_self, reduceIte, Nat.reduceEqDiff, Nat.succ_ne_zero])
    | (refine AWP.ret ?_; simp only [thenA, blockA, reduceIte])
    | (refine AWP.region (by rfl) (fun KK hKK => ?_); (repeat (simp (disch := omega) [])); first | (refine hKK _ _ _ ?_; clear hKK KK; simp only [thenA, blockA, reduceIte]) | skip)
    | (refine AWP.if_t ?_ ?_; focus (simp (disch := omega) []; done))
    | (refine AWP.if_f ?_ ?_; focus (simp (disch := omega) []; done)))
  refine ⟨by simp, _, rfl, fin0 ⟨?_, rfl⟩ (by simp [resO, get, nms, nmss]; try (simp [nms, nmss] at hn; simp_all))⟩
  simp [resO, get, ren, rens]

set_option maxRecDepth 10000 in
set_option maxHeartbeats 400000 in
theorem single_c (σ : Sto) (ν : Nat) (m : Nat) (hm : m < 4096) :
    AC Tryd.prog 19 [.v (.int .i64 m)] σ ν fun r δ => r = .v (.bool (decide (pcN m = 1))) ∧ δ = noS := by
  refine AC.intro [] ent_19 Tryd.func19 rfl (by simp [Tryd.f19]) (by simp) ?_
  intro K s hs hB hn hν hA hFr
  simp only [argT, Nat.zero_add, Nat.reduceAdd]
  have hu := u64_sm (m : Int) (by omega) (by omega)
  have hd : decide ((pcN m : Int) = 1) = decide (pcN m = 1) := by
    by_cases h : pcN m = 1
    · simp [h]
    · rw [decide_eq_false h, decide_eq_false (by omega)]
  repeat' (first
    | refine AWP.seq ?_
    | refine AWP.block ?_
    | (refine AWP.skip ?_; simp only [thenA, blockA, reduceIte])
    | (refine AWP.exit ?_; simp only [thenA, blockA, eq_self, reduceIte, Nat.reduceEqDiff, Nat.succ_ne_zero])
    | (refine AWP.ret ?_; simp only [thenA, blockA, reduceIte])
    | (refine AWP.region (by rfl) (fun KK hKK => ?_); (repeat (simp (disch := omega) [hu])); first | (refine hKK _ _ _ ?_; clear hKK KK; simp only [thenA, blockA, reduceIte]) | skip)
    | (refine AWP.if_t ?_ ?_; focus (simp (disch := omega) [hu]; done))
    | (refine AWP.if_f ?_ ?_; focus (simp (disch := omega) [hu]; done)))
  refine aStop_of (onesCount_c _ _ m hm) ?_
  rintro r δ ⟨rfl, rfl⟩
  (repeat (simp (disch := omega) []))
  first | (refine hKK _ _ _ ?_; clear hKK KK; simp only [thenA, blockA, reduceIte]) | skip
  repeat' (first
    | refine AWP.seq ?_
    | refine AWP.block ?_
    | (refine AWP.skip ?_; simp only [thenA, blockA, reduceIte])
    | (refine AWP.exit ?_; simp only [thenA, blockA, eq_self, reduceIte, Nat.reduceEqDiff, Nat.succ_ne_zero])
    | (refine AWP.ret ?_; simp only [thenA, blockA, reduceIte])
    | (refine AWP.region (by rfl) (fun KK hKK => ?_); (repeat (simp (disch := omega) [])); first | (refine hKK _ _ _ ?_; clear hKK KK; simp only [thenA, blockA, reduceIte]) | skip)
    | (refine AWP.if_t ?_ ?_; focus (simp (disch := omega) []; done))
    | (refine AWP.if_f ?_ ?_; focus (simp (disch := omega) []; done)))
  refine ⟨by simp, _, rfl, fin0 ⟨?_, rfl⟩ (by simp [resO, get, nms, nmss]; try (simp [nms, nmss] at hn; simp_all))⟩
  simp [resO, get, ren, rens, hd]

/-- The bits of which values that are inverted are made. -/
def whN (ds : List Df) (bd : Int) : Nat := if bd = 3 then hiN (mkN ds) else mkN ds
theorem whN_lt {ds : List Df} {bd : Int} (hv : ∀ d ∈ ds, 0 ≤ d.2 ∧ d.2 ≤ 4095) : whN ds bd < 4096 := by
  have h := mkN_lt ds hv
  unfold whN
  split
  · exact (hiN_lt h).1
  · exact h
/-- Values of a class. -/
def isv (ds : List Df) (bd n : Int) : Bool := okFl ds bd && decide (0 ≤ n ∧ n ≤ 4095) && (decide (bd = 3) || decide (n.toNat - (n.toNat &&& mkN ds) = 0))
end Go.Proofs.YtgaiemhbllbaiaaDoor
