/- Go's count of trailing zeros, for powers of two below 4096. The condition: the table of the package reads as it is laid (Side). -/
import Derived.Test.YtgaiemhbllbaiaaDoorTz
import Derived.Test.YtgaiemhbllbaiaaDoorF3
import Derived.Test.YtgaiemhbllbaiaaDoorLC
set_option linter.unusedSimpArgs false
set_option linter.unusedVariables false
namespace Go.Proofs.YtgaiemhbllbaiaaDoor
open Go Go.RowKit

abbrev tzT : List (Nat × Value) := [(0, .int .u8 0), (1, .int .u8 1), (3, .int .u8 2), (7, .int .u8 3), (15, .int .u8 4), (31, .int .u8 5), (63, .int .u8 6), (62, .int .u8 7), (61, .int .u8 8), (59, .int .u8 9), (55, .int .u8 10), (47, .int .u8 11)]
set_option maxRecDepth 10000 in
set_option maxHeartbeats 2000000 in
theorem tz64_0 [Side] (hS : TabHas 1 tzT) (σ : Sto) (ν : Nat) :
    AC Tryd.prog 33 [.v (.int .u64 1)] σ ν fun r δ => r = .v (.int .i64 0) ∧ δ = noS := by
  refine AC.intro [] ent_33 Tryd.func33 rfl (by simp [Tryd.f33]) (by simp) ?_
  intro K s hs hB hn hν hA hFr
  simp only [argT, Nat.zero_add, Nat.reduceAdd]
  repeat' (first
    | refine AWP.seq ?_
    | refine AWP.block ?_
    | (refine AWP.skip ?_; simp only [thenA, blockA, reduceIte])
    | (refine AWP.exit ?_; simp only [thenA, blockA, eq_self, reduceIte, Nat.reduceEqDiff, Nat.succ_ne_zero])
    | (refine AWP.ret ?_; simp only [thenA, blockA, reduceIte])
    | (refine AWP.table (di := 11) (dl := 12) (jt := 10) (t := 64) (te := 5) (len := 64) 1 tzT hS [_, _, _, _, _, _] [_, _] _ _ ?_ rfl ?_ ?_ ?_ ?_ ?_ (fun KK hKK => ?_); (focus rfl); (focus (exact ⟨rfl, rfl, rfl⟩)); (focus (exact ⟨rfl, rfl, rfl⟩)); (focus kernel_rfl); (focus kernel_rfl); (focus kernel_rfl); (repeat (simp (disch := omega) [])))
    | (refine AWP.region (by rfl) (fun KK hKK => ?_); (repeat (simp (disch := omega) [])); first | (refine hKK _ _ _ ?_; clear hKK KK; simp only [thenA, blockA, reduceIte]) | skip)
    | (refine AWP.if_t ?_ ?_; focus (simp (disch := omega) []; done))
    | (refine AWP.if_f ?_ ?_; focus (simp (disch := omega) []; done)))
  refine ⟨_, 0, ⟨rfl, by decide⟩, by omega, _, by simp; rfl, ?_⟩
  (repeat (simp (disch := omega)))
  first | (refine hKK _ _ _ ?_; clear hKK KK; simp only [thenA, blockA, reduceIte]) | skip
  repeat' (first
    | refine AWP.seq ?_
    | refine AWP.block ?_
    | (refine AWP.skip ?_; simp only [thenA, blockA, reduceIte])
    | (refine AWP.exit ?_; simp only [thenA, blockA, eq_self, reduceIte, Nat.reduceEqDiff, Nat.succ_ne_zero])
    | (refine AWP.ret ?_; simp only [thenA, blockA, reduceIte])
    | (refine AWP.region (by rfl) (fun KK hKK => ?_); (repeat (simp (disch := omega) [])); first | (refine hKK _ _ _ ?_; clear hKK KK; simp only [thenA, blockA, reduceIte]) | skip)
    | (refine AWP.if_t ?_ ?_; focus (simp (disch := omega) []; done))
    | (refine AWP.if_f ?_ ?_; focus (simp (disch := omega) []; done)))
  refine ⟨by simp, _, rfl, fin0 ⟨?_, rfl⟩ (by simp [resO, get, nms, nmss]; try (simp [nms, nmss] at hn; simp_all))⟩
  simp [resO, get, ren, rens]
set_option maxRecDepth 10000 in
set_option maxHeartbeats 2000000 in
theorem tz64_1 [Side] (hS : TabHas 1 tzT) (σ : Sto) (ν : Nat) :
    AC Tryd.prog 33 [.v (.int .u64 2)] σ ν fun r δ => r = .v (.int .i64 1) ∧ δ = noS := by
  refine AC.intro [] ent_33 Tryd.func33 rfl (by simp [Tryd.f33]) (by simp) ?_
  intro K s hs hB hn hν hA hFr
  simp only [argT, Nat.zero_add, Nat.reduceAdd]
  repeat' (first
    | refine AWP.seq ?_
    | refine AWP.block ?_
    | (refine AWP.skip ?_; simp only [thenA, blockA, reduceIte])
    | (refine AWP.exit ?_; simp only [thenA, blockA, eq_self, reduceIte, Nat.reduceEqDiff, Nat.succ_ne_zero])
    | (refine AWP.ret ?_; simp only [thenA, blockA, reduceIte])
    | (refine AWP.table (di := 11) (dl := 12) (jt := 10) (t := 64) (te := 5) (len := 64) 1 tzT hS [_, _, _, _, _, _] [_, _] _ _ ?_ rfl ?_ ?_ ?_ ?_ ?_ (fun KK hKK => ?_); (focus rfl); (focus (exact ⟨rfl, rfl, rfl⟩)); (focus (exact ⟨rfl, rfl, rfl⟩)); (focus kernel_rfl); (focus kernel_rfl); (focus kernel_rfl); (repeat (simp (disch := omega) [])))
    | (refine AWP.region (by rfl) (fun KK hKK => ?_); (repeat (simp (disch := omega) [])); first | (refine hKK _ _ _ ?_; clear hKK KK; simp only [thenA, blockA, reduceIte]) | skip)
    | (refine AWP.if_t ?_ ?_; focus (simp (disch := omega) []; done))
    | (refine AWP.if_f ?_ ?_; focus (simp (disch := omega) []; done)))
  refine ⟨_, 1, ⟨rfl, by decide⟩, by omega, _, by simp; rfl, ?_⟩
  (repeat (simp (disch := omega)))
  first | (refine hKK _ _ _ ?_; clear hKK KK; simp only [thenA, blockA, reduceIte]) | skip
  repeat' (first
    | refine AWP.seq ?_
    | refine AWP.block ?_
    | (refine AWP.skip ?_; simp only [thenA, blockA, reduceIte])
    | (refine AWP.exit ?_; simp only [thenA, blockA, eq_self, reduceIte, Nat.reduceEqDiff, Nat.succ_ne_zero])
    | (refine AWP.ret ?_; simp only [thenA, blockA, reduceIte])
    | (refine AWP.region (by rfl) (fun KK hKK => ?_); (repeat (simp (disch := omega) [])); first | (refine hKK _ _ _ ?_; clear hKK KK; simp only [thenA, blockA, reduceIte]) | skip)
    | (refine AWP.if_t ?_ ?_; focus (simp (disch := omega) []; done))
    | (refine AWP.if_f ?_ ?_; focus (simp (disch := omega) []; done)))
  refine ⟨by simp, _, rfl, fin0 ⟨?_, rfl⟩ (by simp [resO, get, nms, nmss]; try (simp [nms, nmss] at hn; simp_all))⟩
  simp [resO, get, ren, rens]
set_option maxRecDepth 10000 in
set_option maxHeartbeats 2000000 in
theorem tz64_2 [Side] (hS : TabHas 1 tzT) (σ : Sto) (ν : Nat) :
    AC Tryd.prog 33 [.v (.int .u64 4)] σ ν fun r δ => r = .v (.int .i64 2) ∧ δ = noS := by
  refine AC.intro [] ent_33 Tryd.func33 rfl (by simp [Tryd.f33]) (by simp) ?_
  intro K s hs hB hn hν hA hFr
  simp only [argT, Nat.zero_add, Nat.reduceAdd]
  repeat' (first
    | refine AWP.seq ?_
    | refine AWP.block ?_
    | (refine AWP.skip ?_; simp only [thenA, blockA, reduceIte])
    | (refine AWP.exit ?_; simp only [thenA, blockA, eq_self, reduceIte, Nat.reduceEqDiff, Nat.succ_ne_zero])
    | (refine AWP.ret ?_; simp only [thenA, blockA, reduceIte])
    | (refine AWP.table (di := 11) (dl := 12) (jt := 10) (t := 64) (te := 5) (len := 64) 1 tzT hS [_, _, _, _, _, _] [_, _] _ _ ?_ rfl ?_ ?_ ?_ ?_ ?_ (fun KK hKK => ?_); (focus rfl); (focus (exact ⟨rfl, rfl, rfl⟩)); (focus (exact ⟨rfl, rfl, rfl⟩)); (focus kernel_rfl); (focus kernel_rfl); (focus kernel_rfl); (repeat (simp (disch := omega) [])))
    | (refine AWP.region (by rfl) (fun KK hKK => ?_); (repeat (simp (disch := omega) [])); first | (refine hKK _ _ _ ?_; clear hKK KK; simp only [thenA, blockA, reduceIte]) | skip)
    | (refine AWP.if_t ?_ ?_; focus (simp (disch := omega) []; done))
    | (refine AWP.if_f ?_ ?_; focus (simp (disch := omega) []; done)))
  refine ⟨_, 3, ⟨rfl, by decide⟩, by omega, _, by simp; rfl, ?_⟩
  (repeat (simp (disch := omega)))
  first | (refine hKK _ _ _ ?_; clear hKK KK; simp only [thenA, blockA, reduceIte]) | skip
  repeat' (first
    | refine AWP.seq ?_
    | refine AWP.block ?_
    | (refine AWP.skip ?_; simp only [thenA, blockA, reduceIte])
    | (refine AWP.exit ?_; simp only [thenA, blockA, eq_self, reduceIte, Nat.reduceEqDiff, Nat.succ_ne_zero])
    | (refine AWP.ret ?_; simp only [thenA, blockA, reduceIte])
    | (refine AWP.region (by rfl) (fun KK hKK => ?_); (repeat (simp (disch := omega) [])); first | (refine hKK _ _ _ ?_; clear hKK KK; simp only [thenA, blockA, reduceIte]) | skip)
    | (refine AWP.if_t ?_ ?_; focus (simp (disch := omega) []; done))
    | (refine AWP.if_f ?_ ?_; focus (simp (disch := omega) []; done)))
  refine ⟨by simp, _, rfl, fin0 ⟨?_, rfl⟩ (by simp [resO, get, nms, nmss]; try (simp [nms, nmss] at hn; simp_all))⟩
  simp [resO, get, ren, rens]
set_option maxRecDepth 10000 in
set_option maxHeartbeats 2000000 in
theorem tz64_3 [Side] (hS : TabHas 1 tzT) (σ : Sto) (ν : Nat) :
    AC Tryd.prog 33 [.v (.int .u64 8)] σ ν fun r δ => r = .v (.int .i64 3) ∧ δ = noS := by
  refine AC.intro [] ent_33 Tryd.func33 rfl (by simp [Tryd.f33]) (by simp) ?_
  intro K s hs hB hn hν hA hFr
  simp only [argT, Nat.zero_add, Nat.reduceAdd]
  repeat' (first
    | refine AWP.seq ?_
    | refine AWP.block ?_
    | (refine AWP.skip ?_; simp only [thenA, blockA, reduceIte])
    | (refine AWP.exit ?_; simp only [thenA, blockA, eq_self, reduceIte, Nat.reduceEqDiff, Nat.succ_ne_zero])
    | (refine AWP.ret ?_; simp only [thenA, blockA, reduceIte])
    | (refine AWP.table (di := 11) (dl := 12) (jt := 10) (t := 64) (te := 5) (len := 64) 1 tzT hS [_, _, _, _, _, _] [_, _] _ _ ?_ rfl ?_ ?_ ?_ ?_ ?_ (fun KK hKK => ?_); (focus rfl); (focus (exact ⟨rfl, rfl, rfl⟩)); (focus (exact ⟨rfl, rfl, rfl⟩)); (focus kernel_rfl); (focus kernel_rfl); (focus kernel_rfl); (repeat (simp (disch := omega) [])))
    | (refine AWP.region (by rfl) (fun KK hKK => ?_); (repeat (simp (disch := omega) [])); first | (refine hKK _ _ _ ?_; clear hKK KK; simp only [thenA, blockA, reduceIte]) | skip)
    | (refine AWP.if_t ?_ ?_; focus (simp (disch := omega) []; done))
    | (refine AWP.if_f ?_ ?_; focus (simp (disch := omega) []; done)))
  refine ⟨_, 7, ⟨rfl, by decide⟩, by omega, _, by simp; rfl, ?_⟩
  (repeat (simp (disch := omega)))
  first | (refine hKK _ _ _ ?_; clear hKK KK; simp only [thenA, blockA, reduceIte]) | skip
  repeat' (first
    | refine AWP.seq ?_
    | refine AWP.block ?_
    | (refine AWP.skip ?_; simp only [thenA, blockA, reduceIte])
    | (refine AWP.exit ?_; simp only [thenA, blockA, eq_self, reduceIte, Nat.reduceEqDiff, Nat.succ_ne_zero])
    | (refine AWP.ret ?_; simp only [thenA, blockA, reduceIte])
    | (refine AWP.region (by rfl) (fun KK hKK => ?_); (repeat (simp (disch := omega) [])); first | (refine hKK _ _ _ ?_; clear hKK KK; simp only [thenA, blockA, reduceIte]) | skip)
    | (refine AWP.if_t ?_ ?_; focus (simp (disch := omega) []; done))
    | (refine AWP.if_f ?_ ?_; focus (simp (disch := omega) []; done)))
  refine ⟨by simp, _, rfl, fin0 ⟨?_, rfl⟩ (by simp [resO, get, nms, nmss]; try (simp [nms, nmss] at hn; simp_all))⟩
  simp [resO, get, ren, rens]
set_option maxRecDepth 10000 in
set_option maxHeartbeats 2000000 in
theorem tz64_4 [Side] (hS : TabHas 1 tzT) (σ : Sto) (ν : Nat) :
    AC Tryd.prog 33 [.v (.int .u64 16)] σ ν fun r δ => r = .v (.int .i64 4) ∧ δ = noS := by
  refine AC.intro [] ent_33 Tryd.func33 rfl (by simp [Tryd.f33]) (by simp) ?_
  intro K s hs hB hn hν hA hFr
  simp only [argT, Nat.zero_add, Nat.reduceAdd]
  repeat' (first
    | refine AWP.seq ?_
    | refine AWP.block ?_
    | (refine AWP.skip ?_; simp only [thenA, blockA, reduceIte])
    | (refine AWP.exit ?_; simp only [thenA, blockA, eq_self, reduceIte, Nat.reduceEqDiff, Nat.succ_ne_zero])
    | (refine AWP.ret ?_; simp only [thenA, blockA, reduceIte])
    | (refine AWP.table (di := 11) (dl := 12) (jt := 10) (t := 64) (te := 5) (len := 64) 1 tzT hS [_, _, _, _, _, _] [_, _] _ _ ?_ rfl ?_ ?_ ?_ ?_ ?_ (fun KK hKK => ?_); (focus rfl); (focus (exact ⟨rfl, rfl, rfl⟩)); (focus (exact ⟨rfl, rfl, rfl⟩)); (focus kernel_rfl); (focus kernel_rfl); (focus kernel_rfl); (repeat (simp (disch := omega) [])))
    | (refine AWP.region (by rfl) (fun KK hKK => ?_); (repeat (simp (disch := omega) [])); first | (refine hKK _ _ _ ?_; clear hKK KK; simp only [thenA, blockA, reduceIte]) | skip)
    | (refine AWP.if_t ?_ ?_; focus (simp (disch := omega) []; done))
    | (refine AWP.if_f ?_ ?_; focus (simp (disch := omega) []; done)))
  refine ⟨_, 15, ⟨rfl, by decide⟩, by omega, _, by simp; rfl, ?_⟩
  (repeat (simp (disch := omega)))
  first | (refine hKK _ _ _ ?_; clear hKK KK; simp only [thenA, blockA, reduceIte]) | skip
  repeat' (first
    | refine AWP.seq ?_
    | refine AWP.block ?_
    | (refine AWP.skip ?_; simp only [thenA, blockA, reduceIte])
    | (refine AWP.exit ?_; simp only [thenA, blockA, eq_self, reduceIte, Nat.reduceEqDiff, Nat.succ_ne_zero])
    | (refine AWP.ret ?_; simp only [thenA, blockA, reduceIte])
    | (refine AWP.region (by rfl) (fun KK hKK => ?_); (repeat (simp (disch := omega) [])); first | (refine hKK _ _ _ ?_; clear hKK KK; simp only [thenA, blockA, reduceIte]) | skip)
    | (refine AWP.if_t ?_ ?_; focus (simp (disch := omega) []; done))
    | (refine AWP.if_f ?_ ?_; focus (simp (disch := omega) []; done)))
  refine ⟨by simp, _, rfl, fin0 ⟨?_, rfl⟩ (by simp [resO, get, nms, nmss]; try (simp [nms, nmss] at hn; simp_all))⟩
  simp [resO, get, ren, rens]
set_option maxRecDepth 10000 in
set_option maxHeartbeats 2000000 in
theorem tz64_5 [Side] (hS : TabHas 1 tzT) (σ : Sto) (ν : Nat) :
    AC Tryd.prog 33 [.v (.int .u64 32)] σ ν fun r δ => r = .v (.int .i64 5) ∧ δ = noS := by
  refine AC.intro [] ent_33 Tryd.func33 rfl (by simp [Tryd.f33]) (by simp) ?_
  intro K s hs hB hn hν hA hFr
  simp only [argT, Nat.zero_add, Nat.reduceAdd]
  repeat' (first
    | refine AWP.seq ?_
    | refine AWP.block ?_
    | (refine AWP.skip ?_; simp only [thenA, blockA, reduceIte])
    | (refine AWP.exit ?_; simp only [thenA, blockA, eq_self, reduceIte, Nat.reduceEqDiff, Nat.succ_ne_zero])
    | (refine AWP.ret ?_; simp only [thenA, blockA, reduceIte])
    | (refine AWP.table (di := 11) (dl := 12) (jt := 10) (t := 64) (te := 5) (len := 64) 1 tzT hS [_, _, _, _, _, _] [_, _] _ _ ?_ rfl ?_ ?_ ?_ ?_ ?_ (fun KK hKK => ?_); (focus rfl); (focus (exact ⟨rfl, rfl, rfl⟩)); (focus (exact ⟨rfl, rfl, rfl⟩)); (focus kernel_rfl); (focus kernel_rfl); (focus kernel_rfl); (repeat (simp (disch := omega) [])))
    | (refine AWP.region (by rfl) (fun KK hKK => ?_); (repeat (simp (disch := omega) [])); first | (refine hKK _ _ _ ?_; clear hKK KK; simp only [thenA, blockA, reduceIte]) | skip)
    | (refine AWP.if_t ?_ ?_; focus (simp (disch := omega) []; done))
    | (refine AWP.if_f ?_ ?_; focus (simp (disch := omega) []; done)))
  refine ⟨_, 31, ⟨rfl, by decide⟩, by omega, _, by simp; rfl, ?_⟩
  (repeat (simp (disch := omega)))
  first | (refine hKK _ _ _ ?_; clear hKK KK; simp only [thenA, blockA, reduceIte]) | skip
  repeat' (first
    | refine AWP.seq ?_
    | refine AWP.block ?_
    | (refine AWP.skip ?_; simp only [thenA, blockA, reduceIte])
    | (refine AWP.exit ?_; simp only [thenA, blockA, eq_self, reduceIte, Nat.reduceEqDiff, Nat.succ_ne_zero])
    | (refine AWP.ret ?_; simp only [thenA, blockA, reduceIte])
    | (refine AWP.region (by rfl) (fun KK hKK => ?_); (repeat (simp (disch := omega) [])); first | (refine hKK _ _ _ ?_; clear hKK KK; simp only [thenA, blockA, reduceIte]) | skip)
    | (refine AWP.if_t ?_ ?_; focus (simp (disch := omega) []; done))
    | (refine AWP.if_f ?_ ?_; focus (simp (disch := omega) []; done)))
  refine ⟨by simp, _, rfl, fin0 ⟨?_, rfl⟩ (by simp [resO, get, nms, nmss]; try (simp [nms, nmss] at hn; simp_all))⟩
  simp [resO, get, ren, rens]
set_option maxRecDepth 10000 in
set_option maxHeartbeats 2000000 in
theorem tz64_6 [Side] (hS : TabHas 1 tzT) (σ : Sto) (ν : Nat) :
    AC Tryd.prog 33 [.v (.int .u64 64)] σ ν fun r δ => r = .v (.int .i64 6) ∧ δ = noS := by
  refine AC.intro [] ent_33 Tryd.func33 rfl (by simp [Tryd.f33]) (by simp) ?_
  intro K s hs hB hn hν hA hFr
  simp only [argT, Nat.zero_add, Nat.reduceAdd]
  repeat' (first
    | refine AWP.seq ?_
    | refine AWP.block ?_
    | (refine AWP.skip ?_; simp only [thenA, blockA, reduceIte])
    | (refine AWP.exit ?_; simp only [thenA, blockA, eq_self, reduceIte, Nat.reduceEqDiff, Nat.succ_ne_zero])
    | (refine AWP.ret ?_; simp only [thenA, blockA, reduceIte])
    | (refine AWP.table (di := 11) (dl := 12) (jt := 10) (t := 64) (te := 5) (len := 64) 1 tzT hS [_, _, _, _, _, _] [_, _] _ _ ?_ rfl ?_ ?_ ?_ ?_ ?_ (fun KK hKK => ?_); (focus rfl); (focus (exact ⟨rfl, rfl, rfl⟩)); (focus (exact ⟨rfl, rfl, rfl⟩)); (focus kernel_rfl); (focus kernel_rfl); (focus kernel_rfl); (repeat (simp (disch := omega) [])))
    | (refine AWP.region (by rfl) (fun KK hKK => ?_); (repeat (simp (disch := omega) [])); first | (refine hKK _ _ _ ?_; clear hKK KK; simp only [thenA, blockA, reduceIte]) | skip)
    | (refine AWP.if_t ?_ ?_; focus (simp (disch := omega) []; done))
    | (refine AWP.if_f ?_ ?_; focus (simp (disch := omega) []; done)))
  refine ⟨_, 63, ⟨rfl, by decide⟩, by omega, _, by simp; rfl, ?_⟩
  (repeat (simp (disch := omega)))
  first | (refine hKK _ _ _ ?_; clear hKK KK; simp only [thenA, blockA, reduceIte]) | skip
  repeat' (first
    | refine AWP.seq ?_
    | refine AWP.block ?_
    | (refine AWP.skip ?_; simp only [thenA, blockA, reduceIte])
    | (refine AWP.exit ?_; simp only [thenA, blockA, eq_self, reduceIte, Nat.reduceEqDiff, Nat.succ_ne_zero])
    | (refine AWP.ret ?_; simp only [thenA, blockA, reduceIte])
    | (refine AWP.region (by rfl) (fun KK hKK => ?_); (repeat (simp (disch := omega) [])); first | (refine hKK _ _ _ ?_; clear hKK KK; simp only [thenA, blockA, reduceIte]) | skip)
    | (refine AWP.if_t ?_ ?_; focus (simp (disch := omega) []; done))
    | (refine AWP.if_f ?_ ?_; focus (simp (disch := omega) []; done)))
  refine ⟨by simp, _, rfl, fin0 ⟨?_, rfl⟩ (by simp [resO, get, nms, nmss]; try (simp [nms, nmss] at hn; simp_all))⟩
  simp [resO, get, ren, rens]
set_option maxRecDepth 10000 in
set_option maxHeartbeats 2000000 in
theorem tz64_7 [Side] (hS : TabHas 1 tzT) (σ : Sto) (ν : Nat) :
    AC Tryd.prog 33 [.v (.int .u64 128)] σ ν fun r δ => r = .v (.int .i64 7) ∧ δ = noS := by
  refine AC.intro [] ent_33 Tryd.func33 rfl (by simp [Tryd.f33]) (by simp) ?_
  intro K s hs hB hn hν hA hFr
  simp only [argT, Nat.zero_add, Nat.reduceAdd]
  repeat' (first
    | refine AWP.seq ?_
    | refine AWP.block ?_
    | (refine AWP.skip ?_; simp only [thenA, blockA, reduceIte])
    | (refine AWP.exit ?_; simp only [thenA, blockA, eq_self, reduceIte, Nat.reduceEqDiff, Nat.succ_ne_zero])
    | (refine AWP.ret ?_; simp only [thenA, blockA, reduceIte])
    | (refine AWP.table (di := 11) (dl := 12) (jt := 10) (t := 64) (te := 5) (len := 64) 1 tzT hS [_, _, _, _, _, _] [_, _] _ _ ?_ rfl ?_ ?_ ?_ ?_ ?_ (fun KK hKK => ?_); (focus rfl); (focus (exact ⟨rfl, rfl, rfl⟩)); (focus (exact ⟨rfl, rfl, rfl⟩)); (focus kernel_rfl); (focus kernel_rfl); (focus kernel_rfl); (repeat (simp (disch := omega) [])))
    | (refine AWP.region (by rfl) (fun KK hKK => ?_); (repeat (simp (disch := omega) [])); first | (refine hKK _ _ _ ?_; clear hKK KK; simp only [thenA, blockA, reduceIte]) | skip)
    | (refine AWP.if_t ?_ ?_; focus (simp (disch := omega) []; done))
    | (refine AWP.if_f ?_ ?_; focus (simp (disch := omega) []; done)))
  refine ⟨_, 62, ⟨rfl, by decide⟩, by omega, _, by simp; rfl, ?_⟩
  (repeat (simp (disch := omega)))
  first | (refine hKK _ _ _ ?_; clear hKK KK; simp only [thenA, blockA, reduceIte]) | skip
  repeat' (first
    | refine AWP.seq ?_
    | refine AWP.block ?_
    | (refine AWP.skip ?_; simp only [thenA, blockA, reduceIte])
    | (refine AWP.exit ?_; simp only [thenA, blockA, eq_self, reduceIte, Nat.reduceEqDiff, Nat.succ_ne_zero])
    | (refine AWP.ret ?_; simp only [thenA, blockA, reduceIte])
    | (refine AWP.region (by rfl) (fun KK hKK => ?_); (repeat (simp (disch := omega) [])); first | (refine hKK _ _ _ ?_; clear hKK KK; simp only [thenA, blockA, reduceIte]) | skip)
    | (refine AWP.if_t ?_ ?_; focus (simp (disch := omega) []; done))
    | (refine AWP.if_f ?_ ?_; focus (simp (disch := omega) []; done)))
  refine ⟨by simp, _, rfl, fin0 ⟨?_, rfl⟩ (by simp [resO, get, nms, nmss]; try (simp [nms, nmss] at hn; simp_all))⟩
  simp [resO, get, ren, rens]
set_option maxRecDepth 10000 in
set_option maxHeartbeats 2000000 in
theorem tz64_8 [Side] (hS : TabHas 1 tzT) (σ : Sto) (ν : Nat) :
    AC Tryd.prog 33 [.v (.int .u64 256)] σ ν fun r δ => r = .v (.int .i64 8) ∧ δ = noS := by
  refine AC.intro [] ent_33 Tryd.func33 rfl (by simp [Tryd.f33]) (by simp) ?_
  intro K s hs hB hn hν hA hFr
  simp only [argT, Nat.zero_add, Nat.reduceAdd]
  repeat' (first
    | refine AWP.seq ?_
    | refine AWP.block ?_
    | (refine AWP.skip ?_; simp only [thenA, blockA, reduceIte])
    | (refine AWP.exit ?_; simp only [thenA, blockA, eq_self, reduceIte, Nat.reduceEqDiff, Nat.succ_ne_zero])
    | (refine AWP.ret ?_; simp only [thenA, blockA, reduceIte])
    | (refine AWP.table (di := 11) (dl := 12) (jt := 10) (t := 64) (te := 5) (len := 64) 1 tzT hS [_, _, _, _, _, _] [_, _] _ _ ?_ rfl ?_ ?_ ?_ ?_ ?_ (fun KK hKK => ?_); (focus rfl); (focus (exact ⟨rfl, rfl, rfl⟩)); (focus (exact ⟨rfl, rfl, rfl⟩)); (focus kernel_rfl); (focus kernel_rfl); (focus kernel_rfl); (repeat (simp (disch := omega) [])))
    | (refine AWP.region (by rfl) (fun KK hKK => ?_); (repeat (simp (disch := omega) [])); first | (refine hKK _ _ _ ?_; clear hKK KK; simp only [thenA, blockA, reduceIte]) | skip)
    | (refine AWP.if_t ?_ ?_; focus (simp (disch := omega) []; done))
    | (refine AWP.if_f ?_ ?_; focus (simp (disch := omega) []; done)))
  refine ⟨_, 61, ⟨rfl, by decide⟩, by omega, _, by simp; rfl, ?_⟩
  (repeat (simp (disch := omega)))
  first | (refine hKK _ _ _ ?_; clear hKK KK; simp only [thenA, blockA, reduceIte]) | skip
  repeat' (first
    | refine AWP.seq ?_
    | refine AWP.block ?_
    | (refine AWP.skip ?_; simp only [thenA, blockA, reduceIte])
    | (refine AWP.exit ?_; simp only [thenA, blockA, eq_self, reduceIte, Nat.reduceEqDiff, Nat.succ_ne_zero])
    | (refine AWP.ret ?_; simp only [thenA, blockA, reduceIte])
    | (refine AWP.region (by rfl) (fun KK hKK => ?_); (repeat (simp (disch := omega) [])); first | (refine hKK _ _ _ ?_; clear hKK KK; simp only [thenA, blockA, reduceIte]) | skip)
    | (refine AWP.if_t ?_ ?_; focus (simp (disch := omega) []; done))
    | (refine AWP.if_f ?_ ?_; focus (simp (disch := omega) []; done)))
  refine ⟨by simp, _, rfl, fin0 ⟨?_, rfl⟩ (by simp [resO, get, nms, nmss]; try (simp [nms, nmss] at hn; simp_all))⟩
  simp [resO, get, ren, rens]
set_option maxRecDepth 10000 in
set_option maxHeartbeats 2000000 in
theorem tz64_9 [Side] (hS : TabHas 1 tzT) (σ : Sto) (ν : Nat) :
    AC Tryd.prog 33 [.v (.int .u64 512)] σ ν fun r δ => r = .v (.int .i64 9) ∧ δ = noS := by
  refine AC.intro [] ent_33 Tryd.func33 rfl (by simp [Tryd.f33]) (by simp) ?_
  intro K s hs hB hn hν hA hFr
  simp only [argT, Nat.zero_add, Nat.reduceAdd]
  repeat' (first
    | refine AWP.seq ?_
    | refine AWP.block ?_
    | (refine AWP.skip ?_; simp only [thenA, blockA, reduceIte])
    | (refine AWP.exit ?_; simp only [thenA, blockA, eq_self, reduceIte, Nat.reduceEqDiff, Nat.succ_ne_zero])
    | (refine AWP.ret ?_; simp only [thenA, blockA, reduceIte])
    | (refine AWP.table (di := 11) (dl := 12) (jt := 10) (t := 64) (te := 5) (len := 64) 1 tzT hS [_, _, _, _, _, _] [_, _] _ _ ?_ rfl ?_ ?_ ?_ ?_ ?_ (fun KK hKK => ?_); (focus rfl); (focus (exact ⟨rfl, rfl, rfl⟩)); (focus (exact ⟨rfl, rfl, rfl⟩)); (focus kernel_rfl); (focus kernel_rfl); (focus kernel_rfl); (repeat (simp (disch := omega) [])))
    | (refine AWP.region (by rfl) (fun KK hKK => ?_); (repeat (simp (disch := omega) [])); first | (refine hKK _ _ _ ?_; clear hKK KK; simp only [thenA, blockA, reduceIte]) | skip)
    | (refine AWP.if_t ?_ ?_; focus (simp (disch := omega) []; done))
    | (refine AWP.if_f ?_ ?_; focus (simp (disch := omega) []; done)))
  refine ⟨_, 59, ⟨rfl, by decide⟩, by omega, _, by simp; rfl, ?_⟩
  (repeat (simp (disch := omega)))
  first | (refine hKK _ _ _ ?_; clear hKK KK; simp only [thenA, blockA, reduceIte]) | skip
  repeat' (first
    | refine AWP.seq ?_
    | refine AWP.block ?_
    | (refine AWP.skip ?_; simp only [thenA, blockA, reduceIte])
    | (refine AWP.exit ?_; simp only [thenA, blockA, eq_self, reduceIte, Nat.reduceEqDiff, Nat.succ_ne_zero])
    | (refine AWP.ret ?_; simp only [thenA, blockA, reduceIte])
    | (refine AWP.region (by rfl) (fun KK hKK => ?_); (repeat (simp (disch := omega) [])); first | (refine hKK _ _ _ ?_; clear hKK KK; simp only [thenA, blockA, reduceIte]) | skip)
    | (refine AWP.if_t ?_ ?_; focus (simp (disch := omega) []; done))
    | (refine AWP.if_f ?_ ?_; focus (simp (disch := omega) []; done)))
  refine ⟨by simp, _, rfl, fin0 ⟨?_, rfl⟩ (by simp [resO, get, nms, nmss]; try (simp [nms, nmss] at hn; simp_all))⟩
  simp [resO, get, ren, rens]
set_option maxRecDepth 10000 in
set_option maxHeartbeats 2000000 in
theorem tz64_10 [Side] (hS : TabHas 1 tzT) (σ : Sto) (ν : Nat) :
    AC Tryd.prog 33 [.v (.int .u64 1024)] σ ν fun r δ => r = .v (.int .i64 10) ∧ δ = noS := by
  refine AC.intro [] ent_33 Tryd.func33 rfl (by simp [Tryd.f33]) (by simp) ?_
  intro K s hs hB hn hν hA hFr
  simp only [argT, Nat.zero_add, Nat.reduceAdd]
  repeat' (first
    | refine AWP.seq ?_
    | refine AWP.block ?_
    | (refine AWP.skip ?_; simp only [thenA, blockA, reduceIte])
    | (refine AWP.exit ?_; simp only [thenA, blockA, eq_self, reduceIte, Nat.reduceEqDiff, Nat.succ_ne_zero])
    | (refine AWP.ret ?_; simp only [thenA, blockA, reduceIte])
    | (refine AWP.table (di := 11) (dl := 12) (jt := 10) (t := 64) (te := 5) (len := 64) 1 tzT hS [_, _, _, _, _, _] [_, _] _ _ ?_ rfl ?_ ?_ ?_ ?_ ?_ (fun KK hKK => ?_); (focus rfl); (focus (exact ⟨rfl, rfl, rfl⟩)); (focus (exact ⟨rfl, rfl, rfl⟩)); (focus kernel_rfl); (focus kernel_rfl); (focus kernel_rfl); (repeat (simp (disch := omega) [])))
    | (refine AWP.region (by rfl) (fun KK hKK => ?_); (repeat (simp (disch := omega) [])); first | (refine hKK _ _ _ ?_; clear hKK KK; simp only [thenA, blockA, reduceIte]) | skip)
    | (refine AWP.if_t ?_ ?_; focus (simp (disch := omega) []; done))
    | (refine AWP.if_f ?_ ?_; focus (simp (disch := omega) []; done)))
  refine ⟨_, 55, ⟨rfl, by decide⟩, by omega, _, by simp; rfl, ?_⟩
  (repeat (simp (disch := omega)))
  first | (refine hKK _ _ _ ?_; clear hKK KK; simp only [thenA, blockA, reduceIte]) | skip
  repeat' (first
    | refine AWP.seq ?_
    | refine AWP.block ?_
    | (refine AWP.skip ?_; simp only [thenA, blockA, reduceIte])
    | (refine AWP.exit ?_; simp only [thenA, blockA, eq_self, reduceIte, Nat.reduceEqDiff, Nat.succ_ne_zero])
    | (refine AWP.ret ?_; simp only [thenA, blockA, reduceIte])
    | (refine AWP.region (by rfl) (fun KK hKK => ?_); (repeat (simp (disch := omega) [])); first | (refine hKK _ _ _ ?_; clear hKK KK; simp only [thenA, blockA, reduceIte]) | skip)
    | (refine AWP.if_t ?_ ?_; focus (simp (disch := omega) []; done))
    | (refine AWP.if_f ?_ ?_; focus (simp (disch := omega) []; done)))
  refine ⟨by simp, _, rfl, fin0 ⟨?_, rfl⟩ (by simp [resO, get, nms, nmss]; try (simp [nms, nmss] at hn; simp_all))⟩
  simp [resO, get, ren, rens]
set_option maxRecDepth 10000 in
set_option maxHeartbeats 2000000 in
theorem tz64_11 [Side] (hS : TabHas 1 tzT) (σ : Sto) (ν : Nat) :
    AC Tryd.prog 33 [.v (.int .u64 2048)] σ ν fun r δ => r = .v (.int .i64 11) ∧ δ = noS := by
  refine AC.intro [] ent_33 Tryd.func33 rfl (by simp [Tryd.f33]) (by simp) ?_
  intro K s hs hB hn hν hA hFr
  simp only [argT, Nat.zero_add, Nat.reduceAdd]
  repeat' (first
    | refine AWP.seq ?_
    | refine AWP.block ?_
    | (refine AWP.skip ?_; simp only [thenA, blockA, reduceIte])
    | (refine AWP.exit ?_; simp only [thenA, blockA, eq_self, reduceIte, Nat.reduceEqDiff, Nat.succ_ne_zero])
    | (refine AWP.ret ?_; simp only [thenA, blockA, reduceIte])
    | (refine AWP.table (di := 11) (dl := 12) (jt := 10) (t := 64) (te := 5) (len := 64) 1 tzT hS [_, _, _, _, _, _] [_, _] _ _ ?_ rfl ?_ ?_ ?_ ?_ ?_ (fun KK hKK => ?_); (focus rfl); (focus (exact ⟨rfl, rfl, rfl⟩)); (focus (exact ⟨rfl, rfl, rfl⟩)); (focus kernel_rfl); (focus kernel_rfl); (focus kernel_rfl); (repeat (simp (disch := omega) [])))
    | (refine AWP.region (by rfl) (fun KK hKK => ?_); (repeat (simp (disch := omega) [])); first | (refine hKK _ _ _ ?_; clear hKK KK; simp only [thenA, blockA, reduceIte]) | skip)
    | (refine AWP.if_t ?_ ?_; focus (simp (disch := omega) []; done))
    | (refine AWP.if_f ?_ ?_; focus (simp (disch := omega) []; done)))
  refine ⟨_, 47, ⟨rfl, by decide⟩, by omega, _, by simp; rfl, ?_⟩
  (repeat (simp (disch := omega)))
  first | (refine hKK _ _ _ ?_; clear hKK KK; simp only [thenA, blockA, reduceIte]) | skip
  repeat' (first
    | refine AWP.seq ?_
    | refine AWP.block ?_
    | (refine AWP.skip ?_; simp only [thenA, blockA, reduceIte])
    | (refine AWP.exit ?_; simp only [thenA, blockA, eq_self, reduceIte, Nat.reduceEqDiff, Nat.succ_ne_zero])
    | (refine AWP.ret ?_; simp only [thenA, blockA, reduceIte])
    | (refine AWP.region (by rfl) (fun KK hKK => ?_); (repeat (simp (disch := omega) [])); first | (refine hKK _ _ _ ?_; clear hKK KK; simp only [thenA, blockA, reduceIte]) | skip)
    | (refine AWP.if_t ?_ ?_; focus (simp (disch := omega) []; done))
    | (refine AWP.if_f ?_ ?_; focus (simp (disch := omega) []; done)))
  refine ⟨by simp, _, rfl, fin0 ⟨?_, rfl⟩ (by simp [resO, get, nms, nmss]; try (simp [nms, nmss] at hn; simp_all))⟩
  simp [resO, get, ren, rens]
theorem tz64_c [Side] (hS : TabHas 1 tzT) (σ : Sto) (ν : Nat) (k : Nat) (hk : k < 12) :
    AC Tryd.prog 33 [.v (.int .u64 ((2 ^ k : Nat) : Int))] σ ν fun r δ => r = .v (.int .i64 k) ∧ δ = noS := by
  match k, hk with
  | 0, _ => exact tz64_0 hS σ ν
  | 1, _ => exact tz64_1 hS σ ν
  | 2, _ => exact tz64_2 hS σ ν
  | 3, _ => exact tz64_3 hS σ ν
  | 4, _ => exact tz64_4 hS σ ν
  | 5, _ => exact tz64_5 hS σ ν
  | 6, _ => exact tz64_6 hS σ ν
  | 7, _ => exact tz64_7 hS σ ν
  | 8, _ => exact tz64_8 hS σ ν
  | 9, _ => exact tz64_9 hS σ ν
  | 10, _ => exact tz64_10 hS σ ν
  | 11, _ => exact tz64_11 hS σ ν
set_option maxRecDepth 10000 in
set_option maxHeartbeats 400000 in
theorem trailing_c [Side] (hS : TabHas 1 tzT) (σ : Sto) (ν : Nat) (q k : Nat) (hk : k < 12) (hq : q = 2 ^ k) :
    AC Tryd.prog 20 [.v (.int .u64 (q : Int))] σ ν fun r δ => r = .v (.int .i64 k) ∧ δ = noS := by
  have hc := fun s n => hq ▸ tz64_c hS s n k hk
  refine AC.intro [] ent_20 Tryd.func20 rfl (by simp [Tryd.f20]) (by simp) ?_
  intro K s hs hB hn hν hA hFr
  simp only [argT, Nat.zero_add, Nat.reduceAdd]
  repeat' (first
    | refine AWP.seq ?_
    | refine AWP.block ?_
    | (refine AWP.skip ?_; simp only [thenA, blockA, reduceIte])
    | (refine AWP.exit ?_; simp only [thenA, blockA, eq_self, reduceIte, Nat.reduceEqDiff, Nat.succ_ne_zero])
    | (refine AWP.ret ?_; simp only [thenA, blockA, reduceIte])
    | (refine AWP.region (by rfl) (fun KK hKK => ?_); (repeat (simp (disch := omega) [])); first | (refine hKK _ _ _ ?_; clear hKK KK; simp only [thenA, blockA, reduceIte]) | skip)
    | (refine AWP.if_t ?_ ?_; focus (simp (disch := omega) []; done))
    | (refine AWP.if_f ?_ ?_; focus (simp (disch := omega) []; done)))
  refine aStop_of (hc _ _) ?_
  rintro r δ ⟨rfl, rfl⟩
  (repeat (simp (disch := omega) []))
  first | (refine hKK _ _ _ ?_; clear hKK KK; simp only [thenA, blockA, reduceIte]) | skip
  repeat' (first
    | refine AWP.seq ?_
    | refine AWP.block ?_
    | (refine AWP.skip ?_; simp only [thenA, blockA, reduceIte])
    | (refine AWP.exit ?_; simp only [thenA, blockA, eq_self, reduceIte, Nat.reduceEqDiff, Nat.succ_ne_zero])
    | (refine AWP.ret ?_; simp only [thenA, blockA, reduceIte])
    | (refine AWP.region (by rfl) (fun KK hKK => ?_); (repeat (simp (disch := omega) [])); first | (refine hKK _ _ _ ?_; clear hKK KK; simp only [thenA, blockA, reduceIte]) | skip)
    | (refine AWP.if_t ?_ ?_; focus (simp (disch := omega) []; done))
    | (refine AWP.if_f ?_ ?_; focus (simp (disch := omega) []; done)))
  refine ⟨by simp, _, rfl, fin0 ⟨?_, rfl⟩ (by simp [resO, get, nms, nmss]; try (simp [nms, nmss] at hn; simp_all))⟩
  simp [resO, get, ren, rens]

/-- The index of the bit of a number of one bit. -/
def tzN (m : Nat) : Nat := lnN m - 1
theorem tzN_pow : ∀ k, k < 12 → tzN (2 ^ k) = k := by decide
theorem pc_one {m : Nat} (hm : m < 4096) (h : pcN m = 1) : ∃ k, k < 12 ∧ m = 2 ^ k := by
  have hk : ∀ a < 64, ∀ b < 64, pcN (64 * a + b) = 1 → ∃ k, k < 12 ∧ 64 * a + b = 2 ^ k := by decide +kernel
  have h2 := hk (m / 64) (by omega) (m % 64) (by omega)
  rw [show 64 * (m / 64) + m % 64 = m by omega] at h2
  exact h2 h
def enF (d : Df) : Bool := decide (pcN d.2.toNat = 1)
def enL (ds : List Df) : List Df := (ds.filter enF).map fun d => (d.1, (tzN d.2.toNat : Int))
theorem enL_take {ds : List Df} {k : Nat} (h : k < ds.length) : enL (ds.take (k + 1)) = if enF ds[k] = true then enL (ds.take k) ++ [(ds[k].1, (tzN ds[k].2.toNat : Int))] else enL (ds.take k) := by
  rw [List.take_succ_eq_append_getElem h]
  unfold enL
  rw [List.filter_append, List.map_append]
  by_cases he : enF ds[k] = true
  · rw [if_pos he]; simp [he]
  · rw [if_neg he]; simp [he]
theorem enL_len (ds : List Df) : (enL ds).length ≤ ds.length := by
  unfold enL
  rw [List.length_map]
  exact List.length_filter_le _ _
theorem enL_all (ds : List Df) : enL (ds.take ds.length) = enL ds := by rw [List.take_length]
def enO (ds : List Df) (bd : Int) : Option (List Df) := if okFl ds bd = true then some (enL ds) else none
theorem enO_len {ds l : List Df} {bd : Int} (h : enO ds bd = some l) : l.length ≤ ds.length := by
  unfold enO at h
  split at h
  · cases h; exact enL_len ds
  · cases h

end Go.Proofs.YtgaiemhbllbaiaaDoor
