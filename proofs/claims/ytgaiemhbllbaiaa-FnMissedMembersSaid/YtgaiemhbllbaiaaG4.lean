/- Contracts of the generators: enumerations. No condition. -/
import Derived.Test.YtgaiemhbllbaiaaG3
set_option linter.unusedSimpArgs false
set_option linter.unusedVariables false
namespace Go.Proofs.Ytgaiemhbllbaiaa
open Go Go.RowKit

/-- An enumeration that a generator hands back: at most m definitions, at most N picks. -/
def GotE (ν rb : Nat) (x : AV) (p : Int) (m N : Nat) (r : AV) (δ : Sto) : Prop := ∃ (ds : List Df) (q : Int), Gd ds m ∧ p ≤ q ∧ q ≤ p + N ∧ r = .agg [.sl ν 0 ds.length none 2] ∧ δ = upd (upd noS rb (rdB x q)) ν (blkD ds)

set_option maxRecDepth 10000 in
set_option maxHeartbeats 1000000 in
theorem goodEnum_c (σ : Sto) (ν rb : Nat) (x : AV) (bs : List Int) (p : Int) (hb : σ rb = some (rdB x p)) (hx : Sl σ x 1 (rowsB bs)) (h8 : Code8 bs) (hp : 0 ≤ p ∧ p ≤ 100000) :
    AC Try.prog 86 [.ptr rb 0 0] σ ν (GotE ν rb x p 12 100) := by
  obtain ⟨bx, ox, capx, zx, rfl⟩ := hx.out
  simp only [rowsB_len] at hx hb ⊢
  refine AC.intro [rb] ent_86 Try.func86 rfl (by simp [Try.f86]) (by simp [hb]) ?_
  intro K s hs hB hn hν hA hFr
  simp only [argT, Nat.zero_add, Nat.reduceAdd]
  have hrb : s rb = some (rdB (.sl bx ox bs.length capx zx) p) := by rw [hs rb, hb]; simp
  obtain ⟨hrK, hlo⟩ := hB rb _ hrb
  have hx' := hx.vw hs.vw
  have hrν : rb ≠ ν := fun e => by rw [e] at hb; rw [hFr.1] at hb; cases hb
  repeat' (first
    | refine AWP.seq ?_
    | refine AWP.block ?_
    | (refine AWP.skip ?_; simp only [thenA, blockA, reduceIte])
    | (refine AWP.exit ?_; simp only [thenA, blockA, eq_self, reduceIte, Nat.reduceEqDiff, Nat.succ_ne_zero])
    | (refine AWP.ret ?_; simp only [thenA, blockA, reduceIte])
    | (refine AWP.region (by rfl) (fun KK hKK => ?_); (repeat (simp (disch := omega) [])); first | (refine hKK _ _ _ ?_; clear hKK KK; simp only [thenA, blockA, reduceIte]) | skip)
    | (refine AWP.if_t ?_ ?_; focus (simp (disch := omega) []; done))
    | (refine AWP.if_f ?_ ?_; focus (simp (disch := omega) []; done)))
  refine aStop_of (goodDefs_c _ _ rb _ bs p 1000 (by simp (disch := omega) only [upd_eq, upd_ne, del_ne, hrb]) (hx'.ovb hrb (fun c kc hc h => by have := (hB c kc h).1; first | exact h | (simp (disch := omega) only [upd_ne, del_ne]; exact h))) h8 hp) ?_
  rintro r δ ⟨ds, q, hgd, hq0, hq1, rfl, rfl⟩
  (repeat (simp (disch := omega) []))
  first | (refine hKK _ _ _ ?_; clear hKK KK; simp only [thenA, blockA, reduceIte]) | skip
  repeat' (first
    | refine AWP.seq ?_
    | refine AWP.block ?_
    | (refine AWP.skip ?_; simp only [thenA, blockA, reduceIte])
    | (refine AWP.exit ?_; simp only [thenA, blockA, eq_self, reduceIte, Nat.reduceEqDiff, Nat.succ_ne_zero])
    | (refine AWP.ret ?_; simp only [thenA, blockA, reduceIte])
    | (refine AWP.region (by rfl) (fun KK hKK => ?_); (repeat (simp (disch := omega) [])); first | (refine hKK _ _ _ ?_; clear hKK KK; simp only [thenA, blockA, reduceIte]) | skip)
    | (refine AWP.if_t ?_ ?_; focus (simp (disch := omega) []; done))
    | (refine AWP.if_f ?_ ?_; focus (simp (disch := omega) []; done)))
  refine ⟨by simp, ?_⟩
  have hres : Try.f86.results.toList = [.cell 2 25] := rfl
  rw [hres]
  simp (disch := omega) []
  refine fin1M (K + 1) (rdB (.sl bx ox bs.length capx zx) q) (blkD ds) (by simp (disch := omega) only [upd_eq, upd_ne, del_ne, hrb]) rfl (low_rd hlo) (by simp (disch := omega) only [upd_eq, upd_ne]) rfl (flatD _).low hrν ⟨ds, q, hgd, hq0, hq1, by simp [resO, ren, rens, rho], rfl⟩ (by omega) (by simp [resO, nms, nmss])

theorem Gd.modify {ds : List Df} {m i : Nat} {f : Df → Df} (h : Gd ds m) (hf : ∀ d ∈ ds, (f d).1.size ≤ 7 ∧ -4096 ≤ (f d).2 ∧ (f d).2 ≤ 4096) : Gd (ds.modify i f) m := by
  have key : ∀ d ∈ ds.modify i f, d.1.size ≤ 7 ∧ -4096 ≤ d.2 ∧ d.2 ≤ 4096 := fun d hd => by
    rw [List.modify_eq_set] at hd
    cases hi : ds[i]? with
    | none => 
      rw [List.set_eq_of_length_le (by simpa using hi)] at hd
      exact ⟨h.sz d hd, h.lo d hd, h.hi d hd⟩
    | some e =>
      rw [hi] at hd
      rcases List.mem_or_eq_of_mem_set hd with hd | rfl
      · exact ⟨h.sz d hd, h.lo d hd, h.hi d hd⟩
      · exact hf e (List.mem_of_getElem? hi)
  exact ⟨by simpa using h.len, fun d hd => (key d hd).1, fun d hd => (key d hd).2.1, fun d hd => (key d hd).2.2⟩
theorem Gd.ren {ds : List Df} {m i : Nat} (h : Gd ds m) {s : ByteArray} (hs : s.size ≤ 7) : Gd (renD ds i s) m := h.modify fun d hd => ⟨hs, h.lo d hd, h.hi d hd⟩
theorem Gd.val {ds : List Df} {m i : Nat} (h : Gd ds m) {v : Int} (h1 : -4096 ≤ v) (h2 : v ≤ 4096) : Gd (valD ds i v) m := h.modify fun d hd => ⟨h.sz d hd, h1, h2⟩

def z13 : List Df := List.replicate 13 (ByteArray.empty, 0)
theorem rowsD_z13 (ds : List Df) : rowsD ds ++ [[.v (.string ByteArray.empty), .v (.int .i64 0)], [.v (.string ByteArray.empty), .v (.int .i64 0)], [.v (.string ByteArray.empty), .v (.int .i64 0)], [.v (.string ByteArray.empty), .v (.int .i64 0)], [.v (.string ByteArray.empty), .v (.int .i64 0)], [.v (.string ByteArray.empty), .v (.int .i64 0)], [.v (.string ByteArray.empty), .v (.int .i64 0)], [.v (.string ByteArray.empty), .v (.int .i64 0)], [.v (.string ByteArray.empty), .v (.int .i64 0)], [.v (.string ByteArray.empty), .v (.int .i64 0)], [.v (.string ByteArray.empty), .v (.int .i64 0)], [.v (.string ByteArray.empty), .v (.int .i64 0)], [.v (.string ByteArray.empty), .v (.int .i64 0)]] = rowsD (ds ++ z13) := by
  unfold rowsD
  rw [List.map_append]
  rfl
theorem Gd.z13 {ds : List Df} {m : Nat} (h : Gd ds m) : Gd (ds ++ Go.Proofs.Ytgaiemhbllbaiaa.z13) (m + 13) := by
  have key : ∀ d ∈ ds ++ Go.Proofs.Ytgaiemhbllbaiaa.z13, d.1.size ≤ 7 ∧ -4096 ≤ d.2 ∧ d.2 ≤ 4096 := fun d hd => by
    rcases List.mem_append.1 hd with hd | hd
    · exact ⟨h.sz d hd, h.lo d hd, h.hi d hd⟩
    · rw [(List.mem_replicate.1 hd).2]; decide
  have := h.len
  exact ⟨by simp [Go.Proofs.Ytgaiemhbllbaiaa.z13]; omega, fun d hd => (key d hd).1, fun d hd => (key d hd).2.1, fun d hd => (key d hd).2.2⟩

set_option maxRecDepth 10000 in
set_option maxHeartbeats 4000000 in
theorem someEnum_c (σ : Sto) (ν rb : Nat) (x : AV) (bs : List Int) (p : Int) (hb : σ rb = some (rdB x p)) (hx : Sl σ x 1 (rowsB bs)) (h8 : Code8 bs) (hp : 0 ≤ p ∧ p ≤ 90000) :
    AC Try.prog 67 [.ptr rb 0 0] σ ν (GotE ν rb x p 25 200) := by
  obtain ⟨bx, ox, capx, zx, rfl⟩ := hx.out
  simp only [rowsB_len] at hx hb ⊢
  refine AC.intro [rb] ent_67 Try.func67 rfl (by simp [Try.f67]) (by simp [hb]) ?_
  intro K s hs hB hn hν hA hFr
  simp only [argT, Nat.zero_add, Nat.reduceAdd]
  have hrb : s rb = some (rdB (.sl bx ox bs.length capx zx) p) := by rw [hs rb, hb]; simp
  obtain ⟨hrK, hlo⟩ := hB rb _ hrb
  have hx' := hx.vw hs.vw
  have hrν : rb ≠ ν := fun e => by rw [e] at hb; rw [hFr.1] at hb; cases hb
  repeat' (first
    | refine AWP.seq ?_
    | refine AWP.block ?_
    | (refine AWP.skip ?_; simp only [thenA, blockA, reduceIte])
    | (refine AWP.exit ?_; simp only [thenA, blockA, eq_self, reduceIte, Nat.reduceEqDiff, Nat.succ_ne_zero])
    | (refine AWP.ret ?_; simp only [thenA, blockA, reduceIte])
    | (refine AWP.region (by rfl) (fun KK hKK => ?_); (repeat (simp (disch := omega) [])); first | (refine hKK _ _ _ ?_; clear hKK KK; simp only [thenA, blockA, reduceIte]) | skip)
    | (refine AWP.draw' mixd (by rfl) (by kernel_rfl) (fun KK tab hKK htab => ?_); (repeat (simp (disch := omega) [])); first | (refine dEnd_ro ?_ (hKK _ _ _ ?_); (focus (simp; done)); clear htab tab hKK KK; simp only [thenA, blockA, reduceIte]) | (refine dEnd_of ?_ (hKK _ _ _ ?_); (focus (simp only [List.reverse_cons, List.reverse_nil, List.nil_append, List.cons_append, memA, mem1, and_true, true_and]; (repeat' apply And.intro); (all_goals (first | trivial | (refine .inr ⟨?_, ?_⟩ <;> (simp; done)) | (refine .inr ⟨?_, ?_⟩ <;> (simp <;> omega)) | (refine .inl ?_; rw [htab]; kernel_rfl))); done)); clear htab tab hKK KK; simp only [thenA, blockA, reduceIte]) | skip)
    | (refine AWP.if_t ?_ ?_; focus (simp (disch := omega) []; done))
    | (refine AWP.if_f ?_ ?_; focus (simp (disch := omega) []; done)))
  refine aStop_of (goodEnum_c _ _ rb _ bs p (by simp (disch := omega) only [upd_eq, upd_ne, del_ne, hrb]) (hx'.ovb hrb (fun c kc hc h => by have := (hB c kc h).1; first | exact h | (simp (disch := omega) only [upd_ne, del_ne]; exact h))) h8 (by omega)) ?_
  rintro r δ ⟨ds, q, hgd, hq0, hq1, rfl, rfl⟩
  (repeat (simp (disch := omega) []))
  first | (refine hKK _ _ _ ?_; clear hKK KK; simp only [thenA, blockA, reduceIte]) | skip
  by_cases hl : ¬ 0 < ds.length
  · repeat' (first
      | refine AWP.seq ?_
      | refine AWP.block ?_
      | (refine AWP.skip ?_; simp only [thenA, blockA, reduceIte])
      | (refine AWP.exit ?_; simp only [thenA, blockA, eq_self, reduceIte, Nat.reduceEqDiff, Nat.succ_ne_zero])
      | (refine AWP.ret ?_; simp only [thenA, blockA, reduceIte])
      | (refine AWP.region (by rfl) (fun KK hKK => ?_); (repeat (simp (disch := omega) [hl])); first | (refine hKK _ _ _ ?_; clear hKK KK; simp only [thenA, blockA, reduceIte]) | skip)
      | (refine AWP.draw' mixd (by rfl) (by kernel_rfl) (fun KK tab hKK htab => ?_); (repeat (simp (disch := omega) [hl])); first | (refine dEnd_ro ?_ (hKK _ _ _ ?_); (focus (simp; done)); clear htab tab hKK KK; simp only [thenA, blockA, reduceIte]) | (refine dEnd_of ?_ (hKK _ _ _ ?_); (focus (simp only [List.reverse_cons, List.reverse_nil, List.nil_append, List.cons_append, memA, mem1, and_true, true_and]; (repeat' apply And.intro); (all_goals (first | trivial | (refine .inr ⟨?_, ?_⟩ <;> (simp; done)) | (refine .inr ⟨?_, ?_⟩ <;> (simp <;> omega)) | (refine .inl ?_; rw [htab]; kernel_rfl))); done)); clear htab tab hKK KK; simp only [thenA, blockA, reduceIte]) | skip)
      | (refine AWP.if_t ?_ ?_; focus (simp (disch := omega) [hl]; done))
      | (refine AWP.if_f ?_ ?_; focus (simp (disch := omega) [hl]; done)))
    refine ⟨by simp, ?_⟩
    have hres : Try.f67.results.toList = [.cell 2 25] := rfl
    rw [hres]
    simp (disch := omega) []
    refine fin1M (K + 1) (rdB (.sl bx ox bs.length capx zx) q) (blkD ds) (by simp (disch := omega) only [upd_eq, upd_ne, del_ne, hrb]) rfl (low_rd hlo) (by simp (disch := omega) only [upd_eq, upd_ne]) rfl (flatD _).low hrν ⟨ds, q, hgd.more (by omega), hq0, by omega, by simp [resO, ren, rens, rho], rfl⟩ (by omega) (by simp [resO, nms, nmss])
  have hl : 0 < ds.length := by omega
  have hk := pk_bd h8 (p := q) (n := ds.length) (by omega) (by omega)
  have k0 := hk.1
  have k1 := hk.2
  have hil : (pk bs q ds.length).toNat < ds.length := by omega
  have hrow := rowsD_at ds _ hil
  repeat' (first
    | refine AWP.seq ?_
    | refine AWP.block ?_
    | (refine AWP.skip ?_; simp only [thenA, blockA, reduceIte])
    | (refine AWP.exit ?_; simp only [thenA, blockA, eq_self, reduceIte, Nat.reduceEqDiff, Nat.succ_ne_zero])
    | (refine AWP.ret ?_; simp only [thenA, blockA, reduceIte])
    | (refine AWP.region (by rfl) (fun KK hKK => ?_); (repeat (simp (disch := omega) [hl])); first | (refine hKK _ _ _ ?_; clear hKK KK; simp only [thenA, blockA, reduceIte]) | skip)
    | (refine AWP.draw' mixd (by rfl) (by kernel_rfl) (fun KK tab hKK htab => ?_); (repeat (simp (disch := omega) [hl])); first | (refine dEnd_ro ?_ (hKK _ _ _ ?_); (focus (simp; done)); clear htab tab hKK KK; simp only [thenA, blockA, reduceIte]) | (refine dEnd_of ?_ (hKK _ _ _ ?_); (focus (simp only [List.reverse_cons, List.reverse_nil, List.nil_append, List.cons_append, memA, mem1, and_true, true_and]; (repeat' apply And.intro); (all_goals (first | trivial | (refine .inr ⟨?_, ?_⟩ <;> (simp; done)) | (refine .inr ⟨?_, ?_⟩ <;> (simp <;> omega)) | (refine .inl ?_; rw [htab]; kernel_rfl))); done)); clear htab tab hKK KK; simp only [thenA, blockA, reduceIte]) | skip)
    | (refine AWP.if_t ?_ ?_; focus (simp (disch := omega) [hl]; done))
    | (refine AWP.if_f ?_ ?_; focus (simp (disch := omega) [hl]; done)))
  refine aStop_of (pick_c _ _ rb _ bs q ds.length (by simp (disch := omega) only [upd_eq, upd_ne, del_ne, hrb]) (hx'.ovb hrb (fun c kc hc h => by have := (hB c kc h).1; first | exact h | (simp (disch := omega) only [upd_ne, del_ne]; exact h))) h8 (by omega)) ?_
  rintro r δ ⟨rfl, rfl⟩
  (repeat (simp (disch := omega) []))
  first | (refine hKK _ _ _ ?_; clear hKK KK; simp only [thenA, blockA, reduceIte]) | skip
  repeat' (first
    | refine AWP.seq ?_
    | refine AWP.block ?_
    | (refine AWP.skip ?_; simp only [thenA, blockA, reduceIte])
    | (refine AWP.exit ?_; simp only [thenA, blockA, eq_self, reduceIte, Nat.reduceEqDiff, Nat.succ_ne_zero])
    | (refine AWP.ret ?_; simp only [thenA, blockA, reduceIte])
    | (refine AWP.region (by rfl) (fun KK hKK => ?_); (repeat (simp (disch := omega) [])); first | (refine hKK _ _ _ ?_; clear hKK KK; simp only [thenA, blockA, reduceIte]) | skip)
    | (refine AWP.draw' mixd (by rfl) (by kernel_rfl) (fun KK tab hKK htab => ?_); (repeat (simp (disch := omega) [])); first | (refine dEnd_ro ?_ (hKK _ _ _ ?_); (focus (simp; done)); clear htab tab hKK KK; simp only [thenA, blockA, reduceIte]) | (refine dEnd_of ?_ (hKK _ _ _ ?_); (focus (simp only [List.reverse_cons, List.reverse_nil, List.nil_append, List.cons_append, memA, mem1, and_true, true_and]; (repeat' apply And.intro); (all_goals (first | trivial | (refine .inr ⟨?_, ?_⟩ <;> (simp; done)) | (refine .inr ⟨?_, ?_⟩ <;> (simp <;> omega)) | (refine .inl ?_; rw [htab]; kernel_rfl))); done)); clear htab tab hKK KK; simp only [thenA, blockA, reduceIte]) | skip)
    | (refine AWP.if_t ?_ ?_; focus (simp (disch := omega) []; done))
    | (refine AWP.if_f ?_ ?_; focus (simp (disch := omega) []; done)))
  refine aStop_of (pick_c _ _ rb _ bs (q + 1) 24 (by simp (disch := omega) only [upd_eq, upd_ne, del_ne, hrb]) (hx'.ovb hrb (fun c kc hc h => by have := (hB c kc h).1; first | exact h | (simp (disch := omega) only [upd_ne, del_ne]; exact h))) h8 (by omega)) ?_
  rintro r δ ⟨rfl, rfl⟩
  (repeat (simp (disch := omega) []))
  first | (refine hKK _ _ _ ?_; clear hKK KK; simp only [thenA, blockA, reduceIte]) | skip
  by_cases c0 : pk bs (q + 1) 24 = 0
  · repeat' (first
      | refine AWP.seq ?_
      | refine AWP.block ?_
      | (refine AWP.skip ?_; simp only [thenA, blockA, reduceIte])
      | (refine AWP.exit ?_; simp only [thenA, blockA, eq_self, reduceIte, Nat.reduceEqDiff, Nat.succ_ne_zero])
      | (refine AWP.ret ?_; simp only [thenA, blockA, reduceIte])
      | (refine AWP.region (by rfl) (fun KK hKK => ?_); (repeat (simp (disch := omega) [c0, k0, k1, hrow])); first | (refine hKK _ _ _ ?_; clear hKK KK; simp only [thenA, blockA, reduceIte]) | skip)
      | (refine AWP.draw' mixd (by rfl) (by kernel_rfl) (fun KK tab hKK htab => ?_); (repeat (simp (disch := omega) [c0, k0, k1, hrow])); first | (refine dEnd_ro ?_ (hKK _ _ _ ?_); (focus (simp; done)); clear htab tab hKK KK; simp only [thenA, blockA, reduceIte]) | (refine dEnd_of ?_ (hKK _ _ _ ?_); (focus (simp only [List.reverse_cons, List.reverse_nil, List.nil_append, List.cons_append, memA, mem1, and_true, true_and]; (repeat' apply And.intro); (all_goals (first | trivial | (refine .inr ⟨?_, ?_⟩ <;> (simp; done)) | (refine .inr ⟨?_, ?_⟩ <;> (simp <;> omega)) | (refine .inl ?_; rw [htab]; kernel_rfl))); done)); clear htab tab hKK KK; simp only [thenA, blockA, reduceIte]) | skip)
      | (refine AWP.if_t ?_ ?_; focus (simp (disch := omega) [c0, k0, k1, hrow]; done))
      | (refine AWP.if_f ?_ ?_; focus (simp (disch := omega) [c0, k0, k1, hrow]; done)))
    refine dStop_modF [rb, K + 1 + 2 + 1 + 2 + 2 + 8, bx] rb (fun σ' hσ' => of_c σ' _ rb _ _ bs (q + 1 + 1) [⟨#[]⟩, ⟨#[65]⟩, ⟨#[116, 111, 111, 108, 111, 110, 103]⟩] ((hσ' _ (by simp)).trans (by simp (disch := omega) only [upd_eq, upd_ne, del_ne, hrb])) ((hx'.ovb hrb (fun c kc hc h => by have := (hB c kc h).1; first | exact h | (simp (disch := omega) only [upd_ne, del_ne]; exact h))).on (hσ' _ (by simp))) h8 (by omega) (Sl.whole (t := 9) (r := true) ((hσ' _ (by simp)).trans (by simp only [upd_eq]; rfl)) rfl) (by decide) (by decide)) ?_
    (repeat (simp (disch := omega) [k0, k1, hrow]))
    first | (refine dEnd_ro ?_ (hKK _ _ _ ?_); (focus (simp; done)); clear htab tab hKK KK; simp only [thenA, blockA, reduceIte]) | (refine dEnd_of ?_ (hKK _ _ _ ?_); (focus (simp only [List.reverse_cons, List.reverse_nil, List.nil_append, List.cons_append, memA, mem1, and_true, true_and]; (repeat' apply And.intro); (all_goals (first | trivial | (refine .inr ⟨?_, ?_⟩ <;> (simp; done)) | (refine .inr ⟨?_, ?_⟩ <;> (simp <;> omega)) | (refine .inl ?_; rw [htab]; kernel_rfl))); done)); clear htab tab hKK KK; simp only [thenA, blockA, reduceIte]) | skip
    have hpk2 := pk_bd h8 (p := q + 1 + 1) (n := 3) (by omega) (by omega)
    have hm := sAt_mem (l := [⟨#[]⟩, ⟨#[65]⟩, ⟨#[116, 111, 111, 108, 111, 110, 103]⟩]) hpk2.1 hpk2.2
    have hs7 : (sAt [⟨#[]⟩, ⟨#[65]⟩, ⟨#[116, 111, 111, 108, 111, 110, 103]⟩] (pk bs (q + 1 + 1) 3)).size ≤ 7 := by
      simp only [List.mem_cons, List.not_mem_nil, or_false] at hm
      rcases hm with h | h | h <;> rw [h] <;> decide
    repeat' (first
      | refine AWP.seq ?_
      | refine AWP.block ?_
      | (refine AWP.skip ?_; simp only [thenA, blockA, reduceIte])
      | (refine AWP.exit ?_; simp only [thenA, blockA, eq_self, reduceIte, Nat.reduceEqDiff, Nat.succ_ne_zero])
      | (refine AWP.ret ?_; simp only [thenA, blockA, reduceIte])
      | (refine AWP.region (by rfl) (fun KK hKK => ?_); (repeat (simp (disch := omega) [k0])); first | (refine hKK _ _ _ ?_; clear hKK KK; simp only [thenA, blockA, reduceIte]) | skip)
      | (refine AWP.draw' mixd (by rfl) (by kernel_rfl) (fun KK tab hKK htab => ?_); (repeat (simp (disch := omega) [k0])); first | (refine dEnd_ro ?_ (hKK _ _ _ ?_); (focus (simp; done)); clear htab tab hKK KK; simp only [thenA, blockA, reduceIte]) | (refine dEnd_of ?_ (hKK _ _ _ ?_); (focus (simp only [List.reverse_cons, List.reverse_nil, List.nil_append, List.cons_append, memA, mem1, and_true, true_and]; (repeat' apply And.intro); (all_goals (first | trivial | (refine .inr ⟨?_, ?_⟩ <;> (simp; done)) | (refine .inr ⟨?_, ?_⟩ <;> (simp <;> omega)) | (refine .inl ?_; rw [htab]; kernel_rfl))); done)); clear htab tab hKK KK; simp only [thenA, blockA, reduceIte]) | skip)
      | (refine AWP.if_t ?_ ?_; focus (simp (disch := omega) [k0]; done))
      | (refine AWP.if_f ?_ ?_; focus (simp (disch := omega) [k0]; done)))
    refine ⟨by simp, ?_⟩
    have hres : Try.f67.results.toList = [.cell 2 25] := rfl
    rw [hres]
    simp (disch := omega) []
    refine fin1M (K + 1) (rdB (.sl bx ox bs.length capx zx) (q + 1 + 1 + 1)) (blkD (renD ds (pk bs q ds.length).toNat (sAt [⟨#[]⟩, ⟨#[65]⟩, ⟨#[116, 111, 111, 108, 111, 110, 103]⟩] (pk bs (q + 1 + 1) 3)))) (by simp (disch := omega) only [upd_eq, upd_ne, del_ne, hrb]) rfl (low_rd hlo) (by simp (disch := omega) only [upd_eq, upd_ne, del_ne, blkD, rowsD_ren _ _ hil]) rfl (flatD _).low hrν ⟨renD ds (pk bs q ds.length).toNat (sAt [⟨#[]⟩, ⟨#[65]⟩, ⟨#[116, 111, 111, 108, 111, 110, 103]⟩] (pk bs (q + 1 + 1) 3)), q + 1 + 1 + 1, (hgd.more (by omega)).ren hs7, by omega, by omega, by simp [resO, ren, rens, rho, renD_len], rfl⟩ (by omega) (by simp [resO, nms, nmss])
  by_cases c1 : pk bs (q + 1) 24 = 1
  · repeat' (first
      | refine AWP.seq ?_
      | refine AWP.block ?_
      | (refine AWP.skip ?_; simp only [thenA, blockA, reduceIte])
      | (refine AWP.exit ?_; simp only [thenA, blockA, eq_self, reduceIte, Nat.reduceEqDiff, Nat.succ_ne_zero])
      | (refine AWP.ret ?_; simp only [thenA, blockA, reduceIte])
      | (refine AWP.region (by rfl) (fun KK hKK => ?_); (repeat (simp (disch := omega) [c1, k0, k1, hrow])); first | (refine hKK _ _ _ ?_; clear hKK KK; simp only [thenA, blockA, reduceIte]) | skip)
      | (refine AWP.draw' mixd (by rfl) (by kernel_rfl) (fun KK tab hKK htab => ?_); (repeat (simp (disch := omega) [c1, k0, k1, hrow])); first | (refine dEnd_ro ?_ (hKK _ _ _ ?_); (focus (simp; done)); clear htab tab hKK KK; simp only [thenA, blockA, reduceIte]) | (refine dEnd_of ?_ (hKK _ _ _ ?_); (focus (simp only [List.reverse_cons, List.reverse_nil, List.nil_append, List.cons_append, memA, mem1, and_true, true_and]; (repeat' apply And.intro); (all_goals (first | trivial | (refine .inr ⟨?_, ?_⟩ <;> (simp; done)) | (refine .inr ⟨?_, ?_⟩ <;> (simp <;> omega)) | (refine .inl ?_; rw [htab]; kernel_rfl))); done)); clear htab tab hKK KK; simp only [thenA, blockA, reduceIte]) | skip)
      | (refine AWP.if_t ?_ ?_; focus (simp (disch := omega) [c1, k0, k1, hrow]; done))
      | (refine AWP.if_f ?_ ?_; focus (simp (disch := omega) [c1, k0, k1, hrow]; done)))
    refine dStop_modF [rb, K + 1 + 2 + 1 + 2 + 2 + 8, bx] rb (fun σ' hσ' => one_c σ' _ rb _ _ bs (q + 1 + 1) [1001, -1001] ((hσ' _ (by simp)).trans (by simp (disch := omega) only [upd_eq, upd_ne, del_ne, hrb])) ((hx'.ovb hrb (fun c kc hc h => by have := (hB c kc h).1; first | exact h | (simp (disch := omega) only [upd_ne, del_ne]; exact h))).on (hσ' _ (by simp))) h8 (by omega) (Sl.whole (t := 3) (r := true) ((hσ' _ (by simp)).trans (by simp only [upd_eq]; rfl)) rfl) (by decide) (by decide)) ?_
    (repeat (simp (disch := omega) [k0, k1, hrow]))
    first | (refine dEnd_ro ?_ (hKK _ _ _ ?_); (focus (simp; done)); clear htab tab hKK KK; simp only [thenA, blockA, reduceIte]) | (refine dEnd_of ?_ (hKK _ _ _ ?_); (focus (simp only [List.reverse_cons, List.reverse_nil, List.nil_append, List.cons_append, memA, mem1, and_true, true_and]; (repeat' apply And.intro); (all_goals (first | trivial | (refine .inr ⟨?_, ?_⟩ <;> (simp; done)) | (refine .inr ⟨?_, ?_⟩ <;> (simp <;> omega)) | (refine .inl ?_; rw [htab]; kernel_rfl))); done)); clear htab tab hKK KK; simp only [thenA, blockA, reduceIte]) | skip
    have hpk2 := pk_bd h8 (p := q + 1 + 1) (n := 2) (by omega) (by omega)
    have hm := iAt_mem (l := [1001, -1001]) hpk2.1 hpk2.2
    simp only [List.mem_cons, List.not_mem_nil, or_false] at hm
    repeat' (first
      | refine AWP.seq ?_
      | refine AWP.block ?_
      | (refine AWP.skip ?_; simp only [thenA, blockA, reduceIte])
      | (refine AWP.exit ?_; simp only [thenA, blockA, eq_self, reduceIte, Nat.reduceEqDiff, Nat.succ_ne_zero])
      | (refine AWP.ret ?_; simp only [thenA, blockA, reduceIte])
      | (refine AWP.region (by rfl) (fun KK hKK => ?_); (repeat (simp (disch := omega) [k0])); first | (refine hKK _ _ _ ?_; clear hKK KK; simp only [thenA, blockA, reduceIte]) | skip)
      | (refine AWP.draw' mixd (by rfl) (by kernel_rfl) (fun KK tab hKK htab => ?_); (repeat (simp (disch := omega) [k0])); first | (refine dEnd_ro ?_ (hKK _ _ _ ?_); (focus (simp; done)); clear htab tab hKK KK; simp only [thenA, blockA, reduceIte]) | (refine dEnd_of ?_ (hKK _ _ _ ?_); (focus (simp only [List.reverse_cons, List.reverse_nil, List.nil_append, List.cons_append, memA, mem1, and_true, true_and]; (repeat' apply And.intro); (all_goals (first | trivial | (refine .inr ⟨?_, ?_⟩ <;> (simp; done)) | (refine .inr ⟨?_, ?_⟩ <;> (simp <;> omega)) | (refine .inl ?_; rw [htab]; kernel_rfl))); done)); clear htab tab hKK KK; simp only [thenA, blockA, reduceIte]) | skip)
      | (refine AWP.if_t ?_ ?_; focus (simp (disch := omega) [k0]; done))
      | (refine AWP.if_f ?_ ?_; focus (simp (disch := omega) [k0]; done)))
    refine ⟨by simp, ?_⟩
    have hres : Try.f67.results.toList = [.cell 2 25] := rfl
    rw [hres]
    simp (disch := omega) []
    refine fin1M (K + 1) (rdB (.sl bx ox bs.length capx zx) (q + 1 + 1 + 1)) (blkD (valD ds (pk bs q ds.length).toNat (iAt [1001, -1001] (pk bs (q + 1 + 1) 2)))) (by simp (disch := omega) only [upd_eq, upd_ne, del_ne, hrb]) rfl (low_rd hlo) (by simp (disch := omega) only [upd_eq, upd_ne, del_ne, blkD, rowsD_val _ _ hil]) rfl (flatD _).low hrν ⟨valD ds (pk bs q ds.length).toNat (iAt [1001, -1001] (pk bs (q + 1 + 1) 2)), q + 1 + 1 + 1, (hgd.more (by omega)).val (by omega) (by omega), by omega, by omega, by simp [resO, ren, rens, rho, valD_len], rfl⟩ (by omega) (by simp [resO, nms, nmss])
  have hz1 : (ds.length + 1) * 24 ≤ 140737488355328 := by have := hgd.len; omega
  have hz2 : ds.length + 1 ≤ 4611686018427387904 := by have := hgd.len; omega
  have hz3 : (ds.length + 13) * 24 ≤ 140737488355328 := by have := hgd.len; omega
  have hz4 : ds.length + 13 ≤ 4611686018427387904 := by have := hgd.len; omega
  have hmem := List.getElem_mem hil
  by_cases c2 : pk bs (q + 1) 24 = 2
  · repeat' (first
      | refine AWP.seq ?_
      | refine AWP.block ?_
      | (refine AWP.skip ?_; simp only [thenA, blockA, reduceIte])
      | (refine AWP.exit ?_; simp only [thenA, blockA, eq_self, reduceIte, Nat.reduceEqDiff, Nat.succ_ne_zero])
      | (refine AWP.ret ?_; simp only [thenA, blockA, reduceIte])
      | (refine AWP.region (by rfl) (fun KK hKK => ?_); (repeat (simp (disch := omega) [c2, k0, k1, hrow, elems, rowsD_len, rowsD_take, rowsD_snoc, hz1, hz2])); first | (refine hKK _ _ _ ?_; clear hKK KK; simp only [thenA, blockA, reduceIte]) | skip)
      | (refine AWP.draw' mixd (by rfl) (by kernel_rfl) (fun KK tab hKK htab => ?_); (repeat (simp (disch := omega) [c2, k0, k1, hrow, elems, rowsD_len, rowsD_take, rowsD_snoc, hz1, hz2])); first | (refine dEnd_ro ?_ (hKK _ _ _ ?_); (focus (simp; done)); clear htab tab hKK KK; simp only [thenA, blockA, reduceIte]) | (refine dEnd_of ?_ (hKK _ _ _ ?_); (focus (simp only [List.reverse_cons, List.reverse_nil, List.nil_append, List.cons_append, memA, mem1, and_true, true_and]; (repeat' apply And.intro); (all_goals (first | trivial | (refine .inr ⟨?_, ?_⟩ <;> (simp; done)) | (refine .inr ⟨?_, ?_⟩ <;> (simp <;> omega)) | (refine .inl ?_; rw [htab]; kernel_rfl))); done)); clear htab tab hKK KK; simp only [thenA, blockA, reduceIte]) | skip)
      | (refine AWP.if_t ?_ ?_; focus (simp (disch := omega) [c2, k0, k1, hrow, elems, rowsD_len, rowsD_take, rowsD_snoc, hz1, hz2]; done))
      | (refine AWP.if_f ?_ ?_; focus (simp (disch := omega) [c2, k0, k1, hrow, elems, rowsD_len, rowsD_take, rowsD_snoc, hz1, hz2]; done)))
    repeat' (first
      | refine AWP.seq ?_
      | refine AWP.block ?_
      | (refine AWP.skip ?_; simp only [thenA, blockA, reduceIte])
      | (refine AWP.exit ?_; simp only [thenA, blockA, eq_self, reduceIte, Nat.reduceEqDiff, Nat.succ_ne_zero])
      | (refine AWP.ret ?_; simp only [thenA, blockA, reduceIte])
      | (refine AWP.region (by rfl) (fun KK hKK => ?_); (repeat (simp (disch := omega) [k0])); first | (refine hKK _ _ _ ?_; clear hKK KK; simp only [thenA, blockA, reduceIte]) | skip)
      | (refine AWP.draw' mixd (by rfl) (by kernel_rfl) (fun KK tab hKK htab => ?_); (repeat (simp (disch := omega) [k0])); first | (refine dEnd_ro ?_ (hKK _ _ _ ?_); (focus (simp; done)); clear htab tab hKK KK; simp only [thenA, blockA, reduceIte]) | (refine dEnd_of ?_ (hKK _ _ _ ?_); (focus (simp only [List.reverse_cons, List.reverse_nil, List.nil_append, List.cons_append, memA, mem1, and_true, true_and]; (repeat' apply And.intro); (all_goals (first | trivial | (refine .inr ⟨?_, ?_⟩ <;> (simp; done)) | (refine .inr ⟨?_, ?_⟩ <;> (simp <;> omega)) | (refine .inl ?_; rw [htab]; kernel_rfl))); done)); clear htab tab hKK KK; simp only [thenA, blockA, reduceIte]) | skip)
      | (refine AWP.if_t ?_ ?_; focus (simp (disch := omega) [k0]; done))
      | (refine AWP.if_f ?_ ?_; focus (simp (disch := omega) [k0]; done)))
    refine ⟨by simp, ?_⟩
    have hres : Try.f67.results.toList = [.cell 2 25] := rfl
    rw [hres]
    simp (disch := omega) []
    refine fin1M (K + 1 + 2 + 1 + 2 + 2 + 16) (rdB (.sl bx ox bs.length capx zx) (q + 1 + 1)) (blkD (ds ++ [(ds[(pk bs q ds.length).toNat].1, ds[(pk bs q ds.length).toNat].2)])) (by simp (disch := omega) only [upd_eq, upd_ne, del_ne, hrb]) rfl (low_rd hlo) (by simp (disch := omega) only [upd_eq, upd_ne, del_ne, blkD, rowsD_len]) rfl (flatD _).low hrν ⟨ds ++ [(ds[(pk bs q ds.length).toNat].1, ds[(pk bs q ds.length).toNat].2)], q + 1 + 1, (hgd.snoc (hgd.sz _ hmem) (hgd.lo _ hmem) (hgd.hi _ hmem)).more (by omega), by omega, by omega, by simp [resO, ren, rens, rho, List.length_append], rfl⟩ (by omega) (by simp [resO, nms, nmss])
  by_cases c3 : pk bs (q + 1) 24 = 3
  · repeat' (first
      | refine AWP.seq ?_
      | refine AWP.block ?_
      | (refine AWP.skip ?_; simp only [thenA, blockA, reduceIte])
      | (refine AWP.exit ?_; simp only [thenA, blockA, eq_self, reduceIte, Nat.reduceEqDiff, Nat.succ_ne_zero])
      | (refine AWP.ret ?_; simp only [thenA, blockA, reduceIte])
      | (refine AWP.region (by rfl) (fun KK hKK => ?_); (repeat (simp (disch := omega) [c3, k0, k1, hrow, rowsD_len, rowsD_take, hz3, hz4])); first | (refine hKK _ _ _ ?_; clear hKK KK; simp only [thenA, blockA, reduceIte]) | skip)
      | (refine AWP.draw' mixd (by rfl) (by kernel_rfl) (fun KK tab hKK htab => ?_); (repeat (simp (disch := omega) [c3, k0, k1, hrow, rowsD_len, rowsD_take, hz3, hz4])); first | (refine dEnd_ro ?_ (hKK _ _ _ ?_); (focus (simp; done)); clear htab tab hKK KK; simp only [thenA, blockA, reduceIte]) | (refine dEnd_of ?_ (hKK _ _ _ ?_); (focus (simp only [List.reverse_cons, List.reverse_nil, List.nil_append, List.cons_append, memA, mem1, and_true, true_and]; (repeat' apply And.intro); (all_goals (first | trivial | (refine .inr ⟨?_, ?_⟩ <;> (simp; done)) | (refine .inr ⟨?_, ?_⟩ <;> (simp <;> omega)) | (refine .inl ?_; rw [htab]; kernel_rfl))); done)); clear htab tab hKK KK; simp only [thenA, blockA, reduceIte]) | skip)
      | (refine AWP.if_t ?_ ?_; focus (simp (disch := omega) [c3, k0, k1, hrow, rowsD_len, rowsD_take, hz3, hz4]; done))
      | (refine AWP.if_f ?_ ?_; focus (simp (disch := omega) [c3, k0, k1, hrow, rowsD_len, rowsD_take, hz3, hz4]; done)))
    repeat' (first
      | refine AWP.seq ?_
      | refine AWP.block ?_
      | (refine AWP.skip ?_; simp only [thenA, blockA, reduceIte])
      | (refine AWP.exit ?_; simp only [thenA, blockA, eq_self, reduceIte, Nat.reduceEqDiff, Nat.succ_ne_zero])
      | (refine AWP.ret ?_; simp only [thenA, blockA, reduceIte])
      | (refine AWP.region (by rfl) (fun KK hKK => ?_); (repeat (simp (disch := omega) [k0])); first | (refine hKK _ _ _ ?_; clear hKK KK; simp only [thenA, blockA, reduceIte]) | skip)
      | (refine AWP.draw' mixd (by rfl) (by kernel_rfl) (fun KK tab hKK htab => ?_); (repeat (simp (disch := omega) [k0])); first | (refine dEnd_ro ?_ (hKK _ _ _ ?_); (focus (simp; done)); clear htab tab hKK KK; simp only [thenA, blockA, reduceIte]) | (refine dEnd_of ?_ (hKK _ _ _ ?_); (focus (simp only [List.reverse_cons, List.reverse_nil, List.nil_append, List.cons_append, memA, mem1, and_true, true_and]; (repeat' apply And.intro); (all_goals (first | trivial | (refine .inr ⟨?_, ?_⟩ <;> (simp; done)) | (refine .inr ⟨?_, ?_⟩ <;> (simp <;> omega)) | (refine .inl ?_; rw [htab]; kernel_rfl))); done)); clear htab tab hKK KK; simp only [thenA, blockA, reduceIte]) | skip)
      | (refine AWP.if_t ?_ ?_; focus (simp (disch := omega) [k0]; done))
      | (refine AWP.if_f ?_ ?_; focus (simp (disch := omega) [k0]; done)))
    refine ⟨by simp, ?_⟩
    have hres : Try.f67.results.toList = [.cell 2 25] := rfl
    rw [hres]
    simp (disch := omega) []
    refine fin1M (K + 1 + 2 + 1 + 2 + 2) (rdB (.sl bx ox bs.length capx zx) (q + 1 + 1)) (blkD (ds ++ z13)) (by simp (disch := omega) only [upd_eq, upd_ne, del_ne, hrb]) rfl (low_rd hlo) (by simp (disch := omega) only [upd_eq, upd_ne, del_ne, blkD, rowsD_z13]) rfl (flatD _).low hrν ⟨ds ++ z13, q + 1 + 1, hgd.z13.more (by omega), by omega, by omega, by simp [resO, ren, rens, rho, List.length_append, z13], rfl⟩ (by omega) (by simp [resO, nms, nmss])
  · repeat' (first
      | refine AWP.seq ?_
      | refine AWP.block ?_
      | (refine AWP.skip ?_; simp only [thenA, blockA, reduceIte])
      | (refine AWP.exit ?_; simp only [thenA, blockA, eq_self, reduceIte, Nat.reduceEqDiff, Nat.succ_ne_zero])
      | (refine AWP.ret ?_; simp only [thenA, blockA, reduceIte])
      | (refine AWP.region (by rfl) (fun KK hKK => ?_); (repeat (simp (disch := omega) [c0, c1, c2, c3])); first | (refine hKK _ _ _ ?_; clear hKK KK; simp only [thenA, blockA, reduceIte]) | skip)
      | (refine AWP.draw' mixd (by rfl) (by kernel_rfl) (fun KK tab hKK htab => ?_); (repeat (simp (disch := omega) [c0, c1, c2, c3])); first | (refine dEnd_ro ?_ (hKK _ _ _ ?_); (focus (simp; done)); clear htab tab hKK KK; simp only [thenA, blockA, reduceIte]) | (refine dEnd_of ?_ (hKK _ _ _ ?_); (focus (simp only [List.reverse_cons, List.reverse_nil, List.nil_append, List.cons_append, memA, mem1, and_true, true_and]; (repeat' apply And.intro); (all_goals (first | trivial | (refine .inr ⟨?_, ?_⟩ <;> (simp; done)) | (refine .inr ⟨?_, ?_⟩ <;> (simp <;> omega)) | (refine .inl ?_; rw [htab]; kernel_rfl))); done)); clear htab tab hKK KK; simp only [thenA, blockA, reduceIte]) | skip)
      | (refine AWP.if_t ?_ ?_; focus (simp (disch := omega) [c0, c1, c2, c3]; done))
      | (refine AWP.if_f ?_ ?_; focus (simp (disch := omega) [c0, c1, c2, c3]; done)))
    repeat' (first
      | refine AWP.seq ?_
      | refine AWP.block ?_
      | (refine AWP.skip ?_; simp only [thenA, blockA, reduceIte])
      | (refine AWP.exit ?_; simp only [thenA, blockA, eq_self, reduceIte, Nat.reduceEqDiff, Nat.succ_ne_zero])
      | (refine AWP.ret ?_; simp only [thenA, blockA, reduceIte])
      | (refine AWP.region (by rfl) (fun KK hKK => ?_); (repeat (simp (disch := omega) [k0])); first | (refine hKK _ _ _ ?_; clear hKK KK; simp only [thenA, blockA, reduceIte]) | skip)
      | (refine AWP.draw' mixd (by rfl) (by kernel_rfl) (fun KK tab hKK htab => ?_); (repeat (simp (disch := omega) [k0])); first | (refine dEnd_ro ?_ (hKK _ _ _ ?_); (focus (simp; done)); clear htab tab hKK KK; simp only [thenA, blockA, reduceIte]) | (refine dEnd_of ?_ (hKK _ _ _ ?_); (focus (simp only [List.reverse_cons, List.reverse_nil, List.nil_append, List.cons_append, memA, mem1, and_true, true_and]; (repeat' apply And.intro); (all_goals (first | trivial | (refine .inr ⟨?_, ?_⟩ <;> (simp; done)) | (refine .inr ⟨?_, ?_⟩ <;> (simp <;> omega)) | (refine .inl ?_; rw [htab]; kernel_rfl))); done)); clear htab tab hKK KK; simp only [thenA, blockA, reduceIte]) | skip)
      | (refine AWP.if_t ?_ ?_; focus (simp (disch := omega) [k0]; done))
      | (refine AWP.if_f ?_ ?_; focus (simp (disch := omega) [k0]; done)))
    refine ⟨by simp, ?_⟩
    have hres : Try.f67.results.toList = [.cell 2 25] := rfl
    rw [hres]
    simp (disch := omega) []
    refine fin1M (K + 1) (rdB (.sl bx ox bs.length capx zx) (q + 1 + 1)) (blkD (ds)) (by simp (disch := omega) only [upd_eq, upd_ne, del_ne, hrb]) rfl (low_rd hlo) (by simp (disch := omega) only [upd_eq, upd_ne, del_ne, blkD, hl]) rfl (flatD _).low hrν ⟨ds, q + 1 + 1, hgd.more (by omega), by omega, by omega, by simp [resO, ren, rens, rho, hl], rfl⟩ (by omega) (by simp [resO, nms, nmss])
end Go.Proofs.Ytgaiemhbllbaiaa
