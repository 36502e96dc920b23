/- Contracts of the generators' small parts: one of a list, names. No condition. -/
import Derived.Test.YtgaiemhbllbaiaaG1
set_option linter.unusedSimpArgs false
set_option linter.unusedVariables false
namespace Go.Proofs.Ytgaiemhbllbaiaa
open Go Go.RowKit

def rowsS (l : List ByteArray) : List (List AV) := l.map fun s => [.v (.string s)]
theorem rowsS_len (l : List ByteArray) : (rowsS l).length = l.length := by simp [rowsS]
def rowsI (l : List Int) : List (List AV) := l.map fun n => [.v (.int .i64 n)]
theorem rowsI_len (l : List Int) : (rowsI l).length = l.length := by simp [rowsI]
def sAt (l : List ByteArray) (i : Int) : ByteArray := l.getD i.toNat ByteArray.empty
def iAt (l : List Int) (i : Int) : Int := l.getD i.toNat 0
theorem sAt_mem {l : List ByteArray} {i : Int} (h0 : 0 ≤ i) (h : i < l.length) : sAt l i ∈ l := by
  unfold sAt
  rw [List.getD_eq_getElem?_getD, List.getElem?_eq_getElem (by omega)]
  exact List.getElem_mem _
theorem iAt_mem {l : List Int} {i : Int} (h0 : 0 ≤ i) (h : i < l.length) : iAt l i ∈ l := by
  unfold iAt
  rw [List.getD_eq_getElem?_getD, List.getElem?_eq_getElem (by omega)]
  exact List.getElem_mem _
theorem rowsS_at {l : List ByteArray} {i : Int} (h0 : 0 ≤ i) (h : i < l.length) : (rowsS l)[i.toNat]'(by rw [rowsS_len]; omega) = [.v (.string (sAt l i))] := by
  simp [rowsS, sAt, List.getD_eq_getElem?_getD, List.getElem?_eq_getElem (show i.toNat < l.length by omega)]
theorem rowsI_at {l : List Int} {i : Int} (h0 : 0 ≤ i) (h : i < l.length) : (rowsI l)[i.toNat]'(by rw [rowsI_len]; omega) = [.v (.int .i64 (iAt l i))] := by
  simp [rowsI, iAt, List.getD_eq_getElem?_getD, List.getElem?_eq_getElem (show i.toNat < l.length by omega)]

set_option maxRecDepth 10000 in
set_option maxHeartbeats 1000000 in
theorem of_c (σ : Sto) (ν rb : Nat) (x y : AV) (bs : List Int) (p : Int) (l : List ByteArray) (hb : σ rb = some (rdB x p)) (hx : Sl σ x 1 (rowsB bs)) (h8 : Code8 bs) (hp : 0 ≤ p ∧ p ≤ 1000000) (hy : Sl σ y 1 (rowsS l)) (hl : 0 < l.length) (hl2 : l.length ≤ 4294967296) :
    AC Try.prog 102 [.ptr rb 0 0, y] σ ν fun r δ => r = .v (.string (sAt l (pk bs p l.length))) ∧ δ = upd noS rb (rdB x (p + 1)) := by
  obtain ⟨b2, o2, cap2, z2, rfl⟩ := hy.out
  obtain ⟨bx, ox, capx, zx, rfl⟩ := hx.out
  simp only [rowsS_len, rowsB_len] at hy hx hb ⊢
  refine AC.intro [rb] ent_102 Try.func102 rfl (by simp [Try.f102]) (by simp [hb]) ?_
  intro K s hs hB hn hν hA hFr
  simp only [argT, Nat.zero_add, Nat.reduceAdd]
  have hrb : s rb = some (rdB (.sl bx ox bs.length capx zx) p) := by rw [hs rb, hb]; simp
  obtain ⟨hrK, hlo⟩ := hB rb _ hrb
  have hx' := hx.vw hs.vw
  have hy' := hy.vw hs.vw
  have hpk := pk_bd h8 hp (n := l.length) (by omega)
  have n1 := hpk.1
  have n2 := hpk.2
  obtain ⟨_, rfl, kb, hkb, hat⟩ := hy'.at (i := (pk bs p l.length).toNat) (by rw [rowsS_len]; omega)
  rw [rowsS_at n1 n2] at hat
  have hbr : b2 ≠ rb := by
    intro e
    subst e
    rw [hrb] at hkb
    cases hkb
    have := (List.getElem?_eq_some_iff.1 hat).1
    simp at hat
    cases o2 with
    | zero => cases hh : (pk bs p l.length).toNat <;> simp [hh] at hat
    | succ o => simp at this
  repeat' (first
    | refine AWP.seq ?_
    | refine AWP.block ?_
    | (refine AWP.skip ?_; simp only [thenA, blockA, reduceIte])
    | (refine AWP.exit ?_; simp only [thenA, blockA, eq_self, reduceIte, Nat.reduceEqDiff, Nat.succ_ne_zero])
    | (refine AWP.ret ?_; simp only [thenA, blockA, reduceIte])
    | (refine AWP.region (by rfl) (fun KK hKK => ?_); (repeat (simp (disch := omega) [])); first | (refine hKK _ _ _ ?_; clear hKK KK; simp only [thenA, blockA, reduceIte]) | skip)
    | (refine AWP.if_t ?_ ?_; focus (simp (disch := omega) []; done))
    | (refine AWP.if_f ?_ ?_; focus (simp (disch := omega) []; done)))
  refine aStop_of (pick_c _ _ rb _ bs p l.length hrb hx' h8 hp) ?_
  rintro r δ ⟨rfl, rfl⟩
  (repeat (simp (disch := omega) [hbr, hkb, hat, n1, n2]))
  first | (refine hKK _ _ _ ?_; clear hKK KK; simp only [thenA, blockA, reduceIte]) | skip
  repeat' (first
    | refine AWP.seq ?_
    | refine AWP.block ?_
    | (refine AWP.skip ?_; simp only [thenA, blockA, reduceIte])
    | (refine AWP.exit ?_; simp only [thenA, blockA, eq_self, reduceIte, Nat.reduceEqDiff, Nat.succ_ne_zero])
    | (refine AWP.ret ?_; simp only [thenA, blockA, reduceIte])
    | (refine AWP.region (by rfl) (fun KK hKK => ?_); (repeat (simp (disch := omega) [])); first | (refine hKK _ _ _ ?_; clear hKK KK; simp only [thenA, blockA, reduceIte]) | skip)
    | (refine AWP.if_t ?_ ?_; focus (simp (disch := omega) []; done))
    | (refine AWP.if_f ?_ ?_; focus (simp (disch := omega) []; done)))
  refine ⟨by simp, _, rfl, fin0M (rdB (.sl bx ox bs.length capx zx) (p + 1)) (by simp (disch := omega)) rfl (low_rd hlo) ⟨?_, rfl⟩ (by simp [resO, get, nms, nmss])⟩
  simp [resO, get, ren, rens, rho]

set_option maxRecDepth 10000 in
set_option maxHeartbeats 1000000 in
theorem one_c (σ : Sto) (ν rb : Nat) (x y : AV) (bs : List Int) (p : Int) (l : List Int) (hb : σ rb = some (rdB x p)) (hx : Sl σ x 1 (rowsB bs)) (h8 : Code8 bs) (hp : 0 ≤ p ∧ p ≤ 1000000) (hy : Sl σ y 1 (rowsI l)) (hl : 0 < l.length) (hl2 : l.length ≤ 4294967296) :
    AC Try.prog 79 [.ptr rb 0 0, y] σ ν fun r δ => r = .v (.int .i64 (iAt l (pk bs p l.length))) ∧ δ = upd noS rb (rdB x (p + 1)) := by
  obtain ⟨b2, o2, cap2, z2, rfl⟩ := hy.out
  obtain ⟨bx, ox, capx, zx, rfl⟩ := hx.out
  simp only [rowsI_len, rowsB_len] at hy hx hb ⊢
  refine AC.intro [rb] ent_79 Try.func79 rfl (by simp [Try.f79]) (by simp [hb]) ?_
  intro K s hs hB hn hν hA hFr
  simp only [argT, Nat.zero_add, Nat.reduceAdd]
  have hrb : s rb = some (rdB (.sl bx ox bs.length capx zx) p) := by rw [hs rb, hb]; simp
  obtain ⟨hrK, hlo⟩ := hB rb _ hrb
  have hx' := hx.vw hs.vw
  have hy' := hy.vw hs.vw
  have hpk := pk_bd h8 hp (n := l.length) (by omega)
  have n1 := hpk.1
  have n2 := hpk.2
  obtain ⟨_, rfl, kb, hkb, hat⟩ := hy'.at (i := (pk bs p l.length).toNat) (by rw [rowsI_len]; omega)
  rw [rowsI_at n1 n2] at hat
  have hbr : b2 ≠ rb := by
    intro e
    subst e
    rw [hrb] at hkb
    cases hkb
    have := (List.getElem?_eq_some_iff.1 hat).1
    simp at hat
    cases o2 with
    | zero => cases hh : (pk bs p l.length).toNat <;> simp [hh] at hat
    | succ o => simp at this
  repeat' (first
    | refine AWP.seq ?_
    | refine AWP.block ?_
    | (refine AWP.skip ?_; simp only [thenA, blockA, reduceIte])
    | (refine AWP.exit ?_; simp only [thenA, blockA, eq_self, reduceIte, Nat.reduceEqDiff, Nat.succ_ne_zero])
    | (refine AWP.ret ?_; simp only [thenA, blockA, reduceIte])
    | (refine AWP.region (by rfl) (fun KK hKK => ?_); (repeat (simp (disch := omega) [])); first | (refine hKK _ _ _ ?_; clear hKK KK; simp only [thenA, blockA, reduceIte]) | skip)
    | (refine AWP.if_t ?_ ?_; focus (simp (disch := omega) []; done))
    | (refine AWP.if_f ?_ ?_; focus (simp (disch := omega) []; done)))
  refine aStop_of (pick_c _ _ rb _ bs p l.length hrb hx' h8 hp) ?_
  rintro r δ ⟨rfl, rfl⟩
  (repeat (simp (disch := omega) [hbr, hkb, hat, n1, n2]))
  first | (refine hKK _ _ _ ?_; clear hKK KK; simp only [thenA, blockA, reduceIte]) | skip
  repeat' (first
    | refine AWP.seq ?_
    | refine AWP.block ?_
    | (refine AWP.skip ?_; simp only [thenA, blockA, reduceIte])
    | (refine AWP.exit ?_; simp only [thenA, blockA, eq_self, reduceIte, Nat.reduceEqDiff, Nat.succ_ne_zero])
    | (refine AWP.ret ?_; simp only [thenA, blockA, reduceIte])
    | (refine AWP.region (by rfl) (fun KK hKK => ?_); (repeat (simp (disch := omega) [])); first | (refine hKK _ _ _ ?_; clear hKK KK; simp only [thenA, blockA, reduceIte]) | skip)
    | (refine AWP.if_t ?_ ?_; focus (simp (disch := omega) []; done))
    | (refine AWP.if_f ?_ ?_; focus (simp (disch := omega) []; done)))
  refine ⟨by simp, _, rfl, fin0M (rdB (.sl bx ox bs.length capx zx) (p + 1)) (by simp (disch := omega)) rfl (low_rd hlo) ⟨?_, rfl⟩ (by simp [resO, get, nms, nmss])⟩
  simp [resO, get, ren, rens, rho]

def aNames : List ByteArray := [⟨#[97]⟩, ⟨#[98]⟩, ⟨#[99]⟩, ⟨#[100]⟩, ⟨#[101]⟩, ⟨#[97, 98]⟩, ⟨#[114, 101, 100]⟩, ⟨#[98, 108, 117, 101]⟩, ⟨#[111, 110]⟩, ⟨#[111, 102, 102]⟩, ⟨#[97, 108, 108]⟩, ⟨#[102]⟩]
def anyNames : List ByteArray := [⟨#[]⟩, ⟨#[65]⟩, ⟨#[116, 111, 111, 108, 111, 110, 103]⟩, ⟨#[97, 49]⟩, ⟨#[97, 32, 98]⟩, ⟨#[97, 98, 99, 100, 101, 102]⟩]
def aNameF (bs : List Int) (p : Int) : ByteArray := sAt aNames (pk bs p 12)
def anyNameF (bs : List Int) (p : Int) : ByteArray := if pk bs p 16 = 0 then sAt anyNames (pk bs (p + 1) 6) else aNameF bs (p + 1)

set_option maxRecDepth 10000 in
set_option maxHeartbeats 1000000 in
theorem aName_c (σ : Sto) (ν rb : Nat) (x : AV) (bs : List Int) (p : Int) (hb : σ rb = some (rdB x p)) (hx : Sl σ x 1 (rowsB bs)) (h8 : Code8 bs) (hp : 0 ≤ p ∧ p ≤ 1000000) :
    AC Try.prog 87 [.ptr rb 0 0] σ ν fun r δ => r = .v (.string (aNameF bs p)) ∧ δ = upd noS rb (rdB x (p + 1)) := by
  obtain ⟨bx, ox, capx, zx, rfl⟩ := hx.out
  simp only [rowsB_len] at hx hb ⊢
  refine AC.intro [rb] ent_87 Try.func87 rfl (by simp [Try.f87]) (by simp [hb]) ?_
  intro K s hs hB hn hν hA hFr
  simp only [argT, Nat.zero_add, Nat.reduceAdd]
  have hrb : s rb = some (rdB (.sl bx ox bs.length capx zx) p) := by rw [hs rb, hb]; simp
  obtain ⟨hrK, hlo⟩ := hB rb _ hrb
  have hx' := hx.vw hs.vw
  repeat' (first
    | refine AWP.seq ?_
    | refine AWP.block ?_
    | (refine AWP.skip ?_; simp only [thenA, blockA, reduceIte])
    | (refine AWP.exit ?_; simp only [thenA, blockA, eq_self, reduceIte, Nat.reduceEqDiff, Nat.succ_ne_zero])
    | (refine AWP.ret ?_; simp only [thenA, blockA, reduceIte])
    | (refine AWP.region (by rfl) (fun KK hKK => ?_); (repeat (simp (disch := omega) [])); first | (refine hKK _ _ _ ?_; clear hKK KK; simp only [thenA, blockA, reduceIte]) | skip)
    | (refine AWP.if_t ?_ ?_; focus (simp (disch := omega) []; done))
    | (refine AWP.if_f ?_ ?_; focus (simp (disch := omega) []; done)))
  refine aStop_of (of_c _ _ rb _ _ bs p aNames (by simp (disch := omega) only [upd_ne]; exact hrb) (hx'.vw ((Vw.refl _).over (by repeat (first | exact Over.refl _ | exact hov | refine Over.upd ?_ hB (by omega) | refine Over.del ?_ hB (by omega))))) h8 hp (Sl.whole (t := 9) (r := true) (by simp only [upd_eq]; rfl) rfl) (by decide) (by decide)) ?_
  rintro r δ ⟨rfl, rfl⟩
  (repeat (simp (disch := omega) []))
  first | (refine hKK _ _ _ ?_; clear hKK KK; simp only [thenA, blockA, reduceIte]) | skip
  repeat' (first
    | refine AWP.seq ?_
    | refine AWP.block ?_
    | (refine AWP.skip ?_; simp only [thenA, blockA, reduceIte])
    | (refine AWP.exit ?_; simp only [thenA, blockA, eq_self, reduceIte, Nat.reduceEqDiff, Nat.succ_ne_zero])
    | (refine AWP.ret ?_; simp only [thenA, blockA, reduceIte])
    | (refine AWP.region (by rfl) (fun KK hKK => ?_); (repeat (simp (disch := omega) [])); first | (refine hKK _ _ _ ?_; clear hKK KK; simp only [thenA, blockA, reduceIte]) | skip)
    | (refine AWP.if_t ?_ ?_; focus (simp (disch := omega) []; done))
    | (refine AWP.if_f ?_ ?_; focus (simp (disch := omega) []; done)))
  refine ⟨by simp, _, rfl, fin0M (rdB (.sl bx ox bs.length capx zx) (p + 1)) (by simp (disch := omega) [aNameF]) rfl (low_rd hlo) ⟨?_, rfl⟩ (by simp [resO, get, nms, nmss])⟩
  simp [resO, get, ren, rens, rho, aNameF]
  rfl

set_option maxRecDepth 10000 in
set_option maxHeartbeats 1000000 in
theorem anyName_c (σ : Sto) (ν rb : Nat) (x : AV) (bs : List Int) (p : Int) (hb : σ rb = some (rdB x p)) (hx : Sl σ x 1 (rowsB bs)) (h8 : Code8 bs) (hp : 0 ≤ p ∧ p ≤ 100000) :
    AC Try.prog 103 [.ptr rb 0 0] σ ν fun r δ => r = .v (.string (anyNameF bs p)) ∧ δ = upd noS rb (rdB x (p + 2)) := by
  obtain ⟨bx, ox, capx, zx, rfl⟩ := hx.out
  simp only [rowsB_len] at hx hb ⊢
  refine AC.intro [rb] ent_103 Try.func103 rfl (by simp [Try.f103]) (by simp [hb]) ?_
  intro K s hs hB hn hν hA hFr
  simp only [argT, Nat.zero_add, Nat.reduceAdd]
  have hrb : s rb = some (rdB (.sl bx ox bs.length capx zx) p) := by rw [hs rb, hb]; simp
  obtain ⟨hrK, hlo⟩ := hB rb _ hrb
  have hx' := hx.vw hs.vw
  repeat' (first
    | refine AWP.seq ?_
    | refine AWP.block ?_
    | (refine AWP.skip ?_; simp only [thenA, blockA, reduceIte])
    | (refine AWP.exit ?_; simp only [thenA, blockA, eq_self, reduceIte, Nat.reduceEqDiff, Nat.succ_ne_zero])
    | (refine AWP.ret ?_; simp only [thenA, blockA, reduceIte])
    | (refine AWP.region (by rfl) (fun KK hKK => ?_); (repeat (simp (disch := omega) [])); first | (refine hKK _ _ _ ?_; clear hKK KK; simp only [thenA, blockA, reduceIte]) | skip)
    | (refine AWP.if_t ?_ ?_; focus (simp (disch := omega) []; done))
    | (refine AWP.if_f ?_ ?_; focus (simp (disch := omega) []; done)))
  refine aStop_of (pick_c _ _ rb _ bs p 16 hrb hx' h8 (by omega)) ?_
  rintro r δ ⟨rfl, rfl⟩
  (repeat (simp (disch := omega) []))
  first | (refine hKK _ _ _ ?_; clear hKK KK; simp only [thenA, blockA, reduceIte]) | skip
  have e : p + 1 + 1 = p + 2 := by omega
  by_cases h : pk bs p 16 = 0
  · repeat' (first
      | refine AWP.seq ?_
      | refine AWP.block ?_
      | (refine AWP.skip ?_; simp only [thenA, blockA, reduceIte])
      | (refine AWP.exit ?_; simp only [thenA, blockA, eq_self, reduceIte, Nat.reduceEqDiff, Nat.succ_ne_zero])
      | (refine AWP.ret ?_; simp only [thenA, blockA, reduceIte])
      | (refine AWP.region (by rfl) (fun KK hKK => ?_); (repeat (simp (disch := omega) [h])); first | (refine hKK _ _ _ ?_; clear hKK KK; simp only [thenA, blockA, reduceIte]) | skip)
      | (refine AWP.if_t ?_ ?_; focus (simp (disch := omega) [h]; done))
      | (refine AWP.if_f ?_ ?_; focus (simp (disch := omega) [h]; done)))
    refine aStop_of (of_c _ _ rb _ _ bs (p + 1) anyNames (by simp (disch := omega) only [upd_eq, upd_ne, del_ne, hrb]) (hx'.ovb hrb (fun c kc hc h => by have := (hB c kc h).1; first | exact h | (simp (disch := omega) only [upd_ne, del_ne]; exact h))) h8 (by omega) (Sl.whole (t := 9) (r := true) (by simp only [upd_eq]; rfl) rfl) (by decide) (by decide)) ?_
    rintro r δ ⟨rfl, rfl⟩
    (repeat (simp (disch := omega) [e]))
    first | (refine hKK _ _ _ ?_; clear hKK KK; simp only [thenA, blockA, reduceIte]) | skip
    repeat' (first
      | refine AWP.seq ?_
      | refine AWP.block ?_
      | (refine AWP.skip ?_; simp only [thenA, blockA, reduceIte])
      | (refine AWP.exit ?_; simp only [thenA, blockA, eq_self, reduceIte, Nat.reduceEqDiff, Nat.succ_ne_zero])
      | (refine AWP.ret ?_; simp only [thenA, blockA, reduceIte])
      | (refine AWP.region (by rfl) (fun KK hKK => ?_); (repeat (simp (disch := omega) [])); first | (refine hKK _ _ _ ?_; clear hKK KK; simp only [thenA, blockA, reduceIte]) | skip)
      | (refine AWP.if_t ?_ ?_; focus (simp (disch := omega) []; done))
      | (refine AWP.if_f ?_ ?_; focus (simp (disch := omega) []; done)))
    refine ⟨by simp, _, rfl, fin0M (rdB (.sl bx ox bs.length capx zx) (p + 2)) (by simp (disch := omega) [anyNameF, h]) rfl (low_rd hlo) ⟨?_, rfl⟩ (by simp [resO, get, nms, nmss])⟩
    simp [resO, get, ren, rens, rho, anyNameF, h]
    rfl
  · repeat' (first
      | refine AWP.seq ?_
      | refine AWP.block ?_
      | (refine AWP.skip ?_; simp only [thenA, blockA, reduceIte])
      | (refine AWP.exit ?_; simp only [thenA, blockA, eq_self, reduceIte, Nat.reduceEqDiff, Nat.succ_ne_zero])
      | (refine AWP.ret ?_; simp only [thenA, blockA, reduceIte])
      | (refine AWP.region (by rfl) (fun KK hKK => ?_); (repeat (simp (disch := omega) [h])); first | (refine hKK _ _ _ ?_; clear hKK KK; simp only [thenA, blockA, reduceIte]) | skip)
      | (refine AWP.if_t ?_ ?_; focus (simp (disch := omega) [h]; done))
      | (refine AWP.if_f ?_ ?_; focus (simp (disch := omega) [h]; done)))
    refine aStop_of (aName_c _ _ rb _ bs (p + 1) (by simp (disch := omega) only [upd_eq, upd_ne, del_ne, hrb]) (hx'.ovb hrb (fun c kc hc h => by have := (hB c kc h).1; first | exact h | (simp (disch := omega) only [upd_ne, del_ne]; exact h))) h8 (by omega)) ?_
    rintro r δ ⟨rfl, rfl⟩
    (repeat (simp (disch := omega) [e]))
    first | (refine hKK _ _ _ ?_; clear hKK KK; simp only [thenA, blockA, reduceIte]) | skip
    repeat' (first
      | refine AWP.seq ?_
      | refine AWP.block ?_
      | (refine AWP.skip ?_; simp only [thenA, blockA, reduceIte])
      | (refine AWP.exit ?_; simp only [thenA, blockA, eq_self, reduceIte, Nat.reduceEqDiff, Nat.succ_ne_zero])
      | (refine AWP.ret ?_; simp only [thenA, blockA, reduceIte])
      | (refine AWP.region (by rfl) (fun KK hKK => ?_); (repeat (simp (disch := omega) [])); first | (refine hKK _ _ _ ?_; clear hKK KK; simp only [thenA, blockA, reduceIte]) | skip)
      | (refine AWP.if_t ?_ ?_; focus (simp (disch := omega) []; done))
      | (refine AWP.if_f ?_ ?_; focus (simp (disch := omega) []; done)))
    refine ⟨by simp, _, rfl, fin0M (rdB (.sl bx ox bs.length capx zx) (p + 2)) (by simp (disch := omega) [anyNameF, h]) rfl (low_rd hlo) ⟨?_, rfl⟩ (by simp [resO, get, nms, nmss])⟩
    simp [resO, get, ren, rens, rho, anyNameF, h]
theorem aNameF_mem {bs : List Int} (h : Code8 bs) {p : Int} (hp : 0 ≤ p ∧ p ≤ 1000000) : aNameF bs p ∈ aNames := by
  have := pk_bd h hp (n := 12) (by omega)
  exact sAt_mem this.1 this.2
theorem aNames_sz : ∀ s ∈ aNames, s.size ≤ 4 := by decide
theorem anyNames_sz : ∀ s ∈ anyNames, s.size ≤ 7 := by decide
theorem aNameF_sz {bs : List Int} (h : Code8 bs) {p : Int} (hp : 0 ≤ p ∧ p ≤ 1000000) : (aNameF bs p).size ≤ 7 := by
  have := aNames_sz _ (aNameF_mem h hp)
  omega
theorem anyNameF_sz {bs : List Int} (h : Code8 bs) {p : Int} (hp : 0 ≤ p ∧ p ≤ 100000) : (anyNameF bs p).size ≤ 7 := by
  unfold anyNameF
  split
  · have := pk_bd h (p := p + 1) (by omega) (n := 6) (by omega)
    exact anyNames_sz _ (sAt_mem this.1 this.2)
  · exact aNameF_sz h (by omega)
end Go.Proofs.Ytgaiemhbllbaiaa
