/- Contracts of the reader of codes. No condition. -/
import Derived.Test.YtgaiemhbllbaiaaAbF
set_option linter.unusedSimpArgs false
set_option linter.unusedVariables false
namespace Go.Proofs.Ytgaiemhbllbaiaa
open Go Go.RowKit

abbrev rdB (x : AV) (p : Int) : Blk := ⟨108, 2, [[x, .v (.int .i64 p)]], true⟩
theorem low_rd {K : Nat} {x : AV} {p q : Int} (h : ∀ e ∈ [[x, .v (.int .i64 p)]], ∀ v ∈ e, ∀ n ∈ nms v, n < K) : lowB K (rdB x q) := by
  intro e he v hv n hn
  simp only [List.mem_singleton] at he
  subst he
  simp only [List.mem_cons, List.not_mem_nil, or_false] at hv
  rcases hv with rfl | rfl
  · exact h _ (List.mem_singleton.2 rfl) _ (List.mem_cons_self ..) n hn
  · simp [nms] at hn
def rowsB (bs : List Int) : List (List AV) := bs.map fun n => [.v (.int .u8 n)]
theorem rowsB_len (bs : List Int) : (rowsB bs).length = bs.length := by simp [rowsB]
def bAt (bs : List Int) (i : Int) : Int := bs.getD i.toNat 0
def pkX (bs : List Int) (p : Int) : Int :=
  bAt bs (p.tmod bs.length) * 131 + bAt bs ((p * 7 + 3).tmod bs.length) * 1117 + p * 29 + p.tdiv bs.length * 53
/-- What the reader picks. -/
def pk (bs : List Int) (p n : Int) : Int :=
  if n < 1 then 0 else if bs = [] then 0 else if p < bs.length then (bAt bs p).tmod n else (bits .xor .i64 (pkX bs p) ((pkX bs p).tdiv 64)).tmod n
/-- The bytes of a code. -/
structure Code8 (bs : List Int) : Prop where
  by8 : ∀ y ∈ bs, 0 ≤ y ∧ y ≤ 255
  len : bs.length ≤ 2000
theorem bAt_bd {bs : List Int} (h : Code8 bs) (i : Int) : 0 ≤ bAt bs i ∧ bAt bs i ≤ 255 := by
  unfold bAt
  rw [List.getD_eq_getElem?_getD]
  cases hi : bs[i.toNat]? with
  | none => simp
  | some y => simpa using h.by8 y (List.mem_of_getElem? hi)
theorem tmod_ix {a : Int} {L : Nat} (ha : 0 ≤ a) (hL : 0 < L) : 0 ≤ a.tmod L ∧ a.tmod L < L := by
  rw [Int.tmod_eq_emod_of_nonneg ha]
  exact ⟨Int.emod_nonneg _ (by omega), Int.emod_lt_of_pos _ (by omega)⟩
theorem tdiv_bd {a : Int} {L : Nat} (ha : 0 ≤ a) (hL : 0 < L) : 0 ≤ a.tdiv L ∧ a.tdiv L ≤ a := by
  rw [Int.tdiv_eq_ediv_of_nonneg ha]
  exact ⟨Int.ediv_nonneg ha (by omega), Int.ediv_le_self _ ha⟩
theorem pkX_bd {bs : List Int} (h : Code8 bs) {p : Int} (hp : 0 ≤ p ∧ p ≤ 1000000) (hL : 0 < bs.length) : 0 ≤ pkX bs p ∧ pkX bs p ≤ 1000000000 := by
  have h1 := bAt_bd h (p.tmod bs.length)
  have h2 := bAt_bd h ((p * 7 + 3).tmod bs.length)
  have h3 := tdiv_bd hp.1 hL
  unfold pkX
  omega
theorem ofInt_i64 (a : Nat) (ha : a < 9223372036854775808) : (BitVec.ofInt 64 (a : Int)).toNat = a := by
  rw [BitVec.ofInt_natCast, BitVec.toNat_ofNat]; exact Nat.mod_eq_of_lt (by omega)
theorem i64_xor_nat (a b : Nat) (ha : a < 9223372036854775808) (hb : b < 9223372036854775808) : bits .xor .i64 (a : Int) (b : Int) = ((a ^^^ b : Nat) : Int) := by
  have hx : a ^^^ b < 2 ^ 63 := Nat.xor_lt_two_pow (by omega) (by omega)
  show IntKind.i64.wrap ((BitVec.ofInt 64 (a : Int) ^^^ BitVec.ofInt 64 (b : Int)).toNat : Int) = _
  rw [BitVec.toNat_xor, ofInt_i64 a ha, ofInt_i64 b hb, IntKind.wrap_i64]
  omega
theorem xor_nn {a b : Int} (ha : 0 ≤ a) (ha2 : a ≤ 9223372036854775807) (hb : 0 ≤ b) (hb2 : b ≤ 9223372036854775807) : 0 ≤ bits .xor .i64 a b := by
  obtain ⟨x, rfl⟩ := Int.eq_ofNat_of_zero_le ha
  obtain ⟨y, rfl⟩ := Int.eq_ofNat_of_zero_le hb
  have := i64_xor_nat x y (by omega) (by omega)
  rw [this]
  omega
theorem pk_bd {bs : List Int} (h : Code8 bs) {p n : Int} (hp : 0 ≤ p ∧ p ≤ 1000000) (hn : 1 ≤ n) : 0 ≤ pk bs p n ∧ pk bs p n < n := by
  unfold pk
  rw [if_neg (by omega)]
  split
  · omega
  · rename_i hne
    have hL : 0 < bs.length := List.length_pos_iff.2 hne
    obtain ⟨m, rfl⟩ := Int.eq_ofNat_of_zero_le (show 0 ≤ n by omega)
    split
    · exact tmod_ix (bAt_bd h p).1 (by omega)
    · have h1 := pkX_bd h hp hL
      have h2 : 0 ≤ (pkX bs p).tdiv 64 ∧ (pkX bs p).tdiv 64 ≤ pkX bs p := tdiv_bd (L := 64) h1.1 (by omega)
      exact tmod_ix (xor_nn h1.1 (by omega) h2.1 (by omega)) (by omega)
theorem rowsB_at {bs : List Int} {i : Int} (h0 : 0 ≤ i) (h1 : i < bs.length) : (rowsB bs)[i.toNat]? = some [.v (.int .u8 (bAt bs i))] := by
  unfold rowsB bAt
  rw [List.getElem?_map, List.getD_eq_getElem?_getD, List.getElem?_eq_getElem (by omega)]
  rfl
theorem Sl.ix {σ : Sto} {b o n z : Nat} {cap : Option Nat} {bs : List Int} (h : Sl σ (.sl b o n cap z) 1 (rowsB bs)) (hL : 0 < bs.length) : z = 1 ∧ ∃ k, σ b = some k ∧ ∀ i : Int, 0 ≤ i → i < bs.length → k.es[o + i.toNat]? = some [.v (.int .u8 (bAt bs i))] := by
  obtain ⟨_, h2, k, hk, _⟩ := h.at (i := 0) (by rw [rowsB_len]; exact hL)
  refine ⟨h2, k, hk, fun i h0 h1 => ?_⟩
  obtain ⟨_, _, k', hk', hat⟩ := h.at (i := i.toNat) (by rw [rowsB_len]; omega)
  rw [hk] at hk'; cases hk'
  rw [hat]
  have := rowsB_at h0 h1
  rw [List.getElem?_eq_getElem (by rw [rowsB_len]; omega)] at this
  exact this

/-- The code's bytes stand where only the reader has moved. -/
theorem Sl.ovb {s σ : Sto} {x : AV} {bs : List Int} {rb : Nat} {p : Int} (h : Sl s x 1 (rowsB bs)) (hrb : s rb = some (rdB x p)) (ho : ∀ c kc, c ≠ rb → s c = some kc → σ c = some kc) : Sl σ x 1 (rowsB bs) := by
  obtain ⟨b, o, cap, z, rfl, h2, h3⟩ := h
  refine ⟨b, o, cap, z, rfl, h2, h3.imp id fun ⟨h4, k, h5, h6, h7, h8⟩ => ⟨h4, k, ho b k (fun e => ?_) h5, h6, h7, h8⟩⟩
  subst e
  rw [hrb] at h5
  cases h5
  simp at h6
theorem Sl.rdu {σ : Sto} {x : AV} {bs : List Int} {rb : Nat} {p q : Int} (h : Sl σ x 1 (rowsB bs)) (hrb : σ rb = some (rdB x p)) : Sl (upd σ rb (rdB x q)) x 1 (rowsB bs) :=
  h.ovb hrb fun c kc hc hk => by rw [upd_ne _ _ _ _ hc]; exact hk
/-- Likewise another slice, where it does not lie in the reader. -/
theorem Sl.ovo {s σ : Sto} {b o n z t : Nat} {cap : Option Nat} {l : List (List AV)} {rb : Nat} (h : Sl s (.sl b o n cap z) t l) (hbr : b ≠ rb) (ho : ∀ c kc, c ≠ rb → s c = some kc → σ c = some kc) : Sl σ (.sl b o n cap z) t l := by
  obtain ⟨b', o', cap', z', h1, h2, h3⟩ := h
  cases h1
  exact ⟨b, o, cap, z, rfl, h2, h3.imp id fun ⟨h4, k, h5, h6⟩ => ⟨h4, k, ho b k hbr h5, h6⟩⟩

set_option maxRecDepth 10000 in
set_option maxHeartbeats 4000000 in
theorem pick_c (σ : Sto) (ν rb : Nat) (x : AV) (bs : List Int) (p n : Int) (hb : σ rb = some (rdB x p)) (hx : Sl σ x 1 (rowsB bs)) (h8 : Code8 bs) (hp : 0 ≤ p ∧ p ≤ 1000000) :
    AC Try.prog 78 [.ptr rb 0 0, .v (.int .i64 n)] σ ν fun r δ => r = .v (.int .i64 (pk bs p n)) ∧ δ = upd noS rb (rdB x (p + 1)) := by
  obtain ⟨b, o, cap, z, rfl⟩ := hx.out
  simp only [rowsB_len] at hx hb ⊢
  refine AC.intro [rb] ent_78 Try.func78 rfl (by simp [Try.f78]) (by simp [hb]) ?_
  intro K s hs hB hn hν hA hFr
  simp only [argT, Nat.zero_add, Nat.reduceAdd]
  have hrb : s rb = some (rdB (.sl b o bs.length cap z) p) := by rw [hs rb, hb]; simp
  have hx' := hx.vw hs.vw
  obtain ⟨hrK, hlo⟩ := hB rb _ hrb
  have hp0 := hp.1
  have hp1 := hp.2
  have hl := h8.len
  by_cases h1 : n < 1
  · repeat' (first
      | refine AWP.seq ?_
      | refine AWP.block ?_
      | (refine AWP.skip ?_; simp only [thenA, blockA, reduceIte])
      | (refine AWP.exit ?_; simp only [thenA, blockA, eq_self, reduceIte, Nat.reduceEqDiff, Nat.succ_ne_zero])
      | (refine AWP.ret ?_; simp only [thenA, blockA, reduceIte])
      | (refine AWP.region (by rfl) (fun KK hKK => ?_); (repeat (simp (disch := omega) [h1, hrb])); first | (refine hKK _ _ _ ?_; clear hKK KK; simp only [thenA, blockA, reduceIte]) | skip)
      | (refine AWP.draw' mixd (by rfl) (by kernel_rfl) (fun KK tab hKK htab => ?_); (repeat (simp (disch := omega) [h1, hrb])); first | (refine dEnd_ro ?_ (hKK _ _ _ ?_); (focus (simp; done)); clear htab tab hKK KK; simp only [thenA, blockA, reduceIte]) | skip)
      | (refine AWP.if_t ?_ ?_; focus (simp (disch := omega) [h1, hrb]; done))
      | (refine AWP.if_f ?_ ?_; focus (simp (disch := omega) [h1, hrb]; done)))
    refine ⟨by simp, _, rfl, fin0M (rdB (.sl b o bs.length cap z) (p + 1)) (by simp (disch := omega) [pk, h1]) rfl (low_rd hlo) ⟨?_, rfl⟩ (by simp [resO, get, nms, nmss])⟩
    simp [resO, get, ren, rens, rho, pk, h1]
  have hn0 : ¬ n = 0 := by omega
  by_cases hne : bs = []
  · subst hne
    repeat' (first
      | refine AWP.seq ?_
      | refine AWP.block ?_
      | (refine AWP.skip ?_; simp only [thenA, blockA, reduceIte])
      | (refine AWP.exit ?_; simp only [thenA, blockA, eq_self, reduceIte, Nat.reduceEqDiff, Nat.succ_ne_zero])
      | (refine AWP.ret ?_; simp only [thenA, blockA, reduceIte])
      | (refine AWP.region (by rfl) (fun KK hKK => ?_); (repeat (simp (disch := omega) [h1, hrb])); first | (refine hKK _ _ _ ?_; clear hKK KK; simp only [thenA, blockA, reduceIte]) | skip)
      | (refine AWP.draw' mixd (by rfl) (by kernel_rfl) (fun KK tab hKK htab => ?_); (repeat (simp (disch := omega) [h1, hrb])); first | (refine dEnd_ro ?_ (hKK _ _ _ ?_); (focus (simp; done)); clear htab tab hKK KK; simp only [thenA, blockA, reduceIte]) | skip)
      | (refine AWP.if_t ?_ ?_; focus (simp (disch := omega) [h1, hrb]; done))
      | (refine AWP.if_f ?_ ?_; focus (simp (disch := omega) [h1, hrb]; done)))
    refine ⟨by simp, _, rfl, fin0M (rdB (.sl b o 0 cap z) (p + 1)) (by simp (disch := omega) [pk, h1]) rfl (low_rd hlo) ⟨?_, rfl⟩ (by simp [resO, get, nms, nmss])⟩
    simp [resO, get, ren, rens, rho, pk, h1]
  have hL : 0 < bs.length := List.length_pos_iff.2 hne
  obtain ⟨rfl, kb, hkb, hat⟩ := hx'.ix hL
  have hbr : b ≠ rb := by
    intro e
    subst e
    rw [hrb] at hkb
    cases hkb
    have := hat 0 (by omega) (by omega)
    cases o <;> simp at this
  by_cases h2 : p < bs.length
  · have a1 := hat p hp0 h2
    have b1 := bAt_bd h8 p
    repeat' (first
      | refine AWP.seq ?_
      | refine AWP.block ?_
      | (refine AWP.skip ?_; simp only [thenA, blockA, reduceIte])
      | (refine AWP.exit ?_; simp only [thenA, blockA, eq_self, reduceIte, Nat.reduceEqDiff, Nat.succ_ne_zero])
      | (refine AWP.ret ?_; simp only [thenA, blockA, reduceIte])
      | (refine AWP.region (by rfl) (fun KK hKK => ?_); (repeat (simp (disch := omega) [h1, hrb, hne, h2, hbr, hkb, a1, hp0, hn0])); first | (refine hKK _ _ _ ?_; clear hKK KK; simp only [thenA, blockA, reduceIte]) | skip)
      | (refine AWP.draw' mixd (by rfl) (by kernel_rfl) (fun KK tab hKK htab => ?_); (repeat (simp (disch := omega) [h1, hrb, hne, h2, hbr, hkb, a1, hp0, hn0])); first | (refine dEnd_ro ?_ (hKK _ _ _ ?_); (focus (simp; done)); clear htab tab hKK KK; simp only [thenA, blockA, reduceIte]) | skip)
      | (refine AWP.if_t ?_ ?_; focus (simp (disch := omega) [h1, hrb, hne, h2, hbr, hkb, a1, hp0, hn0]; done))
      | (refine AWP.if_f ?_ ?_; focus (simp (disch := omega) [h1, hrb, hne, h2, hbr, hkb, a1, hp0, hn0]; done)))
    refine ⟨by simp, _, rfl, fin0M (rdB (.sl b o bs.length cap 1) (p + 1)) (by simp (disch := omega) [pk, h1, hne, h2]) rfl (low_rd hlo) ⟨?_, rfl⟩ (by simp [resO, get, nms, nmss])⟩
    simp [resO, get, ren, rens, rho, pk, h1, hne, h2]
  · have t1 := tmod_ix hp0 hL
    have t2 := tmod_ix (a := p * 7 + 3) (by omega) hL
    have t3 := tdiv_bd hp0 hL
    have a1 := hat _ t1.1 t1.2
    have a2 := hat _ t2.1 t2.2
    have b1 := bAt_bd h8 (p.tmod bs.length)
    have b2 := bAt_bd h8 ((p * 7 + 3).tmod bs.length)
    have hX := pkX_bd h8 hp hL
    have t4 : 0 ≤ (pkX bs p).tdiv 64 ∧ (pkX bs p).tdiv 64 ≤ pkX bs p := tdiv_bd (L := 64) hX.1 (by omega)
    have hw := w64 ((pkX bs p).tdiv 64) (by omega) (by omega)
    simp only [pkX] at hw
    have n1 := t1.1
    have n2 := t2.1
    have m1 := t1.2
    have m2 := t2.2
    repeat' (first
      | refine AWP.seq ?_
      | refine AWP.block ?_
      | (refine AWP.skip ?_; simp only [thenA, blockA, reduceIte])
      | (refine AWP.exit ?_; simp only [thenA, blockA, eq_self, reduceIte, Nat.reduceEqDiff, Nat.succ_ne_zero])
      | (refine AWP.ret ?_; simp only [thenA, blockA, reduceIte])
      | (refine AWP.region (by rfl) (fun KK hKK => ?_); (repeat (simp (disch := omega) [h1, hrb, hne, h2, hbr, hkb, a1, a2, n1, n2, m1, m2, hn0, hw])); first | (refine hKK _ _ _ ?_; clear hKK KK; simp only [thenA, blockA, reduceIte]) | skip)
      | (refine AWP.draw' mixd (by rfl) (by kernel_rfl) (fun KK tab hKK htab => ?_); (repeat (simp (disch := omega) [h1, hrb, hne, h2, hbr, hkb, a1, a2, n1, n2, m1, m2, hn0, hw])); first | (refine dEnd_ro ?_ (hKK _ _ _ ?_); (focus (simp; done)); clear htab tab hKK KK; simp only [thenA, blockA, reduceIte]) | skip)
      | (refine AWP.if_t ?_ ?_; focus (simp (disch := omega) [h1, hrb, hne, h2, hbr, hkb, a1, a2, n1, n2, m1, m2, hn0, hw]; done))
      | (refine AWP.if_f ?_ ?_; focus (simp (disch := omega) [h1, hrb, hne, h2, hbr, hkb, a1, a2, n1, n2, m1, m2, hn0, hw]; done)))
    refine ⟨by simp, _, rfl, fin0M (rdB (.sl b o bs.length cap 1) (p + 1)) (by simp (disch := omega) [pk, h1, hne, h2, pkX]) rfl (low_rd hlo) ⟨?_, rfl⟩ (by simp [resO, get, nms, nmss])⟩
    simp [resO, get, ren, rens, rho, pk, h1, hne, h2, pkX]
end Go.Proofs.Ytgaiemhbllbaiaa
