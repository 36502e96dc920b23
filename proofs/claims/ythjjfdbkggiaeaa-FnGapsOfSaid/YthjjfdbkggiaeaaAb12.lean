/- An abstract store for walks, part 12: what may be forgotten, and names changed. No condition: nothing of a program stands here. -/
import Derived.Test.YthjjfdbkggiaeaaAb11
set_option linter.unusedSimpArgs false
set_option linter.unusedVariables false
namespace Go.Proofs.Ythjjfdbkggiaeaa
open Go Go.RowKit

def swl : List (Nat × Nat) → Nat → Nat
  | [], b => b
  | (c, c') :: l, b => if b = c then c' else swl l b
theorem swl_cases : ∀ (l : List (Nat × Nat)) (b : Nat), swl l b = b ∨ ∃ q ∈ l, q.1 = b ∧ swl l b = q.2
  | [], b => .inl rfl
  | (c, c') :: l, b => by
    simp only [swl]
    split
    · rename_i h; exact .inr ⟨(c, c'), by simp, h.symm, rfl⟩
    · rcases swl_cases l b with h | ⟨q, h1, h2, h3⟩
      · exact .inl h
      · exact .inr ⟨q, by simp [h1], h2, h3⟩
theorem swl_low {K : Nat} : ∀ {l : List (Nat × Nat)}, (∀ p ∈ l, K ≤ p.1) → ∀ b, b < K → swl l b = b := fun {l} h b hb => by
  rcases swl_cases l b with h1 | ⟨q, h1, h2, _⟩
  · exact h1
  · have := h q h1; omega
theorem swl_inj {M : Nat} : ∀ {l : List (Nat × Nat)}, (∀ p ∈ l, M ≤ p.2 ∨ p.2 = p.1) → l.Pairwise (fun p q => p.2 ≠ q.2) → ∀ b b', b < M → b' < M → swl l b = swl l b' → b = b'
  | [], _, _, b, b', _, _, h => h
  | (c, c') :: l, h1, h2, b, b', hb, hb', h => by
    simp only [swl] at h
    simp only [List.pairwise_cons] at h2
    have hc := h1 (c, c') (by simp)
    have key : ∀ d, d < M → d ≠ c → c' ≠ swl l d := fun d hd hdc e => by
      rcases swl_cases l d with h3 | ⟨q, h3, h4, h5⟩
      · rw [h3] at e
        rcases hc with hc | hc
        · simp only at hc; omega
        · simp only at hc; exact hdc (e.symm.trans hc)
      · exact h2.1 q h3 (e.trans h5)
    split at h <;> split at h
    · rename_i e1 e2; exact e1.trans e2.symm
    · rename_i e1 e2; exact absurd h (key b' hb' e2)
    · rename_i e1 e2; exact absurd h.symm (key b hb e1)
    · exact swl_inj (fun p hp => h1 p (by simp [hp])) h2.2 b b' hb hb' h

/-- A block said with other names. -/
def BLe (ρ : Nat → Nat) (M' : Nat) (k0 k : Blk) : Prop :=
  k0.ty = k.ty ∧ k0.sz = k.sz ∧ (k.rw = true → k0.rw = true) ∧
    ((k0.es = k.es ∧ ∀ e ∈ k.es, ∀ v ∈ e, ∀ n ∈ nms v, n < M' ∧ ρ n = n) ∨ (k0.es = k.es.map (List.map (ren ρ)) ∧ ∀ e ∈ k.es, ∀ v ∈ e, ∀ n ∈ nms v, n < M'))
def LeS (ρ : Nat → Nat) (M' : Nat) (σ σ' : Sto) : Prop := ∀ b k, σ' b = some k → b < M' ∧ ∃ k0, σ (ρ b) = some k0 ∧ BLe ρ M' k0 k
def LeT (ρ : Nat → Nat) (M' : Nat) (τ τ' : Tm) : Prop := ∀ p ∈ τ', p.2 = .any ∨ (get τ p.1 = ren ρ p.2 ∧ ∀ n ∈ nms p.2, n < M')
/-- All of the elder store is still there. -/
def Over (s σ : Sto) : Prop := ∀ b k, s b = some k → σ b = some k

theorem Over.refl (s : Sto) : Over s s := fun _ _ h => h
theorem Over.upd {s σ : Sto} {K b : Nat} {k : Blk} (h : Over s σ) (hs : Bd K s) (hb : K ≤ b) : Over s (upd σ b k) := fun c k' hc => by
  have := (hs c k' hc).1
  rw [upd_ne _ _ _ _ (by omega)]
  exact h c k' hc
theorem Over.del {s σ : Sto} {K b : Nat} (h : Over s σ) (hs : Bd K s) (hb : K ≤ b) : Over s (del σ b) := fun c k' hc => by
  have := (hs c k' hc).1
  rw [del_ne _ _ _ (by omega)]
  exact h c k' hc
theorem LeS.base {ρ : Nat → Nat} {K M' : Nat} {s σ : Sto} (hs : Bd K s) (hK : K ≤ M') (hρ : ∀ b, b < K → ρ b = b) (ho : Over s σ) : LeS ρ M' σ s := fun b k hb => by
  obtain ⟨h1, h2⟩ := hs b k hb
  refine ⟨by omega, k, by rw [hρ b h1]; exact ho b k hb, rfl, rfl, id, .inl ⟨rfl, fun e he v hv n hn => ?_⟩⟩
  have := h2 e he v hv n hn
  exact ⟨by omega, hρ n this⟩
theorem LeS.upd {ρ : Nat → Nat} {M' b : Nat} {σ σ' : Sto} {k0 k : Blk} (h : LeS ρ M' σ σ') (hb : b < M') (hk : σ (ρ b) = some k0) (hl : BLe ρ M' k0 k) : LeS ρ M' σ (upd σ' b k) := fun c k' hc => by
  by_cases e : c = b
  · subst e
    rw [upd_eq] at hc; cases hc
    exact ⟨hb, k0, hk, hl⟩
  · rw [upd_ne _ _ _ _ e] at hc
    exact h c k' hc
theorem BLe.flat {ρ : Nat → Nat} {M' ty sz : Nat} {es : List (List AV)} {r r' : Bool} (hr : r' = true → r = true) (hf : ∀ e ∈ es, ∀ v ∈ e, nms v = []) : BLe ρ M' ⟨ty, sz, es, r⟩ ⟨ty, sz, es, r'⟩ :=
  ⟨rfl, rfl, hr, .inl ⟨rfl, fun e he v hv n hn => by rw [hf e he v hv] at hn; cases hn⟩⟩
theorem BLe.low {ρ : Nat → Nat} {K M' ty sz : Nat} {es : List (List AV)} {r r' : Bool} (hr : r' = true → r = true) (hρ : ∀ b, b < K → ρ b = b) (hK : K ≤ M') (hf : ∀ e ∈ es, ∀ v ∈ e, ∀ n ∈ nms v, n < K) : BLe ρ M' ⟨ty, sz, es, r⟩ ⟨ty, sz, es, r'⟩ :=
  ⟨rfl, rfl, hr, .inl ⟨rfl, fun e he v hv n hn => by have := hf e he v hv n hn; exact ⟨by omega, hρ n this⟩⟩⟩
theorem BLe.ren {ρ : Nat → Nat} {M' ty sz : Nat} {es0 es : List (List AV)} {r r' : Bool} (hr : r' = true → r = true) (he : es0 = es.map (List.map (Go.Proofs.Ythjjfdbkggiaeaa.ren ρ))) (hf : ∀ e ∈ es, ∀ v ∈ e, ∀ n ∈ nms v, n < M') : BLe ρ M' ⟨ty, sz, es0, r⟩ ⟨ty, sz, es, r'⟩ :=
  ⟨rfl, rfl, hr, .inr ⟨he, hf⟩⟩

theorem get_mem : ∀ (τ : Tm) (i : Nat), get τ i = .any ∨ ∃ p ∈ τ, p.1 = i ∧ get τ i = p.2
  | [], i => .inl rfl
  | (j, x) :: r, i => by
    simp only [get]
    split
    · rename_i h; exact .inr ⟨(j, x), by simp, h.symm, rfl⟩
    · rcases get_mem r i with h | ⟨p, h1, h2, h3⟩
      · exact .inl h
      · exact .inr ⟨p, by simp [h1], h2, h3⟩

theorem Weak.mk {K M M' : Nat} {τ τ' : Tm} {σ σ' : Sto} (l : List (Nat × Nat)) (hl : ∀ p ∈ l, K ≤ p.1 ∧ (M' ≤ p.2 ∨ p.2 = p.1)) (hp : l.Pairwise (fun p q => p.2 ≠ q.2)) (hK : K ≤ M')
    (hT : LeT (swl l) M' τ τ') (hS : LeS (swl l) M' σ σ') : Weak K τ σ M τ' σ' M' := by
  intro B w0 X N E a w μ hs
  have hlow := swl_low (K := K) (l := l) fun p hp => (hl p hp).1
  have hinj := swl_inj (M := M') (l := l) (fun p hp => (hl p hp).2) hp
  let μ' : Mu := fun b => if b < M' then μ (swl l b) else none
  have hμ' : ∀ b, b < M' → μ' b = μ (swl l b) := fun b hb => by simp [μ', hb]
  have un : ∀ v u, (∀ n ∈ nms v, n < M') → VRel μ (ren (swl l) v) u → VRel μ' v u := fun v u hn h => VRel.unren v u (fun b hb L hL => by rw [hμ' b (hn b hb)]; exact hL) h
  refine ⟨μ', hs.dfr, hs.siz, ⟨hs.rel.keep, hs.rel.big, fun b k hb => ?_, fun b b' k k' L L' hne hb hb' hL hL' hrw hC ho => ?_, ⟨M', fun b hb => ?_⟩⟩, fun b hb => ?_, fun b hb => ?_, fun i => ?_, hK⟩
  · obtain ⟨hbM, k0, hk0, e1, e2, e3, e4⟩ := hS b k hb
    obtain ⟨L, hL, hB⟩ := hs.rel.blk _ k0 hk0
    refine ⟨L, by rw [hμ' b hbM]; exact hL, by rw [← e2]; exact hB.sz, by rw [← e2]; exact hB.pos, fun e he => ?_, fun i e he c v hv => ?_, fun hrw => ?_⟩
    · rcases e4 with ⟨e4, _⟩ | ⟨e4, _⟩
      · rw [← e2]; exact hB.len e (e4 ▸ he)
      · have := hB.len (e.map (ren (swl l))) (by rw [e4]; exact List.mem_map_of_mem he)
        rw [← e2, ← this]; simp
    · rcases e4 with ⟨e4, e5⟩ | ⟨e4, e5⟩
      · obtain ⟨u, hu, h1, h2⟩ := hB.rd i e (by rw [e4]; exact he) c v hv
        refine ⟨u, by rw [← e2]; exact hu, h1, VRel.on v u (fun n hn L hL => ?_) h2⟩
        obtain ⟨g1, g2⟩ := e5 e (List.mem_of_getElem? he) v (List.mem_of_getElem? hv) n hn
        rw [hμ' n g1, g2]; exact hL
      · obtain ⟨u, hu, h1, h2⟩ := hB.rd i (e.map (ren (swl l))) (by rw [e4, List.getElem?_map, he]; rfl) c (ren (swl l) v) (by rw [List.getElem?_map, hv]; rfl)
        exact ⟨u, by rw [← e2]; exact hu, h1, un v u (e5 e (List.mem_of_getElem? he) v (List.mem_of_getElem? hv)) h2⟩
    · have hlen : k0.es.length = k.es.length := by rcases e4 with ⟨e4, _⟩ | ⟨e4, _⟩ <;> simp [e4]
      rcases hB.own (e3 hrw) with ⟨h1, h2⟩ | ⟨g, cs, h1, h2, h3, h4, h5, h6⟩
      · exact .inl ⟨List.eq_nil_of_length_eq_zero (by rw [← hlen, h1]; rfl), h2⟩
      · exact .inr ⟨g, cs, h1, h2, by rw [← e1]; exact h3, by rw [← e2]; exact h4, by omega, h6⟩
  · obtain ⟨hbM, k0, hk0, _, _, e3, _⟩ := hS b k hb
    obtain ⟨hbM', k0', hk0', _, _, e3', e4'⟩ := hS b' k' hb'
    rw [hμ' b hbM] at hL
    rw [hμ' b' hbM'] at hL'
    refine hs.rel.sep _ _ k0 k0' L L' (fun e => hne (hinj b b' hbM hbM' e)) hk0 hk0' hL hL' (e3 hrw) hC (ho.imp (fun h1 h2 => h1 ?_) fun ⟨h1, h2⟩ => ⟨e3' h1, h2⟩)
    have hlen : k0'.es.length = k'.es.length := by rcases e4' with ⟨e4, _⟩ | ⟨e4, _⟩ <;> simp [e4]
    exact List.eq_nil_of_length_eq_zero (by rw [← hlen, h2]; rfl)
  · simp only [μ', if_neg (Nat.not_lt.2 hb)]
  · simp only [μ', if_neg (Nat.not_lt.2 hb)]
  · rw [hμ' b (by omega), hlow b hb]
    exact hs.ext b hb
  · rcases get_mem τ' i with h | ⟨p, h1, h2, h3⟩
    · rw [h]; simp [VRel]
    · rw [h3]
      rcases hT p h1 with h4 | ⟨h4, h5⟩
      · rw [h4]; simp [VRel]
      · refine un _ _ h5 ?_
        rw [← h4, h2]
        exact hs.tm i

/-! the ends of functions -/
section
variable {K ν : Nat} {R : AV → Sto → Prop} {r : AV} {σ' : Sto}
theorem fin0 (hR : R (ren (rho K (K + 1) ν) r) noS) (hn : ∀ n ∈ nms r, n < K) : ∃ c d r' δ, Fin K ν [] R r σ' c d r' δ :=
  ⟨K, K + 1, _, noS, hR, rfl, fun b hb => .inl (hn b hb), by omega, Nat.le_refl _, by omega, fun b k hb => by simp [noS] at hb, by simp⟩
theorem fin1 (c : Nat) (k : Blk) (hk : σ' c = some k) (hrw : k.rw = true) (hf : flatB k) (hR : R (ren (rho c (c + 1) ν) r) (upd noS ν k)) (hc : K ≤ c) (hn : ∀ n ∈ nms r, n < K ∨ n = c) : ∃ c d r' δ, Fin K ν [] R r σ' c d r' δ :=
  ⟨c, c + 1, _, upd noS ν k, hR, rfl, fun b hb => (hn b hb).imp id .inl, by omega, hc, by omega, fun b k' hb => by
    by_cases e : b = ν
    · subst e; rw [upd_eq] at hb; cases hb; exact .inl ⟨rfl, hk, hrw, hf.low⟩
    · rw [upd_ne _ _ _ _ e] at hb; simp [noS] at hb, by simp⟩
theorem fin2 (c d : Nat) (k k2 : Blk) (hk : σ' c = some k) (hrw : k.rw = true) (hf : flatB k) (hk2 : σ' d = some k2) (hrw2 : k2.rw = true) (hf2 : flatB k2) (hR : R (ren (rho c d ν) r) (upd (upd noS ν k) (ν + 1) k2)) (hc : K ≤ c) (hd : K ≤ d) (hcd : c ≠ d)
    (hn : ∀ n ∈ nms r, n < K ∨ n = c ∨ n = d) : ∃ c d r' δ, Fin K ν [] R r σ' c d r' δ :=
  ⟨c, d, _, _, hR, rfl, hn, hcd, hc, hd, fun b k' hb => by
    by_cases e : b = ν + 1
    · subst e; rw [upd_eq] at hb; cases hb; exact .inr (.inl ⟨rfl, hk2, hrw2, hf2.low⟩)
    · rw [upd_ne _ _ _ _ e] at hb
      by_cases e : b = ν
      · subst e; rw [upd_eq] at hb; cases hb; exact .inl ⟨rfl, hk, hrw, hf.low⟩
      · rw [upd_ne _ _ _ _ e] at hb; simp [noS] at hb, by simp⟩
/-- A new block that names elder ones. -/
theorem fin1L (c : Nat) (k : Blk) (hk : σ' c = some k) (hrw : k.rw = true) (hf : lowB K k) (hR : R (ren (rho c (c + 1) ν) r) (upd noS ν k)) (hc : K ≤ c) (hn : ∀ n ∈ nms r, n < K ∨ n = c) : ∃ c d r' δ, Fin K ν [] R r σ' c d r' δ :=
  ⟨c, c + 1, _, upd noS ν k, hR, rfl, fun b hb => (hn b hb).imp id .inl, by omega, hc, by omega, fun b k' hb => by
    by_cases e : b = ν
    · subst e; rw [upd_eq] at hb; cases hb; exact .inl ⟨rfl, hk, hrw, hf⟩
    · rw [upd_ne _ _ _ _ e] at hb; simp [noS] at hb, by simp⟩
/-- One elder block written. -/
theorem fin0M {b : Nat} (kb : Blk) (hkb : σ' b = some kb) (hrb : kb.rw = true) (hlb : lowB K kb) (hR : R (ren (rho K (K + 1) ν) r) (upd noS b kb)) (hn : ∀ n ∈ nms r, n < K) : ∃ c d r' δ, Fin K ν [b] R r σ' c d r' δ :=
  ⟨K, K + 1, _, upd noS b kb, hR, rfl, fun b hb => .inl (hn b hb), by omega, Nat.le_refl _, by omega, fun c k' hc => by
    by_cases e : c = b
    · subst e; rw [upd_eq] at hc; cases hc
      exact .inr (.inr ⟨by simp, hkb, hrb, hlb⟩)
    · rw [upd_ne _ _ _ _ e] at hc; simp [noS] at hc, fun c hc => by
    rw [List.mem_singleton] at hc
    subst hc
    exact ⟨kb, hkb, hrb, upd_eq _ _ _⟩⟩
/-- One elder block written, one new. -/
theorem fin1M {b : Nat} (c : Nat) (kb k : Blk) (hkb : σ' b = some kb) (hrb : kb.rw = true) (hlb : lowB K kb) (hk : σ' c = some k) (hrw : k.rw = true) (hf : lowB K k) (hbν : b ≠ ν) (hR : R (ren (rho c (c + 1) ν) r) (upd (upd noS b kb) ν k)) (hc : K ≤ c) (hn : ∀ n ∈ nms r, n < K ∨ n = c) :
    ∃ c d r' δ, Fin K ν [b] R r σ' c d r' δ :=
  ⟨c, c + 1, _, upd (upd noS b kb) ν k, hR, rfl, fun b hb => (hn b hb).imp id .inl, by omega, hc, by omega, fun x k' hx => by
    by_cases e : x = ν
    · subst e; rw [upd_eq] at hx; cases hx; exact .inl ⟨rfl, hk, hrw, hf⟩
    · rw [upd_ne _ _ _ _ e] at hx
      by_cases e2 : x = b
      · subst e2; rw [upd_eq] at hx; cases hx
        exact .inr (.inr ⟨by simp, hkb, hrb, hlb⟩)
      · rw [upd_ne _ _ _ _ e2] at hx; simp [noS] at hx, fun x hx => by
    rw [List.mem_singleton] at hx
    subst hx
    exact ⟨kb, hkb, hrb, by rw [upd_ne _ _ _ _ hbν, upd_eq]⟩⟩
/-- One elder block written, two new. -/
theorem fin2M {b : Nat} (c d : Nat) (kb k k2 : Blk) (hkb : σ' b = some kb) (hrb : kb.rw = true) (hlb : lowB K kb) (hk : σ' c = some k) (hrw : k.rw = true) (hf : lowB K k) (hk2 : σ' d = some k2) (hrw2 : k2.rw = true) (hf2 : lowB K k2) (hbν : b ≠ ν) (hbν1 : b ≠ ν + 1)
    (hR : R (ren (rho c d ν) r) (upd (upd (upd noS b kb) ν k) (ν + 1) k2)) (hc : K ≤ c) (hd : K ≤ d) (hcd : c ≠ d) (hn : ∀ n ∈ nms r, n < K ∨ n = c ∨ n = d) : ∃ c d r' δ, Fin K ν [b] R r σ' c d r' δ :=
  ⟨c, d, _, upd (upd (upd noS b kb) ν k) (ν + 1) k2, hR, rfl, hn, hcd, hc, hd, fun x k' hx => by
    by_cases e : x = ν + 1
    · subst e; rw [upd_eq] at hx; cases hx; exact .inr (.inl ⟨rfl, hk2, hrw2, hf2⟩)
    · rw [upd_ne _ _ _ _ e] at hx
      by_cases e : x = ν
      · subst e; rw [upd_eq] at hx; cases hx; exact .inl ⟨rfl, hk, hrw, hf⟩
      · rw [upd_ne _ _ _ _ e] at hx
        by_cases e2 : x = b
        · subst e2; rw [upd_eq] at hx; cases hx
          exact .inr (.inr ⟨by simp, hkb, hrb, hlb⟩)
        · rw [upd_ne _ _ _ _ e2] at hx; simp [noS] at hx, fun x hx => by
    rw [List.mem_singleton] at hx
    subst hx
    exact ⟨kb, hkb, hrb, by rw [upd_ne _ _ _ _ hbν1, upd_ne _ _ _ _ hbν, upd_eq]⟩⟩
theorem w64 (x : Int) (h1 : -9223372036854775808 ≤ x) (h2 : x ≤ 9223372036854775807) : IntKind.i64.wrap x = x := by rw [IntKind.wrap_i64]; omega
end
end Go.Proofs.Ythjjfdbkggiaeaa
