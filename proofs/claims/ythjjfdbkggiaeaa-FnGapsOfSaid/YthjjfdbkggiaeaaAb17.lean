/- An abstract store for walks, part 17: slices that hold a list; weakening without new names. No condition: nothing of a program stands here. -/
import Derived.Test.YthjjfdbkggiaeaaAb16
set_option linter.unusedSimpArgs false
set_option linter.unusedVariables false
namespace Go.Proofs.Ythjjfdbkggiaeaa
open Go Go.RowKit

theorem upd_upd (σ : Sto) (b : Nat) (k k' : Blk) : upd (upd σ b k) b k' = upd σ b k' := by funext c; by_cases h : c = b <;> simp [upd, h]
theorem get_hit (i : Nat) (v : AV) (r : Tm) : get ((i, v) :: r) i = v := by simp [get]
theorem get_miss (i j : Nat) (v : AV) (r : Tm) (h : j ≠ i) : get ((i, v) :: r) j = get r j := by simp [get, h]
theorem get_nil (j : Nat) : get [] j = .any := rfl
mutual
theorem ren_id : ∀ x : AV, ren (fun b => b) x = x
  | .any => rfl
  | .bl => rfl
  | .v _ => rfl
  | .ptr .. => rfl
  | .sl .. => rfl
  | .agg l => by simp [ren, rens_id l]
  | .tup l => by simp [ren, rens_id l]
  | .fn f l => by simp [ren, rens_id l]
theorem rens_id : ∀ l : List AV, rens (fun b => b) l = l
  | [] => rfl
  | x :: l => by simp [rens, ren_id x, rens_id l]
end
theorem swl_nil : swl [] = fun b => b := rfl

def LT (M : Nat) (τ : Tm) : Tm → Prop
  | [] => True
  | (i, v) :: r => get τ i = v ∧ (∀ n ∈ nms v, n < M) ∧ LT M τ r
theorem LT.le {M : Nat} {τ : Tm} : ∀ {τ' : Tm}, LT M τ τ' → LeT (swl []) M τ τ'
  | [], _, p, hp => by simp at hp
  | (i, v) :: r, h, p, hp => by
    rcases List.mem_cons.1 hp with rfl | hp
    · exact .inr ⟨by rw [swl_nil, ren_id]; exact h.1, h.2.1⟩
    · exact LT.le h.2.2 p hp
theorem Weak.base {K M : Nat} {τ τ' : Tm} {σ s : Sto} (hB : Bd K s) (ho : Over s σ) (h : LT K τ τ') : Weak K τ σ M τ' s K :=
  Weak.mk [] (by simp) (by simp) (Nat.le_refl _) h.le (LeS.base hB (Nat.le_refl _) (fun _ _ => rfl) ho)

/-- A loop that holds one new block: the block bears the name K again. -/
theorem Weak.keep {K M c : Nat} {τ τ' : Tm} {σ s : Sto} {k k0 : Blk} (hB : Bd K s) (ho : Over s σ) (hk : σ c = some k0) (he : k0 = k) (hf : flatB k) (hc : c = K ∨ K + 1 ≤ c) (h : LeT (swl [(K, c)]) (K + 1) τ τ') : Weak K τ σ M τ' (upd s K k) (K + 1) := by
  subst he
  refine Weak.mk [(K, c)] (fun p hp => ?_) (by simp) (by omega) h ((LeS.base hB (by omega) (fun b hb => ?_) ho).upd (by omega) (k0 := k0) ?_ (BLe.flat id hf))
  · simp only [List.mem_singleton] at hp
    subst hp
    exact ⟨Nat.le_refl _, by omega⟩
  · simp only [swl]
    rw [if_neg (by omega)]
  · simp only [swl, if_true]; exact hk
/-- Slots forgotten; the store stays. -/
def LQ (τ : Tm) : Tm → Prop
  | [] => True
  | (i, v) :: r => get τ i = v ∧ LQ τ r
theorem LQ.get {τ : Tm} : ∀ {τ' : Tm}, LQ τ τ' → ∀ p ∈ τ', Go.Proofs.Ythjjfdbkggiaeaa.get τ p.1 = p.2
  | [], _, p, hp => by simp at hp
  | (i, v) :: r, h, p, hp => by
    simp only [LQ] at h
    rcases List.mem_cons.1 hp with rfl | hp
    · exact h.1
    · exact LQ.get h.2 p hp
theorem Weak.tau {K M : Nat} {τ τ' : Tm} {σ : Sto} (h : LQ τ τ') : Weak K τ σ M τ' σ M := by
  intro B w0 X N E a w μ hs
  refine ⟨μ, hs.dfr, hs.siz, hs.rel, hs.fre, hs.ext, fun i => ?_, hs.kM⟩
  rcases get_mem τ' i with h1 | ⟨p, h1, h2, h3⟩
  · rw [h1]; simp [VRel]
  · rw [h3, ← h.get p h1, h2]
    exact hs.tm i
/-- A new name is not among the elder ones. -/
theorem Bd.none {K : Nat} {s : Sto} (h : Bd K s) {c : Nat} (hc : K ≤ c) : s c = none := by
  cases hs : s c with
  | none => rfl
  | some k => have := (h c k hs).1; omega
theorem LeS.baseM {ρ : Nat → Nat} {K M' : Nat} {s σ : Sto} (b : Nat) (hs : Bd K s) (hK : K ≤ M') (hρ : ∀ x, x < K → ρ x = x) (ho : ∀ x kx, x ≠ b → s x = some kx → σ x = some kx) : LeS ρ M' σ (del s b) := fun x kx hx => by
  by_cases e : x = b
  · subst e; rw [del_eq] at hx; cases hx
  · rw [del_ne _ _ _ e] at hx
    obtain ⟨h1, h2⟩ := hs x kx hx
    refine ⟨by omega, kx, by rw [hρ x h1]; exact ho x kx e hx, rfl, rfl, id, .inl ⟨rfl, fun e he v hv n hn => ?_⟩⟩
    have := h2 e he v hv n hn
    exact ⟨by omega, hρ n this⟩
theorem upd_del (σ : Sto) (b : Nat) (k : Blk) : upd (Go.Proofs.Ythjjfdbkggiaeaa.del σ b) b k = upd σ b k := by funext c; by_cases h : c = b <;> simp [upd, Go.Proofs.Ythjjfdbkggiaeaa.del, h]
/-- Loops that hold new blocks and write an elder one: the new ones bear the names K, K + 1, .. again. -/
theorem Weak.m0 {K M b : Nat} {τ τ' : Tm} {σ s : Sto} {kb : Blk} (hB : Bd K s) (hb : b < K) (ho : ∀ x kx, x ≠ b → s x = some kx → σ x = some kx) (hkb : σ b = some kb) (hf : lowB K kb) (h : LT K τ τ') : Weak K τ σ M τ' (upd s b kb) K := by
  rw [← upd_del]
  refine Weak.mk [] (by simp) (by simp) (Nat.le_refl _) h.le ((LeS.baseM b hB (Nat.le_refl _) (fun _ _ => rfl) ho).upd hb (k0 := kb) hkb (BLe.low id (fun _ _ => rfl) (Nat.le_refl _) hf))
theorem Weak.mod {K M b : Nat} {τ τ' : Tm} {σ s : Sto} {k : Blk} (hB : Bd K s) (hb : b < K) (ho : ∀ c kc, c ≠ b → s c = some kc → σ c = some kc) (hk : σ b = some k) (hf : flatB k) (h : LT K τ τ') : Weak K τ σ M τ' (upd s b k) K := Weak.m0 hB hb ho hk hf.low h
theorem Weak.m1 {K M b c : Nat} {τ τ' : Tm} {σ s : Sto} {kb kc : Blk} (hB : Bd K s) (hb : b < K) (ho : ∀ x kx, x ≠ b → s x = some kx → σ x = some kx) (hkb : σ b = some kb) (hf : lowB K kb) (hkc : σ c = some kc) (hfc : lowB K kc) (hc : c = K ∨ K + 1 ≤ c)
    (h : LeT (swl [(K, c)]) (K + 1) τ τ') : Weak K τ σ M τ' (upd (upd s b kb) K kc) (K + 1) := by
  rw [← upd_del s b kb]
  have hρ : ∀ x, x < K → swl [(K, c)] x = x := fun x hx => by simp only [swl]; rw [if_neg (by omega)]
  refine Weak.mk [(K, c)] (fun p hp => ?_) (by simp) (by omega) h (((LeS.baseM b hB (by omega) hρ ho).upd (by omega) (k0 := kb) (by rw [hρ b hb]; exact hkb) (BLe.low id hρ (by omega) hf)).upd (by omega) (k0 := kc) (by simp only [swl, if_true]; exact hkc) (BLe.low id hρ (by omega) hfc))
  simp only [List.mem_singleton] at hp
  subst hp
  exact ⟨Nat.le_refl _, by omega⟩
theorem Weak.k1 {K M c : Nat} {τ τ' : Tm} {σ s : Sto} {kc : Blk} (hB : Bd K s) (ho : Over s σ) (hkc : σ c = some kc) (hfc : lowB K kc) (hc : c = K ∨ K + 1 ≤ c) (h : LeT (swl [(K, c)]) (K + 1) τ τ') : Weak K τ σ M τ' (upd s K kc) (K + 1) := by
  have hρ : ∀ x, x < K → swl [(K, c)] x = x := fun x hx => by simp only [swl]; rw [if_neg (by omega)]
  refine Weak.mk [(K, c)] (fun p hp => ?_) (by simp) (by omega) h ((LeS.base hB (by omega) hρ ho).upd (by omega) (k0 := kc) (by simp only [swl, if_true]; exact hkc) (BLe.low id hρ (by omega) hfc))
  simp only [List.mem_singleton] at hp
  subst hp
  exact ⟨Nat.le_refl _, by omega⟩
theorem Weak.k2 {K M c d : Nat} {τ τ' : Tm} {σ s : Sto} {kc kd : Blk} (hB : Bd K s) (ho : Over s σ) (hkc : σ c = some kc) (hfc : lowB K kc) (hc : c = K ∨ K + 2 ≤ c) (hkd : σ d = some kd) (hfd : lowB K kd) (hd : d = K + 1 ∨ K + 2 ≤ d) (hcd : c ≠ d)
    (h : LeT (swl [(K, c), (K + 1, d)]) (K + 2) τ τ') : Weak K τ σ M τ' (upd (upd s K kc) (K + 1) kd) (K + 2) := by
  have hρ : ∀ x, x < K → swl [(K, c), (K + 1, d)] x = x := fun x hx => by simp only [swl]; rw [if_neg (by omega), if_neg (by omega)]
  refine Weak.mk [(K, c), (K + 1, d)] (fun p hp => ?_) (by simp [hcd]) (by omega) h (((LeS.base hB (by omega) hρ ho).upd (by omega) (k0 := kc) (by simp only [swl, if_true]; exact hkc) (BLe.low id hρ (by omega) hfc)).upd (by omega) (k0 := kd) (by simp only [swl, Nat.succ_ne_self, if_true, if_false]; exact hkd) (BLe.low id hρ (by omega) hfd))
  simp only [List.mem_cons, List.not_mem_nil, or_false] at hp
  rcases hp with rfl | rfl
  · exact ⟨Nat.le_refl _, by omega⟩
  · exact ⟨by simp, by omega⟩
theorem Weak.m2 {K M b c d : Nat} {τ τ' : Tm} {σ s : Sto} {kb kc kd : Blk} (hB : Bd K s) (hb : b < K) (ho : ∀ x kx, x ≠ b → s x = some kx → σ x = some kx) (hkb : σ b = some kb) (hf : lowB K kb) (hkc : σ c = some kc) (hfc : lowB K kc) (hc : c = K ∨ K + 2 ≤ c) (hkd : σ d = some kd) (hfd : lowB K kd) (hd : d = K + 1 ∨ K + 2 ≤ d) (hcd : c ≠ d)
    (h : LeT (swl [(K, c), (K + 1, d)]) (K + 2) τ τ') : Weak K τ σ M τ' (upd (upd (upd s b kb) K kc) (K + 1) kd) (K + 2) := by
  rw [← upd_del s b kb]
  have hρ : ∀ x, x < K → swl [(K, c), (K + 1, d)] x = x := fun x hx => by simp only [swl]; rw [if_neg (by omega), if_neg (by omega)]
  refine Weak.mk [(K, c), (K + 1, d)] (fun p hp => ?_) (by simp [hcd]) (by omega) h ((((LeS.baseM b hB (by omega) hρ ho).upd (by omega) (k0 := kb) (by rw [hρ b hb]; exact hkb) (BLe.low id hρ (by omega) hf)).upd (by omega) (k0 := kc) (by simp only [swl, if_true]; exact hkc) (BLe.low id hρ (by omega) hfc)).upd (by omega) (k0 := kd) (by simp only [swl, Nat.succ_ne_self, if_true, if_false]; exact hkd) (BLe.low id hρ (by omega) hfd))
  simp only [List.mem_cons, List.not_mem_nil, or_false] at hp
  rcases hp with rfl | rfl
  · exact ⟨Nat.le_refl _, by omega⟩
  · exact ⟨by simp, by omega⟩
theorem Weak.m3 {K M b c d e : Nat} {τ τ' : Tm} {σ s : Sto} {kb kc kd ke : Blk} (hB : Bd K s) (hb : b < K) (ho : ∀ x kx, x ≠ b → s x = some kx → σ x = some kx) (hkb : σ b = some kb) (hf : lowB K kb) (hkc : σ c = some kc) (hfc : lowB K kc) (hc : c = K ∨ K + 3 ≤ c) (hkd : σ d = some kd) (hfd : lowB K kd) (hd : d = K + 1 ∨ K + 3 ≤ d)
    (hke : σ e = some ke) (hfe : lowB K ke) (he : e = K + 2 ∨ K + 3 ≤ e) (hcd : c ≠ d) (hce : c ≠ e) (hde : d ≠ e)
    (h : LeT (swl [(K, c), (K + 1, d), (K + 2, e)]) (K + 3) τ τ') : Weak K τ σ M τ' (upd (upd (upd (upd s b kb) K kc) (K + 1) kd) (K + 2) ke) (K + 3) := by
  rw [← upd_del s b kb]
  have hρ : ∀ x, x < K → swl [(K, c), (K + 1, d), (K + 2, e)] x = x := fun x hx => by simp only [swl]; rw [if_neg (by omega), if_neg (by omega), if_neg (by omega)]
  refine Weak.mk [(K, c), (K + 1, d), (K + 2, e)] (fun p hp => ?_) (by simp [hcd, hce, hde]) (by omega) h (((((LeS.baseM b hB (by omega) hρ ho).upd (by omega) (k0 := kb) (by rw [hρ b hb]; exact hkb) (BLe.low id hρ (by omega) hf)).upd (by omega) (k0 := kc) (by simp only [swl, if_true]; exact hkc) (BLe.low id hρ (by omega) hfc)).upd (by omega) (k0 := kd) (by simp only [swl, Nat.succ_ne_self, if_true, if_false]; exact hkd) (BLe.low id hρ (by omega) hfd)).upd (by omega) (k0 := ke) (by simp only [swl]; rw [if_neg (by omega), if_neg (by omega)]; simpa using hke) (BLe.low id hρ (by omega) hfe))
  simp only [List.mem_cons, List.not_mem_nil, or_false] at hp
  rcases hp with rfl | rfl | rfl
  · exact ⟨Nat.le_refl _, by omega⟩
  · exact ⟨by simp, by omega⟩
  · exact ⟨by simp, by omega⟩
theorem finM {K ν b : Nat} {R : AV → Sto → Prop} {r : AV} {σ' : Sto} {k : Blk} (hk : σ' b = some k) (hrw : k.rw = true) (hf : flatB k) (hR : R (ren (rho K (K + 1) ν) r) (upd noS b k)) (hn : ∀ n ∈ nms r, n < K) : ∃ c d r' δ, Fin K ν [b] R r σ' c d r' δ := fin0M k hk hrw hf.low hR hn
/-- The store is the same but for the marks. -/
def Vw (σ s : Sto) : Prop := ∀ b k, σ b = some k → ∃ r, s b = some { k with rw := r }
theorem Vw.refl (σ : Sto) : Vw σ σ := fun _ k h => ⟨k.rw, h⟩
theorem Vw.new {σ : Sto} {ν : Nat} {k : Blk} (h : σ ν = none) : Vw σ (upd σ ν k) := fun b k' hb => ⟨k'.rw, by
  have : b ≠ ν := fun e => by subst e; rw [h] at hb; cases hb
  rw [upd_ne _ _ _ _ this]; exact hb⟩
theorem View.vw {mods : List Nat} {σ s : Sto} (h : View mods σ s) : Vw σ s := fun b k hb => by
  rw [h b, hb]
  simp only [Option.map_some]
  split
  · exact ⟨k.rw, rfl⟩
  · exact ⟨false, rfl⟩
theorem Vw.over {σ s s' : Sto} (h : Vw σ s) (ho : Over s s') : Vw σ s' := fun b k hb => by
  obtain ⟨r, hr⟩ := h b k hb
  exact ⟨r, ho _ _ hr⟩
theorem Vw.trans {σ s s' : Sto} (h : Vw σ s) (h' : Vw s s') : Vw σ s' := fun b k hb => by
  obtain ⟨r, hr⟩ := h b k hb
  obtain ⟨r', hr'⟩ := h' b _ hr
  exact ⟨r', hr'⟩

/-- The slice holds these elements, each of s cells. -/
def Sl (σ : Sto) (x : AV) (s : Nat) (l : List (List AV)) : Prop :=
  ∃ b o cap z, x = .sl b o l.length cap z ∧ (z = s ∨ cap = some 0) ∧ (l = [] ∨ z = s ∧ ∃ k, σ b = some k ∧ k.sz = s ∧ o + l.length ≤ k.es.length ∧ (k.es.drop o).take l.length = l)
theorem Sl.vw {σ s : Sto} {x : AV} {z : Nat} {l : List (List AV)} (h : Sl σ x z l) (hv : Vw σ s) : Sl s x z l := by
  obtain ⟨b, o, cap, y, h1, h2, h3⟩ := h
  refine ⟨b, o, cap, y, h1, h2, h3.imp id fun ⟨h4, k, h5, h6, h7, h8⟩ => ?_⟩
  obtain ⟨r, hr⟩ := hv b k h5
  exact ⟨h4, _, hr, h6, h7, h8⟩
theorem Sl.nil (σ : Sto) (b o z s : Nat) : Sl σ (.sl b o 0 (some 0) z) s [] := ⟨b, o, some 0, z, rfl, .inr rfl, .inl rfl⟩
theorem Sl.mk {σ : Sto} {b o n s : Nat} {cap : Option Nat} {k : Blk} {l : List (List AV)} (hb : σ b = some k) (hs : k.sz = s) (hn : n = l.length) (h : (k.es.drop o).take l.length = l) : Sl σ (.sl b o n cap s) s l := by
  subst hn
  refine ⟨b, o, cap, s, rfl, .inl rfl, ?_⟩
  by_cases he : l = []
  · exact .inl he
  · refine .inr ⟨rfl, k, hb, hs, ?_, h⟩
    have hl := congrArg List.length h
    have : 0 < l.length := List.length_pos_iff.2 he
    simp at hl
    omega
theorem Sl.whole {σ : Sto} {b n s t : Nat} {cap : Option Nat} {r : Bool} {l : List (List AV)} (hb : σ b = some ⟨t, s, l, r⟩) (hn : n = l.length) : Sl σ (.sl b 0 n cap s) s l := Sl.mk hb rfl hn (by simp)

/-- What stands at a place of a slice. -/
theorem Sl.at {σ : Sto} {b o n z s : Nat} {cap : Option Nat} {l : List (List AV)} (h : Sl σ (.sl b o n cap z) s l) {i : Nat} (hi : i < l.length) :
    n = l.length ∧ z = s ∧ ∃ k, σ b = some k ∧ k.es[o + i]? = some l[i] := by
  obtain ⟨b', o', cap', z', h1, h2, h3⟩ := h
  cases h1
  rcases h3 with h3 | ⟨h4, k, h5, h6, h7, h8⟩
  · subst h3; simp at hi
  · refine ⟨rfl, h4, k, h5, ?_⟩
    have : ((k.es.drop o).take l.length)[i]? = l[i]? := by rw [h8]
    rw [List.getElem?_take, if_pos hi, List.getElem?_drop] at this
    rw [this]; exact List.getElem?_eq_getElem hi
theorem Sl.len {σ : Sto} {b o n z s : Nat} {cap : Option Nat} {l : List (List AV)} (h : Sl σ (.sl b o n cap z) s l) : n = l.length := by
  obtain ⟨b', o', cap', z', h1, _⟩ := h
  cases h1; rfl
theorem Sl.zs {σ : Sto} {b o n z s : Nat} {cap : Option Nat} {l : List (List AV)} (h : Sl σ (.sl b o n cap z) s l) : z = s ∨ cap = some 0 := by
  obtain ⟨b', o', cap', z', h1, h2, _⟩ := h
  cases h1; exact h2
theorem Sl.out {σ : Sto} {x : AV} {s : Nat} {l : List (List AV)} (h : Sl σ x s l) : ∃ b o cap z, x = .sl b o l.length cap z := by
  obtain ⟨b', o', cap', z', h1, _⟩ := h
  exact ⟨_, _, _, _, h1⟩
theorem Sl.take {σ : Sto} {b o n z s : Nat} {cap : Option Nat} {l : List (List AV)} (h : Sl σ (.sl b o n cap z) s l) {i : Nat} (hi : i ≤ l.length) (cap' : Option Nat) (hc : cap = some 0 → cap' = some 0) : Sl σ (.sl b o i cap' z) s (l.take i) := by
  obtain ⟨b', o', cap2, z', h1, h2, h3⟩ := h
  cases h1
  have hl : i = (l.take i).length := by simp; omega
  refine ⟨b, o, cap', z, by rw [← hl], h2.imp id hc, h3.imp (fun h => by simp [h]) fun ⟨h4, k, h5, h6, h7, h8⟩ => ⟨h4, k, h5, h6, by omega, ?_⟩⟩
  rw [← hl]
  have := congrArg (List.take i) h8
  rwa [List.take_take, Nat.min_eq_left hi] at this
theorem Sl.drop {σ : Sto} {b o n z s : Nat} {cap : Option Nat} {l : List (List AV)} (h : Sl σ (.sl b o n cap z) s l) {i m : Nat} (hi : i ≤ l.length) (hm : m = l.length - i) (cap' : Option Nat) (hc : cap = some 0 → cap' = some 0) : Sl σ (.sl b (o + i) m cap' z) s (l.drop i) := by
  obtain ⟨b', o', cap2, z', h1, h2, h3⟩ := h
  cases h1
  subst hm
  have hl : l.length - i = (l.drop i).length := by simp
  refine ⟨b, o + i, cap', z, by rw [← hl], h2.imp id hc, h3.imp (fun h => by simp [h]) fun ⟨h4, k, h5, h6, h7, h8⟩ => ⟨h4, k, h5, h6, by omega, ?_⟩⟩
  rw [← hl]
  have := congrArg (List.drop i) h8
  rwa [List.drop_take, List.drop_drop] at this
theorem Sl.elems {σ : Sto} {b o n z s : Nat} {cap : Option Nat} {l : List (List AV)} (h : Sl σ (.sl b o n cap z) s l) : Go.Proofs.Ythjjfdbkggiaeaa.elems s (.sl b o n cap z) σ = some l := by
  obtain ⟨b', o', cap2, z', h1, h2, h3⟩ := h
  cases h1
  unfold Go.Proofs.Ythjjfdbkggiaeaa.elems
  rcases h3 with h3 | ⟨h4, k, h5, h6, h7, h8⟩
  · subst h3
    simp
    split <;> rfl
  · simp [h5, h4, h6, h7, h8]

theorem Sl.on {σ σ' : Sto} {b o n z s : Nat} {cap : Option Nat} {l : List (List AV)} (h : Sl σ (.sl b o n cap z) s l) (he : σ' b = σ b) : Sl σ' (.sl b o n cap z) s l := by
  obtain ⟨b', o', cap', z', h1, h2, h3⟩ := h
  cases h1
  exact ⟨b, o, cap, z, rfl, h2, h3.imp id fun ⟨h4, k, h5, h6⟩ => ⟨h4, k, he ▸ h5, h6⟩⟩
theorem Vw.upd {s : Sto} {K b : Nat} {k : Blk} (hB : Bd K s) (hb : K ≤ b) : Vw s (upd s b k) := (Vw.refl s).over ((Over.refl s).upd hB hb)
/-- A slice without room is a new slice without elements. -/
theorem Weak.virt {K M : Nat} {τ : Tm} {σ : Sto} (i : Tmp) (t s b o z : Nat) (hi : get τ i = .sl b o 0 (some 0) z) (hs : 0 < s) : Weak K τ σ M ((i, .sl M 0 0 none s) :: τ) (upd σ M ⟨t, s, [], true⟩) (M + 1) := by
  intro B w0 X N E a w μ h
  have hM : μ M = none := h.fre M (Nat.le_refl _)
  have hsub := Sub.upd hM ⟨⟨0, 0, none⟩, 0, s⟩
  have hk := h.kM
  refine ⟨upd μ M ⟨⟨0, 0, none⟩, 0, s⟩, h.dfr, h.siz, h.rel.virt hM t s hs (free_of h.rel hM) ⟨0, 0, none⟩, fun b hb => ?_, fun b hb => ?_, fun j => ?_, by omega⟩
  · rw [upd_ne _ _ _ _ (by omega)]; exact h.fre b (by omega)
  · rw [upd_ne _ _ _ _ (by omega)]; exact h.ext b hb
  · simp only [get]
    split
    · rename_i hj
      subst hj
      have := h.tm j
      rw [hi] at this
      simp only [VRel] at this ⊢
      obtain ⟨x, m, h1, h2, h3, _⟩ := this
      have hm := h3 0 rfl
      exact ⟨x, m, h1, h2, fun k hk => (by cases hk), .inr ⟨_, upd_eq _ _ _, rfl, fun h => absurd h (by omega)⟩⟩
    · exact VRel.mono hsub _ _ (h.tm j)
/-- Where a search ends. -/
def idx {α : Type} (p : α → Bool) (l : List α) : Int := match l.findIdx? p with
  | some i => i
  | none => -1
theorem idx_at {α : Type} {p : α → Bool} {l : List α} {i : Nat} (hi : i < l.length) (h : ∀ e ∈ l.take i, p e = false) (hp : p l[i] = true) : idx p l = i := by
  have : l.findIdx? p = some i := by
    rw [List.findIdx?_eq_some_iff_getElem]
    refine ⟨hi, hp, fun j hj => ?_⟩
    have := h l[j] (by rw [List.mem_take_iff_getElem]; exact ⟨j, by omega, rfl⟩)
    simp [this]
  simp [idx, this]
theorem idx_no {α : Type} {p : α → Bool} {l : List α} (h : ∀ e ∈ l, p e = false) : idx p l = -1 := by
  have : l.findIdx? p = none := by
    rw [List.findIdx?_eq_none_iff]
    exact fun e he => h e he
  simp [idx, this]
theorem take_snoc {α : Type} {p : α → Bool} {l : List α} {i : Nat} (hi : i < l.length) (h : ∀ e ∈ l.take i, p e = false) (hp : p l[i] = false) : ∀ e ∈ l.take (i + 1), p e = false := by
  rw [List.take_succ_eq_append_getElem hi]
  intro e he
  rcases List.mem_append.1 he with he | he
  · exact h e he
  · rw [List.mem_singleton.1 he]; exact hp

end Go.Proofs.Ythjjfdbkggiaeaa
