/- A map that a call itself makes: block g reads as the set of some numbers; a judgement for walks that carry it. No condition. -/
import Derived.Test.YtgaiemhbllbaiaaLB
import Derived.Maps.Own
import Derived.Maps.Views
set_option linter.unusedSimpArgs false
set_option linter.unusedVariables false
set_option linter.unusedSectionVars false
namespace Go.Proofs.Ytgaiemhbllbaiaa
open Go Go.RowKit

/-- Type t is a map from int to bool. -/
structure MapTy (P : Program) (t kt et : TypeId) : Prop where
  ht : P.underlying t = some (.map kt et)
  hk : P.underlying kt = some (.int .i64)
  he : P.underlying et = some .bool
  hz : ∀ w : World, (zeroValue et).run P w = .ok (.bool false) w
/-- Block g is such a map: true at the numbers of L, without an entry at all others. -/
def MapIs (P : Program) (kt et : TypeId) (g : Nat) (L : List Int) (w : World) : Prop :=
  ∃ D : DataW Unit, w.ownsMap P kt (plainElem P et) g L.length D ∧ Maps.IsMap D ∧ ∀ x : Int, D.atKey (.int .i64 x) (.lit (.bool false)) = .lit (.bool (decide (x ∈ L)))

section
variable {P : Program} {t kt et : TypeId} {g : Nat} {L : List Int} {w w' : World}
theorem MapIs.keep (h : MapIs P kt et g L w) (hk : w'.heap[g]? = w.heap[g]?) : MapIs P kt et g L w' := by
  obtain ⟨D, ⟨es, clock, hb, F, hs, hD⟩, h2, h3⟩ := h
  exact ⟨D, ⟨es, clock, hk.trans hb, F, hs, hD⟩, h2, h3⟩
theorem MapIs.at (h : MapIs P kt et g L w) : ∃ es clock, w.heap[g]? = some (.map es clock) := by
  obtain ⟨D, ⟨es, clock, hb, _⟩, _⟩ := h
  exact ⟨es, clock, hb⟩
theorem MapIs.lt (h : MapIs P kt et g L w) : g < w.heap.size := by
  obtain ⟨es, clock, hb⟩ := h.at
  exact (Array.getElem?_eq_some_iff.1 hb).1
theorem MapIs.made (w : World) : MapIs P kt et w.heap.size [] (w.alloc (.map #[] 0)) :=
  ⟨.map [], World.ownsMap_made _ _ _ _, Maps.isMap_empty, fun x => by simp [DataW.atKey]⟩
theorem MapIs.look (h : MapIs P kt et g L w) (T : MapTy P t kt et) {x : Int} (hx : (Lit.int .i64 x).wf = true) : (Instr.lookup t (.map (some g)) (.int .i64 x) false).run P w = .ok (.bool (decide (x ∈ L))) w := by
  obtain ⟨D, ho, _, h3⟩ := h
  obtain ⟨v, ps, hrun, hv⟩ := ho.lookup (Maps.int_keyed T.hk) T.ht (T.hz w) (plainElem_bool T.he false) (Maps.keyOf_int_mk T.hk hx)
  rw [h3] at hv
  rw [hrun]
  unfold plainElem at hv
  rw [T.he] at hv
  cases v <;> simp at hv
  simp [hv.1]
theorem MapIs.set (h : MapIs P kt et g L w) (T : MapTy P t kt et) (hL : L.length < maxLen) {x : Int} (hx : (Lit.int .i64 x).wf = true) :
    ∃ w', (Instr.mapUpdate t (.map (some g)) (.int .i64 x) (.bool true)).run P w = .ok () w' ∧ MapIs P kt et g (x :: L) w' ∧ w.grownBy w' (some g) := by
  obtain ⟨D, ho, hm, h3⟩ := h
  obtain ⟨w', hrun, ho', hg⟩ := ho.update (Maps.int_keyed T.hk) T.ht hL (Maps.keyOf_int_mk T.hk hx) (plainElem_bool T.he true)
  refine ⟨w', hrun, ⟨_, ho', hm.put _ _, fun y => ?_⟩, hg⟩
  by_cases e : y = x
  · subst e
    rw [Maps.atKey_put_same (k := .int .i64 y) hm trivial]
    simp
  · rw [Maps.atKey_put_other (by simpa using e), h3]
    simp [e]
end

abbrev mapSide (P : Program) (kt et : TypeId) (g : Nat) (L : List Int) : Side :=
  ⟨fun B w0 X => g < B ∧ ¬ X g ∧ MapIs P kt et g L w0, fun B w0 X B' w X' h hk hB hX => ⟨by have := h.1; omega, hX g h.1 h.2.1, h.2.2.keep (hk.block g h.1 h.2.1)⟩⟩
/-- What stands besides the store says what the map holds. -/
def MapHas [Side] (P : Program) (kt et : TypeId) (g : Nat) (L : List Int) : Prop := ∀ (B : Nat) (w0 : World) (X : Nat → Prop), Side.ok B w0 X → g < B ∧ ¬ X g ∧ MapIs P kt et g L w0

section
variable {P : Program} {N K : Nat} {τ : Tm} {σ : Sto} {M : Nat} {t kt et : TypeId}
/-- A region in which the map is asked for one number. -/
theorem AWP.look [Side] (T : MapTy P t kt et) {g : Nat} {L : List Int} (hS : MapHas P kt et g L) (pre post : List Oper) (o1 : Oper) {d mt xt : Tmp} {id : Nat} {ops : Array Oper} {Q : Exit → Tm → Sto → Nat → Prop}
    (hd : (ops.toList.all fun o => match o.dst with | some d => decide (d < N) | none => true) = true) (hops : ops.toList = pre ++ (o1 :: post))
    (h1 : o1.op = .lookup t (.tmp mt) (.tmp xt) false ∧ o1.dst = some d ∧ o1.guard = none)
    (h : ∀ KK : Tm → Sto → Nat → Prop, (∀ τ' σ' M', Q .normal τ' σ' M' → KK τ' σ' M') → aOps P (ops.toList.map (·.dst)) pre (fun τ σ M => ∃ n : Int, get τ mt = .v (.map (some g)) ∧ get τ xt = .v (.int .i64 n) ∧ (Lit.int .i64 n).wf = true ∧ aOps P (ops.toList.map (·.dst)) post KK ((d, .v (.bool (decide (n ∈ L)))) :: τ) σ M) τ σ M) :
    AWP P N K (.region id ops false) Q τ σ M := by
  intro B w0 X E a w μ hs
  refine wp_region_list ?_
  have hd' : ∀ o ∈ ops.toList, ∀ d, o.dst = some d → d < N := fun o ho d hdd => by
    have := List.all_eq_true.1 hd o ho
    rw [hdd] at this
    simpa using this
  have hpre : ∀ o ∈ pre, ∀ d, o.dst = some d → d < N := fun o ho => hd' o (by rw [hops]; simp [ho])
  have hpost : ∀ o ∈ post, ∀ d, o.dst = some d → d < N := fun o ho => hd' o (by rw [hops]; simp [ho])
  have hm1 := hd' o1 (by rw [hops]; simp)
  have hh := h (Q .normal) fun _ _ _ h => h
  have hw := hS B w0 X hs.sd
  have key := aOps_okT (ops := ops) (Qc := fun e a' w' => ∃ τ' σ' M' μ', Q e τ' σ' M' ∧ HS B w0 X N K E τ' σ' M' a' w' μ') (o1 :: post) pre τ σ M a w μ hs hpre hh ?_
  · rw [hops]; exact key
  rintro τ1 σ1 M1 a1 w1 μ1 ⟨n, hmt, hxt, hn, hrest⟩ hs1
  have hmap : MapIs P kt et g L w1 := hw.2.2.keep (hs1.rel.keep.block g hw.1 hw.2.1)
  have ev1 : ∀ i v, get τ1 i = .v v → a1.eval (.tmp i) = v := fun i v hi => by
    have := ev_rel hs1.tm (.tmp i)
    simp only [ev] at this
    rw [hi] at this
    simpa [VRel] using this
  have r1 : (execOp a1.eval o1).run P w1 = .ok (.value (.bool (decide (n ∈ L)))) w1 := by
    simp [execOp, h1.1, ev1 _ _ hmt, ev1 _ _ hxt, hmap.look T hn]
  refine wpList_step fun KC hKC => ?_
  rw [if_pos (gdA_ok hs1 (by rw [h1.2.2]; rfl))]
  unfold Oper.wp
  rw [r1, Oper.upon_value]
  have hs2 := hs1.put (d := o1.dst) (After.same (M := M1) hs1.rel (show VRel μ1 (.v (.bool (decide (n ∈ L)))) (.bool (decide (n ∈ L))) by simp [VRel])) hm1
  refine hKC _ _ ?_
  rw [h1.2.1] at hs2
  rw [h1.2.1]
  exact aOps_ok post _ _ _ _ _ _ hs2 hpost hrest fun τ' σ' M' a' w' μ' hq hs' => ⟨τ', σ', M', μ', hq, hs'⟩

/-! walks that carry the map -/
/-- No map yet; or block g, with these numbers. -/
abbrev St := Option (Nat × List Int)
def stOk (P : Program) (kt et : TypeId) (B : Nat) : St → World → Prop
  | none, _ => True
  | some (g, L), w => B ≤ g ∧ MapIs P kt et g L w
def stHas [Side] (P : Program) (kt et : TypeId) : St → Prop
  | none => True
  | some (g, L) => MapHas P kt et g L
theorem stHas.map [Side] {g : Nat} {L : List Int} (h : stHas P kt et (some (g, L))) : MapHas P kt et g L := h

theorem gdA_0 {B : Nat} {w0 : World} {X : Nat → Prop} {E μ : Mu} {a : Act} {w : World} {ops : Array Oper} {o : Oper} {b : Bool} (h : @HS noSide B w0 X N K E τ σ M a w μ) (hg : gdA (ops.toList.map (·.dst)) τ o.guard = some b) : Region.wanted o (yielded ops a.tmps) = b := gdA_ok h hg
/-- The world as it is becomes the one at whose memory the rest is held. -/
theorem HS.into {B : Nat} {w0 : World} {X : Nat → Prop} {E μ : Mu} {a : Act} {w : World} {st : St} (hs : @HS noSide B w0 X N K E τ σ M a w μ) (hst : stOk P kt et B st w) :
    ∃ (S : Side) (B1 : Nat) (w1 : World) (X1 : Nat → Prop), @stHas S P kt et st ∧ @HS S B1 w1 X1 N K E τ σ M a w μ ∧ ∀ τ' σ' M' a' w' μ', @HS S B1 w1 X1 N K E τ' σ' M' a' w' μ' → @HS noSide B w0 X N K E τ' σ' M' a' w' μ' ∧ stOk P kt et B st w' := by
  match st, hst with
  | none, _ => exact ⟨noSide, B, w0, X, trivial, hs, fun _ _ _ _ _ _ h => ⟨h, trivial⟩⟩
  | some (g, L), hst =>
    obtain ⟨hBg, hm⟩ := hst
    obtain ⟨es, clock, hg⟩ := hm.at
    have hlt := hm.lt
    refine ⟨mapSide P kt et g L, w.heap.size, w, fun k => (B ≤ k ∨ X k) ∧ k ≠ g, fun _ _ _ h => h, ?_, fun τ' σ' M' a' w' μ' h => ?_⟩
    · refine @HS.mk (mapSide P kt et g L) _ _ _ _ _ _ _ _ _ _ _ _ hs.dfr hs.siz ⟨Keep.refl _ _ _, Nat.le_refl _, fun b k hb => ?_, hs.rel.sep, hs.rel.fin⟩ hs.fre hs.ext hs.tm hs.kM ⟨hlt, fun h => h.2 rfl, hm⟩
      obtain ⟨L0, hL0, hB0⟩ := hs.rel.blk b k hb
      refine ⟨L0, hL0, hB0.sz, hB0.pos, hB0.len, hB0.rd, fun hrw => ?_⟩
      rcases hB0.own hrw with h1 | ⟨g0, cs, h1, h2, h3, h4⟩
      · exact .inl h1
      · refine .inr ⟨g0, cs, h1, .inr ⟨h2, fun e => ?_⟩, h3, h4⟩
        subst e
        rw [hg] at h3; cases h3
    · have hB := hs.rel.big
      obtain ⟨q1, q2, hr, q3, q4, q5, q6, _⟩ := h
      refine ⟨@HS.mk noSide _ _ _ _ _ _ _ _ _ _ _ _ q1 q2 ⟨hs.rel.keep.trans ⟨hr.keep.os, hr.keep.tape, hr.keep.output, hr.keep.size, fun k hk hx => hr.keep.block k (by omega) fun hx1 => ?_⟩, Nat.le_trans hB hr.keep.size, fun b k hb => ?_, hr.sep, hr.fin⟩ q3 q4 q5 q6 trivial, hBg, hm.keep (hr.keep.block g hlt fun hx => hx.2 rfl)⟩
      · rcases hx1.1 with h1 | h1
        · omega
        · exact hx h1
      · obtain ⟨L0, hL0, hB0⟩ := hr.blk b k hb
        refine ⟨L0, hL0, hB0.sz, hB0.pos, hB0.len, hB0.rd, fun hrw => ?_⟩
        rcases hB0.own hrw with h1 | ⟨g0, cs, h1, h2, h3, h4⟩
        · exact .inl h1
        · refine .inr ⟨g0, cs, h1, ?_, h3, h4⟩
          rcases h2 with h2 | h2
          · exact .inl (by omega)
          · exact h2.1

def SWP (P : Program) (kt et : TypeId) (N K : Nat) (c : Code) (Q : St → Exit → Tm → Sto → Nat → Prop) (st : St) (τ : Tm) (σ : Sto) (M : Nat) : Prop :=
  ∀ (B : Nat) (w0 : World) (X : Nat → Prop) (E : Mu) (a : Act) (w : World) (μ : Mu), @HS noSide B w0 X N K E τ σ M a w μ → stOk P kt et B st w →
    c.wp P (fun e a' w' => ∃ st' τ' σ' M' μ', Q st' e τ' σ' M' ∧ @HS noSide B w0 X N K E τ' σ' M' a' w' μ' ∧ stOk P kt et B st' w') a w
theorem SWP.awp {c : Code} {Q : Exit → Tm → Sto → Nat → Prop} (kt et : TypeId) (h : SWP P kt et N K c (fun _ => Q) none τ σ M) : @AWP noSide P N K c Q τ σ M := by
  intro B w0 X E a w μ hs
  refine wp_mono (h B w0 X E a w μ hs trivial) ?_
  rintro e a' w' ⟨st', τ', σ', M', μ', hq, hs', _⟩
  exact ⟨τ', σ', M', μ', hq, hs'⟩

section
variable {Q : St → Exit → Tm → Sto → Nat → Prop} {st : St}
theorem SWP.region {id : Nat} {ops : Array Oper} (hd : (ops.toList.all fun o => match o.dst with | some d => decide (d < N) | none => true) = true)
    (h : ∀ KK : Tm → Sto → Nat → Prop, (∀ τ' σ' M', Q st .normal τ' σ' M' → KK τ' σ' M') → ∀ iS : Side, @stHas iS P kt et st → @aOps iS P (ops.toList.map (·.dst)) ops.toList KK τ σ M) : SWP P kt et N K (.region id ops false) Q st τ σ M := by
  intro B w0 X E a w μ hs hst
  obtain ⟨S, B1, w1, X1, hS, hs1, back⟩ := hs.into hst
  refine wp_mono (@AWP.region S P N K σ τ M id ops (fun e τ σ M => Q st e τ σ M) hd (fun KK hKK => h KK hKK S hS) B1 w1 X1 E a w μ hs1) ?_
  rintro e a' w' ⟨τ', σ', M', μ', hq, hs'⟩
  obtain ⟨h1, h2⟩ := back _ _ _ _ _ _ hs'
  exact ⟨st, τ', σ', M', μ', hq, h1, h2⟩
theorem SWP.skip (h : Q st .normal τ σ M) : SWP P kt et N K .skip Q st τ σ M := fun _ _ _ _ _ _ μ hs hst => wp_skip ⟨st, τ, σ, M, μ, h, hs, hst⟩
theorem SWP.exit {id : Nat} (h : Q st (.exit id) τ σ M) : SWP P kt et N K (.exit id) Q st τ σ M := fun _ _ _ _ _ _ μ hs hst => wp_exit ⟨st, τ, σ, M, μ, h, hs, hst⟩
theorem SWP.ret (h : Q st .ret τ σ M) : SWP P kt et N K .ret Q st τ σ M := fun _ _ _ _ _ _ μ hs hst => wp_ret ⟨st, τ, σ, M, μ, h, hs, hst⟩
def thenS (next : St → Tm → Sto → Nat → Prop) (Q : St → Exit → Tm → Sto → Nat → Prop) : St → Exit → Tm → Sto → Nat → Prop
  | st, .normal, τ, σ, M => next st τ σ M
  | st, e, τ, σ, M => Q st e τ σ M
theorem SWP.seq {x y : Code} (h : SWP P kt et N K x (thenS (fun st τ σ M => SWP P kt et N K y Q st τ σ M) Q) st τ σ M) : SWP P kt et N K (.seq x y) Q st τ σ M := by
  intro B w0 X E a w μ hs hst
  refine wp_seq (wp_mono (h B w0 X E a w μ hs hst) ?_)
  rintro e a' w' ⟨st', τ', σ', M', μ', hq, hs', hst'⟩
  cases e with
  | normal => exact hq B w0 X E a' w' μ' hs' hst'
  | _ => exact ⟨st', τ', σ', M', μ', hq, hs', hst'⟩
def blockS (id : Nat) (Q : St → Exit → Tm → Sto → Nat → Prop) : St → Exit → Tm → Sto → Nat → Prop
  | st, .exit id', τ, σ, M => if id' = id then Q st .normal τ σ M else Q st (.exit id') τ σ M
  | st, e, τ, σ, M => Q st e τ σ M
theorem SWP.block {id : Nat} {c : Code} (h : SWP P kt et N K c (blockS id Q) st τ σ M) : SWP P kt et N K (.block id c) Q st τ σ M := by
  intro B w0 X E a w μ hs hst
  refine wp_block (wp_mono (h B w0 X E a w μ hs hst) ?_)
  rintro e a' w' ⟨st', τ', σ', M', μ', hq, hs', hst'⟩
  cases e with
  | exit id' =>
    simp only [blockS] at hq
    simp only [Exit.inBlock]
    split at hq
    · rename_i he; rw [if_pos he]; exact ⟨st', τ', σ', M', μ', hq, hs', hst'⟩
    · rename_i he; rw [if_neg he]; exact ⟨st', τ', σ', M', μ', hq, hs', hst'⟩
  | _ => exact ⟨st', τ', σ', M', μ', hq, hs', hst'⟩
theorem SWP.if_ {c : Operand} {x y : Code} {b : Bool} (hc : ev τ c = .v (.bool b)) (h1 : b = true → SWP P kt et N K x Q st τ σ M) (h2 : b = false → SWP P kt et N K y Q st τ σ M) : SWP P kt et N K (.cond c x y) Q st τ σ M := by
  intro B w0 X E a w μ hs hst
  have := ev_rel hs.tm c
  rw [hc] at this
  simp only [VRel] at this
  exact wp_cond_split this (fun ht => h1 ht B w0 X E a w μ hs hst) (fun ht => h2 ht B w0 X E a w μ hs hst)
theorem SWP.if_t {c : Operand} {x y : Code} (hc : ev τ c = .v (.bool true)) (h : SWP P kt et N K x Q st τ σ M) : SWP P kt et N K (.cond c x y) Q st τ σ M := SWP.if_ hc (fun _ => h) (fun h => by cases h)
theorem SWP.if_f {c : Operand} {x y : Code} (hc : ev τ c = .v (.bool false)) (h : SWP P kt et N K y Q st τ σ M) : SWP P kt et N K (.cond c x y) Q st τ σ M := SWP.if_ hc (fun h => by cases h) (fun _ => h)
def AgainS (K : Nat) (I : Nat → St → Tm → Sto → Nat → Prop) (n : Nat) (st : St) (τ : Tm) (σ : Sto) (M : Nat) : Prop :=
  ∃ m τ' σ' M', m < n ∧ I m st τ' σ' M' ∧ @Weak noSide K τ σ M τ' σ' M'
theorem SWP.loop {c : Code} (I : Nat → St → Tm → Sto → Nat → Prop) (h0 : ∃ n τ' σ' M', I n st τ' σ' M' ∧ @Weak noSide K τ σ M τ' σ' M')
    (h : ∀ n st τ σ M, I n st τ σ M → SWP P kt et N K c (thenS (AgainS K I n) Q) st τ σ M) : SWP P kt et N K (.loop c) Q st τ σ M := by
  intro B w0 X E a w μ hs hst
  obtain ⟨n, τ', σ', M', hI, hw⟩ := h0
  obtain ⟨μ', hs'⟩ := hw B w0 X N E a w μ hs
  refine wp_loop_ghost (fun n a w => ∃ st τ σ M μ, I n st τ σ M ∧ @HS noSide B w0 X N K E τ σ M a w μ ∧ stOk P kt et B st w) n ⟨st, τ', σ', M', μ', hI, hs', hst⟩ ?_
  rintro n a w ⟨st, τ, σ, M, μ, hI, hs, hst⟩
  refine wp_mono (h n st τ σ M hI B w0 X E a w μ hs hst) ?_
  rintro e a' w' ⟨st', τ', σ', M', μ', hq, hs', hst'⟩
  cases e with
  | normal =>
    obtain ⟨m, τ2, σ2, M2, hm, hI2, hw2⟩ := hq
    obtain ⟨μ2, hs2⟩ := hw2 B w0 X N E a' w' μ' hs'
    exact ⟨m, hm, st', τ2, σ2, M2, μ2, hI2, hs2, hst'⟩
  | _ => exact ⟨st', τ', σ', M', μ', hq, hs', hst'⟩
/-- A region that begins with the making of the map. -/
theorem SWP.mk {id : Nat} {ops : Array Oper} (o1 : Oper) (rest : List Oper) {d : Tmp} (hd : (ops.toList.all fun o => match o.dst with | some d => decide (d < N) | none => true) = true) (hops : ops.toList = o1 :: rest)
    (h1 : o1.op = .makeMap t none ∧ o1.dst = some d ∧ o1.guard = none)
    (h : ∀ (g : Nat) (KK : Tm → Sto → Nat → Prop), (∀ τ' σ' M', Q (some (g, [])) .normal τ' σ' M' → KK τ' σ' M') → ∀ iS : Side, @stHas iS P kt et (some (g, [])) → @aOps iS P (ops.toList.map (·.dst)) rest KK ((d, .v (.map (some g))) :: τ) σ M) :
    SWP P kt et N K (.region id ops false) Q none τ σ M := by
  intro B w0 X E a w μ hs _
  refine wp_region_list ?_
  have hd' : ∀ o ∈ ops.toList, ∀ d, o.dst = some d → d < N := fun o ho d hdd => by
    have := List.all_eq_true.1 hd o ho
    rw [hdd] at this
    simpa using this
  have hrest : ∀ o ∈ rest, ∀ d, o.dst = some d → d < N := fun o ho => hd' o (by rw [hops]; simp [ho])
  have hm1 := hd' o1 (by rw [hops]; simp)
  have hst : stOk P kt et B (some (w.heap.size, [])) (w.alloc (.map #[] 0)) := ⟨hs.rel.big, MapIs.made _⟩
  have r1 : (execOp a.eval o1).run P w = .ok (.value (.map (some w.heap.size))) (w.alloc (.map #[] 0)) := by
    simp [execOp, h1.1, Instr.makeMap]
  have hs1 := hs.step (d := o1.dst) (v := .v (.map (some w.heap.size))) (u := .map (some w.heap.size)) (by simp [VRel]) (hs.rel.moveB ((Below.refl _ _).alloc (Nat.le_refl _) (.map #[] 0))) (Sub.refl _) (fun _ _ => rfl) hs.fre (Nat.le_refl _) hm1
  obtain ⟨S, B1, w1, X1, hS, hs2, back⟩ := hs1.into hst
  have key := h w.heap.size _ (fun _ _ _ h => h) S hS
  rw [hops] at key ⊢
  refine wpList_step fun KC hKC => ?_
  rw [if_pos (gdA_0 hs (by rw [h1.2.2]; rfl))]
  unfold Oper.wp
  rw [r1, Oper.upon_value]
  refine hKC _ _ ?_
  rw [h1.2.1] at hs2 ⊢
  rw [← hops] at key
  exact @aOps_ok S P B1 N K w1 X1 E ops _ _ rest _ _ _ _ _ _ hs2 hrest key fun τ' σ' M' a' w' μ' hq hs' => by
    obtain ⟨g1, g2⟩ := back _ _ _ _ _ _ hs'
    exact ⟨_, τ', σ', M', μ', hq, g1, g2⟩
/-- A region that ends with a number put into the map. -/
theorem SWP.put (T : MapTy P t kt et) {g : Nat} {L : List Int} (hL : L.length < maxLen) {id : Nat} {ops : Array Oper} (pre : List Oper) (o1 : Oper) {mt xt : Tmp} (hd : (ops.toList.all fun o => match o.dst with | some d => decide (d < N) | none => true) = true) (hops : ops.toList = pre ++ [o1])
    (h1 : o1.op = .mapUpdate t (.tmp mt) (.tmp xt) (.const (.bool true)) ∧ o1.dst = none ∧ o1.guard = none)
    (h : ∀ KK : Int → Tm → Sto → Nat → Prop, (∀ n τ' σ' M', Q (some (g, n :: L)) .normal τ' σ' M' → KK n τ' σ' M') → ∀ iS : Side, @stHas iS P kt et (some (g, L)) →
      @aOps iS P (ops.toList.map (·.dst)) pre (fun τ σ M => ∃ n : Int, get τ mt = .v (.map (some g)) ∧ get τ xt = .v (.int .i64 n) ∧ (Lit.int .i64 n).wf = true ∧ KK n τ σ M) τ σ M) :
    SWP P kt et N K (.region id ops false) Q (some (g, L)) τ σ M := by
  intro B w0 X E a w μ hs hst
  refine wp_region_list ?_
  have hd' : ∀ o ∈ ops.toList, ∀ d, o.dst = some d → d < N := fun o ho d hdd => by
    have := List.all_eq_true.1 hd o ho
    rw [hdd] at this
    simpa using this
  have hpre : ∀ o ∈ pre, ∀ d, o.dst = some d → d < N := fun o ho => hd' o (by rw [hops]; simp [ho])
  obtain ⟨S, B1, w1, X1, hS, hs2, back⟩ := hs.into hst
  have key := @aOps_okT S P B1 N K w1 X1 E ops (fun e a' w' => ∃ st' τ' σ' M' μ', Q st' e τ' σ' M' ∧ @HS noSide B w0 X N K E τ' σ' M' a' w' μ' ∧ stOk P kt et B st' w') _ [o1] pre τ σ M a w μ hs2 hpre (h (fun n τ σ M => Q (some (g, n :: L)) .normal τ σ M) (fun _ _ _ _ h => h) S hS) ?_
  · rw [hops]; exact key
  rintro τ1 σ1 M1 a1 w1' μ1 ⟨n, hmt, hxt, hn, hq⟩ hs3
  obtain ⟨g1, g2⟩ := back _ _ _ _ _ _ hs3
  obtain ⟨hBg, hmap⟩ := g2
  obtain ⟨es, clock, hge⟩ := hmap.at
  obtain ⟨w2, hrun, hmap2, hgr⟩ := hmap.set T hL hn
  have hgd := gdA_0 (ops := ops) (o := o1) (b := true) g1 (by rw [h1.2.2]; rfl)
  obtain ⟨q1, q2, gr, q3, q4, gtm, q6, _⟩ := g1
  have ev1 : ∀ i v, get τ1 i = .v v → a1.eval (.tmp i) = v := fun i v hi => by
    have := ev_rel gtm (.tmp i)
    simp only [ev] at this
    rw [hi] at this
    simpa [VRel] using this
  have hcst : a1.eval (.const (.bool true)) = .bool true := rfl
  have r1 : (execOp a1.eval o1).run P w1' = .ok .skip w2 := by
    simp [execOp, h1.1, ev1 _ _ hmt, ev1 _ _ hxt, hcst, hrun]
  refine wpList_step fun KC hKC => ?_
  rw [if_pos hgd]
  unfold Oper.wp
  rw [r1, Oper.upon_skip]
  refine hKC _ _ ?_
  have hother : ∀ b k L0, σ1 b = some k → μ1 b = some L0 → occ k L0 → w2.heap[L0.a.block]? = w1'.heap[L0.a.block]? := fun b k L0 hb hL0 ho => by
    obtain ⟨L1, hL1, hB1⟩ := gr.blk b k hb
    rw [hL0] at hL1; cases hL1
    refine hgr.block _ (hB1.lt ho) fun e => ?_
    have hne : L0.a.block = g := Option.some.inj e
    rcases ho with he | ⟨hr, hC⟩
    · cases hk : k.es with
      | nil => exact absurd hk he
      | cons x xs =>
        have hl := hB1.len x (by simp [hk])
        have hp := hB1.pos
        obtain ⟨u, hu, _⟩ := hB1.rd 0 x (by simp [hk]) 0 (x[0]'(by omega)) (List.getElem?_eq_getElem (by omega))
        unfold World.cell? at hu
        rw [add_block, hne, hge] at hu
        cases hu
    · rcases hB1.own hr with ⟨_, h0⟩ | ⟨g0, cs, ha, _, hg, _⟩
      · omega
      · rw [ha] at hne
        simp only at hne
        rw [hne, hge] at hg
        cases hg
  have hkeep : Keep B X w0 w2 := gr.keep.trans ⟨hgr.os, hgr.tape, hgr.output, hgr.size, fun k hk hx => hgr.block k (by have := gr.big; omega) (by intro e; cases e; omega)⟩
  have hs4 : @HS noSide B w0 X N K E τ1 σ1 M1 a1 w2 μ1 := @HS.mk noSide _ _ _ _ _ _ _ _ _ _ _ _ q1 q2 (gr.move hkeep hgr.size hother) q3 q4 gtm q6 trivial
  rw [h1.2.1]
  exact wpList_nil ⟨some (g, n :: L), τ1, σ1, M1, μ1, hq, hs4, hBg, hmap2⟩
end
end
end Go.Proofs.Ytgaiemhbllbaiaa
