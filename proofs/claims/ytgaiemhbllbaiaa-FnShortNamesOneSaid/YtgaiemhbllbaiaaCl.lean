/- A region that ends with a slice being cleared: what stood there is forgotten. No condition: nothing of a program stands here. -/
import Derived.Test.YtgaiemhbllbaiaaLB
set_option linter.unusedSimpArgs false
set_option linter.unusedVariables false
namespace Go.Proofs.Ytgaiemhbllbaiaa
open Go Go.RowKit

theorem zc_one {z : Array Value} {n : Nat} (h : ∀ u ∈ z, u.oneCell' = true) : ∀ v ∈ (Builtin.zeroCells z n).toList, v.oneCell' = true := by
  intro v hv
  unfold Builtin.zeroCells at hv
  have hv2 : v ∈ (Array.range (n * z.size)).map fun i => z[i % z.size]! := by simpa using hv
  obtain ⟨i, hi, rfl⟩ := Array.mem_map.1 hv2
  have hi2 : i < n * z.size := by simpa using hi
  have hz : 0 < z.size := Nat.pos_of_ne_zero (fun h0 => by rw [h0] at hi2; simp at hi2)
  have hm := Nat.mod_lt i hz
  rw [getElem!_pos z _ hm]
  exact h _ (Array.getElem_mem hm)
theorem zc_len (z : Array Value) (n : Nat) : (Builtin.zeroCells z n).toList.length = n * z.size := by simp [Builtin.zeroCells]
section
variable {P : Program} {B : Nat} {w0 : World} {X : Nat → Prop} {μ : Mu} {σ : Sto} {w : World}
theorem clear_ok {t ty e : TypeId} {b o n z by_ : Nat} {cap : Option Nat} {c : Value} {k : Blk} (hR : Rel B w0 X μ σ w) (hx : VRel μ (.sl b o n cap z) c) (hb : σ b = some k) (hrw : k.rw = true)
    (ht : elX P t = some (e, z, by_)) (hz : z = k.sz) (hn : o + n ≤ k.es.length) :
    ∃ w', (Builtin.clear_ #[t] ty #[c]).run P w = .ok (.tuple #[]) w' ∧ Rel B w0 X μ (upd σ b { k with es := k.es.take o }) w' := by
  obtain ⟨t1, t2, t3, t4, _⟩ := elX_ok ht
  have hu : P.underlying t = some (.slice e) := by
    unfold elO at t1
    split at t1 <;> simp_all
  simp only [VRel] at hx
  obtain ⟨x, m, rfl, hm, hcap, hL⟩ := hx
  rcases Nat.eq_zero_or_pos n with h0 | hpos
  · subst h0
    refine ⟨w, ?_, hR.trunc hb o⟩
    cases x <;> simp [Builtin.clear_, run_underlying hu]
  · rcases hL with hL | ⟨L, hL, hsz, hin⟩
    · have := hcap 0 hL
      omega
    · obtain ⟨rfl, hC⟩ := hin (by omega)
      obtain ⟨L', hL', hB⟩ := hR.blk b k hb
      rw [hL] at hL'; cases hL'
      rcases hB.own hrw with ⟨h0, _⟩ | ⟨g, cs, ha, hbx, hg, hcs, hen, hC0⟩
      · rw [h0] at hn; simp at hn; omega
      · unfold zrO at t4
        unfold zrOk at t3
        cases hi : P.info? e with
        | none => simp [hi] at t4
        | some it =>
          cases hzz : it.zero with
          | none => simp [hi, hzz] at t4
          | some zv =>
            simp [hi, hzz] at t3 t4
            have h1 : ∀ u ∈ zv.cells, u.oneCell' = true := fun u hu => by
              obtain ⟨i, hi2, rfl⟩ := Array.mem_iff_getElem.1 hu
              exact t3 i hi2
            have hvl := zc_len zv.cells n
            rw [t4, hz] at hvl
            have hmul : o * k.sz + n * k.sz ≤ L.C * k.sz := by
              rw [← Nat.add_mul]
              exact Nat.mul_le_mul_right _ (by omega)
            have hst := run_storeCells_at P g (o * z) k.ty (Builtin.zeroCells zv.cells n).toList 0 cs w hg (by rw [hvl, hcs, hz]; omega) (zc_one h1)
            obtain ⟨n', rfl⟩ : ∃ n', n = n' + 1 := ⟨n - 1, by omega⟩
            refine ⟨_, ?_, hR.setRow hb hL hrw ha hg hbx hC0 (cs.toList.take (o * z + 0) ++ (Builtin.zeroCells zv.cells (n' + 1)).toList ++ cs.toList.drop (o * z + 0 + (Builtin.zeroCells zv.cells (n' + 1)).toList.length)).toArray (k.es.take o) ?_ hcs (by simp; omega) (fun f hf => hB.len f (List.mem_of_mem_take hf)) ?_⟩
            · rw [ha, add_row]
              have hv : (zeroValue e).run P w = .ok zv w := by simp [zeroValue, typeInfo, hi, hzz]
              generalize (cs.toList.take (o * z + 0) ++ (Builtin.zeroCells zv.cells (n' + 1)).toList ++ cs.toList.drop (o * z + 0 + (Builtin.zeroCells zv.cells (n' + 1)).toList.length)).toArray = A at hst ⊢
              simp [Builtin.clear_, run_underlying hu, hv, hst]
            · rw [List.size_toArray, List.length_append, List.length_append, List.length_take, List.length_drop, Array.length_toList, hvl, hcs, hz]
              omega
            · intro i f hf q v hq
              rw [List.getElem?_take] at hf
              split at hf
              · rename_i hio
                obtain ⟨u, hu2, h3, h4⟩ := hB.rd i f hf q v hq
                refine ⟨u, ?_, h3, h4⟩
                rw [ha, add_row, cell_of_row _ _ _ _ _ _ hg] at hu2
                have hfl : f.length = k.sz := hB.len f (List.mem_of_getElem? hf)
                have hqf : q < k.sz := by rw [← hfl]; exact (List.getElem?_eq_some_iff.1 hq).1
                have hlt : i * k.sz + q < o * k.sz := by
                  have : (i + 1) * k.sz ≤ o * k.sz := Nat.mul_le_mul_right _ (by omega)
                  rw [Nat.add_mul] at this
                  omega
                simp only [List.getElem?_toArray, Nat.add_zero, List.append_assoc, hz]
                rw [List.getElem?_append_left (by rw [List.length_take, Array.length_toList, hcs]; omega), List.getElem?_take_of_lt hlt]
                simpa using hu2
              · cases hf
end

section
variable {P : Program} {B : Nat} {w0 : World} {X : Nat → Prop} {N K : Nat} {E : Mu} {τ : Tm} {σ : Sto} {M : Nat}
theorem aOps_pre {ops : Array Oper} {Qc : Exit → Act → World → Prop} {KK : Tm → Sto → Nat → Prop} (rest : List Oper) : ∀ (l : List Oper) (τ : Tm) (σ : Sto) (M : Nat) (a : Act) (w : World) (μ : Mu), HS B w0 X N K E τ σ M a w μ → (∀ o ∈ l, ∀ d, o.dst = some d → d < N) →
    aOps P (ops.toList.map (·.dst)) l KK τ σ M → (∀ τ' σ' M' a' w' μ', KK τ' σ' M' → HS B w0 X N K E τ' σ' M' a' w' μ' → wpList P ops Qc rest a' w') → wpList P ops Qc (l ++ rest) a w
  | [], τ, σ, M, a, w, μ, h, _, hk, hq => hq _ _ _ _ _ _ hk h
  | o :: l, τ, σ, M, a, w, μ, h, hd, hk, hq => by
    refine wpList_step fun KC hKC => ?_
    have hdo := hd o (by simp)
    have ih := fun τ σ M a w μ h hk => hKC a w (aOps_pre rest l τ σ M a w μ h (fun o ho => hd o (by simp [ho])) hk hq)
    simp only [aOps] at hk
    split at hk <;> try (exact hk.elim)
    · rename_i hg
      rw [if_pos (gdA_ok h hg)]
      split at hk
      · rename_i x args hc
        obtain ⟨c, hop, hcal, hargs⟩ := callOf_ok hc
        split at hk <;> try (exact hk.elim)
        rename_i f caps hf
        have hx := ev_rel h.tm x
        rw [hf] at hx
        simp only [VRel] at hx
        obtain ⟨cs, hx, hcs⟩ := hx
        have hrun : (execOp a.eval o).run P w = .ok (.enter f (args.map a.eval ++ cs).toArray) w := by
          simp only [execOp, hop, resolve, hcal, hx, Deferred.ofValue, Sem.run_bind, Sem.run_pure, Result.andThen_ok, invoke]
          rw [hk.1]
          have e : (#[] ++ c.args.map a.eval ++ cs.toArray : Array Value) = (args.map a.eval ++ cs).toArray := by
            apply Array.toList_inj.1
            simp [← hargs]
          rw [e]
        unfold Oper.wp
        rw [hrun, Oper.upon_enter]
        refine (hk.2 B w0 X μ w (args.map a.eval ++ cs) h.rel (h.fre _ (Nat.le_refl _)) (h.fre _ (by omega)) ((evs_rel h.tm args).append hcs)).mono ?_
        rintro e w' ⟨r, δ, μ', v', rfl, hR, hv, hrel, hsub, hold⟩
        have hk' := h.kM
        exact ih _ _ _ _ _ μ' (h.step hv hrel hsub (fun b hb => hold b (by omega) (by omega)) (fun b hb => (hold b (by omega) (by omega)).trans (h.fre b (by omega))) (by omega) hdo) hR
      · split at hk <;> try (exact hk.elim)
        rename_i v σ' M' hf
        obtain ⟨nx, u, w', μ', hrun, hnx, ha⟩ := fOp_ok h.rel (h.fre _ (Nat.le_refl _)) h.tm hf
        unfold Oper.wp
        rw [hrun]
        rcases hnx with rfl | ⟨rfl, rfl⟩
        · rw [Oper.upon_value]
          exact ih _ _ _ _ _ μ' (h.put ha hdo) hk
        · rw [Oper.upon_skip]
          exact ih _ _ _ _ _ μ' (h.put ha hdo) hk
    · rename_i hg
      have hw := gdA_ok h hg
      rw [if_neg (by rw [hw]; simp)]
      exact ih _ _ _ _ _ μ (h.put (After.same h.rel (by simp [VRel])) hdo) hk

/-- What is cleared is forgotten. -/
def Forgets (P : Program) (t : TypeId) (x : Operand) (Q : Tm → Sto → Nat → Prop) (τ : Tm) (σ : Sto) (M : Nat) : Prop :=
  ∃ (b o n z by_ : Nat) (cap : Option Nat) (k : Blk) (e : TypeId), ev τ x = .sl b o n cap z ∧ σ b = some k ∧ k.rw = true ∧ elX P t = some (e, z, by_) ∧ z = k.sz ∧ o + n ≤ k.es.length ∧ Q τ (upd σ b { k with es := k.es.take o }) M
theorem AWP.clear {id : Nat} {pre : List Oper} {ops : Array Oper} {x : Operand} {t ty : TypeId} {pos : String} {aft : Array Edge} {Q : Exit → Tm → Sto → Nat → Prop}
    (hops : ops.toList = pre ++ [⟨none, .call ⟨.builtin .clear, #[x], #[t]⟩, ty, pos, aft, none⟩])
    (hd : (pre.all fun o => match o.dst with | some d => decide (d < N) | none => true) = true)
    (h : ∀ KK : Tm → Sto → Nat → Prop, (∀ τ' σ' M', Forgets P t x (Q .normal) τ' σ' M' → KK τ' σ' M') → aOps P (ops.toList.map (·.dst)) pre KK τ σ M) : AWP P N K (.region id ops false) Q τ σ M := by
  intro B w0 X E a w μ hs
  refine wp_region_list ?_
  rw [hops]
  refine aOps_pre _ pre τ σ M a w μ hs (fun o ho d hdd => ?_) (h _ fun _ _ _ h => h) fun τ' σ' M' a' w' μ' hq hs' => ?_
  · have := List.all_eq_true.1 hd o ho
    rw [hdd] at this
    simpa using this
  · obtain ⟨b, o, n, z, by_, cap, k, e, h1, h2, h3, h4, h5, h6, h7⟩ := hq
    have hx := ev_rel hs'.tm x
    rw [h1] at hx
    obtain ⟨w2, hrun, hrel⟩ := clear_ok (ty := ty) hs'.rel hx h2 h3 h4 h5 h6
    refine wpList_step fun KC hKC => ?_
    rw [if_pos (by simp [Region.wanted])]
    unfold Oper.wp
    have hexec : (execOp a'.eval ⟨none, .call ⟨.builtin .clear, #[x], #[t]⟩, ty, pos, aft, none⟩).run P w' = .ok (.value (.tuple #[])) w2 := by
      simp only [execOp, resolve, Sem.run_bind, Sem.run_pure, Result.andThen_ok, invoke]
      simp [builtin, hrun]
    rw [hexec, Oper.upon_value]
    refine hKC _ _ (wpList_nil ⟨τ', _, M', μ', h7, ?_⟩)
    exact ⟨hs'.dfr, hs'.siz, hrel, hs'.fre, hs'.ext, hs'.tm, hs'.kM⟩
end
end Go.Proofs.Ytgaiemhbllbaiaa
