/- Plain facts: members and the names of their own value are all names. No condition but that the enumeration is valid. -/
import Derived.Test.YtgaiemhbllbaiaaCE4
set_option linter.unusedSimpArgs false
set_option linter.unusedVariables false
namespace Go.Proofs.Ytgaiemhbllbaiaa
open Go Go.RowKit

def oth (ds : List Df) (d : Df) : List ByteArray := nmF (fun e => decide (e.2 = d.2) && !decide (e.1 = d.1)) ds
theorem nmF_true (ds : List Df) : nmF (fun _ => true) ds = ds.map (·.1) := by
  have : ds.filter (fun _ => true) = ds := List.filter_eq_self.2 (by simp)
  simp only [nmF, this]
/-- The names of a valid enumeration differ. -/
theorem ok_names {lo hi : Int} {ds : List Df} (h : okDs lo hi ds = true) : ds.Pairwise fun a b => a.1 ≠ b.1 := by
  rw [List.pairwise_iff_getElem]
  intro i j hi' hj hij e
  have := (okDs_at h hj).2.2.2
  rw [nameIx_neg] at this
  exact this _ (List.mem_take_iff_getElem.2 ⟨i, by omega, rfl⟩) e
theorem pw_eq {α β : Type} {f : α → β} {l : List α} (h : l.Pairwise fun a b => f a ≠ f b) {x y : α} (hx : x ∈ l) (hy : y ∈ l) (e : f x = f y) : x = y := by
  obtain ⟨i, hi, rfl⟩ := List.mem_iff_getElem.1 hx
  obtain ⟨j, hj, rfl⟩ := List.mem_iff_getElem.1 hy
  rw [List.pairwise_iff_getElem] at h
  have : i = j := by
    rcases Nat.lt_trichotomy i j with h1 | h1 | h1
    · exact absurd e (h _ _ hi hj h1)
    · exact h1
    · exact absurd e.symm (h _ _ hj hi h1)
  subst this; rfl
theorem memF_first (ds : List Df) : ∀ d ∈ memF ds, ∃ i : Nat, ∃ h : i < ds.length, ds[i] = d ∧ valueIx ds d.2 = i := by
  have key : ∀ k, k ≤ ds.length → ∀ d ∈ memF (ds.take k), ∃ i : Nat, ∃ h : i < ds.length, ds[i] = d ∧ valueIx ds d.2 = i := by
    intro k
    induction k with
    | zero => intro _ d hd; simp [memF] at hd
    | succ k ih =>
      intro h d hd
      rw [memF_take (by omega)] at hd
      unfold memStep at hd
      split at hd
      · rename_i hn
        rcases List.mem_append.1 hd with hd | hd
        · exact ih (by omega) d hd
        · have hd := List.mem_singleton.1 hd
          exact ⟨k, by omega, hd.symm, by rw [hd]; exact (mem_iff (by omega)).1 hn⟩
      · exact ih (by omega) d hd
  have := key ds.length (Nat.le_refl _)
  rwa [List.take_length] at this
theorem memF_pw (ds : List Df) : (memF ds).Pairwise fun a b => a.2 ≠ b.2 := by
  have key : ∀ k, k ≤ ds.length → (memF (ds.take k)).Pairwise fun a b => a.2 ≠ b.2 := by
    intro k
    induction k with
    | zero => intro _; simp [memF]
    | succ k ih =>
      intro h
      rw [memF_take (by omega)]
      unfold memStep
      split
      · rename_i hn
        rw [valueIx_neg] at hn
        rw [List.pairwise_append]
        exact ⟨ih (by omega), List.pairwise_singleton _ _, fun a ha b hb => by rw [List.mem_singleton.1 hb]; exact hn a ha⟩
      · exact ih (by omega)
  have := key ds.length (Nat.le_refl _)
  rwa [List.take_length] at this
theorem name_at {lo hi : Int} {ds : List Df} (h : okDs lo hi ds = true) {i : Nat} (hi' : i < ds.length) : nameIx ds ds[i].1 = i := by
  rcases nameIx_all ds ds[i].1 with ⟨_, h2⟩ | ⟨j, hj, h1, h2, h3⟩
  · exact absurd rfl (h2 _ (List.getElem_mem hi'))
  · have hp := ok_names h
    rw [List.pairwise_iff_getElem] at hp
    have : j = i := by
      rcases Nat.lt_trichotomy j i with h4 | h4 | h4
      · exact absurd h2 (hp _ _ hj hi' h4)
      · exact h4
      · exact absurd rfl (h3 _ (List.mem_take_iff_getElem.2 ⟨i, by omega, rfl⟩))
    omega
theorem othO_mem {ds : List Df} (h : okDs (-1000) 1000 ds = true) {d : Df} (hd : d ∈ memF ds) : othO ds d.1 = some (oth ds d) := by
  obtain ⟨i, hi, rfl, hv⟩ := memF_first ds d hd
  simp only [othO, valO_yes h hi (name_at h hi), nameO_yes h hi hv, Option.getD_some, oth]
theorem count_name {l : List Df} (hp : l.Pairwise fun a b => a.1 ≠ b.1) {d : Df} (hd : d ∈ l) : l.countP (fun e => decide (e.2 = d.2) && decide (e.1 = d.1)) = 1 := by
  induction l with
  | nil => simp at hd
  | cons a l ih =>
    obtain ⟨h1, h2⟩ := List.pairwise_cons.1 hp
    rcases List.mem_cons.1 hd with rfl | hd
    · have : l.countP (fun e => decide (e.2 = d.2) && decide (e.1 = d.1)) = 0 := by
        rw [List.countP_eq_zero]
        intro e he
        have := h1 e he
        simp
        intro _ h; exact this h.symm
      simp [this]
    · have := h1 d hd
      rw [List.countP_cons, ih h2 hd]
      simp [this]
theorem oth_len {ds : List Df} (h : okDs (-1000) 1000 ds = true) {d : Df} (hd : d ∈ memF ds) : 1 + (oth ds d).length = ds.countP fun e => decide (e.2 = d.2) := by
  have h1 := count_name (ok_names h) (memF_sub ds d hd)
  have h2 : (oth ds d).length = ds.countP (fun e => decide (e.2 = d.2) && !decide (e.1 = d.1)) := by rw [oth, nmF, List.length_map, List.countP_eq_length_filter]
  have h3 : ∀ l : List Df, l.countP (fun e => decide (e.2 = d.2)) = l.countP (fun e => decide (e.2 = d.2) && decide (e.1 = d.1)) + l.countP (fun e => decide (e.2 = d.2) && !decide (e.1 = d.1)) := by
    intro l
    induction l with
    | nil => rfl
    | cons a l ih =>
      rw [List.countP_cons, List.countP_cons, List.countP_cons, ih]
      by_cases a2 : a.2 = d.2 <;> by_cases a1 : a.1 = d.1 <;> simp [a1, a2] <;> omega
  rw [h2, h3, h1]
theorem sum_one {M : List Df} (hp : M.Pairwise fun a b => a.2 ≠ b.2) (n : Int) : (M.map fun m => if n = m.2 then 1 else 0).sum = if ∃ m ∈ M, n = m.2 then 1 else 0 := by
  induction M with
  | nil => simp
  | cons a M ih =>
    obtain ⟨h1, h2⟩ := List.pairwise_cons.1 hp
    rw [List.map_cons, List.sum_cons, ih h2]
    by_cases e : n = a.2
    · have : ¬ ∃ m ∈ M, n = m.2 := by
        rintro ⟨m, hm, h3⟩
        exact h1 m hm (e ▸ h3)
      rw [if_pos e, if_neg this, if_pos ⟨a, List.mem_cons_self, e⟩]
    · simp only [if_neg e, Nat.zero_add, List.mem_cons, exists_eq_or_imp, e, false_or, if_false, Nat.zero_add]
theorem sum_add {α : Type} (f g : α → Nat) (l : List α) : (l.map fun m => f m + g m).sum = (l.map f).sum + (l.map g).sum := by
  induction l with
  | nil => rfl
  | cons a l ih => simp only [List.map_cons, List.sum_cons, ih]; omega
theorem sum_count {M : List Df} (hp : M.Pairwise fun a b => a.2 ≠ b.2) : ∀ l : List Df, (∀ e ∈ l, ∃ m ∈ M, e.2 = m.2) → (M.map fun m => l.countP fun e => decide (e.2 = m.2)).sum = l.length := by
  intro l
  induction l with
  | nil =>
    intro hh
    simp only [List.countP_nil, List.length_nil]
    clear hp hh
    induction M with
    | nil => rfl
    | cons a M ih => rw [List.map_cons, List.sum_cons, ih]
  | cons e l ih =>
    intro h
    have : (fun m : Df => (e :: l).countP fun e => decide (e.2 = m.2)) = fun m => (l.countP fun e => decide (e.2 = m.2)) + (if e.2 = m.2 then 1 else 0) := by
      funext m
      rw [List.countP_cons]
      by_cases h : e.2 = m.2 <;> simp [h]
    rw [this, sum_add, ih (fun x hx => h x (List.mem_cons_of_mem _ hx)), sum_one hp, if_pos (h e List.mem_cons_self)]
    rfl
def othN (ds : List Df) (k : Nat) : Nat := (((memF ds).take k).map fun d => (oth ds d).length).sum
theorem othN_succ {ds : List Df} {k : Nat} (h : k < (memF ds).length) : othN ds (k + 1) = othN ds k + (oth ds (memF ds)[k]).length := by
  unfold othN
  rw [List.take_succ_eq_append_getElem h, List.map_append, List.sum_append]
  simp
theorem othN_all {ds : List Df} (h : okDs (-1000) 1000 ds = true) : (memF ds).length + othN ds (memF ds).length = ds.length := by
  have h1 := sum_count (memF_pw ds) ds (fun e he => by
    obtain ⟨d, hd, h2⟩ := (memF_val ds e.2).2 ⟨e, he, rfl⟩
    exact ⟨d, hd, h2.symm⟩)
  rw [← h1]
  unfold othN
  rw [List.take_length]
  have h2 : (memF ds).map (fun m => ds.countP fun e => decide (e.2 = m.2)) = (memF ds).map fun d => 1 + (oth ds d).length := List.map_congr_left fun d hd => (oth_len h hd).symm
  rw [h2, sum_add]
  have : ∀ l : List Df, (l.map fun _ => 1).sum = l.length := by
    intro l; induction l with
    | nil => rfl
    | cons a l ih => simp [ih, Nat.add_comm]
  rw [this]
theorem othN_mono (ds : List Df) {i j : Nat} (hij : i ≤ j) (hj : j ≤ (memF ds).length) : othN ds i ≤ othN ds j := by
  induction j with
  | zero => have : i = 0 := by omega
            subst this; exact Nat.le_refl _
  | succ j ih =>
    rcases Nat.lt_or_ge j i with h | h
    · have : i = j + 1 := by omega
      subst this; exact Nat.le_refl _
    · have := ih h (by omega)
      rw [othN_succ (by omega)]
      omega
/-- No other name of a member's value is a member's name. -/
theorem oth_not {ds : List Df} (h : okDs (-1000) 1000 ds = true) {d : Df} (hd : d ∈ memF ds) {t : ByteArray} (ht : t ∈ oth ds d) : hasF (nmF (fun _ => true) (memF ds)) t = false := by
  rw [hasF_false, nmF_true]
  intro hq
  obtain ⟨m, hm, rfl⟩ := List.mem_map.1 hq
  simp only [oth, nmF, List.mem_map, List.mem_filter, Bool.and_eq_true, decide_eq_true_eq, Bool.not_eq_true', decide_eq_false_iff_not] at ht
  obtain ⟨e, ⟨he, h1, h2⟩, h3⟩ := ht
  have e1 := pw_eq (ok_names h) he (memF_sub ds m hm) h3
  subst e1
  have e2 := pw_eq (f := fun x : Df => x.2) (memF_pw ds) hm hd h1
  exact h2 (by rw [e2])
end Go.Proofs.Ytgaiemhbllbaiaa
