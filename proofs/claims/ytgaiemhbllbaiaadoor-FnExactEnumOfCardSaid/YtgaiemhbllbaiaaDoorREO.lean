/- The tied card of the law of EnumOf, for all arguments: it answers true, and the argument reads as before. The condition: the two tables of math/bits read as the card lists them when the call begins, which the card ties to the program's text. -/
import Derived.Test.YtgaiemhbllbaiaaDoorEF
import Derived.Test.YtgaiemhbllbaiaaDoorLXEO
import Derived.Test.YtgaiemhbllbaiaaDoorRows
import Derived.Test.YtgaiemhbllbaiaaDoorCards
import Derived.Test.YtgaiemhbllbaiaaDoorTie
import Derived.LaidMore
import Derived.LaidHandle
import Derived.Lib.LaidTab
import Derived.SevenTiedAt
set_option linter.unusedSimpArgs false
set_option linter.unusedVariables false
namespace Go.Proofs.YtgaiemhbllbaiaaDoor
open Go Go.RowKit Go.ChangeShapes Go.WideShapes Go.ChangeAt Go.Deep Go.ChangeMaps

theorem gT32 : Tryd.prog.globalNamed "math/bits.deBruijn32tab" = some 0 := by kernel_rfl
theorem gT64 : Tryd.prog.globalNamed "math/bits.deBruijn64tab" = some 1 := by kernel_rfl
def zs64 : List Int := [0, 1, 56, 2, 57, 49, 28, 3, 61, 58, 42, 50, 38, 29, 17, 4, 62, 47, 59, 36, 45, 43, 51, 22, 53, 39, 33, 30, 24, 18, 12, 5, 63, 55, 48, 27, 60, 41, 37, 16, 46, 35, 44, 21, 52, 32, 23, 11, 54, 26, 40, 15, 34, 20, 31, 10, 25, 14, 19, 9, 13, 8, 7, 6]
theorem u_arr : Tryd.prog.underlying 64 = some (.array 64 5) := by kernel_rfl
theorem u_u8 : Tryd.prog.underlying 5 = some (.int .u8) := by kernel_rfl
theorem tT64 : (Tryd.prog.globals[1]?).map (·.type) = some 64 := by kernel_rfl
theorem c_u8 : Tryd.prog.cellsOf 5 = 1 := by kernel_rfl
theorem c_arr : Tryd.prog.cellsOf 64 = 64 := by kernel_rfl

/-- What the condition on the tables gives the walk. -/
theorem tab_of_laid {W : World} (h : laidMetH Tryd.prog Rows.fnExactEnumOfRow.laid W) : TabOk 1 tzT W := by
  rw [MakeChecks.laidMetH_plain _ _ _ (by kernel_rfl)] at h
  obtain ⟨ps, ⟨g0, t0, cs0, f0, p0, q0, hg0, ht0, hv0, hd0, ⟨g1, t1, cs1, f1, p1, q1, hg1, ht1, hv1, hd1, _, _⟩, _⟩, _, _⟩ := h
  obtain rfl := Option.some.inj (gT64.symm.trans hg1)
  obtain rfl := Option.some.inj (tT64.symm.trans ht1)
  have hcs : cs1.toList = zs64.map fun z => Value.int .u8 z := Lib.cells_of_tab u_arr u_u8 c_u8 c_arr (zs := zs64) (k := .u8) (show DataW.trod _ Tryd.prog W 0 _ false f1 _ cs1.toList = some (Lib.tabData .u8 zs64, p1) from hd1)
  have hT : Lib.TabIs Tryd.prog W "math/bits.deBruijn64tab" .u8 zs64 := by
    unfold Lib.TabIs
    rw [hv1]
    congr 1
    exact Array.toList_inj.1 (by simpa using hcs)
  intro p hp
  have hall : ∀ p ∈ tzT, p.1 < zs64.length ∧ p.2 = .int .u8 (zs64.getD p.1 0) := by
    intro p hp
    simp only [List.mem_cons, List.not_mem_nil, or_false] at hp
    rcases hp with rfl | rfl | rfl | rfl | rfl | rfl | rfl | rfl | rfl | rfl | rfl | rfl <;> exact ⟨by decide, rfl⟩
  obtain ⟨h1, h2⟩ := hall p hp
  rw [h2]
  exact hT.cell gT64 p.1 h1

/-- The run of the initialisers leaves a state in which the condition holds. -/
theorem door_met (os : Os) (args : Array Value) : laidMetH Tryd.prog Rows.fnExactEnumOfRow.laid ((World.doorLaid Tryd.prog 400 os).forCall (fun _ _ => 0) ⟨#[], args, []⟩).memory :=
  laidMetH_of_parts3 (fuel := 8) (laidMet_of_run' 8 (by kernel_rfl) (by kernel_rfl)) (by kernel_rfl) (by kernel_rfl)

set_option maxRecDepth 100000 in
theorem exactEo_lifted (os : Os) (started : os.Started) (H : Type) (enc : TypeId × Value → H) :
    ReturnsInHanded {} Tryd.checked os 3 .any (fun w args => (Rows.fnExactEnumOfSpec.pre enc Tryd.prog Tryd.f3 [] false w args ∧ laidMetH Tryd.prog Rows.fnExactEnumOfRow.laid w) ∧ sizedMet enc Tryd.prog Tryd.f3 (OpenSpec.ofChange Rows.fnExactEnumOfSpec) false w args)
      (Rows.fnExactEnumOfSpec.post enc Tryd.prog Tryd.f3 false true false false) := by
  refine returnsInHanded_of_change_and (C := Tryd.checked) (X := fun w _ => laidMetH Tryd.prog Rows.fnExactEnumOfRow.laid w) (fun _ _ _ hh h => h.of_heap hh) own started (by kernel_rfl) Tryd.func3
    (ChangeSpec.witness_shaped (enc := enc) (C := Tryd.checked) (os := os) (X := fun w _ => laidMetH Tryd.prog Rows.fnExactEnumOfRow.laid w) false (World.doorLaid Tryd.prog 400 os) #[.agg #[.slice none 0 0, .int .i64 0]] 8 rfl (World.shaped_of_RefB (by kernel_rfl) (by kernel_rfl)) (by kernel_rfl) (by kernel_rfl) (by kernel_rfl) (door_met os _)) ?_
  intro W base args ds gs before hval0 hW _ _ hL _
  have hval : ∀ (j : Nat) t v, Tryd.f3.params[j]? = some t → args[j]? = some v → Value.okWide Tryd.prog W .any base t v := hval0
  have hW' : DataW.Whole enc Tryd.prog Tryd.f3.params.toList Rows.fnExactEnumOfSpec.vars false W args.toList ds gs before := hW
  obtain ⟨p, q, hA0, hV, rfl, hfz, hnd⟩ := hW
  have hA : DataW.TrodAll enc Tryd.prog W 0 (fun _ => true) true Tryd.f3.params.toList args.toList ds p := hA0
  rw [Tryd.params3] at hA hval
  obtain ⟨v0, d0, rfl, rfl, h0⟩ := trodAll_one hA
  obtain ⟨c0, bd0, rfl, hr0, hbd0⟩ := open_lFlag (hval 0 _ _ rfl rfl) h0
  obtain ⟨μ0, σ0, x0, l0, hO0, hS0, hV0, hx0, hs0, hl0, hz0, hw0⟩ := (Opn.start W).defs u_str u_int hr0
  have htab := tab_of_laid hL
  have hlt : 1 < W.heap.size := World.block_lt_of_cell? _ _ (htab (0, .int .u8 0) (by simp))
  have hcall := @Opn.callsS (tabSide 1 tzT) _ _ _ _ _ hO0 ⟨hlt, fun h => h, htab⟩ _ _ (@exactEo_c (tabSide 1 tzT) (fun _ _ _ h => h) σ0 _ x0 l0 bd0 hs0 hl0 hz0 hw0 hbd0) (vs := [.agg #[c0, .int .i64 bd0]]) (vr_cons (vr_agg (vr_cons hx0 (vr_cons (vr_v _) vr_nil))) vr_nil)
  exact hcall.mono fun e W' ⟨he, hb⟩ => ⟨_, he, law_post laidOut (by intro t ht; revert t; decide) rfl u_bool rfl rfl hW' hb⟩

theorem exactEo_row : Rows.FnExactEnumOfSaid :=
  OpenClaim.holds_of_wide 3 Tryd.f3 rfl rfl rfl rfl rfl rfl rfl ⟨rfl, rfl, rfl, rfl, rfl⟩ rfl rfl rfl rfl rfl (by kernel_rfl) Tryd.func3 (by kernel_rfl)
    (of_decide_eq_true (by kernel_rfl)) (by unfold Func.isWrapper; first | (rw [if_pos (by decide +kernel)]; kernel_rfl) | (rw [if_neg (by decide +kernel)]; exact ⟨rfl, rfl⟩))
    (fun os started H enc _ => exactEo_lifted os started H enc)

theorem exactEo_holds : Rows.FnExactEnumOfCardSaid :=
  Claim7.holds_tied_plain_at .later [] [.data, .data] true (true, "a329b688e286b5eb1d2589619f40dd88e23aae00912569de3e65984a42fcc5c3") false
    exactEo_row (fun _ h => by cases h) (by kernel_rfl) (fun _ h => by cases h) fnExactEnumOf_row_tie rfl ⟨rfl, rfl⟩ (by kernel_rfl) rfl
    (fun f fn hf hfn => by
      obtain rfl : f = 3 := Option.some.inj ((show Tryd.prog.funcNamed "loop.example/namedflags/laws.FnExactEnumOf" = some 3 by kernel_rfl).symm.trans hf) |>.symm
      obtain rfl : fn = Tryd.f3 := (Option.some.inj (Tryd.func3.symm.trans hfn)).symm
      exact ⟨by kernel_rfl, fun j t ht => by
        rw [Tryd.params3] at ht
        have hm : t ∈ [24] := by simpa using Array.mem_of_getElem? ht
        have hall : ([24].all fun u => !Tryd.prog.wantsStandIn u) = true := by kernel_rfl
        exact (show Tryd.prog.wantsStandIn t = false by simpa using List.all_eq_true.1 hall t hm)⟩)
    (by kernel_rfl)
end Go.Proofs.YtgaiemhbllbaiaaDoor
