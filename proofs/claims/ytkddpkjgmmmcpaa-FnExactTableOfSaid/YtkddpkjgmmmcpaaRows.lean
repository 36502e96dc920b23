/-
  No cell of these rows narrows 'for every input' (looked for: loops, veiled, ifaces, maps, wideKeys, modest, calm, conditions, laid).
  DERIVED. THE GIVEN ROWS OF THIS SEAT. 12 by the template 'for every input the law returns true; each argument reads behind the call as it read before'; 0 by the template 'total and deterministic' (their statements: YtkddpkjgmmmcpaaTotals.lean).
  GIVEN WITH THE SEED: the statements are not yours to turn. If you find one false, say at which input.
  Laid BY PROGRAM, IN A SANDBOX (cutbox-rows.mjs): the forced cells as the released guide's own fill.sh prints them over the translation 071474cbf32059e1… (all of the seat's roots in one cut). By AI agents, Wed Nov 11 2026. No macro, syntax, notation, axiom, sorry.
-/
import Derived.Test.YtkddpkjgmmmcpaaChecked
import GoSem.Claim
import GoSem.ClaimJoined
import GoSem.ClaimMapViews
import Derived.JoinedTies
import Derived.KernelRfl
namespace Go.Proofs.Ytkddpkjgmmmcpaa
/- THE CELL 'sum', in the pinned program and in every row, IS THE sha256 OF THE DUMP (.gsa) THAT YtkddpkjgmmmcpaaProg.lean LOADS. Nothing in Lean hashes anything: it is a label: what it is worth is what the hold of that sum in a sandbox is worth. -/
noncomputable def Try.pinned : Pinned := { name := "ytkddpkjgmmmcpaa", sum := "071474cbf32059e19d118e3f284f0cf823a50be5ed6d6cc61fca4f3df40a5846", checked := Try.checked }
namespace Rows
def none {H : Type} : Left H := { results := [], args := [] }

/-- 'laws.FnExactLookUp': WHATEVER THE INPUT: true; the input reads as it did. -/
def fnExactLookUpSpec : ChangeSpec := { name := "fnExactLookUp", fn := fun _ => fun
  | [d1, d2, d3] => { results := [.lit (.bool true)], args := [d1, d2, d3] }
  | _ => none }
def fnExactLookUpRow : OpenClaim := { program := "ytkddpkjgmmmcpaa", sum := "071474cbf32059e19d118e3f284f0cf823a50be5ed6d6cc61fca4f3df40a5846", func := "loop.example/namedflags/laws.FnExactLookUp", spec := "fnExactLookUp", unfollowed := true, recurses := true, apart := false }
def FnExactLookUpSaid : Prop := fnExactLookUpRow.holds Try.pinned (OpenSpec.ofChange fnExactLookUpSpec)

/-- ITS FALSE NEIGHBOUR: 'it returns false'. Refute it at one input. -/
def fnExactLookUpWrong : ChangeSpec := { name := "fnExactLookUp", fn := fun _ => fun
  | [d1, d2, d3] => { results := [.lit (.bool false)], args := [d1, d2, d3] }
  | _ => none }
def FnExactLookUpWrongFalsely : Prop := fnExactLookUpRow.holds Try.pinned (OpenSpec.ofChange fnExactLookUpWrong)

/-- 'laws.FnLookUp': WHATEVER THE INPUT: true; the input reads as it did. -/
def fnLookUpSpec : ChangeSpec := { name := "fnLookUp", fn := fun _ => fun
  | [d] => { results := [.lit (.bool true)], args := [d] }
  | _ => none }
def fnLookUpRow : OpenClaim := { program := "ytkddpkjgmmmcpaa", sum := "071474cbf32059e19d118e3f284f0cf823a50be5ed6d6cc61fca4f3df40a5846", func := "loop.example/namedflags/laws.FnLookUp", spec := "fnLookUp", unfollowed := true, recurses := true, apart := false }
def FnLookUpSaid : Prop := fnLookUpRow.holds Try.pinned (OpenSpec.ofChange fnLookUpSpec)

/-- ITS FALSE NEIGHBOUR: 'it returns false'. Refute it at one input. -/
def fnLookUpWrong : ChangeSpec := { name := "fnLookUp", fn := fun _ => fun
  | [d] => { results := [.lit (.bool false)], args := [d] }
  | _ => none }
def FnLookUpWrongFalsely : Prop := fnLookUpRow.holds Try.pinned (OpenSpec.ofChange fnLookUpWrong)

/-- 'laws.FnExactDropDef': WHATEVER THE INPUT: true; the input reads as it did. -/
def fnExactDropDefSpec : ChangeSpec := { name := "fnExactDropDef", fn := fun _ => fun
  | [d1, d2] => { results := [.lit (.bool true)], args := [d1, d2] }
  | _ => none }
def fnExactDropDefRow : OpenClaim := { program := "ytkddpkjgmmmcpaa", sum := "071474cbf32059e19d118e3f284f0cf823a50be5ed6d6cc61fca4f3df40a5846", func := "loop.example/namedflags/laws.FnExactDropDef", spec := "fnExactDropDef", unfollowed := true, recurses := true, apart := false }
def FnExactDropDefSaid : Prop := fnExactDropDefRow.holds Try.pinned (OpenSpec.ofChange fnExactDropDefSpec)

/-- ITS FALSE NEIGHBOUR: 'it returns false'. Refute it at one input. -/
def fnExactDropDefWrong : ChangeSpec := { name := "fnExactDropDef", fn := fun _ => fun
  | [d1, d2] => { results := [.lit (.bool false)], args := [d1, d2] }
  | _ => none }
def FnExactDropDefWrongFalsely : Prop := fnExactDropDefRow.holds Try.pinned (OpenSpec.ofChange fnExactDropDefWrong)

/-- 'laws.FnExactMembersOf': WHATEVER THE INPUT: true; the input reads as it did. -/
def fnExactMembersOfSpec : ChangeSpec := { name := "fnExactMembersOf", fn := fun _ => fun
  | [d] => { results := [.lit (.bool true)], args := [d] }
  | _ => none }
def fnExactMembersOfRow : OpenClaim := { program := "ytkddpkjgmmmcpaa", sum := "071474cbf32059e19d118e3f284f0cf823a50be5ed6d6cc61fca4f3df40a5846", func := "loop.example/namedflags/laws.FnExactMembersOf", spec := "fnExactMembersOf", unfollowed := true, recurses := true, apart := false }
def FnExactMembersOfSaid : Prop := fnExactMembersOfRow.holds Try.pinned (OpenSpec.ofChange fnExactMembersOfSpec)

/-- ITS FALSE NEIGHBOUR: 'it returns false'. Refute it at one input. -/
def fnExactMembersOfWrong : ChangeSpec := { name := "fnExactMembersOf", fn := fun _ => fun
  | [d] => { results := [.lit (.bool false)], args := [d] }
  | _ => none }
def FnExactMembersOfWrongFalsely : Prop := fnExactMembersOfRow.holds Try.pinned (OpenSpec.ofChange fnExactMembersOfWrong)

/-- 'laws.FnExactRenumber': WHATEVER THE INPUT: true; the input reads as it did. -/
def fnExactRenumberSpec : ChangeSpec := { name := "fnExactRenumber", fn := fun _ => fun
  | [d] => { results := [.lit (.bool true)], args := [d] }
  | _ => none }
def fnExactRenumberRow : OpenClaim := { program := "ytkddpkjgmmmcpaa", sum := "071474cbf32059e19d118e3f284f0cf823a50be5ed6d6cc61fca4f3df40a5846", func := "loop.example/namedflags/laws.FnExactRenumber", spec := "fnExactRenumber", unfollowed := true, recurses := true, apart := false }
def FnExactRenumberSaid : Prop := fnExactRenumberRow.holds Try.pinned (OpenSpec.ofChange fnExactRenumberSpec)

/-- ITS FALSE NEIGHBOUR: 'it returns false'. Refute it at one input. -/
def fnExactRenumberWrong : ChangeSpec := { name := "fnExactRenumber", fn := fun _ => fun
  | [d] => { results := [.lit (.bool false)], args := [d] }
  | _ => none }
def FnExactRenumberWrongFalsely : Prop := fnExactRenumberRow.holds Try.pinned (OpenSpec.ofChange fnExactRenumberWrong)

/-- 'laws.FnExactGapsOf': WHATEVER THE INPUT: true; the input reads as it did. -/
def fnExactGapsOfSpec : ChangeSpec := { name := "fnExactGapsOf", fn := fun _ => fun
  | [d] => { results := [.lit (.bool true)], args := [d] }
  | _ => none }
def fnExactGapsOfRow : OpenClaim := { program := "ytkddpkjgmmmcpaa", sum := "071474cbf32059e19d118e3f284f0cf823a50be5ed6d6cc61fca4f3df40a5846", func := "loop.example/namedflags/laws.FnExactGapsOf", spec := "fnExactGapsOf", unfollowed := true, recurses := true, apart := false }
def FnExactGapsOfSaid : Prop := fnExactGapsOfRow.holds Try.pinned (OpenSpec.ofChange fnExactGapsOfSpec)

/-- ITS FALSE NEIGHBOUR: 'it returns false'. Refute it at one input. -/
def fnExactGapsOfWrong : ChangeSpec := { name := "fnExactGapsOf", fn := fun _ => fun
  | [d] => { results := [.lit (.bool false)], args := [d] }
  | _ => none }
def FnExactGapsOfWrongFalsely : Prop := fnExactGapsOfRow.holds Try.pinned (OpenSpec.ofChange fnExactGapsOfWrong)

/-- 'laws.FnRevalue': WHATEVER THE INPUT: true; the input reads as it did. -/
def fnRevalueSpec : ChangeSpec := { name := "fnRevalue", fn := fun _ => fun
  | [d] => { results := [.lit (.bool true)], args := [d] }
  | _ => none }
def fnRevalueRow : OpenClaim := { program := "ytkddpkjgmmmcpaa", sum := "071474cbf32059e19d118e3f284f0cf823a50be5ed6d6cc61fca4f3df40a5846", func := "loop.example/namedflags/laws.FnRevalue", spec := "fnRevalue", unfollowed := true, recurses := true, apart := false }
def FnRevalueSaid : Prop := fnRevalueRow.holds Try.pinned (OpenSpec.ofChange fnRevalueSpec)

/-- ITS FALSE NEIGHBOUR: 'it returns false'. Refute it at one input. -/
def fnRevalueWrong : ChangeSpec := { name := "fnRevalue", fn := fun _ => fun
  | [d] => { results := [.lit (.bool false)], args := [d] }
  | _ => none }
def FnRevalueWrongFalsely : Prop := fnRevalueRow.holds Try.pinned (OpenSpec.ofChange fnRevalueWrong)

/-- 'laws.FnRenumber': WHATEVER THE INPUT: true; the input reads as it did. -/
def fnRenumberSpec : ChangeSpec := { name := "fnRenumber", fn := fun _ => fun
  | [d] => { results := [.lit (.bool true)], args := [d] }
  | _ => none }
def fnRenumberRow : OpenClaim := { program := "ytkddpkjgmmmcpaa", sum := "071474cbf32059e19d118e3f284f0cf823a50be5ed6d6cc61fca4f3df40a5846", func := "loop.example/namedflags/laws.FnRenumber", spec := "fnRenumber", unfollowed := true, recurses := true, apart := false }
def FnRenumberSaid : Prop := fnRenumberRow.holds Try.pinned (OpenSpec.ofChange fnRenumberSpec)

/-- ITS FALSE NEIGHBOUR: 'it returns false'. Refute it at one input. -/
def fnRenumberWrong : ChangeSpec := { name := "fnRenumber", fn := fun _ => fun
  | [d] => { results := [.lit (.bool false)], args := [d] }
  | _ => none }
def FnRenumberWrongFalsely : Prop := fnRenumberRow.holds Try.pinned (OpenSpec.ofChange fnRenumberWrong)

/-- 'laws.FnExactTableOf': WHATEVER THE INPUT: true; the input reads as it did. -/
def fnExactTableOfSpec : ChangeSpec := { name := "fnExactTableOf", fn := fun _ => fun
  | [d1, d2] => { results := [.lit (.bool true)], args := [d1, d2] }
  | _ => none }
def fnExactTableOfRow : OpenClaim := { program := "ytkddpkjgmmmcpaa", sum := "071474cbf32059e19d118e3f284f0cf823a50be5ed6d6cc61fca4f3df40a5846", func := "loop.example/namedflags/laws.FnExactTableOf", spec := "fnExactTableOf", unfollowed := true, recurses := true, apart := false }
def FnExactTableOfSaid : Prop := fnExactTableOfRow.holds Try.pinned (OpenSpec.ofChange fnExactTableOfSpec)

/-- ITS FALSE NEIGHBOUR: 'it returns false'. Refute it at one input. -/
def fnExactTableOfWrong : ChangeSpec := { name := "fnExactTableOf", fn := fun _ => fun
  | [d1, d2] => { results := [.lit (.bool false)], args := [d1, d2] }
  | _ => none }
def FnExactTableOfWrongFalsely : Prop := fnExactTableOfRow.holds Try.pinned (OpenSpec.ofChange fnExactTableOfWrong)

/-- 'laws.FnExactBuildEnum': WHATEVER THE INPUT: true; the input reads as it did. -/
def fnExactBuildEnumSpec : ChangeSpec := { name := "fnExactBuildEnum", fn := fun _ => fun
  | [d] => { results := [.lit (.bool true)], args := [d] }
  | _ => none }
def fnExactBuildEnumRow : OpenClaim := { program := "ytkddpkjgmmmcpaa", sum := "071474cbf32059e19d118e3f284f0cf823a50be5ed6d6cc61fca4f3df40a5846", func := "loop.example/namedflags/laws.FnExactBuildEnum", spec := "fnExactBuildEnum", unfollowed := true, recurses := true, apart := false }
def FnExactBuildEnumSaid : Prop := fnExactBuildEnumRow.holds Try.pinned (OpenSpec.ofChange fnExactBuildEnumSpec)

/-- ITS FALSE NEIGHBOUR: 'it returns false'. Refute it at one input. -/
def fnExactBuildEnumWrong : ChangeSpec := { name := "fnExactBuildEnum", fn := fun _ => fun
  | [d] => { results := [.lit (.bool false)], args := [d] }
  | _ => none }
def FnExactBuildEnumWrongFalsely : Prop := fnExactBuildEnumRow.holds Try.pinned (OpenSpec.ofChange fnExactBuildEnumWrong)

/-- 'laws.FnTableOf': WHATEVER THE INPUT: true; the input reads as it did. -/
def fnTableOfSpec : ChangeSpec := { name := "fnTableOf", fn := fun _ => fun
  | [d] => { results := [.lit (.bool true)], args := [d] }
  | _ => none }
def fnTableOfRow : OpenClaim := { program := "ytkddpkjgmmmcpaa", sum := "071474cbf32059e19d118e3f284f0cf823a50be5ed6d6cc61fca4f3df40a5846", func := "loop.example/namedflags/laws.FnTableOf", spec := "fnTableOf", unfollowed := true, recurses := true, apart := false }
def FnTableOfSaid : Prop := fnTableOfRow.holds Try.pinned (OpenSpec.ofChange fnTableOfSpec)

/-- ITS FALSE NEIGHBOUR: 'it returns false'. Refute it at one input. -/
def fnTableOfWrong : ChangeSpec := { name := "fnTableOf", fn := fun _ => fun
  | [d] => { results := [.lit (.bool false)], args := [d] }
  | _ => none }
def FnTableOfWrongFalsely : Prop := fnTableOfRow.holds Try.pinned (OpenSpec.ofChange fnTableOfWrong)

/-- 'laws.FnExactRevalue': WHATEVER THE INPUT: true; the input reads as it did. -/
def fnExactRevalueSpec : ChangeSpec := { name := "fnExactRevalue", fn := fun _ => fun
  | [d1, d2] => { results := [.lit (.bool true)], args := [d1, d2] }
  | _ => none }
def fnExactRevalueRow : OpenClaim := { program := "ytkddpkjgmmmcpaa", sum := "071474cbf32059e19d118e3f284f0cf823a50be5ed6d6cc61fca4f3df40a5846", func := "loop.example/namedflags/laws.FnExactRevalue", spec := "fnExactRevalue", unfollowed := true, recurses := true, apart := false }
def FnExactRevalueSaid : Prop := fnExactRevalueRow.holds Try.pinned (OpenSpec.ofChange fnExactRevalueSpec)

/-- ITS FALSE NEIGHBOUR: 'it returns false'. Refute it at one input. -/
def fnExactRevalueWrong : ChangeSpec := { name := "fnExactRevalue", fn := fun _ => fun
  | [d1, d2] => { results := [.lit (.bool false)], args := [d1, d2] }
  | _ => none }
def FnExactRevalueWrongFalsely : Prop := fnExactRevalueRow.holds Try.pinned (OpenSpec.ofChange fnExactRevalueWrong)

/- THE SECOND FORM. 'bulk': how many values and letters a reading holds, each counted each time it is reached (what is shared counts as often as it is met; a slice's spare places count too). A statement '..UptoSaid' is the law's where the arguments, and the package variables that the reading takes, are together of bulk at most 1048576: NARROWER than '..Said'. Prove '..Said' where nothing that the law and all that it calls make is longer than what came in: it says more and counts as full. Else prove '..UptoSaid'. A law counts once. -/
mutual
def uptoBulk {H : Type} : DataW H → Nat
  | .lit (.string bytes) => bytes.length + 1
  | .lit _ => 1
  | .nil => 1
  | .ptr d => uptoBulk d + 1
  | .slice elems spare => uptoBulkAll elems + uptoBulkAll spare + 1
  | .agg parts => uptoBulkAll parts + 1
  | .iface _ d => uptoBulk d + 1
  | .map entries => uptoBulkEntries entries + 1
  | .held _ => 1
def uptoBulkAll {H : Type} : List (DataW H) → Nat
  | [] => 0
  | d :: r => uptoBulk d + uptoBulkAll r
def uptoBulkEntries {H : Type} : List (Lit × DataW H) → Nat
  | [] => 0
  | x :: r => uptoBulkEntry x + uptoBulkEntries r
def uptoBulkEntry {H : Type} : Lit × DataW H → Nat
  | (.string bytes, d) => bytes.length + uptoBulk d + 1
  | (_, d) => uptoBulk d + 1
 end
def uptoSmall : (H : Type) → List (DataW H) → Bool := fun _ ds => decide (uptoBulkAll ds ≤ 1048576)
def OpenSpec.upto (s : _root_.Go.ChangeSpec) : _root_.Go.OpenSpec := { _root_.Go.OpenSpec.ofChange s with cond := some uptoSmall }

/-- 'laws.FnExactLookUp', WHERE WHAT IT READS IS OF BULK AT MOST 1048576: true; the input reads as it did. -/
def fnExactLookUpUptoRow : OpenClaim := { program := "ytkddpkjgmmmcpaa", sum := "071474cbf32059e19d118e3f284f0cf823a50be5ed6d6cc61fca4f3df40a5846", func := "loop.example/namedflags/laws.FnExactLookUp", spec := "fnExactLookUp", unfollowed := true, recurses := true, apart := false, narrowed := true }
def FnExactLookUpUptoSaid : Prop := fnExactLookUpUptoRow.holds Try.pinned (OpenSpec.upto fnExactLookUpSpec)

/-- 'laws.FnLookUp', WHERE WHAT IT READS IS OF BULK AT MOST 1048576: true; the input reads as it did. -/
def fnLookUpUptoRow : OpenClaim := { program := "ytkddpkjgmmmcpaa", sum := "071474cbf32059e19d118e3f284f0cf823a50be5ed6d6cc61fca4f3df40a5846", func := "loop.example/namedflags/laws.FnLookUp", spec := "fnLookUp", unfollowed := true, recurses := true, apart := false, narrowed := true }
def FnLookUpUptoSaid : Prop := fnLookUpUptoRow.holds Try.pinned (OpenSpec.upto fnLookUpSpec)

/-- 'laws.FnExactDropDef', WHERE WHAT IT READS IS OF BULK AT MOST 1048576: true; the input reads as it did. -/
def fnExactDropDefUptoRow : OpenClaim := { program := "ytkddpkjgmmmcpaa", sum := "071474cbf32059e19d118e3f284f0cf823a50be5ed6d6cc61fca4f3df40a5846", func := "loop.example/namedflags/laws.FnExactDropDef", spec := "fnExactDropDef", unfollowed := true, recurses := true, apart := false, narrowed := true }
def FnExactDropDefUptoSaid : Prop := fnExactDropDefUptoRow.holds Try.pinned (OpenSpec.upto fnExactDropDefSpec)

/-- 'laws.FnExactMembersOf', WHERE WHAT IT READS IS OF BULK AT MOST 1048576: true; the input reads as it did. -/
def fnExactMembersOfUptoRow : OpenClaim := { program := "ytkddpkjgmmmcpaa", sum := "071474cbf32059e19d118e3f284f0cf823a50be5ed6d6cc61fca4f3df40a5846", func := "loop.example/namedflags/laws.FnExactMembersOf", spec := "fnExactMembersOf", unfollowed := true, recurses := true, apart := false, narrowed := true }
def FnExactMembersOfUptoSaid : Prop := fnExactMembersOfUptoRow.holds Try.pinned (OpenSpec.upto fnExactMembersOfSpec)

/-- 'laws.FnExactRenumber', WHERE WHAT IT READS IS OF BULK AT MOST 1048576: true; the input reads as it did. -/
def fnExactRenumberUptoRow : OpenClaim := { program := "ytkddpkjgmmmcpaa", sum := "071474cbf32059e19d118e3f284f0cf823a50be5ed6d6cc61fca4f3df40a5846", func := "loop.example/namedflags/laws.FnExactRenumber", spec := "fnExactRenumber", unfollowed := true, recurses := true, apart := false, narrowed := true }
def FnExactRenumberUptoSaid : Prop := fnExactRenumberUptoRow.holds Try.pinned (OpenSpec.upto fnExactRenumberSpec)

/-- 'laws.FnExactGapsOf', WHERE WHAT IT READS IS OF BULK AT MOST 1048576: true; the input reads as it did. -/
def fnExactGapsOfUptoRow : OpenClaim := { program := "ytkddpkjgmmmcpaa", sum := "071474cbf32059e19d118e3f284f0cf823a50be5ed6d6cc61fca4f3df40a5846", func := "loop.example/namedflags/laws.FnExactGapsOf", spec := "fnExactGapsOf", unfollowed := true, recurses := true, apart := false, narrowed := true }
def FnExactGapsOfUptoSaid : Prop := fnExactGapsOfUptoRow.holds Try.pinned (OpenSpec.upto fnExactGapsOfSpec)

/-- 'laws.FnRevalue', WHERE WHAT IT READS IS OF BULK AT MOST 1048576: true; the input reads as it did. -/
def fnRevalueUptoRow : OpenClaim := { program := "ytkddpkjgmmmcpaa", sum := "071474cbf32059e19d118e3f284f0cf823a50be5ed6d6cc61fca4f3df40a5846", func := "loop.example/namedflags/laws.FnRevalue", spec := "fnRevalue", unfollowed := true, recurses := true, apart := false, narrowed := true }
def FnRevalueUptoSaid : Prop := fnRevalueUptoRow.holds Try.pinned (OpenSpec.upto fnRevalueSpec)

/-- 'laws.FnRenumber', WHERE WHAT IT READS IS OF BULK AT MOST 1048576: true; the input reads as it did. -/
def fnRenumberUptoRow : OpenClaim := { program := "ytkddpkjgmmmcpaa", sum := "071474cbf32059e19d118e3f284f0cf823a50be5ed6d6cc61fca4f3df40a5846", func := "loop.example/namedflags/laws.FnRenumber", spec := "fnRenumber", unfollowed := true, recurses := true, apart := false, narrowed := true }
def FnRenumberUptoSaid : Prop := fnRenumberUptoRow.holds Try.pinned (OpenSpec.upto fnRenumberSpec)

/-- 'laws.FnExactTableOf', WHERE WHAT IT READS IS OF BULK AT MOST 1048576: true; the input reads as it did. -/
def fnExactTableOfUptoRow : OpenClaim := { program := "ytkddpkjgmmmcpaa", sum := "071474cbf32059e19d118e3f284f0cf823a50be5ed6d6cc61fca4f3df40a5846", func := "loop.example/namedflags/laws.FnExactTableOf", spec := "fnExactTableOf", unfollowed := true, recurses := true, apart := false, narrowed := true }
def FnExactTableOfUptoSaid : Prop := fnExactTableOfUptoRow.holds Try.pinned (OpenSpec.upto fnExactTableOfSpec)

/-- 'laws.FnExactBuildEnum', WHERE WHAT IT READS IS OF BULK AT MOST 1048576: true; the input reads as it did. -/
def fnExactBuildEnumUptoRow : OpenClaim := { program := "ytkddpkjgmmmcpaa", sum := "071474cbf32059e19d118e3f284f0cf823a50be5ed6d6cc61fca4f3df40a5846", func := "loop.example/namedflags/laws.FnExactBuildEnum", spec := "fnExactBuildEnum", unfollowed := true, recurses := true, apart := false, narrowed := true }
def FnExactBuildEnumUptoSaid : Prop := fnExactBuildEnumUptoRow.holds Try.pinned (OpenSpec.upto fnExactBuildEnumSpec)

/-- 'laws.FnTableOf', WHERE WHAT IT READS IS OF BULK AT MOST 1048576: true; the input reads as it did. -/
def fnTableOfUptoRow : OpenClaim := { program := "ytkddpkjgmmmcpaa", sum := "071474cbf32059e19d118e3f284f0cf823a50be5ed6d6cc61fca4f3df40a5846", func := "loop.example/namedflags/laws.FnTableOf", spec := "fnTableOf", unfollowed := true, recurses := true, apart := false, narrowed := true }
def FnTableOfUptoSaid : Prop := fnTableOfUptoRow.holds Try.pinned (OpenSpec.upto fnTableOfSpec)

/-- 'laws.FnExactRevalue', WHERE WHAT IT READS IS OF BULK AT MOST 1048576: true; the input reads as it did. -/
def fnExactRevalueUptoRow : OpenClaim := { program := "ytkddpkjgmmmcpaa", sum := "071474cbf32059e19d118e3f284f0cf823a50be5ed6d6cc61fca4f3df40a5846", func := "loop.example/namedflags/laws.FnExactRevalue", spec := "fnExactRevalue", unfollowed := true, recurses := true, apart := false, narrowed := true }
def FnExactRevalueUptoSaid : Prop := fnExactRevalueUptoRow.holds Try.pinned (OpenSpec.upto fnExactRevalueSpec)

end Rows
end Go.Proofs.Ytkddpkjgmmmcpaa
