/-
  No cell of these rows narrows 'for every input' (looked for: loops, veiled, ifaces, maps, wideKeys, modest, calm, conditions, laid).
  DERIVED. THE GIVEN ROWS OF THIS SEAT. 12 by the template 'for every input the law returns true; each argument reads behind the call as it read before'; 0 by the template 'total and deterministic' (their statements: YthjjfdbkggiaeaaTotals.lean).
  GIVEN WITH THE SEED: the statements are not yours to turn. If you find one false, say at which input.
  Laid BY PROGRAM, IN A SANDBOX (cutbox-rows.mjs): the forced cells as the released guide's own fill.sh prints them over the translation 768fc08af84a433b… (all of the seat's roots in one cut). By AI agents, Wed Nov 11 2026. No macro, syntax, notation, axiom, sorry.
-/
import Derived.Test.YthjjfdbkggiaeaaChecked
import GoSem.Claim
import GoSem.ClaimJoined
import GoSem.ClaimMapViews
import Derived.JoinedTies
import Derived.KernelRfl
namespace Go.Proofs.Ythjjfdbkggiaeaa
/- THE CELL 'sum', in the pinned program and in every row, IS THE sha256 OF THE DUMP (.gsa) THAT YthjjfdbkggiaeaaProg.lean LOADS. Nothing in Lean hashes anything: it is a label: what it is worth is what the hold of that sum in a sandbox is worth. -/
noncomputable def Try.pinned : Pinned := { name := "ythjjfdbkggiaeaa", sum := "768fc08af84a433b1e7c55b9f404b5c294b658e365ec30f9ee1f58a92d8929c7", checked := Try.checked }
namespace Rows
def none {H : Type} : Left H := { results := [], args := [] }

/-- 'laws.FnReadsOld': WHATEVER THE INPUT: true; the input reads as it did. -/
def fnReadsOldSpec : ChangeSpec := { name := "fnReadsOld", fn := fun _ => fun
  | [d] => { results := [.lit (.bool true)], args := [d] }
  | _ => none }
def fnReadsOldRow : OpenClaim := { program := "ythjjfdbkggiaeaa", sum := "768fc08af84a433b1e7c55b9f404b5c294b658e365ec30f9ee1f58a92d8929c7", func := "loop.example/namedflags/laws.FnReadsOld", spec := "fnReadsOld", unfollowed := true, recurses := true, apart := false }
def FnReadsOldSaid : Prop := fnReadsOldRow.holds Try.pinned (OpenSpec.ofChange fnReadsOldSpec)

/-- ITS FALSE NEIGHBOUR: 'it returns false'. Refute it at one input. -/
def fnReadsOldWrong : ChangeSpec := { name := "fnReadsOld", fn := fun _ => fun
  | [d] => { results := [.lit (.bool false)], args := [d] }
  | _ => none }
def FnReadsOldWrongFalsely : Prop := fnReadsOldRow.holds Try.pinned (OpenSpec.ofChange fnReadsOldWrong)

/-- 'laws.FnExactRenameDef': WHATEVER THE INPUT: true; the input reads as it did. -/
def fnExactRenameDefSpec : ChangeSpec := { name := "fnExactRenameDef", fn := fun _ => fun
  | [d1, d2, d3] => { results := [.lit (.bool true)], args := [d1, d2, d3] }
  | _ => none }
def fnExactRenameDefRow : OpenClaim := { program := "ythjjfdbkggiaeaa", sum := "768fc08af84a433b1e7c55b9f404b5c294b658e365ec30f9ee1f58a92d8929c7", func := "loop.example/namedflags/laws.FnExactRenameDef", spec := "fnExactRenameDef", unfollowed := true, recurses := true, apart := false }
def FnExactRenameDefSaid : Prop := fnExactRenameDefRow.holds Try.pinned (OpenSpec.ofChange fnExactRenameDefSpec)

/-- ITS FALSE NEIGHBOUR: 'it returns false'. Refute it at one input. -/
def fnExactRenameDefWrong : ChangeSpec := { name := "fnExactRenameDef", fn := fun _ => fun
  | [d1, d2, d3] => { results := [.lit (.bool false)], args := [d1, d2, d3] }
  | _ => none }
def FnExactRenameDefWrongFalsely : Prop := fnExactRenameDefRow.holds Try.pinned (OpenSpec.ofChange fnExactRenameDefWrong)

/-- 'laws.FnAddDef': WHATEVER THE INPUT: true; the input reads as it did. -/
def fnAddDefSpec : ChangeSpec := { name := "fnAddDef", fn := fun _ => fun
  | [d] => { results := [.lit (.bool true)], args := [d] }
  | _ => none }
def fnAddDefRow : OpenClaim := { program := "ythjjfdbkggiaeaa", sum := "768fc08af84a433b1e7c55b9f404b5c294b658e365ec30f9ee1f58a92d8929c7", func := "loop.example/namedflags/laws.FnAddDef", spec := "fnAddDef", unfollowed := true, recurses := true, apart := false }
def FnAddDefSaid : Prop := fnAddDefRow.holds Try.pinned (OpenSpec.ofChange fnAddDefSpec)

/-- ITS FALSE NEIGHBOUR: 'it returns false'. Refute it at one input. -/
def fnAddDefWrong : ChangeSpec := { name := "fnAddDef", fn := fun _ => fun
  | [d] => { results := [.lit (.bool false)], args := [d] }
  | _ => none }
def FnAddDefWrongFalsely : Prop := fnAddDefRow.holds Try.pinned (OpenSpec.ofChange fnAddDefWrong)

/-- 'laws.FnDropDef': WHATEVER THE INPUT: true; the input reads as it did. -/
def fnDropDefSpec : ChangeSpec := { name := "fnDropDef", fn := fun _ => fun
  | [d] => { results := [.lit (.bool true)], args := [d] }
  | _ => none }
def fnDropDefRow : OpenClaim := { program := "ythjjfdbkggiaeaa", sum := "768fc08af84a433b1e7c55b9f404b5c294b658e365ec30f9ee1f58a92d8929c7", func := "loop.example/namedflags/laws.FnDropDef", spec := "fnDropDef", unfollowed := true, recurses := true, apart := false }
def FnDropDefSaid : Prop := fnDropDefRow.holds Try.pinned (OpenSpec.ofChange fnDropDefSpec)

/-- ITS FALSE NEIGHBOUR: 'it returns false'. Refute it at one input. -/
def fnDropDefWrong : ChangeSpec := { name := "fnDropDef", fn := fun _ => fun
  | [d] => { results := [.lit (.bool false)], args := [d] }
  | _ => none }
def FnDropDefWrongFalsely : Prop := fnDropDefRow.holds Try.pinned (OpenSpec.ofChange fnDropDefWrong)

/-- 'laws.FnMembersOf': WHATEVER THE INPUT: true; the input reads as it did. -/
def fnMembersOfSpec : ChangeSpec := { name := "fnMembersOf", fn := fun _ => fun
  | [d] => { results := [.lit (.bool true)], args := [d] }
  | _ => none }
def fnMembersOfRow : OpenClaim := { program := "ythjjfdbkggiaeaa", sum := "768fc08af84a433b1e7c55b9f404b5c294b658e365ec30f9ee1f58a92d8929c7", func := "loop.example/namedflags/laws.FnMembersOf", spec := "fnMembersOf", unfollowed := true, recurses := true, apart := false }
def FnMembersOfSaid : Prop := fnMembersOfRow.holds Try.pinned (OpenSpec.ofChange fnMembersOfSpec)

/-- ITS FALSE NEIGHBOUR: 'it returns false'. Refute it at one input. -/
def fnMembersOfWrong : ChangeSpec := { name := "fnMembersOf", fn := fun _ => fun
  | [d] => { results := [.lit (.bool false)], args := [d] }
  | _ => none }
def FnMembersOfWrongFalsely : Prop := fnMembersOfRow.holds Try.pinned (OpenSpec.ofChange fnMembersOfWrong)

/-- 'laws.FnGapsOf': WHATEVER THE INPUT: true; the input reads as it did. -/
def fnGapsOfSpec : ChangeSpec := { name := "fnGapsOf", fn := fun _ => fun
  | [d] => { results := [.lit (.bool true)], args := [d] }
  | _ => none }
def fnGapsOfRow : OpenClaim := { program := "ythjjfdbkggiaeaa", sum := "768fc08af84a433b1e7c55b9f404b5c294b658e365ec30f9ee1f58a92d8929c7", func := "loop.example/namedflags/laws.FnGapsOf", spec := "fnGapsOf", unfollowed := true, recurses := true, apart := false }
def FnGapsOfSaid : Prop := fnGapsOfRow.holds Try.pinned (OpenSpec.ofChange fnGapsOfSpec)

/-- ITS FALSE NEIGHBOUR: 'it returns false'. Refute it at one input. -/
def fnGapsOfWrong : ChangeSpec := { name := "fnGapsOf", fn := fun _ => fun
  | [d] => { results := [.lit (.bool false)], args := [d] }
  | _ => none }
def FnGapsOfWrongFalsely : Prop := fnGapsOfRow.holds Try.pinned (OpenSpec.ofChange fnGapsOfWrong)

/-- 'laws.FnBuildEnum': WHATEVER THE INPUT: true; the input reads as it did. -/
def fnBuildEnumSpec : ChangeSpec := { name := "fnBuildEnum", fn := fun _ => fun
  | [d] => { results := [.lit (.bool true)], args := [d] }
  | _ => none }
def fnBuildEnumRow : OpenClaim := { program := "ythjjfdbkggiaeaa", sum := "768fc08af84a433b1e7c55b9f404b5c294b658e365ec30f9ee1f58a92d8929c7", func := "loop.example/namedflags/laws.FnBuildEnum", spec := "fnBuildEnum", unfollowed := true, recurses := true, apart := false }
def FnBuildEnumSaid : Prop := fnBuildEnumRow.holds Try.pinned (OpenSpec.ofChange fnBuildEnumSpec)

/-- ITS FALSE NEIGHBOUR: 'it returns false'. Refute it at one input. -/
def fnBuildEnumWrong : ChangeSpec := { name := "fnBuildEnum", fn := fun _ => fun
  | [d] => { results := [.lit (.bool false)], args := [d] }
  | _ => none }
def FnBuildEnumWrongFalsely : Prop := fnBuildEnumRow.holds Try.pinned (OpenSpec.ofChange fnBuildEnumWrong)

/-- 'laws.FnBuildEnumAgain': WHATEVER THE INPUT: true; the input reads as it did. -/
def fnBuildEnumAgainSpec : ChangeSpec := { name := "fnBuildEnumAgain", fn := fun _ => fun
  | [d] => { results := [.lit (.bool true)], args := [d] }
  | _ => none }
def fnBuildEnumAgainRow : OpenClaim := { program := "ythjjfdbkggiaeaa", sum := "768fc08af84a433b1e7c55b9f404b5c294b658e365ec30f9ee1f58a92d8929c7", func := "loop.example/namedflags/laws.FnBuildEnumAgain", spec := "fnBuildEnumAgain", unfollowed := true, recurses := true, apart := false }
def FnBuildEnumAgainSaid : Prop := fnBuildEnumAgainRow.holds Try.pinned (OpenSpec.ofChange fnBuildEnumAgainSpec)

/-- ITS FALSE NEIGHBOUR: 'it returns false'. Refute it at one input. -/
def fnBuildEnumAgainWrong : ChangeSpec := { name := "fnBuildEnumAgain", fn := fun _ => fun
  | [d] => { results := [.lit (.bool false)], args := [d] }
  | _ => none }
def FnBuildEnumAgainWrongFalsely : Prop := fnBuildEnumAgainRow.holds Try.pinned (OpenSpec.ofChange fnBuildEnumAgainWrong)

/-- 'laws.FnNextMember': WHATEVER THE INPUT: true; the input reads as it did. -/
def fnNextMemberSpec : ChangeSpec := { name := "fnNextMember", fn := fun _ => fun
  | [d] => { results := [.lit (.bool true)], args := [d] }
  | _ => none }
def fnNextMemberRow : OpenClaim := { program := "ythjjfdbkggiaeaa", sum := "768fc08af84a433b1e7c55b9f404b5c294b658e365ec30f9ee1f58a92d8929c7", func := "loop.example/namedflags/laws.FnNextMember", spec := "fnNextMember", unfollowed := true, recurses := true, apart := false }
def FnNextMemberSaid : Prop := fnNextMemberRow.holds Try.pinned (OpenSpec.ofChange fnNextMemberSpec)

/-- ITS FALSE NEIGHBOUR: 'it returns false'. Refute it at one input. -/
def fnNextMemberWrong : ChangeSpec := { name := "fnNextMember", fn := fun _ => fun
  | [d] => { results := [.lit (.bool false)], args := [d] }
  | _ => none }
def FnNextMemberWrongFalsely : Prop := fnNextMemberRow.holds Try.pinned (OpenSpec.ofChange fnNextMemberWrong)

/-- 'laws.FnByValueOld': WHATEVER THE INPUT: true; the input reads as it did. -/
def fnByValueOldSpec : ChangeSpec := { name := "fnByValueOld", fn := fun _ => fun
  | [d] => { results := [.lit (.bool true)], args := [d] }
  | _ => none }
def fnByValueOldRow : OpenClaim := { program := "ythjjfdbkggiaeaa", sum := "768fc08af84a433b1e7c55b9f404b5c294b658e365ec30f9ee1f58a92d8929c7", func := "loop.example/namedflags/laws.FnByValueOld", spec := "fnByValueOld", unfollowed := true, recurses := true, apart := false }
def FnByValueOldSaid : Prop := fnByValueOldRow.holds Try.pinned (OpenSpec.ofChange fnByValueOldSpec)

/-- ITS FALSE NEIGHBOUR: 'it returns false'. Refute it at one input. -/
def fnByValueOldWrong : ChangeSpec := { name := "fnByValueOld", fn := fun _ => fun
  | [d] => { results := [.lit (.bool false)], args := [d] }
  | _ => none }
def FnByValueOldWrongFalsely : Prop := fnByValueOldRow.holds Try.pinned (OpenSpec.ofChange fnByValueOldWrong)

/-- 'laws.FnExactMergeEnums': WHATEVER THE INPUT: true; the input reads as it did. -/
def fnExactMergeEnumsSpec : ChangeSpec := { name := "fnExactMergeEnums", fn := fun _ => fun
  | [d1, d2] => { results := [.lit (.bool true)], args := [d1, d2] }
  | _ => none }
def fnExactMergeEnumsRow : OpenClaim := { program := "ythjjfdbkggiaeaa", sum := "768fc08af84a433b1e7c55b9f404b5c294b658e365ec30f9ee1f58a92d8929c7", func := "loop.example/namedflags/laws.FnExactMergeEnums", spec := "fnExactMergeEnums", unfollowed := true, recurses := true, apart := false }
def FnExactMergeEnumsSaid : Prop := fnExactMergeEnumsRow.holds Try.pinned (OpenSpec.ofChange fnExactMergeEnumsSpec)

/-- ITS FALSE NEIGHBOUR: 'it returns false'. Refute it at one input. -/
def fnExactMergeEnumsWrong : ChangeSpec := { name := "fnExactMergeEnums", fn := fun _ => fun
  | [d1, d2] => { results := [.lit (.bool false)], args := [d1, d2] }
  | _ => none }
def FnExactMergeEnumsWrongFalsely : Prop := fnExactMergeEnumsRow.holds Try.pinned (OpenSpec.ofChange fnExactMergeEnumsWrong)

/-- 'laws.FnExactOtherNames': WHATEVER THE INPUT: true; the input reads as it did. -/
def fnExactOtherNamesSpec : ChangeSpec := { name := "fnExactOtherNames", fn := fun _ => fun
  | [d1, d2] => { results := [.lit (.bool true)], args := [d1, d2] }
  | _ => none }
def fnExactOtherNamesRow : OpenClaim := { program := "ythjjfdbkggiaeaa", sum := "768fc08af84a433b1e7c55b9f404b5c294b658e365ec30f9ee1f58a92d8929c7", func := "loop.example/namedflags/laws.FnExactOtherNames", spec := "fnExactOtherNames", unfollowed := true, recurses := true, apart := false }
def FnExactOtherNamesSaid : Prop := fnExactOtherNamesRow.holds Try.pinned (OpenSpec.ofChange fnExactOtherNamesSpec)

/-- ITS FALSE NEIGHBOUR: 'it returns false'. Refute it at one input. -/
def fnExactOtherNamesWrong : ChangeSpec := { name := "fnExactOtherNames", fn := fun _ => fun
  | [d1, d2] => { results := [.lit (.bool false)], args := [d1, d2] }
  | _ => none }
def FnExactOtherNamesWrongFalsely : Prop := fnExactOtherNamesRow.holds Try.pinned (OpenSpec.ofChange fnExactOtherNamesWrong)

/- THE SECOND FORM. 'bulk': how many values and letters a reading holds, each counted each time it is reached (what is shared counts as often as it is met; a slice's spare places count too). A statement '..UptoSaid' is the law's where the arguments, and the package variables that the reading takes, are together of bulk at most 1048576: NARROWER than '..Said'. Prove '..Said' where nothing that the law and all that it calls make is longer than what came in: it says more and counts as full. Else prove '..UptoSaid'. A law counts once. -/
mutual
def uptoBulk {H : Type} : DataW H → Nat
  | .lit (.string bytes) => bytes.length + 1
  | .lit _ => 1
  | .nil => 1
  | .ptr d => uptoBulk d + 1
  | .slice elems spare => uptoBulkAll elems + uptoBulkAll spare + 1
  | .agg parts => uptoBulkAll parts + 1
  | .iface _ d => uptoBulk d + 1
  | .map entries => uptoBulkEntries entries + 1
  | .held _ => 1
def uptoBulkAll {H : Type} : List (DataW H) → Nat
  | [] => 0
  | d :: r => uptoBulk d + uptoBulkAll r
def uptoBulkEntries {H : Type} : List (Lit × DataW H) → Nat
  | [] => 0
  | x :: r => uptoBulkEntry x + uptoBulkEntries r
def uptoBulkEntry {H : Type} : Lit × DataW H → Nat
  | (.string bytes, d) => bytes.length + uptoBulk d + 1
  | (_, d) => uptoBulk d + 1
 end
def uptoSmall : (H : Type) → List (DataW H) → Bool := fun _ ds => decide (uptoBulkAll ds ≤ 1048576)
def OpenSpec.upto (s : _root_.Go.ChangeSpec) : _root_.Go.OpenSpec := { _root_.Go.OpenSpec.ofChange s with cond := some uptoSmall }

/-- 'laws.FnReadsOld', WHERE WHAT IT READS IS OF BULK AT MOST 1048576: true; the input reads as it did. -/
def fnReadsOldUptoRow : OpenClaim := { program := "ythjjfdbkggiaeaa", sum := "768fc08af84a433b1e7c55b9f404b5c294b658e365ec30f9ee1f58a92d8929c7", func := "loop.example/namedflags/laws.FnReadsOld", spec := "fnReadsOld", unfollowed := true, recurses := true, apart := false, narrowed := true }
def FnReadsOldUptoSaid : Prop := fnReadsOldUptoRow.holds Try.pinned (OpenSpec.upto fnReadsOldSpec)

/-- 'laws.FnExactRenameDef', WHERE WHAT IT READS IS OF BULK AT MOST 1048576: true; the input reads as it did. -/
def fnExactRenameDefUptoRow : OpenClaim := { program := "ythjjfdbkggiaeaa", sum := "768fc08af84a433b1e7c55b9f404b5c294b658e365ec30f9ee1f58a92d8929c7", func := "loop.example/namedflags/laws.FnExactRenameDef", spec := "fnExactRenameDef", unfollowed := true, recurses := true, apart := false, narrowed := true }
def FnExactRenameDefUptoSaid : Prop := fnExactRenameDefUptoRow.holds Try.pinned (OpenSpec.upto fnExactRenameDefSpec)

/-- 'laws.FnAddDef', WHERE WHAT IT READS IS OF BULK AT MOST 1048576: true; the input reads as it did. -/
def fnAddDefUptoRow : OpenClaim := { program := "ythjjfdbkggiaeaa", sum := "768fc08af84a433b1e7c55b9f404b5c294b658e365ec30f9ee1f58a92d8929c7", func := "loop.example/namedflags/laws.FnAddDef", spec := "fnAddDef", unfollowed := true, recurses := true, apart := false, narrowed := true }
def FnAddDefUptoSaid : Prop := fnAddDefUptoRow.holds Try.pinned (OpenSpec.upto fnAddDefSpec)

/-- 'laws.FnDropDef', WHERE WHAT IT READS IS OF BULK AT MOST 1048576: true; the input reads as it did. -/
def fnDropDefUptoRow : OpenClaim := { program := "ythjjfdbkggiaeaa", sum := "768fc08af84a433b1e7c55b9f404b5c294b658e365ec30f9ee1f58a92d8929c7", func := "loop.example/namedflags/laws.FnDropDef", spec := "fnDropDef", unfollowed := true, recurses := true, apart := false, narrowed := true }
def FnDropDefUptoSaid : Prop := fnDropDefUptoRow.holds Try.pinned (OpenSpec.upto fnDropDefSpec)

/-- 'laws.FnMembersOf', WHERE WHAT IT READS IS OF BULK AT MOST 1048576: true; the input reads as it did. -/
def fnMembersOfUptoRow : OpenClaim := { program := "ythjjfdbkggiaeaa", sum := "768fc08af84a433b1e7c55b9f404b5c294b658e365ec30f9ee1f58a92d8929c7", func := "loop.example/namedflags/laws.FnMembersOf", spec := "fnMembersOf", unfollowed := true, recurses := true, apart := false, narrowed := true }
def FnMembersOfUptoSaid : Prop := fnMembersOfUptoRow.holds Try.pinned (OpenSpec.upto fnMembersOfSpec)

/-- 'laws.FnGapsOf', WHERE WHAT IT READS IS OF BULK AT MOST 1048576: true; the input reads as it did. -/
def fnGapsOfUptoRow : OpenClaim := { program := "ythjjfdbkggiaeaa", sum := "768fc08af84a433b1e7c55b9f404b5c294b658e365ec30f9ee1f58a92d8929c7", func := "loop.example/namedflags/laws.FnGapsOf", spec := "fnGapsOf", unfollowed := true, recurses := true, apart := false, narrowed := true }
def FnGapsOfUptoSaid : Prop := fnGapsOfUptoRow.holds Try.pinned (OpenSpec.upto fnGapsOfSpec)

/-- 'laws.FnBuildEnum', WHERE WHAT IT READS IS OF BULK AT MOST 1048576: true; the input reads as it did. -/
def fnBuildEnumUptoRow : OpenClaim := { program := "ythjjfdbkggiaeaa", sum := "768fc08af84a433b1e7c55b9f404b5c294b658e365ec30f9ee1f58a92d8929c7", func := "loop.example/namedflags/laws.FnBuildEnum", spec := "fnBuildEnum", unfollowed := true, recurses := true, apart := false, narrowed := true }
def FnBuildEnumUptoSaid : Prop := fnBuildEnumUptoRow.holds Try.pinned (OpenSpec.upto fnBuildEnumSpec)

/-- 'laws.FnBuildEnumAgain', WHERE WHAT IT READS IS OF BULK AT MOST 1048576: true; the input reads as it did. -/
def fnBuildEnumAgainUptoRow : OpenClaim := { program := "ythjjfdbkggiaeaa", sum := "768fc08af84a433b1e7c55b9f404b5c294b658e365ec30f9ee1f58a92d8929c7", func := "loop.example/namedflags/laws.FnBuildEnumAgain", spec := "fnBuildEnumAgain", unfollowed := true, recurses := true, apart := false, narrowed := true }
def FnBuildEnumAgainUptoSaid : Prop := fnBuildEnumAgainUptoRow.holds Try.pinned (OpenSpec.upto fnBuildEnumAgainSpec)

/-- 'laws.FnNextMember', WHERE WHAT IT READS IS OF BULK AT MOST 1048576: true; the input reads as it did. -/
def fnNextMemberUptoRow : OpenClaim := { program := "ythjjfdbkggiaeaa", sum := "768fc08af84a433b1e7c55b9f404b5c294b658e365ec30f9ee1f58a92d8929c7", func := "loop.example/namedflags/laws.FnNextMember", spec := "fnNextMember", unfollowed := true, recurses := true, apart := false, narrowed := true }
def FnNextMemberUptoSaid : Prop := fnNextMemberUptoRow.holds Try.pinned (OpenSpec.upto fnNextMemberSpec)

/-- 'laws.FnByValueOld', WHERE WHAT IT READS IS OF BULK AT MOST 1048576: true; the input reads as it did. -/
def fnByValueOldUptoRow : OpenClaim := { program := "ythjjfdbkggiaeaa", sum := "768fc08af84a433b1e7c55b9f404b5c294b658e365ec30f9ee1f58a92d8929c7", func := "loop.example/namedflags/laws.FnByValueOld", spec := "fnByValueOld", unfollowed := true, recurses := true, apart := false, narrowed := true }
def FnByValueOldUptoSaid : Prop := fnByValueOldUptoRow.holds Try.pinned (OpenSpec.upto fnByValueOldSpec)

/-- 'laws.FnExactMergeEnums', WHERE WHAT IT READS IS OF BULK AT MOST 1048576: true; the input reads as it did. -/
def fnExactMergeEnumsUptoRow : OpenClaim := { program := "ythjjfdbkggiaeaa", sum := "768fc08af84a433b1e7c55b9f404b5c294b658e365ec30f9ee1f58a92d8929c7", func := "loop.example/namedflags/laws.FnExactMergeEnums", spec := "fnExactMergeEnums", unfollowed := true, recurses := true, apart := false, narrowed := true }
def FnExactMergeEnumsUptoSaid : Prop := fnExactMergeEnumsUptoRow.holds Try.pinned (OpenSpec.upto fnExactMergeEnumsSpec)

/-- 'laws.FnExactOtherNames', WHERE WHAT IT READS IS OF BULK AT MOST 1048576: true; the input reads as it did. -/
def fnExactOtherNamesUptoRow : OpenClaim := { program := "ythjjfdbkggiaeaa", sum := "768fc08af84a433b1e7c55b9f404b5c294b658e365ec30f9ee1f58a92d8929c7", func := "loop.example/namedflags/laws.FnExactOtherNames", spec := "fnExactOtherNames", unfollowed := true, recurses := true, apart := false, narrowed := true }
def FnExactOtherNamesUptoSaid : Prop := fnExactOtherNamesUptoRow.holds Try.pinned (OpenSpec.upto fnExactOtherNamesSpec)

end Rows
end Go.Proofs.Ythjjfdbkggiaeaa
