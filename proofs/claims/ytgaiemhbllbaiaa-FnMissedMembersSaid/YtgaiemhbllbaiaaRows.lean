/-
  No cell of these rows narrows 'for every input' (looked for: loops, veiled, ifaces, maps, wideKeys, modest, calm, conditions, laid).
  DERIVED. THE GIVEN ROWS OF THIS SEAT. 7 by the template 'for every input the law returns true; each argument reads behind the call as it read before'; 0 by the template 'total and deterministic' (their statements: YtgaiemhbllbaiaaTotals.lean).
  GIVEN WITH THE SEED: the statements are not yours to turn. If you find one false, say at which input.
  Laid BY PROGRAM, IN A SANDBOX (cutbox-rows.mjs): the forced cells as the released guide's own fill.sh prints them over the translation 0253c3e9781d8b7f… (all of the seat's roots in one cut). By AI agents, Wed Nov 11 2026. No macro, syntax, notation, axiom, sorry.
-/
import Derived.Test.YtgaiemhbllbaiaaChecked
import GoSem.Claim
import GoSem.ClaimJoined
import GoSem.ClaimMapViews
import Derived.JoinedTies
import Derived.KernelRfl
namespace Go.Proofs.Ytgaiemhbllbaiaa
/- THE CELL 'sum', in the pinned program and in every row, IS THE sha256 OF THE DUMP (.gsa) THAT YtgaiemhbllbaiaaProg.lean LOADS. Nothing in Lean hashes anything: it is a label: what it is worth is what the hold of that sum in a sandbox is worth. -/
noncomputable def Try.pinned : Pinned := { name := "ytgaiemhbllbaiaa", sum := "0253c3e9781d8b7f881102b3031e11596a5954c717f6c893a27febc39a3aeb63", checked := Try.checked }
namespace Rows
def none {H : Type} : Left H := { results := [], args := [] }

/-- 'laws.FnMergeEnums': WHATEVER THE INPUT: true; the input reads as it did. -/
def fnMergeEnumsSpec : ChangeSpec := { name := "fnMergeEnums", fn := fun _ => fun
  | [d] => { results := [.lit (.bool true)], args := [d] }
  | _ => none }
def fnMergeEnumsRow : OpenClaim := { program := "ytgaiemhbllbaiaa", sum := "0253c3e9781d8b7f881102b3031e11596a5954c717f6c893a27febc39a3aeb63", func := "loop.example/namedflags/laws.FnMergeEnums", spec := "fnMergeEnums", unfollowed := true, recurses := true, apart := false }
def FnMergeEnumsSaid : Prop := fnMergeEnumsRow.holds Try.pinned (OpenSpec.ofChange fnMergeEnumsSpec)

/-- ITS FALSE NEIGHBOUR: 'it returns false'. Refute it at one input. -/
def fnMergeEnumsWrong : ChangeSpec := { name := "fnMergeEnums", fn := fun _ => fun
  | [d] => { results := [.lit (.bool false)], args := [d] }
  | _ => none }
def FnMergeEnumsWrongFalsely : Prop := fnMergeEnumsRow.holds Try.pinned (OpenSpec.ofChange fnMergeEnumsWrong)

/-- 'laws.FnDiffEnums': WHATEVER THE INPUT: true; the input reads as it did. -/
def fnDiffEnumsSpec : ChangeSpec := { name := "fnDiffEnums", fn := fun _ => fun
  | [d] => { results := [.lit (.bool true)], args := [d] }
  | _ => none }
def fnDiffEnumsRow : OpenClaim := { program := "ytgaiemhbllbaiaa", sum := "0253c3e9781d8b7f881102b3031e11596a5954c717f6c893a27febc39a3aeb63", func := "loop.example/namedflags/laws.FnDiffEnums", spec := "fnDiffEnums", unfollowed := true, recurses := true, apart := false }
def FnDiffEnumsSaid : Prop := fnDiffEnumsRow.holds Try.pinned (OpenSpec.ofChange fnDiffEnumsSpec)

/-- ITS FALSE NEIGHBOUR: 'it returns false'. Refute it at one input. -/
def fnDiffEnumsWrong : ChangeSpec := { name := "fnDiffEnums", fn := fun _ => fun
  | [d] => { results := [.lit (.bool false)], args := [d] }
  | _ => none }
def FnDiffEnumsWrongFalsely : Prop := fnDiffEnumsRow.holds Try.pinned (OpenSpec.ofChange fnDiffEnumsWrong)

/-- 'laws.FnExactDiffEnums': WHATEVER THE INPUT: true; the input reads as it did. -/
def fnExactDiffEnumsSpec : ChangeSpec := { name := "fnExactDiffEnums", fn := fun _ => fun
  | [d1, d2] => { results := [.lit (.bool true)], args := [d1, d2] }
  | _ => none }
def fnExactDiffEnumsRow : OpenClaim := { program := "ytgaiemhbllbaiaa", sum := "0253c3e9781d8b7f881102b3031e11596a5954c717f6c893a27febc39a3aeb63", func := "loop.example/namedflags/laws.FnExactDiffEnums", spec := "fnExactDiffEnums", unfollowed := true, recurses := true, apart := false }
def FnExactDiffEnumsSaid : Prop := fnExactDiffEnumsRow.holds Try.pinned (OpenSpec.ofChange fnExactDiffEnumsSpec)

/-- ITS FALSE NEIGHBOUR: 'it returns false'. Refute it at one input. -/
def fnExactDiffEnumsWrong : ChangeSpec := { name := "fnExactDiffEnums", fn := fun _ => fun
  | [d1, d2] => { results := [.lit (.bool false)], args := [d1, d2] }
  | _ => none }
def FnExactDiffEnumsWrongFalsely : Prop := fnExactDiffEnumsRow.holds Try.pinned (OpenSpec.ofChange fnExactDiffEnumsWrong)

/-- 'laws.FnApplyChangesOne': WHATEVER THE INPUT: true; the input reads as it did. -/
def fnApplyChangesOneSpec : ChangeSpec := { name := "fnApplyChangesOne", fn := fun _ => fun
  | [d] => { results := [.lit (.bool true)], args := [d] }
  | _ => none }
def fnApplyChangesOneRow : OpenClaim := { program := "ytgaiemhbllbaiaa", sum := "0253c3e9781d8b7f881102b3031e11596a5954c717f6c893a27febc39a3aeb63", func := "loop.example/namedflags/laws.FnApplyChangesOne", spec := "fnApplyChangesOne", unfollowed := true, recurses := true, apart := false }
def FnApplyChangesOneSaid : Prop := fnApplyChangesOneRow.holds Try.pinned (OpenSpec.ofChange fnApplyChangesOneSpec)

/-- ITS FALSE NEIGHBOUR: 'it returns false'. Refute it at one input. -/
def fnApplyChangesOneWrong : ChangeSpec := { name := "fnApplyChangesOne", fn := fun _ => fun
  | [d] => { results := [.lit (.bool false)], args := [d] }
  | _ => none }
def FnApplyChangesOneWrongFalsely : Prop := fnApplyChangesOneRow.holds Try.pinned (OpenSpec.ofChange fnApplyChangesOneWrong)

/-- 'laws.FnMissedMembers': WHATEVER THE INPUT: true; the input reads as it did. -/
def fnMissedMembersSpec : ChangeSpec := { name := "fnMissedMembers", fn := fun _ => fun
  | [d] => { results := [.lit (.bool true)], args := [d] }
  | _ => none }
def fnMissedMembersRow : OpenClaim := { program := "ytgaiemhbllbaiaa", sum := "0253c3e9781d8b7f881102b3031e11596a5954c717f6c893a27febc39a3aeb63", func := "loop.example/namedflags/laws.FnMissedMembers", spec := "fnMissedMembers", unfollowed := true, recurses := true, apart := false }
def FnMissedMembersSaid : Prop := fnMissedMembersRow.holds Try.pinned (OpenSpec.ofChange fnMissedMembersSpec)

/-- ITS FALSE NEIGHBOUR: 'it returns false'. Refute it at one input. -/
def fnMissedMembersWrong : ChangeSpec := { name := "fnMissedMembers", fn := fun _ => fun
  | [d] => { results := [.lit (.bool false)], args := [d] }
  | _ => none }
def FnMissedMembersWrongFalsely : Prop := fnMissedMembersRow.holds Try.pinned (OpenSpec.ofChange fnMissedMembersWrong)

/-- 'laws.FnExactMissedMembers': WHATEVER THE INPUT: true; the input reads as it did. -/
def fnExactMissedMembersSpec : ChangeSpec := { name := "fnExactMissedMembers", fn := fun _ => fun
  | [d1, d2] => { results := [.lit (.bool true)], args := [d1, d2] }
  | _ => none }
def fnExactMissedMembersRow : OpenClaim := { program := "ytgaiemhbllbaiaa", sum := "0253c3e9781d8b7f881102b3031e11596a5954c717f6c893a27febc39a3aeb63", func := "loop.example/namedflags/laws.FnExactMissedMembers", spec := "fnExactMissedMembers", unfollowed := true, recurses := true, apart := false }
def FnExactMissedMembersSaid : Prop := fnExactMissedMembersRow.holds Try.pinned (OpenSpec.ofChange fnExactMissedMembersSpec)

/-- ITS FALSE NEIGHBOUR: 'it returns false'. Refute it at one input. -/
def fnExactMissedMembersWrong : ChangeSpec := { name := "fnExactMissedMembers", fn := fun _ => fun
  | [d1, d2] => { results := [.lit (.bool false)], args := [d1, d2] }
  | _ => none }
def FnExactMissedMembersWrongFalsely : Prop := fnExactMissedMembersRow.holds Try.pinned (OpenSpec.ofChange fnExactMissedMembersWrong)

/-- 'laws.FnShortNamesOne': WHATEVER THE INPUT: true; the input reads as it did. -/
def fnShortNamesOneSpec : ChangeSpec := { name := "fnShortNamesOne", fn := fun _ => fun
  | [d] => { results := [.lit (.bool true)], args := [d] }
  | _ => none }
def fnShortNamesOneRow : OpenClaim := { program := "ytgaiemhbllbaiaa", sum := "0253c3e9781d8b7f881102b3031e11596a5954c717f6c893a27febc39a3aeb63", func := "loop.example/namedflags/laws.FnShortNamesOne", spec := "fnShortNamesOne", unfollowed := true, recurses := true, apart := false }
def FnShortNamesOneSaid : Prop := fnShortNamesOneRow.holds Try.pinned (OpenSpec.ofChange fnShortNamesOneSpec)

/-- ITS FALSE NEIGHBOUR: 'it returns false'. Refute it at one input. -/
def fnShortNamesOneWrong : ChangeSpec := { name := "fnShortNamesOne", fn := fun _ => fun
  | [d] => { results := [.lit (.bool false)], args := [d] }
  | _ => none }
def FnShortNamesOneWrongFalsely : Prop := fnShortNamesOneRow.holds Try.pinned (OpenSpec.ofChange fnShortNamesOneWrong)

/- THE SECOND FORM. 'bulk': how many values and letters a reading holds, each counted each time it is reached (what is shared counts as often as it is met; a slice's spare places count too). A statement '..UptoSaid' is the law's where the arguments, and the package variables that the reading takes, are together of bulk at most 1048576: NARROWER than '..Said'. Prove '..Said' where nothing that the law and all that it calls make is longer than what came in: it says more and counts as full. Else prove '..UptoSaid'. A law counts once. -/
mutual
def uptoBulk {H : Type} : DataW H → Nat
  | .lit (.string bytes) => bytes.length + 1
  | .lit _ => 1
  | .nil => 1
  | .ptr d => uptoBulk d + 1
  | .slice elems spare => uptoBulkAll elems + uptoBulkAll spare + 1
  | .agg parts => uptoBulkAll parts + 1
  | .iface _ d => uptoBulk d + 1
  | .map entries => uptoBulkEntries entries + 1
  | .held _ => 1
def uptoBulkAll {H : Type} : List (DataW H) → Nat
  | [] => 0
  | d :: r => uptoBulk d + uptoBulkAll r
def uptoBulkEntries {H : Type} : List (Lit × DataW H) → Nat
  | [] => 0
  | x :: r => uptoBulkEntry x + uptoBulkEntries r
def uptoBulkEntry {H : Type} : Lit × DataW H → Nat
  | (.string bytes, d) => bytes.length + uptoBulk d + 1
  | (_, d) => uptoBulk d + 1
 end
def uptoSmall : (H : Type) → List (DataW H) → Bool := fun _ ds => decide (uptoBulkAll ds ≤ 1048576)
def OpenSpec.upto (s : _root_.Go.ChangeSpec) : _root_.Go.OpenSpec := { _root_.Go.OpenSpec.ofChange s with cond := some uptoSmall }

/-- 'laws.FnMergeEnums', WHERE WHAT IT READS IS OF BULK AT MOST 1048576: true; the input reads as it did. -/
def fnMergeEnumsUptoRow : OpenClaim := { program := "ytgaiemhbllbaiaa", sum := "0253c3e9781d8b7f881102b3031e11596a5954c717f6c893a27febc39a3aeb63", func := "loop.example/namedflags/laws.FnMergeEnums", spec := "fnMergeEnums", unfollowed := true, recurses := true, apart := false, narrowed := true }
def FnMergeEnumsUptoSaid : Prop := fnMergeEnumsUptoRow.holds Try.pinned (OpenSpec.upto fnMergeEnumsSpec)

/-- 'laws.FnDiffEnums', WHERE WHAT IT READS IS OF BULK AT MOST 1048576: true; the input reads as it did. -/
def fnDiffEnumsUptoRow : OpenClaim := { program := "ytgaiemhbllbaiaa", sum := "0253c3e9781d8b7f881102b3031e11596a5954c717f6c893a27febc39a3aeb63", func := "loop.example/namedflags/laws.FnDiffEnums", spec := "fnDiffEnums", unfollowed := true, recurses := true, apart := false, narrowed := true }
def FnDiffEnumsUptoSaid : Prop := fnDiffEnumsUptoRow.holds Try.pinned (OpenSpec.upto fnDiffEnumsSpec)

/-- 'laws.FnExactDiffEnums', WHERE WHAT IT READS IS OF BULK AT MOST 1048576: true; the input reads as it did. -/
def fnExactDiffEnumsUptoRow : OpenClaim := { program := "ytgaiemhbllbaiaa", sum := "0253c3e9781d8b7f881102b3031e11596a5954c717f6c893a27febc39a3aeb63", func := "loop.example/namedflags/laws.FnExactDiffEnums", spec := "fnExactDiffEnums", unfollowed := true, recurses := true, apart := false, narrowed := true }
def FnExactDiffEnumsUptoSaid : Prop := fnExactDiffEnumsUptoRow.holds Try.pinned (OpenSpec.upto fnExactDiffEnumsSpec)

/-- 'laws.FnApplyChangesOne', WHERE WHAT IT READS IS OF BULK AT MOST 1048576: true; the input reads as it did. -/
def fnApplyChangesOneUptoRow : OpenClaim := { program := "ytgaiemhbllbaiaa", sum := "0253c3e9781d8b7f881102b3031e11596a5954c717f6c893a27febc39a3aeb63", func := "loop.example/namedflags/laws.FnApplyChangesOne", spec := "fnApplyChangesOne", unfollowed := true, recurses := true, apart := false, narrowed := true }
def FnApplyChangesOneUptoSaid : Prop := fnApplyChangesOneUptoRow.holds Try.pinned (OpenSpec.upto fnApplyChangesOneSpec)

/-- 'laws.FnMissedMembers', WHERE WHAT IT READS IS OF BULK AT MOST 1048576: true; the input reads as it did. -/
def fnMissedMembersUptoRow : OpenClaim := { program := "ytgaiemhbllbaiaa", sum := "0253c3e9781d8b7f881102b3031e11596a5954c717f6c893a27febc39a3aeb63", func := "loop.example/namedflags/laws.FnMissedMembers", spec := "fnMissedMembers", unfollowed := true, recurses := true, apart := false, narrowed := true }
def FnMissedMembersUptoSaid : Prop := fnMissedMembersUptoRow.holds Try.pinned (OpenSpec.upto fnMissedMembersSpec)

/-- 'laws.FnExactMissedMembers', WHERE WHAT IT READS IS OF BULK AT MOST 1048576: true; the input reads as it did. -/
def fnExactMissedMembersUptoRow : OpenClaim := { program := "ytgaiemhbllbaiaa", sum := "0253c3e9781d8b7f881102b3031e11596a5954c717f6c893a27febc39a3aeb63", func := "loop.example/namedflags/laws.FnExactMissedMembers", spec := "fnExactMissedMembers", unfollowed := true, recurses := true, apart := false, narrowed := true }
def FnExactMissedMembersUptoSaid : Prop := fnExactMissedMembersUptoRow.holds Try.pinned (OpenSpec.upto fnExactMissedMembersSpec)

/-- 'laws.FnShortNamesOne', WHERE WHAT IT READS IS OF BULK AT MOST 1048576: true; the input reads as it did. -/
def fnShortNamesOneUptoRow : OpenClaim := { program := "ytgaiemhbllbaiaa", sum := "0253c3e9781d8b7f881102b3031e11596a5954c717f6c893a27febc39a3aeb63", func := "loop.example/namedflags/laws.FnShortNamesOne", spec := "fnShortNamesOne", unfollowed := true, recurses := true, apart := false, narrowed := true }
def FnShortNamesOneUptoSaid : Prop := fnShortNamesOneUptoRow.holds Try.pinned (OpenSpec.upto fnShortNamesOneSpec)

end Rows
end Go.Proofs.Ytgaiemhbllbaiaa
