/-
  No cell of these rows narrows 'for every input' (looked for: loops, veiled, ifaces, maps, wideKeys, modest, calm, conditions, laid).
  DERIVED. THE GIVEN ROWS OF THIS SEAT. 12 by the template 'for every input the law returns true; each argument reads behind the call as it read before'; 0 by the template 'total and deterministic' (their statements: YtbdehnjbglpfjaaTotals.lean).
  GIVEN WITH THE SEED: the statements are not yours to turn. If you find one false, say at which input.
  Laid BY PROGRAM, IN A SANDBOX (cutbox-rows.mjs): the forced cells as the released guide's own fill.sh prints them over the translation 6be52ddff09d1786… (all of the seat's roots in one cut). By AI agents, Wed Nov 11 2026. No macro, syntax, notation, axiom, sorry.
-/
import Derived.Test.YtbdehnjbglpfjaaChecked
import GoSem.Claim
import GoSem.ClaimJoined
import GoSem.ClaimMapViews
import Derived.JoinedTies
import Derived.KernelRfl
namespace Go.Proofs.Ytbdehnjbglpfjaa
/- THE CELL 'sum', in the pinned program and in every row, IS THE sha256 OF THE DUMP (.gsa) THAT YtbdehnjbglpfjaaProg.lean LOADS. Nothing in Lean hashes anything: it is a label: what it is worth is what the hold of that sum in a sandbox is worth. -/
noncomputable def Try.pinned : Pinned := { name := "ytbdehnjbglpfjaa", sum := "6be52ddff09d178689248e6d6c88125e384221684f90a6092b3cc4414c26b591", checked := Try.checked }
namespace Rows
def none {H : Type} : Left H := { results := [], args := [] }

/-- 'laws.FnArmsMeet': WHATEVER THE INPUT: true; the input reads as it did. -/
def fnArmsMeetSpec : ChangeSpec := { name := "fnArmsMeet", fn := fun _ => fun
  | [d] => { results := [.lit (.bool true)], args := [d] }
  | _ => none }
def fnArmsMeetRow : OpenClaim := { program := "ytbdehnjbglpfjaa", sum := "6be52ddff09d178689248e6d6c88125e384221684f90a6092b3cc4414c26b591", func := "loop.example/namedflags/laws.FnArmsMeet", spec := "fnArmsMeet", unfollowed := true, recurses := true, apart := false }
def FnArmsMeetSaid : Prop := fnArmsMeetRow.holds Try.pinned (OpenSpec.ofChange fnArmsMeetSpec)

/-- ITS FALSE NEIGHBOUR: 'it returns false'. Refute it at one input. -/
def fnArmsMeetWrong : ChangeSpec := { name := "fnArmsMeet", fn := fun _ => fun
  | [d] => { results := [.lit (.bool false)], args := [d] }
  | _ => none }
def FnArmsMeetWrongFalsely : Prop := fnArmsMeetRow.holds Try.pinned (OpenSpec.ofChange fnArmsMeetWrong)

/-- 'laws.FnExactCountArm': WHATEVER THE INPUT: true; the input reads as it did. -/
def fnExactCountArmSpec : ChangeSpec := { name := "fnExactCountArm", fn := fun _ => fun
  | [d1, d2] => { results := [.lit (.bool true)], args := [d1, d2] }
  | _ => none }
def fnExactCountArmRow : OpenClaim := { program := "ytbdehnjbglpfjaa", sum := "6be52ddff09d178689248e6d6c88125e384221684f90a6092b3cc4414c26b591", func := "loop.example/namedflags/laws.FnExactCountArm", spec := "fnExactCountArm", unfollowed := true, recurses := true, apart := false }
def FnExactCountArmSaid : Prop := fnExactCountArmRow.holds Try.pinned (OpenSpec.ofChange fnExactCountArmSpec)

/-- ITS FALSE NEIGHBOUR: 'it returns false'. Refute it at one input. -/
def fnExactCountArmWrong : ChangeSpec := { name := "fnExactCountArm", fn := fun _ => fun
  | [d1, d2] => { results := [.lit (.bool false)], args := [d1, d2] }
  | _ => none }
def FnExactCountArmWrongFalsely : Prop := fnExactCountArmRow.holds Try.pinned (OpenSpec.ofChange fnExactCountArmWrong)

/-- 'laws.FnCountArm': WHATEVER THE INPUT: true; the input reads as it did. -/
def fnCountArmSpec : ChangeSpec := { name := "fnCountArm", fn := fun _ => fun
  | [d] => { results := [.lit (.bool true)], args := [d] }
  | _ => none }
def fnCountArmRow : OpenClaim := { program := "ytbdehnjbglpfjaa", sum := "6be52ddff09d178689248e6d6c88125e384221684f90a6092b3cc4414c26b591", func := "loop.example/namedflags/laws.FnCountArm", spec := "fnCountArm", unfollowed := true, recurses := true, apart := false }
def FnCountArmSaid : Prop := fnCountArmRow.holds Try.pinned (OpenSpec.ofChange fnCountArmSpec)

/-- ITS FALSE NEIGHBOUR: 'it returns false'. Refute it at one input. -/
def fnCountArmWrong : ChangeSpec := { name := "fnCountArm", fn := fun _ => fun
  | [d] => { results := [.lit (.bool false)], args := [d] }
  | _ => none }
def FnCountArmWrongFalsely : Prop := fnCountArmRow.holds Try.pinned (OpenSpec.ofChange fnCountArmWrong)

/-- 'laws.FnMatchArm': WHATEVER THE INPUT: true; the input reads as it did. -/
def fnMatchArmSpec : ChangeSpec := { name := "fnMatchArm", fn := fun _ => fun
  | [d] => { results := [.lit (.bool true)], args := [d] }
  | _ => none }
def fnMatchArmRow : OpenClaim := { program := "ytbdehnjbglpfjaa", sum := "6be52ddff09d178689248e6d6c88125e384221684f90a6092b3cc4414c26b591", func := "loop.example/namedflags/laws.FnMatchArm", spec := "fnMatchArm", unfollowed := true, recurses := true, apart := false }
def FnMatchArmSaid : Prop := fnMatchArmRow.holds Try.pinned (OpenSpec.ofChange fnMatchArmSpec)

/-- ITS FALSE NEIGHBOUR: 'it returns false'. Refute it at one input. -/
def fnMatchArmWrong : ChangeSpec := { name := "fnMatchArm", fn := fun _ => fun
  | [d] => { results := [.lit (.bool false)], args := [d] }
  | _ => none }
def FnMatchArmWrongFalsely : Prop := fnMatchArmRow.holds Try.pinned (OpenSpec.ofChange fnMatchArmWrong)

/-- 'laws.FnExactFirstArm': WHATEVER THE INPUT: true; the input reads as it did. -/
def fnExactFirstArmSpec : ChangeSpec := { name := "fnExactFirstArm", fn := fun _ => fun
  | [d1, d2, d3] => { results := [.lit (.bool true)], args := [d1, d2, d3] }
  | _ => none }
def fnExactFirstArmRow : OpenClaim := { program := "ytbdehnjbglpfjaa", sum := "6be52ddff09d178689248e6d6c88125e384221684f90a6092b3cc4414c26b591", func := "loop.example/namedflags/laws.FnExactFirstArm", spec := "fnExactFirstArm", unfollowed := true, recurses := true, apart := false }
def FnExactFirstArmSaid : Prop := fnExactFirstArmRow.holds Try.pinned (OpenSpec.ofChange fnExactFirstArmSpec)

/-- ITS FALSE NEIGHBOUR: 'it returns false'. Refute it at one input. -/
def fnExactFirstArmWrong : ChangeSpec := { name := "fnExactFirstArm", fn := fun _ => fun
  | [d1, d2, d3] => { results := [.lit (.bool false)], args := [d1, d2, d3] }
  | _ => none }
def FnExactFirstArmWrongFalsely : Prop := fnExactFirstArmRow.holds Try.pinned (OpenSpec.ofChange fnExactFirstArmWrong)

/-- 'laws.FnFirstArm': WHATEVER THE INPUT: true; the input reads as it did. -/
def fnFirstArmSpec : ChangeSpec := { name := "fnFirstArm", fn := fun _ => fun
  | [d] => { results := [.lit (.bool true)], args := [d] }
  | _ => none }
def fnFirstArmRow : OpenClaim := { program := "ytbdehnjbglpfjaa", sum := "6be52ddff09d178689248e6d6c88125e384221684f90a6092b3cc4414c26b591", func := "loop.example/namedflags/laws.FnFirstArm", spec := "fnFirstArm", unfollowed := true, recurses := true, apart := false }
def FnFirstArmSaid : Prop := fnFirstArmRow.holds Try.pinned (OpenSpec.ofChange fnFirstArmSpec)

/-- ITS FALSE NEIGHBOUR: 'it returns false'. Refute it at one input. -/
def fnFirstArmWrong : ChangeSpec := { name := "fnFirstArm", fn := fun _ => fun
  | [d] => { results := [.lit (.bool false)], args := [d] }
  | _ => none }
def FnFirstArmWrongFalsely : Prop := fnFirstArmRow.holds Try.pinned (OpenSpec.ofChange fnFirstArmWrong)

/-- 'laws.FnExactFirstMissed': WHATEVER THE INPUT: true; the input reads as it did. -/
def fnExactFirstMissedSpec : ChangeSpec := { name := "fnExactFirstMissed", fn := fun _ => fun
  | [d1, d2] => { results := [.lit (.bool true)], args := [d1, d2] }
  | _ => none }
def fnExactFirstMissedRow : OpenClaim := { program := "ytbdehnjbglpfjaa", sum := "6be52ddff09d178689248e6d6c88125e384221684f90a6092b3cc4414c26b591", func := "loop.example/namedflags/laws.FnExactFirstMissed", spec := "fnExactFirstMissed", unfollowed := true, recurses := true, apart := false }
def FnExactFirstMissedSaid : Prop := fnExactFirstMissedRow.holds Try.pinned (OpenSpec.ofChange fnExactFirstMissedSpec)

/-- ITS FALSE NEIGHBOUR: 'it returns false'. Refute it at one input. -/
def fnExactFirstMissedWrong : ChangeSpec := { name := "fnExactFirstMissed", fn := fun _ => fun
  | [d1, d2] => { results := [.lit (.bool false)], args := [d1, d2] }
  | _ => none }
def FnExactFirstMissedWrongFalsely : Prop := fnExactFirstMissedRow.holds Try.pinned (OpenSpec.ofChange fnExactFirstMissedWrong)

/-- 'laws.FnArmCovers': WHATEVER THE INPUT: true; the input reads as it did. -/
def fnArmCoversSpec : ChangeSpec := { name := "fnArmCovers", fn := fun _ => fun
  | [d] => { results := [.lit (.bool true)], args := [d] }
  | _ => none }
def fnArmCoversRow : OpenClaim := { program := "ytbdehnjbglpfjaa", sum := "6be52ddff09d178689248e6d6c88125e384221684f90a6092b3cc4414c26b591", func := "loop.example/namedflags/laws.FnArmCovers", spec := "fnArmCovers", unfollowed := true, recurses := true, apart := false }
def FnArmCoversSaid : Prop := fnArmCoversRow.holds Try.pinned (OpenSpec.ofChange fnArmCoversSpec)

/-- ITS FALSE NEIGHBOUR: 'it returns false'. Refute it at one input. -/
def fnArmCoversWrong : ChangeSpec := { name := "fnArmCovers", fn := fun _ => fun
  | [d] => { results := [.lit (.bool false)], args := [d] }
  | _ => none }
def FnArmCoversWrongFalsely : Prop := fnArmCoversRow.holds Try.pinned (OpenSpec.ofChange fnArmCoversWrong)

/-- 'laws.FnExactFittingNames': WHATEVER THE INPUT: true; the input reads as it did. -/
def fnExactFittingNamesSpec : ChangeSpec := { name := "fnExactFittingNames", fn := fun _ => fun
  | [d1, d2] => { results := [.lit (.bool true)], args := [d1, d2] }
  | _ => none }
def fnExactFittingNamesRow : OpenClaim := { program := "ytbdehnjbglpfjaa", sum := "6be52ddff09d178689248e6d6c88125e384221684f90a6092b3cc4414c26b591", func := "loop.example/namedflags/laws.FnExactFittingNames", spec := "fnExactFittingNames", unfollowed := true, recurses := true, apart := false }
def FnExactFittingNamesSaid : Prop := fnExactFittingNamesRow.holds Try.pinned (OpenSpec.ofChange fnExactFittingNamesSpec)

/-- ITS FALSE NEIGHBOUR: 'it returns false'. Refute it at one input. -/
def fnExactFittingNamesWrong : ChangeSpec := { name := "fnExactFittingNames", fn := fun _ => fun
  | [d1, d2] => { results := [.lit (.bool false)], args := [d1, d2] }
  | _ => none }
def FnExactFittingNamesWrongFalsely : Prop := fnExactFittingNamesRow.holds Try.pinned (OpenSpec.ofChange fnExactFittingNamesWrong)

/-- 'laws.FnFirstMissedAll': WHATEVER THE INPUT: true; the input reads as it did. -/
def fnFirstMissedAllSpec : ChangeSpec := { name := "fnFirstMissedAll", fn := fun _ => fun
  | [d] => { results := [.lit (.bool true)], args := [d] }
  | _ => none }
def fnFirstMissedAllRow : OpenClaim := { program := "ytbdehnjbglpfjaa", sum := "6be52ddff09d178689248e6d6c88125e384221684f90a6092b3cc4414c26b591", func := "loop.example/namedflags/laws.FnFirstMissedAll", spec := "fnFirstMissedAll", unfollowed := true, recurses := true, apart := false }
def FnFirstMissedAllSaid : Prop := fnFirstMissedAllRow.holds Try.pinned (OpenSpec.ofChange fnFirstMissedAllSpec)

/-- ITS FALSE NEIGHBOUR: 'it returns false'. Refute it at one input. -/
def fnFirstMissedAllWrong : ChangeSpec := { name := "fnFirstMissedAll", fn := fun _ => fun
  | [d] => { results := [.lit (.bool false)], args := [d] }
  | _ => none }
def FnFirstMissedAllWrongFalsely : Prop := fnFirstMissedAllRow.holds Try.pinned (OpenSpec.ofChange fnFirstMissedAllWrong)

/-- 'laws.FnExactFlagOf': WHATEVER THE INPUT: true; the input reads as it did. -/
def fnExactFlagOfSpec : ChangeSpec := { name := "fnExactFlagOf", fn := fun _ => fun
  | [d] => { results := [.lit (.bool true)], args := [d] }
  | _ => none }
def fnExactFlagOfRow : OpenClaim := { program := "ytbdehnjbglpfjaa", sum := "6be52ddff09d178689248e6d6c88125e384221684f90a6092b3cc4414c26b591", func := "loop.example/namedflags/laws.FnExactFlagOf", spec := "fnExactFlagOf", unfollowed := true, recurses := true, apart := false }
def FnExactFlagOfSaid : Prop := fnExactFlagOfRow.holds Try.pinned (OpenSpec.ofChange fnExactFlagOfSpec)

/-- ITS FALSE NEIGHBOUR: 'it returns false'. Refute it at one input. -/
def fnExactFlagOfWrong : ChangeSpec := { name := "fnExactFlagOf", fn := fun _ => fun
  | [d] => { results := [.lit (.bool false)], args := [d] }
  | _ => none }
def FnExactFlagOfWrongFalsely : Prop := fnExactFlagOfRow.holds Try.pinned (OpenSpec.ofChange fnExactFlagOfWrong)

/-- 'laws.FnExactSetOf': WHATEVER THE INPUT: true; the input reads as it did. -/
def fnExactSetOfSpec : ChangeSpec := { name := "fnExactSetOf", fn := fun _ => fun
  | [d1, d2] => { results := [.lit (.bool true)], args := [d1, d2] }
  | _ => none }
def fnExactSetOfRow : OpenClaim := { program := "ytbdehnjbglpfjaa", sum := "6be52ddff09d178689248e6d6c88125e384221684f90a6092b3cc4414c26b591", func := "loop.example/namedflags/laws.FnExactSetOf", spec := "fnExactSetOf", unfollowed := true, recurses := true, apart := false }
def FnExactSetOfSaid : Prop := fnExactSetOfRow.holds Try.pinned (OpenSpec.ofChange fnExactSetOfSpec)

/-- ITS FALSE NEIGHBOUR: 'it returns false'. Refute it at one input. -/
def fnExactSetOfWrong : ChangeSpec := { name := "fnExactSetOf", fn := fun _ => fun
  | [d1, d2] => { results := [.lit (.bool false)], args := [d1, d2] }
  | _ => none }
def FnExactSetOfWrongFalsely : Prop := fnExactSetOfRow.holds Try.pinned (OpenSpec.ofChange fnExactSetOfWrong)

/- THE SECOND FORM. 'bulk': how many values and letters a reading holds, each counted each time it is reached (what is shared counts as often as it is met; a slice's spare places count too). A statement '..UptoSaid' is the law's where the arguments, and the package variables that the reading takes, are together of bulk at most 1048576: NARROWER than '..Said'. Prove '..Said' where nothing that the law and all that it calls make is longer than what came in: it says more and counts as full. Else prove '..UptoSaid'. A law counts once. -/
mutual
def uptoBulk {H : Type} : DataW H → Nat
  | .lit (.string bytes) => bytes.length + 1
  | .lit _ => 1
  | .nil => 1
  | .ptr d => uptoBulk d + 1
  | .slice elems spare => uptoBulkAll elems + uptoBulkAll spare + 1
  | .agg parts => uptoBulkAll parts + 1
  | .iface _ d => uptoBulk d + 1
  | .map entries => uptoBulkEntries entries + 1
  | .held _ => 1
def uptoBulkAll {H : Type} : List (DataW H) → Nat
  | [] => 0
  | d :: r => uptoBulk d + uptoBulkAll r
def uptoBulkEntries {H : Type} : List (Lit × DataW H) → Nat
  | [] => 0
  | x :: r => uptoBulkEntry x + uptoBulkEntries r
def uptoBulkEntry {H : Type} : Lit × DataW H → Nat
  | (.string bytes, d) => bytes.length + uptoBulk d + 1
  | (_, d) => uptoBulk d + 1
 end
def uptoSmall : (H : Type) → List (DataW H) → Bool := fun _ ds => decide (uptoBulkAll ds ≤ 1048576)
def OpenSpec.upto (s : _root_.Go.ChangeSpec) : _root_.Go.OpenSpec := { _root_.Go.OpenSpec.ofChange s with cond := some uptoSmall }

/-- 'laws.FnArmsMeet', WHERE WHAT IT READS IS OF BULK AT MOST 1048576: true; the input reads as it did. -/
def fnArmsMeetUptoRow : OpenClaim := { program := "ytbdehnjbglpfjaa", sum := "6be52ddff09d178689248e6d6c88125e384221684f90a6092b3cc4414c26b591", func := "loop.example/namedflags/laws.FnArmsMeet", spec := "fnArmsMeet", unfollowed := true, recurses := true, apart := false, narrowed := true }
def FnArmsMeetUptoSaid : Prop := fnArmsMeetUptoRow.holds Try.pinned (OpenSpec.upto fnArmsMeetSpec)

/-- 'laws.FnExactCountArm', WHERE WHAT IT READS IS OF BULK AT MOST 1048576: true; the input reads as it did. -/
def fnExactCountArmUptoRow : OpenClaim := { program := "ytbdehnjbglpfjaa", sum := "6be52ddff09d178689248e6d6c88125e384221684f90a6092b3cc4414c26b591", func := "loop.example/namedflags/laws.FnExactCountArm", spec := "fnExactCountArm", unfollowed := true, recurses := true, apart := false, narrowed := true }
def FnExactCountArmUptoSaid : Prop := fnExactCountArmUptoRow.holds Try.pinned (OpenSpec.upto fnExactCountArmSpec)

/-- 'laws.FnCountArm', WHERE WHAT IT READS IS OF BULK AT MOST 1048576: true; the input reads as it did. -/
def fnCountArmUptoRow : OpenClaim := { program := "ytbdehnjbglpfjaa", sum := "6be52ddff09d178689248e6d6c88125e384221684f90a6092b3cc4414c26b591", func := "loop.example/namedflags/laws.FnCountArm", spec := "fnCountArm", unfollowed := true, recurses := true, apart := false, narrowed := true }
def FnCountArmUptoSaid : Prop := fnCountArmUptoRow.holds Try.pinned (OpenSpec.upto fnCountArmSpec)

/-- 'laws.FnMatchArm', WHERE WHAT IT READS IS OF BULK AT MOST 1048576: true; the input reads as it did. -/
def fnMatchArmUptoRow : OpenClaim := { program := "ytbdehnjbglpfjaa", sum := "6be52ddff09d178689248e6d6c88125e384221684f90a6092b3cc4414c26b591", func := "loop.example/namedflags/laws.FnMatchArm", spec := "fnMatchArm", unfollowed := true, recurses := true, apart := false, narrowed := true }
def FnMatchArmUptoSaid : Prop := fnMatchArmUptoRow.holds Try.pinned (OpenSpec.upto fnMatchArmSpec)

/-- 'laws.FnExactFirstArm', WHERE WHAT IT READS IS OF BULK AT MOST 1048576: true; the input reads as it did. -/
def fnExactFirstArmUptoRow : OpenClaim := { program := "ytbdehnjbglpfjaa", sum := "6be52ddff09d178689248e6d6c88125e384221684f90a6092b3cc4414c26b591", func := "loop.example/namedflags/laws.FnExactFirstArm", spec := "fnExactFirstArm", unfollowed := true, recurses := true, apart := false, narrowed := true }
def FnExactFirstArmUptoSaid : Prop := fnExactFirstArmUptoRow.holds Try.pinned (OpenSpec.upto fnExactFirstArmSpec)

/-- 'laws.FnFirstArm', WHERE WHAT IT READS IS OF BULK AT MOST 1048576: true; the input reads as it did. -/
def fnFirstArmUptoRow : OpenClaim := { program := "ytbdehnjbglpfjaa", sum := "6be52ddff09d178689248e6d6c88125e384221684f90a6092b3cc4414c26b591", func := "loop.example/namedflags/laws.FnFirstArm", spec := "fnFirstArm", unfollowed := true, recurses := true, apart := false, narrowed := true }
def FnFirstArmUptoSaid : Prop := fnFirstArmUptoRow.holds Try.pinned (OpenSpec.upto fnFirstArmSpec)

/-- 'laws.FnExactFirstMissed', WHERE WHAT IT READS IS OF BULK AT MOST 1048576: true; the input reads as it did. -/
def fnExactFirstMissedUptoRow : OpenClaim := { program := "ytbdehnjbglpfjaa", sum := "6be52ddff09d178689248e6d6c88125e384221684f90a6092b3cc4414c26b591", func := "loop.example/namedflags/laws.FnExactFirstMissed", spec := "fnExactFirstMissed", unfollowed := true, recurses := true, apart := false, narrowed := true }
def FnExactFirstMissedUptoSaid : Prop := fnExactFirstMissedUptoRow.holds Try.pinned (OpenSpec.upto fnExactFirstMissedSpec)

/-- 'laws.FnArmCovers', WHERE WHAT IT READS IS OF BULK AT MOST 1048576: true; the input reads as it did. -/
def fnArmCoversUptoRow : OpenClaim := { program := "ytbdehnjbglpfjaa", sum := "6be52ddff09d178689248e6d6c88125e384221684f90a6092b3cc4414c26b591", func := "loop.example/namedflags/laws.FnArmCovers", spec := "fnArmCovers", unfollowed := true, recurses := true, apart := false, narrowed := true }
def FnArmCoversUptoSaid : Prop := fnArmCoversUptoRow.holds Try.pinned (OpenSpec.upto fnArmCoversSpec)

/-- 'laws.FnExactFittingNames', WHERE WHAT IT READS IS OF BULK AT MOST 1048576: true; the input reads as it did. -/
def fnExactFittingNamesUptoRow : OpenClaim := { program := "ytbdehnjbglpfjaa", sum := "6be52ddff09d178689248e6d6c88125e384221684f90a6092b3cc4414c26b591", func := "loop.example/namedflags/laws.FnExactFittingNames", spec := "fnExactFittingNames", unfollowed := true, recurses := true, apart := false, narrowed := true }
def FnExactFittingNamesUptoSaid : Prop := fnExactFittingNamesUptoRow.holds Try.pinned (OpenSpec.upto fnExactFittingNamesSpec)

/-- 'laws.FnFirstMissedAll', WHERE WHAT IT READS IS OF BULK AT MOST 1048576: true; the input reads as it did. -/
def fnFirstMissedAllUptoRow : OpenClaim := { program := "ytbdehnjbglpfjaa", sum := "6be52ddff09d178689248e6d6c88125e384221684f90a6092b3cc4414c26b591", func := "loop.example/namedflags/laws.FnFirstMissedAll", spec := "fnFirstMissedAll", unfollowed := true, recurses := true, apart := false, narrowed := true }
def FnFirstMissedAllUptoSaid : Prop := fnFirstMissedAllUptoRow.holds Try.pinned (OpenSpec.upto fnFirstMissedAllSpec)

/-- 'laws.FnExactFlagOf', WHERE WHAT IT READS IS OF BULK AT MOST 1048576: true; the input reads as it did. -/
def fnExactFlagOfUptoRow : OpenClaim := { program := "ytbdehnjbglpfjaa", sum := "6be52ddff09d178689248e6d6c88125e384221684f90a6092b3cc4414c26b591", func := "loop.example/namedflags/laws.FnExactFlagOf", spec := "fnExactFlagOf", unfollowed := true, recurses := true, apart := false, narrowed := true }
def FnExactFlagOfUptoSaid : Prop := fnExactFlagOfUptoRow.holds Try.pinned (OpenSpec.upto fnExactFlagOfSpec)

/-- 'laws.FnExactSetOf', WHERE WHAT IT READS IS OF BULK AT MOST 1048576: true; the input reads as it did. -/
def fnExactSetOfUptoRow : OpenClaim := { program := "ytbdehnjbglpfjaa", sum := "6be52ddff09d178689248e6d6c88125e384221684f90a6092b3cc4414c26b591", func := "loop.example/namedflags/laws.FnExactSetOf", spec := "fnExactSetOf", unfollowed := true, recurses := true, apart := false, narrowed := true }
def FnExactSetOfUptoSaid : Prop := fnExactSetOfUptoRow.holds Try.pinned (OpenSpec.upto fnExactSetOfSpec)

end Rows
end Go.Proofs.Ytbdehnjbglpfjaa
