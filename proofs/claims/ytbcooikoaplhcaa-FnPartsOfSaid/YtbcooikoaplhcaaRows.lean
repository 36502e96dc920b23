/-
  No cell of these rows narrows 'for every input' (looked for: loops, veiled, ifaces, maps, wideKeys, modest, calm, conditions, laid).
  DERIVED. THE GIVEN ROWS OF THIS SEAT. 12 by the template 'for every input the law returns true; each argument reads behind the call as it read before'; 0 by the template 'total and deterministic' (their statements: YtbcooikoaplhcaaTotals.lean).
  GIVEN WITH THE SEED: the statements are not yours to turn. If you find one false, say at which input.
  Laid BY PROGRAM, IN A SANDBOX (cutbox-rows.mjs): the forced cells as the released guide's own fill.sh prints them over the translation db7823681c3b55aa… (all of the seat's roots in one cut). By AI agents, Wed Nov 11 2026. No macro, syntax, notation, axiom, sorry.
-/
import Derived.Test.YtbcooikoaplhcaaChecked
import GoSem.Claim
import GoSem.ClaimJoined
import GoSem.ClaimMapViews
import Derived.JoinedTies
import Derived.KernelRfl
namespace Go.Proofs.Ytbcooikoaplhcaa
/- THE CELL 'sum', in the pinned program and in every row, IS THE sha256 OF THE DUMP (.gsa) THAT YtbcooikoaplhcaaProg.lean LOADS. Nothing in Lean hashes anything: it is a label: what it is worth is what the hold of that sum in a sandbox is worth. -/
noncomputable def Try.pinned : Pinned := { name := "ytbcooikoaplhcaa", sum := "db7823681c3b55aa72b43fddceac79fd864aee31d83154c2503e98977bef932f", checked := Try.checked }
namespace Rows
def none {H : Type} : Left H := { results := [], args := [] }

/-- 'laws.FnHighOf': WHATEVER THE INPUT: true; the input reads as it did. -/
def fnHighOfSpec : ChangeSpec := { name := "fnHighOf", fn := fun _ => fun
  | [d] => { results := [.lit (.bool true)], args := [d] }
  | _ => none }
def fnHighOfRow : OpenClaim := { program := "ytbcooikoaplhcaa", sum := "db7823681c3b55aa72b43fddceac79fd864aee31d83154c2503e98977bef932f", func := "loop.example/namedflags/laws.FnHighOf", spec := "fnHighOf", unfollowed := true, recurses := true, apart := false }
def FnHighOfSaid : Prop := fnHighOfRow.holds Try.pinned (OpenSpec.ofChange fnHighOfSpec)

/-- ITS FALSE NEIGHBOUR: 'it returns false'. Refute it at one input. -/
def fnHighOfWrong : ChangeSpec := { name := "fnHighOf", fn := fun _ => fun
  | [d] => { results := [.lit (.bool false)], args := [d] }
  | _ => none }
def FnHighOfWrongFalsely : Prop := fnHighOfRow.holds Try.pinned (OpenSpec.ofChange fnHighOfWrong)

/-- 'laws.FnExactCountBits': WHATEVER THE INPUT: true; the input reads as it did. -/
def fnExactCountBitsSpec : ChangeSpec := { name := "fnExactCountBits", fn := fun _ => fun
  | [d1, d2] => { results := [.lit (.bool true)], args := [d1, d2] }
  | _ => none }
def fnExactCountBitsRow : OpenClaim := { program := "ytbcooikoaplhcaa", sum := "db7823681c3b55aa72b43fddceac79fd864aee31d83154c2503e98977bef932f", func := "loop.example/namedflags/laws.FnExactCountBits", spec := "fnExactCountBits", unfollowed := true, recurses := true, apart := false }
def FnExactCountBitsSaid : Prop := fnExactCountBitsRow.holds Try.pinned (OpenSpec.ofChange fnExactCountBitsSpec)

/-- ITS FALSE NEIGHBOUR: 'it returns false'. Refute it at one input. -/
def fnExactCountBitsWrong : ChangeSpec := { name := "fnExactCountBits", fn := fun _ => fun
  | [d1, d2] => { results := [.lit (.bool false)], args := [d1, d2] }
  | _ => none }
def FnExactCountBitsWrongFalsely : Prop := fnExactCountBitsRow.holds Try.pinned (OpenSpec.ofChange fnExactCountBitsWrong)

/-- 'laws.FnExactInvertValue': WHATEVER THE INPUT: true; the input reads as it did. -/
def fnExactInvertValueSpec : ChangeSpec := { name := "fnExactInvertValue", fn := fun _ => fun
  | [d1, d2] => { results := [.lit (.bool true)], args := [d1, d2] }
  | _ => none }
def fnExactInvertValueRow : OpenClaim := { program := "ytbcooikoaplhcaa", sum := "db7823681c3b55aa72b43fddceac79fd864aee31d83154c2503e98977bef932f", func := "loop.example/namedflags/laws.FnExactInvertValue", spec := "fnExactInvertValue", unfollowed := true, recurses := true, apart := false }
def FnExactInvertValueSaid : Prop := fnExactInvertValueRow.holds Try.pinned (OpenSpec.ofChange fnExactInvertValueSpec)

/-- ITS FALSE NEIGHBOUR: 'it returns false'. Refute it at one input. -/
def fnExactInvertValueWrong : ChangeSpec := { name := "fnExactInvertValue", fn := fun _ => fun
  | [d1, d2] => { results := [.lit (.bool false)], args := [d1, d2] }
  | _ => none }
def FnExactInvertValueWrongFalsely : Prop := fnExactInvertValueRow.holds Try.pinned (OpenSpec.ofChange fnExactInvertValueWrong)

/-- 'laws.FnInvertValueTwo': WHATEVER THE INPUT: true; the input reads as it did. -/
def fnInvertValueTwoSpec : ChangeSpec := { name := "fnInvertValueTwo", fn := fun _ => fun
  | [d] => { results := [.lit (.bool true)], args := [d] }
  | _ => none }
def fnInvertValueTwoRow : OpenClaim := { program := "ytbcooikoaplhcaa", sum := "db7823681c3b55aa72b43fddceac79fd864aee31d83154c2503e98977bef932f", func := "loop.example/namedflags/laws.FnInvertValueTwo", spec := "fnInvertValueTwo", unfollowed := true, recurses := true, apart := false }
def FnInvertValueTwoSaid : Prop := fnInvertValueTwoRow.holds Try.pinned (OpenSpec.ofChange fnInvertValueTwoSpec)

/-- ITS FALSE NEIGHBOUR: 'it returns false'. Refute it at one input. -/
def fnInvertValueTwoWrong : ChangeSpec := { name := "fnInvertValueTwo", fn := fun _ => fun
  | [d] => { results := [.lit (.bool false)], args := [d] }
  | _ => none }
def FnInvertValueTwoWrongFalsely : Prop := fnInvertValueTwoRow.holds Try.pinned (OpenSpec.ofChange fnInvertValueTwoWrong)

/-- 'laws.FnMakeValue': WHATEVER THE INPUT: true; the input reads as it did. -/
def fnMakeValueSpec : ChangeSpec := { name := "fnMakeValue", fn := fun _ => fun
  | [d] => { results := [.lit (.bool true)], args := [d] }
  | _ => none }
def fnMakeValueRow : OpenClaim := { program := "ytbcooikoaplhcaa", sum := "db7823681c3b55aa72b43fddceac79fd864aee31d83154c2503e98977bef932f", func := "loop.example/namedflags/laws.FnMakeValue", spec := "fnMakeValue", unfollowed := true, recurses := true, apart := false }
def FnMakeValueSaid : Prop := fnMakeValueRow.holds Try.pinned (OpenSpec.ofChange fnMakeValueSpec)

/-- ITS FALSE NEIGHBOUR: 'it returns false'. Refute it at one input. -/
def fnMakeValueWrong : ChangeSpec := { name := "fnMakeValue", fn := fun _ => fun
  | [d] => { results := [.lit (.bool false)], args := [d] }
  | _ => none }
def FnMakeValueWrongFalsely : Prop := fnMakeValueRow.holds Try.pinned (OpenSpec.ofChange fnMakeValueWrong)

/-- 'laws.FnMakeValueNot': WHATEVER THE INPUT: true; the input reads as it did. -/
def fnMakeValueNotSpec : ChangeSpec := { name := "fnMakeValueNot", fn := fun _ => fun
  | [d] => { results := [.lit (.bool true)], args := [d] }
  | _ => none }
def fnMakeValueNotRow : OpenClaim := { program := "ytbcooikoaplhcaa", sum := "db7823681c3b55aa72b43fddceac79fd864aee31d83154c2503e98977bef932f", func := "loop.example/namedflags/laws.FnMakeValueNot", spec := "fnMakeValueNot", unfollowed := true, recurses := true, apart := false }
def FnMakeValueNotSaid : Prop := fnMakeValueNotRow.holds Try.pinned (OpenSpec.ofChange fnMakeValueNotSpec)

/-- ITS FALSE NEIGHBOUR: 'it returns false'. Refute it at one input. -/
def fnMakeValueNotWrong : ChangeSpec := { name := "fnMakeValueNot", fn := fun _ => fun
  | [d] => { results := [.lit (.bool false)], args := [d] }
  | _ => none }
def FnMakeValueNotWrongFalsely : Prop := fnMakeValueNotRow.holds Try.pinned (OpenSpec.ofChange fnMakeValueNotWrong)

/-- 'laws.FnExactMakeValue': WHATEVER THE INPUT: true; the input reads as it did. -/
def fnExactMakeValueSpec : ChangeSpec := { name := "fnExactMakeValue", fn := fun _ => fun
  | [d1, d2] => { results := [.lit (.bool true)], args := [d1, d2] }
  | _ => none }
def fnExactMakeValueRow : OpenClaim := { program := "ytbcooikoaplhcaa", sum := "db7823681c3b55aa72b43fddceac79fd864aee31d83154c2503e98977bef932f", func := "loop.example/namedflags/laws.FnExactMakeValue", spec := "fnExactMakeValue", unfollowed := true, recurses := true, apart := false }
def FnExactMakeValueSaid : Prop := fnExactMakeValueRow.holds Try.pinned (OpenSpec.ofChange fnExactMakeValueSpec)

/-- ITS FALSE NEIGHBOUR: 'it returns false'. Refute it at one input. -/
def fnExactMakeValueWrong : ChangeSpec := { name := "fnExactMakeValue", fn := fun _ => fun
  | [d1, d2] => { results := [.lit (.bool false)], args := [d1, d2] }
  | _ => none }
def FnExactMakeValueWrongFalsely : Prop := fnExactMakeValueRow.holds Try.pinned (OpenSpec.ofChange fnExactMakeValueWrong)

/-- 'laws.FnExactComposedOf': WHATEVER THE INPUT: true; the input reads as it did. -/
def fnExactComposedOfSpec : ChangeSpec := { name := "fnExactComposedOf", fn := fun _ => fun
  | [d] => { results := [.lit (.bool true)], args := [d] }
  | _ => none }
def fnExactComposedOfRow : OpenClaim := { program := "ytbcooikoaplhcaa", sum := "db7823681c3b55aa72b43fddceac79fd864aee31d83154c2503e98977bef932f", func := "loop.example/namedflags/laws.FnExactComposedOf", spec := "fnExactComposedOf", unfollowed := true, recurses := true, apart := false }
def FnExactComposedOfSaid : Prop := fnExactComposedOfRow.holds Try.pinned (OpenSpec.ofChange fnExactComposedOfSpec)

/-- ITS FALSE NEIGHBOUR: 'it returns false'. Refute it at one input. -/
def fnExactComposedOfWrong : ChangeSpec := { name := "fnExactComposedOf", fn := fun _ => fun
  | [d] => { results := [.lit (.bool false)], args := [d] }
  | _ => none }
def FnExactComposedOfWrongFalsely : Prop := fnExactComposedOfRow.holds Try.pinned (OpenSpec.ofChange fnExactComposedOfWrong)

/-- 'laws.FnPartsOf': WHATEVER THE INPUT: true; the input reads as it did. -/
def fnPartsOfSpec : ChangeSpec := { name := "fnPartsOf", fn := fun _ => fun
  | [d] => { results := [.lit (.bool true)], args := [d] }
  | _ => none }
def fnPartsOfRow : OpenClaim := { program := "ytbcooikoaplhcaa", sum := "db7823681c3b55aa72b43fddceac79fd864aee31d83154c2503e98977bef932f", func := "loop.example/namedflags/laws.FnPartsOf", spec := "fnPartsOf", unfollowed := true, recurses := true, apart := false }
def FnPartsOfSaid : Prop := fnPartsOfRow.holds Try.pinned (OpenSpec.ofChange fnPartsOfSpec)

/-- ITS FALSE NEIGHBOUR: 'it returns false'. Refute it at one input. -/
def fnPartsOfWrong : ChangeSpec := { name := "fnPartsOf", fn := fun _ => fun
  | [d] => { results := [.lit (.bool false)], args := [d] }
  | _ => none }
def FnPartsOfWrongFalsely : Prop := fnPartsOfRow.holds Try.pinned (OpenSpec.ofChange fnPartsOfWrong)

/-- 'laws.FnMakeValueBounds': WHATEVER THE INPUT: true; the input reads as it did. -/
def fnMakeValueBoundsSpec : ChangeSpec := { name := "fnMakeValueBounds", fn := fun _ => fun
  | [d] => { results := [.lit (.bool true)], args := [d] }
  | _ => none }
def fnMakeValueBoundsRow : OpenClaim := { program := "ytbcooikoaplhcaa", sum := "db7823681c3b55aa72b43fddceac79fd864aee31d83154c2503e98977bef932f", func := "loop.example/namedflags/laws.FnMakeValueBounds", spec := "fnMakeValueBounds", unfollowed := true, recurses := true, apart := false }
def FnMakeValueBoundsSaid : Prop := fnMakeValueBoundsRow.holds Try.pinned (OpenSpec.ofChange fnMakeValueBoundsSpec)

/-- ITS FALSE NEIGHBOUR: 'it returns false'. Refute it at one input. -/
def fnMakeValueBoundsWrong : ChangeSpec := { name := "fnMakeValueBounds", fn := fun _ => fun
  | [d] => { results := [.lit (.bool false)], args := [d] }
  | _ => none }
def FnMakeValueBoundsWrongFalsely : Prop := fnMakeValueBoundsRow.holds Try.pinned (OpenSpec.ofChange fnMakeValueBoundsWrong)

/-- 'laws.FnInvertValue': WHATEVER THE INPUT: true; the input reads as it did. -/
def fnInvertValueSpec : ChangeSpec := { name := "fnInvertValue", fn := fun _ => fun
  | [d] => { results := [.lit (.bool true)], args := [d] }
  | _ => none }
def fnInvertValueRow : OpenClaim := { program := "ytbcooikoaplhcaa", sum := "db7823681c3b55aa72b43fddceac79fd864aee31d83154c2503e98977bef932f", func := "loop.example/namedflags/laws.FnInvertValue", spec := "fnInvertValue", unfollowed := true, recurses := true, apart := false }
def FnInvertValueSaid : Prop := fnInvertValueRow.holds Try.pinned (OpenSpec.ofChange fnInvertValueSpec)

/-- ITS FALSE NEIGHBOUR: 'it returns false'. Refute it at one input. -/
def fnInvertValueWrong : ChangeSpec := { name := "fnInvertValue", fn := fun _ => fun
  | [d] => { results := [.lit (.bool false)], args := [d] }
  | _ => none }
def FnInvertValueWrongFalsely : Prop := fnInvertValueRow.holds Try.pinned (OpenSpec.ofChange fnInvertValueWrong)

/-- 'laws.FnExactPartsOf': WHATEVER THE INPUT: true; the input reads as it did. -/
def fnExactPartsOfSpec : ChangeSpec := { name := "fnExactPartsOf", fn := fun _ => fun
  | [d1, d2] => { results := [.lit (.bool true)], args := [d1, d2] }
  | _ => none }
def fnExactPartsOfRow : OpenClaim := { program := "ytbcooikoaplhcaa", sum := "db7823681c3b55aa72b43fddceac79fd864aee31d83154c2503e98977bef932f", func := "loop.example/namedflags/laws.FnExactPartsOf", spec := "fnExactPartsOf", unfollowed := true, recurses := true, apart := false }
def FnExactPartsOfSaid : Prop := fnExactPartsOfRow.holds Try.pinned (OpenSpec.ofChange fnExactPartsOfSpec)

/-- ITS FALSE NEIGHBOUR: 'it returns false'. Refute it at one input. -/
def fnExactPartsOfWrong : ChangeSpec := { name := "fnExactPartsOf", fn := fun _ => fun
  | [d1, d2] => { results := [.lit (.bool false)], args := [d1, d2] }
  | _ => none }
def FnExactPartsOfWrongFalsely : Prop := fnExactPartsOfRow.holds Try.pinned (OpenSpec.ofChange fnExactPartsOfWrong)

/- THE SECOND FORM. 'bulk': how many values and letters a reading holds, each counted each time it is reached (what is shared counts as often as it is met; a slice's spare places count too). A statement '..UptoSaid' is the law's where the arguments, and the package variables that the reading takes, are together of bulk at most 1048576: NARROWER than '..Said'. Prove '..Said' where nothing that the law and all that it calls make is longer than what came in: it says more and counts as full. Else prove '..UptoSaid'. A law counts once. -/
mutual
def uptoBulk {H : Type} : DataW H → Nat
  | .lit (.string bytes) => bytes.length + 1
  | .lit _ => 1
  | .nil => 1
  | .ptr d => uptoBulk d + 1
  | .slice elems spare => uptoBulkAll elems + uptoBulkAll spare + 1
  | .agg parts => uptoBulkAll parts + 1
  | .iface _ d => uptoBulk d + 1
  | .map entries => uptoBulkEntries entries + 1
  | .held _ => 1
def uptoBulkAll {H : Type} : List (DataW H) → Nat
  | [] => 0
  | d :: r => uptoBulk d + uptoBulkAll r
def uptoBulkEntries {H : Type} : List (Lit × DataW H) → Nat
  | [] => 0
  | x :: r => uptoBulkEntry x + uptoBulkEntries r
def uptoBulkEntry {H : Type} : Lit × DataW H → Nat
  | (.string bytes, d) => bytes.length + uptoBulk d + 1
  | (_, d) => uptoBulk d + 1
 end
def uptoSmall : (H : Type) → List (DataW H) → Bool := fun _ ds => decide (uptoBulkAll ds ≤ 1048576)
def OpenSpec.upto (s : _root_.Go.ChangeSpec) : _root_.Go.OpenSpec := { _root_.Go.OpenSpec.ofChange s with cond := some uptoSmall }

/-- 'laws.FnHighOf', WHERE WHAT IT READS IS OF BULK AT MOST 1048576: true; the input reads as it did. -/
def fnHighOfUptoRow : OpenClaim := { program := "ytbcooikoaplhcaa", sum := "db7823681c3b55aa72b43fddceac79fd864aee31d83154c2503e98977bef932f", func := "loop.example/namedflags/laws.FnHighOf", spec := "fnHighOf", unfollowed := true, recurses := true, apart := false, narrowed := true }
def FnHighOfUptoSaid : Prop := fnHighOfUptoRow.holds Try.pinned (OpenSpec.upto fnHighOfSpec)

/-- 'laws.FnExactCountBits', WHERE WHAT IT READS IS OF BULK AT MOST 1048576: true; the input reads as it did. -/
def fnExactCountBitsUptoRow : OpenClaim := { program := "ytbcooikoaplhcaa", sum := "db7823681c3b55aa72b43fddceac79fd864aee31d83154c2503e98977bef932f", func := "loop.example/namedflags/laws.FnExactCountBits", spec := "fnExactCountBits", unfollowed := true, recurses := true, apart := false, narrowed := true }
def FnExactCountBitsUptoSaid : Prop := fnExactCountBitsUptoRow.holds Try.pinned (OpenSpec.upto fnExactCountBitsSpec)

/-- 'laws.FnExactInvertValue', WHERE WHAT IT READS IS OF BULK AT MOST 1048576: true; the input reads as it did. -/
def fnExactInvertValueUptoRow : OpenClaim := { program := "ytbcooikoaplhcaa", sum := "db7823681c3b55aa72b43fddceac79fd864aee31d83154c2503e98977bef932f", func := "loop.example/namedflags/laws.FnExactInvertValue", spec := "fnExactInvertValue", unfollowed := true, recurses := true, apart := false, narrowed := true }
def FnExactInvertValueUptoSaid : Prop := fnExactInvertValueUptoRow.holds Try.pinned (OpenSpec.upto fnExactInvertValueSpec)

/-- 'laws.FnInvertValueTwo', WHERE WHAT IT READS IS OF BULK AT MOST 1048576: true; the input reads as it did. -/
def fnInvertValueTwoUptoRow : OpenClaim := { program := "ytbcooikoaplhcaa", sum := "db7823681c3b55aa72b43fddceac79fd864aee31d83154c2503e98977bef932f", func := "loop.example/namedflags/laws.FnInvertValueTwo", spec := "fnInvertValueTwo", unfollowed := true, recurses := true, apart := false, narrowed := true }
def FnInvertValueTwoUptoSaid : Prop := fnInvertValueTwoUptoRow.holds Try.pinned (OpenSpec.upto fnInvertValueTwoSpec)

/-- 'laws.FnMakeValue', WHERE WHAT IT READS IS OF BULK AT MOST 1048576: true; the input reads as it did. -/
def fnMakeValueUptoRow : OpenClaim := { program := "ytbcooikoaplhcaa", sum := "db7823681c3b55aa72b43fddceac79fd864aee31d83154c2503e98977bef932f", func := "loop.example/namedflags/laws.FnMakeValue", spec := "fnMakeValue", unfollowed := true, recurses := true, apart := false, narrowed := true }
def FnMakeValueUptoSaid : Prop := fnMakeValueUptoRow.holds Try.pinned (OpenSpec.upto fnMakeValueSpec)

/-- 'laws.FnMakeValueNot', WHERE WHAT IT READS IS OF BULK AT MOST 1048576: true; the input reads as it did. -/
def fnMakeValueNotUptoRow : OpenClaim := { program := "ytbcooikoaplhcaa", sum := "db7823681c3b55aa72b43fddceac79fd864aee31d83154c2503e98977bef932f", func := "loop.example/namedflags/laws.FnMakeValueNot", spec := "fnMakeValueNot", unfollowed := true, recurses := true, apart := false, narrowed := true }
def FnMakeValueNotUptoSaid : Prop := fnMakeValueNotUptoRow.holds Try.pinned (OpenSpec.upto fnMakeValueNotSpec)

/-- 'laws.FnExactMakeValue', WHERE WHAT IT READS IS OF BULK AT MOST 1048576: true; the input reads as it did. -/
def fnExactMakeValueUptoRow : OpenClaim := { program := "ytbcooikoaplhcaa", sum := "db7823681c3b55aa72b43fddceac79fd864aee31d83154c2503e98977bef932f", func := "loop.example/namedflags/laws.FnExactMakeValue", spec := "fnExactMakeValue", unfollowed := true, recurses := true, apart := false, narrowed := true }
def FnExactMakeValueUptoSaid : Prop := fnExactMakeValueUptoRow.holds Try.pinned (OpenSpec.upto fnExactMakeValueSpec)

/-- 'laws.FnExactComposedOf', WHERE WHAT IT READS IS OF BULK AT MOST 1048576: true; the input reads as it did. -/
def fnExactComposedOfUptoRow : OpenClaim := { program := "ytbcooikoaplhcaa", sum := "db7823681c3b55aa72b43fddceac79fd864aee31d83154c2503e98977bef932f", func := "loop.example/namedflags/laws.FnExactComposedOf", spec := "fnExactComposedOf", unfollowed := true, recurses := true, apart := false, narrowed := true }
def FnExactComposedOfUptoSaid : Prop := fnExactComposedOfUptoRow.holds Try.pinned (OpenSpec.upto fnExactComposedOfSpec)

/-- 'laws.FnPartsOf', WHERE WHAT IT READS IS OF BULK AT MOST 1048576: true; the input reads as it did. -/
def fnPartsOfUptoRow : OpenClaim := { program := "ytbcooikoaplhcaa", sum := "db7823681c3b55aa72b43fddceac79fd864aee31d83154c2503e98977bef932f", func := "loop.example/namedflags/laws.FnPartsOf", spec := "fnPartsOf", unfollowed := true, recurses := true, apart := false, narrowed := true }
def FnPartsOfUptoSaid : Prop := fnPartsOfUptoRow.holds Try.pinned (OpenSpec.upto fnPartsOfSpec)

/-- 'laws.FnMakeValueBounds', WHERE WHAT IT READS IS OF BULK AT MOST 1048576: true; the input reads as it did. -/
def fnMakeValueBoundsUptoRow : OpenClaim := { program := "ytbcooikoaplhcaa", sum := "db7823681c3b55aa72b43fddceac79fd864aee31d83154c2503e98977bef932f", func := "loop.example/namedflags/laws.FnMakeValueBounds", spec := "fnMakeValueBounds", unfollowed := true, recurses := true, apart := false, narrowed := true }
def FnMakeValueBoundsUptoSaid : Prop := fnMakeValueBoundsUptoRow.holds Try.pinned (OpenSpec.upto fnMakeValueBoundsSpec)

/-- 'laws.FnInvertValue', WHERE WHAT IT READS IS OF BULK AT MOST 1048576: true; the input reads as it did. -/
def fnInvertValueUptoRow : OpenClaim := { program := "ytbcooikoaplhcaa", sum := "db7823681c3b55aa72b43fddceac79fd864aee31d83154c2503e98977bef932f", func := "loop.example/namedflags/laws.FnInvertValue", spec := "fnInvertValue", unfollowed := true, recurses := true, apart := false, narrowed := true }
def FnInvertValueUptoSaid : Prop := fnInvertValueUptoRow.holds Try.pinned (OpenSpec.upto fnInvertValueSpec)

/-- 'laws.FnExactPartsOf', WHERE WHAT IT READS IS OF BULK AT MOST 1048576: true; the input reads as it did. -/
def fnExactPartsOfUptoRow : OpenClaim := { program := "ytbcooikoaplhcaa", sum := "db7823681c3b55aa72b43fddceac79fd864aee31d83154c2503e98977bef932f", func := "loop.example/namedflags/laws.FnExactPartsOf", spec := "fnExactPartsOf", unfollowed := true, recurses := true, apart := false, narrowed := true }
def FnExactPartsOfUptoSaid : Prop := fnExactPartsOfUptoRow.holds Try.pinned (OpenSpec.upto fnExactPartsOfSpec)

end Rows
end Go.Proofs.Ytbcooikoaplhcaa
