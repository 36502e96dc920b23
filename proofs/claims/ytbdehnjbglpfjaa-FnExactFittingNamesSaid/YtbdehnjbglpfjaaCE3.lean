/- Contracts: names of members, other names. No condition. -/
import Derived.Test.YtbdehnjbglpfjaaCE2
set_option linter.unusedSimpArgs false
set_option linter.unusedVariables false
namespace Go.Proofs.Ytbdehnjbglpfjaa
open Go Go.RowKit

/-- How a list of texts that may be none is handed back. -/
def sOut (ν : Nat) (cap : Nat → Option Nat) : Option (List ByteArray) → AV
  | some l => .sl ν 0 l.length (cap l.length) 1
  | none => nilA
def dOutS (ν : Nat) : Option (List ByteArray) → Sto
  | some l => upd noS ν (blkS l)
  | none => noS
theorem sOut_some (ν : Nat) (cap : Nat → Option Nat) (l : List ByteArray) : sOut ν cap (some l) = .sl ν 0 l.length (cap l.length) 1 := by simp only [sOut]
theorem sOut_none (ν : Nat) (cap : Nat → Option Nat) : sOut ν cap none = nilA := by simp only [sOut]
theorem dOutS_some (ν : Nat) (l : List ByteArray) : dOutS ν (some l) = upd noS ν (blkS l) := by simp only [dOutS]
theorem dOutS_none (ν : Nat) : dOutS ν none = noS := by simp only [dOutS]
def mnO (ds : List Df) : Option (List ByteArray) := if okDs (-1000) 1000 ds = true then some (nmF (fun _ => true) (memF ds)) else none

end Go.Proofs.Ytbdehnjbglpfjaa
