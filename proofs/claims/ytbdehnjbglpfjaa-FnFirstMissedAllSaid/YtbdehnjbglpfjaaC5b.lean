/- Contracts of the reference: a definition left out. No condition. -/
import Derived.Test.YtbdehnjbglpfjaaLC
set_option linter.unusedSimpArgs false
set_option linter.unusedVariables false
namespace Go.Proofs.Ytbdehnjbglpfjaa
open Go Go.RowKit

end Go.Proofs.Ytbdehnjbglpfjaa
