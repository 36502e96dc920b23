/- Contracts: values of names, members of values; the reference's searches. No condition. -/
import Derived.Test.YtbcooikoaplhcaaLC
set_option linter.unusedSimpArgs false
set_option linter.unusedVariables false
namespace Go.Proofs.Ytbcooikoaplhcaa
open Go Go.RowKit
end Go.Proofs.Ytbcooikoaplhcaa
