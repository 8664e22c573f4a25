import Derived.Test.YtcclbkkgpcpikaaH4
import Derived.Test.YtcclbkkgpcpikaaH6
set_option linter.unusedSimpArgs false
set_option linter.unusedVariables false
namespace Go.Proofs.Ytcclbkkgpcpikaa
open Go.Am
set_option maxRecDepth 100000
end Go.Proofs.Ytcclbkkgpcpikaa
