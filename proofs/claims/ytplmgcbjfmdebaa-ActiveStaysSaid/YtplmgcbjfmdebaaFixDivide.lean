/- The reference's Divide returns quotient, whether it is over, and rest, for words, the divisor not 0. -/
import Derived.Test.YtplmgcbjfmdebaaFixRef
import Derived.Test.YtplmgcbjfmdebaaFixDivideMath
set_option linter.unusedVariables false
set_option linter.unusedSimpArgs false
namespace Go.Proofs.Ytplmgcbjfmdebaa
open Go.RowKit RefMath

end Go.Proofs.Ytplmgcbjfmdebaa
