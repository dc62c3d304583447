/- The reference's Wide returns the two words of the product, for words. -/
import Derived.Test.YtplmgcbjfmdebaaFixF
import Derived.Test.YtplmgcbjfmdebaaFixRefMath
set_option linter.unusedVariables false
set_option linter.unusedSimpArgs false
namespace Go.Proofs.Ytplmgcbjfmdebaa
open Go.RowKit RefMath

/-- a number that the walk sees as a plain integer, no cast -/
theorem plain (n : Nat) : ∃ x : Int, Hid (x = (n : Int)) ∧ 0 ≤ x := ⟨n, rfl, by omega⟩

end Go.Proofs.Ytplmgcbjfmdebaa
