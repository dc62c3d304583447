/- The exported functions of fixnum (Add to Cmp, but Sum) return what the integers say, for words. -/
import Derived.Test.YtplmgcbjfmdebaaFixP
set_option linter.unusedVariables false
set_option linter.unusedSimpArgs false
namespace Go.Proofs.Ytplmgcbjfmdebaa
open Go.RowKit

theorem word_mod_lt {n c : Int} (hc : 0 < c) (hc1 : c < 18446744073709551616) : Word (n % c) := by
  have m1 := Int.emod_nonneg n (by omega : c ≠ 0)
  have m2 := Int.emod_lt_of_pos n hc
  exact ⟨m1, by omega⟩
theorem two_words {h l x y : Int} (hl : Word l) (hy : Word y) : h * 18446744073709551616 + l = x * 18446744073709551616 + y ↔ h = x ∧ l = y := by
  have := hl.1; have := hl.2; have := hy.1; have := hy.2
  omega
end Go.Proofs.Ytplmgcbjfmdebaa
