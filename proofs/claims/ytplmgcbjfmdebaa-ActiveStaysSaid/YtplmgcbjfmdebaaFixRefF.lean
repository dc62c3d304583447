/- The reference's Add, Sub, Mul, MulDiv, MulDivUp, Rest, Capped, Part return what the integers say, for words. -/
import Derived.Test.YtplmgcbjfmdebaaFixDivide
set_option linter.unusedVariables false
set_option linter.unusedSimpArgs false
namespace Go.Proofs.Ytplmgcbjfmdebaa
open Go.RowKit RefMath

def dqN (a b c : Int) : Int := a * b / c % 18446744073709551616
def dqO (a b c : Int) : Bool := decide (18446744073709551616 ≤ a * b / c)
theorem rAdd_any (a b : Int) (ha : Word a) (hb : Word b) (w : World) :
    Calls Try.prog 50 #[.int .u64 a, .int .u64 b] w fun e w' => e = .returned (.tuple #[.int .u64 (addN a b), .int .i64 (addE a b)]) ∧ w = w' := by
  obtain ⟨a1, a2⟩ := ha
  obtain ⟨b1, b2⟩ := hb
  by_cases h : a + b < 18446744073709551616
  · have e1 : addN a b = a + b := if_pos h
    have e2 : addE a b = 0 := if_pos h
    rw [e1, e2]
    clear e1 e2
    have h' : ¬ 18446744073709551615 - b < a := by omega
    go_enter Try.func50, Try.ntmps50
    go_wp2
    go_ret2
    exact ⟨rfl, rfl⟩
  · have e1 : addN a b = 0 := if_neg h
    have e2 : addE a b = 12 := if_neg h
    rw [e1, e2]
    clear e1 e2
    have h' : 18446744073709551615 - b < a := by omega
    go_enter Try.func50, Try.ntmps50
    go_wp2
    go_ret2
    exact ⟨rfl, rfl⟩
end Go.Proofs.Ytplmgcbjfmdebaa
