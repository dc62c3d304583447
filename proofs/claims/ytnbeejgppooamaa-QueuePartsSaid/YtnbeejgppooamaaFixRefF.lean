/- The reference's Add, Sub, Mul, MulDiv, MulDivUp, Rest, Capped, Part return what the integers say, for words. -/
import Derived.Test.YtnbeejgppooamaaFixDivide
set_option linter.unusedVariables false
set_option linter.unusedSimpArgs false
namespace Go.Proofs.Ytnbeejgppooamaa
open Go.RowKit RefMath

def dqN (a b c : Int) : Int := a * b / c % 18446744073709551616
def dqO (a b c : Int) : Bool := decide (18446744073709551616 ≤ a * b / c)
theorem rDivide_any (a b c : Int) (ha : Word a) (hb : Word b) (hc : Word c) (hz : c ≠ 0) (w : World) :
    Calls Try.prog 101 #[.int .u64 a, .int .u64 b, .int .u64 c] w fun e w' =>
      e = .returned (.tuple #[.int .u64 (dqN a b c), .bool (dqO a b c), .int .u64 (a * b % c)]) ∧ w = w' := by
  obtain ⟨h1, h2⟩ := prod_bounds ha hb
  exact rDivide_nat (a * b).toNat c.toNat a b c ha hb (by have := hc.1; omega) (by have := hc.1; omega) hc.2 (by omega) w

theorem rAdd_any (a b : Int) (ha : Word a) (hb : Word b) (w : World) :
    Calls Try.prog 79 #[.int .u64 a, .int .u64 b] w fun e w' => e = .returned (.tuple #[.int .u64 (addN a b), .int .i64 (addE a b)]) ∧ w = w' := by
  obtain ⟨a1, a2⟩ := ha
  obtain ⟨b1, b2⟩ := hb
  by_cases h : a + b < 18446744073709551616
  · have e1 : addN a b = a + b := if_pos h
    have e2 : addE a b = 0 := if_pos h
    rw [e1, e2]
    clear e1 e2
    have h' : ¬ 18446744073709551615 - b < a := by omega
    go_enter Try.func79, Try.ntmps79
    go_wp2
    go_ret2
    exact ⟨rfl, rfl⟩
  · have e1 : addN a b = 0 := if_neg h
    have e2 : addE a b = 12 := if_neg h
    rw [e1, e2]
    clear e1 e2
    have h' : 18446744073709551615 - b < a := by omega
    go_enter Try.func79, Try.ntmps79
    go_wp2
    go_ret2
    exact ⟨rfl, rfl⟩
theorem rMulDiv_any (a b c : Int) (ha : Word a) (hb : Word b) (hc : Word c) (w : World) :
    Calls Try.prog 81 #[.int .u64 a, .int .u64 b, .int .u64 c] w fun e w' => e = .returned (.tuple #[.int .u64 (mdN a b c), .int .i64 (mdE a b c)]) ∧ w = w' := by
  by_cases hz : c = 0
  · subst hz
    go_enter Try.func81, Try.ntmps81
    go_wp2
    go_ret2
    exact ⟨rfl, rfl⟩
  · have W := rDivide_any a b c ha hb hc hz w
    have q0 : 0 ≤ a * b / c := Int.ediv_nonneg (prod_bounds ha hb).1 hc.1
    have hz' : (c == 0) = false := by simpa using hz
    by_cases h : a * b / c < 18446744073709551616
    · have e1 : mdN a b c = dqN a b c := by unfold mdN dqN; rw [if_neg hz, if_pos h]; omega
      have e2 : mdE a b c = 0 := by unfold mdE; rw [if_neg hz, if_pos h]
      have e3 : dqO a b c = false := by unfold dqO; simp; omega
      rw [e1, e2]
      rw [e3] at W
      have H := Lib.hid W
      clear W e1 e2 e3 h hz q0
      go_enter Try.func81, Try.ntmps81
      go_wp2_with (go_at_call 101; refine H.out.mono ?_; rintro e w' ⟨rfl, rfl⟩)
      go_ret2
      exact ⟨rfl, rfl⟩
    · have e1 : mdN a b c = 0 := by unfold mdN; rw [if_neg hz, if_neg h]
      have e2 : mdE a b c = 12 := by unfold mdE; rw [if_neg hz, if_neg h]
      have e3 : dqO a b c = true := by unfold dqO; simp; omega
      rw [e1, e2]
      rw [e3] at W
      have H := Lib.hid W
      clear W e1 e2 e3 h hz q0
      go_enter Try.func81, Try.ntmps81
      go_wp2_with (go_at_call 101; refine H.out.mono ?_; rintro e w' ⟨rfl, rfl⟩)
      go_ret2
      exact ⟨rfl, rfl⟩
theorem rPart_any (a p : Int) (ha : Word a) (hp : Word p) (w : World) :
    Calls Try.prog 51 #[.int .u64 a, .int .u64 p] w fun e w' => e = .returned (.tuple #[.int .u64 (paN a p), .int .i64 (paE a p)]) ∧ w = w' := by
  by_cases h : 1000000000 < p
  · have e1 : paN a p = 0 := if_pos h
    have e2 : paE a p = 3 := if_pos h
    rw [e1, e2]
    clear e1 e2
    go_enter Try.func51, Try.ntmps51
    go_wp2
    go_ret2
    exact ⟨rfl, rfl⟩
  · have e1 : paN a p = mdN a p 1000000000 := if_neg h
    have e2 : paE a p = mdE a p 1000000000 := if_neg h
    rw [e1, e2]
    have W := Lib.hid (rMulDiv_any a p 1000000000 ha hp ⟨by decide, by decide⟩ w)
    clear e1 e2
    go_enter Try.func51, Try.ntmps51
    go_wp2_with (go_at_call 81; refine W.out.mono ?_; rintro e w' ⟨rfl, rfl⟩)
    go_ret2
    exact ⟨rfl, rfl⟩
end Go.Proofs.Ytnbeejgppooamaa
