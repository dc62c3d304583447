/- The inner functions of fixnum (times, over, next, below, word) return what the integers say, for words. -/
import Derived.Test.YtnbeejgppooamaaDiv
import Derived.Test.YtnbeejgppooamaaFixSpec
import Derived.Shelf.Spec.BitsCarry
set_option linter.unusedVariables false
set_option linter.unusedSimpArgs false
namespace Go.Proofs.Ytnbeejgppooamaa
open Go.RowKit

theorem mul64_any (a b : Int) (ha : Word a) (hb : Word b) (w : World) :
    Calls Try.prog 104 #[.int .u64 a, .int .u64 b] w fun e w' => e = .returned (.tuple #[.int .u64 (hiN a b), .int .u64 (loN a b)]) ∧ w = w' := by
  obtain ⟨a, rfl⟩ := Int.eq_ofNat_of_zero_le ha.1
  obtain ⟨b, rfl⟩ := Int.eq_ofNat_of_zero_le hb.1
  refine (Try.bits_Mul64 a b (by have := ha.2; omega) (by have := hb.2; omega) w).mono fun e w' ⟨he, hw⟩ => ⟨?_, hw.symm⟩
  rw [he]; unfold hiN loN; simp

theorem times_any (a b : Int) (ha : Word a) (hb : Word b) (w : World) :
    Calls Try.prog 97 #[.int .u64 a, .int .u64 b] w fun e w' => e = .returned (.agg #[.int .u64 (hiN a b), .int .u64 (loN a b)]) ∧ Ext w w' := by
  go_enter Try.func97, Try.ntmps97
  go_wp2_with (go_at_call 104; refine (mul64_any a b ha hb _).mono ?_; rintro e w' ⟨rfl, rfl⟩)
  simp [bodyPost, results, Try.results97, go_sem]
  exact (by repeat (first | assumption | exact Ext.refl _ | refine Ext.drew ?_ | refine Ext.drewN ?_ _ | refine Ext.alloc ?_ _ | refine Ext.setCell ?_ (by first | omega | (simp; done) | (simp; omega)) _ | refine Ext.trans ?_ (by assumption)))
theorem word_ok (l : Int) (w : World) :
    Calls Try.prog 99 #[.agg #[.int .u64 0, .int .u64 l]] w fun e w' => e = .returned (.tuple #[.int .u64 l, .int .i64 0]) ∧ Ext w w' := by
  go_enter Try.func99, Try.ntmps99
  go_wp2
  go_ret2
  exact ⟨rfl, (by repeat (first | assumption | exact Ext.refl _ | refine Ext.drew ?_ | refine Ext.drewN ?_ _ | refine Ext.alloc ?_ _ | refine Ext.setCell ?_ (by first | omega | (simp; done) | (simp; omega)) _ | refine Ext.trans ?_ (by assumption)))⟩
theorem word_no (h l : Int) (w : World) (hz : (h == 0) = false) :
    Calls Try.prog 99 #[.agg #[.int .u64 h, .int .u64 l]] w fun e w' => e = .returned (.tuple #[.int .u64 0, .int .i64 12]) ∧ Ext w w' := by
  go_enter Try.func99, Try.ntmps99
  go_wp2
  go_ret2
  exact ⟨rfl, (by repeat (first | assumption | exact Ext.refl _ | refine Ext.drew ?_ | refine Ext.drewN ?_ _ | refine Ext.alloc ?_ _ | refine Ext.setCell ?_ (by first | omega | (simp; done) | (simp; omega)) _ | refine Ext.trans ?_ (by assumption)))⟩
/-- a word, whatever the high part: said of the number -/
theorem word_any (h l : Int) (hh : 0 ≤ h) (hl : Word l) (w : World) :
    Calls Try.prog 99 #[.agg #[.int .u64 h, .int .u64 l]] w fun e w' =>
      e = .returned (.tuple #[.int .u64 (if h * 18446744073709551616 + l < 18446744073709551616 then h * 18446744073709551616 + l else 0), .int .i64 (if h * 18446744073709551616 + l < 18446744073709551616 then 0 else 12)]) ∧ Ext w w' := by
  have := hl.1
  have := hl.2
  by_cases hz : h = 0
  · subst hz
    refine (word_ok l w).mono fun e w' ⟨he, hw⟩ => ⟨?_, hw⟩
    rw [he, if_pos (by omega), if_pos (by omega)]
    exact ret_two (by omega) rfl
  · refine (word_no h l w (by simpa using hz)).mono fun e w' ⟨he, hw⟩ => ⟨?_, hw⟩
    rw [he, if_neg (by omega), if_neg (by omega)]
theorem over_any (h l c : Int) (hh : Word h) (hl : Word l) (hc : 0 < c) (hc1 : c < 18446744073709551616) (w : World) :
    Calls Try.prog 98 #[.agg #[.int .u64 h, .int .u64 l], .int .u64 c] w fun e w' =>
      e = .returned (.tuple #[.agg #[.int .u64 (h / c), .int .u64 ((h % c * 18446744073709551616 + l) / c)], .int .u64 ((h % c * 18446744073709551616 + l) % c)]) ∧ Ext w w' := by
  obtain ⟨h1, h2⟩ := hh
  obtain ⟨l1, l2⟩ := hl
  have m1 := Int.emod_nonneg h (by omega : c ≠ 0)
  have m2 := Int.emod_lt_of_pos h hc
  have q1 : 0 ≤ h / c := Int.ediv_nonneg h1 (by omega)
  have q2 : h / c ≤ h := Int.ediv_le_self c h1
  go_enter Try.func98, Try.ntmps98
  go_wp2
  go_quiet ((go_at_call 105; refine Calls.quiet_of (div64_any (h % c) l c m1 m2 hc1 l1 l2 _)))
  go_wp2
  simp [bodyPost, results, Try.results98, go_sem]
  exact (by repeat (first | assumption | exact Ext.refl _ | refine Ext.drew ?_ | refine Ext.drewN ?_ _ | refine Ext.alloc ?_ _ | refine Ext.setCell ?_ (by first | omega | (simp; done) | (simp; omega)) _ | refine Ext.trans ?_ (by assumption)))

theorem add64_run (x y c : Int) (hx : 0 ≤ x) (hy : 0 ≤ y) (hc0 : 0 ≤ c) (hc : c ≤ 1) (w : World) : (callFunc 100 #[.int .u64 x, .int .u64 y, .int .u64 c]).run Try.prog w =
    .ok (.value (.tuple #[.int .u64 ((x + y + c) % 18446744073709551616), .int .u64 ((x + y + c) / 18446744073709551616)])) w := by
  obtain ⟨x, rfl⟩ := Int.eq_ofNat_of_zero_le hx
  obtain ⟨y, rfl⟩ := Int.eq_ofNat_of_zero_le hy
  obtain ⟨c, rfl⟩ := Int.eq_ofNat_of_zero_le hc0
  have h : c = 0 ∨ c = 1 := by omega
  rw [run_callFunc_extern Try.func100 (by kernel_rfl) (by kernel_rfl) (by kernel_rfl) (e := add64Entry) (by kernel_rfl), run_add64 x y c (by omega) (by omega) (by omega) (by omega)]
  simp only [Result.andThen]
  try (congr 5 <;> omega)
theorem add64_0 (x y : Int) (hx : 0 ≤ x) (hy : 0 ≤ y) (w : World) : (callFunc 100 #[.int .u64 x, .int .u64 y, .int .u64 0]).run Try.prog w =
    .ok (.value (.tuple #[.int .u64 ((x + y) % 18446744073709551616), .int .u64 ((x + y) / 18446744073709551616)])) w := by
  simpa using add64_run x y 0 hx hy (Int.le_refl 0) (by decide) w
def bor (x y : Int) : Int := if x < y then 1 else 0
theorem bor_01 (x y : Int) : 0 ≤ bor x y ∧ bor x y ≤ 1 := by unfold bor; split <;> decide
end Go.Proofs.Ytnbeejgppooamaa
