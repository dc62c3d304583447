/- The exported functions of fixnum (Add to Cmp, but Sum) return what the integers say, for words. -/
import Derived.Test.YtnbeejgppooamaaFixP
set_option linter.unusedVariables false
set_option linter.unusedSimpArgs false
namespace Go.Proofs.Ytnbeejgppooamaa
open Go.RowKit

theorem fAdd_any (a b : Int) (ha : Word a) (hb : Word b) (w : World) :
    Calls Try.prog 77 #[.int .u64 a, .int .u64 b] w fun e w' => e = .returned (.tuple #[.int .u64 (addN a b), .int .i64 (addE a b)]) ∧ Ext w w' := by
  obtain ⟨a1, a2⟩ := ha
  obtain ⟨b1, b2⟩ := hb
  by_cases h : a + b < 18446744073709551616
  · have e1 : addN a b = a + b := if_pos h
    have e2 : addE a b = 0 := if_pos h
    rw [e1, e2]
    have d1 : (a + b) / 18446744073709551616 = 0 := by omega
    have d2 : (a + b) % 18446744073709551616 = a + b := by omega
    clear e1 e2
    go_enter Try.func77, Try.ntmps77
    go_wp2_with (simp only [add64_0 a b a1 b1, d1, d2])
    go_ret2
    exact ⟨rfl, (by repeat (first | assumption | exact Ext.refl _ | refine Ext.drew ?_ | refine Ext.drewN ?_ _ | refine Ext.alloc ?_ _ | refine Ext.setCell ?_ (by first | omega | (simp; done) | (simp; omega)) _ | refine Ext.trans ?_ (by assumption)))⟩
  · have e1 : addN a b = 0 := if_neg h
    have e2 : addE a b = 12 := if_neg h
    rw [e1, e2]
    have d1 : (a + b) / 18446744073709551616 = 1 := by omega
    clear e1 e2
    go_enter Try.func77, Try.ntmps77
    go_wp2_with (simp only [add64_0 a b a1 b1, d1])
    go_ret2
    exact ⟨rfl, (by repeat (first | assumption | exact Ext.refl _ | refine Ext.drew ?_ | refine Ext.drewN ?_ _ | refine Ext.alloc ?_ _ | refine Ext.setCell ?_ (by first | omega | (simp; done) | (simp; omega)) _ | refine Ext.trans ?_ (by assumption)))⟩
theorem fMulDiv_any (a b c : Int) (ha : Word a) (hb : Word b) (hc : Word c) (w : World) :
    Calls Try.prog 74 #[.int .u64 a, .int .u64 b, .int .u64 c] w fun e w' => e = .returned (.tuple #[.int .u64 (mdN a b c), .int .i64 (mdE a b c)]) ∧ Ext w w' := by
  by_cases hz : c = 0
  · subst hz
    go_enter Try.func74, Try.ntmps74
    go_wp2
    go_ret2
    exact ⟨rfl, (by repeat (first | assumption | exact Ext.refl _ | refine Ext.drew ?_ | refine Ext.drewN ?_ _ | refine Ext.alloc ?_ _ | refine Ext.setCell ?_ (by first | omega | (simp; done) | (simp; omega)) _ | refine Ext.trans ?_ (by assumption)))⟩
  · have hc0 : 0 < c := by have := hc.1; omega
    obtain ⟨q1, q2, q3⟩ := quo_hi (h := hiN a b) hc0 (word_hi ha hb).1 (word_lo a b)
    rw [hi_lo] at q1
    have q4 : 0 ≤ hiN a b / c := Int.ediv_nonneg (word_hi ha hb).1 (by omega)
    have W := word_any (hiN a b / c) _ q4 q3
    rw [← q1] at W
    have e1 : mdN a b c = if a * b / c < 18446744073709551616 then a * b / c else 0 := if_neg hz
    have e2 : mdE a b c = if a * b / c < 18446744073709551616 then 0 else 12 := if_neg hz
    rw [← e1, ← e2] at W
    have H := Lib.hid W
    clear e1 e2 W q1 q2 q3 q4
    go_enter Try.func74, Try.ntmps74
    go_wp2_with (first
      | (go_at_call 97; refine (times_any a b ha hb _).mono ?_; rintro e w' ⟨rfl, hx1⟩)
      | (go_at_call 98; refine (over_any _ _ c (word_hi ha hb) (word_lo a b) hc0 hc.2 _).mono ?_; rintro e w' ⟨rfl, hx2⟩)
      | (go_at_call 99; refine (H.out _).mono ?_; rintro e w' ⟨rfl, hx3⟩))
    go_ret2
    exact ⟨rfl, (by repeat (first | assumption | exact Ext.refl _ | refine Ext.drew ?_ | refine Ext.drewN ?_ _ | refine Ext.alloc ?_ _ | refine Ext.setCell ?_ (by first | omega | (simp; done) | (simp; omega)) _ | refine Ext.trans ?_ (by assumption)))⟩
theorem word_mod_lt {n c : Int} (hc : 0 < c) (hc1 : c < 18446744073709551616) : Word (n % c) := by
  have m1 := Int.emod_nonneg n (by omega : c ≠ 0)
  have m2 := Int.emod_lt_of_pos n hc
  exact ⟨m1, by omega⟩
theorem fPart_any (a p : Int) (ha : Word a) (hp : Word p) (w : World) :
    Calls Try.prog 41 #[.int .u64 a, .int .u64 p] w fun e w' => e = .returned (.tuple #[.int .u64 (paN a p), .int .i64 (paE a p)]) ∧ Ext w w' := by
  by_cases h : 1000000000 < p
  · have e1 : paN a p = 0 := if_pos h
    have e2 : paE a p = 3 := if_pos h
    rw [e1, e2]
    clear e1 e2
    go_enter Try.func41, Try.ntmps41
    go_wp2
    go_ret2
    exact ⟨rfl, (by repeat (first | assumption | exact Ext.refl _ | refine Ext.drew ?_ | refine Ext.drewN ?_ _ | refine Ext.alloc ?_ _ | refine Ext.setCell ?_ (by first | omega | (simp; done) | (simp; omega)) _ | refine Ext.trans ?_ (by assumption)))⟩
  · have e1 : paN a p = mdN a p 1000000000 := if_neg h
    have e2 : paE a p = mdE a p 1000000000 := if_neg h
    rw [e1, e2]
    clear e1 e2
    go_enter Try.func41, Try.ntmps41
    go_wp2_with ((go_at_call 74; refine (fMulDiv_any a p 1000000000 ha hp ⟨by decide, by decide⟩ _).mono ?_; rintro e w1 ⟨rfl, hx1⟩; (have hs1 := hx1.size); (try simp at hs1)))
    go_ret2
    exact ⟨rfl, (by repeat (first | assumption | exact Ext.refl _ | refine Ext.drew ?_ | refine Ext.drewN ?_ _ | refine Ext.alloc ?_ _ | refine Ext.setCell ?_ (by first | omega | (simp; done) | (simp; omega)) _ | refine Ext.trans ?_ (by assumption)))⟩
theorem two_words {h l x y : Int} (hl : Word l) (hy : Word y) : h * 18446744073709551616 + l = x * 18446744073709551616 + y ↔ h = x ∧ l = y := by
  have := hl.1; have := hl.2; have := hy.1; have := hy.2
  omega
end Go.Proofs.Ytnbeejgppooamaa
