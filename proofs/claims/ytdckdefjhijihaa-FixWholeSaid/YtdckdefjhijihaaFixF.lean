/- The exported functions of fixnum (Add to Cmp, but Sum) return what the integers say, for words. -/
import Derived.Test.YtdckdefjhijihaaFixP
set_option linter.unusedVariables false
set_option linter.unusedSimpArgs false
namespace Go.Proofs.Ytdckdefjhijihaa
open Go.RowKit

theorem fAdd_any (a b : Int) (ha : Word a) (hb : Word b) (w : World) :
    Calls Try.prog 16 #[.int .u64 a, .int .u64 b] w fun e w' => e = .returned (.tuple #[.int .u64 (addN a b), .int .i64 (addE a b)]) ∧ Ext w w' := by
  obtain ⟨a1, a2⟩ := ha
  obtain ⟨b1, b2⟩ := hb
  by_cases h : a + b < 18446744073709551616
  · have e1 : addN a b = a + b := if_pos h
    have e2 : addE a b = 0 := if_pos h
    rw [e1, e2]
    have d1 : (a + b) / 18446744073709551616 = 0 := by omega
    have d2 : (a + b) % 18446744073709551616 = a + b := by omega
    clear e1 e2
    go_enter Try.func16, Try.ntmps16
    go_wp2_with (simp only [add64_0 a b a1 b1, d1, d2])
    go_ret2
    exact ⟨rfl, (by repeat (first | assumption | exact Ext.refl _ | refine Ext.drew ?_ | refine Ext.drewN ?_ _ | refine Ext.alloc ?_ _ | refine Ext.setCell ?_ (by first | omega | (simp; done) | (simp; omega)) _ | refine Ext.trans ?_ (by assumption)))⟩
  · have e1 : addN a b = 0 := if_neg h
    have e2 : addE a b = 12 := if_neg h
    rw [e1, e2]
    have d1 : (a + b) / 18446744073709551616 = 1 := by omega
    clear e1 e2
    go_enter Try.func16, Try.ntmps16
    go_wp2_with (simp only [add64_0 a b a1 b1, d1])
    go_ret2
    exact ⟨rfl, (by repeat (first | assumption | exact Ext.refl _ | refine Ext.drew ?_ | refine Ext.drewN ?_ _ | refine Ext.alloc ?_ _ | refine Ext.setCell ?_ (by first | omega | (simp; done) | (simp; omega)) _ | refine Ext.trans ?_ (by assumption)))⟩
theorem fSub_any (a b : Int) (ha : Word a) (hb : Word b) (w : World) :
    Calls Try.prog 19 #[.int .u64 a, .int .u64 b] w fun e w' => e = .returned (.tuple #[.int .u64 (subN a b), .int .i64 (subE a b)]) ∧ Ext w w' := by
  obtain ⟨a1, a2⟩ := ha
  obtain ⟨b1, b2⟩ := hb
  by_cases h : b ≤ a
  · have e1 : subN a b = a - b := if_pos h
    have e2 : subE a b = 0 := if_pos h
    rw [e1, e2]
    clear e1 e2
    go_enter Try.func19, Try.ntmps19
    go_wp2
    go_ret2
    exact ⟨rfl, (by repeat (first | assumption | exact Ext.refl _ | refine Ext.drew ?_ | refine Ext.drewN ?_ _ | refine Ext.alloc ?_ _ | refine Ext.setCell ?_ (by first | omega | (simp; done) | (simp; omega)) _ | refine Ext.trans ?_ (by assumption)))⟩
  · have e1 : subN a b = 0 := if_neg h
    have e2 : subE a b = 13 := if_neg h
    rw [e1, e2]
    clear e1 e2
    go_enter Try.func19, Try.ntmps19
    go_wp2
    go_ret2
    exact ⟨rfl, (by repeat (first | assumption | exact Ext.refl _ | refine Ext.drew ?_ | refine Ext.drewN ?_ _ | refine Ext.alloc ?_ _ | refine Ext.setCell ?_ (by first | omega | (simp; done) | (simp; omega)) _ | refine Ext.trans ?_ (by assumption)))⟩
theorem fMul_any (a b : Int) (ha : Word a) (hb : Word b) (w : World) :
    Calls Try.prog 21 #[.int .u64 a, .int .u64 b] w fun e w' => e = .returned (.tuple #[.int .u64 (mulN a b), .int .i64 (mulE a b)]) ∧ Ext w w' := by
  have e1 : mulN a b = if hiN a b * 18446744073709551616 + loN a b < 18446744073709551616 then hiN a b * 18446744073709551616 + loN a b else 0 := by rw [hi_lo]; rfl
  have e2 : mulE a b = if hiN a b * 18446744073709551616 + loN a b < 18446744073709551616 then 0 else 12 := by rw [hi_lo]; rfl
  have W := word_any (hiN a b) (loN a b) (word_hi ha hb).1 (word_lo a b)
  rw [← e1, ← e2] at W
  have H := Lib.hid W
  clear e1 e2 W
  go_enter Try.func21, Try.ntmps21
  go_wp2_with (first
    | (go_at_call 75; refine (times_any a b ha hb _).mono ?_; rintro e w' ⟨rfl, hx1⟩)
    | (go_at_call 76; refine (H.out _).mono ?_; rintro e w' ⟨rfl, hx2⟩))
  go_ret2
  exact ⟨rfl, (by repeat (first | assumption | exact Ext.refl _ | refine Ext.drew ?_ | refine Ext.drewN ?_ _ | refine Ext.alloc ?_ _ | refine Ext.setCell ?_ (by first | omega | (simp; done) | (simp; omega)) _ | refine Ext.trans ?_ (by assumption)))⟩
theorem fWide_any (a b : Int) (ha : Word a) (hb : Word b) (w : World) :
    Calls Try.prog 25 #[.int .u64 a, .int .u64 b] w fun e w' => e = .returned (.tuple #[.int .u64 (hiN a b), .int .u64 (loN a b)]) ∧ Ext w w' := by
  go_enter Try.func25, Try.ntmps25
  go_wp2_with (go_at_call 75; refine (times_any a b ha hb _).mono ?_; rintro e w1 ⟨rfl, hx1⟩)
  go_quiet (fail)
  go_wp2
  go_ret2
  exact ⟨rfl, (by repeat (first | assumption | exact Ext.refl _ | refine Ext.drew ?_ | refine Ext.drewN ?_ _ | refine Ext.alloc ?_ _ | refine Ext.setCell ?_ (by first | omega | (simp; done) | (simp; omega)) _ | refine Ext.trans ?_ (by assumption)))⟩
theorem fMulDiv_any (a b c : Int) (ha : Word a) (hb : Word b) (hc : Word c) (w : World) :
    Calls Try.prog 27 #[.int .u64 a, .int .u64 b, .int .u64 c] w fun e w' => e = .returned (.tuple #[.int .u64 (mdN a b c), .int .i64 (mdE a b c)]) ∧ Ext w w' := by
  by_cases hz : c = 0
  · subst hz
    go_enter Try.func27, Try.ntmps27
    go_wp2
    go_ret2
    exact ⟨rfl, (by repeat (first | assumption | exact Ext.refl _ | refine Ext.drew ?_ | refine Ext.drewN ?_ _ | refine Ext.alloc ?_ _ | refine Ext.setCell ?_ (by first | omega | (simp; done) | (simp; omega)) _ | refine Ext.trans ?_ (by assumption)))⟩
  · have hc0 : 0 < c := by have := hc.1; omega
    obtain ⟨q1, q2, q3⟩ := quo_hi (h := hiN a b) hc0 (word_hi ha hb).1 (word_lo a b)
    rw [hi_lo] at q1
    have q4 : 0 ≤ hiN a b / c := Int.ediv_nonneg (word_hi ha hb).1 (by omega)
    have W := word_any (hiN a b / c) _ q4 q3
    rw [← q1] at W
    have e1 : mdN a b c = if a * b / c < 18446744073709551616 then a * b / c else 0 := if_neg hz
    have e2 : mdE a b c = if a * b / c < 18446744073709551616 then 0 else 12 := if_neg hz
    rw [← e1, ← e2] at W
    have H := Lib.hid W
    clear e1 e2 W q1 q2 q3 q4
    go_enter Try.func27, Try.ntmps27
    go_wp2_with (first
      | (go_at_call 75; refine (times_any a b ha hb _).mono ?_; rintro e w' ⟨rfl, hx1⟩)
      | (go_at_call 78; refine (over_any _ _ c (word_hi ha hb) (word_lo a b) hc0 hc.2 _).mono ?_; rintro e w' ⟨rfl, hx2⟩)
      | (go_at_call 76; refine (H.out _).mono ?_; rintro e w' ⟨rfl, hx3⟩))
    go_ret2
    exact ⟨rfl, (by repeat (first | assumption | exact Ext.refl _ | refine Ext.drew ?_ | refine Ext.drewN ?_ _ | refine Ext.alloc ?_ _ | refine Ext.setCell ?_ (by first | omega | (simp; done) | (simp; omega)) _ | refine Ext.trans ?_ (by assumption)))⟩
theorem word_mod_lt {n c : Int} (hc : 0 < c) (hc1 : c < 18446744073709551616) : Word (n % c) := by
  have m1 := Int.emod_nonneg n (by omega : c ≠ 0)
  have m2 := Int.emod_lt_of_pos n hc
  exact ⟨m1, by omega⟩
theorem fRest_any (a b c : Int) (ha : Word a) (hb : Word b) (hc : Word c) (w : World) :
    Calls Try.prog 31 #[.int .u64 a, .int .u64 b, .int .u64 c] w fun e w' => e = .returned (.tuple #[.int .u64 (reN a b c), .int .i64 (reE c)]) ∧ Ext w w' := by
  by_cases hz : c = 0
  · subst hz
    go_enter Try.func31, Try.ntmps31
    go_wp2
    go_ret2
    exact ⟨rfl, (by repeat (first | assumption | exact Ext.refl _ | refine Ext.drew ?_ | refine Ext.drewN ?_ _ | refine Ext.alloc ?_ _ | refine Ext.setCell ?_ (by first | omega | (simp; done) | (simp; omega)) _ | refine Ext.trans ?_ (by assumption)))⟩
  · have hc0 : 0 < c := by have := hc.1; omega
    obtain ⟨q1, q2, q3⟩ := quo_hi (h := hiN a b) hc0 (word_hi ha hb).1 (word_lo a b)
    rw [hi_lo] at q2
    have e1 : reN a b c = (hiN a b % c * 18446744073709551616 + loN a b) % c := by rw [← q2]; exact if_neg hz
    have e2 : reE c = 0 := if_neg hz
    rw [e1, e2]
    clear e1 e2 q1 q2 q3
    have hz' : (c == 0) = false := by simpa using hz
    go_enter Try.func31, Try.ntmps31
    go_wp2_with (first
      | (go_at_call 75; refine (times_any a b ha hb _).mono ?_; rintro e w' ⟨rfl, hx1⟩)
      | (go_at_call 78; refine (over_any _ _ c (word_hi ha hb) (word_lo a b) hc0 hc.2 _).mono ?_; rintro e w' ⟨rfl, hx2⟩))
    go_ret2
    exact ⟨rfl, (by repeat (first | assumption | exact Ext.refl _ | refine Ext.drew ?_ | refine Ext.drewN ?_ _ | refine Ext.alloc ?_ _ | refine Ext.setCell ?_ (by first | omega | (simp; done) | (simp; omega)) _ | refine Ext.trans ?_ (by assumption)))⟩

/-- the whole number above, in two words, from the one below -/
theorem fMulDivUp_any (a b c : Int) (ha : Word a) (hb : Word b) (hc : Word c) (w : World) :
    Calls Try.prog 29 #[.int .u64 a, .int .u64 b, .int .u64 c] w fun e w' => e = .returned (.tuple #[.int .u64 (muN a b c), .int .i64 (muE a b c)]) ∧ Ext w w' := by
  by_cases hz : c = 0
  · subst hz
    go_enter Try.func29, Try.ntmps29
    go_wp2
    go_ret2
    exact ⟨rfl, (by repeat (first | assumption | exact Ext.refl _ | refine Ext.drew ?_ | refine Ext.drewN ?_ _ | refine Ext.alloc ?_ _ | refine Ext.setCell ?_ (by first | omega | (simp; done) | (simp; omega)) _ | refine Ext.trans ?_ (by assumption)))⟩
  · have hc0 : 0 < c := by have := hc.1; omega
    obtain ⟨q1, q2, q3⟩ := quo_hi (h := hiN a b) hc0 (word_hi ha hb).1 (word_lo a b)
    rw [hi_lo] at q1 q2
    have q4 : 0 ≤ hiN a b / c := Int.ediv_nonneg (word_hi ha hb).1 (by omega)
    have q5 : hiN a b / c ≤ hiN a b := Int.ediv_le_self c (word_hi ha hb).1
    have q6 : hiN a b < 18446744073709551615 := by
      obtain ⟨_, h⟩ := prod_bounds ha hb
      unfold hiN; omega
    have e1 : muN a b c = if upQ a b c < 18446744073709551616 then upQ a b c else 0 := if_neg hz
    have e2 : muE a b c = if upQ a b c < 18446744073709551616 then 0 else 12 := if_neg hz
    have hz' : (c == 0) = false := by simpa using hz
    by_cases hr : (hiN a b % c * 18446744073709551616 + loN a b) % c = 0
    · have e3 : upQ a b c = a * b / c := if_pos (by rw [q2]; exact hr)
      have W := word_any (hiN a b / c) _ q4 q3
      rw [← q1, ← e3] at W
      rw [← e1, ← e2] at W
      have H := Lib.hid W
      have hr' : ((hiN a b % c * 18446744073709551616 + loN a b) % c == 0) = true := by simpa using hr
      have hr2 : ((hiN a b % c * 18446744073709551616 + loN a b) % c != 0) = false := by simpa using hr
      clear e1 e2 e3 W q1 q2 q3 q4 q5 q6 hr hz
      go_enter Try.func29, Try.ntmps29
      go_wp2_with (first
        | (go_at_call 75; refine (times_any a b ha hb _).mono ?_; rintro e w' ⟨rfl, hx1⟩)
        | (go_at_call 78; refine (over_any _ _ c (word_hi ha hb) (word_lo a b) hc0 hc.2 _).mono ?_; rintro e w' ⟨rfl, hx2⟩)
        | (go_at_call 76; refine (H.out _).mono ?_; rintro e w' ⟨rfl, hx3⟩))
      go_ret2
      exact ⟨rfl, (by repeat (first | assumption | exact Ext.refl _ | refine Ext.drew ?_ | refine Ext.drewN ?_ _ | refine Ext.alloc ?_ _ | refine Ext.setCell ?_ (by first | omega | (simp; done) | (simp; omega)) _ | refine Ext.trans ?_ (by assumption)))⟩
    · have e3 : upQ a b c = (hiN a b / c + ((hiN a b % c * 18446744073709551616 + loN a b) / c + 1) / 18446744073709551616) * 18446744073709551616 + ((hiN a b % c * 18446744073709551616 + loN a b) / c + 1) % 18446744073709551616 := by
        unfold upQ
        rw [if_neg (by rw [q2]; exact hr), q1]
        generalize hiN a b / c = x at *
        generalize (hiN a b % c * 18446744073709551616 + loN a b) / c = y at *
        omega
      have W := word_any (hiN a b / c + ((hiN a b % c * 18446744073709551616 + loN a b) / c + 1) / 18446744073709551616) (((hiN a b % c * 18446744073709551616 + loN a b) / c + 1) % 18446744073709551616)
        (by have := q3.1; generalize (hiN a b % c * 18446744073709551616 + loN a b) / c = y at *; omega) (word_mod _)
      rw [← e3, ← e1, ← e2] at W
      have H := Lib.hid W
      have Hn := Lib.hid (next_any (hiN a b / c) _ q4 (by omega) q3)
      have hr2 : ((hiN a b % c * 18446744073709551616 + loN a b) % c != 0) = true := by simpa using hr
      clear e1 e2 e3 W q1 q2 q3 q4 q5 q6 hr hz
      go_enter Try.func29, Try.ntmps29
      go_wp2_with (first
        | (go_at_call 75; refine (times_any a b ha hb _).mono ?_; rintro e w1 ⟨rfl, hx1⟩; (have hs1 := hx1.size); (try simp at hs1))
        | (go_at_call 78; refine (over_any _ _ c (word_hi ha hb) (word_lo a b) hc0 hc.2 _).mono ?_; rintro e w2 ⟨rfl, hx2⟩; (have hs2 := hx2.size); (try simp at hs2))
        | (go_at_call 80; refine (Hn.out _).mono ?_; rintro e w3 ⟨rfl, hx3⟩; (have hs3 := hx3.size); (have hc3 := hx3.cells.1); (have hf3 := hx3.cells.2); (try simp at hs3))
        | (go_at_call 76; refine (H.out _).mono ?_; rintro e w4 ⟨rfl, hx4⟩; (have hs4 := hx4.size); (try simp at hs4)))
      go_ret2
      exact ⟨rfl, (by repeat (first | assumption | exact Ext.refl _ | refine Ext.drew ?_ | refine Ext.drewN ?_ _ | refine Ext.alloc ?_ _ | refine Ext.setCell ?_ (by first | omega | (simp; done) | (simp; omega)) _ | refine Ext.trans ?_ (by assumption)))⟩
theorem fCapped_any (m a b c : Int) (hm : Word m) (ha : Word a) (hb : Word b) (hc : Word c) (w : World) :
    Calls Try.prog 33 #[.int .u64 m, .int .u64 a, .int .u64 b, .int .u64 c] w fun e w' => e = .returned (.tuple #[.int .u64 (caN m a b c), .int .i64 (caE c)]) ∧ Ext w w' := by
  by_cases hz : c = 0
  · subst hz
    go_enter Try.func33, Try.ntmps33
    go_wp2
    go_ret2
    exact ⟨rfl, (by repeat (first | assumption | exact Ext.refl _ | refine Ext.drew ?_ | refine Ext.drewN ?_ _ | refine Ext.alloc ?_ _ | refine Ext.setCell ?_ (by first | omega | (simp; done) | (simp; omega)) _ | refine Ext.trans ?_ (by assumption)))⟩
  · have hc0 : 0 < c := by have := hc.1; omega
    obtain ⟨q1, q2, q3⟩ := quo_hi (h := hiN a b) hc0 (word_hi ha hb).1 (word_lo a b)
    rw [hi_lo] at q1
    have q4 : 0 ≤ hiN a b / c := Int.ediv_nonneg (word_hi ha hb).1 (by omega)
    have q5 : hiN a b / c ≤ hiN a b := Int.ediv_le_self c (word_hi ha hb).1
    have q6 : Word (hiN a b / c) := ⟨q4, by have := (word_hi ha hb).2; omega⟩
    have B := below_any 0 m _ _ ⟨by decide, by decide⟩ hm q6 q3
    rw [← q1, show (0 : Int) * 18446744073709551616 + m = m from by omega] at B
    have e2 : caE c = 0 := if_neg hz
    rw [e2]
    have hz' : (c == 0) = false := by simpa using hz
    by_cases hl : m < a * b / c
    · have e1 : caN m a b c = m := by unfold caN; rw [if_neg hz, if_pos hl]
      rw [e1]
      rw [decide_eq_true hl] at B
      have H := Lib.hid B
      clear e1 e2 B q1 q2 q3 q4 q5 q6 hz hl
      go_enter Try.func33, Try.ntmps33
      go_wp2_with (first
        | (go_at_call 75; refine (times_any a b ha hb _).mono ?_; rintro e w1 ⟨rfl, hx1⟩; (have hs1 := hx1.size); (try simp at hs1))
        | (go_at_call 78; refine (over_any _ _ c (word_hi ha hb) (word_lo a b) hc0 hc.2 _).mono ?_; rintro e w2 ⟨rfl, hx2⟩; (have hs2 := hx2.size); (try simp at hs2))
        | (go_at_call 81; refine (H.out _).mono ?_; rintro e w3 ⟨rfl, hx3⟩; (have hs3 := hx3.size); (have hc3 := hx3.cells.1); (have hf3 := hx3.cells.2); (try simp at hs3)))
      go_ret2
      exact ⟨rfl, (by repeat (first | assumption | exact Ext.refl _ | refine Ext.drew ?_ | refine Ext.drewN ?_ _ | refine Ext.alloc ?_ _ | refine Ext.setCell ?_ (by first | omega | (simp; done) | (simp; omega)) _ | refine Ext.trans ?_ (by assumption)))⟩
    · have q7 : (hiN a b % c * 18446744073709551616 + loN a b) / c = a * b / c := by
        have := hm.2
        have := q3.1
        omega
      have e1 : caN m a b c = (hiN a b % c * 18446744073709551616 + loN a b) / c := by unfold caN; rw [if_neg hz, if_neg hl, q7]
      rw [e1]
      rw [decide_eq_false hl] at B
      have H := Lib.hid B
      clear e1 e2 B q1 q2 q3 q4 q5 q6 hz hl q7
      go_enter Try.func33, Try.ntmps33
      go_wp2_with (first
        | (go_at_call 75; refine (times_any a b ha hb _).mono ?_; rintro e w1 ⟨rfl, hx1⟩; (have hs1 := hx1.size); (try simp at hs1))
        | (go_at_call 78; refine (over_any _ _ c (word_hi ha hb) (word_lo a b) hc0 hc.2 _).mono ?_; rintro e w2 ⟨rfl, hx2⟩; (have hs2 := hx2.size); (try simp at hs2))
        | (go_at_call 81; refine (H.out _).mono ?_; rintro e w3 ⟨rfl, hx3⟩; (have hs3 := hx3.size); (have hc3 := hx3.cells.1); (have hf3 := hx3.cells.2); (try simp at hs3)))
      go_ret2
      exact ⟨rfl, (by repeat (first | assumption | exact Ext.refl _ | refine Ext.drew ?_ | refine Ext.drewN ?_ _ | refine Ext.alloc ?_ _ | refine Ext.setCell ?_ (by first | omega | (simp; done) | (simp; omega)) _ | refine Ext.trans ?_ (by assumption)))⟩
theorem fPart_any (a p : Int) (ha : Word a) (hp : Word p) (w : World) :
    Calls Try.prog 35 #[.int .u64 a, .int .u64 p] w fun e w' => e = .returned (.tuple #[.int .u64 (paN a p), .int .i64 (paE a p)]) ∧ Ext w w' := by
  by_cases h : 1000000000 < p
  · have e1 : paN a p = 0 := if_pos h
    have e2 : paE a p = 3 := if_pos h
    rw [e1, e2]
    clear e1 e2
    go_enter Try.func35, Try.ntmps35
    go_wp2
    go_ret2
    exact ⟨rfl, (by repeat (first | assumption | exact Ext.refl _ | refine Ext.drew ?_ | refine Ext.drewN ?_ _ | refine Ext.alloc ?_ _ | refine Ext.setCell ?_ (by first | omega | (simp; done) | (simp; omega)) _ | refine Ext.trans ?_ (by assumption)))⟩
  · have e1 : paN a p = mdN a p 1000000000 := if_neg h
    have e2 : paE a p = mdE a p 1000000000 := if_neg h
    rw [e1, e2]
    clear e1 e2
    go_enter Try.func35, Try.ntmps35
    go_wp2_with ((go_at_call 27; refine (fMulDiv_any a p 1000000000 ha hp ⟨by decide, by decide⟩ _).mono ?_; rintro e w1 ⟨rfl, hx1⟩; (have hs1 := hx1.size); (try simp at hs1)))
    go_ret2
    exact ⟨rfl, (by repeat (first | assumption | exact Ext.refl _ | refine Ext.drew ?_ | refine Ext.drewN ?_ _ | refine Ext.alloc ?_ _ | refine Ext.setCell ?_ (by first | omega | (simp; done) | (simp; omega)) _ | refine Ext.trans ?_ (by assumption)))⟩
theorem two_words {h l x y : Int} (hl : Word l) (hy : Word y) : h * 18446744073709551616 + l = x * 18446744073709551616 + y ↔ h = x ∧ l = y := by
  have := hl.1; have := hl.2; have := hy.1; have := hy.2
  omega
theorem fCmp_any (a b c d : Int) (ha : Word a) (hb : Word b) (hc : Word c) (hd : Word d) (w : World) :
    Calls Try.prog 37 #[.int .u64 a, .int .u64 b, .int .u64 c, .int .u64 d] w fun e w' => e = .returned (.int .i64 (cmpV a b c d)) ∧ Ext w w' := by
  have B := below_any _ _ _ _ (word_hi ha hb) (word_lo a b) (word_hi hc hd) (word_lo c d)
  rw [hi_lo, hi_lo] at B
  have T := two_words (h := hiN a b) (x := hiN c d) (word_lo a b) (word_lo c d)
  rw [hi_lo, hi_lo] at T
  by_cases he : a * b = c * d
  · have e1 : cmpV a b c d = 0 := if_pos he
    rw [e1]
    obtain ⟨t1, t2⟩ := T.1 he
    have g1 : (hiN a b == hiN c d) = true := by simpa using t1
    have g2 : (loN a b == loN c d) = true := by simpa using t2
    clear e1 B T t1 t2 he
    go_enter Try.func37, Try.ntmps37
    go_wp2_with fail
    refine (times_any a b ha hb _).mono ?_
    rintro e w1 ⟨rfl, hx1⟩
    have hs1 := hx1.size
    go_wp2_with fail
    refine (times_any c d hc hd _).mono ?_
    rintro e w2 ⟨rfl, hx2⟩
    have hs2 := hx2.size
    go_wp2_with fail
    go_ret
    exact ⟨rfl, (by repeat (first | assumption | exact Ext.refl _ | refine Ext.drew ?_ | refine Ext.drewN ?_ _ | refine Ext.alloc ?_ _ | refine Ext.setCell ?_ (by first | omega | (simp; done) | (simp; omega)) _ | refine Ext.trans ?_ (by assumption)))⟩
  · obtain ⟨v, hv, hl⟩ : ∃ v : Bool, decide (a * b < c * d) = v ∧ cmpV a b c d = (if v then -1 else 1) := ⟨_, rfl, by unfold cmpV; rw [if_neg he]; simp⟩
    rw [hv] at B
    have g : (hiN a b == hiN c d) = false ∨ (hiN a b == hiN c d) = true ∧ (loN a b == loN c d) = false := by
      by_cases h1 : hiN a b = hiN c d
      · by_cases h2 : loN a b = loN c d
        · exact absurd (T.2 ⟨h1, h2⟩) he
        · exact .inr ⟨by simpa using h1, by simpa using h2⟩
      · exact .inl (by simpa using h1)
    rw [hl]
    have H := Lib.hid B
    clear B T hv hl he
    cases v <;> simp only [Bool.false_eq_true, if_false, if_true]
    all_goals rcases g with g1 | ⟨g1, g2⟩
    all_goals
      go_enter Try.func37, Try.ntmps37
      go_wp2_with fail
      refine (times_any a b ha hb _).mono ?_
      rintro e w1 ⟨rfl, hx1⟩
      have hs1 := hx1.size
      go_wp2_with fail
      refine (times_any c d hc hd _).mono ?_
      rintro e w2 ⟨rfl, hx2⟩
      have hs2 := hx2.size
      go_wp2_with (go_at_call 81; refine (H.out _).mono ?_; rintro e w3 ⟨rfl, hx3⟩; (have hs3 := hx3.size); (try simp at hs3))
      go_ret
      exact ⟨rfl, (by repeat (first | assumption | exact Ext.refl _ | refine Ext.drew ?_ | refine Ext.drewN ?_ _ | refine Ext.alloc ?_ _ | refine Ext.setCell ?_ (by first | omega | (simp; done) | (simp; omega)) _ | refine Ext.trans ?_ (by assumption)))⟩
end Go.Proofs.Ytdckdefjhijihaa
