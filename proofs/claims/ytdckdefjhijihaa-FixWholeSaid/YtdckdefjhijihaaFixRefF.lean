/- The reference's Add, Sub, Mul, MulDiv, MulDivUp, Rest, Capped, Part return what the integers say, for words. -/
import Derived.Test.YtdckdefjhijihaaFixDivide
set_option linter.unusedVariables false
set_option linter.unusedSimpArgs false
namespace Go.Proofs.Ytdckdefjhijihaa
open Go.RowKit RefMath

def dqN (a b c : Int) : Int := a * b / c % 18446744073709551616
def dqO (a b c : Int) : Bool := decide (18446744073709551616 ≤ a * b / c)
theorem rDivide_any (a b c : Int) (ha : Word a) (hb : Word b) (hc : Word c) (hz : c ≠ 0) (w : World) :
    Calls Try.prog 79 #[.int .u64 a, .int .u64 b, .int .u64 c] w fun e w' =>
      e = .returned (.tuple #[.int .u64 (dqN a b c), .bool (dqO a b c), .int .u64 (a * b % c)]) ∧ w = w' := by
  obtain ⟨h1, h2⟩ := prod_bounds ha hb
  exact rDivide_nat (a * b).toNat c.toNat a b c ha hb (by have := hc.1; omega) (by have := hc.1; omega) hc.2 (by omega) w

theorem rAdd_any (a b : Int) (ha : Word a) (hb : Word b) (w : World) :
    Calls Try.prog 17 #[.int .u64 a, .int .u64 b] w fun e w' => e = .returned (.tuple #[.int .u64 (addN a b), .int .i64 (addE a b)]) ∧ w = w' := by
  obtain ⟨a1, a2⟩ := ha
  obtain ⟨b1, b2⟩ := hb
  by_cases h : a + b < 18446744073709551616
  · have e1 : addN a b = a + b := if_pos h
    have e2 : addE a b = 0 := if_pos h
    rw [e1, e2]
    clear e1 e2
    have h' : ¬ 18446744073709551615 - b < a := by omega
    go_enter Try.func17, Try.ntmps17
    go_wp2
    go_ret2
    exact ⟨rfl, rfl⟩
  · have e1 : addN a b = 0 := if_neg h
    have e2 : addE a b = 12 := if_neg h
    rw [e1, e2]
    clear e1 e2
    have h' : 18446744073709551615 - b < a := by omega
    go_enter Try.func17, Try.ntmps17
    go_wp2
    go_ret2
    exact ⟨rfl, rfl⟩
theorem rSub_any (a b : Int) (ha : Word a) (hb : Word b) (w : World) :
    Calls Try.prog 20 #[.int .u64 a, .int .u64 b] w fun e w' => e = .returned (.tuple #[.int .u64 (subN a b), .int .i64 (subE a b)]) ∧ w = w' := by
  obtain ⟨a1, a2⟩ := ha
  obtain ⟨b1, b2⟩ := hb
  by_cases h : b ≤ a
  · have e1 : subN a b = a - b := if_pos h
    have e2 : subE a b = 0 := if_pos h
    rw [e1, e2]
    clear e1 e2
    go_enter Try.func20, Try.ntmps20
    go_wp2
    go_ret2
    exact ⟨rfl, rfl⟩
  · have e1 : subN a b = 0 := if_neg h
    have e2 : subE a b = 13 := if_neg h
    rw [e1, e2]
    clear e1 e2
    go_enter Try.func20, Try.ntmps20
    go_wp2
    go_ret2
    exact ⟨rfl, rfl⟩
theorem rMul_any (a b : Int) (ha : Word a) (hb : Word b) (w : World) :
    Calls Try.prog 22 #[.int .u64 a, .int .u64 b] w fun e w' => e = .returned (.tuple #[.int .u64 (mulN a b), .int .i64 (mulE a b)]) ∧ w = w' := by
  have W := rWide_any a b ha hb w
  have hs := hi_lo a b
  have l1 := (word_lo a b).1
  have l2 := (word_lo a b).2
  have h1 := (word_hi ha hb).1
  by_cases h : a * b < 18446744073709551616
  · have e1 : mulN a b = loN a b := by unfold mulN; rw [if_pos h]; omega
    have e2 : mulE a b = 0 := if_pos h
    have hz : ¬ 0 < hiN a b := by omega
    rw [e1, e2]
    have H := Lib.hid W
    clear W e1 e2 hs h
    go_enter Try.func22, Try.ntmps22
    go_wp2_with (go_at_call 26; refine H.out.mono ?_; rintro e w' ⟨rfl, rfl⟩)
    go_ret2
    exact ⟨rfl, rfl⟩
  · have e1 : mulN a b = 0 := if_neg h
    have e2 : mulE a b = 12 := if_neg h
    have hz : 0 < hiN a b := by omega
    rw [e1, e2]
    have H := Lib.hid W
    clear W e1 e2 hs h
    go_enter Try.func22, Try.ntmps22
    go_wp2_with (go_at_call 26; refine H.out.mono ?_; rintro e w' ⟨rfl, rfl⟩)
    go_ret2
    exact ⟨rfl, rfl⟩
theorem rMulDiv_any (a b c : Int) (ha : Word a) (hb : Word b) (hc : Word c) (w : World) :
    Calls Try.prog 28 #[.int .u64 a, .int .u64 b, .int .u64 c] w fun e w' => e = .returned (.tuple #[.int .u64 (mdN a b c), .int .i64 (mdE a b c)]) ∧ w = w' := by
  by_cases hz : c = 0
  · subst hz
    go_enter Try.func28, Try.ntmps28
    go_wp2
    go_ret2
    exact ⟨rfl, rfl⟩
  · have W := rDivide_any a b c ha hb hc hz w
    have q0 : 0 ≤ a * b / c := Int.ediv_nonneg (prod_bounds ha hb).1 hc.1
    have hz' : (c == 0) = false := by simpa using hz
    by_cases h : a * b / c < 18446744073709551616
    · have e1 : mdN a b c = dqN a b c := by unfold mdN dqN; rw [if_neg hz, if_pos h]; omega
      have e2 : mdE a b c = 0 := by unfold mdE; rw [if_neg hz, if_pos h]
      have e3 : dqO a b c = false := by unfold dqO; simp; omega
      rw [e1, e2]
      rw [e3] at W
      have H := Lib.hid W
      clear W e1 e2 e3 h hz q0
      go_enter Try.func28, Try.ntmps28
      go_wp2_with (go_at_call 79; refine H.out.mono ?_; rintro e w' ⟨rfl, rfl⟩)
      go_ret2
      exact ⟨rfl, rfl⟩
    · have e1 : mdN a b c = 0 := by unfold mdN; rw [if_neg hz, if_neg h]
      have e2 : mdE a b c = 12 := by unfold mdE; rw [if_neg hz, if_neg h]
      have e3 : dqO a b c = true := by unfold dqO; simp; omega
      rw [e1, e2]
      rw [e3] at W
      have H := Lib.hid W
      clear W e1 e2 e3 h hz q0
      go_enter Try.func28, Try.ntmps28
      go_wp2_with (go_at_call 79; refine H.out.mono ?_; rintro e w' ⟨rfl, rfl⟩)
      go_ret2
      exact ⟨rfl, rfl⟩
theorem rRest_any (a b c : Int) (ha : Word a) (hb : Word b) (hc : Word c) (w : World) :
    Calls Try.prog 32 #[.int .u64 a, .int .u64 b, .int .u64 c] w fun e w' => e = .returned (.tuple #[.int .u64 (reN a b c), .int .i64 (reE c)]) ∧ w = w' := by
  by_cases hz : c = 0
  · subst hz
    go_enter Try.func32, Try.ntmps32
    go_wp2
    go_ret2
    exact ⟨rfl, rfl⟩
  · have W := rDivide_any a b c ha hb hc hz w
    have hz' : (c == 0) = false := by simpa using hz
    have e1 : reN a b c = a * b % c := if_neg hz
    have e2 : reE c = 0 := if_neg hz
    rw [e1, e2]
    have H := Lib.hid W
    clear W e1 e2 hz
    go_enter Try.func32, Try.ntmps32
    go_wp2_with (go_at_call 79; refine H.out.mono ?_; rintro e w' ⟨rfl, rfl⟩)
    go_ret2
    exact ⟨rfl, rfl⟩
theorem rCapped_any (m a b c : Int) (hm : Word m) (ha : Word a) (hb : Word b) (hc : Word c) (w : World) :
    Calls Try.prog 34 #[.int .u64 m, .int .u64 a, .int .u64 b, .int .u64 c] w fun e w' => e = .returned (.tuple #[.int .u64 (caN m a b c), .int .i64 (caE c)]) ∧ w = w' := by
  by_cases hz : c = 0
  · subst hz
    go_enter Try.func34, Try.ntmps34
    go_wp2
    go_ret2
    exact ⟨rfl, rfl⟩
  · have W := rDivide_any a b c ha hb hc hz w
    have q0 : 0 ≤ a * b / c := Int.ediv_nonneg (prod_bounds ha hb).1 hc.1
    have m1 := hm.2
    have hz' : (c == 0) = false := by simpa using hz
    have e2 : caE c = 0 := if_neg hz
    by_cases h : a * b / c < 18446744073709551616
    · have e3 : dqO a b c = false := by unfold dqO; simp; omega
      have e4 : dqN a b c = a * b / c := by unfold dqN; omega
      by_cases h2 : m < a * b / c
      · have e1 : caN m a b c = m := by unfold caN; rw [if_neg hz, if_pos h2]
        rw [e1, e2]
        rw [e3] at W
        rw [← e4] at h2
        have H := Lib.hid W
        clear W e1 e2 e3 e4 h hz q0
        go_enter Try.func34, Try.ntmps34
        go_wp2_with (go_at_call 79; refine H.out.mono ?_; rintro e w' ⟨rfl, rfl⟩)
        go_ret2
        exact ⟨rfl, rfl⟩
      · have e1 : caN m a b c = dqN a b c := by unfold caN; rw [if_neg hz, if_neg h2, e4]
        rw [e1, e2]
        rw [e3] at W
        rw [← e4] at h2
        have H := Lib.hid W
        clear W e1 e2 e3 e4 h hz q0
        go_enter Try.func34, Try.ntmps34
        go_wp2_with (go_at_call 79; refine H.out.mono ?_; rintro e w' ⟨rfl, rfl⟩)
        go_ret2
        exact ⟨rfl, rfl⟩
    · have e3 : dqO a b c = true := by unfold dqO; simp; omega
      have e1 : caN m a b c = m := by unfold caN; rw [if_neg hz, if_pos (by omega)]
      rw [e1, e2]
      rw [e3] at W
      have H := Lib.hid W
      clear W e1 e2 e3 h hz q0
      go_enter Try.func34, Try.ntmps34
      go_wp2_with (go_at_call 79; refine H.out.mono ?_; rintro e w' ⟨rfl, rfl⟩)
      go_ret2
      exact ⟨rfl, rfl⟩
theorem rPart_any (a p : Int) (ha : Word a) (hp : Word p) (w : World) :
    Calls Try.prog 36 #[.int .u64 a, .int .u64 p] w fun e w' => e = .returned (.tuple #[.int .u64 (paN a p), .int .i64 (paE a p)]) ∧ w = w' := by
  by_cases h : 1000000000 < p
  · have e1 : paN a p = 0 := if_pos h
    have e2 : paE a p = 3 := if_pos h
    rw [e1, e2]
    clear e1 e2
    go_enter Try.func36, Try.ntmps36
    go_wp2
    go_ret2
    exact ⟨rfl, rfl⟩
  · have e1 : paN a p = mdN a p 1000000000 := if_neg h
    have e2 : paE a p = mdE a p 1000000000 := if_neg h
    rw [e1, e2]
    have W := Lib.hid (rMulDiv_any a p 1000000000 ha hp ⟨by decide, by decide⟩ w)
    clear e1 e2
    go_enter Try.func36, Try.ntmps36
    go_wp2_with (go_at_call 28; refine W.out.mono ?_; rintro e w' ⟨rfl, rfl⟩)
    go_ret2
    exact ⟨rfl, rfl⟩
theorem rMulDivUp_any (a b c : Int) (ha : Word a) (hb : Word b) (hc : Word c) (w : World) :
    Calls Try.prog 30 #[.int .u64 a, .int .u64 b, .int .u64 c] w fun e w' => e = .returned (.tuple #[.int .u64 (muN a b c), .int .i64 (muE a b c)]) ∧ w = w' := by
  by_cases hz : c = 0
  · subst hz
    go_enter Try.func30, Try.ntmps30
    go_wp2
    go_ret2
    exact ⟨rfl, rfl⟩
  · have W := rDivide_any a b c ha hb hc hz w
    have q0 : 0 ≤ a * b / c := Int.ediv_nonneg (prod_bounds ha hb).1 hc.1
    have r0 : 0 ≤ a * b % c := Int.emod_nonneg _ hz
    have hz' : (c == 0) = false := by simpa using hz
    have e1 : muN a b c = if upQ a b c < 18446744073709551616 then upQ a b c else 0 := if_neg hz
    have e2 : muE a b c = if upQ a b c < 18446744073709551616 then 0 else 12 := if_neg hz
    by_cases h : a * b / c < 18446744073709551616
    · have e3 : dqO a b c = false := by unfold dqO; simp; omega
      have e4 : dqN a b c = a * b / c := by unfold dqN; omega
      have d0 : 0 ≤ dqN a b c := by omega
      rw [e3] at W
      by_cases hr : a * b % c = 0
      · have e5 : upQ a b c = dqN a b c := by unfold upQ; rw [if_pos hr, e4]
        rw [e1, e2, e5, if_pos (by omega), if_pos (by omega)]
        rw [hr] at W
        have H := Lib.hid W
        clear W e1 e2 e3 e4 e5 h hz q0 r0 hr
        go_enter Try.func30, Try.ntmps30
        go_wp2_with (go_at_call 79; refine H.out.mono ?_; rintro e w' ⟨rfl, rfl⟩)
        go_ret2
        exact ⟨rfl, rfl⟩
      · have e5 : upQ a b c = dqN a b c + 1 := by unfold upQ; rw [if_neg hr, e4]
        have hr' : 0 < a * b % c := by omega
        by_cases hm : dqN a b c = 18446744073709551615
        · rw [e1, e2, e5, if_neg (by omega), if_neg (by omega)]
          rw [hm] at W
          have H := Lib.hid W
          clear W e1 e2 e3 e4 e5 h hz q0 r0 hr hm d0
          go_enter Try.func30, Try.ntmps30
          go_wp2_with (go_at_call 79; refine H.out.mono ?_; rintro e w' ⟨rfl, rfl⟩)
          go_ret2
          exact ⟨rfl, rfl⟩
        · rw [e1, e2, e5, if_pos (by omega), if_pos (by omega)]
          have hm' : (dqN a b c == 18446744073709551615) = false := by simpa using hm
          have hm2 : dqN a b c < 18446744073709551615 := by omega
          have H := Lib.hid W
          clear W e1 e2 e3 e4 e5 h hz q0 r0 hr hm
          go_enter Try.func30, Try.ntmps30
          go_wp2_with (go_at_call 79; refine H.out.mono ?_; rintro e w' ⟨rfl, rfl⟩)
          go_ret2
          exact ⟨rfl, rfl⟩
    · have e3 : dqO a b c = true := by unfold dqO; simp; omega
      have e5 : 18446744073709551616 ≤ upQ a b c := by unfold upQ; split <;> omega
      rw [e1, e2, if_neg (by omega), if_neg (by omega)]
      rw [e3] at W
      have H := Lib.hid W
      clear W e1 e2 e3 h hz q0 e5
      go_enter Try.func30, Try.ntmps30
      go_wp2_with (go_at_call 79; refine H.out.mono ?_; rintro e w' ⟨rfl, rfl⟩)
      go_ret2
      exact ⟨rfl, rfl⟩
end Go.Proofs.Ytdckdefjhijihaa
