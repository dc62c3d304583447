/- distraintlaw01's awake returns true. Conditions: none. -/
import Derived.Test.YtdckdefjhijihaaFixCmp
import Derived.Test.YtdckdefjhijihaaOpen
set_option linter.unusedVariables false
set_option linter.unusedSimpArgs false
namespace Go.Proofs.Ytdckdefjhijihaa
open Go.RowKit

theorem lsame_any (a e b f : Int) (w : World) :
    Calls Try.prog 18 #[.int .u64 a, .int .i64 e, .int .u64 b, .int .i64 f] w fun r w' => r = .returned (.bool (a == b && e == f)) ∧ w = w' := by
  obtain ⟨p, hp⟩ : ∃ p, p = (a == b) := ⟨_, rfl⟩
  obtain ⟨q, hq⟩ : ∃ p, p = (e == f) := ⟨_, rfl⟩
  rw [← hp, ← hq]
  cases p <;> cases q
  all_goals
    have h1 := hp.symm
    have h2 := hq.symm
    clear hp hq
    go_enter Try.func18, Try.ntmps18
    go_wp2
    go_ret
    exact ⟨rfl, rfl⟩
theorem lsame_true (a e : Int) (w : World) :
    Calls Try.prog 18 #[.int .u64 a, .int .i64 e, .int .u64 a, .int .i64 e] w fun r w' => r = .returned (.bool true) ∧ w = w' := by
  refine (lsame_any a e a e w).mono fun r w' ⟨h, hw⟩ => ⟨?_, hw⟩
  rw [h]; simp

theorem lis_true (a b c x : Int) (ha : Word a) (hb : Word b) (hc : Word c) (h1 : mdN a b c = x) (h2 : mdE a b c = 0) (w : World) :
    Calls Try.prog 73 #[.int .u64 a, .int .u64 b, .int .u64 c, .int .u64 x] w fun r w' => r = .returned (.bool true) ∧ Ext w w' := by
  have H := Lib.hid (fMulDiv_any a b c ha hb hc)
  rw [h1, h2] at H
  clear h1 h2
  go_enter Try.func73, Try.ntmps73
  go_wp2_with (go_at_call 27; refine (H.out _).mono ?_; rintro e w1 ⟨rfl, hx1⟩; (have hs1 := hx1.size); (try simp at hs1))
  go_ret
  exact ⟨rfl, (by repeat (first | assumption | exact Ext.refl _ | refine Ext.drew ?_ | refine Ext.drewN ?_ _ | refine Ext.alloc ?_ _ | refine Ext.setCell ?_ (by first | omega | (simp; done) | (simp; omega)) _ | refine Ext.trans ?_ (by assumption)))⟩
theorem lup_true (a b c x : Int) (ha : Word a) (hb : Word b) (hc : Word c) (h1 : muN a b c = x) (h2 : muE a b c = 0) (w : World) :
    Calls Try.prog 39 #[.int .u64 a, .int .u64 b, .int .u64 c, .int .u64 x] w fun r w' => r = .returned (.bool true) ∧ Ext w w' := by
  have H := Lib.hid (fMulDivUp_any a b c ha hb hc)
  rw [h1, h2] at H
  clear h1 h2
  go_enter Try.func39, Try.ntmps39
  go_wp2_with (go_at_call 29; refine (H.out _).mono ?_; rintro e w1 ⟨rfl, hx1⟩; (have hs1 := hx1.size); (try simp at hs1))
  go_ret
  exact ⟨rfl, (by repeat (first | assumption | exact Ext.refl _ | refine Ext.drew ?_ | refine Ext.drewN ?_ _ | refine Ext.alloc ?_ _ | refine Ext.setCell ?_ (by first | omega | (simp; done) | (simp; omega)) _ | refine Ext.trans ?_ (by assumption)))⟩
theorem lleft_true (a b c x : Int) (ha : Word a) (hb : Word b) (hc : Word c) (h1 : reN a b c = x) (h2 : reE c = 0) (w : World) :
    Calls Try.prog 40 #[.int .u64 a, .int .u64 b, .int .u64 c, .int .u64 x] w fun r w' => r = .returned (.bool true) ∧ Ext w w' := by
  have H := Lib.hid (fRest_any a b c ha hb hc)
  rw [h1, h2] at H
  clear h1 h2
  go_enter Try.func40, Try.ntmps40
  go_wp2_with (go_at_call 31; refine (H.out _).mono ?_; rintro e w1 ⟨rfl, hx1⟩; (have hs1 := hx1.size); (try simp at hs1))
  go_ret
  exact ⟨rfl, (by repeat (first | assumption | exact Ext.refl _ | refine Ext.drew ?_ | refine Ext.drewN ?_ _ | refine Ext.alloc ?_ _ | refine Ext.setCell ?_ (by first | omega | (simp; done) | (simp; omega)) _ | refine Ext.trans ?_ (by assumption)))⟩
theorem lpart_true (a b x : Int) (ha : Word a) (hb : Word b) (h1 : paN a b = x) (h2 : paE a b = 0) (w : World) :
    Calls Try.prog 41 #[.int .u64 a, .int .u64 b, .int .u64 x] w fun r w' => r = .returned (.bool true) ∧ Ext w w' := by
  have H := Lib.hid (fPart_any a b ha hb)
  rw [h1, h2] at H
  clear h1 h2
  go_enter Try.func41, Try.ntmps41
  go_wp2_with (go_at_call 35; refine (H.out _).mono ?_; rintro e w1 ⟨rfl, hx1⟩; (have hs1 := hx1.size); (try simp at hs1))
  go_ret
  exact ⟨rfl, (by repeat (first | assumption | exact Ext.refl _ | refine Ext.drew ?_ | refine Ext.drewN ?_ _ | refine Ext.alloc ?_ _ | refine Ext.setCell ?_ (by first | omega | (simp; done) | (simp; omega)) _ | refine Ext.trans ?_ (by assumption)))⟩
theorem fAdd_at (a b x y : Int) (ha : Word a) (hb : Word b) (h1 : addN a b = x) (h2 : addE a b = y) (w : World) :
    Calls Try.prog 16 #[.int .u64 a, .int .u64 b] w fun e w' => e = .returned (.tuple #[.int .u64 x, .int .i64 y]) ∧ Ext w w' := by
  rw [← h1, ← h2]; exact fAdd_any a b ha hb w
theorem fWide_at (a b x y : Int) (ha : Word a) (hb : Word b) (h1 : hiN a b = x) (h2 : loN a b = y) (w : World) :
    Calls Try.prog 25 #[.int .u64 a, .int .u64 b] w fun e w' => e = .returned (.tuple #[.int .u64 x, .int .u64 y]) ∧ Ext w w' := by
  rw [← h1, ← h2]; exact fWide_any a b ha hb w
theorem fCmp_at (a b c d x : Int) (ha : Word a) (hb : Word b) (hc : Word c) (hd : Word d) (h1 : cmpV a b c d = x) (w : World) :
    Calls Try.prog 37 #[.int .u64 a, .int .u64 b, .int .u64 c, .int .u64 d] w fun e w' => e = .returned (.int .i64 x) ∧ Ext w w' := by
  rw [← h1]; exact fCmp_any a b c d ha hb hc hd w

theorem wd (x : Int) (h : (decide (0 ≤ x) && decide (x < 18446744073709551616)) = true) : Word x := by
  simpa [Word] using h

set_option maxRecDepth 100000 in
theorem awake01_any (w : World) : Calls Try.prog 15 #[] w fun r w' => r = .returned (.bool true) ∧ Ext w w' := by
  go_enter Try.func15, Try.ntmps15
  go_wp2_with fail
  refine (fAdd_at 18446744073709551615 0 18446744073709551615 0 (wd _ rfl) (wd _ rfl) rfl rfl _).mono ?_
  rintro e w1 ⟨rfl, hx1⟩
  go_wp2_with fail
  refine (fAdd_at 18446744073709551615 1 0 12 (wd _ rfl) (wd _ rfl) rfl rfl _).mono ?_
  rintro e w2 ⟨rfl, hx2⟩
  go_wp2_with fail
  refine (fWide_at 18446744073709551615 18446744073709551615 18446744073709551614 1 (wd _ rfl) (wd _ rfl) (by decide) (by decide) _).mono ?_
  rintro e w3 ⟨rfl, hx3⟩
  go_wp2_with fail
  refine (lis_true 18446744073709551615 18446744073709551615 18446744073709551615 18446744073709551615 (wd _ rfl) (wd _ rfl) (wd _ rfl) (by decide) (by decide) _).mono ?_
  rintro e w4 ⟨rfl, hx4⟩
  go_wp2_with fail
  refine (lis_true 7 3 2 10 (wd _ rfl) (wd _ rfl) (wd _ rfl) (by decide) (by decide) _).mono ?_
  rintro e w5 ⟨rfl, hx5⟩
  go_wp2_with fail
  refine (lup_true 7 3 2 11 (wd _ rfl) (wd _ rfl) (wd _ rfl) (by decide) (by decide) _).mono ?_
  rintro e w6 ⟨rfl, hx6⟩
  go_wp2_with fail
  refine (lpart_true 1000 500000000 500 (wd _ rfl) (wd _ rfl) (by decide) (by decide) _).mono ?_
  rintro e w7 ⟨rfl, hx7⟩
  go_wp2_with fail
  refine (fCmp_at 18446744073709551615 2 18446744073709551615 3 (-1) (wd _ rfl) (wd _ rfl) (wd _ rfl) (wd _ rfl) (by decide) _).mono ?_
  rintro e w8 ⟨rfl, hx8⟩
  go_wp2_with fail
  go_ret
  exact ⟨rfl, (by repeat (first | assumption | exact Ext.refl _ | refine Ext.drew ?_ | refine Ext.drewN ?_ _ | refine Ext.alloc ?_ _ | refine Ext.setCell ?_ (by first | omega | (simp; done) | (simp; omega)) _ | refine Ext.trans ?_ (by assumption)))⟩
end Go.Proofs.Ytdckdefjhijihaa
