/- What is proved: distraintlaw01.FixKnown returns true; nothing that was there is written. Conditions: none. -/
import Derived.Test.YtdckdefjhijihaaFixAwake
import Derived.Test.YtdckdefjhijihaaFixSum
import Derived.Test.YtdckdefjhijihaaMem2
set_option linter.unusedVariables false
set_option linter.unusedSimpArgs false
namespace Go.Proofs.Ytdckdefjhijihaa
open Go.RowKit

theorem fSub_at (a b x y : Int) (ha : Word a) (hb : Word b) (h1 : subN a b = x) (h2 : subE a b = y) (w : World) :
    Calls Try.prog 19 #[.int .u64 a, .int .u64 b] w fun e w' => e = .returned (.tuple #[.int .u64 x, .int .i64 y]) ∧ Ext w w' := by
  rw [← h1, ← h2]; exact fSub_any a b ha hb w
theorem fMul_at (a b x y : Int) (ha : Word a) (hb : Word b) (h1 : mulN a b = x) (h2 : mulE a b = y) (w : World) :
    Calls Try.prog 21 #[.int .u64 a, .int .u64 b] w fun e w' => e = .returned (.tuple #[.int .u64 x, .int .i64 y]) ∧ Ext w w' := by
  rw [← h1, ← h2]; exact fMul_any a b ha hb w
theorem fMulDiv_at (a b c x y : Int) (ha : Word a) (hb : Word b) (hc : Word c) (h1 : mdN a b c = x) (h2 : mdE a b c = y) (w : World) :
    Calls Try.prog 27 #[.int .u64 a, .int .u64 b, .int .u64 c] w fun e w' => e = .returned (.tuple #[.int .u64 x, .int .i64 y]) ∧ Ext w w' := by
  rw [← h1, ← h2]; exact fMulDiv_any a b c ha hb hc w
theorem fMulDivUp_at (a b c x y : Int) (ha : Word a) (hb : Word b) (hc : Word c) (h1 : muN a b c = x) (h2 : muE a b c = y) (w : World) :
    Calls Try.prog 29 #[.int .u64 a, .int .u64 b, .int .u64 c] w fun e w' => e = .returned (.tuple #[.int .u64 x, .int .i64 y]) ∧ Ext w w' := by
  rw [← h1, ← h2]; exact fMulDivUp_any a b c ha hb hc w
theorem fPart_at (a b x y : Int) (ha : Word a) (hb : Word b) (h1 : paN a b = x) (h2 : paE a b = y) (w : World) :
    Calls Try.prog 35 #[.int .u64 a, .int .u64 b] w fun e w' => e = .returned (.tuple #[.int .u64 x, .int .i64 y]) ∧ Ext w w' := by
  rw [← h1, ← h2]; exact fPart_any a b ha hb w
theorem fCapped_at (m a b c x y : Int) (hm : Word m) (ha : Word a) (hb : Word b) (hc : Word c) (h1 : caN m a b c = x) (h2 : caE c = y) (w : World) :
    Calls Try.prog 33 #[.int .u64 m, .int .u64 a, .int .u64 b, .int .u64 c] w fun e w' => e = .returned (.tuple #[.int .u64 x, .int .i64 y]) ∧ Ext w w' := by
  rw [← h1, ← h2]; exact fCapped_any m a b c hm ha hb hc w
theorem fSum_at (A : Option Addr) (n c : Nat) (l : List Int) (x y : Int) (w : World) (h : Sl w 1 A n c (iv .u64 l)) (hw : ∀ x ∈ l, Word x) (h1 : suN l = x) (h2 : suE l = y) :
    Calls Try.prog 23 #[.slice A n c] w fun e w' => e = .returned (.tuple #[.int .u64 x, .int .i64 y]) ∧ Ext w w' := by
  rw [← h1, ← h2]; exact fSum_any A n c l w h hw
set_option maxRecDepth 100000 in
set_option maxHeartbeats 1000000 in
theorem FixKnown_any (w : World) : Calls Try.prog 5 #[] w fun r w' => r = .returned (.bool true) ∧ Ext w w' := by
  go_enter Try.func5, Try.ntmps5
  go_wp2_with fail
  refine (fSub_at 3 5 0 13 (wd _ rfl) (wd _ rfl) rfl rfl _).mono ?_
  rintro e w1 ⟨rfl, hx1⟩
  go_wp2_with fail
  refine (fMul_at 4294967296 4294967296 0 12 (wd _ rfl) (wd _ rfl) rfl rfl _).mono ?_
  rintro e w2 ⟨rfl, hx2⟩
  go_wp2_with fail
  refine (fSum_at none 0 0 [] 0 0 _ (Sl.nil _ _) (by simp) rfl rfl).mono ?_
  rintro e w3 ⟨rfl, hx3⟩
  go_wp2_with fail
  refine (fSum_at _ 3 3 [18446744073709551615, 0, 1] 0 12 _ (sl_new _ _ 1 #[.int .u64 18446744073709551615, .int .u64 0, .int .u64 1] 3 rfl (by decide)) (by intro x hx; simp at hx; rcases hx with rfl | rfl | rfl <;> exact wd _ rfl) rfl rfl).mono ?_
  rintro e w4 ⟨rfl, hx4⟩
  go_wp2_with fail
  refine (fWide_at 9223372036854775808 2 1 0 (wd _ rfl) (wd _ rfl) (by decide) (by decide) _).mono ?_
  rintro e w5 ⟨rfl, hx5⟩
  go_wp2_with fail
  refine (fMulDiv_at 18446744073709551615 2 1 0 12 (wd _ rfl) (wd _ rfl) (wd _ rfl) (by decide) (by decide) _).mono ?_
  rintro e w6 ⟨rfl, hx6⟩
  go_wp2_with fail
  refine (fMulDiv_at 1 1 0 0 2 (wd _ rfl) (wd _ rfl) (wd _ rfl) (by decide) (by decide) _).mono ?_
  rintro e w7 ⟨rfl, hx7⟩
  go_wp2_with fail
  refine (fMulDivUp_at 18446744073709551615 18446744073709551615 18446744073709551614 0 12 (wd _ rfl) (wd _ rfl) (wd _ rfl) (by decide) (by decide) _).mono ?_
  rintro e w8 ⟨rfl, hx8⟩
  go_wp2_with fail
  refine (lup_true 6 3 2 9 (wd _ rfl) (wd _ rfl) (wd _ rfl) (by decide) (by decide) _).mono ?_
  rintro e w9 ⟨rfl, hx9⟩
  go_wp2_with fail
  refine (lup_true 18446744073709551615 3 3 18446744073709551615 (wd _ rfl) (wd _ rfl) (wd _ rfl) (by decide) (by decide) _).mono ?_
  rintro e w10 ⟨rfl, hx10⟩
  go_wp2_with fail
  refine (lup_true 18446744073709551615 18446744073709551614 18446744073709551615 18446744073709551614 (wd _ rfl) (wd _ rfl) (wd _ rfl) (by decide) (by decide) _).mono ?_
  rintro e w11 ⟨rfl, hx11⟩
  go_wp2_with fail
  refine (lleft_true 7 3 2 1 (wd _ rfl) (wd _ rfl) (wd _ rfl) (by decide) (by decide) _).mono ?_
  rintro e w12 ⟨rfl, hx12⟩
  go_wp2_with fail
  refine (lleft_true 18446744073709551615 18446744073709551615 10 5 (wd _ rfl) (wd _ rfl) (wd _ rfl) (by decide) (by decide) _).mono ?_
  rintro e w13 ⟨rfl, hx13⟩
  go_wp2_with fail
  refine (fCapped_at 9 7 3 2 9 0 (wd _ rfl) (wd _ rfl) (wd _ rfl) (wd _ rfl) (by decide) (by decide) _).mono ?_
  rintro e w14 ⟨rfl, hx14⟩
  go_wp2_with fail
  refine (fCapped_at 99 7 3 2 10 0 (wd _ rfl) (wd _ rfl) (wd _ rfl) (wd _ rfl) (by decide) (by decide) _).mono ?_
  rintro e w15 ⟨rfl, hx15⟩
  go_wp2_with fail
  refine (fCapped_at 5 18446744073709551615 18446744073709551615 1 5 0 (wd _ rfl) (wd _ rfl) (wd _ rfl) (wd _ rfl) (by decide) (by decide) _).mono ?_
  rintro e w16 ⟨rfl, hx16⟩
  go_wp2_with fail
  refine (fPart_at 1 1000000001 0 3 (wd _ rfl) (wd _ rfl) (by decide) (by decide) _).mono ?_
  rintro e w17 ⟨rfl, hx17⟩
  go_wp2_with fail
  refine (awake01_any _).mono ?_
  rintro e w18 ⟨rfl, hx18⟩
  go_wp2_with fail
  refine (lpart_true 3 333333333 0 (wd _ rfl) (wd _ rfl) (by decide) (by decide) _).mono ?_
  rintro e w19 ⟨rfl, hx19⟩
  go_wp2_with fail
  refine (lpart_true 18446744073709551615 1000000000 18446744073709551615 (wd _ rfl) (wd _ rfl) (by decide) (by decide) _).mono ?_
  rintro e w20 ⟨rfl, hx20⟩
  go_wp2_with fail
  refine (fCmp_at 18446744073709551615 2 2 18446744073709551615 0 (wd _ rfl) (wd _ rfl) (wd _ rfl) (wd _ rfl) (by decide) _).mono ?_
  rintro e w21 ⟨rfl, hx21⟩
  go_wp2_with fail
  go_ret
  exact ⟨rfl, (by repeat (first | assumption | exact Ext.refl _ | refine Ext.drew ?_ | refine Ext.drewN ?_ _ | refine Ext.alloc ?_ _ | refine Ext.setCell ?_ (by first | omega | (simp; done) | (simp; omega)) _ | refine Ext.trans ?_ (by assumption)))⟩
end Go.Proofs.Ytdckdefjhijihaa
