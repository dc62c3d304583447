/- The kit's Pick(x, n) returns x modulo n, from 0 on below n, for n above 0 (any x that fits int). -/
import Derived.Test.YtplmgcbjfmdebaaExt
import Derived.Test.YtplmgcbjfmdebaaRows
import Derived.Lib.Hide
import Derived.WalkSpells
import Derived.WalkLawsBesides
import Derived.IntWalk
set_option linter.unusedVariables false
set_option linter.unusedSimpArgs false
namespace Go.Proofs.Ytplmgcbjfmdebaa
open Go.RowKit

theorem kPick_any (x n : Int) (hx : -9223372036854775808 ≤ x) (hx2 : x ≤ 9223372036854775807) (hn : 0 < n) (hn2 : n ≤ 9223372036854775807) (w : World) :
    Calls Try.prog 32 #[.int .i64 x, .int .i64 n] w fun e w' => e = .returned (.int .i64 (x % n)) ∧ w = w' := by
  have m0 := Int.emod_nonneg x (by omega : n ≠ 0)
  have m1 := Int.emod_lt_of_pos x hn
  obtain ⟨r, hr⟩ : ∃ r, r = x % n := ⟨_, rfl⟩
  rw [← hr] at m0 m1 ⊢
  by_cases h0 : 0 ≤ x
  · have e : x % n = r := hr.symm
    clear hr
    go_enter Try.func32, Try.ntmps32
    go_wp2
    go_ret
    exact ⟨ret_int e, rfl⟩
  · obtain ⟨t, ht⟩ : ∃ t, t = x.tmod n := ⟨_, rfl⟩
    have ht2 : t = -((-x) % n) := by
      rw [ht, show x = -(-x) from by omega, Int.neg_tmod, Int.tmod_eq_emod_of_nonneg (by omega)]
      simp
    have hd := Int.mul_ediv_add_emod (-x) n
    have q0 := Int.emod_nonneg (-x) (by omega : n ≠ 0)
    have q1 := Int.emod_lt_of_pos (-x) hn
    have hd2 := Int.mul_ediv_add_emod x n
    rw [← hr] at hd2
    have hcase : t < 0 ∧ r = t + n ∨ t = 0 ∧ r = 0 := by
      have key : n * ((-x) / n + x / n) = t - r := by rw [Int.mul_add]; omega
      rcases Int.lt_or_le t 0 with h | h
      · left
        refine ⟨h, ?_⟩
        have h1 : (-x) / n + x / n = -1 := by
          rcases Int.lt_trichotomy ((-x) / n + x / n) (-1) with g | g | g
          · have : n * ((-x) / n + x / n) ≤ n * (-2) := Int.mul_le_mul_of_nonneg_left (by omega) (by omega)
            omega
          · exact g
          · have : n * 0 ≤ n * ((-x) / n + x / n) := Int.mul_le_mul_of_nonneg_left (by omega) (by omega)
            omega
        rw [h1] at key
        omega
      · right
        have h0 : t = 0 := by omega
        refine ⟨h0, ?_⟩
        rcases Int.lt_trichotomy ((-x) / n + x / n) 0 with g | g | g
        · have : n * ((-x) / n + x / n) ≤ n * (-1) := Int.mul_le_mul_of_nonneg_left (by omega) (by omega)
          omega
        · rw [g] at key; omega
        · have : n * 1 ≤ n * ((-x) / n + x / n) := Int.mul_le_mul_of_nonneg_left (by omega) (by omega)
          omega
    have e : x.tmod n = t := ht.symm
    have t0 : -9223372036854775808 ≤ t ∧ t ≤ 0 := by omega
    obtain ⟨t0, t1⟩ := t0
    clear hr ht ht2 hd hd2 q0 q1 m0 m1
    rcases hcase with ⟨c1, c2⟩ | ⟨c1, c2⟩
    · have C := Lib.hid c2
      have b1 : t + n ≤ 9223372036854775807 := by omega
      have b2 : -9223372036854775808 ≤ t + n := by omega
      clear c2
      go_enter Try.func32, Try.ntmps32
      go_wp2
      go_ret
      exact ⟨ret_int (by rw [C.out]), rfl⟩
    · subst c1
      subst c2
      go_enter Try.func32, Try.ntmps32
      go_wp2
      go_ret
      exact ⟨rfl, rfl⟩
end Go.Proofs.Ytplmgcbjfmdebaa
