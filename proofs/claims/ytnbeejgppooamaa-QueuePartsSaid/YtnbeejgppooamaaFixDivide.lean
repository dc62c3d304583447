/- The reference's Divide returns quotient, whether it is over, and rest, for words, the divisor not 0. -/
import Derived.Test.YtnbeejgppooamaaFixRef
import Derived.Test.YtnbeejgppooamaaFixDivideMath
set_option linter.unusedVariables false
set_option linter.unusedSimpArgs false
namespace Go.Proofs.Ytnbeejgppooamaa
open Go.RowKit RefMath

set_option maxRecDepth 100000 in
set_option maxHeartbeats 4000000 in
theorem rDivide_nat (p c : Nat) (A B C : Int) (ha : Word A) (hb : Word B) (hC : C = c) (hc0 : 0 < C) (hc1 : C < 18446744073709551616) (hP : (p : Int) = A * B) (w : World) :
    Calls Try.prog 101 #[.int .u64 A, .int .u64 B, .int .u64 C] w fun e w' =>
      e = .returned (.tuple #[.int .u64 (A * B / C % 18446744073709551616), .bool (decide (18446744073709551616 ≤ A * B / C)), .int .u64 (A * B % C)]) ∧ w = w' := by
  have hp2 := prod_bounds ha hb
  obtain ⟨hh, ehh⟩ : ∃ x : Nat, (x : Int) = hiN A B := ⟨(hiN A B).toNat, by have := (word_hi ha hb).1; omega⟩
  obtain ⟨ll, ell⟩ : ∃ x : Nat, (x : Int) = loN A B := ⟨(loN A B).toNat, by have := (word_lo A B).1; omega⟩
  have hw1 := word_hi ha hb
  have hw2 := word_lo A B
  have esum : p = hh * 18446744073709551616 + ll := by have := hi_lo A B; omega
  have V0 := Lib.hid (DI.start p c (by omega) (by omega))
  have hll : ll < 18446744073709551616 := by have := hw2.2; omega
  have HS := Lib.hid (And.intro esum hll)
  have HC := Lib.hid (And.intro hC hP)
  obtain ⟨h1, h2⟩ := hw1
  obtain ⟨l1, l2⟩ := hw2
  have HH := Lib.hid ehh
  have HL := Lib.hid ell
  have HB := Lib.hid (And.intro ha hb)
  clear hp2 esum hll hC hP ehh ell
  go_enter Try.func101, Try.ntmps101
  go_wp2_with (go_at_call 106; refine (rWide_any A B HB.out.1 HB.out.2 _).mono ?_; rintro e w' ⟨rfl, rfl⟩)
  obtain ⟨hi, ehi⟩ : ∃ x, x = hiN A B := ⟨_, rfl⟩
  obtain ⟨lo, elo⟩ : ∃ x, x = loN A B := ⟨_, rfl⟩
  go_loopg [11, 12, 13, 14] 128 (fun n q o l i wx => ∃ (q' l' : Nat) (Q L : Int) (ov : Bool), Hid (DI p c n q' l' ov ∧ Q = q' ∧ L = l') ∧ n ≤ 128 ∧ 0 ≤ Q ∧ 0 ≤ L ∧ q = .int .u64 Q ∧ o = .bool ov ∧ l = .int .u64 L ∧ Hid (i = .int .i64 ((n : Int) - 1)) ∧ wx = w)
  case atStart => exact ⟨0, 0, 0, 0, false, ⟨V0, rfl, rfl⟩, by decide, by decide, by decide, rfl, rfl, rfl, rfl, rfl⟩
  case round =>
    obtain ⟨q, l, Q, L, ov, V, hn, q0, l0, rfl, rfl, rfl, hi, rfl⟩ := hrel
    rcases gk with _ | i
    · obtain rfl := (hi.out : u14 = .int .i64 (-1))
      clear hi
      go_wp2
      go_ret3
      obtain ⟨d1, d2, d3⟩ := V.out.1.done
      have x1 := V.out.2.1
      have x2 := V.out.2.2
      obtain ⟨y1, y2⟩ := HC.out
      have e1 : Q = A * B / C % 18446744073709551616 := by rw [← y2, y1, x1, d1]; simp
      have e2 : L = A * B % C := by rw [← y2, y1, x2, d2]; simp
      have e3 : ov = decide (18446744073709551616 ≤ A * B / C) := by
        rw [← y2, y1, d3]; rw [Bool.eq_iff_iff]; simp only [decide_eq_true_eq]
        rw [← Int.natCast_ediv]; omega
      exact ⟨by rw [e1, e2, e3]; rfl, rfl⟩
    · obtain rfl : u14 = .int .i64 (i : Int) := by rw [hi.out]; exact num_eq (by omega)
      clear hi
      obtain ⟨v, v1, v2⟩ := V.out
      clear V
      obtain ⟨bn, hbn⟩ : ∃ b, b = p / 2 ^ i % 2 := ⟨_, rfl⟩
      obtain ⟨bit, hbit⟩ : ∃ b : Int, b = bn := ⟨_, rfl⟩
      have b0 : 0 ≤ bit := by omega
      have b1 : bit ≤ 1 := by have := Nat.mod_lt (p / 2 ^ i) (by decide : 2 > 0); omega
      have e64 : min (i % 64) 64 = i % 64 := by omega
      obtain ⟨S1, hS1⟩ : ∃ S, loN A B / 2 ^ (i % 64) = S := ⟨_, rfl⟩
      obtain ⟨S2, hS2⟩ : ∃ S, hiN A B / 2 ^ (i % 64) = S := ⟨_, rfl⟩
      have s1 : 0 ≤ S1 := by rw [← hS1]; exact Int.ediv_nonneg l1 (Int.le_of_lt (Int.pow_pos (by decide)))
      have s2 : 0 ≤ S2 := by rw [← hS2]; exact Int.ediv_nonneg h1 (Int.le_of_lt (Int.pow_pos (by decide)))
      have hcase : (i : Int) ≤ 63 ∧ S1 % 2 = bit ∨ (63 : Int) < i ∧ S2 % 2 = bit := by
        obtain ⟨g1, g2⟩ := HS.out
        by_cases h6 : i < 64
        · left
          refine ⟨by omega, ?_⟩
          have := bit_low hh ll i h6
          rw [← g1, ← hbn] at this
          rw [hbit, this, ← hS1, ← HL.out]
          simp
        · right
          refine ⟨by omega, ?_⟩
          have := bit_high hh ll i (by omega) (by omega) g2
          rw [← g1] at this
          rw [this] at hbn
          rw [hbit, hbn, ← hS2, ← HH.out]
          simp
      have hcl := v.lt
      have hql := v.nlt
      have hC := HC.out.1
      obtain ⟨N2, hN2⟩ : ∃ N2, IntKind.u64.wrap (2 * Q) = N2 := ⟨_, rfl⟩
      have n20 : 0 ≤ N2 ∧ N2 < 18446744073709551615 ∧ N2 = ((2 * q % 18446744073709551616 : Nat) : Int) := by rw [← hN2, IntKind.wrap_u64]; omega
      obtain ⟨n20, n21, n22⟩ := n20
      obtain ⟨Y1, hY1⟩ : ∃ Y1, IntKind.u64.wrap (2 * L) = Y1 := ⟨_, rfl⟩
      have hov : ∃ ov2 : Bool, ov2 = (ov || decide (q / 9223372036854775808 = 1)) ∧ (ov = true ∧ ov2 = true ∨ ov = false ∧ Q / 9223372036854775808 = 1 ∧ ov2 = true ∨ ov = false ∧ Q / 9223372036854775808 = 0 ∧ ov2 = false) := by
        refine ⟨_, rfl, ?_⟩
        cases ov
        · by_cases hq : q / 9223372036854775808 = 1
          · right; left; exact ⟨rfl, by omega, by simp [hq]⟩
          · right; right; exact ⟨rfl, by omega, by simp [hq]⟩
        · left; simp
      obtain ⟨ov2, hov2, hov⟩ := hov
      have hlow := v.low
      have hhigh := v.high
      rw [← hbn, ← hov2] at hlow hhigh
      have hT : (L / 9223372036854775808 = 0 ∧ Y1 = 2 * L ∧ Y1 + bit < 18446744073709551616 ∧ Y1 + bit < C ∧ Hid (DI p c i (2 * q % 18446744073709551616) (2 * l + bn) ov2)) ∨
          (L / 9223372036854775808 = 0 ∧ Y1 = 2 * L ∧ Y1 + bit < 18446744073709551616 ∧ C ≤ Y1 + bit ∧ Hid (DI p c i (2 * q % 18446744073709551616 + 1) (2 * l + bn - c) ov2)) ∨
          (L / 9223372036854775808 = 1 ∧ 0 ≤ Y1 ∧ Y1 + bit < 18446744073709551616 ∧ IntKind.u64.wrap (Y1 + bit - C) = 2 * L + bit - C ∧ Hid (DI p c i (2 * q % 18446744073709551616 + 1) (2 * l + bn - c) ov2)) := by
        rw [IntKind.wrap_u64] at hY1 ⊢
        by_cases t1 : 2 * l + bn < c
        · left; exact ⟨by omega, by omega, by omega, by omega, hlow t1⟩
        · right
          by_cases t2 : 2 * L < 18446744073709551616
          · left; exact ⟨by omega, by omega, by omega, by omega, hhigh (by omega)⟩
          · right; exact ⟨by omega, by omega, by omega, by omega, hhigh (by omega)⟩
      have X := Lib.hid (And.intro hC (And.intro hbit (And.intro v1 (And.intro v2 n22))))
      have L0 : L < 18446744073709551616 := by omega
      clear hlow hhigh hov2 hbn v hcl hql hC hbit v1 v2 n22
      rcases hT with ⟨t1, t2, t3, t4, N⟩ | ⟨t1, t2, t3, t4, N⟩ | ⟨t1, t2, t3, t4, N⟩
      · subst t2
        have t5 : 2 * L + bit < 18446744073709551616 := by omega
        rcases hov with ⟨rfl, rfl⟩ | ⟨rfl, o1, rfl⟩ | ⟨rfl, o1, rfl⟩ <;> rcases hcase with ⟨i1, i2⟩ | ⟨i1, i2⟩
        all_goals
          go_wp2
          go_roundg i
          case measure => omega
          case rel => exact ⟨_, _, _, _, _, ⟨N, rfl, rfl⟩, by omega, by omega, by omega, num_eq (by have := X.out; omega), rfl, num_eq (by have := X.out; omega), num_eq (by omega), rfl⟩
      · subst t2
        rcases hov with ⟨rfl, rfl⟩ | ⟨rfl, o1, rfl⟩ | ⟨rfl, o1, rfl⟩ <;> rcases hcase with ⟨i1, i2⟩ | ⟨i1, i2⟩
        all_goals
          go_wp2
          go_roundg i
          case measure => omega
          case rel => exact ⟨_, _, _, _, _, ⟨N, rfl, rfl⟩, by omega, by omega, by omega, num_eq (by have := X.out; omega), rfl, num_eq (by have := X.out; omega), num_eq (by omega), rfl⟩
      · rcases hov with ⟨rfl, rfl⟩ | ⟨rfl, o1, rfl⟩ | ⟨rfl, o1, rfl⟩ <;> rcases hcase with ⟨i1, i2⟩ | ⟨i1, i2⟩
        all_goals
          go_wp2
          go_roundg i
          case measure => omega
          case rel => exact ⟨_, _, _, _, _, ⟨N, rfl, rfl⟩, by omega, by omega, by omega, num_eq (by have := X.out; omega), rfl, num_eq (by have := X.out; omega), num_eq (by omega), rfl⟩
end Go.Proofs.Ytnbeejgppooamaa
