/- Plain numbers: the reference's division, bit by bit. Conditions stand in each lemma. -/
import Derived.Test.YtkinchgjidpjnaaGreatFixRefMath
set_option linter.unusedVariables false
set_option linter.unusedSimpArgs false
namespace Go.Proofs.YtkinchgjidpjnaaGreat.RefMath
open Go

/-- n, L, ov: the quotient's low word, the rest, whether the quotient is above a word: of P without its k last bits, by c -/
structure DI (P c k n L : Nat) (ov : Bool) : Prop where
  hc : 0 < c
  hn : n = P / 2 ^ k / c % 18446744073709551616
  hL : L = P / 2 ^ k % c
  ho : ov = decide (18446744073709551616 ≤ P / 2 ^ k / c)
section
variable {P c k n L : Nat} {ov : Bool}
theorem DI.start (P c : Nat) (hc : 0 < c) (hP : P < 340282366920938463463374607431768211456) : DI P c 128 0 0 false := by
  have e : P / 2 ^ 128 = 0 := Nat.div_eq_of_lt hP
  refine ⟨hc, ?_, ?_, ?_⟩ <;> rw [e] <;> simp
theorem DI.lt (v : DI P c k n L ov) : L < c := by rw [v.hL]; exact Nat.mod_lt _ v.hc
theorem DI.nlt (v : DI P c k n L ov) : n < 18446744073709551616 := by rw [v.hn]; exact Nat.mod_lt _ (by decide)
theorem quo2 (Q c T : Nat) (hc : 0 < c) (h : T < c) : (Q * c + T) / c = Q ∧ (Q * c + T) % c = T := by
  rw [Nat.mul_comm]
  exact ⟨by rw [Nat.mul_add_div hc, Nat.div_eq_of_lt h]; rfl, by rw [Nat.mul_add_mod, Nat.mod_eq_of_lt h]⟩
theorem DI.step_eq (v : DI P c (k + 1) n L ov) : P / 2 ^ k = 2 * (P / 2 ^ (k + 1) / c) * c + (2 * L + P / 2 ^ k % 2) := by
  have e := half P k
  have hd := Nat.div_add_mod (P / 2 ^ (k + 1)) c
  rw [← v.hL] at hd
  generalize P / 2 ^ (k + 1) / c = Q at *
  have : c * Q = Q * c := Nat.mul_comm _ _
  have h2 : 2 * Q * c = 2 * (Q * c) := Nat.mul_assoc _ _ _
  generalize P / 2 ^ (k + 1) = X at *
  generalize P / 2 ^ k = Y at *
  omega
theorem ov_step {Q n : Nat} (hn : n = Q % 18446744073709551616) (x : Nat) (hx : x ≤ 1) :
    (decide (18446744073709551616 ≤ Q) || decide (n / 9223372036854775808 = 1)) = decide (18446744073709551616 ≤ 2 * Q + x) := by
  rw [Bool.eq_iff_iff]
  simp
  omega
theorem DI.low (v : DI P c (k + 1) n L ov) (h : 2 * L + P / 2 ^ k % 2 < c) :
    DI P c k (2 * n % 18446744073709551616) (2 * L + P / 2 ^ k % 2) (ov || decide (n / 9223372036854775808 = 1)) := by
  have e := v.step_eq
  obtain ⟨q1, q2⟩ := quo2 (2 * (P / 2 ^ (k + 1) / c)) c _ v.hc h
  rw [← e] at q1 q2
  refine ⟨v.hc, ?_, q2.symm, ?_⟩
  · rw [q1, v.hn]; omega
  · rw [q1, v.ho]
    exact ov_step (x := 0) v.hn (by decide)
theorem DI.high (v : DI P c (k + 1) n L ov) (h : c ≤ 2 * L + P / 2 ^ k % 2) :
    DI P c k (2 * n % 18446744073709551616 + 1) (2 * L + P / 2 ^ k % 2 - c) (ov || decide (n / 9223372036854775808 = 1)) := by
  have e := v.step_eq
  have hl := v.lt
  have hb := Nat.mod_lt (P / 2 ^ k) (by decide : 2 > 0)
  have e2 : P / 2 ^ k = (2 * (P / 2 ^ (k + 1) / c) + 1) * c + (2 * L + P / 2 ^ k % 2 - c) := by
    rw [Nat.add_mul, Nat.one_mul]
    omega
  obtain ⟨q1, q2⟩ := quo2 (2 * (P / 2 ^ (k + 1) / c) + 1) c (2 * L + P / 2 ^ k % 2 - c) v.hc (by omega)
  rw [← e2] at q1 q2
  refine ⟨v.hc, ?_, q2.symm, ?_⟩
  · rw [q1, v.hn]; omega
  · rw [q1, v.ho]
    exact ov_step (x := 1) v.hn (by decide)
theorem DI.done (v : DI P c 0 n L ov) : n = P / c % 18446744073709551616 ∧ L = P % c ∧ ov = decide (18446744073709551616 ≤ P / c) := by
  have h1 := v.hn; have h2 := v.hL; have h3 := v.ho
  rw [show P / 2 ^ 0 = P from by simp] at h1 h2 h3
  exact ⟨h1, h2, h3⟩
/-- the bits of two words -/
theorem bit_high (h l i : Nat) (hi : 64 ≤ i) (hi2 : i < 128) (hl : l < 18446744073709551616) : (h * 18446744073709551616 + l) / 2 ^ i = h / 2 ^ (i % 64) := by
  have e : i = 64 + i % 64 := by omega
  have e2 : 2 ^ i = 18446744073709551616 * 2 ^ (i % 64) := by
    have : 2 ^ (64 + i % 64) = 2 ^ 64 * 2 ^ (i % 64) := Nat.pow_add _ _ _
    rw [← e] at this
    exact this
  rw [e2, ← Nat.div_div_eq_div_mul]
  congr 1
  omega
theorem bit_low (h l i : Nat) (hi : i < 64) : (h * 18446744073709551616 + l) / 2 ^ i % 2 = l / 2 ^ (i % 64) % 2 := by
  have e0 : i % 64 = i := Nat.mod_eq_of_lt hi
  rw [e0]
  have e : 18446744073709551616 = 2 ^ (63 - i) * 2 * 2 ^ i := by
    have h1 : 2 ^ (63 - i) * 2 * 2 ^ i = 2 ^ (63 - i + 1 + i) := by rw [← Nat.pow_succ, ← Nat.pow_add]
    rw [h1, show 63 - i + 1 + i = 64 from by omega]
  have e2 : h * 18446744073709551616 + l = l + 2 ^ i * (h * 2 ^ (63 - i) * 2) := by
    rw [e]
    have : h * (2 ^ (63 - i) * 2 * 2 ^ i) = 2 ^ i * (h * 2 ^ (63 - i) * 2) := by
      rw [← Nat.mul_assoc, ← Nat.mul_assoc, Nat.mul_comm (2 ^ i)]
    omega
  rw [e2, Nat.add_mul_div_left _ _ (Nat.two_pow_pos i), Nat.add_mul_mod_self_right]
end
end Go.Proofs.YtkinchgjidpjnaaGreat.RefMath
