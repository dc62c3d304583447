/- Plain numbers: the reference's product, bit by bit. Conditions stand in each lemma. -/
import Derived.IntWalk
set_option linter.unusedVariables false
set_option linter.unusedSimpArgs false
namespace Go.Proofs.YtkinchgjidpjnaaGreat.RefMath
open Go

theorem half (a i : Nat) : a / 2 ^ i = 2 * (a / 2 ^ (i + 1)) + a / 2 ^ i % 2 := by
  rw [Nat.pow_succ, ← Nat.div_div_eq_div_mul]
  omega

/-- high and low are the product of b and what a is without its k last bits -/
structure WInv (a b k h l : Nat) : Prop where
  ha : a < 18446744073709551616
  hb : b < 18446744073709551616
  sum : h * 18446744073709551616 + l = a / 2 ^ k * b
  hl : l < 18446744073709551616
theorem WInv.start {a b : Nat} (ha : a < 18446744073709551616) (hb : b < 18446744073709551616) : WInv a b 64 0 0 :=
  ⟨ha, hb, by rw [Nat.div_eq_of_lt (by simpa using ha)]; simp, by decide⟩
section
variable {a b i h l : Nat}
theorem bound (a b k : Nat) (ha : a < 18446744073709551616) (hb : b < 18446744073709551616) : a / 2 ^ k * b ≤ 340282366920938463426481119284349108225 := by
  have h1 : a / 2 ^ k ≤ a := Nat.div_le_self _ _
  have h2 : a / 2 ^ k * b ≤ 18446744073709551615 * 18446744073709551615 := Nat.mul_le_mul (by omega) (by omega)
  exact h2
theorem WInv.step (v : WInv a b (i + 1) h l) :
    (2 * h + l / 9223372036854775808) * 18446744073709551616 + 2 * l % 18446744073709551616 + a / 2 ^ i % 2 * b = a / 2 ^ i * b ∧ 2 * h + l / 9223372036854775808 < 18446744073709551616 := by
  have e := half a i
  have hs := v.sum
  have hl := v.hl
  have hb := bound a b i v.ha v.hb
  have e2 : a / 2 ^ i * b = 2 * (a / 2 ^ (i + 1) * b) + a / 2 ^ i % 2 * b := by
    have : a / 2 ^ i * b = (2 * (a / 2 ^ (i + 1)) + a / 2 ^ i % 2) * b := by rw [← e]
    rw [this, Nat.add_mul, Nat.mul_assoc]
  rw [← hs] at e2
  generalize a / 2 ^ i * b = p at *
  generalize a / 2 ^ i % 2 * b = q at *
  omega
theorem WInv.zero (v : WInv a b (i + 1) h l) (hbit : a / 2 ^ i % 2 = 0) : WInv a b i (2 * h + l / 9223372036854775808) (2 * l % 18446744073709551616) :=
  ⟨v.ha, v.hb, by have h1 := v.step.1; rw [hbit, Nat.zero_mul, Nat.add_zero] at h1; exact h1, Nat.mod_lt _ (by decide)⟩
theorem WInv.one (v : WInv a b (i + 1) h l) (hbit : a / 2 ^ i % 2 = 1) (ho : 2 * l % 18446744073709551616 + b < 18446744073709551616) : WInv a b i (2 * h + l / 9223372036854775808) (2 * l % 18446744073709551616 + b) :=
  ⟨v.ha, v.hb, by have h1 := v.step.1; rw [hbit, Nat.one_mul] at h1; rw [← Nat.add_assoc]; exact h1, ho⟩
theorem WInv.over (v : WInv a b (i + 1) h l) (hbit : a / 2 ^ i % 2 = 1) (ho : 18446744073709551616 ≤ 2 * l % 18446744073709551616 + b) :
    WInv a b i (2 * h + l / 9223372036854775808 + 1) (2 * l % 18446744073709551616 + b - 18446744073709551616) ∧ 2 * h + l / 9223372036854775808 + 1 < 18446744073709551616 := by
  have h1 := v.step.1
  have hb := bound a b i v.ha v.hb
  have hb2 := v.hb
  rw [hbit] at h1
  generalize a / 2 ^ i * b = p at *
  refine ⟨⟨v.ha, v.hb, ?_, by omega⟩, by omega⟩
  have := v.step.1
  rw [hbit] at this
  omega
end
end Go.Proofs.YtkinchgjidpjnaaGreat.RefMath
