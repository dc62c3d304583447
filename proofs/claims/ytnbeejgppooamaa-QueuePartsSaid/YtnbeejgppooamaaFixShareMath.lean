/- Plain numbers: parts of an amount in billionths, and their sums. Conditions stand in each lemma. -/
import Derived.Test.YtnbeejgppooamaaFixSpec
set_option linter.unusedVariables false
set_option linter.unusedSimpArgs false
namespace Go.Proofs.Ytnbeejgppooamaa

/-- a part in billionths -/
def prt (a p : Int) : Int := a * p / 1000000000
theorem prt_bounds {a p : Int} (ha : 0 ≤ a) (hp : 0 ≤ p) (h : p ≤ 1000000000) : 0 ≤ prt a p ∧ prt a p ≤ a ∧ 1000000000 * prt a p ≤ a * p ∧ a * p < 1000000000 * prt a p + 1000000000 := by
  have h1 : 0 ≤ a * p := Int.mul_nonneg ha hp
  have h2 : a * p ≤ a * 1000000000 := Int.mul_le_mul_of_nonneg_left h ha
  unfold prt
  omega
theorem prt_mono_a {a b p : Int} (h : a ≤ b) (hp : 0 ≤ p) : prt a p ≤ prt b p := by
  have h2 : a * p ≤ b * p := Int.mul_le_mul_of_nonneg_right h hp
  unfold prt
  omega
theorem prt_mono_p {a p q : Int} (ha : 0 ≤ a) (h : p ≤ q) : prt a p ≤ prt a q := by
  have h2 : a * p ≤ a * q := Int.mul_le_mul_of_nonneg_left h ha
  unfold prt
  omega
theorem pa_prt {a p : Int} (ha : Word a) (hp : 0 ≤ p) (h : p ≤ 1000000000) : paN a p = prt a p ∧ paE a p = 0 := by
  obtain ⟨h1, h2, _⟩ := prt_bounds ha.1 hp h
  unfold prt at h1 h2
  have := ha.2
  refine ⟨?_, ?_⟩
  · unfold paN mdN prt
    rw [if_neg (by omega), if_neg (by decide), if_pos (by omega)]
  · unfold paE mdE
    rw [if_neg (by omega), if_neg (by decide), if_pos (by omega)]
/-- at the head of the loop: what is left, the sum, how many parts -/
structure SI (a L S : Int) (i : Nat) : Prop where
  l0 : 0 ≤ L
  l1 : L ≤ 1000000000
  s0 : 0 ≤ S
  up : 1000000000 * S ≤ a * (1000000000 - L)
  lo : a * (1000000000 - L) ≤ 1000000000 * S + i * 999999999
theorem SI.start (a : Int) : SI a 1000000000 0 0 := ⟨by decide, by decide, by decide, by simp, by simp⟩
theorem SI.step {a L S P : Int} {i : Nat} (h : SI a L S i) (ha : 0 ≤ a) (h0 : 0 ≤ P) (h1 : P ≤ L) : SI a (L - P) (S + prt a P) (i + 1) ∧ S ≤ a - prt a P := by
  have l0 := h.l0; have l1 := h.l1; have s0 := h.s0; have up := h.up; have lo := h.lo
  obtain ⟨b1, b2, b3, b4⟩ := prt_bounds ha h0 (by omega)
  have e : a * (1000000000 - (L - P)) = a * (1000000000 - L) + a * P := by rw [← Int.mul_add]; congr 1; omega
  have e2 : a * (1000000000 - (L - P)) ≤ a * 1000000000 := Int.mul_le_mul_of_nonneg_left (by omega) ha
  refine ⟨⟨by omega, by omega, by omega, by omega, ?_⟩, by omega⟩
  rw [e]
  push_cast
  omega
theorem SI.done {a S : Int} {n : Nat} (h : SI a 0 S (n + 1)) : S ≤ a ∧ a - S ≤ n := by
  have up := h.up; have lo := h.lo
  push_cast at lo
  omega
end Go.Proofs.Ytnbeejgppooamaa
