/- Plain numbers: Knuth's division step in naturals (estimate, test, two digits). Conditions stand in each lemma. -/
namespace Go.Proofs.YtkinchgjidpjnaaGreat.DivMath

/-- the estimate is never too small -/
theorem est_ge (u d y yn1 yn0 : Nat) (hy : y = yn1 * 4294967296 + yn0) (h1 : 0 < yn1) (hu : u < y) (hd : d < 4294967296) :
    (u * 4294967296 + d) / y ≤ u / yn1 := by
  have hy0 : 0 < y := by omega
  rw [Nat.le_div_iff_mul_le h1]
  have h := Nat.div_mul_le_self (u * 4294967296 + d) y
  generalize (u * 4294967296 + d) / y = q at h ⊢
  have h2 : q * y = q * yn1 * 4294967296 + q * yn0 := by rw [hy, Nat.mul_add, Nat.mul_assoc]
  have h3 : q * yn1 * 4294967296 ≤ u * 4294967296 + d := by omega
  omega

theorem q_lt (u d y : Nat) (hu : u < y) (hd : d < 4294967296) : (u * 4294967296 + d) / y < 4294967296 := by
  rw [Nat.div_lt_iff_lt_mul (by omega)]
  have : (u + 1) * 4294967296 ≤ y * 4294967296 := Nat.mul_le_mul_right _ hu
  omega

/-- q is the quotient once it is between -/
theorem q_eq (u d y q : Nat) (hy : 0 < y) (hlo : (u * 4294967296 + d) / y ≤ q) (hhi : q * y ≤ u * 4294967296 + d) :
    q = (u * 4294967296 + d) / y :=
  Nat.le_antisymm ((Nat.le_div_iff_mul_le hy).2 hhi) hlo

/-- the test says yes: the estimate is too great -/
theorem test_yes (u d y yn1 yn0 q r : Nat) (hy : y = yn1 * 4294967296 + yn0) (hy0 : 0 < y) (hu : u < y) (hd : d < 4294967296) (hr : q * yn1 + r = u)
    (h : 4294967296 ≤ q ∨ 4294967296 * r + d < q * yn0) : (u * 4294967296 + d) / y < q := by
  rcases h with h | h
  · have := q_lt u d y hu hd; omega
  · rw [Nat.div_lt_iff_lt_mul hy0]
    have h2 : q * y = q * yn1 * 4294967296 + q * yn0 := by rw [hy, Nat.mul_add, Nat.mul_assoc]
    omega

theorem test_no (u d y yn1 yn0 q r : Nat) (hy : y = yn1 * 4294967296 + yn0) (hr : q * yn1 + r = u)
    (h : q * yn0 ≤ 4294967296 * r + d) : q * y ≤ u * 4294967296 + d := by
  have h2 : q * y = q * yn1 * 4294967296 + q * yn0 := by rw [hy, Nat.mul_add, Nat.mul_assoc]
  omega

theorem est_le (u y yn1 yn0 : Nat) (hy : y = yn1 * 4294967296 + yn0) (h1 : 2147483648 ≤ yn1) (h0 : yn0 < 4294967296) (hu : u < y) : u / yn1 ≤ 4294967297 := by
  have h : u / yn1 < 4294967298 := by
    rw [Nat.div_lt_iff_lt_mul (by omega)]
    omega
  omega

/-- the words of a shifted number -/
theorem shl_words (hi lo c s : Nat) (hs : s < 64) (hlo : lo < 18446744073709551616) (h : hi < c) :
    hi * 2 ^ s + lo / 2 ^ (64 - s) < c * 2 ^ s ∧
    (hi * 2 ^ s + lo / 2 ^ (64 - s)) * 18446744073709551616 + lo * 2 ^ s % 18446744073709551616 = (hi * 18446744073709551616 + lo) * 2 ^ s := by
  have e : 2 ^ s * 2 ^ (64 - s) = 18446744073709551616 := by
    rw [← Nat.pow_add, show s + (64 - s) = 64 from by omega]
  have hp : 0 < 2 ^ (64 - s) := Nat.two_pow_pos _
  have hl : lo / 2 ^ (64 - s) < 2 ^ s := by
    rw [Nat.div_lt_iff_lt_mul hp, e]; exact hlo
  constructor
  · have : (hi + 1) * 2 ^ s ≤ c * 2 ^ s := Nat.mul_le_mul_right _ h
    rw [Nat.add_mul] at this
    omega
  · have hm : lo * 2 ^ s % 18446744073709551616 = lo % 2 ^ (64 - s) * 2 ^ s := by
      rw [← e, Nat.mul_comm (2 ^ s), Nat.mul_mod_mul_right]
    have hd := Nat.div_add_mod lo (2 ^ (64 - s))
    rw [hm]
    generalize lo / 2 ^ (64 - s) = a at *
    generalize lo % 2 ^ (64 - s) = b at *
    rw [← hd, ← e]
    generalize 2 ^ s = p at *
    generalize 2 ^ (64 - s) = r at *
    simp only [Nat.add_mul]
    have x1 : hi * p * (p * r) = hi * (p * r) * p := by ac_rfl
    have x2 : a * (p * r) = r * a * p := by ac_rfl
    rw [x1, x2]; omega

theorem two_steps_gen (B u d1 d0 y : Nat) (hy : 0 < y) :
    (u * (B * B) + (d1 * B + d0)) / y = (u * B + d1) / y * B + ((u * B + d1) % y * B + d0) / y ∧
    (u * (B * B) + (d1 * B + d0)) % y = ((u * B + d1) % y * B + d0) % y := by
  have h := Nat.div_add_mod (u * B + d1) y
  generalize (u * B + d1) / y = q at *
  generalize (u * B + d1) % y = r at *
  have e : u * (B * B) + (d1 * B + d0) = (r * B + d0) + q * B * y := by
    have h2 : (y * q + r) * B = (u * B + d1) * B := by rw [h]
    rw [Nat.add_mul, Nat.add_mul, Nat.mul_assoc u B B, Nat.mul_right_comm y q B, Nat.mul_comm (y * B) q, Nat.mul_comm y B, ← Nat.mul_assoc q B y] at h2
    omega
  rw [e]
  constructor
  · rw [Nat.add_mul_div_right _ _ hy]; omega
  · rw [Nat.add_mul_mod_self_right]

/-- two steps make the quotient of two words -/
theorem two_steps (u d1 d0 y : Nat) (hy : 0 < y) :
    (u * 18446744073709551616 + (d1 * 4294967296 + d0)) / y = (u * 4294967296 + d1) / y * 4294967296 + ((u * 4294967296 + d1) % y * 4294967296 + d0) / y ∧
    (u * 18446744073709551616 + (d1 * 4294967296 + d0)) % y = ((u * 4294967296 + d1) % y * 4294967296 + d0) % y :=
  two_steps_gen 4294967296 u d1 d0 y hy

/-- a shift of both changes no quotient, and shifts the rest -/
theorem shl_div (n c s : Nat) : n * 2 ^ s / (c * 2 ^ s) = n / c ∧ n * 2 ^ s % (c * 2 ^ s) / 2 ^ s = n % c := by
  have hp : 0 < 2 ^ s := Nat.two_pow_pos _
  constructor
  · exact Nat.mul_div_mul_right _ _ hp
  · rw [Nat.mul_mod_mul_right, Nat.mul_div_cancel _ hp]

end Go.Proofs.YtkinchgjidpjnaaGreat.DivMath
