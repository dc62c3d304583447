/- Plain numbers: the words of math/bits.Div64 behind the shift, and the loop's invariant. Conditions stand in each lemma. -/
import Derived.Test.YtkinchgjidpjnaaGreatDivMath
import Derived.Laws.BitsAllLaws
import Derived.Lib.BitFns
import Derived.IntWalk
namespace Go.Proofs.YtkinchgjidpjnaaGreat.DivMath
open Go

theorem bitLen_bounds (x : Nat) (h0 : x ≠ 0) (h : x < 2 ^ 64) : 1 ≤ Lib.bitLen x ∧ Lib.bitLen x ≤ 64 ∧ 2 ^ (Lib.bitLen x - 1) ≤ x ∧ x < 2 ^ Lib.bitLen x := by
  have aux : ∀ f x, x < 2 ^ f → x < 2 ^ Lib.bitLenAux f x ∧ Lib.bitLenAux f x ≤ f ∧ (x ≠ 0 → 1 ≤ Lib.bitLenAux f x ∧ 2 ^ (Lib.bitLenAux f x - 1) ≤ x) := by
    intro f
    induction f with
    | zero => intro x hx; simp [Lib.bitLenAux] at hx ⊢; omega
    | succ f ih =>
      intro x hx
      rw [Lib.bitLenAux]
      by_cases hz : x = 0
      · simp [hz]
      · rw [if_neg hz]
        obtain ⟨i1, i2, i3⟩ := ih (x / 2) (by rw [Nat.pow_succ] at hx; omega)
        refine ⟨by rw [Nat.add_comm, Nat.pow_succ]; omega, by omega, fun _ => ⟨by omega, ?_⟩⟩
        by_cases hz2 : x / 2 = 0
        · have h1 : Lib.bitLenAux f (x / 2) = 0 := by
            rw [hz2]; cases f <;> simp [Lib.bitLenAux]
          rw [h1]; simp; omega
        · obtain ⟨j1, j2⟩ := i3 hz2
          rw [show 1 + Lib.bitLenAux f (x / 2) - 1 = Lib.bitLenAux f (x / 2) - 1 + 1 from by omega, Nat.pow_succ]
          omega
  obtain ⟨a, b, c⟩ := aux 64 x h
  obtain ⟨d, e⟩ := c h0
  exact ⟨d, b, e, a⟩

/-- what the words are behind the shift: all that the walk of Div64 asks -/
structure Norm (hi lo y : Nat) (k Y yn1 yn0 u un1 un0 : Nat) : Prop where
  k63 : k ≤ 63
  len : Lib.bitLen y + k = 64
  hY : Y = y * 2 ^ k
  hYlt : Y < 18446744073709551616
  split : Y = yn1 * 4294967296 + yn0
  yn1lo : 2147483648 ≤ yn1
  yn1hi : yn1 < 4294967296
  yn0hi : yn0 < 4294967296
  ueq : u = hi * 2 ^ k + lo / 2 ^ (64 - k)
  ult : u < Y
  un : lo * 2 ^ k % 18446744073709551616 = un1 * 4294967296 + un0
  un1hi : un1 < 4294967296
  un0hi : un0 < 4294967296
  quo : (hi * 18446744073709551616 + lo) / y = (u * 18446744073709551616 + (un1 * 4294967296 + un0)) / Y
  rem : (hi * 18446744073709551616 + lo) % y = (u * 18446744073709551616 + (un1 * 4294967296 + un0)) % Y / 2 ^ k

theorem norm (hi lo y : Nat) (h : hi < y) (hy : y < 18446744073709551616) (hlo : lo < 18446744073709551616) : ∃ k Y yn1 yn0 u un1 un0, Norm hi lo y k Y yn1 yn0 u un1 un0 := by
  obtain ⟨b1, b2, b3, b4⟩ := bitLen_bounds y (by omega) hy
  obtain ⟨k, hk⟩ : ∃ k, Lib.bitLen y + k = 64 := ⟨64 - Lib.bitLen y, by omega⟩
  have hp : 2 ^ Lib.bitLen y * 2 ^ k = 18446744073709551616 := by rw [← Nat.pow_add, hk]
  have hp2 : 2 ^ (Lib.bitLen y - 1) * 2 ^ k = 9223372036854775808 := by rw [← Nat.pow_add, show Lib.bitLen y - 1 + k = 63 from by omega]
  have hYlt : y * 2 ^ k < 18446744073709551616 := by rw [← hp]; exact Nat.mul_lt_mul_of_pos_right b4 (Nat.two_pow_pos _)
  have hYge : 9223372036854775808 ≤ y * 2 ^ k := by rw [← hp2]; exact Nat.mul_le_mul_right _ b3
  obtain ⟨s1, s2⟩ := shl_words hi lo y k (by omega) hlo h
  obtain ⟨d1, d2⟩ := shl_div (hi * 18446744073709551616 + lo) y k
  have hm : ∀ x : Nat, x / 4294967296 * 4294967296 + x % 4294967296 = x := fun x => Nat.div_add_mod' x _
  refine ⟨k, y * 2 ^ k, y * 2 ^ k / 4294967296, y * 2 ^ k % 4294967296, hi * 2 ^ k + lo / 2 ^ (64 - k), lo * 2 ^ k % 18446744073709551616 / 4294967296, lo * 2 ^ k % 18446744073709551616 % 4294967296,
    ⟨by omega, hk, rfl, hYlt, by omega, by omega, by omega, by omega, rfl, s1, by omega, by omega, by omega, ?_, ?_⟩⟩
  · rw [hm, s2]; exact d1.symm
  · rw [hm, s2]; exact d2.symm

section
variable {hi lo y k Y yn1 yn0 u un1 un0 : Nat}
theorem Norm.eY (h : Norm hi lo y k Y yn1 yn0 u un1 un0) : IntKind.u64.wrap ((y : Int) * 2 ^ k) = (Y : Int) := by
  rw [IntKind.wrap_u64, h.hY]
  have := h.hYlt
  rw [h.hY] at this
  have e : ((y * 2 ^ k : Nat) : Int) = (y : Int) * 2 ^ k := by simp
  rw [← e]; omega
theorem Norm.eyn1 (h : Norm hi lo y k Y yn1 yn0 u un1 un0) : (Y : Int) / 4294967296 = (yn1 : Int) := by
  have := h.split; have := h.yn0hi; omega
theorem and_mask (a b c : Nat) (h : a = b * 4294967296 + c) (hc : c < 4294967296) (ha : a < 18446744073709551616) : bits .and .u64 (a : Int) 4294967295 = (c : Int) := by
  have := u64_and_nat a 4294967295 ha (by omega)
  rw [show ((4294967295 : Nat) : Int) = 4294967295 from rfl] at this
  rw [this, show (4294967295 : Nat) = 2 ^ 32 - 1 from rfl, Nat.and_two_pow_sub_one_eq_mod]
  omega
theorem Norm.eyn0 (h : Norm hi lo y k Y yn1 yn0 u un1 un0) : bits .and .u64 (Y : Int) 4294967295 = (yn0 : Int) := and_mask Y yn1 yn0 h.split h.yn0hi h.hYlt
theorem Norm.eun10 (h : Norm hi lo y k Y yn1 yn0 u un1 un0) : IntKind.u64.wrap ((lo : Int) * 2 ^ k) = ((un1 * 4294967296 + un0 : Nat) : Int) := by
  rw [IntKind.wrap_u64, ← h.un]
  have e : ((lo * 2 ^ k : Nat) : Int) = (lo : Int) * 2 ^ k := by simp
  rw [← e]; omega
theorem Norm.eun1 (h : Norm hi lo y k Y yn1 yn0 u un1 un0) : ((un1 * 4294967296 + un0 : Nat) : Int) / 4294967296 = (un1 : Int) := by
  have := h.un0hi; omega
theorem Norm.eun0 (h : Norm hi lo y k Y yn1 yn0 u un1 un0) : bits .and .u64 ((un1 * 4294967296 + un0 : Nat) : Int) 4294967295 = (un0 : Int) :=
  and_mask _ un1 un0 rfl h.un0hi (by have := h.un1hi; have := h.un0hi; omega)
theorem Norm.eu (h : Norm hi lo y k Y yn1 yn0 u un1 un0) (hlo : lo < 18446744073709551616) : bits .or .u64 (IntKind.u64.wrap ((hi : Int) * 2 ^ k)) ((lo : Int) / 2 ^ (64 - k)) = (u : Int) := by
  have hp : 0 < 2 ^ (64 - k) := Nat.two_pow_pos _
  have e2 : 2 ^ k * 2 ^ (64 - k) = 18446744073709551616 := by rw [← Nat.pow_add, show k + (64 - k) = 64 from by have := h.k63; omega]
  have hl : lo / 2 ^ (64 - k) < 2 ^ k := by rw [Nat.div_lt_iff_lt_mul hp, e2]; exact hlo
  have hu := h.ult
  have hue := h.ueq
  have hYl := h.hYlt
  have hh : hi * 2 ^ k < 18446744073709551616 := Nat.lt_of_le_of_lt (by rw [hue]; exact Nat.le_add_right _ _) (Nat.lt_trans hu hYl)
  have e : IntKind.u64.wrap ((hi : Int) * 2 ^ k) = ((hi * 2 ^ k : Nat) : Int) := by
    rw [IntKind.wrap_u64]
    have e : ((hi * 2 ^ k : Nat) : Int) = (hi : Int) * 2 ^ k := by simp
    rw [← e]; omega
  have e3 : (lo : Int) / 2 ^ (64 - k) = ((lo / 2 ^ (64 - k) : Nat) : Int) := by simp
  rw [e, e3, u64_or_nat _ _ hh (by omega), hue, Nat.mul_comm hi, Nat.two_pow_add_eq_or_of_lt hl]
theorem Norm.eun1' (h : Norm hi lo y k Y yn1 yn0 u un1 un0) : ((un1 : Int) * 4294967296 + (un0 : Int)) / 4294967296 = (un1 : Int) := by
  have := h.un0hi; omega
theorem Norm.eun0' (h : Norm hi lo y k Y yn1 yn0 u un1 un0) : bits .and .u64 ((un1 : Int) * 4294967296 + (un0 : Int)) 4294967295 = (un0 : Int) := by
  have := h.eun0
  rwa [Int.natCast_add, Int.natCast_mul] at this
end

/-- one digit's loop: what holds at its head -/
structure Inv (u d Y yn1 yn0 q r : Nat) : Prop where
  split : Y = yn1 * 4294967296 + yn0
  yn1lo : 2147483648 ≤ yn1
  yn0hi : yn0 < 4294967296
  ult : u < Y
  dhi : d < 4294967296
  sum : q * yn1 + r = u
  lo : (u * 4294967296 + d) / Y ≤ q
  hi : q ≤ 4294967297
  rhi : r < 4294967296
section
variable {u d Y yn1 yn0 q r : Nat}
theorem Inv.start (h1 : Y = yn1 * 4294967296 + yn0) (h2 : 2147483648 ≤ yn1) (h3 : yn1 < 4294967296) (h4 : yn0 < 4294967296) (h5 : u < Y) (h6 : d < 4294967296) :
    Inv u d Y yn1 yn0 (u / yn1) (u % yn1) :=
  ⟨h1, h2, h4, h5, h6, by rw [Nat.mul_comm]; exact Nat.div_add_mod u yn1, est_ge u d Y yn1 yn0 h1 (by omega) h5 h6, est_le u Y yn1 yn0 h1 h2 h4 h5, Nat.lt_trans (Nat.mod_lt _ (by omega)) h3⟩
theorem Inv.next (h : Inv u d Y yn1 yn0 q r) (ht : 4294967296 ≤ q ∨ 4294967296 * r + d < q * yn0) : 1 ≤ q ∧ (u * 4294967296 + d) / Y ≤ q - 1 ∧ (q - 1) * yn1 + (r + yn1) = u ∧
    (r + yn1 < 4294967296 → Inv u d Y yn1 yn0 (q - 1) (r + yn1)) ∧ (4294967296 ≤ r + yn1 → q - 1 = (u * 4294967296 + d) / Y) := by
  have h1 := test_yes u d Y yn1 yn0 q r h.split (by have := h.split; have := h.yn1lo; omega) h.ult h.dhi h.sum ht
  have hpos : 1 ≤ q := Nat.lt_of_le_of_lt (Nat.zero_le _) h1
  have hlo : (u * 4294967296 + d) / Y ≤ q - 1 := Nat.le_sub_one_of_lt h1
  have hs : (q - 1) * yn1 + (r + yn1) = u := by
    have h2 : q = q - 1 + 1 := by omega
    have h3 := h.sum
    rw [h2, Nat.add_mul] at h3
    omega
  refine ⟨hpos, hlo, hs, fun hr => ⟨h.split, h.yn1lo, h.yn0hi, h.ult, h.dhi, hs, hlo, by have := h.hi; omega, hr⟩, fun hr => ?_⟩
  refine q_eq u d Y (q - 1) (by have := h.split; have := h.yn1lo; omega) hlo (test_no u d Y yn1 yn0 (q - 1) (r + yn1) h.split hs ?_)
  have h4 : (q - 1) * yn0 ≤ 4294967296 * yn0 := Nat.mul_le_mul_right _ (by have := h.hi; omega)
  have := h.yn0hi
  omega
theorem Inv.done (h : Inv u d Y yn1 yn0 q r) (ht : q * yn0 ≤ 4294967296 * r + d) : q = (u * 4294967296 + d) / Y :=
  q_eq u d Y q (by have := h.split; have := h.yn1lo; omega) h.lo (test_no u d Y yn1 yn0 q r h.split h.sum ht)
theorem Inv.prod (h : Inv u d Y yn1 yn0 q r) (hq : q < 4294967296) : (q : Int) * (yn0 : Int) < 18446744073709551616 ∧ 0 ≤ (q : Int) * (yn0 : Int) ∧ 4294967296 * (r : Int) + (d : Int) < 18446744073709551616 := by
  have h4 : q * yn0 ≤ 4294967295 * yn0 := Nat.mul_le_mul_right _ (by omega)
  have := h.yn0hi
  have := h.rhi
  have := h.dhi
  rw [← Int.natCast_mul]
  omega
end
/-- the estimate's own terms, as the walk has them -/
theorem est_eqs (u Y yn1 yn0 : Nat) (h1 : Y = yn1 * 4294967296 + yn0) (h2 : 2147483648 ≤ yn1) (h4 : yn0 < 4294967296) (h5 : u < Y) (h6 : Y < 18446744073709551616) :
    IntKind.u64.wrap ((u : Int) / (yn1 : Int)) = ((u / yn1 : Nat) : Int) ∧ IntKind.u64.wrap ((u : Int) - IntKind.u64.wrap (((u / yn1 : Nat) : Int) * (yn1 : Int))) = ((u % yn1 : Nat) : Int) := by
  have e := est_le u Y yn1 yn0 h1 h2 h4 h5
  have hd := Nat.div_add_mod u yn1
  constructor
  · rw [IntKind.wrap_u64, ← Int.natCast_ediv]; generalize u / yn1 = t at *; omega
  · rw [IntKind.wrap_u64, IntKind.wrap_u64, ← Int.natCast_mul, Nat.mul_comm (u / yn1)]
    have hm : u % yn1 ≤ u := Nat.mod_le _ _
    generalize yn1 * (u / yn1) = p at *
    generalize u % yn1 = t at *
    generalize u / yn1 = x at *
    omega
/-- what is left behind a digit -/
theorem left_eq (u d Y q : Nat) (hY : 0 < Y) (hYl : Y < 18446744073709551616) (hq : q = (u * 4294967296 + d) / Y) :
    IntKind.u64.wrap (IntKind.u64.wrap (IntKind.u64.wrap ((u : Int) * 4294967296) + (d : Int)) - IntKind.u64.wrap ((q : Int) * (Y : Int))) = (((u * 4294967296 + d) % Y : Nat) : Int) := by
  have hd := Nat.div_add_mod (u * 4294967296 + d) Y
  have hm := Nat.mod_lt (u * 4294967296 + d) hY
  rw [← hq] at hd
  simp only [IntKind.wrap_u64]
  rw [← Int.natCast_mul q, Nat.mul_comm q]
  generalize Y * q = p at *
  generalize (u * 4294967296 + d) % Y = t at *
  omega
end Go.Proofs.YtkinchgjidpjnaaGreat.DivMath
