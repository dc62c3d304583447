/- The reference's Wide returns the two words of the product, for words. -/
import Derived.Test.YtnbeejgppooamaaFixF
import Derived.Test.YtnbeejgppooamaaFixRefMath
set_option linter.unusedVariables false
set_option linter.unusedSimpArgs false
namespace Go.Proofs.Ytnbeejgppooamaa
open Go.RowKit RefMath

/-- a number that the walk sees as a plain integer, no cast -/
theorem plain (n : Nat) : ∃ x : Int, Hid (x = (n : Int)) ∧ 0 ≤ x := ⟨n, rfl, by omega⟩

set_option maxRecDepth 100000 in
set_option maxHeartbeats 400000 in
theorem rWide_nat (a b : Nat) (ha : a < 18446744073709551616) (hb : b < 18446744073709551616) (A B : Int) (hA : A = a) (hB : B = b) (w : World) :
    Calls Try.prog 106 #[.int .u64 A, .int .u64 B] w fun e w' => e = .returned (.tuple #[.int .u64 (hiN A B), .int .u64 (loN A B)]) ∧ w = w' := by
  have V0 := Lib.hid (WInv.start ha hb)
  have ha' : A < 18446744073709551616 := by omega
  have hb' : B < 18446744073709551616 := by omega
  have a0 : 0 ≤ A := by omega
  have b0 : 0 ≤ B := by omega
  have HA := Lib.hid hA
  have HB := Lib.hid hB
  clear ha hb hA hB
  go_enter Try.func106, Try.ntmps106
  go_wp2
  go_loopg [6, 7, 8] 64 (fun n h l i wx => ∃ (h' l' : Nat) (H L : Int), Hid (WInv a b n h' l' ∧ H = h' ∧ L = l') ∧ n ≤ 64 ∧ 0 ≤ H ∧ 0 ≤ L ∧ h = .int .u64 H ∧ l = .int .u64 L ∧ Hid (i = .int .i64 ((n : Int) - 1)) ∧ wx = w)
  case atStart => exact ⟨0, 0, 0, 0, ⟨V0, rfl, rfl⟩, by decide, by decide, by decide, rfl, rfl, rfl, rfl⟩
  case round =>
    obtain ⟨h, l, H, L, V, hn, h0, l0, rfl, rfl, hi, rfl⟩ := hrel
    rcases gk with _ | i
    · obtain rfl := (hi.out : u8 = .int .i64 (-1))
      clear hi
      go_wp2
      go_ret2
      have h1 : (H * 18446744073709551616 + L) = A * B := by
        have := V.out.1.sum
        simp at this
        rw [V.out.2.1, V.out.2.2, HA.out, HB.out, ← Int.natCast_mul]
        omega
      have h2 : L < 18446744073709551616 := by have := V.out.1.hl; have := V.out.2.2; omega
      exact ⟨ret_two (by unfold hiN; omega) (by unfold loN; omega), rfl⟩
    · obtain rfl : u8 = .int .i64 (i : Int) := by rw [hi.out]; exact num_eq (by omega)
      clear hi
      obtain ⟨v, v1, v2⟩ := V.out
      have V := Lib.hid v
      have V1 := Lib.hid v1
      have V2 := Lib.hid v2
      have hh' : 2 * H + L / 9223372036854775808 < 18446744073709551616 := by have := v.step.2; omega
      have hl : L < 18446744073709551616 := by have := v.hl; omega
      have m1 : min i 64 = i := by omega
      have hb1 := Nat.mod_two_eq_zero_or_one (a / 2 ^ i)
      obtain ⟨sh, hsh⟩ : ∃ sh, sh = a / 2 ^ i := ⟨_, rfl⟩
      obtain ⟨S, hS⟩ : ∃ S : Int, S = sh := ⟨_, rfl⟩
      have esh : A / 2 ^ i = S := by rw [hS, hsh, HA.out]; simp
      have s0 : 0 ≤ S := by omega
      obtain ⟨l2, hl2⟩ : ∃ l2, l2 = 2 * l % 18446744073709551616 := ⟨_, rfl⟩
      obtain ⟨L2, hL2⟩ : ∃ L2 : Int, L2 = l2 := ⟨_, rfl⟩
      have es : IntKind.u64.wrap (2 * L) = L2 := by rw [IntKind.wrap_u64, hL2, hl2]; omega
      have hl3 : L2 < 18446744073709551616 := by omega
      have hl4 : 0 ≤ L2 := by omega
      have Z := fun hbit => v.zero hbit
      have O := fun hbit ho => v.one hbit ho
      have R := fun hbit ho => v.over hbit ho
      rw [← hsh] at hb1 Z O R
      rw [← hl2] at Z O R
      rcases hb1 with hbit | hbit
      · have hbit' : S % 2 = 0 := by omega
        have N := Lib.hid (Z hbit)
        have HL2 := Lib.hid hL2
        clear hbit v v1 v2 Z O R hl2 hsh hL2 hS
        go_wp2
        go_roundg i
        case measure => omega
        case rel => exact ⟨_, _, _, _, ⟨N, rfl, rfl⟩, by omega, by omega, by omega, num_eq (by have := V1.out; have := V2.out; omega), num_eq HL2.out, num_eq (by omega), rfl⟩
      · have hbit' : S % 2 = 1 := by omega
        by_cases ho : L2 + B < 18446744073709551616
        · have N := Lib.hid (O hbit (by have := HB.out; omega))
          have HL2 := Lib.hid hL2
          clear hbit v v1 v2 Z O R hl2 hsh hL2 hS
          go_wp2
          go_roundg i
          case measure => omega
          case rel => exact ⟨_, _, _, _, ⟨N, rfl, rfl⟩, by omega, by omega, by omega, num_eq (by have := V1.out; have := V2.out; omega), num_eq (by have := HL2.out; have := HB.out; omega), num_eq (by omega), rfl⟩
        · obtain ⟨N1, N2⟩ := R hbit (by have := HB.out; omega)
          have N := Lib.hid N1
          have HL2 := Lib.hid hL2
          have hw : IntKind.u64.wrap (L2 + B) = L2 + B - 18446744073709551616 := by rw [IntKind.wrap_u64]; omega
          have N3 : 2 * H + L / 9223372036854775808 + 1 < 18446744073709551616 := by omega
          have ho' : 18446744073709551616 ≤ L2 + B := by omega
          clear hbit N1 N2 v v1 v2 Z O R hl2 hsh hL2 hS ho
          go_wp2
          go_roundg i
          case measure => omega
          case rel => exact ⟨_, _, _, _, ⟨N, rfl, rfl⟩, by omega, by omega, by omega, num_eq (by have := V1.out; have := V2.out; omega), num_eq (by have := HL2.out; have := HB.out; omega), num_eq (by omega), rfl⟩

/-- the reference's Wide is the product's words; the world stays -/
theorem rWide_any (a b : Int) (ha : Word a) (hb : Word b) (w : World) :
    Calls Try.prog 106 #[.int .u64 a, .int .u64 b] w fun e w' => e = .returned (.tuple #[.int .u64 (hiN a b), .int .u64 (loN a b)]) ∧ w = w' := by
  obtain ⟨a', ea⟩ := Int.eq_ofNat_of_zero_le ha.1
  obtain ⟨b', eb⟩ := Int.eq_ofNat_of_zero_le hb.1
  exact rWide_nat a' b' (by have := ha.2; omega) (by have := hb.2; omega) a b ea eb w
end Go.Proofs.Ytnbeejgppooamaa
