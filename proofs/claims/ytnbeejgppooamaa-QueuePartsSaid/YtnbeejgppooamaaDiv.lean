/- math/bits.Div64 returns the quotient and the rest of two words by a word, where the high word is below the divisor. -/
import Derived.Test.YtnbeejgppooamaaRows
import Derived.Test.YtnbeejgppooamaaShelf
import Derived.Test.YtnbeejgppooamaaDivNorm
import Derived.Test.YtnbeejgppooamaaExt
import Derived.WalkKit
import Derived.WalkSpells
import Derived.WalkLawsBesides
import Derived.IntWalk
import Derived.Lib.Hide
import Derived.Deep.QuietTactic
import Derived.Deep.LoopGhost
import Derived.Deep.DeepCutAuto
import Derived.Deep.CutBlock
import Derived.BigQuiet
namespace Go.Proofs.Ytnbeejgppooamaa
open Go.RowKit DivMath



theorem lz_any (y k : Nat) (hy : y < 18446744073709551616) (hk : Lib.bitLen y + k = 64) (w : World) :
    Calls Try.prog 109 #[.int .u64 y] w fun e w' => e = .returned (.int .i64 k) ∧ w = w' := by
  refine (Try.bits_LeadingZeros64 y w (by omega) (by omega)).mono fun e w' ⟨he, hw⟩ => ⟨?_, hw.symm⟩
  rw [he, Int.toNat_natCast, show (64 : Int) - (Lib.bitLen y : Int) = (k : Int) from by omega]

set_option maxHeartbeats 400000 in
theorem div64_zero (lo y : Int) (hy : 0 < y) (hy1 : y < 18446744073709551616) (l0 : 0 ≤ lo) (l1 : lo < 18446744073709551616) (w : World) :
    Calls Try.prog 105 #[.int .u64 0, .int .u64 lo, .int .u64 y] w fun e w' => e = .returned (.tuple #[.int .u64 (lo / y), .int .u64 (lo % y)]) ∧ ∃ n, w' = w.drewN n := by
  have e1 : (y == 0) = false := by simp; omega
  have e2 : ¬ y ≤ 0 := by omega
  go_enter Try.func105, Try.ntmps105
  go_wp2
  go_quiet (fail)
  go_wp2
  go_ret2
  exact ⟨rfl, _, rfl⟩

set_option maxRecDepth 100000 in
set_option maxHeartbeats 400000 in
theorem div64_some (hi lo y k Y yn1 yn0 u un1 un0 : Nat) (h0 : 0 < hi) (hlt : hi < y) (hy1 : y < 18446744073709551616) (hlo : lo < 18446744073709551616)
    (N : Norm hi lo y k Y yn1 yn0 u un1 un0) (w : World) :
    Calls Try.prog 105 #[.int .u64 hi, .int .u64 lo, .int .u64 y] w fun e w' => e = .returned (.tuple #[.int .u64 (((hi * 18446744073709551616 + lo) / y : Nat) : Int), .int .u64 (((hi * 18446744073709551616 + lo) % y : Nat) : Int)]) ∧ w = w' := by
  have e1 : ((y : Int) == 0) = false := by simp; omega
  have e2 : ¬ (y : Int) ≤ hi := by omega
  have e3 : ((hi : Int) == 0) = false := by simp; omega
  have n1 := N.k63
  have n2 := N.yn1lo
  have n3 := N.yn1hi
  have n4 := N.yn0hi
  have n5 := N.ult
  have n6 := N.hYlt
  have n7 := N.un1hi
  have n8 := N.un0hi
  have eY := N.eY
  have ey1 := N.eyn1
  have ey0 := N.eyn0
  have eu := N.eu hlo
  have e10 := N.eun10
  have e11 := N.eun1'
  have e12 := N.eun0'
  have m1 : min k 64 = k := by omega
  have m2 : min (64 - k) 64 = 64 - k := by omega
  obtain ⟨q1, hq1⟩ : ∃ q, q = u / yn1 := ⟨_, rfl⟩
  obtain ⟨r1, hr1⟩ : ∃ q, q = u % yn1 := ⟨_, rfl⟩
  obtain ⟨b1, b2⟩ := est_eqs u Y yn1 yn0 N.split n2 n4 n5 n6
  have I1 := Lib.hid (Inv.start N.split n2 n3 n4 n5 n7)
  rw [← hq1, ← hr1] at I1
  rw [← hq1] at b1 b2
  rw [← hr1] at b2
  clear hq1 hr1
  have H := Lib.hid N
  clear N
  go_enter Try.func105, Try.ntmps105
  go_upto_block 0 with (go_at_call 109; refine (lz_any y k hy1 H.out.len _).mono ?_; rintro e w' ⟨rfl, rfl⟩)
  go_cut [15] (fun q wx => q = .int .u64 (((u * 4294967296 + un1) / Y : Nat) : Int) ∧ wx = w)
  case first =>
    go_wp2_with fail
    go_loopg [15, 16] q1 (fun n q r wx => ∃ r' : Nat, Hid (Inv u un1 Y yn1 yn0 n r') ∧ (n : Int) ≤ 4294967297 ∧ (r' : Int) < 4294967296 ∧ q = .int .u64 n ∧ r = .int .u64 r' ∧ wx = w)
    case atStart => exact ⟨r1, I1, by have := I1.out.hi; omega, by have := I1.out.rhi; omega, rfl, rfl, rfl⟩
    case round =>
      obtain ⟨r', I, hn, hr, rfl, rfl, rfl⟩ := hrel
      by_cases hq : (4294967296 : Int) ≤ (gk : Int)
      · have J := Lib.hid (I.out.next (.inl (by omega)))
        have hg : (1 : Int) ≤ (gk : Int) := by omega
        by_cases hb : (4294967296 : Int) ≤ (r' : Int) + (yn1 : Int)
        · go_wp2_with fail
          go_meet
          exact ⟨num_eq (by rw [← J.out.2.2.2.2 (by omega)]; omega), rfl⟩
        · go_wp2_with fail
          go_roundg (gk - 1)
          case measure => omega
          case rel => exact ⟨r' + yn1, J.out.2.2.2.1 (by omega), by omega, by omega, num_eq (by omega), num_eq (by omega), rfl⟩
      · obtain ⟨p1, p2, p3⟩ := I.out.prod (by omega)
        by_cases ht : (4294967296 : Int) * (r' : Int) + (un1 : Int) < (gk : Int) * (yn0 : Int)
        · have J := Lib.hid (I.out.next (.inr (by rw [← Int.natCast_mul] at ht; omega)))
          have hg : (1 : Int) ≤ (gk : Int) := by have := J.out.1; omega
          by_cases hb : (4294967296 : Int) ≤ (r' : Int) + (yn1 : Int)
          · go_wp2_with fail
            go_meet
            exact ⟨num_eq (by rw [← J.out.2.2.2.2 (by omega)]; omega), rfl⟩
          · go_wp2_with fail
            go_roundg (gk - 1)
            case measure => omega
            case rel => exact ⟨r' + yn1, J.out.2.2.2.1 (by omega), by omega, by omega, num_eq (by omega), num_eq (by omega), rfl⟩
        · have J := Lib.hid (I.out.done (by rw [← Int.natCast_mul] at ht; omega))
          go_wp2_with fail
          go_meet
          exact ⟨num_eq (by rw [← J.out]), rfl⟩
  case rest =>
    obtain ⟨rfl, rfl⟩ := hcut
    clear I1 b1 b2
    obtain ⟨Q1, HQ1⟩ : ∃ Q, Hid (Q = (u * 4294967296 + un1) / Y) := ⟨_, rfl⟩
    obtain ⟨v, Hv⟩ : ∃ v, Hid (v = (u * 4294967296 + un1) % Y) := ⟨_, rfl⟩
    have l1 := left_eq u un1 Y Q1 (by omega) n6 HQ1.out
    rw [← HQ1.out]
    rw [← Hv.out] at l1
    have n9 : v < Y := by rw [Hv.out]; exact Nat.mod_lt _ (by omega)
    obtain ⟨q0, hq0⟩ : ∃ q, q = v / yn1 := ⟨_, rfl⟩
    obtain ⟨r0, hr0⟩ : ∃ q, q = v % yn1 := ⟨_, rfl⟩
    obtain ⟨b1, b2⟩ := est_eqs v Y yn1 yn0 H.out.split n2 n4 n9 n6
    have I0 := Lib.hid (Inv.start H.out.split n2 n3 n4 n9 n8)
    rw [← hq0, ← hr0] at I0
    rw [← hq0] at b1 b2
    rw [← hr0] at b2
    clear hq0 hr0
    go_upto_block 2 with (fail)
    go_cut [18] (fun q wx => q = .int .u64 (((v * 4294967296 + un0) / Y : Nat) : Int) ∧ wx = wc)
    case first =>
      go_wp2_with fail
      go_loopg [18, 16] q0 (fun n q r wx => ∃ r' : Nat, Hid (Inv v un0 Y yn1 yn0 n r') ∧ (n : Int) ≤ 4294967297 ∧ (r' : Int) < 4294967296 ∧ q = .int .u64 n ∧ r = .int .u64 r' ∧ wx = wc)
      case atStart => exact ⟨r0, I0, by have := I0.out.hi; omega, by have := I0.out.rhi; omega, rfl, rfl, rfl⟩
      case round =>
        obtain ⟨r', I, hn, hr, rfl, rfl, rfl⟩ := hrel
        by_cases hq : (4294967296 : Int) ≤ (gk : Int)
        · have J := Lib.hid (I.out.next (.inl (by omega)))
          have hg : (1 : Int) ≤ (gk : Int) := by omega
          by_cases hb : (4294967296 : Int) ≤ (r' : Int) + (yn1 : Int)
          · go_wp2_with fail
            go_meet
            exact ⟨num_eq (by rw [← J.out.2.2.2.2 (by omega)]; omega), rfl⟩
          · go_wp2_with fail
            go_roundg (gk - 1)
            case measure => omega
            case rel => exact ⟨r' + yn1, J.out.2.2.2.1 (by omega), by omega, by omega, num_eq (by omega), num_eq (by omega), rfl⟩
        · obtain ⟨p1, p2, p3⟩ := I.out.prod (by omega)
          by_cases ht : (4294967296 : Int) * (r' : Int) + (un0 : Int) < (gk : Int) * (yn0 : Int)
          · have J := Lib.hid (I.out.next (.inr (by rw [← Int.natCast_mul] at ht; omega)))
            have hg : (1 : Int) ≤ (gk : Int) := by have := J.out.1; omega
            by_cases hb : (4294967296 : Int) ≤ (r' : Int) + (yn1 : Int)
            · go_wp2_with fail
              go_meet
              exact ⟨num_eq (by rw [← J.out.2.2.2.2 (by omega)]; omega), rfl⟩
            · go_wp2_with fail
              go_roundg (gk - 1)
              case measure => omega
              case rel => exact ⟨r' + yn1, J.out.2.2.2.1 (by omega), by omega, by omega, num_eq (by omega), num_eq (by omega), rfl⟩
          · have J := Lib.hid (I.out.done (by rw [← Int.natCast_mul] at ht; omega))
            go_wp2_with fail
            go_meet
            exact ⟨num_eq (by rw [← J.out]), rfl⟩
    case rest =>
      obtain ⟨rfl, rfl⟩ := hcut
      obtain ⟨Q0, HQ0⟩ : ∃ Q, Hid (Q = (v * 4294967296 + un0) / Y) := ⟨_, rfl⟩
      obtain ⟨z, Hz⟩ : ∃ v', Hid (v' = (v * 4294967296 + un0) % Y) := ⟨_, rfl⟩
      have l0 := left_eq v un0 Y Q0 (by omega) n6 HQ0.out
      rw [← HQ0.out]
      rw [← Hz.out] at l0
      have c1 : Q1 < 4294967296 := by rw [HQ1.out]; exact q_lt u un1 Y n5 n7
      have c0 : Q0 < 4294967296 := by rw [HQ0.out]; exact q_lt v un0 Y n9 n8
      obtain ⟨t1, t2⟩ := two_steps u un1 un0 Y (by omega)
      have F1 : Hid ((hi * 18446744073709551616 + lo) / y = Q1 * 4294967296 + Q0) := by
        show _ = _
        rw [H.out.quo, t1, ← HQ1.out, ← Hv.out, ← HQ0.out]
      have F2 : Hid ((hi * 18446744073709551616 + lo) % y = z / 2 ^ k) := by
        show _ = _
        rw [H.out.rem, t2, ← Hv.out, ← Hz.out]
      clear t1 t2
      go_wp2_with fail
      go_ret2
      exact ⟨by rw [F1.out, F2.out]; simp, rfl⟩

/-- math/bits.Div64, whatever the words: the quotient and the rest of two words by one; the world has drawn at most. -/
theorem div64_any (hi lo y : Int) (h0 : 0 ≤ hi) (hlt : hi < y) (hy1 : y < 18446744073709551616) (l0 : 0 ≤ lo) (l1 : lo < 18446744073709551616) (w : World) :
    Calls Try.prog 105 #[.int .u64 hi, .int .u64 lo, .int .u64 y] w fun e w' => e = .returned (.tuple #[.int .u64 ((hi * 18446744073709551616 + lo) / y), .int .u64 ((hi * 18446744073709551616 + lo) % y)]) ∧ ∃ n, w' = w.drewN n := by
  by_cases hz : hi = 0
  · subst hz
    have e := div64_zero lo y hlt hy1 l0 l1 w
    rw [show (0 : Int) * 18446744073709551616 + lo = lo from by omega]
    exact e
  · obtain ⟨hi, rfl⟩ := Int.eq_ofNat_of_zero_le h0
    obtain ⟨lo, rfl⟩ := Int.eq_ofNat_of_zero_le l0
    obtain ⟨y, rfl⟩ := Int.eq_ofNat_of_zero_le (by omega : 0 ≤ y)
    obtain ⟨k, Y, yn1, yn0, u, un1, un0, N⟩ := norm hi lo y (by omega) (by omega) (by omega)
    refine (div64_some hi lo y k Y yn1 yn0 u un1 un0 (by omega) (by omega) (by omega) (by omega) N w).mono fun e w' ⟨he, hw⟩ => ⟨?_, 0, ?_⟩
    · rw [he]; simp
    · rw [← hw]; rfl
#print axioms div64_any
end Go.Proofs.Ytnbeejgppooamaa
