/- What is proved: distraintlaw01.FixShares returns true for every two words and every list of numbers; nothing that was there is written. Conditions: none. -/
import Derived.Test.YtdckdefjhijihaaFixKnownW
import Derived.Test.YtdckdefjhijihaaFixShareMath
import Derived.Test.YtdckdefjhijihaaPick
set_option linter.unusedVariables false
set_option linter.unusedSimpArgs false
namespace Go.Proofs.Ytdckdefjhijihaa
open Go.RowKit

theorem fPart_b (a p : Int) (ha : Word a) (hp : 0 ≤ p) (h : p ≤ 1000000000) (w : World) :
    Calls Try.prog 35 #[.int .u64 a, .int .u64 p] w fun e w' => e = .returned (.tuple #[.int .u64 (prt a p), .int .i64 0]) ∧ Ext w w' := by
  obtain ⟨h1, h2⟩ := pa_prt ha hp h
  exact fPart_at a p _ _ ha ⟨hp, by omega⟩ h1 h2 w

theorem FixShares_long (a b : Int) (A : Option Addr) (n c : Nat) (l : List Int) (w : World) (hsl : Sl w 1 A n c (iv .i64 l)) (hn : (20 : Int) < n) :
    Calls Try.prog 7 #[.int .u64 a, .int .u64 b, .slice A n c] w fun r w' => r = .returned (.bool true) ∧ Ext w w' := by
  have hs := hsl.small
  clear hsl
  go_enter Try.func7, Try.ntmps7
  go_wp2_with fail
  refine (FixKnown_any _).mono ?_
  rintro e w1 ⟨rfl, hx1⟩
  go_wp2_with fail
  go_ret
  exact ⟨rfl, hx1⟩
set_option maxRecDepth 100000 in
set_option maxHeartbeats 1000000 in
theorem FixShares_short (a b mn mx : Int) (fa : Word a) (fb : Word b) (h1 : (if b < a then b else a) = mn) (h2 : (if a < b then b else a) = mx) (A : Option Addr) (n c : Nat) (l : List Int) (w : World) (hsl : Sl w 1 A n c (iv .i64 l)) (fl : ∀ x ∈ l, Fits .i64 x) (hn : (n : Int) ≤ 20) :
    Calls Try.prog 7 #[.int .u64 a, .int .u64 b, .slice A n c] w fun r w' => r = .returned (.bool true) ∧ Ext w w' := by
  have a0 := fa.1
  have a1 := fa.2
  have hmn : Word mn ∧ Word mx ∧ mn ≤ mx := by
    obtain ⟨_, _⟩ := fa
    obtain ⟨_, _⟩ := fb
    unfold Word
    rw [← h1, ← h2]
    repeat' split
    all_goals omega
  have hmin : ∀ (ts : Array TypeId) (t : TypeId) (w : World), (Builtin.min_ ts t #[.int .u64 a, .int .u64 b]).run Try.prog w = .ok (.int .u64 mn) w := by
    intro ts t w
    rw [run_min_int2, h1]
  have hmax : ∀ (ts : Array TypeId) (t : TypeId) (w : World), (Builtin.max_ ts t #[.int .u64 a, .int .u64 b]).run Try.prog w = .ok (.int .u64 mx) w := by
    intro ts t w
    rw [run_max_int2, h2]
  have ha := Lib.hid fa
  have HM := Lib.hid hmn
  have S := Lib.hid hsl
  have L := Lib.hid fl
  clear fa fb h1 h2 hmn fl
  have hs := hsl.small
  have hnl := Lib.hid hsl.ilen
  clear hsl
  go_enter Try.func7, Try.ntmps7
  go_wp2_with fail
  refine (FixKnown_any _).mono ?_
  rintro e w1 ⟨rfl, hx1⟩
  have X1 := Lib.hid hx1
  clear hx1
  go_wp2_with fail
  go_loopg [8, 9, 10, 11] (n + 1) (fun g lf sm la i wx => g ≤ n + 1 ∧ ∃ L' S' : Int, Hid (SI a L' S' (n + 1 - g) ∧ (g = 0 → L' = 0)) ∧ 0 ≤ L' ∧ L' ≤ 1000000000 ∧ 0 ≤ S' ∧ lf = .int .u64 L' ∧ sm = .int .u64 S' ∧ la = .int .u64 (prt a (1000000000 - L')) ∧ i = .int .i64 ((n + 1 - g : Nat) : Int) ∧ Ext w wx)
  case atStart => exact ⟨Nat.le_refl _, 1000000000, 0, ⟨by rw [Nat.sub_self]; exact SI.start a, fun h => absurd h (by omega)⟩, by decide, by decide, by decide, rfl, rfl, by simp [prt], by simp, X1.out⟩
  case round =>
    obtain ⟨hg, L', S', H, l0, l1, s0, rfl, rfl, rfl, hi, hx⟩ := hrel
    obtain ⟨k, hk⟩ : ∃ k, k = n + 1 - gk := ⟨_, rfl⟩
    rw [← hk] at H hi
    subst hi
    have XW := Lib.hid hx
    clear hx
    by_cases hz : gk = 0
    · have hkn : ¬ (k : Int) ≤ n := by omega
      obtain ⟨h1, h2⟩ := H.out
      obtain rfl : L' = 0 := h2 hz
      obtain ⟨d1, d2⟩ := SI.done (by rw [show k = n + 1 from by omega] at h1; exact h1)
      clear H h1 h2 hz hg hk
      go_wp2_with fail
      go_ret
      exact ⟨rfl, XW.out⟩
    · have hkn : (k : Int) ≤ n := by omega
      -- what is taken of what is left
      have main : ∀ P : Int, 0 ≤ P → P ≤ L' → (SI a (L' - P) (S' + prt a P) (k + 1) ∧ S' ≤ a - prt a P) ∧ 0 ≤ prt a P ∧ prt a P ≤ a ∧ prt mn P ≤ prt mx P ∧ prt a (1000000000 - L') ≤ prt a (1000000000 - (L' - P)) := by
        intro P p0 p1
        obtain ⟨q1, q2, _⟩ := prt_bounds a0 p0 (by omega : P ≤ 1000000000)
        exact ⟨H.out.1.step a0 p0 p1, q1, q2, prt_mono_a HM.out.2.2 p0, prt_mono_p a0 (by omega)⟩
      have HK := Lib.hid (And.intro hk (And.intro hg hz))
      by_cases hl : k = n
      · obtain ⟨⟨m1, m2⟩, m3, m4, m5, m6⟩ := main L' l0 (Int.le_refl _)
        rw [Int.sub_self] at m1 m6
        rw [Int.sub_zero] at m6
        have N := Lib.hid m1
        have hnk : ¬ (k : Int) < n := by omega
        have HKL := Lib.hid hl
        have r1 : L' - L' = 0 := by omega
        clear m1 main hk hg hz hl H
        go_wp2_with fail
        refine (fPart_b a L' ha.out l0 l1 _).mono ?_
        rintro e w2 ⟨rfl, hx2⟩
        go_wp2_with fail
        refine (fPart_b mn L' HM.out.1 l0 l1 _).mono ?_
        rintro e w3 ⟨rfl, hx3⟩
        go_wp2_with fail
        refine (fPart_b mx L' HM.out.2.1 l0 l1 _).mono ?_
        rintro e w4 ⟨rfl, hx4⟩
        go_wp2_with fail
        refine (fPart_b a _ ha.out (by omega) (by omega) _).mono ?_
        rintro e w5 ⟨rfl, hx5⟩
        go_wp2_with fail
        go_roundg (gk - 1)
        case measure => have := HK.out; omega
        case rel => exact ⟨by have := HK.out; omega, 0, S' + prt a L', ⟨by rw [show n + 1 - (gk - 1) = k + 1 from by have := HK.out; omega]; exact N.out, fun _ => rfl⟩, by decide, by decide, by omega, num_eq (by omega), num_eq (by omega), num_eq (by simp), num_eq (by have := HK.out; omega), XW.out.trans (hx2.trans (hx3.trans (hx4.trans hx5)))⟩
      · have hkn2 : (k : Int) < n := by omega
        obtain ⟨b1, o1, rfl, hb1, hc1⟩ := (S.out.ext XW.out).cell (show k < n from by omega)
        have hc2 := hc1 k (by omega)
        have hfx := L.out (l.getD k 0) (by rw [List.getD_eq_getElem?_getD, List.getElem?_eq_getElem (by have := hnl.out; omega)]; exact List.getElem_mem _)
        obtain ⟨x, hxx⟩ : ∃ x, x = l.getD k 0 := ⟨_, rfl⟩
        rw [← hxx] at hc2 hfx
        obtain ⟨x0, x1⟩ := hfx.i64
        have p0 := Int.emod_nonneg x (by omega : L' + 1 ≠ 0)
        have p1 := Int.emod_lt_of_pos x (by omega : 0 < L' + 1)
        have PK := kPick_any x (L' + 1) x0 x1 (by omega) (by omega)
        obtain ⟨P, hP⟩ : ∃ P, P = x % (L' + 1) := ⟨_, rfl⟩
        rw [← hP] at p0 p1 PK
        obtain ⟨⟨m1, m2⟩, m3, m4, m5, m6⟩ := main P p0 (by omega)
        have N := Lib.hid m1
        have PKH := Lib.hid PK
        have p2 : P ≤ L' := by omega
        have HKL := Lib.hid hl
        clear m1 main hk hg hz hl H hc1 hxx hb1 hP PK hfx x0 x1
        go_wp2_with fail
        refine (PKH.out _).mono ?_
        rintro e w2 ⟨rfl, rfl⟩
        go_wp2_with fail
        refine (fPart_b a P ha.out p0 (by omega) _).mono ?_
        rintro e w2 ⟨rfl, hx2⟩
        go_wp2_with fail
        refine (fPart_b mn P HM.out.1 p0 (by omega) _).mono ?_
        rintro e w3 ⟨rfl, hx3⟩
        go_wp2_with fail
        refine (fPart_b mx P HM.out.2.1 p0 (by omega) _).mono ?_
        rintro e w4 ⟨rfl, hx4⟩
        go_wp2_with fail
        refine (fPart_b a _ ha.out (by omega) (by omega) _).mono ?_
        rintro e w5 ⟨rfl, hx5⟩
        go_wp2_with fail
        go_roundg (gk - 1)
        case measure => have := HK.out; omega
        case rel => exact ⟨by have := HK.out; omega, L' - P, S' + prt a P, ⟨by rw [show n + 1 - (gk - 1) = k + 1 from by have := HK.out; omega]; exact N.out, fun hh => absurd hh (by have := HK.out; have := HKL.out; omega)⟩, by omega, by omega, by omega, num_eq (by omega), num_eq (by omega), num_eq rfl, num_eq (by have := HK.out; omega), XW.out.trans (hx2.trans (hx3.trans (hx4.trans hx5)))⟩
theorem FixShares_any (a : Int) (fa : Fits .u64 a) (b : Int) (fb : Fits .u64 b) (A : Option Addr) (n c : Nat) (l : List Int) (w : World) (hsl : Sl w 1 A n c (iv .i64 l)) (fl : ∀ x ∈ l, Fits .i64 x) :
    Calls Try.prog 7 #[.int .u64 a, .int .u64 b, .slice A n c] w fun r w' => r = .returned (.bool true) ∧ Ext w w' := by
  by_cases hn : (20 : Int) < n
  · exact FixShares_long a b A n c l w hsl hn
  · exact FixShares_short a b _ _ fa.u64 fb.u64 rfl rfl A n c l w hsl fl (by omega)
end Go.Proofs.Ytdckdefjhijihaa
