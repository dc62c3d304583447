/- What is proved: distraintlaw01.FixSums returns true for every two words and every list of words; nothing that was there is written. Conditions: none. -/
import Derived.Test.YtdckdefjhijihaaFixAwake
import Derived.Test.YtdckdefjhijihaaFixSum
import Derived.Test.YtdckdefjhijihaaMem2
set_option linter.unusedVariables false
set_option linter.unusedSimpArgs false
namespace Go.Proofs.Ytdckdefjhijihaa
open Go.RowKit

theorem FixSums_long (a b : Int) (A : Option Addr) (n c : Nat) (l : List Int) (w : World) (hsl : Sl w 1 A n c (iv .u64 l)) (hn : (40 : Int) < n) :
    Calls Try.prog 3 #[.int .u64 a, .int .u64 b, .slice A n c] w fun r w' => r = .returned (.bool true) ∧ Ext w w' := by
  have hs := hsl.small
  clear hsl
  go_enter Try.func3, Try.ntmps3
  go_wp2_with fail
  refine (awake01_any _).mono ?_
  rintro e w1 ⟨rfl, hx1⟩
  go_wp2_with fail
  go_ret
  exact ⟨rfl, hx1⟩
set_option maxRecDepth 100000 in
set_option maxHeartbeats 1000000 in
theorem FixSums_short (a : Int) (fa : Word a) (b : Int) (fb : Word b) (A : Option Addr) (n c : Nat) (l : List Int) (w : World) (hsl : Sl w 1 A n c (iv .u64 l)) (fl : ∀ x ∈ l, Word x) (hn : (n : Int) ≤ 40) :
    Calls Try.prog 3 #[.int .u64 a, .int .u64 b, .slice A n c] w fun r w' => r = .returned (.bool true) ∧ Ext w w' := by
  have ha := Lib.hid fa
  have hb := Lib.hid fb
  have hl := Lib.hid fl
  have HS := Lib.hid hsl
  clear fa fb fl
  obtain ⟨i0, hi0, hz0, hz1, hz2⟩ := info_parts u64_info
  go_enter Try.func3, Try.ntmps3
  go_wp2_with (at_builtin; refine wpList_append_sl (w.alloc (.cells #[] 22)) rfl _ _ 23 rfl w.heap.size 22 i0 (.int .u64 0) 1 8 Try.underlying23 hi0 hz0 hz1 hz2 rfl (by decide) _ 0 [] (by rfl) (own_empty w _ _) A n c (iv .u64 l) (by rfl) (HS.out.ext ((Ext.refl _).alloc _)) iv_one (by omega) (by decide) (by simp) ?_; intro v1 w1 hown1 hb1)
  simp only [Nat.zero_add, List.nil_append] at hown1
  obtain ⟨A1, c1, rfl, s1⟩ := own_parts hown1
  have S1 := Lib.hid s1
  have X1 := Lib.hid (((Ext.refl w).alloc (.cells #[] 22)).below hb1)
  clear s1 hown1 hb1
  refine (fAdd_any a b ha.out hb.out _).mono ?_
  rintro e w2 ⟨rfl, hx2⟩
  go_wp2_with fail
  refine (rAdd_any a b ha.out hb.out _).mono ?_
  rintro e w2 ⟨rfl, rfl⟩
  go_wp2_with fail
  refine (lsame_true _ _ _).mono ?_
  rintro e w2 ⟨rfl, rfl⟩
  go_wp2_with fail
  refine (fSub_any a b ha.out hb.out _).mono ?_
  rintro e w3 ⟨rfl, hx3⟩
  go_wp2_with fail
  refine (rSub_any a b ha.out hb.out _).mono ?_
  rintro e w3 ⟨rfl, rfl⟩
  go_wp2_with fail
  refine (lsame_true _ _ _).mono ?_
  rintro e w3 ⟨rfl, rfl⟩
  go_wp2_with fail
  refine (fMul_any a b ha.out hb.out _).mono ?_
  rintro e w4 ⟨rfl, hx4⟩
  go_wp2_with fail
  refine (rMul_any a b ha.out hb.out _).mono ?_
  rintro e w4 ⟨rfl, rfl⟩
  go_wp2_with fail
  refine (lsame_true _ _ _).mono ?_
  rintro e w4 ⟨rfl, rfl⟩
  go_wp2_with fail
  refine (fSum_any A1 n c1 l _ (S1.out.ext (hx2.trans (hx3.trans hx4))) hl.out).mono ?_
  rintro e w5 ⟨rfl, hx5⟩
  go_wp2_with fail
  refine (rSum_any A n c l _ (HS.out.ext (X1.out.trans (hx2.trans (hx3.trans (hx4.trans hx5))))) hl.out).mono ?_
  rintro e w5 ⟨rfl, rfl⟩
  go_wp2_with fail
  refine (lsame_true _ _ _).mono ?_
  rintro e w5 ⟨rfl, rfl⟩
  go_wp2_with fail
  have SL := Lib.hid (HS.out.ext (X1.out.trans (hx2.trans (hx3.trans (hx4.trans hx5)))))
  have SI := Lib.hid (S1.out.ext (hx2.trans (hx3.trans (hx4.trans hx5))))
  have XX := Lib.hid (X1.out.trans (hx2.trans (hx3.trans (hx4.trans hx5))))
  clear hx2 hx3 hx4 hx5 X1 S1
  have h63 : (n : Int) ≤ 9223372036854775807 := by omega
  go_loopg [12, 13] n (fun g o i wx => g ≤ n ∧ o = .bool true ∧ i = .int .i64 ((n - g : Nat) : Int) ∧ Drw w5 wx)
  case atStart => exact ⟨Nat.le_refl _, rfl, by simp, Drw.refl _⟩
  case round =>
    obtain ⟨hg, rfl, hi, hd⟩ := hrel
    obtain ⟨k, hk⟩ : ∃ k, k = n - gk := ⟨_, rfl⟩
    rw [← hk] at hi
    subst hi
    by_cases hz : gk = 0
    · have hkn : ¬ (k : Int) < n := by omega
      have XD := Lib.hid (XX.out.trans hd.ext)
      clear hd hz hg hk
      go_wp2_with fail
      refine (fWide_any a b ha.out hb.out _).mono ?_
      rintro e w6 ⟨rfl, hx6⟩
      go_wp2_with fail
      refine (rWide_any a b ha.out hb.out _).mono ?_
      rintro e w7 ⟨rfl, rfl⟩
      go_wp2_with fail
      refine (awake01_any _).mono ?_
      rintro e w7 ⟨rfl, hx7⟩
      go_wp2_with fail
      go_ret
      exact ⟨rfl, XD.out.trans (hx6.trans hx7)⟩
    · have hkn : (k : Int) < n := by omega
      obtain ⟨b1, o1, rfl, hb1, hc1⟩ := (SL.out.ext hd.ext).cell (show k < n from by omega)
      obtain ⟨b2, o2, rfl, hb2, hc2⟩ := (SI.out.ext hd.ext).cell (show k < n from by omega)
      have g1 := hc1 k (by omega)
      have g2 := hc2 k (by omega)
      obtain ⟨x, hx⟩ : ∃ x, x = l.getD k 0 := ⟨_, rfl⟩
      rw [← hx] at g1 g2
      have HD := Lib.hid hd
      have HK := Lib.hid (And.intro hk (And.intro hg hz))
      clear hc1 hc2 hx hk hg hz hb1 hb2 hd
      go_wp2
      go_quiet (fail)
      go_wp2
      go_roundg (gk - 1)
      case measure => have := HK.out; omega
      case rel => exact ⟨by have := HK.out; omega, rfl, num_eq (by have := HK.out; omega), by repeat (first | exact HD.out | refine Drw.drewN ?_ _)⟩
theorem FixSums_any (a : Int) (fa : Fits .u64 a) (b : Int) (fb : Fits .u64 b) (A : Option Addr) (n c : Nat) (l : List Int) (w : World) (hsl : Sl w 1 A n c (iv .u64 l)) (fl : ∀ x ∈ l, Fits .u64 x) :
    Calls Try.prog 3 #[.int .u64 a, .int .u64 b, .slice A n c] w fun r w'' => r = .returned (.bool true) ∧ Ext w w'' := by
  by_cases hn : (40 : Int) < n
  · exact FixSums_long a b A n c l _ hsl hn
  · exact FixSums_short a fa.u64 b fb.u64 A n c l _ hsl (fun x hx => (fl x hx).u64) (by omega)
end Go.Proofs.Ytdckdefjhijihaa
