/- sort.Search, over a function value of which it is known where it begins to hold. Conditions stand in each lemma. -/
import Derived.Test.YtjdpgapmdmpjjaaKitB
import Derived.Test.YtjdpgapmdmpjjaaRec4
import Derived.Test.YtjdpgapmdmpjjaaAppB
set_option linter.unusedVariables false
set_option linter.unusedSimpArgs false
namespace Go.Proofs.Ytjdpgapmdmpjjaa
open Go.RowKit Go.ChangeShapes Go.WideShapes Go.Deep Go.Joins

set_option maxRecDepth 100000 in
set_option maxHeartbeats 4000000 in
theorem sortSearch_at (g : Nat) (bd cp : Array Value) (n m : Nat) (w : World) (eg : ∀ args w, (callFunc g args).run Try.prog w = .ok (.enter g args) w) (hn : n < 4611686018427387904) (hm : m ≤ n)
    (hf : ∀ (wx : World) (i : Nat), Ext w wx → i < n → Calls Try.prog g (bd ++ #[.int .i64 (i : Int)] ++ cp) wx fun e w' => e = .returned (.bool (decide (m ≤ i))) ∧ Ext wx w') :
    Calls Try.prog 94 #[.int .i64 n, .func (.func g) bd cp] w fun e w' => e = .returned (.int .i64 (m : Int)) ∧ Ext w w' := by
  have HF := Lib.hid hf
  clear hf
  go_enter Try.func94, Try.ntmps94
  go_wp2
  go_loopg [5, 6] n (fun gh s5 s6 wr => ∃ (lo hi : Nat), s5 = .int .i64 lo ∧ s6 = .int .i64 hi ∧ lo ≤ m ∧ m ≤ hi ∧ hi ≤ n ∧ hi - lo ≤ gh ∧ Hid (Ext w wr))
  case atStart => exact ⟨0, n, rfl, rfl, Nat.zero_le _, hm, Nat.le_refl _, by omega, Lib.hid (Ext.refl _)⟩
  case round =>
    obtain ⟨lo, hi, rfl, rfl, h1, h2, h3, h4, X⟩ := hrel
    by_cases hlt : lo < hi
    · have hc := HF.out wr ((lo + hi) / 2) X.out (by omega)
      rw [show (((lo + hi) / 2 : Nat) : Int) = ((lo : Int) + (hi : Int)) / 2 by omega] at hc
      by_cases hp : m ≤ (lo + hi) / 2
      · rw [decide_eq_true hp] at hc
        go_wp2_with (go_at_fn g; refine hc.mono ?_; rintro e w' ⟨rfl, hx⟩; have X2 := Lib.hid (Ext.trans X.out hx); clear hx hc)
        go_roundg ((lo + hi) / 2 - lo)
        case measure => omega
        case rel => exact ⟨lo, (lo + hi) / 2, rfl, by rw [show ((lo : Int) + (hi : Int)) / 2 = (((lo + hi) / 2 : Nat) : Int) by omega], h1, hp, by omega, by omega, X2⟩
      · rw [decide_eq_false hp] at hc
        go_wp2_with (go_at_fn g; refine hc.mono ?_; rintro e w' ⟨rfl, hx⟩; have X2 := Lib.hid (Ext.trans X.out hx); clear hx hc)
        go_roundg (hi - ((lo + hi) / 2 + 1))
        case measure => omega
        case rel => exact ⟨(lo + hi) / 2 + 1, hi, by rw [show ((lo : Int) + (hi : Int)) / 2 + 1 = (((lo + hi) / 2 + 1 : Nat) : Int) by omega], rfl, by omega, h2, h3, by omega, X2⟩
    · obtain rfl : lo = m := by omega
      obtain rfl : hi = lo := by omega
      go_wp2
      go_ret
      exact ⟨rfl, X.out⟩
end Go.Proofs.Ytjdpgapmdmpjjaa
