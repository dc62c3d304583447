/- Rows of one's own: kept over new blocks, taken apart. Conditions stand in each lemma. -/
import Derived.Test.YtnbeejgppooamaaMem
import Derived.Test.YtnbeejgppooamaaHas
set_option linter.unusedVariables false
set_option linter.unusedSimpArgs false
namespace Go.Proofs.Ytnbeejgppooamaa
open Go.RowKit

theorem own_keep {w w' : World} {base : Nat} {e : TypeId} {sz n : Nat} {v : Value} {xs : List Value} (h : w.ownsRow base e sz v n xs) (hb : Ext w w') : w'.ownsRow base e sz v n xs := by
  refine ⟨h.1, ?_⟩
  rcases h.2 with h2 | ⟨q, cap, cur, e', hq, hq2, rest⟩
  · exact .inl h2
  · exact .inr ⟨q, cap, cur, e', hq, (Below.block hb q (Array.getElem?_eq_some_iff.1 hq2).1).trans hq2, rest⟩
theorem own_parts2 {w : World} {base : Nat} {e : TypeId} {sz n : Nat} {v : Value} {xs : List Value} (h : w.ownsRow base e sz v n xs) : ∃ A c, v = .slice A n c ∧ (A = none → c = 0) ∧ Sl w sz A n c xs := by
  rcases h.2 with ⟨rfl, rfl⟩ | ⟨g, cap, cur, rfl, rest⟩
  · exact ⟨_, _, rfl, fun _ => rfl, Sl.own h⟩
  · refine ⟨_, _, rfl, ?_, Sl.own h⟩
    intro hh
    cases hh
end Go.Proofs.Ytnbeejgppooamaa
