/- One more move through a drawn region: two operations that may come up next, in either order. Conditions stand in the lemma. -/
import Derived.Test.YtnbeejgppooamaaHeld
set_option linter.unusedVariables false
namespace Go.Proofs.Ytnbeejgppooamaa
open Go.RowKit
theorem next2_in {P : Program} {md : Region.Mode} {l : List Oper} {Q : Exit → Act → World → Prop} {S : World → Prop} {oi oj : Oper} {fuel : Nat} {listed : Array Bool} {a : Act} {w : World} (i j : Nat) (hi : l[i]? = some oi) (hj : l[j]? = some oj)
    (hr : Region.ready md l.toArray listed = [i, j]) (hw : Region.wanted oi (yielded l.toArray a.tmps) = true) (hw2 : Region.wanted oj (yielded l.toArray a.tmps) = true)
    (h : ∀ K' : Act → World → Prop, Shut (∀ a w, S w → (S w → wpAnyH P md l.toArray Q S fuel (listed.setIfInBounds i true) a w) → K' a w) → Oper.wp P oi a w K' Q)
    (h2 : ∀ K' : Act → World → Prop, Shut (∀ a w, S w → (S w → wpAnyH P md l.toArray Q S fuel (listed.setIfInBounds j true) a w) → K' a w) → Oper.wp P oj a w K' Q) : wpAnyH P md l.toArray Q S (fuel + 1) listed a w :=
  wpAnyH_ready hr (by simp) (AllReadyH.cons (o := oi) (by simpa using hi) (fun K' hK => by rw [if_pos hw]; exact h K' hK) (AllReadyH.cons (o := oj) (by simpa using hj) (fun K' hK => by rw [if_pos hw2]; exact h2 K' hK) AllReadyH.nil))
end Go.Proofs.Ytnbeejgppooamaa
