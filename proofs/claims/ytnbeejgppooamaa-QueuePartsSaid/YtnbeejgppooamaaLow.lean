/- Slices whose block lies below a bound: they stay when only blocks from that bound on turn. Conditions stand in each lemma. -/
import Derived.Test.YtnbeejgppooamaaHas
set_option linter.unusedVariables false
set_option linter.unusedSimpArgs false
namespace Go.Proofs.Ytnbeejgppooamaa
open Go.RowKit
def SlB (B : Nat) (w : World) (sz : Nat) (A : Option Addr) (n c : Nat) (xs : List Value) : Prop := Sl w sz A n c xs ∧ (0 < n → ∀ b o s, A = some ⟨b, o, s⟩ → b < B)
section
variable {B : Nat} {S : Nat → Prop} {w w' : World} {sz n c : Nat} {A : Option Addr} {xs : List Value}
theorem SlB.sl (h : SlB B w sz A n c xs) : Sl w sz A n c xs := h.1
theorem Sl.low (h : Sl w sz A n c xs) : SlB w.heap.size w sz A n c xs := by
  refine ⟨h, fun hn b o s e => ?_⟩
  obtain ⟨b', o', e', hb, _⟩ := h.at_ hn
  rw [e] at e'
  injection e' with e'
  injection e' with e1
  omega
theorem SlB.raise (h : SlB B w sz A n c xs) : SlB w.heap.size w sz A n c xs := Sl.low h.1
theorem SlB.ext (h : SlB B w sz A n c xs) (hx : Ext w w') : SlB B w' sz A n c xs := ⟨h.1.ext hx, h.2⟩
theorem SlB.but (h : SlB B w sz A n c xs) (hx : But S w w') (hs : ∀ k, S k → B ≤ k) : SlB B w' sz A n c xs := by
  refine ⟨⟨h.1.1, h.1.2.1, h.1.2.2.1, fun hn => ?_⟩, h.2⟩
  obtain ⟨b, o, e, hb, hc⟩ := h.1.at_ hn
  have hS : ¬ S b := fun hs' => by have := hs b hs'; have := h.2 hn b o none e; omega
  exact ⟨b, o, e, by have := hx.size; omega, fun j u hu => hx.has hS (hc j u hu)⟩
end
end Go.Proofs.Ytnbeejgppooamaa
