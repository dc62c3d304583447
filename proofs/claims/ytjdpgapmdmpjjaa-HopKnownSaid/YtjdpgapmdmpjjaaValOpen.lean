/- A list of validators that came in, opened. Conditions stand in each lemma. -/
import Derived.Test.YtjdpgapmdmpjjaaListVal
set_option linter.unusedVariables false
set_option linter.unusedSimpArgs false
namespace Go.Proofs.Ytjdpgapmdmpjjaa
open Go.RowKit Go.ChangeShapes Go.WideShapes Go.Deep Go.Joins
section
variable {H : Type} {enc : TypeId × Value → H} {P : Program} {w : World} {base : Nat} {spare : Nat → Bool} {held : Bool}
theorem none_cap {t e : TypeId} {n c : Nat} {A : Option Addr} {d : DataW H} {p : List MemPlace} (ht : P.underlying t = some (.slice e)) (h : DataW.Trod enc P w base spare held t (.slice A n c) d p) : A = none → c = 0 := by
  intro hA
  subst hA
  obtain ⟨fuel, hf⟩ := h
  rcases Go.Deep.open_slice ht (show DataW.trod enc P w base spare held fuel t [.slice none n c] = some _ by simpa [Value.cells] using hf) with ⟨h0, _⟩ | ⟨a, len, cap, m, n', D, Pl, hcs, _⟩
  · simp at h0; exact h0.2
  · simp at hcs
/-- a record of four numbers and two booleans -/
theorem rec6 {t : TypeId} {k0 k1 k2 k3 : IntKind} {f0 f1 f2 f3 f4 f5 : Field} {cs : List Value} {m : Nat} {y : DataW H × List MemPlace} (ht : P.underlying t = some (.struct #[f0, f1, f2, f3, f4, f5])) (hone : oneCellFields P #[f0, f1, f2, f3, f4, f5] = true)
    (h0 : P.underlying f0.type = some (.int k0)) (h1 : P.underlying f1.type = some (.int k1)) (h2 : P.underlying f2.type = some (.int k2)) (h3 : P.underlying f3.type = some (.int k3)) (h4 : P.underlying f4.type = some .bool) (h5 : P.underlying f5.type = some .bool)
    (h : DataW.trod enc P w base spare held m t cs = some y) (hl : cs.length = 6) : ∃ x : Int × Int × Int × Int × Bool × Bool, cs = [.int k0 x.1, .int k1 x.2.1, .int k2 x.2.2.1, .int k3 x.2.2.2.1, .bool x.2.2.2.2.1, .bool x.2.2.2.2.2] ∧ Fits k0 x.1 ∧ Fits k1 x.2.1 ∧ Fits k2 x.2.2.1 ∧ Fits k3 x.2.2.2.1 := by
  obtain ⟨xs, n, _, rfl, _, hlen, hf⟩ := DataW.trod_struct ht h
  have g0 := hf 0 f0 rfl
  have g1 := hf 1 f1 rfl
  have g2 := hf 2 f2 rfl
  have g3 := hf 3 f3 rfl
  have g4 := hf 4 f4 rfl
  have g5 := hf 5 f5 rfl
  match xs, hlen with
  | [y0, y1, y2, y3, y4, y5], _ =>
    obtain ⟨o0, c0⟩ := hone_of hone 0 f0 rfl
    obtain ⟨o1, c1⟩ := hone_of hone 1 f1 rfl
    obtain ⟨o2, c2⟩ := hone_of hone 2 f2 rfl
    obtain ⟨o3, c3⟩ := hone_of hone 3 f3 rfl
    obtain ⟨o4, c4⟩ := hone_of hone 4 f4 rfl
    obtain ⟨o5, c5⟩ := hone_of hone 5 f5 rfl
    match cs, hl with
    | [v0, v1, v2, v3, v4, v5], _ =>
      rw [o0, c0] at g0
      rw [o1, c1] at g1
      rw [o2, c2] at g2
      rw [o3, c3] at g3
      rw [o4, c4] at g4
      rw [o5, c5] at g5
      simp at g0 g1 g2 g3 g4 g5
      obtain ⟨a, ha, _, wa⟩ := DataW.trod_int h0 g0
      obtain ⟨b, hb, _, wb⟩ := DataW.trod_int h1 g1
      obtain ⟨c, hc, _, wc⟩ := DataW.trod_int h2 g2
      obtain ⟨d, hd, _, wd⟩ := DataW.trod_int h3 g3
      obtain ⟨e, he, _⟩ := DataW.trod_bool h4 g4
      obtain ⟨f, hf', _⟩ := DataW.trod_bool h5 g5
      simp at ha hb hc hd he hf'
      subst ha; subst hb; subst hc; subst hd; subst he; subst hf'
      exact ⟨(a, b, c, d, e, f), rfl, wa, wb, wc, wd⟩
end
/-- validators that came in -/
theorem open_vals {H : Type} {enc : TypeId × Value → H} {w : World} {base : Nat} {spare : Nat → Bool} {held : Bool} {n c : Nat} {A : Option Addr} {d : DataW H} {p : List MemPlace}
    (h : DataW.Trod enc Try.prog w base spare held 40 (.slice A n c) d p) : ∃ l : List (Int × Int × Int × Int × Bool × Bool), n = l.length ∧ Sl w 6 A l.length c (l.flatMap valC) ∧ (∀ x ∈ l, Fits .i64 x.1 ∧ Fits .u64 x.2.1 ∧ Fits .i64 x.2.2.1 ∧ Fits .i64 x.2.2.2.1) ∧ (A = none → c = 0) := by
  obtain ⟨l, h1, h2, h3⟩ := open_rec (f := valC) (sz := 6) (Good := fun x => Fits .i64 x.1 ∧ Fits .u64 x.2.1 ∧ Fits .i64 x.2.2.1 ∧ Fits .i64 x.2.2.2.1) Try.underlying40 (by kernel_rfl) (by decide)
    (fun cs m y h hl => rec6 (k0 := .i64) (k1 := .u64) (k2 := .i64) (k3 := .i64) Try.underlying96 (by kernel_rfl) Try.underlying3 Try.underlying41 Try.underlying3 Try.underlying3 Try.underlying4 Try.underlying4 h hl) h
  subst h2
  exact ⟨l, rfl, h1, h3, none_cap Try.underlying40 h⟩
end Go.Proofs.Ytjdpgapmdmpjjaa
