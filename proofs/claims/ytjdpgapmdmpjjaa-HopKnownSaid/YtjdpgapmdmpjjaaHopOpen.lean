/- Hops that came in, opened. Conditions stand in each lemma. -/
import Derived.Test.YtjdpgapmdmpjjaaValOpen
import Derived.Test.YtjdpgapmdmpjjaaHop6
set_option linter.unusedVariables false
set_option linter.unusedSimpArgs false
namespace Go.Proofs.Ytjdpgapmdmpjjaa
open Go.RowKit Go.ChangeShapes Go.WideShapes Go.Deep Go.Joins

/-- hops that came in -/
theorem open_hops {H : Type} {enc : TypeId × Value → H} {w : World} {base : Nat} {spare : Nat → Bool} {held : Bool} {n c : Nat} {A : Option Addr} {d : DataW H} {p : List MemPlace}
    (h : DataW.Trod enc Try.prog w base spare held 22 (.slice A n c) d p) : ∃ l : List (Int × Int × Int × Int), n = l.length ∧ Sl w 4 A l.length c (l.flatMap hopC) ∧ (∀ x ∈ l, FitsH x) ∧ (A = none → c = 0) := by
  obtain ⟨l, h1, h2, h3⟩ := open_rec (f := hopC) (sz := 4) (Good := FitsH) Try.underlying22 (by kernel_rfl) (by decide)
    (fun cs m y h hl => rec4 (k0 := .i64) (k1 := .i64) (k2 := .i64) (k3 := .i64) Try.underlying24 (by kernel_rfl) Try.underlying3 Try.underlying3 Try.underlying3 Try.underlying3 h hl) h
  subst h2
  exact ⟨l, rfl, h1, h3, none_cap Try.underlying22 h⟩
set_option maxRecDepth 100000 in
/-- a hop that came in -/
theorem open_hop {H : Type} {enc : TypeId × Value → H} {w : World} {base b0 : Nat} {spare : Nat → Bool} {held : Bool} {r : Reach} {v : Value} {d : DataW H} {p : List MemPlace}
    (hv : Value.okWide Try.prog w r b0 24 v) (h : DataW.Trod enc Try.prog w base spare held 24 v d p) : ∃ a b c e, v = .agg #[.int .i64 a, .int .i64 b, .int .i64 c, .int .i64 e] ∧ Fits .i64 a ∧ Fits .i64 b ∧ Fits .i64 c ∧ Fits .i64 e := by
  obtain ⟨v0, v1, v2, v3, y0, y1, y2, y3, n, rfl, _, _, h0, h1, h2, h3⟩ := Go.Joins.open_agg4 Try.underlying24 (by kernel_rfl) (by kernel_rfl) hv h
  obtain ⟨a, ha, _, wa⟩ := DataW.trod_int Try.underlying3 h0
  obtain ⟨b, hb, _, wb⟩ := DataW.trod_int Try.underlying3 h1
  obtain ⟨c, hc, _, wc⟩ := DataW.trod_int Try.underlying3 h2
  obtain ⟨e, he, _, we⟩ := DataW.trod_int Try.underlying3 h3
  simp at ha hb hc he
  subst ha; subst hb; subst hc; subst he
  exact ⟨a, b, c, e, rfl, wa, wb, wc, we⟩
end Go.Proofs.Ytjdpgapmdmpjjaa
