/- Entries that came in, opened. Conditions stand in each lemma. -/
import Derived.Test.YtnbeejgppooamaaQ3
import Derived.Test.YtnbeejgppooamaaRec4
import Derived.Test.YtnbeejgppooamaaOpen
set_option linter.unusedVariables false
set_option linter.unusedSimpArgs false
namespace Go.Proofs.Ytnbeejgppooamaa
open Go.RowKit Go.ChangeShapes Go.WideShapes Go.Deep Go.Joins

theorem none_capE {H : Type} {enc : TypeId × Value → H} {P : Program} {w : World} {base : Nat} {spare : Nat → Bool} {held : Bool} {t e : TypeId} {n c : Nat} {A : Option Addr} {d : DataW H} {p : List MemPlace} (ht : P.underlying t = some (.slice e)) (h : DataW.Trod enc P w base spare held t (.slice A n c) d p) : A = none → c = 0 := by
  intro hA
  subst hA
  obtain ⟨fuel, hf⟩ := h
  rcases Go.Deep.open_slice ht (show DataW.trod enc P w base spare held fuel t [.slice none n c] = some _ by simpa [Value.cells] using hf) with ⟨h0, _⟩ | ⟨a, len, cap, m, n', D, Pl, hcs, _⟩
  · simp at h0; exact h0.2
  · simp at hcs
theorem word_fits {x : Int} (h : Fits .u64 x) : Word x := by
  unfold Fits at h
  simp [Lit.wf, IntKind.min, IntKind.max, IntKind.bits, IntKind.signed] at h
  unfold Word
  omega
set_option maxRecDepth 100000 in
/-- an entry's cells -/
theorem ent_rec {H : Type} {enc : TypeId × Value → H} {w : World} {base : Nat} {spare : Nat → Bool} {held : Bool} {cs : List Value} {m : Nat} {y : DataW H × List MemPlace}
    (h : DataW.trod enc Try.prog w base spare held m 27 cs = some y) (hl : cs.length = 8) : ∃ x : Int × Int × Int × Int × Int × Int × Int × Int, cs = entC x ∧ FitsQ x := by
  obtain ⟨xs, n, _, rfl, _, hlen, hf⟩ := DataW.trod_struct Try.underlying27 h
  have ci : Try.prog.cellsOf 3 = 1 := by kernel_rfl
  have cu : Try.prog.cellsOf 25 = 1 := by kernel_rfl
  have ct : Try.prog.cellsOf 24 = 4 := by kernel_rfl
  have g0 := hf 0 _ rfl
  have g1 := hf 1 _ rfl
  have g2 := hf 2 _ rfl
  have g3 := hf 3 _ rfl
  have g4 := hf 4 _ rfl
  match cs, hl with
  | [v0, v1, v2, v3, v4, v5, v6, v7], _ =>
    match xs, hlen with
    | [y0, y1, y2, y3, y4], _ =>
      simp [ci, cu, ct] at g0 g1 g2 g3 g4
      obtain ⟨a, ha, _, wa⟩ := DataW.trod_int Try.underlying3 g0
      obtain ⟨b, hb, w1, w2, w3, w4⟩ := rec4 (k0 := .i64) (k1 := .i64) (k2 := .i64) (k3 := .i64) Try.underlying24 (by kernel_rfl) Try.underlying3 Try.underlying3 Try.underlying3 Try.underlying3 g1 rfl
      obtain ⟨c, hc, _, wc⟩ := DataW.trod_int Try.underlying3 g2
      obtain ⟨d, hd, _, wd⟩ := DataW.trod_int Try.underlying25 g3
      obtain ⟨e, he, _, we⟩ := DataW.trod_int Try.underlying25 g4
      simp at ha hb hc hd he
      obtain ⟨rfl, rfl, rfl, rfl⟩ := hb
      subst ha; subst hc; subst hd; subst he
      exact ⟨(a, b.1, b.2.1, b.2.2.1, b.2.2.2, c, d, e), rfl, wa, w1, w2, w3, w4, wc, word_fits wd, word_fits we⟩
/-- entries that came in -/
theorem open_ents {H : Type} {enc : TypeId × Value → H} {w : World} {base : Nat} {spare : Nat → Bool} {held : Bool} {n c : Nat} {A : Option Addr} {d : DataW H} {p : List MemPlace}
    (h : DataW.Trod enc Try.prog w base spare held 22 (.slice A n c) d p) : ∃ l : List (Int × Int × Int × Int × Int × Int × Int × Int), n = l.length ∧ Sl w 8 A l.length c (l.flatMap entC) ∧ (∀ x ∈ l, FitsQ x) ∧ (A = none → c = 0) := by
  obtain ⟨l, h1, h2, h3⟩ := open_rec (f := entC) (sz := 8) (Good := FitsQ) Try.underlying22 (by kernel_rfl) (by decide) (fun cs m y h hl => ent_rec h hl) h
  subst h2
  exact ⟨l, rfl, h1, h3, none_capE Try.underlying22 h⟩
set_option maxRecDepth 100000 in
/-- an entry that came in -/
theorem open_ent {H : Type} {enc : TypeId × Value → H} {w : World} {base b0 : Nat} {spare : Nat → Bool} {held : Bool} {r : Reach} {v : Value} {d : DataW H} {p : List MemPlace}
    (hv : Value.okWide Try.prog w r b0 27 v) (h : DataW.Trod enc Try.prog w base spare held 27 v d p) : ∃ xo xv xs xp xf xc xi xb, v = .agg #[.int .i64 xo, .int .i64 xv, .int .i64 xs, .int .i64 xp, .int .i64 xf, .int .i64 xc, .int .u64 xi, .int .u64 xb] ∧ FitsQ (xo, xv, xs, xp, xf, xc, xi, xb) := by
  obtain ⟨cs, rfl, hsz⟩ := okWide_struct Try.underlying27 hv
  obtain ⟨fuel, hf⟩ := h
  have c8 : Try.prog.cellsOf 27 = 8 := by kernel_rfl
  obtain ⟨x, hx, hq⟩ := ent_rec (cs := cs.toList) (by simpa [Value.cells] using hf) (by rw [Array.length_toList]; exact hsz.trans c8)
  obtain ⟨xo, xv, xs, xp, xf, xc, xi, xb⟩ := x
  refine ⟨xo, xv, xs, xp, xf, xc, xi, xb, ?_, hq⟩
  rw [← Array.toArray_toList (xs := cs), hx]
  rfl
end Go.Proofs.Ytnbeejgppooamaa
