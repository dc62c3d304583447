/- Slices of records: a slice that came in, each element opened; the cells of an element. Conditions stand in each lemma. -/
import Derived.Test.YtnbeejgppooamaaOpen
import Derived.Lib.SmallJoins
set_option linter.unusedVariables false
set_option linter.unusedSimpArgs false
namespace Go.Proofs.Ytnbeejgppooamaa
open Go.RowKit Go.ChangeShapes Go.WideShapes Go.Deep Go.Joins

theorem flat_len {α : Type} {f : α → List Value} {sz : Nat} (hf : ∀ x, (f x).length = sz) (l : List α) : (l.flatMap f).length = l.length * sz := by
  induction l with
  | nil => simp
  | cons x l ih => rw [List.flatMap_cons, List.length_append, hf, ih, List.length_cons, Nat.add_mul, Nat.one_mul, Nat.add_comm]
theorem flat_get {α : Type} {f : α → List Value} {sz : Nat} (hf : ∀ x, (f x).length = sz) : ∀ (l : List α) (i j : Nat) (x : α), l[i]? = some x → j < sz → (l.flatMap f)[i * sz + j]? = (f x)[j]?
  | [], i, j, x, h, _ => by simp at h
  | y :: l, 0, j, x, h, hj => by
    simp at h
    subst h
    rw [List.flatMap_cons, Nat.zero_mul, Nat.zero_add, List.getElem?_append_left (by rw [hf]; exact hj)]
  | y :: l, i + 1, j, x, h, hj => by
    rw [List.flatMap_cons, Nat.add_mul, Nat.one_mul, List.getElem?_append_right (by rw [hf]; omega), hf]
    rw [show i * sz + sz + j - sz = i * sz + j from by omega]
    exact flat_get hf l i j x (by simpa using h) hj
theorem flat_take {α : Type} {f : α → List Value} {sz : Nat} (hf : ∀ x, (f x).length = sz) : ∀ (l : List α) (k : Nat), (l.flatMap f).take (k * sz) = (l.take k).flatMap f
  | [], k => by simp
  | y :: l, 0 => by simp
  | y :: l, k + 1 => by
    rw [List.flatMap_cons, Nat.add_mul, Nat.one_mul, List.take_succ_cons, List.flatMap_cons, List.take_append, hf, show k * sz + sz - sz = k * sz from by omega, flat_take hf l k, List.take_of_length_le (by rw [hf]; omega)]
theorem flat_drop {α : Type} {f : α → List Value} {sz : Nat} (hf : ∀ x, (f x).length = sz) : ∀ (l : List α) (k : Nat), (l.flatMap f).drop (k * sz) = (l.drop k).flatMap f
  | [], k => by simp
  | y :: l, 0 => by simp
  | y :: l, k + 1 => by
    rw [List.flatMap_cons, Nat.add_mul, Nat.one_mul, List.drop_succ_cons, List.drop_append, hf, show k * sz + sz - sz = k * sz from by omega, flat_drop hf l k, List.drop_eq_nil_of_le (by rw [hf]; omega), List.nil_append]
theorem chunks {α : Type} {f : α → List Value} {sz : Nat} (hpos : 0 < sz) {Good : α → Prop} : ∀ (n : Nat) (xs : List Value), xs.length = n * sz →
    (∀ i, i < n → ∃ x, (xs.drop (i * sz)).take sz = f x ∧ Good x) → ∃ l : List α, l.length = n ∧ l.flatMap f = xs ∧ ∀ x ∈ l, Good x
  | 0, xs, hl, _ => ⟨[], rfl, by rw [Nat.zero_mul] at hl; rw [List.eq_nil_of_length_eq_zero hl]; rfl, by simp⟩
  | n + 1, xs, hl, h => by
    obtain ⟨x, hx, gx⟩ := h 0 (by omega)
    rw [Nat.zero_mul, List.drop_zero] at hx
    obtain ⟨l, h1, h2, h3⟩ := chunks hpos n (xs.drop sz) (by rw [List.length_drop, hl, Nat.add_mul, Nat.one_mul]; omega) fun i hi => by
      obtain ⟨y, hy, gy⟩ := h (i + 1) (by omega)
      exact ⟨y, by rw [List.drop_drop]; rw [Nat.add_mul, Nat.one_mul, Nat.add_comm] at hy; exact hy, gy⟩
    exact ⟨x :: l, by simp [h1], by rw [List.flatMap_cons, h2, ← hx, List.take_append_drop], fun z hz => by
      rcases List.mem_cons.1 hz with rfl | hz
      · exact gx
      · exact h3 z hz⟩

section
variable {H : Type} {enc : TypeId × Value → H} {P : Program} {w : World} {base : Nat} {spare : Nat → Bool} {held : Bool}
/-- a slice of records that came in -/
theorem open_rec {α : Type} {f : α → List Value} {Good : α → Prop} {t e : TypeId} {sz n c : Nat} {A : Option Addr} {d : DataW H} {p : List MemPlace} (ht : P.underlying t = some (.slice e)) (hc : P.cellsOf e = sz) (hpos : 0 < sz)
    (hel : ∀ cs m y, DataW.trod enc P w base spare held m e cs = some y → cs.length = sz → ∃ x : α, cs = f x ∧ Good x)
    (h : DataW.Trod enc P w base spare held t (.slice A n c) d p) : ∃ l : List α, Sl w sz A n c (l.flatMap f) ∧ l.length = n ∧ ∀ x ∈ l, Good x := by
  obtain ⟨fuel, hf⟩ := h
  obtain ⟨xs, hs, hr⟩ := open_raw ht hc hpos (by simpa [Value.cells] using hf)
  have hlen := hs.len
  obtain ⟨l, h1, h2, h3⟩ := chunks (f := f) (Good := Good) hpos n xs hlen fun i hi => by
    obtain ⟨m, y, hy⟩ := hr i hi
    have hle : (i + 1) * sz ≤ n * sz := Nat.mul_le_mul_right _ hi
    rw [Nat.add_mul, Nat.one_mul] at hle
    exact hel _ m y hy (by rw [List.length_take, List.length_drop]; omega)
  exact ⟨l, by rw [h2]; exact hs, h1, h3⟩
/-- a record of two numbers -/
theorem rec2 {t : TypeId} {k0 k1 : IntKind} {f0 f1 : Field} {cs : List Value} {m : Nat} {y : DataW H × List MemPlace} (ht : P.underlying t = some (.struct #[f0, f1])) (hone : oneCellFields P #[f0, f1] = true)
    (h0 : P.underlying f0.type = some (.int k0)) (h1 : P.underlying f1.type = some (.int k1))
    (h : DataW.trod enc P w base spare held m t cs = some y) (hl : cs.length = 2) : ∃ x : Int × Int, cs = [.int k0 x.1, .int k1 x.2] ∧ Fits k0 x.1 ∧ Fits k1 x.2 := by
  obtain ⟨y0, y1, m', _, _, g0, g1⟩ := trod_struct2 ht h
  obtain ⟨o0, c0⟩ := hone_of hone 0 f0 rfl
  obtain ⟨o1, c1⟩ := hone_of hone 1 f1 rfl
  match cs, hl with
  | [v0, v1], _ =>
    rw [o0, c0] at g0
    rw [o1, c1] at g1
    obtain ⟨a, ha, _, wa⟩ := DataW.trod_int h0 g0
    obtain ⟨b, hb, _, wb⟩ := DataW.trod_int h1 g1
    simp at ha hb
    subst ha; subst hb
    exact ⟨(a, b), rfl, wa, wb⟩
end
/-- the cells of the elements -/
theorem Sl.rec_ {α : Type} {f : α → List Value} {sz : Nat} (hf : ∀ x, (f x).length = sz) {w : World} {A : Option Addr} {n c : Nat} {l : List α} (h : Sl w sz A n c (l.flatMap f)) (hn : 0 < n) :
    ∃ b o, A = some ⟨b, o, none⟩ ∧ b < w.heap.size ∧ ∀ i x, l[i]? = some x → ∀ j v, (f x)[j]? = some v → w.cell? ⟨b, o + (i * sz + j), none⟩ = some v := by
  obtain ⟨b, o, e, hb, hc⟩ := h.at_ hn
  refine ⟨b, o, e, hb, fun i x hx j v hv => hc _ _ ?_⟩
  rw [flat_get hf l i j x hx (by have := hf x; have := (List.getElem?_eq_some_iff.1 hv).1; omega)]
  exact hv
theorem Sl.rlen {α : Type} {f : α → List Value} {sz : Nat} (hf : ∀ x, (f x).length = sz) (hp : 0 < sz) {w : World} {A : Option Addr} {n c : Nat} {l : List α} (h : Sl w sz A n c (l.flatMap f)) : l.length = n := by
  have h1 := h.len
  rw [flat_len hf] at h1
  exact Nat.eq_of_mul_eq_mul_right hp h1
end Go.Proofs.Ytnbeejgppooamaa
