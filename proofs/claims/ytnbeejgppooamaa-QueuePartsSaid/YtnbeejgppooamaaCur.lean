/- One record of an owned row, turned in place. Conditions stand in each lemma. -/
import Derived.Test.YtnbeejgppooamaaRec
import Derived.Test.YtnbeejgppooamaaOwn
import Derived.OwnWalk
import Derived.Laws.OwnMore
set_option linter.unusedVariables false
set_option linter.unusedSimpArgs false
namespace Go.Proofs.Ytnbeejgppooamaa
open Go.RowKit
theorem flat_set {α : Type} {f : α → List Value} {sz : Nat} (hf : ∀ x, (f x).length = sz) (l : List α) (k j : Nat) (x y : α) (v : Value) (h : l[k]? = some x) (hj : j < sz) (hy : f y = (f x).set j v) : (l.flatMap f).set (k * sz + j) v = (l.set k y).flatMap f := by
  obtain ⟨hk, hx⟩ := List.getElem?_eq_some_iff.1 h
  have e : l = l.take k ++ x :: l.drop (k + 1) := by rw [← hx, ← List.drop_eq_getElem_cons hk, List.take_append_drop]
  have hp : (l.take k).length = k := by rw [List.length_take]; omega
  have hq : ((l.take k).flatMap f).length = k * sz := by rw [flat_len hf, hp]
  have e2 : l.set k y = l.take k ++ y :: l.drop (k + 1) := by
    rw [List.set_eq_take_append_cons_drop, if_pos hk]
  rw [e2]
  generalize l.take k = a at *
  generalize l.drop (k + 1) = b at *
  subst e
  rw [List.flatMap_append, List.flatMap_append, ← hq, List.set_append_right _ _ (by omega), Nat.add_sub_cancel_left, List.flatMap_cons, List.flatMap_cons, List.set_append_left _ _ (by rw [hf]; exact hj), hy]
/-- the row reads as l with x at k -/
def Cur {α : Type} (e : TypeId) (f : α → List Value) (sz : Nat) (w : World) (base g n c : Nat) (l : List α) (k : Nat) (x : α) : Prop :=
  w.ownsRow base e sz (.slice (some ⟨g, 0, none⟩) n c) n ((l.set k x).flatMap f) ∧ k < l.length ∧ l.length = n
section
variable {α : Type} {e : TypeId} {f : α → List Value} {sz : Nat} {w w' : World} {base g n c k : Nat} {l : List α} {x y : α}
theorem Cur.mk (h : w.ownsRow base e sz (.slice (some ⟨g, 0, none⟩) n c) n (l.flatMap f)) (hk : l[k]? = some x) (hn : l.length = n) : Cur e f sz w base g n c l k x := by
  obtain ⟨h1, h2⟩ := List.getElem?_eq_some_iff.1 hk
  refine ⟨?_, h1, hn⟩
  rw [← h2, List.set_getElem_self]
  exact h
theorem Cur.at_ (h : Cur e f sz w base g n c l k x) : (l.set k x)[k]? = some x := by
  rw [List.getElem?_set_self h.2.1]
theorem Cur.lt (hf : ∀ x, (f x).length = sz) (h : Cur e f sz w base g n c l k x) {j : Nat} (hj : j < sz) : k * sz + j < n * sz := by
  have h1 := h.2.1
  have h2 := h.2.2
  have : (k + 1) * sz ≤ n * sz := Nat.mul_le_mul_right _ (by omega)
  rw [Nat.add_mul, Nat.one_mul] at this
  omega
theorem Cur.cell (hf : ∀ x, (f x).length = sz) (h : Cur e f sz w base g n c l k x) {j : Nat} {v : Value} (hj : (f x)[j]? = some v) : w.cell? ⟨g, k * sz + j, none⟩ = some v := by
  have hj2 : j < sz := by have := (List.getElem?_eq_some_iff.1 hj).1; rw [hf] at this; exact this
  rw [World.ownsRow.cellAt h.1 (k * sz + j) (Cur.lt hf h hj2), flat_get hf _ k j x h.at_ hj2]
  exact hj
theorem Cur.froz (h : Cur e f sz w base g n c l k x) (j : Nat) : w.frozen? ⟨g, k * sz + j, none⟩ = false := World.ownsRow.frozenAt h.1 _
theorem Cur.ext (h : Cur e f sz w base g n c l k x) (hx : Ext w w') : Cur e f sz w' base g n c l k x := ⟨own_keep h.1 hx, h.2⟩
theorem Cur.drew (h : Cur e f sz w base g n c l k x) : Cur e f sz w.drew base g n c l k x := h.ext ((Ext.refl w).drew)
theorem Cur.drewN (h : Cur e f sz w base g n c l k x) (m : Nat) : Cur e f sz (w.drewN m) base g n c l k x := h.ext ((Ext.refl w).drewN m)
theorem Cur.put (hf : ∀ x, (f x).length = sz) (h : Cur e f sz w base g n c l k x) (j : Nat) (v : Value) (y : α) (hj : j < sz) (hy : f y = (f x).set j v) : Cur e f sz (w.setCell ⟨g, k * sz + j, none⟩ v) base g n c l k y := by
  have h1 := (World.ownsRow.stored h.1 (k * sz + j) v).1
  rw [flat_set hf _ k j x y v h.at_ hj hy, List.set_set] at h1
  exact ⟨h1, h.2⟩
theorem Cur.own (h : Cur e f sz w base g n c l k x) : w.ownsRow base e sz (.slice (some ⟨g, 0, none⟩) n c) n ((l.set k x).flatMap f) := h.1
end
end Go.Proofs.Ytnbeejgppooamaa
