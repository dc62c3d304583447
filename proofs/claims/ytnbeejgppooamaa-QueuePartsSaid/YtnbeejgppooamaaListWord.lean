/- Lists of numbers (Word): side by side, others like them, written over. Conditions stand in each lemma. -/
import Derived.Test.YtnbeejgppooamaaBase
set_option linter.unusedVariables false
set_option linter.unusedSimpArgs false
namespace Go.Proofs.Ytnbeejgppooamaa
open Go.RowKit Go.ChangeShapes Go.WideShapes Go.Deep

theorem infoWord : (Try.prog.info? 25).map (fun i => (i.zero, i.size, i.bytes)) = some (some (.int .u64 0), 1, 8) := by kernel_rfl
/-- a row of numbers of one's own -/
def OwnWord (w : World) (base : Nat) (v : Value) (n : Nat) (l : List Int) : Prop := w.ownsRow base 25 1 v n (iv .u64 l)
theorem OwnWord.ext {w w' : World} {base n : Nat} {v : Value} {l : List Int} (h : OwnWord w base v n l) (hx : Ext w w') : OwnWord w' base v n l := own_keep h hx
theorem OwnWord.sl {w : World} {base n c : Nat} {A : Option Addr} {l : List Int} (h : OwnWord w base (.slice A n c) n l) : Sl w 1 A n c (iv .u64 l) := Sl.own h
theorem OwnWord.in_ {w : World} {base n c : Nat} {A : Option Addr} {l : List Int} (h : OwnWord w base (.slice A n c) n l) : ∀ k o s, A = some ⟨k, o, s⟩ → base ≤ k ∧ k < w.heap.size := by
  intro k o s e'
  subst e'
  exact World.ownsRow.lt h k rfl
theorem OwnWord.nil (w : World) (base : Nat) : OwnWord w base (.slice none 0 0) 0 [] := World.ownsRow_nil _ _ _ _
theorem OwnWord.lower {w : World} {base b' n : Nat} {v : Value} {l : List Int} (h : OwnWord w base v n l) (hb : b' ≤ base) : OwnWord w b' v n l := own_lower h hb
/-- numbers handed back -/
def RetWord (l : List Int) (w : World) (e : Ending) (w' : World) : Prop := ∃ A c, e = .returned (.slice A l.length c) ∧ (A = none → c = 0) ∧ OwnWord w' w.heap.size (.slice A l.length c) l.length l ∧ Ext w w'
theorem RetWord.mk {l : List Int} {w w' : World} {v : Value} (h : w'.ownsRow w.heap.size 25 1 v l.length (iv .u64 l)) (hx : Ext w w') : RetWord l w (.returned v) w' := by
  obtain ⟨A, c, rfl, h1, h2⟩ := own_parts2 h
  exact ⟨A, c, rfl, h1, h, hx⟩
theorem iv_takeWord {l : List Int} {k : Nat} {x : Int} (h : l[k]? = some x) : l.take (k + 1) = l.take k ++ [x] := by
  obtain ⟨hk, rfl⟩ := List.getElem?_eq_some_iff.1 h
  rw [List.take_succ_eq_append_getElem hk]
theorem own_but1Word {S : Nat → Prop} {w w' : World} {base sz n : Nat} {e : TypeId} {v : Value} {xs : List Value} (h : w.ownsRow base e sz v n xs) (hx : But S w w') (hS : ∀ j, v.ownBlock = some j → ¬ S j) : w'.ownsRow base e sz v n xs := by
  refine ⟨h.1, ?_⟩
  rcases h.2 with h2 | ⟨r, cap, cur, e', hr, hr2, rest⟩
  · exact .inl h2
  · refine .inr ⟨r, cap, cur, e', hr, ?_, rest⟩
    rw [← hr2]
    exact hx.block r (Array.getElem?_eq_some_iff.1 hr2).1 (hS r (by rw [e']; rfl))
theorem OwnWord.but {S : Nat → Prop} {w w' : World} {base n c m : Nat} {A : Option Addr} {l : List Int} (h : OwnWord w base (.slice A m c) n l) (hx : But S w w') (hS : ∀ k o s, A = some ⟨k, o, s⟩ → ¬ S k) : OwnWord w' base (.slice A m c) n l := by
  refine own_but1Word h hx (fun j hj => ?_)
  cases A with
  | none => cases hj
  | some a => obtain ⟨b, o, s⟩ := a
              injection hj with hj
              have hj2 : b = j := hj
              subst hj2
              exact hS b o s rfl
end Go.Proofs.Ytnbeejgppooamaa
