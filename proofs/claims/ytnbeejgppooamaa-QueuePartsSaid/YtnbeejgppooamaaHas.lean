/- A cell that was there is there behind a call that writes nothing that was there. Conditions stand in each lemma. -/
import Derived.Test.YtnbeejgppooamaaMem
set_option linter.unusedVariables false
set_option linter.unusedSimpArgs false
namespace Go.Proofs.Ytnbeejgppooamaa
open Go.RowKit
theorem cell_lt {w : World} {b o : Nat} {v : Value} (h : w.cell? ⟨b, o, none⟩ = some v) : b < w.heap.size := by
  by_cases hb : b < w.heap.size
  · exact hb
  · simp [World.cell?, Array.getElem?_eq_none (show w.heap.size ≤ b from by omega)] at h
theorem Ext.has {a b : World} (h : Ext a b) {k o : Nat} {v : Value} (hc : a.cell? ⟨k, o, none⟩ = some v) : b.cell? ⟨k, o, none⟩ = some v := (h.cells.1 k o (cell_lt hc)).trans hc
theorem Ext.froz {a b : World} (h : Ext a b) {k o : Nat} {v : Value} (hc : a.cell? ⟨k, o, none⟩ = some v) (hf : a.frozen? ⟨k, o, none⟩ = false) : b.frozen? ⟨k, o, none⟩ = false := (h.cells.2 k o (cell_lt hc)).trans hf
/-- of what was there only the blocks in S may have turned -/
structure But (S : Nat → Prop) (w w' : World) : Prop where
  os : w'.os = w.os
  tape : w'.tape = w.tape
  output : w'.output = w.output
  size : w.heap.size ≤ w'.heap.size
  block : ∀ k, k < w.heap.size → ¬ S k → w'.heap[k]? = w.heap[k]?
section
variable {S : Nat → Prop} {a b c w w' : World}
theorem But.refl (S : Nat → Prop) (w : World) : But S w w := ⟨rfl, rfl, rfl, Nat.le_refl _, fun _ _ _ => rfl⟩
theorem But.trans (h : But S a b) (k : But S b c) : But S a c :=
  ⟨k.os.trans h.os, k.tape.trans h.tape, k.output.trans h.output, Nat.le_trans h.size k.size, fun i hi hs => (k.block i (by have := h.size; omega) hs).trans (h.block i hi hs)⟩
theorem But.ofExt (h : Ext a b) : But S a b := ⟨h.os, h.tape, h.output, Ext.size h, fun k hk _ => Below.block h k hk⟩
theorem But.mono {S' : Nat → Prop} (h : But S a b) (hs : ∀ k, k < a.heap.size → S k → S' k) : But S' a b := ⟨h.os, h.tape, h.output, h.size, fun k hk hn => h.block k hk (fun hk' => hn (hs k hk hk'))⟩
theorem But.setCell (h : But S a b) {p : Addr} (hp : S p.block) (u : Value) : But S a (b.setCell p u) :=
  h.trans ⟨rfl, rfl, rfl, by simp [World.setCell], fun k _ hn => Below.heap_setCell _ _ _ _ (fun e => hn (e ▸ hp))⟩
theorem But.alloc (h : But S a b) (o : Obj) : But S a (b.alloc o) := h.trans (But.ofExt ((Ext.refl _).alloc o))
theorem But.drewN (h : But S a b) (n : Nat) : But S a (b.drewN n) := ⟨h.os, h.tape, h.output, h.size, h.block⟩
theorem But.below {B : Nat} (h : But S a b) (hB : B ≤ a.heap.size) (hs : ∀ k, k < B → ¬ S k) : Below B a b := ⟨h.os, h.tape, h.output, h.size, fun k hk => h.block k (by omega) (hs k hk)⟩
theorem But.cell (h : But S a b) {k o : Nat} (hk : k < a.heap.size) (hs : ¬ S k) : b.cell? ⟨k, o, none⟩ = a.cell? ⟨k, o, none⟩ := World.cell?_of_block (w := a) (a := ⟨k, o, none⟩) (h.block k hk hs)
theorem But.frozen (h : But S a b) {k o : Nat} (hk : k < a.heap.size) (hs : ¬ S k) : b.frozen? ⟨k, o, none⟩ = a.frozen? ⟨k, o, none⟩ := World.frozen?_of_block (w := a) (a := ⟨k, o, none⟩) (h.block k hk hs)
theorem But.has (h : But S a b) {k o : Nat} {v : Value} (hs : ¬ S k) (hc : a.cell? ⟨k, o, none⟩ = some v) : b.cell? ⟨k, o, none⟩ = some v := (h.cell (cell_lt hc) hs).trans hc
theorem But.froz (h : But S a b) {k o : Nat} {v : Value} (hs : ¬ S k) (hc : a.cell? ⟨k, o, none⟩ = some v) (hf : a.frozen? ⟨k, o, none⟩ = false) : b.frozen? ⟨k, o, none⟩ = false := (h.frozen (cell_lt hc) hs).trans hf
end
theorem heap_set_type {w : World} {p : Addr} {v : Value} {cs : Array Value} {t : TypeId} {z : Nat × Nat} (h : w.heap[p.block]? = some (.cells cs t z)) : ∃ cs', (w.setCell p v).heap[p.block]? = some (.cells cs' t z) := by
  simp only [World.setCell, Array.getElem?_modify, if_pos, h, Option.map_some]
  exact ⟨_, rfl⟩
theorem But.setNew {S : Nat → Prop} {a b : World} (h : But S a b) {p : Addr} (hp : a.heap.size ≤ p.block) (u : Value) : But S a (b.setCell p u) :=
  ⟨h.os, h.tape, h.output, by have := h.size; simpa using this, fun k hk hs => (Below.heap_setCell _ _ _ _ (by omega)).trans (h.block k hk hs)⟩
theorem But.drew {S : Nat → Prop} {a b : World} (h : But S a b) : But S a b.drew := ⟨h.os, h.tape, h.output, h.size, h.block⟩
theorem But.setG {g o : Nat} {a b : World} (h : But (· = g) a b) (u : Value) : But (· = g) a (b.setCell ⟨g, o, none⟩ u) := h.setCell (p := ⟨g, o, none⟩) rfl u
end Go.Proofs.Ytnbeejgppooamaa
