/- What the law Qby rests on, part 5 of 8: Ref12, StampP. Conditions stand in each lemma. -/
import Derived.WalkKit
import Derived.Deep.QuietTactic
import Derived.Deep.Draws
import Derived.Laws.OwnMore
import Derived.Laws.AppendOwn
import Derived.OwnWalk
import Derived.RangeFuncBox
import Derived.RangeFuncLeaves
import Derived.Shelf.Abstract
import Derived.OwnWalkIn
import Derived.TacticsInMore
import Derived.LoopNIn
import Derived.LoopIn
import Derived.Maps.AppendAt
import Derived.Test.YtnbeejgppooamaaGreatRows
import Derived.Lib.Hide
import Derived.Deep.Onto
import Derived.ProofKit
import Derived.ChangeOld
import Derived.OpenShut
import Derived.Deep.Slices
import Derived.BigQuiet
import Derived.IntWalk
import Derived.Lib.SliceRun
import Derived.Deep.LoopGhost
import Derived.WalkSpells
import Derived.WalkLawsBesides
import Derived.Deep.RegionHeld3
import Derived.Lib.SmallJoins
import Derived.ArgAppend
import Derived.Test.YtnbeejgppooamaaGreatShelf
import Derived.Test.YtnbeejgppooamaaGreatDivNorm
import Derived.Deep.DeepCutAuto
import Derived.Deep.CutBlock
import Derived.Shelf.Spec.BitsCarry
import Derived.Test.YtnbeejgppooamaaGreatFixRefMath
import Derived.Test.YtnbeejgppooamaaGreatFixDivideMath
import Derived.WalkMore
import Derived.Laws.StructEq
import Derived.Laws.BytesArg
import Derived.Test.YtnbeejgppooamaaGreatSlQby4
set_option linter.unusedVariables false
set_option linter.unusedSimpArgs false
namespace Go.Proofs.YtnbeejgppooamaaGreat
section
open Go.RowKit
set_option maxRecDepth 100000 in
set_option maxHeartbeats 4000000 in
theorem rTake12_some (g k k1 k2 k3 k4 : Nat) (L : List Nat) (f f1 f2 f3 : Option (Int × Int)) (at_ V S Q F : Int) (x : Int × Int) (q0 : 0 ≤ Q) (q1 : Q ≤ 32)
    (CA : Hid (∀ w, RRd w g L k f → Calls Tryz.prog 43 #[.pointer (some ⟨g, 0, none⟩)] w fun r w' => r = .returned (.int .i64 at_) ∧ w = w'))
    (C1 : Hid (∀ w, RRd w g L k f → Calls Tryz.prog 42 #[.pointer (some ⟨g, 0, none⟩), .int .i64 0, .int .i64 31] w fun r w' => r = .returned (.int .i64 V) ∧ RRd w' g L k1 f1 ∧ But (· = g) w w'))
    (C2 : Hid (∀ w, RRd w g L k1 f1 → Calls Tryz.prog 42 #[.pointer (some ⟨g, 0, none⟩), .int .i64 1, .int .i64 4294967296] w fun r w' => r = .returned (.int .i64 S) ∧ RRd w' g L k2 f2 ∧ But (· = g) w w'))
    (C3 : Hid (∀ w, RRd w g L k2 f2 → Calls Tryz.prog 42 #[.pointer (some ⟨g, 0, none⟩), .int .i64 0, .int .i64 32] w fun r w' => r = .returned (.int .i64 Q) ∧ RRd w' g L k3 f3 ∧ But (· = g) w w'))
    (C4 : Hid (∀ w, RRd w g L k3 f3 → Calls Tryz.prog 42 #[.pointer (some ⟨g, 0, none⟩), .int .i64 0, .int .i64 4294967296] w fun r w' => r = .returned (.int .i64 F) ∧ RRd w' g L k4 (some x) ∧ But (· = g) w w'))
    (w : World) (h : RRd w g L k f) :
    Calls Tryz.prog 44 #[.pointer (some ⟨g, 0, none⟩)] w fun r w' => r = .returned (.agg #[.int .i64 0, .int .i64 0, .int .i64 0, .int .i64 0]) ∧ RRd w' g L k4 (some x) ∧ But (· = g) w w' := by
  have hg := h.lt
  have HR := Lib.hid h
  clear h
  go_enter Tryz.func44, Tryz.ntmps44
  go_wp2_with fail
  (with_reducible refine (CA.out _ (by repeat (first | with_reducible exact HR.out | with_reducible refine RRd.set ?_ (by omega) _ | with_reducible refine RRd.ext ?_ (Ext.alloc (Ext.refl _) _) | with_reducible refine RRd.ext ?_ (Ext.drew (Ext.refl _)) | with_reducible refine RRd.drewN ?_ _))).mono ?_)
  rintro e w_1 ⟨rfl, rfl⟩
  go_wp2_with fail
  (with_reducible refine (C1.out _ (by repeat (first | with_reducible exact HR.out | with_reducible refine RRd.set ?_ (by omega) _ | with_reducible refine RRd.ext ?_ (Ext.alloc (Ext.refl _) _) | with_reducible refine RRd.ext ?_ (Ext.drew (Ext.refl _)) | with_reducible refine RRd.drewN ?_ _))).mono ?_)
  rintro e w1 ⟨rfl, hr, hx1⟩
  have hsz1 := hx1.size
  try simp at hsz1
  have c0_0f : w1.frozen? ⟨w.heap.size, 0, none⟩ = false := hx1.froz (by show ¬ _ = _; first | assumption | omega) (v := .int .i64 0) (by first | fail | (simp [go_sem, World.cell?_alloc_past]; done)) (by first | fail | (simp [go_sem, World.cell?_alloc_past]; done))
  have c0_1f : w1.frozen? ⟨w.heap.size, 1, none⟩ = false := hx1.froz (by show ¬ _ = _; first | assumption | omega) (v := .int .i64 0) (by first | fail | (simp [go_sem, World.cell?_alloc_past]; done)) (by first | fail | (simp [go_sem, World.cell?_alloc_past]; done))
  have c0_2f : w1.frozen? ⟨w.heap.size, 2, none⟩ = false := hx1.froz (by show ¬ _ = _; first | assumption | omega) (v := .int .i64 0) (by first | fail | (simp [go_sem, World.cell?_alloc_past]; done)) (by first | fail | (simp [go_sem, World.cell?_alloc_past]; done))
  have c0_3f : w1.frozen? ⟨w.heap.size, 3, none⟩ = false := hx1.froz (by show ¬ _ = _; first | assumption | omega) (v := .int .i64 0) (by first | fail | (simp [go_sem, World.cell?_alloc_past]; done)) (by first | fail | (simp [go_sem, World.cell?_alloc_past]; done))
  have c0_0 : w1.cell? ⟨w.heap.size, 0, none⟩ = some (.int .i64 0) := hx1.has (by show ¬ _ = _; first | assumption | omega) (by first | fail | (simp [go_sem, World.cell?_alloc_past]; done))
  have c0_1 : w1.cell? ⟨w.heap.size, 1, none⟩ = some (.int .i64 0) := hx1.has (by show ¬ _ = _; first | assumption | omega) (by first | fail | (simp [go_sem, World.cell?_alloc_past]; done))
  have c0_2 : w1.cell? ⟨w.heap.size, 2, none⟩ = some (.int .i64 0) := hx1.has (by show ¬ _ = _; first | assumption | omega) (by first | fail | (simp [go_sem, World.cell?_alloc_past]; done))
  have c0_3 : w1.cell? ⟨w.heap.size, 3, none⟩ = some (.int .i64 0) := hx1.has (by show ¬ _ = _; first | assumption | omega) (by first | fail | (simp [go_sem, World.cell?_alloc_past]; done))
  have c1_0f : w1.frozen? ⟨w.heap.size + 1, 0, none⟩ = false := hx1.froz (by show ¬ _ = _; first | assumption | omega) (v := .int .i64 0) (by first | fail | (simp [go_sem, World.cell?_alloc_past]; done)) (by first | fail | (simp [go_sem, World.cell?_alloc_past]; done))
  have c1_1f : w1.frozen? ⟨w.heap.size + 1, 1, none⟩ = false := hx1.froz (by show ¬ _ = _; first | assumption | omega) (v := .int .i64 0) (by first | fail | (simp [go_sem, World.cell?_alloc_past]; done)) (by first | fail | (simp [go_sem, World.cell?_alloc_past]; done))
  have c1_2f : w1.frozen? ⟨w.heap.size + 1, 2, none⟩ = false := hx1.froz (by show ¬ _ = _; first | assumption | omega) (v := .int .i64 0) (by first | fail | (simp [go_sem, World.cell?_alloc_past]; done)) (by first | fail | (simp [go_sem, World.cell?_alloc_past]; done))
  have c1_3f : w1.frozen? ⟨w.heap.size + 1, 3, none⟩ = false := hx1.froz (by show ¬ _ = _; first | assumption | omega) (v := .int .i64 0) (by first | fail | (simp [go_sem, World.cell?_alloc_past]; done)) (by first | fail | (simp [go_sem, World.cell?_alloc_past]; done))
  have c1_0 : w1.cell? ⟨w.heap.size + 1, 0, none⟩ = some (.int .i64 0) := hx1.has (by show ¬ _ = _; first | assumption | omega) (by first | fail | (simp [go_sem, World.cell?_alloc_past]; done))
  have c1_1 : w1.cell? ⟨w.heap.size + 1, 1, none⟩ = some (.int .i64 0) := hx1.has (by show ¬ _ = _; first | assumption | omega) (by first | fail | (simp [go_sem, World.cell?_alloc_past]; done))
  have c1_2 : w1.cell? ⟨w.heap.size + 1, 2, none⟩ = some (.int .i64 0) := hx1.has (by show ¬ _ = _; first | assumption | omega) (by first | fail | (simp [go_sem, World.cell?_alloc_past]; done))
  have c1_3 : w1.cell? ⟨w.heap.size + 1, 3, none⟩ = some (.int .i64 0) := hx1.has (by show ¬ _ = _; first | assumption | omega) (by first | fail | (simp [go_sem, World.cell?_alloc_past]; done))
  have z1 := hx1.size
  try simp at z1
  have lt_c0_c1 : w.heap.size < w.heap.size + 1 := by omega
  have ne_c0_c1 : ¬ w.heap.size = w.heap.size + 1 := by omega
  have ne_c1_c0 : ¬ w.heap.size + 1 = w.heap.size := by omega
  have rc0 : w.heap.size < w1.heap.size := by omega
  have rc0a : w.heap.size < w1.heap.size + 1 := by omega
  have rc0b : w.heap.size < w1.heap.size + 1 + 1 := by omega
  have rc0c : w.heap.size < w1.heap.size + 1 + 1 + 1 := by omega
  have rc0n : ¬ w.heap.size = w1.heap.size := by omega
  have rc1 : w.heap.size + 1 < w1.heap.size := by omega
  have rc1a : w.heap.size + 1 < w1.heap.size + 1 := by omega
  have rc1b : w.heap.size + 1 < w1.heap.size + 1 + 1 := by omega
  have rc1c : w.heap.size + 1 < w1.heap.size + 1 + 1 + 1 := by omega
  have rc1n : ¬ w.heap.size + 1 = w1.heap.size := by omega
  have X1 : Hid (But (· = g) w w1) := Lib.hid (But.trans (by repeat (first | with_reducible exact But.refl _ w | with_reducible refine But.drew ?_ | with_reducible refine But.drewN ?_ _ | with_reducible refine But.alloc ?_ _ | with_reducible refine But.setG ?_ _ | with_reducible refine But.setNew ?_ (by first | omega | (simp; done) | (simp; omega)) _)) hx1)
  clear HR
  have HR := Lib.hid hr
  clear hsz1 hx1 z1 hr
  go_wp2_with fail
  (with_reducible refine (C2.out _ (by repeat (first | with_reducible exact HR.out | with_reducible refine RRd.set ?_ (by omega) _ | with_reducible refine RRd.ext ?_ (Ext.alloc (Ext.refl _) _) | with_reducible refine RRd.ext ?_ (Ext.drew (Ext.refl _)) | with_reducible refine RRd.drewN ?_ _))).mono ?_)
  rintro e w2 ⟨rfl, hr, hx2⟩
  have hsz2 := hx2.size
  try simp at hsz2
  replace c0_0f : w2.frozen? ⟨w.heap.size, 0, none⟩ = false := hx2.froz (by show ¬ _ = _; first | assumption | omega) (v := .int .i64 0) (by first | exact c0_0 | (simp [go_sem, World.cell?_alloc_past, c0_0f, c0_1f, c0_2f, c0_3f, c0_0, c0_1, c0_2, c0_3, c1_0f, c1_1f, c1_2f, c1_3f, c1_0, c1_1, c1_2, c1_3, ne_c0_c1, ne_c1_c0, rc0, rc0a, rc0b, rc0c, rc0n, rc1, rc1a, rc1b, rc1c, rc1n]; done)) (by first | exact c0_0f | (simp [go_sem, World.cell?_alloc_past, c0_0f, c0_1f, c0_2f, c0_3f, c0_0, c0_1, c0_2, c0_3, c1_0f, c1_1f, c1_2f, c1_3f, c1_0, c1_1, c1_2, c1_3, ne_c0_c1, ne_c1_c0, rc0, rc0a, rc0b, rc0c, rc0n, rc1, rc1a, rc1b, rc1c, rc1n]; done))
  replace c0_1f : w2.frozen? ⟨w.heap.size, 1, none⟩ = false := hx2.froz (by show ¬ _ = _; first | assumption | omega) (v := .int .i64 0) (by first | exact c0_1 | (simp [go_sem, World.cell?_alloc_past, c0_0f, c0_1f, c0_2f, c0_3f, c0_0, c0_1, c0_2, c0_3, c1_0f, c1_1f, c1_2f, c1_3f, c1_0, c1_1, c1_2, c1_3, ne_c0_c1, ne_c1_c0, rc0, rc0a, rc0b, rc0c, rc0n, rc1, rc1a, rc1b, rc1c, rc1n]; done)) (by first | exact c0_1f | (simp [go_sem, World.cell?_alloc_past, c0_0f, c0_1f, c0_2f, c0_3f, c0_0, c0_1, c0_2, c0_3, c1_0f, c1_1f, c1_2f, c1_3f, c1_0, c1_1, c1_2, c1_3, ne_c0_c1, ne_c1_c0, rc0, rc0a, rc0b, rc0c, rc0n, rc1, rc1a, rc1b, rc1c, rc1n]; done))
  replace c0_2f : w2.frozen? ⟨w.heap.size, 2, none⟩ = false := hx2.froz (by show ¬ _ = _; first | assumption | omega) (v := .int .i64 0) (by first | exact c0_2 | (simp [go_sem, World.cell?_alloc_past, c0_0f, c0_1f, c0_2f, c0_3f, c0_0, c0_1, c0_2, c0_3, c1_0f, c1_1f, c1_2f, c1_3f, c1_0, c1_1, c1_2, c1_3, ne_c0_c1, ne_c1_c0, rc0, rc0a, rc0b, rc0c, rc0n, rc1, rc1a, rc1b, rc1c, rc1n]; done)) (by first | exact c0_2f | (simp [go_sem, World.cell?_alloc_past, c0_0f, c0_1f, c0_2f, c0_3f, c0_0, c0_1, c0_2, c0_3, c1_0f, c1_1f, c1_2f, c1_3f, c1_0, c1_1, c1_2, c1_3, ne_c0_c1, ne_c1_c0, rc0, rc0a, rc0b, rc0c, rc0n, rc1, rc1a, rc1b, rc1c, rc1n]; done))
  replace c0_3f : w2.frozen? ⟨w.heap.size, 3, none⟩ = false := hx2.froz (by show ¬ _ = _; first | assumption | omega) (v := .int .i64 0) (by first | exact c0_3 | (simp [go_sem, World.cell?_alloc_past, c0_0f, c0_1f, c0_2f, c0_3f, c0_0, c0_1, c0_2, c0_3, c1_0f, c1_1f, c1_2f, c1_3f, c1_0, c1_1, c1_2, c1_3, ne_c0_c1, ne_c1_c0, rc0, rc0a, rc0b, rc0c, rc0n, rc1, rc1a, rc1b, rc1c, rc1n]; done)) (by first | exact c0_3f | (simp [go_sem, World.cell?_alloc_past, c0_0f, c0_1f, c0_2f, c0_3f, c0_0, c0_1, c0_2, c0_3, c1_0f, c1_1f, c1_2f, c1_3f, c1_0, c1_1, c1_2, c1_3, ne_c0_c1, ne_c1_c0, rc0, rc0a, rc0b, rc0c, rc0n, rc1, rc1a, rc1b, rc1c, rc1n]; done))
  replace c0_0 : w2.cell? ⟨w.heap.size, 0, none⟩ = some (.int .i64 0) := hx2.has (by show ¬ _ = _; first | assumption | omega) (by first | exact c0_0 | (simp [go_sem, World.cell?_alloc_past, c0_0f, c0_1f, c0_2f, c0_3f, c0_0, c0_1, c0_2, c0_3, c1_0f, c1_1f, c1_2f, c1_3f, c1_0, c1_1, c1_2, c1_3, ne_c0_c1, ne_c1_c0, rc0, rc0a, rc0b, rc0c, rc0n, rc1, rc1a, rc1b, rc1c, rc1n]; done))
  replace c0_1 : w2.cell? ⟨w.heap.size, 1, none⟩ = some (.int .i64 0) := hx2.has (by show ¬ _ = _; first | assumption | omega) (by first | exact c0_1 | (simp [go_sem, World.cell?_alloc_past, c0_0f, c0_1f, c0_2f, c0_3f, c0_0, c0_1, c0_2, c0_3, c1_0f, c1_1f, c1_2f, c1_3f, c1_0, c1_1, c1_2, c1_3, ne_c0_c1, ne_c1_c0, rc0, rc0a, rc0b, rc0c, rc0n, rc1, rc1a, rc1b, rc1c, rc1n]; done))
  replace c0_2 : w2.cell? ⟨w.heap.size, 2, none⟩ = some (.int .i64 0) := hx2.has (by show ¬ _ = _; first | assumption | omega) (by first | exact c0_2 | (simp [go_sem, World.cell?_alloc_past, c0_0f, c0_1f, c0_2f, c0_3f, c0_0, c0_1, c0_2, c0_3, c1_0f, c1_1f, c1_2f, c1_3f, c1_0, c1_1, c1_2, c1_3, ne_c0_c1, ne_c1_c0, rc0, rc0a, rc0b, rc0c, rc0n, rc1, rc1a, rc1b, rc1c, rc1n]; done))
  replace c0_3 : w2.cell? ⟨w.heap.size, 3, none⟩ = some (.int .i64 0) := hx2.has (by show ¬ _ = _; first | assumption | omega) (by first | exact c0_3 | (simp [go_sem, World.cell?_alloc_past, c0_0f, c0_1f, c0_2f, c0_3f, c0_0, c0_1, c0_2, c0_3, c1_0f, c1_1f, c1_2f, c1_3f, c1_0, c1_1, c1_2, c1_3, ne_c0_c1, ne_c1_c0, rc0, rc0a, rc0b, rc0c, rc0n, rc1, rc1a, rc1b, rc1c, rc1n]; done))
  replace c1_1f : w2.frozen? ⟨w.heap.size + 1, 1, none⟩ = false := hx2.froz (by show ¬ _ = _; first | assumption | omega) (v := .int .i64 0) (by first | exact c1_1 | (simp [go_sem, World.cell?_alloc_past, c0_0f, c0_1f, c0_2f, c0_3f, c0_0, c0_1, c0_2, c0_3, c1_0f, c1_1f, c1_2f, c1_3f, c1_0, c1_1, c1_2, c1_3, ne_c0_c1, ne_c1_c0, rc0, rc0a, rc0b, rc0c, rc0n, rc1, rc1a, rc1b, rc1c, rc1n]; done)) (by first | exact c1_1f | (simp [go_sem, World.cell?_alloc_past, c0_0f, c0_1f, c0_2f, c0_3f, c0_0, c0_1, c0_2, c0_3, c1_0f, c1_1f, c1_2f, c1_3f, c1_0, c1_1, c1_2, c1_3, ne_c0_c1, ne_c1_c0, rc0, rc0a, rc0b, rc0c, rc0n, rc1, rc1a, rc1b, rc1c, rc1n]; done))
  replace c1_2f : w2.frozen? ⟨w.heap.size + 1, 2, none⟩ = false := hx2.froz (by show ¬ _ = _; first | assumption | omega) (v := .int .i64 0) (by first | exact c1_2 | (simp [go_sem, World.cell?_alloc_past, c0_0f, c0_1f, c0_2f, c0_3f, c0_0, c0_1, c0_2, c0_3, c1_0f, c1_1f, c1_2f, c1_3f, c1_0, c1_1, c1_2, c1_3, ne_c0_c1, ne_c1_c0, rc0, rc0a, rc0b, rc0c, rc0n, rc1, rc1a, rc1b, rc1c, rc1n]; done)) (by first | exact c1_2f | (simp [go_sem, World.cell?_alloc_past, c0_0f, c0_1f, c0_2f, c0_3f, c0_0, c0_1, c0_2, c0_3, c1_0f, c1_1f, c1_2f, c1_3f, c1_0, c1_1, c1_2, c1_3, ne_c0_c1, ne_c1_c0, rc0, rc0a, rc0b, rc0c, rc0n, rc1, rc1a, rc1b, rc1c, rc1n]; done))
  replace c1_3f : w2.frozen? ⟨w.heap.size + 1, 3, none⟩ = false := hx2.froz (by show ¬ _ = _; first | assumption | omega) (v := .int .i64 0) (by first | exact c1_3 | (simp [go_sem, World.cell?_alloc_past, c0_0f, c0_1f, c0_2f, c0_3f, c0_0, c0_1, c0_2, c0_3, c1_0f, c1_1f, c1_2f, c1_3f, c1_0, c1_1, c1_2, c1_3, ne_c0_c1, ne_c1_c0, rc0, rc0a, rc0b, rc0c, rc0n, rc1, rc1a, rc1b, rc1c, rc1n]; done)) (by first | exact c1_3f | (simp [go_sem, World.cell?_alloc_past, c0_0f, c0_1f, c0_2f, c0_3f, c0_0, c0_1, c0_2, c0_3, c1_0f, c1_1f, c1_2f, c1_3f, c1_0, c1_1, c1_2, c1_3, ne_c0_c1, ne_c1_c0, rc0, rc0a, rc0b, rc0c, rc0n, rc1, rc1a, rc1b, rc1c, rc1n]; done))
  replace c1_1 : w2.cell? ⟨w.heap.size + 1, 1, none⟩ = some (.int .i64 0) := hx2.has (by show ¬ _ = _; first | assumption | omega) (by first | exact c1_1 | (simp [go_sem, World.cell?_alloc_past, c0_0f, c0_1f, c0_2f, c0_3f, c0_0, c0_1, c0_2, c0_3, c1_0f, c1_1f, c1_2f, c1_3f, c1_0, c1_1, c1_2, c1_3, ne_c0_c1, ne_c1_c0, rc0, rc0a, rc0b, rc0c, rc0n, rc1, rc1a, rc1b, rc1c, rc1n]; done))
  replace c1_2 : w2.cell? ⟨w.heap.size + 1, 2, none⟩ = some (.int .i64 0) := hx2.has (by show ¬ _ = _; first | assumption | omega) (by first | exact c1_2 | (simp [go_sem, World.cell?_alloc_past, c0_0f, c0_1f, c0_2f, c0_3f, c0_0, c0_1, c0_2, c0_3, c1_0f, c1_1f, c1_2f, c1_3f, c1_0, c1_1, c1_2, c1_3, ne_c0_c1, ne_c1_c0, rc0, rc0a, rc0b, rc0c, rc0n, rc1, rc1a, rc1b, rc1c, rc1n]; done))
  replace c1_3 : w2.cell? ⟨w.heap.size + 1, 3, none⟩ = some (.int .i64 0) := hx2.has (by show ¬ _ = _; first | assumption | omega) (by first | exact c1_3 | (simp [go_sem, World.cell?_alloc_past, c0_0f, c0_1f, c0_2f, c0_3f, c0_0, c0_1, c0_2, c0_3, c1_0f, c1_1f, c1_2f, c1_3f, c1_0, c1_1, c1_2, c1_3, ne_c0_c1, ne_c1_c0, rc0, rc0a, rc0b, rc0c, rc0n, rc1, rc1a, rc1b, rc1c, rc1n]; done))
  have z2 := hx2.size
  try simp at z2
  replace rc0 : w.heap.size < w2.heap.size := by omega
  replace rc0a : w.heap.size < w2.heap.size + 1 := by omega
  replace rc0b : w.heap.size < w2.heap.size + 1 + 1 := by omega
  replace rc0c : w.heap.size < w2.heap.size + 1 + 1 + 1 := by omega
  replace rc0n : ¬ w.heap.size = w2.heap.size := by omega
  replace rc1 : w.heap.size + 1 < w2.heap.size := by omega
  replace rc1a : w.heap.size + 1 < w2.heap.size + 1 := by omega
  replace rc1b : w.heap.size + 1 < w2.heap.size + 1 + 1 := by omega
  replace rc1c : w.heap.size + 1 < w2.heap.size + 1 + 1 + 1 := by omega
  replace rc1n : ¬ w.heap.size + 1 = w2.heap.size := by omega
  have X2 : Hid (But (· = g) w w2) := Lib.hid (But.trans (by repeat (first | with_reducible exact X1.out | with_reducible refine But.drew ?_ | with_reducible refine But.drewN ?_ _ | with_reducible refine But.alloc ?_ _ | with_reducible refine But.setG ?_ _ | with_reducible refine But.setNew ?_ (by first | omega | (simp; done) | (simp; omega)) _)) hx2)
  clear HR
  have HR := Lib.hid hr
  clear c1_0 c1_0f hsz2 X1 hx2 z2 hr
  go_wp2_with fail
  (with_reducible refine (C3.out _ (by repeat (first | with_reducible exact HR.out | with_reducible refine RRd.set ?_ (by omega) _ | with_reducible refine RRd.ext ?_ (Ext.alloc (Ext.refl _) _) | with_reducible refine RRd.ext ?_ (Ext.drew (Ext.refl _)) | with_reducible refine RRd.drewN ?_ _))).mono ?_)
  rintro e w3 ⟨rfl, hr, hx3⟩
  have hsz3 := hx3.size
  try simp at hsz3
  replace c0_0f : w3.frozen? ⟨w.heap.size, 0, none⟩ = false := hx3.froz (by show ¬ _ = _; first | assumption | omega) (v := .int .i64 0) (by first | exact c0_0 | (simp [go_sem, World.cell?_alloc_past, c0_0f, c0_1f, c0_2f, c0_3f, c0_0, c0_1, c0_2, c0_3, c1_1f, c1_2f, c1_3f, c1_1, c1_2, c1_3, ne_c0_c1, ne_c1_c0, rc0, rc0a, rc0b, rc0c, rc0n, rc1, rc1a, rc1b, rc1c, rc1n]; done)) (by first | exact c0_0f | (simp [go_sem, World.cell?_alloc_past, c0_0f, c0_1f, c0_2f, c0_3f, c0_0, c0_1, c0_2, c0_3, c1_1f, c1_2f, c1_3f, c1_1, c1_2, c1_3, ne_c0_c1, ne_c1_c0, rc0, rc0a, rc0b, rc0c, rc0n, rc1, rc1a, rc1b, rc1c, rc1n]; done))
  replace c0_1f : w3.frozen? ⟨w.heap.size, 1, none⟩ = false := hx3.froz (by show ¬ _ = _; first | assumption | omega) (v := .int .i64 0) (by first | exact c0_1 | (simp [go_sem, World.cell?_alloc_past, c0_0f, c0_1f, c0_2f, c0_3f, c0_0, c0_1, c0_2, c0_3, c1_1f, c1_2f, c1_3f, c1_1, c1_2, c1_3, ne_c0_c1, ne_c1_c0, rc0, rc0a, rc0b, rc0c, rc0n, rc1, rc1a, rc1b, rc1c, rc1n]; done)) (by first | exact c0_1f | (simp [go_sem, World.cell?_alloc_past, c0_0f, c0_1f, c0_2f, c0_3f, c0_0, c0_1, c0_2, c0_3, c1_1f, c1_2f, c1_3f, c1_1, c1_2, c1_3, ne_c0_c1, ne_c1_c0, rc0, rc0a, rc0b, rc0c, rc0n, rc1, rc1a, rc1b, rc1c, rc1n]; done))
  replace c0_2f : w3.frozen? ⟨w.heap.size, 2, none⟩ = false := hx3.froz (by show ¬ _ = _; first | assumption | omega) (v := .int .i64 0) (by first | exact c0_2 | (simp [go_sem, World.cell?_alloc_past, c0_0f, c0_1f, c0_2f, c0_3f, c0_0, c0_1, c0_2, c0_3, c1_1f, c1_2f, c1_3f, c1_1, c1_2, c1_3, ne_c0_c1, ne_c1_c0, rc0, rc0a, rc0b, rc0c, rc0n, rc1, rc1a, rc1b, rc1c, rc1n]; done)) (by first | exact c0_2f | (simp [go_sem, World.cell?_alloc_past, c0_0f, c0_1f, c0_2f, c0_3f, c0_0, c0_1, c0_2, c0_3, c1_1f, c1_2f, c1_3f, c1_1, c1_2, c1_3, ne_c0_c1, ne_c1_c0, rc0, rc0a, rc0b, rc0c, rc0n, rc1, rc1a, rc1b, rc1c, rc1n]; done))
  replace c0_3f : w3.frozen? ⟨w.heap.size, 3, none⟩ = false := hx3.froz (by show ¬ _ = _; first | assumption | omega) (v := .int .i64 0) (by first | exact c0_3 | (simp [go_sem, World.cell?_alloc_past, c0_0f, c0_1f, c0_2f, c0_3f, c0_0, c0_1, c0_2, c0_3, c1_1f, c1_2f, c1_3f, c1_1, c1_2, c1_3, ne_c0_c1, ne_c1_c0, rc0, rc0a, rc0b, rc0c, rc0n, rc1, rc1a, rc1b, rc1c, rc1n]; done)) (by first | exact c0_3f | (simp [go_sem, World.cell?_alloc_past, c0_0f, c0_1f, c0_2f, c0_3f, c0_0, c0_1, c0_2, c0_3, c1_1f, c1_2f, c1_3f, c1_1, c1_2, c1_3, ne_c0_c1, ne_c1_c0, rc0, rc0a, rc0b, rc0c, rc0n, rc1, rc1a, rc1b, rc1c, rc1n]; done))
  replace c0_0 : w3.cell? ⟨w.heap.size, 0, none⟩ = some (.int .i64 0) := hx3.has (by show ¬ _ = _; first | assumption | omega) (by first | exact c0_0 | (simp [go_sem, World.cell?_alloc_past, c0_0f, c0_1f, c0_2f, c0_3f, c0_0, c0_1, c0_2, c0_3, c1_1f, c1_2f, c1_3f, c1_1, c1_2, c1_3, ne_c0_c1, ne_c1_c0, rc0, rc0a, rc0b, rc0c, rc0n, rc1, rc1a, rc1b, rc1c, rc1n]; done))
  replace c0_1 : w3.cell? ⟨w.heap.size, 1, none⟩ = some (.int .i64 0) := hx3.has (by show ¬ _ = _; first | assumption | omega) (by first | exact c0_1 | (simp [go_sem, World.cell?_alloc_past, c0_0f, c0_1f, c0_2f, c0_3f, c0_0, c0_1, c0_2, c0_3, c1_1f, c1_2f, c1_3f, c1_1, c1_2, c1_3, ne_c0_c1, ne_c1_c0, rc0, rc0a, rc0b, rc0c, rc0n, rc1, rc1a, rc1b, rc1c, rc1n]; done))
  replace c0_2 : w3.cell? ⟨w.heap.size, 2, none⟩ = some (.int .i64 0) := hx3.has (by show ¬ _ = _; first | assumption | omega) (by first | exact c0_2 | (simp [go_sem, World.cell?_alloc_past, c0_0f, c0_1f, c0_2f, c0_3f, c0_0, c0_1, c0_2, c0_3, c1_1f, c1_2f, c1_3f, c1_1, c1_2, c1_3, ne_c0_c1, ne_c1_c0, rc0, rc0a, rc0b, rc0c, rc0n, rc1, rc1a, rc1b, rc1c, rc1n]; done))
  replace c0_3 : w3.cell? ⟨w.heap.size, 3, none⟩ = some (.int .i64 0) := hx3.has (by show ¬ _ = _; first | assumption | omega) (by first | exact c0_3 | (simp [go_sem, World.cell?_alloc_past, c0_0f, c0_1f, c0_2f, c0_3f, c0_0, c0_1, c0_2, c0_3, c1_1f, c1_2f, c1_3f, c1_1, c1_2, c1_3, ne_c0_c1, ne_c1_c0, rc0, rc0a, rc0b, rc0c, rc0n, rc1, rc1a, rc1b, rc1c, rc1n]; done))
  replace c1_2f : w3.frozen? ⟨w.heap.size + 1, 2, none⟩ = false := hx3.froz (by show ¬ _ = _; first | assumption | omega) (v := .int .i64 0) (by first | exact c1_2 | (simp [go_sem, World.cell?_alloc_past, c0_0f, c0_1f, c0_2f, c0_3f, c0_0, c0_1, c0_2, c0_3, c1_1f, c1_2f, c1_3f, c1_1, c1_2, c1_3, ne_c0_c1, ne_c1_c0, rc0, rc0a, rc0b, rc0c, rc0n, rc1, rc1a, rc1b, rc1c, rc1n]; done)) (by first | exact c1_2f | (simp [go_sem, World.cell?_alloc_past, c0_0f, c0_1f, c0_2f, c0_3f, c0_0, c0_1, c0_2, c0_3, c1_1f, c1_2f, c1_3f, c1_1, c1_2, c1_3, ne_c0_c1, ne_c1_c0, rc0, rc0a, rc0b, rc0c, rc0n, rc1, rc1a, rc1b, rc1c, rc1n]; done))
  replace c1_3f : w3.frozen? ⟨w.heap.size + 1, 3, none⟩ = false := hx3.froz (by show ¬ _ = _; first | assumption | omega) (v := .int .i64 0) (by first | exact c1_3 | (simp [go_sem, World.cell?_alloc_past, c0_0f, c0_1f, c0_2f, c0_3f, c0_0, c0_1, c0_2, c0_3, c1_1f, c1_2f, c1_3f, c1_1, c1_2, c1_3, ne_c0_c1, ne_c1_c0, rc0, rc0a, rc0b, rc0c, rc0n, rc1, rc1a, rc1b, rc1c, rc1n]; done)) (by first | exact c1_3f | (simp [go_sem, World.cell?_alloc_past, c0_0f, c0_1f, c0_2f, c0_3f, c0_0, c0_1, c0_2, c0_3, c1_1f, c1_2f, c1_3f, c1_1, c1_2, c1_3, ne_c0_c1, ne_c1_c0, rc0, rc0a, rc0b, rc0c, rc0n, rc1, rc1a, rc1b, rc1c, rc1n]; done))
  replace c1_2 : w3.cell? ⟨w.heap.size + 1, 2, none⟩ = some (.int .i64 0) := hx3.has (by show ¬ _ = _; first | assumption | omega) (by first | exact c1_2 | (simp [go_sem, World.cell?_alloc_past, c0_0f, c0_1f, c0_2f, c0_3f, c0_0, c0_1, c0_2, c0_3, c1_1f, c1_2f, c1_3f, c1_1, c1_2, c1_3, ne_c0_c1, ne_c1_c0, rc0, rc0a, rc0b, rc0c, rc0n, rc1, rc1a, rc1b, rc1c, rc1n]; done))
  replace c1_3 : w3.cell? ⟨w.heap.size + 1, 3, none⟩ = some (.int .i64 0) := hx3.has (by show ¬ _ = _; first | assumption | omega) (by first | exact c1_3 | (simp [go_sem, World.cell?_alloc_past, c0_0f, c0_1f, c0_2f, c0_3f, c0_0, c0_1, c0_2, c0_3, c1_1f, c1_2f, c1_3f, c1_1, c1_2, c1_3, ne_c0_c1, ne_c1_c0, rc0, rc0a, rc0b, rc0c, rc0n, rc1, rc1a, rc1b, rc1c, rc1n]; done))
  have z3 := hx3.size
  try simp at z3
  replace rc0 : w.heap.size < w3.heap.size := by omega
  replace rc0a : w.heap.size < w3.heap.size + 1 := by omega
  replace rc0b : w.heap.size < w3.heap.size + 1 + 1 := by omega
  replace rc0c : w.heap.size < w3.heap.size + 1 + 1 + 1 := by omega
  replace rc0n : ¬ w.heap.size = w3.heap.size := by omega
  replace rc1 : w.heap.size + 1 < w3.heap.size := by omega
  replace rc1a : w.heap.size + 1 < w3.heap.size + 1 := by omega
  replace rc1b : w.heap.size + 1 < w3.heap.size + 1 + 1 := by omega
  replace rc1c : w.heap.size + 1 < w3.heap.size + 1 + 1 + 1 := by omega
  replace rc1n : ¬ w.heap.size + 1 = w3.heap.size := by omega
  have X3 : Hid (But (· = g) w w3) := Lib.hid (But.trans (by repeat (first | with_reducible exact X2.out | with_reducible refine But.drew ?_ | with_reducible refine But.drewN ?_ _ | with_reducible refine But.alloc ?_ _ | with_reducible refine But.setG ?_ _ | with_reducible refine But.setNew ?_ (by first | omega | (simp; done) | (simp; omega)) _)) hx3)
  clear HR
  have HR := Lib.hid hr
  clear c1_1f c1_1 hsz3 X2 hx3 z3 hr
  go_wp2_with fail
  (with_reducible refine (C4.out _ (by repeat (first | with_reducible exact HR.out | with_reducible refine RRd.set ?_ (by omega) _ | with_reducible refine RRd.ext ?_ (Ext.alloc (Ext.refl _) _) | with_reducible refine RRd.ext ?_ (Ext.drew (Ext.refl _)) | with_reducible refine RRd.drewN ?_ _))).mono ?_)
  rintro e w4 ⟨rfl, hr, hx4⟩
  have hsz4 := hx4.size
  try simp at hsz4
  replace c0_0f : w4.frozen? ⟨w.heap.size, 0, none⟩ = false := hx4.froz (by show ¬ _ = _; first | assumption | omega) (v := .int .i64 0) (by first | exact c0_0 | (simp [go_sem, World.cell?_alloc_past, c0_0f, c0_1f, c0_2f, c0_3f, c0_0, c0_1, c0_2, c0_3, c1_2f, c1_3f, c1_2, c1_3, ne_c0_c1, ne_c1_c0, rc0, rc0a, rc0b, rc0c, rc0n, rc1, rc1a, rc1b, rc1c, rc1n]; done)) (by first | exact c0_0f | (simp [go_sem, World.cell?_alloc_past, c0_0f, c0_1f, c0_2f, c0_3f, c0_0, c0_1, c0_2, c0_3, c1_2f, c1_3f, c1_2, c1_3, ne_c0_c1, ne_c1_c0, rc0, rc0a, rc0b, rc0c, rc0n, rc1, rc1a, rc1b, rc1c, rc1n]; done))
  replace c0_1f : w4.frozen? ⟨w.heap.size, 1, none⟩ = false := hx4.froz (by show ¬ _ = _; first | assumption | omega) (v := .int .i64 0) (by first | exact c0_1 | (simp [go_sem, World.cell?_alloc_past, c0_0f, c0_1f, c0_2f, c0_3f, c0_0, c0_1, c0_2, c0_3, c1_2f, c1_3f, c1_2, c1_3, ne_c0_c1, ne_c1_c0, rc0, rc0a, rc0b, rc0c, rc0n, rc1, rc1a, rc1b, rc1c, rc1n]; done)) (by first | exact c0_1f | (simp [go_sem, World.cell?_alloc_past, c0_0f, c0_1f, c0_2f, c0_3f, c0_0, c0_1, c0_2, c0_3, c1_2f, c1_3f, c1_2, c1_3, ne_c0_c1, ne_c1_c0, rc0, rc0a, rc0b, rc0c, rc0n, rc1, rc1a, rc1b, rc1c, rc1n]; done))
  replace c0_2f : w4.frozen? ⟨w.heap.size, 2, none⟩ = false := hx4.froz (by show ¬ _ = _; first | assumption | omega) (v := .int .i64 0) (by first | exact c0_2 | (simp [go_sem, World.cell?_alloc_past, c0_0f, c0_1f, c0_2f, c0_3f, c0_0, c0_1, c0_2, c0_3, c1_2f, c1_3f, c1_2, c1_3, ne_c0_c1, ne_c1_c0, rc0, rc0a, rc0b, rc0c, rc0n, rc1, rc1a, rc1b, rc1c, rc1n]; done)) (by first | exact c0_2f | (simp [go_sem, World.cell?_alloc_past, c0_0f, c0_1f, c0_2f, c0_3f, c0_0, c0_1, c0_2, c0_3, c1_2f, c1_3f, c1_2, c1_3, ne_c0_c1, ne_c1_c0, rc0, rc0a, rc0b, rc0c, rc0n, rc1, rc1a, rc1b, rc1c, rc1n]; done))
  replace c0_3f : w4.frozen? ⟨w.heap.size, 3, none⟩ = false := hx4.froz (by show ¬ _ = _; first | assumption | omega) (v := .int .i64 0) (by first | exact c0_3 | (simp [go_sem, World.cell?_alloc_past, c0_0f, c0_1f, c0_2f, c0_3f, c0_0, c0_1, c0_2, c0_3, c1_2f, c1_3f, c1_2, c1_3, ne_c0_c1, ne_c1_c0, rc0, rc0a, rc0b, rc0c, rc0n, rc1, rc1a, rc1b, rc1c, rc1n]; done)) (by first | exact c0_3f | (simp [go_sem, World.cell?_alloc_past, c0_0f, c0_1f, c0_2f, c0_3f, c0_0, c0_1, c0_2, c0_3, c1_2f, c1_3f, c1_2, c1_3, ne_c0_c1, ne_c1_c0, rc0, rc0a, rc0b, rc0c, rc0n, rc1, rc1a, rc1b, rc1c, rc1n]; done))
  replace c0_0 : w4.cell? ⟨w.heap.size, 0, none⟩ = some (.int .i64 0) := hx4.has (by show ¬ _ = _; first | assumption | omega) (by first | exact c0_0 | (simp [go_sem, World.cell?_alloc_past, c0_0f, c0_1f, c0_2f, c0_3f, c0_0, c0_1, c0_2, c0_3, c1_2f, c1_3f, c1_2, c1_3, ne_c0_c1, ne_c1_c0, rc0, rc0a, rc0b, rc0c, rc0n, rc1, rc1a, rc1b, rc1c, rc1n]; done))
  replace c0_1 : w4.cell? ⟨w.heap.size, 1, none⟩ = some (.int .i64 0) := hx4.has (by show ¬ _ = _; first | assumption | omega) (by first | exact c0_1 | (simp [go_sem, World.cell?_alloc_past, c0_0f, c0_1f, c0_2f, c0_3f, c0_0, c0_1, c0_2, c0_3, c1_2f, c1_3f, c1_2, c1_3, ne_c0_c1, ne_c1_c0, rc0, rc0a, rc0b, rc0c, rc0n, rc1, rc1a, rc1b, rc1c, rc1n]; done))
  replace c0_2 : w4.cell? ⟨w.heap.size, 2, none⟩ = some (.int .i64 0) := hx4.has (by show ¬ _ = _; first | assumption | omega) (by first | exact c0_2 | (simp [go_sem, World.cell?_alloc_past, c0_0f, c0_1f, c0_2f, c0_3f, c0_0, c0_1, c0_2, c0_3, c1_2f, c1_3f, c1_2, c1_3, ne_c0_c1, ne_c1_c0, rc0, rc0a, rc0b, rc0c, rc0n, rc1, rc1a, rc1b, rc1c, rc1n]; done))
  replace c0_3 : w4.cell? ⟨w.heap.size, 3, none⟩ = some (.int .i64 0) := hx4.has (by show ¬ _ = _; first | assumption | omega) (by first | exact c0_3 | (simp [go_sem, World.cell?_alloc_past, c0_0f, c0_1f, c0_2f, c0_3f, c0_0, c0_1, c0_2, c0_3, c1_2f, c1_3f, c1_2, c1_3, ne_c0_c1, ne_c1_c0, rc0, rc0a, rc0b, rc0c, rc0n, rc1, rc1a, rc1b, rc1c, rc1n]; done))
  replace c1_3f : w4.frozen? ⟨w.heap.size + 1, 3, none⟩ = false := hx4.froz (by show ¬ _ = _; first | assumption | omega) (v := .int .i64 0) (by first | exact c1_3 | (simp [go_sem, World.cell?_alloc_past, c0_0f, c0_1f, c0_2f, c0_3f, c0_0, c0_1, c0_2, c0_3, c1_2f, c1_3f, c1_2, c1_3, ne_c0_c1, ne_c1_c0, rc0, rc0a, rc0b, rc0c, rc0n, rc1, rc1a, rc1b, rc1c, rc1n]; done)) (by first | exact c1_3f | (simp [go_sem, World.cell?_alloc_past, c0_0f, c0_1f, c0_2f, c0_3f, c0_0, c0_1, c0_2, c0_3, c1_2f, c1_3f, c1_2, c1_3, ne_c0_c1, ne_c1_c0, rc0, rc0a, rc0b, rc0c, rc0n, rc1, rc1a, rc1b, rc1c, rc1n]; done))
  replace c1_3 : w4.cell? ⟨w.heap.size + 1, 3, none⟩ = some (.int .i64 0) := hx4.has (by show ¬ _ = _; first | assumption | omega) (by first | exact c1_3 | (simp [go_sem, World.cell?_alloc_past, c0_0f, c0_1f, c0_2f, c0_3f, c0_0, c0_1, c0_2, c0_3, c1_2f, c1_3f, c1_2, c1_3, ne_c0_c1, ne_c1_c0, rc0, rc0a, rc0b, rc0c, rc0n, rc1, rc1a, rc1b, rc1c, rc1n]; done))
  have z4 := hx4.size
  try simp at z4
  replace rc0 : w.heap.size < w4.heap.size := by omega
  replace rc0a : w.heap.size < w4.heap.size + 1 := by omega
  replace rc0b : w.heap.size < w4.heap.size + 1 + 1 := by omega
  replace rc0c : w.heap.size < w4.heap.size + 1 + 1 + 1 := by omega
  replace rc0n : ¬ w.heap.size = w4.heap.size := by omega
  replace rc1 : w.heap.size + 1 < w4.heap.size := by omega
  replace rc1a : w.heap.size + 1 < w4.heap.size + 1 := by omega
  replace rc1b : w.heap.size + 1 < w4.heap.size + 1 + 1 := by omega
  replace rc1c : w.heap.size + 1 < w4.heap.size + 1 + 1 + 1 := by omega
  replace rc1n : ¬ w.heap.size + 1 = w4.heap.size := by omega
  have X4 : Hid (But (· = g) w w4) := Lib.hid (But.trans (by repeat (first | with_reducible exact X3.out | with_reducible refine But.drew ?_ | with_reducible refine But.drewN ?_ _ | with_reducible refine But.alloc ?_ _ | with_reducible refine But.setG ?_ _ | with_reducible refine But.setNew ?_ (by first | omega | (simp; done) | (simp; omega)) _)) hx4)
  clear HR
  have HR := Lib.hid hr
  clear c1_2f c1_2 hsz4 X3 hx4 z4 hr
  have g_2 := HR.out.c2
  have hz : (fltE (some x) == 0) = false := beq_false_of_ne (HR.out.nz x rfl)
  have hz2 : (fltE (some x) != 0) = true := by simpa [fltE] using HR.out.nz x rfl
  generalize fltE (some x) = z at *
  go_wp2_with fail
  refine bodyPost_ret (v := .agg #[.int .i64 0, .int .i64 0, .int .i64 0, .int .i64 0]) (by simp [results, Tryz.results44, go_sem, World.cell?_alloc_past, c0_0f, c0_1f, c0_2f, c0_3f, c0_0, c0_1, c0_2, c0_3, c1_3f, c1_3, ne_c0_c1, ne_c1_c0, rc0, rc0a, rc0b, rc0c, rc0n, rc1, rc1a, rc1b, rc1c, rc1n]; try rfl) rfl ⟨rfl, ?_, (by repeat (first | with_reducible exact X4.out | with_reducible refine But.drew ?_ | with_reducible refine But.drewN ?_ _ | with_reducible refine But.alloc ?_ _ | with_reducible refine But.setG ?_ _ | with_reducible refine But.setNew ?_ (by first | omega | (simp; done) | (simp; omega)) _))⟩
  have hr := HR.out
  repeat (first | with_reducible exact hr | with_reducible refine RRd.set ?_ (by omega) _ | (with_reducible refine RRd.ext ?_ (Ext.alloc (Ext.refl _) _)))
set_option maxRecDepth 100000 in
set_option maxHeartbeats 4000000 in
theorem rTake12_ok (g k k1 k2 k3 k4 : Nat) (L : List Nat) (f f1 f2 f3 : Option (Int × Int)) (at_ V S Q F : Int)  (q0 : 0 ≤ Q) (q1 : Q ≤ 32)
    (CA : Hid (∀ w, RRd w g L k f → Calls Tryz.prog 43 #[.pointer (some ⟨g, 0, none⟩)] w fun r w' => r = .returned (.int .i64 at_) ∧ w = w'))
    (C1 : Hid (∀ w, RRd w g L k f → Calls Tryz.prog 42 #[.pointer (some ⟨g, 0, none⟩), .int .i64 0, .int .i64 31] w fun r w' => r = .returned (.int .i64 V) ∧ RRd w' g L k1 f1 ∧ But (· = g) w w'))
    (C2 : Hid (∀ w, RRd w g L k1 f1 → Calls Tryz.prog 42 #[.pointer (some ⟨g, 0, none⟩), .int .i64 1, .int .i64 4294967296] w fun r w' => r = .returned (.int .i64 S) ∧ RRd w' g L k2 f2 ∧ But (· = g) w w'))
    (C3 : Hid (∀ w, RRd w g L k2 f2 → Calls Tryz.prog 42 #[.pointer (some ⟨g, 0, none⟩), .int .i64 0, .int .i64 32] w fun r w' => r = .returned (.int .i64 Q) ∧ RRd w' g L k3 f3 ∧ But (· = g) w w'))
    (C4 : Hid (∀ w, RRd w g L k3 f3 → Calls Tryz.prog 42 #[.pointer (some ⟨g, 0, none⟩), .int .i64 0, .int .i64 4294967296] w fun r w' => r = .returned (.int .i64 F) ∧ RRd w' g L k4 none ∧ But (· = g) w w'))
    (CK : Hid (∀ w, Calls Tryz.prog 65 #[.agg #[.int .i64 V, .int .i64 S, .int .i64 (Q - 1), .int .i64 F]] w fun r w' => r = .returned (.int .i64 0) ∧ Ext w w'))
    (w : World) (h : RRd w g L k f) :
    Calls Tryz.prog 44 #[.pointer (some ⟨g, 0, none⟩)] w fun r w' => r = .returned (.agg #[.int .i64 V, .int .i64 S, .int .i64 (Q - 1), .int .i64 F]) ∧ RRd w' g L k4 none ∧ But (· = g) w w' := by
  have hg := h.lt
  have HR := Lib.hid h
  clear h
  go_enter Tryz.func44, Tryz.ntmps44
  go_wp2_with fail
  (with_reducible refine (CA.out _ (by repeat (first | with_reducible exact HR.out | with_reducible refine RRd.set ?_ (by omega) _ | with_reducible refine RRd.ext ?_ (Ext.alloc (Ext.refl _) _) | with_reducible refine RRd.ext ?_ (Ext.drew (Ext.refl _)) | with_reducible refine RRd.drewN ?_ _))).mono ?_)
  rintro e w_1 ⟨rfl, rfl⟩
  go_wp2_with fail
  (with_reducible refine (C1.out _ (by repeat (first | with_reducible exact HR.out | with_reducible refine RRd.set ?_ (by omega) _ | with_reducible refine RRd.ext ?_ (Ext.alloc (Ext.refl _) _) | with_reducible refine RRd.ext ?_ (Ext.drew (Ext.refl _)) | with_reducible refine RRd.drewN ?_ _))).mono ?_)
  rintro e w1 ⟨rfl, hr, hx1⟩
  have hsz1 := hx1.size
  try simp at hsz1
  have c0_0f : w1.frozen? ⟨w.heap.size, 0, none⟩ = false := hx1.froz (by show ¬ _ = _; first | assumption | omega) (v := .int .i64 0) (by first | fail | (simp [go_sem, World.cell?_alloc_past]; done)) (by first | fail | (simp [go_sem, World.cell?_alloc_past]; done))
  have c0_1f : w1.frozen? ⟨w.heap.size, 1, none⟩ = false := hx1.froz (by show ¬ _ = _; first | assumption | omega) (v := .int .i64 0) (by first | fail | (simp [go_sem, World.cell?_alloc_past]; done)) (by first | fail | (simp [go_sem, World.cell?_alloc_past]; done))
  have c0_2f : w1.frozen? ⟨w.heap.size, 2, none⟩ = false := hx1.froz (by show ¬ _ = _; first | assumption | omega) (v := .int .i64 0) (by first | fail | (simp [go_sem, World.cell?_alloc_past]; done)) (by first | fail | (simp [go_sem, World.cell?_alloc_past]; done))
  have c0_3f : w1.frozen? ⟨w.heap.size, 3, none⟩ = false := hx1.froz (by show ¬ _ = _; first | assumption | omega) (v := .int .i64 0) (by first | fail | (simp [go_sem, World.cell?_alloc_past]; done)) (by first | fail | (simp [go_sem, World.cell?_alloc_past]; done))
  have c0_0 : w1.cell? ⟨w.heap.size, 0, none⟩ = some (.int .i64 0) := hx1.has (by show ¬ _ = _; first | assumption | omega) (by first | fail | (simp [go_sem, World.cell?_alloc_past]; done))
  have c0_1 : w1.cell? ⟨w.heap.size, 1, none⟩ = some (.int .i64 0) := hx1.has (by show ¬ _ = _; first | assumption | omega) (by first | fail | (simp [go_sem, World.cell?_alloc_past]; done))
  have c0_2 : w1.cell? ⟨w.heap.size, 2, none⟩ = some (.int .i64 0) := hx1.has (by show ¬ _ = _; first | assumption | omega) (by first | fail | (simp [go_sem, World.cell?_alloc_past]; done))
  have c0_3 : w1.cell? ⟨w.heap.size, 3, none⟩ = some (.int .i64 0) := hx1.has (by show ¬ _ = _; first | assumption | omega) (by first | fail | (simp [go_sem, World.cell?_alloc_past]; done))
  have c1_0f : w1.frozen? ⟨w.heap.size + 1, 0, none⟩ = false := hx1.froz (by show ¬ _ = _; first | assumption | omega) (v := .int .i64 0) (by first | fail | (simp [go_sem, World.cell?_alloc_past]; done)) (by first | fail | (simp [go_sem, World.cell?_alloc_past]; done))
  have c1_1f : w1.frozen? ⟨w.heap.size + 1, 1, none⟩ = false := hx1.froz (by show ¬ _ = _; first | assumption | omega) (v := .int .i64 0) (by first | fail | (simp [go_sem, World.cell?_alloc_past]; done)) (by first | fail | (simp [go_sem, World.cell?_alloc_past]; done))
  have c1_2f : w1.frozen? ⟨w.heap.size + 1, 2, none⟩ = false := hx1.froz (by show ¬ _ = _; first | assumption | omega) (v := .int .i64 0) (by first | fail | (simp [go_sem, World.cell?_alloc_past]; done)) (by first | fail | (simp [go_sem, World.cell?_alloc_past]; done))
  have c1_3f : w1.frozen? ⟨w.heap.size + 1, 3, none⟩ = false := hx1.froz (by show ¬ _ = _; first | assumption | omega) (v := .int .i64 0) (by first | fail | (simp [go_sem, World.cell?_alloc_past]; done)) (by first | fail | (simp [go_sem, World.cell?_alloc_past]; done))
  have c1_0 : w1.cell? ⟨w.heap.size + 1, 0, none⟩ = some (.int .i64 0) := hx1.has (by show ¬ _ = _; first | assumption | omega) (by first | fail | (simp [go_sem, World.cell?_alloc_past]; done))
  have c1_1 : w1.cell? ⟨w.heap.size + 1, 1, none⟩ = some (.int .i64 0) := hx1.has (by show ¬ _ = _; first | assumption | omega) (by first | fail | (simp [go_sem, World.cell?_alloc_past]; done))
  have c1_2 : w1.cell? ⟨w.heap.size + 1, 2, none⟩ = some (.int .i64 0) := hx1.has (by show ¬ _ = _; first | assumption | omega) (by first | fail | (simp [go_sem, World.cell?_alloc_past]; done))
  have c1_3 : w1.cell? ⟨w.heap.size + 1, 3, none⟩ = some (.int .i64 0) := hx1.has (by show ¬ _ = _; first | assumption | omega) (by first | fail | (simp [go_sem, World.cell?_alloc_past]; done))
  have z1 := hx1.size
  try simp at z1
  have lt_c0_c1 : w.heap.size < w.heap.size + 1 := by omega
  have ne_c0_c1 : ¬ w.heap.size = w.heap.size + 1 := by omega
  have ne_c1_c0 : ¬ w.heap.size + 1 = w.heap.size := by omega
  have rc0 : w.heap.size < w1.heap.size := by omega
  have rc0a : w.heap.size < w1.heap.size + 1 := by omega
  have rc0b : w.heap.size < w1.heap.size + 1 + 1 := by omega
  have rc0c : w.heap.size < w1.heap.size + 1 + 1 + 1 := by omega
  have rc0n : ¬ w.heap.size = w1.heap.size := by omega
  have rc1 : w.heap.size + 1 < w1.heap.size := by omega
  have rc1a : w.heap.size + 1 < w1.heap.size + 1 := by omega
  have rc1b : w.heap.size + 1 < w1.heap.size + 1 + 1 := by omega
  have rc1c : w.heap.size + 1 < w1.heap.size + 1 + 1 + 1 := by omega
  have rc1n : ¬ w.heap.size + 1 = w1.heap.size := by omega
  have X1 : Hid (But (· = g) w w1) := Lib.hid (But.trans (by repeat (first | with_reducible exact But.refl _ w | with_reducible refine But.drew ?_ | with_reducible refine But.drewN ?_ _ | with_reducible refine But.alloc ?_ _ | with_reducible refine But.setG ?_ _ | with_reducible refine But.setNew ?_ (by first | omega | (simp; done) | (simp; omega)) _)) hx1)
  clear HR
  have HR := Lib.hid hr
  clear hsz1 hx1 z1 hr
  go_wp2_with fail
  (with_reducible refine (C2.out _ (by repeat (first | with_reducible exact HR.out | with_reducible refine RRd.set ?_ (by omega) _ | with_reducible refine RRd.ext ?_ (Ext.alloc (Ext.refl _) _) | with_reducible refine RRd.ext ?_ (Ext.drew (Ext.refl _)) | with_reducible refine RRd.drewN ?_ _))).mono ?_)
  rintro e w2 ⟨rfl, hr, hx2⟩
  have hsz2 := hx2.size
  try simp at hsz2
  replace c0_0f : w2.frozen? ⟨w.heap.size, 0, none⟩ = false := hx2.froz (by show ¬ _ = _; first | assumption | omega) (v := .int .i64 0) (by first | exact c0_0 | (simp [go_sem, World.cell?_alloc_past, c0_0f, c0_1f, c0_2f, c0_3f, c0_0, c0_1, c0_2, c0_3, c1_0f, c1_1f, c1_2f, c1_3f, c1_0, c1_1, c1_2, c1_3, ne_c0_c1, ne_c1_c0, rc0, rc0a, rc0b, rc0c, rc0n, rc1, rc1a, rc1b, rc1c, rc1n]; done)) (by first | exact c0_0f | (simp [go_sem, World.cell?_alloc_past, c0_0f, c0_1f, c0_2f, c0_3f, c0_0, c0_1, c0_2, c0_3, c1_0f, c1_1f, c1_2f, c1_3f, c1_0, c1_1, c1_2, c1_3, ne_c0_c1, ne_c1_c0, rc0, rc0a, rc0b, rc0c, rc0n, rc1, rc1a, rc1b, rc1c, rc1n]; done))
  replace c0_1f : w2.frozen? ⟨w.heap.size, 1, none⟩ = false := hx2.froz (by show ¬ _ = _; first | assumption | omega) (v := .int .i64 0) (by first | exact c0_1 | (simp [go_sem, World.cell?_alloc_past, c0_0f, c0_1f, c0_2f, c0_3f, c0_0, c0_1, c0_2, c0_3, c1_0f, c1_1f, c1_2f, c1_3f, c1_0, c1_1, c1_2, c1_3, ne_c0_c1, ne_c1_c0, rc0, rc0a, rc0b, rc0c, rc0n, rc1, rc1a, rc1b, rc1c, rc1n]; done)) (by first | exact c0_1f | (simp [go_sem, World.cell?_alloc_past, c0_0f, c0_1f, c0_2f, c0_3f, c0_0, c0_1, c0_2, c0_3, c1_0f, c1_1f, c1_2f, c1_3f, c1_0, c1_1, c1_2, c1_3, ne_c0_c1, ne_c1_c0, rc0, rc0a, rc0b, rc0c, rc0n, rc1, rc1a, rc1b, rc1c, rc1n]; done))
  replace c0_2f : w2.frozen? ⟨w.heap.size, 2, none⟩ = false := hx2.froz (by show ¬ _ = _; first | assumption | omega) (v := .int .i64 0) (by first | exact c0_2 | (simp [go_sem, World.cell?_alloc_past, c0_0f, c0_1f, c0_2f, c0_3f, c0_0, c0_1, c0_2, c0_3, c1_0f, c1_1f, c1_2f, c1_3f, c1_0, c1_1, c1_2, c1_3, ne_c0_c1, ne_c1_c0, rc0, rc0a, rc0b, rc0c, rc0n, rc1, rc1a, rc1b, rc1c, rc1n]; done)) (by first | exact c0_2f | (simp [go_sem, World.cell?_alloc_past, c0_0f, c0_1f, c0_2f, c0_3f, c0_0, c0_1, c0_2, c0_3, c1_0f, c1_1f, c1_2f, c1_3f, c1_0, c1_1, c1_2, c1_3, ne_c0_c1, ne_c1_c0, rc0, rc0a, rc0b, rc0c, rc0n, rc1, rc1a, rc1b, rc1c, rc1n]; done))
  replace c0_3f : w2.frozen? ⟨w.heap.size, 3, none⟩ = false := hx2.froz (by show ¬ _ = _; first | assumption | omega) (v := .int .i64 0) (by first | exact c0_3 | (simp [go_sem, World.cell?_alloc_past, c0_0f, c0_1f, c0_2f, c0_3f, c0_0, c0_1, c0_2, c0_3, c1_0f, c1_1f, c1_2f, c1_3f, c1_0, c1_1, c1_2, c1_3, ne_c0_c1, ne_c1_c0, rc0, rc0a, rc0b, rc0c, rc0n, rc1, rc1a, rc1b, rc1c, rc1n]; done)) (by first | exact c0_3f | (simp [go_sem, World.cell?_alloc_past, c0_0f, c0_1f, c0_2f, c0_3f, c0_0, c0_1, c0_2, c0_3, c1_0f, c1_1f, c1_2f, c1_3f, c1_0, c1_1, c1_2, c1_3, ne_c0_c1, ne_c1_c0, rc0, rc0a, rc0b, rc0c, rc0n, rc1, rc1a, rc1b, rc1c, rc1n]; done))
  replace c0_0 : w2.cell? ⟨w.heap.size, 0, none⟩ = some (.int .i64 0) := hx2.has (by show ¬ _ = _; first | assumption | omega) (by first | exact c0_0 | (simp [go_sem, World.cell?_alloc_past, c0_0f, c0_1f, c0_2f, c0_3f, c0_0, c0_1, c0_2, c0_3, c1_0f, c1_1f, c1_2f, c1_3f, c1_0, c1_1, c1_2, c1_3, ne_c0_c1, ne_c1_c0, rc0, rc0a, rc0b, rc0c, rc0n, rc1, rc1a, rc1b, rc1c, rc1n]; done))
  replace c0_1 : w2.cell? ⟨w.heap.size, 1, none⟩ = some (.int .i64 0) := hx2.has (by show ¬ _ = _; first | assumption | omega) (by first | exact c0_1 | (simp [go_sem, World.cell?_alloc_past, c0_0f, c0_1f, c0_2f, c0_3f, c0_0, c0_1, c0_2, c0_3, c1_0f, c1_1f, c1_2f, c1_3f, c1_0, c1_1, c1_2, c1_3, ne_c0_c1, ne_c1_c0, rc0, rc0a, rc0b, rc0c, rc0n, rc1, rc1a, rc1b, rc1c, rc1n]; done))
  replace c0_2 : w2.cell? ⟨w.heap.size, 2, none⟩ = some (.int .i64 0) := hx2.has (by show ¬ _ = _; first | assumption | omega) (by first | exact c0_2 | (simp [go_sem, World.cell?_alloc_past, c0_0f, c0_1f, c0_2f, c0_3f, c0_0, c0_1, c0_2, c0_3, c1_0f, c1_1f, c1_2f, c1_3f, c1_0, c1_1, c1_2, c1_3, ne_c0_c1, ne_c1_c0, rc0, rc0a, rc0b, rc0c, rc0n, rc1, rc1a, rc1b, rc1c, rc1n]; done))
  replace c0_3 : w2.cell? ⟨w.heap.size, 3, none⟩ = some (.int .i64 0) := hx2.has (by show ¬ _ = _; first | assumption | omega) (by first | exact c0_3 | (simp [go_sem, World.cell?_alloc_past, c0_0f, c0_1f, c0_2f, c0_3f, c0_0, c0_1, c0_2, c0_3, c1_0f, c1_1f, c1_2f, c1_3f, c1_0, c1_1, c1_2, c1_3, ne_c0_c1, ne_c1_c0, rc0, rc0a, rc0b, rc0c, rc0n, rc1, rc1a, rc1b, rc1c, rc1n]; done))
  replace c1_1f : w2.frozen? ⟨w.heap.size + 1, 1, none⟩ = false := hx2.froz (by show ¬ _ = _; first | assumption | omega) (v := .int .i64 0) (by first | exact c1_1 | (simp [go_sem, World.cell?_alloc_past, c0_0f, c0_1f, c0_2f, c0_3f, c0_0, c0_1, c0_2, c0_3, c1_0f, c1_1f, c1_2f, c1_3f, c1_0, c1_1, c1_2, c1_3, ne_c0_c1, ne_c1_c0, rc0, rc0a, rc0b, rc0c, rc0n, rc1, rc1a, rc1b, rc1c, rc1n]; done)) (by first | exact c1_1f | (simp [go_sem, World.cell?_alloc_past, c0_0f, c0_1f, c0_2f, c0_3f, c0_0, c0_1, c0_2, c0_3, c1_0f, c1_1f, c1_2f, c1_3f, c1_0, c1_1, c1_2, c1_3, ne_c0_c1, ne_c1_c0, rc0, rc0a, rc0b, rc0c, rc0n, rc1, rc1a, rc1b, rc1c, rc1n]; done))
  replace c1_2f : w2.frozen? ⟨w.heap.size + 1, 2, none⟩ = false := hx2.froz (by show ¬ _ = _; first | assumption | omega) (v := .int .i64 0) (by first | exact c1_2 | (simp [go_sem, World.cell?_alloc_past, c0_0f, c0_1f, c0_2f, c0_3f, c0_0, c0_1, c0_2, c0_3, c1_0f, c1_1f, c1_2f, c1_3f, c1_0, c1_1, c1_2, c1_3, ne_c0_c1, ne_c1_c0, rc0, rc0a, rc0b, rc0c, rc0n, rc1, rc1a, rc1b, rc1c, rc1n]; done)) (by first | exact c1_2f | (simp [go_sem, World.cell?_alloc_past, c0_0f, c0_1f, c0_2f, c0_3f, c0_0, c0_1, c0_2, c0_3, c1_0f, c1_1f, c1_2f, c1_3f, c1_0, c1_1, c1_2, c1_3, ne_c0_c1, ne_c1_c0, rc0, rc0a, rc0b, rc0c, rc0n, rc1, rc1a, rc1b, rc1c, rc1n]; done))
  replace c1_3f : w2.frozen? ⟨w.heap.size + 1, 3, none⟩ = false := hx2.froz (by show ¬ _ = _; first | assumption | omega) (v := .int .i64 0) (by first | exact c1_3 | (simp [go_sem, World.cell?_alloc_past, c0_0f, c0_1f, c0_2f, c0_3f, c0_0, c0_1, c0_2, c0_3, c1_0f, c1_1f, c1_2f, c1_3f, c1_0, c1_1, c1_2, c1_3, ne_c0_c1, ne_c1_c0, rc0, rc0a, rc0b, rc0c, rc0n, rc1, rc1a, rc1b, rc1c, rc1n]; done)) (by first | exact c1_3f | (simp [go_sem, World.cell?_alloc_past, c0_0f, c0_1f, c0_2f, c0_3f, c0_0, c0_1, c0_2, c0_3, c1_0f, c1_1f, c1_2f, c1_3f, c1_0, c1_1, c1_2, c1_3, ne_c0_c1, ne_c1_c0, rc0, rc0a, rc0b, rc0c, rc0n, rc1, rc1a, rc1b, rc1c, rc1n]; done))
  replace c1_0 : w2.cell? ⟨w.heap.size + 1, 0, none⟩ = some (.int .i64 V) := hx2.has (by show ¬ _ = _; first | assumption | omega) (by first | exact c1_0 | (simp [go_sem, World.cell?_alloc_past, c0_0f, c0_1f, c0_2f, c0_3f, c0_0, c0_1, c0_2, c0_3, c1_0f, c1_1f, c1_2f, c1_3f, c1_0, c1_1, c1_2, c1_3, ne_c0_c1, ne_c1_c0, rc0, rc0a, rc0b, rc0c, rc0n, rc1, rc1a, rc1b, rc1c, rc1n]; done))
  replace c1_1 : w2.cell? ⟨w.heap.size + 1, 1, none⟩ = some (.int .i64 0) := hx2.has (by show ¬ _ = _; first | assumption | omega) (by first | exact c1_1 | (simp [go_sem, World.cell?_alloc_past, c0_0f, c0_1f, c0_2f, c0_3f, c0_0, c0_1, c0_2, c0_3, c1_0f, c1_1f, c1_2f, c1_3f, c1_0, c1_1, c1_2, c1_3, ne_c0_c1, ne_c1_c0, rc0, rc0a, rc0b, rc0c, rc0n, rc1, rc1a, rc1b, rc1c, rc1n]; done))
  replace c1_2 : w2.cell? ⟨w.heap.size + 1, 2, none⟩ = some (.int .i64 0) := hx2.has (by show ¬ _ = _; first | assumption | omega) (by first | exact c1_2 | (simp [go_sem, World.cell?_alloc_past, c0_0f, c0_1f, c0_2f, c0_3f, c0_0, c0_1, c0_2, c0_3, c1_0f, c1_1f, c1_2f, c1_3f, c1_0, c1_1, c1_2, c1_3, ne_c0_c1, ne_c1_c0, rc0, rc0a, rc0b, rc0c, rc0n, rc1, rc1a, rc1b, rc1c, rc1n]; done))
  replace c1_3 : w2.cell? ⟨w.heap.size + 1, 3, none⟩ = some (.int .i64 0) := hx2.has (by show ¬ _ = _; first | assumption | omega) (by first | exact c1_3 | (simp [go_sem, World.cell?_alloc_past, c0_0f, c0_1f, c0_2f, c0_3f, c0_0, c0_1, c0_2, c0_3, c1_0f, c1_1f, c1_2f, c1_3f, c1_0, c1_1, c1_2, c1_3, ne_c0_c1, ne_c1_c0, rc0, rc0a, rc0b, rc0c, rc0n, rc1, rc1a, rc1b, rc1c, rc1n]; done))
  have z2 := hx2.size
  try simp at z2
  replace rc0 : w.heap.size < w2.heap.size := by omega
  replace rc0a : w.heap.size < w2.heap.size + 1 := by omega
  replace rc0b : w.heap.size < w2.heap.size + 1 + 1 := by omega
  replace rc0c : w.heap.size < w2.heap.size + 1 + 1 + 1 := by omega
  replace rc0n : ¬ w.heap.size = w2.heap.size := by omega
  replace rc1 : w.heap.size + 1 < w2.heap.size := by omega
  replace rc1a : w.heap.size + 1 < w2.heap.size + 1 := by omega
  replace rc1b : w.heap.size + 1 < w2.heap.size + 1 + 1 := by omega
  replace rc1c : w.heap.size + 1 < w2.heap.size + 1 + 1 + 1 := by omega
  replace rc1n : ¬ w.heap.size + 1 = w2.heap.size := by omega
  have X2 : Hid (But (· = g) w w2) := Lib.hid (But.trans (by repeat (first | with_reducible exact X1.out | with_reducible refine But.drew ?_ | with_reducible refine But.drewN ?_ _ | with_reducible refine But.alloc ?_ _ | with_reducible refine But.setG ?_ _ | with_reducible refine But.setNew ?_ (by first | omega | (simp; done) | (simp; omega)) _)) hx2)
  clear HR
  have HR := Lib.hid hr
  clear c1_0f hsz2 X1 hx2 z2 hr
  go_wp2_with fail
  (with_reducible refine (C3.out _ (by repeat (first | with_reducible exact HR.out | with_reducible refine RRd.set ?_ (by omega) _ | with_reducible refine RRd.ext ?_ (Ext.alloc (Ext.refl _) _) | with_reducible refine RRd.ext ?_ (Ext.drew (Ext.refl _)) | with_reducible refine RRd.drewN ?_ _))).mono ?_)
  rintro e w3 ⟨rfl, hr, hx3⟩
  have hsz3 := hx3.size
  try simp at hsz3
  replace c0_0f : w3.frozen? ⟨w.heap.size, 0, none⟩ = false := hx3.froz (by show ¬ _ = _; first | assumption | omega) (v := .int .i64 0) (by first | exact c0_0 | (simp [go_sem, World.cell?_alloc_past, c0_0f, c0_1f, c0_2f, c0_3f, c0_0, c0_1, c0_2, c0_3, c1_1f, c1_2f, c1_3f, c1_0, c1_1, c1_2, c1_3, ne_c0_c1, ne_c1_c0, rc0, rc0a, rc0b, rc0c, rc0n, rc1, rc1a, rc1b, rc1c, rc1n]; done)) (by first | exact c0_0f | (simp [go_sem, World.cell?_alloc_past, c0_0f, c0_1f, c0_2f, c0_3f, c0_0, c0_1, c0_2, c0_3, c1_1f, c1_2f, c1_3f, c1_0, c1_1, c1_2, c1_3, ne_c0_c1, ne_c1_c0, rc0, rc0a, rc0b, rc0c, rc0n, rc1, rc1a, rc1b, rc1c, rc1n]; done))
  replace c0_1f : w3.frozen? ⟨w.heap.size, 1, none⟩ = false := hx3.froz (by show ¬ _ = _; first | assumption | omega) (v := .int .i64 0) (by first | exact c0_1 | (simp [go_sem, World.cell?_alloc_past, c0_0f, c0_1f, c0_2f, c0_3f, c0_0, c0_1, c0_2, c0_3, c1_1f, c1_2f, c1_3f, c1_0, c1_1, c1_2, c1_3, ne_c0_c1, ne_c1_c0, rc0, rc0a, rc0b, rc0c, rc0n, rc1, rc1a, rc1b, rc1c, rc1n]; done)) (by first | exact c0_1f | (simp [go_sem, World.cell?_alloc_past, c0_0f, c0_1f, c0_2f, c0_3f, c0_0, c0_1, c0_2, c0_3, c1_1f, c1_2f, c1_3f, c1_0, c1_1, c1_2, c1_3, ne_c0_c1, ne_c1_c0, rc0, rc0a, rc0b, rc0c, rc0n, rc1, rc1a, rc1b, rc1c, rc1n]; done))
  replace c0_2f : w3.frozen? ⟨w.heap.size, 2, none⟩ = false := hx3.froz (by show ¬ _ = _; first | assumption | omega) (v := .int .i64 0) (by first | exact c0_2 | (simp [go_sem, World.cell?_alloc_past, c0_0f, c0_1f, c0_2f, c0_3f, c0_0, c0_1, c0_2, c0_3, c1_1f, c1_2f, c1_3f, c1_0, c1_1, c1_2, c1_3, ne_c0_c1, ne_c1_c0, rc0, rc0a, rc0b, rc0c, rc0n, rc1, rc1a, rc1b, rc1c, rc1n]; done)) (by first | exact c0_2f | (simp [go_sem, World.cell?_alloc_past, c0_0f, c0_1f, c0_2f, c0_3f, c0_0, c0_1, c0_2, c0_3, c1_1f, c1_2f, c1_3f, c1_0, c1_1, c1_2, c1_3, ne_c0_c1, ne_c1_c0, rc0, rc0a, rc0b, rc0c, rc0n, rc1, rc1a, rc1b, rc1c, rc1n]; done))
  replace c0_3f : w3.frozen? ⟨w.heap.size, 3, none⟩ = false := hx3.froz (by show ¬ _ = _; first | assumption | omega) (v := .int .i64 0) (by first | exact c0_3 | (simp [go_sem, World.cell?_alloc_past, c0_0f, c0_1f, c0_2f, c0_3f, c0_0, c0_1, c0_2, c0_3, c1_1f, c1_2f, c1_3f, c1_0, c1_1, c1_2, c1_3, ne_c0_c1, ne_c1_c0, rc0, rc0a, rc0b, rc0c, rc0n, rc1, rc1a, rc1b, rc1c, rc1n]; done)) (by first | exact c0_3f | (simp [go_sem, World.cell?_alloc_past, c0_0f, c0_1f, c0_2f, c0_3f, c0_0, c0_1, c0_2, c0_3, c1_1f, c1_2f, c1_3f, c1_0, c1_1, c1_2, c1_3, ne_c0_c1, ne_c1_c0, rc0, rc0a, rc0b, rc0c, rc0n, rc1, rc1a, rc1b, rc1c, rc1n]; done))
  replace c0_0 : w3.cell? ⟨w.heap.size, 0, none⟩ = some (.int .i64 0) := hx3.has (by show ¬ _ = _; first | assumption | omega) (by first | exact c0_0 | (simp [go_sem, World.cell?_alloc_past, c0_0f, c0_1f, c0_2f, c0_3f, c0_0, c0_1, c0_2, c0_3, c1_1f, c1_2f, c1_3f, c1_0, c1_1, c1_2, c1_3, ne_c0_c1, ne_c1_c0, rc0, rc0a, rc0b, rc0c, rc0n, rc1, rc1a, rc1b, rc1c, rc1n]; done))
  replace c0_1 : w3.cell? ⟨w.heap.size, 1, none⟩ = some (.int .i64 0) := hx3.has (by show ¬ _ = _; first | assumption | omega) (by first | exact c0_1 | (simp [go_sem, World.cell?_alloc_past, c0_0f, c0_1f, c0_2f, c0_3f, c0_0, c0_1, c0_2, c0_3, c1_1f, c1_2f, c1_3f, c1_0, c1_1, c1_2, c1_3, ne_c0_c1, ne_c1_c0, rc0, rc0a, rc0b, rc0c, rc0n, rc1, rc1a, rc1b, rc1c, rc1n]; done))
  replace c0_2 : w3.cell? ⟨w.heap.size, 2, none⟩ = some (.int .i64 0) := hx3.has (by show ¬ _ = _; first | assumption | omega) (by first | exact c0_2 | (simp [go_sem, World.cell?_alloc_past, c0_0f, c0_1f, c0_2f, c0_3f, c0_0, c0_1, c0_2, c0_3, c1_1f, c1_2f, c1_3f, c1_0, c1_1, c1_2, c1_3, ne_c0_c1, ne_c1_c0, rc0, rc0a, rc0b, rc0c, rc0n, rc1, rc1a, rc1b, rc1c, rc1n]; done))
  replace c0_3 : w3.cell? ⟨w.heap.size, 3, none⟩ = some (.int .i64 0) := hx3.has (by show ¬ _ = _; first | assumption | omega) (by first | exact c0_3 | (simp [go_sem, World.cell?_alloc_past, c0_0f, c0_1f, c0_2f, c0_3f, c0_0, c0_1, c0_2, c0_3, c1_1f, c1_2f, c1_3f, c1_0, c1_1, c1_2, c1_3, ne_c0_c1, ne_c1_c0, rc0, rc0a, rc0b, rc0c, rc0n, rc1, rc1a, rc1b, rc1c, rc1n]; done))
  replace c1_2f : w3.frozen? ⟨w.heap.size + 1, 2, none⟩ = false := hx3.froz (by show ¬ _ = _; first | assumption | omega) (v := .int .i64 0) (by first | exact c1_2 | (simp [go_sem, World.cell?_alloc_past, c0_0f, c0_1f, c0_2f, c0_3f, c0_0, c0_1, c0_2, c0_3, c1_1f, c1_2f, c1_3f, c1_0, c1_1, c1_2, c1_3, ne_c0_c1, ne_c1_c0, rc0, rc0a, rc0b, rc0c, rc0n, rc1, rc1a, rc1b, rc1c, rc1n]; done)) (by first | exact c1_2f | (simp [go_sem, World.cell?_alloc_past, c0_0f, c0_1f, c0_2f, c0_3f, c0_0, c0_1, c0_2, c0_3, c1_1f, c1_2f, c1_3f, c1_0, c1_1, c1_2, c1_3, ne_c0_c1, ne_c1_c0, rc0, rc0a, rc0b, rc0c, rc0n, rc1, rc1a, rc1b, rc1c, rc1n]; done))
  replace c1_3f : w3.frozen? ⟨w.heap.size + 1, 3, none⟩ = false := hx3.froz (by show ¬ _ = _; first | assumption | omega) (v := .int .i64 0) (by first | exact c1_3 | (simp [go_sem, World.cell?_alloc_past, c0_0f, c0_1f, c0_2f, c0_3f, c0_0, c0_1, c0_2, c0_3, c1_1f, c1_2f, c1_3f, c1_0, c1_1, c1_2, c1_3, ne_c0_c1, ne_c1_c0, rc0, rc0a, rc0b, rc0c, rc0n, rc1, rc1a, rc1b, rc1c, rc1n]; done)) (by first | exact c1_3f | (simp [go_sem, World.cell?_alloc_past, c0_0f, c0_1f, c0_2f, c0_3f, c0_0, c0_1, c0_2, c0_3, c1_1f, c1_2f, c1_3f, c1_0, c1_1, c1_2, c1_3, ne_c0_c1, ne_c1_c0, rc0, rc0a, rc0b, rc0c, rc0n, rc1, rc1a, rc1b, rc1c, rc1n]; done))
  replace c1_0 : w3.cell? ⟨w.heap.size + 1, 0, none⟩ = some (.int .i64 V) := hx3.has (by show ¬ _ = _; first | assumption | omega) (by first | exact c1_0 | (simp [go_sem, World.cell?_alloc_past, c0_0f, c0_1f, c0_2f, c0_3f, c0_0, c0_1, c0_2, c0_3, c1_1f, c1_2f, c1_3f, c1_0, c1_1, c1_2, c1_3, ne_c0_c1, ne_c1_c0, rc0, rc0a, rc0b, rc0c, rc0n, rc1, rc1a, rc1b, rc1c, rc1n]; done))
  replace c1_1 : w3.cell? ⟨w.heap.size + 1, 1, none⟩ = some (.int .i64 S) := hx3.has (by show ¬ _ = _; first | assumption | omega) (by first | exact c1_1 | (simp [go_sem, World.cell?_alloc_past, c0_0f, c0_1f, c0_2f, c0_3f, c0_0, c0_1, c0_2, c0_3, c1_1f, c1_2f, c1_3f, c1_0, c1_1, c1_2, c1_3, ne_c0_c1, ne_c1_c0, rc0, rc0a, rc0b, rc0c, rc0n, rc1, rc1a, rc1b, rc1c, rc1n]; done))
  replace c1_2 : w3.cell? ⟨w.heap.size + 1, 2, none⟩ = some (.int .i64 0) := hx3.has (by show ¬ _ = _; first | assumption | omega) (by first | exact c1_2 | (simp [go_sem, World.cell?_alloc_past, c0_0f, c0_1f, c0_2f, c0_3f, c0_0, c0_1, c0_2, c0_3, c1_1f, c1_2f, c1_3f, c1_0, c1_1, c1_2, c1_3, ne_c0_c1, ne_c1_c0, rc0, rc0a, rc0b, rc0c, rc0n, rc1, rc1a, rc1b, rc1c, rc1n]; done))
  replace c1_3 : w3.cell? ⟨w.heap.size + 1, 3, none⟩ = some (.int .i64 0) := hx3.has (by show ¬ _ = _; first | assumption | omega) (by first | exact c1_3 | (simp [go_sem, World.cell?_alloc_past, c0_0f, c0_1f, c0_2f, c0_3f, c0_0, c0_1, c0_2, c0_3, c1_1f, c1_2f, c1_3f, c1_0, c1_1, c1_2, c1_3, ne_c0_c1, ne_c1_c0, rc0, rc0a, rc0b, rc0c, rc0n, rc1, rc1a, rc1b, rc1c, rc1n]; done))
  have z3 := hx3.size
  try simp at z3
  replace rc0 : w.heap.size < w3.heap.size := by omega
  replace rc0a : w.heap.size < w3.heap.size + 1 := by omega
  replace rc0b : w.heap.size < w3.heap.size + 1 + 1 := by omega
  replace rc0c : w.heap.size < w3.heap.size + 1 + 1 + 1 := by omega
  replace rc0n : ¬ w.heap.size = w3.heap.size := by omega
  replace rc1 : w.heap.size + 1 < w3.heap.size := by omega
  replace rc1a : w.heap.size + 1 < w3.heap.size + 1 := by omega
  replace rc1b : w.heap.size + 1 < w3.heap.size + 1 + 1 := by omega
  replace rc1c : w.heap.size + 1 < w3.heap.size + 1 + 1 + 1 := by omega
  replace rc1n : ¬ w.heap.size + 1 = w3.heap.size := by omega
  have X3 : Hid (But (· = g) w w3) := Lib.hid (But.trans (by repeat (first | with_reducible exact X2.out | with_reducible refine But.drew ?_ | with_reducible refine But.drewN ?_ _ | with_reducible refine But.alloc ?_ _ | with_reducible refine But.setG ?_ _ | with_reducible refine But.setNew ?_ (by first | omega | (simp; done) | (simp; omega)) _)) hx3)
  clear HR
  have HR := Lib.hid hr
  clear c1_1f hsz3 X2 hx3 z3 hr
  go_wp2_with fail
  (with_reducible refine (C4.out _ (by repeat (first | with_reducible exact HR.out | with_reducible refine RRd.set ?_ (by omega) _ | with_reducible refine RRd.ext ?_ (Ext.alloc (Ext.refl _) _) | with_reducible refine RRd.ext ?_ (Ext.drew (Ext.refl _)) | with_reducible refine RRd.drewN ?_ _))).mono ?_)
  rintro e w4 ⟨rfl, hr, hx4⟩
  have hsz4 := hx4.size
  try simp at hsz4
  replace c0_0f : w4.frozen? ⟨w.heap.size, 0, none⟩ = false := hx4.froz (by show ¬ _ = _; first | assumption | omega) (v := .int .i64 0) (by first | exact c0_0 | (simp [go_sem, World.cell?_alloc_past, c0_0f, c0_1f, c0_2f, c0_3f, c0_0, c0_1, c0_2, c0_3, c1_2f, c1_3f, c1_0, c1_1, c1_2, c1_3, ne_c0_c1, ne_c1_c0, rc0, rc0a, rc0b, rc0c, rc0n, rc1, rc1a, rc1b, rc1c, rc1n]; done)) (by first | exact c0_0f | (simp [go_sem, World.cell?_alloc_past, c0_0f, c0_1f, c0_2f, c0_3f, c0_0, c0_1, c0_2, c0_3, c1_2f, c1_3f, c1_0, c1_1, c1_2, c1_3, ne_c0_c1, ne_c1_c0, rc0, rc0a, rc0b, rc0c, rc0n, rc1, rc1a, rc1b, rc1c, rc1n]; done))
  replace c0_1f : w4.frozen? ⟨w.heap.size, 1, none⟩ = false := hx4.froz (by show ¬ _ = _; first | assumption | omega) (v := .int .i64 0) (by first | exact c0_1 | (simp [go_sem, World.cell?_alloc_past, c0_0f, c0_1f, c0_2f, c0_3f, c0_0, c0_1, c0_2, c0_3, c1_2f, c1_3f, c1_0, c1_1, c1_2, c1_3, ne_c0_c1, ne_c1_c0, rc0, rc0a, rc0b, rc0c, rc0n, rc1, rc1a, rc1b, rc1c, rc1n]; done)) (by first | exact c0_1f | (simp [go_sem, World.cell?_alloc_past, c0_0f, c0_1f, c0_2f, c0_3f, c0_0, c0_1, c0_2, c0_3, c1_2f, c1_3f, c1_0, c1_1, c1_2, c1_3, ne_c0_c1, ne_c1_c0, rc0, rc0a, rc0b, rc0c, rc0n, rc1, rc1a, rc1b, rc1c, rc1n]; done))
  replace c0_2f : w4.frozen? ⟨w.heap.size, 2, none⟩ = false := hx4.froz (by show ¬ _ = _; first | assumption | omega) (v := .int .i64 0) (by first | exact c0_2 | (simp [go_sem, World.cell?_alloc_past, c0_0f, c0_1f, c0_2f, c0_3f, c0_0, c0_1, c0_2, c0_3, c1_2f, c1_3f, c1_0, c1_1, c1_2, c1_3, ne_c0_c1, ne_c1_c0, rc0, rc0a, rc0b, rc0c, rc0n, rc1, rc1a, rc1b, rc1c, rc1n]; done)) (by first | exact c0_2f | (simp [go_sem, World.cell?_alloc_past, c0_0f, c0_1f, c0_2f, c0_3f, c0_0, c0_1, c0_2, c0_3, c1_2f, c1_3f, c1_0, c1_1, c1_2, c1_3, ne_c0_c1, ne_c1_c0, rc0, rc0a, rc0b, rc0c, rc0n, rc1, rc1a, rc1b, rc1c, rc1n]; done))
  replace c0_3f : w4.frozen? ⟨w.heap.size, 3, none⟩ = false := hx4.froz (by show ¬ _ = _; first | assumption | omega) (v := .int .i64 0) (by first | exact c0_3 | (simp [go_sem, World.cell?_alloc_past, c0_0f, c0_1f, c0_2f, c0_3f, c0_0, c0_1, c0_2, c0_3, c1_2f, c1_3f, c1_0, c1_1, c1_2, c1_3, ne_c0_c1, ne_c1_c0, rc0, rc0a, rc0b, rc0c, rc0n, rc1, rc1a, rc1b, rc1c, rc1n]; done)) (by first | exact c0_3f | (simp [go_sem, World.cell?_alloc_past, c0_0f, c0_1f, c0_2f, c0_3f, c0_0, c0_1, c0_2, c0_3, c1_2f, c1_3f, c1_0, c1_1, c1_2, c1_3, ne_c0_c1, ne_c1_c0, rc0, rc0a, rc0b, rc0c, rc0n, rc1, rc1a, rc1b, rc1c, rc1n]; done))
  replace c0_0 : w4.cell? ⟨w.heap.size, 0, none⟩ = some (.int .i64 0) := hx4.has (by show ¬ _ = _; first | assumption | omega) (by first | exact c0_0 | (simp [go_sem, World.cell?_alloc_past, c0_0f, c0_1f, c0_2f, c0_3f, c0_0, c0_1, c0_2, c0_3, c1_2f, c1_3f, c1_0, c1_1, c1_2, c1_3, ne_c0_c1, ne_c1_c0, rc0, rc0a, rc0b, rc0c, rc0n, rc1, rc1a, rc1b, rc1c, rc1n]; done))
  replace c0_1 : w4.cell? ⟨w.heap.size, 1, none⟩ = some (.int .i64 0) := hx4.has (by show ¬ _ = _; first | assumption | omega) (by first | exact c0_1 | (simp [go_sem, World.cell?_alloc_past, c0_0f, c0_1f, c0_2f, c0_3f, c0_0, c0_1, c0_2, c0_3, c1_2f, c1_3f, c1_0, c1_1, c1_2, c1_3, ne_c0_c1, ne_c1_c0, rc0, rc0a, rc0b, rc0c, rc0n, rc1, rc1a, rc1b, rc1c, rc1n]; done))
  replace c0_2 : w4.cell? ⟨w.heap.size, 2, none⟩ = some (.int .i64 0) := hx4.has (by show ¬ _ = _; first | assumption | omega) (by first | exact c0_2 | (simp [go_sem, World.cell?_alloc_past, c0_0f, c0_1f, c0_2f, c0_3f, c0_0, c0_1, c0_2, c0_3, c1_2f, c1_3f, c1_0, c1_1, c1_2, c1_3, ne_c0_c1, ne_c1_c0, rc0, rc0a, rc0b, rc0c, rc0n, rc1, rc1a, rc1b, rc1c, rc1n]; done))
  replace c0_3 : w4.cell? ⟨w.heap.size, 3, none⟩ = some (.int .i64 0) := hx4.has (by show ¬ _ = _; first | assumption | omega) (by first | exact c0_3 | (simp [go_sem, World.cell?_alloc_past, c0_0f, c0_1f, c0_2f, c0_3f, c0_0, c0_1, c0_2, c0_3, c1_2f, c1_3f, c1_0, c1_1, c1_2, c1_3, ne_c0_c1, ne_c1_c0, rc0, rc0a, rc0b, rc0c, rc0n, rc1, rc1a, rc1b, rc1c, rc1n]; done))
  replace c1_3f : w4.frozen? ⟨w.heap.size + 1, 3, none⟩ = false := hx4.froz (by show ¬ _ = _; first | assumption | omega) (v := .int .i64 0) (by first | exact c1_3 | (simp [go_sem, World.cell?_alloc_past, c0_0f, c0_1f, c0_2f, c0_3f, c0_0, c0_1, c0_2, c0_3, c1_2f, c1_3f, c1_0, c1_1, c1_2, c1_3, ne_c0_c1, ne_c1_c0, rc0, rc0a, rc0b, rc0c, rc0n, rc1, rc1a, rc1b, rc1c, rc1n]; done)) (by first | exact c1_3f | (simp [go_sem, World.cell?_alloc_past, c0_0f, c0_1f, c0_2f, c0_3f, c0_0, c0_1, c0_2, c0_3, c1_2f, c1_3f, c1_0, c1_1, c1_2, c1_3, ne_c0_c1, ne_c1_c0, rc0, rc0a, rc0b, rc0c, rc0n, rc1, rc1a, rc1b, rc1c, rc1n]; done))
  replace c1_0 : w4.cell? ⟨w.heap.size + 1, 0, none⟩ = some (.int .i64 V) := hx4.has (by show ¬ _ = _; first | assumption | omega) (by first | exact c1_0 | (simp [go_sem, World.cell?_alloc_past, c0_0f, c0_1f, c0_2f, c0_3f, c0_0, c0_1, c0_2, c0_3, c1_2f, c1_3f, c1_0, c1_1, c1_2, c1_3, ne_c0_c1, ne_c1_c0, rc0, rc0a, rc0b, rc0c, rc0n, rc1, rc1a, rc1b, rc1c, rc1n]; done))
  replace c1_1 : w4.cell? ⟨w.heap.size + 1, 1, none⟩ = some (.int .i64 S) := hx4.has (by show ¬ _ = _; first | assumption | omega) (by first | exact c1_1 | (simp [go_sem, World.cell?_alloc_past, c0_0f, c0_1f, c0_2f, c0_3f, c0_0, c0_1, c0_2, c0_3, c1_2f, c1_3f, c1_0, c1_1, c1_2, c1_3, ne_c0_c1, ne_c1_c0, rc0, rc0a, rc0b, rc0c, rc0n, rc1, rc1a, rc1b, rc1c, rc1n]; done))
  replace c1_2 : w4.cell? ⟨w.heap.size + 1, 2, none⟩ = some (.int .i64 (Q - 1)) := hx4.has (by show ¬ _ = _; first | assumption | omega) (by first | exact c1_2 | (simp [go_sem, World.cell?_alloc_past, c0_0f, c0_1f, c0_2f, c0_3f, c0_0, c0_1, c0_2, c0_3, c1_2f, c1_3f, c1_0, c1_1, c1_2, c1_3, ne_c0_c1, ne_c1_c0, rc0, rc0a, rc0b, rc0c, rc0n, rc1, rc1a, rc1b, rc1c, rc1n]; done))
  replace c1_3 : w4.cell? ⟨w.heap.size + 1, 3, none⟩ = some (.int .i64 0) := hx4.has (by show ¬ _ = _; first | assumption | omega) (by first | exact c1_3 | (simp [go_sem, World.cell?_alloc_past, c0_0f, c0_1f, c0_2f, c0_3f, c0_0, c0_1, c0_2, c0_3, c1_2f, c1_3f, c1_0, c1_1, c1_2, c1_3, ne_c0_c1, ne_c1_c0, rc0, rc0a, rc0b, rc0c, rc0n, rc1, rc1a, rc1b, rc1c, rc1n]; done))
  have z4 := hx4.size
  try simp at z4
  replace rc0 : w.heap.size < w4.heap.size := by omega
  replace rc0a : w.heap.size < w4.heap.size + 1 := by omega
  replace rc0b : w.heap.size < w4.heap.size + 1 + 1 := by omega
  replace rc0c : w.heap.size < w4.heap.size + 1 + 1 + 1 := by omega
  replace rc0n : ¬ w.heap.size = w4.heap.size := by omega
  replace rc1 : w.heap.size + 1 < w4.heap.size := by omega
  replace rc1a : w.heap.size + 1 < w4.heap.size + 1 := by omega
  replace rc1b : w.heap.size + 1 < w4.heap.size + 1 + 1 := by omega
  replace rc1c : w.heap.size + 1 < w4.heap.size + 1 + 1 + 1 := by omega
  replace rc1n : ¬ w.heap.size + 1 = w4.heap.size := by omega
  have X4 : Hid (But (· = g) w w4) := Lib.hid (But.trans (by repeat (first | with_reducible exact X3.out | with_reducible refine But.drew ?_ | with_reducible refine But.drewN ?_ _ | with_reducible refine But.alloc ?_ _ | with_reducible refine But.setG ?_ _ | with_reducible refine But.setNew ?_ (by first | omega | (simp; done) | (simp; omega)) _)) hx4)
  clear HR
  have HR := Lib.hid hr
  clear c1_2f hsz4 X3 hx4 z4 hr
  have g_2 := HR.out.c2
  change _ = some (Value.int .i64 0) at g_2
  go_wp2_with fail
  (with_reducible refine (CK.out _).mono ?_)
  rintro e w5 ⟨rfl, hx5⟩
  replace c0_0f : w5.frozen? ⟨w.heap.size, 0, none⟩ = false := hx5.froz (v := .int .i64 0) (by first | exact c0_0 | (simp [go_sem, World.cell?_alloc_past, c0_0f, c0_1f, c0_2f, c0_3f, c0_0, c0_1, c0_2, c0_3, c1_3f, c1_0, c1_1, c1_2, c1_3, ne_c0_c1, ne_c1_c0, rc0, rc0a, rc0b, rc0c, rc0n, rc1, rc1a, rc1b, rc1c, rc1n]; done)) (by first | exact c0_0f | (simp [go_sem, World.cell?_alloc_past, c0_0f, c0_1f, c0_2f, c0_3f, c0_0, c0_1, c0_2, c0_3, c1_3f, c1_0, c1_1, c1_2, c1_3, ne_c0_c1, ne_c1_c0, rc0, rc0a, rc0b, rc0c, rc0n, rc1, rc1a, rc1b, rc1c, rc1n]; done))
  replace c0_1f : w5.frozen? ⟨w.heap.size, 1, none⟩ = false := hx5.froz (v := .int .i64 0) (by first | exact c0_1 | (simp [go_sem, World.cell?_alloc_past, c0_0f, c0_1f, c0_2f, c0_3f, c0_0, c0_1, c0_2, c0_3, c1_3f, c1_0, c1_1, c1_2, c1_3, ne_c0_c1, ne_c1_c0, rc0, rc0a, rc0b, rc0c, rc0n, rc1, rc1a, rc1b, rc1c, rc1n]; done)) (by first | exact c0_1f | (simp [go_sem, World.cell?_alloc_past, c0_0f, c0_1f, c0_2f, c0_3f, c0_0, c0_1, c0_2, c0_3, c1_3f, c1_0, c1_1, c1_2, c1_3, ne_c0_c1, ne_c1_c0, rc0, rc0a, rc0b, rc0c, rc0n, rc1, rc1a, rc1b, rc1c, rc1n]; done))
  replace c0_2f : w5.frozen? ⟨w.heap.size, 2, none⟩ = false := hx5.froz (v := .int .i64 0) (by first | exact c0_2 | (simp [go_sem, World.cell?_alloc_past, c0_0f, c0_1f, c0_2f, c0_3f, c0_0, c0_1, c0_2, c0_3, c1_3f, c1_0, c1_1, c1_2, c1_3, ne_c0_c1, ne_c1_c0, rc0, rc0a, rc0b, rc0c, rc0n, rc1, rc1a, rc1b, rc1c, rc1n]; done)) (by first | exact c0_2f | (simp [go_sem, World.cell?_alloc_past, c0_0f, c0_1f, c0_2f, c0_3f, c0_0, c0_1, c0_2, c0_3, c1_3f, c1_0, c1_1, c1_2, c1_3, ne_c0_c1, ne_c1_c0, rc0, rc0a, rc0b, rc0c, rc0n, rc1, rc1a, rc1b, rc1c, rc1n]; done))
  replace c0_3f : w5.frozen? ⟨w.heap.size, 3, none⟩ = false := hx5.froz (v := .int .i64 0) (by first | exact c0_3 | (simp [go_sem, World.cell?_alloc_past, c0_0f, c0_1f, c0_2f, c0_3f, c0_0, c0_1, c0_2, c0_3, c1_3f, c1_0, c1_1, c1_2, c1_3, ne_c0_c1, ne_c1_c0, rc0, rc0a, rc0b, rc0c, rc0n, rc1, rc1a, rc1b, rc1c, rc1n]; done)) (by first | exact c0_3f | (simp [go_sem, World.cell?_alloc_past, c0_0f, c0_1f, c0_2f, c0_3f, c0_0, c0_1, c0_2, c0_3, c1_3f, c1_0, c1_1, c1_2, c1_3, ne_c0_c1, ne_c1_c0, rc0, rc0a, rc0b, rc0c, rc0n, rc1, rc1a, rc1b, rc1c, rc1n]; done))
  replace c0_0 : w5.cell? ⟨w.heap.size, 0, none⟩ = some (.int .i64 0) := hx5.has (by first | exact c0_0 | (simp [go_sem, World.cell?_alloc_past, c0_0f, c0_1f, c0_2f, c0_3f, c0_0, c0_1, c0_2, c0_3, c1_3f, c1_0, c1_1, c1_2, c1_3, ne_c0_c1, ne_c1_c0, rc0, rc0a, rc0b, rc0c, rc0n, rc1, rc1a, rc1b, rc1c, rc1n]; done))
  replace c0_1 : w5.cell? ⟨w.heap.size, 1, none⟩ = some (.int .i64 0) := hx5.has (by first | exact c0_1 | (simp [go_sem, World.cell?_alloc_past, c0_0f, c0_1f, c0_2f, c0_3f, c0_0, c0_1, c0_2, c0_3, c1_3f, c1_0, c1_1, c1_2, c1_3, ne_c0_c1, ne_c1_c0, rc0, rc0a, rc0b, rc0c, rc0n, rc1, rc1a, rc1b, rc1c, rc1n]; done))
  replace c0_2 : w5.cell? ⟨w.heap.size, 2, none⟩ = some (.int .i64 0) := hx5.has (by first | exact c0_2 | (simp [go_sem, World.cell?_alloc_past, c0_0f, c0_1f, c0_2f, c0_3f, c0_0, c0_1, c0_2, c0_3, c1_3f, c1_0, c1_1, c1_2, c1_3, ne_c0_c1, ne_c1_c0, rc0, rc0a, rc0b, rc0c, rc0n, rc1, rc1a, rc1b, rc1c, rc1n]; done))
  replace c0_3 : w5.cell? ⟨w.heap.size, 3, none⟩ = some (.int .i64 0) := hx5.has (by first | exact c0_3 | (simp [go_sem, World.cell?_alloc_past, c0_0f, c0_1f, c0_2f, c0_3f, c0_0, c0_1, c0_2, c0_3, c1_3f, c1_0, c1_1, c1_2, c1_3, ne_c0_c1, ne_c1_c0, rc0, rc0a, rc0b, rc0c, rc0n, rc1, rc1a, rc1b, rc1c, rc1n]; done))
  replace c1_0 : w5.cell? ⟨w.heap.size + 1, 0, none⟩ = some (.int .i64 V) := hx5.has (by first | exact c1_0 | (simp [go_sem, World.cell?_alloc_past, c0_0f, c0_1f, c0_2f, c0_3f, c0_0, c0_1, c0_2, c0_3, c1_3f, c1_0, c1_1, c1_2, c1_3, ne_c0_c1, ne_c1_c0, rc0, rc0a, rc0b, rc0c, rc0n, rc1, rc1a, rc1b, rc1c, rc1n]; done))
  replace c1_1 : w5.cell? ⟨w.heap.size + 1, 1, none⟩ = some (.int .i64 S) := hx5.has (by first | exact c1_1 | (simp [go_sem, World.cell?_alloc_past, c0_0f, c0_1f, c0_2f, c0_3f, c0_0, c0_1, c0_2, c0_3, c1_3f, c1_0, c1_1, c1_2, c1_3, ne_c0_c1, ne_c1_c0, rc0, rc0a, rc0b, rc0c, rc0n, rc1, rc1a, rc1b, rc1c, rc1n]; done))
  replace c1_2 : w5.cell? ⟨w.heap.size + 1, 2, none⟩ = some (.int .i64 (Q - 1)) := hx5.has (by first | exact c1_2 | (simp [go_sem, World.cell?_alloc_past, c0_0f, c0_1f, c0_2f, c0_3f, c0_0, c0_1, c0_2, c0_3, c1_3f, c1_0, c1_1, c1_2, c1_3, ne_c0_c1, ne_c1_c0, rc0, rc0a, rc0b, rc0c, rc0n, rc1, rc1a, rc1b, rc1c, rc1n]; done))
  replace c1_3 : w5.cell? ⟨w.heap.size + 1, 3, none⟩ = some (.int .i64 F) := hx5.has (by first | exact c1_3 | (simp [go_sem, World.cell?_alloc_past, c0_0f, c0_1f, c0_2f, c0_3f, c0_0, c0_1, c0_2, c0_3, c1_3f, c1_0, c1_1, c1_2, c1_3, ne_c0_c1, ne_c1_c0, rc0, rc0a, rc0b, rc0c, rc0n, rc1, rc1a, rc1b, rc1c, rc1n]; done))
  have z5 := hx5.size
  try simp at z5
  replace rc0 : w.heap.size < w5.heap.size := by omega
  replace rc0a : w.heap.size < w5.heap.size + 1 := by omega
  replace rc0b : w.heap.size < w5.heap.size + 1 + 1 := by omega
  replace rc0c : w.heap.size < w5.heap.size + 1 + 1 + 1 := by omega
  replace rc0n : ¬ w.heap.size = w5.heap.size := by omega
  replace rc1 : w.heap.size + 1 < w5.heap.size := by omega
  replace rc1a : w.heap.size + 1 < w5.heap.size + 1 := by omega
  replace rc1b : w.heap.size + 1 < w5.heap.size + 1 + 1 := by omega
  replace rc1c : w.heap.size + 1 < w5.heap.size + 1 + 1 + 1 := by omega
  replace rc1n : ¬ w.heap.size + 1 = w5.heap.size := by omega
  have X5 : Hid (But (· = g) w w5) := Lib.hid (But.trans (by repeat (first | with_reducible exact X4.out | with_reducible refine But.drew ?_ | with_reducible refine But.drewN ?_ _ | with_reducible refine But.alloc ?_ _ | with_reducible refine But.setG ?_ _ | with_reducible refine But.setNew ?_ (by first | omega | (simp; done) | (simp; omega)) _)) (But.ofExt hx5))
  replace HR := Lib.hid (RRd.ext (g := g) (k := k4) (L := L) (flt := none) (by repeat (first | with_reducible exact HR.out | with_reducible refine RRd.set ?_ (by omega) _ | with_reducible refine RRd.ext ?_ (Ext.alloc (Ext.refl _) _) | with_reducible refine RRd.ext ?_ (Ext.drew (Ext.refl _)) | with_reducible refine RRd.drewN ?_ _)) hx5)
  clear c1_3f X4 hx5 z5
  go_wp2_with fail
  (with_reducible refine ((rFail_any g k4 L none 0 at_ _ (by repeat (first | with_reducible exact HR.out | with_reducible refine RRd.set ?_ (by omega) _ | with_reducible refine RRd.ext ?_ (Ext.alloc (Ext.refl _) _) | with_reducible refine RRd.ext ?_ (Ext.drew (Ext.refl _)) | with_reducible refine RRd.drewN ?_ _)))).mono ?_)
  rintro e w6 ⟨⟨v, rfl⟩, hr, hx6⟩
  have hsz6 := hx6.size
  try simp at hsz6
  replace c0_0f : w6.frozen? ⟨w.heap.size, 0, none⟩ = false := hx6.froz (by show ¬ _ = _; first | assumption | omega) (v := .int .i64 0) (by first | exact c0_0 | (simp [go_sem, World.cell?_alloc_past, c0_0f, c0_1f, c0_2f, c0_3f, c0_0, c0_1, c0_2, c0_3, c1_0, c1_1, c1_2, c1_3, ne_c0_c1, ne_c1_c0, rc0, rc0a, rc0b, rc0c, rc0n, rc1, rc1a, rc1b, rc1c, rc1n]; done)) (by first | exact c0_0f | (simp [go_sem, World.cell?_alloc_past, c0_0f, c0_1f, c0_2f, c0_3f, c0_0, c0_1, c0_2, c0_3, c1_0, c1_1, c1_2, c1_3, ne_c0_c1, ne_c1_c0, rc0, rc0a, rc0b, rc0c, rc0n, rc1, rc1a, rc1b, rc1c, rc1n]; done))
  replace c0_1f : w6.frozen? ⟨w.heap.size, 1, none⟩ = false := hx6.froz (by show ¬ _ = _; first | assumption | omega) (v := .int .i64 0) (by first | exact c0_1 | (simp [go_sem, World.cell?_alloc_past, c0_0f, c0_1f, c0_2f, c0_3f, c0_0, c0_1, c0_2, c0_3, c1_0, c1_1, c1_2, c1_3, ne_c0_c1, ne_c1_c0, rc0, rc0a, rc0b, rc0c, rc0n, rc1, rc1a, rc1b, rc1c, rc1n]; done)) (by first | exact c0_1f | (simp [go_sem, World.cell?_alloc_past, c0_0f, c0_1f, c0_2f, c0_3f, c0_0, c0_1, c0_2, c0_3, c1_0, c1_1, c1_2, c1_3, ne_c0_c1, ne_c1_c0, rc0, rc0a, rc0b, rc0c, rc0n, rc1, rc1a, rc1b, rc1c, rc1n]; done))
  replace c0_2f : w6.frozen? ⟨w.heap.size, 2, none⟩ = false := hx6.froz (by show ¬ _ = _; first | assumption | omega) (v := .int .i64 0) (by first | exact c0_2 | (simp [go_sem, World.cell?_alloc_past, c0_0f, c0_1f, c0_2f, c0_3f, c0_0, c0_1, c0_2, c0_3, c1_0, c1_1, c1_2, c1_3, ne_c0_c1, ne_c1_c0, rc0, rc0a, rc0b, rc0c, rc0n, rc1, rc1a, rc1b, rc1c, rc1n]; done)) (by first | exact c0_2f | (simp [go_sem, World.cell?_alloc_past, c0_0f, c0_1f, c0_2f, c0_3f, c0_0, c0_1, c0_2, c0_3, c1_0, c1_1, c1_2, c1_3, ne_c0_c1, ne_c1_c0, rc0, rc0a, rc0b, rc0c, rc0n, rc1, rc1a, rc1b, rc1c, rc1n]; done))
  replace c0_3f : w6.frozen? ⟨w.heap.size, 3, none⟩ = false := hx6.froz (by show ¬ _ = _; first | assumption | omega) (v := .int .i64 0) (by first | exact c0_3 | (simp [go_sem, World.cell?_alloc_past, c0_0f, c0_1f, c0_2f, c0_3f, c0_0, c0_1, c0_2, c0_3, c1_0, c1_1, c1_2, c1_3, ne_c0_c1, ne_c1_c0, rc0, rc0a, rc0b, rc0c, rc0n, rc1, rc1a, rc1b, rc1c, rc1n]; done)) (by first | exact c0_3f | (simp [go_sem, World.cell?_alloc_past, c0_0f, c0_1f, c0_2f, c0_3f, c0_0, c0_1, c0_2, c0_3, c1_0, c1_1, c1_2, c1_3, ne_c0_c1, ne_c1_c0, rc0, rc0a, rc0b, rc0c, rc0n, rc1, rc1a, rc1b, rc1c, rc1n]; done))
  replace c0_0 : w6.cell? ⟨w.heap.size, 0, none⟩ = some (.int .i64 0) := hx6.has (by show ¬ _ = _; first | assumption | omega) (by first | exact c0_0 | (simp [go_sem, World.cell?_alloc_past, c0_0f, c0_1f, c0_2f, c0_3f, c0_0, c0_1, c0_2, c0_3, c1_0, c1_1, c1_2, c1_3, ne_c0_c1, ne_c1_c0, rc0, rc0a, rc0b, rc0c, rc0n, rc1, rc1a, rc1b, rc1c, rc1n]; done))
  replace c0_1 : w6.cell? ⟨w.heap.size, 1, none⟩ = some (.int .i64 0) := hx6.has (by show ¬ _ = _; first | assumption | omega) (by first | exact c0_1 | (simp [go_sem, World.cell?_alloc_past, c0_0f, c0_1f, c0_2f, c0_3f, c0_0, c0_1, c0_2, c0_3, c1_0, c1_1, c1_2, c1_3, ne_c0_c1, ne_c1_c0, rc0, rc0a, rc0b, rc0c, rc0n, rc1, rc1a, rc1b, rc1c, rc1n]; done))
  replace c0_2 : w6.cell? ⟨w.heap.size, 2, none⟩ = some (.int .i64 0) := hx6.has (by show ¬ _ = _; first | assumption | omega) (by first | exact c0_2 | (simp [go_sem, World.cell?_alloc_past, c0_0f, c0_1f, c0_2f, c0_3f, c0_0, c0_1, c0_2, c0_3, c1_0, c1_1, c1_2, c1_3, ne_c0_c1, ne_c1_c0, rc0, rc0a, rc0b, rc0c, rc0n, rc1, rc1a, rc1b, rc1c, rc1n]; done))
  replace c0_3 : w6.cell? ⟨w.heap.size, 3, none⟩ = some (.int .i64 0) := hx6.has (by show ¬ _ = _; first | assumption | omega) (by first | exact c0_3 | (simp [go_sem, World.cell?_alloc_past, c0_0f, c0_1f, c0_2f, c0_3f, c0_0, c0_1, c0_2, c0_3, c1_0, c1_1, c1_2, c1_3, ne_c0_c1, ne_c1_c0, rc0, rc0a, rc0b, rc0c, rc0n, rc1, rc1a, rc1b, rc1c, rc1n]; done))
  replace c1_0 : w6.cell? ⟨w.heap.size + 1, 0, none⟩ = some (.int .i64 V) := hx6.has (by show ¬ _ = _; first | assumption | omega) (by first | exact c1_0 | (simp [go_sem, World.cell?_alloc_past, c0_0f, c0_1f, c0_2f, c0_3f, c0_0, c0_1, c0_2, c0_3, c1_0, c1_1, c1_2, c1_3, ne_c0_c1, ne_c1_c0, rc0, rc0a, rc0b, rc0c, rc0n, rc1, rc1a, rc1b, rc1c, rc1n]; done))
  replace c1_1 : w6.cell? ⟨w.heap.size + 1, 1, none⟩ = some (.int .i64 S) := hx6.has (by show ¬ _ = _; first | assumption | omega) (by first | exact c1_1 | (simp [go_sem, World.cell?_alloc_past, c0_0f, c0_1f, c0_2f, c0_3f, c0_0, c0_1, c0_2, c0_3, c1_0, c1_1, c1_2, c1_3, ne_c0_c1, ne_c1_c0, rc0, rc0a, rc0b, rc0c, rc0n, rc1, rc1a, rc1b, rc1c, rc1n]; done))
  replace c1_2 : w6.cell? ⟨w.heap.size + 1, 2, none⟩ = some (.int .i64 (Q - 1)) := hx6.has (by show ¬ _ = _; first | assumption | omega) (by first | exact c1_2 | (simp [go_sem, World.cell?_alloc_past, c0_0f, c0_1f, c0_2f, c0_3f, c0_0, c0_1, c0_2, c0_3, c1_0, c1_1, c1_2, c1_3, ne_c0_c1, ne_c1_c0, rc0, rc0a, rc0b, rc0c, rc0n, rc1, rc1a, rc1b, rc1c, rc1n]; done))
  replace c1_3 : w6.cell? ⟨w.heap.size + 1, 3, none⟩ = some (.int .i64 F) := hx6.has (by show ¬ _ = _; first | assumption | omega) (by first | exact c1_3 | (simp [go_sem, World.cell?_alloc_past, c0_0f, c0_1f, c0_2f, c0_3f, c0_0, c0_1, c0_2, c0_3, c1_0, c1_1, c1_2, c1_3, ne_c0_c1, ne_c1_c0, rc0, rc0a, rc0b, rc0c, rc0n, rc1, rc1a, rc1b, rc1c, rc1n]; done))
  have z6 := hx6.size
  try simp at z6
  replace rc0 : w.heap.size < w6.heap.size := by omega
  replace rc0a : w.heap.size < w6.heap.size + 1 := by omega
  replace rc0b : w.heap.size < w6.heap.size + 1 + 1 := by omega
  replace rc0c : w.heap.size < w6.heap.size + 1 + 1 + 1 := by omega
  replace rc0n : ¬ w.heap.size = w6.heap.size := by omega
  replace rc1 : w.heap.size + 1 < w6.heap.size := by omega
  replace rc1a : w.heap.size + 1 < w6.heap.size + 1 := by omega
  replace rc1b : w.heap.size + 1 < w6.heap.size + 1 + 1 := by omega
  replace rc1c : w.heap.size + 1 < w6.heap.size + 1 + 1 + 1 := by omega
  replace rc1n : ¬ w.heap.size + 1 = w6.heap.size := by omega
  have X6 : Hid (But (· = g) w w6) := Lib.hid (But.trans (by repeat (first | with_reducible exact X5.out | with_reducible refine But.drew ?_ | with_reducible refine But.drewN ?_ _ | with_reducible refine But.alloc ?_ _ | with_reducible refine But.setG ?_ _ | with_reducible refine But.setNew ?_ (by first | omega | (simp; done) | (simp; omega)) _)) hx6)
  clear HR
  have HR := Lib.hid hr
  clear hsz6 X5 hx6 z6 hr
  clear g_2
  have g_2 := HR.out.c2
  change _ = some (Value.int .i64 0) at g_2
  go_wp2_with fail
  refine bodyPost_ret (v := .agg #[.int .i64 V, .int .i64 S, .int .i64 (Q - 1), .int .i64 F]) (by simp [results, Tryz.results44, go_sem, World.cell?_alloc_past, c0_0f, c0_1f, c0_2f, c0_3f, c0_0, c0_1, c0_2, c0_3, c1_0, c1_1, c1_2, c1_3, ne_c0_c1, ne_c1_c0, rc0, rc0a, rc0b, rc0c, rc0n, rc1, rc1a, rc1b, rc1c, rc1n]; try rfl) rfl ⟨rfl, ?_, (by repeat (first | with_reducible exact X6.out | with_reducible refine But.drew ?_ | with_reducible refine But.drewN ?_ _ | with_reducible refine But.alloc ?_ _ | with_reducible refine But.setG ?_ _ | with_reducible refine But.setNew ?_ (by first | omega | (simp; done) | (simp; omega)) _))⟩
  have hr := HR.out
  rw [failF_ok] at hr
  repeat (first | with_reducible exact hr | with_reducible refine RRd.set ?_ (by omega) _ | (with_reducible refine RRd.ext ?_ (Ext.alloc (Ext.refl _) _)))
set_option maxRecDepth 100000 in
set_option maxHeartbeats 4000000 in
theorem rTake12_bad (g k k1 k2 k3 k4 : Nat) (L : List Nat) (f f1 f2 f3 : Option (Int × Int)) (at_ V S Q F : Int) (E : Int) (hE : Hid (¬ E = 0)) (q0 : 0 ≤ Q) (q1 : Q ≤ 32)
    (CA : Hid (∀ w, RRd w g L k f → Calls Tryz.prog 43 #[.pointer (some ⟨g, 0, none⟩)] w fun r w' => r = .returned (.int .i64 at_) ∧ w = w'))
    (C1 : Hid (∀ w, RRd w g L k f → Calls Tryz.prog 42 #[.pointer (some ⟨g, 0, none⟩), .int .i64 0, .int .i64 31] w fun r w' => r = .returned (.int .i64 V) ∧ RRd w' g L k1 f1 ∧ But (· = g) w w'))
    (C2 : Hid (∀ w, RRd w g L k1 f1 → Calls Tryz.prog 42 #[.pointer (some ⟨g, 0, none⟩), .int .i64 1, .int .i64 4294967296] w fun r w' => r = .returned (.int .i64 S) ∧ RRd w' g L k2 f2 ∧ But (· = g) w w'))
    (C3 : Hid (∀ w, RRd w g L k2 f2 → Calls Tryz.prog 42 #[.pointer (some ⟨g, 0, none⟩), .int .i64 0, .int .i64 32] w fun r w' => r = .returned (.int .i64 Q) ∧ RRd w' g L k3 f3 ∧ But (· = g) w w'))
    (C4 : Hid (∀ w, RRd w g L k3 f3 → Calls Tryz.prog 42 #[.pointer (some ⟨g, 0, none⟩), .int .i64 0, .int .i64 4294967296] w fun r w' => r = .returned (.int .i64 F) ∧ RRd w' g L k4 none ∧ But (· = g) w w'))
    (CK : Hid (∀ w, Calls Tryz.prog 65 #[.agg #[.int .i64 V, .int .i64 S, .int .i64 (Q - 1), .int .i64 F]] w fun r w' => r = .returned (.int .i64 E) ∧ Ext w w'))
    (w : World) (h : RRd w g L k f) :
    Calls Tryz.prog 44 #[.pointer (some ⟨g, 0, none⟩)] w fun r w' => r = .returned (.agg #[.int .i64 0, .int .i64 0, .int .i64 0, .int .i64 0]) ∧ RRd w' g L k4 (some (E, at_)) ∧ But (· = g) w w' := by
  have hg := h.lt
  have HR := Lib.hid h
  clear h
  go_enter Tryz.func44, Tryz.ntmps44
  go_wp2_with fail
  (with_reducible refine (CA.out _ (by repeat (first | with_reducible exact HR.out | with_reducible refine RRd.set ?_ (by omega) _ | with_reducible refine RRd.ext ?_ (Ext.alloc (Ext.refl _) _) | with_reducible refine RRd.ext ?_ (Ext.drew (Ext.refl _)) | with_reducible refine RRd.drewN ?_ _))).mono ?_)
  rintro e w_1 ⟨rfl, rfl⟩
  go_wp2_with fail
  (with_reducible refine (C1.out _ (by repeat (first | with_reducible exact HR.out | with_reducible refine RRd.set ?_ (by omega) _ | with_reducible refine RRd.ext ?_ (Ext.alloc (Ext.refl _) _) | with_reducible refine RRd.ext ?_ (Ext.drew (Ext.refl _)) | with_reducible refine RRd.drewN ?_ _))).mono ?_)
  rintro e w1 ⟨rfl, hr, hx1⟩
  have hsz1 := hx1.size
  try simp at hsz1
  have c0_0f : w1.frozen? ⟨w.heap.size, 0, none⟩ = false := hx1.froz (by show ¬ _ = _; first | assumption | omega) (v := .int .i64 0) (by first | fail | (simp [go_sem, World.cell?_alloc_past]; done)) (by first | fail | (simp [go_sem, World.cell?_alloc_past]; done))
  have c0_1f : w1.frozen? ⟨w.heap.size, 1, none⟩ = false := hx1.froz (by show ¬ _ = _; first | assumption | omega) (v := .int .i64 0) (by first | fail | (simp [go_sem, World.cell?_alloc_past]; done)) (by first | fail | (simp [go_sem, World.cell?_alloc_past]; done))
  have c0_2f : w1.frozen? ⟨w.heap.size, 2, none⟩ = false := hx1.froz (by show ¬ _ = _; first | assumption | omega) (v := .int .i64 0) (by first | fail | (simp [go_sem, World.cell?_alloc_past]; done)) (by first | fail | (simp [go_sem, World.cell?_alloc_past]; done))
  have c0_3f : w1.frozen? ⟨w.heap.size, 3, none⟩ = false := hx1.froz (by show ¬ _ = _; first | assumption | omega) (v := .int .i64 0) (by first | fail | (simp [go_sem, World.cell?_alloc_past]; done)) (by first | fail | (simp [go_sem, World.cell?_alloc_past]; done))
  have c0_0 : w1.cell? ⟨w.heap.size, 0, none⟩ = some (.int .i64 0) := hx1.has (by show ¬ _ = _; first | assumption | omega) (by first | fail | (simp [go_sem, World.cell?_alloc_past]; done))
  have c0_1 : w1.cell? ⟨w.heap.size, 1, none⟩ = some (.int .i64 0) := hx1.has (by show ¬ _ = _; first | assumption | omega) (by first | fail | (simp [go_sem, World.cell?_alloc_past]; done))
  have c0_2 : w1.cell? ⟨w.heap.size, 2, none⟩ = some (.int .i64 0) := hx1.has (by show ¬ _ = _; first | assumption | omega) (by first | fail | (simp [go_sem, World.cell?_alloc_past]; done))
  have c0_3 : w1.cell? ⟨w.heap.size, 3, none⟩ = some (.int .i64 0) := hx1.has (by show ¬ _ = _; first | assumption | omega) (by first | fail | (simp [go_sem, World.cell?_alloc_past]; done))
  have c1_0f : w1.frozen? ⟨w.heap.size + 1, 0, none⟩ = false := hx1.froz (by show ¬ _ = _; first | assumption | omega) (v := .int .i64 0) (by first | fail | (simp [go_sem, World.cell?_alloc_past]; done)) (by first | fail | (simp [go_sem, World.cell?_alloc_past]; done))
  have c1_1f : w1.frozen? ⟨w.heap.size + 1, 1, none⟩ = false := hx1.froz (by show ¬ _ = _; first | assumption | omega) (v := .int .i64 0) (by first | fail | (simp [go_sem, World.cell?_alloc_past]; done)) (by first | fail | (simp [go_sem, World.cell?_alloc_past]; done))
  have c1_2f : w1.frozen? ⟨w.heap.size + 1, 2, none⟩ = false := hx1.froz (by show ¬ _ = _; first | assumption | omega) (v := .int .i64 0) (by first | fail | (simp [go_sem, World.cell?_alloc_past]; done)) (by first | fail | (simp [go_sem, World.cell?_alloc_past]; done))
  have c1_3f : w1.frozen? ⟨w.heap.size + 1, 3, none⟩ = false := hx1.froz (by show ¬ _ = _; first | assumption | omega) (v := .int .i64 0) (by first | fail | (simp [go_sem, World.cell?_alloc_past]; done)) (by first | fail | (simp [go_sem, World.cell?_alloc_past]; done))
  have c1_0 : w1.cell? ⟨w.heap.size + 1, 0, none⟩ = some (.int .i64 0) := hx1.has (by show ¬ _ = _; first | assumption | omega) (by first | fail | (simp [go_sem, World.cell?_alloc_past]; done))
  have c1_1 : w1.cell? ⟨w.heap.size + 1, 1, none⟩ = some (.int .i64 0) := hx1.has (by show ¬ _ = _; first | assumption | omega) (by first | fail | (simp [go_sem, World.cell?_alloc_past]; done))
  have c1_2 : w1.cell? ⟨w.heap.size + 1, 2, none⟩ = some (.int .i64 0) := hx1.has (by show ¬ _ = _; first | assumption | omega) (by first | fail | (simp [go_sem, World.cell?_alloc_past]; done))
  have c1_3 : w1.cell? ⟨w.heap.size + 1, 3, none⟩ = some (.int .i64 0) := hx1.has (by show ¬ _ = _; first | assumption | omega) (by first | fail | (simp [go_sem, World.cell?_alloc_past]; done))
  have z1 := hx1.size
  try simp at z1
  have lt_c0_c1 : w.heap.size < w.heap.size + 1 := by omega
  have ne_c0_c1 : ¬ w.heap.size = w.heap.size + 1 := by omega
  have ne_c1_c0 : ¬ w.heap.size + 1 = w.heap.size := by omega
  have rc0 : w.heap.size < w1.heap.size := by omega
  have rc0a : w.heap.size < w1.heap.size + 1 := by omega
  have rc0b : w.heap.size < w1.heap.size + 1 + 1 := by omega
  have rc0c : w.heap.size < w1.heap.size + 1 + 1 + 1 := by omega
  have rc0n : ¬ w.heap.size = w1.heap.size := by omega
  have rc1 : w.heap.size + 1 < w1.heap.size := by omega
  have rc1a : w.heap.size + 1 < w1.heap.size + 1 := by omega
  have rc1b : w.heap.size + 1 < w1.heap.size + 1 + 1 := by omega
  have rc1c : w.heap.size + 1 < w1.heap.size + 1 + 1 + 1 := by omega
  have rc1n : ¬ w.heap.size + 1 = w1.heap.size := by omega
  have X1 : Hid (But (· = g) w w1) := Lib.hid (But.trans (by repeat (first | with_reducible exact But.refl _ w | with_reducible refine But.drew ?_ | with_reducible refine But.drewN ?_ _ | with_reducible refine But.alloc ?_ _ | with_reducible refine But.setG ?_ _ | with_reducible refine But.setNew ?_ (by first | omega | (simp; done) | (simp; omega)) _)) hx1)
  clear HR
  have HR := Lib.hid hr
  clear hsz1 hx1 z1 hr
  go_wp2_with fail
  (with_reducible refine (C2.out _ (by repeat (first | with_reducible exact HR.out | with_reducible refine RRd.set ?_ (by omega) _ | with_reducible refine RRd.ext ?_ (Ext.alloc (Ext.refl _) _) | with_reducible refine RRd.ext ?_ (Ext.drew (Ext.refl _)) | with_reducible refine RRd.drewN ?_ _))).mono ?_)
  rintro e w2 ⟨rfl, hr, hx2⟩
  have hsz2 := hx2.size
  try simp at hsz2
  replace c0_0f : w2.frozen? ⟨w.heap.size, 0, none⟩ = false := hx2.froz (by show ¬ _ = _; first | assumption | omega) (v := .int .i64 0) (by first | exact c0_0 | (simp [go_sem, World.cell?_alloc_past, c0_0f, c0_1f, c0_2f, c0_3f, c0_0, c0_1, c0_2, c0_3, c1_0f, c1_1f, c1_2f, c1_3f, c1_0, c1_1, c1_2, c1_3, ne_c0_c1, ne_c1_c0, rc0, rc0a, rc0b, rc0c, rc0n, rc1, rc1a, rc1b, rc1c, rc1n]; done)) (by first | exact c0_0f | (simp [go_sem, World.cell?_alloc_past, c0_0f, c0_1f, c0_2f, c0_3f, c0_0, c0_1, c0_2, c0_3, c1_0f, c1_1f, c1_2f, c1_3f, c1_0, c1_1, c1_2, c1_3, ne_c0_c1, ne_c1_c0, rc0, rc0a, rc0b, rc0c, rc0n, rc1, rc1a, rc1b, rc1c, rc1n]; done))
  replace c0_1f : w2.frozen? ⟨w.heap.size, 1, none⟩ = false := hx2.froz (by show ¬ _ = _; first | assumption | omega) (v := .int .i64 0) (by first | exact c0_1 | (simp [go_sem, World.cell?_alloc_past, c0_0f, c0_1f, c0_2f, c0_3f, c0_0, c0_1, c0_2, c0_3, c1_0f, c1_1f, c1_2f, c1_3f, c1_0, c1_1, c1_2, c1_3, ne_c0_c1, ne_c1_c0, rc0, rc0a, rc0b, rc0c, rc0n, rc1, rc1a, rc1b, rc1c, rc1n]; done)) (by first | exact c0_1f | (simp [go_sem, World.cell?_alloc_past, c0_0f, c0_1f, c0_2f, c0_3f, c0_0, c0_1, c0_2, c0_3, c1_0f, c1_1f, c1_2f, c1_3f, c1_0, c1_1, c1_2, c1_3, ne_c0_c1, ne_c1_c0, rc0, rc0a, rc0b, rc0c, rc0n, rc1, rc1a, rc1b, rc1c, rc1n]; done))
  replace c0_2f : w2.frozen? ⟨w.heap.size, 2, none⟩ = false := hx2.froz (by show ¬ _ = _; first | assumption | omega) (v := .int .i64 0) (by first | exact c0_2 | (simp [go_sem, World.cell?_alloc_past, c0_0f, c0_1f, c0_2f, c0_3f, c0_0, c0_1, c0_2, c0_3, c1_0f, c1_1f, c1_2f, c1_3f, c1_0, c1_1, c1_2, c1_3, ne_c0_c1, ne_c1_c0, rc0, rc0a, rc0b, rc0c, rc0n, rc1, rc1a, rc1b, rc1c, rc1n]; done)) (by first | exact c0_2f | (simp [go_sem, World.cell?_alloc_past, c0_0f, c0_1f, c0_2f, c0_3f, c0_0, c0_1, c0_2, c0_3, c1_0f, c1_1f, c1_2f, c1_3f, c1_0, c1_1, c1_2, c1_3, ne_c0_c1, ne_c1_c0, rc0, rc0a, rc0b, rc0c, rc0n, rc1, rc1a, rc1b, rc1c, rc1n]; done))
  replace c0_3f : w2.frozen? ⟨w.heap.size, 3, none⟩ = false := hx2.froz (by show ¬ _ = _; first | assumption | omega) (v := .int .i64 0) (by first | exact c0_3 | (simp [go_sem, World.cell?_alloc_past, c0_0f, c0_1f, c0_2f, c0_3f, c0_0, c0_1, c0_2, c0_3, c1_0f, c1_1f, c1_2f, c1_3f, c1_0, c1_1, c1_2, c1_3, ne_c0_c1, ne_c1_c0, rc0, rc0a, rc0b, rc0c, rc0n, rc1, rc1a, rc1b, rc1c, rc1n]; done)) (by first | exact c0_3f | (simp [go_sem, World.cell?_alloc_past, c0_0f, c0_1f, c0_2f, c0_3f, c0_0, c0_1, c0_2, c0_3, c1_0f, c1_1f, c1_2f, c1_3f, c1_0, c1_1, c1_2, c1_3, ne_c0_c1, ne_c1_c0, rc0, rc0a, rc0b, rc0c, rc0n, rc1, rc1a, rc1b, rc1c, rc1n]; done))
  replace c0_0 : w2.cell? ⟨w.heap.size, 0, none⟩ = some (.int .i64 0) := hx2.has (by show ¬ _ = _; first | assumption | omega) (by first | exact c0_0 | (simp [go_sem, World.cell?_alloc_past, c0_0f, c0_1f, c0_2f, c0_3f, c0_0, c0_1, c0_2, c0_3, c1_0f, c1_1f, c1_2f, c1_3f, c1_0, c1_1, c1_2, c1_3, ne_c0_c1, ne_c1_c0, rc0, rc0a, rc0b, rc0c, rc0n, rc1, rc1a, rc1b, rc1c, rc1n]; done))
  replace c0_1 : w2.cell? ⟨w.heap.size, 1, none⟩ = some (.int .i64 0) := hx2.has (by show ¬ _ = _; first | assumption | omega) (by first | exact c0_1 | (simp [go_sem, World.cell?_alloc_past, c0_0f, c0_1f, c0_2f, c0_3f, c0_0, c0_1, c0_2, c0_3, c1_0f, c1_1f, c1_2f, c1_3f, c1_0, c1_1, c1_2, c1_3, ne_c0_c1, ne_c1_c0, rc0, rc0a, rc0b, rc0c, rc0n, rc1, rc1a, rc1b, rc1c, rc1n]; done))
  replace c0_2 : w2.cell? ⟨w.heap.size, 2, none⟩ = some (.int .i64 0) := hx2.has (by show ¬ _ = _; first | assumption | omega) (by first | exact c0_2 | (simp [go_sem, World.cell?_alloc_past, c0_0f, c0_1f, c0_2f, c0_3f, c0_0, c0_1, c0_2, c0_3, c1_0f, c1_1f, c1_2f, c1_3f, c1_0, c1_1, c1_2, c1_3, ne_c0_c1, ne_c1_c0, rc0, rc0a, rc0b, rc0c, rc0n, rc1, rc1a, rc1b, rc1c, rc1n]; done))
  replace c0_3 : w2.cell? ⟨w.heap.size, 3, none⟩ = some (.int .i64 0) := hx2.has (by show ¬ _ = _; first | assumption | omega) (by first | exact c0_3 | (simp [go_sem, World.cell?_alloc_past, c0_0f, c0_1f, c0_2f, c0_3f, c0_0, c0_1, c0_2, c0_3, c1_0f, c1_1f, c1_2f, c1_3f, c1_0, c1_1, c1_2, c1_3, ne_c0_c1, ne_c1_c0, rc0, rc0a, rc0b, rc0c, rc0n, rc1, rc1a, rc1b, rc1c, rc1n]; done))
  replace c1_1f : w2.frozen? ⟨w.heap.size + 1, 1, none⟩ = false := hx2.froz (by show ¬ _ = _; first | assumption | omega) (v := .int .i64 0) (by first | exact c1_1 | (simp [go_sem, World.cell?_alloc_past, c0_0f, c0_1f, c0_2f, c0_3f, c0_0, c0_1, c0_2, c0_3, c1_0f, c1_1f, c1_2f, c1_3f, c1_0, c1_1, c1_2, c1_3, ne_c0_c1, ne_c1_c0, rc0, rc0a, rc0b, rc0c, rc0n, rc1, rc1a, rc1b, rc1c, rc1n]; done)) (by first | exact c1_1f | (simp [go_sem, World.cell?_alloc_past, c0_0f, c0_1f, c0_2f, c0_3f, c0_0, c0_1, c0_2, c0_3, c1_0f, c1_1f, c1_2f, c1_3f, c1_0, c1_1, c1_2, c1_3, ne_c0_c1, ne_c1_c0, rc0, rc0a, rc0b, rc0c, rc0n, rc1, rc1a, rc1b, rc1c, rc1n]; done))
  replace c1_2f : w2.frozen? ⟨w.heap.size + 1, 2, none⟩ = false := hx2.froz (by show ¬ _ = _; first | assumption | omega) (v := .int .i64 0) (by first | exact c1_2 | (simp [go_sem, World.cell?_alloc_past, c0_0f, c0_1f, c0_2f, c0_3f, c0_0, c0_1, c0_2, c0_3, c1_0f, c1_1f, c1_2f, c1_3f, c1_0, c1_1, c1_2, c1_3, ne_c0_c1, ne_c1_c0, rc0, rc0a, rc0b, rc0c, rc0n, rc1, rc1a, rc1b, rc1c, rc1n]; done)) (by first | exact c1_2f | (simp [go_sem, World.cell?_alloc_past, c0_0f, c0_1f, c0_2f, c0_3f, c0_0, c0_1, c0_2, c0_3, c1_0f, c1_1f, c1_2f, c1_3f, c1_0, c1_1, c1_2, c1_3, ne_c0_c1, ne_c1_c0, rc0, rc0a, rc0b, rc0c, rc0n, rc1, rc1a, rc1b, rc1c, rc1n]; done))
  replace c1_3f : w2.frozen? ⟨w.heap.size + 1, 3, none⟩ = false := hx2.froz (by show ¬ _ = _; first | assumption | omega) (v := .int .i64 0) (by first | exact c1_3 | (simp [go_sem, World.cell?_alloc_past, c0_0f, c0_1f, c0_2f, c0_3f, c0_0, c0_1, c0_2, c0_3, c1_0f, c1_1f, c1_2f, c1_3f, c1_0, c1_1, c1_2, c1_3, ne_c0_c1, ne_c1_c0, rc0, rc0a, rc0b, rc0c, rc0n, rc1, rc1a, rc1b, rc1c, rc1n]; done)) (by first | exact c1_3f | (simp [go_sem, World.cell?_alloc_past, c0_0f, c0_1f, c0_2f, c0_3f, c0_0, c0_1, c0_2, c0_3, c1_0f, c1_1f, c1_2f, c1_3f, c1_0, c1_1, c1_2, c1_3, ne_c0_c1, ne_c1_c0, rc0, rc0a, rc0b, rc0c, rc0n, rc1, rc1a, rc1b, rc1c, rc1n]; done))
  replace c1_0 : w2.cell? ⟨w.heap.size + 1, 0, none⟩ = some (.int .i64 V) := hx2.has (by show ¬ _ = _; first | assumption | omega) (by first | exact c1_0 | (simp [go_sem, World.cell?_alloc_past, c0_0f, c0_1f, c0_2f, c0_3f, c0_0, c0_1, c0_2, c0_3, c1_0f, c1_1f, c1_2f, c1_3f, c1_0, c1_1, c1_2, c1_3, ne_c0_c1, ne_c1_c0, rc0, rc0a, rc0b, rc0c, rc0n, rc1, rc1a, rc1b, rc1c, rc1n]; done))
  replace c1_1 : w2.cell? ⟨w.heap.size + 1, 1, none⟩ = some (.int .i64 0) := hx2.has (by show ¬ _ = _; first | assumption | omega) (by first | exact c1_1 | (simp [go_sem, World.cell?_alloc_past, c0_0f, c0_1f, c0_2f, c0_3f, c0_0, c0_1, c0_2, c0_3, c1_0f, c1_1f, c1_2f, c1_3f, c1_0, c1_1, c1_2, c1_3, ne_c0_c1, ne_c1_c0, rc0, rc0a, rc0b, rc0c, rc0n, rc1, rc1a, rc1b, rc1c, rc1n]; done))
  replace c1_2 : w2.cell? ⟨w.heap.size + 1, 2, none⟩ = some (.int .i64 0) := hx2.has (by show ¬ _ = _; first | assumption | omega) (by first | exact c1_2 | (simp [go_sem, World.cell?_alloc_past, c0_0f, c0_1f, c0_2f, c0_3f, c0_0, c0_1, c0_2, c0_3, c1_0f, c1_1f, c1_2f, c1_3f, c1_0, c1_1, c1_2, c1_3, ne_c0_c1, ne_c1_c0, rc0, rc0a, rc0b, rc0c, rc0n, rc1, rc1a, rc1b, rc1c, rc1n]; done))
  replace c1_3 : w2.cell? ⟨w.heap.size + 1, 3, none⟩ = some (.int .i64 0) := hx2.has (by show ¬ _ = _; first | assumption | omega) (by first | exact c1_3 | (simp [go_sem, World.cell?_alloc_past, c0_0f, c0_1f, c0_2f, c0_3f, c0_0, c0_1, c0_2, c0_3, c1_0f, c1_1f, c1_2f, c1_3f, c1_0, c1_1, c1_2, c1_3, ne_c0_c1, ne_c1_c0, rc0, rc0a, rc0b, rc0c, rc0n, rc1, rc1a, rc1b, rc1c, rc1n]; done))
  have z2 := hx2.size
  try simp at z2
  replace rc0 : w.heap.size < w2.heap.size := by omega
  replace rc0a : w.heap.size < w2.heap.size + 1 := by omega
  replace rc0b : w.heap.size < w2.heap.size + 1 + 1 := by omega
  replace rc0c : w.heap.size < w2.heap.size + 1 + 1 + 1 := by omega
  replace rc0n : ¬ w.heap.size = w2.heap.size := by omega
  replace rc1 : w.heap.size + 1 < w2.heap.size := by omega
  replace rc1a : w.heap.size + 1 < w2.heap.size + 1 := by omega
  replace rc1b : w.heap.size + 1 < w2.heap.size + 1 + 1 := by omega
  replace rc1c : w.heap.size + 1 < w2.heap.size + 1 + 1 + 1 := by omega
  replace rc1n : ¬ w.heap.size + 1 = w2.heap.size := by omega
  have X2 : Hid (But (· = g) w w2) := Lib.hid (But.trans (by repeat (first | with_reducible exact X1.out | with_reducible refine But.drew ?_ | with_reducible refine But.drewN ?_ _ | with_reducible refine But.alloc ?_ _ | with_reducible refine But.setG ?_ _ | with_reducible refine But.setNew ?_ (by first | omega | (simp; done) | (simp; omega)) _)) hx2)
  clear HR
  have HR := Lib.hid hr
  clear c1_0f hsz2 X1 hx2 z2 hr
  go_wp2_with fail
  (with_reducible refine (C3.out _ (by repeat (first | with_reducible exact HR.out | with_reducible refine RRd.set ?_ (by omega) _ | with_reducible refine RRd.ext ?_ (Ext.alloc (Ext.refl _) _) | with_reducible refine RRd.ext ?_ (Ext.drew (Ext.refl _)) | with_reducible refine RRd.drewN ?_ _))).mono ?_)
  rintro e w3 ⟨rfl, hr, hx3⟩
  have hsz3 := hx3.size
  try simp at hsz3
  replace c0_0f : w3.frozen? ⟨w.heap.size, 0, none⟩ = false := hx3.froz (by show ¬ _ = _; first | assumption | omega) (v := .int .i64 0) (by first | exact c0_0 | (simp [go_sem, World.cell?_alloc_past, c0_0f, c0_1f, c0_2f, c0_3f, c0_0, c0_1, c0_2, c0_3, c1_1f, c1_2f, c1_3f, c1_0, c1_1, c1_2, c1_3, ne_c0_c1, ne_c1_c0, rc0, rc0a, rc0b, rc0c, rc0n, rc1, rc1a, rc1b, rc1c, rc1n]; done)) (by first | exact c0_0f | (simp [go_sem, World.cell?_alloc_past, c0_0f, c0_1f, c0_2f, c0_3f, c0_0, c0_1, c0_2, c0_3, c1_1f, c1_2f, c1_3f, c1_0, c1_1, c1_2, c1_3, ne_c0_c1, ne_c1_c0, rc0, rc0a, rc0b, rc0c, rc0n, rc1, rc1a, rc1b, rc1c, rc1n]; done))
  replace c0_1f : w3.frozen? ⟨w.heap.size, 1, none⟩ = false := hx3.froz (by show ¬ _ = _; first | assumption | omega) (v := .int .i64 0) (by first | exact c0_1 | (simp [go_sem, World.cell?_alloc_past, c0_0f, c0_1f, c0_2f, c0_3f, c0_0, c0_1, c0_2, c0_3, c1_1f, c1_2f, c1_3f, c1_0, c1_1, c1_2, c1_3, ne_c0_c1, ne_c1_c0, rc0, rc0a, rc0b, rc0c, rc0n, rc1, rc1a, rc1b, rc1c, rc1n]; done)) (by first | exact c0_1f | (simp [go_sem, World.cell?_alloc_past, c0_0f, c0_1f, c0_2f, c0_3f, c0_0, c0_1, c0_2, c0_3, c1_1f, c1_2f, c1_3f, c1_0, c1_1, c1_2, c1_3, ne_c0_c1, ne_c1_c0, rc0, rc0a, rc0b, rc0c, rc0n, rc1, rc1a, rc1b, rc1c, rc1n]; done))
  replace c0_2f : w3.frozen? ⟨w.heap.size, 2, none⟩ = false := hx3.froz (by show ¬ _ = _; first | assumption | omega) (v := .int .i64 0) (by first | exact c0_2 | (simp [go_sem, World.cell?_alloc_past, c0_0f, c0_1f, c0_2f, c0_3f, c0_0, c0_1, c0_2, c0_3, c1_1f, c1_2f, c1_3f, c1_0, c1_1, c1_2, c1_3, ne_c0_c1, ne_c1_c0, rc0, rc0a, rc0b, rc0c, rc0n, rc1, rc1a, rc1b, rc1c, rc1n]; done)) (by first | exact c0_2f | (simp [go_sem, World.cell?_alloc_past, c0_0f, c0_1f, c0_2f, c0_3f, c0_0, c0_1, c0_2, c0_3, c1_1f, c1_2f, c1_3f, c1_0, c1_1, c1_2, c1_3, ne_c0_c1, ne_c1_c0, rc0, rc0a, rc0b, rc0c, rc0n, rc1, rc1a, rc1b, rc1c, rc1n]; done))
  replace c0_3f : w3.frozen? ⟨w.heap.size, 3, none⟩ = false := hx3.froz (by show ¬ _ = _; first | assumption | omega) (v := .int .i64 0) (by first | exact c0_3 | (simp [go_sem, World.cell?_alloc_past, c0_0f, c0_1f, c0_2f, c0_3f, c0_0, c0_1, c0_2, c0_3, c1_1f, c1_2f, c1_3f, c1_0, c1_1, c1_2, c1_3, ne_c0_c1, ne_c1_c0, rc0, rc0a, rc0b, rc0c, rc0n, rc1, rc1a, rc1b, rc1c, rc1n]; done)) (by first | exact c0_3f | (simp [go_sem, World.cell?_alloc_past, c0_0f, c0_1f, c0_2f, c0_3f, c0_0, c0_1, c0_2, c0_3, c1_1f, c1_2f, c1_3f, c1_0, c1_1, c1_2, c1_3, ne_c0_c1, ne_c1_c0, rc0, rc0a, rc0b, rc0c, rc0n, rc1, rc1a, rc1b, rc1c, rc1n]; done))
  replace c0_0 : w3.cell? ⟨w.heap.size, 0, none⟩ = some (.int .i64 0) := hx3.has (by show ¬ _ = _; first | assumption | omega) (by first | exact c0_0 | (simp [go_sem, World.cell?_alloc_past, c0_0f, c0_1f, c0_2f, c0_3f, c0_0, c0_1, c0_2, c0_3, c1_1f, c1_2f, c1_3f, c1_0, c1_1, c1_2, c1_3, ne_c0_c1, ne_c1_c0, rc0, rc0a, rc0b, rc0c, rc0n, rc1, rc1a, rc1b, rc1c, rc1n]; done))
  replace c0_1 : w3.cell? ⟨w.heap.size, 1, none⟩ = some (.int .i64 0) := hx3.has (by show ¬ _ = _; first | assumption | omega) (by first | exact c0_1 | (simp [go_sem, World.cell?_alloc_past, c0_0f, c0_1f, c0_2f, c0_3f, c0_0, c0_1, c0_2, c0_3, c1_1f, c1_2f, c1_3f, c1_0, c1_1, c1_2, c1_3, ne_c0_c1, ne_c1_c0, rc0, rc0a, rc0b, rc0c, rc0n, rc1, rc1a, rc1b, rc1c, rc1n]; done))
  replace c0_2 : w3.cell? ⟨w.heap.size, 2, none⟩ = some (.int .i64 0) := hx3.has (by show ¬ _ = _; first | assumption | omega) (by first | exact c0_2 | (simp [go_sem, World.cell?_alloc_past, c0_0f, c0_1f, c0_2f, c0_3f, c0_0, c0_1, c0_2, c0_3, c1_1f, c1_2f, c1_3f, c1_0, c1_1, c1_2, c1_3, ne_c0_c1, ne_c1_c0, rc0, rc0a, rc0b, rc0c, rc0n, rc1, rc1a, rc1b, rc1c, rc1n]; done))
  replace c0_3 : w3.cell? ⟨w.heap.size, 3, none⟩ = some (.int .i64 0) := hx3.has (by show ¬ _ = _; first | assumption | omega) (by first | exact c0_3 | (simp [go_sem, World.cell?_alloc_past, c0_0f, c0_1f, c0_2f, c0_3f, c0_0, c0_1, c0_2, c0_3, c1_1f, c1_2f, c1_3f, c1_0, c1_1, c1_2, c1_3, ne_c0_c1, ne_c1_c0, rc0, rc0a, rc0b, rc0c, rc0n, rc1, rc1a, rc1b, rc1c, rc1n]; done))
  replace c1_2f : w3.frozen? ⟨w.heap.size + 1, 2, none⟩ = false := hx3.froz (by show ¬ _ = _; first | assumption | omega) (v := .int .i64 0) (by first | exact c1_2 | (simp [go_sem, World.cell?_alloc_past, c0_0f, c0_1f, c0_2f, c0_3f, c0_0, c0_1, c0_2, c0_3, c1_1f, c1_2f, c1_3f, c1_0, c1_1, c1_2, c1_3, ne_c0_c1, ne_c1_c0, rc0, rc0a, rc0b, rc0c, rc0n, rc1, rc1a, rc1b, rc1c, rc1n]; done)) (by first | exact c1_2f | (simp [go_sem, World.cell?_alloc_past, c0_0f, c0_1f, c0_2f, c0_3f, c0_0, c0_1, c0_2, c0_3, c1_1f, c1_2f, c1_3f, c1_0, c1_1, c1_2, c1_3, ne_c0_c1, ne_c1_c0, rc0, rc0a, rc0b, rc0c, rc0n, rc1, rc1a, rc1b, rc1c, rc1n]; done))
  replace c1_3f : w3.frozen? ⟨w.heap.size + 1, 3, none⟩ = false := hx3.froz (by show ¬ _ = _; first | assumption | omega) (v := .int .i64 0) (by first | exact c1_3 | (simp [go_sem, World.cell?_alloc_past, c0_0f, c0_1f, c0_2f, c0_3f, c0_0, c0_1, c0_2, c0_3, c1_1f, c1_2f, c1_3f, c1_0, c1_1, c1_2, c1_3, ne_c0_c1, ne_c1_c0, rc0, rc0a, rc0b, rc0c, rc0n, rc1, rc1a, rc1b, rc1c, rc1n]; done)) (by first | exact c1_3f | (simp [go_sem, World.cell?_alloc_past, c0_0f, c0_1f, c0_2f, c0_3f, c0_0, c0_1, c0_2, c0_3, c1_1f, c1_2f, c1_3f, c1_0, c1_1, c1_2, c1_3, ne_c0_c1, ne_c1_c0, rc0, rc0a, rc0b, rc0c, rc0n, rc1, rc1a, rc1b, rc1c, rc1n]; done))
  replace c1_0 : w3.cell? ⟨w.heap.size + 1, 0, none⟩ = some (.int .i64 V) := hx3.has (by show ¬ _ = _; first | assumption | omega) (by first | exact c1_0 | (simp [go_sem, World.cell?_alloc_past, c0_0f, c0_1f, c0_2f, c0_3f, c0_0, c0_1, c0_2, c0_3, c1_1f, c1_2f, c1_3f, c1_0, c1_1, c1_2, c1_3, ne_c0_c1, ne_c1_c0, rc0, rc0a, rc0b, rc0c, rc0n, rc1, rc1a, rc1b, rc1c, rc1n]; done))
  replace c1_1 : w3.cell? ⟨w.heap.size + 1, 1, none⟩ = some (.int .i64 S) := hx3.has (by show ¬ _ = _; first | assumption | omega) (by first | exact c1_1 | (simp [go_sem, World.cell?_alloc_past, c0_0f, c0_1f, c0_2f, c0_3f, c0_0, c0_1, c0_2, c0_3, c1_1f, c1_2f, c1_3f, c1_0, c1_1, c1_2, c1_3, ne_c0_c1, ne_c1_c0, rc0, rc0a, rc0b, rc0c, rc0n, rc1, rc1a, rc1b, rc1c, rc1n]; done))
  replace c1_2 : w3.cell? ⟨w.heap.size + 1, 2, none⟩ = some (.int .i64 0) := hx3.has (by show ¬ _ = _; first | assumption | omega) (by first | exact c1_2 | (simp [go_sem, World.cell?_alloc_past, c0_0f, c0_1f, c0_2f, c0_3f, c0_0, c0_1, c0_2, c0_3, c1_1f, c1_2f, c1_3f, c1_0, c1_1, c1_2, c1_3, ne_c0_c1, ne_c1_c0, rc0, rc0a, rc0b, rc0c, rc0n, rc1, rc1a, rc1b, rc1c, rc1n]; done))
  replace c1_3 : w3.cell? ⟨w.heap.size + 1, 3, none⟩ = some (.int .i64 0) := hx3.has (by show ¬ _ = _; first | assumption | omega) (by first | exact c1_3 | (simp [go_sem, World.cell?_alloc_past, c0_0f, c0_1f, c0_2f, c0_3f, c0_0, c0_1, c0_2, c0_3, c1_1f, c1_2f, c1_3f, c1_0, c1_1, c1_2, c1_3, ne_c0_c1, ne_c1_c0, rc0, rc0a, rc0b, rc0c, rc0n, rc1, rc1a, rc1b, rc1c, rc1n]; done))
  have z3 := hx3.size
  try simp at z3
  replace rc0 : w.heap.size < w3.heap.size := by omega
  replace rc0a : w.heap.size < w3.heap.size + 1 := by omega
  replace rc0b : w.heap.size < w3.heap.size + 1 + 1 := by omega
  replace rc0c : w.heap.size < w3.heap.size + 1 + 1 + 1 := by omega
  replace rc0n : ¬ w.heap.size = w3.heap.size := by omega
  replace rc1 : w.heap.size + 1 < w3.heap.size := by omega
  replace rc1a : w.heap.size + 1 < w3.heap.size + 1 := by omega
  replace rc1b : w.heap.size + 1 < w3.heap.size + 1 + 1 := by omega
  replace rc1c : w.heap.size + 1 < w3.heap.size + 1 + 1 + 1 := by omega
  replace rc1n : ¬ w.heap.size + 1 = w3.heap.size := by omega
  have X3 : Hid (But (· = g) w w3) := Lib.hid (But.trans (by repeat (first | with_reducible exact X2.out | with_reducible refine But.drew ?_ | with_reducible refine But.drewN ?_ _ | with_reducible refine But.alloc ?_ _ | with_reducible refine But.setG ?_ _ | with_reducible refine But.setNew ?_ (by first | omega | (simp; done) | (simp; omega)) _)) hx3)
  clear HR
  have HR := Lib.hid hr
  clear c1_1f hsz3 X2 hx3 z3 hr
  go_wp2_with fail
  (with_reducible refine (C4.out _ (by repeat (first | with_reducible exact HR.out | with_reducible refine RRd.set ?_ (by omega) _ | with_reducible refine RRd.ext ?_ (Ext.alloc (Ext.refl _) _) | with_reducible refine RRd.ext ?_ (Ext.drew (Ext.refl _)) | with_reducible refine RRd.drewN ?_ _))).mono ?_)
  rintro e w4 ⟨rfl, hr, hx4⟩
  have hsz4 := hx4.size
  try simp at hsz4
  replace c0_0f : w4.frozen? ⟨w.heap.size, 0, none⟩ = false := hx4.froz (by show ¬ _ = _; first | assumption | omega) (v := .int .i64 0) (by first | exact c0_0 | (simp [go_sem, World.cell?_alloc_past, c0_0f, c0_1f, c0_2f, c0_3f, c0_0, c0_1, c0_2, c0_3, c1_2f, c1_3f, c1_0, c1_1, c1_2, c1_3, ne_c0_c1, ne_c1_c0, rc0, rc0a, rc0b, rc0c, rc0n, rc1, rc1a, rc1b, rc1c, rc1n]; done)) (by first | exact c0_0f | (simp [go_sem, World.cell?_alloc_past, c0_0f, c0_1f, c0_2f, c0_3f, c0_0, c0_1, c0_2, c0_3, c1_2f, c1_3f, c1_0, c1_1, c1_2, c1_3, ne_c0_c1, ne_c1_c0, rc0, rc0a, rc0b, rc0c, rc0n, rc1, rc1a, rc1b, rc1c, rc1n]; done))
  replace c0_1f : w4.frozen? ⟨w.heap.size, 1, none⟩ = false := hx4.froz (by show ¬ _ = _; first | assumption | omega) (v := .int .i64 0) (by first | exact c0_1 | (simp [go_sem, World.cell?_alloc_past, c0_0f, c0_1f, c0_2f, c0_3f, c0_0, c0_1, c0_2, c0_3, c1_2f, c1_3f, c1_0, c1_1, c1_2, c1_3, ne_c0_c1, ne_c1_c0, rc0, rc0a, rc0b, rc0c, rc0n, rc1, rc1a, rc1b, rc1c, rc1n]; done)) (by first | exact c0_1f | (simp [go_sem, World.cell?_alloc_past, c0_0f, c0_1f, c0_2f, c0_3f, c0_0, c0_1, c0_2, c0_3, c1_2f, c1_3f, c1_0, c1_1, c1_2, c1_3, ne_c0_c1, ne_c1_c0, rc0, rc0a, rc0b, rc0c, rc0n, rc1, rc1a, rc1b, rc1c, rc1n]; done))
  replace c0_2f : w4.frozen? ⟨w.heap.size, 2, none⟩ = false := hx4.froz (by show ¬ _ = _; first | assumption | omega) (v := .int .i64 0) (by first | exact c0_2 | (simp [go_sem, World.cell?_alloc_past, c0_0f, c0_1f, c0_2f, c0_3f, c0_0, c0_1, c0_2, c0_3, c1_2f, c1_3f, c1_0, c1_1, c1_2, c1_3, ne_c0_c1, ne_c1_c0, rc0, rc0a, rc0b, rc0c, rc0n, rc1, rc1a, rc1b, rc1c, rc1n]; done)) (by first | exact c0_2f | (simp [go_sem, World.cell?_alloc_past, c0_0f, c0_1f, c0_2f, c0_3f, c0_0, c0_1, c0_2, c0_3, c1_2f, c1_3f, c1_0, c1_1, c1_2, c1_3, ne_c0_c1, ne_c1_c0, rc0, rc0a, rc0b, rc0c, rc0n, rc1, rc1a, rc1b, rc1c, rc1n]; done))
  replace c0_3f : w4.frozen? ⟨w.heap.size, 3, none⟩ = false := hx4.froz (by show ¬ _ = _; first | assumption | omega) (v := .int .i64 0) (by first | exact c0_3 | (simp [go_sem, World.cell?_alloc_past, c0_0f, c0_1f, c0_2f, c0_3f, c0_0, c0_1, c0_2, c0_3, c1_2f, c1_3f, c1_0, c1_1, c1_2, c1_3, ne_c0_c1, ne_c1_c0, rc0, rc0a, rc0b, rc0c, rc0n, rc1, rc1a, rc1b, rc1c, rc1n]; done)) (by first | exact c0_3f | (simp [go_sem, World.cell?_alloc_past, c0_0f, c0_1f, c0_2f, c0_3f, c0_0, c0_1, c0_2, c0_3, c1_2f, c1_3f, c1_0, c1_1, c1_2, c1_3, ne_c0_c1, ne_c1_c0, rc0, rc0a, rc0b, rc0c, rc0n, rc1, rc1a, rc1b, rc1c, rc1n]; done))
  replace c0_0 : w4.cell? ⟨w.heap.size, 0, none⟩ = some (.int .i64 0) := hx4.has (by show ¬ _ = _; first | assumption | omega) (by first | exact c0_0 | (simp [go_sem, World.cell?_alloc_past, c0_0f, c0_1f, c0_2f, c0_3f, c0_0, c0_1, c0_2, c0_3, c1_2f, c1_3f, c1_0, c1_1, c1_2, c1_3, ne_c0_c1, ne_c1_c0, rc0, rc0a, rc0b, rc0c, rc0n, rc1, rc1a, rc1b, rc1c, rc1n]; done))
  replace c0_1 : w4.cell? ⟨w.heap.size, 1, none⟩ = some (.int .i64 0) := hx4.has (by show ¬ _ = _; first | assumption | omega) (by first | exact c0_1 | (simp [go_sem, World.cell?_alloc_past, c0_0f, c0_1f, c0_2f, c0_3f, c0_0, c0_1, c0_2, c0_3, c1_2f, c1_3f, c1_0, c1_1, c1_2, c1_3, ne_c0_c1, ne_c1_c0, rc0, rc0a, rc0b, rc0c, rc0n, rc1, rc1a, rc1b, rc1c, rc1n]; done))
  replace c0_2 : w4.cell? ⟨w.heap.size, 2, none⟩ = some (.int .i64 0) := hx4.has (by show ¬ _ = _; first | assumption | omega) (by first | exact c0_2 | (simp [go_sem, World.cell?_alloc_past, c0_0f, c0_1f, c0_2f, c0_3f, c0_0, c0_1, c0_2, c0_3, c1_2f, c1_3f, c1_0, c1_1, c1_2, c1_3, ne_c0_c1, ne_c1_c0, rc0, rc0a, rc0b, rc0c, rc0n, rc1, rc1a, rc1b, rc1c, rc1n]; done))
  replace c0_3 : w4.cell? ⟨w.heap.size, 3, none⟩ = some (.int .i64 0) := hx4.has (by show ¬ _ = _; first | assumption | omega) (by first | exact c0_3 | (simp [go_sem, World.cell?_alloc_past, c0_0f, c0_1f, c0_2f, c0_3f, c0_0, c0_1, c0_2, c0_3, c1_2f, c1_3f, c1_0, c1_1, c1_2, c1_3, ne_c0_c1, ne_c1_c0, rc0, rc0a, rc0b, rc0c, rc0n, rc1, rc1a, rc1b, rc1c, rc1n]; done))
  replace c1_3f : w4.frozen? ⟨w.heap.size + 1, 3, none⟩ = false := hx4.froz (by show ¬ _ = _; first | assumption | omega) (v := .int .i64 0) (by first | exact c1_3 | (simp [go_sem, World.cell?_alloc_past, c0_0f, c0_1f, c0_2f, c0_3f, c0_0, c0_1, c0_2, c0_3, c1_2f, c1_3f, c1_0, c1_1, c1_2, c1_3, ne_c0_c1, ne_c1_c0, rc0, rc0a, rc0b, rc0c, rc0n, rc1, rc1a, rc1b, rc1c, rc1n]; done)) (by first | exact c1_3f | (simp [go_sem, World.cell?_alloc_past, c0_0f, c0_1f, c0_2f, c0_3f, c0_0, c0_1, c0_2, c0_3, c1_2f, c1_3f, c1_0, c1_1, c1_2, c1_3, ne_c0_c1, ne_c1_c0, rc0, rc0a, rc0b, rc0c, rc0n, rc1, rc1a, rc1b, rc1c, rc1n]; done))
  replace c1_0 : w4.cell? ⟨w.heap.size + 1, 0, none⟩ = some (.int .i64 V) := hx4.has (by show ¬ _ = _; first | assumption | omega) (by first | exact c1_0 | (simp [go_sem, World.cell?_alloc_past, c0_0f, c0_1f, c0_2f, c0_3f, c0_0, c0_1, c0_2, c0_3, c1_2f, c1_3f, c1_0, c1_1, c1_2, c1_3, ne_c0_c1, ne_c1_c0, rc0, rc0a, rc0b, rc0c, rc0n, rc1, rc1a, rc1b, rc1c, rc1n]; done))
  replace c1_1 : w4.cell? ⟨w.heap.size + 1, 1, none⟩ = some (.int .i64 S) := hx4.has (by show ¬ _ = _; first | assumption | omega) (by first | exact c1_1 | (simp [go_sem, World.cell?_alloc_past, c0_0f, c0_1f, c0_2f, c0_3f, c0_0, c0_1, c0_2, c0_3, c1_2f, c1_3f, c1_0, c1_1, c1_2, c1_3, ne_c0_c1, ne_c1_c0, rc0, rc0a, rc0b, rc0c, rc0n, rc1, rc1a, rc1b, rc1c, rc1n]; done))
  replace c1_2 : w4.cell? ⟨w.heap.size + 1, 2, none⟩ = some (.int .i64 (Q - 1)) := hx4.has (by show ¬ _ = _; first | assumption | omega) (by first | exact c1_2 | (simp [go_sem, World.cell?_alloc_past, c0_0f, c0_1f, c0_2f, c0_3f, c0_0, c0_1, c0_2, c0_3, c1_2f, c1_3f, c1_0, c1_1, c1_2, c1_3, ne_c0_c1, ne_c1_c0, rc0, rc0a, rc0b, rc0c, rc0n, rc1, rc1a, rc1b, rc1c, rc1n]; done))
  replace c1_3 : w4.cell? ⟨w.heap.size + 1, 3, none⟩ = some (.int .i64 0) := hx4.has (by show ¬ _ = _; first | assumption | omega) (by first | exact c1_3 | (simp [go_sem, World.cell?_alloc_past, c0_0f, c0_1f, c0_2f, c0_3f, c0_0, c0_1, c0_2, c0_3, c1_2f, c1_3f, c1_0, c1_1, c1_2, c1_3, ne_c0_c1, ne_c1_c0, rc0, rc0a, rc0b, rc0c, rc0n, rc1, rc1a, rc1b, rc1c, rc1n]; done))
  have z4 := hx4.size
  try simp at z4
  replace rc0 : w.heap.size < w4.heap.size := by omega
  replace rc0a : w.heap.size < w4.heap.size + 1 := by omega
  replace rc0b : w.heap.size < w4.heap.size + 1 + 1 := by omega
  replace rc0c : w.heap.size < w4.heap.size + 1 + 1 + 1 := by omega
  replace rc0n : ¬ w.heap.size = w4.heap.size := by omega
  replace rc1 : w.heap.size + 1 < w4.heap.size := by omega
  replace rc1a : w.heap.size + 1 < w4.heap.size + 1 := by omega
  replace rc1b : w.heap.size + 1 < w4.heap.size + 1 + 1 := by omega
  replace rc1c : w.heap.size + 1 < w4.heap.size + 1 + 1 + 1 := by omega
  replace rc1n : ¬ w.heap.size + 1 = w4.heap.size := by omega
  have X4 : Hid (But (· = g) w w4) := Lib.hid (But.trans (by repeat (first | with_reducible exact X3.out | with_reducible refine But.drew ?_ | with_reducible refine But.drewN ?_ _ | with_reducible refine But.alloc ?_ _ | with_reducible refine But.setG ?_ _ | with_reducible refine But.setNew ?_ (by first | omega | (simp; done) | (simp; omega)) _)) hx4)
  clear HR
  have HR := Lib.hid hr
  clear c1_2f hsz4 X3 hx4 z4 hr
  have g_2 := HR.out.c2
  change _ = some (Value.int .i64 0) at g_2
  go_wp2_with fail
  (with_reducible refine (CK.out _).mono ?_)
  rintro e w5 ⟨rfl, hx5⟩
  replace c0_0f : w5.frozen? ⟨w.heap.size, 0, none⟩ = false := hx5.froz (v := .int .i64 0) (by first | exact c0_0 | (simp [go_sem, World.cell?_alloc_past, c0_0f, c0_1f, c0_2f, c0_3f, c0_0, c0_1, c0_2, c0_3, c1_3f, c1_0, c1_1, c1_2, c1_3, ne_c0_c1, ne_c1_c0, rc0, rc0a, rc0b, rc0c, rc0n, rc1, rc1a, rc1b, rc1c, rc1n]; done)) (by first | exact c0_0f | (simp [go_sem, World.cell?_alloc_past, c0_0f, c0_1f, c0_2f, c0_3f, c0_0, c0_1, c0_2, c0_3, c1_3f, c1_0, c1_1, c1_2, c1_3, ne_c0_c1, ne_c1_c0, rc0, rc0a, rc0b, rc0c, rc0n, rc1, rc1a, rc1b, rc1c, rc1n]; done))
  replace c0_1f : w5.frozen? ⟨w.heap.size, 1, none⟩ = false := hx5.froz (v := .int .i64 0) (by first | exact c0_1 | (simp [go_sem, World.cell?_alloc_past, c0_0f, c0_1f, c0_2f, c0_3f, c0_0, c0_1, c0_2, c0_3, c1_3f, c1_0, c1_1, c1_2, c1_3, ne_c0_c1, ne_c1_c0, rc0, rc0a, rc0b, rc0c, rc0n, rc1, rc1a, rc1b, rc1c, rc1n]; done)) (by first | exact c0_1f | (simp [go_sem, World.cell?_alloc_past, c0_0f, c0_1f, c0_2f, c0_3f, c0_0, c0_1, c0_2, c0_3, c1_3f, c1_0, c1_1, c1_2, c1_3, ne_c0_c1, ne_c1_c0, rc0, rc0a, rc0b, rc0c, rc0n, rc1, rc1a, rc1b, rc1c, rc1n]; done))
  replace c0_2f : w5.frozen? ⟨w.heap.size, 2, none⟩ = false := hx5.froz (v := .int .i64 0) (by first | exact c0_2 | (simp [go_sem, World.cell?_alloc_past, c0_0f, c0_1f, c0_2f, c0_3f, c0_0, c0_1, c0_2, c0_3, c1_3f, c1_0, c1_1, c1_2, c1_3, ne_c0_c1, ne_c1_c0, rc0, rc0a, rc0b, rc0c, rc0n, rc1, rc1a, rc1b, rc1c, rc1n]; done)) (by first | exact c0_2f | (simp [go_sem, World.cell?_alloc_past, c0_0f, c0_1f, c0_2f, c0_3f, c0_0, c0_1, c0_2, c0_3, c1_3f, c1_0, c1_1, c1_2, c1_3, ne_c0_c1, ne_c1_c0, rc0, rc0a, rc0b, rc0c, rc0n, rc1, rc1a, rc1b, rc1c, rc1n]; done))
  replace c0_3f : w5.frozen? ⟨w.heap.size, 3, none⟩ = false := hx5.froz (v := .int .i64 0) (by first | exact c0_3 | (simp [go_sem, World.cell?_alloc_past, c0_0f, c0_1f, c0_2f, c0_3f, c0_0, c0_1, c0_2, c0_3, c1_3f, c1_0, c1_1, c1_2, c1_3, ne_c0_c1, ne_c1_c0, rc0, rc0a, rc0b, rc0c, rc0n, rc1, rc1a, rc1b, rc1c, rc1n]; done)) (by first | exact c0_3f | (simp [go_sem, World.cell?_alloc_past, c0_0f, c0_1f, c0_2f, c0_3f, c0_0, c0_1, c0_2, c0_3, c1_3f, c1_0, c1_1, c1_2, c1_3, ne_c0_c1, ne_c1_c0, rc0, rc0a, rc0b, rc0c, rc0n, rc1, rc1a, rc1b, rc1c, rc1n]; done))
  replace c0_0 : w5.cell? ⟨w.heap.size, 0, none⟩ = some (.int .i64 0) := hx5.has (by first | exact c0_0 | (simp [go_sem, World.cell?_alloc_past, c0_0f, c0_1f, c0_2f, c0_3f, c0_0, c0_1, c0_2, c0_3, c1_3f, c1_0, c1_1, c1_2, c1_3, ne_c0_c1, ne_c1_c0, rc0, rc0a, rc0b, rc0c, rc0n, rc1, rc1a, rc1b, rc1c, rc1n]; done))
  replace c0_1 : w5.cell? ⟨w.heap.size, 1, none⟩ = some (.int .i64 0) := hx5.has (by first | exact c0_1 | (simp [go_sem, World.cell?_alloc_past, c0_0f, c0_1f, c0_2f, c0_3f, c0_0, c0_1, c0_2, c0_3, c1_3f, c1_0, c1_1, c1_2, c1_3, ne_c0_c1, ne_c1_c0, rc0, rc0a, rc0b, rc0c, rc0n, rc1, rc1a, rc1b, rc1c, rc1n]; done))
  replace c0_2 : w5.cell? ⟨w.heap.size, 2, none⟩ = some (.int .i64 0) := hx5.has (by first | exact c0_2 | (simp [go_sem, World.cell?_alloc_past, c0_0f, c0_1f, c0_2f, c0_3f, c0_0, c0_1, c0_2, c0_3, c1_3f, c1_0, c1_1, c1_2, c1_3, ne_c0_c1, ne_c1_c0, rc0, rc0a, rc0b, rc0c, rc0n, rc1, rc1a, rc1b, rc1c, rc1n]; done))
  replace c0_3 : w5.cell? ⟨w.heap.size, 3, none⟩ = some (.int .i64 0) := hx5.has (by first | exact c0_3 | (simp [go_sem, World.cell?_alloc_past, c0_0f, c0_1f, c0_2f, c0_3f, c0_0, c0_1, c0_2, c0_3, c1_3f, c1_0, c1_1, c1_2, c1_3, ne_c0_c1, ne_c1_c0, rc0, rc0a, rc0b, rc0c, rc0n, rc1, rc1a, rc1b, rc1c, rc1n]; done))
  have z5 := hx5.size
  try simp at z5
  replace rc0 : w.heap.size < w5.heap.size := by omega
  replace rc0a : w.heap.size < w5.heap.size + 1 := by omega
  replace rc0b : w.heap.size < w5.heap.size + 1 + 1 := by omega
  replace rc0c : w.heap.size < w5.heap.size + 1 + 1 + 1 := by omega
  replace rc0n : ¬ w.heap.size = w5.heap.size := by omega
  have X5 : Hid (But (· = g) w w5) := Lib.hid (But.trans (by repeat (first | with_reducible exact X4.out | with_reducible refine But.drew ?_ | with_reducible refine But.drewN ?_ _ | with_reducible refine But.alloc ?_ _ | with_reducible refine But.setG ?_ _ | with_reducible refine But.setNew ?_ (by first | omega | (simp; done) | (simp; omega)) _)) (But.ofExt hx5))
  replace HR := Lib.hid (RRd.ext (g := g) (k := k4) (L := L) (flt := none) (by repeat (first | with_reducible exact HR.out | with_reducible refine RRd.set ?_ (by omega) _ | with_reducible refine RRd.ext ?_ (Ext.alloc (Ext.refl _) _) | with_reducible refine RRd.ext ?_ (Ext.drew (Ext.refl _)) | with_reducible refine RRd.drewN ?_ _)) hx5)
  clear c1_0 c1_3 c1_1 c1_3f c1_2 rc1 rc1a rc1b rc1c rc1n X4 hx5 z5
  go_wp2_with fail
  (with_reducible refine ((rFail_any g k4 L none E at_ _ (by repeat (first | with_reducible exact HR.out | with_reducible refine RRd.set ?_ (by omega) _ | with_reducible refine RRd.ext ?_ (Ext.alloc (Ext.refl _) _) | with_reducible refine RRd.ext ?_ (Ext.drew (Ext.refl _)) | with_reducible refine RRd.drewN ?_ _)))).mono ?_)
  rintro e w6 ⟨⟨v, rfl⟩, hr, hx6⟩
  have hsz6 := hx6.size
  try simp at hsz6
  replace c0_0f : w6.frozen? ⟨w.heap.size, 0, none⟩ = false := hx6.froz (by show ¬ _ = _; first | assumption | omega) (v := .int .i64 0) (by first | exact c0_0 | (simp [go_sem, World.cell?_alloc_past, c0_0f, c0_1f, c0_2f, c0_3f, c0_0, c0_1, c0_2, c0_3, rc0, rc0a, rc0b, rc0c, rc0n]; done)) (by first | exact c0_0f | (simp [go_sem, World.cell?_alloc_past, c0_0f, c0_1f, c0_2f, c0_3f, c0_0, c0_1, c0_2, c0_3, rc0, rc0a, rc0b, rc0c, rc0n]; done))
  replace c0_1f : w6.frozen? ⟨w.heap.size, 1, none⟩ = false := hx6.froz (by show ¬ _ = _; first | assumption | omega) (v := .int .i64 0) (by first | exact c0_1 | (simp [go_sem, World.cell?_alloc_past, c0_0f, c0_1f, c0_2f, c0_3f, c0_0, c0_1, c0_2, c0_3, rc0, rc0a, rc0b, rc0c, rc0n]; done)) (by first | exact c0_1f | (simp [go_sem, World.cell?_alloc_past, c0_0f, c0_1f, c0_2f, c0_3f, c0_0, c0_1, c0_2, c0_3, rc0, rc0a, rc0b, rc0c, rc0n]; done))
  replace c0_2f : w6.frozen? ⟨w.heap.size, 2, none⟩ = false := hx6.froz (by show ¬ _ = _; first | assumption | omega) (v := .int .i64 0) (by first | exact c0_2 | (simp [go_sem, World.cell?_alloc_past, c0_0f, c0_1f, c0_2f, c0_3f, c0_0, c0_1, c0_2, c0_3, rc0, rc0a, rc0b, rc0c, rc0n]; done)) (by first | exact c0_2f | (simp [go_sem, World.cell?_alloc_past, c0_0f, c0_1f, c0_2f, c0_3f, c0_0, c0_1, c0_2, c0_3, rc0, rc0a, rc0b, rc0c, rc0n]; done))
  replace c0_3f : w6.frozen? ⟨w.heap.size, 3, none⟩ = false := hx6.froz (by show ¬ _ = _; first | assumption | omega) (v := .int .i64 0) (by first | exact c0_3 | (simp [go_sem, World.cell?_alloc_past, c0_0f, c0_1f, c0_2f, c0_3f, c0_0, c0_1, c0_2, c0_3, rc0, rc0a, rc0b, rc0c, rc0n]; done)) (by first | exact c0_3f | (simp [go_sem, World.cell?_alloc_past, c0_0f, c0_1f, c0_2f, c0_3f, c0_0, c0_1, c0_2, c0_3, rc0, rc0a, rc0b, rc0c, rc0n]; done))
  replace c0_0 : w6.cell? ⟨w.heap.size, 0, none⟩ = some (.int .i64 0) := hx6.has (by show ¬ _ = _; first | assumption | omega) (by first | exact c0_0 | (simp [go_sem, World.cell?_alloc_past, c0_0f, c0_1f, c0_2f, c0_3f, c0_0, c0_1, c0_2, c0_3, rc0, rc0a, rc0b, rc0c, rc0n]; done))
  replace c0_1 : w6.cell? ⟨w.heap.size, 1, none⟩ = some (.int .i64 0) := hx6.has (by show ¬ _ = _; first | assumption | omega) (by first | exact c0_1 | (simp [go_sem, World.cell?_alloc_past, c0_0f, c0_1f, c0_2f, c0_3f, c0_0, c0_1, c0_2, c0_3, rc0, rc0a, rc0b, rc0c, rc0n]; done))
  replace c0_2 : w6.cell? ⟨w.heap.size, 2, none⟩ = some (.int .i64 0) := hx6.has (by show ¬ _ = _; first | assumption | omega) (by first | exact c0_2 | (simp [go_sem, World.cell?_alloc_past, c0_0f, c0_1f, c0_2f, c0_3f, c0_0, c0_1, c0_2, c0_3, rc0, rc0a, rc0b, rc0c, rc0n]; done))
  replace c0_3 : w6.cell? ⟨w.heap.size, 3, none⟩ = some (.int .i64 0) := hx6.has (by show ¬ _ = _; first | assumption | omega) (by first | exact c0_3 | (simp [go_sem, World.cell?_alloc_past, c0_0f, c0_1f, c0_2f, c0_3f, c0_0, c0_1, c0_2, c0_3, rc0, rc0a, rc0b, rc0c, rc0n]; done))
  have z6 := hx6.size
  try simp at z6
  replace rc0 : w.heap.size < w6.heap.size := by omega
  replace rc0a : w.heap.size < w6.heap.size + 1 := by omega
  replace rc0b : w.heap.size < w6.heap.size + 1 + 1 := by omega
  replace rc0c : w.heap.size < w6.heap.size + 1 + 1 + 1 := by omega
  replace rc0n : ¬ w.heap.size = w6.heap.size := by omega
  have X6 : Hid (But (· = g) w w6) := Lib.hid (But.trans (by repeat (first | with_reducible exact X5.out | with_reducible refine But.drew ?_ | with_reducible refine But.drewN ?_ _ | with_reducible refine But.alloc ?_ _ | with_reducible refine But.setG ?_ _ | with_reducible refine But.setNew ?_ (by first | omega | (simp; done) | (simp; omega)) _)) hx6)
  clear HR
  have HR := Lib.hid hr
  clear hsz6 X5 hx6 z6 hr
  clear g_2
  have hff : failF none E at_ = some (E, at_) := by unfold failF; simp [hE.out]
  rw [hff] at HR
  have g_2 := HR.out.c2
  change _ = some (Value.int .i64 E) at g_2
  have hz : (E == 0) = false := beq_false_of_ne hE.out
  have hz2 : (E != 0) = true := by simpa using hE.out
  go_wp2_with fail
  refine bodyPost_ret (v := .agg #[.int .i64 0, .int .i64 0, .int .i64 0, .int .i64 0]) (by simp [results, Tryz.results44, go_sem, World.cell?_alloc_past, c0_0f, c0_1f, c0_2f, c0_3f, c0_0, c0_1, c0_2, c0_3, rc0, rc0a, rc0b, rc0c, rc0n]; try rfl) rfl ⟨rfl, ?_, (by repeat (first | with_reducible exact X6.out | with_reducible refine But.drew ?_ | with_reducible refine But.drewN ?_ _ | with_reducible refine But.alloc ?_ _ | with_reducible refine But.setG ?_ _ | with_reducible refine But.setNew ?_ (by first | omega | (simp; done) | (simp; omega)) _))⟩
  have hr := HR.out
  repeat (first | with_reducible exact hr | with_reducible refine RRd.set ?_ (by omega) _ | (with_reducible refine RRd.ext ?_ (Ext.alloc (Ext.refl _) _)))
theorem fltB_some {x : Int × Int} {k n : Nat} (h : ¬ x.1 = 0) : fltB (some x) k n = true := by
  unfold fltB leftF endF
  simp [h]
theorem fltB_none {k n : Nat} : fltB none k n = false := by
  unfold fltB leftF endF
  simp only
  by_cases h : k < n
  · rw [if_pos h]; simp; omega
  · rw [if_neg h]; simp
theorem rTake12_any (g k : Nat) (L : List Nat) (f : Option (Int × Int)) (hL : L.length < 1099511627776) (w : World) (h : RRd w g L k f) :
    Calls Tryz.prog 44 #[.pointer (some ⟨g, 0, none⟩)] w fun r w' => r = .returned (.agg #[.int .i64 (if tkZ L (k, f) = true then 0 else tkA L (k, f)), .int .i64 (if tkZ L (k, f) = true then 0 else tkB L (k, f)), .int .i64 (if tkZ L (k, f) = true then 0 else tkC L (k, f) - 1), .int .i64 (if tkZ L (k, f) = true then 0 else tkD L (k, f))]) ∧
      RRd w' g L (tk4 L (k, f)).1 (tkF L (k, f)) ∧ But (· = g) w w' := by
  have hq := rnV_bound L (tk2 L (k, f)).1 (tk2 L (k, f)).2 0 32 (by decide)
  have CA := Lib.hid fun w h => rAt_any g k L f w h
  have C1 := Lib.hid fun w h => rN_any g k L f 0 31 (by decide) (by decide) (by decide) (by decide) hL w h
  have C2 := Lib.hid fun w h => rN_any g (tk1 L (k, f)).1 L (tk1 L (k, f)).2 1 4294967296 (by decide) (by decide) (by decide) (by decide) hL w h
  have C3 := Lib.hid fun w h => rN_any g (tk2 L (k, f)).1 L (tk2 L (k, f)).2 0 32 (by decide) (by decide) (by decide) (by decide) hL w h
  have C4 := fun w h => rN_any g (tk3 L (k, f)).1 L (tk3 L (k, f)).2 0 4294967296 (by decide) (by decide) (by decide) (by decide) hL w h
  change ∀ w h, Calls _ _ _ _ (fun r w' => _ ∧ RRd w' g L (tk4 L (k, f)).1 (tk4 L (k, f)).2 ∧ _) at C4
  have z4 : FltNz (tk4 L (k, f)).2 := (((h.nz.rn L _ _ _).rn L _ _ _).rn L _ _ _).rn L _ _ _
  have CK := fun w => rCheck12_any (tkA L (k, f)) (tkB L (k, f)) (tkC L (k, f) - 1) (tkD L (k, f)) w
  unfold tkZ tkF
  cases hf : (tk4 L (k, f)).2 with
  | some x =>
    rw [hf] at C4
    have hx := z4 x hf
    rw [fltB_some hx]
    simp only [if_true]
    rw [fltB_some hx]
    simp only [if_true]
    exact rTake12_some g k (tk1 L (k, f)).1 (tk2 L (k, f)).1 (tk3 L (k, f)).1 (tk4 L (k, f)).1 L f (tk1 L (k, f)).2 (tk2 L (k, f)).2 (tk3 L (k, f)).2 (atF f k) _ _ _ _ x hq.1 hq.2 CA C1 C2 C3 (Lib.hid C4) w h
  | none =>
    rw [hf] at C4
    rw [fltB_none]
    simp only [Bool.false_eq_true, if_false]
    by_cases he : chkS (tkA L (k, f)) (tkB L (k, f)) (tkC L (k, f) - 1) (tkD L (k, f)) = 0
    · rw [he] at CK ⊢
      rw [failF_ok, fltB_none]
      simp only [Bool.false_eq_true, if_false]
      exact rTake12_ok g k (tk1 L (k, f)).1 (tk2 L (k, f)).1 (tk3 L (k, f)).1 (tk4 L (k, f)).1 L f (tk1 L (k, f)).2 (tk2 L (k, f)).2 (tk3 L (k, f)).2 (atF f k) _ _ _ _ hq.1 hq.2 CA C1 C2 C3 (Lib.hid C4) (Lib.hid CK) w h
    · generalize chkS (tkA L (k, f)) (tkB L (k, f)) (tkC L (k, f) - 1) (tkD L (k, f)) = E at *
      have e1 : failF none E (atF f k) = some (E, atF f k) := by unfold failF; simp [he]
      rw [e1, fltB_some he]
      simp only [if_true]
      exact rTake12_bad g k (tk1 L (k, f)).1 (tk2 L (k, f)).1 (tk3 L (k, f)).1 (tk4 L (k, f)).1 L f (tk1 L (k, f)).2 (tk2 L (k, f)).2 (tk3 L (k, f)).2 (atF f k) _ _ _ _ E (Lib.hid he) hq.1 hq.2 CA C1 C2 C3 (Lib.hid C4) (Lib.hid CK) w h
end
section
open Go.RowKit
/-- a writer behind a number -/
def wnS (lim : Int) (s : Int × List Nat) (n : Int) : Int × List Nat := (wNE lim s.1 s.2 n, wNL lim s.1 s.2 n)
def wnAll (lim : Int) (s : Int × List Nat) (l : List Int) : Int × List Nat := l.foldl (wnS lim) s
theorem wnS_err {lim : Int} {s : Int × List Nat} {n : Int} (h : ¬ s.1 = 0) : wnS lim s n = s := by
  unfold wnS wNE wNL
  rw [if_neg h, if_neg h]
theorem wnAll_err {lim : Int} {s : Int × List Nat} (h : ¬ s.1 = 0) : ∀ l, wnAll lim s l = s := by
  intro l
  induction l with
  | nil => rfl
  | cons n l ih => show wnAll lim (wnS lim s n) l = s; rw [wnS_err h]; exact ih
theorem wnAll_snoc (lim : Int) (s : Int × List Nat) (l : List Int) (n : Int) : wnAll lim s (l ++ [n]) = wnS lim (wnAll lim s l) n := by
  unfold wnAll; rw [List.foldl_append]; rfl
theorem wnAll_append (lim : Int) (s : Int × List Nat) (l m : List Int) : wnAll lim s (l ++ m) = wnAll lim (wnAll lim s l) m := by
  unfold wnAll; rw [List.foldl_append]
/-- what a Put of a stamp makes of a writer; what it answers -/
def putST (lim : Int) (s : Int × List Nat) (V S P F : Int) : Int × List Nat := if chkS V S P F = 0 then wnAll lim s (stL V S P F) else s
def putRE (lim : Int) (s : Int × List Nat) (V S P F : Int) : Int := if chkS V S P F = 0 then (wnAll lim s (stL V S P F)).1 else chkS V S P F

theorem done_out {L : List Nat} {E : Int} {r : Ending} {w w' : World} (h : ByErr L E w r w') : ∃ v, r = .returned (.tuple #[v, .int .i64 E]) ∧ Ext w w' := by
  obtain ⟨v, h1, _, h2⟩ := h
  exact ⟨v, h1, h2⟩
set_option maxRecDepth 100000 in
set_option maxHeartbeats 4000000 in
theorem tPut_badF (g : Nat) (lim err : Int) (L : List Nat) (V S P F E : Int) (hE : chkS V S P F = E) (he : ¬ E = 0) (h1 : ¬ err = 1) (w : World) (h : Wr w g lim err L) :
    Calls Tryz.prog 22 #[.pointer (some ⟨g, 0, none⟩), .agg #[.int .i64 V, .int .i64 S, .int .i64 P, .int .i64 F]] w fun r w' => r = .returned (.int .i64 E) ∧ Wr w' g lim err L ∧ Ext w w' := by
  have CK := fun w => tCheck_any V S P F w
  rw [hE] at CK
  replace CK := Lib.hid CK
  have hb : (E == 0) = false := beq_false_of_ne he
  have hb2 : (E != 0) = true := by simpa using he
  have h1b : (err == 1) = false := beq_false_of_ne h1
  have HW := Lib.hid h
  clear hE he h1 h
  go_enter Tryz.func22, Tryz.ntmps22
  go_wp2_with fail
  (with_reducible refine ((Calls.mono (cDone_any g lim err L _ (HW.out.ext (by repeat (first | with_reducible exact Ext.refl _ | with_reducible refine Ext.drew ?_ | with_reducible refine Ext.drewN ?_ _ | with_reducible refine Ext.alloc ?_ _ | with_reducible refine Ext.setCell ?_ (by first | omega | (simp; done) | (simp; omega)) _)))) fun r w' h => done_out h)).mono ?_)
  rintro e w1 ⟨v, rfl, hx1⟩
  have c0_0 : w1.cell? ⟨w.heap.size, 0, none⟩ = some (.int .i64 V) := hx1.has (by first | fail | (simp [go_sem, World.cell?_alloc_past]; done))
  have c0_1 : w1.cell? ⟨w.heap.size, 1, none⟩ = some (.int .i64 S) := hx1.has (by first | fail | (simp [go_sem, World.cell?_alloc_past]; done))
  have c0_2 : w1.cell? ⟨w.heap.size, 2, none⟩ = some (.int .i64 P) := hx1.has (by first | fail | (simp [go_sem, World.cell?_alloc_past]; done))
  have c0_3 : w1.cell? ⟨w.heap.size, 3, none⟩ = some (.int .i64 F) := hx1.has (by first | fail | (simp [go_sem, World.cell?_alloc_past]; done))
  have z1 := hx1.size
  try simp at z1
  have rc0 : w.heap.size < w1.heap.size := by omega
  have rc0a : w.heap.size < w1.heap.size + 1 := by omega
  have rc0b : w.heap.size < w1.heap.size + 1 + 1 := by omega
  have rc0c : w.heap.size < w1.heap.size + 1 + 1 + 1 := by omega
  have rc0n : ¬ w.heap.size = w1.heap.size := by omega
  replace HW := Lib.hid (HW.out.ext (Ext.trans (by repeat (first | with_reducible exact Ext.refl _ | with_reducible refine Ext.drew ?_ | with_reducible refine Ext.drewN ?_ _ | with_reducible refine Ext.alloc ?_ _ | with_reducible refine Ext.setCell ?_ (by first | omega | (simp; done) | (simp; omega)) _)) hx1))
  have X1 : Hid (Ext w w1) := Lib.hid (Ext.trans (by repeat (first | with_reducible exact Ext.refl w | with_reducible refine Ext.drew ?_ | with_reducible refine Ext.drewN ?_ _ | with_reducible refine Ext.alloc ?_ _ | with_reducible refine Ext.setCell ?_ (by first | omega | (simp; done) | (simp; omega)) _)) hx1)
  clear hx1 z1
  go_wp2_with fail
  (with_reducible refine (CK.out _).mono ?_)
  rintro e w2 ⟨rfl, hx2⟩
  have z2 := hx2.size
  try simp at z2
  replace HW := Lib.hid (HW.out.ext (Ext.trans (by repeat (first | with_reducible exact Ext.refl _ | with_reducible refine Ext.drew ?_ | with_reducible refine Ext.drewN ?_ _ | with_reducible refine Ext.alloc ?_ _ | with_reducible refine Ext.setCell ?_ (by first | omega | (simp; done) | (simp; omega)) _)) hx2))
  have X2 : Hid (Ext w w2) := Lib.hid (Ext.trans (by repeat (first | with_reducible exact X1.out | with_reducible refine Ext.drew ?_ | with_reducible refine Ext.drewN ?_ _ | with_reducible refine Ext.alloc ?_ _ | with_reducible refine Ext.setCell ?_ (by first | omega | (simp; done) | (simp; omega)) _)) hx2)
  clear c0_1 c0_2 c0_3 c0_0 rc0 rc0a rc0b rc0c rc0n X1 hx2 z2
  go_wp2_with fail
  go_ret
  exact ⟨rfl, HW.out.ext (by repeat (first | with_reducible exact Ext.refl _ | with_reducible refine Ext.drew ?_ | with_reducible refine Ext.drewN ?_ _ | with_reducible refine Ext.alloc ?_ _ | with_reducible refine Ext.setCell ?_ (by first | omega | (simp; done) | (simp; omega)) _)), (by repeat (first | with_reducible exact X2.out | with_reducible refine Ext.drew ?_ | with_reducible refine Ext.drewN ?_ _ | with_reducible refine Ext.alloc ?_ _ | with_reducible refine Ext.setCell ?_ (by first | omega | (simp; done) | (simp; omega)) _))⟩
set_option maxRecDepth 100000 in
set_option maxHeartbeats 4000000 in
theorem tPut_okF (g : Nat) (lim err : Int) (L : List Nat) (V S P F : Int) (hk : StampOk V S P F) (h1 : ¬ err = 1) (w : World) (h : Wr w g lim err L) :
    Calls Tryz.prog 22 #[.pointer (some ⟨g, 0, none⟩), .agg #[.int .i64 V, .int .i64 S, .int .i64 P, .int .i64 F]] w fun r w' => r = .returned (.int .i64 (wnAll lim (err, L) (stL V S P F)).1) ∧ Wr w' g lim (wnAll lim (err, L) (stL V S P F)).1 (wnAll lim (err, L) (stL V S P F)).2 ∧ WF g 0 w w' := by
  have CK := fun w => tCheck_any V S P F w
  rw [chkS_of hk] at CK
  replace CK := Lib.hid CK
  have h1b : (err == 1) = false := beq_false_of_ne h1
  obtain ⟨s0, hs0⟩ : ∃ s : Int × List Nat, s = (err, L) := ⟨_, rfl⟩
  have HS0 := Lib.hid hs0
  rw [← hs0]
  clear hs0
  have HW := Lib.hid h
  have lt := Lib.hid h.lt
  have HK := Lib.hid hk
  have hP0 := hk.p0
  have hP1 := hk.p1
  clear h1 h hk
  have i0 : ∀ w : World, (Instr.index 97 (.agg #[.int .i64 V, .int .i64 S, .int .i64 (P + 1), .int .i64 F]) (.int .i64 0)).run Tryz.prog w = .ok (.int .i64 V) w := fun _ => by kernel_rfl
  have i1 : ∀ w : World, (Instr.index 97 (.agg #[.int .i64 V, .int .i64 S, .int .i64 (P + 1), .int .i64 F]) (.int .i64 1)).run Tryz.prog w = .ok (.int .i64 S) w := fun _ => by kernel_rfl
  have i2 : ∀ w : World, (Instr.index 97 (.agg #[.int .i64 V, .int .i64 S, .int .i64 (P + 1), .int .i64 F]) (.int .i64 2)).run Tryz.prog w = .ok (.int .i64 (P + 1)) w := fun _ => by kernel_rfl
  have i3 : ∀ w : World, (Instr.index 97 (.agg #[.int .i64 V, .int .i64 S, .int .i64 (P + 1), .int .i64 F]) (.int .i64 3)).run Tryz.prog w = .ok (.int .i64 F) w := fun _ => by kernel_rfl
  go_enter Tryz.func22, Tryz.ntmps22
  go_wp2_with fail
  (with_reducible refine ((Calls.mono (cDone_any g lim err L _ (HW.out.ext (by repeat (first | with_reducible exact Ext.refl _ | with_reducible refine Ext.drew ?_ | with_reducible refine Ext.drewN ?_ _ | with_reducible refine Ext.alloc ?_ _ | with_reducible refine Ext.setCell ?_ (by first | omega | (simp; done) | (simp; omega)) _)))) fun r w' h => done_out h)).mono ?_)
  rintro e w1 ⟨v, rfl, hx1⟩
  have c0_0 : w1.cell? ⟨w.heap.size, 0, none⟩ = some (.int .i64 V) := hx1.has (by first | fail | (simp [go_sem, World.cell?_alloc_past]; done))
  have c0_1 : w1.cell? ⟨w.heap.size, 1, none⟩ = some (.int .i64 S) := hx1.has (by first | fail | (simp [go_sem, World.cell?_alloc_past]; done))
  have c0_2 : w1.cell? ⟨w.heap.size, 2, none⟩ = some (.int .i64 P) := hx1.has (by first | fail | (simp [go_sem, World.cell?_alloc_past]; done))
  have c0_3 : w1.cell? ⟨w.heap.size, 3, none⟩ = some (.int .i64 F) := hx1.has (by first | fail | (simp [go_sem, World.cell?_alloc_past]; done))
  have z1 := hx1.size
  try simp at z1
  have rc0 : w.heap.size < w1.heap.size := by omega
  have rc0a : w.heap.size < w1.heap.size + 1 := by omega
  have rc0b : w.heap.size < w1.heap.size + 1 + 1 := by omega
  have rc0c : w.heap.size < w1.heap.size + 1 + 1 + 1 := by omega
  have rc0n : ¬ w.heap.size = w1.heap.size := by omega
  replace HW := Lib.hid (HW.out.ext (Ext.trans (by repeat (first | with_reducible exact Ext.refl _ | with_reducible refine Ext.drew ?_ | with_reducible refine Ext.drewN ?_ _ | with_reducible refine Ext.alloc ?_ _ | with_reducible refine Ext.setCell ?_ (by first | omega | (simp; done) | (simp; omega)) _)) hx1))
  have X1 : Hid (Ext w w1) := Lib.hid (Ext.trans (by repeat (first | with_reducible exact Ext.refl w | with_reducible refine Ext.drew ?_ | with_reducible refine Ext.drewN ?_ _ | with_reducible refine Ext.alloc ?_ _ | with_reducible refine Ext.setCell ?_ (by first | omega | (simp; done) | (simp; omega)) _)) hx1)
  clear hx1 z1
  go_wp2_with fail
  (with_reducible refine (CK.out _).mono ?_)
  rintro e w2 ⟨rfl, hx2⟩
  replace c0_0 : w2.cell? ⟨w.heap.size, 0, none⟩ = some (.int .i64 V) := hx2.has (by first | exact c0_0 | (simp [go_sem, World.cell?_alloc_past, c0_0, c0_1, c0_2, c0_3, rc0, rc0a, rc0b, rc0c, rc0n]; done))
  replace c0_1 : w2.cell? ⟨w.heap.size, 1, none⟩ = some (.int .i64 S) := hx2.has (by first | exact c0_1 | (simp [go_sem, World.cell?_alloc_past, c0_0, c0_1, c0_2, c0_3, rc0, rc0a, rc0b, rc0c, rc0n]; done))
  replace c0_2 : w2.cell? ⟨w.heap.size, 2, none⟩ = some (.int .i64 P) := hx2.has (by first | exact c0_2 | (simp [go_sem, World.cell?_alloc_past, c0_0, c0_1, c0_2, c0_3, rc0, rc0a, rc0b, rc0c, rc0n]; done))
  replace c0_3 : w2.cell? ⟨w.heap.size, 3, none⟩ = some (.int .i64 F) := hx2.has (by first | exact c0_3 | (simp [go_sem, World.cell?_alloc_past, c0_0, c0_1, c0_2, c0_3, rc0, rc0a, rc0b, rc0c, rc0n]; done))
  have z2 := hx2.size
  try simp at z2
  replace rc0 : w.heap.size < w2.heap.size := by omega
  replace rc0a : w.heap.size < w2.heap.size + 1 := by omega
  replace rc0b : w.heap.size < w2.heap.size + 1 + 1 := by omega
  replace rc0c : w.heap.size < w2.heap.size + 1 + 1 + 1 := by omega
  replace rc0n : ¬ w.heap.size = w2.heap.size := by omega
  replace HW := Lib.hid (HW.out.ext (Ext.trans (by repeat (first | with_reducible exact Ext.refl _ | with_reducible refine Ext.drew ?_ | with_reducible refine Ext.drewN ?_ _ | with_reducible refine Ext.alloc ?_ _ | with_reducible refine Ext.setCell ?_ (by first | omega | (simp; done) | (simp; omega)) _)) hx2))
  have X2 : Hid (Ext w w2) := Lib.hid (Ext.trans (by repeat (first | with_reducible exact X1.out | with_reducible refine Ext.drew ?_ | with_reducible refine Ext.drewN ?_ _ | with_reducible refine Ext.alloc ?_ _ | with_reducible refine Ext.setCell ?_ (by first | omega | (simp; done) | (simp; omega)) _)) hx2)
  clear X1 hx2 z2
  go_wp2_with fail
  go_loopg [34] 4 (fun gh i wx => gh ≤ 4 ∧ i = .int .i64 ((4 - gh : Nat) : Int) ∧ Wr wx g lim (wnAll lim s0 ((stL V S P F).take (4 - gh))).1 (wnAll lim s0 ((stL V S P F).take (4 - gh))).2 ∧ (gh < 4 → (wnAll lim s0 ((stL V S P F).take (4 - gh))).1 = 0) ∧ WF g 0 w wx)
  case atStart => exact ⟨Nat.le_refl _, by simp, by rw [Nat.sub_self, List.take_zero, HS0.out]; exact HW.out, fun hh => absurd hh (by omega), WF.ofExt X2.out lt.out⟩
  case round =>
    obtain ⟨hg, hi, hw, hz, hb⟩ := hrel
    have HB := Lib.hid hb
    have HX := Lib.hid hw
    have HZ := Lib.hid hz
    clear hw hb hz
    have step : ∀ (k : Nat) (x : Int), (stL V S P F)[k]? = some x → 4 - gk = k → 0 ≤ x → x ≤ 4294967296 → ∃ (E : Int) (M : List Nat), wnAll lim s0 ((stL V S P F).take (k + 1)) = (E, M) ∧ Hid (Calls Tryz.prog 21 #[.pointer (some ⟨g, 0, none⟩), .int .i64 x] wr fun r w' => r = .returned (.int .i64 E) ∧ Wr w' g lim E M ∧ WF g 0 wr w') := by
      intro k x hx hgk x0 x1
      have hX := HX.out
      rw [hgk] at hX
      have C := cWN_anyF g lim _ _ x (by omega) (by omega) wr hX
      refine ⟨_, _, ?_, C⟩
      obtain ⟨hkl, hkx⟩ := List.getElem?_eq_some_iff.1 hx
      rw [List.take_succ_eq_append_getElem hkl, wnAll_snoc, hkx]
      rfl
    have hv := HK.out.v0; have hv1 := HK.out.v1; have hs0 := HK.out.s0; have hs1 := HK.out.s1; have hf0 := HK.out.f0; have hf1 := HK.out.f1
    have hcase : gk = 0 ∨ gk = 4 ∨ gk = 3 ∨ gk = 2 ∨ gk = 1 := by omega
    rcases hcase with rfl | rfl | rfl | rfl | rfl
    · change _ = Value.int .i64 4 at hi
      obtain rfl := hi
      clear step
      have h4 : (stL V S P F).take (4 - 0) = stL V S P F := rfl
      have hz := HZ.out (by decide)
      have hw := HX.out
      rw [h4] at hz hw
      have HF := Lib.hid (And.intro hz hw)
      clear hz hw
      go_wp2
      go_ret
      exact ⟨ret_int HF.out.1.symm, HF.out.2, HB.out⟩
    · change _ = Value.int .i64 0 at hi
      obtain rfl := hi
      obtain ⟨E, M, hEM, C⟩ := step 0 V rfl rfl (by omega) (by omega)
      have HE := Lib.hid hEM
      clear step hv hv1 hs0 hs1 hf0 hf1 hEM
      by_cases he : E = 0
      · subst he
        go_wp2_with fail
        (with_reducible refine C.out.mono ?_)
        rintro r w3 ⟨rfl, hw3, hb3⟩
        have W3 := Lib.hid (And.intro hw3 (HB.out.trans hb3))
        clear hw3 hb3 C
        go_wp2_with fail
        go_roundg 3
        case measure => decide
        case rel => exact ⟨by decide, rfl, by rw [show 4 - 3 = 0 + 1 from rfl, HE.out]; exact W3.out.1, fun _ => by rw [show 4 - 3 = 0 + 1 from rfl, HE.out], W3.out.2⟩
      · have heb : (E == 0) = false := beq_false_of_ne he
        have heb2 : (E != 0) = true := by simpa using he
        have HN := Lib.hid he
        clear he
        go_wp2_with fail
        (with_reducible refine C.out.mono ?_)
        rintro r w3 ⟨rfl, hw3, hb3⟩
        have W3 := Lib.hid (And.intro hw3 (HB.out.trans hb3))
        clear hw3 hb3 C
        go_wp2_with fail
        go_ret
        have hall : wnAll lim s0 (stL V S P F) = (E, M) := by
          have h5 := wnAll_append lim s0 ((stL V S P F).take (0 + 1)) ((stL V S P F).drop (0 + 1))
          rw [List.take_append_drop, HE.out, wnAll_err (s := (E, M)) HN.out] at h5
          exact h5
        rw [hall]
        exact ⟨rfl, W3.out.1, W3.out.2⟩
    · change _ = Value.int .i64 1 at hi
      obtain rfl := hi
      obtain ⟨E, M, hEM, C⟩ := step 1 S rfl rfl (by omega) (by omega)
      have HE := Lib.hid hEM
      clear step hv hv1 hs0 hs1 hf0 hf1 hEM
      by_cases he : E = 0
      · subst he
        go_wp2_with fail
        (with_reducible refine C.out.mono ?_)
        rintro r w3 ⟨rfl, hw3, hb3⟩
        have W3 := Lib.hid (And.intro hw3 (HB.out.trans hb3))
        clear hw3 hb3 C
        go_wp2_with fail
        go_roundg 2
        case measure => decide
        case rel => exact ⟨by decide, rfl, by rw [show 4 - 2 = 1 + 1 from rfl, HE.out]; exact W3.out.1, fun _ => by rw [show 4 - 2 = 1 + 1 from rfl, HE.out], W3.out.2⟩
      · have heb : (E == 0) = false := beq_false_of_ne he
        have heb2 : (E != 0) = true := by simpa using he
        have HN := Lib.hid he
        clear he
        go_wp2_with fail
        (with_reducible refine C.out.mono ?_)
        rintro r w3 ⟨rfl, hw3, hb3⟩
        have W3 := Lib.hid (And.intro hw3 (HB.out.trans hb3))
        clear hw3 hb3 C
        go_wp2_with fail
        go_ret
        have hall : wnAll lim s0 (stL V S P F) = (E, M) := by
          have h5 := wnAll_append lim s0 ((stL V S P F).take (1 + 1)) ((stL V S P F).drop (1 + 1))
          rw [List.take_append_drop, HE.out, wnAll_err (s := (E, M)) HN.out] at h5
          exact h5
        rw [hall]
        exact ⟨rfl, W3.out.1, W3.out.2⟩
    · change _ = Value.int .i64 2 at hi
      obtain rfl := hi
      obtain ⟨E, M, hEM, C⟩ := step 2 (P + 1) rfl rfl (by omega) (by omega)
      have HE := Lib.hid hEM
      clear step hv hv1 hs0 hs1 hf0 hf1 hEM
      by_cases he : E = 0
      · subst he
        go_wp2_with fail
        (with_reducible refine C.out.mono ?_)
        rintro r w3 ⟨rfl, hw3, hb3⟩
        have W3 := Lib.hid (And.intro hw3 (HB.out.trans hb3))
        clear hw3 hb3 C
        go_wp2_with fail
        go_roundg 1
        case measure => decide
        case rel => exact ⟨by decide, rfl, by rw [show 4 - 1 = 2 + 1 from rfl, HE.out]; exact W3.out.1, fun _ => by rw [show 4 - 1 = 2 + 1 from rfl, HE.out], W3.out.2⟩
      · have heb : (E == 0) = false := beq_false_of_ne he
        have heb2 : (E != 0) = true := by simpa using he
        have HN := Lib.hid he
        clear he
        go_wp2_with fail
        (with_reducible refine C.out.mono ?_)
        rintro r w3 ⟨rfl, hw3, hb3⟩
        have W3 := Lib.hid (And.intro hw3 (HB.out.trans hb3))
        clear hw3 hb3 C
        go_wp2_with fail
        go_ret
        have hall : wnAll lim s0 (stL V S P F) = (E, M) := by
          have h5 := wnAll_append lim s0 ((stL V S P F).take (2 + 1)) ((stL V S P F).drop (2 + 1))
          rw [List.take_append_drop, HE.out, wnAll_err (s := (E, M)) HN.out] at h5
          exact h5
        rw [hall]
        exact ⟨rfl, W3.out.1, W3.out.2⟩
    · change _ = Value.int .i64 3 at hi
      obtain rfl := hi
      obtain ⟨E, M, hEM, C⟩ := step 3 F rfl rfl (by omega) (by omega)
      have HE := Lib.hid hEM
      clear step hv hv1 hs0 hs1 hf0 hf1 hEM
      by_cases he : E = 0
      · subst he
        go_wp2_with fail
        (with_reducible refine C.out.mono ?_)
        rintro r w3 ⟨rfl, hw3, hb3⟩
        have W3 := Lib.hid (And.intro hw3 (HB.out.trans hb3))
        clear hw3 hb3 C
        go_wp2_with fail
        go_roundg 0
        case measure => decide
        case rel => exact ⟨by decide, rfl, by rw [show 4 - 0 = 3 + 1 from rfl, HE.out]; exact W3.out.1, fun _ => by rw [show 4 - 0 = 3 + 1 from rfl, HE.out], W3.out.2⟩
      · have heb : (E == 0) = false := beq_false_of_ne he
        have heb2 : (E != 0) = true := by simpa using he
        have HN := Lib.hid he
        clear he
        go_wp2_with fail
        (with_reducible refine C.out.mono ?_)
        rintro r w3 ⟨rfl, hw3, hb3⟩
        have W3 := Lib.hid (And.intro hw3 (HB.out.trans hb3))
        clear hw3 hb3 C
        go_wp2_with fail
        go_ret
        have hall : wnAll lim s0 (stL V S P F) = (E, M) := by
          have h5 := wnAll_append lim s0 ((stL V S P F).take (3 + 1)) ((stL V S P F).drop (3 + 1))
          rw [List.take_append_drop, HE.out, wnAll_err (s := (E, M)) HN.out] at h5
          exact h5
        rw [hall]
        exact ⟨rfl, W3.out.1, W3.out.2⟩
theorem tPut_any (g : Nat) (lim err : Int) (L : List Nat) (V S P F : Int) (h1 : ¬ err = 1) (w : World) (h : Wr w g lim err L) :
    Calls Tryz.prog 22 #[.pointer (some ⟨g, 0, none⟩), .agg #[.int .i64 V, .int .i64 S, .int .i64 P, .int .i64 F]] w fun r w' => r = .returned (.int .i64 (putRE lim (err, L) V S P F)) ∧ Wr w' g lim (putST lim (err, L) V S P F).1 (putST lim (err, L) V S P F).2 ∧ WF g 0 w w' := by
  unfold putRE putST
  by_cases he : chkS V S P F = 0
  · rw [if_pos he, if_pos he]
    exact tPut_okF g lim err L V S P F (chkS_ok he) h1 w h
  · rw [if_neg he, if_neg he]
    refine (tPut_badF g lim err L V S P F _ rfl he h1 w h).mono ?_
    rintro r w' ⟨h2, h3, h4⟩
    exact ⟨h2, h3, WF.ofExt h4 h.lt⟩
set_option maxRecDepth 100000 in
set_option maxHeartbeats 4000000 in
theorem rPut12_bad (g : Nat) (lim err : Int) (L : List Nat) (V S P F E : Int) (hE : chkS V S P F = E) (he : ¬ E = 0) (w : World) (h : RWr w g lim err L) :
    Calls Tryz.prog 28 #[.pointer (some ⟨g, 0, none⟩), .agg #[.int .i64 V, .int .i64 S, .int .i64 P, .int .i64 F]] w fun r w' => r = .returned (.int .i64 E) ∧ RWr w' g lim err L ∧ Ext w w' := by
  have CK := fun w => rCheck12_any V S P F w
  rw [hE] at CK
  replace CK := Lib.hid CK
  have hb : (E == 0) = false := beq_false_of_ne he
  have hb2 : (E != 0) = true := by simpa using he
  have HW := Lib.hid h
  clear hE he h
  go_enter Tryz.func28, Tryz.ntmps28
  go_wp2_with fail
  (with_reducible refine (CK.out _).mono ?_)
  rintro e w1 ⟨rfl, hx1⟩
  have z1 := hx1.size
  try simp at z1
  replace HW := Lib.hid (HW.out.ext (Ext.trans (by repeat (first | with_reducible exact Ext.refl _ | with_reducible refine Ext.drew ?_ | with_reducible refine Ext.drewN ?_ _ | with_reducible refine Ext.alloc ?_ _ | with_reducible refine Ext.setCell ?_ (by first | omega | (simp; done) | (simp; omega)) _)) hx1))
  have X1 : Hid (Ext w w1) := Lib.hid (Ext.trans (by repeat (first | with_reducible exact Ext.refl w | with_reducible refine Ext.drew ?_ | with_reducible refine Ext.drewN ?_ _ | with_reducible refine Ext.alloc ?_ _ | with_reducible refine Ext.setCell ?_ (by first | omega | (simp; done) | (simp; omega)) _)) hx1)
  clear hx1 z1
  go_wp2_with fail
  go_ret
  exact ⟨rfl, HW.out.ext (by repeat (first | with_reducible exact Ext.refl _ | with_reducible refine Ext.drew ?_ | with_reducible refine Ext.drewN ?_ _ | with_reducible refine Ext.alloc ?_ _ | with_reducible refine Ext.setCell ?_ (by first | omega | (simp; done) | (simp; omega)) _)), (by repeat (first | with_reducible exact X1.out | with_reducible refine Ext.drew ?_ | with_reducible refine Ext.drewN ?_ _ | with_reducible refine Ext.alloc ?_ _ | with_reducible refine Ext.setCell ?_ (by first | omega | (simp; done) | (simp; omega)) _))⟩
set_option maxRecDepth 100000 in
set_option maxHeartbeats 4000000 in
theorem rPut12_ok (g : Nat) (lim err : Int) (L : List Nat) (V S P F : Int) (hk : StampOk V S P F) (w : World) (h : RWr w g lim err L) :
    Calls Tryz.prog 28 #[.pointer (some ⟨g, 0, none⟩), .agg #[.int .i64 V, .int .i64 S, .int .i64 P, .int .i64 F]] w fun r w' => r = .returned (.int .i64 (wnAll lim (err, L) (stL V S P F)).1) ∧ RWr w' g lim (wnAll lim (err, L) (stL V S P F)).1 (wnAll lim (err, L) (stL V S P F)).2 ∧ WF g 1 w w' := by
  have CK := fun w => rCheck12_any V S P F w
  rw [chkS_of hk] at CK
  replace CK := Lib.hid CK
  obtain ⟨v0, v1, s0, s1, p0, p1, f0, f1, _, _, _⟩ := hk
  obtain ⟨e1, m1, hS1⟩ : ∃ e m, wnS lim (err, L) V = (e, m) := ⟨_, _, rfl⟩
  obtain ⟨e2, m2, hS2⟩ : ∃ e m, wnS lim (e1, m1) S = (e, m) := ⟨_, _, rfl⟩
  obtain ⟨e3, m3, hS3⟩ : ∃ e m, wnS lim (e2, m2) (P + 1) = (e, m) := ⟨_, _, rfl⟩
  obtain ⟨e4, m4, hS4⟩ : ∃ e m, wnS lim (e3, m3) F = (e, m) := ⟨_, _, rfl⟩
  have hall : wnAll lim (err, L) (stL V S P F) = (e4, m4) := by
    show wnS lim (wnS lim (wnS lim (wnS lim (err, L) V) S) (P + 1)) F = _
    rw [hS1, hS2, hS3, hS4]
  rw [hall]
  have C1 := fun w h => rWN_anyF g lim err L V (by omega) (by omega) w h
  have C2 := fun w h => rWN_anyF g lim e1 m1 S (by omega) (by omega) w h
  have C3 := fun w h => rWN_anyF g lim e2 m2 (P + 1) (by omega) (by omega) w h
  have C4 := fun w h => rWN_anyF g lim e3 m3 F (by omega) (by omega) w h
  unfold wnS at hS1 hS2 hS3 hS4
  simp only [Prod.mk.injEq] at hS1 hS2 hS3 hS4
  rw [hS1.1, hS1.2] at C1
  rw [hS2.1, hS2.2] at C2
  rw [hS3.1, hS3.2] at C3
  rw [hS4.1, hS4.2] at C4
  replace C1 := Lib.hid C1
  replace C2 := Lib.hid C2
  replace C3 := Lib.hid C3
  replace C4 := Lib.hid C4
  have HW := Lib.hid h
  have lt := Lib.hid h.lt
  have H0 := Lib.hid h
  clear h hS1 hS2 hS3 hS4 hall
  go_enter Tryz.func28, Tryz.ntmps28
  go_wp2_with fail
  (with_reducible refine (CK.out _).mono ?_)
  rintro e w1 ⟨rfl, hx1⟩
  have c0_0 : w1.cell? ⟨w.heap.size, 0, none⟩ = some (.int .i64 V) := hx1.has (by first | fail | (simp [go_sem, World.cell?_alloc_past]; done))
  have c0_1 : w1.cell? ⟨w.heap.size, 1, none⟩ = some (.int .i64 S) := hx1.has (by first | fail | (simp [go_sem, World.cell?_alloc_past]; done))
  have c0_2 : w1.cell? ⟨w.heap.size, 2, none⟩ = some (.int .i64 P) := hx1.has (by first | fail | (simp [go_sem, World.cell?_alloc_past]; done))
  have c0_3 : w1.cell? ⟨w.heap.size, 3, none⟩ = some (.int .i64 F) := hx1.has (by first | fail | (simp [go_sem, World.cell?_alloc_past]; done))
  have z1 := hx1.size
  try simp at z1
  have rc0 : w.heap.size < w1.heap.size := by omega
  have rc0a : w.heap.size < w1.heap.size + 1 := by omega
  have rc0b : w.heap.size < w1.heap.size + 1 + 1 := by omega
  have rc0c : w.heap.size < w1.heap.size + 1 + 1 + 1 := by omega
  have rc0n : ¬ w.heap.size = w1.heap.size := by omega
  replace HW := Lib.hid (HW.out.ext (Ext.trans (by repeat (first | with_reducible exact Ext.refl _ | with_reducible refine Ext.drew ?_ | with_reducible refine Ext.drewN ?_ _ | with_reducible refine Ext.alloc ?_ _ | with_reducible refine Ext.setCell ?_ (by first | omega | (simp; done) | (simp; omega)) _)) hx1))
  have X1 : Hid (Ext w w1) := Lib.hid (Ext.trans (by repeat (first | with_reducible exact Ext.refl w | with_reducible refine Ext.drew ?_ | with_reducible refine Ext.drewN ?_ _ | with_reducible refine Ext.alloc ?_ _ | with_reducible refine Ext.setCell ?_ (by first | omega | (simp; done) | (simp; omega)) _)) hx1)
  clear hx1 z1
  have hns : Hid (¬ Sg w1 g 1 w.heap.size) := Lib.hid (fun hh => by
    have := (H0.out.sg ((Sg.congr (X1.out.cells.1 g 1 lt.out)).1 hh)).2
    omega)
  clear H0
  have HF := Lib.hid (show WF g 1 w w1 from WF.ofExt X1.out lt.out)
  go_wp2_with fail
  (with_reducible refine (C1.out _ HW.out).mono ?_)
  rintro r w2 ⟨rfl, hw, hf⟩
  replace c0_0 := hf.but.has hns.out c0_0
  replace c0_1 := hf.but.has hns.out c0_1
  replace c0_2 := hf.but.has hns.out c0_2
  replace c0_3 := hf.but.has hns.out c0_3
  have hzz := hf.but.size
  replace hns := Lib.hid (show ¬ Sg w2 g 1 w.heap.size from fun hh => hns.out (hf.row _ (by omega) hh))
  replace HF := Lib.hid (HF.out.trans hf)
  replace HW := Lib.hid hw
  replace rc0 : w.heap.size < w2.heap.size := by omega
  clear hw hf C1 hzz
  go_wp2_with fail
  (with_reducible refine (C2.out _ HW.out).mono ?_)
  rintro r w3 ⟨rfl, hw, hf⟩
  replace c0_0 := hf.but.has hns.out c0_0
  replace c0_1 := hf.but.has hns.out c0_1
  replace c0_2 := hf.but.has hns.out c0_2
  replace c0_3 := hf.but.has hns.out c0_3
  have hzz := hf.but.size
  replace hns := Lib.hid (show ¬ Sg w3 g 1 w.heap.size from fun hh => hns.out (hf.row _ (by omega) hh))
  replace HF := Lib.hid (HF.out.trans hf)
  replace HW := Lib.hid hw
  replace rc0 : w.heap.size < w3.heap.size := by omega
  clear hw hf C2 hzz
  go_wp2_with fail
  (with_reducible refine (C3.out _ HW.out).mono ?_)
  rintro r w4 ⟨rfl, hw, hf⟩
  replace c0_0 := hf.but.has hns.out c0_0
  replace c0_1 := hf.but.has hns.out c0_1
  replace c0_2 := hf.but.has hns.out c0_2
  replace c0_3 := hf.but.has hns.out c0_3
  have hzz := hf.but.size
  replace hns := Lib.hid (show ¬ Sg w4 g 1 w.heap.size from fun hh => hns.out (hf.row _ (by omega) hh))
  replace HF := Lib.hid (HF.out.trans hf)
  replace HW := Lib.hid hw
  replace rc0 : w.heap.size < w4.heap.size := by omega
  clear hw hf C3 hzz
  go_wp2_with fail
  (with_reducible refine (C4.out _ HW.out).mono ?_)
  rintro r w5 ⟨rfl, hw, hf⟩
  replace c0_0 := hf.but.has hns.out c0_0
  replace c0_1 := hf.but.has hns.out c0_1
  replace c0_2 := hf.but.has hns.out c0_2
  replace c0_3 := hf.but.has hns.out c0_3
  have hzz := hf.but.size
  replace hns := Lib.hid (show ¬ Sg w5 g 1 w.heap.size from fun hh => hns.out (hf.row _ (by omega) hh))
  replace HF := Lib.hid (HF.out.trans hf)
  replace HW := Lib.hid hw
  replace rc0 : w.heap.size < w5.heap.size := by omega
  clear hw hf C4 hzz
  go_wp2_with fail
  go_ret
  exact ⟨rfl, HW.out, HF.out⟩
theorem rPut12_any (g : Nat) (lim err : Int) (L : List Nat) (V S P F : Int) (w : World) (h : RWr w g lim err L) :
    Calls Tryz.prog 28 #[.pointer (some ⟨g, 0, none⟩), .agg #[.int .i64 V, .int .i64 S, .int .i64 P, .int .i64 F]] w fun r w' => r = .returned (.int .i64 (putRE lim (err, L) V S P F)) ∧ RWr w' g lim (putST lim (err, L) V S P F).1 (putST lim (err, L) V S P F).2 ∧ WF g 1 w w' := by
  unfold putRE putST
  by_cases he : chkS V S P F = 0
  · rw [if_pos he, if_pos he]
    exact rPut12_ok g lim err L V S P F (chkS_ok he) w h
  · rw [if_neg he, if_neg he]
    refine (rPut12_bad g lim err L V S P F _ rfl he w h).mono ?_
    rintro r w' ⟨h2, h3, h4⟩
    exact ⟨h2, h3, WF.ofExt h4 h.lt⟩
end
end Go.Proofs.YtnbeejgppooamaaGreat
