/- What the law Que rests on, part 2 of 6: StampD, StampE, Div, FixSpec, FixP, FixF, AppTwo, Q3, Q4, Q5, Q6, FixShareMath, ListShave, Cur, Q7. Conditions stand in each lemma. -/
import Derived.WalkKit
import Derived.Deep.QuietTactic
import Derived.Deep.Draws
import Derived.Laws.OwnMore
import Derived.Laws.AppendOwn
import Derived.OwnWalk
import Derived.RangeFuncBox
import Derived.RangeFuncLeaves
import Derived.Shelf.Abstract
import Derived.OwnWalkIn
import Derived.TacticsInMore
import Derived.LoopNIn
import Derived.LoopIn
import Derived.Maps.AppendAt
import Derived.Test.YtnbeejgppooamaaRows
import Derived.Lib.Hide
import Derived.Deep.Onto
import Derived.ProofKit
import Derived.ChangeOld
import Derived.OpenShut
import Derived.Deep.Slices
import Derived.BigQuiet
import Derived.IntWalk
import Derived.Lib.SliceRun
import Derived.Deep.LoopGhost
import Derived.WalkSpells
import Derived.WalkLawsBesides
import Derived.Deep.RegionHeld3
import Derived.Lib.SmallJoins
import Derived.ArgAppend
import Derived.Test.YtnbeejgppooamaaShelf
import Derived.Test.YtnbeejgppooamaaDivNorm
import Derived.Deep.DeepCutAuto
import Derived.Deep.CutBlock
import Derived.Shelf.Spec.BitsCarry
import Derived.Test.YtnbeejgppooamaaFixRefMath
import Derived.Test.YtnbeejgppooamaaFixDivideMath
import Derived.WalkMore
import Derived.Laws.StructEq
import Derived.Laws.BytesArg
import Derived.Test.YtnbeejgppooamaaSlQue1
set_option linter.unusedVariables false
set_option linter.unusedSimpArgs false
namespace Go.Proofs.Ytnbeejgppooamaa
section
open Go.RowKit
def hasB (a b c v h : Int) : Bool := a == v && (decide (b ≤ h) && decide (h ≤ c))
theorem thas_zero (v h : Int) (w : World) :
    Calls Try.prog 73 #[.agg #[.int .i64 0, .int .i64 0, .int .i64 0], .int .i64 v, .int .i64 h] w fun r w' => r = .returned (.bool false) ∧ Ext w w' := by
  go_enter Try.func73, Try.ntmps73
  go_wp2
  go_ret
  exact ⟨rfl, (by repeat (first | assumption | exact Ext.refl _ | refine Ext.drew ?_ | refine Ext.drewN ?_ _ | refine Ext.alloc ?_ _ | refine Ext.setCell ?_ (by first | omega | (simp; done) | (simp; omega)) _ | refine Ext.trans ?_ (by assumption)))⟩
set_option maxHeartbeats 1000000 in
theorem thas_nz (a b c v h : Int) (hz : (b == 0) = false ∨ (c == 0) = false) (w : World) :
    Calls Try.prog 73 #[.agg #[.int .i64 a, .int .i64 b, .int .i64 c], .int .i64 v, .int .i64 h] w fun r w' => r = .returned (.bool (hasB a b c v h)) ∧ Ext w w' := by
  unfold hasB
  obtain ⟨q, hq⟩ : ∃ p, decide (b ≤ h) = p := ⟨_, rfl⟩
  obtain ⟨s, hs⟩ : ∃ p, decide (h ≤ c) = p := ⟨_, rfl⟩
  rw [hq, hs]
  rcases hz with hz | hz
  all_goals
    by_cases ha : a = v
    · subst ha
      have e : (a == a && (q && s)) = (q && s) := by simp
      rw [e]
      cases q
      all_goals
        go_enter Try.func73, Try.ntmps73
        go_wp2
        all_goals (go_ret; exact ⟨by simp_all, (by repeat (first | assumption | exact Ext.refl _ | refine Ext.drew ?_ | refine Ext.drewN ?_ _ | refine Ext.alloc ?_ _ | refine Ext.setCell ?_ (by first | omega | (simp; done) | (simp; omega)) _ | refine Ext.trans ?_ (by assumption)))⟩)
    · have e : (a == v && (q && s)) = false := by simp [ha]
      rw [e]
      have hf : (a == v) = false := beq_false_of_ne ha
      clear ha
      go_enter Try.func73, Try.ntmps73
      go_wp2
      all_goals (go_ret; exact ⟨by simp_all, (by repeat (first | assumption | exact Ext.refl _ | refine Ext.drew ?_ | refine Ext.drewN ?_ _ | refine Ext.alloc ?_ _ | refine Ext.setCell ?_ (by first | omega | (simp; done) | (simp; omega)) _ | refine Ext.trans ?_ (by assumption)))⟩)
theorem tspans_neg (V S P F u t : Int) (hP : P < 0) (ht : (if u < 1 then 9223372036854775807 else u) = t) (w : World) :
    Calls Try.prog 72 #[.agg #[.int .i64 V, .int .i64 S, .int .i64 P, .int .i64 F], .int .i64 u] w fun r w' => r = .returned (.tuple #[.agg #[.int .i64 V, .int .i64 S, .int .i64 t], .agg #[.int .i64 0, .int .i64 0, .int .i64 0]]) ∧ Ext w w' := by
  by_cases hu : u < 1
  · rw [if_pos hu] at ht
    subst ht
    go_enter Try.func72, Try.ntmps72
    go_wp2
    refine bodyPost_ret (v := .tuple #[.agg #[.int .i64 V, .int .i64 S, .int .i64 9223372036854775807], .agg #[.int .i64 0, .int .i64 0, .int .i64 0]]) (by simp [results, Try.results72, go_sem]; try rfl) rfl ⟨rfl, ?_⟩
    exact (by repeat (first | assumption | exact Ext.refl _ | refine Ext.drew ?_ | refine Ext.drewN ?_ _ | refine Ext.alloc ?_ _ | refine Ext.setCell ?_ (by first | omega | (simp; done) | (simp; omega)) _ | refine Ext.trans ?_ (by assumption)))
  · rw [if_neg hu] at ht
    subst ht
    go_enter Try.func72, Try.ntmps72
    go_wp2
    refine bodyPost_ret (v := .tuple #[.agg #[.int .i64 V, .int .i64 S, .int .i64 u], .agg #[.int .i64 0, .int .i64 0, .int .i64 0]]) (by simp [results, Try.results72, go_sem]; try rfl) rfl ⟨rfl, ?_⟩
    exact (by repeat (first | assumption | exact Ext.refl _ | refine Ext.drew ?_ | refine Ext.drewN ?_ _ | refine Ext.alloc ?_ _ | refine Ext.setCell ?_ (by first | omega | (simp; done) | (simp; omega)) _ | refine Ext.trans ?_ (by assumption)))
set_option maxRecDepth 100000 in
set_option maxHeartbeats 2000000 in
theorem tspans_pos (V S P F u t : Int) (hP : ¬ P < 0) (ht : (if u < 1 then 9223372036854775807 else u) = t) (w : World) :
    Calls Try.prog 72 #[.agg #[.int .i64 V, .int .i64 S, .int .i64 P, .int .i64 F], .int .i64 u] w fun r w' => r = .returned (.tuple #[.agg #[.int .i64 V, .int .i64 S, .int .i64 t], .agg #[.int .i64 P, .int .i64 F, .int .i64 S]]) ∧ Ext w w' := by
  by_cases hu : u < 1
  · rw [if_pos hu] at ht
    subst ht
    go_enter Try.func72, Try.ntmps72
    go_wp2
    refine wp_region_held_drew (S := fun w' => w'.cell? ⟨w.heap.size, 0, none⟩ = some (.int .i64 V) ∧ w'.cell? ⟨w.heap.size, 1, none⟩ = some (.int .i64 S) ∧ w'.cell? ⟨w.heap.size, 2, none⟩ = some (.int .i64 P) ∧ w'.cell? ⟨w.heap.size, 3, none⟩ = some (.int .i64 F)) (by kernel_rfl) (by simp [go_sem, World.cell?_alloc_past]) (fun hHeld => ?_)
    (refine' take_in 0 rfl (by kernel_rfl) (by kernel_rfl) (by kernel_rfl) (fun _ _ _ h => h) (by rfl) (by assumption) ?_ ?_; rotate_left; focus (intro w hSw; (try dsimp only at hSw); go_simp; try with_reducible rfl)); try simp only [Act.put, List.setIfInBounds_toArray, List.set_cons_zero, List.set_cons_succ]
    (refine' take_in 1 rfl (by kernel_rfl) (by kernel_rfl) (by kernel_rfl) (fun _ _ _ h => h) (by rfl) (by assumption) ?_ ?_; rotate_left; focus (intro w hSw; (try dsimp only at hSw); go_simp; try with_reducible rfl)); try simp only [Act.put, List.setIfInBounds_toArray, List.set_cons_zero, List.set_cons_succ]
    (refine' take_in 2 rfl (by kernel_rfl) (by kernel_rfl) (by kernel_rfl) (fun _ _ _ h => h) (by rfl) (by assumption) ?_ ?_; rotate_left; focus (intro w hSw; (try dsimp only at hSw); go_simp; try with_reducible rfl)); try simp only [Act.put, List.setIfInBounds_toArray, List.set_cons_zero, List.set_cons_succ]
    (refine' take_in 3 rfl (by kernel_rfl) (by kernel_rfl) (by kernel_rfl) (fun _ _ _ h => h) (by rfl) (by assumption) ?_ ?_; rotate_left; focus (intro w hSw; (try dsimp only at hSw); go_simp; try with_reducible rfl)); try simp only [Act.put, List.setIfInBounds_toArray, List.set_cons_zero, List.set_cons_succ]
    (refine' take_in 4 rfl (by kernel_rfl) (by kernel_rfl) (by kernel_rfl) (fun _ _ _ h => h) (by rfl) (by assumption) ?_ ?_; rotate_left; focus (intro w hSw; (try dsimp only at hSw); go_simp; try with_reducible rfl)); try simp only [Act.put, List.setIfInBounds_toArray, List.set_cons_zero, List.set_cons_succ]
    (refine' take_in 5 rfl (by kernel_rfl) (by kernel_rfl) (by kernel_rfl) (fun _ _ _ h => h) (by rfl) (by assumption) ?_ ?_; rotate_left; focus (intro w hSw; (try dsimp only at hSw); go_simp; try with_reducible rfl)); try simp only [Act.put, List.setIfInBounds_toArray, List.set_cons_zero, List.set_cons_succ]
    (refine' take_in 6 rfl (by kernel_rfl) (by kernel_rfl) (by kernel_rfl) (fun _ _ _ h => h) (by rfl) (by assumption) ?_ ?_; rotate_left; focus (intro w hSw; (try dsimp only at hSw); go_simp; try with_reducible rfl)); try simp only [Act.put, List.setIfInBounds_toArray, List.set_cons_zero, List.set_cons_succ]
    (refine' take_in 7 rfl (by kernel_rfl) (by kernel_rfl) (by kernel_rfl) (fun _ _ _ h => h) (by rfl) (by assumption) ?_ ?_; rotate_left; focus (intro w hSw; (try dsimp only at hSw); go_simp; try with_reducible rfl)); try simp only [Act.put, List.setIfInBounds_toArray, List.set_cons_zero, List.set_cons_succ]
    (refine' take_in 8 rfl (by kernel_rfl) (by kernel_rfl) (by kernel_rfl) (fun _ _ _ h => h) (by rfl) (by assumption) ?_ ?_; rotate_left; focus (intro w hSw; (try dsimp only at hSw); go_simp; try with_reducible rfl)); try simp only [Act.put, List.setIfInBounds_toArray, List.set_cons_zero, List.set_cons_succ]
    (refine' take_in 9 rfl (by kernel_rfl) (by kernel_rfl) (by kernel_rfl) (fun _ _ _ h => h) (by rfl) (by assumption) ?_ ?_; rotate_left; focus (intro w hSw; (try dsimp only at hSw); go_simp; try with_reducible rfl)); try simp only [Act.put, List.setIfInBounds_toArray, List.set_cons_zero, List.set_cons_succ]
    (refine' take_in 10 rfl (by kernel_rfl) (by kernel_rfl) (by kernel_rfl) (fun _ _ _ h => h) (by rfl) (by assumption) ?_ ?_; rotate_left; focus (intro w hSw; (try dsimp only at hSw); go_simp; try with_reducible rfl)); try simp only [Act.put, List.setIfInBounds_toArray, List.set_cons_zero, List.set_cons_succ]
    (refine' take_in 11 rfl (by kernel_rfl) (by kernel_rfl) (by kernel_rfl) (fun _ _ _ h => h) (by rfl) (by assumption) ?_ ?_; rotate_left; focus (intro w hSw; (try dsimp only at hSw); go_simp; try with_reducible rfl)); try simp only [Act.put, List.setIfInBounds_toArray, List.set_cons_zero, List.set_cons_succ]
    (refine' take_in 12 rfl (by kernel_rfl) (by kernel_rfl) (by kernel_rfl) (fun _ _ _ h => h) (by rfl) (by assumption) ?_ ?_; rotate_left; focus (intro w hSw; (try dsimp only at hSw); go_simp; try with_reducible rfl)); try simp only [Act.put, List.setIfInBounds_toArray, List.set_cons_zero, List.set_cons_succ]
    refine' next_in 13 rfl (by kernel_rfl) (by rfl) (fun K hK => ?_)
    go_simp
    refine hK.out _ _ (by simp [go_sem, World.cell?_alloc_past]) (fun hHeld => ?_); clear hK K; try simp only [Act.put, List.setIfInBounds_toArray, List.set_cons_zero, List.set_cons_succ]
    refine' next_in 14 rfl (by kernel_rfl) (by rfl) (fun K hK => ?_)
    go_simp
    refine hK.out _ _ (by simp [go_sem, World.cell?_alloc_past]) (fun hHeld => ?_); clear hK K; try simp only [Act.put, List.setIfInBounds_toArray, List.set_cons_zero, List.set_cons_succ]
    refine wpAnyH_done (by kernel_rfl) ?_ _
    go_wp2
    refine bodyPost_ret (v := .tuple #[.agg #[.int .i64 V, .int .i64 S, .int .i64 9223372036854775807], .agg #[.int .i64 P, .int .i64 F, .int .i64 S]]) (by simp [results, Try.results72, go_sem]; try rfl) rfl ⟨rfl, ?_⟩
    exact (by repeat (first | assumption | exact Ext.refl _ | refine Ext.drew ?_ | refine Ext.drewN ?_ _ | refine Ext.alloc ?_ _ | refine Ext.setCell ?_ (by first | omega | (simp; done) | (simp; omega)) _ | refine Ext.trans ?_ (by assumption)))
  · rw [if_neg hu] at ht
    subst ht
    go_enter Try.func72, Try.ntmps72
    go_wp2
    refine wp_region_held_drew (S := fun w' => w'.cell? ⟨w.heap.size, 0, none⟩ = some (.int .i64 V) ∧ w'.cell? ⟨w.heap.size, 1, none⟩ = some (.int .i64 S) ∧ w'.cell? ⟨w.heap.size, 2, none⟩ = some (.int .i64 P) ∧ w'.cell? ⟨w.heap.size, 3, none⟩ = some (.int .i64 F)) (by kernel_rfl) (by simp [go_sem, World.cell?_alloc_past]) (fun hHeld => ?_)
    (refine' take_in 0 rfl (by kernel_rfl) (by kernel_rfl) (by kernel_rfl) (fun _ _ _ h => h) (by rfl) (by assumption) ?_ ?_; rotate_left; focus (intro w hSw; (try dsimp only at hSw); go_simp; try with_reducible rfl)); try simp only [Act.put, List.setIfInBounds_toArray, List.set_cons_zero, List.set_cons_succ]
    (refine' take_in 1 rfl (by kernel_rfl) (by kernel_rfl) (by kernel_rfl) (fun _ _ _ h => h) (by rfl) (by assumption) ?_ ?_; rotate_left; focus (intro w hSw; (try dsimp only at hSw); go_simp; try with_reducible rfl)); try simp only [Act.put, List.setIfInBounds_toArray, List.set_cons_zero, List.set_cons_succ]
    (refine' take_in 2 rfl (by kernel_rfl) (by kernel_rfl) (by kernel_rfl) (fun _ _ _ h => h) (by rfl) (by assumption) ?_ ?_; rotate_left; focus (intro w hSw; (try dsimp only at hSw); go_simp; try with_reducible rfl)); try simp only [Act.put, List.setIfInBounds_toArray, List.set_cons_zero, List.set_cons_succ]
    (refine' take_in 3 rfl (by kernel_rfl) (by kernel_rfl) (by kernel_rfl) (fun _ _ _ h => h) (by rfl) (by assumption) ?_ ?_; rotate_left; focus (intro w hSw; (try dsimp only at hSw); go_simp; try with_reducible rfl)); try simp only [Act.put, List.setIfInBounds_toArray, List.set_cons_zero, List.set_cons_succ]
    (refine' take_in 4 rfl (by kernel_rfl) (by kernel_rfl) (by kernel_rfl) (fun _ _ _ h => h) (by rfl) (by assumption) ?_ ?_; rotate_left; focus (intro w hSw; (try dsimp only at hSw); go_simp; try with_reducible rfl)); try simp only [Act.put, List.setIfInBounds_toArray, List.set_cons_zero, List.set_cons_succ]
    (refine' take_in 5 rfl (by kernel_rfl) (by kernel_rfl) (by kernel_rfl) (fun _ _ _ h => h) (by rfl) (by assumption) ?_ ?_; rotate_left; focus (intro w hSw; (try dsimp only at hSw); go_simp; try with_reducible rfl)); try simp only [Act.put, List.setIfInBounds_toArray, List.set_cons_zero, List.set_cons_succ]
    (refine' take_in 6 rfl (by kernel_rfl) (by kernel_rfl) (by kernel_rfl) (fun _ _ _ h => h) (by rfl) (by assumption) ?_ ?_; rotate_left; focus (intro w hSw; (try dsimp only at hSw); go_simp; try with_reducible rfl)); try simp only [Act.put, List.setIfInBounds_toArray, List.set_cons_zero, List.set_cons_succ]
    (refine' take_in 7 rfl (by kernel_rfl) (by kernel_rfl) (by kernel_rfl) (fun _ _ _ h => h) (by rfl) (by assumption) ?_ ?_; rotate_left; focus (intro w hSw; (try dsimp only at hSw); go_simp; try with_reducible rfl)); try simp only [Act.put, List.setIfInBounds_toArray, List.set_cons_zero, List.set_cons_succ]
    (refine' take_in 8 rfl (by kernel_rfl) (by kernel_rfl) (by kernel_rfl) (fun _ _ _ h => h) (by rfl) (by assumption) ?_ ?_; rotate_left; focus (intro w hSw; (try dsimp only at hSw); go_simp; try with_reducible rfl)); try simp only [Act.put, List.setIfInBounds_toArray, List.set_cons_zero, List.set_cons_succ]
    (refine' take_in 9 rfl (by kernel_rfl) (by kernel_rfl) (by kernel_rfl) (fun _ _ _ h => h) (by rfl) (by assumption) ?_ ?_; rotate_left; focus (intro w hSw; (try dsimp only at hSw); go_simp; try with_reducible rfl)); try simp only [Act.put, List.setIfInBounds_toArray, List.set_cons_zero, List.set_cons_succ]
    (refine' take_in 10 rfl (by kernel_rfl) (by kernel_rfl) (by kernel_rfl) (fun _ _ _ h => h) (by rfl) (by assumption) ?_ ?_; rotate_left; focus (intro w hSw; (try dsimp only at hSw); go_simp; try with_reducible rfl)); try simp only [Act.put, List.setIfInBounds_toArray, List.set_cons_zero, List.set_cons_succ]
    (refine' take_in 11 rfl (by kernel_rfl) (by kernel_rfl) (by kernel_rfl) (fun _ _ _ h => h) (by rfl) (by assumption) ?_ ?_; rotate_left; focus (intro w hSw; (try dsimp only at hSw); go_simp; try with_reducible rfl)); try simp only [Act.put, List.setIfInBounds_toArray, List.set_cons_zero, List.set_cons_succ]
    (refine' take_in 12 rfl (by kernel_rfl) (by kernel_rfl) (by kernel_rfl) (fun _ _ _ h => h) (by rfl) (by assumption) ?_ ?_; rotate_left; focus (intro w hSw; (try dsimp only at hSw); go_simp; try with_reducible rfl)); try simp only [Act.put, List.setIfInBounds_toArray, List.set_cons_zero, List.set_cons_succ]
    refine' next_in 13 rfl (by kernel_rfl) (by rfl) (fun K hK => ?_)
    go_simp
    refine hK.out _ _ (by simp [go_sem, World.cell?_alloc_past]) (fun hHeld => ?_); clear hK K; try simp only [Act.put, List.setIfInBounds_toArray, List.set_cons_zero, List.set_cons_succ]
    refine' next_in 14 rfl (by kernel_rfl) (by rfl) (fun K hK => ?_)
    go_simp
    refine hK.out _ _ (by simp [go_sem, World.cell?_alloc_past]) (fun hHeld => ?_); clear hK K; try simp only [Act.put, List.setIfInBounds_toArray, List.set_cons_zero, List.set_cons_succ]
    refine wpAnyH_done (by kernel_rfl) ?_ _
    go_wp2
    refine bodyPost_ret (v := .tuple #[.agg #[.int .i64 V, .int .i64 S, .int .i64 u], .agg #[.int .i64 P, .int .i64 F, .int .i64 S]]) (by simp [results, Try.results72, go_sem]; try rfl) rfl ⟨rfl, ?_⟩
    exact (by repeat (first | assumption | exact Ext.refl _ | refine Ext.drew ?_ | refine Ext.drewN ?_ _ | refine Ext.alloc ?_ _ | refine Ext.setCell ?_ (by first | omega | (simp; done) | (simp; omega)) _ | refine Ext.trans ?_ (by assumption)))
end
section
open Go.RowKit
def bkdB (V S P F v h u : Int) : Bool := if chkS V S P F = 0 then (hasB V S (if u < 1 then 9223372036854775807 else u) v h || (if P < 0 then false else hasB P F S v h)) else false
theorem tBacked_bad (V S P F v h u E : Int) (hE : chkS V S P F = E) (he : ¬ E = 0) (w : World) :
    Calls Try.prog 40 #[.agg #[.int .i64 V, .int .i64 S, .int .i64 P, .int .i64 F], .int .i64 v, .int .i64 h, .int .i64 u] w fun r w' => r = .returned (.bool false) ∧ Ext w w' := by
  have CK := fun w => tCheck_any V S P F w
  rw [hE] at CK
  replace CK := Lib.hid CK
  have hef : (E == 0) = false := beq_false_of_ne he
  clear he hE
  go_enter Try.func40, Try.ntmps40
  go_wp2_with fail
  refine (CK.out _).mono ?_
  rintro r w1 ⟨rfl, hx1⟩
  have X1 := Lib.hid (show Ext w w1 from Ext.trans ((Ext.refl w).alloc _) hx1)
  clear hx1 CK
  go_wp2_with fail
  go_ret
  exact ⟨rfl, X1.out⟩
set_option maxHeartbeats 1000000 in
theorem tBacked_neg (V S P F v h u t : Int) (p : Bool) (hE : chkS V S P F = 0) 
    (CS : Hid (∀ w, Calls Try.prog 72 #[.agg #[.int .i64 V, .int .i64 S, .int .i64 P, .int .i64 F], .int .i64 u] w fun r w' => r = .returned (.tuple #[.agg #[.int .i64 V, .int .i64 S, .int .i64 t], .agg #[.int .i64 0, .int .i64 0, .int .i64 0]]) ∧ Ext w w'))
    (HN : Hid (∀ w, Calls Try.prog 73 #[.agg #[.int .i64 V, .int .i64 S, .int .i64 t], .int .i64 v, .int .i64 h] w fun r w' => r = .returned (.bool p) ∧ Ext w w')) (w : World) :
    Calls Try.prog 40 #[.agg #[.int .i64 V, .int .i64 S, .int .i64 P, .int .i64 F], .int .i64 v, .int .i64 h, .int .i64 u] w fun r w' => r = .returned (.bool p) ∧ Ext w w' := by
  have CK := fun w => tCheck_any V S P F w
  rw [hE] at CK
  replace CK := Lib.hid CK
  clear hE
  cases p
  all_goals
    go_enter Try.func40, Try.ntmps40
    go_wp2_with fail
    refine (CK.out _).mono ?_
    rintro r w1 ⟨rfl, hx1⟩
    have d0 : w1.cell? ⟨w.heap.size, 0, none⟩ = some (.int .i64 V) := hx1.has (by simp [go_sem])
    have d1 : w1.cell? ⟨w.heap.size, 1, none⟩ = some (.int .i64 S) := hx1.has (by simp [go_sem])
    have d2 : w1.cell? ⟨w.heap.size, 2, none⟩ = some (.int .i64 P) := hx1.has (by simp [go_sem])
    have d3 : w1.cell? ⟨w.heap.size, 3, none⟩ = some (.int .i64 F) := hx1.has (by simp [go_sem])
    have X1 := Lib.hid (show Ext w w1 from Ext.trans ((Ext.refl w).alloc _) hx1)
    clear hx1 CK
    go_wp2_with fail
    refine (CS.out _).mono ?_
    rintro r w2 ⟨rfl, hx2⟩
    have X2 := Lib.hid (show Ext w w2 from X1.out.trans hx2)
    clear hx2 CS X1 d0 d1 d2 d3
    go_wp2_with fail
    refine (HN.out _).mono ?_
    rintro r w3 ⟨rfl, hx3⟩
    have e0 : w3.cell? ⟨w2.heap.size + 1, 0, none⟩ = some (.int .i64 0) := hx3.has (by simp [go_sem, World.cell?_alloc_past])
    have e1 : w3.cell? ⟨w2.heap.size + 1, 1, none⟩ = some (.int .i64 0) := hx3.has (by simp [go_sem, World.cell?_alloc_past])
    have e2 : w3.cell? ⟨w2.heap.size + 1, 2, none⟩ = some (.int .i64 0) := hx3.has (by simp [go_sem, World.cell?_alloc_past])
    have X3 := Lib.hid (show Ext w w3 from X2.out.trans (Ext.trans (((Ext.refl w2).alloc _).alloc _) hx3))
    clear hx3 HN X2
    go_wp2_with fail
    first
      | (go_ret; exact ⟨by simp, X3.out⟩)
      | (refine (thas_zero v h _).mono ?_
         rintro r w4 ⟨rfl, hx4⟩
         have X4 := Lib.hid (X3.out.trans hx4)
         clear hx4 X3
         go_wp2_with fail
         go_ret
         exact ⟨by simp, X4.out⟩)
set_option maxHeartbeats 1000000 in
theorem tBacked_pos (V S P F v h u t : Int) (p : Bool) (hE : chkS V S P F = 0) (q : Bool) (HP : Hid (∀ w, Calls Try.prog 73 #[.agg #[.int .i64 P, .int .i64 F, .int .i64 S], .int .i64 v, .int .i64 h] w fun r w' => r = .returned (.bool q) ∧ Ext w w')) 
    (CS : Hid (∀ w, Calls Try.prog 72 #[.agg #[.int .i64 V, .int .i64 S, .int .i64 P, .int .i64 F], .int .i64 u] w fun r w' => r = .returned (.tuple #[.agg #[.int .i64 V, .int .i64 S, .int .i64 t], .agg #[.int .i64 P, .int .i64 F, .int .i64 S]]) ∧ Ext w w'))
    (HN : Hid (∀ w, Calls Try.prog 73 #[.agg #[.int .i64 V, .int .i64 S, .int .i64 t], .int .i64 v, .int .i64 h] w fun r w' => r = .returned (.bool p) ∧ Ext w w')) (w : World) :
    Calls Try.prog 40 #[.agg #[.int .i64 V, .int .i64 S, .int .i64 P, .int .i64 F], .int .i64 v, .int .i64 h, .int .i64 u] w fun r w' => r = .returned (.bool (p || q)) ∧ Ext w w' := by
  have CK := fun w => tCheck_any V S P F w
  rw [hE] at CK
  replace CK := Lib.hid CK
  clear hE
  cases p
  all_goals
    go_enter Try.func40, Try.ntmps40
    go_wp2_with fail
    refine (CK.out _).mono ?_
    rintro r w1 ⟨rfl, hx1⟩
    have d0 : w1.cell? ⟨w.heap.size, 0, none⟩ = some (.int .i64 V) := hx1.has (by simp [go_sem])
    have d1 : w1.cell? ⟨w.heap.size, 1, none⟩ = some (.int .i64 S) := hx1.has (by simp [go_sem])
    have d2 : w1.cell? ⟨w.heap.size, 2, none⟩ = some (.int .i64 P) := hx1.has (by simp [go_sem])
    have d3 : w1.cell? ⟨w.heap.size, 3, none⟩ = some (.int .i64 F) := hx1.has (by simp [go_sem])
    have X1 := Lib.hid (show Ext w w1 from Ext.trans ((Ext.refl w).alloc _) hx1)
    clear hx1 CK
    go_wp2_with fail
    refine (CS.out _).mono ?_
    rintro r w2 ⟨rfl, hx2⟩
    have X2 := Lib.hid (show Ext w w2 from X1.out.trans hx2)
    clear hx2 CS X1 d0 d1 d2 d3
    go_wp2_with fail
    refine (HN.out _).mono ?_
    rintro r w3 ⟨rfl, hx3⟩
    have e0 : w3.cell? ⟨w2.heap.size + 1, 0, none⟩ = some (.int .i64 P) := hx3.has (by simp [go_sem, World.cell?_alloc_past])
    have e1 : w3.cell? ⟨w2.heap.size + 1, 1, none⟩ = some (.int .i64 F) := hx3.has (by simp [go_sem, World.cell?_alloc_past])
    have e2 : w3.cell? ⟨w2.heap.size + 1, 2, none⟩ = some (.int .i64 S) := hx3.has (by simp [go_sem, World.cell?_alloc_past])
    have X3 := Lib.hid (show Ext w w3 from X2.out.trans (Ext.trans (((Ext.refl w2).alloc _).alloc _) hx3))
    clear hx3 HN X2
    go_wp2_with fail
    first
      | (go_ret; exact ⟨by simp, X3.out⟩)
      | (refine (HP.out _).mono ?_
         rintro r w4 ⟨rfl, hx4⟩
         have X4 := Lib.hid (X3.out.trans hx4)
         clear hx4 X3
         go_wp2_with fail
         go_ret
         exact ⟨by simp, X4.out⟩)
theorem tBacked_any (V S P F v h u : Int) (w : World) :
    Calls Try.prog 40 #[.agg #[.int .i64 V, .int .i64 S, .int .i64 P, .int .i64 F], .int .i64 v, .int .i64 h, .int .i64 u] w fun r w' => r = .returned (.bool (bkdB V S P F v h u)) ∧ Ext w w' := by
  unfold bkdB
  by_cases he : chkS V S P F = 0
  · rw [if_pos he]
    have hk := chkS_ok he
    have hs0 := hk.s0
    have hsz : (S == 0) = false := beq_false_of_ne (by omega)
    by_cases hP : P < 0
    · rw [if_pos hP, Bool.or_false]
      exact tBacked_neg V S P F v h u _ _ he (Lib.hid fun w => tspans_neg V S P F u _ hP rfl w) (Lib.hid fun w => thas_nz V S _ v h (.inl hsz) w) w
    · rw [if_neg hP]
      exact tBacked_pos V S P F v h u _ _ he _ (Lib.hid fun w => thas_nz P F S v h (.inr hsz) w) (Lib.hid fun w => tspans_pos V S P F u _ hP rfl w) (Lib.hid fun w => thas_nz V S _ v h (.inl hsz) w) w
  · rw [if_neg he]
    exact tBacked_bad V S P F v h u _ rfl he w
end
section
open Go.RowKit DivMath
theorem lz_any (y k : Nat) (hy : y < 18446744073709551616) (hk : Lib.bitLen y + k = 64) (w : World) :
    Calls Try.prog 109 #[.int .u64 y] w fun e w' => e = .returned (.int .i64 k) ∧ w = w' := by
  refine (Try.bits_LeadingZeros64 y w (by omega) (by omega)).mono fun e w' ⟨he, hw⟩ => ⟨?_, hw.symm⟩
  rw [he, Int.toNat_natCast, show (64 : Int) - (Lib.bitLen y : Int) = (k : Int) from by omega]

set_option maxHeartbeats 400000 in
theorem div64_zero (lo y : Int) (hy : 0 < y) (hy1 : y < 18446744073709551616) (l0 : 0 ≤ lo) (l1 : lo < 18446744073709551616) (w : World) :
    Calls Try.prog 105 #[.int .u64 0, .int .u64 lo, .int .u64 y] w fun e w' => e = .returned (.tuple #[.int .u64 (lo / y), .int .u64 (lo % y)]) ∧ ∃ n, w' = w.drewN n := by
  have e1 : (y == 0) = false := by simp; omega
  have e2 : ¬ y ≤ 0 := by omega
  go_enter Try.func105, Try.ntmps105
  go_wp2
  go_quiet (fail)
  go_wp2
  go_ret2
  exact ⟨rfl, _, rfl⟩

set_option maxRecDepth 100000 in
set_option maxHeartbeats 400000 in
theorem div64_some (hi lo y k Y yn1 yn0 u un1 un0 : Nat) (h0 : 0 < hi) (hlt : hi < y) (hy1 : y < 18446744073709551616) (hlo : lo < 18446744073709551616)
    (N : Norm hi lo y k Y yn1 yn0 u un1 un0) (w : World) :
    Calls Try.prog 105 #[.int .u64 hi, .int .u64 lo, .int .u64 y] w fun e w' => e = .returned (.tuple #[.int .u64 (((hi * 18446744073709551616 + lo) / y : Nat) : Int), .int .u64 (((hi * 18446744073709551616 + lo) % y : Nat) : Int)]) ∧ w = w' := by
  have e1 : ((y : Int) == 0) = false := by simp; omega
  have e2 : ¬ (y : Int) ≤ hi := by omega
  have e3 : ((hi : Int) == 0) = false := by simp; omega
  have n1 := N.k63
  have n2 := N.yn1lo
  have n3 := N.yn1hi
  have n4 := N.yn0hi
  have n5 := N.ult
  have n6 := N.hYlt
  have n7 := N.un1hi
  have n8 := N.un0hi
  have eY := N.eY
  have ey1 := N.eyn1
  have ey0 := N.eyn0
  have eu := N.eu hlo
  have e10 := N.eun10
  have e11 := N.eun1'
  have e12 := N.eun0'
  have m1 : min k 64 = k := by omega
  have m2 : min (64 - k) 64 = 64 - k := by omega
  obtain ⟨q1, hq1⟩ : ∃ q, q = u / yn1 := ⟨_, rfl⟩
  obtain ⟨r1, hr1⟩ : ∃ q, q = u % yn1 := ⟨_, rfl⟩
  obtain ⟨b1, b2⟩ := est_eqs u Y yn1 yn0 N.split n2 n4 n5 n6
  have I1 := Lib.hid (Inv.start N.split n2 n3 n4 n5 n7)
  rw [← hq1, ← hr1] at I1
  rw [← hq1] at b1 b2
  rw [← hr1] at b2
  clear hq1 hr1
  have H := Lib.hid N
  clear N
  go_enter Try.func105, Try.ntmps105
  go_upto_block 0 with (go_at_call 109; refine (lz_any y k hy1 H.out.len _).mono ?_; rintro e w' ⟨rfl, rfl⟩)
  go_cut [15] (fun q wx => q = .int .u64 (((u * 4294967296 + un1) / Y : Nat) : Int) ∧ wx = w)
  case first =>
    go_wp2_with fail
    go_loopg [15, 16] q1 (fun n q r wx => ∃ r' : Nat, Hid (Inv u un1 Y yn1 yn0 n r') ∧ (n : Int) ≤ 4294967297 ∧ (r' : Int) < 4294967296 ∧ q = .int .u64 n ∧ r = .int .u64 r' ∧ wx = w)
    case atStart => exact ⟨r1, I1, by have := I1.out.hi; omega, by have := I1.out.rhi; omega, rfl, rfl, rfl⟩
    case round =>
      obtain ⟨r', I, hn, hr, rfl, rfl, rfl⟩ := hrel
      by_cases hq : (4294967296 : Int) ≤ (gk : Int)
      · have J := Lib.hid (I.out.next (.inl (by omega)))
        have hg : (1 : Int) ≤ (gk : Int) := by omega
        by_cases hb : (4294967296 : Int) ≤ (r' : Int) + (yn1 : Int)
        · go_wp2_with fail
          go_meet
          exact ⟨num_eq (by rw [← J.out.2.2.2.2 (by omega)]; omega), rfl⟩
        · go_wp2_with fail
          go_roundg (gk - 1)
          case measure => omega
          case rel => exact ⟨r' + yn1, J.out.2.2.2.1 (by omega), by omega, by omega, num_eq (by omega), num_eq (by omega), rfl⟩
      · obtain ⟨p1, p2, p3⟩ := I.out.prod (by omega)
        by_cases ht : (4294967296 : Int) * (r' : Int) + (un1 : Int) < (gk : Int) * (yn0 : Int)
        · have J := Lib.hid (I.out.next (.inr (by rw [← Int.natCast_mul] at ht; omega)))
          have hg : (1 : Int) ≤ (gk : Int) := by have := J.out.1; omega
          by_cases hb : (4294967296 : Int) ≤ (r' : Int) + (yn1 : Int)
          · go_wp2_with fail
            go_meet
            exact ⟨num_eq (by rw [← J.out.2.2.2.2 (by omega)]; omega), rfl⟩
          · go_wp2_with fail
            go_roundg (gk - 1)
            case measure => omega
            case rel => exact ⟨r' + yn1, J.out.2.2.2.1 (by omega), by omega, by omega, num_eq (by omega), num_eq (by omega), rfl⟩
        · have J := Lib.hid (I.out.done (by rw [← Int.natCast_mul] at ht; omega))
          go_wp2_with fail
          go_meet
          exact ⟨num_eq (by rw [← J.out]), rfl⟩
  case rest =>
    obtain ⟨rfl, rfl⟩ := hcut
    clear I1 b1 b2
    obtain ⟨Q1, HQ1⟩ : ∃ Q, Hid (Q = (u * 4294967296 + un1) / Y) := ⟨_, rfl⟩
    obtain ⟨v, Hv⟩ : ∃ v, Hid (v = (u * 4294967296 + un1) % Y) := ⟨_, rfl⟩
    have l1 := left_eq u un1 Y Q1 (by omega) n6 HQ1.out
    rw [← HQ1.out]
    rw [← Hv.out] at l1
    have n9 : v < Y := by rw [Hv.out]; exact Nat.mod_lt _ (by omega)
    obtain ⟨q0, hq0⟩ : ∃ q, q = v / yn1 := ⟨_, rfl⟩
    obtain ⟨r0, hr0⟩ : ∃ q, q = v % yn1 := ⟨_, rfl⟩
    obtain ⟨b1, b2⟩ := est_eqs v Y yn1 yn0 H.out.split n2 n4 n9 n6
    have I0 := Lib.hid (Inv.start H.out.split n2 n3 n4 n9 n8)
    rw [← hq0, ← hr0] at I0
    rw [← hq0] at b1 b2
    rw [← hr0] at b2
    clear hq0 hr0
    go_upto_block 2 with (fail)
    go_cut [18] (fun q wx => q = .int .u64 (((v * 4294967296 + un0) / Y : Nat) : Int) ∧ wx = wc)
    case first =>
      go_wp2_with fail
      go_loopg [18, 16] q0 (fun n q r wx => ∃ r' : Nat, Hid (Inv v un0 Y yn1 yn0 n r') ∧ (n : Int) ≤ 4294967297 ∧ (r' : Int) < 4294967296 ∧ q = .int .u64 n ∧ r = .int .u64 r' ∧ wx = wc)
      case atStart => exact ⟨r0, I0, by have := I0.out.hi; omega, by have := I0.out.rhi; omega, rfl, rfl, rfl⟩
      case round =>
        obtain ⟨r', I, hn, hr, rfl, rfl, rfl⟩ := hrel
        by_cases hq : (4294967296 : Int) ≤ (gk : Int)
        · have J := Lib.hid (I.out.next (.inl (by omega)))
          have hg : (1 : Int) ≤ (gk : Int) := by omega
          by_cases hb : (4294967296 : Int) ≤ (r' : Int) + (yn1 : Int)
          · go_wp2_with fail
            go_meet
            exact ⟨num_eq (by rw [← J.out.2.2.2.2 (by omega)]; omega), rfl⟩
          · go_wp2_with fail
            go_roundg (gk - 1)
            case measure => omega
            case rel => exact ⟨r' + yn1, J.out.2.2.2.1 (by omega), by omega, by omega, num_eq (by omega), num_eq (by omega), rfl⟩
        · obtain ⟨p1, p2, p3⟩ := I.out.prod (by omega)
          by_cases ht : (4294967296 : Int) * (r' : Int) + (un0 : Int) < (gk : Int) * (yn0 : Int)
          · have J := Lib.hid (I.out.next (.inr (by rw [← Int.natCast_mul] at ht; omega)))
            have hg : (1 : Int) ≤ (gk : Int) := by have := J.out.1; omega
            by_cases hb : (4294967296 : Int) ≤ (r' : Int) + (yn1 : Int)
            · go_wp2_with fail
              go_meet
              exact ⟨num_eq (by rw [← J.out.2.2.2.2 (by omega)]; omega), rfl⟩
            · go_wp2_with fail
              go_roundg (gk - 1)
              case measure => omega
              case rel => exact ⟨r' + yn1, J.out.2.2.2.1 (by omega), by omega, by omega, num_eq (by omega), num_eq (by omega), rfl⟩
          · have J := Lib.hid (I.out.done (by rw [← Int.natCast_mul] at ht; omega))
            go_wp2_with fail
            go_meet
            exact ⟨num_eq (by rw [← J.out]), rfl⟩
    case rest =>
      obtain ⟨rfl, rfl⟩ := hcut
      obtain ⟨Q0, HQ0⟩ : ∃ Q, Hid (Q = (v * 4294967296 + un0) / Y) := ⟨_, rfl⟩
      obtain ⟨z, Hz⟩ : ∃ v', Hid (v' = (v * 4294967296 + un0) % Y) := ⟨_, rfl⟩
      have l0 := left_eq v un0 Y Q0 (by omega) n6 HQ0.out
      rw [← HQ0.out]
      rw [← Hz.out] at l0
      have c1 : Q1 < 4294967296 := by rw [HQ1.out]; exact q_lt u un1 Y n5 n7
      have c0 : Q0 < 4294967296 := by rw [HQ0.out]; exact q_lt v un0 Y n9 n8
      obtain ⟨t1, t2⟩ := two_steps u un1 un0 Y (by omega)
      have F1 : Hid ((hi * 18446744073709551616 + lo) / y = Q1 * 4294967296 + Q0) := by
        show _ = _
        rw [H.out.quo, t1, ← HQ1.out, ← Hv.out, ← HQ0.out]
      have F2 : Hid ((hi * 18446744073709551616 + lo) % y = z / 2 ^ k) := by
        show _ = _
        rw [H.out.rem, t2, ← Hv.out, ← Hz.out]
      clear t1 t2
      go_wp2_with fail
      go_ret2
      exact ⟨by rw [F1.out, F2.out]; simp, rfl⟩

/-- math/bits.Div64, whatever the words: the quotient and the rest of two words by one; the world has drawn at most. -/
theorem div64_any (hi lo y : Int) (h0 : 0 ≤ hi) (hlt : hi < y) (hy1 : y < 18446744073709551616) (l0 : 0 ≤ lo) (l1 : lo < 18446744073709551616) (w : World) :
    Calls Try.prog 105 #[.int .u64 hi, .int .u64 lo, .int .u64 y] w fun e w' => e = .returned (.tuple #[.int .u64 ((hi * 18446744073709551616 + lo) / y), .int .u64 ((hi * 18446744073709551616 + lo) % y)]) ∧ ∃ n, w' = w.drewN n := by
  by_cases hz : hi = 0
  · subst hz
    have e := div64_zero lo y hlt hy1 l0 l1 w
    rw [show (0 : Int) * 18446744073709551616 + lo = lo from by omega]
    exact e
  · obtain ⟨hi, rfl⟩ := Int.eq_ofNat_of_zero_le h0
    obtain ⟨lo, rfl⟩ := Int.eq_ofNat_of_zero_le l0
    obtain ⟨y, rfl⟩ := Int.eq_ofNat_of_zero_le (by omega : 0 ≤ y)
    obtain ⟨k, Y, yn1, yn0, u, un1, un0, N⟩ := norm hi lo y (by omega) (by omega) (by omega)
    refine (div64_some hi lo y k Y yn1 yn0 u un1 un0 (by omega) (by omega) (by omega) (by omega) N w).mono fun e w' ⟨he, hw⟩ => ⟨?_, 0, ?_⟩
    · rw [he]; simp
    · rw [← hw]; rfl
end
section

def addN (a b : Int) : Int := if a + b < 18446744073709551616 then a + b else 0
def addE (a b : Int) : Int := if a + b < 18446744073709551616 then 0 else 12
def hiN (a b : Int) : Int := a * b / 18446744073709551616
def loN (a b : Int) : Int := a * b % 18446744073709551616
def mdN (a b c : Int) : Int := if c = 0 then 0 else if a * b / c < 18446744073709551616 then a * b / c else 0
def mdE (a b c : Int) : Int := if c = 0 then 2 else if a * b / c < 18446744073709551616 then 0 else 12
def paN (a p : Int) : Int := if 1000000000 < p then 0 else mdN a p 1000000000
def paE (a p : Int) : Int := if 1000000000 < p then 3 else mdE a p 1000000000
/-- A word. -/
def Word (x : Int) : Prop := 0 ≤ x ∧ x < 18446744073709551616
theorem Word.lo {x : Int} (h : Word x) : 0 ≤ x := h.1
theorem Word.hi {x : Int} (h : Word x) : x < 18446744073709551616 := h.2

theorem prod_bounds {a b : Int} (ha : Word a) (hb : Word b) : 0 ≤ a * b ∧ a * b ≤ 340282366920938463426481119284349108225 := by
  refine ⟨Int.mul_nonneg ha.1 hb.1, ?_⟩
  have h1 : a * b ≤ 18446744073709551615 * b := Int.mul_le_mul_of_nonneg_right (by have := ha.2; omega) hb.1
  have := hb.2
  omega
theorem word_hi {a b : Int} (ha : Word a) (hb : Word b) : Word (hiN a b) := by
  obtain ⟨h1, h2⟩ := prod_bounds ha hb
  unfold hiN Word
  omega
theorem word_lo (a b : Int) : Word (loN a b) := by unfold loN Word; omega
theorem hi_lo (a b : Int) : hiN a b * 18446744073709551616 + loN a b = a * b := by unfold hiN loN; omega
/-- the quotient of two words, in two words -/
theorem quo_hi {h l c : Int} (hc : 0 < c) (hh : 0 ≤ h) (hl : Word l) :
    (h * 18446744073709551616 + l) / c = h / c * 18446744073709551616 + (h % c * 18446744073709551616 + l) / c ∧
    (h * 18446744073709551616 + l) % c = (h % c * 18446744073709551616 + l) % c ∧ Word ((h % c * 18446744073709551616 + l) / c) := by
  have hd := Int.mul_ediv_add_emod h c
  have hm := Int.emod_nonneg h (by omega : c ≠ 0)
  have hm2 := Int.emod_lt_of_pos h hc
  have e : h * 18446744073709551616 + l = (h % c * 18446744073709551616 + l) + c * (h / c * 18446744073709551616) := by
    have : c * (h / c * 18446744073709551616) = c * (h / c) * 18446744073709551616 := by rw [Int.mul_assoc]
    omega
  refine ⟨?_, ?_, ?_⟩
  · rw [e, Int.add_mul_ediv_left _ _ (by omega)]; omega
  · rw [e, Int.add_mul_emod_self_left]
  · have := hl.1
    have := hl.2
    constructor
    · exact Int.ediv_nonneg (by omega) (by omega)
    · refine Int.ediv_lt_of_lt_mul hc ?_
      have h3 : (h % c + 1) * 18446744073709551616 ≤ c * 18446744073709551616 := Int.mul_le_mul_of_nonneg_right (by omega) (by omega)
      omega
end
section
open Go.RowKit
theorem mul64_any (a b : Int) (ha : Word a) (hb : Word b) (w : World) :
    Calls Try.prog 104 #[.int .u64 a, .int .u64 b] w fun e w' => e = .returned (.tuple #[.int .u64 (hiN a b), .int .u64 (loN a b)]) ∧ w = w' := by
  obtain ⟨a, rfl⟩ := Int.eq_ofNat_of_zero_le ha.1
  obtain ⟨b, rfl⟩ := Int.eq_ofNat_of_zero_le hb.1
  refine (Try.bits_Mul64 a b (by have := ha.2; omega) (by have := hb.2; omega) w).mono fun e w' ⟨he, hw⟩ => ⟨?_, hw.symm⟩
  rw [he]; unfold hiN loN; simp

theorem times_any (a b : Int) (ha : Word a) (hb : Word b) (w : World) :
    Calls Try.prog 97 #[.int .u64 a, .int .u64 b] w fun e w' => e = .returned (.agg #[.int .u64 (hiN a b), .int .u64 (loN a b)]) ∧ Ext w w' := by
  go_enter Try.func97, Try.ntmps97
  go_wp2_with (go_at_call 104; refine (mul64_any a b ha hb _).mono ?_; rintro e w' ⟨rfl, rfl⟩)
  simp [bodyPost, results, Try.results97, go_sem]
  exact (by repeat (first | assumption | exact Ext.refl _ | refine Ext.drew ?_ | refine Ext.drewN ?_ _ | refine Ext.alloc ?_ _ | refine Ext.setCell ?_ (by first | omega | (simp; done) | (simp; omega)) _ | refine Ext.trans ?_ (by assumption)))
theorem word_ok (l : Int) (w : World) :
    Calls Try.prog 99 #[.agg #[.int .u64 0, .int .u64 l]] w fun e w' => e = .returned (.tuple #[.int .u64 l, .int .i64 0]) ∧ Ext w w' := by
  go_enter Try.func99, Try.ntmps99
  go_wp2
  go_ret2
  exact ⟨rfl, (by repeat (first | assumption | exact Ext.refl _ | refine Ext.drew ?_ | refine Ext.drewN ?_ _ | refine Ext.alloc ?_ _ | refine Ext.setCell ?_ (by first | omega | (simp; done) | (simp; omega)) _ | refine Ext.trans ?_ (by assumption)))⟩
theorem word_no (h l : Int) (w : World) (hz : (h == 0) = false) :
    Calls Try.prog 99 #[.agg #[.int .u64 h, .int .u64 l]] w fun e w' => e = .returned (.tuple #[.int .u64 0, .int .i64 12]) ∧ Ext w w' := by
  go_enter Try.func99, Try.ntmps99
  go_wp2
  go_ret2
  exact ⟨rfl, (by repeat (first | assumption | exact Ext.refl _ | refine Ext.drew ?_ | refine Ext.drewN ?_ _ | refine Ext.alloc ?_ _ | refine Ext.setCell ?_ (by first | omega | (simp; done) | (simp; omega)) _ | refine Ext.trans ?_ (by assumption)))⟩
/-- a word, whatever the high part: said of the number -/
theorem word_any (h l : Int) (hh : 0 ≤ h) (hl : Word l) (w : World) :
    Calls Try.prog 99 #[.agg #[.int .u64 h, .int .u64 l]] w fun e w' =>
      e = .returned (.tuple #[.int .u64 (if h * 18446744073709551616 + l < 18446744073709551616 then h * 18446744073709551616 + l else 0), .int .i64 (if h * 18446744073709551616 + l < 18446744073709551616 then 0 else 12)]) ∧ Ext w w' := by
  have := hl.1
  have := hl.2
  by_cases hz : h = 0
  · subst hz
    refine (word_ok l w).mono fun e w' ⟨he, hw⟩ => ⟨?_, hw⟩
    rw [he, if_pos (by omega), if_pos (by omega)]
    exact ret_two (by omega) rfl
  · refine (word_no h l w (by simpa using hz)).mono fun e w' ⟨he, hw⟩ => ⟨?_, hw⟩
    rw [he, if_neg (by omega), if_neg (by omega)]
theorem over_any (h l c : Int) (hh : Word h) (hl : Word l) (hc : 0 < c) (hc1 : c < 18446744073709551616) (w : World) :
    Calls Try.prog 98 #[.agg #[.int .u64 h, .int .u64 l], .int .u64 c] w fun e w' =>
      e = .returned (.tuple #[.agg #[.int .u64 (h / c), .int .u64 ((h % c * 18446744073709551616 + l) / c)], .int .u64 ((h % c * 18446744073709551616 + l) % c)]) ∧ Ext w w' := by
  obtain ⟨h1, h2⟩ := hh
  obtain ⟨l1, l2⟩ := hl
  have m1 := Int.emod_nonneg h (by omega : c ≠ 0)
  have m2 := Int.emod_lt_of_pos h hc
  have q1 : 0 ≤ h / c := Int.ediv_nonneg h1 (by omega)
  have q2 : h / c ≤ h := Int.ediv_le_self c h1
  go_enter Try.func98, Try.ntmps98
  go_wp2
  go_quiet ((go_at_call 105; refine Calls.quiet_of (div64_any (h % c) l c m1 m2 hc1 l1 l2 _)))
  go_wp2
  simp [bodyPost, results, Try.results98, go_sem]
  exact (by repeat (first | assumption | exact Ext.refl _ | refine Ext.drew ?_ | refine Ext.drewN ?_ _ | refine Ext.alloc ?_ _ | refine Ext.setCell ?_ (by first | omega | (simp; done) | (simp; omega)) _ | refine Ext.trans ?_ (by assumption)))

theorem add64_run (x y c : Int) (hx : 0 ≤ x) (hy : 0 ≤ y) (hc0 : 0 ≤ c) (hc : c ≤ 1) (w : World) : (callFunc 100 #[.int .u64 x, .int .u64 y, .int .u64 c]).run Try.prog w =
    .ok (.value (.tuple #[.int .u64 ((x + y + c) % 18446744073709551616), .int .u64 ((x + y + c) / 18446744073709551616)])) w := by
  obtain ⟨x, rfl⟩ := Int.eq_ofNat_of_zero_le hx
  obtain ⟨y, rfl⟩ := Int.eq_ofNat_of_zero_le hy
  obtain ⟨c, rfl⟩ := Int.eq_ofNat_of_zero_le hc0
  have h : c = 0 ∨ c = 1 := by omega
  rw [run_callFunc_extern Try.func100 (by kernel_rfl) (by kernel_rfl) (by kernel_rfl) (e := add64Entry) (by kernel_rfl), run_add64 x y c (by omega) (by omega) (by omega) (by omega)]
  simp only [Result.andThen]
  try (congr 5 <;> omega)
theorem add64_0 (x y : Int) (hx : 0 ≤ x) (hy : 0 ≤ y) (w : World) : (callFunc 100 #[.int .u64 x, .int .u64 y, .int .u64 0]).run Try.prog w =
    .ok (.value (.tuple #[.int .u64 ((x + y) % 18446744073709551616), .int .u64 ((x + y) / 18446744073709551616)])) w := by
  simpa using add64_run x y 0 hx hy (Int.le_refl 0) (by decide) w
end
section
open Go.RowKit
theorem fAdd_any (a b : Int) (ha : Word a) (hb : Word b) (w : World) :
    Calls Try.prog 77 #[.int .u64 a, .int .u64 b] w fun e w' => e = .returned (.tuple #[.int .u64 (addN a b), .int .i64 (addE a b)]) ∧ Ext w w' := by
  obtain ⟨a1, a2⟩ := ha
  obtain ⟨b1, b2⟩ := hb
  by_cases h : a + b < 18446744073709551616
  · have e1 : addN a b = a + b := if_pos h
    have e2 : addE a b = 0 := if_pos h
    rw [e1, e2]
    have d1 : (a + b) / 18446744073709551616 = 0 := by omega
    have d2 : (a + b) % 18446744073709551616 = a + b := by omega
    clear e1 e2
    go_enter Try.func77, Try.ntmps77
    go_wp2_with (simp only [add64_0 a b a1 b1, d1, d2])
    go_ret2
    exact ⟨rfl, (by repeat (first | assumption | exact Ext.refl _ | refine Ext.drew ?_ | refine Ext.drewN ?_ _ | refine Ext.alloc ?_ _ | refine Ext.setCell ?_ (by first | omega | (simp; done) | (simp; omega)) _ | refine Ext.trans ?_ (by assumption)))⟩
  · have e1 : addN a b = 0 := if_neg h
    have e2 : addE a b = 12 := if_neg h
    rw [e1, e2]
    have d1 : (a + b) / 18446744073709551616 = 1 := by omega
    clear e1 e2
    go_enter Try.func77, Try.ntmps77
    go_wp2_with (simp only [add64_0 a b a1 b1, d1])
    go_ret2
    exact ⟨rfl, (by repeat (first | assumption | exact Ext.refl _ | refine Ext.drew ?_ | refine Ext.drewN ?_ _ | refine Ext.alloc ?_ _ | refine Ext.setCell ?_ (by first | omega | (simp; done) | (simp; omega)) _ | refine Ext.trans ?_ (by assumption)))⟩
theorem fMulDiv_any (a b c : Int) (ha : Word a) (hb : Word b) (hc : Word c) (w : World) :
    Calls Try.prog 74 #[.int .u64 a, .int .u64 b, .int .u64 c] w fun e w' => e = .returned (.tuple #[.int .u64 (mdN a b c), .int .i64 (mdE a b c)]) ∧ Ext w w' := by
  by_cases hz : c = 0
  · subst hz
    go_enter Try.func74, Try.ntmps74
    go_wp2
    go_ret2
    exact ⟨rfl, (by repeat (first | assumption | exact Ext.refl _ | refine Ext.drew ?_ | refine Ext.drewN ?_ _ | refine Ext.alloc ?_ _ | refine Ext.setCell ?_ (by first | omega | (simp; done) | (simp; omega)) _ | refine Ext.trans ?_ (by assumption)))⟩
  · have hc0 : 0 < c := by have := hc.1; omega
    obtain ⟨q1, q2, q3⟩ := quo_hi (h := hiN a b) hc0 (word_hi ha hb).1 (word_lo a b)
    rw [hi_lo] at q1
    have q4 : 0 ≤ hiN a b / c := Int.ediv_nonneg (word_hi ha hb).1 (by omega)
    have W := word_any (hiN a b / c) _ q4 q3
    rw [← q1] at W
    have e1 : mdN a b c = if a * b / c < 18446744073709551616 then a * b / c else 0 := if_neg hz
    have e2 : mdE a b c = if a * b / c < 18446744073709551616 then 0 else 12 := if_neg hz
    rw [← e1, ← e2] at W
    have H := Lib.hid W
    clear e1 e2 W q1 q2 q3 q4
    go_enter Try.func74, Try.ntmps74
    go_wp2_with (first
      | (go_at_call 97; refine (times_any a b ha hb _).mono ?_; rintro e w' ⟨rfl, hx1⟩)
      | (go_at_call 98; refine (over_any _ _ c (word_hi ha hb) (word_lo a b) hc0 hc.2 _).mono ?_; rintro e w' ⟨rfl, hx2⟩)
      | (go_at_call 99; refine (H.out _).mono ?_; rintro e w' ⟨rfl, hx3⟩))
    go_ret2
    exact ⟨rfl, (by repeat (first | assumption | exact Ext.refl _ | refine Ext.drew ?_ | refine Ext.drewN ?_ _ | refine Ext.alloc ?_ _ | refine Ext.setCell ?_ (by first | omega | (simp; done) | (simp; omega)) _ | refine Ext.trans ?_ (by assumption)))⟩
theorem fPart_any (a p : Int) (ha : Word a) (hp : Word p) (w : World) :
    Calls Try.prog 41 #[.int .u64 a, .int .u64 p] w fun e w' => e = .returned (.tuple #[.int .u64 (paN a p), .int .i64 (paE a p)]) ∧ Ext w w' := by
  by_cases h : 1000000000 < p
  · have e1 : paN a p = 0 := if_pos h
    have e2 : paE a p = 3 := if_pos h
    rw [e1, e2]
    clear e1 e2
    go_enter Try.func41, Try.ntmps41
    go_wp2
    go_ret2
    exact ⟨rfl, (by repeat (first | assumption | exact Ext.refl _ | refine Ext.drew ?_ | refine Ext.drewN ?_ _ | refine Ext.alloc ?_ _ | refine Ext.setCell ?_ (by first | omega | (simp; done) | (simp; omega)) _ | refine Ext.trans ?_ (by assumption)))⟩
  · have e1 : paN a p = mdN a p 1000000000 := if_neg h
    have e2 : paE a p = mdE a p 1000000000 := if_neg h
    rw [e1, e2]
    clear e1 e2
    go_enter Try.func41, Try.ntmps41
    go_wp2_with ((go_at_call 74; refine (fMulDiv_any a p 1000000000 ha hp ⟨by decide, by decide⟩ _).mono ?_; rintro e w1 ⟨rfl, hx1⟩; (have hs1 := hx1.size); (try simp at hs1)))
    go_ret2
    exact ⟨rfl, (by repeat (first | assumption | exact Ext.refl _ | refine Ext.drew ?_ | refine Ext.drewN ?_ _ | refine Ext.alloc ?_ _ | refine Ext.setCell ?_ (by first | omega | (simp; done) | (simp; omega)) _ | refine Ext.trans ?_ (by assumption)))⟩
end
section
open Go.RowKit
/-- two slices share no block -/
def Apart (v v2 : Value) : Prop := ∀ k, v.ownBlock = some k → v2.ownBlock ≠ some k
theorem Apart.symm {v v2 : Value} (h : Apart v v2) : Apart v2 v := fun k h2 h1 => h k h1 h2
theorem Apart.nil (v : Value) : Apart v (.slice none 0 0) := fun k _ h => by simp [Value.ownBlock] at h
section
variable {P : Program} (w : World)
end
end
section
open Go.RowKit Go.ChangeShapes Go.WideShapes Go.Deep Go.Joins
theorem below_ext {B : Nat} {w w' : World} (hb : B ≤ w.heap.size) (h : Ext w w') : Below B w w' := Below.mono h hb
/-- an entry's numbers are numbers of their kinds -/
def FitsQ (x : (Int × Int × Int × Int × Int × Int × Int × Int)) : Prop := Fits .i64 x.1 ∧ Fits .i64 x.2.1 ∧ Fits .i64 x.2.2.1 ∧ Fits .i64 x.2.2.2.1 ∧ Fits .i64 x.2.2.2.2.1 ∧ Fits .i64 x.2.2.2.2.2.1 ∧ Word x.2.2.2.2.2.2.1 ∧ Word x.2.2.2.2.2.2.2
theorem FitsQ.ba {x : (Int × Int × Int × Int × Int × Int × Int × Int)} (h : FitsQ x) : Word (baE x) := h.2.2.2.2.2.2.2
def totB : List (Int × Int × Int × Int × Int × Int × Int × Int) → Int
  | [] => 0
  | x :: l => baE x + totB l
theorem totB_app : ∀ (l r : List (Int × Int × Int × Int × Int × Int × Int × Int)), totB (l ++ r) = totB l + totB r
  | [], r => by simp [totB]
  | x :: l, r => by
    show baE x + totB (l ++ r) = baE x + totB l + totB r
    rw [totB_app l r]; omega
theorem totB_nonneg : ∀ {l : List (Int × Int × Int × Int × Int × Int × Int × Int)}, (∀ x ∈ l, FitsQ x) → 0 ≤ totB l
  | [], _ => Int.le_refl 0
  | x :: l, h => by
    have h1 := totB_nonneg (l := l) (fun y hy => h y (List.mem_cons_of_mem _ hy))
    have h2 := (h x (List.mem_cons_self ..)).ba.1
    show 0 ≤ baE x + totB l
    omega
theorem totB_take {l : List (Int × Int × Int × Int × Int × Int × Int × Int)} {k : Nat} {x : (Int × Int × Int × Int × Int × Int × Int × Int)} (h : l[k]? = some x) : totB (l.take (k + 1)) = totB (l.take k) + baE x := by
  rw [List.take_add_one, h, totB_app]
  simp [totB]
theorem totB_le {l : List (Int × Int × Int × Int × Int × Int × Int × Int)} (h : ∀ x ∈ l, FitsQ x) (k : Nat) : totB (l.take k) ≤ totB l := by
  have e : totB l = totB (l.take k) + totB (l.drop k) := by rw [← totB_app, List.take_append_drop]
  have := totB_nonneg (l := l.drop k) (fun x hx => h x (List.mem_of_mem_drop hx))
  omega
def sumP (l : List (Int × Int × Int × Int × Int × Int × Int × Int)) : Int := if totB l ≤ 4611686018427387904 then totB l else 4611686018427387905
theorem sumP_take {l : List (Int × Int × Int × Int × Int × Int × Int × Int)} {k : Nat} {x : (Int × Int × Int × Int × Int × Int × Int × Int)} (hf : ∀ x ∈ l, FitsQ x) (h : l[k]? = some x) : sumP (l.take (k + 1)) = if sumP (l.take k) + baE x ≤ 4611686018427387904 then sumP (l.take k) + baE x else 4611686018427387905 := by
  have h1 := (hf x (List.mem_of_getElem? h)).ba.1
  have h2 := totB_nonneg (l := l.take k) (fun x hx => hf x (List.mem_of_mem_take hx))
  unfold sumP
  rw [totB_take h]
  by_cases h3 : totB (l.take k) ≤ 4611686018427387904
  · rw [if_pos h3]
  · rw [if_neg h3, if_neg (by omega), if_neg (by omega)]
theorem sumP_bd {l : List (Int × Int × Int × Int × Int × Int × Int × Int)} (hf : ∀ x ∈ l, FitsQ x) : 0 ≤ sumP l ∧ sumP l ≤ 4611686018427387905 := by
  have := totB_nonneg hf
  unfold sumP
  split <;> omega
/-- how many are an owner's, of a validator -/
def liveQ (l : List (Int × Int × Int × Int × Int × Int × Int × Int)) (o v : Int) : Nat := l.countP fun x => x.1 == o && x.2.1 == v
theorem liveQ_take {l : List (Int × Int × Int × Int × Int × Int × Int × Int)} {k : Nat} {x : (Int × Int × Int × Int × Int × Int × Int × Int)} {o v : Int} (h : l[k]? = some x) : liveQ (l.take (k + 1)) o v = liveQ (l.take k) o v + if (x.1 == o && x.2.1 == v) = true then 1 else 0 := by
  unfold liveQ
  rw [List.take_add_one, h, List.countP_append]
  congr 1
  simp [List.countP_cons]
theorem liveQ_le (l : List (Int × Int × Int × Int × Int × Int × Int × Int)) (o v : Int) : liveQ l o v ≤ l.length := List.countP_le_length
def ofQ (l : List (Int × Int × Int × Int × Int × Int × Int × Int)) (o : Int) : List (Int × Int × Int × Int × Int × Int × Int × Int) := l.filter fun x => x.1 == o
theorem ofQ_take {l : List (Int × Int × Int × Int × Int × Int × Int × Int)} {k : Nat} {x : (Int × Int × Int × Int × Int × Int × Int × Int)} {o : Int} (h : l[k]? = some x) : ofQ (l.take (k + 1)) o = ofQ (l.take k) o ++ if (x.1 == o) = true then [x] else [] := by
  unfold ofQ
  rw [List.take_add_one, h, List.filter_append]
  congr 1
  by_cases hx : (x.1 == o) = true <;> simp [hx]
set_option maxRecDepth 100000 in
set_option maxHeartbeats 4000000 in
theorem qsum1_any (n : Int) (xo xv xs xp xf xc xi xb : Int) (r : Int) (hr : r = if n + xb ≤ 4611686018427387904 then n + xb else 4611686018427387905) (w : World) (h0 : 0 ≤ n) (h1 : n ≤ 4611686018427387905) (hb : Word xb) :
    Calls Try.prog 76 #[.int .u64 n, .agg #[.int .i64 xo, .int .i64 xv, .int .i64 xs, .int .i64 xp, .int .i64 xf, .int .i64 xc, .int .u64 xi, .int .u64 xb]] w fun e w' => e = .returned (.int .u64 r) ∧ Ext w w' := by
  rw [hr]
  clear hr
  have CA := Lib.hid (fun w => fAdd_any n xb ⟨h0, by omega⟩ hb w)
  obtain ⟨b0, b1⟩ := hb
  by_cases h2 : n + xb < 18446744073709551616
  · rw [show addN n xb = n + xb from if_pos h2, show addE n xb = 0 from if_pos h2] at CA
    by_cases h3 : n + xb ≤ 4611686018427387904
    · rw [if_pos h3]
      have h4 : ¬ 4611686018427387904 < n + xb := by omega
      go_enter Try.func76, Try.ntmps76
      go_wp2_with fail
      (with_reducible refine (CA.out _).mono ?_)
      rintro e w1 ⟨rfl, hx1⟩
      have z1 := hx1.size
      try simp at z1
      have X1 : Hid (Ext w w1) := Lib.hid (Ext.trans (by repeat (first | with_reducible exact Ext.refl w | with_reducible refine Ext.drew ?_ | with_reducible refine Ext.drewN ?_ _ | with_reducible refine Ext.alloc ?_ _ | with_reducible refine Ext.setCell ?_ (by first | omega | (simp; done) | (simp; omega)) _)) hx1)
      clear hx1 z1
      go_wp2_with fail
      go_ret
      exact ⟨rfl, (by repeat (first | with_reducible exact X1.out | with_reducible refine Ext.drew ?_ | with_reducible refine Ext.drewN ?_ _ | with_reducible refine Ext.alloc ?_ _ | with_reducible refine Ext.setCell ?_ (by first | omega | (simp; done) | (simp; omega)) _))⟩
    · rw [if_neg h3]
      have h4 : 4611686018427387904 < n + xb := by omega
      go_enter Try.func76, Try.ntmps76
      go_wp2_with fail
      (with_reducible refine (CA.out _).mono ?_)
      rintro e w1 ⟨rfl, hx1⟩
      have z1 := hx1.size
      try simp at z1
      have X1 : Hid (Ext w w1) := Lib.hid (Ext.trans (by repeat (first | with_reducible exact Ext.refl w | with_reducible refine Ext.drew ?_ | with_reducible refine Ext.drewN ?_ _ | with_reducible refine Ext.alloc ?_ _ | with_reducible refine Ext.setCell ?_ (by first | omega | (simp; done) | (simp; omega)) _)) hx1)
      clear hx1 z1
      go_wp2_with fail
      go_ret
      exact ⟨rfl, (by repeat (first | with_reducible exact X1.out | with_reducible refine Ext.drew ?_ | with_reducible refine Ext.drewN ?_ _ | with_reducible refine Ext.alloc ?_ _ | with_reducible refine Ext.setCell ?_ (by first | omega | (simp; done) | (simp; omega)) _))⟩
  · rw [show addN n xb = 0 from if_neg h2, show addE n xb = 12 from if_neg h2] at CA
    rw [if_neg (by omega)]
    go_enter Try.func76, Try.ntmps76
    go_wp2_with fail
    (with_reducible refine (CA.out _).mono ?_)
    rintro e w1 ⟨rfl, hx1⟩
    have z1 := hx1.size
    try simp at z1
    have X1 : Hid (Ext w w1) := Lib.hid (Ext.trans (by repeat (first | with_reducible exact Ext.refl w | with_reducible refine Ext.drew ?_ | with_reducible refine Ext.drewN ?_ _ | with_reducible refine Ext.alloc ?_ _ | with_reducible refine Ext.setCell ?_ (by first | omega | (simp; done) | (simp; omega)) _)) hx1)
    clear hx1 z1
    go_wp2_with fail
    go_ret
    exact ⟨rfl, (by repeat (first | with_reducible exact X1.out | with_reducible refine Ext.drew ?_ | with_reducible refine Ext.drewN ?_ _ | with_reducible refine Ext.alloc ?_ _ | with_reducible refine Ext.setCell ?_ (by first | omega | (simp; done) | (simp; omega)) _))⟩
set_option maxRecDepth 100000 in
set_option maxHeartbeats 4000000 in
theorem qlive1_any (n : Int) (xo xv xs xp xf xc xi xb : Int) (ow v : Int) (p q : Nat) (r : Int) (hr : r = n + if (xo == ow && xv == v) = true then 1 else 0) (w : World) (h0 : 0 ≤ n) (h1 : n ≤ 1099511627776) (p_0 : w.cell? ⟨p, 0, none⟩ = some (.int .i64 ow)) (q_0 : w.cell? ⟨q, 0, none⟩ = some (.int .i64 v)) :
    Calls Try.prog 55 #[.int .i64 n, .agg #[.int .i64 xo, .int .i64 xv, .int .i64 xs, .int .i64 xp, .int .i64 xf, .int .i64 xc, .int .u64 xi, .int .u64 xb], .pointer (some ⟨p, 0, none⟩), .pointer (some ⟨q, 0, none⟩)] w fun e w' => e = .returned (.int .i64 r) ∧ Ext w w' := by
  rw [hr]
  clear hr
  have hp := cell_lt p_0
  have hq := cell_lt q_0
  have hpn : ¬ p = w.heap.size := by omega
  have hqn : ¬ q = w.heap.size := by omega
  cases e1 : (xo == ow)
  · skip
    go_enter Try.func55, Try.ntmps55
    go_wp2_with fail
    go_ret
    exact ⟨by simp [e1], (by repeat (first | with_reducible exact Ext.refl w | with_reducible refine Ext.drew ?_ | with_reducible refine Ext.drewN ?_ _ | with_reducible refine Ext.alloc ?_ _ | with_reducible refine Ext.setCell ?_ (by first | omega | (simp; done) | (simp; omega)) _))⟩
  · cases e2 : (xv == v)
    · skip
      go_enter Try.func55, Try.ntmps55
      go_wp2_with fail
      go_ret
      exact ⟨by simp [e1, e2], (by repeat (first | with_reducible exact Ext.refl w | with_reducible refine Ext.drew ?_ | with_reducible refine Ext.drewN ?_ _ | with_reducible refine Ext.alloc ?_ _ | with_reducible refine Ext.setCell ?_ (by first | omega | (simp; done) | (simp; omega)) _))⟩
    · skip
      go_enter Try.func55, Try.ntmps55
      go_wp2_with fail
      go_ret
      exact ⟨by simp [e1, e2], (by repeat (first | with_reducible exact Ext.refl w | with_reducible refine Ext.drew ?_ | with_reducible refine Ext.drewN ?_ _ | with_reducible refine Ext.alloc ?_ _ | with_reducible refine Ext.setCell ?_ (by first | omega | (simp; done) | (simp; omega)) _))⟩
theorem ent_infoP : ∃ i0, Try.prog.info? 27 = some i0 ∧ i0.zero = some (.agg #[.int .i64 0, .int .i64 0, .int .i64 0, .int .i64 0, .int .i64 0, .int .i64 0, .int .u64 0, .int .u64 0]) ∧ i0.size = 8 ∧ i0.bytes = 64 := info_parts ent_info
set_option maxRecDepth 100000 in
set_option maxHeartbeats 4000000 in
theorem qof1_any (A : Option Addr) (n c base : Nat) (L : List (Int × Int × Int × Int × Int × Int × Int × Int)) (xo xv xs xp xf xc xi xb : Int) (ow : Int) (p : Nat) (w : World) (h : OwnEnt w base (.slice A n c) n L) (hn : n ≤ 1000000) (hb : base ≤ w.heap.size) (p_0 : w.cell? ⟨p, 0, none⟩ = some (.int .i64 ow)) :
    Calls Try.prog 53 #[.slice A n c, .agg #[.int .i64 xo, .int .i64 xv, .int .i64 xs, .int .i64 xp, .int .i64 xf, .int .i64 xc, .int .u64 xi, .int .u64 xb], .pointer (some ⟨p, 0, none⟩)] w fun e w' => ∃ A' c', e = .returned (.slice A' (L ++ if (xo == ow) = true then [(xo, xv, xs, xp, xf, xc, xi, xb)] else []).length c') ∧ OwnEnt w' base (.slice A' (L ++ if (xo == ow) = true then [(xo, xv, xs, xp, xf, xc, xi, xb)] else []).length c') (L ++ if (xo == ow) = true then [(xo, xv, xs, xp, xf, xc, xi, xb)] else []).length (L ++ if (xo == ow) = true then [(xo, xv, xs, xp, xf, xc, xi, xb)] else []) ∧ Below base w w' := by
  obtain ⟨i0, hi0, hz0, hz1, hz2⟩ := ent_infoP
  have hp := cell_lt p_0
  have hpn : ¬ p = w.heap.size := by omega
  have hL : L.length = n := by
    have := h.1
    rw [flat_len entC_len] at this
    omega
  have HO := Lib.hid h
  have HL := Lib.hid hL
  clear h hL
  cases e1 : (xo == ow)
  · have E := Lib.hid (show OwnEnt w base (.slice A (L ++ []).length c) (L ++ []).length (L ++ []) from by rw [List.append_nil, HL.out]; exact HO.out)
    have HN := Lib.hid (show n = (L ++ []).length from by rw [List.append_nil, HL.out])
    go_enter Try.func53, Try.ntmps53
    go_wp2
    go_ret
    exact ⟨A, c, by simp [HL.out], by simpa [HL.out] using (HO.out.ext ((Ext.refl _).alloc _)), below_ext hb (by repeat (first | with_reducible exact Ext.refl _ | with_reducible refine Ext.drew ?_ | with_reducible refine Ext.alloc ?_ _))⟩
  · go_enter Try.func53, Try.ntmps53
    go_wp2_with (at_builtin; refine wpList_append_new _ rfl _ _ 22 rfl base 27 i0 (.agg #[.int .i64 0, .int .i64 0, .int .i64 0, .int .i64 0, .int .i64 0, .int .i64 0, .int .u64 0, .int .u64 0]) 8 64 Try.underlying22 hi0 hz0 hz1 hz2 rfl (by decide) _ n (L.flatMap entC) (by rfl) (HO.out.ext ((Ext.refl _).alloc _)) #[.int .i64 xo, .int .i64 xv, .int .i64 xs, .int .i64 xp, .int .i64 xf, .int .i64 xc, .int .u64 xi, .int .u64 xb] 1 (by first | rfl | simp [Act.eval, go_sem]) rfl (by intro u hu; simp at hu; rcases hu with rfl | rfl | rfl | rfl | rfl | rfl | rfl | rfl <;> rfl) (by omega) (by decide) (by simp; omega) ?_; intro v9 w9 hown9 hb9; have E0 := Lib.hid (And.intro hown9 hb9); clear hown9 hb9)
    obtain ⟨A9, c9, rfl, _, _⟩ := own_parts2 E0.out.1
    go_wp2
    go_ret
    have h1 := E0.out.1
    refine ⟨A9, c9, by simp [HL.out], ?_, Below.trans (below_ext hb ((Ext.refl _).alloc _)) E0.out.2⟩
    unfold OwnEnt
    rw [List.flatMap_append, HL.out]
    exact h1
set_option maxRecDepth 100000 in
set_option maxHeartbeats 4000000 in
theorem qfoldW_any (A : Option Addr) (n c : Nat) (l : List (Int × Int × Int × Int × Int × Int × Int × Int)) (w : World) (h : Sl w 8 A n c (l.flatMap entC)) (hn : n ≤ 100000) (hf : ∀ x ∈ l, FitsQ x) :
    Calls Try.prog 75 #[.slice A n c, .int .u64 0, .func (.func 76) #[] #[]] w fun e w' => e = .returned (.int .u64 (sumP l)) ∧ Ext w w' := by
  have hll := h.rlen entC_len (by decide)
  have HS := Lib.hid h
  have HF := Lib.hid hf
  have HLL := Lib.hid hll
  clear h hf hll
  go_enter Try.func75, Try.ntmps75
  go_wp2
  go_loopg [1, 11] n (fun gh a i wx => gh ≤ n ∧ i = .int .i64 ((n - gh : Nat) : Int) ∧ a = .int .u64 (sumP (l.take (n - gh))) ∧ Hid (Ext w wx))
  case atStart => exact ⟨Nat.le_refl _, by simp, by rw [Nat.sub_self]; exact rfl, Lib.hid (Ext.refl _)⟩
  case round =>
    obtain ⟨hg, hi, ha, XR⟩ := hrel
    obtain ⟨k, hk⟩ : ∃ k, k = n - gk := ⟨_, rfl⟩
    rw [← hk] at hi ha
    obtain ⟨s, hs⟩ : ∃ s, s = sumP (l.take k) := ⟨_, rfl⟩
    rw [← hs] at ha
    subst ha
    subst hi
    by_cases hz : gk = 0
    · have hkn : ¬ (k : Int) < (n : Int) := by omega
      have hkl : l.take k = l := List.take_of_length_le (by have := HLL.out; omega)
      rw [hkl] at hs
      have HS2 := Lib.hid hs
      clear hk hg hz hkl hs
      go_wp2
      go_ret
      exact ⟨ret_int HS2.out, XR.out⟩
    · have hkn : (k : Int) < (n : Int) := by omega
      have hkl : k < l.length := by have := HLL.out; omega
      have HSr := Lib.hid (HS.out.ext XR.out)
      obtain ⟨b1, o1, rfl, hb1, hc_x⟩ := HSr.out.rec_ entC_len (show 0 < n from by omega)
      obtain ⟨xw, hl_x⟩ : ∃ x, l[k]? = some x := ⟨_, List.getElem?_eq_getElem (by omega)⟩
      have x_0 := hc_x k xw hl_x 0 _ rfl
      have x_1 := hc_x k xw hl_x 1 _ rfl
      have x_2 := hc_x k xw hl_x 2 _ rfl
      have x_3 := hc_x k xw hl_x 3 _ rfl
      have x_4 := hc_x k xw hl_x 4 _ rfl
      have x_5 := hc_x k xw hl_x 5 _ rfl
      have x_6 := hc_x k xw hl_x 6 _ rfl
      have x_7 := hc_x k xw hl_x 7 _ rfl
      obtain ⟨xo, xv, xs, xp, xf, xc, xi, xb⟩ := xw
      simp only at x_0 x_1 x_2 x_3 x_4 x_5 x_6 x_7
      rw [Nat.add_zero] at x_0
      rw [← Nat.add_assoc] at x_1 x_2 x_3 x_4 x_5 x_6 x_7
      clear hc_x
      have hfx := HF.out _ (List.mem_of_getElem? hl_x)
      have hst := sumP_take HF.out hl_x
      obtain ⟨s0, s1⟩ := sumP_bd (l := l.take k) (fun x hx => HF.out x (List.mem_of_mem_take hx))
      rw [← hs] at hst s0 s1
      have hba : Word xb := hfx.ba
      obtain ⟨s2, hs2⟩ : ∃ s2, s2 = if s + xb ≤ 4611686018427387904 then s + xb else 4611686018427387905 := ⟨_, rfl⟩
      replace hst : sumP (l.take (k + 1)) = s2 := by rw [hs2]; exact hst
      have HS2 := Lib.hid hs2
      clear hs2
      have HT := Lib.hid hst
      have HK := Lib.hid (And.intro hk (And.intro hg hz))
      have HSE := Lib.hid hs
      have hwx := Ext.size XR.out
      have hb1s : ¬ b1 = wr.heap.size := by omega
      clear hk hg hz hkl hl_x hfx hst hs HSr
      go_wp2_with fail
      (with_reducible refine (qsum1_any s xo xv xs xp xf xc xi xb s2 HS2.out _ s0 s1 hba).mono ?_)
      rintro e w11 ⟨rfl, hx11⟩
      have z11 := hx11.size
      try simp at z11
      have X11 : Hid (Ext w w11) := Lib.hid (Ext.trans (by repeat (first | with_reducible exact XR.out | with_reducible refine Ext.drew ?_ | with_reducible refine Ext.drewN ?_ _ | with_reducible refine Ext.alloc ?_ _ | with_reducible refine Ext.setCell ?_ (by first | omega | (simp; done) | (simp; omega)) _)) hx11)
      clear x_1 x_4 x_5 x_3 x_0 x_6 x_7 x_2 XR hx11 z11
      go_wp2_with fail
      go_roundg (gk - 1)
      case measure => have := HK.out; omega
      case rel => exact ⟨by have := HK.out; omega, num_eq (by have := HK.out; omega), num_eq (by rw [show n - (gk - 1) = k + 1 from by have := HK.out; omega]; exact HT.out.symm), Lib.hid (by repeat (first | with_reducible exact X11.out | with_reducible refine Ext.drew ?_ | with_reducible refine Ext.drewN ?_ _ | with_reducible refine Ext.alloc ?_ _ | with_reducible refine Ext.setCell ?_ (by first | omega | (simp; done) | (simp; omega)) _))⟩
set_option maxRecDepth 100000 in
set_option maxHeartbeats 4000000 in
theorem qfoldI_any (A : Option Addr) (n c : Nat) (l : List (Int × Int × Int × Int × Int × Int × Int × Int)) (ow v : Int) (p q : Nat) (w : World) (h : Sl w 8 A n c (l.flatMap entC)) (hn : n ≤ 100000) (hf : ∀ x ∈ l, FitsQ x) (p_0 : w.cell? ⟨p, 0, none⟩ = some (.int .i64 ow)) (q_0 : w.cell? ⟨q, 0, none⟩ = some (.int .i64 v)) :
    Calls Try.prog 54 #[.slice A n c, .int .i64 0, .func (.func 55) #[] #[.pointer (some ⟨p, 0, none⟩), .pointer (some ⟨q, 0, none⟩)]] w fun e w' => e = .returned (.int .i64 ((liveQ l ow v : Nat) : Int)) ∧ Ext w w' := by
  have hll := h.rlen entC_len (by decide)
  have HS := Lib.hid h
  have HF := Lib.hid hf
  have HLL := Lib.hid hll
  have P0 := Lib.hid p_0
  clear p_0
  have Q0 := Lib.hid q_0
  clear q_0
  clear h hf hll
  go_enter Try.func54, Try.ntmps54
  go_wp2
  go_loopg [1, 11] n (fun gh a i wx => gh ≤ n ∧ i = .int .i64 ((n - gh : Nat) : Int) ∧ a = .int .i64 ((liveQ (l.take (n - gh)) ow v : Nat) : Int) ∧ Hid (Ext w wx))
  case atStart => exact ⟨Nat.le_refl _, by simp, by rw [Nat.sub_self]; exact rfl, Lib.hid (Ext.refl _)⟩
  case round =>
    obtain ⟨hg, hi, ha, XR⟩ := hrel
    obtain ⟨k, hk⟩ : ∃ k, k = n - gk := ⟨_, rfl⟩
    rw [← hk] at hi ha
    obtain ⟨s, hs⟩ : ∃ s, s = ((liveQ (l.take k) ow v : Nat) : Int) := ⟨_, rfl⟩
    rw [← hs] at ha
    subst ha
    subst hi
    by_cases hz : gk = 0
    · have hkn : ¬ (k : Int) < (n : Int) := by omega
      have hkl : l.take k = l := List.take_of_length_le (by have := HLL.out; omega)
      rw [hkl] at hs
      have HS2 := Lib.hid hs
      clear hk hg hz hkl hs
      go_wp2
      go_ret
      exact ⟨ret_int HS2.out, XR.out⟩
    · have hkn : (k : Int) < (n : Int) := by omega
      have hkl : k < l.length := by have := HLL.out; omega
      have HSr := Lib.hid (HS.out.ext XR.out)
      obtain ⟨b1, o1, rfl, hb1, hc_x⟩ := HSr.out.rec_ entC_len (show 0 < n from by omega)
      obtain ⟨xw, hl_x⟩ : ∃ x, l[k]? = some x := ⟨_, List.getElem?_eq_getElem (by omega)⟩
      have x_0 := hc_x k xw hl_x 0 _ rfl
      have x_1 := hc_x k xw hl_x 1 _ rfl
      have x_2 := hc_x k xw hl_x 2 _ rfl
      have x_3 := hc_x k xw hl_x 3 _ rfl
      have x_4 := hc_x k xw hl_x 4 _ rfl
      have x_5 := hc_x k xw hl_x 5 _ rfl
      have x_6 := hc_x k xw hl_x 6 _ rfl
      have x_7 := hc_x k xw hl_x 7 _ rfl
      obtain ⟨xo, xv, xs, xp, xf, xc, xi, xb⟩ := xw
      simp only at x_0 x_1 x_2 x_3 x_4 x_5 x_6 x_7
      rw [Nat.add_zero] at x_0
      rw [← Nat.add_assoc] at x_1 x_2 x_3 x_4 x_5 x_6 x_7
      clear hc_x
      have hfx := HF.out _ (List.mem_of_getElem? hl_x)
      have hst := liveQ_take (o := ow) (v := v) hl_x
      have s1 := liveQ_le (l.take k) ow v
      rw [List.length_take] at s1
      have s2 : s ≤ 1099511627776 := by omega
      have s0 : 0 ≤ s := by omega
      obtain ⟨s9, hs9⟩ : ∃ s9, s9 = s + if (xo == ow && xv == v) = true then 1 else 0 := ⟨_, rfl⟩
      replace hst : ((liveQ (l.take (k + 1)) ow v : Nat) : Int) = s9 := by rw [hs9, hst, hs]; split <;> simp
      have HS9 := Lib.hid hs9
      clear hs9
      have HT := Lib.hid hst
      have HK := Lib.hid (And.intro hk (And.intro hg hz))
      have HSE := Lib.hid hs
      have hwx := Ext.size XR.out
      have p_0 := XR.out.has P0.out
      have q_0 := XR.out.has Q0.out
      have hb1s : ¬ b1 = wr.heap.size := by omega
      have hps := cell_lt p_0
      have hpn : ¬ p = wr.heap.size := by omega
      have hqs := cell_lt q_0
      have hqn : ¬ q = wr.heap.size := by omega
      clear hk hg hz hkl hl_x hfx hst hs HSr s1
      go_wp2_with fail
      (with_reducible refine (qlive1_any s xo xv xs xp xf xc xi xb ow v p q s9 HS9.out _ s0 s2 (by first | assumption | (simp [go_sem, World.cell?_alloc_past, p_0, hpn, hps]; done)) (by first | assumption | (simp [go_sem, World.cell?_alloc_past, q_0, hqn, hps, hqs]; done))).mono ?_)
      rintro e w11 ⟨rfl, hx11⟩
      have z11 := hx11.size
      try simp at z11
      have X11 : Hid (Ext w w11) := Lib.hid (Ext.trans (by repeat (first | with_reducible exact XR.out | with_reducible refine Ext.drew ?_ | with_reducible refine Ext.drewN ?_ _ | with_reducible refine Ext.alloc ?_ _ | with_reducible refine Ext.setCell ?_ (by first | omega | (simp; done) | (simp; omega)) _)) hx11)
      clear x_1 x_4 x_5 x_3 x_0 x_6 x_7 x_2 p_0 q_0 XR hx11 z11
      go_wp2_with fail
      go_roundg (gk - 1)
      case measure => have := HK.out; omega
      case rel => exact ⟨by have := HK.out; omega, num_eq (by have := HK.out; omega), num_eq (by rw [show n - (gk - 1) = k + 1 from by have := HK.out; omega]; exact HT.out.symm), Lib.hid (by repeat (first | with_reducible exact X11.out | with_reducible refine Ext.drew ?_ | with_reducible refine Ext.drewN ?_ _ | with_reducible refine Ext.alloc ?_ _ | with_reducible refine Ext.setCell ?_ (by first | omega | (simp; done) | (simp; omega)) _))⟩
set_option maxRecDepth 100000 in
set_option maxHeartbeats 4000000 in
theorem qfoldE_any (A : Option Addr) (n c : Nat) (l : List (Int × Int × Int × Int × Int × Int × Int × Int)) (ow : Int) (p : Nat) (w : World) (h : Sl w 8 A n c (l.flatMap entC)) (hn : n ≤ 100000) (hf : ∀ x ∈ l, FitsQ x) (p_0 : w.cell? ⟨p, 0, none⟩ = some (.int .i64 ow)) :
    Calls Try.prog 52 #[.slice A n c, .slice none 0 0, .func (.func 53) #[] #[.pointer (some ⟨p, 0, none⟩)]] w (RetEnt (ofQ l ow) w) := by
  have hll := h.rlen entC_len (by decide)
  have HS := Lib.hid h
  have HF := Lib.hid hf
  have HLL := Lib.hid hll
  have P0 := Lib.hid p_0
  clear p_0
  clear h hf hll
  go_enter Try.func52, Try.ntmps52
  go_wp2
  go_loopg [1, 11] n (fun gh a i wx => gh ≤ n ∧ i = .int .i64 ((n - gh : Nat) : Int) ∧ (∃ A2 c2, a = .slice A2 (ofQ (l.take (n - gh)) ow).length c2) ∧ Hid (OwnEnt wx w.heap.size a (ofQ (l.take (n - gh)) ow).length (ofQ (l.take (n - gh)) ow)) ∧ Hid (Ext w wx))
  case atStart => exact ⟨Nat.le_refl _, by simp, by rw [Nat.sub_self]; exact ⟨none, 0, rfl⟩, by rw [Nat.sub_self]; exact Lib.hid (OwnEnt.nil _ _), Lib.hid (Ext.refl _)⟩
  case round =>
    obtain ⟨hg, hi, ⟨A2, c2, rfl⟩, HO, XR⟩ := hrel
    obtain ⟨k, hk⟩ : ∃ k, k = n - gk := ⟨_, rfl⟩
    rw [← hk] at hi HO
    rw [← hk]
    obtain ⟨L, hL⟩ : ∃ L, L = ofQ (l.take k) ow := ⟨_, rfl⟩
    rw [← hL] at HO ⊢
    subst hi
    by_cases hz : gk = 0
    · have hkn : ¬ (k : Int) < (n : Int) := by omega
      have hkl : l.take k = l := List.take_of_length_le (by have := HLL.out; omega)
      rw [hkl] at hL
      have E := Lib.hid (show RetEnt (ofQ l ow) w (.returned (.slice A2 L.length c2)) wr from by rw [← hL]; exact RetEnt.mk HO.out XR.out)
      clear hk hg hz hkl hL HO
      go_wp2
      go_ret
      exact E.out
    · have hkn : (k : Int) < (n : Int) := by omega
      have hkl : k < l.length := by have := HLL.out; omega
      have HSr := Lib.hid (HS.out.ext XR.out)
      obtain ⟨b1, o1, rfl, hb1, hc_x⟩ := HSr.out.rec_ entC_len (show 0 < n from by omega)
      obtain ⟨xw, hl_x⟩ : ∃ x, l[k]? = some x := ⟨_, List.getElem?_eq_getElem (by omega)⟩
      have x_0 := hc_x k xw hl_x 0 _ rfl
      have x_1 := hc_x k xw hl_x 1 _ rfl
      have x_2 := hc_x k xw hl_x 2 _ rfl
      have x_3 := hc_x k xw hl_x 3 _ rfl
      have x_4 := hc_x k xw hl_x 4 _ rfl
      have x_5 := hc_x k xw hl_x 5 _ rfl
      have x_6 := hc_x k xw hl_x 6 _ rfl
      have x_7 := hc_x k xw hl_x 7 _ rfl
      obtain ⟨xo, xv, xs, xp, xf, xc, xi, xb⟩ := xw
      simp only at x_0 x_1 x_2 x_3 x_4 x_5 x_6 x_7
      rw [Nat.add_zero] at x_0
      rw [← Nat.add_assoc] at x_1 x_2 x_3 x_4 x_5 x_6 x_7
      clear hc_x
      have hfx := HF.out _ (List.mem_of_getElem? hl_x)
      have hst := ofQ_take (o := ow) hl_x
      rw [← hL] at hst
      have hLl : L.length ≤ 100000 := by rw [hL]; unfold ofQ; exact Nat.le_trans (List.length_filter_le _ _) (by rw [List.length_take]; omega)
      have HT := Lib.hid hst
      have HK := Lib.hid (And.intro hk (And.intro hg hz))
      have hwx := Ext.size XR.out
      have p_0 := XR.out.has P0.out
      have hb1s : ¬ b1 = wr.heap.size := by omega
      have hps := cell_lt p_0
      have hpn : ¬ p = wr.heap.size := by omega
      clear hk hg hz hkl hl_x hfx hst hL HSr
      go_wp2_with fail
      (with_reducible refine (qof1_any A2 L.length c2 w.heap.size L xo xv xs xp xf xc xi xb ow p _ (HO.out.ext (by repeat (first | with_reducible exact Ext.refl _ | with_reducible refine Ext.drew ?_ | with_reducible refine Ext.alloc ?_ _ | with_reducible refine Ext.setCell ?_ (by first | omega | (simp; done) | (simp; omega)) _))) (by omega) (by first | omega | (simp; omega)) (by first | assumption | (simp [go_sem, World.cell?_alloc_past, p_0, hpn, hps]; done))).mono ?_)
      rintro e w3 ⟨A3, c3, rfl, hO3, hB3⟩
      have E1 := Lib.hid (show OwnEnt w3 w.heap.size (.slice A3 (ofQ (l.take (k + 1)) ow).length c3) (ofQ (l.take (k + 1)) ow).length (ofQ (l.take (k + 1)) ow) from by rw [HT.out]; exact hO3)
      have HE := Lib.hid (show (ofQ (l.take (k + 1)) ow).length = (L ++ if (xo == ow) = true then [(xo, xv, xs, xp, xf, xc, xi, xb)] else []).length from by rw [HT.out])
      have X3 := Lib.hid (show Ext w w3 from Ext.below (by repeat (first | with_reducible exact XR.out | with_reducible refine Ext.drew ?_ | with_reducible refine Ext.alloc ?_ _ | with_reducible refine Ext.setCell ?_ (by first | omega | (simp; done) | (simp; omega)) _)) hB3)
      clear hO3 hB3
      rw [← HE.out]
      generalize hNN : (ofQ (l.take (k + 1)) ow).length = NN at E1 ⊢
      have HNN := Lib.hid hNN
      clear hNN HE
      go_wp2
      go_roundg (gk - 1)
      case measure => have := HK.out; omega
      case rel =>
        have e1 : n - (gk - 1) = k + 1 := by have := HK.out; omega
        refine ⟨by have := HK.out; omega, num_eq (by have := HK.out; omega), ⟨A3, c3, by rw [e1, HNN.out]⟩, ?_, X3⟩
        rw [e1, HNN.out]
        exact E1
end
section
open Go.RowKit Go.ChangeShapes Go.WideShapes Go.Deep Go.Joins
set_option maxRecDepth 100000 in
set_option maxHeartbeats 4000000 in
theorem qsum_any (A : Option Addr) (n c : Nat) (l : List (Int × Int × Int × Int × Int × Int × Int × Int)) (w : World) (h : Sl w 8 A n c (l.flatMap entC)) (hn : n ≤ 100000) (hf : ∀ x ∈ l, FitsQ x) :
    Calls Try.prog 43 #[.slice A n c] w fun e w' => e = .returned (.int .u64 (sumP l)) ∧ Ext w w' := by
  have C1 := Lib.hid (qfoldW_any A n c l w h hn hf)
  clear h hf
  go_enter Try.func43, Try.ntmps43
  go_wp2_with fail
  refine C1.out.mono ?_
  rintro e w1 ⟨rfl, hx⟩
  have HX := Lib.hid hx
  clear hx
  go_wp2
  go_ret
  exact ⟨rfl, HX.out⟩
theorem qlive_any (A : Option Addr) (n c : Nat) (l : List (Int × Int × Int × Int × Int × Int × Int × Int)) (ow v : Int) (w : World) (h : Sl w 8 A n c (l.flatMap entC)) (hn : n ≤ 100000) (hf : ∀ x ∈ l, FitsQ x) :
    Calls Try.prog 25 #[.slice A n c, .int .i64 ow, .int .i64 v] w fun e w' => e = .returned (.int .i64 ((liveQ l ow v : Nat) : Int)) ∧ Ext w w' := by
  have hmf : ∀ (fn : Fn) (first cap : Array Value) (w : World), (Instr.makeFunc fn first cap).run Try.prog w = .ok (.func fn first cap) w := fun _ _ _ _ => rfl
  have HX0 : Hid (Ext w ((w.alloc (.cells #[.int .i64 ow] 3)).alloc (.cells #[.int .i64 v] 3))) := Lib.hid (((Ext.refl w).alloc _).alloc _)
  have C1 := Lib.hid (qfoldI_any A n c l ow v w.heap.size (w.heap.size + 1) ((w.alloc (.cells #[.int .i64 ow] 3)).alloc (.cells #[.int .i64 v] 3)) (h.ext HX0.out) hn hf (by simp [go_sem]) (by simp [go_sem]))
  clear h hf
  go_enter Try.func25, Try.ntmps25
  go_wp2_with fail
  refine C1.out.mono ?_
  rintro e w1 ⟨rfl, hx⟩
  have HX := Lib.hid (HX0.out.trans hx)
  clear hx HX0
  go_wp2
  go_ret
  exact ⟨rfl, HX.out⟩
theorem qof_any (A : Option Addr) (n c : Nat) (l : List (Int × Int × Int × Int × Int × Int × Int × Int)) (ow : Int) (w : World) (h : Sl w 8 A n c (l.flatMap entC)) (hn : n ≤ 100000) (hf : ∀ x ∈ l, FitsQ x) :
    Calls Try.prog 22 #[.slice A n c, .int .i64 ow] w (RetEnt (ofQ l ow) w) := by
  have hmf : ∀ (fn : Fn) (first cap : Array Value) (w : World), (Instr.makeFunc fn first cap).run Try.prog w = .ok (.func fn first cap) w := fun _ _ _ _ => rfl
  have HX0 : Hid (Ext w (w.alloc (.cells #[.int .i64 ow] 3))) := Lib.hid ((Ext.refl w).alloc _)
  have C1 := Lib.hid (qfoldE_any A n c l ow w.heap.size (w.alloc (.cells #[.int .i64 ow] 3)) (h.ext HX0.out) hn hf (by simp [go_sem]))
  clear h hf
  go_enter Try.func22, Try.ntmps22
  go_wp2_with fail
  refine C1.out.mono ?_
  rintro e w1 ⟨A2, c2, rfl, h1, h2, hx⟩
  have E := Lib.hid (show RetEnt (ofQ l ow) w (.returned (.slice A2 (ofQ l ow).length c2)) w1 from RetEnt.mk (own_lower h2 (Ext.size HX0.out)) (HX0.out.trans hx))
  clear h1 h2 hx HX0
  go_wp2
  go_ret
  exact E.out
end
section
open Go.RowKit Go.ChangeShapes Go.WideShapes Go.Deep Go.Joins
def chkGo : Int → Nat → List (Int × Int × Int × Int × Int × Int × Int × Int) → Int × Int
  | _, _, [] => (0, 0)
  | a, k, x :: l => if oneQ x a ≠ 0 then (oneQ x a, (k : Int)) else chkGo (crE x) (k + 1) l
def chkQ (l : List (Int × Int × Int × Int × Int × Int × Int × Int)) : Int × Int := if 32768 < l.length then (4, 32768) else if (chkGo 0 0 l).1 ≠ 0 then chkGo 0 0 l else if totB l ≤ 4611686018427387904 then (0, 0) else (12, 0)
theorem chkGo_at {l : List (Int × Int × Int × Int × Int × Int × Int × Int)} {k : Nat} {x : (Int × Int × Int × Int × Int × Int × Int × Int)} {a : Int} (h : l[k]? = some x) : chkGo a k (l.drop k) = if oneQ x a ≠ 0 then (oneQ x a, (k : Int)) else chkGo (crE x) (k + 1) (l.drop (k + 1)) := by
  obtain ⟨hk, hx⟩ := List.getElem?_eq_some_iff.1 h
  rw [List.drop_eq_getElem_cons hk, hx]
  rfl
theorem qone_ev (xo xv xs xp xf xc xi xb E a r : Int) (A : Option Addr) (n c : Nat) (l : List (Int × Int × Int × Int × Int × Int × Int × Int)) (w : World) (hE : chkS xv xs xp xf = E) (hs : Sl w 8 A n c (l.flatMap entC)) (ha : lastQ l = a) (hr : oneG xo E xc xs a xi xb = r) :
    Calls Try.prog 42 #[.agg #[.int .i64 xo, .int .i64 xv, .int .i64 xs, .int .i64 xp, .int .i64 xf, .int .i64 xc, .int .u64 xi, .int .u64 xb], .slice A n c] w fun e w' => e = .returned (.int .i64 r) ∧ Ext w w' := by
  rw [← hr]; exact qone_any xo xv xs xp xf xc xi xb E a A n c l w hE hs ha
set_option maxRecDepth 100000 in
set_option maxHeartbeats 4000000 in
theorem qcheck_any (A : Option Addr) (n c : Nat) (l : List (Int × Int × Int × Int × Int × Int × Int × Int)) (e1 e2 : Int) (w : World) (h : Sl w 8 A n c (l.flatMap entC)) (hf : ∀ x ∈ l, FitsQ x) (he : chkQ l = (e1, e2)) :
    Calls Try.prog 14 #[.slice A n c] w fun e w' => e = .returned (.tuple #[.int .i64 e1, .int .i64 e2]) ∧ Ext w w' := by
  have hll := h.rlen entC_len (by decide)
  have hns := h.small
  unfold chkQ at he
  rw [hll] at he
  by_cases hbig : 32768 < n
  · rw [if_pos hbig] at he
    injection he with he1 he2
    subst he1; subst he2
    have hb : (32768 : Int) < (n : Int) := by omega
    clear h hf hll
    go_enter Try.func14, Try.ntmps14
    go_wp2
    go_ret2
    exact ⟨rfl, Ext.refl _⟩
  · rw [if_neg hbig] at he
    have hb : ¬ (32768 : Int) < (n : Int) := by omega
    have HS := Lib.hid h
    have HF := Lib.hid hf
    have HLL := Lib.hid hll
    have HE := Lib.hid he
    have CS := Lib.hid (fun w' (hx : Ext w w') => qsum_any A n c l w' (h.ext hx) (by omega) hf)
    clear h hf hll he
    go_enter Try.func14, Try.ntmps14
    go_wp2
    go_loopg [12] n (fun gh i wx => gh ≤ n ∧ i = .int .i64 ((n - gh : Nat) : Int) ∧ Hid (chkGo 0 0 l = chkGo (lastQ (l.take (n - gh))) (n - gh) (l.drop (n - gh))) ∧ Hid (Ext w wx))
    case atStart => exact ⟨Nat.le_refl _, by simp, Lib.hid (by rw [Nat.sub_self]; rfl), Lib.hid (Ext.refl _)⟩
    case round =>
      obtain ⟨hg, hi, hgo, XR⟩ := hrel
      obtain ⟨k, hk⟩ : ∃ k, k = n - gk := ⟨_, rfl⟩
      rw [← hk] at hi hgo
      subst hi
      by_cases hz : gk = 0
      · have hkn : ¬ (k : Int) < (n : Int) := by omega
        have hgo2 : chkGo 0 0 l = (0, 0) := by
          rw [hgo.out, List.drop_of_length_le (by have := HLL.out; omega)]
          rfl
        have he := HE.out
        rw [hgo2, if_neg (by simp)] at he
        by_cases ht : totB l ≤ 4611686018427387904
        · rw [if_pos ht] at he
          injection he with he1 he2
          subst he1; subst he2
          have C1 := CS.out wr XR.out
          rw [show sumP l = totB l from if_pos ht] at C1
          have C2 := Lib.hid C1
          have ht2 : ¬ 4611686018427387904 < totB l := by omega
          clear hk hg hz hgo hgo2 HE C1 ht CS
          go_wp2_with fail
          refine C2.out.mono ?_
          rintro e w3 ⟨rfl, hx3⟩
          have X3 := Lib.hid (XR.out.trans hx3)
          clear hx3
          go_wp2_with fail
          go_ret2
          exact ⟨rfl, X3.out⟩
        · rw [if_neg ht] at he
          injection he with he1 he2
          subst he1; subst he2
          have C1 := CS.out wr XR.out
          rw [show sumP l = 4611686018427387905 from if_neg ht] at C1
          have C2 := Lib.hid C1
          clear hk hg hz hgo hgo2 HE C1 ht CS
          go_wp2_with fail
          refine C2.out.mono ?_
          rintro e w3 ⟨rfl, hx3⟩
          have X3 := Lib.hid (XR.out.trans hx3)
          clear hx3
          go_wp2_with fail
          go_ret2
          exact ⟨rfl, X3.out⟩
      · have hkn : (k : Int) < (n : Int) := by omega
        have hkl : k < l.length := by have := HLL.out; omega
        have HSr := Lib.hid (HS.out.ext XR.out)
        have HSk := Lib.hid (show Sl wr 8 A k c ((l.take k).flatMap entC) from by have h := HSr.out.take (show k ≤ n by omega); rw [flat_take entC_len] at h; exact h)
        obtain ⟨b1, o1, rfl, hb1, hc_x⟩ := HSr.out.rec_ entC_len (show 0 < n from by omega)
        obtain ⟨xw, hl_x⟩ : ∃ x, l[k]? = some x := ⟨_, List.getElem?_eq_getElem (by omega)⟩
        have x_0 := hc_x k xw hl_x 0 _ rfl
        have x_1 := hc_x k xw hl_x 1 _ rfl
        have x_2 := hc_x k xw hl_x 2 _ rfl
        have x_3 := hc_x k xw hl_x 3 _ rfl
        have x_4 := hc_x k xw hl_x 4 _ rfl
        have x_5 := hc_x k xw hl_x 5 _ rfl
        have x_6 := hc_x k xw hl_x 6 _ rfl
        have x_7 := hc_x k xw hl_x 7 _ rfl
        obtain ⟨xo, xv, xs, xp, xf, xc, xi, xb⟩ := xw
        simp only at x_0 x_1 x_2 x_3 x_4 x_5 x_6 x_7
        rw [Nat.add_zero] at x_0
        rw [← Nat.add_assoc] at x_1 x_2 x_3 x_4 x_5 x_6 x_7
        clear hc_x
        obtain ⟨a, ha⟩ : ∃ a, lastQ (l.take k) = a := ⟨_, rfl⟩
        obtain ⟨E, hE⟩ : ∃ E, chkS xv xs xp xf = E := ⟨_, rfl⟩
        obtain ⟨r, hr⟩ : ∃ r, oneG xo E xc xs a xi xb = r := ⟨_, rfl⟩
        have hst := hgo.out
        rw [ha, chkGo_at hl_x, show oneQ (xo, xv, xs, xp, xf, xc, xi, xb) a = r from by rw [← hr, ← hE]; rfl] at hst
        have hnx : lastQ (l.take (k + 1)) = xc := lastQ_take hl_x
        have HA := Lib.hid (And.intro ha (And.intro hE hr))
        have HT := Lib.hid (And.intro hst hnx)
        have HK := Lib.hid (And.intro hk (And.intro hg hz))
        have hwx := Ext.size XR.out
        have hb1s : ¬ b1 = wr.heap.size := by omega
        have hkc : (k : Int) ≤ (c : Int) := by have := HS.out.2.1; omega
        have hcs : (c : Int) ≤ 9223372036854775807 := by have h := HS.out.2.2.1; simp [maxLen] at h; omega
        clear hk hg hz hkl hl_x hst hnx hgo HSr ha hE hr
        by_cases hr0 : r = 0
        · have hr1 : (r != 0) = false := by simp [hr0]
          have hr0h := Lib.hid hr0
          clear hr0
          go_wp2_with fail
          refine wp_region_held_drew (S := fun w' => w'.cell? ⟨wr.heap.size, 0, none⟩ = some (.int .i64 xo) ∧ w'.cell? ⟨wr.heap.size, 1, none⟩ = some (.int .i64 xv) ∧ w'.cell? ⟨wr.heap.size, 2, none⟩ = some (.int .i64 xs) ∧ w'.cell? ⟨wr.heap.size, 3, none⟩ = some (.int .i64 xp) ∧ w'.cell? ⟨wr.heap.size, 4, none⟩ = some (.int .i64 xf) ∧ w'.cell? ⟨wr.heap.size, 5, none⟩ = some (.int .i64 xc) ∧ w'.cell? ⟨wr.heap.size, 6, none⟩ = some (.int .u64 xi) ∧ w'.cell? ⟨wr.heap.size, 7, none⟩ = some (.int .u64 xb)) (by kernel_rfl) (by first | exact ⟨c0_0, c0_1, c0_2, c0_3, c0_4, c0_5, c0_6, c0_7⟩ | (simp [go_sem, World.cell?_alloc_past, x_0, x_1, x_2, x_3, x_4, x_5, x_6, x_7, hb1s, hb1]; done)) (fun hHeld => ?_)
          (refine' take_in 0 rfl (by kernel_rfl) (by kernel_rfl) (by kernel_rfl) (fun _ _ _ h => h) (by rfl) (by assumption) ?_ ?_; rotate_left; focus (intro w hSw; (try dsimp only at hSw); go_simp; try with_reducible rfl)); try simp only [Act.put, List.setIfInBounds_toArray, List.set_cons_zero, List.set_cons_succ]
          (refine' take_in 1 rfl (by kernel_rfl) (by kernel_rfl) (by kernel_rfl) (fun _ _ _ h => h) (by rfl) (by assumption) ?_ ?_; rotate_left; focus (intro w hSw; (try dsimp only at hSw); go_simp; try with_reducible rfl)); try simp only [Act.put, List.setIfInBounds_toArray, List.set_cons_zero, List.set_cons_succ]
          (refine' take_in 2 rfl (by kernel_rfl) (by kernel_rfl) (by kernel_rfl) (fun _ _ _ h => h) (by rfl) (by assumption) ?_ ?_; rotate_left; focus (intro w hSw; (try dsimp only at hSw); go_simp; try with_reducible rfl)); try simp only [Act.put, List.setIfInBounds_toArray, List.set_cons_zero, List.set_cons_succ]
          (refine' take_in 3 rfl (by kernel_rfl) (by kernel_rfl) (by kernel_rfl) (fun _ _ _ h => h) (by rfl) (by assumption) ?_ ?_; rotate_left; focus (intro w hSw; (try dsimp only at hSw); go_simp; try with_reducible rfl)); try simp only [Act.put, List.setIfInBounds_toArray, List.set_cons_zero, List.set_cons_succ]
          refine' next_in 4 rfl (by kernel_rfl) (by rfl) (fun K hK => ?_)
          go_simp
          (with_reducible refine (qone_ev xo xv xs xp xf xc xi xb E a r (some ⟨b1, o1, none⟩) k c (l.take k) _ HA.out.2.1 (HSk.out.ext (by repeat (first | with_reducible exact Ext.refl _ | with_reducible refine Ext.drew ?_ | with_reducible refine Ext.drewN ?_ _ | with_reducible refine Ext.alloc ?_ _ | with_reducible refine Ext.setCell ?_ (by first | omega | (simp; done) | (simp; omega)) _))) HA.out.1 HA.out.2.2).mono ?_)
          rintro e w11 ⟨rfl, hx11⟩
          have c0_0 : w11.cell? ⟨wr.heap.size, 0, none⟩ = some (.int .i64 xo) := hx11.has (by first | fail | (simp [go_sem, World.cell?_alloc_past, x_0, x_1, x_2, x_3, x_4, x_5, x_6, x_7, hb1s, hb1]; done))
          have c0_1 : w11.cell? ⟨wr.heap.size, 1, none⟩ = some (.int .i64 xv) := hx11.has (by first | fail | (simp [go_sem, World.cell?_alloc_past, x_0, x_1, x_2, x_3, x_4, x_5, x_6, x_7, hb1s, hb1]; done))
          have c0_2 : w11.cell? ⟨wr.heap.size, 2, none⟩ = some (.int .i64 xs) := hx11.has (by first | fail | (simp [go_sem, World.cell?_alloc_past, x_0, x_1, x_2, x_3, x_4, x_5, x_6, x_7, hb1s, hb1]; done))
          have c0_3 : w11.cell? ⟨wr.heap.size, 3, none⟩ = some (.int .i64 xp) := hx11.has (by first | fail | (simp [go_sem, World.cell?_alloc_past, x_0, x_1, x_2, x_3, x_4, x_5, x_6, x_7, hb1s, hb1]; done))
          have c0_4 : w11.cell? ⟨wr.heap.size, 4, none⟩ = some (.int .i64 xf) := hx11.has (by first | fail | (simp [go_sem, World.cell?_alloc_past, x_0, x_1, x_2, x_3, x_4, x_5, x_6, x_7, hb1s, hb1]; done))
          have c0_5 : w11.cell? ⟨wr.heap.size, 5, none⟩ = some (.int .i64 xc) := hx11.has (by first | fail | (simp [go_sem, World.cell?_alloc_past, x_0, x_1, x_2, x_3, x_4, x_5, x_6, x_7, hb1s, hb1]; done))
          have c0_6 : w11.cell? ⟨wr.heap.size, 6, none⟩ = some (.int .u64 xi) := hx11.has (by first | fail | (simp [go_sem, World.cell?_alloc_past, x_0, x_1, x_2, x_3, x_4, x_5, x_6, x_7, hb1s, hb1]; done))
          have c0_7 : w11.cell? ⟨wr.heap.size, 7, none⟩ = some (.int .u64 xb) := hx11.has (by first | fail | (simp [go_sem, World.cell?_alloc_past, x_0, x_1, x_2, x_3, x_4, x_5, x_6, x_7, hb1s, hb1]; done))
          have z11 := hx11.size
          try simp at z11
          have rc0 : wr.heap.size < w11.heap.size := by omega
          have rc0a : wr.heap.size < w11.heap.size + 1 := by omega
          have rc0b : wr.heap.size < w11.heap.size + 1 + 1 := by omega
          have rc0c : wr.heap.size < w11.heap.size + 1 + 1 + 1 := by omega
          have rc0n : ¬ wr.heap.size = w11.heap.size := by omega
          replace HSk := Lib.hid (HSk.out.ext (Ext.trans (by repeat (first | with_reducible exact Ext.refl _ | with_reducible refine Ext.drew ?_ | with_reducible refine Ext.drewN ?_ _ | with_reducible refine Ext.alloc ?_ _ | with_reducible refine Ext.setCell ?_ (by first | omega | (simp; done) | (simp; omega)) _)) hx11))
          have X11 : Hid (Ext w w11) := Lib.hid (Ext.trans (by repeat (first | with_reducible exact XR.out | with_reducible refine Ext.drew ?_ | with_reducible refine Ext.drewN ?_ _ | with_reducible refine Ext.alloc ?_ _ | with_reducible refine Ext.setCell ?_ (by first | omega | (simp; done) | (simp; omega)) _)) hx11)
          clear x_2 x_7 x_5 x_0 x_1 x_4 x_3 x_6 XR hx11 z11
          refine hK.out _ _ (by (first | exact ⟨c0_0, c0_1, c0_2, c0_3, c0_4, c0_5, c0_6, c0_7⟩ | (simp [go_sem, World.cell?_alloc_past, c0_0, c0_1, c0_2, c0_3, c0_4, c0_5, c0_6, c0_7, rc0, rc0a, rc0b, rc0c, rc0n, hb1s, hb1]; done))) (fun hHeld => ?_); clear hK K; try simp only [Act.put, List.setIfInBounds_toArray, List.set_cons_zero, List.set_cons_succ]
          (refine' take_in 5 rfl (by kernel_rfl) (by kernel_rfl) (by kernel_rfl) (fun _ _ _ h => h) (by rfl) (by assumption) ?_ ?_; rotate_left; focus (intro w hSw; (try dsimp only at hSw); go_simp; try with_reducible rfl)); try simp only [Act.put, List.setIfInBounds_toArray, List.set_cons_zero, List.set_cons_succ]
          refine wpAnyH_done (by kernel_rfl) ?_ _
          go_wp2_with fail
          go_roundg (gk - 1)
          case measure => have := HK.out; omega
          case rel => exact ⟨by have := HK.out; omega, num_eq (by have := HK.out; omega), Lib.hid (by rw [show n - (gk - 1) = k + 1 from by have := HK.out; omega, HT.out.1, HT.out.2, if_neg (by simpa using hr0h.out)]; rfl), Lib.hid (by repeat (first | with_reducible exact X11.out | with_reducible refine Ext.drew ?_ | with_reducible refine Ext.drewN ?_ _ | with_reducible refine Ext.alloc ?_ _ | with_reducible refine Ext.setCell ?_ (by first | omega | (simp; done) | (simp; omega)) _))⟩
        · have hr1 : (r != 0) = true := by simpa using hr0
          have he := HE.out
          rw [HT.out.1, if_pos hr0, if_pos hr0] at he
          injection he with he1 he2
          subst he1; subst he2
          clear hr0
          go_wp2_with fail
          refine wp_region_held_drew (S := fun w' => w'.cell? ⟨wr.heap.size, 0, none⟩ = some (.int .i64 xo) ∧ w'.cell? ⟨wr.heap.size, 1, none⟩ = some (.int .i64 xv) ∧ w'.cell? ⟨wr.heap.size, 2, none⟩ = some (.int .i64 xs) ∧ w'.cell? ⟨wr.heap.size, 3, none⟩ = some (.int .i64 xp) ∧ w'.cell? ⟨wr.heap.size, 4, none⟩ = some (.int .i64 xf) ∧ w'.cell? ⟨wr.heap.size, 5, none⟩ = some (.int .i64 xc) ∧ w'.cell? ⟨wr.heap.size, 6, none⟩ = some (.int .u64 xi) ∧ w'.cell? ⟨wr.heap.size, 7, none⟩ = some (.int .u64 xb)) (by kernel_rfl) (by first | exact ⟨c0_0, c0_1, c0_2, c0_3, c0_4, c0_5, c0_6, c0_7⟩ | (simp [go_sem, World.cell?_alloc_past, x_0, x_1, x_2, x_3, x_4, x_5, x_6, x_7, hb1s, hb1]; done)) (fun hHeld => ?_)
          (refine' take_in 0 rfl (by kernel_rfl) (by kernel_rfl) (by kernel_rfl) (fun _ _ _ h => h) (by rfl) (by assumption) ?_ ?_; rotate_left; focus (intro w hSw; (try dsimp only at hSw); go_simp; try with_reducible rfl)); try simp only [Act.put, List.setIfInBounds_toArray, List.set_cons_zero, List.set_cons_succ]
          (refine' take_in 1 rfl (by kernel_rfl) (by kernel_rfl) (by kernel_rfl) (fun _ _ _ h => h) (by rfl) (by assumption) ?_ ?_; rotate_left; focus (intro w hSw; (try dsimp only at hSw); go_simp; try with_reducible rfl)); try simp only [Act.put, List.setIfInBounds_toArray, List.set_cons_zero, List.set_cons_succ]
          (refine' take_in 2 rfl (by kernel_rfl) (by kernel_rfl) (by kernel_rfl) (fun _ _ _ h => h) (by rfl) (by assumption) ?_ ?_; rotate_left; focus (intro w hSw; (try dsimp only at hSw); go_simp; try with_reducible rfl)); try simp only [Act.put, List.setIfInBounds_toArray, List.set_cons_zero, List.set_cons_succ]
          (refine' take_in 3 rfl (by kernel_rfl) (by kernel_rfl) (by kernel_rfl) (fun _ _ _ h => h) (by rfl) (by assumption) ?_ ?_; rotate_left; focus (intro w hSw; (try dsimp only at hSw); go_simp; try with_reducible rfl)); try simp only [Act.put, List.setIfInBounds_toArray, List.set_cons_zero, List.set_cons_succ]
          refine' next_in 4 rfl (by kernel_rfl) (by rfl) (fun K hK => ?_)
          go_simp
          (with_reducible refine (qone_ev xo xv xs xp xf xc xi xb E a r (some ⟨b1, o1, none⟩) k c (l.take k) _ HA.out.2.1 (HSk.out.ext (by repeat (first | with_reducible exact Ext.refl _ | with_reducible refine Ext.drew ?_ | with_reducible refine Ext.drewN ?_ _ | with_reducible refine Ext.alloc ?_ _ | with_reducible refine Ext.setCell ?_ (by first | omega | (simp; done) | (simp; omega)) _))) HA.out.1 HA.out.2.2).mono ?_)
          rintro e w11 ⟨rfl, hx11⟩
          have c0_0 : w11.cell? ⟨wr.heap.size, 0, none⟩ = some (.int .i64 xo) := hx11.has (by first | fail | (simp [go_sem, World.cell?_alloc_past, x_0, x_1, x_2, x_3, x_4, x_5, x_6, x_7, hb1s, hb1]; done))
          have c0_1 : w11.cell? ⟨wr.heap.size, 1, none⟩ = some (.int .i64 xv) := hx11.has (by first | fail | (simp [go_sem, World.cell?_alloc_past, x_0, x_1, x_2, x_3, x_4, x_5, x_6, x_7, hb1s, hb1]; done))
          have c0_2 : w11.cell? ⟨wr.heap.size, 2, none⟩ = some (.int .i64 xs) := hx11.has (by first | fail | (simp [go_sem, World.cell?_alloc_past, x_0, x_1, x_2, x_3, x_4, x_5, x_6, x_7, hb1s, hb1]; done))
          have c0_3 : w11.cell? ⟨wr.heap.size, 3, none⟩ = some (.int .i64 xp) := hx11.has (by first | fail | (simp [go_sem, World.cell?_alloc_past, x_0, x_1, x_2, x_3, x_4, x_5, x_6, x_7, hb1s, hb1]; done))
          have c0_4 : w11.cell? ⟨wr.heap.size, 4, none⟩ = some (.int .i64 xf) := hx11.has (by first | fail | (simp [go_sem, World.cell?_alloc_past, x_0, x_1, x_2, x_3, x_4, x_5, x_6, x_7, hb1s, hb1]; done))
          have c0_5 : w11.cell? ⟨wr.heap.size, 5, none⟩ = some (.int .i64 xc) := hx11.has (by first | fail | (simp [go_sem, World.cell?_alloc_past, x_0, x_1, x_2, x_3, x_4, x_5, x_6, x_7, hb1s, hb1]; done))
          have c0_6 : w11.cell? ⟨wr.heap.size, 6, none⟩ = some (.int .u64 xi) := hx11.has (by first | fail | (simp [go_sem, World.cell?_alloc_past, x_0, x_1, x_2, x_3, x_4, x_5, x_6, x_7, hb1s, hb1]; done))
          have c0_7 : w11.cell? ⟨wr.heap.size, 7, none⟩ = some (.int .u64 xb) := hx11.has (by first | fail | (simp [go_sem, World.cell?_alloc_past, x_0, x_1, x_2, x_3, x_4, x_5, x_6, x_7, hb1s, hb1]; done))
          have z11 := hx11.size
          try simp at z11
          have rc0 : wr.heap.size < w11.heap.size := by omega
          have rc0a : wr.heap.size < w11.heap.size + 1 := by omega
          have rc0b : wr.heap.size < w11.heap.size + 1 + 1 := by omega
          have rc0c : wr.heap.size < w11.heap.size + 1 + 1 + 1 := by omega
          have rc0n : ¬ wr.heap.size = w11.heap.size := by omega
          replace HSk := Lib.hid (HSk.out.ext (Ext.trans (by repeat (first | with_reducible exact Ext.refl _ | with_reducible refine Ext.drew ?_ | with_reducible refine Ext.drewN ?_ _ | with_reducible refine Ext.alloc ?_ _ | with_reducible refine Ext.setCell ?_ (by first | omega | (simp; done) | (simp; omega)) _)) hx11))
          have X11 : Hid (Ext w w11) := Lib.hid (Ext.trans (by repeat (first | with_reducible exact XR.out | with_reducible refine Ext.drew ?_ | with_reducible refine Ext.drewN ?_ _ | with_reducible refine Ext.alloc ?_ _ | with_reducible refine Ext.setCell ?_ (by first | omega | (simp; done) | (simp; omega)) _)) hx11)
          clear x_2 x_7 x_5 x_0 x_1 x_4 x_3 x_6 XR hx11 z11
          refine hK.out _ _ (by (first | exact ⟨c0_0, c0_1, c0_2, c0_3, c0_4, c0_5, c0_6, c0_7⟩ | (simp [go_sem, World.cell?_alloc_past, c0_0, c0_1, c0_2, c0_3, c0_4, c0_5, c0_6, c0_7, rc0, rc0a, rc0b, rc0c, rc0n, hb1s, hb1]; done))) (fun hHeld => ?_); clear hK K; try simp only [Act.put, List.setIfInBounds_toArray, List.set_cons_zero, List.set_cons_succ]
          (refine' take_in 5 rfl (by kernel_rfl) (by kernel_rfl) (by kernel_rfl) (fun _ _ _ h => h) (by rfl) (by assumption) ?_ ?_; rotate_left; focus (intro w hSw; (try dsimp only at hSw); go_simp; try with_reducible rfl)); try simp only [Act.put, List.setIfInBounds_toArray, List.set_cons_zero, List.set_cons_succ]
          refine wpAnyH_done (by kernel_rfl) ?_ _
          go_wp2_with fail
          go_ret2
          exact ⟨ret_two rfl rfl, (by repeat (first | with_reducible exact X11.out | with_reducible refine Ext.drew ?_ | with_reducible refine Ext.drewN ?_ _ | with_reducible refine Ext.alloc ?_ _ | with_reducible refine Ext.setCell ?_ (by first | omega | (simp; done) | (simp; omega)) _))⟩
theorem chkQ_zero {l : List (Int × Int × Int × Int × Int × Int × Int × Int)} {e2 : Int} (h : chkQ l = (0, e2)) : l.length ≤ 32768 ∧ totB l ≤ 4611686018427387904 := by
  unfold chkQ at h
  by_cases h1 : 32768 < l.length
  · rw [if_pos h1] at h; injection h with h _; omega
  · rw [if_neg h1] at h
    by_cases h2 : (chkGo 0 0 l).1 = 0
    · rw [if_neg (by simpa using h2)] at h
      by_cases h3 : totB l ≤ 4611686018427387904
      · exact ⟨by omega, h3⟩
      · rw [if_neg h3] at h; injection h with h _; omega
    · rw [if_pos h2] at h
      exact absurd (congrArg Prod.fst h) h2
set_option maxRecDepth 100000 in
set_option maxHeartbeats 4000000 in
theorem qtotal_any (A : Option Addr) (n c : Nat) (l : List (Int × Int × Int × Int × Int × Int × Int × Int)) (e1 e2 : Int) (w : World) (h : Sl w 8 A n c (l.flatMap entC)) (hf : ∀ x ∈ l, FitsQ x) (he : chkQ l = (e1, e2)) (u : Int) (hu : u = if e1 = 0 then totB l else 0) :
    Calls Try.prog 20 #[.slice A n c] w fun e w' => e = .returned (.tuple #[.int .u64 u, .int .i64 e1]) ∧ Ext w w' := by
  have CC := Lib.hid (qcheck_any A n c l e1 e2 w h hf he)
  by_cases h0 : e1 = 0
  · subst h0
    rw [if_pos rfl] at hu
    have hq := chkQ_zero he
    have hll := h.rlen entC_len (by decide)
    have CS := Lib.hid (fun w' (hx : Ext w w') => qsum_any A n c l w' (h.ext hx) (by omega) hf)
    rw [show sumP l = u from by rw [hu]; exact if_pos hq.2] at CS
    clear h hf he hu hq hll
    go_enter Try.func20, Try.ntmps20
    go_wp2_with fail
    refine CC.out.mono ?_
    rintro e w1 ⟨rfl, hx⟩
    have HX := Lib.hid hx
    clear hx CC
    go_wp2_with fail
    refine (CS.out _ HX.out).mono ?_
    rintro e w2 ⟨rfl, hx⟩
    have HX2 := Lib.hid (HX.out.trans hx)
    clear hx CS
    go_wp2_with fail
    go_ret2
    exact ⟨rfl, HX2.out⟩
  · rw [if_neg h0] at hu
    subst hu
    have h1 : (e1 != 0) = true := by simpa using h0
    clear h hf he h0
    go_enter Try.func20, Try.ntmps20
    go_wp2_with fail
    refine CC.out.mono ?_
    rintro e w1 ⟨rfl, hx⟩
    have HX := Lib.hid hx
    clear hx CC
    go_wp2_with fail
    go_ret2
    exact ⟨rfl, HX.out⟩
end
section
open Go.RowKit Go.ChangeShapes Go.WideShapes Go.Deep Go.Joins
/-- entries handed back, and values behind them -/
def RetEntV (r : List (Int × Int × Int × Int × Int × Int × Int × Int)) (xs : List Value) (w : World) (e : Ending) (w' : World) : Prop := ∃ A c, e = .returned (.tuple (.slice A r.length c :: xs).toArray) ∧ (A = none → c = 0) ∧ OwnEnt w' w.heap.size (.slice A r.length c) r.length r ∧ Ext w w'
theorem RetEntV.nil {xs : List Value} {w w' : World} (hx : Ext w w') : RetEntV [] xs w (.returned (.tuple (.slice none 0 0 :: xs).toArray)) w' := ⟨none, 0, rfl, fun _ => rfl, OwnEnt.nil _ _, hx⟩
theorem RetEntV.mk {r : List (Int × Int × Int × Int × Int × Int × Int × Int)} {n : Nat} {xs : List Value} {v : Value} {w w' : World} (h : OwnEnt w' w.heap.size v n r) (hx : Ext w w') (hn : n = r.length) : RetEntV r xs w (.returned (.tuple (v :: xs).toArray)) w' := by
  subst hn
  obtain ⟨A, c, rfl, h1, h2⟩ := own_parts2 h
  exact ⟨A, c, rfl, h1, h, hx⟩
theorem OwnEnt.lower {w : World} {base b' n : Nat} {v : Value} {l : List (Int × Int × Int × Int × Int × Int × Int × Int)} (h : OwnEnt w base v n l) (hb : b' ≤ base) : OwnEnt w b' v n l := own_lower h hb
theorem oper_append {P : Program} {o : Oper} {a : Act} {w w' : World} {K : Act → World → Prop} {Q : Exit → Act → World → Prop} (s x : Operand) (t : TypeId) (ho : o.op = .call { callee := .builtin .append, args := #[s, x], argTypes := #[t, t] }) {vs vx v' : Value} (hs : a.eval s = vs) (hx : a.eval x = vx)
    (hr : (Builtin.append_ #[t, t] o.type #[vs, vx]).run P w = .ok v' w') (hK : K (a.put o.dst v') w') : Oper.wp P o a w K Q := by
  unfold Oper.wp execOp
  simp only [ho, resolve, invoke, builtin, Sem.run_bind, Sem.run_pure, Result.andThen_ok, List.map_toArray, List.map_cons, List.map_nil, hs, hx, hr]
  exact hK
theorem ent_app {w : World} {base n b c : Nat} {v : Value} {l : List (Int × Int × Int × Int × Int × Int × Int × Int)} {xo xv xs xp xf xc xi xb : Int} (hown : OwnEnt w base v n l) (hn : n < 1099511627776) (hb : base ≤ w.heap.size) (hc : ∀ j u, (entC (xo, xv, xs, xp, xf, xc, xi, xb))[j]? = some u → w.cell? ⟨b, j, none⟩ = some u) (ty : TypeId) :
    ∃ A' c' w', (Builtin.append_ #[22, 22] ty #[v, .slice (some ⟨b, 0, none⟩) 1 c]).run Try.prog w = .ok (.slice A' (n + 1) c') w' ∧ OwnEnt w' base (.slice A' (n + 1) c') (n + 1) (l ++ [(xo, xv, xs, xp, xf, xc, xi, xb)]) ∧ Below base w w' := by
  obtain ⟨i0, hi0, hz0, hz1, hz2⟩ := ent_infoP
  obtain ⟨v', w', hr, g2, g3, g4, g5⟩ := run_append_own_at (P := Try.prog) w base 22 ty 27 i0 (.agg #[.int .i64 0, .int .i64 0, .int .i64 0, .int .i64 0, .int .i64 0, .int .i64 0, .int .u64 0, .int .u64 0]) 8 64 Try.underlying22 hi0 hz0 hz1 hz2 rfl (by decide) v n _ hown ⟨b, 0, none⟩ 1 c (entC (xo, xv, xs, xp, xf, xc, xi, xb)) rfl
    (by intro j u hj; rw [addr_add, Nat.zero_add]; exact hc j u hj)
    (by intro u hu; unfold entC at hu; simp at hu; rcases hu with rfl | rfl | rfl | rfl | rfl | rfl | rfl | rfl <;> rfl) (by simp [maxLen]; omega) (by omega) hb
  have hO : OwnEnt w' base v' (n + 1) (l ++ [(xo, xv, xs, xp, xf, xc, xi, xb)]) := by
    unfold OwnEnt
    rw [List.flatMap_append]
    simpa using g2
  obtain ⟨A', c', rfl, _, _⟩ := own_parts2 hO
  exact ⟨A', c', w', hr, hO, (Below.refl base w).grown g3 hb (fun k hk => (World.ownsRow.lt hown k hk).1)⟩
theorem ent_cells {w : World} {b : Nat} {xo xv xs xp xf xc xi xb : Int} (h0 : w.cell? ⟨b, 0, none⟩ = some (.int .i64 xo)) (h1 : w.cell? ⟨b, 1, none⟩ = some (.int .i64 xv)) (h2 : w.cell? ⟨b, 2, none⟩ = some (.int .i64 xs)) (h3 : w.cell? ⟨b, 3, none⟩ = some (.int .i64 xp)) (h4 : w.cell? ⟨b, 4, none⟩ = some (.int .i64 xf)) (h5 : w.cell? ⟨b, 5, none⟩ = some (.int .i64 xc)) (h6 : w.cell? ⟨b, 6, none⟩ = some (.int .u64 xi)) (h7 : w.cell? ⟨b, 7, none⟩ = some (.int .u64 xb)) :
    ∀ j u, (entC (xo, xv, xs, xp, xf, xc, xi, xb))[j]? = some u → w.cell? ⟨b, j, none⟩ = some u := by
  intro j u hj
  unfold entC at hj
  match j, hj with
  | 0, hj => simp at hj; subst hj; exact h0
  | 1, hj => simp at hj; subst hj; exact h1
  | 2, hj => simp at hj; subst hj; exact h2
  | 3, hj => simp at hj; subst hj; exact h3
  | 4, hj => simp at hj; subst hj; exact h4
  | 5, hj => simp at hj; subst hj; exact h5
  | 6, hj => simp at hj; subst hj; exact h6
  | 7, hj => simp at hj; subst hj; exact h7
  | j + 8, hj => simp at hj
def addG (e1 most e b i lv n s : Int) : Int := if e1 ≠ 0 then e1 else if most < 1 then 3 else if 16 < most then 3 else if e ≠ 0 then e else if b ≠ i then 11 else if most ≤ lv then 22 else if 32768 ≤ n then 7 else if 4611686018427387904 - s < b then 12 else 0
/-- what comes of an entry that is added -/
def adE (l : List (Int × Int × Int × Int × Int × Int × Int × Int)) (x : (Int × Int × Int × Int × Int × Int × Int × Int)) (most : Int) : Int := addG (chkQ l).1 most (oneQ x (lastQ l)) (baE x) x.2.2.2.2.2.2.1 (liveQ l x.1 x.2.1 : Nat) l.length (totB l)
def addQ (l : List (Int × Int × Int × Int × Int × Int × Int × Int)) (x : (Int × Int × Int × Int × Int × Int × Int × Int)) (most : Int) : List (Int × Int × Int × Int × Int × Int × Int × Int) × Int := if adE l x most = 0 then (l ++ [x], 0) else ([], adE l x most)
theorem eClone_n (A : Option Addr) (n c : Nat) (l : List (Int × Int × Int × Int × Int × Int × Int × Int)) (w : World) (h : Sl w 8 A n c (l.flatMap entC)) (hn : n < 1099511627776) (hnil : A = none → c = 0) : Calls Try.prog 44 #[.slice A n c] w fun e w' => ∃ A c, e = .returned (.slice A n c) ∧ (A = none → c = 0) ∧ OwnEnt w' w.heap.size (.slice A n c) n l ∧ Ext w w' := by
  have hl := h.rlen entC_len (by decide)
  subst hl
  exact eClone_any A c l w h hn hnil
theorem kCopyEntries_n (A : Option Addr) (n c : Nat) (l : List (Int × Int × Int × Int × Int × Int × Int × Int)) (w : World) (h : Sl w 8 A n c (l.flatMap entC)) (hn : n < 1099511627776) : Calls Try.prog 11 #[.slice A n c] w fun e w' => ∃ A c, e = .returned (.slice A n c) ∧ (A = none → c = 0) ∧ OwnEnt w' w.heap.size (.slice A n c) n l ∧ Ext w w' := by
  have hl := h.rlen entC_len (by decide)
  subst hl
  exact kCopyEntries_any A c l w h hn
theorem cs_at {f : Nat} {args : Array Value} {w : World} {x y : Int} (h : Calls Try.prog f args w fun e w' => e = .returned (.int .u64 x) ∧ Ext w w') (hxy : x = y) : Calls Try.prog f args w fun e w' => e = .returned (.int .u64 y) ∧ Ext w w' := by rw [← hxy]; exact h
set_option maxRecDepth 100000 in
set_option maxHeartbeats 4000000 in
theorem qadd_at (A : Option Addr) (n c : Nat) (l : List (Int × Int × Int × Int × Int × Int × Int × Int)) (xo xv xs xp xf xc xi xb most e1 e2 E a r v s : Int) (lv : Nat) (w : World) (h : Sl w 8 A n c (l.flatMap entC)) (hn : n ≤ 100000) (hf : ∀ x ∈ l, FitsQ x) (hxb : Word xb) (hxi : Word xi) (he : chkQ l = (e1, e2)) (hE : chkS xv xs xp xf = E) (ha : lastQ l = a) (hr : oneG xo E xc xs a xi xb = r) (hlv : liveQ l xo xv = lv) (hs : totB l = s) (hv : v = addG e1 most r xb xi (lv : Int) n s) (hnil : A = none → c = 0) (R : List (Int × Int × Int × Int × Int × Int × Int × Int)) (hR : R = if v = 0 then l ++ [(xo, xv, xs, xp, xf, xc, xi, xb)] else []) :
    Calls Try.prog 12 #[.slice A n c, .agg #[.int .i64 xo, .int .i64 xv, .int .i64 xs, .int .i64 xp, .int .i64 xf, .int .i64 xc, .int .u64 xi, .int .u64 xb], .int .i64 most] w (RetEntV R [.int .i64 v] w) := by
  have hll := h.rlen entC_len (by decide)
  have hns := h.small
  have HLL := Lib.hid hll
  have hsn : 0 ≤ s := by rw [← hs]; exact totB_nonneg hf
  have HS := Lib.hid h
  have HV := Lib.hid hv
  have HR := Lib.hid hR
  clear hR
  have CC := Lib.hid (fun w' (hx : Ext w w') => qcheck_any A n c l e1 e2 w' (h.ext hx) hf he)
  have CO := Lib.hid (fun w' (hx : Ext w w') => qone_ev xo xv xs xp xf xc xi xb E a r A n c l w' hE (h.ext hx) ha hr)
  have CL := Lib.hid (fun w' (hx : Ext w w') => qlive_any A n c l xo xv w' (h.ext hx) hn hf)
  rw [hlv] at CL
  have HTT := Lib.hid (show e1 = 0 → s ≤ 4611686018427387904 from fun h0 => by rw [← hs]; exact (chkQ_zero (by rw [← h0]; exact he)).2)
  have CS := Lib.hid (fun w' (hx : Ext w w') => qsum_any A n c l w' (h.ext hx) hn hf)
  have HSP := Lib.hid (show s ≤ 4611686018427387904 → sumP l = s from fun h0 => by unfold sumP; rw [hs, if_pos h0])
  obtain ⟨b0, b1'⟩ := hxb
  clear h hf he hE ha hr hlv hs hv
  go_enter Try.func12, Try.ntmps12
  go_wp2_with fail
  (with_reducible refine (CC.out _ (by repeat (first | with_reducible exact Ext.refl w | with_reducible refine Ext.drew ?_ | with_reducible refine Ext.drewN ?_ _ | with_reducible refine Ext.alloc ?_ _ | with_reducible refine Ext.setCell ?_ (by first | omega | (simp; done) | (simp; omega)) _))).mono ?_)
  rintro e w1 ⟨rfl, hx1⟩
  have c0_0 : w1.cell? ⟨w.heap.size, 0, none⟩ = some (.int .i64 xo) := hx1.has (by first | fail | (simp [go_sem, World.cell?_alloc_past]; done))
  have c0_1 : w1.cell? ⟨w.heap.size, 1, none⟩ = some (.int .i64 xv) := hx1.has (by first | fail | (simp [go_sem, World.cell?_alloc_past]; done))
  have c0_2 : w1.cell? ⟨w.heap.size, 2, none⟩ = some (.int .i64 xs) := hx1.has (by first | fail | (simp [go_sem, World.cell?_alloc_past]; done))
  have c0_3 : w1.cell? ⟨w.heap.size, 3, none⟩ = some (.int .i64 xp) := hx1.has (by first | fail | (simp [go_sem, World.cell?_alloc_past]; done))
  have c0_4 : w1.cell? ⟨w.heap.size, 4, none⟩ = some (.int .i64 xf) := hx1.has (by first | fail | (simp [go_sem, World.cell?_alloc_past]; done))
  have c0_5 : w1.cell? ⟨w.heap.size, 5, none⟩ = some (.int .i64 xc) := hx1.has (by first | fail | (simp [go_sem, World.cell?_alloc_past]; done))
  have c0_6 : w1.cell? ⟨w.heap.size, 6, none⟩ = some (.int .u64 xi) := hx1.has (by first | fail | (simp [go_sem, World.cell?_alloc_past]; done))
  have c0_7 : w1.cell? ⟨w.heap.size, 7, none⟩ = some (.int .u64 xb) := hx1.has (by first | fail | (simp [go_sem, World.cell?_alloc_past]; done))
  have z1 := hx1.size
  try simp at z1
  have rc0 : w.heap.size < w1.heap.size := by omega
  have rc0a : w.heap.size < w1.heap.size + 1 := by omega
  have rc0b : w.heap.size < w1.heap.size + 1 + 1 := by omega
  have rc0c : w.heap.size < w1.heap.size + 1 + 1 + 1 := by omega
  have rc0n : ¬ w.heap.size = w1.heap.size := by omega
  replace HS := Lib.hid (HS.out.ext (Ext.trans (by repeat (first | with_reducible exact Ext.refl _ | with_reducible refine Ext.drew ?_ | with_reducible refine Ext.drewN ?_ _ | with_reducible refine Ext.alloc ?_ _ | with_reducible refine Ext.setCell ?_ (by first | omega | (simp; done) | (simp; omega)) _)) hx1))
  have X1 : Hid (Ext w w1) := Lib.hid (Ext.trans (by repeat (first | with_reducible exact Ext.refl w | with_reducible refine Ext.drew ?_ | with_reducible refine Ext.drewN ?_ _ | with_reducible refine Ext.alloc ?_ _ | with_reducible refine Ext.setCell ?_ (by first | omega | (simp; done) | (simp; omega)) _)) hx1)
  clear hx1 z1
  by_cases q1 : ¬ e1 = 0
  · have q1b : (e1 != 0) = true := by simp [q1]
    go_wp2_with fail
    go_ret2
    have hv9 : v = e1 := (by rw [HV.out]; unfold addG; (repeat' split) <;> omega)
    rw [show R = [] from by rw [HR.out, if_neg (by omega)], hv9]
    exact RetEntV.nil (xs := [.int .i64 e1]) (by repeat (first | with_reducible exact X1.out | with_reducible refine Ext.drew ?_ | with_reducible refine Ext.drewN ?_ _ | with_reducible refine Ext.alloc ?_ _ | with_reducible refine Ext.setCell ?_ (by first | omega | (simp; done) | (simp; omega)) _))
  · have q1b : (e1 != 0) = false := by simpa using q1
    by_cases q2 : most < 1
    · have d2 : decide (most < 1) = true := decide_eq_true q2
      have Q2 := Lib.hid q2
      clear q2
      go_wp2_with fail
      go_ret2
      have q2 := Q2.out
      have hv9 : v = 3 := (by rw [HV.out]; unfold addG; (repeat' split) <;> omega)
      rw [show R = [] from by rw [HR.out, if_neg (by omega)], hv9]
      exact RetEntV.nil (xs := [.int .i64 3]) (by repeat (first | with_reducible exact X1.out | with_reducible refine Ext.drew ?_ | with_reducible refine Ext.drewN ?_ _ | with_reducible refine Ext.alloc ?_ _ | with_reducible refine Ext.setCell ?_ (by first | omega | (simp; done) | (simp; omega)) _))
    · have d2 : decide (most < 1) = false := decide_eq_false q2
      have Q2 := Lib.hid q2
      clear q2
      by_cases q3 : 16 < most
      · have d3 : decide (16 < most) = true := decide_eq_true q3
        have Q3 := Lib.hid q3
        clear q3
        go_wp2_with fail
        go_ret2
        have q2 := Q2.out
        have q3 := Q3.out
        have hv9 : v = 3 := (by rw [HV.out]; unfold addG; (repeat' split) <;> omega)
        rw [show R = [] from by rw [HR.out, if_neg (by omega)], hv9]
        exact RetEntV.nil (xs := [.int .i64 3]) (by repeat (first | with_reducible exact X1.out | with_reducible refine Ext.drew ?_ | with_reducible refine Ext.drewN ?_ _ | with_reducible refine Ext.alloc ?_ _ | with_reducible refine Ext.setCell ?_ (by first | omega | (simp; done) | (simp; omega)) _))
      · have d3 : decide (16 < most) = false := decide_eq_false q3
        have Q3 := Lib.hid q3
        clear q3
        go_wp2_with fail
        (with_reducible refine (CO.out _ (by repeat (first | with_reducible exact X1.out | with_reducible refine Ext.drew ?_ | with_reducible refine Ext.drewN ?_ _ | with_reducible refine Ext.alloc ?_ _ | with_reducible refine Ext.setCell ?_ (by first | omega | (simp; done) | (simp; omega)) _))).mono ?_)
        rintro e w2 ⟨rfl, hx2⟩
        replace c0_0 : w2.cell? ⟨w.heap.size, 0, none⟩ = some (.int .i64 xo) := hx2.has (by first | exact c0_0 | (simp [go_sem, World.cell?_alloc_past, c0_0, c0_1, c0_2, c0_3, c0_4, c0_5, c0_6, c0_7, rc0, rc0a, rc0b, rc0c, rc0n]; done))
        replace c0_1 : w2.cell? ⟨w.heap.size, 1, none⟩ = some (.int .i64 xv) := hx2.has (by first | exact c0_1 | (simp [go_sem, World.cell?_alloc_past, c0_0, c0_1, c0_2, c0_3, c0_4, c0_5, c0_6, c0_7, rc0, rc0a, rc0b, rc0c, rc0n]; done))
        replace c0_2 : w2.cell? ⟨w.heap.size, 2, none⟩ = some (.int .i64 xs) := hx2.has (by first | exact c0_2 | (simp [go_sem, World.cell?_alloc_past, c0_0, c0_1, c0_2, c0_3, c0_4, c0_5, c0_6, c0_7, rc0, rc0a, rc0b, rc0c, rc0n]; done))
        replace c0_3 : w2.cell? ⟨w.heap.size, 3, none⟩ = some (.int .i64 xp) := hx2.has (by first | exact c0_3 | (simp [go_sem, World.cell?_alloc_past, c0_0, c0_1, c0_2, c0_3, c0_4, c0_5, c0_6, c0_7, rc0, rc0a, rc0b, rc0c, rc0n]; done))
        replace c0_4 : w2.cell? ⟨w.heap.size, 4, none⟩ = some (.int .i64 xf) := hx2.has (by first | exact c0_4 | (simp [go_sem, World.cell?_alloc_past, c0_0, c0_1, c0_2, c0_3, c0_4, c0_5, c0_6, c0_7, rc0, rc0a, rc0b, rc0c, rc0n]; done))
        replace c0_5 : w2.cell? ⟨w.heap.size, 5, none⟩ = some (.int .i64 xc) := hx2.has (by first | exact c0_5 | (simp [go_sem, World.cell?_alloc_past, c0_0, c0_1, c0_2, c0_3, c0_4, c0_5, c0_6, c0_7, rc0, rc0a, rc0b, rc0c, rc0n]; done))
        replace c0_6 : w2.cell? ⟨w.heap.size, 6, none⟩ = some (.int .u64 xi) := hx2.has (by first | exact c0_6 | (simp [go_sem, World.cell?_alloc_past, c0_0, c0_1, c0_2, c0_3, c0_4, c0_5, c0_6, c0_7, rc0, rc0a, rc0b, rc0c, rc0n]; done))
        replace c0_7 : w2.cell? ⟨w.heap.size, 7, none⟩ = some (.int .u64 xb) := hx2.has (by first | exact c0_7 | (simp [go_sem, World.cell?_alloc_past, c0_0, c0_1, c0_2, c0_3, c0_4, c0_5, c0_6, c0_7, rc0, rc0a, rc0b, rc0c, rc0n]; done))
        have z2 := hx2.size
        try simp at z2
        replace rc0 : w.heap.size < w2.heap.size := by omega
        replace rc0a : w.heap.size < w2.heap.size + 1 := by omega
        replace rc0b : w.heap.size < w2.heap.size + 1 + 1 := by omega
        replace rc0c : w.heap.size < w2.heap.size + 1 + 1 + 1 := by omega
        replace rc0n : ¬ w.heap.size = w2.heap.size := by omega
        replace HS := Lib.hid (HS.out.ext (Ext.trans (by repeat (first | with_reducible exact Ext.refl _ | with_reducible refine Ext.drew ?_ | with_reducible refine Ext.drewN ?_ _ | with_reducible refine Ext.alloc ?_ _ | with_reducible refine Ext.setCell ?_ (by first | omega | (simp; done) | (simp; omega)) _)) hx2))
        have X2 : Hid (Ext w w2) := Lib.hid (Ext.trans (by repeat (first | with_reducible exact X1.out | with_reducible refine Ext.drew ?_ | with_reducible refine Ext.drewN ?_ _ | with_reducible refine Ext.alloc ?_ _ | with_reducible refine Ext.setCell ?_ (by first | omega | (simp; done) | (simp; omega)) _)) hx2)
        clear X1 hx2 z2
        by_cases q4 : ¬ r = 0
        · have q4b : (r != 0) = true := by simp [q4]
          go_wp2_with fail
          go_ret2
          have q2 := Q2.out
          have q3 := Q3.out
          have hv9 : v = r := (by rw [HV.out]; unfold addG; (repeat' split) <;> omega)
          rw [show R = [] from by rw [HR.out, if_neg (by omega)], hv9]
          exact RetEntV.nil (xs := [.int .i64 r]) (by repeat (first | with_reducible exact X2.out | with_reducible refine Ext.drew ?_ | with_reducible refine Ext.drewN ?_ _ | with_reducible refine Ext.alloc ?_ _ | with_reducible refine Ext.setCell ?_ (by first | omega | (simp; done) | (simp; omega)) _))
        · have q4b : (r != 0) = false := by simpa using q4
          by_cases q5 : ¬ xb = xi
          · have q5b : (xb != xi) = true := by simp [q5]
            go_wp2_with fail
            go_ret2
            have q2 := Q2.out
            have q3 := Q3.out
            have hv9 : v = 11 := (by rw [HV.out]; unfold addG; (repeat' split) <;> omega)
            rw [show R = [] from by rw [HR.out, if_neg (by omega)], hv9]
            exact RetEntV.nil (xs := [.int .i64 11]) (by repeat (first | with_reducible exact X2.out | with_reducible refine Ext.drew ?_ | with_reducible refine Ext.drewN ?_ _ | with_reducible refine Ext.alloc ?_ _ | with_reducible refine Ext.setCell ?_ (by first | omega | (simp; done) | (simp; omega)) _))
          · have q5b : (xb != xi) = false := by simpa using q5
            go_wp2_with fail
            (with_reducible refine (CL.out _ (by repeat (first | with_reducible exact X2.out | with_reducible refine Ext.drew ?_ | with_reducible refine Ext.drewN ?_ _ | with_reducible refine Ext.alloc ?_ _ | with_reducible refine Ext.setCell ?_ (by first | omega | (simp; done) | (simp; omega)) _))).mono ?_)
            rintro e w3 ⟨rfl, hx3⟩
            replace c0_0 : w3.cell? ⟨w.heap.size, 0, none⟩ = some (.int .i64 xo) := hx3.has (by first | exact c0_0 | (simp [go_sem, World.cell?_alloc_past, c0_0, c0_1, c0_2, c0_3, c0_4, c0_5, c0_6, c0_7, rc0, rc0a, rc0b, rc0c, rc0n]; done))
            replace c0_1 : w3.cell? ⟨w.heap.size, 1, none⟩ = some (.int .i64 xv) := hx3.has (by first | exact c0_1 | (simp [go_sem, World.cell?_alloc_past, c0_0, c0_1, c0_2, c0_3, c0_4, c0_5, c0_6, c0_7, rc0, rc0a, rc0b, rc0c, rc0n]; done))
            replace c0_2 : w3.cell? ⟨w.heap.size, 2, none⟩ = some (.int .i64 xs) := hx3.has (by first | exact c0_2 | (simp [go_sem, World.cell?_alloc_past, c0_0, c0_1, c0_2, c0_3, c0_4, c0_5, c0_6, c0_7, rc0, rc0a, rc0b, rc0c, rc0n]; done))
            replace c0_3 : w3.cell? ⟨w.heap.size, 3, none⟩ = some (.int .i64 xp) := hx3.has (by first | exact c0_3 | (simp [go_sem, World.cell?_alloc_past, c0_0, c0_1, c0_2, c0_3, c0_4, c0_5, c0_6, c0_7, rc0, rc0a, rc0b, rc0c, rc0n]; done))
            replace c0_4 : w3.cell? ⟨w.heap.size, 4, none⟩ = some (.int .i64 xf) := hx3.has (by first | exact c0_4 | (simp [go_sem, World.cell?_alloc_past, c0_0, c0_1, c0_2, c0_3, c0_4, c0_5, c0_6, c0_7, rc0, rc0a, rc0b, rc0c, rc0n]; done))
            replace c0_5 : w3.cell? ⟨w.heap.size, 5, none⟩ = some (.int .i64 xc) := hx3.has (by first | exact c0_5 | (simp [go_sem, World.cell?_alloc_past, c0_0, c0_1, c0_2, c0_3, c0_4, c0_5, c0_6, c0_7, rc0, rc0a, rc0b, rc0c, rc0n]; done))
            replace c0_6 : w3.cell? ⟨w.heap.size, 6, none⟩ = some (.int .u64 xi) := hx3.has (by first | exact c0_6 | (simp [go_sem, World.cell?_alloc_past, c0_0, c0_1, c0_2, c0_3, c0_4, c0_5, c0_6, c0_7, rc0, rc0a, rc0b, rc0c, rc0n]; done))
            replace c0_7 : w3.cell? ⟨w.heap.size, 7, none⟩ = some (.int .u64 xb) := hx3.has (by first | exact c0_7 | (simp [go_sem, World.cell?_alloc_past, c0_0, c0_1, c0_2, c0_3, c0_4, c0_5, c0_6, c0_7, rc0, rc0a, rc0b, rc0c, rc0n]; done))
            have z3 := hx3.size
            try simp at z3
            replace rc0 : w.heap.size < w3.heap.size := by omega
            replace rc0a : w.heap.size < w3.heap.size + 1 := by omega
            replace rc0b : w.heap.size < w3.heap.size + 1 + 1 := by omega
            replace rc0c : w.heap.size < w3.heap.size + 1 + 1 + 1 := by omega
            replace rc0n : ¬ w.heap.size = w3.heap.size := by omega
            replace HS := Lib.hid (HS.out.ext (Ext.trans (by repeat (first | with_reducible exact Ext.refl _ | with_reducible refine Ext.drew ?_ | with_reducible refine Ext.drewN ?_ _ | with_reducible refine Ext.alloc ?_ _ | with_reducible refine Ext.setCell ?_ (by first | omega | (simp; done) | (simp; omega)) _)) hx3))
            have X3 : Hid (Ext w w3) := Lib.hid (Ext.trans (by repeat (first | with_reducible exact X2.out | with_reducible refine Ext.drew ?_ | with_reducible refine Ext.drewN ?_ _ | with_reducible refine Ext.alloc ?_ _ | with_reducible refine Ext.setCell ?_ (by first | omega | (simp; done) | (simp; omega)) _)) hx3)
            clear X2 hx3 z3
            by_cases q6 : most ≤ (lv : Int)
            · have d6 : decide (most ≤ (lv : Int)) = true := decide_eq_true q6
              have Q6 := Lib.hid q6
              clear q6
              go_wp2_with fail
              go_ret2
              have q2 := Q2.out
              have q3 := Q3.out
              have q6 := Q6.out
              have hv9 : v = 22 := (by rw [HV.out]; unfold addG; (repeat' split) <;> omega)
              rw [show R = [] from by rw [HR.out, if_neg (by omega)], hv9]
              exact RetEntV.nil (xs := [.int .i64 22]) (by repeat (first | with_reducible exact X3.out | with_reducible refine Ext.drew ?_ | with_reducible refine Ext.drewN ?_ _ | with_reducible refine Ext.alloc ?_ _ | with_reducible refine Ext.setCell ?_ (by first | omega | (simp; done) | (simp; omega)) _))
            · have d6 : decide (most ≤ (lv : Int)) = false := decide_eq_false q6
              have Q6 := Lib.hid q6
              clear q6
              by_cases q7 : 32768 ≤ (n : Int)
              · have d7 : decide (32768 ≤ (n : Int)) = true := decide_eq_true q7
                have Q7 := Lib.hid q7
                clear q7
                go_wp2_with fail
                go_ret2
                have q2 := Q2.out
                have q3 := Q3.out
                have q6 := Q6.out
                have q7 := Q7.out
                have hv9 : v = 7 := (by rw [HV.out]; unfold addG; (repeat' split) <;> omega)
                rw [show R = [] from by rw [HR.out, if_neg (by omega)], hv9]
                exact RetEntV.nil (xs := [.int .i64 7]) (by repeat (first | with_reducible exact X3.out | with_reducible refine Ext.drew ?_ | with_reducible refine Ext.drewN ?_ _ | with_reducible refine Ext.alloc ?_ _ | with_reducible refine Ext.setCell ?_ (by first | omega | (simp; done) | (simp; omega)) _))
              · have N7 : Hid (n + 1 ≤ 100000) := Lib.hid (by omega)
                have d7 : decide (32768 ≤ (n : Int)) = false := decide_eq_false q7
                have Q7 := Lib.hid q7
                clear q7
                go_wp2_with fail
                refine wp_region_held_drew (S := fun w' => w'.cell? ⟨w.heap.size, 7, none⟩ = some (.int .u64 xb)) (by kernel_rfl) (by first | exact c0_7 | (simp [go_sem, World.cell?_alloc_past, c0_0, c0_1, c0_2, c0_3, c0_4, c0_5, c0_6, c0_7, rc0, rc0a, rc0b, rc0c, rc0n]; done)) (fun hHeld => ?_)
                (refine' take_in 0 rfl (by kernel_rfl) (by kernel_rfl) (by kernel_rfl) (fun _ _ _ h => h) (by rfl) (by assumption) ?_ ?_; rotate_left; focus (intro w hSw; (try dsimp only at hSw); go_simp; try with_reducible rfl)); try simp only [Act.put, List.setIfInBounds_toArray, List.set_cons_zero, List.set_cons_succ]
                (refine' take_in 1 rfl (by kernel_rfl) (by kernel_rfl) (by kernel_rfl) (fun _ _ _ h => h) (by rfl) (by assumption) ?_ ?_; rotate_left; focus (intro w hSw; (try dsimp only at hSw); go_simp; try with_reducible rfl)); try simp only [Act.put, List.setIfInBounds_toArray, List.set_cons_zero, List.set_cons_succ]
                (refine' take_in 2 rfl (by kernel_rfl) (by kernel_rfl) (by kernel_rfl) (fun _ _ _ h => h) (by rfl) (by assumption) ?_ ?_; rotate_left; focus (intro w hSw; (try dsimp only at hSw); go_simp; try with_reducible rfl)); try simp only [Act.put, List.setIfInBounds_toArray, List.set_cons_zero, List.set_cons_succ]
                refine' next_in 3 rfl (by kernel_rfl) (by rfl) (fun K hK => ?_)
                go_simp
                have hs1 := HTT.out (by omega)
                have hsp := HSP.out hs1
                have hs2 : 0 ≤ 4611686018427387904 - s := by omega
                have hs3 : 4611686018427387904 - s < 18446744073709551616 := by omega
                (with_reducible refine (cs_at (CS.out _ (by repeat (first | with_reducible exact X3.out | with_reducible refine Ext.drew ?_ | with_reducible refine Ext.drewN ?_ _ | with_reducible refine Ext.alloc ?_ _ | with_reducible refine Ext.setCell ?_ (by first | omega | (simp; done) | (simp; omega)) _))) hsp).mono ?_)
                rintro e w4 ⟨rfl, hx4⟩
                replace c0_0 : w4.cell? ⟨w.heap.size, 0, none⟩ = some (.int .i64 xo) := hx4.has (by first | exact c0_0 | (simp [go_sem, World.cell?_alloc_past, c0_0, c0_1, c0_2, c0_3, c0_4, c0_5, c0_6, c0_7, rc0, rc0a, rc0b, rc0c, rc0n]; done))
                replace c0_1 : w4.cell? ⟨w.heap.size, 1, none⟩ = some (.int .i64 xv) := hx4.has (by first | exact c0_1 | (simp [go_sem, World.cell?_alloc_past, c0_0, c0_1, c0_2, c0_3, c0_4, c0_5, c0_6, c0_7, rc0, rc0a, rc0b, rc0c, rc0n]; done))
                replace c0_2 : w4.cell? ⟨w.heap.size, 2, none⟩ = some (.int .i64 xs) := hx4.has (by first | exact c0_2 | (simp [go_sem, World.cell?_alloc_past, c0_0, c0_1, c0_2, c0_3, c0_4, c0_5, c0_6, c0_7, rc0, rc0a, rc0b, rc0c, rc0n]; done))
                replace c0_3 : w4.cell? ⟨w.heap.size, 3, none⟩ = some (.int .i64 xp) := hx4.has (by first | exact c0_3 | (simp [go_sem, World.cell?_alloc_past, c0_0, c0_1, c0_2, c0_3, c0_4, c0_5, c0_6, c0_7, rc0, rc0a, rc0b, rc0c, rc0n]; done))
                replace c0_4 : w4.cell? ⟨w.heap.size, 4, none⟩ = some (.int .i64 xf) := hx4.has (by first | exact c0_4 | (simp [go_sem, World.cell?_alloc_past, c0_0, c0_1, c0_2, c0_3, c0_4, c0_5, c0_6, c0_7, rc0, rc0a, rc0b, rc0c, rc0n]; done))
                replace c0_5 : w4.cell? ⟨w.heap.size, 5, none⟩ = some (.int .i64 xc) := hx4.has (by first | exact c0_5 | (simp [go_sem, World.cell?_alloc_past, c0_0, c0_1, c0_2, c0_3, c0_4, c0_5, c0_6, c0_7, rc0, rc0a, rc0b, rc0c, rc0n]; done))
                replace c0_6 : w4.cell? ⟨w.heap.size, 6, none⟩ = some (.int .u64 xi) := hx4.has (by first | exact c0_6 | (simp [go_sem, World.cell?_alloc_past, c0_0, c0_1, c0_2, c0_3, c0_4, c0_5, c0_6, c0_7, rc0, rc0a, rc0b, rc0c, rc0n]; done))
                replace c0_7 : w4.cell? ⟨w.heap.size, 7, none⟩ = some (.int .u64 xb) := hx4.has (by first | exact c0_7 | (simp [go_sem, World.cell?_alloc_past, c0_0, c0_1, c0_2, c0_3, c0_4, c0_5, c0_6, c0_7, rc0, rc0a, rc0b, rc0c, rc0n]; done))
                have z4 := hx4.size
                try simp at z4
                replace rc0 : w.heap.size < w4.heap.size := by omega
                replace rc0a : w.heap.size < w4.heap.size + 1 := by omega
                replace rc0b : w.heap.size < w4.heap.size + 1 + 1 := by omega
                replace rc0c : w.heap.size < w4.heap.size + 1 + 1 + 1 := by omega
                replace rc0n : ¬ w.heap.size = w4.heap.size := by omega
                replace HS := Lib.hid (HS.out.ext (Ext.trans (by repeat (first | with_reducible exact Ext.refl _ | with_reducible refine Ext.drew ?_ | with_reducible refine Ext.drewN ?_ _ | with_reducible refine Ext.alloc ?_ _ | with_reducible refine Ext.setCell ?_ (by first | omega | (simp; done) | (simp; omega)) _)) hx4))
                have X4 : Hid (Ext w w4) := Lib.hid (Ext.trans (by repeat (first | with_reducible exact X3.out | with_reducible refine Ext.drew ?_ | with_reducible refine Ext.drewN ?_ _ | with_reducible refine Ext.alloc ?_ _ | with_reducible refine Ext.setCell ?_ (by first | omega | (simp; done) | (simp; omega)) _)) hx4)
                clear X3 hx4 z4
                refine hK.out _ _ (by (first | exact c0_7 | (simp [go_sem, World.cell?_alloc_past, c0_0, c0_1, c0_2, c0_3, c0_4, c0_5, c0_6, c0_7, rc0, rc0a, rc0b, rc0c, rc0n]; done))) (fun hHeld => ?_); clear hK K; try simp only [Act.put, List.setIfInBounds_toArray, List.set_cons_zero, List.set_cons_succ]
                (refine' take_in 4 rfl (by kernel_rfl) (by kernel_rfl) (by kernel_rfl) (fun _ _ _ h => h) (by rfl) (by assumption) ?_ ?_; rotate_left; focus (intro w hSw; (try dsimp only at hSw); go_simp; try with_reducible rfl)); try simp only [Act.put, List.setIfInBounds_toArray, List.set_cons_zero, List.set_cons_succ]
                (refine' take_in 5 rfl (by kernel_rfl) (by kernel_rfl) (by kernel_rfl) (fun _ _ _ h => h) (by rfl) (by assumption) ?_ ?_; rotate_left; focus (intro w hSw; (try dsimp only at hSw); go_simp; try with_reducible rfl)); try simp only [Act.put, List.setIfInBounds_toArray, List.set_cons_zero, List.set_cons_succ]
                (refine' take_in 6 rfl (by kernel_rfl) (by kernel_rfl) (by kernel_rfl) (fun _ _ _ h => h) (by rfl) (by assumption) ?_ ?_; rotate_left; focus (intro w hSw; (try dsimp only at hSw); go_simp; try with_reducible rfl)); try simp only [Act.put, List.setIfInBounds_toArray, List.set_cons_zero, List.set_cons_succ]
                refine wpAnyH_done (by kernel_rfl) ?_ _
                clear d7
                by_cases q8 : 4611686018427387904 - s < xb
                · have d8 : decide (4611686018427387904 - s < xb) = true := decide_eq_true q8
                  have w8 : IntKind.u64.wrap (4611686018427387904 - s) = 4611686018427387904 - s := IntWalk.u64_in _ (by omega)
                  rw [w8, d8]
                  clear d8 w8
                  go_wp2_with fail
                  go_ret2
                  have q2 := Q2.out
                  have q3 := Q3.out
                  have q6 := Q6.out
                  have q7 := Q7.out
                  have hv9 : v = 12 := (by rw [HV.out]; unfold addG; (repeat' split) <;> omega)
                  rw [show R = [] from by rw [HR.out, if_neg (by omega)], hv9]
                  exact RetEntV.nil (xs := [.int .i64 12]) (by repeat (first | with_reducible exact X4.out | with_reducible refine Ext.drew ?_ | with_reducible refine Ext.drewN ?_ _ | with_reducible refine Ext.alloc ?_ _ | with_reducible refine Ext.setCell ?_ (by first | omega | (simp; done) | (simp; omega)) _))
                · have d8 : decide (4611686018427387904 - s < xb) = false := decide_eq_false q8
                  have w8 : IntKind.u64.wrap (4611686018427387904 - s) = 4611686018427387904 - s := IntWalk.u64_in _ (by omega)
                  rw [w8, d8]
                  clear d8 w8
                  go_wp2_with fail
                  refine wp_region_held_drew (S := fun _ => True) (by kernel_rfl) trivial (fun hHeld => ?_)
                  (refine' take_in 0 rfl (by kernel_rfl) (by kernel_rfl) (by kernel_rfl) (fun _ _ _ h => h) (by rfl) (by assumption) ?_ ?_; rotate_left; focus (intro w hSw; (try dsimp only at hSw); go_simp; try with_reducible rfl)); try simp only [Act.put, List.setIfInBounds_toArray, List.set_cons_zero, List.set_cons_succ]
                  refine' next2_in 1 2 rfl rfl (by kernel_rfl) (by rfl) (by rfl) (fun K hK => ?_) (fun K hK => ?_)
                  · go_simp
                    (with_reducible refine (eClone_n A n c l _ (HS.out.ext (by repeat (first | with_reducible exact Ext.refl _ | with_reducible refine Ext.drew ?_ | with_reducible refine Ext.drewN ?_ _ | with_reducible refine Ext.alloc ?_ _ | with_reducible refine Ext.setCell ?_ (by first | omega | (simp; done) | (simp; omega)) _))) (by omega) hnil).mono ?_)
                    rintro e w5 ⟨A3, c3, rfl, hA3, hO3, hx5⟩
                    have hz5 := hx5.size
                    try simp at hz5
                    have X5 : Hid (Ext w w5) := Lib.hid (Ext.trans (by repeat (first | with_reducible exact X4.out | with_reducible refine Ext.drew ?_ | with_reducible refine Ext.drewN ?_ _ | with_reducible refine Ext.alloc ?_ _ | with_reducible refine Ext.setCell ?_ (by first | omega | (simp; done) | (simp; omega)) _)) hx5)
                    have HO : Hid (OwnEnt w5 w4.heap.size (.slice A3 n c3) n l) := Lib.hid (OwnEnt.lower hO3 (by first | omega | (simp; done) | (simp; omega)))
                    have hlw : w.heap.size ≤ w4.heap.size := (by first | omega | (simp; omega))
                    clear hO3
                    have d_0 : w5.cell? ⟨w.heap.size, 0, none⟩ = some (.int .i64 xo) := hx5.has (by first | exact c0_0 | (simp [go_sem, World.cell?_alloc_past, c0_0, rc0, rc0n]; done))
                    have d_1 : w5.cell? ⟨w.heap.size, 1, none⟩ = some (.int .i64 xv) := hx5.has (by first | exact c0_1 | (simp [go_sem, World.cell?_alloc_past, c0_1, rc0, rc0n]; done))
                    have d_2 : w5.cell? ⟨w.heap.size, 2, none⟩ = some (.int .i64 xs) := hx5.has (by first | exact c0_2 | (simp [go_sem, World.cell?_alloc_past, c0_2, rc0, rc0n]; done))
                    have d_3 : w5.cell? ⟨w.heap.size, 3, none⟩ = some (.int .i64 xp) := hx5.has (by first | exact c0_3 | (simp [go_sem, World.cell?_alloc_past, c0_3, rc0, rc0n]; done))
                    have d_4 : w5.cell? ⟨w.heap.size, 4, none⟩ = some (.int .i64 xf) := hx5.has (by first | exact c0_4 | (simp [go_sem, World.cell?_alloc_past, c0_4, rc0, rc0n]; done))
                    have d_5 : w5.cell? ⟨w.heap.size, 5, none⟩ = some (.int .i64 xc) := hx5.has (by first | exact c0_5 | (simp [go_sem, World.cell?_alloc_past, c0_5, rc0, rc0n]; done))
                    have d_6 : w5.cell? ⟨w.heap.size, 6, none⟩ = some (.int .u64 xi) := hx5.has (by first | exact c0_6 | (simp [go_sem, World.cell?_alloc_past, c0_6, rc0, rc0n]; done))
                    have d_7 : w5.cell? ⟨w.heap.size, 7, none⟩ = some (.int .u64 xb) := hx5.has (by first | exact c0_7 | (simp [go_sem, World.cell?_alloc_past, c0_7, rc0, rc0n]; done))
                    have rd0 : w.heap.size < w5.heap.size := by omega
                    refine hK.out _ _ (trivial) (fun hHeld => ?_); clear hK K; try simp only [Act.put, List.setIfInBounds_toArray, List.set_cons_zero, List.set_cons_succ]
                    refine' next_in 2 rfl (by kernel_rfl) (by rfl) (fun K hK => ?_)
                    go_simp
                    refine hK.out _ _ (trivial) (fun hHeld => ?_); clear hK K; try simp only [Act.put, List.setIfInBounds_toArray, List.set_cons_zero, List.set_cons_succ]
                    refine' next_in 3 rfl (by kernel_rfl) (by rfl) (fun K hK => ?_)
                    go_simp
                    refine hK.out _ _ (trivial) (fun hHeld => ?_); clear hK K; try simp only [Act.put, List.setIfInBounds_toArray, List.set_cons_zero, List.set_cons_succ]
                    obtain ⟨A7, c7, w7, hrun7, hO7, hB7⟩ := ent_app (w := (w5.alloc (.cells #[.int .i64 xo, .int .i64 xv, .int .i64 xs, .int .i64 xp, .int .i64 xf, .int .i64 xc, .int .u64 xi, .int .u64 xb] 27))) (b := w5.heap.size) (c := 1) (HO.out.ext (Ext.alloc (Ext.refl _) _)) (by omega) (by simp; omega) (ent_cells (xo := xo) (xv := xv) (xs := xs) (xp := xp) (xf := xf) (xc := xc) (xi := xi) (xb := xb) (by simp [go_sem]) (by simp [go_sem]) (by simp [go_sem]) (by simp [go_sem]) (by simp [go_sem]) (by simp [go_sem]) (by simp [go_sem]) (by simp [go_sem])) 22
                    have X7 : Hid (Ext w w7) := Lib.hid (Below.trans (Ext.alloc X5.out _) (Below.mono hB7 hlw))
                    have e_0 : w7.cell? ⟨w.heap.size, 0, none⟩ = some (.int .i64 xo) := (hB7.cell (p := ⟨w.heap.size, 0, none⟩) (by show w.heap.size < w4.heap.size; omega)).trans (by first | exact d_0 | (simp [go_sem, World.cell?_alloc_past, d_0, rd0]; done))
                    have e_1 : w7.cell? ⟨w.heap.size, 1, none⟩ = some (.int .i64 xv) := (hB7.cell (p := ⟨w.heap.size, 1, none⟩) (by show w.heap.size < w4.heap.size; omega)).trans (by first | exact d_1 | (simp [go_sem, World.cell?_alloc_past, d_1, rd0]; done))
                    have e_2 : w7.cell? ⟨w.heap.size, 2, none⟩ = some (.int .i64 xs) := (hB7.cell (p := ⟨w.heap.size, 2, none⟩) (by show w.heap.size < w4.heap.size; omega)).trans (by first | exact d_2 | (simp [go_sem, World.cell?_alloc_past, d_2, rd0]; done))
                    have e_3 : w7.cell? ⟨w.heap.size, 3, none⟩ = some (.int .i64 xp) := (hB7.cell (p := ⟨w.heap.size, 3, none⟩) (by show w.heap.size < w4.heap.size; omega)).trans (by first | exact d_3 | (simp [go_sem, World.cell?_alloc_past, d_3, rd0]; done))
                    have e_4 : w7.cell? ⟨w.heap.size, 4, none⟩ = some (.int .i64 xf) := (hB7.cell (p := ⟨w.heap.size, 4, none⟩) (by show w.heap.size < w4.heap.size; omega)).trans (by first | exact d_4 | (simp [go_sem, World.cell?_alloc_past, d_4, rd0]; done))
                    have e_5 : w7.cell? ⟨w.heap.size, 5, none⟩ = some (.int .i64 xc) := (hB7.cell (p := ⟨w.heap.size, 5, none⟩) (by show w.heap.size < w4.heap.size; omega)).trans (by first | exact d_5 | (simp [go_sem, World.cell?_alloc_past, d_5, rd0]; done))
                    have e_6 : w7.cell? ⟨w.heap.size, 6, none⟩ = some (.int .u64 xi) := (hB7.cell (p := ⟨w.heap.size, 6, none⟩) (by show w.heap.size < w4.heap.size; omega)).trans (by first | exact d_6 | (simp [go_sem, World.cell?_alloc_past, d_6, rd0]; done))
                    have e_7 : w7.cell? ⟨w.heap.size, 7, none⟩ = some (.int .u64 xb) := (hB7.cell (p := ⟨w.heap.size, 7, none⟩) (by show w.heap.size < w4.heap.size; omega)).trans (by first | exact d_7 | (simp [go_sem, World.cell?_alloc_past, d_7, rd0]; done))
                    have hz7 := Below.size hB7
                    try simp at hz7
                    have HO7 := Lib.hid hO7
                    clear hB7 hO7
                    replace c0_0 := e_0
                    replace c0_1 := e_1
                    replace c0_2 := e_2
                    replace c0_3 := e_3
                    replace c0_4 := e_4
                    replace c0_5 := e_5
                    replace c0_6 := e_6
                    replace c0_7 := e_7
                    replace rc0 : w.heap.size < w7.heap.size := by omega
                    replace rc0a : w.heap.size < w7.heap.size + 1 := by omega
                    replace rc0b : w.heap.size < w7.heap.size + 1 + 1 := by omega
                    replace rc0c : w.heap.size < w7.heap.size + 1 + 1 + 1 := by omega
                    replace rc0n : ¬ w.heap.size = w7.heap.size := by omega
                    clear e_0 d_0 e_1 d_1 e_2 d_2 e_3 d_3 e_4 d_4 e_5 d_5 e_6 d_6 e_7 d_7
                    refine' next_in 4 rfl (by kernel_rfl) (by rfl) (fun K hK => ?_)
                    refine oper_append (.tmp 59) (.tmp 61) 22 rfl rfl rfl hrun7 ?_
                    refine hK.out _ _ (trivial) (fun hHeld => ?_); clear hK K; try simp only [Act.put, List.setIfInBounds_toArray, List.set_cons_zero, List.set_cons_succ]
                    clear hrun7
                    (refine' take_in 5 rfl (by kernel_rfl) (by kernel_rfl) (by kernel_rfl) (fun _ _ _ h => h) (by rfl) (by assumption) ?_ ?_; rotate_left; focus (intro w hSw; (try dsimp only at hSw); go_simp; try with_reducible rfl)); try simp only [Act.put, List.setIfInBounds_toArray, List.set_cons_zero, List.set_cons_succ]
                    (refine' take_in 6 rfl (by kernel_rfl) (by kernel_rfl) (by kernel_rfl) (fun _ _ _ h => h) (by rfl) (by assumption) ?_ ?_; rotate_left; focus (intro w hSw; (try dsimp only at hSw); go_simp; try with_reducible rfl)); try simp only [Act.put, List.setIfInBounds_toArray, List.set_cons_zero, List.set_cons_succ]
                    refine wpAnyH_done (by kernel_rfl) ?_ _
                    go_wp2_with fail
                    go_ret2
                    have q2 := Q2.out
                    have q3 := Q3.out
                    have q6 := Q6.out
                    have q7 := Q7.out
                    have hv9 : v = 0 := (by rw [HV.out]; unfold addG; (repeat' split) <;> omega)
                    rw [show R = l ++ [(xo, xv, xs, xp, xf, xc, xi, xb)] from by rw [HR.out, if_pos hv9], hv9]
                    exact RetEntV.mk (xs := [.int .i64 0]) (OwnEnt.lower (show OwnEnt _ _ _ (n + 1) _ from (HO7.out.ext (by repeat (first | with_reducible exact Ext.refl _ | with_reducible refine Ext.drew ?_ | with_reducible refine Ext.drewN ?_ _ | with_reducible refine Ext.alloc ?_ _ | with_reducible refine Ext.setCell ?_ (by first | omega | (simp; done) | (simp; omega)) _)))) hlw) (by repeat (first | with_reducible exact X7.out | with_reducible refine Ext.drew ?_ | with_reducible refine Ext.drewN ?_ _ | with_reducible refine Ext.alloc ?_ _ | with_reducible refine Ext.setCell ?_ (by first | omega | (simp; done) | (simp; omega)) _)) (by simp [HLL.out])
                  · go_simp
                    refine hK.out _ _ (trivial) (fun hHeld => ?_); clear hK K; try simp only [Act.put, List.setIfInBounds_toArray, List.set_cons_zero, List.set_cons_succ]
                    refine' next2_in 1 3 rfl rfl (by kernel_rfl) (by rfl) (by rfl) (fun K hK => ?_) (fun K hK => ?_)
                    · go_simp
                      (with_reducible refine (eClone_n A n c l _ (HS.out.ext (by repeat (first | with_reducible exact Ext.refl _ | with_reducible refine Ext.drew ?_ | with_reducible refine Ext.drewN ?_ _ | with_reducible refine Ext.alloc ?_ _ | with_reducible refine Ext.setCell ?_ (by first | omega | (simp; done) | (simp; omega)) _))) (by omega) hnil).mono ?_)
                      rintro e w5 ⟨A3, c3, rfl, hA3, hO3, hx5⟩
                      have hz5 := hx5.size
                      try simp at hz5
                      have X5 : Hid (Ext w w5) := Lib.hid (Ext.trans (by repeat (first | with_reducible exact X4.out | with_reducible refine Ext.drew ?_ | with_reducible refine Ext.drewN ?_ _ | with_reducible refine Ext.alloc ?_ _ | with_reducible refine Ext.setCell ?_ (by first | omega | (simp; done) | (simp; omega)) _)) hx5)
                      have HO : Hid (OwnEnt w5 w4.heap.size (.slice A3 n c3) n l) := Lib.hid (OwnEnt.lower hO3 (by first | omega | (simp; done) | (simp; omega)))
                      have hlw : w.heap.size ≤ w4.heap.size := (by first | omega | (simp; omega))
                      clear hO3
                      have d_0 : w5.cell? ⟨w.heap.size, 0, none⟩ = some (.int .i64 xo) := hx5.has (by first | exact c0_0 | (simp [go_sem, World.cell?_alloc_past, c0_0, rc0, rc0n]; done))
                      have d_1 : w5.cell? ⟨w.heap.size, 1, none⟩ = some (.int .i64 xv) := hx5.has (by first | exact c0_1 | (simp [go_sem, World.cell?_alloc_past, c0_1, rc0, rc0n]; done))
                      have d_2 : w5.cell? ⟨w.heap.size, 2, none⟩ = some (.int .i64 xs) := hx5.has (by first | exact c0_2 | (simp [go_sem, World.cell?_alloc_past, c0_2, rc0, rc0n]; done))
                      have d_3 : w5.cell? ⟨w.heap.size, 3, none⟩ = some (.int .i64 xp) := hx5.has (by first | exact c0_3 | (simp [go_sem, World.cell?_alloc_past, c0_3, rc0, rc0n]; done))
                      have d_4 : w5.cell? ⟨w.heap.size, 4, none⟩ = some (.int .i64 xf) := hx5.has (by first | exact c0_4 | (simp [go_sem, World.cell?_alloc_past, c0_4, rc0, rc0n]; done))
                      have d_5 : w5.cell? ⟨w.heap.size, 5, none⟩ = some (.int .i64 xc) := hx5.has (by first | exact c0_5 | (simp [go_sem, World.cell?_alloc_past, c0_5, rc0, rc0n]; done))
                      have d_6 : w5.cell? ⟨w.heap.size, 6, none⟩ = some (.int .u64 xi) := hx5.has (by first | exact c0_6 | (simp [go_sem, World.cell?_alloc_past, c0_6, rc0, rc0n]; done))
                      have d_7 : w5.cell? ⟨w.heap.size, 7, none⟩ = some (.int .u64 xb) := hx5.has (by first | exact c0_7 | (simp [go_sem, World.cell?_alloc_past, c0_7, rc0, rc0n]; done))
                      have rd0 : w.heap.size < w5.heap.size := by omega
                      refine hK.out _ _ (trivial) (fun hHeld => ?_); clear hK K; try simp only [Act.put, List.setIfInBounds_toArray, List.set_cons_zero, List.set_cons_succ]
                      refine' next_in 3 rfl (by kernel_rfl) (by rfl) (fun K hK => ?_)
                      go_simp
                      refine hK.out _ _ (trivial) (fun hHeld => ?_); clear hK K; try simp only [Act.put, List.setIfInBounds_toArray, List.set_cons_zero, List.set_cons_succ]
                      obtain ⟨A7, c7, w7, hrun7, hO7, hB7⟩ := ent_app (w := (w5.alloc (.cells #[.int .i64 xo, .int .i64 xv, .int .i64 xs, .int .i64 xp, .int .i64 xf, .int .i64 xc, .int .u64 xi, .int .u64 xb] 27))) (b := w5.heap.size) (c := 1) (HO.out.ext (Ext.alloc (Ext.refl _) _)) (by omega) (by simp; omega) (ent_cells (xo := xo) (xv := xv) (xs := xs) (xp := xp) (xf := xf) (xc := xc) (xi := xi) (xb := xb) (by simp [go_sem]) (by simp [go_sem]) (by simp [go_sem]) (by simp [go_sem]) (by simp [go_sem]) (by simp [go_sem]) (by simp [go_sem]) (by simp [go_sem])) 22
                      have X7 : Hid (Ext w w7) := Lib.hid (Below.trans (Ext.alloc X5.out _) (Below.mono hB7 hlw))
                      have e_0 : w7.cell? ⟨w.heap.size, 0, none⟩ = some (.int .i64 xo) := (hB7.cell (p := ⟨w.heap.size, 0, none⟩) (by show w.heap.size < w4.heap.size; omega)).trans (by first | exact d_0 | (simp [go_sem, World.cell?_alloc_past, d_0, rd0]; done))
                      have e_1 : w7.cell? ⟨w.heap.size, 1, none⟩ = some (.int .i64 xv) := (hB7.cell (p := ⟨w.heap.size, 1, none⟩) (by show w.heap.size < w4.heap.size; omega)).trans (by first | exact d_1 | (simp [go_sem, World.cell?_alloc_past, d_1, rd0]; done))
                      have e_2 : w7.cell? ⟨w.heap.size, 2, none⟩ = some (.int .i64 xs) := (hB7.cell (p := ⟨w.heap.size, 2, none⟩) (by show w.heap.size < w4.heap.size; omega)).trans (by first | exact d_2 | (simp [go_sem, World.cell?_alloc_past, d_2, rd0]; done))
                      have e_3 : w7.cell? ⟨w.heap.size, 3, none⟩ = some (.int .i64 xp) := (hB7.cell (p := ⟨w.heap.size, 3, none⟩) (by show w.heap.size < w4.heap.size; omega)).trans (by first | exact d_3 | (simp [go_sem, World.cell?_alloc_past, d_3, rd0]; done))
                      have e_4 : w7.cell? ⟨w.heap.size, 4, none⟩ = some (.int .i64 xf) := (hB7.cell (p := ⟨w.heap.size, 4, none⟩) (by show w.heap.size < w4.heap.size; omega)).trans (by first | exact d_4 | (simp [go_sem, World.cell?_alloc_past, d_4, rd0]; done))
                      have e_5 : w7.cell? ⟨w.heap.size, 5, none⟩ = some (.int .i64 xc) := (hB7.cell (p := ⟨w.heap.size, 5, none⟩) (by show w.heap.size < w4.heap.size; omega)).trans (by first | exact d_5 | (simp [go_sem, World.cell?_alloc_past, d_5, rd0]; done))
                      have e_6 : w7.cell? ⟨w.heap.size, 6, none⟩ = some (.int .u64 xi) := (hB7.cell (p := ⟨w.heap.size, 6, none⟩) (by show w.heap.size < w4.heap.size; omega)).trans (by first | exact d_6 | (simp [go_sem, World.cell?_alloc_past, d_6, rd0]; done))
                      have e_7 : w7.cell? ⟨w.heap.size, 7, none⟩ = some (.int .u64 xb) := (hB7.cell (p := ⟨w.heap.size, 7, none⟩) (by show w.heap.size < w4.heap.size; omega)).trans (by first | exact d_7 | (simp [go_sem, World.cell?_alloc_past, d_7, rd0]; done))
                      have hz7 := Below.size hB7
                      try simp at hz7
                      have HO7 := Lib.hid hO7
                      clear hB7 hO7
                      replace c0_0 := e_0
                      replace c0_1 := e_1
                      replace c0_2 := e_2
                      replace c0_3 := e_3
                      replace c0_4 := e_4
                      replace c0_5 := e_5
                      replace c0_6 := e_6
                      replace c0_7 := e_7
                      replace rc0 : w.heap.size < w7.heap.size := by omega
                      replace rc0a : w.heap.size < w7.heap.size + 1 := by omega
                      replace rc0b : w.heap.size < w7.heap.size + 1 + 1 := by omega
                      replace rc0c : w.heap.size < w7.heap.size + 1 + 1 + 1 := by omega
                      replace rc0n : ¬ w.heap.size = w7.heap.size := by omega
                      clear e_0 d_0 e_1 d_1 e_2 d_2 e_3 d_3 e_4 d_4 e_5 d_5 e_6 d_6 e_7 d_7
                      refine' next_in 4 rfl (by kernel_rfl) (by rfl) (fun K hK => ?_)
                      refine oper_append (.tmp 59) (.tmp 61) 22 rfl rfl rfl hrun7 ?_
                      refine hK.out _ _ (trivial) (fun hHeld => ?_); clear hK K; try simp only [Act.put, List.setIfInBounds_toArray, List.set_cons_zero, List.set_cons_succ]
                      clear hrun7
                      (refine' take_in 5 rfl (by kernel_rfl) (by kernel_rfl) (by kernel_rfl) (fun _ _ _ h => h) (by rfl) (by assumption) ?_ ?_; rotate_left; focus (intro w hSw; (try dsimp only at hSw); go_simp; try with_reducible rfl)); try simp only [Act.put, List.setIfInBounds_toArray, List.set_cons_zero, List.set_cons_succ]
                      (refine' take_in 6 rfl (by kernel_rfl) (by kernel_rfl) (by kernel_rfl) (fun _ _ _ h => h) (by rfl) (by assumption) ?_ ?_; rotate_left; focus (intro w hSw; (try dsimp only at hSw); go_simp; try with_reducible rfl)); try simp only [Act.put, List.setIfInBounds_toArray, List.set_cons_zero, List.set_cons_succ]
                      refine wpAnyH_done (by kernel_rfl) ?_ _
                      go_wp2_with fail
                      go_ret2
                      have q2 := Q2.out
                      have q3 := Q3.out
                      have q6 := Q6.out
                      have q7 := Q7.out
                      have hv9 : v = 0 := (by rw [HV.out]; unfold addG; (repeat' split) <;> omega)
                      rw [show R = l ++ [(xo, xv, xs, xp, xf, xc, xi, xb)] from by rw [HR.out, if_pos hv9], hv9]
                      exact RetEntV.mk (xs := [.int .i64 0]) (OwnEnt.lower (show OwnEnt _ _ _ (n + 1) _ from (HO7.out.ext (by repeat (first | with_reducible exact Ext.refl _ | with_reducible refine Ext.drew ?_ | with_reducible refine Ext.drewN ?_ _ | with_reducible refine Ext.alloc ?_ _ | with_reducible refine Ext.setCell ?_ (by first | omega | (simp; done) | (simp; omega)) _)))) hlw) (by repeat (first | with_reducible exact X7.out | with_reducible refine Ext.drew ?_ | with_reducible refine Ext.drewN ?_ _ | with_reducible refine Ext.alloc ?_ _ | with_reducible refine Ext.setCell ?_ (by first | omega | (simp; done) | (simp; omega)) _)) (by simp [HLL.out])
                    · go_simp
                      refine hK.out _ _ (trivial) (fun hHeld => ?_); clear hK K; try simp only [Act.put, List.setIfInBounds_toArray, List.set_cons_zero, List.set_cons_succ]
                      refine' next_in 1 rfl (by kernel_rfl) (by rfl) (fun K hK => ?_)
                      go_simp
                      (with_reducible refine (eClone_n A n c l _ (HS.out.ext (by repeat (first | with_reducible exact Ext.refl _ | with_reducible refine Ext.drew ?_ | with_reducible refine Ext.drewN ?_ _ | with_reducible refine Ext.alloc ?_ _ | with_reducible refine Ext.setCell ?_ (by first | omega | (simp; done) | (simp; omega)) _))) (by omega) hnil).mono ?_)
                      rintro e w5 ⟨A3, c3, rfl, hA3, hO3, hx5⟩
                      have hz5 := hx5.size
                      try simp at hz5
                      have X5 : Hid (Ext w w5) := Lib.hid (Ext.trans (by repeat (first | with_reducible exact X4.out | with_reducible refine Ext.drew ?_ | with_reducible refine Ext.drewN ?_ _ | with_reducible refine Ext.alloc ?_ _ | with_reducible refine Ext.setCell ?_ (by first | omega | (simp; done) | (simp; omega)) _)) hx5)
                      have HO : Hid (OwnEnt w5 w4.heap.size (.slice A3 n c3) n l) := Lib.hid (OwnEnt.lower hO3 (by first | omega | (simp; done) | (simp; omega)))
                      have hlw : w.heap.size ≤ w4.heap.size := (by first | omega | (simp; omega))
                      clear hO3
                      have d_0 : w5.cell? ⟨w.heap.size, 0, none⟩ = some (.int .i64 xo) := hx5.has (by first | exact c0_0 | (simp [go_sem, World.cell?_alloc_past, c0_0, rc0, rc0n]; done))
                      have d_1 : w5.cell? ⟨w.heap.size, 1, none⟩ = some (.int .i64 xv) := hx5.has (by first | exact c0_1 | (simp [go_sem, World.cell?_alloc_past, c0_1, rc0, rc0n]; done))
                      have d_2 : w5.cell? ⟨w.heap.size, 2, none⟩ = some (.int .i64 xs) := hx5.has (by first | exact c0_2 | (simp [go_sem, World.cell?_alloc_past, c0_2, rc0, rc0n]; done))
                      have d_3 : w5.cell? ⟨w.heap.size, 3, none⟩ = some (.int .i64 xp) := hx5.has (by first | exact c0_3 | (simp [go_sem, World.cell?_alloc_past, c0_3, rc0, rc0n]; done))
                      have d_4 : w5.cell? ⟨w.heap.size, 4, none⟩ = some (.int .i64 xf) := hx5.has (by first | exact c0_4 | (simp [go_sem, World.cell?_alloc_past, c0_4, rc0, rc0n]; done))
                      have d_5 : w5.cell? ⟨w.heap.size, 5, none⟩ = some (.int .i64 xc) := hx5.has (by first | exact c0_5 | (simp [go_sem, World.cell?_alloc_past, c0_5, rc0, rc0n]; done))
                      have d_6 : w5.cell? ⟨w.heap.size, 6, none⟩ = some (.int .u64 xi) := hx5.has (by first | exact c0_6 | (simp [go_sem, World.cell?_alloc_past, c0_6, rc0, rc0n]; done))
                      have d_7 : w5.cell? ⟨w.heap.size, 7, none⟩ = some (.int .u64 xb) := hx5.has (by first | exact c0_7 | (simp [go_sem, World.cell?_alloc_past, c0_7, rc0, rc0n]; done))
                      have rd0 : w.heap.size < w5.heap.size := by omega
                      have n_0 : w5.cell? ⟨w4.heap.size, 0, none⟩ = some (.int .i64 xo) := hx5.has (by simp [go_sem])
                      have n_1 : w5.cell? ⟨w4.heap.size, 1, none⟩ = some (.int .i64 xv) := hx5.has (by simp [go_sem])
                      have n_2 : w5.cell? ⟨w4.heap.size, 2, none⟩ = some (.int .i64 xs) := hx5.has (by simp [go_sem])
                      have n_3 : w5.cell? ⟨w4.heap.size, 3, none⟩ = some (.int .i64 xp) := hx5.has (by simp [go_sem])
                      have n_4 : w5.cell? ⟨w4.heap.size, 4, none⟩ = some (.int .i64 xf) := hx5.has (by simp [go_sem])
                      have n_5 : w5.cell? ⟨w4.heap.size, 5, none⟩ = some (.int .i64 xc) := hx5.has (by simp [go_sem])
                      have n_6 : w5.cell? ⟨w4.heap.size, 6, none⟩ = some (.int .u64 xi) := hx5.has (by simp [go_sem])
                      have n_7 : w5.cell? ⟨w4.heap.size, 7, none⟩ = some (.int .u64 xb) := hx5.has (by simp [go_sem])
                      refine hK.out _ _ (trivial) (fun hHeld => ?_); clear hK K; try simp only [Act.put, List.setIfInBounds_toArray, List.set_cons_zero, List.set_cons_succ]
                      obtain ⟨A7, c7, w7, hrun7, hO7, hB7⟩ := ent_app (w := w5) (b := w4.heap.size) (c := 1) HO.out (by omega) (by omega) (ent_cells n_0 n_1 n_2 n_3 n_4 n_5 n_6 n_7) 22
                      have X7 : Hid (Ext w w7) := Lib.hid (Below.trans X5.out (Below.mono hB7 hlw))
                      have e_0 : w7.cell? ⟨w.heap.size, 0, none⟩ = some (.int .i64 xo) := (hB7.cell (p := ⟨w.heap.size, 0, none⟩) (by show w.heap.size < w4.heap.size; omega)).trans (by first | exact d_0 | (simp [go_sem, d_0, rd0]; done))
                      have e_1 : w7.cell? ⟨w.heap.size, 1, none⟩ = some (.int .i64 xv) := (hB7.cell (p := ⟨w.heap.size, 1, none⟩) (by show w.heap.size < w4.heap.size; omega)).trans (by first | exact d_1 | (simp [go_sem, d_1, rd0]; done))
                      have e_2 : w7.cell? ⟨w.heap.size, 2, none⟩ = some (.int .i64 xs) := (hB7.cell (p := ⟨w.heap.size, 2, none⟩) (by show w.heap.size < w4.heap.size; omega)).trans (by first | exact d_2 | (simp [go_sem, d_2, rd0]; done))
                      have e_3 : w7.cell? ⟨w.heap.size, 3, none⟩ = some (.int .i64 xp) := (hB7.cell (p := ⟨w.heap.size, 3, none⟩) (by show w.heap.size < w4.heap.size; omega)).trans (by first | exact d_3 | (simp [go_sem, d_3, rd0]; done))
                      have e_4 : w7.cell? ⟨w.heap.size, 4, none⟩ = some (.int .i64 xf) := (hB7.cell (p := ⟨w.heap.size, 4, none⟩) (by show w.heap.size < w4.heap.size; omega)).trans (by first | exact d_4 | (simp [go_sem, d_4, rd0]; done))
                      have e_5 : w7.cell? ⟨w.heap.size, 5, none⟩ = some (.int .i64 xc) := (hB7.cell (p := ⟨w.heap.size, 5, none⟩) (by show w.heap.size < w4.heap.size; omega)).trans (by first | exact d_5 | (simp [go_sem, d_5, rd0]; done))
                      have e_6 : w7.cell? ⟨w.heap.size, 6, none⟩ = some (.int .u64 xi) := (hB7.cell (p := ⟨w.heap.size, 6, none⟩) (by show w.heap.size < w4.heap.size; omega)).trans (by first | exact d_6 | (simp [go_sem, d_6, rd0]; done))
                      have e_7 : w7.cell? ⟨w.heap.size, 7, none⟩ = some (.int .u64 xb) := (hB7.cell (p := ⟨w.heap.size, 7, none⟩) (by show w.heap.size < w4.heap.size; omega)).trans (by first | exact d_7 | (simp [go_sem, d_7, rd0]; done))
                      have hz7 := Below.size hB7
                      try simp at hz7
                      have HO7 := Lib.hid hO7
                      clear hB7 hO7
                      replace c0_0 := e_0
                      replace c0_1 := e_1
                      replace c0_2 := e_2
                      replace c0_3 := e_3
                      replace c0_4 := e_4
                      replace c0_5 := e_5
                      replace c0_6 := e_6
                      replace c0_7 := e_7
                      replace rc0 : w.heap.size < w7.heap.size := by omega
                      replace rc0a : w.heap.size < w7.heap.size + 1 := by omega
                      replace rc0b : w.heap.size < w7.heap.size + 1 + 1 := by omega
                      replace rc0c : w.heap.size < w7.heap.size + 1 + 1 + 1 := by omega
                      replace rc0n : ¬ w.heap.size = w7.heap.size := by omega
                      clear e_0 d_0 e_1 d_1 e_2 d_2 e_3 d_3 e_4 d_4 e_5 d_5 e_6 d_6 e_7 d_7
                      refine' next_in 4 rfl (by kernel_rfl) (by rfl) (fun K hK => ?_)
                      refine oper_append (.tmp 59) (.tmp 61) 22 rfl rfl rfl hrun7 ?_
                      refine hK.out _ _ (trivial) (fun hHeld => ?_); clear hK K; try simp only [Act.put, List.setIfInBounds_toArray, List.set_cons_zero, List.set_cons_succ]
                      clear hrun7
                      (refine' take_in 5 rfl (by kernel_rfl) (by kernel_rfl) (by kernel_rfl) (fun _ _ _ h => h) (by rfl) (by assumption) ?_ ?_; rotate_left; focus (intro w hSw; (try dsimp only at hSw); go_simp; try with_reducible rfl)); try simp only [Act.put, List.setIfInBounds_toArray, List.set_cons_zero, List.set_cons_succ]
                      (refine' take_in 6 rfl (by kernel_rfl) (by kernel_rfl) (by kernel_rfl) (fun _ _ _ h => h) (by rfl) (by assumption) ?_ ?_; rotate_left; focus (intro w hSw; (try dsimp only at hSw); go_simp; try with_reducible rfl)); try simp only [Act.put, List.setIfInBounds_toArray, List.set_cons_zero, List.set_cons_succ]
                      refine wpAnyH_done (by kernel_rfl) ?_ _
                      go_wp2_with fail
                      go_ret2
                      have q2 := Q2.out
                      have q3 := Q3.out
                      have q6 := Q6.out
                      have q7 := Q7.out
                      have hv9 : v = 0 := (by rw [HV.out]; unfold addG; (repeat' split) <;> omega)
                      rw [show R = l ++ [(xo, xv, xs, xp, xf, xc, xi, xb)] from by rw [HR.out, if_pos hv9], hv9]
                      exact RetEntV.mk (xs := [.int .i64 0]) (OwnEnt.lower (show OwnEnt _ _ _ (n + 1) _ from (HO7.out.ext (by repeat (first | with_reducible exact Ext.refl _ | with_reducible refine Ext.drew ?_ | with_reducible refine Ext.drewN ?_ _ | with_reducible refine Ext.alloc ?_ _ | with_reducible refine Ext.setCell ?_ (by first | omega | (simp; done) | (simp; omega)) _)))) hlw) (by repeat (first | with_reducible exact X7.out | with_reducible refine Ext.drew ?_ | with_reducible refine Ext.drewN ?_ _ | with_reducible refine Ext.alloc ?_ _ | with_reducible refine Ext.setCell ?_ (by first | omega | (simp; done) | (simp; omega)) _)) (by simp [HLL.out])
end
section

/-- a part in billionths -/
def prt (a p : Int) : Int := a * p / 1000000000
theorem prt_bounds {a p : Int} (ha : 0 ≤ a) (hp : 0 ≤ p) (h : p ≤ 1000000000) : 0 ≤ prt a p ∧ prt a p ≤ a ∧ 1000000000 * prt a p ≤ a * p ∧ a * p < 1000000000 * prt a p + 1000000000 := by
  have h1 : 0 ≤ a * p := Int.mul_nonneg ha hp
  have h2 : a * p ≤ a * 1000000000 := Int.mul_le_mul_of_nonneg_left h ha
  unfold prt
  omega
theorem pa_prt {a p : Int} (ha : Word a) (hp : 0 ≤ p) (h : p ≤ 1000000000) : paN a p = prt a p ∧ paE a p = 0 := by
  obtain ⟨h1, h2, _⟩ := prt_bounds ha.1 hp h
  unfold prt at h1 h2
  have := ha.2
  refine ⟨?_, ?_⟩
  · unfold paN mdN prt
    rw [if_neg (by omega), if_neg (by decide), if_pos (by omega)]
  · unfold paE mdE
    rw [if_neg (by omega), if_neg (by decide), if_pos (by omega)]
/-- at the head of the loop: what is left, the sum, how many parts -/
structure SI (a L S : Int) (i : Nat) : Prop where
  l0 : 0 ≤ L
  l1 : L ≤ 1000000000
  s0 : 0 ≤ S
  up : 1000000000 * S ≤ a * (1000000000 - L)
  lo : a * (1000000000 - L) ≤ 1000000000 * S + i * 999999999
theorem SI.start (a : Int) : SI a 1000000000 0 0 := ⟨by decide, by decide, by decide, by simp, by simp⟩
theorem SI.step {a L S P : Int} {i : Nat} (h : SI a L S i) (ha : 0 ≤ a) (h0 : 0 ≤ P) (h1 : P ≤ L) : SI a (L - P) (S + prt a P) (i + 1) ∧ S ≤ a - prt a P := by
  have l0 := h.l0; have l1 := h.l1; have s0 := h.s0; have up := h.up; have lo := h.lo
  obtain ⟨b1, b2, b3, b4⟩ := prt_bounds ha h0 (by omega)
  have e : a * (1000000000 - (L - P)) = a * (1000000000 - L) + a * P := by rw [← Int.mul_add]; congr 1; omega
  have e2 : a * (1000000000 - (L - P)) ≤ a * 1000000000 := Int.mul_le_mul_of_nonneg_left (by omega) ha
  refine ⟨⟨by omega, by omega, by omega, by omega, ?_⟩, by omega⟩
  rw [e]
  push_cast
  omega
theorem SI.done {a S : Int} {n : Nat} (h : SI a 0 S (n + 1)) : S ≤ a ∧ a - S ≤ n := by
  have up := h.up; have lo := h.lo
  push_cast at lo
  omega
end
section
open Go.RowKit Go.ChangeShapes Go.WideShapes Go.Deep Go.Joins
/-- a record's cells -/
def shaveC (x : Int × Int) : List Value := [.int .i64 x.1, .int .u64 x.2]
theorem shaveC_len (x : Int × Int) : (shaveC x).length = 2 := rfl
theorem shave_info : (Try.prog.info? 68).map (fun i => (i.zero, i.size, i.bytes)) = some (some (.agg #[.int .i64 0, .int .u64 0]), 2, 16) := by kernel_rfl
/-- a row of records of one's own -/
def OwnShave (w : World) (base : Nat) (v : Value) (n : Nat) (l : List (Int × Int)) : Prop := w.ownsRow base 68 2 v n (l.flatMap shaveC)
theorem OwnShave.ext {w w' : World} {base n : Nat} {v : Value} {l : List (Int × Int)} (h : OwnShave w base v n l) (hx : Ext w w') : OwnShave w' base v n l := own_keep h hx
theorem OwnShave.sl {w : World} {base n c : Nat} {A : Option Addr} {l : List (Int × Int)} (h : OwnShave w base (.slice A n c) n l) : Sl w 2 A n c (l.flatMap shaveC) := Sl.own h
theorem OwnShave.in_ {w : World} {base n c : Nat} {A : Option Addr} {l : List (Int × Int)} (h : OwnShave w base (.slice A n c) n l) : ∀ k o s, A = some ⟨k, o, s⟩ → base ≤ k ∧ k < w.heap.size := by
  intro k o s e'
  subst e'
  exact World.ownsRow.lt h k rfl
theorem OwnShave.nil (w : World) (base : Nat) : OwnShave w base (.slice none 0 0) 0 [] := World.ownsRow_nil _ _ _ _
/-- records handed back -/
def RetShave (l : List (Int × Int)) (w : World) (e : Ending) (w' : World) : Prop := ∃ A c, e = .returned (.slice A l.length c) ∧ (A = none → c = 0) ∧ OwnShave w' w.heap.size (.slice A l.length c) l.length l ∧ Ext w w'
theorem RetShave.mk {l : List (Int × Int)} {w w' : World} {v : Value} (h : w'.ownsRow w.heap.size 68 2 v l.length (l.flatMap shaveC)) (hx : Ext w w') : RetShave l w (.returned v) w' := by
  obtain ⟨A, c, rfl, h1, h2⟩ := own_parts2 h
  exact ⟨A, c, rfl, h1, h, hx⟩
theorem shaveC_eqg (op : BinOp) (x y : Operand) (xs ys : Array Value) (w : World) : (eqGuard op 68 x y (.agg xs) (.agg ys)).run Try.prog w = .ok () w := run_eqGuard_agg w op 68 x y xs ys (by kernel_rfl)
end
section
open Go.RowKit
theorem flat_set {α : Type} {f : α → List Value} {sz : Nat} (hf : ∀ x, (f x).length = sz) (l : List α) (k j : Nat) (x y : α) (v : Value) (h : l[k]? = some x) (hj : j < sz) (hy : f y = (f x).set j v) : (l.flatMap f).set (k * sz + j) v = (l.set k y).flatMap f := by
  obtain ⟨hk, hx⟩ := List.getElem?_eq_some_iff.1 h
  have e : l = l.take k ++ x :: l.drop (k + 1) := by rw [← hx, ← List.drop_eq_getElem_cons hk, List.take_append_drop]
  have hp : (l.take k).length = k := by rw [List.length_take]; omega
  have hq : ((l.take k).flatMap f).length = k * sz := by rw [flat_len hf, hp]
  have e2 : l.set k y = l.take k ++ y :: l.drop (k + 1) := by
    rw [List.set_eq_take_append_cons_drop, if_pos hk]
  rw [e2]
  generalize l.take k = a at *
  generalize l.drop (k + 1) = b at *
  subst e
  rw [List.flatMap_append, List.flatMap_append, ← hq, List.set_append_right _ _ (by omega), Nat.add_sub_cancel_left, List.flatMap_cons, List.flatMap_cons, List.set_append_left _ _ (by rw [hf]; exact hj), hy]
/-- the row reads as l with x at k -/
def Cur {α : Type} (e : TypeId) (f : α → List Value) (sz : Nat) (w : World) (base g n c : Nat) (l : List α) (k : Nat) (x : α) : Prop :=
  w.ownsRow base e sz (.slice (some ⟨g, 0, none⟩) n c) n ((l.set k x).flatMap f) ∧ k < l.length ∧ l.length = n
section
variable {α : Type} {e : TypeId} {f : α → List Value} {sz : Nat} {w w' : World} {base g n c k : Nat} {l : List α} {x y : α}
theorem Cur.mk (h : w.ownsRow base e sz (.slice (some ⟨g, 0, none⟩) n c) n (l.flatMap f)) (hk : l[k]? = some x) (hn : l.length = n) : Cur e f sz w base g n c l k x := by
  obtain ⟨h1, h2⟩ := List.getElem?_eq_some_iff.1 hk
  refine ⟨?_, h1, hn⟩
  rw [← h2, List.set_getElem_self]
  exact h
theorem Cur.at_ (h : Cur e f sz w base g n c l k x) : (l.set k x)[k]? = some x := by
  rw [List.getElem?_set_self h.2.1]
theorem Cur.lt (hf : ∀ x, (f x).length = sz) (h : Cur e f sz w base g n c l k x) {j : Nat} (hj : j < sz) : k * sz + j < n * sz := by
  have h1 := h.2.1
  have h2 := h.2.2
  have : (k + 1) * sz ≤ n * sz := Nat.mul_le_mul_right _ (by omega)
  rw [Nat.add_mul, Nat.one_mul] at this
  omega
theorem Cur.cell (hf : ∀ x, (f x).length = sz) (h : Cur e f sz w base g n c l k x) {j : Nat} {v : Value} (hj : (f x)[j]? = some v) : w.cell? ⟨g, k * sz + j, none⟩ = some v := by
  have hj2 : j < sz := by have := (List.getElem?_eq_some_iff.1 hj).1; rw [hf] at this; exact this
  rw [World.ownsRow.cellAt h.1 (k * sz + j) (Cur.lt hf h hj2), flat_get hf _ k j x h.at_ hj2]
  exact hj
theorem Cur.froz (h : Cur e f sz w base g n c l k x) (j : Nat) : w.frozen? ⟨g, k * sz + j, none⟩ = false := World.ownsRow.frozenAt h.1 _
theorem Cur.ext (h : Cur e f sz w base g n c l k x) (hx : Ext w w') : Cur e f sz w' base g n c l k x := ⟨own_keep h.1 hx, h.2⟩
theorem Cur.drew (h : Cur e f sz w base g n c l k x) : Cur e f sz w.drew base g n c l k x := h.ext ((Ext.refl w).drew)
theorem Cur.drewN (h : Cur e f sz w base g n c l k x) (m : Nat) : Cur e f sz (w.drewN m) base g n c l k x := h.ext ((Ext.refl w).drewN m)
theorem Cur.put (hf : ∀ x, (f x).length = sz) (h : Cur e f sz w base g n c l k x) (j : Nat) (v : Value) (y : α) (hj : j < sz) (hy : f y = (f x).set j v) : Cur e f sz (w.setCell ⟨g, k * sz + j, none⟩ v) base g n c l k y := by
  have h1 := (World.ownsRow.stored h.1 (k * sz + j) v).1
  rw [flat_set hf _ k j x y v h.at_ hj hy, List.set_set] at h1
  exact ⟨h1, h.2⟩
theorem Cur.own (h : Cur e f sz w base g n c l k x) : w.ownsRow base e sz (.slice (some ⟨g, 0, none⟩) n c) n ((l.set k x).flatMap f) := h.1
end
end
section
open Go.RowKit Go.ChangeShapes Go.WideShapes Go.Deep Go.Joins
/-- what backed a validator at a height -/
def bkE (x : (Int × Int × Int × Int × Int × Int × Int × Int)) (v h : Int) : Bool := bkdB x.2.1 x.2.2.1 x.2.2.2.1 x.2.2.2.2.1 v h x.2.2.2.2.2.1
/-- an entry behind a cut -/
def cutX (x : (Int × Int × Int × Int × Int × Int × Int × Int)) (p : Int) : (Int × Int × Int × Int × Int × Int × Int × Int) := (x.1, x.2.1, x.2.2.1, x.2.2.2.1, x.2.2.2.2.1, x.2.2.2.2.2.1, x.2.2.2.2.2.2.1, baE x - prt (baE x) p)
def cutL (l : List (Int × Int × Int × Int × Int × Int × Int × Int)) (v h p : Int) : Nat → List (Int × Int × Int × Int × Int × Int × Int × Int)
  | 0 => l
  | k + 1 => match l[k]? with
    | some x => if bkE x v h = true then (cutL l v h p k).set k (cutX x p) else cutL l v h p k
    | none => cutL l v h p k
def cutS (l : List (Int × Int × Int × Int × Int × Int × Int × Int)) (v h p : Int) : Nat → List (Int × Int)
  | 0 => []
  | k + 1 => match l[k]? with
    | some x => if bkE x v h = true then cutS l v h p k ++ [((k : Int), prt (baE x) p)] else cutS l v h p k
    | none => cutS l v h p k
def cutA (l : List (Int × Int × Int × Int × Int × Int × Int × Int)) (v h p : Int) : Nat → Int
  | 0 => 0
  | k + 1 => match l[k]? with
    | some x => if bkE x v h = true then cutA l v h p k + prt (baE x) p else cutA l v h p k
    | none => cutA l v h p k
theorem cutL_len (l : List (Int × Int × Int × Int × Int × Int × Int × Int)) (v h p : Int) : ∀ k, (cutL l v h p k).length = l.length
  | 0 => rfl
  | k + 1 => by
    have := cutL_len l v h p k
    unfold cutL
    split
    · split
      · rw [List.length_set]; exact this
      · exact this
    · exact this
theorem cutL_get (l : List (Int × Int × Int × Int × Int × Int × Int × Int)) (v h p : Int) : ∀ (k : Nat) {j : Nat}, k ≤ j → (cutL l v h p k)[j]? = l[j]?
  | 0, j, _ => rfl
  | k + 1, j, hj => by
    have := cutL_get l v h p k (j := j) (by omega)
    unfold cutL
    split
    · split
      · rw [List.getElem?_set_ne (by omega)]; exact this
      · exact this
    · exact this
theorem cutS_len (l : List (Int × Int × Int × Int × Int × Int × Int × Int)) (v h p : Int) : ∀ k, (cutS l v h p k).length ≤ k
  | 0 => Nat.le_refl _
  | k + 1 => by
    have := cutS_len l v h p k
    unfold cutS
    split
    · split
      · rw [List.length_append, List.length_singleton]; omega
      · omega
    · omega
theorem cutA_bound {l : List (Int × Int × Int × Int × Int × Int × Int × Int)} (hf : ∀ x ∈ l, FitsQ x) (v h : Int) {p : Int} (h0 : 0 ≤ p) (hp : p ≤ 1000000000) : ∀ k, 0 ≤ cutA l v h p k ∧ cutA l v h p k ≤ totB (l.take k)
  | 0 => by simp [cutA, totB]
  | k + 1 => by
    obtain ⟨h1, h2⟩ := cutA_bound hf v h h0 hp k
    unfold cutA
    rcases e : l[k]? with _ | x
    · have e2 : l.take (k + 1) = l.take k := by rw [List.take_add_one, e]; simp
      simp only
      rw [e2]
      exact ⟨h1, h2⟩
    · have hx := (hf x (List.mem_of_getElem? e)).ba
      obtain ⟨b1, b2, _⟩ := prt_bounds hx.1 h0 hp
      have := totB_take e
      simp only
      split <;> omega
theorem cut_t {l : List (Int × Int × Int × Int × Int × Int × Int × Int)} {v h p : Int} {k : Nat} {x : (Int × Int × Int × Int × Int × Int × Int × Int)} (hx : l[k]? = some x) (hb : bkE x v h = true) : cutL l v h p (k + 1) = (cutL l v h p k).set k (cutX x p) ∧ cutS l v h p (k + 1) = cutS l v h p k ++ [((k : Int), prt (baE x) p)] ∧ cutA l v h p (k + 1) = cutA l v h p k + prt (baE x) p := by
  refine ⟨?_, ?_, ?_⟩
  · rw [cutL, hx]; simp [hb]
  · rw [cutS, hx]; simp [hb]
  · rw [cutA, hx]; simp [hb]
theorem cut_f {l : List (Int × Int × Int × Int × Int × Int × Int × Int)} {v h p : Int} {k : Nat} {x : (Int × Int × Int × Int × Int × Int × Int × Int)} (hx : l[k]? = some x) (hb : bkE x v h = false) : cutL l v h p (k + 1) = cutL l v h p k ∧ cutS l v h p (k + 1) = cutS l v h p k ∧ cutA l v h p (k + 1) = cutA l v h p k := by
  refine ⟨?_, ?_, ?_⟩
  · rw [cutL, hx]; simp [hb]
  · rw [cutS, hx]; simp [hb]
  · rw [cutA, hx]; simp [hb]
/-- why there is no cut -/
def cutG (e1 v p : Int) (b : Bool) : Int := if e1 ≠ 0 then e1 else if v < 0 then 3 else if 32 ≤ v then 3 else if b = false then 3 else if 1000000000 < p then 3 else 0
def cutE (l : List (Int × Int × Int × Int × Int × Int × Int × Int)) (v h p : Int) : Int := cutG (chkQ l).1 v p (decide (1 ≤ h) && decide (h ≤ 4294967296))
/-- what a cut tells: the entries, the shaves, the sum, why not -/
def cutV (l : List (Int × Int × Int × Int × Int × Int × Int × Int)) (v h p : Int) : List (Int × Int × Int × Int × Int × Int × Int × Int) × List (Int × Int) × Int × Int := if cutE l v h p = 0 then (cutL l v h p l.length, cutS l v h p l.length, cutA l v h p l.length, 0) else ([], [], 0, cutE l v h p)
/-- entries and shaves handed back, apart from each other -/
def RetCut (r : List (Int × Int × Int × Int × Int × Int × Int × Int)) (s : List (Int × Int)) (u er : Int) (w : World) (e : Ending) (w' : World) : Prop := ∃ A1 c1 A2 c2, e = .returned (.tuple #[.slice A1 r.length c1, .slice A2 s.length c2, .int .u64 u, .int .i64 er]) ∧ (A1 = none → c1 = 0) ∧ (A2 = none → c2 = 0) ∧
  OwnEnt w' w.heap.size (.slice A1 r.length c1) r.length r ∧ OwnShave w' w.heap.size (.slice A2 s.length c2) s.length s ∧ (∀ b o s b' o' s', A1 = some ⟨b, o, s⟩ → A2 = some ⟨b', o', s'⟩ → b ≠ b') ∧ Ext w w'
theorem RetCut.nil {er : Int} {w w' : World} (hx : Ext w w') : RetCut [] [] 0 er w (.returned (.tuple #[.slice none 0 0, .slice none 0 0, .int .u64 0, .int .i64 er])) w' :=
  ⟨none, 0, none, 0, rfl, fun _ => rfl, fun _ => rfl, OwnEnt.nil _ _, World.ownsRow_nil _ _ _ _, (fun b o s b' o' s' h => by cases h), hx⟩
theorem RetCut.mk {r : List (Int × Int × Int × Int × Int × Int × Int × Int)} {s : List (Int × Int)} {A1 : Option Addr} {n c1 B : Nat} {u : Int} {v : Value} {w w' : World} (h : OwnEnt w' w.heap.size (.slice A1 n c1) n r) (hs : OwnShave w' B v s.length s) (hB : w.heap.size ≤ B) (hA : ∀ b o s, A1 = some ⟨b, o, s⟩ → b < B) (hn : n = r.length) (hx : Ext w w') : RetCut r s u 0 w (.returned (.tuple #[.slice A1 n c1, v, .int .u64 u, .int .i64 0])) w' := by
  subst hn
  obtain ⟨A, c, h0, h1, h2⟩ := own_parts2 h
  injection h0 with h3 h4 h5
  subst h3; subst h5
  obtain ⟨A2, c2, rfl, h6, h7⟩ := own_parts2 hs
  exact ⟨A1, c1, A2, c2, rfl, h1, h6, h, own_lower hs hB, fun b o s b' o' s' e1 e2 => by have := hA b o s e1; have := (OwnShave.in_ hs b' o' s' e2).1; omega, hx⟩
theorem OwnEnt.box {w : World} {base n c : Nat} {A : Option Addr} {l : List (Int × Int × Int × Int × Int × Int × Int × Int)} (h : OwnEnt w base (.slice A n c) n l) (hk : 0 < n) : ∃ g, A = some ⟨g, 0, none⟩ ∧ base ≤ g ∧ g < w.heap.size := by
  rcases h.2 with ⟨h', h0⟩ | ⟨g, cap, cur, h', hbg, _⟩
  · exfalso
    injection h' with h1 h2 h3
    omega
  · injection h' with h1 h2 h3
    subst h1; subst h3
    exact ⟨g, rfl, hbg, (World.ownsRow.lt h g rfl).2⟩
theorem shave_infoP : ∃ i0, Try.prog.info? 68 = some i0 ∧ i0.zero = some (.agg #[.int .i64 0, .int .u64 0]) ∧ i0.size = 2 ∧ i0.bytes = 16 := info_parts shave_info
end
end Go.Proofs.Ytnbeejgppooamaa
