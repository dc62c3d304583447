/- What the law Qby rests on, part 2 of 8: Q1, StampB, Ref12C, StampD, StampE, Q2, Div, FixSpec, FixP, FixF, FixRefF, AppTwo, Q3, Q4, Q5. Conditions stand in each lemma. -/
import Derived.WalkKit
import Derived.Deep.QuietTactic
import Derived.Deep.Draws
import Derived.Laws.OwnMore
import Derived.Laws.AppendOwn
import Derived.OwnWalk
import Derived.RangeFuncBox
import Derived.RangeFuncLeaves
import Derived.Shelf.Abstract
import Derived.OwnWalkIn
import Derived.TacticsInMore
import Derived.LoopNIn
import Derived.LoopIn
import Derived.Maps.AppendAt
import Derived.Test.YtnbeejgppooamaaGreatRows
import Derived.Lib.Hide
import Derived.Deep.Onto
import Derived.ProofKit
import Derived.ChangeOld
import Derived.OpenShut
import Derived.Deep.Slices
import Derived.BigQuiet
import Derived.IntWalk
import Derived.Lib.SliceRun
import Derived.Deep.LoopGhost
import Derived.WalkSpells
import Derived.WalkLawsBesides
import Derived.Deep.RegionHeld3
import Derived.Lib.SmallJoins
import Derived.ArgAppend
import Derived.Test.YtnbeejgppooamaaGreatShelf
import Derived.Test.YtnbeejgppooamaaGreatDivNorm
import Derived.Deep.DeepCutAuto
import Derived.Deep.CutBlock
import Derived.Shelf.Spec.BitsCarry
import Derived.Test.YtnbeejgppooamaaGreatFixRefMath
import Derived.Test.YtnbeejgppooamaaGreatFixDivideMath
import Derived.WalkMore
import Derived.Laws.StructEq
import Derived.Laws.BytesArg
import Derived.Test.YtnbeejgppooamaaGreatSlQby1
set_option linter.unusedVariables false
set_option linter.unusedSimpArgs false
namespace Go.Proofs.YtnbeejgppooamaaGreat
section
open Go.RowKit Go.ChangeShapes Go.WideShapes Go.Deep Go.Joins
/-- why an entry may not be, behind one that was created at a: its owner, what its stamp's check tells, when it was created, its stamp's since, what it had and has -/
def oneG (xo E xc xs a xi xb : Int) : Int := if xo < 0 then 3 else if 64 ≤ xo then 3 else if E ≠ 0 then 3 else if xc < 1 then 3 else if 4294967296 < xc then 3 else if xc < xs then 9 else if xc < a then 9 else if xi = 0 then 14 else if xi < xb then 11 else 0
def oneQ (x : (Int × Int × Int × Int × Int × Int × Int × Int)) (a : Int) : Int := oneG x.1 (chkS x.2.1 x.2.2.1 x.2.2.2.1 x.2.2.2.2.1) x.2.2.2.2.2.1 x.2.2.1 a x.2.2.2.2.2.2.1 x.2.2.2.2.2.2.2
/-- when an entry was created; when the last one was -/
def crE (x : (Int × Int × Int × Int × Int × Int × Int × Int)) : Int := x.2.2.2.2.2.1
def baE (x : (Int × Int × Int × Int × Int × Int × Int × Int)) : Int := x.2.2.2.2.2.2.2
def lastQ (l : List (Int × Int × Int × Int × Int × Int × Int × Int)) : Int := (l.getLast?.map crE).getD 0
theorem lastQ_snoc (l : List (Int × Int × Int × Int × Int × Int × Int × Int)) (x : (Int × Int × Int × Int × Int × Int × Int × Int)) : lastQ (l ++ [x]) = crE x := by unfold lastQ; simp
theorem lastQ_take {l : List (Int × Int × Int × Int × Int × Int × Int × Int)} {k : Nat} {x : (Int × Int × Int × Int × Int × Int × Int × Int)} (h : l[k]? = some x) : lastQ (l.take (k + 1)) = crE x := by
  rw [List.take_add_one, h]
  exact lastQ_snoc _ _
theorem lastQ_at {l : List (Int × Int × Int × Int × Int × Int × Int × Int)} {n : Nat} {x : (Int × Int × Int × Int × Int × Int × Int × Int)} (hl : l.length = n + 1) (h : l[n]? = some x) : lastQ l = crE x := by
  have := lastQ_take h
  rwa [List.take_of_length_le (by omega)] at this
theorem oneG_cases {xo E xc xs a xi xb : Int} (h : oneG xo E xc xs a xi xb = 0) : 0 ≤ xo ∧ xo < 64 ∧ E = 0 ∧ 1 ≤ xc ∧ xc ≤ 4294967296 ∧ xs ≤ xc ∧ a ≤ xc ∧ xi ≠ 0 ∧ xb ≤ xi := by
  unfold oneG at h
  repeat' split at h
  all_goals first | omega | skip
  all_goals (exfalso; revert h; decide)
set_option maxRecDepth 100000 in
set_option maxHeartbeats 4000000 in
theorem qheight_any (h : Int) (b : Bool) (hb : b = (decide (1 ≤ h) && decide (h ≤ 4294967296))) (w : World) : Calls Tryz.prog 74 #[.int .i64 h] w fun e w' => e = .returned (.bool b) ∧ w = w' := by
  subst hb
  by_cases h1 : 1 ≤ h <;> by_cases h2 : h ≤ 4294967296
  all_goals
    go_enter Tryz.func74, Tryz.ntmps74
    go_wp2
    go_ret
    exact ⟨by simp [h1, h2], rfl⟩
set_option maxRecDepth 100000 in
set_option maxHeartbeats 4000000 in
theorem r14height_any (h : Int) (b : Bool) (hb : b = (decide (1 ≤ h) && decide (h ≤ 4294967296))) (w : World) : Calls Tryz.prog 79 #[.int .i64 h] w fun e w' => e = .returned (.bool b) ∧ w = w' := by
  subst hb
  by_cases h1 : 1 ≤ h <;> by_cases h2 : h ≤ 4294967296
  all_goals
    go_enter Tryz.func79, Tryz.ntmps79
    go_wp2
    go_ret
    exact ⟨by simp [h1, h2], rfl⟩
set_option maxRecDepth 100000 in
set_option maxHeartbeats 4000000 in
theorem qone_any (xo xv xs xp xf xc xi xb E a : Int) (A : Option Addr) (n c : Nat) (l : List (Int × Int × Int × Int × Int × Int × Int × Int)) (w : World) (hE : chkS xv xs xp xf = E) (hs : Sl w 8 A n c (l.flatMap entC)) (ha : lastQ l = a) :
    Calls Tryz.prog 38 #[.agg #[.int .i64 xo, .int .i64 xv, .int .i64 xs, .int .i64 xp, .int .i64 xf, .int .i64 xc, .int .u64 xi, .int .u64 xb], .slice A n c] w fun e w' => e = .returned (.int .i64 (oneG xo E xc xs a xi xb)) ∧ Ext w w' := by
  have hll := hs.rlen entC_len (by decide)
  have hsm := hs.small
  have CE := Lib.hid (fun w => tCheck_any xv xs xp xf w)
  rw [hE] at CE
  have CH := Lib.hid (fun w => qheight_any xc _ rfl w)
  clear hE
  by_cases hc : 1 ≤ xc ∧ xc ≤ 4294967296
  · rw [show (decide (1 ≤ xc) && decide (xc ≤ 4294967296)) = true from by simp; omega] at CH
    by_cases hz : n = 0
    · have hnl : n = 0 := by omega
      subst hnl
      have ha0 : a = 0 := by rw [← ha, List.eq_nil_of_length_eq_zero hll]; rfl
      have q6 : ¬ xc < a := by omega
      clear hll ha hs
      go_enter Tryz.func38, Tryz.ntmps38
      by_cases q1 : xo < 0
      · go_wp2_with fail
        go_ret
        exact ⟨ret_int (by unfold oneG; (repeat' split) <;> omega), (by repeat (first | with_reducible exact Ext.refl w | with_reducible refine Ext.drew ?_ | with_reducible refine Ext.drewN ?_ _ | with_reducible refine Ext.alloc ?_ _ | with_reducible refine Ext.setCell ?_ (by first | omega | (simp; done) | (simp; omega)) _))⟩
      · by_cases q2 : 64 ≤ xo
        · go_wp2_with fail
          go_ret
          exact ⟨ret_int (by unfold oneG; (repeat' split) <;> omega), (by repeat (first | with_reducible exact Ext.refl w | with_reducible refine Ext.drew ?_ | with_reducible refine Ext.drewN ?_ _ | with_reducible refine Ext.alloc ?_ _ | with_reducible refine Ext.setCell ?_ (by first | omega | (simp; done) | (simp; omega)) _))⟩
        · by_cases q3 : ¬ E = 0
          · have q3b : (E != 0) = true := by simp [q3]
            go_wp2_with fail
            (with_reducible refine (CE.out _).mono ?_)
            rintro e w1 ⟨rfl, hx1⟩
            have c0_2 : w1.cell? ⟨w.heap.size, 2, none⟩ = some (.int .i64 xs) := hx1.has (by first | fail | (simp [go_sem, World.cell?_alloc_past]; done))
            have c0_5 : w1.cell? ⟨w.heap.size, 5, none⟩ = some (.int .i64 xc) := hx1.has (by first | fail | (simp [go_sem, World.cell?_alloc_past]; done))
            have c0_6 : w1.cell? ⟨w.heap.size, 6, none⟩ = some (.int .u64 xi) := hx1.has (by first | fail | (simp [go_sem, World.cell?_alloc_past]; done))
            have c0_7 : w1.cell? ⟨w.heap.size, 7, none⟩ = some (.int .u64 xb) := hx1.has (by first | fail | (simp [go_sem, World.cell?_alloc_past]; done))
            have z1 := hx1.size
            try simp at z1
            have rc0 : w.heap.size < w1.heap.size := by omega
            have rc0a : w.heap.size < w1.heap.size + 1 := by omega
            have rc0b : w.heap.size < w1.heap.size + 1 + 1 := by omega
            have rc0c : w.heap.size < w1.heap.size + 1 + 1 + 1 := by omega
            have rc0n : ¬ w.heap.size = w1.heap.size := by omega
            have X1 : Hid (Ext w w1) := Lib.hid (Ext.trans (by repeat (first | with_reducible exact Ext.refl w | with_reducible refine Ext.drew ?_ | with_reducible refine Ext.drewN ?_ _ | with_reducible refine Ext.alloc ?_ _ | with_reducible refine Ext.setCell ?_ (by first | omega | (simp; done) | (simp; omega)) _)) hx1)
            clear hx1 z1
            go_wp2_with fail
            go_ret
            exact ⟨ret_int (by unfold oneG; (repeat' split) <;> omega), (by repeat (first | with_reducible exact X1.out | with_reducible refine Ext.drew ?_ | with_reducible refine Ext.drewN ?_ _ | with_reducible refine Ext.alloc ?_ _ | with_reducible refine Ext.setCell ?_ (by first | omega | (simp; done) | (simp; omega)) _))⟩
          · have q3b : (E != 0) = false := by simpa using q3
            go_wp2_with fail
            (with_reducible refine (CE.out _).mono ?_)
            rintro e w1 ⟨rfl, hx1⟩
            have c0_2 : w1.cell? ⟨w.heap.size, 2, none⟩ = some (.int .i64 xs) := hx1.has (by first | fail | (simp [go_sem, World.cell?_alloc_past]; done))
            have c0_5 : w1.cell? ⟨w.heap.size, 5, none⟩ = some (.int .i64 xc) := hx1.has (by first | fail | (simp [go_sem, World.cell?_alloc_past]; done))
            have c0_6 : w1.cell? ⟨w.heap.size, 6, none⟩ = some (.int .u64 xi) := hx1.has (by first | fail | (simp [go_sem, World.cell?_alloc_past]; done))
            have c0_7 : w1.cell? ⟨w.heap.size, 7, none⟩ = some (.int .u64 xb) := hx1.has (by first | fail | (simp [go_sem, World.cell?_alloc_past]; done))
            have z1 := hx1.size
            try simp at z1
            have rc0 : w.heap.size < w1.heap.size := by omega
            have rc0a : w.heap.size < w1.heap.size + 1 := by omega
            have rc0b : w.heap.size < w1.heap.size + 1 + 1 := by omega
            have rc0c : w.heap.size < w1.heap.size + 1 + 1 + 1 := by omega
            have rc0n : ¬ w.heap.size = w1.heap.size := by omega
            have X1 : Hid (Ext w w1) := Lib.hid (Ext.trans (by repeat (first | with_reducible exact Ext.refl w | with_reducible refine Ext.drew ?_ | with_reducible refine Ext.drewN ?_ _ | with_reducible refine Ext.alloc ?_ _ | with_reducible refine Ext.setCell ?_ (by first | omega | (simp; done) | (simp; omega)) _)) hx1)
            clear hx1 z1
            go_wp2_with fail
            (with_reducible refine (CH.out _).mono ?_)
            rintro e w_1 ⟨rfl, rfl⟩
            by_cases q5 : xc < xs
            · have d5 : decide (xc < xs) = true := decide_eq_true q5
              go_wp2_with fail
              refine wp_region_held_drew (S := fun w' => w'.cell? ⟨w.heap.size, 2, none⟩ = some (.int .i64 xs) ∧ w'.cell? ⟨w.heap.size, 5, none⟩ = some (.int .i64 xc)) (by kernel_rfl) (by first | exact ⟨c0_2, c0_5⟩ | (simp [go_sem, World.cell?_alloc_past, c0_2, c0_5, c0_6, c0_7, rc0, rc0a, rc0b, rc0c, rc0n]; done)) (fun hHeld => ?_)
              (refine' take_in 0 rfl (by kernel_rfl) (by kernel_rfl) (by kernel_rfl) (fun _ _ _ h => h) (by rfl) (by assumption) ?_ ?_; rotate_left; focus (intro w hSw; (try dsimp only at hSw); go_simp; try with_reducible rfl)); try simp only [Act.put, List.setIfInBounds_toArray, List.set_cons_zero, List.set_cons_succ]
              (refine' take_in 1 rfl (by kernel_rfl) (by kernel_rfl) (by kernel_rfl) (fun _ _ _ h => h) (by rfl) (by assumption) ?_ ?_; rotate_left; focus (intro w hSw; (try dsimp only at hSw); go_simp; try with_reducible rfl)); try simp only [Act.put, List.setIfInBounds_toArray, List.set_cons_zero, List.set_cons_succ]
              (refine' take_in 2 rfl (by kernel_rfl) (by kernel_rfl) (by kernel_rfl) (fun _ _ _ h => h) (by rfl) (by assumption) ?_ ?_; rotate_left; focus (intro w hSw; (try dsimp only at hSw); go_simp; try with_reducible rfl)); try simp only [Act.put, List.setIfInBounds_toArray, List.set_cons_zero, List.set_cons_succ]
              (refine' take_in 3 rfl (by kernel_rfl) (by kernel_rfl) (by kernel_rfl) (fun _ _ _ h => h) (by rfl) (by assumption) ?_ ?_; rotate_left; focus (intro w hSw; (try dsimp only at hSw); go_simp; try with_reducible rfl)); try simp only [Act.put, List.setIfInBounds_toArray, List.set_cons_zero, List.set_cons_succ]
              (refine' take_in 4 rfl (by kernel_rfl) (by kernel_rfl) (by kernel_rfl) (fun _ _ _ h => h) (by rfl) (by assumption) ?_ ?_; rotate_left; focus (intro w hSw; (try dsimp only at hSw); go_simp; try with_reducible rfl)); try simp only [Act.put, List.setIfInBounds_toArray, List.set_cons_zero, List.set_cons_succ]
              (refine' take_in 5 rfl (by kernel_rfl) (by kernel_rfl) (by kernel_rfl) (fun _ _ _ h => h) (by rfl) (by assumption) ?_ ?_; rotate_left; focus (intro w hSw; (try dsimp only at hSw); go_simp; try with_reducible rfl)); try simp only [Act.put, List.setIfInBounds_toArray, List.set_cons_zero, List.set_cons_succ]
              (refine' take_in 6 rfl (by kernel_rfl) (by kernel_rfl) (by kernel_rfl) (fun _ _ _ h => h) (by rfl) (by assumption) ?_ ?_; rotate_left; focus (intro w hSw; (try dsimp only at hSw); go_simp; try with_reducible rfl)); try simp only [Act.put, List.setIfInBounds_toArray, List.set_cons_zero, List.set_cons_succ]
              (refine' skip_in 7 rfl (by kernel_rfl) (by kernel_rfl) (by kernel_rfl) (fun _ _ _ h => h) (by rfl) (by assumption) ?_); try simp only [Act.put, List.setIfInBounds_toArray, List.set_cons_zero, List.set_cons_succ]
              (refine' skip_in 8 rfl (by kernel_rfl) (by kernel_rfl) (by kernel_rfl) (fun _ _ _ h => h) (by rfl) (by assumption) ?_); try simp only [Act.put, List.setIfInBounds_toArray, List.set_cons_zero, List.set_cons_succ]
              (refine' skip_in 9 rfl (by kernel_rfl) (by kernel_rfl) (by kernel_rfl) (fun _ _ _ h => h) (by rfl) (by assumption) ?_); try simp only [Act.put, List.setIfInBounds_toArray, List.set_cons_zero, List.set_cons_succ]
              (refine' skip_in 10 rfl (by kernel_rfl) (by kernel_rfl) (by kernel_rfl) (fun _ _ _ h => h) (by rfl) (by assumption) ?_); try simp only [Act.put, List.setIfInBounds_toArray, List.set_cons_zero, List.set_cons_succ]
              (refine' skip_in 11 rfl (by kernel_rfl) (by kernel_rfl) (by kernel_rfl) (fun _ _ _ h => h) (by rfl) (by assumption) ?_); try simp only [Act.put, List.setIfInBounds_toArray, List.set_cons_zero, List.set_cons_succ]
              (refine' skip_in 12 rfl (by kernel_rfl) (by kernel_rfl) (by kernel_rfl) (fun _ _ _ h => h) (by rfl) (by assumption) ?_); try simp only [Act.put, List.setIfInBounds_toArray, List.set_cons_zero, List.set_cons_succ]
              (refine' skip_in 13 rfl (by kernel_rfl) (by kernel_rfl) (by kernel_rfl) (fun _ _ _ h => h) (by rfl) (by assumption) ?_); try simp only [Act.put, List.setIfInBounds_toArray, List.set_cons_zero, List.set_cons_succ]
              (refine' skip_in 14 rfl (by kernel_rfl) (by kernel_rfl) (by kernel_rfl) (fun _ _ _ h => h) (by rfl) (by assumption) ?_); try simp only [Act.put, List.setIfInBounds_toArray, List.set_cons_zero, List.set_cons_succ]
              (refine' skip_in 15 rfl (by kernel_rfl) (by kernel_rfl) (by kernel_rfl) (fun _ _ _ h => h) (by rfl) (by assumption) ?_); try simp only [Act.put, List.setIfInBounds_toArray, List.set_cons_zero, List.set_cons_succ]
              (refine' skip_in 16 rfl (by kernel_rfl) (by kernel_rfl) (by kernel_rfl) (fun _ _ _ h => h) (by rfl) (by assumption) ?_); try simp only [Act.put, List.setIfInBounds_toArray, List.set_cons_zero, List.set_cons_succ]
              (refine' skip_in 17 rfl (by kernel_rfl) (by kernel_rfl) (by kernel_rfl) (fun _ _ _ h => h) (by rfl) (by assumption) ?_); try simp only [Act.put, List.setIfInBounds_toArray, List.set_cons_zero, List.set_cons_succ]
              (refine' skip_in 18 rfl (by kernel_rfl) (by kernel_rfl) (by kernel_rfl) (fun _ _ _ h => h) (by rfl) (by assumption) ?_); try simp only [Act.put, List.setIfInBounds_toArray, List.set_cons_zero, List.set_cons_succ]
              (refine' skip_in 19 rfl (by kernel_rfl) (by kernel_rfl) (by kernel_rfl) (fun _ _ _ h => h) (by rfl) (by assumption) ?_); try simp only [Act.put, List.setIfInBounds_toArray, List.set_cons_zero, List.set_cons_succ]
              (refine' take_in 20 rfl (by kernel_rfl) (by kernel_rfl) (by kernel_rfl) (fun _ _ _ h => h) (by rfl) (by assumption) ?_ ?_; rotate_left; focus (intro w hSw; (try dsimp only at hSw); go_simp; try with_reducible rfl)); try simp only [Act.put, List.setIfInBounds_toArray, List.set_cons_zero, List.set_cons_succ]
              (refine' take_in 21 rfl (by kernel_rfl) (by kernel_rfl) (by kernel_rfl) (fun _ _ _ h => h) (by rfl) (by assumption) ?_ ?_; rotate_left; focus (intro w hSw; (try dsimp only at hSw); go_simp; try with_reducible rfl)); try simp only [Act.put, List.setIfInBounds_toArray, List.set_cons_zero, List.set_cons_succ]
              refine wpAnyH_done (by kernel_rfl) ?_ _
              go_wp2_with fail
              go_ret
              exact ⟨ret_int (by unfold oneG; (repeat' split) <;> omega), (by repeat (first | with_reducible exact X1.out | with_reducible refine Ext.drew ?_ | with_reducible refine Ext.drewN ?_ _ | with_reducible refine Ext.alloc ?_ _ | with_reducible refine Ext.setCell ?_ (by first | omega | (simp; done) | (simp; omega)) _))⟩
            · have d5 : decide (xc < xs) = false := decide_eq_false q5
              go_wp2_with fail
              refine wp_region_held_drew (S := fun w' => w'.cell? ⟨w.heap.size, 2, none⟩ = some (.int .i64 xs) ∧ w'.cell? ⟨w.heap.size, 5, none⟩ = some (.int .i64 xc)) (by kernel_rfl) (by first | exact ⟨c0_2, c0_5⟩ | (simp [go_sem, World.cell?_alloc_past, c0_2, c0_5, c0_6, c0_7, rc0, rc0a, rc0b, rc0c, rc0n]; done)) (fun hHeld => ?_)
              (refine' take_in 0 rfl (by kernel_rfl) (by kernel_rfl) (by kernel_rfl) (fun _ _ _ h => h) (by rfl) (by assumption) ?_ ?_; rotate_left; focus (intro w hSw; (try dsimp only at hSw); go_simp; try with_reducible rfl)); try simp only [Act.put, List.setIfInBounds_toArray, List.set_cons_zero, List.set_cons_succ]
              (refine' take_in 1 rfl (by kernel_rfl) (by kernel_rfl) (by kernel_rfl) (fun _ _ _ h => h) (by rfl) (by assumption) ?_ ?_; rotate_left; focus (intro w hSw; (try dsimp only at hSw); go_simp; try with_reducible rfl)); try simp only [Act.put, List.setIfInBounds_toArray, List.set_cons_zero, List.set_cons_succ]
              (refine' take_in 2 rfl (by kernel_rfl) (by kernel_rfl) (by kernel_rfl) (fun _ _ _ h => h) (by rfl) (by assumption) ?_ ?_; rotate_left; focus (intro w hSw; (try dsimp only at hSw); go_simp; try with_reducible rfl)); try simp only [Act.put, List.setIfInBounds_toArray, List.set_cons_zero, List.set_cons_succ]
              (refine' take_in 3 rfl (by kernel_rfl) (by kernel_rfl) (by kernel_rfl) (fun _ _ _ h => h) (by rfl) (by assumption) ?_ ?_; rotate_left; focus (intro w hSw; (try dsimp only at hSw); go_simp; try with_reducible rfl)); try simp only [Act.put, List.setIfInBounds_toArray, List.set_cons_zero, List.set_cons_succ]
              (refine' take_in 4 rfl (by kernel_rfl) (by kernel_rfl) (by kernel_rfl) (fun _ _ _ h => h) (by rfl) (by assumption) ?_ ?_; rotate_left; focus (intro w hSw; (try dsimp only at hSw); go_simp; try with_reducible rfl)); try simp only [Act.put, List.setIfInBounds_toArray, List.set_cons_zero, List.set_cons_succ]
              (refine' take_in 5 rfl (by kernel_rfl) (by kernel_rfl) (by kernel_rfl) (fun _ _ _ h => h) (by rfl) (by assumption) ?_ ?_; rotate_left; focus (intro w hSw; (try dsimp only at hSw); go_simp; try with_reducible rfl)); try simp only [Act.put, List.setIfInBounds_toArray, List.set_cons_zero, List.set_cons_succ]
              (refine' take_in 6 rfl (by kernel_rfl) (by kernel_rfl) (by kernel_rfl) (fun _ _ _ h => h) (by rfl) (by assumption) ?_ ?_; rotate_left; focus (intro w hSw; (try dsimp only at hSw); go_simp; try with_reducible rfl)); try simp only [Act.put, List.setIfInBounds_toArray, List.set_cons_zero, List.set_cons_succ]
              (refine' take_in 7 rfl (by kernel_rfl) (by kernel_rfl) (by kernel_rfl) (fun _ _ _ h => h) (by rfl) (by assumption) ?_ ?_; rotate_left; focus (intro w hSw; (try dsimp only at hSw); go_simp; try with_reducible rfl)); try simp only [Act.put, List.setIfInBounds_toArray, List.set_cons_zero, List.set_cons_succ]
              (refine' take_in 8 rfl (by kernel_rfl) (by kernel_rfl) (by kernel_rfl) (fun _ _ _ h => h) (by rfl) (by assumption) ?_ ?_; rotate_left; focus (intro w hSw; (try dsimp only at hSw); go_simp; try with_reducible rfl)); try simp only [Act.put, List.setIfInBounds_toArray, List.set_cons_zero, List.set_cons_succ]
              (refine' take_in 9 rfl (by kernel_rfl) (by kernel_rfl) (by kernel_rfl) (fun _ _ _ h => h) (by rfl) (by assumption) ?_ ?_; rotate_left; focus (intro w hSw; (try dsimp only at hSw); go_simp; try with_reducible rfl)); try simp only [Act.put, List.setIfInBounds_toArray, List.set_cons_zero, List.set_cons_succ]
              (refine' skip_in 10 rfl (by kernel_rfl) (by kernel_rfl) (by kernel_rfl) (fun _ _ _ h => h) (by rfl) (by assumption) ?_); try simp only [Act.put, List.setIfInBounds_toArray, List.set_cons_zero, List.set_cons_succ]
              (refine' skip_in 11 rfl (by kernel_rfl) (by kernel_rfl) (by kernel_rfl) (fun _ _ _ h => h) (by rfl) (by assumption) ?_); try simp only [Act.put, List.setIfInBounds_toArray, List.set_cons_zero, List.set_cons_succ]
              (refine' skip_in 12 rfl (by kernel_rfl) (by kernel_rfl) (by kernel_rfl) (fun _ _ _ h => h) (by rfl) (by assumption) ?_); try simp only [Act.put, List.setIfInBounds_toArray, List.set_cons_zero, List.set_cons_succ]
              (refine' skip_in 13 rfl (by kernel_rfl) (by kernel_rfl) (by kernel_rfl) (fun _ _ _ h => h) (by rfl) (by assumption) ?_); try simp only [Act.put, List.setIfInBounds_toArray, List.set_cons_zero, List.set_cons_succ]
              (refine' skip_in 14 rfl (by kernel_rfl) (by kernel_rfl) (by kernel_rfl) (fun _ _ _ h => h) (by rfl) (by assumption) ?_); try simp only [Act.put, List.setIfInBounds_toArray, List.set_cons_zero, List.set_cons_succ]
              (refine' skip_in 15 rfl (by kernel_rfl) (by kernel_rfl) (by kernel_rfl) (fun _ _ _ h => h) (by rfl) (by assumption) ?_); try simp only [Act.put, List.setIfInBounds_toArray, List.set_cons_zero, List.set_cons_succ]
              (refine' skip_in 16 rfl (by kernel_rfl) (by kernel_rfl) (by kernel_rfl) (fun _ _ _ h => h) (by rfl) (by assumption) ?_); try simp only [Act.put, List.setIfInBounds_toArray, List.set_cons_zero, List.set_cons_succ]
              (refine' skip_in 17 rfl (by kernel_rfl) (by kernel_rfl) (by kernel_rfl) (fun _ _ _ h => h) (by rfl) (by assumption) ?_); try simp only [Act.put, List.setIfInBounds_toArray, List.set_cons_zero, List.set_cons_succ]
              (refine' skip_in 18 rfl (by kernel_rfl) (by kernel_rfl) (by kernel_rfl) (fun _ _ _ h => h) (by rfl) (by assumption) ?_); try simp only [Act.put, List.setIfInBounds_toArray, List.set_cons_zero, List.set_cons_succ]
              (refine' take_in 19 rfl (by kernel_rfl) (by kernel_rfl) (by kernel_rfl) (fun _ _ _ h => h) (by rfl) (by assumption) ?_ ?_; rotate_left; focus (intro w hSw; (try dsimp only at hSw); go_simp; try with_reducible rfl)); try simp only [Act.put, List.setIfInBounds_toArray, List.set_cons_zero, List.set_cons_succ]
              (refine' take_in 20 rfl (by kernel_rfl) (by kernel_rfl) (by kernel_rfl) (fun _ _ _ h => h) (by rfl) (by assumption) ?_ ?_; rotate_left; focus (intro w hSw; (try dsimp only at hSw); go_simp; try with_reducible rfl)); try simp only [Act.put, List.setIfInBounds_toArray, List.set_cons_zero, List.set_cons_succ]
              (refine' take_in 21 rfl (by kernel_rfl) (by kernel_rfl) (by kernel_rfl) (fun _ _ _ h => h) (by rfl) (by assumption) ?_ ?_; rotate_left; focus (intro w hSw; (try dsimp only at hSw); go_simp; try with_reducible rfl)); try simp only [Act.put, List.setIfInBounds_toArray, List.set_cons_zero, List.set_cons_succ]
              refine wpAnyH_done (by kernel_rfl) ?_ _
              by_cases q7 : xi = 0
              · have q7b : (xi == 0) = true := by simpa using q7
                go_wp2_with fail
                go_ret
                exact ⟨ret_int (by unfold oneG; (repeat' split) <;> omega), (by repeat (first | with_reducible exact X1.out | with_reducible refine Ext.drew ?_ | with_reducible refine Ext.drewN ?_ _ | with_reducible refine Ext.alloc ?_ _ | with_reducible refine Ext.setCell ?_ (by first | omega | (simp; done) | (simp; omega)) _))⟩
              · have q7b : (xi == 0) = false := by simpa using q7
                by_cases q8 : xi < xb
                · go_wp2_with fail
                  go_ret
                  exact ⟨ret_int (by unfold oneG; (repeat' split) <;> omega), (by repeat (first | with_reducible exact X1.out | with_reducible refine Ext.drew ?_ | with_reducible refine Ext.drewN ?_ _ | with_reducible refine Ext.alloc ?_ _ | with_reducible refine Ext.setCell ?_ (by first | omega | (simp; done) | (simp; omega)) _))⟩
                · go_wp2_with fail
                  go_ret
                  exact ⟨ret_int (by unfold oneG; (repeat' split) <;> omega), (by repeat (first | with_reducible exact X1.out | with_reducible refine Ext.drew ?_ | with_reducible refine Ext.drewN ?_ _ | with_reducible refine Ext.alloc ?_ _ | with_reducible refine Ext.setCell ?_ (by first | omega | (simp; done) | (simp; omega)) _))⟩
    · obtain ⟨N, rfl⟩ : ∃ N, n = N + 1 := ⟨n - 1, by omega⟩
      obtain ⟨b1, o1, rfl, hb1, hc_x⟩ := hs.rec_ entC_len (show 0 < N + 1 from by omega)
      obtain ⟨y, hy⟩ : ∃ x, l[N]? = some x := ⟨_, List.getElem?_eq_getElem (by omega)⟩
      have y_5 := hc_x N y hy 5 _ rfl
      rw [← Nat.add_assoc] at y_5
      rw [show y.2.2.2.2.2.1 = a from by rw [← ha]; exact (lastQ_at hll hy).symm] at y_5
      have hN1 : (N : Int) + 1 - 1 = (N : Int) := by omega
      have hNd : decide ((0 : Int) < (N : Int) + 1) = true := decide_eq_true (by omega)
      have hNp : (0 : Int) < (N : Int) + 1 := by omega
      have hNl : (N : Int) < (N : Int) + 1 := by omega
      have hNl2 : N < N + 1 := by omega
      have hNw : IntKind.i64.wrap (N : Int) = (N : Int) := IntWalk.i64_in _ (by omega)
      have hNw2 : IntKind.i64.wrap ((N : Int) + 1 - 1) = (N : Int) := by rw [hN1]; exact hNw
      have hNs : N ≤ 9223372036854775806 := by omega
      have hbn : ¬ b1 = w.heap.size := by omega
      clear hll ha hs hc_x hy hsm
      go_enter Tryz.func38, Tryz.ntmps38
      by_cases q1 : xo < 0
      · go_wp2_with fail
        go_ret
        exact ⟨ret_int (by unfold oneG; (repeat' split) <;> omega), (by repeat (first | with_reducible exact Ext.refl w | with_reducible refine Ext.drew ?_ | with_reducible refine Ext.drewN ?_ _ | with_reducible refine Ext.alloc ?_ _ | with_reducible refine Ext.setCell ?_ (by first | omega | (simp; done) | (simp; omega)) _))⟩
      · by_cases q2 : 64 ≤ xo
        · go_wp2_with fail
          go_ret
          exact ⟨ret_int (by unfold oneG; (repeat' split) <;> omega), (by repeat (first | with_reducible exact Ext.refl w | with_reducible refine Ext.drew ?_ | with_reducible refine Ext.drewN ?_ _ | with_reducible refine Ext.alloc ?_ _ | with_reducible refine Ext.setCell ?_ (by first | omega | (simp; done) | (simp; omega)) _))⟩
        · by_cases q3 : ¬ E = 0
          · have q3b : (E != 0) = true := by simp [q3]
            go_wp2_with fail
            (with_reducible refine (CE.out _).mono ?_)
            rintro e w1 ⟨rfl, hx1⟩
            replace y_5 : w1.cell? ⟨b1, o1 + N * 8 + 5, none⟩ = some (.int .i64 a) := hx1.has (by first | exact y_5 | (simp [go_sem, World.cell?_alloc_past, y_5, hbn, hb1]; done))
            have c0_2 : w1.cell? ⟨w.heap.size, 2, none⟩ = some (.int .i64 xs) := hx1.has (by first | fail | (simp [go_sem, World.cell?_alloc_past, y_5, hbn, hb1]; done))
            have c0_5 : w1.cell? ⟨w.heap.size, 5, none⟩ = some (.int .i64 xc) := hx1.has (by first | fail | (simp [go_sem, World.cell?_alloc_past, y_5, hbn, hb1]; done))
            have c0_6 : w1.cell? ⟨w.heap.size, 6, none⟩ = some (.int .u64 xi) := hx1.has (by first | fail | (simp [go_sem, World.cell?_alloc_past, y_5, hbn, hb1]; done))
            have c0_7 : w1.cell? ⟨w.heap.size, 7, none⟩ = some (.int .u64 xb) := hx1.has (by first | fail | (simp [go_sem, World.cell?_alloc_past, y_5, hbn, hb1]; done))
            have z1 := hx1.size
            try simp at z1
            have lt_y_c0 : b1 < w.heap.size := by omega
            have ne_y_c0 : ¬ b1 = w.heap.size := by omega
            have ne_c0_y : ¬ w.heap.size = b1 := by omega
            have ry : b1 < w1.heap.size := by omega
            have rya : b1 < w1.heap.size + 1 := by omega
            have ryb : b1 < w1.heap.size + 1 + 1 := by omega
            have ryc : b1 < w1.heap.size + 1 + 1 + 1 := by omega
            have ryn : ¬ b1 = w1.heap.size := by omega
            have rc0 : w.heap.size < w1.heap.size := by omega
            have rc0a : w.heap.size < w1.heap.size + 1 := by omega
            have rc0b : w.heap.size < w1.heap.size + 1 + 1 := by omega
            have rc0c : w.heap.size < w1.heap.size + 1 + 1 + 1 := by omega
            have rc0n : ¬ w.heap.size = w1.heap.size := by omega
            have X1 : Hid (Ext w w1) := Lib.hid (Ext.trans (by repeat (first | with_reducible exact Ext.refl w | with_reducible refine Ext.drew ?_ | with_reducible refine Ext.drewN ?_ _ | with_reducible refine Ext.alloc ?_ _ | with_reducible refine Ext.setCell ?_ (by first | omega | (simp; done) | (simp; omega)) _)) hx1)
            clear hx1 z1
            go_wp2_with fail
            go_ret
            exact ⟨ret_int (by unfold oneG; (repeat' split) <;> omega), (by repeat (first | with_reducible exact X1.out | with_reducible refine Ext.drew ?_ | with_reducible refine Ext.drewN ?_ _ | with_reducible refine Ext.alloc ?_ _ | with_reducible refine Ext.setCell ?_ (by first | omega | (simp; done) | (simp; omega)) _))⟩
          · have q3b : (E != 0) = false := by simpa using q3
            go_wp2_with fail
            (with_reducible refine (CE.out _).mono ?_)
            rintro e w1 ⟨rfl, hx1⟩
            replace y_5 : w1.cell? ⟨b1, o1 + N * 8 + 5, none⟩ = some (.int .i64 a) := hx1.has (by first | exact y_5 | (simp [go_sem, World.cell?_alloc_past, y_5, hbn, hb1]; done))
            have c0_2 : w1.cell? ⟨w.heap.size, 2, none⟩ = some (.int .i64 xs) := hx1.has (by first | fail | (simp [go_sem, World.cell?_alloc_past, y_5, hbn, hb1]; done))
            have c0_5 : w1.cell? ⟨w.heap.size, 5, none⟩ = some (.int .i64 xc) := hx1.has (by first | fail | (simp [go_sem, World.cell?_alloc_past, y_5, hbn, hb1]; done))
            have c0_6 : w1.cell? ⟨w.heap.size, 6, none⟩ = some (.int .u64 xi) := hx1.has (by first | fail | (simp [go_sem, World.cell?_alloc_past, y_5, hbn, hb1]; done))
            have c0_7 : w1.cell? ⟨w.heap.size, 7, none⟩ = some (.int .u64 xb) := hx1.has (by first | fail | (simp [go_sem, World.cell?_alloc_past, y_5, hbn, hb1]; done))
            have z1 := hx1.size
            try simp at z1
            have lt_y_c0 : b1 < w.heap.size := by omega
            have ne_y_c0 : ¬ b1 = w.heap.size := by omega
            have ne_c0_y : ¬ w.heap.size = b1 := by omega
            have ry : b1 < w1.heap.size := by omega
            have rya : b1 < w1.heap.size + 1 := by omega
            have ryb : b1 < w1.heap.size + 1 + 1 := by omega
            have ryc : b1 < w1.heap.size + 1 + 1 + 1 := by omega
            have ryn : ¬ b1 = w1.heap.size := by omega
            have rc0 : w.heap.size < w1.heap.size := by omega
            have rc0a : w.heap.size < w1.heap.size + 1 := by omega
            have rc0b : w.heap.size < w1.heap.size + 1 + 1 := by omega
            have rc0c : w.heap.size < w1.heap.size + 1 + 1 + 1 := by omega
            have rc0n : ¬ w.heap.size = w1.heap.size := by omega
            have X1 : Hid (Ext w w1) := Lib.hid (Ext.trans (by repeat (first | with_reducible exact Ext.refl w | with_reducible refine Ext.drew ?_ | with_reducible refine Ext.drewN ?_ _ | with_reducible refine Ext.alloc ?_ _ | with_reducible refine Ext.setCell ?_ (by first | omega | (simp; done) | (simp; omega)) _)) hx1)
            clear hx1 z1
            go_wp2_with fail
            (with_reducible refine (CH.out _).mono ?_)
            rintro e w_1 ⟨rfl, rfl⟩
            by_cases q5 : xc < xs
            · have d5 : decide (xc < xs) = true := decide_eq_true q5
              go_wp2_with fail
              refine wp_region_held_drew (S := fun w' => w'.cell? ⟨w.heap.size, 2, none⟩ = some (.int .i64 xs) ∧ w'.cell? ⟨w.heap.size, 5, none⟩ = some (.int .i64 xc) ∧ w'.cell? ⟨b1, o1 + N * 8 + 5, none⟩ = some (.int .i64 a)) (by kernel_rfl) (by first | exact ⟨c0_2, c0_5, y_5⟩ | (simp [go_sem, World.cell?_alloc_past, y_5, c0_2, c0_5, c0_6, c0_7, ne_y_c0, ne_c0_y, ry, rya, ryb, ryc, ryn, rc0, rc0a, rc0b, rc0c, rc0n, hbn, hb1]; done)) (fun hHeld => ?_)
              (refine' take_in 0 rfl (by kernel_rfl) (by kernel_rfl) (by kernel_rfl) (fun _ _ _ h => h) (by rfl) (by assumption) ?_ ?_; rotate_left; focus (intro w hSw; (try dsimp only at hSw); go_simp; try with_reducible rfl)); try simp only [Act.put, List.setIfInBounds_toArray, List.set_cons_zero, List.set_cons_succ]
              (refine' take_in 1 rfl (by kernel_rfl) (by kernel_rfl) (by kernel_rfl) (fun _ _ _ h => h) (by rfl) (by assumption) ?_ ?_; rotate_left; focus (intro w hSw; (try dsimp only at hSw); go_simp; try with_reducible rfl)); try simp only [Act.put, List.setIfInBounds_toArray, List.set_cons_zero, List.set_cons_succ]
              (refine' take_in 2 rfl (by kernel_rfl) (by kernel_rfl) (by kernel_rfl) (fun _ _ _ h => h) (by rfl) (by assumption) ?_ ?_; rotate_left; focus (intro w hSw; (try dsimp only at hSw); go_simp; try with_reducible rfl)); try simp only [Act.put, List.setIfInBounds_toArray, List.set_cons_zero, List.set_cons_succ]
              (refine' take_in 3 rfl (by kernel_rfl) (by kernel_rfl) (by kernel_rfl) (fun _ _ _ h => h) (by rfl) (by assumption) ?_ ?_; rotate_left; focus (intro w hSw; (try dsimp only at hSw); go_simp; try with_reducible rfl)); try simp only [Act.put, List.setIfInBounds_toArray, List.set_cons_zero, List.set_cons_succ]
              (refine' take_in 4 rfl (by kernel_rfl) (by kernel_rfl) (by kernel_rfl) (fun _ _ _ h => h) (by rfl) (by assumption) ?_ ?_; rotate_left; focus (intro w hSw; (try dsimp only at hSw); go_simp; try with_reducible rfl)); try simp only [Act.put, List.setIfInBounds_toArray, List.set_cons_zero, List.set_cons_succ]
              (refine' take_in 5 rfl (by kernel_rfl) (by kernel_rfl) (by kernel_rfl) (fun _ _ _ h => h) (by rfl) (by assumption) ?_ ?_; rotate_left; focus (intro w hSw; (try dsimp only at hSw); go_simp; try with_reducible rfl)); try simp only [Act.put, List.setIfInBounds_toArray, List.set_cons_zero, List.set_cons_succ]
              (refine' take_in 6 rfl (by kernel_rfl) (by kernel_rfl) (by kernel_rfl) (fun _ _ _ h => h) (by rfl) (by assumption) ?_ ?_; rotate_left; focus (intro w hSw; (try dsimp only at hSw); go_simp; try with_reducible rfl)); try simp only [Act.put, List.setIfInBounds_toArray, List.set_cons_zero, List.set_cons_succ]
              (refine' skip_in 7 rfl (by kernel_rfl) (by kernel_rfl) (by kernel_rfl) (fun _ _ _ h => h) (by rfl) (by assumption) ?_); try simp only [Act.put, List.setIfInBounds_toArray, List.set_cons_zero, List.set_cons_succ]
              (refine' skip_in 8 rfl (by kernel_rfl) (by kernel_rfl) (by kernel_rfl) (fun _ _ _ h => h) (by rfl) (by assumption) ?_); try simp only [Act.put, List.setIfInBounds_toArray, List.set_cons_zero, List.set_cons_succ]
              (refine' skip_in 9 rfl (by kernel_rfl) (by kernel_rfl) (by kernel_rfl) (fun _ _ _ h => h) (by rfl) (by assumption) ?_); try simp only [Act.put, List.setIfInBounds_toArray, List.set_cons_zero, List.set_cons_succ]
              (refine' skip_in 10 rfl (by kernel_rfl) (by kernel_rfl) (by kernel_rfl) (fun _ _ _ h => h) (by rfl) (by assumption) ?_); try simp only [Act.put, List.setIfInBounds_toArray, List.set_cons_zero, List.set_cons_succ]
              (refine' skip_in 11 rfl (by kernel_rfl) (by kernel_rfl) (by kernel_rfl) (fun _ _ _ h => h) (by rfl) (by assumption) ?_); try simp only [Act.put, List.setIfInBounds_toArray, List.set_cons_zero, List.set_cons_succ]
              (refine' skip_in 12 rfl (by kernel_rfl) (by kernel_rfl) (by kernel_rfl) (fun _ _ _ h => h) (by rfl) (by assumption) ?_); try simp only [Act.put, List.setIfInBounds_toArray, List.set_cons_zero, List.set_cons_succ]
              (refine' skip_in 13 rfl (by kernel_rfl) (by kernel_rfl) (by kernel_rfl) (fun _ _ _ h => h) (by rfl) (by assumption) ?_); try simp only [Act.put, List.setIfInBounds_toArray, List.set_cons_zero, List.set_cons_succ]
              (refine' skip_in 14 rfl (by kernel_rfl) (by kernel_rfl) (by kernel_rfl) (fun _ _ _ h => h) (by rfl) (by assumption) ?_); try simp only [Act.put, List.setIfInBounds_toArray, List.set_cons_zero, List.set_cons_succ]
              (refine' skip_in 15 rfl (by kernel_rfl) (by kernel_rfl) (by kernel_rfl) (fun _ _ _ h => h) (by rfl) (by assumption) ?_); try simp only [Act.put, List.setIfInBounds_toArray, List.set_cons_zero, List.set_cons_succ]
              (refine' skip_in 16 rfl (by kernel_rfl) (by kernel_rfl) (by kernel_rfl) (fun _ _ _ h => h) (by rfl) (by assumption) ?_); try simp only [Act.put, List.setIfInBounds_toArray, List.set_cons_zero, List.set_cons_succ]
              (refine' skip_in 17 rfl (by kernel_rfl) (by kernel_rfl) (by kernel_rfl) (fun _ _ _ h => h) (by rfl) (by assumption) ?_); try simp only [Act.put, List.setIfInBounds_toArray, List.set_cons_zero, List.set_cons_succ]
              (refine' skip_in 18 rfl (by kernel_rfl) (by kernel_rfl) (by kernel_rfl) (fun _ _ _ h => h) (by rfl) (by assumption) ?_); try simp only [Act.put, List.setIfInBounds_toArray, List.set_cons_zero, List.set_cons_succ]
              (refine' skip_in 19 rfl (by kernel_rfl) (by kernel_rfl) (by kernel_rfl) (fun _ _ _ h => h) (by rfl) (by assumption) ?_); try simp only [Act.put, List.setIfInBounds_toArray, List.set_cons_zero, List.set_cons_succ]
              (refine' take_in 20 rfl (by kernel_rfl) (by kernel_rfl) (by kernel_rfl) (fun _ _ _ h => h) (by rfl) (by assumption) ?_ ?_; rotate_left; focus (intro w hSw; (try dsimp only at hSw); go_simp; try with_reducible rfl)); try simp only [Act.put, List.setIfInBounds_toArray, List.set_cons_zero, List.set_cons_succ]
              (refine' take_in 21 rfl (by kernel_rfl) (by kernel_rfl) (by kernel_rfl) (fun _ _ _ h => h) (by rfl) (by assumption) ?_ ?_; rotate_left; focus (intro w hSw; (try dsimp only at hSw); go_simp; try with_reducible rfl)); try simp only [Act.put, List.setIfInBounds_toArray, List.set_cons_zero, List.set_cons_succ]
              refine wpAnyH_done (by kernel_rfl) ?_ _
              go_wp2_with fail
              go_ret
              exact ⟨ret_int (by unfold oneG; (repeat' split) <;> omega), (by repeat (first | with_reducible exact X1.out | with_reducible refine Ext.drew ?_ | with_reducible refine Ext.drewN ?_ _ | with_reducible refine Ext.alloc ?_ _ | with_reducible refine Ext.setCell ?_ (by first | omega | (simp; done) | (simp; omega)) _))⟩
            · have d5 : decide (xc < xs) = false := decide_eq_false q5
              go_wp2_with fail
              refine wp_region_held_drew (S := fun w' => w'.cell? ⟨w.heap.size, 2, none⟩ = some (.int .i64 xs) ∧ w'.cell? ⟨w.heap.size, 5, none⟩ = some (.int .i64 xc) ∧ w'.cell? ⟨b1, o1 + N * 8 + 5, none⟩ = some (.int .i64 a)) (by kernel_rfl) (by first | exact ⟨c0_2, c0_5, y_5⟩ | (simp [go_sem, World.cell?_alloc_past, y_5, c0_2, c0_5, c0_6, c0_7, ne_y_c0, ne_c0_y, ry, rya, ryb, ryc, ryn, rc0, rc0a, rc0b, rc0c, rc0n, hbn, hb1]; done)) (fun hHeld => ?_)
              (refine' take_in 0 rfl (by kernel_rfl) (by kernel_rfl) (by kernel_rfl) (fun _ _ _ h => h) (by rfl) (by assumption) ?_ ?_; rotate_left; focus (intro w hSw; (try dsimp only at hSw); go_simp; try with_reducible rfl)); try simp only [Act.put, List.setIfInBounds_toArray, List.set_cons_zero, List.set_cons_succ]
              (refine' take_in 1 rfl (by kernel_rfl) (by kernel_rfl) (by kernel_rfl) (fun _ _ _ h => h) (by rfl) (by assumption) ?_ ?_; rotate_left; focus (intro w hSw; (try dsimp only at hSw); go_simp; try with_reducible rfl)); try simp only [Act.put, List.setIfInBounds_toArray, List.set_cons_zero, List.set_cons_succ]
              (refine' take_in 2 rfl (by kernel_rfl) (by kernel_rfl) (by kernel_rfl) (fun _ _ _ h => h) (by rfl) (by assumption) ?_ ?_; rotate_left; focus (intro w hSw; (try dsimp only at hSw); go_simp; try with_reducible rfl)); try simp only [Act.put, List.setIfInBounds_toArray, List.set_cons_zero, List.set_cons_succ]
              (refine' take_in 3 rfl (by kernel_rfl) (by kernel_rfl) (by kernel_rfl) (fun _ _ _ h => h) (by rfl) (by assumption) ?_ ?_; rotate_left; focus (intro w hSw; (try dsimp only at hSw); go_simp; try with_reducible rfl)); try simp only [Act.put, List.setIfInBounds_toArray, List.set_cons_zero, List.set_cons_succ]
              (refine' take_in 4 rfl (by kernel_rfl) (by kernel_rfl) (by kernel_rfl) (fun _ _ _ h => h) (by rfl) (by assumption) ?_ ?_; rotate_left; focus (intro w hSw; (try dsimp only at hSw); go_simp; try with_reducible rfl)); try simp only [Act.put, List.setIfInBounds_toArray, List.set_cons_zero, List.set_cons_succ]
              (refine' take_in 5 rfl (by kernel_rfl) (by kernel_rfl) (by kernel_rfl) (fun _ _ _ h => h) (by rfl) (by assumption) ?_ ?_; rotate_left; focus (intro w hSw; (try dsimp only at hSw); go_simp; try with_reducible rfl)); try simp only [Act.put, List.setIfInBounds_toArray, List.set_cons_zero, List.set_cons_succ]
              (refine' take_in 6 rfl (by kernel_rfl) (by kernel_rfl) (by kernel_rfl) (fun _ _ _ h => h) (by rfl) (by assumption) ?_ ?_; rotate_left; focus (intro w hSw; (try dsimp only at hSw); go_simp; try with_reducible rfl)); try simp only [Act.put, List.setIfInBounds_toArray, List.set_cons_zero, List.set_cons_succ]
              (refine' take_in 7 rfl (by kernel_rfl) (by kernel_rfl) (by kernel_rfl) (fun _ _ _ h => h) (by rfl) (by assumption) ?_ ?_; rotate_left; focus (intro w hSw; (try dsimp only at hSw); go_simp; try with_reducible rfl)); try simp only [Act.put, List.setIfInBounds_toArray, List.set_cons_zero, List.set_cons_succ]
              (refine' take_in 8 rfl (by kernel_rfl) (by kernel_rfl) (by kernel_rfl) (fun _ _ _ h => h) (by rfl) (by assumption) ?_ ?_; rotate_left; focus (intro w hSw; (try dsimp only at hSw); go_simp; try with_reducible rfl)); try simp only [Act.put, List.setIfInBounds_toArray, List.set_cons_zero, List.set_cons_succ]
              (refine' take_in 9 rfl (by kernel_rfl) (by kernel_rfl) (by kernel_rfl) (fun _ _ _ h => h) (by rfl) (by assumption) ?_ ?_; rotate_left; focus (intro w hSw; (try dsimp only at hSw); go_simp; try with_reducible rfl)); try simp only [Act.put, List.setIfInBounds_toArray, List.set_cons_zero, List.set_cons_succ]
              (refine' take_in 10 rfl (by kernel_rfl) (by kernel_rfl) (by kernel_rfl) (fun _ _ _ h => h) (by rfl) (by assumption) ?_ ?_; rotate_left; focus (intro w hSw; (try dsimp only at hSw); go_simp; try with_reducible rfl)); try simp only [Act.put, List.setIfInBounds_toArray, List.set_cons_zero, List.set_cons_succ]
              (refine' take_in 11 rfl (by kernel_rfl) (by kernel_rfl) (by kernel_rfl) (fun _ _ _ h => h) (by rfl) (by assumption) ?_ ?_; rotate_left; focus (intro w hSw; (try dsimp only at hSw); go_simp; try with_reducible rfl)); try simp only [Act.put, List.setIfInBounds_toArray, List.set_cons_zero, List.set_cons_succ]
              (refine' take_in 12 rfl (by kernel_rfl) (by kernel_rfl) (by kernel_rfl) (fun _ _ _ h => h) (by rfl) (by assumption) ?_ ?_; rotate_left; focus (intro w hSw; (try dsimp only at hSw); go_simp; try with_reducible rfl)); try simp only [Act.put, List.setIfInBounds_toArray, List.set_cons_zero, List.set_cons_succ]
              (refine' take_in 13 rfl (by kernel_rfl) (by kernel_rfl) (by kernel_rfl) (fun _ _ _ h => h) (by rfl) (by assumption) ?_ ?_; rotate_left; focus (intro w hSw; (try dsimp only at hSw); go_simp; try with_reducible rfl)); try simp only [Act.put, List.setIfInBounds_toArray, List.set_cons_zero, List.set_cons_succ]
              (refine' take_in 14 rfl (by kernel_rfl) (by kernel_rfl) (by kernel_rfl) (fun _ _ _ h => h) (by rfl) (by assumption) ?_ ?_; rotate_left; focus (intro w hSw; (try dsimp only at hSw); go_simp; try with_reducible rfl)); try simp only [Act.put, List.setIfInBounds_toArray, List.set_cons_zero, List.set_cons_succ]
              (refine' take_in 15 rfl (by kernel_rfl) (by kernel_rfl) (by kernel_rfl) (fun _ _ _ h => h) (by rfl) (by assumption) ?_ ?_; rotate_left; focus (intro w hSw; (try dsimp only at hSw); go_simp; try with_reducible rfl)); try simp only [Act.put, List.setIfInBounds_toArray, List.set_cons_zero, List.set_cons_succ]
              (refine' take_in 16 rfl (by kernel_rfl) (by kernel_rfl) (by kernel_rfl) (fun _ _ _ h => h) (by rfl) (by assumption) ?_ ?_; rotate_left; focus (intro w hSw; (try dsimp only at hSw); go_simp; try with_reducible rfl)); try simp only [Act.put, List.setIfInBounds_toArray, List.set_cons_zero, List.set_cons_succ]
              (refine' take_in 17 rfl (by kernel_rfl) (by kernel_rfl) (by kernel_rfl) (fun _ _ _ h => h) (by rfl) (by assumption) ?_ ?_; rotate_left; focus (intro w hSw; (try dsimp only at hSw); go_simp; try with_reducible rfl)); try simp only [Act.put, List.setIfInBounds_toArray, List.set_cons_zero, List.set_cons_succ]
              (refine' take_in 18 rfl (by kernel_rfl) (by kernel_rfl) (by kernel_rfl) (fun _ _ _ h => h) (by rfl) (by assumption) ?_ ?_; rotate_left; focus (intro w hSw; (try dsimp only at hSw); go_simp; try with_reducible rfl)); try simp only [Act.put, List.setIfInBounds_toArray, List.set_cons_zero, List.set_cons_succ]
              (refine' take_in 19 rfl (by kernel_rfl) (by kernel_rfl) (by kernel_rfl) (fun _ _ _ h => h) (by rfl) (by assumption) ?_ ?_; rotate_left; focus (intro w hSw; (try dsimp only at hSw); go_simp; try with_reducible rfl)); try simp only [Act.put, List.setIfInBounds_toArray, List.set_cons_zero, List.set_cons_succ]
              (refine' take_in 20 rfl (by kernel_rfl) (by kernel_rfl) (by kernel_rfl) (fun _ _ _ h => h) (by rfl) (by assumption) ?_ ?_; rotate_left; focus (intro w hSw; (try dsimp only at hSw); go_simp; try with_reducible rfl)); try simp only [Act.put, List.setIfInBounds_toArray, List.set_cons_zero, List.set_cons_succ]
              (refine' take_in 21 rfl (by kernel_rfl) (by kernel_rfl) (by kernel_rfl) (fun _ _ _ h => h) (by rfl) (by assumption) ?_ ?_; rotate_left; focus (intro w hSw; (try dsimp only at hSw); go_simp; try with_reducible rfl)); try simp only [Act.put, List.setIfInBounds_toArray, List.set_cons_zero, List.set_cons_succ]
              refine wpAnyH_done (by kernel_rfl) ?_ _
              by_cases q6 : xc < a
              · go_wp2_with fail
                go_ret
                exact ⟨ret_int (by unfold oneG; (repeat' split) <;> omega), (by repeat (first | with_reducible exact X1.out | with_reducible refine Ext.drew ?_ | with_reducible refine Ext.drewN ?_ _ | with_reducible refine Ext.alloc ?_ _ | with_reducible refine Ext.setCell ?_ (by first | omega | (simp; done) | (simp; omega)) _))⟩
              · by_cases q7 : xi = 0
                · have q7b : (xi == 0) = true := by simpa using q7
                  go_wp2_with fail
                  go_ret
                  exact ⟨ret_int (by unfold oneG; (repeat' split) <;> omega), (by repeat (first | with_reducible exact X1.out | with_reducible refine Ext.drew ?_ | with_reducible refine Ext.drewN ?_ _ | with_reducible refine Ext.alloc ?_ _ | with_reducible refine Ext.setCell ?_ (by first | omega | (simp; done) | (simp; omega)) _))⟩
                · have q7b : (xi == 0) = false := by simpa using q7
                  by_cases q8 : xi < xb
                  · go_wp2_with fail
                    go_ret
                    exact ⟨ret_int (by unfold oneG; (repeat' split) <;> omega), (by repeat (first | with_reducible exact X1.out | with_reducible refine Ext.drew ?_ | with_reducible refine Ext.drewN ?_ _ | with_reducible refine Ext.alloc ?_ _ | with_reducible refine Ext.setCell ?_ (by first | omega | (simp; done) | (simp; omega)) _))⟩
                  · go_wp2_with fail
                    go_ret
                    exact ⟨ret_int (by unfold oneG; (repeat' split) <;> omega), (by repeat (first | with_reducible exact X1.out | with_reducible refine Ext.drew ?_ | with_reducible refine Ext.drewN ?_ _ | with_reducible refine Ext.alloc ?_ _ | with_reducible refine Ext.setCell ?_ (by first | omega | (simp; done) | (simp; omega)) _))⟩
  · rw [show (decide (1 ≤ xc) && decide (xc ≤ 4294967296)) = false from by simp; omega] at CH
    go_enter Tryz.func38, Tryz.ntmps38
    by_cases q1 : xo < 0
    · go_wp2_with fail
      go_ret
      exact ⟨ret_int (by unfold oneG; (repeat' split) <;> omega), (by repeat (first | with_reducible exact Ext.refl w | with_reducible refine Ext.drew ?_ | with_reducible refine Ext.drewN ?_ _ | with_reducible refine Ext.alloc ?_ _ | with_reducible refine Ext.setCell ?_ (by first | omega | (simp; done) | (simp; omega)) _))⟩
    · by_cases q2 : 64 ≤ xo
      · go_wp2_with fail
        go_ret
        exact ⟨ret_int (by unfold oneG; (repeat' split) <;> omega), (by repeat (first | with_reducible exact Ext.refl w | with_reducible refine Ext.drew ?_ | with_reducible refine Ext.drewN ?_ _ | with_reducible refine Ext.alloc ?_ _ | with_reducible refine Ext.setCell ?_ (by first | omega | (simp; done) | (simp; omega)) _))⟩
      · by_cases q3 : ¬ E = 0
        · have q3b : (E != 0) = true := by simp [q3]
          go_wp2_with fail
          (with_reducible refine (CE.out _).mono ?_)
          rintro e w1 ⟨rfl, hx1⟩
          have c0_5 : w1.cell? ⟨w.heap.size, 5, none⟩ = some (.int .i64 xc) := hx1.has (by first | fail | (simp [go_sem, World.cell?_alloc_past]; done))
          have z1 := hx1.size
          try simp at z1
          have rc0 : w.heap.size < w1.heap.size := by omega
          have rc0a : w.heap.size < w1.heap.size + 1 := by omega
          have rc0b : w.heap.size < w1.heap.size + 1 + 1 := by omega
          have rc0c : w.heap.size < w1.heap.size + 1 + 1 + 1 := by omega
          have rc0n : ¬ w.heap.size = w1.heap.size := by omega
          have X1 : Hid (Ext w w1) := Lib.hid (Ext.trans (by repeat (first | with_reducible exact Ext.refl w | with_reducible refine Ext.drew ?_ | with_reducible refine Ext.drewN ?_ _ | with_reducible refine Ext.alloc ?_ _ | with_reducible refine Ext.setCell ?_ (by first | omega | (simp; done) | (simp; omega)) _)) hx1)
          clear hx1 z1
          go_wp2_with fail
          go_ret
          exact ⟨ret_int (by unfold oneG; (repeat' split) <;> omega), (by repeat (first | with_reducible exact X1.out | with_reducible refine Ext.drew ?_ | with_reducible refine Ext.drewN ?_ _ | with_reducible refine Ext.alloc ?_ _ | with_reducible refine Ext.setCell ?_ (by first | omega | (simp; done) | (simp; omega)) _))⟩
        · have q3b : (E != 0) = false := by simpa using q3
          go_wp2_with fail
          (with_reducible refine (CE.out _).mono ?_)
          rintro e w1 ⟨rfl, hx1⟩
          have c0_5 : w1.cell? ⟨w.heap.size, 5, none⟩ = some (.int .i64 xc) := hx1.has (by first | fail | (simp [go_sem, World.cell?_alloc_past]; done))
          have z1 := hx1.size
          try simp at z1
          have rc0 : w.heap.size < w1.heap.size := by omega
          have rc0a : w.heap.size < w1.heap.size + 1 := by omega
          have rc0b : w.heap.size < w1.heap.size + 1 + 1 := by omega
          have rc0c : w.heap.size < w1.heap.size + 1 + 1 + 1 := by omega
          have rc0n : ¬ w.heap.size = w1.heap.size := by omega
          have X1 : Hid (Ext w w1) := Lib.hid (Ext.trans (by repeat (first | with_reducible exact Ext.refl w | with_reducible refine Ext.drew ?_ | with_reducible refine Ext.drewN ?_ _ | with_reducible refine Ext.alloc ?_ _ | with_reducible refine Ext.setCell ?_ (by first | omega | (simp; done) | (simp; omega)) _)) hx1)
          clear hx1 z1
          go_wp2_with fail
          (with_reducible refine (CH.out _).mono ?_)
          rintro e w_1 ⟨rfl, rfl⟩
          go_wp2_with fail
          go_ret
          exact ⟨ret_int (by unfold oneG; (repeat' split) <;> omega), (by repeat (first | with_reducible exact X1.out | with_reducible refine Ext.drew ?_ | with_reducible refine Ext.drewN ?_ _ | with_reducible refine Ext.alloc ?_ _ | with_reducible refine Ext.setCell ?_ (by first | omega | (simp; done) | (simp; omega)) _))⟩
end
section
open Go.RowKit
theorem outB_no {n lo hi : Int} (h : outB n lo hi = false) : lo ≤ n ∧ n ≤ hi := by
  unfold outB at h
  simp at h
  omega
/-- a stamp that may be -/
structure StampOk (V S P F : Int) : Prop where
  v0 : 0 ≤ V
  v1 : V ≤ 31
  s0 : 1 ≤ S
  s1 : S ≤ 4294967296
  p0 : -1 ≤ P
  p1 : P ≤ 31
  f0 : 0 ≤ F
  f1 : F ≤ 4294967296
  ne : P ≠ V
  pf : (P = -1 ↔ F = 0)
  fs : F ≤ S
theorem chkS_ok {V S P F : Int} (h : chkS V S P F = 0) : StampOk V S P F := by
  cases h1 : outB V 0 31 <;> cases h2 : outB S 1 4294967296 <;> cases h3 : outB P (-1) 31 <;> cases h4 : outB F 0 4294967296 <;> (try (exfalso; unfold chkS at h; simp [h1, h2, h3, h4, firstR] at h; done))
  have a1 := outB_no h1
  have a2 := outB_no h2
  have a3 := outB_no h3
  have a4 := outB_no h4
  have e : chkS V S P F = if (P == V) = true then 2 else if (!((P == -1) == (F == 0))) = true then 11 else if decide (S < F) = true then 9 else 0 := by
    unfold chkS
    rw [h1, h2, h3, h4]
    rfl
  rw [e] at h
  split at h
  · omega
  · rename_i b1
    split at h
    · omega
    · rename_i b2
      split at h
      · omega
      · rename_i b3
        simp at b1 b2 b3
        refine ⟨a1.1, a1.2, a2.1, a2.2, a3.1, a3.2, a4.1, a4.2, b1, ?_, by omega⟩
        rw [Bool.eq_iff_iff] at b2
        simpa using b2
theorem chkS_of {V S P F : Int} (h : StampOk V S P F) : chkS V S P F = 0 := by
  obtain ⟨a1, a2, a3, a4, a5, a6, a7, a8, a9, a10, a11⟩ := h
  have o1 : outB V 0 31 = false := by unfold outB; simp; omega
  have o2 : outB S 1 4294967296 = false := by unfold outB; simp; omega
  have o3 : outB P (-1) 31 = false := by unfold outB; simp; omega
  have o4 : outB F 0 4294967296 = false := by unfold outB; simp; omega
  unfold chkS
  rw [o1, o2, o3, o4]
  have q1 : (P == V) = false := beq_false_of_ne a9
  have q2 : (P == -1) = (F == 0) := by
    rw [Bool.eq_iff_iff]; simp; exact a10
  have q3 : decide (S < F) = false := decide_eq_false (by omega)
  rw [q1, q2, q3]
  simp [firstR]
def stL (V S P F : Int) : List Int := [V, S, P + 1, F]
end
section
open Go.RowKit
theorem rwithin_any (n lo hi : Int) (b : Bool) (hb : outB n lo hi = !b) (w : World) :
    Calls Tryz.prog 90 #[.int .i64 n, .int .i64 lo, .int .i64 hi] w fun r w' => r = .returned (.bool b) ∧ w = w' := by
  unfold outB at hb
  by_cases h1 : n < lo
  · obtain rfl : b = false := by simp [h1] at hb; exact hb
    have h1' : decide (lo ≤ n) = false := decide_eq_false (by omega)
    clear h1 hb
    go_enter Tryz.func90, Tryz.ntmps90
    go_wp2
    go_ret
    exact ⟨rfl, rfl⟩
  · obtain rfl : b = decide (n ≤ hi) := by
      have e : decide (hi < n) = !decide (n ≤ hi) := by rw [Bool.eq_iff_iff]; simp
      simp only [decide_eq_false h1, Bool.false_or, e] at hb
      cases b <;> simp_all
    have h1' : decide (lo ≤ n) = true := decide_eq_true (by omega)
    generalize hq : decide (n ≤ hi) = q
    clear h1 hb
    go_enter Tryz.func90, Tryz.ntmps90
    go_wp2
    go_ret
    exact ⟨rfl, rfl⟩
theorem rwithin_t (n lo hi : Int) (hb : outB n lo hi = false) (w : World) :
    Calls Tryz.prog 90 #[.int .i64 n, .int .i64 lo, .int .i64 hi] w fun r w' => r = .returned (.bool true) ∧ w = w' := rwithin_any n lo hi true hb w
theorem rwithin_f (n lo hi : Int) (hb : outB n lo hi = true) (w : World) :
    Calls Tryz.prog 90 #[.int .i64 n, .int .i64 lo, .int .i64 hi] w fun r w' => r = .returned (.bool false) ∧ w = w' := rwithin_any n lo hi false hb w
set_option maxRecDepth 100000 in
set_option maxHeartbeats 1000000 in
theorem rCheck12_o0 (V S P F : Int) (h0 : outB V 0 31 = true)  (w : World) :
    Calls Tryz.prog 65 #[.agg #[.int .i64 V, .int .i64 S, .int .i64 P, .int .i64 F]] w fun r w' => r = .returned (.int .i64 3) ∧ Ext w w' := by
  have H0 := Lib.hid h0
  clear h0
  go_enter Tryz.func65, Tryz.ntmps65
  go_wp2_with fail
  (with_reducible refine (rwithin_f V 0 31 H0.out _).mono ?_)
  rintro e w_1 ⟨rfl, rfl⟩
  go_wp2_with fail
  go_ret
  exact ⟨rfl, (by repeat (first | with_reducible exact Ext.refl w | with_reducible refine Ext.drew ?_ | with_reducible refine Ext.drewN ?_ _ | with_reducible refine Ext.alloc ?_ _ | with_reducible refine Ext.setCell ?_ (by first | omega | (simp; done) | (simp; omega)) _))⟩
set_option maxRecDepth 100000 in
set_option maxHeartbeats 1000000 in
theorem rCheck12_o1 (V S P F : Int) (h0 : outB V 0 31 = false) (h1 : outB S 1 4294967296 = true)  (w : World) :
    Calls Tryz.prog 65 #[.agg #[.int .i64 V, .int .i64 S, .int .i64 P, .int .i64 F]] w fun r w' => r = .returned (.int .i64 3) ∧ Ext w w' := by
  have H0 := Lib.hid h0
  have H1 := Lib.hid h1
  clear h0 h1
  go_enter Tryz.func65, Tryz.ntmps65
  go_wp2_with fail
  (with_reducible refine (rwithin_t V 0 31 H0.out _).mono ?_)
  rintro e w_1 ⟨rfl, rfl⟩
  go_wp2_with fail
  (with_reducible refine (rwithin_f S 1 4294967296 H1.out _).mono ?_)
  rintro e w_2 ⟨rfl, rfl⟩
  go_wp2_with fail
  go_ret
  exact ⟨rfl, (by repeat (first | with_reducible exact Ext.refl w | with_reducible refine Ext.drew ?_ | with_reducible refine Ext.drewN ?_ _ | with_reducible refine Ext.alloc ?_ _ | with_reducible refine Ext.setCell ?_ (by first | omega | (simp; done) | (simp; omega)) _))⟩
set_option maxRecDepth 100000 in
set_option maxHeartbeats 1000000 in
theorem rCheck12_o2 (V S P F : Int) (h0 : outB V 0 31 = false) (h1 : outB S 1 4294967296 = false) (h2 : outB P (-1) 31 = true)  (w : World) :
    Calls Tryz.prog 65 #[.agg #[.int .i64 V, .int .i64 S, .int .i64 P, .int .i64 F]] w fun r w' => r = .returned (.int .i64 3) ∧ Ext w w' := by
  have H0 := Lib.hid h0
  have H1 := Lib.hid h1
  have H2 := Lib.hid h2
  clear h0 h1 h2
  go_enter Tryz.func65, Tryz.ntmps65
  go_wp2_with fail
  (with_reducible refine (rwithin_t V 0 31 H0.out _).mono ?_)
  rintro e w_1 ⟨rfl, rfl⟩
  go_wp2_with fail
  (with_reducible refine (rwithin_t S 1 4294967296 H1.out _).mono ?_)
  rintro e w_2 ⟨rfl, rfl⟩
  go_wp2_with fail
  (with_reducible refine (rwithin_f P (-1) 31 H2.out _).mono ?_)
  rintro e w_3 ⟨rfl, rfl⟩
  go_wp2_with fail
  go_ret
  exact ⟨rfl, (by repeat (first | with_reducible exact Ext.refl w | with_reducible refine Ext.drew ?_ | with_reducible refine Ext.drewN ?_ _ | with_reducible refine Ext.alloc ?_ _ | with_reducible refine Ext.setCell ?_ (by first | omega | (simp; done) | (simp; omega)) _))⟩
set_option maxRecDepth 100000 in
set_option maxHeartbeats 1000000 in
theorem rCheck12_o3 (V S P F : Int) (h0 : outB V 0 31 = false) (h1 : outB S 1 4294967296 = false) (h2 : outB P (-1) 31 = false) (h3 : outB F 0 4294967296 = true)  (w : World) :
    Calls Tryz.prog 65 #[.agg #[.int .i64 V, .int .i64 S, .int .i64 P, .int .i64 F]] w fun r w' => r = .returned (.int .i64 3) ∧ Ext w w' := by
  have H0 := Lib.hid h0
  have H1 := Lib.hid h1
  have H2 := Lib.hid h2
  have H3 := Lib.hid h3
  clear h0 h1 h2 h3
  go_enter Tryz.func65, Tryz.ntmps65
  go_wp2_with fail
  (with_reducible refine (rwithin_t V 0 31 H0.out _).mono ?_)
  rintro e w_1 ⟨rfl, rfl⟩
  go_wp2_with fail
  (with_reducible refine (rwithin_t S 1 4294967296 H1.out _).mono ?_)
  rintro e w_2 ⟨rfl, rfl⟩
  go_wp2_with fail
  (with_reducible refine (rwithin_t P (-1) 31 H2.out _).mono ?_)
  rintro e w_3 ⟨rfl, rfl⟩
  go_wp2_with fail
  (with_reducible refine (rwithin_f F 0 4294967296 H3.out _).mono ?_)
  rintro e w_4 ⟨rfl, rfl⟩
  go_wp2_with fail
  go_ret
  exact ⟨rfl, (by repeat (first | with_reducible exact Ext.refl w | with_reducible refine Ext.drew ?_ | with_reducible refine Ext.drewN ?_ _ | with_reducible refine Ext.alloc ?_ _ | with_reducible refine Ext.setCell ?_ (by first | omega | (simp; done) | (simp; omega)) _))⟩
set_option maxRecDepth 100000 in
set_option maxHeartbeats 1000000 in
theorem rCheck12_arg (V S P F : Int) (h0 : outB V 0 31 = false) (h1 : outB S 1 4294967296 = false) (h2 : outB P (-1) 31 = false) (h3 : outB F 0 4294967296 = false) (q0 : (P == V) = true) (w : World) :
    Calls Tryz.prog 65 #[.agg #[.int .i64 V, .int .i64 S, .int .i64 P, .int .i64 F]] w fun r w' => r = .returned (.int .i64 2) ∧ Ext w w' := by
  have H0 := Lib.hid h0
  have H1 := Lib.hid h1
  have H2 := Lib.hid h2
  have H3 := Lib.hid h3
  clear h0 h1 h2 h3
  go_enter Tryz.func65, Tryz.ntmps65
  go_wp2_with fail
  (with_reducible refine (rwithin_t V 0 31 H0.out _).mono ?_)
  rintro e w_1 ⟨rfl, rfl⟩
  go_wp2_with fail
  (with_reducible refine (rwithin_t S 1 4294967296 H1.out _).mono ?_)
  rintro e w_2 ⟨rfl, rfl⟩
  go_wp2_with fail
  (with_reducible refine (rwithin_t P (-1) 31 H2.out _).mono ?_)
  rintro e w_3 ⟨rfl, rfl⟩
  go_wp2_with fail
  (with_reducible refine (rwithin_t F 0 4294967296 H3.out _).mono ?_)
  rintro e w_4 ⟨rfl, rfl⟩
  go_wp2_with fail
  go_ret
  exact ⟨rfl, (by repeat (first | with_reducible exact Ext.refl w | with_reducible refine Ext.drew ?_ | with_reducible refine Ext.drewN ?_ _ | with_reducible refine Ext.alloc ?_ _ | with_reducible refine Ext.setCell ?_ (by first | omega | (simp; done) | (simp; omega)) _))⟩
set_option maxRecDepth 100000 in
set_option maxHeartbeats 1000000 in
theorem rCheck12_st1 (V S P F : Int) (h0 : outB V 0 31 = false) (h1 : outB S 1 4294967296 = false) (h2 : outB P (-1) 31 = false) (h3 : outB F 0 4294967296 = false) (q0 : (P == V) = false) (q1 : (P == -1) = true) (q2 : (F == 0) = false) (w : World) :
    Calls Tryz.prog 65 #[.agg #[.int .i64 V, .int .i64 S, .int .i64 P, .int .i64 F]] w fun r w' => r = .returned (.int .i64 11) ∧ Ext w w' := by
  have H0 := Lib.hid h0
  have H1 := Lib.hid h1
  have H2 := Lib.hid h2
  have H3 := Lib.hid h3
  clear h0 h1 h2 h3
  go_enter Tryz.func65, Tryz.ntmps65
  go_wp2_with fail
  (with_reducible refine (rwithin_t V 0 31 H0.out _).mono ?_)
  rintro e w_1 ⟨rfl, rfl⟩
  go_wp2_with fail
  (with_reducible refine (rwithin_t S 1 4294967296 H1.out _).mono ?_)
  rintro e w_2 ⟨rfl, rfl⟩
  go_wp2_with fail
  (with_reducible refine (rwithin_t P (-1) 31 H2.out _).mono ?_)
  rintro e w_3 ⟨rfl, rfl⟩
  go_wp2_with fail
  (with_reducible refine (rwithin_t F 0 4294967296 H3.out _).mono ?_)
  rintro e w_4 ⟨rfl, rfl⟩
  go_wp2_with fail
  go_ret
  exact ⟨rfl, (by repeat (first | with_reducible exact Ext.refl w | with_reducible refine Ext.drew ?_ | with_reducible refine Ext.drewN ?_ _ | with_reducible refine Ext.alloc ?_ _ | with_reducible refine Ext.setCell ?_ (by first | omega | (simp; done) | (simp; omega)) _))⟩
set_option maxRecDepth 100000 in
set_option maxHeartbeats 1000000 in
theorem rCheck12_st0 (V S P F : Int) (h0 : outB V 0 31 = false) (h1 : outB S 1 4294967296 = false) (h2 : outB P (-1) 31 = false) (h3 : outB F 0 4294967296 = false) (q0 : (P == V) = false) (q1 : (P == -1) = false) (q2 : (F == 0) = true) (w : World) :
    Calls Tryz.prog 65 #[.agg #[.int .i64 V, .int .i64 S, .int .i64 P, .int .i64 F]] w fun r w' => r = .returned (.int .i64 11) ∧ Ext w w' := by
  have H0 := Lib.hid h0
  have H1 := Lib.hid h1
  have H2 := Lib.hid h2
  have H3 := Lib.hid h3
  clear h0 h1 h2 h3
  go_enter Tryz.func65, Tryz.ntmps65
  go_wp2_with fail
  (with_reducible refine (rwithin_t V 0 31 H0.out _).mono ?_)
  rintro e w_1 ⟨rfl, rfl⟩
  go_wp2_with fail
  (with_reducible refine (rwithin_t S 1 4294967296 H1.out _).mono ?_)
  rintro e w_2 ⟨rfl, rfl⟩
  go_wp2_with fail
  (with_reducible refine (rwithin_t P (-1) 31 H2.out _).mono ?_)
  rintro e w_3 ⟨rfl, rfl⟩
  go_wp2_with fail
  (with_reducible refine (rwithin_t F 0 4294967296 H3.out _).mono ?_)
  rintro e w_4 ⟨rfl, rfl⟩
  go_wp2_with fail
  go_ret
  exact ⟨rfl, (by repeat (first | with_reducible exact Ext.refl w | with_reducible refine Ext.drew ?_ | with_reducible refine Ext.drewN ?_ _ | with_reducible refine Ext.alloc ?_ _ | with_reducible refine Ext.setCell ?_ (by first | omega | (simp; done) | (simp; omega)) _))⟩
set_option maxRecDepth 100000 in
set_option maxHeartbeats 1000000 in
theorem rCheck12_or1 (V S P F : Int) (h0 : outB V 0 31 = false) (h1 : outB S 1 4294967296 = false) (h2 : outB P (-1) 31 = false) (h3 : outB F 0 4294967296 = false) (q0 : (P == V) = false) (q1 : (P == -1) = true) (q2 : (F == 0) = true) (q3 : decide (S < F) = true) (w : World) :
    Calls Tryz.prog 65 #[.agg #[.int .i64 V, .int .i64 S, .int .i64 P, .int .i64 F]] w fun r w' => r = .returned (.int .i64 9) ∧ Ext w w' := by
  have H0 := Lib.hid h0
  have H1 := Lib.hid h1
  have H2 := Lib.hid h2
  have H3 := Lib.hid h3
  clear h0 h1 h2 h3
  go_enter Tryz.func65, Tryz.ntmps65
  go_wp2_with fail
  (with_reducible refine (rwithin_t V 0 31 H0.out _).mono ?_)
  rintro e w_1 ⟨rfl, rfl⟩
  go_wp2_with fail
  (with_reducible refine (rwithin_t S 1 4294967296 H1.out _).mono ?_)
  rintro e w_2 ⟨rfl, rfl⟩
  go_wp2_with fail
  (with_reducible refine (rwithin_t P (-1) 31 H2.out _).mono ?_)
  rintro e w_3 ⟨rfl, rfl⟩
  go_wp2_with fail
  (with_reducible refine (rwithin_t F 0 4294967296 H3.out _).mono ?_)
  rintro e w_4 ⟨rfl, rfl⟩
  go_wp2_with fail
  go_ret
  exact ⟨rfl, (by repeat (first | with_reducible exact Ext.refl w | with_reducible refine Ext.drew ?_ | with_reducible refine Ext.drewN ?_ _ | with_reducible refine Ext.alloc ?_ _ | with_reducible refine Ext.setCell ?_ (by first | omega | (simp; done) | (simp; omega)) _))⟩
set_option maxRecDepth 100000 in
set_option maxHeartbeats 1000000 in
theorem rCheck12_ok1 (V S P F : Int) (h0 : outB V 0 31 = false) (h1 : outB S 1 4294967296 = false) (h2 : outB P (-1) 31 = false) (h3 : outB F 0 4294967296 = false) (q0 : (P == V) = false) (q1 : (P == -1) = true) (q2 : (F == 0) = true) (q3 : decide (S < F) = false) (w : World) :
    Calls Tryz.prog 65 #[.agg #[.int .i64 V, .int .i64 S, .int .i64 P, .int .i64 F]] w fun r w' => r = .returned (.int .i64 0) ∧ Ext w w' := by
  have H0 := Lib.hid h0
  have H1 := Lib.hid h1
  have H2 := Lib.hid h2
  have H3 := Lib.hid h3
  clear h0 h1 h2 h3
  go_enter Tryz.func65, Tryz.ntmps65
  go_wp2_with fail
  (with_reducible refine (rwithin_t V 0 31 H0.out _).mono ?_)
  rintro e w_1 ⟨rfl, rfl⟩
  go_wp2_with fail
  (with_reducible refine (rwithin_t S 1 4294967296 H1.out _).mono ?_)
  rintro e w_2 ⟨rfl, rfl⟩
  go_wp2_with fail
  (with_reducible refine (rwithin_t P (-1) 31 H2.out _).mono ?_)
  rintro e w_3 ⟨rfl, rfl⟩
  go_wp2_with fail
  (with_reducible refine (rwithin_t F 0 4294967296 H3.out _).mono ?_)
  rintro e w_4 ⟨rfl, rfl⟩
  go_wp2_with fail
  go_ret
  exact ⟨rfl, (by repeat (first | with_reducible exact Ext.refl w | with_reducible refine Ext.drew ?_ | with_reducible refine Ext.drewN ?_ _ | with_reducible refine Ext.alloc ?_ _ | with_reducible refine Ext.setCell ?_ (by first | omega | (simp; done) | (simp; omega)) _))⟩
set_option maxRecDepth 100000 in
set_option maxHeartbeats 1000000 in
theorem rCheck12_or0 (V S P F : Int) (h0 : outB V 0 31 = false) (h1 : outB S 1 4294967296 = false) (h2 : outB P (-1) 31 = false) (h3 : outB F 0 4294967296 = false) (q0 : (P == V) = false) (q1 : (P == -1) = false) (q2 : (F == 0) = false) (q3 : decide (S < F) = true) (w : World) :
    Calls Tryz.prog 65 #[.agg #[.int .i64 V, .int .i64 S, .int .i64 P, .int .i64 F]] w fun r w' => r = .returned (.int .i64 9) ∧ Ext w w' := by
  have H0 := Lib.hid h0
  have H1 := Lib.hid h1
  have H2 := Lib.hid h2
  have H3 := Lib.hid h3
  clear h0 h1 h2 h3
  go_enter Tryz.func65, Tryz.ntmps65
  go_wp2_with fail
  (with_reducible refine (rwithin_t V 0 31 H0.out _).mono ?_)
  rintro e w_1 ⟨rfl, rfl⟩
  go_wp2_with fail
  (with_reducible refine (rwithin_t S 1 4294967296 H1.out _).mono ?_)
  rintro e w_2 ⟨rfl, rfl⟩
  go_wp2_with fail
  (with_reducible refine (rwithin_t P (-1) 31 H2.out _).mono ?_)
  rintro e w_3 ⟨rfl, rfl⟩
  go_wp2_with fail
  (with_reducible refine (rwithin_t F 0 4294967296 H3.out _).mono ?_)
  rintro e w_4 ⟨rfl, rfl⟩
  go_wp2_with fail
  go_ret
  exact ⟨rfl, (by repeat (first | with_reducible exact Ext.refl w | with_reducible refine Ext.drew ?_ | with_reducible refine Ext.drewN ?_ _ | with_reducible refine Ext.alloc ?_ _ | with_reducible refine Ext.setCell ?_ (by first | omega | (simp; done) | (simp; omega)) _))⟩
set_option maxRecDepth 100000 in
set_option maxHeartbeats 1000000 in
theorem rCheck12_ok0 (V S P F : Int) (h0 : outB V 0 31 = false) (h1 : outB S 1 4294967296 = false) (h2 : outB P (-1) 31 = false) (h3 : outB F 0 4294967296 = false) (q0 : (P == V) = false) (q1 : (P == -1) = false) (q2 : (F == 0) = false) (q3 : decide (S < F) = false) (w : World) :
    Calls Tryz.prog 65 #[.agg #[.int .i64 V, .int .i64 S, .int .i64 P, .int .i64 F]] w fun r w' => r = .returned (.int .i64 0) ∧ Ext w w' := by
  have H0 := Lib.hid h0
  have H1 := Lib.hid h1
  have H2 := Lib.hid h2
  have H3 := Lib.hid h3
  clear h0 h1 h2 h3
  go_enter Tryz.func65, Tryz.ntmps65
  go_wp2_with fail
  (with_reducible refine (rwithin_t V 0 31 H0.out _).mono ?_)
  rintro e w_1 ⟨rfl, rfl⟩
  go_wp2_with fail
  (with_reducible refine (rwithin_t S 1 4294967296 H1.out _).mono ?_)
  rintro e w_2 ⟨rfl, rfl⟩
  go_wp2_with fail
  (with_reducible refine (rwithin_t P (-1) 31 H2.out _).mono ?_)
  rintro e w_3 ⟨rfl, rfl⟩
  go_wp2_with fail
  (with_reducible refine (rwithin_t F 0 4294967296 H3.out _).mono ?_)
  rintro e w_4 ⟨rfl, rfl⟩
  go_wp2_with fail
  go_ret
  exact ⟨rfl, (by repeat (first | with_reducible exact Ext.refl w | with_reducible refine Ext.drew ?_ | with_reducible refine Ext.drewN ?_ _ | with_reducible refine Ext.alloc ?_ _ | with_reducible refine Ext.setCell ?_ (by first | omega | (simp; done) | (simp; omega)) _))⟩
theorem rCheck12_any (V S P F : Int) (w : World) :
    Calls Tryz.prog 65 #[.agg #[.int .i64 V, .int .i64 S, .int .i64 P, .int .i64 F]] w fun r w' => r = .returned (.int .i64 (chkS V S P F)) ∧ Ext w w' := by
  unfold chkS
  cases h1 : outB V 0 31
  · cases h2 : outB S 1 4294967296
    · cases h3 : outB P (-1) 31
      · cases h4 : outB F 0 4294967296
        · cases q0 : (P == V)
          · cases q1 : (P == -1)
            · cases q2 : (F == 0)
              · cases q3 : decide (S < F)
                · exact rCheck12_ok0 V S P F h1 h2 h3 h4 q0 q1 q2 q3 w
                · exact rCheck12_or0 V S P F h1 h2 h3 h4 q0 q1 q2 q3 w
              · exact rCheck12_st0 V S P F h1 h2 h3 h4 q0 q1 q2 w
            · cases q2 : (F == 0)
              · exact rCheck12_st1 V S P F h1 h2 h3 h4 q0 q1 q2 w
              · cases q3 : decide (S < F)
                · exact rCheck12_ok1 V S P F h1 h2 h3 h4 q0 q1 q2 q3 w
                · exact rCheck12_or1 V S P F h1 h2 h3 h4 q0 q1 q2 q3 w
          · exact rCheck12_arg V S P F h1 h2 h3 h4 q0 w
        · exact rCheck12_o3 V S P F h1 h2 h3 h4 w
      · exact rCheck12_o2 V S P F h1 h2 h3 w
    · exact rCheck12_o1 V S P F h1 h2 w
  · exact rCheck12_o0 V S P F h1 w
end
section
open Go.RowKit
def hasB (a b c v h : Int) : Bool := a == v && (decide (b ≤ h) && decide (h ≤ c))
theorem thas_zero (v h : Int) (w : World) :
    Calls Tryz.prog 93 #[.agg #[.int .i64 0, .int .i64 0, .int .i64 0], .int .i64 v, .int .i64 h] w fun r w' => r = .returned (.bool false) ∧ Ext w w' := by
  go_enter Tryz.func93, Tryz.ntmps93
  go_wp2
  go_ret
  exact ⟨rfl, (by repeat (first | assumption | exact Ext.refl _ | refine Ext.drew ?_ | refine Ext.drewN ?_ _ | refine Ext.alloc ?_ _ | refine Ext.setCell ?_ (by first | omega | (simp; done) | (simp; omega)) _ | refine Ext.trans ?_ (by assumption)))⟩
set_option maxHeartbeats 1000000 in
theorem thas_nz (a b c v h : Int) (hz : (b == 0) = false ∨ (c == 0) = false) (w : World) :
    Calls Tryz.prog 93 #[.agg #[.int .i64 a, .int .i64 b, .int .i64 c], .int .i64 v, .int .i64 h] w fun r w' => r = .returned (.bool (hasB a b c v h)) ∧ Ext w w' := by
  unfold hasB
  obtain ⟨q, hq⟩ : ∃ p, decide (b ≤ h) = p := ⟨_, rfl⟩
  obtain ⟨s, hs⟩ : ∃ p, decide (h ≤ c) = p := ⟨_, rfl⟩
  rw [hq, hs]
  rcases hz with hz | hz
  all_goals
    by_cases ha : a = v
    · subst ha
      have e : (a == a && (q && s)) = (q && s) := by simp
      rw [e]
      cases q
      all_goals
        go_enter Tryz.func93, Tryz.ntmps93
        go_wp2
        all_goals (go_ret; exact ⟨by simp_all, (by repeat (first | assumption | exact Ext.refl _ | refine Ext.drew ?_ | refine Ext.drewN ?_ _ | refine Ext.alloc ?_ _ | refine Ext.setCell ?_ (by first | omega | (simp; done) | (simp; omega)) _ | refine Ext.trans ?_ (by assumption)))⟩)
    · have e : (a == v && (q && s)) = false := by simp [ha]
      rw [e]
      have hf : (a == v) = false := beq_false_of_ne ha
      clear ha
      go_enter Tryz.func93, Tryz.ntmps93
      go_wp2
      all_goals (go_ret; exact ⟨by simp_all, (by repeat (first | assumption | exact Ext.refl _ | refine Ext.drew ?_ | refine Ext.drewN ?_ _ | refine Ext.alloc ?_ _ | refine Ext.setCell ?_ (by first | omega | (simp; done) | (simp; omega)) _ | refine Ext.trans ?_ (by assumption)))⟩)
theorem tspans_neg (V S P F u t : Int) (hP : P < 0) (ht : (if u < 1 then 9223372036854775807 else u) = t) (w : World) :
    Calls Tryz.prog 92 #[.agg #[.int .i64 V, .int .i64 S, .int .i64 P, .int .i64 F], .int .i64 u] w fun r w' => r = .returned (.tuple #[.agg #[.int .i64 V, .int .i64 S, .int .i64 t], .agg #[.int .i64 0, .int .i64 0, .int .i64 0]]) ∧ Ext w w' := by
  by_cases hu : u < 1
  · rw [if_pos hu] at ht
    subst ht
    go_enter Tryz.func92, Tryz.ntmps92
    go_wp2
    refine bodyPost_ret (v := .tuple #[.agg #[.int .i64 V, .int .i64 S, .int .i64 9223372036854775807], .agg #[.int .i64 0, .int .i64 0, .int .i64 0]]) (by simp [results, Tryz.results92, go_sem]; try rfl) rfl ⟨rfl, ?_⟩
    exact (by repeat (first | assumption | exact Ext.refl _ | refine Ext.drew ?_ | refine Ext.drewN ?_ _ | refine Ext.alloc ?_ _ | refine Ext.setCell ?_ (by first | omega | (simp; done) | (simp; omega)) _ | refine Ext.trans ?_ (by assumption)))
  · rw [if_neg hu] at ht
    subst ht
    go_enter Tryz.func92, Tryz.ntmps92
    go_wp2
    refine bodyPost_ret (v := .tuple #[.agg #[.int .i64 V, .int .i64 S, .int .i64 u], .agg #[.int .i64 0, .int .i64 0, .int .i64 0]]) (by simp [results, Tryz.results92, go_sem]; try rfl) rfl ⟨rfl, ?_⟩
    exact (by repeat (first | assumption | exact Ext.refl _ | refine Ext.drew ?_ | refine Ext.drewN ?_ _ | refine Ext.alloc ?_ _ | refine Ext.setCell ?_ (by first | omega | (simp; done) | (simp; omega)) _ | refine Ext.trans ?_ (by assumption)))
set_option maxRecDepth 100000 in
set_option maxHeartbeats 2000000 in
theorem tspans_pos (V S P F u t : Int) (hP : ¬ P < 0) (ht : (if u < 1 then 9223372036854775807 else u) = t) (w : World) :
    Calls Tryz.prog 92 #[.agg #[.int .i64 V, .int .i64 S, .int .i64 P, .int .i64 F], .int .i64 u] w fun r w' => r = .returned (.tuple #[.agg #[.int .i64 V, .int .i64 S, .int .i64 t], .agg #[.int .i64 P, .int .i64 F, .int .i64 S]]) ∧ Ext w w' := by
  by_cases hu : u < 1
  · rw [if_pos hu] at ht
    subst ht
    go_enter Tryz.func92, Tryz.ntmps92
    go_wp2
    refine wp_region_held_drew (S := fun w' => w'.cell? ⟨w.heap.size, 0, none⟩ = some (.int .i64 V) ∧ w'.cell? ⟨w.heap.size, 1, none⟩ = some (.int .i64 S) ∧ w'.cell? ⟨w.heap.size, 2, none⟩ = some (.int .i64 P) ∧ w'.cell? ⟨w.heap.size, 3, none⟩ = some (.int .i64 F)) (by kernel_rfl) (by simp [go_sem, World.cell?_alloc_past]) (fun hHeld => ?_)
    (refine' take_in 0 rfl (by kernel_rfl) (by kernel_rfl) (by kernel_rfl) (fun _ _ _ h => h) (by rfl) (by assumption) ?_ ?_; rotate_left; focus (intro w hSw; (try dsimp only at hSw); go_simp; try with_reducible rfl)); try simp only [Act.put, List.setIfInBounds_toArray, List.set_cons_zero, List.set_cons_succ]
    (refine' take_in 1 rfl (by kernel_rfl) (by kernel_rfl) (by kernel_rfl) (fun _ _ _ h => h) (by rfl) (by assumption) ?_ ?_; rotate_left; focus (intro w hSw; (try dsimp only at hSw); go_simp; try with_reducible rfl)); try simp only [Act.put, List.setIfInBounds_toArray, List.set_cons_zero, List.set_cons_succ]
    (refine' take_in 2 rfl (by kernel_rfl) (by kernel_rfl) (by kernel_rfl) (fun _ _ _ h => h) (by rfl) (by assumption) ?_ ?_; rotate_left; focus (intro w hSw; (try dsimp only at hSw); go_simp; try with_reducible rfl)); try simp only [Act.put, List.setIfInBounds_toArray, List.set_cons_zero, List.set_cons_succ]
    (refine' take_in 3 rfl (by kernel_rfl) (by kernel_rfl) (by kernel_rfl) (fun _ _ _ h => h) (by rfl) (by assumption) ?_ ?_; rotate_left; focus (intro w hSw; (try dsimp only at hSw); go_simp; try with_reducible rfl)); try simp only [Act.put, List.setIfInBounds_toArray, List.set_cons_zero, List.set_cons_succ]
    (refine' take_in 4 rfl (by kernel_rfl) (by kernel_rfl) (by kernel_rfl) (fun _ _ _ h => h) (by rfl) (by assumption) ?_ ?_; rotate_left; focus (intro w hSw; (try dsimp only at hSw); go_simp; try with_reducible rfl)); try simp only [Act.put, List.setIfInBounds_toArray, List.set_cons_zero, List.set_cons_succ]
    (refine' take_in 5 rfl (by kernel_rfl) (by kernel_rfl) (by kernel_rfl) (fun _ _ _ h => h) (by rfl) (by assumption) ?_ ?_; rotate_left; focus (intro w hSw; (try dsimp only at hSw); go_simp; try with_reducible rfl)); try simp only [Act.put, List.setIfInBounds_toArray, List.set_cons_zero, List.set_cons_succ]
    (refine' take_in 6 rfl (by kernel_rfl) (by kernel_rfl) (by kernel_rfl) (fun _ _ _ h => h) (by rfl) (by assumption) ?_ ?_; rotate_left; focus (intro w hSw; (try dsimp only at hSw); go_simp; try with_reducible rfl)); try simp only [Act.put, List.setIfInBounds_toArray, List.set_cons_zero, List.set_cons_succ]
    (refine' take_in 7 rfl (by kernel_rfl) (by kernel_rfl) (by kernel_rfl) (fun _ _ _ h => h) (by rfl) (by assumption) ?_ ?_; rotate_left; focus (intro w hSw; (try dsimp only at hSw); go_simp; try with_reducible rfl)); try simp only [Act.put, List.setIfInBounds_toArray, List.set_cons_zero, List.set_cons_succ]
    (refine' take_in 8 rfl (by kernel_rfl) (by kernel_rfl) (by kernel_rfl) (fun _ _ _ h => h) (by rfl) (by assumption) ?_ ?_; rotate_left; focus (intro w hSw; (try dsimp only at hSw); go_simp; try with_reducible rfl)); try simp only [Act.put, List.setIfInBounds_toArray, List.set_cons_zero, List.set_cons_succ]
    (refine' take_in 9 rfl (by kernel_rfl) (by kernel_rfl) (by kernel_rfl) (fun _ _ _ h => h) (by rfl) (by assumption) ?_ ?_; rotate_left; focus (intro w hSw; (try dsimp only at hSw); go_simp; try with_reducible rfl)); try simp only [Act.put, List.setIfInBounds_toArray, List.set_cons_zero, List.set_cons_succ]
    (refine' take_in 10 rfl (by kernel_rfl) (by kernel_rfl) (by kernel_rfl) (fun _ _ _ h => h) (by rfl) (by assumption) ?_ ?_; rotate_left; focus (intro w hSw; (try dsimp only at hSw); go_simp; try with_reducible rfl)); try simp only [Act.put, List.setIfInBounds_toArray, List.set_cons_zero, List.set_cons_succ]
    (refine' take_in 11 rfl (by kernel_rfl) (by kernel_rfl) (by kernel_rfl) (fun _ _ _ h => h) (by rfl) (by assumption) ?_ ?_; rotate_left; focus (intro w hSw; (try dsimp only at hSw); go_simp; try with_reducible rfl)); try simp only [Act.put, List.setIfInBounds_toArray, List.set_cons_zero, List.set_cons_succ]
    (refine' take_in 12 rfl (by kernel_rfl) (by kernel_rfl) (by kernel_rfl) (fun _ _ _ h => h) (by rfl) (by assumption) ?_ ?_; rotate_left; focus (intro w hSw; (try dsimp only at hSw); go_simp; try with_reducible rfl)); try simp only [Act.put, List.setIfInBounds_toArray, List.set_cons_zero, List.set_cons_succ]
    refine' next_in 13 rfl (by kernel_rfl) (by rfl) (fun K hK => ?_)
    go_simp
    refine hK.out _ _ (by simp [go_sem, World.cell?_alloc_past]) (fun hHeld => ?_); clear hK K; try simp only [Act.put, List.setIfInBounds_toArray, List.set_cons_zero, List.set_cons_succ]
    refine' next_in 14 rfl (by kernel_rfl) (by rfl) (fun K hK => ?_)
    go_simp
    refine hK.out _ _ (by simp [go_sem, World.cell?_alloc_past]) (fun hHeld => ?_); clear hK K; try simp only [Act.put, List.setIfInBounds_toArray, List.set_cons_zero, List.set_cons_succ]
    refine wpAnyH_done (by kernel_rfl) ?_ _
    go_wp2
    refine bodyPost_ret (v := .tuple #[.agg #[.int .i64 V, .int .i64 S, .int .i64 9223372036854775807], .agg #[.int .i64 P, .int .i64 F, .int .i64 S]]) (by simp [results, Tryz.results92, go_sem]; try rfl) rfl ⟨rfl, ?_⟩
    exact (by repeat (first | assumption | exact Ext.refl _ | refine Ext.drew ?_ | refine Ext.drewN ?_ _ | refine Ext.alloc ?_ _ | refine Ext.setCell ?_ (by first | omega | (simp; done) | (simp; omega)) _ | refine Ext.trans ?_ (by assumption)))
  · rw [if_neg hu] at ht
    subst ht
    go_enter Tryz.func92, Tryz.ntmps92
    go_wp2
    refine wp_region_held_drew (S := fun w' => w'.cell? ⟨w.heap.size, 0, none⟩ = some (.int .i64 V) ∧ w'.cell? ⟨w.heap.size, 1, none⟩ = some (.int .i64 S) ∧ w'.cell? ⟨w.heap.size, 2, none⟩ = some (.int .i64 P) ∧ w'.cell? ⟨w.heap.size, 3, none⟩ = some (.int .i64 F)) (by kernel_rfl) (by simp [go_sem, World.cell?_alloc_past]) (fun hHeld => ?_)
    (refine' take_in 0 rfl (by kernel_rfl) (by kernel_rfl) (by kernel_rfl) (fun _ _ _ h => h) (by rfl) (by assumption) ?_ ?_; rotate_left; focus (intro w hSw; (try dsimp only at hSw); go_simp; try with_reducible rfl)); try simp only [Act.put, List.setIfInBounds_toArray, List.set_cons_zero, List.set_cons_succ]
    (refine' take_in 1 rfl (by kernel_rfl) (by kernel_rfl) (by kernel_rfl) (fun _ _ _ h => h) (by rfl) (by assumption) ?_ ?_; rotate_left; focus (intro w hSw; (try dsimp only at hSw); go_simp; try with_reducible rfl)); try simp only [Act.put, List.setIfInBounds_toArray, List.set_cons_zero, List.set_cons_succ]
    (refine' take_in 2 rfl (by kernel_rfl) (by kernel_rfl) (by kernel_rfl) (fun _ _ _ h => h) (by rfl) (by assumption) ?_ ?_; rotate_left; focus (intro w hSw; (try dsimp only at hSw); go_simp; try with_reducible rfl)); try simp only [Act.put, List.setIfInBounds_toArray, List.set_cons_zero, List.set_cons_succ]
    (refine' take_in 3 rfl (by kernel_rfl) (by kernel_rfl) (by kernel_rfl) (fun _ _ _ h => h) (by rfl) (by assumption) ?_ ?_; rotate_left; focus (intro w hSw; (try dsimp only at hSw); go_simp; try with_reducible rfl)); try simp only [Act.put, List.setIfInBounds_toArray, List.set_cons_zero, List.set_cons_succ]
    (refine' take_in 4 rfl (by kernel_rfl) (by kernel_rfl) (by kernel_rfl) (fun _ _ _ h => h) (by rfl) (by assumption) ?_ ?_; rotate_left; focus (intro w hSw; (try dsimp only at hSw); go_simp; try with_reducible rfl)); try simp only [Act.put, List.setIfInBounds_toArray, List.set_cons_zero, List.set_cons_succ]
    (refine' take_in 5 rfl (by kernel_rfl) (by kernel_rfl) (by kernel_rfl) (fun _ _ _ h => h) (by rfl) (by assumption) ?_ ?_; rotate_left; focus (intro w hSw; (try dsimp only at hSw); go_simp; try with_reducible rfl)); try simp only [Act.put, List.setIfInBounds_toArray, List.set_cons_zero, List.set_cons_succ]
    (refine' take_in 6 rfl (by kernel_rfl) (by kernel_rfl) (by kernel_rfl) (fun _ _ _ h => h) (by rfl) (by assumption) ?_ ?_; rotate_left; focus (intro w hSw; (try dsimp only at hSw); go_simp; try with_reducible rfl)); try simp only [Act.put, List.setIfInBounds_toArray, List.set_cons_zero, List.set_cons_succ]
    (refine' take_in 7 rfl (by kernel_rfl) (by kernel_rfl) (by kernel_rfl) (fun _ _ _ h => h) (by rfl) (by assumption) ?_ ?_; rotate_left; focus (intro w hSw; (try dsimp only at hSw); go_simp; try with_reducible rfl)); try simp only [Act.put, List.setIfInBounds_toArray, List.set_cons_zero, List.set_cons_succ]
    (refine' take_in 8 rfl (by kernel_rfl) (by kernel_rfl) (by kernel_rfl) (fun _ _ _ h => h) (by rfl) (by assumption) ?_ ?_; rotate_left; focus (intro w hSw; (try dsimp only at hSw); go_simp; try with_reducible rfl)); try simp only [Act.put, List.setIfInBounds_toArray, List.set_cons_zero, List.set_cons_succ]
    (refine' take_in 9 rfl (by kernel_rfl) (by kernel_rfl) (by kernel_rfl) (fun _ _ _ h => h) (by rfl) (by assumption) ?_ ?_; rotate_left; focus (intro w hSw; (try dsimp only at hSw); go_simp; try with_reducible rfl)); try simp only [Act.put, List.setIfInBounds_toArray, List.set_cons_zero, List.set_cons_succ]
    (refine' take_in 10 rfl (by kernel_rfl) (by kernel_rfl) (by kernel_rfl) (fun _ _ _ h => h) (by rfl) (by assumption) ?_ ?_; rotate_left; focus (intro w hSw; (try dsimp only at hSw); go_simp; try with_reducible rfl)); try simp only [Act.put, List.setIfInBounds_toArray, List.set_cons_zero, List.set_cons_succ]
    (refine' take_in 11 rfl (by kernel_rfl) (by kernel_rfl) (by kernel_rfl) (fun _ _ _ h => h) (by rfl) (by assumption) ?_ ?_; rotate_left; focus (intro w hSw; (try dsimp only at hSw); go_simp; try with_reducible rfl)); try simp only [Act.put, List.setIfInBounds_toArray, List.set_cons_zero, List.set_cons_succ]
    (refine' take_in 12 rfl (by kernel_rfl) (by kernel_rfl) (by kernel_rfl) (fun _ _ _ h => h) (by rfl) (by assumption) ?_ ?_; rotate_left; focus (intro w hSw; (try dsimp only at hSw); go_simp; try with_reducible rfl)); try simp only [Act.put, List.setIfInBounds_toArray, List.set_cons_zero, List.set_cons_succ]
    refine' next_in 13 rfl (by kernel_rfl) (by rfl) (fun K hK => ?_)
    go_simp
    refine hK.out _ _ (by simp [go_sem, World.cell?_alloc_past]) (fun hHeld => ?_); clear hK K; try simp only [Act.put, List.setIfInBounds_toArray, List.set_cons_zero, List.set_cons_succ]
    refine' next_in 14 rfl (by kernel_rfl) (by rfl) (fun K hK => ?_)
    go_simp
    refine hK.out _ _ (by simp [go_sem, World.cell?_alloc_past]) (fun hHeld => ?_); clear hK K; try simp only [Act.put, List.setIfInBounds_toArray, List.set_cons_zero, List.set_cons_succ]
    refine wpAnyH_done (by kernel_rfl) ?_ _
    go_wp2
    refine bodyPost_ret (v := .tuple #[.agg #[.int .i64 V, .int .i64 S, .int .i64 u], .agg #[.int .i64 P, .int .i64 F, .int .i64 S]]) (by simp [results, Tryz.results92, go_sem]; try rfl) rfl ⟨rfl, ?_⟩
    exact (by repeat (first | assumption | exact Ext.refl _ | refine Ext.drew ?_ | refine Ext.drewN ?_ _ | refine Ext.alloc ?_ _ | refine Ext.setCell ?_ (by first | omega | (simp; done) | (simp; omega)) _ | refine Ext.trans ?_ (by assumption)))
end
section
open Go.RowKit
def bkdB (V S P F v h u : Int) : Bool := if chkS V S P F = 0 then (hasB V S (if u < 1 then 9223372036854775807 else u) v h || (if P < 0 then false else hasB P F S v h)) else false
theorem tBacked_bad (V S P F v h u E : Int) (hE : chkS V S P F = E) (he : ¬ E = 0) (w : World) :
    Calls Tryz.prog 82 #[.agg #[.int .i64 V, .int .i64 S, .int .i64 P, .int .i64 F], .int .i64 v, .int .i64 h, .int .i64 u] w fun r w' => r = .returned (.bool false) ∧ Ext w w' := by
  have CK := fun w => tCheck_any V S P F w
  rw [hE] at CK
  replace CK := Lib.hid CK
  have hef : (E == 0) = false := beq_false_of_ne he
  clear he hE
  go_enter Tryz.func82, Tryz.ntmps82
  go_wp2_with fail
  refine (CK.out _).mono ?_
  rintro r w1 ⟨rfl, hx1⟩
  have X1 := Lib.hid (show Ext w w1 from Ext.trans ((Ext.refl w).alloc _) hx1)
  clear hx1 CK
  go_wp2_with fail
  go_ret
  exact ⟨rfl, X1.out⟩
set_option maxHeartbeats 1000000 in
theorem tBacked_neg (V S P F v h u t : Int) (p : Bool) (hE : chkS V S P F = 0) 
    (CS : Hid (∀ w, Calls Tryz.prog 92 #[.agg #[.int .i64 V, .int .i64 S, .int .i64 P, .int .i64 F], .int .i64 u] w fun r w' => r = .returned (.tuple #[.agg #[.int .i64 V, .int .i64 S, .int .i64 t], .agg #[.int .i64 0, .int .i64 0, .int .i64 0]]) ∧ Ext w w'))
    (HN : Hid (∀ w, Calls Tryz.prog 93 #[.agg #[.int .i64 V, .int .i64 S, .int .i64 t], .int .i64 v, .int .i64 h] w fun r w' => r = .returned (.bool p) ∧ Ext w w')) (w : World) :
    Calls Tryz.prog 82 #[.agg #[.int .i64 V, .int .i64 S, .int .i64 P, .int .i64 F], .int .i64 v, .int .i64 h, .int .i64 u] w fun r w' => r = .returned (.bool p) ∧ Ext w w' := by
  have CK := fun w => tCheck_any V S P F w
  rw [hE] at CK
  replace CK := Lib.hid CK
  clear hE
  cases p
  all_goals
    go_enter Tryz.func82, Tryz.ntmps82
    go_wp2_with fail
    refine (CK.out _).mono ?_
    rintro r w1 ⟨rfl, hx1⟩
    have d0 : w1.cell? ⟨w.heap.size, 0, none⟩ = some (.int .i64 V) := hx1.has (by simp [go_sem])
    have d1 : w1.cell? ⟨w.heap.size, 1, none⟩ = some (.int .i64 S) := hx1.has (by simp [go_sem])
    have d2 : w1.cell? ⟨w.heap.size, 2, none⟩ = some (.int .i64 P) := hx1.has (by simp [go_sem])
    have d3 : w1.cell? ⟨w.heap.size, 3, none⟩ = some (.int .i64 F) := hx1.has (by simp [go_sem])
    have X1 := Lib.hid (show Ext w w1 from Ext.trans ((Ext.refl w).alloc _) hx1)
    clear hx1 CK
    go_wp2_with fail
    refine (CS.out _).mono ?_
    rintro r w2 ⟨rfl, hx2⟩
    have X2 := Lib.hid (show Ext w w2 from X1.out.trans hx2)
    clear hx2 CS X1 d0 d1 d2 d3
    go_wp2_with fail
    refine (HN.out _).mono ?_
    rintro r w3 ⟨rfl, hx3⟩
    have e0 : w3.cell? ⟨w2.heap.size + 1, 0, none⟩ = some (.int .i64 0) := hx3.has (by simp [go_sem, World.cell?_alloc_past])
    have e1 : w3.cell? ⟨w2.heap.size + 1, 1, none⟩ = some (.int .i64 0) := hx3.has (by simp [go_sem, World.cell?_alloc_past])
    have e2 : w3.cell? ⟨w2.heap.size + 1, 2, none⟩ = some (.int .i64 0) := hx3.has (by simp [go_sem, World.cell?_alloc_past])
    have X3 := Lib.hid (show Ext w w3 from X2.out.trans (Ext.trans (((Ext.refl w2).alloc _).alloc _) hx3))
    clear hx3 HN X2
    go_wp2_with fail
    first
      | (go_ret; exact ⟨by simp, X3.out⟩)
      | (refine (thas_zero v h _).mono ?_
         rintro r w4 ⟨rfl, hx4⟩
         have X4 := Lib.hid (X3.out.trans hx4)
         clear hx4 X3
         go_wp2_with fail
         go_ret
         exact ⟨by simp, X4.out⟩)
set_option maxHeartbeats 1000000 in
theorem tBacked_pos (V S P F v h u t : Int) (p : Bool) (hE : chkS V S P F = 0) (q : Bool) (HP : Hid (∀ w, Calls Tryz.prog 93 #[.agg #[.int .i64 P, .int .i64 F, .int .i64 S], .int .i64 v, .int .i64 h] w fun r w' => r = .returned (.bool q) ∧ Ext w w')) 
    (CS : Hid (∀ w, Calls Tryz.prog 92 #[.agg #[.int .i64 V, .int .i64 S, .int .i64 P, .int .i64 F], .int .i64 u] w fun r w' => r = .returned (.tuple #[.agg #[.int .i64 V, .int .i64 S, .int .i64 t], .agg #[.int .i64 P, .int .i64 F, .int .i64 S]]) ∧ Ext w w'))
    (HN : Hid (∀ w, Calls Tryz.prog 93 #[.agg #[.int .i64 V, .int .i64 S, .int .i64 t], .int .i64 v, .int .i64 h] w fun r w' => r = .returned (.bool p) ∧ Ext w w')) (w : World) :
    Calls Tryz.prog 82 #[.agg #[.int .i64 V, .int .i64 S, .int .i64 P, .int .i64 F], .int .i64 v, .int .i64 h, .int .i64 u] w fun r w' => r = .returned (.bool (p || q)) ∧ Ext w w' := by
  have CK := fun w => tCheck_any V S P F w
  rw [hE] at CK
  replace CK := Lib.hid CK
  clear hE
  cases p
  all_goals
    go_enter Tryz.func82, Tryz.ntmps82
    go_wp2_with fail
    refine (CK.out _).mono ?_
    rintro r w1 ⟨rfl, hx1⟩
    have d0 : w1.cell? ⟨w.heap.size, 0, none⟩ = some (.int .i64 V) := hx1.has (by simp [go_sem])
    have d1 : w1.cell? ⟨w.heap.size, 1, none⟩ = some (.int .i64 S) := hx1.has (by simp [go_sem])
    have d2 : w1.cell? ⟨w.heap.size, 2, none⟩ = some (.int .i64 P) := hx1.has (by simp [go_sem])
    have d3 : w1.cell? ⟨w.heap.size, 3, none⟩ = some (.int .i64 F) := hx1.has (by simp [go_sem])
    have X1 := Lib.hid (show Ext w w1 from Ext.trans ((Ext.refl w).alloc _) hx1)
    clear hx1 CK
    go_wp2_with fail
    refine (CS.out _).mono ?_
    rintro r w2 ⟨rfl, hx2⟩
    have X2 := Lib.hid (show Ext w w2 from X1.out.trans hx2)
    clear hx2 CS X1 d0 d1 d2 d3
    go_wp2_with fail
    refine (HN.out _).mono ?_
    rintro r w3 ⟨rfl, hx3⟩
    have e0 : w3.cell? ⟨w2.heap.size + 1, 0, none⟩ = some (.int .i64 P) := hx3.has (by simp [go_sem, World.cell?_alloc_past])
    have e1 : w3.cell? ⟨w2.heap.size + 1, 1, none⟩ = some (.int .i64 F) := hx3.has (by simp [go_sem, World.cell?_alloc_past])
    have e2 : w3.cell? ⟨w2.heap.size + 1, 2, none⟩ = some (.int .i64 S) := hx3.has (by simp [go_sem, World.cell?_alloc_past])
    have X3 := Lib.hid (show Ext w w3 from X2.out.trans (Ext.trans (((Ext.refl w2).alloc _).alloc _) hx3))
    clear hx3 HN X2
    go_wp2_with fail
    first
      | (go_ret; exact ⟨by simp, X3.out⟩)
      | (refine (HP.out _).mono ?_
         rintro r w4 ⟨rfl, hx4⟩
         have X4 := Lib.hid (X3.out.trans hx4)
         clear hx4 X3
         go_wp2_with fail
         go_ret
         exact ⟨by simp, X4.out⟩)
theorem tBacked_any (V S P F v h u : Int) (w : World) :
    Calls Tryz.prog 82 #[.agg #[.int .i64 V, .int .i64 S, .int .i64 P, .int .i64 F], .int .i64 v, .int .i64 h, .int .i64 u] w fun r w' => r = .returned (.bool (bkdB V S P F v h u)) ∧ Ext w w' := by
  unfold bkdB
  by_cases he : chkS V S P F = 0
  · rw [if_pos he]
    have hk := chkS_ok he
    have hs0 := hk.s0
    have hsz : (S == 0) = false := beq_false_of_ne (by omega)
    by_cases hP : P < 0
    · rw [if_pos hP, Bool.or_false]
      exact tBacked_neg V S P F v h u _ _ he (Lib.hid fun w => tspans_neg V S P F u _ hP rfl w) (Lib.hid fun w => thas_nz V S _ v h (.inl hsz) w) w
    · rw [if_neg hP]
      exact tBacked_pos V S P F v h u _ _ he _ (Lib.hid fun w => thas_nz P F S v h (.inr hsz) w) (Lib.hid fun w => tspans_pos V S P F u _ hP rfl w) (Lib.hid fun w => thas_nz V S _ v h (.inl hsz) w) w
  · rw [if_neg he]
    exact tBacked_bad V S P F v h u _ rfl he w
end
section
open Go.RowKit Go.ChangeShapes Go.WideShapes Go.Deep Go.Joins
set_option maxRecDepth 100000 in
set_option maxHeartbeats 4000000 in
theorem rOne_any (xo xv xs xp xf xc xi xb E a : Int) (w : World) (hE : chkS xv xs xp xf = E) :
    Calls Tryz.prog 47 #[.agg #[.int .i64 xo, .int .i64 xv, .int .i64 xs, .int .i64 xp, .int .i64 xf, .int .i64 xc, .int .u64 xi, .int .u64 xb], .int .i64 a] w fun e w' => e = .returned (.int .i64 (oneG xo E xc xs a xi xb)) ∧ Ext w w' := by
  have CE := Lib.hid (fun w => rCheck12_any xv xs xp xf w)
  rw [hE] at CE
  have CH := Lib.hid (fun w => r14height_any xc _ rfl w)
  clear hE
  by_cases hc : 1 ≤ xc ∧ xc ≤ 4294967296
  · rw [show (decide (1 ≤ xc) && decide (xc ≤ 4294967296)) = true from by simp; omega] at CH
    go_enter Tryz.func47, Tryz.ntmps47
    by_cases q1 : xo < 0
    · go_wp2_with fail
      go_ret
      exact ⟨ret_int (by unfold oneG; (repeat' split) <;> omega), (by repeat (first | with_reducible exact Ext.refl w | with_reducible refine Ext.drew ?_ | with_reducible refine Ext.drewN ?_ _ | with_reducible refine Ext.alloc ?_ _ | with_reducible refine Ext.setCell ?_ (by first | omega | (simp; done) | (simp; omega)) _))⟩
    · by_cases q2 : 64 ≤ xo
      · go_wp2_with fail
        go_ret
        exact ⟨ret_int (by unfold oneG; (repeat' split) <;> omega), (by repeat (first | with_reducible exact Ext.refl w | with_reducible refine Ext.drew ?_ | with_reducible refine Ext.drewN ?_ _ | with_reducible refine Ext.alloc ?_ _ | with_reducible refine Ext.setCell ?_ (by first | omega | (simp; done) | (simp; omega)) _))⟩
      · by_cases q3 : ¬ E = 0
        · have q3b : (E != 0) = true := by simp [q3]
          go_wp2_with fail
          (with_reducible refine (CE.out _).mono ?_)
          rintro e w1 ⟨rfl, hx1⟩
          have c0_2 : w1.cell? ⟨w.heap.size, 2, none⟩ = some (.int .i64 xs) := hx1.has (by first | fail | (simp [go_sem, World.cell?_alloc_past]; done))
          have c0_5 : w1.cell? ⟨w.heap.size, 5, none⟩ = some (.int .i64 xc) := hx1.has (by first | fail | (simp [go_sem, World.cell?_alloc_past]; done))
          have c0_6 : w1.cell? ⟨w.heap.size, 6, none⟩ = some (.int .u64 xi) := hx1.has (by first | fail | (simp [go_sem, World.cell?_alloc_past]; done))
          have c0_7 : w1.cell? ⟨w.heap.size, 7, none⟩ = some (.int .u64 xb) := hx1.has (by first | fail | (simp [go_sem, World.cell?_alloc_past]; done))
          have z1 := hx1.size
          try simp at z1
          have rc0 : w.heap.size < w1.heap.size := by omega
          have rc0a : w.heap.size < w1.heap.size + 1 := by omega
          have rc0b : w.heap.size < w1.heap.size + 1 + 1 := by omega
          have rc0c : w.heap.size < w1.heap.size + 1 + 1 + 1 := by omega
          have rc0n : ¬ w.heap.size = w1.heap.size := by omega
          have X1 : Hid (Ext w w1) := Lib.hid (Ext.trans (by repeat (first | with_reducible exact Ext.refl w | with_reducible refine Ext.drew ?_ | with_reducible refine Ext.drewN ?_ _ | with_reducible refine Ext.alloc ?_ _ | with_reducible refine Ext.setCell ?_ (by first | omega | (simp; done) | (simp; omega)) _)) hx1)
          clear hx1 z1
          go_wp2_with fail
          go_ret
          exact ⟨ret_int (by unfold oneG; (repeat' split) <;> omega), (by repeat (first | with_reducible exact X1.out | with_reducible refine Ext.drew ?_ | with_reducible refine Ext.drewN ?_ _ | with_reducible refine Ext.alloc ?_ _ | with_reducible refine Ext.setCell ?_ (by first | omega | (simp; done) | (simp; omega)) _))⟩
        · have q3b : (E != 0) = false := by simpa using q3
          go_wp2_with fail
          (with_reducible refine (CE.out _).mono ?_)
          rintro e w1 ⟨rfl, hx1⟩
          have c0_2 : w1.cell? ⟨w.heap.size, 2, none⟩ = some (.int .i64 xs) := hx1.has (by first | fail | (simp [go_sem, World.cell?_alloc_past]; done))
          have c0_5 : w1.cell? ⟨w.heap.size, 5, none⟩ = some (.int .i64 xc) := hx1.has (by first | fail | (simp [go_sem, World.cell?_alloc_past]; done))
          have c0_6 : w1.cell? ⟨w.heap.size, 6, none⟩ = some (.int .u64 xi) := hx1.has (by first | fail | (simp [go_sem, World.cell?_alloc_past]; done))
          have c0_7 : w1.cell? ⟨w.heap.size, 7, none⟩ = some (.int .u64 xb) := hx1.has (by first | fail | (simp [go_sem, World.cell?_alloc_past]; done))
          have z1 := hx1.size
          try simp at z1
          have rc0 : w.heap.size < w1.heap.size := by omega
          have rc0a : w.heap.size < w1.heap.size + 1 := by omega
          have rc0b : w.heap.size < w1.heap.size + 1 + 1 := by omega
          have rc0c : w.heap.size < w1.heap.size + 1 + 1 + 1 := by omega
          have rc0n : ¬ w.heap.size = w1.heap.size := by omega
          have X1 : Hid (Ext w w1) := Lib.hid (Ext.trans (by repeat (first | with_reducible exact Ext.refl w | with_reducible refine Ext.drew ?_ | with_reducible refine Ext.drewN ?_ _ | with_reducible refine Ext.alloc ?_ _ | with_reducible refine Ext.setCell ?_ (by first | omega | (simp; done) | (simp; omega)) _)) hx1)
          clear hx1 z1
          go_wp2_with fail
          (with_reducible refine (CH.out _).mono ?_)
          rintro e w_1 ⟨rfl, rfl⟩
          by_cases q5 : xc < xs
          · have d5 : decide (xc < xs) = true := decide_eq_true q5
            go_wp2_with fail
            go_ret
            exact ⟨ret_int (by unfold oneG; (repeat' split) <;> omega), (by repeat (first | with_reducible exact X1.out | with_reducible refine Ext.drew ?_ | with_reducible refine Ext.drewN ?_ _ | with_reducible refine Ext.alloc ?_ _ | with_reducible refine Ext.setCell ?_ (by first | omega | (simp; done) | (simp; omega)) _))⟩
          · have d5 : decide (xc < xs) = false := decide_eq_false q5
            by_cases q6 : xc < a
            · go_wp2_with fail
              go_ret
              exact ⟨ret_int (by unfold oneG; (repeat' split) <;> omega), (by repeat (first | with_reducible exact X1.out | with_reducible refine Ext.drew ?_ | with_reducible refine Ext.drewN ?_ _ | with_reducible refine Ext.alloc ?_ _ | with_reducible refine Ext.setCell ?_ (by first | omega | (simp; done) | (simp; omega)) _))⟩
            · by_cases q7 : xi = 0
              · have q7b : (xi == 0) = true := by simpa using q7
                go_wp2_with fail
                go_ret
                exact ⟨ret_int (by unfold oneG; (repeat' split) <;> omega), (by repeat (first | with_reducible exact X1.out | with_reducible refine Ext.drew ?_ | with_reducible refine Ext.drewN ?_ _ | with_reducible refine Ext.alloc ?_ _ | with_reducible refine Ext.setCell ?_ (by first | omega | (simp; done) | (simp; omega)) _))⟩
              · have q7b : (xi == 0) = false := by simpa using q7
                by_cases q8 : xi < xb
                · go_wp2_with fail
                  go_ret
                  exact ⟨ret_int (by unfold oneG; (repeat' split) <;> omega), (by repeat (first | with_reducible exact X1.out | with_reducible refine Ext.drew ?_ | with_reducible refine Ext.drewN ?_ _ | with_reducible refine Ext.alloc ?_ _ | with_reducible refine Ext.setCell ?_ (by first | omega | (simp; done) | (simp; omega)) _))⟩
                · go_wp2_with fail
                  go_ret
                  exact ⟨ret_int (by unfold oneG; (repeat' split) <;> omega), (by repeat (first | with_reducible exact X1.out | with_reducible refine Ext.drew ?_ | with_reducible refine Ext.drewN ?_ _ | with_reducible refine Ext.alloc ?_ _ | with_reducible refine Ext.setCell ?_ (by first | omega | (simp; done) | (simp; omega)) _))⟩
  · rw [show (decide (1 ≤ xc) && decide (xc ≤ 4294967296)) = false from by simp; omega] at CH
    go_enter Tryz.func47, Tryz.ntmps47
    by_cases q1 : xo < 0
    · go_wp2_with fail
      go_ret
      exact ⟨ret_int (by unfold oneG; (repeat' split) <;> omega), (by repeat (first | with_reducible exact Ext.refl w | with_reducible refine Ext.drew ?_ | with_reducible refine Ext.drewN ?_ _ | with_reducible refine Ext.alloc ?_ _ | with_reducible refine Ext.setCell ?_ (by first | omega | (simp; done) | (simp; omega)) _))⟩
    · by_cases q2 : 64 ≤ xo
      · go_wp2_with fail
        go_ret
        exact ⟨ret_int (by unfold oneG; (repeat' split) <;> omega), (by repeat (first | with_reducible exact Ext.refl w | with_reducible refine Ext.drew ?_ | with_reducible refine Ext.drewN ?_ _ | with_reducible refine Ext.alloc ?_ _ | with_reducible refine Ext.setCell ?_ (by first | omega | (simp; done) | (simp; omega)) _))⟩
      · by_cases q3 : ¬ E = 0
        · have q3b : (E != 0) = true := by simp [q3]
          go_wp2_with fail
          (with_reducible refine (CE.out _).mono ?_)
          rintro e w1 ⟨rfl, hx1⟩
          have c0_5 : w1.cell? ⟨w.heap.size, 5, none⟩ = some (.int .i64 xc) := hx1.has (by first | fail | (simp [go_sem, World.cell?_alloc_past]; done))
          have z1 := hx1.size
          try simp at z1
          have rc0 : w.heap.size < w1.heap.size := by omega
          have rc0a : w.heap.size < w1.heap.size + 1 := by omega
          have rc0b : w.heap.size < w1.heap.size + 1 + 1 := by omega
          have rc0c : w.heap.size < w1.heap.size + 1 + 1 + 1 := by omega
          have rc0n : ¬ w.heap.size = w1.heap.size := by omega
          have X1 : Hid (Ext w w1) := Lib.hid (Ext.trans (by repeat (first | with_reducible exact Ext.refl w | with_reducible refine Ext.drew ?_ | with_reducible refine Ext.drewN ?_ _ | with_reducible refine Ext.alloc ?_ _ | with_reducible refine Ext.setCell ?_ (by first | omega | (simp; done) | (simp; omega)) _)) hx1)
          clear hx1 z1
          go_wp2_with fail
          go_ret
          exact ⟨ret_int (by unfold oneG; (repeat' split) <;> omega), (by repeat (first | with_reducible exact X1.out | with_reducible refine Ext.drew ?_ | with_reducible refine Ext.drewN ?_ _ | with_reducible refine Ext.alloc ?_ _ | with_reducible refine Ext.setCell ?_ (by first | omega | (simp; done) | (simp; omega)) _))⟩
        · have q3b : (E != 0) = false := by simpa using q3
          go_wp2_with fail
          (with_reducible refine (CE.out _).mono ?_)
          rintro e w1 ⟨rfl, hx1⟩
          have c0_5 : w1.cell? ⟨w.heap.size, 5, none⟩ = some (.int .i64 xc) := hx1.has (by first | fail | (simp [go_sem, World.cell?_alloc_past]; done))
          have z1 := hx1.size
          try simp at z1
          have rc0 : w.heap.size < w1.heap.size := by omega
          have rc0a : w.heap.size < w1.heap.size + 1 := by omega
          have rc0b : w.heap.size < w1.heap.size + 1 + 1 := by omega
          have rc0c : w.heap.size < w1.heap.size + 1 + 1 + 1 := by omega
          have rc0n : ¬ w.heap.size = w1.heap.size := by omega
          have X1 : Hid (Ext w w1) := Lib.hid (Ext.trans (by repeat (first | with_reducible exact Ext.refl w | with_reducible refine Ext.drew ?_ | with_reducible refine Ext.drewN ?_ _ | with_reducible refine Ext.alloc ?_ _ | with_reducible refine Ext.setCell ?_ (by first | omega | (simp; done) | (simp; omega)) _)) hx1)
          clear hx1 z1
          go_wp2_with fail
          (with_reducible refine (CH.out _).mono ?_)
          rintro e w_1 ⟨rfl, rfl⟩
          go_wp2_with fail
          go_ret
          exact ⟨ret_int (by unfold oneG; (repeat' split) <;> omega), (by repeat (first | with_reducible exact X1.out | with_reducible refine Ext.drew ?_ | with_reducible refine Ext.drewN ?_ _ | with_reducible refine Ext.alloc ?_ _ | with_reducible refine Ext.setCell ?_ (by first | omega | (simp; done) | (simp; omega)) _))⟩
set_option maxRecDepth 100000 in
set_option maxHeartbeats 4000000 in
theorem rLast_any (A : Option Addr) (n c : Nat) (l : List (Int × Int × Int × Int × Int × Int × Int × Int)) (w : World) (hs : Sl w 8 A n c (l.flatMap entC)) :
    Calls Tryz.prog 48 #[.slice A n c] w fun e w' => e = .returned (.int .i64 (lastQ l)) ∧ w = w' := by
  have hll := hs.rlen entC_len (by decide)
  have hsm := hs.small
  by_cases hz : n = 0
  · subst hz
    rw [show lastQ l = 0 from by rw [List.eq_nil_of_length_eq_zero hll]; rfl]
    clear hs hll
    go_enter Tryz.func48, Tryz.ntmps48
    go_wp2
    go_ret
    exact ⟨rfl, rfl⟩
  · obtain ⟨N, rfl⟩ : ∃ N, n = N + 1 := ⟨n - 1, by omega⟩
    obtain ⟨b1, o1, rfl, hb1, hc_x⟩ := hs.rec_ entC_len (show 0 < N + 1 from by omega)
    obtain ⟨y, hy⟩ : ∃ x, l[N]? = some x := ⟨_, List.getElem?_eq_getElem (by omega)⟩
    have y_5 := hc_x N y hy 5 _ rfl
    rw [← Nat.add_assoc] at y_5
    obtain ⟨a, ha⟩ : ∃ a, a = lastQ l := ⟨_, rfl⟩
    rw [show y.2.2.2.2.2.1 = a from by rw [ha]; exact (lastQ_at hll hy).symm] at y_5
    rw [← ha]
    have hN1 : (N : Int) + 1 - 1 = (N : Int) := by omega
    have hNl : (N : Int) < (N : Int) + 1 := by omega
    have hNe : (((N : Int) + 1) == 0) = false := by simp; omega
    clear hs hll hc_x hy ha
    go_enter Tryz.func48, Tryz.ntmps48
    go_wp2
    go_ret
    exact ⟨rfl, rfl⟩
end
section
open Go.RowKit DivMath
theorem lz_any (y k : Nat) (hy : y < 18446744073709551616) (hk : Lib.bitLen y + k = 64) (w : World) :
    Calls Tryz.prog 102 #[.int .u64 y] w fun e w' => e = .returned (.int .i64 k) ∧ w = w' := by
  refine (Tryz.bits_LeadingZeros64 y w (by omega) (by omega)).mono fun e w' ⟨he, hw⟩ => ⟨?_, hw.symm⟩
  rw [he, Int.toNat_natCast, show (64 : Int) - (Lib.bitLen y : Int) = (k : Int) from by omega]

set_option maxHeartbeats 400000 in
theorem div64_zero (lo y : Int) (hy : 0 < y) (hy1 : y < 18446744073709551616) (l0 : 0 ≤ lo) (l1 : lo < 18446744073709551616) (w : World) :
    Calls Tryz.prog 101 #[.int .u64 0, .int .u64 lo, .int .u64 y] w fun e w' => e = .returned (.tuple #[.int .u64 (lo / y), .int .u64 (lo % y)]) ∧ ∃ n, w' = w.drewN n := by
  have e1 : (y == 0) = false := by simp; omega
  have e2 : ¬ y ≤ 0 := by omega
  go_enter Tryz.func101, Tryz.ntmps101
  go_wp2
  go_quiet (fail)
  go_wp2
  go_ret2
  exact ⟨rfl, _, rfl⟩

set_option maxRecDepth 100000 in
set_option maxHeartbeats 400000 in
theorem div64_some (hi lo y k Y yn1 yn0 u un1 un0 : Nat) (h0 : 0 < hi) (hlt : hi < y) (hy1 : y < 18446744073709551616) (hlo : lo < 18446744073709551616)
    (N : Norm hi lo y k Y yn1 yn0 u un1 un0) (w : World) :
    Calls Tryz.prog 101 #[.int .u64 hi, .int .u64 lo, .int .u64 y] w fun e w' => e = .returned (.tuple #[.int .u64 (((hi * 18446744073709551616 + lo) / y : Nat) : Int), .int .u64 (((hi * 18446744073709551616 + lo) % y : Nat) : Int)]) ∧ w = w' := by
  have e1 : ((y : Int) == 0) = false := by simp; omega
  have e2 : ¬ (y : Int) ≤ hi := by omega
  have e3 : ((hi : Int) == 0) = false := by simp; omega
  have n1 := N.k63
  have n2 := N.yn1lo
  have n3 := N.yn1hi
  have n4 := N.yn0hi
  have n5 := N.ult
  have n6 := N.hYlt
  have n7 := N.un1hi
  have n8 := N.un0hi
  have eY := N.eY
  have ey1 := N.eyn1
  have ey0 := N.eyn0
  have eu := N.eu hlo
  have e10 := N.eun10
  have e11 := N.eun1'
  have e12 := N.eun0'
  have m1 : min k 64 = k := by omega
  have m2 : min (64 - k) 64 = 64 - k := by omega
  obtain ⟨q1, hq1⟩ : ∃ q, q = u / yn1 := ⟨_, rfl⟩
  obtain ⟨r1, hr1⟩ : ∃ q, q = u % yn1 := ⟨_, rfl⟩
  obtain ⟨b1, b2⟩ := est_eqs u Y yn1 yn0 N.split n2 n4 n5 n6
  have I1 := Lib.hid (Inv.start N.split n2 n3 n4 n5 n7)
  rw [← hq1, ← hr1] at I1
  rw [← hq1] at b1 b2
  rw [← hr1] at b2
  clear hq1 hr1
  have H := Lib.hid N
  clear N
  go_enter Tryz.func101, Tryz.ntmps101
  go_upto_block 0 with (go_at_call 102; refine (lz_any y k hy1 H.out.len _).mono ?_; rintro e w' ⟨rfl, rfl⟩)
  go_cut [15] (fun q wx => q = .int .u64 (((u * 4294967296 + un1) / Y : Nat) : Int) ∧ wx = w)
  case first =>
    go_wp2_with fail
    go_loopg [15, 16] q1 (fun n q r wx => ∃ r' : Nat, Hid (Inv u un1 Y yn1 yn0 n r') ∧ (n : Int) ≤ 4294967297 ∧ (r' : Int) < 4294967296 ∧ q = .int .u64 n ∧ r = .int .u64 r' ∧ wx = w)
    case atStart => exact ⟨r1, I1, by have := I1.out.hi; omega, by have := I1.out.rhi; omega, rfl, rfl, rfl⟩
    case round =>
      obtain ⟨r', I, hn, hr, rfl, rfl, rfl⟩ := hrel
      by_cases hq : (4294967296 : Int) ≤ (gk : Int)
      · have J := Lib.hid (I.out.next (.inl (by omega)))
        have hg : (1 : Int) ≤ (gk : Int) := by omega
        by_cases hb : (4294967296 : Int) ≤ (r' : Int) + (yn1 : Int)
        · go_wp2_with fail
          go_meet
          exact ⟨num_eq (by rw [← J.out.2.2.2.2 (by omega)]; omega), rfl⟩
        · go_wp2_with fail
          go_roundg (gk - 1)
          case measure => omega
          case rel => exact ⟨r' + yn1, J.out.2.2.2.1 (by omega), by omega, by omega, num_eq (by omega), num_eq (by omega), rfl⟩
      · obtain ⟨p1, p2, p3⟩ := I.out.prod (by omega)
        by_cases ht : (4294967296 : Int) * (r' : Int) + (un1 : Int) < (gk : Int) * (yn0 : Int)
        · have J := Lib.hid (I.out.next (.inr (by rw [← Int.natCast_mul] at ht; omega)))
          have hg : (1 : Int) ≤ (gk : Int) := by have := J.out.1; omega
          by_cases hb : (4294967296 : Int) ≤ (r' : Int) + (yn1 : Int)
          · go_wp2_with fail
            go_meet
            exact ⟨num_eq (by rw [← J.out.2.2.2.2 (by omega)]; omega), rfl⟩
          · go_wp2_with fail
            go_roundg (gk - 1)
            case measure => omega
            case rel => exact ⟨r' + yn1, J.out.2.2.2.1 (by omega), by omega, by omega, num_eq (by omega), num_eq (by omega), rfl⟩
        · have J := Lib.hid (I.out.done (by rw [← Int.natCast_mul] at ht; omega))
          go_wp2_with fail
          go_meet
          exact ⟨num_eq (by rw [← J.out]), rfl⟩
  case rest =>
    obtain ⟨rfl, rfl⟩ := hcut
    clear I1 b1 b2
    obtain ⟨Q1, HQ1⟩ : ∃ Q, Hid (Q = (u * 4294967296 + un1) / Y) := ⟨_, rfl⟩
    obtain ⟨v, Hv⟩ : ∃ v, Hid (v = (u * 4294967296 + un1) % Y) := ⟨_, rfl⟩
    have l1 := left_eq u un1 Y Q1 (by omega) n6 HQ1.out
    rw [← HQ1.out]
    rw [← Hv.out] at l1
    have n9 : v < Y := by rw [Hv.out]; exact Nat.mod_lt _ (by omega)
    obtain ⟨q0, hq0⟩ : ∃ q, q = v / yn1 := ⟨_, rfl⟩
    obtain ⟨r0, hr0⟩ : ∃ q, q = v % yn1 := ⟨_, rfl⟩
    obtain ⟨b1, b2⟩ := est_eqs v Y yn1 yn0 H.out.split n2 n4 n9 n6
    have I0 := Lib.hid (Inv.start H.out.split n2 n3 n4 n9 n8)
    rw [← hq0, ← hr0] at I0
    rw [← hq0] at b1 b2
    rw [← hr0] at b2
    clear hq0 hr0
    go_upto_block 2 with (fail)
    go_cut [18] (fun q wx => q = .int .u64 (((v * 4294967296 + un0) / Y : Nat) : Int) ∧ wx = wc)
    case first =>
      go_wp2_with fail
      go_loopg [18, 16] q0 (fun n q r wx => ∃ r' : Nat, Hid (Inv v un0 Y yn1 yn0 n r') ∧ (n : Int) ≤ 4294967297 ∧ (r' : Int) < 4294967296 ∧ q = .int .u64 n ∧ r = .int .u64 r' ∧ wx = wc)
      case atStart => exact ⟨r0, I0, by have := I0.out.hi; omega, by have := I0.out.rhi; omega, rfl, rfl, rfl⟩
      case round =>
        obtain ⟨r', I, hn, hr, rfl, rfl, rfl⟩ := hrel
        by_cases hq : (4294967296 : Int) ≤ (gk : Int)
        · have J := Lib.hid (I.out.next (.inl (by omega)))
          have hg : (1 : Int) ≤ (gk : Int) := by omega
          by_cases hb : (4294967296 : Int) ≤ (r' : Int) + (yn1 : Int)
          · go_wp2_with fail
            go_meet
            exact ⟨num_eq (by rw [← J.out.2.2.2.2 (by omega)]; omega), rfl⟩
          · go_wp2_with fail
            go_roundg (gk - 1)
            case measure => omega
            case rel => exact ⟨r' + yn1, J.out.2.2.2.1 (by omega), by omega, by omega, num_eq (by omega), num_eq (by omega), rfl⟩
        · obtain ⟨p1, p2, p3⟩ := I.out.prod (by omega)
          by_cases ht : (4294967296 : Int) * (r' : Int) + (un0 : Int) < (gk : Int) * (yn0 : Int)
          · have J := Lib.hid (I.out.next (.inr (by rw [← Int.natCast_mul] at ht; omega)))
            have hg : (1 : Int) ≤ (gk : Int) := by have := J.out.1; omega
            by_cases hb : (4294967296 : Int) ≤ (r' : Int) + (yn1 : Int)
            · go_wp2_with fail
              go_meet
              exact ⟨num_eq (by rw [← J.out.2.2.2.2 (by omega)]; omega), rfl⟩
            · go_wp2_with fail
              go_roundg (gk - 1)
              case measure => omega
              case rel => exact ⟨r' + yn1, J.out.2.2.2.1 (by omega), by omega, by omega, num_eq (by omega), num_eq (by omega), rfl⟩
          · have J := Lib.hid (I.out.done (by rw [← Int.natCast_mul] at ht; omega))
            go_wp2_with fail
            go_meet
            exact ⟨num_eq (by rw [← J.out]), rfl⟩
    case rest =>
      obtain ⟨rfl, rfl⟩ := hcut
      obtain ⟨Q0, HQ0⟩ : ∃ Q, Hid (Q = (v * 4294967296 + un0) / Y) := ⟨_, rfl⟩
      obtain ⟨z, Hz⟩ : ∃ v', Hid (v' = (v * 4294967296 + un0) % Y) := ⟨_, rfl⟩
      have l0 := left_eq v un0 Y Q0 (by omega) n6 HQ0.out
      rw [← HQ0.out]
      rw [← Hz.out] at l0
      have c1 : Q1 < 4294967296 := by rw [HQ1.out]; exact q_lt u un1 Y n5 n7
      have c0 : Q0 < 4294967296 := by rw [HQ0.out]; exact q_lt v un0 Y n9 n8
      obtain ⟨t1, t2⟩ := two_steps u un1 un0 Y (by omega)
      have F1 : Hid ((hi * 18446744073709551616 + lo) / y = Q1 * 4294967296 + Q0) := by
        show _ = _
        rw [H.out.quo, t1, ← HQ1.out, ← Hv.out, ← HQ0.out]
      have F2 : Hid ((hi * 18446744073709551616 + lo) % y = z / 2 ^ k) := by
        show _ = _
        rw [H.out.rem, t2, ← Hv.out, ← Hz.out]
      clear t1 t2
      go_wp2_with fail
      go_ret2
      exact ⟨by rw [F1.out, F2.out]; simp, rfl⟩

/-- math/bits.Div64, whatever the words: the quotient and the rest of two words by one; the world has drawn at most. -/
theorem div64_any (hi lo y : Int) (h0 : 0 ≤ hi) (hlt : hi < y) (hy1 : y < 18446744073709551616) (l0 : 0 ≤ lo) (l1 : lo < 18446744073709551616) (w : World) :
    Calls Tryz.prog 101 #[.int .u64 hi, .int .u64 lo, .int .u64 y] w fun e w' => e = .returned (.tuple #[.int .u64 ((hi * 18446744073709551616 + lo) / y), .int .u64 ((hi * 18446744073709551616 + lo) % y)]) ∧ ∃ n, w' = w.drewN n := by
  by_cases hz : hi = 0
  · subst hz
    have e := div64_zero lo y hlt hy1 l0 l1 w
    rw [show (0 : Int) * 18446744073709551616 + lo = lo from by omega]
    exact e
  · obtain ⟨hi, rfl⟩ := Int.eq_ofNat_of_zero_le h0
    obtain ⟨lo, rfl⟩ := Int.eq_ofNat_of_zero_le l0
    obtain ⟨y, rfl⟩ := Int.eq_ofNat_of_zero_le (by omega : 0 ≤ y)
    obtain ⟨k, Y, yn1, yn0, u, un1, un0, N⟩ := norm hi lo y (by omega) (by omega) (by omega)
    refine (div64_some hi lo y k Y yn1 yn0 u un1 un0 (by omega) (by omega) (by omega) (by omega) N w).mono fun e w' ⟨he, hw⟩ => ⟨?_, 0, ?_⟩
    · rw [he]; simp
    · rw [← hw]; rfl
end
section

def addN (a b : Int) : Int := if a + b < 18446744073709551616 then a + b else 0
def addE (a b : Int) : Int := if a + b < 18446744073709551616 then 0 else 12
def hiN (a b : Int) : Int := a * b / 18446744073709551616
def loN (a b : Int) : Int := a * b % 18446744073709551616
def mdN (a b c : Int) : Int := if c = 0 then 0 else if a * b / c < 18446744073709551616 then a * b / c else 0
def mdE (a b c : Int) : Int := if c = 0 then 2 else if a * b / c < 18446744073709551616 then 0 else 12
def paN (a p : Int) : Int := if 1000000000 < p then 0 else mdN a p 1000000000
def paE (a p : Int) : Int := if 1000000000 < p then 3 else mdE a p 1000000000
/-- A word. -/
def Word (x : Int) : Prop := 0 ≤ x ∧ x < 18446744073709551616
theorem Word.lo {x : Int} (h : Word x) : 0 ≤ x := h.1
theorem Word.hi {x : Int} (h : Word x) : x < 18446744073709551616 := h.2

theorem prod_bounds {a b : Int} (ha : Word a) (hb : Word b) : 0 ≤ a * b ∧ a * b ≤ 340282366920938463426481119284349108225 := by
  refine ⟨Int.mul_nonneg ha.1 hb.1, ?_⟩
  have h1 : a * b ≤ 18446744073709551615 * b := Int.mul_le_mul_of_nonneg_right (by have := ha.2; omega) hb.1
  have := hb.2
  omega
theorem word_hi {a b : Int} (ha : Word a) (hb : Word b) : Word (hiN a b) := by
  obtain ⟨h1, h2⟩ := prod_bounds ha hb
  unfold hiN Word
  omega
theorem word_lo (a b : Int) : Word (loN a b) := by unfold loN Word; omega
theorem hi_lo (a b : Int) : hiN a b * 18446744073709551616 + loN a b = a * b := by unfold hiN loN; omega
/-- the quotient of two words, in two words -/
theorem quo_hi {h l c : Int} (hc : 0 < c) (hh : 0 ≤ h) (hl : Word l) :
    (h * 18446744073709551616 + l) / c = h / c * 18446744073709551616 + (h % c * 18446744073709551616 + l) / c ∧
    (h * 18446744073709551616 + l) % c = (h % c * 18446744073709551616 + l) % c ∧ Word ((h % c * 18446744073709551616 + l) / c) := by
  have hd := Int.mul_ediv_add_emod h c
  have hm := Int.emod_nonneg h (by omega : c ≠ 0)
  have hm2 := Int.emod_lt_of_pos h hc
  have e : h * 18446744073709551616 + l = (h % c * 18446744073709551616 + l) + c * (h / c * 18446744073709551616) := by
    have : c * (h / c * 18446744073709551616) = c * (h / c) * 18446744073709551616 := by rw [Int.mul_assoc]
    omega
  refine ⟨?_, ?_, ?_⟩
  · rw [e, Int.add_mul_ediv_left _ _ (by omega)]; omega
  · rw [e, Int.add_mul_emod_self_left]
  · have := hl.1
    have := hl.2
    constructor
    · exact Int.ediv_nonneg (by omega) (by omega)
    · refine Int.ediv_lt_of_lt_mul hc ?_
      have h3 : (h % c + 1) * 18446744073709551616 ≤ c * 18446744073709551616 := Int.mul_le_mul_of_nonneg_right (by omega) (by omega)
      omega
end
section
open Go.RowKit
theorem mul64_any (a b : Int) (ha : Word a) (hb : Word b) (w : World) :
    Calls Tryz.prog 100 #[.int .u64 a, .int .u64 b] w fun e w' => e = .returned (.tuple #[.int .u64 (hiN a b), .int .u64 (loN a b)]) ∧ w = w' := by
  obtain ⟨a, rfl⟩ := Int.eq_ofNat_of_zero_le ha.1
  obtain ⟨b, rfl⟩ := Int.eq_ofNat_of_zero_le hb.1
  refine (Tryz.bits_Mul64 a b (by have := ha.2; omega) (by have := hb.2; omega) w).mono fun e w' ⟨he, hw⟩ => ⟨?_, hw.symm⟩
  rw [he]; unfold hiN loN; simp

theorem times_any (a b : Int) (ha : Word a) (hb : Word b) (w : World) :
    Calls Tryz.prog 97 #[.int .u64 a, .int .u64 b] w fun e w' => e = .returned (.agg #[.int .u64 (hiN a b), .int .u64 (loN a b)]) ∧ Ext w w' := by
  go_enter Tryz.func97, Tryz.ntmps97
  go_wp2_with (go_at_call 100; refine (mul64_any a b ha hb _).mono ?_; rintro e w' ⟨rfl, rfl⟩)
  simp [bodyPost, results, Tryz.results97, go_sem]
  exact (by repeat (first | assumption | exact Ext.refl _ | refine Ext.drew ?_ | refine Ext.drewN ?_ _ | refine Ext.alloc ?_ _ | refine Ext.setCell ?_ (by first | omega | (simp; done) | (simp; omega)) _ | refine Ext.trans ?_ (by assumption)))
theorem word_ok (l : Int) (w : World) :
    Calls Tryz.prog 99 #[.agg #[.int .u64 0, .int .u64 l]] w fun e w' => e = .returned (.tuple #[.int .u64 l, .int .i64 0]) ∧ Ext w w' := by
  go_enter Tryz.func99, Tryz.ntmps99
  go_wp2
  go_ret2
  exact ⟨rfl, (by repeat (first | assumption | exact Ext.refl _ | refine Ext.drew ?_ | refine Ext.drewN ?_ _ | refine Ext.alloc ?_ _ | refine Ext.setCell ?_ (by first | omega | (simp; done) | (simp; omega)) _ | refine Ext.trans ?_ (by assumption)))⟩
theorem word_no (h l : Int) (w : World) (hz : (h == 0) = false) :
    Calls Tryz.prog 99 #[.agg #[.int .u64 h, .int .u64 l]] w fun e w' => e = .returned (.tuple #[.int .u64 0, .int .i64 12]) ∧ Ext w w' := by
  go_enter Tryz.func99, Tryz.ntmps99
  go_wp2
  go_ret2
  exact ⟨rfl, (by repeat (first | assumption | exact Ext.refl _ | refine Ext.drew ?_ | refine Ext.drewN ?_ _ | refine Ext.alloc ?_ _ | refine Ext.setCell ?_ (by first | omega | (simp; done) | (simp; omega)) _ | refine Ext.trans ?_ (by assumption)))⟩
/-- a word, whatever the high part: said of the number -/
theorem word_any (h l : Int) (hh : 0 ≤ h) (hl : Word l) (w : World) :
    Calls Tryz.prog 99 #[.agg #[.int .u64 h, .int .u64 l]] w fun e w' =>
      e = .returned (.tuple #[.int .u64 (if h * 18446744073709551616 + l < 18446744073709551616 then h * 18446744073709551616 + l else 0), .int .i64 (if h * 18446744073709551616 + l < 18446744073709551616 then 0 else 12)]) ∧ Ext w w' := by
  have := hl.1
  have := hl.2
  by_cases hz : h = 0
  · subst hz
    refine (word_ok l w).mono fun e w' ⟨he, hw⟩ => ⟨?_, hw⟩
    rw [he, if_pos (by omega), if_pos (by omega)]
    exact ret_two (by omega) rfl
  · refine (word_no h l w (by simpa using hz)).mono fun e w' ⟨he, hw⟩ => ⟨?_, hw⟩
    rw [he, if_neg (by omega), if_neg (by omega)]
theorem over_any (h l c : Int) (hh : Word h) (hl : Word l) (hc : 0 < c) (hc1 : c < 18446744073709551616) (w : World) :
    Calls Tryz.prog 98 #[.agg #[.int .u64 h, .int .u64 l], .int .u64 c] w fun e w' =>
      e = .returned (.tuple #[.agg #[.int .u64 (h / c), .int .u64 ((h % c * 18446744073709551616 + l) / c)], .int .u64 ((h % c * 18446744073709551616 + l) % c)]) ∧ Ext w w' := by
  obtain ⟨h1, h2⟩ := hh
  obtain ⟨l1, l2⟩ := hl
  have m1 := Int.emod_nonneg h (by omega : c ≠ 0)
  have m2 := Int.emod_lt_of_pos h hc
  have q1 : 0 ≤ h / c := Int.ediv_nonneg h1 (by omega)
  have q2 : h / c ≤ h := Int.ediv_le_self c h1
  go_enter Tryz.func98, Tryz.ntmps98
  go_wp2
  go_quiet ((go_at_call 101; refine Calls.quiet_of (div64_any (h % c) l c m1 m2 hc1 l1 l2 _)))
  go_wp2
  simp [bodyPost, results, Tryz.results98, go_sem]
  exact (by repeat (first | assumption | exact Ext.refl _ | refine Ext.drew ?_ | refine Ext.drewN ?_ _ | refine Ext.alloc ?_ _ | refine Ext.setCell ?_ (by first | omega | (simp; done) | (simp; omega)) _ | refine Ext.trans ?_ (by assumption)))

theorem add64_run (x y c : Int) (hx : 0 ≤ x) (hy : 0 ≤ y) (hc0 : 0 ≤ c) (hc : c ≤ 1) (w : World) : (callFunc 91 #[.int .u64 x, .int .u64 y, .int .u64 c]).run Tryz.prog w =
    .ok (.value (.tuple #[.int .u64 ((x + y + c) % 18446744073709551616), .int .u64 ((x + y + c) / 18446744073709551616)])) w := by
  obtain ⟨x, rfl⟩ := Int.eq_ofNat_of_zero_le hx
  obtain ⟨y, rfl⟩ := Int.eq_ofNat_of_zero_le hy
  obtain ⟨c, rfl⟩ := Int.eq_ofNat_of_zero_le hc0
  have h : c = 0 ∨ c = 1 := by omega
  rw [run_callFunc_extern Tryz.func91 (by kernel_rfl) (by kernel_rfl) (by kernel_rfl) (e := add64Entry) (by kernel_rfl), run_add64 x y c (by omega) (by omega) (by omega) (by omega)]
  simp only [Result.andThen]
  try (congr 5 <;> omega)
theorem add64_0 (x y : Int) (hx : 0 ≤ x) (hy : 0 ≤ y) (w : World) : (callFunc 91 #[.int .u64 x, .int .u64 y, .int .u64 0]).run Tryz.prog w =
    .ok (.value (.tuple #[.int .u64 ((x + y) % 18446744073709551616), .int .u64 ((x + y) / 18446744073709551616)])) w := by
  simpa using add64_run x y 0 hx hy (Int.le_refl 0) (by decide) w
end
section
open Go.RowKit
theorem fAdd_any (a b : Int) (ha : Word a) (hb : Word b) (w : World) :
    Calls Tryz.prog 77 #[.int .u64 a, .int .u64 b] w fun e w' => e = .returned (.tuple #[.int .u64 (addN a b), .int .i64 (addE a b)]) ∧ Ext w w' := by
  obtain ⟨a1, a2⟩ := ha
  obtain ⟨b1, b2⟩ := hb
  by_cases h : a + b < 18446744073709551616
  · have e1 : addN a b = a + b := if_pos h
    have e2 : addE a b = 0 := if_pos h
    rw [e1, e2]
    have d1 : (a + b) / 18446744073709551616 = 0 := by omega
    have d2 : (a + b) % 18446744073709551616 = a + b := by omega
    clear e1 e2
    go_enter Tryz.func77, Tryz.ntmps77
    go_wp2_with (simp only [add64_0 a b a1 b1, d1, d2])
    go_ret2
    exact ⟨rfl, (by repeat (first | assumption | exact Ext.refl _ | refine Ext.drew ?_ | refine Ext.drewN ?_ _ | refine Ext.alloc ?_ _ | refine Ext.setCell ?_ (by first | omega | (simp; done) | (simp; omega)) _ | refine Ext.trans ?_ (by assumption)))⟩
  · have e1 : addN a b = 0 := if_neg h
    have e2 : addE a b = 12 := if_neg h
    rw [e1, e2]
    have d1 : (a + b) / 18446744073709551616 = 1 := by omega
    clear e1 e2
    go_enter Tryz.func77, Tryz.ntmps77
    go_wp2_with (simp only [add64_0 a b a1 b1, d1])
    go_ret2
    exact ⟨rfl, (by repeat (first | assumption | exact Ext.refl _ | refine Ext.drew ?_ | refine Ext.drewN ?_ _ | refine Ext.alloc ?_ _ | refine Ext.setCell ?_ (by first | omega | (simp; done) | (simp; omega)) _ | refine Ext.trans ?_ (by assumption)))⟩
theorem fMulDiv_any (a b c : Int) (ha : Word a) (hb : Word b) (hc : Word c) (w : World) :
    Calls Tryz.prog 94 #[.int .u64 a, .int .u64 b, .int .u64 c] w fun e w' => e = .returned (.tuple #[.int .u64 (mdN a b c), .int .i64 (mdE a b c)]) ∧ Ext w w' := by
  by_cases hz : c = 0
  · subst hz
    go_enter Tryz.func94, Tryz.ntmps94
    go_wp2
    go_ret2
    exact ⟨rfl, (by repeat (first | assumption | exact Ext.refl _ | refine Ext.drew ?_ | refine Ext.drewN ?_ _ | refine Ext.alloc ?_ _ | refine Ext.setCell ?_ (by first | omega | (simp; done) | (simp; omega)) _ | refine Ext.trans ?_ (by assumption)))⟩
  · have hc0 : 0 < c := by have := hc.1; omega
    obtain ⟨q1, q2, q3⟩ := quo_hi (h := hiN a b) hc0 (word_hi ha hb).1 (word_lo a b)
    rw [hi_lo] at q1
    have q4 : 0 ≤ hiN a b / c := Int.ediv_nonneg (word_hi ha hb).1 (by omega)
    have W := word_any (hiN a b / c) _ q4 q3
    rw [← q1] at W
    have e1 : mdN a b c = if a * b / c < 18446744073709551616 then a * b / c else 0 := if_neg hz
    have e2 : mdE a b c = if a * b / c < 18446744073709551616 then 0 else 12 := if_neg hz
    rw [← e1, ← e2] at W
    have H := Lib.hid W
    clear e1 e2 W q1 q2 q3 q4
    go_enter Tryz.func94, Tryz.ntmps94
    go_wp2_with (first
      | (go_at_call 97; refine (times_any a b ha hb _).mono ?_; rintro e w' ⟨rfl, hx1⟩)
      | (go_at_call 98; refine (over_any _ _ c (word_hi ha hb) (word_lo a b) hc0 hc.2 _).mono ?_; rintro e w' ⟨rfl, hx2⟩)
      | (go_at_call 99; refine (H.out _).mono ?_; rintro e w' ⟨rfl, hx3⟩))
    go_ret2
    exact ⟨rfl, (by repeat (first | assumption | exact Ext.refl _ | refine Ext.drew ?_ | refine Ext.drewN ?_ _ | refine Ext.alloc ?_ _ | refine Ext.setCell ?_ (by first | omega | (simp; done) | (simp; omega)) _ | refine Ext.trans ?_ (by assumption)))⟩
theorem fPart_any (a p : Int) (ha : Word a) (hp : Word p) (w : World) :
    Calls Tryz.prog 83 #[.int .u64 a, .int .u64 p] w fun e w' => e = .returned (.tuple #[.int .u64 (paN a p), .int .i64 (paE a p)]) ∧ Ext w w' := by
  by_cases h : 1000000000 < p
  · have e1 : paN a p = 0 := if_pos h
    have e2 : paE a p = 3 := if_pos h
    rw [e1, e2]
    clear e1 e2
    go_enter Tryz.func83, Tryz.ntmps83
    go_wp2
    go_ret2
    exact ⟨rfl, (by repeat (first | assumption | exact Ext.refl _ | refine Ext.drew ?_ | refine Ext.drewN ?_ _ | refine Ext.alloc ?_ _ | refine Ext.setCell ?_ (by first | omega | (simp; done) | (simp; omega)) _ | refine Ext.trans ?_ (by assumption)))⟩
  · have e1 : paN a p = mdN a p 1000000000 := if_neg h
    have e2 : paE a p = mdE a p 1000000000 := if_neg h
    rw [e1, e2]
    clear e1 e2
    go_enter Tryz.func83, Tryz.ntmps83
    go_wp2_with ((go_at_call 94; refine (fMulDiv_any a p 1000000000 ha hp ⟨by decide, by decide⟩ _).mono ?_; rintro e w1 ⟨rfl, hx1⟩; (have hs1 := hx1.size); (try simp at hs1)))
    go_ret2
    exact ⟨rfl, (by repeat (first | assumption | exact Ext.refl _ | refine Ext.drew ?_ | refine Ext.drewN ?_ _ | refine Ext.alloc ?_ _ | refine Ext.setCell ?_ (by first | omega | (simp; done) | (simp; omega)) _ | refine Ext.trans ?_ (by assumption)))⟩
end
section
open Go.RowKit RefMath
theorem rAdd_any (a b : Int) (ha : Word a) (hb : Word b) (w : World) :
    Calls Tryz.prog 80 #[.int .u64 a, .int .u64 b] w fun e w' => e = .returned (.tuple #[.int .u64 (addN a b), .int .i64 (addE a b)]) ∧ w = w' := by
  obtain ⟨a1, a2⟩ := ha
  obtain ⟨b1, b2⟩ := hb
  by_cases h : a + b < 18446744073709551616
  · have e1 : addN a b = a + b := if_pos h
    have e2 : addE a b = 0 := if_pos h
    rw [e1, e2]
    clear e1 e2
    have h' : ¬ 18446744073709551615 - b < a := by omega
    go_enter Tryz.func80, Tryz.ntmps80
    go_wp2
    go_ret2
    exact ⟨rfl, rfl⟩
  · have e1 : addN a b = 0 := if_neg h
    have e2 : addE a b = 12 := if_neg h
    rw [e1, e2]
    clear e1 e2
    have h' : 18446744073709551615 - b < a := by omega
    go_enter Tryz.func80, Tryz.ntmps80
    go_wp2
    go_ret2
    exact ⟨rfl, rfl⟩
end
section
open Go.RowKit
/-- two slices share no block -/
def Apart (v v2 : Value) : Prop := ∀ k, v.ownBlock = some k → v2.ownBlock ≠ some k
theorem Apart.symm {v v2 : Value} (h : Apart v v2) : Apart v2 v := fun k h2 h1 => h k h1 h2
theorem Apart.nil (v : Value) : Apart v (.slice none 0 0) := fun k _ h => by simp [Value.ownBlock] at h
section
variable {P : Program} (w : World)
end
end
section
open Go.RowKit Go.ChangeShapes Go.WideShapes Go.Deep Go.Joins
/-- an entry's numbers are numbers of their kinds -/
def FitsQ (x : (Int × Int × Int × Int × Int × Int × Int × Int)) : Prop := Fits .i64 x.1 ∧ Fits .i64 x.2.1 ∧ Fits .i64 x.2.2.1 ∧ Fits .i64 x.2.2.2.1 ∧ Fits .i64 x.2.2.2.2.1 ∧ Fits .i64 x.2.2.2.2.2.1 ∧ Word x.2.2.2.2.2.2.1 ∧ Word x.2.2.2.2.2.2.2
theorem FitsQ.ba {x : (Int × Int × Int × Int × Int × Int × Int × Int)} (h : FitsQ x) : Word (baE x) := h.2.2.2.2.2.2.2
def totB : List (Int × Int × Int × Int × Int × Int × Int × Int) → Int
  | [] => 0
  | x :: l => baE x + totB l
theorem totB_app : ∀ (l r : List (Int × Int × Int × Int × Int × Int × Int × Int)), totB (l ++ r) = totB l + totB r
  | [], r => by simp [totB]
  | x :: l, r => by
    show baE x + totB (l ++ r) = baE x + totB l + totB r
    rw [totB_app l r]; omega
theorem totB_nonneg : ∀ {l : List (Int × Int × Int × Int × Int × Int × Int × Int)}, (∀ x ∈ l, FitsQ x) → 0 ≤ totB l
  | [], _ => Int.le_refl 0
  | x :: l, h => by
    have h1 := totB_nonneg (l := l) (fun y hy => h y (List.mem_cons_of_mem _ hy))
    have h2 := (h x (List.mem_cons_self ..)).ba.1
    show 0 ≤ baE x + totB l
    omega
theorem totB_take {l : List (Int × Int × Int × Int × Int × Int × Int × Int)} {k : Nat} {x : (Int × Int × Int × Int × Int × Int × Int × Int)} (h : l[k]? = some x) : totB (l.take (k + 1)) = totB (l.take k) + baE x := by
  rw [List.take_add_one, h, totB_app]
  simp [totB]
theorem totB_le {l : List (Int × Int × Int × Int × Int × Int × Int × Int)} (h : ∀ x ∈ l, FitsQ x) (k : Nat) : totB (l.take k) ≤ totB l := by
  have e : totB l = totB (l.take k) + totB (l.drop k) := by rw [← totB_app, List.take_append_drop]
  have := totB_nonneg (l := l.drop k) (fun x hx => h x (List.mem_of_mem_drop hx))
  omega
def sumP (l : List (Int × Int × Int × Int × Int × Int × Int × Int)) : Int := if totB l ≤ 4611686018427387904 then totB l else 4611686018427387905
theorem sumP_take {l : List (Int × Int × Int × Int × Int × Int × Int × Int)} {k : Nat} {x : (Int × Int × Int × Int × Int × Int × Int × Int)} (hf : ∀ x ∈ l, FitsQ x) (h : l[k]? = some x) : sumP (l.take (k + 1)) = if sumP (l.take k) + baE x ≤ 4611686018427387904 then sumP (l.take k) + baE x else 4611686018427387905 := by
  have h1 := (hf x (List.mem_of_getElem? h)).ba.1
  have h2 := totB_nonneg (l := l.take k) (fun x hx => hf x (List.mem_of_mem_take hx))
  unfold sumP
  rw [totB_take h]
  by_cases h3 : totB (l.take k) ≤ 4611686018427387904
  · rw [if_pos h3]
  · rw [if_neg h3, if_neg (by omega), if_neg (by omega)]
theorem sumP_bd {l : List (Int × Int × Int × Int × Int × Int × Int × Int)} (hf : ∀ x ∈ l, FitsQ x) : 0 ≤ sumP l ∧ sumP l ≤ 4611686018427387905 := by
  have := totB_nonneg hf
  unfold sumP
  split <;> omega
/-- how many are an owner's, of a validator -/
def liveQ (l : List (Int × Int × Int × Int × Int × Int × Int × Int)) (o v : Int) : Nat := l.countP fun x => x.1 == o && x.2.1 == v
theorem liveQ_take {l : List (Int × Int × Int × Int × Int × Int × Int × Int)} {k : Nat} {x : (Int × Int × Int × Int × Int × Int × Int × Int)} {o v : Int} (h : l[k]? = some x) : liveQ (l.take (k + 1)) o v = liveQ (l.take k) o v + if (x.1 == o && x.2.1 == v) = true then 1 else 0 := by
  unfold liveQ
  rw [List.take_add_one, h, List.countP_append]
  congr 1
  simp [List.countP_cons]
theorem liveQ_le (l : List (Int × Int × Int × Int × Int × Int × Int × Int)) (o v : Int) : liveQ l o v ≤ l.length := List.countP_le_length
set_option maxRecDepth 100000 in
set_option maxHeartbeats 4000000 in
theorem qsum1_any (n : Int) (xo xv xs xp xf xc xi xb : Int) (r : Int) (hr : r = if n + xb ≤ 4611686018427387904 then n + xb else 4611686018427387905) (w : World) (h0 : 0 ≤ n) (h1 : n ≤ 4611686018427387905) (hb : Word xb) :
    Calls Tryz.prog 76 #[.int .u64 n, .agg #[.int .i64 xo, .int .i64 xv, .int .i64 xs, .int .i64 xp, .int .i64 xf, .int .i64 xc, .int .u64 xi, .int .u64 xb]] w fun e w' => e = .returned (.int .u64 r) ∧ Ext w w' := by
  rw [hr]
  clear hr
  have CA := Lib.hid (fun w => fAdd_any n xb ⟨h0, by omega⟩ hb w)
  obtain ⟨b0, b1⟩ := hb
  by_cases h2 : n + xb < 18446744073709551616
  · rw [show addN n xb = n + xb from if_pos h2, show addE n xb = 0 from if_pos h2] at CA
    by_cases h3 : n + xb ≤ 4611686018427387904
    · rw [if_pos h3]
      have h4 : ¬ 4611686018427387904 < n + xb := by omega
      go_enter Tryz.func76, Tryz.ntmps76
      go_wp2_with fail
      (with_reducible refine (CA.out _).mono ?_)
      rintro e w1 ⟨rfl, hx1⟩
      have z1 := hx1.size
      try simp at z1
      have X1 : Hid (Ext w w1) := Lib.hid (Ext.trans (by repeat (first | with_reducible exact Ext.refl w | with_reducible refine Ext.drew ?_ | with_reducible refine Ext.drewN ?_ _ | with_reducible refine Ext.alloc ?_ _ | with_reducible refine Ext.setCell ?_ (by first | omega | (simp; done) | (simp; omega)) _)) hx1)
      clear hx1 z1
      go_wp2_with fail
      go_ret
      exact ⟨rfl, (by repeat (first | with_reducible exact X1.out | with_reducible refine Ext.drew ?_ | with_reducible refine Ext.drewN ?_ _ | with_reducible refine Ext.alloc ?_ _ | with_reducible refine Ext.setCell ?_ (by first | omega | (simp; done) | (simp; omega)) _))⟩
    · rw [if_neg h3]
      have h4 : 4611686018427387904 < n + xb := by omega
      go_enter Tryz.func76, Tryz.ntmps76
      go_wp2_with fail
      (with_reducible refine (CA.out _).mono ?_)
      rintro e w1 ⟨rfl, hx1⟩
      have z1 := hx1.size
      try simp at z1
      have X1 : Hid (Ext w w1) := Lib.hid (Ext.trans (by repeat (first | with_reducible exact Ext.refl w | with_reducible refine Ext.drew ?_ | with_reducible refine Ext.drewN ?_ _ | with_reducible refine Ext.alloc ?_ _ | with_reducible refine Ext.setCell ?_ (by first | omega | (simp; done) | (simp; omega)) _)) hx1)
      clear hx1 z1
      go_wp2_with fail
      go_ret
      exact ⟨rfl, (by repeat (first | with_reducible exact X1.out | with_reducible refine Ext.drew ?_ | with_reducible refine Ext.drewN ?_ _ | with_reducible refine Ext.alloc ?_ _ | with_reducible refine Ext.setCell ?_ (by first | omega | (simp; done) | (simp; omega)) _))⟩
  · rw [show addN n xb = 0 from if_neg h2, show addE n xb = 12 from if_neg h2] at CA
    rw [if_neg (by omega)]
    go_enter Tryz.func76, Tryz.ntmps76
    go_wp2_with fail
    (with_reducible refine (CA.out _).mono ?_)
    rintro e w1 ⟨rfl, hx1⟩
    have z1 := hx1.size
    try simp at z1
    have X1 : Hid (Ext w w1) := Lib.hid (Ext.trans (by repeat (first | with_reducible exact Ext.refl w | with_reducible refine Ext.drew ?_ | with_reducible refine Ext.drewN ?_ _ | with_reducible refine Ext.alloc ?_ _ | with_reducible refine Ext.setCell ?_ (by first | omega | (simp; done) | (simp; omega)) _)) hx1)
    clear hx1 z1
    go_wp2_with fail
    go_ret
    exact ⟨rfl, (by repeat (first | with_reducible exact X1.out | with_reducible refine Ext.drew ?_ | with_reducible refine Ext.drewN ?_ _ | with_reducible refine Ext.alloc ?_ _ | with_reducible refine Ext.setCell ?_ (by first | omega | (simp; done) | (simp; omega)) _))⟩
set_option maxRecDepth 100000 in
set_option maxHeartbeats 4000000 in
theorem qlive1_any (n : Int) (xo xv xs xp xf xc xi xb : Int) (ow v : Int) (p q : Nat) (r : Int) (hr : r = n + if (xo == ow && xv == v) = true then 1 else 0) (w : World) (h0 : 0 ≤ n) (h1 : n ≤ 1099511627776) (p_0 : w.cell? ⟨p, 0, none⟩ = some (.int .i64 ow)) (q_0 : w.cell? ⟨q, 0, none⟩ = some (.int .i64 v)) :
    Calls Tryz.prog 56 #[.int .i64 n, .agg #[.int .i64 xo, .int .i64 xv, .int .i64 xs, .int .i64 xp, .int .i64 xf, .int .i64 xc, .int .u64 xi, .int .u64 xb], .pointer (some ⟨p, 0, none⟩), .pointer (some ⟨q, 0, none⟩)] w fun e w' => e = .returned (.int .i64 r) ∧ Ext w w' := by
  rw [hr]
  clear hr
  have hp := cell_lt p_0
  have hq := cell_lt q_0
  have hpn : ¬ p = w.heap.size := by omega
  have hqn : ¬ q = w.heap.size := by omega
  cases e1 : (xo == ow)
  · skip
    go_enter Tryz.func56, Tryz.ntmps56
    go_wp2_with fail
    go_ret
    exact ⟨by simp [e1], (by repeat (first | with_reducible exact Ext.refl w | with_reducible refine Ext.drew ?_ | with_reducible refine Ext.drewN ?_ _ | with_reducible refine Ext.alloc ?_ _ | with_reducible refine Ext.setCell ?_ (by first | omega | (simp; done) | (simp; omega)) _))⟩
  · cases e2 : (xv == v)
    · skip
      go_enter Tryz.func56, Tryz.ntmps56
      go_wp2_with fail
      go_ret
      exact ⟨by simp [e1, e2], (by repeat (first | with_reducible exact Ext.refl w | with_reducible refine Ext.drew ?_ | with_reducible refine Ext.drewN ?_ _ | with_reducible refine Ext.alloc ?_ _ | with_reducible refine Ext.setCell ?_ (by first | omega | (simp; done) | (simp; omega)) _))⟩
    · skip
      go_enter Tryz.func56, Tryz.ntmps56
      go_wp2_with fail
      go_ret
      exact ⟨by simp [e1, e2], (by repeat (first | with_reducible exact Ext.refl w | with_reducible refine Ext.drew ?_ | with_reducible refine Ext.drewN ?_ _ | with_reducible refine Ext.alloc ?_ _ | with_reducible refine Ext.setCell ?_ (by first | omega | (simp; done) | (simp; omega)) _))⟩
theorem ent_infoP : ∃ i0, Tryz.prog.info? 53 = some i0 ∧ i0.zero = some (.agg #[.int .i64 0, .int .i64 0, .int .i64 0, .int .i64 0, .int .i64 0, .int .i64 0, .int .u64 0, .int .u64 0]) ∧ i0.size = 8 ∧ i0.bytes = 64 := info_parts ent_info
set_option maxRecDepth 100000 in
set_option maxHeartbeats 4000000 in
theorem qfoldW_any (A : Option Addr) (n c : Nat) (l : List (Int × Int × Int × Int × Int × Int × Int × Int)) (w : World) (h : Sl w 8 A n c (l.flatMap entC)) (hn : n ≤ 100000) (hf : ∀ x ∈ l, FitsQ x) :
    Calls Tryz.prog 75 #[.slice A n c, .int .u64 0, .func (.func 76) #[] #[]] w fun e w' => e = .returned (.int .u64 (sumP l)) ∧ Ext w w' := by
  have hll := h.rlen entC_len (by decide)
  have HS := Lib.hid h
  have HF := Lib.hid hf
  have HLL := Lib.hid hll
  clear h hf hll
  go_enter Tryz.func75, Tryz.ntmps75
  go_wp2
  go_loopg [1, 11] n (fun gh a i wx => gh ≤ n ∧ i = .int .i64 ((n - gh : Nat) : Int) ∧ a = .int .u64 (sumP (l.take (n - gh))) ∧ Hid (Ext w wx))
  case atStart => exact ⟨Nat.le_refl _, by simp, by rw [Nat.sub_self]; exact rfl, Lib.hid (Ext.refl _)⟩
  case round =>
    obtain ⟨hg, hi, ha, XR⟩ := hrel
    obtain ⟨k, hk⟩ : ∃ k, k = n - gk := ⟨_, rfl⟩
    rw [← hk] at hi ha
    obtain ⟨s, hs⟩ : ∃ s, s = sumP (l.take k) := ⟨_, rfl⟩
    rw [← hs] at ha
    subst ha
    subst hi
    by_cases hz : gk = 0
    · have hkn : ¬ (k : Int) < (n : Int) := by omega
      have hkl : l.take k = l := List.take_of_length_le (by have := HLL.out; omega)
      rw [hkl] at hs
      have HS2 := Lib.hid hs
      clear hk hg hz hkl hs
      go_wp2
      go_ret
      exact ⟨ret_int HS2.out, XR.out⟩
    · have hkn : (k : Int) < (n : Int) := by omega
      have hkl : k < l.length := by have := HLL.out; omega
      have HSr := Lib.hid (HS.out.ext XR.out)
      obtain ⟨b1, o1, rfl, hb1, hc_x⟩ := HSr.out.rec_ entC_len (show 0 < n from by omega)
      obtain ⟨xw, hl_x⟩ : ∃ x, l[k]? = some x := ⟨_, List.getElem?_eq_getElem (by omega)⟩
      have x_0 := hc_x k xw hl_x 0 _ rfl
      have x_1 := hc_x k xw hl_x 1 _ rfl
      have x_2 := hc_x k xw hl_x 2 _ rfl
      have x_3 := hc_x k xw hl_x 3 _ rfl
      have x_4 := hc_x k xw hl_x 4 _ rfl
      have x_5 := hc_x k xw hl_x 5 _ rfl
      have x_6 := hc_x k xw hl_x 6 _ rfl
      have x_7 := hc_x k xw hl_x 7 _ rfl
      obtain ⟨xo, xv, xs, xp, xf, xc, xi, xb⟩ := xw
      simp only at x_0 x_1 x_2 x_3 x_4 x_5 x_6 x_7
      rw [Nat.add_zero] at x_0
      rw [← Nat.add_assoc] at x_1 x_2 x_3 x_4 x_5 x_6 x_7
      clear hc_x
      have hfx := HF.out _ (List.mem_of_getElem? hl_x)
      have hst := sumP_take HF.out hl_x
      obtain ⟨s0, s1⟩ := sumP_bd (l := l.take k) (fun x hx => HF.out x (List.mem_of_mem_take hx))
      rw [← hs] at hst s0 s1
      have hba : Word xb := hfx.ba
      obtain ⟨s2, hs2⟩ : ∃ s2, s2 = if s + xb ≤ 4611686018427387904 then s + xb else 4611686018427387905 := ⟨_, rfl⟩
      replace hst : sumP (l.take (k + 1)) = s2 := by rw [hs2]; exact hst
      have HS2 := Lib.hid hs2
      clear hs2
      have HT := Lib.hid hst
      have HK := Lib.hid (And.intro hk (And.intro hg hz))
      have HSE := Lib.hid hs
      have hwx := Ext.size XR.out
      have hb1s : ¬ b1 = wr.heap.size := by omega
      clear hk hg hz hkl hl_x hfx hst hs HSr
      go_wp2_with fail
      (with_reducible refine (qsum1_any s xo xv xs xp xf xc xi xb s2 HS2.out _ s0 s1 hba).mono ?_)
      rintro e w11 ⟨rfl, hx11⟩
      have z11 := hx11.size
      try simp at z11
      have X11 : Hid (Ext w w11) := Lib.hid (Ext.trans (by repeat (first | with_reducible exact XR.out | with_reducible refine Ext.drew ?_ | with_reducible refine Ext.drewN ?_ _ | with_reducible refine Ext.alloc ?_ _ | with_reducible refine Ext.setCell ?_ (by first | omega | (simp; done) | (simp; omega)) _)) hx11)
      clear x_1 x_4 x_5 x_3 x_0 x_6 x_7 x_2 XR hx11 z11
      go_wp2_with fail
      go_roundg (gk - 1)
      case measure => have := HK.out; omega
      case rel => exact ⟨by have := HK.out; omega, num_eq (by have := HK.out; omega), num_eq (by rw [show n - (gk - 1) = k + 1 from by have := HK.out; omega]; exact HT.out.symm), Lib.hid (by repeat (first | with_reducible exact X11.out | with_reducible refine Ext.drew ?_ | with_reducible refine Ext.drewN ?_ _ | with_reducible refine Ext.alloc ?_ _ | with_reducible refine Ext.setCell ?_ (by first | omega | (simp; done) | (simp; omega)) _))⟩
set_option maxRecDepth 100000 in
set_option maxHeartbeats 4000000 in
theorem qfoldI_any (A : Option Addr) (n c : Nat) (l : List (Int × Int × Int × Int × Int × Int × Int × Int)) (ow v : Int) (p q : Nat) (w : World) (h : Sl w 8 A n c (l.flatMap entC)) (hn : n ≤ 100000) (hf : ∀ x ∈ l, FitsQ x) (p_0 : w.cell? ⟨p, 0, none⟩ = some (.int .i64 ow)) (q_0 : w.cell? ⟨q, 0, none⟩ = some (.int .i64 v)) :
    Calls Tryz.prog 55 #[.slice A n c, .int .i64 0, .func (.func 56) #[] #[.pointer (some ⟨p, 0, none⟩), .pointer (some ⟨q, 0, none⟩)]] w fun e w' => e = .returned (.int .i64 ((liveQ l ow v : Nat) : Int)) ∧ Ext w w' := by
  have hll := h.rlen entC_len (by decide)
  have HS := Lib.hid h
  have HF := Lib.hid hf
  have HLL := Lib.hid hll
  have P0 := Lib.hid p_0
  clear p_0
  have Q0 := Lib.hid q_0
  clear q_0
  clear h hf hll
  go_enter Tryz.func55, Tryz.ntmps55
  go_wp2
  go_loopg [1, 11] n (fun gh a i wx => gh ≤ n ∧ i = .int .i64 ((n - gh : Nat) : Int) ∧ a = .int .i64 ((liveQ (l.take (n - gh)) ow v : Nat) : Int) ∧ Hid (Ext w wx))
  case atStart => exact ⟨Nat.le_refl _, by simp, by rw [Nat.sub_self]; exact rfl, Lib.hid (Ext.refl _)⟩
  case round =>
    obtain ⟨hg, hi, ha, XR⟩ := hrel
    obtain ⟨k, hk⟩ : ∃ k, k = n - gk := ⟨_, rfl⟩
    rw [← hk] at hi ha
    obtain ⟨s, hs⟩ : ∃ s, s = ((liveQ (l.take k) ow v : Nat) : Int) := ⟨_, rfl⟩
    rw [← hs] at ha
    subst ha
    subst hi
    by_cases hz : gk = 0
    · have hkn : ¬ (k : Int) < (n : Int) := by omega
      have hkl : l.take k = l := List.take_of_length_le (by have := HLL.out; omega)
      rw [hkl] at hs
      have HS2 := Lib.hid hs
      clear hk hg hz hkl hs
      go_wp2
      go_ret
      exact ⟨ret_int HS2.out, XR.out⟩
    · have hkn : (k : Int) < (n : Int) := by omega
      have hkl : k < l.length := by have := HLL.out; omega
      have HSr := Lib.hid (HS.out.ext XR.out)
      obtain ⟨b1, o1, rfl, hb1, hc_x⟩ := HSr.out.rec_ entC_len (show 0 < n from by omega)
      obtain ⟨xw, hl_x⟩ : ∃ x, l[k]? = some x := ⟨_, List.getElem?_eq_getElem (by omega)⟩
      have x_0 := hc_x k xw hl_x 0 _ rfl
      have x_1 := hc_x k xw hl_x 1 _ rfl
      have x_2 := hc_x k xw hl_x 2 _ rfl
      have x_3 := hc_x k xw hl_x 3 _ rfl
      have x_4 := hc_x k xw hl_x 4 _ rfl
      have x_5 := hc_x k xw hl_x 5 _ rfl
      have x_6 := hc_x k xw hl_x 6 _ rfl
      have x_7 := hc_x k xw hl_x 7 _ rfl
      obtain ⟨xo, xv, xs, xp, xf, xc, xi, xb⟩ := xw
      simp only at x_0 x_1 x_2 x_3 x_4 x_5 x_6 x_7
      rw [Nat.add_zero] at x_0
      rw [← Nat.add_assoc] at x_1 x_2 x_3 x_4 x_5 x_6 x_7
      clear hc_x
      have hfx := HF.out _ (List.mem_of_getElem? hl_x)
      have hst := liveQ_take (o := ow) (v := v) hl_x
      have s1 := liveQ_le (l.take k) ow v
      rw [List.length_take] at s1
      have s2 : s ≤ 1099511627776 := by omega
      have s0 : 0 ≤ s := by omega
      obtain ⟨s9, hs9⟩ : ∃ s9, s9 = s + if (xo == ow && xv == v) = true then 1 else 0 := ⟨_, rfl⟩
      replace hst : ((liveQ (l.take (k + 1)) ow v : Nat) : Int) = s9 := by rw [hs9, hst, hs]; split <;> simp
      have HS9 := Lib.hid hs9
      clear hs9
      have HT := Lib.hid hst
      have HK := Lib.hid (And.intro hk (And.intro hg hz))
      have HSE := Lib.hid hs
      have hwx := Ext.size XR.out
      have p_0 := XR.out.has P0.out
      have q_0 := XR.out.has Q0.out
      have hb1s : ¬ b1 = wr.heap.size := by omega
      have hps := cell_lt p_0
      have hpn : ¬ p = wr.heap.size := by omega
      have hqs := cell_lt q_0
      have hqn : ¬ q = wr.heap.size := by omega
      clear hk hg hz hkl hl_x hfx hst hs HSr s1
      go_wp2_with fail
      (with_reducible refine (qlive1_any s xo xv xs xp xf xc xi xb ow v p q s9 HS9.out _ s0 s2 (by first | assumption | (simp [go_sem, World.cell?_alloc_past, p_0, hpn, hps]; done)) (by first | assumption | (simp [go_sem, World.cell?_alloc_past, q_0, hqn, hps, hqs]; done))).mono ?_)
      rintro e w11 ⟨rfl, hx11⟩
      have z11 := hx11.size
      try simp at z11
      have X11 : Hid (Ext w w11) := Lib.hid (Ext.trans (by repeat (first | with_reducible exact XR.out | with_reducible refine Ext.drew ?_ | with_reducible refine Ext.drewN ?_ _ | with_reducible refine Ext.alloc ?_ _ | with_reducible refine Ext.setCell ?_ (by first | omega | (simp; done) | (simp; omega)) _)) hx11)
      clear x_1 x_4 x_5 x_3 x_0 x_6 x_7 x_2 p_0 q_0 XR hx11 z11
      go_wp2_with fail
      go_roundg (gk - 1)
      case measure => have := HK.out; omega
      case rel => exact ⟨by have := HK.out; omega, num_eq (by have := HK.out; omega), num_eq (by rw [show n - (gk - 1) = k + 1 from by have := HK.out; omega]; exact HT.out.symm), Lib.hid (by repeat (first | with_reducible exact X11.out | with_reducible refine Ext.drew ?_ | with_reducible refine Ext.drewN ?_ _ | with_reducible refine Ext.alloc ?_ _ | with_reducible refine Ext.setCell ?_ (by first | omega | (simp; done) | (simp; omega)) _))⟩
end
section
open Go.RowKit Go.ChangeShapes Go.WideShapes Go.Deep Go.Joins
set_option maxRecDepth 100000 in
set_option maxHeartbeats 4000000 in
theorem qsum_any (A : Option Addr) (n c : Nat) (l : List (Int × Int × Int × Int × Int × Int × Int × Int)) (w : World) (h : Sl w 8 A n c (l.flatMap entC)) (hn : n ≤ 100000) (hf : ∀ x ∈ l, FitsQ x) :
    Calls Tryz.prog 40 #[.slice A n c] w fun e w' => e = .returned (.int .u64 (sumP l)) ∧ Ext w w' := by
  have C1 := Lib.hid (qfoldW_any A n c l w h hn hf)
  clear h hf
  go_enter Tryz.func40, Tryz.ntmps40
  go_wp2_with fail
  refine C1.out.mono ?_
  rintro e w1 ⟨rfl, hx⟩
  have HX := Lib.hid hx
  clear hx
  go_wp2
  go_ret
  exact ⟨rfl, HX.out⟩
theorem qlive_any (A : Option Addr) (n c : Nat) (l : List (Int × Int × Int × Int × Int × Int × Int × Int)) (ow v : Int) (w : World) (h : Sl w 8 A n c (l.flatMap entC)) (hn : n ≤ 100000) (hf : ∀ x ∈ l, FitsQ x) :
    Calls Tryz.prog 17 #[.slice A n c, .int .i64 ow, .int .i64 v] w fun e w' => e = .returned (.int .i64 ((liveQ l ow v : Nat) : Int)) ∧ Ext w w' := by
  have hmf : ∀ (fn : Fn) (first cap : Array Value) (w : World), (Instr.makeFunc fn first cap).run Tryz.prog w = .ok (.func fn first cap) w := fun _ _ _ _ => rfl
  have HX0 : Hid (Ext w ((w.alloc (.cells #[.int .i64 ow] 3)).alloc (.cells #[.int .i64 v] 3))) := Lib.hid (((Ext.refl w).alloc _).alloc _)
  have C1 := Lib.hid (qfoldI_any A n c l ow v w.heap.size (w.heap.size + 1) ((w.alloc (.cells #[.int .i64 ow] 3)).alloc (.cells #[.int .i64 v] 3)) (h.ext HX0.out) hn hf (by simp [go_sem]) (by simp [go_sem]))
  clear h hf
  go_enter Tryz.func17, Tryz.ntmps17
  go_wp2_with fail
  refine C1.out.mono ?_
  rintro e w1 ⟨rfl, hx⟩
  have HX := Lib.hid (HX0.out.trans hx)
  clear hx HX0
  go_wp2
  go_ret
  exact ⟨rfl, HX.out⟩
set_option maxRecDepth 100000 in
set_option maxHeartbeats 4000000 in
theorem rsum14_any (A : Option Addr) (n c : Nat) (l : List (Int × Int × Int × Int × Int × Int × Int × Int)) (w : World) (h : Sl w 8 A n c (l.flatMap entC)) (hn : n ≤ 100000) (hf : ∀ x ∈ l, FitsQ x) (u : Int) (f : Bool) (hu : u = if totB l ≤ 4611686018427387904 then totB l else 0) (hf2 : f = decide (totB l ≤ 4611686018427387904)) :
    Calls Tryz.prog 50 #[.slice A n c] w fun e w' => e = .returned (.tuple #[.int .u64 u, .bool f]) ∧ Ext w w' := by
  have hll := h.rlen entC_len (by decide)
  have HS := Lib.hid h
  have HF := Lib.hid hf
  have HLL := Lib.hid hll
  have hns := h.small
  have HU := Lib.hid (And.intro hu hf2)
  clear h hf hll hu hf2
  go_enter Tryz.func50, Tryz.ntmps50
  go_wp2
  go_loopg [4, 5] n (fun gh a i wx => gh ≤ n ∧ i = .int .i64 ((n - gh : Nat) : Int) ∧ (∃ s, a = .int .u64 s ∧ 0 ≤ s ∧ s ≤ 4611686018427387904 ∧ Hid (s = totB (l.take (n - gh)))) ∧ Hid (Ext w wx))
  case atStart => exact ⟨Nat.le_refl _, by simp, ⟨0, rfl, by omega, by omega, Lib.hid (by rw [Nat.sub_self]; rfl)⟩, Lib.hid (Ext.refl _)⟩
  case round =>
    obtain ⟨hg, hi, ⟨s, rfl, s0, s1, hs⟩, XR⟩ := hrel
    obtain ⟨k, hk⟩ : ∃ k, k = n - gk := ⟨_, rfl⟩
    rw [← hk] at hi hs
    subst hi
    by_cases hz : gk = 0
    · have hkn : ¬ (k : Int) < (n : Int) := by omega
      have hkl : l.take k = l := List.take_of_length_le (by have := HLL.out; omega)
      have HS2 := Lib.hid (show s = totB l from by rw [hs.out, hkl])
      have HT : Hid (totB l ≤ 4611686018427387904) := Lib.hid (by rw [← HS2.out]; exact s1)
      obtain rfl : u = s := by rw [HU.out.1, if_pos HT.out, HS2.out]
      obtain rfl : f = true := by rw [HU.out.2, decide_eq_true HT.out]
      clear hk hg hz hkl hs
      go_wp2
      go_ret2
      exact ⟨rfl, XR.out⟩
    · have hkn : (k : Int) < (n : Int) := by omega
      have hkl : k < l.length := by have := HLL.out; omega
      have HSr := Lib.hid (HS.out.ext XR.out)
      obtain ⟨b1, o1, rfl, hb1, hc_x⟩ := HSr.out.rec_ entC_len (show 0 < n from by omega)
      obtain ⟨xw, hl_x⟩ : ∃ x, l[k]? = some x := ⟨_, List.getElem?_eq_getElem (by omega)⟩
      have x_0 := hc_x k xw hl_x 0 _ rfl
      have x_1 := hc_x k xw hl_x 1 _ rfl
      have x_2 := hc_x k xw hl_x 2 _ rfl
      have x_3 := hc_x k xw hl_x 3 _ rfl
      have x_4 := hc_x k xw hl_x 4 _ rfl
      have x_5 := hc_x k xw hl_x 5 _ rfl
      have x_6 := hc_x k xw hl_x 6 _ rfl
      have x_7 := hc_x k xw hl_x 7 _ rfl
      obtain ⟨xo, xv, xs, xp, xf, xc, xi, xb⟩ := xw
      simp only at x_0 x_1 x_2 x_3 x_4 x_5 x_6 x_7
      rw [Nat.add_zero] at x_0
      rw [← Nat.add_assoc] at x_1 x_2 x_3 x_4 x_5 x_6 x_7
      clear hc_x
      have hfx := HF.out _ (List.mem_of_getElem? hl_x)
      have hba : Word xb := hfx.ba
      have hst : totB (l.take (k + 1)) = s + xb := by rw [hs.out]; exact totB_take hl_x
      have hle := totB_le HF.out (k + 1)
      have CA := Lib.hid (fun w => rAdd_any s xb ⟨s0, by omega⟩ hba w)
      obtain ⟨b0, b1'⟩ := hba
      have HT := Lib.hid (And.intro hst hle)
      have HK := Lib.hid (And.intro hk (And.intro hg hz))
      clear hk hg hz hkl hl_x hfx hst hle hs HSr
      by_cases h2 : s + xb < 18446744073709551616
      · rw [show addN s xb = s + xb from if_pos h2, show addE s xb = 0 from if_pos h2] at CA
        by_cases h3 : s + xb ≤ 4611686018427387904
        · have h4 : ¬ 4611686018427387904 < s + xb := by omega
          go_wp2_with fail
          (with_reducible refine (CA.out _).mono ?_)
          rintro e w_1 ⟨rfl, rfl⟩
          go_wp2_with fail
          go_roundg (gk - 1)
          case measure => have := HK.out; omega
          case rel => exact ⟨by have := HK.out; omega, num_eq (by have := HK.out; omega), ⟨s + xb, rfl, by omega, by omega, Lib.hid (by rw [show n - (gk - 1) = k + 1 from by have := HK.out; omega]; exact HT.out.1.symm)⟩, Lib.hid (by repeat (first | with_reducible exact XR.out | with_reducible refine Ext.drew ?_ | with_reducible refine Ext.drewN ?_ _ | with_reducible refine Ext.alloc ?_ _ | with_reducible refine Ext.setCell ?_ (by first | omega | (simp; done) | (simp; omega)) _))⟩
        · have h4 : 4611686018427387904 < s + xb := by omega
          obtain rfl : u = 0 := by rw [HU.out.1, if_neg (by have := HT.out; omega)]
          obtain rfl : f = false := by rw [HU.out.2, decide_eq_false (by have := HT.out; omega)]
          go_wp2_with fail
          (with_reducible refine (CA.out _).mono ?_)
          rintro e w_1 ⟨rfl, rfl⟩
          go_wp2_with fail
          go_ret2
          exact ⟨rfl, (by repeat (first | with_reducible exact XR.out | with_reducible refine Ext.drew ?_ | with_reducible refine Ext.drewN ?_ _ | with_reducible refine Ext.alloc ?_ _ | with_reducible refine Ext.setCell ?_ (by first | omega | (simp; done) | (simp; omega)) _))⟩
      · rw [show addN s xb = 0 from if_neg h2, show addE s xb = 12 from if_neg h2] at CA
        obtain rfl : u = 0 := by rw [HU.out.1, if_neg (by have := HT.out; omega)]
        obtain rfl : f = false := by rw [HU.out.2, decide_eq_false (by have := HT.out; omega)]
        go_wp2_with fail
        (with_reducible refine (CA.out _).mono ?_)
        rintro e w_1 ⟨rfl, rfl⟩
        go_wp2_with fail
        go_ret2
        exact ⟨rfl, (by repeat (first | with_reducible exact XR.out | with_reducible refine Ext.drew ?_ | with_reducible refine Ext.drewN ?_ _ | with_reducible refine Ext.alloc ?_ _ | with_reducible refine Ext.setCell ?_ (by first | omega | (simp; done) | (simp; omega)) _))⟩
end
section
open Go.RowKit Go.ChangeShapes Go.WideShapes Go.Deep Go.Joins
def chkGo : Int → Nat → List (Int × Int × Int × Int × Int × Int × Int × Int) → Int × Int
  | _, _, [] => (0, 0)
  | a, k, x :: l => if oneQ x a ≠ 0 then (oneQ x a, (k : Int)) else chkGo (crE x) (k + 1) l
def chkQ (l : List (Int × Int × Int × Int × Int × Int × Int × Int)) : Int × Int := if 32768 < l.length then (4, 32768) else if (chkGo 0 0 l).1 ≠ 0 then chkGo 0 0 l else if totB l ≤ 4611686018427387904 then (0, 0) else (12, 0)
theorem chkGo_at {l : List (Int × Int × Int × Int × Int × Int × Int × Int)} {k : Nat} {x : (Int × Int × Int × Int × Int × Int × Int × Int)} {a : Int} (h : l[k]? = some x) : chkGo a k (l.drop k) = if oneQ x a ≠ 0 then (oneQ x a, (k : Int)) else chkGo (crE x) (k + 1) (l.drop (k + 1)) := by
  obtain ⟨hk, hx⟩ := List.getElem?_eq_some_iff.1 h
  rw [List.drop_eq_getElem_cons hk, hx]
  rfl
theorem qone_ev (xo xv xs xp xf xc xi xb E a r : Int) (A : Option Addr) (n c : Nat) (l : List (Int × Int × Int × Int × Int × Int × Int × Int)) (w : World) (hE : chkS xv xs xp xf = E) (hs : Sl w 8 A n c (l.flatMap entC)) (ha : lastQ l = a) (hr : oneG xo E xc xs a xi xb = r) :
    Calls Tryz.prog 38 #[.agg #[.int .i64 xo, .int .i64 xv, .int .i64 xs, .int .i64 xp, .int .i64 xf, .int .i64 xc, .int .u64 xi, .int .u64 xb], .slice A n c] w fun e w' => e = .returned (.int .i64 r) ∧ Ext w w' := by
  rw [← hr]; exact qone_any xo xv xs xp xf xc xi xb E a A n c l w hE hs ha
theorem rOne_ev (xo xv xs xp xf xc xi xb E a r : Int) (w : World) (hE : chkS xv xs xp xf = E) (hr : oneG xo E xc xs a xi xb = r) :
    Calls Tryz.prog 47 #[.agg #[.int .i64 xo, .int .i64 xv, .int .i64 xs, .int .i64 xp, .int .i64 xf, .int .i64 xc, .int .u64 xi, .int .u64 xb], .int .i64 a] w fun e w' => e = .returned (.int .i64 r) ∧ Ext w w' := by
  rw [← hr]; exact rOne_any xo xv xs xp xf xc xi xb E a w hE
theorem rLast_ev (A : Option Addr) (n c : Nat) (l : List (Int × Int × Int × Int × Int × Int × Int × Int)) (a : Int) (w : World) (hs : Sl w 8 A n c (l.flatMap entC)) (ha : lastQ l = a) :
    Calls Tryz.prog 48 #[.slice A n c] w fun e w' => e = .returned (.int .i64 a) ∧ w = w' := by
  rw [← ha]; exact rLast_any A n c l w hs
theorem rsum14_ev (A : Option Addr) (n c : Nat) (l : List (Int × Int × Int × Int × Int × Int × Int × Int)) (u : Int) (f : Bool) (w : World) (h : Sl w 8 A n c (l.flatMap entC)) (hn : n ≤ 100000) (hf : ∀ x ∈ l, FitsQ x) (hu : u = if totB l ≤ 4611686018427387904 then totB l else 0) (hf2 : f = decide (totB l ≤ 4611686018427387904)) :
    Calls Tryz.prog 50 #[.slice A n c] w fun e w' => e = .returned (.tuple #[.int .u64 u, .bool f]) ∧ Ext w w' := rsum14_any A n c l w h hn hf u f hu hf2
set_option maxRecDepth 100000 in
set_option maxHeartbeats 4000000 in
theorem qcheck_any (A : Option Addr) (n c : Nat) (l : List (Int × Int × Int × Int × Int × Int × Int × Int)) (e1 e2 : Int) (w : World) (h : Sl w 8 A n c (l.flatMap entC)) (hf : ∀ x ∈ l, FitsQ x) (he : chkQ l = (e1, e2)) :
    Calls Tryz.prog 19 #[.slice A n c] w fun e w' => e = .returned (.tuple #[.int .i64 e1, .int .i64 e2]) ∧ Ext w w' := by
  have hll := h.rlen entC_len (by decide)
  have hns := h.small
  unfold chkQ at he
  rw [hll] at he
  by_cases hbig : 32768 < n
  · rw [if_pos hbig] at he
    injection he with he1 he2
    subst he1; subst he2
    have hb : (32768 : Int) < (n : Int) := by omega
    clear h hf hll
    go_enter Tryz.func19, Tryz.ntmps19
    go_wp2
    go_ret2
    exact ⟨rfl, Ext.refl _⟩
  · rw [if_neg hbig] at he
    have hb : ¬ (32768 : Int) < (n : Int) := by omega
    have HS := Lib.hid h
    have HF := Lib.hid hf
    have HLL := Lib.hid hll
    have HE := Lib.hid he
    have CS := Lib.hid (fun w' (hx : Ext w w') => qsum_any A n c l w' (h.ext hx) (by omega) hf)
    clear h hf hll he
    go_enter Tryz.func19, Tryz.ntmps19
    go_wp2
    go_loopg [12] n (fun gh i wx => gh ≤ n ∧ i = .int .i64 ((n - gh : Nat) : Int) ∧ Hid (chkGo 0 0 l = chkGo (lastQ (l.take (n - gh))) (n - gh) (l.drop (n - gh))) ∧ Hid (Ext w wx))
    case atStart => exact ⟨Nat.le_refl _, by simp, Lib.hid (by rw [Nat.sub_self]; rfl), Lib.hid (Ext.refl _)⟩
    case round =>
      obtain ⟨hg, hi, hgo, XR⟩ := hrel
      obtain ⟨k, hk⟩ : ∃ k, k = n - gk := ⟨_, rfl⟩
      rw [← hk] at hi hgo
      subst hi
      by_cases hz : gk = 0
      · have hkn : ¬ (k : Int) < (n : Int) := by omega
        have hgo2 : chkGo 0 0 l = (0, 0) := by
          rw [hgo.out, List.drop_of_length_le (by have := HLL.out; omega)]
          rfl
        have he := HE.out
        rw [hgo2, if_neg (by simp)] at he
        by_cases ht : totB l ≤ 4611686018427387904
        · rw [if_pos ht] at he
          injection he with he1 he2
          subst he1; subst he2
          have C1 := CS.out wr XR.out
          rw [show sumP l = totB l from if_pos ht] at C1
          have C2 := Lib.hid C1
          have ht2 : ¬ 4611686018427387904 < totB l := by omega
          clear hk hg hz hgo hgo2 HE C1 ht CS
          go_wp2_with fail
          refine C2.out.mono ?_
          rintro e w3 ⟨rfl, hx3⟩
          have X3 := Lib.hid (XR.out.trans hx3)
          clear hx3
          go_wp2_with fail
          go_ret2
          exact ⟨rfl, X3.out⟩
        · rw [if_neg ht] at he
          injection he with he1 he2
          subst he1; subst he2
          have C1 := CS.out wr XR.out
          rw [show sumP l = 4611686018427387905 from if_neg ht] at C1
          have C2 := Lib.hid C1
          clear hk hg hz hgo hgo2 HE C1 ht CS
          go_wp2_with fail
          refine C2.out.mono ?_
          rintro e w3 ⟨rfl, hx3⟩
          have X3 := Lib.hid (XR.out.trans hx3)
          clear hx3
          go_wp2_with fail
          go_ret2
          exact ⟨rfl, X3.out⟩
      · have hkn : (k : Int) < (n : Int) := by omega
        have hkl : k < l.length := by have := HLL.out; omega
        have HSr := Lib.hid (HS.out.ext XR.out)
        have HSk := Lib.hid (show Sl wr 8 A k c ((l.take k).flatMap entC) from by have h := HSr.out.take (show k ≤ n by omega); rw [flat_take entC_len] at h; exact h)
        obtain ⟨b1, o1, rfl, hb1, hc_x⟩ := HSr.out.rec_ entC_len (show 0 < n from by omega)
        obtain ⟨xw, hl_x⟩ : ∃ x, l[k]? = some x := ⟨_, List.getElem?_eq_getElem (by omega)⟩
        have x_0 := hc_x k xw hl_x 0 _ rfl
        have x_1 := hc_x k xw hl_x 1 _ rfl
        have x_2 := hc_x k xw hl_x 2 _ rfl
        have x_3 := hc_x k xw hl_x 3 _ rfl
        have x_4 := hc_x k xw hl_x 4 _ rfl
        have x_5 := hc_x k xw hl_x 5 _ rfl
        have x_6 := hc_x k xw hl_x 6 _ rfl
        have x_7 := hc_x k xw hl_x 7 _ rfl
        obtain ⟨xo, xv, xs, xp, xf, xc, xi, xb⟩ := xw
        simp only at x_0 x_1 x_2 x_3 x_4 x_5 x_6 x_7
        rw [Nat.add_zero] at x_0
        rw [← Nat.add_assoc] at x_1 x_2 x_3 x_4 x_5 x_6 x_7
        clear hc_x
        obtain ⟨a, ha⟩ : ∃ a, lastQ (l.take k) = a := ⟨_, rfl⟩
        obtain ⟨E, hE⟩ : ∃ E, chkS xv xs xp xf = E := ⟨_, rfl⟩
        obtain ⟨r, hr⟩ : ∃ r, oneG xo E xc xs a xi xb = r := ⟨_, rfl⟩
        have hst := hgo.out
        rw [ha, chkGo_at hl_x, show oneQ (xo, xv, xs, xp, xf, xc, xi, xb) a = r from by rw [← hr, ← hE]; rfl] at hst
        have hnx : lastQ (l.take (k + 1)) = xc := lastQ_take hl_x
        have HA := Lib.hid (And.intro ha (And.intro hE hr))
        have HT := Lib.hid (And.intro hst hnx)
        have HK := Lib.hid (And.intro hk (And.intro hg hz))
        have hwx := Ext.size XR.out
        have hb1s : ¬ b1 = wr.heap.size := by omega
        have hkc : (k : Int) ≤ (c : Int) := by have := HS.out.2.1; omega
        have hcs : (c : Int) ≤ 9223372036854775807 := by have h := HS.out.2.2.1; simp [maxLen] at h; omega
        clear hk hg hz hkl hl_x hst hnx hgo HSr ha hE hr
        by_cases hr0 : r = 0
        · have hr1 : (r != 0) = false := by simp [hr0]
          have hr0h := Lib.hid hr0
          clear hr0
          go_wp2_with fail
          refine wp_region_held_drew (S := fun w' => w'.cell? ⟨wr.heap.size, 0, none⟩ = some (.int .i64 xo) ∧ w'.cell? ⟨wr.heap.size, 1, none⟩ = some (.int .i64 xv) ∧ w'.cell? ⟨wr.heap.size, 2, none⟩ = some (.int .i64 xs) ∧ w'.cell? ⟨wr.heap.size, 3, none⟩ = some (.int .i64 xp) ∧ w'.cell? ⟨wr.heap.size, 4, none⟩ = some (.int .i64 xf) ∧ w'.cell? ⟨wr.heap.size, 5, none⟩ = some (.int .i64 xc) ∧ w'.cell? ⟨wr.heap.size, 6, none⟩ = some (.int .u64 xi) ∧ w'.cell? ⟨wr.heap.size, 7, none⟩ = some (.int .u64 xb)) (by kernel_rfl) (by first | exact ⟨c0_0, c0_1, c0_2, c0_3, c0_4, c0_5, c0_6, c0_7⟩ | (simp [go_sem, World.cell?_alloc_past, x_0, x_1, x_2, x_3, x_4, x_5, x_6, x_7, hb1s, hb1]; done)) (fun hHeld => ?_)
          (refine' take_in 0 rfl (by kernel_rfl) (by kernel_rfl) (by kernel_rfl) (fun _ _ _ h => h) (by rfl) (by assumption) ?_ ?_; rotate_left; focus (intro w hSw; (try dsimp only at hSw); go_simp; try with_reducible rfl)); try simp only [Act.put, List.setIfInBounds_toArray, List.set_cons_zero, List.set_cons_succ]
          (refine' take_in 1 rfl (by kernel_rfl) (by kernel_rfl) (by kernel_rfl) (fun _ _ _ h => h) (by rfl) (by assumption) ?_ ?_; rotate_left; focus (intro w hSw; (try dsimp only at hSw); go_simp; try with_reducible rfl)); try simp only [Act.put, List.setIfInBounds_toArray, List.set_cons_zero, List.set_cons_succ]
          (refine' take_in 2 rfl (by kernel_rfl) (by kernel_rfl) (by kernel_rfl) (fun _ _ _ h => h) (by rfl) (by assumption) ?_ ?_; rotate_left; focus (intro w hSw; (try dsimp only at hSw); go_simp; try with_reducible rfl)); try simp only [Act.put, List.setIfInBounds_toArray, List.set_cons_zero, List.set_cons_succ]
          (refine' take_in 3 rfl (by kernel_rfl) (by kernel_rfl) (by kernel_rfl) (fun _ _ _ h => h) (by rfl) (by assumption) ?_ ?_; rotate_left; focus (intro w hSw; (try dsimp only at hSw); go_simp; try with_reducible rfl)); try simp only [Act.put, List.setIfInBounds_toArray, List.set_cons_zero, List.set_cons_succ]
          refine' next_in 4 rfl (by kernel_rfl) (by rfl) (fun K hK => ?_)
          go_simp
          (with_reducible refine (qone_ev xo xv xs xp xf xc xi xb E a r (some ⟨b1, o1, none⟩) k c (l.take k) _ HA.out.2.1 (HSk.out.ext (by repeat (first | with_reducible exact Ext.refl _ | with_reducible refine Ext.drew ?_ | with_reducible refine Ext.drewN ?_ _ | with_reducible refine Ext.alloc ?_ _ | with_reducible refine Ext.setCell ?_ (by first | omega | (simp; done) | (simp; omega)) _))) HA.out.1 HA.out.2.2).mono ?_)
          rintro e w11 ⟨rfl, hx11⟩
          have c0_0 : w11.cell? ⟨wr.heap.size, 0, none⟩ = some (.int .i64 xo) := hx11.has (by first | fail | (simp [go_sem, World.cell?_alloc_past, x_0, x_1, x_2, x_3, x_4, x_5, x_6, x_7, hb1s, hb1]; done))
          have c0_1 : w11.cell? ⟨wr.heap.size, 1, none⟩ = some (.int .i64 xv) := hx11.has (by first | fail | (simp [go_sem, World.cell?_alloc_past, x_0, x_1, x_2, x_3, x_4, x_5, x_6, x_7, hb1s, hb1]; done))
          have c0_2 : w11.cell? ⟨wr.heap.size, 2, none⟩ = some (.int .i64 xs) := hx11.has (by first | fail | (simp [go_sem, World.cell?_alloc_past, x_0, x_1, x_2, x_3, x_4, x_5, x_6, x_7, hb1s, hb1]; done))
          have c0_3 : w11.cell? ⟨wr.heap.size, 3, none⟩ = some (.int .i64 xp) := hx11.has (by first | fail | (simp [go_sem, World.cell?_alloc_past, x_0, x_1, x_2, x_3, x_4, x_5, x_6, x_7, hb1s, hb1]; done))
          have c0_4 : w11.cell? ⟨wr.heap.size, 4, none⟩ = some (.int .i64 xf) := hx11.has (by first | fail | (simp [go_sem, World.cell?_alloc_past, x_0, x_1, x_2, x_3, x_4, x_5, x_6, x_7, hb1s, hb1]; done))
          have c0_5 : w11.cell? ⟨wr.heap.size, 5, none⟩ = some (.int .i64 xc) := hx11.has (by first | fail | (simp [go_sem, World.cell?_alloc_past, x_0, x_1, x_2, x_3, x_4, x_5, x_6, x_7, hb1s, hb1]; done))
          have c0_6 : w11.cell? ⟨wr.heap.size, 6, none⟩ = some (.int .u64 xi) := hx11.has (by first | fail | (simp [go_sem, World.cell?_alloc_past, x_0, x_1, x_2, x_3, x_4, x_5, x_6, x_7, hb1s, hb1]; done))
          have c0_7 : w11.cell? ⟨wr.heap.size, 7, none⟩ = some (.int .u64 xb) := hx11.has (by first | fail | (simp [go_sem, World.cell?_alloc_past, x_0, x_1, x_2, x_3, x_4, x_5, x_6, x_7, hb1s, hb1]; done))
          have z11 := hx11.size
          try simp at z11
          have rc0 : wr.heap.size < w11.heap.size := by omega
          have rc0a : wr.heap.size < w11.heap.size + 1 := by omega
          have rc0b : wr.heap.size < w11.heap.size + 1 + 1 := by omega
          have rc0c : wr.heap.size < w11.heap.size + 1 + 1 + 1 := by omega
          have rc0n : ¬ wr.heap.size = w11.heap.size := by omega
          replace HSk := Lib.hid (HSk.out.ext (Ext.trans (by repeat (first | with_reducible exact Ext.refl _ | with_reducible refine Ext.drew ?_ | with_reducible refine Ext.drewN ?_ _ | with_reducible refine Ext.alloc ?_ _ | with_reducible refine Ext.setCell ?_ (by first | omega | (simp; done) | (simp; omega)) _)) hx11))
          have X11 : Hid (Ext w w11) := Lib.hid (Ext.trans (by repeat (first | with_reducible exact XR.out | with_reducible refine Ext.drew ?_ | with_reducible refine Ext.drewN ?_ _ | with_reducible refine Ext.alloc ?_ _ | with_reducible refine Ext.setCell ?_ (by first | omega | (simp; done) | (simp; omega)) _)) hx11)
          clear x_2 x_7 x_5 x_0 x_1 x_4 x_3 x_6 XR hx11 z11
          refine hK.out _ _ (by (first | exact ⟨c0_0, c0_1, c0_2, c0_3, c0_4, c0_5, c0_6, c0_7⟩ | (simp [go_sem, World.cell?_alloc_past, c0_0, c0_1, c0_2, c0_3, c0_4, c0_5, c0_6, c0_7, rc0, rc0a, rc0b, rc0c, rc0n, hb1s, hb1]; done))) (fun hHeld => ?_); clear hK K; try simp only [Act.put, List.setIfInBounds_toArray, List.set_cons_zero, List.set_cons_succ]
          (refine' take_in 5 rfl (by kernel_rfl) (by kernel_rfl) (by kernel_rfl) (fun _ _ _ h => h) (by rfl) (by assumption) ?_ ?_; rotate_left; focus (intro w hSw; (try dsimp only at hSw); go_simp; try with_reducible rfl)); try simp only [Act.put, List.setIfInBounds_toArray, List.set_cons_zero, List.set_cons_succ]
          refine wpAnyH_done (by kernel_rfl) ?_ _
          go_wp2_with fail
          go_roundg (gk - 1)
          case measure => have := HK.out; omega
          case rel => exact ⟨by have := HK.out; omega, num_eq (by have := HK.out; omega), Lib.hid (by rw [show n - (gk - 1) = k + 1 from by have := HK.out; omega, HT.out.1, HT.out.2, if_neg (by simpa using hr0h.out)]; rfl), Lib.hid (by repeat (first | with_reducible exact X11.out | with_reducible refine Ext.drew ?_ | with_reducible refine Ext.drewN ?_ _ | with_reducible refine Ext.alloc ?_ _ | with_reducible refine Ext.setCell ?_ (by first | omega | (simp; done) | (simp; omega)) _))⟩
        · have hr1 : (r != 0) = true := by simpa using hr0
          have he := HE.out
          rw [HT.out.1, if_pos hr0, if_pos hr0] at he
          injection he with he1 he2
          subst he1; subst he2
          clear hr0
          go_wp2_with fail
          refine wp_region_held_drew (S := fun w' => w'.cell? ⟨wr.heap.size, 0, none⟩ = some (.int .i64 xo) ∧ w'.cell? ⟨wr.heap.size, 1, none⟩ = some (.int .i64 xv) ∧ w'.cell? ⟨wr.heap.size, 2, none⟩ = some (.int .i64 xs) ∧ w'.cell? ⟨wr.heap.size, 3, none⟩ = some (.int .i64 xp) ∧ w'.cell? ⟨wr.heap.size, 4, none⟩ = some (.int .i64 xf) ∧ w'.cell? ⟨wr.heap.size, 5, none⟩ = some (.int .i64 xc) ∧ w'.cell? ⟨wr.heap.size, 6, none⟩ = some (.int .u64 xi) ∧ w'.cell? ⟨wr.heap.size, 7, none⟩ = some (.int .u64 xb)) (by kernel_rfl) (by first | exact ⟨c0_0, c0_1, c0_2, c0_3, c0_4, c0_5, c0_6, c0_7⟩ | (simp [go_sem, World.cell?_alloc_past, x_0, x_1, x_2, x_3, x_4, x_5, x_6, x_7, hb1s, hb1]; done)) (fun hHeld => ?_)
          (refine' take_in 0 rfl (by kernel_rfl) (by kernel_rfl) (by kernel_rfl) (fun _ _ _ h => h) (by rfl) (by assumption) ?_ ?_; rotate_left; focus (intro w hSw; (try dsimp only at hSw); go_simp; try with_reducible rfl)); try simp only [Act.put, List.setIfInBounds_toArray, List.set_cons_zero, List.set_cons_succ]
          (refine' take_in 1 rfl (by kernel_rfl) (by kernel_rfl) (by kernel_rfl) (fun _ _ _ h => h) (by rfl) (by assumption) ?_ ?_; rotate_left; focus (intro w hSw; (try dsimp only at hSw); go_simp; try with_reducible rfl)); try simp only [Act.put, List.setIfInBounds_toArray, List.set_cons_zero, List.set_cons_succ]
          (refine' take_in 2 rfl (by kernel_rfl) (by kernel_rfl) (by kernel_rfl) (fun _ _ _ h => h) (by rfl) (by assumption) ?_ ?_; rotate_left; focus (intro w hSw; (try dsimp only at hSw); go_simp; try with_reducible rfl)); try simp only [Act.put, List.setIfInBounds_toArray, List.set_cons_zero, List.set_cons_succ]
          (refine' take_in 3 rfl (by kernel_rfl) (by kernel_rfl) (by kernel_rfl) (fun _ _ _ h => h) (by rfl) (by assumption) ?_ ?_; rotate_left; focus (intro w hSw; (try dsimp only at hSw); go_simp; try with_reducible rfl)); try simp only [Act.put, List.setIfInBounds_toArray, List.set_cons_zero, List.set_cons_succ]
          refine' next_in 4 rfl (by kernel_rfl) (by rfl) (fun K hK => ?_)
          go_simp
          (with_reducible refine (qone_ev xo xv xs xp xf xc xi xb E a r (some ⟨b1, o1, none⟩) k c (l.take k) _ HA.out.2.1 (HSk.out.ext (by repeat (first | with_reducible exact Ext.refl _ | with_reducible refine Ext.drew ?_ | with_reducible refine Ext.drewN ?_ _ | with_reducible refine Ext.alloc ?_ _ | with_reducible refine Ext.setCell ?_ (by first | omega | (simp; done) | (simp; omega)) _))) HA.out.1 HA.out.2.2).mono ?_)
          rintro e w11 ⟨rfl, hx11⟩
          have c0_0 : w11.cell? ⟨wr.heap.size, 0, none⟩ = some (.int .i64 xo) := hx11.has (by first | fail | (simp [go_sem, World.cell?_alloc_past, x_0, x_1, x_2, x_3, x_4, x_5, x_6, x_7, hb1s, hb1]; done))
          have c0_1 : w11.cell? ⟨wr.heap.size, 1, none⟩ = some (.int .i64 xv) := hx11.has (by first | fail | (simp [go_sem, World.cell?_alloc_past, x_0, x_1, x_2, x_3, x_4, x_5, x_6, x_7, hb1s, hb1]; done))
          have c0_2 : w11.cell? ⟨wr.heap.size, 2, none⟩ = some (.int .i64 xs) := hx11.has (by first | fail | (simp [go_sem, World.cell?_alloc_past, x_0, x_1, x_2, x_3, x_4, x_5, x_6, x_7, hb1s, hb1]; done))
          have c0_3 : w11.cell? ⟨wr.heap.size, 3, none⟩ = some (.int .i64 xp) := hx11.has (by first | fail | (simp [go_sem, World.cell?_alloc_past, x_0, x_1, x_2, x_3, x_4, x_5, x_6, x_7, hb1s, hb1]; done))
          have c0_4 : w11.cell? ⟨wr.heap.size, 4, none⟩ = some (.int .i64 xf) := hx11.has (by first | fail | (simp [go_sem, World.cell?_alloc_past, x_0, x_1, x_2, x_3, x_4, x_5, x_6, x_7, hb1s, hb1]; done))
          have c0_5 : w11.cell? ⟨wr.heap.size, 5, none⟩ = some (.int .i64 xc) := hx11.has (by first | fail | (simp [go_sem, World.cell?_alloc_past, x_0, x_1, x_2, x_3, x_4, x_5, x_6, x_7, hb1s, hb1]; done))
          have c0_6 : w11.cell? ⟨wr.heap.size, 6, none⟩ = some (.int .u64 xi) := hx11.has (by first | fail | (simp [go_sem, World.cell?_alloc_past, x_0, x_1, x_2, x_3, x_4, x_5, x_6, x_7, hb1s, hb1]; done))
          have c0_7 : w11.cell? ⟨wr.heap.size, 7, none⟩ = some (.int .u64 xb) := hx11.has (by first | fail | (simp [go_sem, World.cell?_alloc_past, x_0, x_1, x_2, x_3, x_4, x_5, x_6, x_7, hb1s, hb1]; done))
          have z11 := hx11.size
          try simp at z11
          have rc0 : wr.heap.size < w11.heap.size := by omega
          have rc0a : wr.heap.size < w11.heap.size + 1 := by omega
          have rc0b : wr.heap.size < w11.heap.size + 1 + 1 := by omega
          have rc0c : wr.heap.size < w11.heap.size + 1 + 1 + 1 := by omega
          have rc0n : ¬ wr.heap.size = w11.heap.size := by omega
          replace HSk := Lib.hid (HSk.out.ext (Ext.trans (by repeat (first | with_reducible exact Ext.refl _ | with_reducible refine Ext.drew ?_ | with_reducible refine Ext.drewN ?_ _ | with_reducible refine Ext.alloc ?_ _ | with_reducible refine Ext.setCell ?_ (by first | omega | (simp; done) | (simp; omega)) _)) hx11))
          have X11 : Hid (Ext w w11) := Lib.hid (Ext.trans (by repeat (first | with_reducible exact XR.out | with_reducible refine Ext.drew ?_ | with_reducible refine Ext.drewN ?_ _ | with_reducible refine Ext.alloc ?_ _ | with_reducible refine Ext.setCell ?_ (by first | omega | (simp; done) | (simp; omega)) _)) hx11)
          clear x_2 x_7 x_5 x_0 x_1 x_4 x_3 x_6 XR hx11 z11
          refine hK.out _ _ (by (first | exact ⟨c0_0, c0_1, c0_2, c0_3, c0_4, c0_5, c0_6, c0_7⟩ | (simp [go_sem, World.cell?_alloc_past, c0_0, c0_1, c0_2, c0_3, c0_4, c0_5, c0_6, c0_7, rc0, rc0a, rc0b, rc0c, rc0n, hb1s, hb1]; done))) (fun hHeld => ?_); clear hK K; try simp only [Act.put, List.setIfInBounds_toArray, List.set_cons_zero, List.set_cons_succ]
          (refine' take_in 5 rfl (by kernel_rfl) (by kernel_rfl) (by kernel_rfl) (fun _ _ _ h => h) (by rfl) (by assumption) ?_ ?_; rotate_left; focus (intro w hSw; (try dsimp only at hSw); go_simp; try with_reducible rfl)); try simp only [Act.put, List.setIfInBounds_toArray, List.set_cons_zero, List.set_cons_succ]
          refine wpAnyH_done (by kernel_rfl) ?_ _
          go_wp2_with fail
          go_ret2
          exact ⟨ret_two rfl rfl, (by repeat (first | with_reducible exact X11.out | with_reducible refine Ext.drew ?_ | with_reducible refine Ext.drewN ?_ _ | with_reducible refine Ext.alloc ?_ _ | with_reducible refine Ext.setCell ?_ (by first | omega | (simp; done) | (simp; omega)) _))⟩
set_option maxRecDepth 100000 in
set_option maxHeartbeats 4000000 in
theorem rcheck14_any (A : Option Addr) (n c : Nat) (l : List (Int × Int × Int × Int × Int × Int × Int × Int)) (e1 e2 : Int) (w : World) (h : Sl w 8 A n c (l.flatMap entC)) (hf : ∀ x ∈ l, FitsQ x) (he : chkQ l = (e1, e2)) :
    Calls Tryz.prog 25 #[.slice A n c] w fun e w' => e = .returned (.tuple #[.int .i64 e1, .int .i64 e2]) ∧ Ext w w' := by
  have hll := h.rlen entC_len (by decide)
  have hns := h.small
  unfold chkQ at he
  rw [hll] at he
  by_cases hbig : 32768 < n
  · rw [if_pos hbig] at he
    injection he with he1 he2
    subst he1; subst he2
    have hb : (32768 : Int) < (n : Int) := by omega
    clear h hf hll
    go_enter Tryz.func25, Tryz.ntmps25
    go_wp2
    go_ret2
    exact ⟨rfl, Ext.refl _⟩
  · rw [if_neg hbig] at he
    have hb : ¬ (32768 : Int) < (n : Int) := by omega
    have HS := Lib.hid h
    have HF := Lib.hid hf
    have HLL := Lib.hid hll
    have HE := Lib.hid he
    have CS := Lib.hid (fun w' (hx : Ext w w') u f hu hf2 => rsum14_ev A n c l u f w' (h.ext hx) (by omega) hf hu hf2)
    clear h hf hll he
    go_enter Tryz.func25, Tryz.ntmps25
    go_wp2
    go_loopg [4] n (fun gh i wx => gh ≤ n ∧ i = .int .i64 ((n - gh : Nat) : Int) ∧ Hid (chkGo 0 0 l = chkGo (lastQ (l.take (n - gh))) (n - gh) (l.drop (n - gh))) ∧ Hid (Ext w wx))
    case atStart => exact ⟨Nat.le_refl _, by simp, Lib.hid (by rw [Nat.sub_self]; rfl), Lib.hid (Ext.refl _)⟩
    case round =>
      obtain ⟨hg, hi, hgo, XR⟩ := hrel
      obtain ⟨k, hk⟩ : ∃ k, k = n - gk := ⟨_, rfl⟩
      rw [← hk] at hi hgo
      subst hi
      by_cases hz : gk = 0
      · have hkn : ¬ (k : Int) < (n : Int) := by omega
        have hgo2 : chkGo 0 0 l = (0, 0) := by
          rw [hgo.out, List.drop_of_length_le (by have := HLL.out; omega)]
          rfl
        have he := HE.out
        rw [hgo2, if_neg (by simp)] at he
        by_cases ht : totB l ≤ 4611686018427387904
        · rw [if_pos ht] at he
          injection he with he1 he2
          subst he1; subst he2
          have C2 := Lib.hid (CS.out wr XR.out (totB l) true (by rw [if_pos ht]) (by rw [decide_eq_true ht]))
          clear hk hg hz hgo hgo2 HE ht CS
          go_wp2_with fail
          refine C2.out.mono ?_
          rintro e w3 ⟨rfl, hx3⟩
          have X3 := Lib.hid (XR.out.trans hx3)
          clear hx3
          go_wp2_with fail
          go_ret2
          exact ⟨rfl, X3.out⟩
        · rw [if_neg ht] at he
          injection he with he1 he2
          subst he1; subst he2
          have C2 := Lib.hid (CS.out wr XR.out (0) false (by rw [if_neg ht]) (by rw [decide_eq_false ht]))
          clear hk hg hz hgo hgo2 HE ht CS
          go_wp2_with fail
          refine C2.out.mono ?_
          rintro e w3 ⟨rfl, hx3⟩
          have X3 := Lib.hid (XR.out.trans hx3)
          clear hx3
          go_wp2_with fail
          go_ret2
          exact ⟨rfl, X3.out⟩
      · have hkn : (k : Int) < (n : Int) := by omega
        have hkl : k < l.length := by have := HLL.out; omega
        have HSr := Lib.hid (HS.out.ext XR.out)
        have HSk := Lib.hid (show Sl wr 8 A k c ((l.take k).flatMap entC) from by have h := HSr.out.take (show k ≤ n by omega); rw [flat_take entC_len] at h; exact h)
        obtain ⟨b1, o1, rfl, hb1, hc_x⟩ := HSr.out.rec_ entC_len (show 0 < n from by omega)
        obtain ⟨xw, hl_x⟩ : ∃ x, l[k]? = some x := ⟨_, List.getElem?_eq_getElem (by omega)⟩
        have x_0 := hc_x k xw hl_x 0 _ rfl
        have x_1 := hc_x k xw hl_x 1 _ rfl
        have x_2 := hc_x k xw hl_x 2 _ rfl
        have x_3 := hc_x k xw hl_x 3 _ rfl
        have x_4 := hc_x k xw hl_x 4 _ rfl
        have x_5 := hc_x k xw hl_x 5 _ rfl
        have x_6 := hc_x k xw hl_x 6 _ rfl
        have x_7 := hc_x k xw hl_x 7 _ rfl
        obtain ⟨xo, xv, xs, xp, xf, xc, xi, xb⟩ := xw
        simp only at x_0 x_1 x_2 x_3 x_4 x_5 x_6 x_7
        rw [Nat.add_zero] at x_0
        rw [← Nat.add_assoc] at x_1 x_2 x_3 x_4 x_5 x_6 x_7
        clear hc_x
        obtain ⟨a, ha⟩ : ∃ a, lastQ (l.take k) = a := ⟨_, rfl⟩
        obtain ⟨E, hE⟩ : ∃ E, chkS xv xs xp xf = E := ⟨_, rfl⟩
        obtain ⟨r, hr⟩ : ∃ r, oneG xo E xc xs a xi xb = r := ⟨_, rfl⟩
        have hst := hgo.out
        rw [ha, chkGo_at hl_x, show oneQ (xo, xv, xs, xp, xf, xc, xi, xb) a = r from by rw [← hr, ← hE]; rfl] at hst
        have hnx : lastQ (l.take (k + 1)) = xc := lastQ_take hl_x
        have HA := Lib.hid (And.intro ha (And.intro hE hr))
        have HT := Lib.hid (And.intro hst hnx)
        have HK := Lib.hid (And.intro hk (And.intro hg hz))
        have hwx := Ext.size XR.out
        have hb1s : ¬ b1 = wr.heap.size := by omega
        have hkc : (k : Int) ≤ (c : Int) := by have := HS.out.2.1; omega
        have hcs : (c : Int) ≤ 9223372036854775807 := by have h := HS.out.2.2.1; simp [maxLen] at h; omega
        clear hk hg hz hkl hl_x hst hnx hgo HSr ha hE hr
        by_cases hr0 : r = 0
        · have hr1 : (r != 0) = false := by simp [hr0]
          have hr0h := Lib.hid hr0
          clear hr0
          go_wp2_with fail
          refine wp_region_held_drew (S := fun w' => w'.cell? ⟨b1, o1 + k * 8, none⟩ = some (.int .i64 xo) ∧ w'.cell? ⟨b1, o1 + k * 8 + 1, none⟩ = some (.int .i64 xv) ∧ w'.cell? ⟨b1, o1 + k * 8 + 2, none⟩ = some (.int .i64 xs) ∧ w'.cell? ⟨b1, o1 + k * 8 + 3, none⟩ = some (.int .i64 xp) ∧ w'.cell? ⟨b1, o1 + k * 8 + 4, none⟩ = some (.int .i64 xf) ∧ w'.cell? ⟨b1, o1 + k * 8 + 5, none⟩ = some (.int .i64 xc) ∧ w'.cell? ⟨b1, o1 + k * 8 + 6, none⟩ = some (.int .u64 xi) ∧ w'.cell? ⟨b1, o1 + k * 8 + 7, none⟩ = some (.int .u64 xb)) (by kernel_rfl) (by first | exact ⟨x_0, x_1, x_2, x_3, x_4, x_5, x_6, x_7⟩ | (simp [go_sem, World.cell?_alloc_past, x_0, x_1, x_2, x_3, x_4, x_5, x_6, x_7, hb1s, hb1]; done)) (fun hHeld => ?_)
          (refine' take_in 0 rfl (by kernel_rfl) (by kernel_rfl) (by kernel_rfl) (fun _ _ _ h => h) (by rfl) (by assumption) ?_ ?_; rotate_left; focus (intro w hSw; (try dsimp only at hSw); go_simp; try with_reducible rfl)); try simp only [Act.put, List.setIfInBounds_toArray, List.set_cons_zero, List.set_cons_succ]
          (refine' take_in 1 rfl (by kernel_rfl) (by kernel_rfl) (by kernel_rfl) (fun _ _ _ h => h) (by rfl) (by assumption) ?_ ?_; rotate_left; focus (intro w hSw; (try dsimp only at hSw); go_simp; try with_reducible rfl)); try simp only [Act.put, List.setIfInBounds_toArray, List.set_cons_zero, List.set_cons_succ]
          (refine' take_in 2 rfl (by kernel_rfl) (by kernel_rfl) (by kernel_rfl) (fun _ _ _ h => h) (by rfl) (by assumption) ?_ ?_; rotate_left; focus (intro w hSw; (try dsimp only at hSw); go_simp; try with_reducible rfl)); try simp only [Act.put, List.setIfInBounds_toArray, List.set_cons_zero, List.set_cons_succ]
          (refine' take_in 3 rfl (by kernel_rfl) (by kernel_rfl) (by kernel_rfl) (fun _ _ _ h => h) (by rfl) (by assumption) ?_ ?_; rotate_left; focus (intro w hSw; (try dsimp only at hSw); go_simp; try with_reducible rfl)); try simp only [Act.put, List.setIfInBounds_toArray, List.set_cons_zero, List.set_cons_succ]
          (refine' take_in 4 rfl (by kernel_rfl) (by kernel_rfl) (by kernel_rfl) (fun _ _ _ h => h) (by rfl) (by assumption) ?_ ?_; rotate_left; focus (intro w hSw; (try dsimp only at hSw); go_simp; try with_reducible rfl)); try simp only [Act.put, List.setIfInBounds_toArray, List.set_cons_zero, List.set_cons_succ]
          (refine' take_in 5 rfl (by kernel_rfl) (by kernel_rfl) (by kernel_rfl) (fun _ _ _ h => h) (by rfl) (by assumption) ?_ ?_; rotate_left; focus (intro w hSw; (try dsimp only at hSw); go_simp; try with_reducible rfl)); try simp only [Act.put, List.setIfInBounds_toArray, List.set_cons_zero, List.set_cons_succ]
          (refine' take_in 6 rfl (by kernel_rfl) (by kernel_rfl) (by kernel_rfl) (fun _ _ _ h => h) (by rfl) (by assumption) ?_ ?_; rotate_left; focus (intro w hSw; (try dsimp only at hSw); go_simp; try with_reducible rfl)); try simp only [Act.put, List.setIfInBounds_toArray, List.set_cons_zero, List.set_cons_succ]
          refine' next_in 7 rfl (by kernel_rfl) (by rfl) (fun K hK => ?_)
          go_simp
          (with_reducible refine (rLast_ev (some ⟨b1, o1, none⟩) k c (l.take k) a _ (HSk.out.ext (by repeat (first | with_reducible exact Ext.refl _ | with_reducible refine Ext.drew ?_ | with_reducible refine Ext.drewN ?_ _ | with_reducible refine Ext.alloc ?_ _ | with_reducible refine Ext.setCell ?_ (by first | omega | (simp; done) | (simp; omega)) _))) HA.out.1).mono ?_)
          rintro e w_1 ⟨rfl, rfl⟩
          refine hK.out _ _ (by (first | exact ⟨x_0, x_1, x_2, x_3, x_4, x_5, x_6, x_7⟩ | (simp [go_sem, World.cell?_alloc_past, x_0, x_1, x_2, x_3, x_4, x_5, x_6, x_7, hb1s, hb1]; done))) (fun hHeld => ?_); clear hK K; try simp only [Act.put, List.setIfInBounds_toArray, List.set_cons_zero, List.set_cons_succ]
          refine' next_in 8 rfl (by kernel_rfl) (by rfl) (fun K hK => ?_)
          go_simp
          (with_reducible refine (rOne_ev xo xv xs xp xf xc xi xb E a r _ HA.out.2.1 HA.out.2.2).mono ?_)
          rintro e w11 ⟨rfl, hx11⟩
          replace x_0 : w11.cell? ⟨b1, o1 + k * 8, none⟩ = some (.int .i64 xo) := hx11.has (by first | exact x_0 | (simp [go_sem, World.cell?_alloc_past, x_0, x_1, x_2, x_3, x_4, x_5, x_6, x_7, hb1s, hb1]; done))
          replace x_1 : w11.cell? ⟨b1, o1 + k * 8 + 1, none⟩ = some (.int .i64 xv) := hx11.has (by first | exact x_1 | (simp [go_sem, World.cell?_alloc_past, x_0, x_1, x_2, x_3, x_4, x_5, x_6, x_7, hb1s, hb1]; done))
          replace x_2 : w11.cell? ⟨b1, o1 + k * 8 + 2, none⟩ = some (.int .i64 xs) := hx11.has (by first | exact x_2 | (simp [go_sem, World.cell?_alloc_past, x_0, x_1, x_2, x_3, x_4, x_5, x_6, x_7, hb1s, hb1]; done))
          replace x_3 : w11.cell? ⟨b1, o1 + k * 8 + 3, none⟩ = some (.int .i64 xp) := hx11.has (by first | exact x_3 | (simp [go_sem, World.cell?_alloc_past, x_0, x_1, x_2, x_3, x_4, x_5, x_6, x_7, hb1s, hb1]; done))
          replace x_4 : w11.cell? ⟨b1, o1 + k * 8 + 4, none⟩ = some (.int .i64 xf) := hx11.has (by first | exact x_4 | (simp [go_sem, World.cell?_alloc_past, x_0, x_1, x_2, x_3, x_4, x_5, x_6, x_7, hb1s, hb1]; done))
          replace x_5 : w11.cell? ⟨b1, o1 + k * 8 + 5, none⟩ = some (.int .i64 xc) := hx11.has (by first | exact x_5 | (simp [go_sem, World.cell?_alloc_past, x_0, x_1, x_2, x_3, x_4, x_5, x_6, x_7, hb1s, hb1]; done))
          replace x_6 : w11.cell? ⟨b1, o1 + k * 8 + 6, none⟩ = some (.int .u64 xi) := hx11.has (by first | exact x_6 | (simp [go_sem, World.cell?_alloc_past, x_0, x_1, x_2, x_3, x_4, x_5, x_6, x_7, hb1s, hb1]; done))
          replace x_7 : w11.cell? ⟨b1, o1 + k * 8 + 7, none⟩ = some (.int .u64 xb) := hx11.has (by first | exact x_7 | (simp [go_sem, World.cell?_alloc_past, x_0, x_1, x_2, x_3, x_4, x_5, x_6, x_7, hb1s, hb1]; done))
          have z11 := hx11.size
          try simp at z11
          have rx : b1 < w11.heap.size := by omega
          have rxa : b1 < w11.heap.size + 1 := by omega
          have rxb : b1 < w11.heap.size + 1 + 1 := by omega
          have rxc : b1 < w11.heap.size + 1 + 1 + 1 := by omega
          have rxn : ¬ b1 = w11.heap.size := by omega
          replace HSk := Lib.hid (HSk.out.ext (Ext.trans (by repeat (first | with_reducible exact Ext.refl _ | with_reducible refine Ext.drew ?_ | with_reducible refine Ext.drewN ?_ _ | with_reducible refine Ext.alloc ?_ _ | with_reducible refine Ext.setCell ?_ (by first | omega | (simp; done) | (simp; omega)) _)) hx11))
          have X11 : Hid (Ext w w11) := Lib.hid (Ext.trans (by repeat (first | with_reducible exact XR.out | with_reducible refine Ext.drew ?_ | with_reducible refine Ext.drewN ?_ _ | with_reducible refine Ext.alloc ?_ _ | with_reducible refine Ext.setCell ?_ (by first | omega | (simp; done) | (simp; omega)) _)) hx11)
          clear XR hx11 z11
          refine hK.out _ _ (by (first | exact ⟨x_0, x_1, x_2, x_3, x_4, x_5, x_6, x_7⟩ | (simp [go_sem, World.cell?_alloc_past, x_0, x_1, x_2, x_3, x_4, x_5, x_6, x_7, rx, rxa, rxb, rxc, rxn, hb1s, hb1]; done))) (fun hHeld => ?_); clear hK K; try simp only [Act.put, List.setIfInBounds_toArray, List.set_cons_zero, List.set_cons_succ]
          (refine' take_in 9 rfl (by kernel_rfl) (by kernel_rfl) (by kernel_rfl) (fun _ _ _ h => h) (by rfl) (by assumption) ?_ ?_; rotate_left; focus (intro w hSw; (try dsimp only at hSw); go_simp; try with_reducible rfl)); try simp only [Act.put, List.setIfInBounds_toArray, List.set_cons_zero, List.set_cons_succ]
          refine wpAnyH_done (by kernel_rfl) ?_ _
          go_wp2_with fail
          go_roundg (gk - 1)
          case measure => have := HK.out; omega
          case rel => exact ⟨by have := HK.out; omega, num_eq (by have := HK.out; omega), Lib.hid (by rw [show n - (gk - 1) = k + 1 from by have := HK.out; omega, HT.out.1, HT.out.2, if_neg (by simpa using hr0h.out)]; rfl), Lib.hid (by repeat (first | with_reducible exact X11.out | with_reducible refine Ext.drew ?_ | with_reducible refine Ext.drewN ?_ _ | with_reducible refine Ext.alloc ?_ _ | with_reducible refine Ext.setCell ?_ (by first | omega | (simp; done) | (simp; omega)) _))⟩
        · have hr1 : (r != 0) = true := by simpa using hr0
          have he := HE.out
          rw [HT.out.1, if_pos hr0, if_pos hr0] at he
          injection he with he1 he2
          subst he1; subst he2
          clear hr0
          go_wp2_with fail
          refine wp_region_held_drew (S := fun w' => w'.cell? ⟨b1, o1 + k * 8, none⟩ = some (.int .i64 xo) ∧ w'.cell? ⟨b1, o1 + k * 8 + 1, none⟩ = some (.int .i64 xv) ∧ w'.cell? ⟨b1, o1 + k * 8 + 2, none⟩ = some (.int .i64 xs) ∧ w'.cell? ⟨b1, o1 + k * 8 + 3, none⟩ = some (.int .i64 xp) ∧ w'.cell? ⟨b1, o1 + k * 8 + 4, none⟩ = some (.int .i64 xf) ∧ w'.cell? ⟨b1, o1 + k * 8 + 5, none⟩ = some (.int .i64 xc) ∧ w'.cell? ⟨b1, o1 + k * 8 + 6, none⟩ = some (.int .u64 xi) ∧ w'.cell? ⟨b1, o1 + k * 8 + 7, none⟩ = some (.int .u64 xb)) (by kernel_rfl) (by first | exact ⟨x_0, x_1, x_2, x_3, x_4, x_5, x_6, x_7⟩ | (simp [go_sem, World.cell?_alloc_past, x_0, x_1, x_2, x_3, x_4, x_5, x_6, x_7, hb1s, hb1]; done)) (fun hHeld => ?_)
          (refine' take_in 0 rfl (by kernel_rfl) (by kernel_rfl) (by kernel_rfl) (fun _ _ _ h => h) (by rfl) (by assumption) ?_ ?_; rotate_left; focus (intro w hSw; (try dsimp only at hSw); go_simp; try with_reducible rfl)); try simp only [Act.put, List.setIfInBounds_toArray, List.set_cons_zero, List.set_cons_succ]
          (refine' take_in 1 rfl (by kernel_rfl) (by kernel_rfl) (by kernel_rfl) (fun _ _ _ h => h) (by rfl) (by assumption) ?_ ?_; rotate_left; focus (intro w hSw; (try dsimp only at hSw); go_simp; try with_reducible rfl)); try simp only [Act.put, List.setIfInBounds_toArray, List.set_cons_zero, List.set_cons_succ]
          (refine' take_in 2 rfl (by kernel_rfl) (by kernel_rfl) (by kernel_rfl) (fun _ _ _ h => h) (by rfl) (by assumption) ?_ ?_; rotate_left; focus (intro w hSw; (try dsimp only at hSw); go_simp; try with_reducible rfl)); try simp only [Act.put, List.setIfInBounds_toArray, List.set_cons_zero, List.set_cons_succ]
          (refine' take_in 3 rfl (by kernel_rfl) (by kernel_rfl) (by kernel_rfl) (fun _ _ _ h => h) (by rfl) (by assumption) ?_ ?_; rotate_left; focus (intro w hSw; (try dsimp only at hSw); go_simp; try with_reducible rfl)); try simp only [Act.put, List.setIfInBounds_toArray, List.set_cons_zero, List.set_cons_succ]
          (refine' take_in 4 rfl (by kernel_rfl) (by kernel_rfl) (by kernel_rfl) (fun _ _ _ h => h) (by rfl) (by assumption) ?_ ?_; rotate_left; focus (intro w hSw; (try dsimp only at hSw); go_simp; try with_reducible rfl)); try simp only [Act.put, List.setIfInBounds_toArray, List.set_cons_zero, List.set_cons_succ]
          (refine' take_in 5 rfl (by kernel_rfl) (by kernel_rfl) (by kernel_rfl) (fun _ _ _ h => h) (by rfl) (by assumption) ?_ ?_; rotate_left; focus (intro w hSw; (try dsimp only at hSw); go_simp; try with_reducible rfl)); try simp only [Act.put, List.setIfInBounds_toArray, List.set_cons_zero, List.set_cons_succ]
          (refine' take_in 6 rfl (by kernel_rfl) (by kernel_rfl) (by kernel_rfl) (fun _ _ _ h => h) (by rfl) (by assumption) ?_ ?_; rotate_left; focus (intro w hSw; (try dsimp only at hSw); go_simp; try with_reducible rfl)); try simp only [Act.put, List.setIfInBounds_toArray, List.set_cons_zero, List.set_cons_succ]
          refine' next_in 7 rfl (by kernel_rfl) (by rfl) (fun K hK => ?_)
          go_simp
          (with_reducible refine (rLast_ev (some ⟨b1, o1, none⟩) k c (l.take k) a _ (HSk.out.ext (by repeat (first | with_reducible exact Ext.refl _ | with_reducible refine Ext.drew ?_ | with_reducible refine Ext.drewN ?_ _ | with_reducible refine Ext.alloc ?_ _ | with_reducible refine Ext.setCell ?_ (by first | omega | (simp; done) | (simp; omega)) _))) HA.out.1).mono ?_)
          rintro e w_1 ⟨rfl, rfl⟩
          refine hK.out _ _ (by (first | exact ⟨x_0, x_1, x_2, x_3, x_4, x_5, x_6, x_7⟩ | (simp [go_sem, World.cell?_alloc_past, x_0, x_1, x_2, x_3, x_4, x_5, x_6, x_7, hb1s, hb1]; done))) (fun hHeld => ?_); clear hK K; try simp only [Act.put, List.setIfInBounds_toArray, List.set_cons_zero, List.set_cons_succ]
          refine' next_in 8 rfl (by kernel_rfl) (by rfl) (fun K hK => ?_)
          go_simp
          (with_reducible refine (rOne_ev xo xv xs xp xf xc xi xb E a r _ HA.out.2.1 HA.out.2.2).mono ?_)
          rintro e w11 ⟨rfl, hx11⟩
          replace x_0 : w11.cell? ⟨b1, o1 + k * 8, none⟩ = some (.int .i64 xo) := hx11.has (by first | exact x_0 | (simp [go_sem, World.cell?_alloc_past, x_0, x_1, x_2, x_3, x_4, x_5, x_6, x_7, hb1s, hb1]; done))
          replace x_1 : w11.cell? ⟨b1, o1 + k * 8 + 1, none⟩ = some (.int .i64 xv) := hx11.has (by first | exact x_1 | (simp [go_sem, World.cell?_alloc_past, x_0, x_1, x_2, x_3, x_4, x_5, x_6, x_7, hb1s, hb1]; done))
          replace x_2 : w11.cell? ⟨b1, o1 + k * 8 + 2, none⟩ = some (.int .i64 xs) := hx11.has (by first | exact x_2 | (simp [go_sem, World.cell?_alloc_past, x_0, x_1, x_2, x_3, x_4, x_5, x_6, x_7, hb1s, hb1]; done))
          replace x_3 : w11.cell? ⟨b1, o1 + k * 8 + 3, none⟩ = some (.int .i64 xp) := hx11.has (by first | exact x_3 | (simp [go_sem, World.cell?_alloc_past, x_0, x_1, x_2, x_3, x_4, x_5, x_6, x_7, hb1s, hb1]; done))
          replace x_4 : w11.cell? ⟨b1, o1 + k * 8 + 4, none⟩ = some (.int .i64 xf) := hx11.has (by first | exact x_4 | (simp [go_sem, World.cell?_alloc_past, x_0, x_1, x_2, x_3, x_4, x_5, x_6, x_7, hb1s, hb1]; done))
          replace x_5 : w11.cell? ⟨b1, o1 + k * 8 + 5, none⟩ = some (.int .i64 xc) := hx11.has (by first | exact x_5 | (simp [go_sem, World.cell?_alloc_past, x_0, x_1, x_2, x_3, x_4, x_5, x_6, x_7, hb1s, hb1]; done))
          replace x_6 : w11.cell? ⟨b1, o1 + k * 8 + 6, none⟩ = some (.int .u64 xi) := hx11.has (by first | exact x_6 | (simp [go_sem, World.cell?_alloc_past, x_0, x_1, x_2, x_3, x_4, x_5, x_6, x_7, hb1s, hb1]; done))
          replace x_7 : w11.cell? ⟨b1, o1 + k * 8 + 7, none⟩ = some (.int .u64 xb) := hx11.has (by first | exact x_7 | (simp [go_sem, World.cell?_alloc_past, x_0, x_1, x_2, x_3, x_4, x_5, x_6, x_7, hb1s, hb1]; done))
          have z11 := hx11.size
          try simp at z11
          have rx : b1 < w11.heap.size := by omega
          have rxa : b1 < w11.heap.size + 1 := by omega
          have rxb : b1 < w11.heap.size + 1 + 1 := by omega
          have rxc : b1 < w11.heap.size + 1 + 1 + 1 := by omega
          have rxn : ¬ b1 = w11.heap.size := by omega
          replace HSk := Lib.hid (HSk.out.ext (Ext.trans (by repeat (first | with_reducible exact Ext.refl _ | with_reducible refine Ext.drew ?_ | with_reducible refine Ext.drewN ?_ _ | with_reducible refine Ext.alloc ?_ _ | with_reducible refine Ext.setCell ?_ (by first | omega | (simp; done) | (simp; omega)) _)) hx11))
          have X11 : Hid (Ext w w11) := Lib.hid (Ext.trans (by repeat (first | with_reducible exact XR.out | with_reducible refine Ext.drew ?_ | with_reducible refine Ext.drewN ?_ _ | with_reducible refine Ext.alloc ?_ _ | with_reducible refine Ext.setCell ?_ (by first | omega | (simp; done) | (simp; omega)) _)) hx11)
          clear XR hx11 z11
          refine hK.out _ _ (by (first | exact ⟨x_0, x_1, x_2, x_3, x_4, x_5, x_6, x_7⟩ | (simp [go_sem, World.cell?_alloc_past, x_0, x_1, x_2, x_3, x_4, x_5, x_6, x_7, rx, rxa, rxb, rxc, rxn, hb1s, hb1]; done))) (fun hHeld => ?_); clear hK K; try simp only [Act.put, List.setIfInBounds_toArray, List.set_cons_zero, List.set_cons_succ]
          (refine' take_in 9 rfl (by kernel_rfl) (by kernel_rfl) (by kernel_rfl) (fun _ _ _ h => h) (by rfl) (by assumption) ?_ ?_; rotate_left; focus (intro w hSw; (try dsimp only at hSw); go_simp; try with_reducible rfl)); try simp only [Act.put, List.setIfInBounds_toArray, List.set_cons_zero, List.set_cons_succ]
          refine wpAnyH_done (by kernel_rfl) ?_ _
          go_wp2_with fail
          go_ret2
          exact ⟨ret_two rfl rfl, (by repeat (first | with_reducible exact X11.out | with_reducible refine Ext.drew ?_ | with_reducible refine Ext.drewN ?_ _ | with_reducible refine Ext.alloc ?_ _ | with_reducible refine Ext.setCell ?_ (by first | omega | (simp; done) | (simp; omega)) _))⟩
theorem chkQ_zero {l : List (Int × Int × Int × Int × Int × Int × Int × Int)} {e2 : Int} (h : chkQ l = (0, e2)) : l.length ≤ 32768 ∧ totB l ≤ 4611686018427387904 := by
  unfold chkQ at h
  by_cases h1 : 32768 < l.length
  · rw [if_pos h1] at h; injection h with h _; omega
  · rw [if_neg h1] at h
    by_cases h2 : (chkGo 0 0 l).1 = 0
    · rw [if_neg (by simpa using h2)] at h
      by_cases h3 : totB l ≤ 4611686018427387904
      · exact ⟨by omega, h3⟩
      · rw [if_neg h3] at h; injection h with h _; omega
    · rw [if_pos h2] at h
      exact absurd (congrArg Prod.fst h) h2
set_option maxRecDepth 100000 in
set_option maxHeartbeats 4000000 in
theorem qtotal_any (A : Option Addr) (n c : Nat) (l : List (Int × Int × Int × Int × Int × Int × Int × Int)) (e1 e2 : Int) (w : World) (h : Sl w 8 A n c (l.flatMap entC)) (hf : ∀ x ∈ l, FitsQ x) (he : chkQ l = (e1, e2)) (u : Int) (hu : u = if e1 = 0 then totB l else 0) :
    Calls Tryz.prog 16 #[.slice A n c] w fun e w' => e = .returned (.tuple #[.int .u64 u, .int .i64 e1]) ∧ Ext w w' := by
  have CC := Lib.hid (qcheck_any A n c l e1 e2 w h hf he)
  by_cases h0 : e1 = 0
  · subst h0
    rw [if_pos rfl] at hu
    have hq := chkQ_zero he
    have hll := h.rlen entC_len (by decide)
    have CS := Lib.hid (fun w' (hx : Ext w w') => qsum_any A n c l w' (h.ext hx) (by omega) hf)
    rw [show sumP l = u from by rw [hu]; exact if_pos hq.2] at CS
    clear h hf he hu hq hll
    go_enter Tryz.func16, Tryz.ntmps16
    go_wp2_with fail
    refine CC.out.mono ?_
    rintro e w1 ⟨rfl, hx⟩
    have HX := Lib.hid hx
    clear hx CC
    go_wp2_with fail
    refine (CS.out _ HX.out).mono ?_
    rintro e w2 ⟨rfl, hx⟩
    have HX2 := Lib.hid (HX.out.trans hx)
    clear hx CS
    go_wp2_with fail
    go_ret2
    exact ⟨rfl, HX2.out⟩
  · rw [if_neg h0] at hu
    subst hu
    have h1 : (e1 != 0) = true := by simpa using h0
    clear h hf he h0
    go_enter Tryz.func16, Tryz.ntmps16
    go_wp2_with fail
    refine CC.out.mono ?_
    rintro e w1 ⟨rfl, hx⟩
    have HX := Lib.hid hx
    clear hx CC
    go_wp2_with fail
    go_ret2
    exact ⟨rfl, HX.out⟩
end
end Go.Proofs.YtnbeejgppooamaaGreat
