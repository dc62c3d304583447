/- roster: Unjail, Punished, Punish. Conditions stand in each lemma. -/
import Derived.Test.YtjdpgapmdmpjjaaRos12
import Derived.Test.YtjdpgapmdmpjjaaCur
set_option linter.unusedVariables false
set_option linter.unusedSimpArgs false
namespace Go.Proofs.Ytjdpgapmdmpjjaa
open Go.RowKit Go.ChangeShapes Go.WideShapes Go.Deep Go.Joins

/-- one is not jailed any more -/
def unjX (l : List (Int × Int × Int × Int × Bool × Bool)) (k : Nat) (x : (Int × Int × Int × Int × Bool × Bool)) (by_ h : Int) : List (Int × Int × Int × Int × Bool × Bool) × Int :=
  if x.1 ≠ by_ then ([], 24) else if x.2.2.1 = 4 then ([], 20) else if x.2.2.1 ≠ 3 then ([], 11) else if h < x.2.2.2.1 then ([], 21) else (l.set k (setSt x 1), 0)
def unjV (l : List (Int × Int × Int × Int × Bool × Bool)) (v by_ h : Int) : List (Int × Int × Int × Int × Bool × Bool) × Int :=
  if (chkV l).1 ≠ 0 then ([], (chkV l).1) else if v < 0 ∨ v ≥ l.length then ([], 10) else match l[v.toNat]? with | some x => unjX l v.toNat x by_ h | none => ([], 10)
theorem unjV_chk {l : List (Int × Int × Int × Int × Bool × Bool)} {v by_ h : Int} (h0 : (chkV l).1 ≠ 0) : unjV l v by_ h = ([], (chkV l).1) := by unfold unjV; rw [if_pos h0]
theorem unjV_out {l : List (Int × Int × Int × Int × Bool × Bool)} {v by_ h : Int} (h0 : (chkV l).1 = 0) (h1 : v < 0 ∨ v ≥ l.length) : unjV l v by_ h = ([], 10) := by unfold unjV; rw [if_neg (by simpa using h0), if_pos h1]
theorem unjV_at {l : List (Int × Int × Int × Int × Bool × Bool)} {k : Nat} {x : (Int × Int × Int × Int × Bool × Bool)} {by_ h : Int} (h0 : (chkV l).1 = 0) (hx : l[k]? = some x) : unjV l (k : Int) by_ h = unjX l k x by_ h := by
  have hk := (List.getElem?_eq_some_iff.1 hx).1
  unfold unjV
  rw [if_neg (by simpa using h0), if_neg (by omega), show ((k : Int)).toNat = k from by simp, hx]
/-- why one may not be punished -/
def pndX (l : List (Int × Int × Int × Int × Bool × Bool)) (x : (Int × Int × Int × Int × Bool × Bool)) (cl : Int) : Int := if x.2.2.1 = 4 then 20 else if (cl = 1 ∧ x.2.2.2.2.1 = true) ∨ (cl = 2 ∧ x.2.2.2.2.2 = true) then 19 else 0
def pndV (l : List (Int × Int × Int × Int × Bool × Bool)) (v cl : Int) : Int :=
  if (chkV l).1 ≠ 0 then (chkV l).1 else if cl ≠ 1 ∧ cl ≠ 2 then 2 else if rfsV l v ≠ 0 then rfsV l v else match l[v.toNat]? with | some x => if (cl = 1 ∧ x.2.2.2.2.1 = true) ∨ (cl = 2 ∧ x.2.2.2.2.2 = true) then 19 else 0 | none => 0
def punOne (x : (Int × Int × Int × Int × Bool × Bool)) (cl u : Int) : (Int × Int × Int × Int × Bool × Bool) := if cl = 1 then (x.1, x.2.1, 4, max x.2.2.2.1 u, true, x.2.2.2.2.2) else (x.1, x.2.1, 3, max x.2.2.2.1 u, x.2.2.2.2.1, true)
/-- one is punished -/
def punV (l : List (Int × Int × Int × Int × Bool × Bool)) (v cl u : Int) : List (Int × Int × Int × Int × Bool × Bool) × Int :=
  if pndV l v cl ≠ 0 then ([], pndV l v cl) else if ¬ (1 ≤ u ∧ u ≤ 4296015872) then ([], 3) else match l[v.toNat]? with | some x => (l.set v.toNat (punOne x cl u), 0) | none => ([], 10)
theorem RetV.cur {l : List (Int × Int × Int × Int × Bool × Bool)} {k g c base : Nat} {y : (Int × Int × Int × Int × Bool × Bool)} {xs : List Value} {w w' : World} (h : Cur 96 valC 6 w' base g l.length c l k y) (hb : w.heap.size ≤ base) (hx : Ext w w') : RetV (l.set k y) xs w (.returned (.tuple (.slice (some ⟨g, 0, none⟩) l.length c :: xs).toArray)) w' :=
  RetV.mk (OwnVal.lower h.own hb) hx (by simp)
set_option maxRecDepth 100000 in
theorem rosUnjail1_any (g p : Nat) (s2 : Value) (w : World) (z_2 : w.cell? ⟨g, p + 2, none⟩ = some s2) (z_2f : w.frozen? ⟨g, p + 2, none⟩ = false) :
    Calls Try.prog 109 #[.pointer (some ⟨g, p, none⟩)] w fun e w' => (∃ v, e = .returned v) ∧ w' = w.setCell ⟨g, p + 2, none⟩ (.int .i64 1) := by
  go_enter Try.func109, Try.ntmps109
  go_wp2
  go_end0
  exact ⟨⟨_, rfl⟩, rfl⟩
set_option maxRecDepth 100000 in
set_option maxHeartbeats 1000000 in
theorem rosPunish1_pos (g p ub cb : Nat) (s2 s4 : Value) (x3 u mx cl : Int) (w : World) (hm : mx = max x3 u) (hne : ub ≠ g) (hnc : cb ≠ g) (hc : (cl == 1) = true) (z_2 : w.cell? ⟨g, p + 2, none⟩ = some s2) (z_2f : w.frozen? ⟨g, p + 2, none⟩ = false) (z_3 : w.cell? ⟨g, p + 3, none⟩ = some (.int .i64 x3)) (z_3f : w.frozen? ⟨g, p + 3, none⟩ = false) (z_4 : w.cell? ⟨g, p + 4, none⟩ = some s4) (z_4f : w.frozen? ⟨g, p + 4, none⟩ = false) (y_0 : w.cell? ⟨ub, 0, none⟩ = some (.int .i64 u)) (v_0 : w.cell? ⟨cb, 0, none⟩ = some (.int .i64 cl)) :
    Calls Try.prog 110 #[.pointer (some ⟨g, p, none⟩), .pointer (some ⟨ub, 0, none⟩), .pointer (some ⟨cb, 0, none⟩)] w fun e w' => (∃ v, e = .returned v) ∧ w' = ((((w.drew.setCell ⟨g, p + 2, none⟩ (.int .i64 3)).setCell ⟨g, p + 3, none⟩ (.int .i64 mx)).setCell ⟨g, p + 4, none⟩ (.bool true)).setCell ⟨g, p + 2, none⟩ (.int .i64 4)) := by
  have hmax : ∀ ts t w, (Builtin.max_ ts t #[.int .i64 x3, .int .i64 u]).run Try.prog w = .ok (.int .i64 mx) w := by
    intro ts t w
    rw [run_max_int2, hm]
    congr 2
    split <;> omega
  have hne2 : ¬ g = ub := fun e => hne e.symm
  have hne3 : ¬ ub = g := hne
  have hnc2 : ¬ g = cb := fun e => hnc e.symm
  have hnc3 : ¬ cb = g := hnc
  clear hm
  go_enter Try.func110, Try.ntmps110
  go_wp2_with fail
  refine wp_region_held_drew (S := fun w' => w'.cell? ⟨ub, 0, none⟩ = some (.int .i64 u) ∧ w'.cell? ⟨cb, 0, none⟩ = some (.int .i64 cl)) (by kernel_rfl) (by first | exact ⟨y_0, v_0⟩ | (simp [go_sem, y_0, v_0, hne2, hne3, hnc2, hnc3]; done) | (simpa [hne2, hne3, hnc2, hnc3] using And.intro y_0 v_0)) (fun hHeld => ?_)
  (refine' take_in 0 rfl (by kernel_rfl) (by kernel_rfl) (by kernel_rfl) (fun _ _ _ h => h) (by rfl) (by assumption) ?_ ?_; rotate_left; focus (intro w hSw; (try dsimp only at hSw); go_simp; try with_reducible rfl)); try simp only [Act.put, List.setIfInBounds_toArray, List.set_cons_zero, List.set_cons_succ]
  (refine' take_in 1 rfl (by kernel_rfl) (by kernel_rfl) (by kernel_rfl) (fun _ _ _ h => h) (by rfl) (by assumption) ?_ ?_; rotate_left; focus (intro w hSw; (try dsimp only at hSw); go_simp; try with_reducible rfl)); try simp only [Act.put, List.setIfInBounds_toArray, List.set_cons_zero, List.set_cons_succ]
  (refine' take_in 2 rfl (by kernel_rfl) (by kernel_rfl) (by kernel_rfl) (fun _ _ _ h => h) (by rfl) (by assumption) ?_ ?_; rotate_left; focus (intro w hSw; (try dsimp only at hSw); go_simp; try with_reducible rfl)); try simp only [Act.put, List.setIfInBounds_toArray, List.set_cons_zero, List.set_cons_succ]
  (refine' take_in 3 rfl (by kernel_rfl) (by kernel_rfl) (by kernel_rfl) (fun _ _ _ h => h) (by rfl) (by assumption) ?_ ?_; rotate_left; focus (intro w hSw; (try dsimp only at hSw); go_simp; try with_reducible rfl)); try simp only [Act.put, List.setIfInBounds_toArray, List.set_cons_zero, List.set_cons_succ]
  (refine' take_in 4 rfl (by kernel_rfl) (by kernel_rfl) (by kernel_rfl) (fun _ _ _ h => h) (by rfl) (by assumption) ?_ ?_; rotate_left; focus (intro w hSw; (try dsimp only at hSw); go_simp; try with_reducible rfl)); try simp only [Act.put, List.setIfInBounds_toArray, List.set_cons_zero, List.set_cons_succ]
  (refine' take_in 6 rfl (by kernel_rfl) (by kernel_rfl) (by kernel_rfl) (fun _ _ _ h => h) (by rfl) (by assumption) ?_ ?_; rotate_left; focus (intro w hSw; (try dsimp only at hSw); go_simp; try with_reducible rfl)); try simp only [Act.put, List.setIfInBounds_toArray, List.set_cons_zero, List.set_cons_succ]
  refine' next_in 5 rfl (by kernel_rfl) (by rfl) (fun K hK => ?_)
  go_simp
  refine hK.out _ _ (by (first | exact ⟨y_0, v_0⟩ | (simp [go_sem, y_0, v_0, hne2, hne3, hnc2, hnc3]; done) | (simpa [hne2, hne3, hnc2, hnc3] using And.intro y_0 v_0))) (fun hHeld => ?_); clear hK K; try simp only [Act.put, List.setIfInBounds_toArray, List.set_cons_zero, List.set_cons_succ]
  (refine' take_in 7 rfl (by kernel_rfl) (by kernel_rfl) (by kernel_rfl) (fun _ _ _ h => h) (by rfl) (by assumption) ?_ ?_; rotate_left; focus (intro w hSw; (try dsimp only at hSw); go_simp; try with_reducible rfl)); try simp only [Act.put, List.setIfInBounds_toArray, List.set_cons_zero, List.set_cons_succ]
  (refine' take_in 8 rfl (by kernel_rfl) (by kernel_rfl) (by kernel_rfl) (fun _ _ _ h => h) (by rfl) (by assumption) ?_ ?_; rotate_left; focus (intro w hSw; (try dsimp only at hSw); go_simp; try with_reducible rfl)); try simp only [Act.put, List.setIfInBounds_toArray, List.set_cons_zero, List.set_cons_succ]
  (refine' take_in 9 rfl (by kernel_rfl) (by kernel_rfl) (by kernel_rfl) (fun _ _ _ h => h) (by rfl) (by assumption) ?_ ?_; rotate_left; focus (intro w hSw; (try dsimp only at hSw); go_simp; try with_reducible rfl)); try simp only [Act.put, List.setIfInBounds_toArray, List.set_cons_zero, List.set_cons_succ]
  refine' next_in 10 rfl (by kernel_rfl) (by rfl) (fun K hK => ?_)
  go_simp
  refine hK.out _ _ (by (first | exact ⟨y_0, v_0⟩ | (simp [go_sem, y_0, v_0, hne2, hne3, hnc2, hnc3]; done) | (simpa [hne2, hne3, hnc2, hnc3] using And.intro y_0 v_0))) (fun hHeld => ?_); clear hK K; try simp only [Act.put, List.setIfInBounds_toArray, List.set_cons_zero, List.set_cons_succ]
  (refine' take_in 11 rfl (by kernel_rfl) (by kernel_rfl) (by kernel_rfl) (fun _ _ _ h => h) (by rfl) (by assumption) ?_ ?_; rotate_left; focus (intro w hSw; (try dsimp only at hSw); go_simp; try with_reducible rfl)); try simp only [Act.put, List.setIfInBounds_toArray, List.set_cons_zero, List.set_cons_succ]
  (refine' take_in 12 rfl (by kernel_rfl) (by kernel_rfl) (by kernel_rfl) (fun _ _ _ h => h) (by rfl) (by assumption) ?_ ?_; rotate_left; focus (intro w hSw; (try dsimp only at hSw); go_simp; try with_reducible rfl)); try simp only [Act.put, List.setIfInBounds_toArray, List.set_cons_zero, List.set_cons_succ]
  refine' next_in 13 rfl (by kernel_rfl) (by rfl) (fun K hK => ?_)
  go_simp
  refine hK.out _ _ (by (first | exact ⟨y_0, v_0⟩ | (simp [go_sem, y_0, v_0, hne2, hne3, hnc2, hnc3]; done) | (simpa [hne2, hne3, hnc2, hnc3] using And.intro y_0 v_0))) (fun hHeld => ?_); clear hK K; try simp only [Act.put, List.setIfInBounds_toArray, List.set_cons_zero, List.set_cons_succ]
  refine wpAnyH_done (by kernel_rfl) ?_ _
  go_wp2_with fail
  go_end0
  exact ⟨⟨_, rfl⟩, rfl⟩
set_option maxRecDepth 100000 in
set_option maxHeartbeats 1000000 in
theorem rosPunish1_neg (g p ub cb : Nat) (s2 s5 : Value) (x3 u mx cl : Int) (w : World) (hm : mx = max x3 u) (hne : ub ≠ g) (hnc : cb ≠ g) (hc : (cl == 1) = false) (z_2 : w.cell? ⟨g, p + 2, none⟩ = some s2) (z_2f : w.frozen? ⟨g, p + 2, none⟩ = false) (z_3 : w.cell? ⟨g, p + 3, none⟩ = some (.int .i64 x3)) (z_3f : w.frozen? ⟨g, p + 3, none⟩ = false) (z_5 : w.cell? ⟨g, p + 5, none⟩ = some s5) (z_5f : w.frozen? ⟨g, p + 5, none⟩ = false) (y_0 : w.cell? ⟨ub, 0, none⟩ = some (.int .i64 u)) (v_0 : w.cell? ⟨cb, 0, none⟩ = some (.int .i64 cl)) :
    Calls Try.prog 110 #[.pointer (some ⟨g, p, none⟩), .pointer (some ⟨ub, 0, none⟩), .pointer (some ⟨cb, 0, none⟩)] w fun e w' => (∃ v, e = .returned v) ∧ w' = (((w.drew.setCell ⟨g, p + 2, none⟩ (.int .i64 3)).setCell ⟨g, p + 3, none⟩ (.int .i64 mx)).setCell ⟨g, p + 5, none⟩ (.bool true)) := by
  have hmax : ∀ ts t w, (Builtin.max_ ts t #[.int .i64 x3, .int .i64 u]).run Try.prog w = .ok (.int .i64 mx) w := by
    intro ts t w
    rw [run_max_int2, hm]
    congr 2
    split <;> omega
  have hne2 : ¬ g = ub := fun e => hne e.symm
  have hne3 : ¬ ub = g := hne
  have hnc2 : ¬ g = cb := fun e => hnc e.symm
  have hnc3 : ¬ cb = g := hnc
  clear hm
  go_enter Try.func110, Try.ntmps110
  go_wp2_with fail
  refine wp_region_held_drew (S := fun w' => w'.cell? ⟨ub, 0, none⟩ = some (.int .i64 u) ∧ w'.cell? ⟨cb, 0, none⟩ = some (.int .i64 cl)) (by kernel_rfl) (by first | exact ⟨y_0, v_0⟩ | (simp [go_sem, y_0, v_0, hne2, hne3, hnc2, hnc3]; done) | (simpa [hne2, hne3, hnc2, hnc3] using And.intro y_0 v_0)) (fun hHeld => ?_)
  (refine' take_in 0 rfl (by kernel_rfl) (by kernel_rfl) (by kernel_rfl) (fun _ _ _ h => h) (by rfl) (by assumption) ?_ ?_; rotate_left; focus (intro w hSw; (try dsimp only at hSw); go_simp; try with_reducible rfl)); try simp only [Act.put, List.setIfInBounds_toArray, List.set_cons_zero, List.set_cons_succ]
  (refine' take_in 1 rfl (by kernel_rfl) (by kernel_rfl) (by kernel_rfl) (fun _ _ _ h => h) (by rfl) (by assumption) ?_ ?_; rotate_left; focus (intro w hSw; (try dsimp only at hSw); go_simp; try with_reducible rfl)); try simp only [Act.put, List.setIfInBounds_toArray, List.set_cons_zero, List.set_cons_succ]
  (refine' take_in 2 rfl (by kernel_rfl) (by kernel_rfl) (by kernel_rfl) (fun _ _ _ h => h) (by rfl) (by assumption) ?_ ?_; rotate_left; focus (intro w hSw; (try dsimp only at hSw); go_simp; try with_reducible rfl)); try simp only [Act.put, List.setIfInBounds_toArray, List.set_cons_zero, List.set_cons_succ]
  (refine' take_in 3 rfl (by kernel_rfl) (by kernel_rfl) (by kernel_rfl) (fun _ _ _ h => h) (by rfl) (by assumption) ?_ ?_; rotate_left; focus (intro w hSw; (try dsimp only at hSw); go_simp; try with_reducible rfl)); try simp only [Act.put, List.setIfInBounds_toArray, List.set_cons_zero, List.set_cons_succ]
  (refine' take_in 4 rfl (by kernel_rfl) (by kernel_rfl) (by kernel_rfl) (fun _ _ _ h => h) (by rfl) (by assumption) ?_ ?_; rotate_left; focus (intro w hSw; (try dsimp only at hSw); go_simp; try with_reducible rfl)); try simp only [Act.put, List.setIfInBounds_toArray, List.set_cons_zero, List.set_cons_succ]
  (refine' take_in 6 rfl (by kernel_rfl) (by kernel_rfl) (by kernel_rfl) (fun _ _ _ h => h) (by rfl) (by assumption) ?_ ?_; rotate_left; focus (intro w hSw; (try dsimp only at hSw); go_simp; try with_reducible rfl)); try simp only [Act.put, List.setIfInBounds_toArray, List.set_cons_zero, List.set_cons_succ]
  refine' next_in 5 rfl (by kernel_rfl) (by rfl) (fun K hK => ?_)
  go_simp
  refine hK.out _ _ (by (first | exact ⟨y_0, v_0⟩ | (simp [go_sem, y_0, v_0, hne2, hne3, hnc2, hnc3]; done) | (simpa [hne2, hne3, hnc2, hnc3] using And.intro y_0 v_0))) (fun hHeld => ?_); clear hK K; try simp only [Act.put, List.setIfInBounds_toArray, List.set_cons_zero, List.set_cons_succ]
  (refine' take_in 7 rfl (by kernel_rfl) (by kernel_rfl) (by kernel_rfl) (fun _ _ _ h => h) (by rfl) (by assumption) ?_ ?_; rotate_left; focus (intro w hSw; (try dsimp only at hSw); go_simp; try with_reducible rfl)); try simp only [Act.put, List.setIfInBounds_toArray, List.set_cons_zero, List.set_cons_succ]
  (refine' take_in 8 rfl (by kernel_rfl) (by kernel_rfl) (by kernel_rfl) (fun _ _ _ h => h) (by rfl) (by assumption) ?_ ?_; rotate_left; focus (intro w hSw; (try dsimp only at hSw); go_simp; try with_reducible rfl)); try simp only [Act.put, List.setIfInBounds_toArray, List.set_cons_zero, List.set_cons_succ]
  (refine' take_in 9 rfl (by kernel_rfl) (by kernel_rfl) (by kernel_rfl) (fun _ _ _ h => h) (by rfl) (by assumption) ?_ ?_; rotate_left; focus (intro w hSw; (try dsimp only at hSw); go_simp; try with_reducible rfl)); try simp only [Act.put, List.setIfInBounds_toArray, List.set_cons_zero, List.set_cons_succ]
  refine' next_in 10 rfl (by kernel_rfl) (by rfl) (fun K hK => ?_)
  go_simp
  refine hK.out _ _ (by (first | exact ⟨y_0, v_0⟩ | (simp [go_sem, y_0, v_0, hne2, hne3, hnc2, hnc3]; done) | (simpa [hne2, hne3, hnc2, hnc3] using And.intro y_0 v_0))) (fun hHeld => ?_); clear hK K; try simp only [Act.put, List.setIfInBounds_toArray, List.set_cons_zero, List.set_cons_succ]
  (refine' take_in 11 rfl (by kernel_rfl) (by kernel_rfl) (by kernel_rfl) (fun _ _ _ h => h) (by rfl) (by assumption) ?_ ?_; rotate_left; focus (intro w hSw; (try dsimp only at hSw); go_simp; try with_reducible rfl)); try simp only [Act.put, List.setIfInBounds_toArray, List.set_cons_zero, List.set_cons_succ]
  (refine' take_in 12 rfl (by kernel_rfl) (by kernel_rfl) (by kernel_rfl) (fun _ _ _ h => h) (by rfl) (by assumption) ?_ ?_; rotate_left; focus (intro w hSw; (try dsimp only at hSw); go_simp; try with_reducible rfl)); try simp only [Act.put, List.setIfInBounds_toArray, List.set_cons_zero, List.set_cons_succ]
  refine' next_in 13 rfl (by kernel_rfl) (by rfl) (fun K hK => ?_)
  go_simp
  refine hK.out _ _ (by (first | exact ⟨y_0, v_0⟩ | (simp [go_sem, y_0, v_0, hne2, hne3, hnc2, hnc3]; done) | (simpa [hne2, hne3, hnc2, hnc3] using And.intro y_0 v_0))) (fun hHeld => ?_); clear hK K; try simp only [Act.put, List.setIfInBounds_toArray, List.set_cons_zero, List.set_cons_succ]
  refine wpAnyH_done (by kernel_rfl) ?_ _
  go_wp2_with fail
  go_end0
  exact ⟨⟨_, rfl⟩, rfl⟩
set_option maxRecDepth 100000 in
set_option maxHeartbeats 1000000 in
theorem rosChangeUnjail (A : Option Addr) (c k : Nat) (l : List (Int × Int × Int × Int × Bool × Bool)) (x0 x1 x2 x3 : Int) (x4 x5 : Bool)  (w : World) (h : Sl w 6 A l.length c (l.flatMap valC)) (hn : l.length < 1099511627776) (hnil : A = none → c = 0) (hk : l[k]? = some (x0, x1, x2, x3, x4, x5)) :
    Calls Try.prog 106 #[.slice A l.length c, .int .i64 (k : Int), .func (.func 109) #[] #[]] w (RetV (l.set k (x0, x1, 1, x3, x4, x5)) [.int .i64 0] w) := by
  have s1 := h.small
  have hk1 : k < l.length := (List.getElem?_eq_some_iff.1 hk).1
  have hkn : (k : Int) < l.length := by omega
  have HS := Lib.hid h
  have HK := Lib.hid (And.intro hk hk1)
  clear h hk hk1
  go_enter Try.func106, Try.ntmps106
  go_wp2_with fail
  (with_reducible refine (vClone_any A c l _ HS.out hn hnil).mono ?_)
  rintro e w1 ⟨A3, c3, rfl, hA3, hO3, hx1⟩
  rcases hO3.2 with ⟨_, h0⟩ | ⟨g, cap, cur, h', hbg, _⟩
  · have := HK.out.2; omega
  injection h' with h1 h2 h3
  subst h1; subst h3
  have HC := Lib.hid (Cur.mk hO3 HK.out.1 rfl)
  have z_2 := Cur.cell valC_len HC.out (j := 2) rfl
  have z_2f := Cur.froz HC.out 2
  have z_3 := Cur.cell valC_len HC.out (j := 3) rfl
  have z_3f := Cur.froz HC.out 3
  have z_4 := Cur.cell valC_len HC.out (j := 4) rfl
  have z_4f := Cur.froz HC.out 4
  have z_5 := Cur.cell valC_len HC.out (j := 5) rfl
  have z_5f := Cur.froz HC.out 5
  have X1 := Lib.hid hx1
  clear hO3 hx1
  go_wp2_with fail
  (with_reducible refine (rosUnjail1_any g (k * 6) _ _ z_2 z_2f).mono ?_)
  rintro e w2 ⟨⟨v, rfl⟩, rfl⟩
  have HW := Lib.hid ((Cur.put valC_len (HC.out) 2 (.int .i64 1) (x0, x1, 1, x3, x4, x5) (by decide) rfl))
  have XX := Lib.hid (((X1.out).setCell (p := ⟨g, k * 6 + 2, none⟩) hbg (.int .i64 1)))
  clear z_2 z_3 z_4 z_5 z_2f z_3f z_4f z_5f
  go_wp2_with fail
  refine bodyPost_ret (v := .tuple #[.slice (some ⟨g, 0, none⟩) l.length c3, .int .i64 0]) (by simp [results, Try.results106]; try rfl) rfl (RetV.cur (xs := [.int .i64 0]) HW.out (by simp) XX.out)
set_option maxRecDepth 100000 in
set_option maxHeartbeats 1000000 in
theorem rosChangePunish_pos (A : Option Addr) (c k : Nat) (l : List (Int × Int × Int × Int × Bool × Bool)) (x0 x1 x2 x3 : Int) (x4 x5 : Bool) (ub cb : Nat) (u cl : Int) (w : World) (h : Sl w 6 A l.length c (l.flatMap valC)) (hn : l.length < 1099511627776) (hnil : A = none → c = 0) (hk : l[k]? = some (x0, x1, x2, x3, x4, x5)) (y_0 : w.cell? ⟨ub, 0, none⟩ = some (.int .i64 u)) (v_0 : w.cell? ⟨cb, 0, none⟩ = some (.int .i64 cl)) (hc : (cl == 1) = true) :
    Calls Try.prog 106 #[.slice A l.length c, .int .i64 (k : Int), .func (.func 110) #[] #[.pointer (some ⟨ub, 0, none⟩), .pointer (some ⟨cb, 0, none⟩)]] w (RetV (l.set k (x0, x1, 4, max x3 u, true, x5)) [.int .i64 0] w) := by
  have s1 := h.small
  have hk1 : k < l.length := (List.getElem?_eq_some_iff.1 hk).1
  have hkn : (k : Int) < l.length := by omega
  have HS := Lib.hid h
  have HK := Lib.hid (And.intro hk hk1)
  have hub := cell_lt y_0
  have hcb := cell_lt v_0
  clear h hk hk1
  go_enter Try.func106, Try.ntmps106
  go_wp2_with fail
  (with_reducible refine (vClone_any A c l _ HS.out hn hnil).mono ?_)
  rintro e w1 ⟨A3, c3, rfl, hA3, hO3, hx1⟩
  replace y_0 : w1.cell? ⟨ub, 0, none⟩ = some (.int .i64 u) := hx1.has y_0
  replace v_0 : w1.cell? ⟨cb, 0, none⟩ = some (.int .i64 cl) := hx1.has v_0
  rcases hO3.2 with ⟨_, h0⟩ | ⟨g, cap, cur, h', hbg, _⟩
  · have := HK.out.2; omega
  injection h' with h1 h2 h3
  subst h1; subst h3
  have HC := Lib.hid (Cur.mk hO3 HK.out.1 rfl)
  have z_2 := Cur.cell valC_len HC.out (j := 2) rfl
  have z_2f := Cur.froz HC.out 2
  have z_3 := Cur.cell valC_len HC.out (j := 3) rfl
  have z_3f := Cur.froz HC.out 3
  have z_4 := Cur.cell valC_len HC.out (j := 4) rfl
  have z_4f := Cur.froz HC.out 4
  have z_5 := Cur.cell valC_len HC.out (j := 5) rfl
  have z_5f := Cur.froz HC.out 5
  have hne : ub ≠ g := by omega
  have hnc : cb ≠ g := by omega
  have X1 := Lib.hid hx1
  clear hO3 hx1
  go_wp2_with fail
  (with_reducible refine (rosPunish1_pos g (k * 6) ub cb _ _ x3 u (max x3 u) cl _ rfl hne hnc hc z_2 z_2f z_3 z_3f z_4 z_4f y_0 v_0).mono ?_)
  rintro e w2 ⟨⟨v, rfl⟩, rfl⟩
  have HW := Lib.hid ((Cur.put valC_len ((Cur.put valC_len ((Cur.put valC_len ((Cur.put valC_len (HC.out.drew) 2 (.int .i64 3) (x0, x1, 3, x3, x4, x5) (by decide) rfl)) 3 (.int .i64 (max x3 u)) (x0, x1, 3, max x3 u, x4, x5) (by decide) rfl)) 4 (.bool true) (x0, x1, 3, max x3 u, true, x5) (by decide) rfl)) 2 (.int .i64 4) (x0, x1, 4, max x3 u, true, x5) (by decide) rfl))
  have XX := Lib.hid ((((((((((X1.out.drew)).setCell (p := ⟨g, k * 6 + 2, none⟩) hbg (.int .i64 3))).setCell (p := ⟨g, k * 6 + 3, none⟩) hbg (.int .i64 (max x3 u)))).setCell (p := ⟨g, k * 6 + 4, none⟩) hbg (.bool true))).setCell (p := ⟨g, k * 6 + 2, none⟩) hbg (.int .i64 4)))
  clear z_2 z_3 z_4 z_5 z_2f z_3f z_4f z_5f
  go_wp2_with fail
  refine bodyPost_ret (v := .tuple #[.slice (some ⟨g, 0, none⟩) l.length c3, .int .i64 0]) (by simp [results, Try.results106]; try rfl) rfl (RetV.cur (xs := [.int .i64 0]) HW.out (by simp) XX.out)
set_option maxRecDepth 100000 in
set_option maxHeartbeats 1000000 in
theorem rosChangePunish_neg (A : Option Addr) (c k : Nat) (l : List (Int × Int × Int × Int × Bool × Bool)) (x0 x1 x2 x3 : Int) (x4 x5 : Bool) (ub cb : Nat) (u cl : Int) (w : World) (h : Sl w 6 A l.length c (l.flatMap valC)) (hn : l.length < 1099511627776) (hnil : A = none → c = 0) (hk : l[k]? = some (x0, x1, x2, x3, x4, x5)) (y_0 : w.cell? ⟨ub, 0, none⟩ = some (.int .i64 u)) (v_0 : w.cell? ⟨cb, 0, none⟩ = some (.int .i64 cl)) (hc : (cl == 1) = false) :
    Calls Try.prog 106 #[.slice A l.length c, .int .i64 (k : Int), .func (.func 110) #[] #[.pointer (some ⟨ub, 0, none⟩), .pointer (some ⟨cb, 0, none⟩)]] w (RetV (l.set k (x0, x1, 3, max x3 u, x4, true)) [.int .i64 0] w) := by
  have s1 := h.small
  have hk1 : k < l.length := (List.getElem?_eq_some_iff.1 hk).1
  have hkn : (k : Int) < l.length := by omega
  have HS := Lib.hid h
  have HK := Lib.hid (And.intro hk hk1)
  have hub := cell_lt y_0
  have hcb := cell_lt v_0
  clear h hk hk1
  go_enter Try.func106, Try.ntmps106
  go_wp2_with fail
  (with_reducible refine (vClone_any A c l _ HS.out hn hnil).mono ?_)
  rintro e w1 ⟨A3, c3, rfl, hA3, hO3, hx1⟩
  replace y_0 : w1.cell? ⟨ub, 0, none⟩ = some (.int .i64 u) := hx1.has y_0
  replace v_0 : w1.cell? ⟨cb, 0, none⟩ = some (.int .i64 cl) := hx1.has v_0
  rcases hO3.2 with ⟨_, h0⟩ | ⟨g, cap, cur, h', hbg, _⟩
  · have := HK.out.2; omega
  injection h' with h1 h2 h3
  subst h1; subst h3
  have HC := Lib.hid (Cur.mk hO3 HK.out.1 rfl)
  have z_2 := Cur.cell valC_len HC.out (j := 2) rfl
  have z_2f := Cur.froz HC.out 2
  have z_3 := Cur.cell valC_len HC.out (j := 3) rfl
  have z_3f := Cur.froz HC.out 3
  have z_4 := Cur.cell valC_len HC.out (j := 4) rfl
  have z_4f := Cur.froz HC.out 4
  have z_5 := Cur.cell valC_len HC.out (j := 5) rfl
  have z_5f := Cur.froz HC.out 5
  have hne : ub ≠ g := by omega
  have hnc : cb ≠ g := by omega
  have X1 := Lib.hid hx1
  clear hO3 hx1
  go_wp2_with fail
  (with_reducible refine (rosPunish1_neg g (k * 6) ub cb _ _ x3 u (max x3 u) cl _ rfl hne hnc hc z_2 z_2f z_3 z_3f z_5 z_5f y_0 v_0).mono ?_)
  rintro e w2 ⟨⟨v, rfl⟩, rfl⟩
  have HW := Lib.hid ((Cur.put valC_len ((Cur.put valC_len ((Cur.put valC_len (HC.out.drew) 2 (.int .i64 3) (x0, x1, 3, x3, x4, x5) (by decide) rfl)) 3 (.int .i64 (max x3 u)) (x0, x1, 3, max x3 u, x4, x5) (by decide) rfl)) 5 (.bool true) (x0, x1, 3, max x3 u, x4, true) (by decide) rfl))
  have XX := Lib.hid ((((((((X1.out.drew)).setCell (p := ⟨g, k * 6 + 2, none⟩) hbg (.int .i64 3))).setCell (p := ⟨g, k * 6 + 3, none⟩) hbg (.int .i64 (max x3 u)))).setCell (p := ⟨g, k * 6 + 5, none⟩) hbg (.bool true)))
  clear z_2 z_3 z_4 z_5 z_2f z_3f z_4f z_5f
  go_wp2_with fail
  refine bodyPost_ret (v := .tuple #[.slice (some ⟨g, 0, none⟩) l.length c3, .int .i64 0]) (by simp [results, Try.results106]; try rfl) rfl (RetV.cur (xs := [.int .i64 0]) HW.out (by simp) XX.out)
theorem rosChangePunish (A : Option Addr) (c k : Nat) (l : List (Int × Int × Int × Int × Bool × Bool)) (x0 x1 x2 x3 : Int) (x4 x5 : Bool) (ub cb : Nat) (u cl : Int) (w : World) (h : Sl w 6 A l.length c (l.flatMap valC)) (hn : l.length < 1099511627776) (hnil : A = none → c = 0) (hk : l[k]? = some (x0, x1, x2, x3, x4, x5)) (y_0 : w.cell? ⟨ub, 0, none⟩ = some (.int .i64 u)) (v_0 : w.cell? ⟨cb, 0, none⟩ = some (.int .i64 cl)) :
    Calls Try.prog 106 #[.slice A l.length c, .int .i64 (k : Int), .func (.func 110) #[] #[.pointer (some ⟨ub, 0, none⟩), .pointer (some ⟨cb, 0, none⟩)]] w (RetV (l.set k (punOne (x0, x1, x2, x3, x4, x5) cl u)) [.int .i64 0] w) := by
  by_cases hc : cl = 1
  · unfold punOne
    rw [if_pos hc]
    exact rosChangePunish_pos A c k l x0 x1 x2 x3 x4 x5 ub cb u cl w h hn hnil hk y_0 v_0 (by simpa using hc)
  · unfold punOne
    rw [if_neg hc]
    exact rosChangePunish_neg A c k l x0 x1 x2 x3 x4 x5 ub cb u cl w h hn hnil hk y_0 v_0 (by simpa using hc)
end Go.Proofs.Ytjdpgapmdmpjjaa
