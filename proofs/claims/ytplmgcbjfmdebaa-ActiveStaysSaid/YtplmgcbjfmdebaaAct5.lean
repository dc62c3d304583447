/- active: the heap's methods Swap, Push, Pop, over a row that lies in memory. Conditions stand in each lemma. -/
import Derived.Test.YtplmgcbjfmdebaaAct4
import Derived.Test.YtplmgcbjfmdebaaAppTwo
import Derived.WalkSmall
set_option linter.unusedVariables false
set_option linter.unusedSimpArgs false
namespace Go.Proofs.Ytplmgcbjfmdebaa
open Go.RowKit Go.Shelf Go.ChangeShapes Go.WideShapes Go.Deep

theorem below_of {B : Nat} {w w' : World} (h : Ext w w') (hb : B ≤ w.heap.size) : Below B w w' := Below.mono h hb
set_option maxRecDepth 100000 in
set_option maxHeartbeats 2000000 in
theorem rowSwap_ne (b c n i j : Nat) (x0 x1 y0 y1 : Int) (w : World) (hi : i < n) (hj : j < n) (hn : n ≤ 9223372036854775807) (x_0 : w.cell? ⟨b, i * 2, none⟩ = some (.int .i64 x0)) (x_1 : w.cell? ⟨b, i * 2 + 1, none⟩ = some (.int .u64 x1)) (y_0 : w.cell? ⟨b, j * 2, none⟩ = some (.int .i64 y0)) (y_1 : w.cell? ⟨b, j * 2 + 1, none⟩ = some (.int .u64 y1)) (hf : ∀ k, w.frozen? ⟨b, k, none⟩ = false) (hij : i ≠ j) :
    Calls Try.prog 78 #[.slice (some ⟨b, 0, none⟩) n c, .int .i64 (i : Int), .int .i64 (j : Int)] w fun e w' => (∃ v, e = .returned v) ∧ w' = ((((w.drew).setCell ⟨b, i * 2, none⟩ (.int .i64 y0)).setCell ⟨b, i * 2 + 1, none⟩ (.int .u64 y1)).setCell ⟨b, j * 2, none⟩ (.int .i64 x0)).setCell ⟨b, j * 2 + 1, none⟩ (.int .u64 x1) := by
  have h1 : (i : Int) < (n : Int) := by omega
  have h2 : (j : Int) < (n : Int) := by omega
  have x_0f := hf (i * 2)
  have x_1f := hf (i * 2 + 1)
  have y_0f := hf (j * 2)
  have y_1f := hf (j * 2 + 1)
  have n1 : ¬ i = j := hij
  have n2 : ¬ j = i := fun e => hij e.symm
  have n3 : ¬ i * 2 = j * 2 + 1 := by omega
  have n4 : ¬ j * 2 = i * 2 + 1 := by omega
  have n5 : ¬ i * 2 + 1 = j * 2 := by omega
  have n6 : ¬ j * 2 + 1 = i * 2 := by omega
  have n7 : ¬ i * 2 = j * 2 := by omega
  have n8 : ¬ j * 2 = i * 2 := by omega
  clear hf hij
  go_enter Try.func78, Try.ntmps78
  go_wp2_with fail
  refine wp_region_held_drew (S := fun w' => True) (by kernel_rfl) (by trivial) (fun hHeld => ?_)
  (refine' take_in 0 rfl (by kernel_rfl) (by kernel_rfl) (by kernel_rfl) (fun _ _ _ h => h) (by rfl) (by assumption) ?_ ?_; rotate_left; focus (intro w hSw; (try dsimp only at hSw); go_simp; try with_reducible rfl)); try simp only [Act.put, List.setIfInBounds_toArray, List.set_cons_zero, List.set_cons_succ]
  (refine' take_in 1 rfl (by kernel_rfl) (by kernel_rfl) (by kernel_rfl) (fun _ _ _ h => h) (by rfl) (by assumption) ?_ ?_; rotate_left; focus (intro w hSw; (try dsimp only at hSw); go_simp; try with_reducible rfl)); try simp only [Act.put, List.setIfInBounds_toArray, List.set_cons_zero, List.set_cons_succ]
  (refine' take_in 2 rfl (by kernel_rfl) (by kernel_rfl) (by kernel_rfl) (fun _ _ _ h => h) (by rfl) (by assumption) ?_ ?_; rotate_left; focus (intro w hSw; (try dsimp only at hSw); go_simp; try with_reducible rfl)); try simp only [Act.put, List.setIfInBounds_toArray, List.set_cons_zero, List.set_cons_succ]
  (refine' take_in 3 rfl (by kernel_rfl) (by kernel_rfl) (by kernel_rfl) (fun _ _ _ h => h) (by rfl) (by assumption) ?_ ?_; rotate_left; focus (intro w hSw; (try dsimp only at hSw); go_simp; try with_reducible rfl)); try simp only [Act.put, List.setIfInBounds_toArray, List.set_cons_zero, List.set_cons_succ]
  (refine' take_in 4 rfl (by kernel_rfl) (by kernel_rfl) (by kernel_rfl) (fun _ _ _ h => h) (by rfl) (by assumption) ?_ ?_; rotate_left; focus (intro w hSw; (try dsimp only at hSw); go_simp; try with_reducible rfl)); try simp only [Act.put, List.setIfInBounds_toArray, List.set_cons_zero, List.set_cons_succ]
  (refine' take_in 5 rfl (by kernel_rfl) (by kernel_rfl) (by kernel_rfl) (fun _ _ _ h => h) (by rfl) (by assumption) ?_ ?_; rotate_left; focus (intro w hSw; (try dsimp only at hSw); go_simp; try with_reducible rfl)); try simp only [Act.put, List.setIfInBounds_toArray, List.set_cons_zero, List.set_cons_succ]
  (refine' take_in 6 rfl (by kernel_rfl) (by kernel_rfl) (by kernel_rfl) (fun _ _ _ h => h) (by rfl) (by assumption) ?_ ?_; rotate_left; focus (intro w hSw; (try dsimp only at hSw); go_simp; try with_reducible rfl)); try simp only [Act.put, List.setIfInBounds_toArray, List.set_cons_zero, List.set_cons_succ]
  (refine' take_in 8 rfl (by kernel_rfl) (by kernel_rfl) (by kernel_rfl) (fun _ _ _ h => h) (by rfl) (by assumption) ?_ ?_; rotate_left; focus (intro w hSw; (try dsimp only at hSw); go_simp; try with_reducible rfl)); try simp only [Act.put, List.setIfInBounds_toArray, List.set_cons_zero, List.set_cons_succ]
  (refine' take_in 9 rfl (by kernel_rfl) (by kernel_rfl) (by kernel_rfl) (fun _ _ _ h => h) (by rfl) (by assumption) ?_ ?_; rotate_left; focus (intro w hSw; (try dsimp only at hSw); go_simp; try with_reducible rfl)); try simp only [Act.put, List.setIfInBounds_toArray, List.set_cons_zero, List.set_cons_succ]
  (refine' take_in 10 rfl (by kernel_rfl) (by kernel_rfl) (by kernel_rfl) (fun _ _ _ h => h) (by rfl) (by assumption) ?_ ?_; rotate_left; focus (intro w hSw; (try dsimp only at hSw); go_simp; try with_reducible rfl)); try simp only [Act.put, List.setIfInBounds_toArray, List.set_cons_zero, List.set_cons_succ]
  refine' next2_in 7 11 rfl rfl (by kernel_rfl) (by rfl) (by rfl) (fun K hK => ?_) (fun K hK => ?_)
  · go_simp
    refine hK.out _ _ (by (trivial)) (fun hHeld => ?_); clear hK K; try simp only [Act.put, List.setIfInBounds_toArray, List.set_cons_zero, List.set_cons_succ]
    refine' next_in 11 rfl (by kernel_rfl) (by rfl) (fun K hK => ?_)
    go_simp
    refine hK.out _ _ (by (trivial)) (fun hHeld => ?_); clear hK K; try simp only [Act.put, List.setIfInBounds_toArray, List.set_cons_zero, List.set_cons_succ]
    (refine' take_in 12 rfl (by kernel_rfl) (by kernel_rfl) (by kernel_rfl) (fun _ _ _ h => h) (by rfl) (by assumption) ?_ ?_; rotate_left; focus (intro w hSw; (try dsimp only at hSw); go_simp; try with_reducible rfl)); try simp only [Act.put, List.setIfInBounds_toArray, List.set_cons_zero, List.set_cons_succ]
    refine' next_in 13 rfl (by kernel_rfl) (by rfl) (fun K hK => ?_)
    go_simp
    refine hK.out _ _ (by (trivial)) (fun hHeld => ?_); clear hK K; try simp only [Act.put, List.setIfInBounds_toArray, List.set_cons_zero, List.set_cons_succ]
    (refine' take_in 14 rfl (by kernel_rfl) (by kernel_rfl) (by kernel_rfl) (fun _ _ _ h => h) (by rfl) (by assumption) ?_ ?_; rotate_left; focus (intro w hSw; (try dsimp only at hSw); go_simp; try with_reducible rfl)); try simp only [Act.put, List.setIfInBounds_toArray, List.set_cons_zero, List.set_cons_succ]
    refine' next_in 15 rfl (by kernel_rfl) (by rfl) (fun K hK => ?_)
    go_simp
    refine hK.out _ _ (by (trivial)) (fun hHeld => ?_); clear hK K; try simp only [Act.put, List.setIfInBounds_toArray, List.set_cons_zero, List.set_cons_succ]
    refine wpAnyH_done (by kernel_rfl) ?_ _
    go_wp2_with fail
    go_end0
    exact ⟨⟨_, rfl⟩, rfl⟩
  · go_simp
    refine hK.out _ _ (by (trivial)) (fun hHeld => ?_); clear hK K; try simp only [Act.put, List.setIfInBounds_toArray, List.set_cons_zero, List.set_cons_succ]
    refine' next_in 7 rfl (by kernel_rfl) (by rfl) (fun K hK => ?_)
    go_simp
    refine hK.out _ _ (by (trivial)) (fun hHeld => ?_); clear hK K; try simp only [Act.put, List.setIfInBounds_toArray, List.set_cons_zero, List.set_cons_succ]
    (refine' take_in 12 rfl (by kernel_rfl) (by kernel_rfl) (by kernel_rfl) (fun _ _ _ h => h) (by rfl) (by assumption) ?_ ?_; rotate_left; focus (intro w hSw; (try dsimp only at hSw); go_simp; try with_reducible rfl)); try simp only [Act.put, List.setIfInBounds_toArray, List.set_cons_zero, List.set_cons_succ]
    refine' next_in 13 rfl (by kernel_rfl) (by rfl) (fun K hK => ?_)
    go_simp
    refine hK.out _ _ (by (trivial)) (fun hHeld => ?_); clear hK K; try simp only [Act.put, List.setIfInBounds_toArray, List.set_cons_zero, List.set_cons_succ]
    (refine' take_in 14 rfl (by kernel_rfl) (by kernel_rfl) (by kernel_rfl) (fun _ _ _ h => h) (by rfl) (by assumption) ?_ ?_; rotate_left; focus (intro w hSw; (try dsimp only at hSw); go_simp; try with_reducible rfl)); try simp only [Act.put, List.setIfInBounds_toArray, List.set_cons_zero, List.set_cons_succ]
    refine' next_in 15 rfl (by kernel_rfl) (by rfl) (fun K hK => ?_)
    go_simp
    refine hK.out _ _ (by (trivial)) (fun hHeld => ?_); clear hK K; try simp only [Act.put, List.setIfInBounds_toArray, List.set_cons_zero, List.set_cons_succ]
    refine wpAnyH_done (by kernel_rfl) ?_ _
    go_wp2_with fail
    go_end0
    exact ⟨⟨_, rfl⟩, rfl⟩
set_option maxRecDepth 100000 in
set_option maxHeartbeats 2000000 in
theorem rowSwap_eq (b c n i : Nat) (x0 x1 : Int) (w : World) (hi : i < n) (hn : n ≤ 9223372036854775807) (x_0 : w.cell? ⟨b, i * 2, none⟩ = some (.int .i64 x0)) (x_1 : w.cell? ⟨b, i * 2 + 1, none⟩ = some (.int .u64 x1)) (hf : ∀ k, w.frozen? ⟨b, k, none⟩ = false) :
    Calls Try.prog 78 #[.slice (some ⟨b, 0, none⟩) n c, .int .i64 (i : Int), .int .i64 (i : Int)] w fun e w' => (∃ v, e = .returned v) ∧ w' = ((((w.drew).setCell ⟨b, i * 2, none⟩ (.int .i64 x0)).setCell ⟨b, i * 2 + 1, none⟩ (.int .u64 x1)).setCell ⟨b, i * 2, none⟩ (.int .i64 x0)).setCell ⟨b, i * 2 + 1, none⟩ (.int .u64 x1) := by
  have h1 : (i : Int) < (n : Int) := by omega
  have x_0f := hf (i * 2)
  have x_1f := hf (i * 2 + 1)
  clear hf
  go_enter Try.func78, Try.ntmps78
  go_wp2_with fail
  refine wp_region_held_drew (S := fun w' => True) (by kernel_rfl) (by trivial) (fun hHeld => ?_)
  (refine' take_in 0 rfl (by kernel_rfl) (by kernel_rfl) (by kernel_rfl) (fun _ _ _ h => h) (by rfl) (by assumption) ?_ ?_; rotate_left; focus (intro w hSw; (try dsimp only at hSw); go_simp; try with_reducible rfl)); try simp only [Act.put, List.setIfInBounds_toArray, List.set_cons_zero, List.set_cons_succ]
  (refine' take_in 1 rfl (by kernel_rfl) (by kernel_rfl) (by kernel_rfl) (fun _ _ _ h => h) (by rfl) (by assumption) ?_ ?_; rotate_left; focus (intro w hSw; (try dsimp only at hSw); go_simp; try with_reducible rfl)); try simp only [Act.put, List.setIfInBounds_toArray, List.set_cons_zero, List.set_cons_succ]
  (refine' take_in 2 rfl (by kernel_rfl) (by kernel_rfl) (by kernel_rfl) (fun _ _ _ h => h) (by rfl) (by assumption) ?_ ?_; rotate_left; focus (intro w hSw; (try dsimp only at hSw); go_simp; try with_reducible rfl)); try simp only [Act.put, List.setIfInBounds_toArray, List.set_cons_zero, List.set_cons_succ]
  (refine' take_in 3 rfl (by kernel_rfl) (by kernel_rfl) (by kernel_rfl) (fun _ _ _ h => h) (by rfl) (by assumption) ?_ ?_; rotate_left; focus (intro w hSw; (try dsimp only at hSw); go_simp; try with_reducible rfl)); try simp only [Act.put, List.setIfInBounds_toArray, List.set_cons_zero, List.set_cons_succ]
  (refine' take_in 4 rfl (by kernel_rfl) (by kernel_rfl) (by kernel_rfl) (fun _ _ _ h => h) (by rfl) (by assumption) ?_ ?_; rotate_left; focus (intro w hSw; (try dsimp only at hSw); go_simp; try with_reducible rfl)); try simp only [Act.put, List.setIfInBounds_toArray, List.set_cons_zero, List.set_cons_succ]
  (refine' take_in 5 rfl (by kernel_rfl) (by kernel_rfl) (by kernel_rfl) (fun _ _ _ h => h) (by rfl) (by assumption) ?_ ?_; rotate_left; focus (intro w hSw; (try dsimp only at hSw); go_simp; try with_reducible rfl)); try simp only [Act.put, List.setIfInBounds_toArray, List.set_cons_zero, List.set_cons_succ]
  (refine' take_in 6 rfl (by kernel_rfl) (by kernel_rfl) (by kernel_rfl) (fun _ _ _ h => h) (by rfl) (by assumption) ?_ ?_; rotate_left; focus (intro w hSw; (try dsimp only at hSw); go_simp; try with_reducible rfl)); try simp only [Act.put, List.setIfInBounds_toArray, List.set_cons_zero, List.set_cons_succ]
  (refine' take_in 8 rfl (by kernel_rfl) (by kernel_rfl) (by kernel_rfl) (fun _ _ _ h => h) (by rfl) (by assumption) ?_ ?_; rotate_left; focus (intro w hSw; (try dsimp only at hSw); go_simp; try with_reducible rfl)); try simp only [Act.put, List.setIfInBounds_toArray, List.set_cons_zero, List.set_cons_succ]
  (refine' take_in 9 rfl (by kernel_rfl) (by kernel_rfl) (by kernel_rfl) (fun _ _ _ h => h) (by rfl) (by assumption) ?_ ?_; rotate_left; focus (intro w hSw; (try dsimp only at hSw); go_simp; try with_reducible rfl)); try simp only [Act.put, List.setIfInBounds_toArray, List.set_cons_zero, List.set_cons_succ]
  (refine' take_in 10 rfl (by kernel_rfl) (by kernel_rfl) (by kernel_rfl) (fun _ _ _ h => h) (by rfl) (by assumption) ?_ ?_; rotate_left; focus (intro w hSw; (try dsimp only at hSw); go_simp; try with_reducible rfl)); try simp only [Act.put, List.setIfInBounds_toArray, List.set_cons_zero, List.set_cons_succ]
  refine' next2_in 7 11 rfl rfl (by kernel_rfl) (by rfl) (by rfl) (fun K hK => ?_) (fun K hK => ?_)
  · go_simp
    refine hK.out _ _ (by (trivial)) (fun hHeld => ?_); clear hK K; try simp only [Act.put, List.setIfInBounds_toArray, List.set_cons_zero, List.set_cons_succ]
    refine' next_in 11 rfl (by kernel_rfl) (by rfl) (fun K hK => ?_)
    go_simp
    refine hK.out _ _ (by (trivial)) (fun hHeld => ?_); clear hK K; try simp only [Act.put, List.setIfInBounds_toArray, List.set_cons_zero, List.set_cons_succ]
    (refine' take_in 12 rfl (by kernel_rfl) (by kernel_rfl) (by kernel_rfl) (fun _ _ _ h => h) (by rfl) (by assumption) ?_ ?_; rotate_left; focus (intro w hSw; (try dsimp only at hSw); go_simp; try with_reducible rfl)); try simp only [Act.put, List.setIfInBounds_toArray, List.set_cons_zero, List.set_cons_succ]
    refine' next_in 13 rfl (by kernel_rfl) (by rfl) (fun K hK => ?_)
    go_simp
    refine hK.out _ _ (by (trivial)) (fun hHeld => ?_); clear hK K; try simp only [Act.put, List.setIfInBounds_toArray, List.set_cons_zero, List.set_cons_succ]
    (refine' take_in 14 rfl (by kernel_rfl) (by kernel_rfl) (by kernel_rfl) (fun _ _ _ h => h) (by rfl) (by assumption) ?_ ?_; rotate_left; focus (intro w hSw; (try dsimp only at hSw); go_simp; try with_reducible rfl)); try simp only [Act.put, List.setIfInBounds_toArray, List.set_cons_zero, List.set_cons_succ]
    refine' next_in 15 rfl (by kernel_rfl) (by rfl) (fun K hK => ?_)
    go_simp
    refine hK.out _ _ (by (trivial)) (fun hHeld => ?_); clear hK K; try simp only [Act.put, List.setIfInBounds_toArray, List.set_cons_zero, List.set_cons_succ]
    refine wpAnyH_done (by kernel_rfl) ?_ _
    go_wp2_with fail
    go_end0
    exact ⟨⟨_, rfl⟩, rfl⟩
  · go_simp
    refine hK.out _ _ (by (trivial)) (fun hHeld => ?_); clear hK K; try simp only [Act.put, List.setIfInBounds_toArray, List.set_cons_zero, List.set_cons_succ]
    refine' next_in 7 rfl (by kernel_rfl) (by rfl) (fun K hK => ?_)
    go_simp
    refine hK.out _ _ (by (trivial)) (fun hHeld => ?_); clear hK K; try simp only [Act.put, List.setIfInBounds_toArray, List.set_cons_zero, List.set_cons_succ]
    (refine' take_in 12 rfl (by kernel_rfl) (by kernel_rfl) (by kernel_rfl) (fun _ _ _ h => h) (by rfl) (by assumption) ?_ ?_; rotate_left; focus (intro w hSw; (try dsimp only at hSw); go_simp; try with_reducible rfl)); try simp only [Act.put, List.setIfInBounds_toArray, List.set_cons_zero, List.set_cons_succ]
    refine' next_in 13 rfl (by kernel_rfl) (by rfl) (fun K hK => ?_)
    go_simp
    refine hK.out _ _ (by (trivial)) (fun hHeld => ?_); clear hK K; try simp only [Act.put, List.setIfInBounds_toArray, List.set_cons_zero, List.set_cons_succ]
    (refine' take_in 14 rfl (by kernel_rfl) (by kernel_rfl) (by kernel_rfl) (fun _ _ _ h => h) (by rfl) (by assumption) ?_ ?_; rotate_left; focus (intro w hSw; (try dsimp only at hSw); go_simp; try with_reducible rfl)); try simp only [Act.put, List.setIfInBounds_toArray, List.set_cons_zero, List.set_cons_succ]
    refine' next_in 15 rfl (by kernel_rfl) (by rfl) (fun K hK => ?_)
    go_simp
    refine hK.out _ _ (by (trivial)) (fun hHeld => ?_); clear hK K; try simp only [Act.put, List.setIfInBounds_toArray, List.set_cons_zero, List.set_cons_succ]
    refine wpAnyH_done (by kernel_rfl) ?_ _
    go_wp2_with fail
    go_end0
    exact ⟨⟨_, rfl⟩, rfl⟩
theorem rowSwap_any (b c n i j : Nat) (x0 x1 y0 y1 : Int) (w : World) (hi : i < n) (hj : j < n) (hn : n ≤ 9223372036854775807) (x_0 : w.cell? ⟨b, i * 2, none⟩ = some (.int .i64 x0)) (x_1 : w.cell? ⟨b, i * 2 + 1, none⟩ = some (.int .u64 x1)) (y_0 : w.cell? ⟨b, j * 2, none⟩ = some (.int .i64 y0)) (y_1 : w.cell? ⟨b, j * 2 + 1, none⟩ = some (.int .u64 y1)) (hf : ∀ k, w.frozen? ⟨b, k, none⟩ = false) :
    Calls Try.prog 78 #[.slice (some ⟨b, 0, none⟩) n c, .int .i64 (i : Int), .int .i64 (j : Int)] w fun e w' => (∃ v, e = .returned v) ∧ w' = ((((w.drew).setCell ⟨b, i * 2, none⟩ (.int .i64 y0)).setCell ⟨b, i * 2 + 1, none⟩ (.int .u64 y1)).setCell ⟨b, j * 2, none⟩ (.int .i64 x0)).setCell ⟨b, j * 2 + 1, none⟩ (.int .u64 x1) := by
  by_cases hij : i = j
  · subst hij
    rw [x_0] at y_0
    rw [x_1] at y_1
    injection y_0 with y_0
    injection y_0 with _ y_0
    injection y_1 with y_1
    injection y_1 with _ y_1
    subst y_0
    subst y_1
    exact rowSwap_eq b c n i x0 x1 w hi hn x_0 x_1 hf
  · exact rowSwap_ne b c n i j x0 x1 y0 y1 w hi hj hn x_0 x_1 y_0 y_1 hf hij
theorem oneC_swp {L : List (Int × Int)} {i j : Nat} {a b : Int × Int} (ha : L[i]? = some a) (hb : L[j]? = some b) : (((((L.flatMap oneC).set (i * 2) (.int .i64 b.1)).set (i * 2 + 1) (.int .u64 b.2)).set (j * 2) (.int .i64 a.1)).set (j * 2 + 1) (.int .u64 a.2)) = (swp L i j).flatMap oneC := by
  have hi := (List.getElem?_eq_some_iff.1 ha).1
  have hj := (List.getElem?_eq_some_iff.1 hb).1
  have e1 := flat_set oneC_len L i 0 a (b.1, a.2) (.int .i64 b.1) ha (by omega) rfl
  rw [Nat.add_zero] at e1
  rw [e1, flat_set oneC_len _ i 1 (b.1, a.2) b (.int .u64 b.2) (by rw [List.getElem?_set_self hi]) (by omega) rfl, List.set_set]
  obtain ⟨d, hd⟩ : ∃ d, (L.set i b)[j]? = some d := ⟨_, List.getElem?_eq_getElem (by rw [List.length_set]; exact hj)⟩
  have e2 := flat_set oneC_len (L.set i b) j 0 d (a.1, d.2) (.int .i64 a.1) hd (by omega) rfl
  rw [Nat.add_zero] at e2
  rw [e2, flat_set oneC_len _ j 1 (a.1, d.2) a (.int .u64 a.2) (by rw [List.getElem?_set_self (by rw [List.length_set]; exact hj)]) (by omega) rfl, List.set_set]
  unfold swp
  rw [getD_of ha, getD_of hb]
/-- the blocks of a heap -/
def HS (g : Nat) (A : Option Addr) (k : Nat) : Prop := k = g ∨ ∃ o s, A = some ⟨k, o, s⟩
theorem HP.below {B g c : Nat} {A : Option Addr} {w w' : World} {L : List (Int × Int)} (h : HP B g A c w L) (hx : But (HS g A) w w') : Below B w w' := by
  refine hx.below (by have := h.lt; have := h.lo; omega) ?_
  rintro k hk (rfl | ⟨o, s, rfl⟩)
  · have := h.lo; omega
  · have := (World.ownsRow.lt h.own k rfl).1; omega
theorem HP.swap {B g c i j : Nat} {A : Option Addr} {w : World} {L : List (Int × Int)} {a b : Int × Int} (h : HP B g A c w L) (ha : L[i]? = some a) (hb : L[j]? = some b) :
    Calls Try.prog 78 #[.slice A L.length c, .int .i64 (i : Int), .int .i64 (j : Int)] w fun e w' => (∃ v, e = .returned v) ∧ HP B g A c w' (swp L i j) ∧ But (HS g A) w w' := by
  obtain ⟨b1, rfl, hl, _, h1, h2, h3⟩ := h.at_ ha
  obtain ⟨b2, e, _, _, h4, h5, h6⟩ := h.at_ hb
  injection e with e
  injection e with e
  subst e
  refine (rowSwap_any b1 c L.length i j a.1 a.2 b.1 b.2 w h1 h4 h.small h2 h3 h5 h6 (fun k => World.ownsRow.frozenAt h.own k)).mono ?_
  rintro e w' ⟨he, rfl⟩
  have hne := h.ne b1 0 none rfl
  have hne2 : ¬ g = b1 := fun e => hne e.symm
  have o1 := (World.ownsRow.stored (World.ownsRow.drew h.own) (i * 2) (.int .i64 b.1)).1
  have o2 := (World.ownsRow.stored o1 (i * 2 + 1) (.int .u64 b.2)).1
  have o3 := (World.ownsRow.stored o2 (j * 2) (.int .i64 a.1)).1
  have o4 := (World.ownsRow.stored o3 (j * 2 + 1) (.int .u64 a.2)).1
  rw [oneC_swp ha hb, ← swp_len L i j] at o4
  refine ⟨he, ⟨?_, ?_, ?_, h.ne, h.lo⟩, ?_⟩
  · rw [swp_len]; simp [go_sem, hne2, h.c0]
  · simp [go_sem, hne2, h.f0]
  · exact o4
  · exact (((((But.refl (HS g (some ⟨b1, 0, none⟩)) w).drew).setCell (p := ⟨b1, i * 2, none⟩) (.inr ⟨0, none, rfl⟩) _).setCell (p := ⟨b1, i * 2 + 1, none⟩) (.inr ⟨0, none, rfl⟩) _).setCell (p := ⟨b1, j * 2, none⟩) (.inr ⟨0, none, rfl⟩) _).setCell (p := ⟨b1, j * 2 + 1, none⟩) (.inr ⟨0, none, rfl⟩) _
theorem cell_of_heap {w w' : World} {k o : Nat} (h : w'.heap[k]? = w.heap[k]?) : w'.cell? ⟨k, o, none⟩ = w.cell? ⟨k, o, none⟩ ∧ w'.frozen? ⟨k, o, none⟩ = w.frozen? ⟨k, o, none⟩ :=
  ⟨World.cell?_of_block (w := w) (a := ⟨k, o, none⟩) h, World.frozen?_of_block (w := w) (a := ⟨k, o, none⟩) h⟩
/-- the row has one more, the heap's cell is the old one -/
structure HPn (B g : Nat) (A A' : Option Addr) (c c' : Nat) (w : World) (L : List (Int × Int)) (x : Int × Int) : Prop where
  c0 : w.cell? ⟨g, 0, none⟩ = some (.slice A L.length c)
  f0 : w.frozen? ⟨g, 0, none⟩ = false
  own : w.ownsRow B 63 2 (.slice A' (L.length + 1) c') (L.length + 1) ((L ++ [x]).flatMap oneC)
  ne : ∀ k o s, A' = some ⟨k, o, s⟩ → k ≠ g
  lo : B ≤ g
theorem HPn.put {B g c c' : Nat} {A A' : Option Addr} {w : World} {L : List (Int × Int)} {x : Int × Int} (h : HPn B g A A' c c' w L x) : HP B g A' c' (w.setCell ⟨g, 0, none⟩ (.slice A' (L.length + 1) c')) (L ++ [x]) := by
  have hl : (L ++ [x]).length = L.length + 1 := by simp
  have hlt : g < w.heap.size := cell_lt h.c0
  refine ⟨?_, ?_, ?_, h.ne, h.lo⟩
  · rw [hl]; simp [go_sem, h.c0]
  · simp [go_sem, h.f0]
  · rw [hl]
    refine ownsRow_setCell_other h.own ?_ _
    intro e
    cases A' with
    | none => cases e
    | some a => obtain ⟨k, o, s⟩ := a
                injection e with e
                exact h.ne k o s rfl e
theorem one_app {B g c b m : Nat} {A : Option Addr} {w : World} {L : List (Int × Int)} {x0 x1 : Int} (h : HP B g A c w L) (hn : L.length < 1099511627776) (h0 : w.cell? ⟨b, 0, none⟩ = some (.int .i64 x0)) (h1 : w.cell? ⟨b, 1, none⟩ = some (.int .u64 x1)) (ty : TypeId) :
    ∃ A' c' w', (Builtin.append_ #[54, 54] ty #[.slice A L.length c, .slice (some ⟨b, 0, none⟩) 1 m]).run Try.prog w = .ok (.slice A' (L.length + 1) c') w' ∧ HPn B g A A' c c' w' L (x0, x1) ∧ Below B w w' := by
  obtain ⟨i0, hi0, hz0, hz1, hz2⟩ := info_parts one_info
  have hlt := h.lt
  have hB : B ≤ w.heap.size := by have := h.lo; omega
  obtain ⟨v', w', hr, g2, g3, g4⟩ := run_append_fresh (P := Try.prog) (w := w) B 54 ty 63 i0 (.agg #[.int .i64 0, .int .u64 0]) 2 16 Try.underlying54 hi0 hz0 hz1 hz2 rfl (by decide) (.slice A L.length c) L.length _ h.own ⟨b, 0, none⟩ 1 m [.int .i64 x0, .int .u64 x1] rfl
    (by intro j u hj
        match j, hj with
        | 0, hj => simp at hj; subst hj; simpa [Addr.add] using h0
        | 1, hj => simp at hj; subst hj; simpa [Addr.add] using h1
        | j + 2, hj => simp at hj)
    (by intro u hu; simp at hu; rcases hu with rfl | rfl <;> rfl) (by simp [maxLen]; omega) (by omega) hB
  have g2' : w'.ownsRow B 63 2 v' (L.length + 1) ((L ++ [(x0, x1)]).flatMap oneC) := by
    rw [List.flatMap_append]
    exact g2
  obtain ⟨A', c', rfl, _, _⟩ := own_parts2 g2'
  have hg : w'.heap[g]? = w.heap[g]? := g3.block g hlt (by
    intro e
    cases A with
    | none => cases e
    | some a => obtain ⟨k, o, s⟩ := a
                injection e with e
                exact h.ne k o s rfl e.symm)
  obtain ⟨q1, q2⟩ := cell_of_heap (o := 0) hg
  refine ⟨A', c', w', hr, ⟨by rw [q1, h.c0], by rw [q2, h.f0], g2', ?_, h.lo⟩, (Below.refl B w).grown g3 hB (fun k hk => (World.ownsRow.lt h.own k hk).1)⟩
  rintro k o s rfl rfl
  rcases g4 with g4 | g4
  · cases A with
    | none => cases g4
    | some a => obtain ⟨k2, o2, s2⟩ := a
                injection g4 with g4
                exact h.ne k2 o2 s2 rfl g4.symm
  · have h9 : w.heap.size ≤ k := g4 _ rfl
    omega
theorem oper_app_one {B g c b m N : Nat} {A : Option Addr} {w : World} {L : List (Int × Int)} {x0 x1 : Int} {o : Oper} {a : Act} {K : Act → World → Prop} {Q : Exit → Act → World → Prop} (s x : Operand) (ho : o.op = .call { callee := .builtin .append, args := #[s, x], argTypes := #[54, 54] })
    (hs : a.eval s = .slice A N c) (hx : a.eval x = .slice (some ⟨b, 0, none⟩) 1 m) (hN : N = L.length) (h : HP B g A c w L) (hn : N < 1099511627776) (h0 : w.cell? ⟨b, 0, none⟩ = some (.int .i64 x0)) (h1 : w.cell? ⟨b, 1, none⟩ = some (.int .u64 x1))
    (hK : ∀ A' c' w', HPn B g A A' c c' w' L (x0, x1) → Below B w w' → K (a.put o.dst (.slice A' (N + 1) c')) w') : Oper.wp Try.prog o a w K Q := by
  subst hN
  obtain ⟨A', c', w', hr, h2, h3⟩ := one_app (m := m) h hn h0 h1 o.type
  unfold Oper.wp execOp
  simp only [ho, resolve, invoke, builtin, Sem.run_bind, Sem.run_pure, Result.andThen_ok, List.map_toArray, List.map_cons, List.map_nil, hs, hx, hr]
  exact hK A' c' w' h2 h3
theorem one_is (v : Value) (w : World) : (Instr.typeAssert (.iface 63 v) 20 63 true).run Try.prog w = .ok (.tuple #[v, .bool true]) w := by
  have hu : (underlying 63).run Try.prog w = .ok (.struct (Try.prog.fieldsOf 63)) w := run_underlying (by kernel_rfl) w
  rw [Instr.typeAssert, Sem.run_bind, hu]
  simp [Result.andThen]
set_option maxRecDepth 100000 in
set_option maxHeartbeats 2000000 in
theorem richPush_any {B g c : Nat} {A : Option Addr} {L : List (Int × Int)} (x0 x1 : Int) (w : World) (h : HP B g A c w L) (hn : L.length < 1099511627776) :
    Calls Try.prog 77 #[.pointer (some ⟨g, 0, none⟩), .iface 63 (.agg #[.int .i64 x0, .int .u64 x1])] w fun e w' => (∃ v, e = .returned v) ∧ (∃ A' c', HP B g A' c' w' (L ++ [(x0, x1)])) ∧ Below B w w' := by
  have g_0 := h.c0
  have hlt := h.lt
  have hB : B ≤ w.heap.size := by have := h.lo; omega
  have hne : ¬ g = w.heap.size := by omega
  have hlo := h.lo
  have HH := Lib.hid h
  obtain ⟨N, hN⟩ : ∃ N, N = L.length := ⟨_, rfl⟩
  have HN := Lib.hid hN
  rw [← hN] at g_0 hn
  have hta : ∀ (w : World), (Instr.typeAssert (.iface 63 (.agg #[.int .i64 x0, .int .u64 x1])) 20 63 true).run Try.prog w = .ok (.tuple #[.agg #[.int .i64 x0, .int .u64 x1], .bool true]) w := fun w => one_is _ w
  clear h hN
  go_enter Try.func77, Try.ntmps77
  go_wp2_with fail
  refine wp_region_held_drew (S := fun _ => True) (by kernel_rfl) trivial (fun hHeld => ?_)
  (refine' take_in 0 rfl (by kernel_rfl) (by kernel_rfl) (by kernel_rfl) (fun _ _ _ h => h) (by rfl) (by assumption) ?_ ?_; rotate_left; focus (intro w hSw; (try dsimp only at hSw); go_simp; try with_reducible rfl)); try simp only [Act.put, List.setIfInBounds_toArray, List.set_cons_zero, List.set_cons_succ]
  (refine' take_in 1 rfl (by kernel_rfl) (by kernel_rfl) (by kernel_rfl) (fun _ _ _ h => h) (by rfl) (by assumption) ?_ ?_; rotate_left; focus (intro w hSw; (try dsimp only at hSw); go_simp; try with_reducible rfl)); try simp only [Act.put, List.setIfInBounds_toArray, List.set_cons_zero, List.set_cons_succ]
  (refine' take_in 2 rfl (by kernel_rfl) (by kernel_rfl) (by kernel_rfl) (fun _ _ _ h => h) (by rfl) (by assumption) ?_ ?_; rotate_left; focus (intro w hSw; (try dsimp only at hSw); go_simp; try with_reducible rfl)); try simp only [Act.put, List.setIfInBounds_toArray, List.set_cons_zero, List.set_cons_succ]
  (refine' take_in 3 rfl (by kernel_rfl) (by kernel_rfl) (by kernel_rfl) (fun _ _ _ h => h) (by rfl) (by assumption) ?_ ?_; rotate_left; focus (intro w hSw; (try dsimp only at hSw); go_simp; try with_reducible rfl)); try simp only [Act.put, List.setIfInBounds_toArray, List.set_cons_zero, List.set_cons_succ]
  refine' next2_in 4 5 rfl rfl (by kernel_rfl) (by rfl) (by rfl) (fun K hK => ?_) (fun K hK => ?_)
  · go_simp
    refine hK.out _ _ (trivial) (fun hHeld => ?_); clear hK K; try simp only [Act.put, List.setIfInBounds_toArray, List.set_cons_zero, List.set_cons_succ]
    refine' next_in 5 rfl (by kernel_rfl) (by rfl) (fun K hK => ?_)
    go_simp
    refine hK.out _ _ (trivial) (fun hHeld => ?_); clear hK K; try simp only [Act.put, List.setIfInBounds_toArray, List.set_cons_zero, List.set_cons_succ]
    refine' next_in 6 rfl (by kernel_rfl) (by rfl) (fun K hK => ?_)
    go_simp
    refine hK.out _ _ (trivial) (fun hHeld => ?_); clear hK K; try simp only [Act.put, List.setIfInBounds_toArray, List.set_cons_zero, List.set_cons_succ]
    refine' next_in 7 rfl (by kernel_rfl) (by rfl) (fun K hK => ?_)
    refine oper_app_one (m := 1) (x0 := x0) (x1 := x1) (.tmp 16) (.tmp 18) rfl rfl rfl HN.out (HH.out.ext (by repeat (first | with_reducible exact Ext.refl _ | with_reducible refine Ext.drew ?_ | with_reducible refine Ext.drewN ?_ _ | with_reducible refine Ext.alloc ?_ _ | with_reducible refine Ext.setCell ?_ (by first | omega | (simp; done) | (simp; omega)) _))) hn (by simp [go_sem]) (by simp [go_sem]) (fun A7 c7 w7 h7 b7 => ?_)
    have q_0 : w7.cell? ⟨g, 0, none⟩ = some (.slice A N c) := by rw [HN.out]; exact h7.c0
    have q_0f := h7.f0
    have E7 := Lib.hid (show HP B g A7 c7 (w7.setCell ⟨g, 0, none⟩ (.slice A7 (N + 1) c7)) (L ++ [(x0, x1)]) from by rw [HN.out]; exact h7.put)
    have B7 := Lib.hid (show Below B w w7 from Below.trans (below_of (by repeat (first | with_reducible exact Ext.refl _ | with_reducible refine Ext.drew ?_ | with_reducible refine Ext.drewN ?_ _ | with_reducible refine Ext.alloc ?_ _ | with_reducible refine Ext.setCell ?_ (by first | omega | (simp; done) | (simp; omega)) _)) hB) b7)
    clear h7 b7
    refine hK.out _ _ (trivial) (fun hHeld => ?_); clear hK K; try simp only [Act.put, List.setIfInBounds_toArray, List.set_cons_zero, List.set_cons_succ]
    (refine' take_in 8 rfl (by kernel_rfl) (by kernel_rfl) (by kernel_rfl) (fun _ _ _ h => h) (by rfl) (by assumption) ?_ ?_; rotate_left; focus (intro w hSw; (try dsimp only at hSw); go_simp; try with_reducible rfl)); try simp only [Act.put, List.setIfInBounds_toArray, List.set_cons_zero, List.set_cons_succ]
    (refine' take_in 9 rfl (by kernel_rfl) (by kernel_rfl) (by kernel_rfl) (fun _ _ _ h => h) (by rfl) (by assumption) ?_ ?_; rotate_left; focus (intro w hSw; (try dsimp only at hSw); go_simp; try with_reducible rfl)); try simp only [Act.put, List.setIfInBounds_toArray, List.set_cons_zero, List.set_cons_succ]
    refine' next_in 10 rfl (by kernel_rfl) (by rfl) (fun K hK => ?_)
    go_simp
    refine hK.out _ _ (trivial) (fun hHeld => ?_); clear hK K; try simp only [Act.put, List.setIfInBounds_toArray, List.set_cons_zero, List.set_cons_succ]
    refine wpAnyH_done (by kernel_rfl) ?_ _
    go_wp2_with fail
    go_end0
    exact ⟨⟨_, rfl⟩, ⟨A7, c7, E7.out⟩, B7.out.setCell hlo _⟩
  · go_simp
    refine hK.out _ _ (trivial) (fun hHeld => ?_); clear hK K; try simp only [Act.put, List.setIfInBounds_toArray, List.set_cons_zero, List.set_cons_succ]
    refine' next2_in 4 6 rfl rfl (by kernel_rfl) (by rfl) (by rfl) (fun K hK => ?_) (fun K hK => ?_)
    · go_simp
      refine hK.out _ _ (trivial) (fun hHeld => ?_); clear hK K; try simp only [Act.put, List.setIfInBounds_toArray, List.set_cons_zero, List.set_cons_succ]
      refine' next_in 6 rfl (by kernel_rfl) (by rfl) (fun K hK => ?_)
      go_simp
      refine hK.out _ _ (trivial) (fun hHeld => ?_); clear hK K; try simp only [Act.put, List.setIfInBounds_toArray, List.set_cons_zero, List.set_cons_succ]
      refine' next_in 7 rfl (by kernel_rfl) (by rfl) (fun K hK => ?_)
      refine oper_app_one (m := 1) (x0 := x0) (x1 := x1) (.tmp 16) (.tmp 18) rfl rfl rfl HN.out (HH.out.ext (by repeat (first | with_reducible exact Ext.refl _ | with_reducible refine Ext.drew ?_ | with_reducible refine Ext.drewN ?_ _ | with_reducible refine Ext.alloc ?_ _ | with_reducible refine Ext.setCell ?_ (by first | omega | (simp; done) | (simp; omega)) _))) hn (by simp [go_sem]) (by simp [go_sem]) (fun A7 c7 w7 h7 b7 => ?_)
      have q_0 : w7.cell? ⟨g, 0, none⟩ = some (.slice A N c) := by rw [HN.out]; exact h7.c0
      have q_0f := h7.f0
      have E7 := Lib.hid (show HP B g A7 c7 (w7.setCell ⟨g, 0, none⟩ (.slice A7 (N + 1) c7)) (L ++ [(x0, x1)]) from by rw [HN.out]; exact h7.put)
      have B7 := Lib.hid (show Below B w w7 from Below.trans (below_of (by repeat (first | with_reducible exact Ext.refl _ | with_reducible refine Ext.drew ?_ | with_reducible refine Ext.drewN ?_ _ | with_reducible refine Ext.alloc ?_ _ | with_reducible refine Ext.setCell ?_ (by first | omega | (simp; done) | (simp; omega)) _)) hB) b7)
      clear h7 b7
      refine hK.out _ _ (trivial) (fun hHeld => ?_); clear hK K; try simp only [Act.put, List.setIfInBounds_toArray, List.set_cons_zero, List.set_cons_succ]
      (refine' take_in 8 rfl (by kernel_rfl) (by kernel_rfl) (by kernel_rfl) (fun _ _ _ h => h) (by rfl) (by assumption) ?_ ?_; rotate_left; focus (intro w hSw; (try dsimp only at hSw); go_simp; try with_reducible rfl)); try simp only [Act.put, List.setIfInBounds_toArray, List.set_cons_zero, List.set_cons_succ]
      (refine' take_in 9 rfl (by kernel_rfl) (by kernel_rfl) (by kernel_rfl) (fun _ _ _ h => h) (by rfl) (by assumption) ?_ ?_; rotate_left; focus (intro w hSw; (try dsimp only at hSw); go_simp; try with_reducible rfl)); try simp only [Act.put, List.setIfInBounds_toArray, List.set_cons_zero, List.set_cons_succ]
      refine' next_in 10 rfl (by kernel_rfl) (by rfl) (fun K hK => ?_)
      go_simp
      refine hK.out _ _ (trivial) (fun hHeld => ?_); clear hK K; try simp only [Act.put, List.setIfInBounds_toArray, List.set_cons_zero, List.set_cons_succ]
      refine wpAnyH_done (by kernel_rfl) ?_ _
      go_wp2_with fail
      go_end0
      exact ⟨⟨_, rfl⟩, ⟨A7, c7, E7.out⟩, B7.out.setCell hlo _⟩
    · go_simp
      refine hK.out _ _ (trivial) (fun hHeld => ?_); clear hK K; try simp only [Act.put, List.setIfInBounds_toArray, List.set_cons_zero, List.set_cons_succ]
      refine' next_in 4 rfl (by kernel_rfl) (by rfl) (fun K hK => ?_)
      go_simp
      refine hK.out _ _ (trivial) (fun hHeld => ?_); clear hK K; try simp only [Act.put, List.setIfInBounds_toArray, List.set_cons_zero, List.set_cons_succ]
      refine' next_in 7 rfl (by kernel_rfl) (by rfl) (fun K hK => ?_)
      refine oper_app_one (m := 1) (x0 := x0) (x1 := x1) (.tmp 16) (.tmp 18) rfl rfl rfl HN.out (HH.out.ext (by repeat (first | with_reducible exact Ext.refl _ | with_reducible refine Ext.drew ?_ | with_reducible refine Ext.drewN ?_ _ | with_reducible refine Ext.alloc ?_ _ | with_reducible refine Ext.setCell ?_ (by first | omega | (simp; done) | (simp; omega)) _))) hn (by simp [go_sem]) (by simp [go_sem]) (fun A7 c7 w7 h7 b7 => ?_)
      have q_0 : w7.cell? ⟨g, 0, none⟩ = some (.slice A N c) := by rw [HN.out]; exact h7.c0
      have q_0f := h7.f0
      have E7 := Lib.hid (show HP B g A7 c7 (w7.setCell ⟨g, 0, none⟩ (.slice A7 (N + 1) c7)) (L ++ [(x0, x1)]) from by rw [HN.out]; exact h7.put)
      have B7 := Lib.hid (show Below B w w7 from Below.trans (below_of (by repeat (first | with_reducible exact Ext.refl _ | with_reducible refine Ext.drew ?_ | with_reducible refine Ext.drewN ?_ _ | with_reducible refine Ext.alloc ?_ _ | with_reducible refine Ext.setCell ?_ (by first | omega | (simp; done) | (simp; omega)) _)) hB) b7)
      clear h7 b7
      refine hK.out _ _ (trivial) (fun hHeld => ?_); clear hK K; try simp only [Act.put, List.setIfInBounds_toArray, List.set_cons_zero, List.set_cons_succ]
      (refine' take_in 8 rfl (by kernel_rfl) (by kernel_rfl) (by kernel_rfl) (fun _ _ _ h => h) (by rfl) (by assumption) ?_ ?_; rotate_left; focus (intro w hSw; (try dsimp only at hSw); go_simp; try with_reducible rfl)); try simp only [Act.put, List.setIfInBounds_toArray, List.set_cons_zero, List.set_cons_succ]
      (refine' take_in 9 rfl (by kernel_rfl) (by kernel_rfl) (by kernel_rfl) (fun _ _ _ h => h) (by rfl) (by assumption) ?_ ?_; rotate_left; focus (intro w hSw; (try dsimp only at hSw); go_simp; try with_reducible rfl)); try simp only [Act.put, List.setIfInBounds_toArray, List.set_cons_zero, List.set_cons_succ]
      refine' next_in 10 rfl (by kernel_rfl) (by rfl) (fun K hK => ?_)
      go_simp
      refine hK.out _ _ (trivial) (fun hHeld => ?_); clear hK K; try simp only [Act.put, List.setIfInBounds_toArray, List.set_cons_zero, List.set_cons_succ]
      refine wpAnyH_done (by kernel_rfl) ?_ _
      go_wp2_with fail
      go_end0
      exact ⟨⟨_, rfl⟩, ⟨A7, c7, E7.out⟩, B7.out.setCell hlo _⟩
set_option maxRecDepth 100000 in
set_option maxHeartbeats 2000000 in
theorem richPop_cell (g b n c N : Nat) (x0 x1 : Int) (w : World) (hlt : g < w.heap.size) (hbl : b < w.heap.size) (hne : ¬ b = g) (hN : IntKind.i64.wrap ((N : Int) - 1) = (n : Int)) (hn : n < N) (hNs : N ≤ 1099511627776) (hc : N ≤ c) (hcm : c ≤ maxLen) (g_0 : w.cell? ⟨g, 0, none⟩ = some (.slice (some ⟨b, 0, none⟩) N c)) (g_0f : w.frozen? ⟨g, 0, none⟩ = false) (x_0 : w.cell? ⟨b, n * 2, none⟩ = some (.int .i64 x0)) (x_1 : w.cell? ⟨b, n * 2 + 1, none⟩ = some (.int .u64 x1)) :
    Calls Try.prog 76 #[.pointer (some ⟨g, 0, none⟩)] w fun e w' => e = .returned (.iface 63 (.agg #[.int .i64 x0, .int .u64 x1])) ∧ Ext (w.setCell ⟨g, 0, none⟩ (.slice (some ⟨b, 0, none⟩) n c)) w' := by
  have h1 : (n : Int) < (N : Int) := by omega
  have hne2 : ¬ g = b := fun e => hne e.symm
  have hgn : ¬ g = w.heap.size := by omega
  have hbn : ¬ b = w.heap.size := by omega
  have hnc : (n : Int) ≤ (c : Int) := by omega
  have hcs : (c : Int) ≤ 9223372036854775807 := by simp [maxLen] at hcm; omega
  have rg : g < w.heap.size := hlt
  have rx : b < w.heap.size := hbl
  go_enter Try.func76, Try.ntmps76
  go_wp2_with fail
  refine wp_region_held_drew (S := fun w' => w'.cell? ⟨g, 0, none⟩ = some (.slice (some ⟨b, 0, none⟩) N c) ∧ w'.cell? ⟨b, n * 2, none⟩ = some (.int .i64 x0) ∧ w'.cell? ⟨b, n * 2 + 1, none⟩ = some (.int .u64 x1)) (by kernel_rfl) (by first | exact ⟨g_0, x_0, x_1⟩ | (simp [go_sem, World.cell?_alloc_past, g_0, g_0f, x_0, x_1, hne, hne2, hgn, hbn, rg, rx]; done)) (fun hHeld => ?_)
  (refine' take_in 0 rfl (by kernel_rfl) (by kernel_rfl) (by kernel_rfl) (fun _ _ _ h => h) (by rfl) (by assumption) ?_ ?_; rotate_left; focus (intro w hSw; (try dsimp only at hSw); go_simp; try with_reducible rfl)); try simp only [Act.put, List.setIfInBounds_toArray, List.set_cons_zero, List.set_cons_succ]
  (refine' take_in 1 rfl (by kernel_rfl) (by kernel_rfl) (by kernel_rfl) (fun _ _ _ h => h) (by rfl) (by assumption) ?_ ?_; rotate_left; focus (intro w hSw; (try dsimp only at hSw); go_simp; try with_reducible rfl)); try simp only [Act.put, List.setIfInBounds_toArray, List.set_cons_zero, List.set_cons_succ]
  (refine' take_in 2 rfl (by kernel_rfl) (by kernel_rfl) (by kernel_rfl) (fun _ _ _ h => h) (by rfl) (by assumption) ?_ ?_; rotate_left; focus (intro w hSw; (try dsimp only at hSw); go_simp; try with_reducible rfl)); try simp only [Act.put, List.setIfInBounds_toArray, List.set_cons_zero, List.set_cons_succ]
  (refine' take_in 3 rfl (by kernel_rfl) (by kernel_rfl) (by kernel_rfl) (fun _ _ _ h => h) (by rfl) (by assumption) ?_ ?_; rotate_left; focus (intro w hSw; (try dsimp only at hSw); go_simp; try with_reducible rfl)); try simp only [Act.put, List.setIfInBounds_toArray, List.set_cons_zero, List.set_cons_succ]
  (refine' take_in 4 rfl (by kernel_rfl) (by kernel_rfl) (by kernel_rfl) (fun _ _ _ h => h) (by rfl) (by assumption) ?_ ?_; rotate_left; focus (intro w hSw; (try dsimp only at hSw); go_simp; try with_reducible rfl)); try simp only [Act.put, List.setIfInBounds_toArray, List.set_cons_zero, List.set_cons_succ]
  (refine' take_in 5 rfl (by kernel_rfl) (by kernel_rfl) (by kernel_rfl) (fun _ _ _ h => h) (by rfl) (by assumption) ?_ ?_; rotate_left; focus (intro w hSw; (try dsimp only at hSw); go_simp; try with_reducible rfl)); try simp only [Act.put, List.setIfInBounds_toArray, List.set_cons_zero, List.set_cons_succ]
  (refine' take_in 6 rfl (by kernel_rfl) (by kernel_rfl) (by kernel_rfl) (fun _ _ _ h => h) (by rfl) (by assumption) ?_ ?_; rotate_left; focus (intro w hSw; (try dsimp only at hSw); go_simp; try with_reducible rfl)); try simp only [Act.put, List.setIfInBounds_toArray, List.set_cons_zero, List.set_cons_succ]
  (refine' take_in 7 rfl (by kernel_rfl) (by kernel_rfl) (by kernel_rfl) (fun _ _ _ h => h) (by rfl) (by assumption) ?_ ?_; rotate_left; focus (intro w hSw; (try dsimp only at hSw); go_simp; try with_reducible rfl)); try simp only [Act.put, List.setIfInBounds_toArray, List.set_cons_zero, List.set_cons_succ]
  (refine' take_in 8 rfl (by kernel_rfl) (by kernel_rfl) (by kernel_rfl) (fun _ _ _ h => h) (by rfl) (by assumption) ?_ ?_; rotate_left; focus (intro w hSw; (try dsimp only at hSw); go_simp; try with_reducible rfl)); try simp only [Act.put, List.setIfInBounds_toArray, List.set_cons_zero, List.set_cons_succ]
  (refine' take_in 9 rfl (by kernel_rfl) (by kernel_rfl) (by kernel_rfl) (fun _ _ _ h => h) (by rfl) (by assumption) ?_ ?_; rotate_left; focus (intro w hSw; (try dsimp only at hSw); go_simp; try with_reducible rfl)); try simp only [Act.put, List.setIfInBounds_toArray, List.set_cons_zero, List.set_cons_succ]
  (refine' take_in 10 rfl (by kernel_rfl) (by kernel_rfl) (by kernel_rfl) (fun _ _ _ h => h) (by rfl) (by assumption) ?_ ?_; rotate_left; focus (intro w hSw; (try dsimp only at hSw); go_simp; try with_reducible rfl)); try simp only [Act.put, List.setIfInBounds_toArray, List.set_cons_zero, List.set_cons_succ]
  (refine' take_in 11 rfl (by kernel_rfl) (by kernel_rfl) (by kernel_rfl) (fun _ _ _ h => h) (by rfl) (by assumption) ?_ ?_; rotate_left; focus (intro w hSw; (try dsimp only at hSw); go_simp; try with_reducible rfl)); try simp only [Act.put, List.setIfInBounds_toArray, List.set_cons_zero, List.set_cons_succ]
  refine' next_in 12 rfl (by kernel_rfl) (by rfl) (fun K hK => ?_)
  go_simp
  refine hK.out _ _ (by (first | exact ⟨g_0, x_0, x_1⟩ | (simp [go_sem, World.cell?_alloc_past, g_0, g_0f, x_0, x_1, hne, hne2, hgn, hbn, rg, rx]; done))) (fun hHeld => ?_); clear hK K; try simp only [Act.put, List.setIfInBounds_toArray, List.set_cons_zero, List.set_cons_succ]
  refine' next_in 13 rfl (by kernel_rfl) (by rfl) (fun K hK => ?_)
  go_simp
  refine hK.out _ _ (by (first | exact ⟨g_0, x_0, x_1⟩ | (simp [go_sem, World.cell?_alloc_past, g_0, g_0f, x_0, x_1, hne, hne2, hgn, hbn, rg, rx]; done))) (fun hHeld => ?_); clear hK K; try simp only [Act.put, List.setIfInBounds_toArray, List.set_cons_zero, List.set_cons_succ]
  refine wpAnyH_done (by kernel_rfl) ?_ _
  go_wp2_with fail
  refine wp_region_held_drew (S := fun w' => True) (by kernel_rfl) (by trivial) (fun hHeld => ?_)
  (refine' take_in 0 rfl (by kernel_rfl) (by kernel_rfl) (by kernel_rfl) (fun _ _ _ h => h) (by rfl) (by assumption) ?_ ?_; rotate_left; focus (intro w hSw; (try dsimp only at hSw); go_simp; try with_reducible rfl)); try simp only [Act.put, List.setIfInBounds_toArray, List.set_cons_zero, List.set_cons_succ]
  (refine' take_in 1 rfl (by kernel_rfl) (by kernel_rfl) (by kernel_rfl) (fun _ _ _ h => h) (by rfl) (by assumption) ?_ ?_; rotate_left; focus (intro w hSw; (try dsimp only at hSw); go_simp; try with_reducible rfl)); try simp only [Act.put, List.setIfInBounds_toArray, List.set_cons_zero, List.set_cons_succ]
  (refine' take_in 2 rfl (by kernel_rfl) (by kernel_rfl) (by kernel_rfl) (fun _ _ _ h => h) (by rfl) (by assumption) ?_ ?_; rotate_left; focus (intro w hSw; (try dsimp only at hSw); go_simp; try with_reducible rfl)); try simp only [Act.put, List.setIfInBounds_toArray, List.set_cons_zero, List.set_cons_succ]
  (refine' take_in 3 rfl (by kernel_rfl) (by kernel_rfl) (by kernel_rfl) (fun _ _ _ h => h) (by rfl) (by assumption) ?_ ?_; rotate_left; focus (intro w hSw; (try dsimp only at hSw); go_simp; try with_reducible rfl)); try simp only [Act.put, List.setIfInBounds_toArray, List.set_cons_zero, List.set_cons_succ]
  (refine' take_in 5 rfl (by kernel_rfl) (by kernel_rfl) (by kernel_rfl) (fun _ _ _ h => h) (by rfl) (by assumption) ?_ ?_; rotate_left; focus (intro w hSw; (try dsimp only at hSw); go_simp; try with_reducible rfl)); try simp only [Act.put, List.setIfInBounds_toArray, List.set_cons_zero, List.set_cons_succ]
  (refine' take_in 6 rfl (by kernel_rfl) (by kernel_rfl) (by kernel_rfl) (fun _ _ _ h => h) (by rfl) (by assumption) ?_ ?_; rotate_left; focus (intro w hSw; (try dsimp only at hSw); go_simp; try with_reducible rfl)); try simp only [Act.put, List.setIfInBounds_toArray, List.set_cons_zero, List.set_cons_succ]
  (refine' take_in 7 rfl (by kernel_rfl) (by kernel_rfl) (by kernel_rfl) (fun _ _ _ h => h) (by rfl) (by assumption) ?_ ?_; rotate_left; focus (intro w hSw; (try dsimp only at hSw); go_simp; try with_reducible rfl)); try simp only [Act.put, List.setIfInBounds_toArray, List.set_cons_zero, List.set_cons_succ]
  refine' next2_in 4 8 rfl rfl (by kernel_rfl) (by rfl) (by rfl) (fun K hK => ?_) (fun K hK => ?_)
  · go_simp
    refine hK.out _ _ (by (trivial)) (fun hHeld => ?_); clear hK K; try simp only [Act.put, List.setIfInBounds_toArray, List.set_cons_zero, List.set_cons_succ]
    refine' next_in 8 rfl (by kernel_rfl) (by rfl) (fun K hK => ?_)
    go_simp
    refine hK.out _ _ (by (trivial)) (fun hHeld => ?_); clear hK K; try simp only [Act.put, List.setIfInBounds_toArray, List.set_cons_zero, List.set_cons_succ]
    (refine' take_in 9 rfl (by kernel_rfl) (by kernel_rfl) (by kernel_rfl) (fun _ _ _ h => h) (by rfl) (by assumption) ?_ ?_; rotate_left; focus (intro w hSw; (try dsimp only at hSw); go_simp; try with_reducible rfl)); try simp only [Act.put, List.setIfInBounds_toArray, List.set_cons_zero, List.set_cons_succ]
    (refine' take_in 10 rfl (by kernel_rfl) (by kernel_rfl) (by kernel_rfl) (fun _ _ _ h => h) (by rfl) (by assumption) ?_ ?_; rotate_left; focus (intro w hSw; (try dsimp only at hSw); go_simp; try with_reducible rfl)); try simp only [Act.put, List.setIfInBounds_toArray, List.set_cons_zero, List.set_cons_succ]
    (refine' take_in 11 rfl (by kernel_rfl) (by kernel_rfl) (by kernel_rfl) (fun _ _ _ h => h) (by rfl) (by assumption) ?_ ?_; rotate_left; focus (intro w hSw; (try dsimp only at hSw); go_simp; try with_reducible rfl)); try simp only [Act.put, List.setIfInBounds_toArray, List.set_cons_zero, List.set_cons_succ]
    (refine' take_in 12 rfl (by kernel_rfl) (by kernel_rfl) (by kernel_rfl) (fun _ _ _ h => h) (by rfl) (by assumption) ?_ ?_; rotate_left; focus (intro w hSw; (try dsimp only at hSw); go_simp; try with_reducible rfl)); try simp only [Act.put, List.setIfInBounds_toArray, List.set_cons_zero, List.set_cons_succ]
    (refine' take_in 13 rfl (by kernel_rfl) (by kernel_rfl) (by kernel_rfl) (fun _ _ _ h => h) (by rfl) (by assumption) ?_ ?_; rotate_left; focus (intro w hSw; (try dsimp only at hSw); go_simp; try with_reducible rfl)); try simp only [Act.put, List.setIfInBounds_toArray, List.set_cons_zero, List.set_cons_succ]
    refine' next_in 14 rfl (by kernel_rfl) (by rfl) (fun K hK => ?_)
    go_simp
    refine hK.out _ _ (by (trivial)) (fun hHeld => ?_); clear hK K; try simp only [Act.put, List.setIfInBounds_toArray, List.set_cons_zero, List.set_cons_succ]
    refine wpAnyH_done (by kernel_rfl) ?_ _
    go_wp2_with fail
    refine bodyPost_ret (v := .iface 63 (.agg #[.int .i64 x0, .int .u64 x1])) (by simp [results, Try.results76, go_sem, World.cell?_alloc_past, g_0, g_0f, x_0, x_1, hne, hne2, hgn, hbn, rg, rx]; try rfl) rfl ⟨rfl, ?_⟩
    (repeat (first | with_reducible exact Ext.refl _ | with_reducible refine Ext.drew ?_ | with_reducible refine Ext.drewN ?_ _ | with_reducible refine Ext.alloc ?_ _ | with_reducible refine Ext.setCell ?_ (by first | omega | (simp; done) | (simp; omega)) _))
  · go_simp
    refine hK.out _ _ (by (trivial)) (fun hHeld => ?_); clear hK K; try simp only [Act.put, List.setIfInBounds_toArray, List.set_cons_zero, List.set_cons_succ]
    (refine' take_in 9 rfl (by kernel_rfl) (by kernel_rfl) (by kernel_rfl) (fun _ _ _ h => h) (by rfl) (by assumption) ?_ ?_; rotate_left; focus (intro w hSw; (try dsimp only at hSw); go_simp; try with_reducible rfl)); try simp only [Act.put, List.setIfInBounds_toArray, List.set_cons_zero, List.set_cons_succ]
    (refine' take_in 10 rfl (by kernel_rfl) (by kernel_rfl) (by kernel_rfl) (fun _ _ _ h => h) (by rfl) (by assumption) ?_ ?_; rotate_left; focus (intro w hSw; (try dsimp only at hSw); go_simp; try with_reducible rfl)); try simp only [Act.put, List.setIfInBounds_toArray, List.set_cons_zero, List.set_cons_succ]
    refine' next_in 4 rfl (by kernel_rfl) (by rfl) (fun K hK => ?_)
    go_simp
    refine hK.out _ _ (by (trivial)) (fun hHeld => ?_); clear hK K; try simp only [Act.put, List.setIfInBounds_toArray, List.set_cons_zero, List.set_cons_succ]
    (refine' take_in 11 rfl (by kernel_rfl) (by kernel_rfl) (by kernel_rfl) (fun _ _ _ h => h) (by rfl) (by assumption) ?_ ?_; rotate_left; focus (intro w hSw; (try dsimp only at hSw); go_simp; try with_reducible rfl)); try simp only [Act.put, List.setIfInBounds_toArray, List.set_cons_zero, List.set_cons_succ]
    (refine' take_in 12 rfl (by kernel_rfl) (by kernel_rfl) (by kernel_rfl) (fun _ _ _ h => h) (by rfl) (by assumption) ?_ ?_; rotate_left; focus (intro w hSw; (try dsimp only at hSw); go_simp; try with_reducible rfl)); try simp only [Act.put, List.setIfInBounds_toArray, List.set_cons_zero, List.set_cons_succ]
    (refine' take_in 13 rfl (by kernel_rfl) (by kernel_rfl) (by kernel_rfl) (fun _ _ _ h => h) (by rfl) (by assumption) ?_ ?_; rotate_left; focus (intro w hSw; (try dsimp only at hSw); go_simp; try with_reducible rfl)); try simp only [Act.put, List.setIfInBounds_toArray, List.set_cons_zero, List.set_cons_succ]
    refine' next_in 14 rfl (by kernel_rfl) (by rfl) (fun K hK => ?_)
    go_simp
    refine hK.out _ _ (by (trivial)) (fun hHeld => ?_); clear hK K; try simp only [Act.put, List.setIfInBounds_toArray, List.set_cons_zero, List.set_cons_succ]
    refine wpAnyH_done (by kernel_rfl) ?_ _
    go_wp2_with fail
    refine bodyPost_ret (v := .iface 63 (.agg #[.int .i64 x0, .int .u64 x1])) (by simp [results, Try.results76, go_sem, World.cell?_alloc_past, g_0, g_0f, x_0, x_1, hne, hne2, hgn, hbn, rg, rx]; try rfl) rfl ⟨rfl, ?_⟩
    (repeat (first | with_reducible exact Ext.refl _ | with_reducible refine Ext.drew ?_ | with_reducible refine Ext.drewN ?_ _ | with_reducible refine Ext.alloc ?_ _ | with_reducible refine Ext.setCell ?_ (by first | omega | (simp; done) | (simp; omega)) _))
theorem HP.popped {B g c n : Nat} {b : Nat} {w : World} {L : List (Int × Int)} (h : HP B g (some ⟨b, 0, none⟩) c w L) (hn : L.length = n + 1) : HP B g (some ⟨b, 0, none⟩) c (w.setCell ⟨g, 0, none⟩ (.slice (some ⟨b, 0, none⟩) n c)) (L.take n) := by
  have hl : (L.take n).length = n := by rw [List.length_take]; omega
  have e : L = L.take n ++ L.drop n := (List.take_append_drop n L).symm
  have hne := h.ne b 0 none rfl
  refine ⟨?_, ?_, ?_, h.ne, h.lo⟩
  · rw [hl]; simp [go_sem, h.c0]
  · simp [go_sem, h.f0]
  · rw [hl]
    refine ownsRow_setCell_other ?_ (fun e => by injection e with e; exact hne e) _
    refine ownsRow_pop (last := (L.drop n).flatMap oneC) (by rw [flat_len oneC_len, hl]) ?_
    rw [← List.flatMap_append, List.take_append_drop, ← hn]
    exact h.own
theorem HP.pop {B g c n : Nat} {A : Option Addr} {w : World} {L : List (Int × Int)} {x : Int × Int} (h : HP B g A c w L) (hn : L.length = n + 1) (hx : L[n]? = some x) (hs : L.length ≤ 1099511627776) :
    Calls Try.prog 76 #[.pointer (some ⟨g, 0, none⟩)] w fun e w' => e = .returned (.iface 63 (.agg #[.int .i64 x.1, .int .u64 x.2])) ∧ HP B g A c w' (L.take n) ∧ But (HS g A) w w' := by
  obtain ⟨b, rfl, hl, hbl, h1, h2, h3⟩ := h.at_ hx
  have hne := h.ne b 0 none rfl
  have hc : L.length ≤ c ∧ c ≤ maxLen := by
    rcases h.own.2 with ⟨h', h0⟩ | ⟨b', cap, cur, h', hbg, q1, q2, q3, _⟩
    · omega
    · injection h' with _ _ h'
      subst h'
      exact ⟨q2, q3⟩
  refine (richPop_cell g b n c L.length x.1 x.2 w h.lt hbl hne (by rw [hn]; push_cast; rw [Int.add_sub_cancel]; exact IntWalk.i64_in _ (by omega)) (by omega) hs hc.1 hc.2 h.c0 h.f0 h2 h3).mono ?_
  rintro e w' ⟨rfl, hx'⟩
  refine ⟨rfl, (h.popped hn).ext hx', ?_⟩
  exact But.trans ((But.refl (HS g (some ⟨b, 0, none⟩)) w).setCell (p := ⟨g, 0, none⟩) (.inl rfl) _) (But.ofExt hx')
theorem rowLen_any (A : Option Addr) (n c : Nat) (w : World) : Calls Try.prog 42 #[.slice A n c] w fun e w' => e = .returned (.int .i64 (n : Int)) ∧ w = w' := by
  go_enter Try.func42, Try.ntmps42
  go_wp2
  go_ret
  exact ⟨rfl, rfl⟩
end Go.Proofs.Ytplmgcbjfmdebaa
