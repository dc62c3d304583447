/- stamp.Hop: the stamp behind a hop. Conditions stand in each lemma. -/
import Derived.Test.YthaknigljjnnaaaStampC
set_option linter.unusedVariables false
set_option linter.unusedSimpArgs false
namespace Go.Proofs.Ythaknigljjnnaaa
open Go.RowKit

theorem sl_rules0 (w : World) (e : TypeId) (a b c d : Bool) (k l m n : Int) : Sl (w.alloc (.cells #[.bool a, .int .i64 k, .bool b, .int .i64 l, .bool c, .int .i64 m, .bool d, .int .i64 n] e)) 2 (some ⟨w.heap.size, 0, none⟩) 4 4 ([(a, k), (b, l), (c, m), (d, n)].flatMap rc) :=
  sl_new w e 2 #[.bool a, .int .i64 k, .bool b, .int .i64 l, .bool c, .int .i64 m, .bool d, .int .i64 n] 4 rfl (by decide)
set_option maxRecDepth 100000 in
set_option maxHeartbeats 4000000 in
theorem tHop_bad (V S P F to t E R : Int) (w : World) (CK : Hid (∀ w, Calls Try.prog 64 #[.agg #[.int .i64 V, .int .i64 S, .int .i64 P, .int .i64 F]] w fun r w' => r = .returned (.int .i64 E) ∧ Ext w w'))
    (C1 : Hid (∀ w, Calls Try.prog 99 #[.int .i64 to] w fun r w' => r = .returned (.bool true) ∧ w = w')) (HR : Hid (firstR [(E != 0, E), (true, 3), (to == V, 2), (decide (t < S), 9)] = R)) (hR : (R == 0) = false) (hR2 : (R != 0) = true) :
    Calls Try.prog 101 #[.agg #[.int .i64 V, .int .i64 S, .int .i64 P, .int .i64 F], .int .i64 to, .int .i64 t] w fun r w' => r = .returned (.tuple #[.agg #[.int .i64 0, .int .i64 0, .int .i64 0, .int .i64 0], .int .i64 R]) ∧ Ext w w' := by
  go_enter Try.func101, Try.ntmps101
  go_wp2_with fail
  refine wp_region_held_drew (S := fun w' => w'.cell? ⟨w.heap.size, 0, none⟩ = some (.int .i64 V) ∧ w'.cell? ⟨w.heap.size, 1, none⟩ = some (.int .i64 S) ∧ w'.cell? ⟨w.heap.size, 2, none⟩ = some (.int .i64 P) ∧ w'.cell? ⟨w.heap.size, 3, none⟩ = some (.int .i64 F) ∧ w'.cell? ⟨w.heap.size + 1, 0, none⟩ = some (.int .i64 0) ∧ w'.cell? ⟨w.heap.size + 1, 1, none⟩ = some (.int .i64 0) ∧ w'.cell? ⟨w.heap.size + 1, 2, none⟩ = some (.int .i64 0) ∧ w'.cell? ⟨w.heap.size + 1, 3, none⟩ = some (.int .i64 0) ∧ w'.frozen? ⟨w.heap.size + 1, 0, none⟩ = false ∧ w'.frozen? ⟨w.heap.size + 1, 1, none⟩ = false ∧ w'.frozen? ⟨w.heap.size + 1, 2, none⟩ = false ∧ w'.frozen? ⟨w.heap.size + 1, 3, none⟩ = false) (by kernel_rfl) (by simp [go_sem]) (fun hHeld => ?_)
  (refine' take_in 0 rfl (by kernel_rfl) (by kernel_rfl) (by kernel_rfl) (fun _ _ _ h => h) (by rfl) (by assumption) ?_ ?_; rotate_left; focus (intro w hSw; (try dsimp only at hSw); go_simp; try with_reducible rfl)); try simp only [Act.put, List.setIfInBounds_toArray, List.set_cons_zero, List.set_cons_succ]
  (refine' take_in 3 rfl (by kernel_rfl) (by kernel_rfl) (by kernel_rfl) (fun _ _ _ h => h) (by rfl) (by assumption) ?_ ?_; rotate_left; focus (intro w hSw; (try dsimp only at hSw); go_simp; try with_reducible rfl)); try simp only [Act.put, List.setIfInBounds_toArray, List.set_cons_zero, List.set_cons_succ]
  (refine' take_in 6 rfl (by kernel_rfl) (by kernel_rfl) (by kernel_rfl) (fun _ _ _ h => h) (by rfl) (by assumption) ?_ ?_; rotate_left; focus (intro w hSw; (try dsimp only at hSw); go_simp; try with_reducible rfl)); try simp only [Act.put, List.setIfInBounds_toArray, List.set_cons_zero, List.set_cons_succ]
  (refine' take_in 13 rfl (by kernel_rfl) (by kernel_rfl) (by kernel_rfl) (fun _ _ _ h => h) (by rfl) (by assumption) ?_ ?_; rotate_left; focus (intro w hSw; (try dsimp only at hSw); go_simp; try with_reducible rfl)); try simp only [Act.put, List.setIfInBounds_toArray, List.set_cons_zero, List.set_cons_succ]
  (refine' take_in 14 rfl (by kernel_rfl) (by kernel_rfl) (by kernel_rfl) (fun _ _ _ h => h) (by rfl) (by assumption) ?_ ?_; rotate_left; focus (intro w hSw; (try dsimp only at hSw); go_simp; try with_reducible rfl)); try simp only [Act.put, List.setIfInBounds_toArray, List.set_cons_zero, List.set_cons_succ]
  (refine' take_in 15 rfl (by kernel_rfl) (by kernel_rfl) (by kernel_rfl) (fun _ _ _ h => h) (by rfl) (by assumption) ?_ ?_; rotate_left; focus (intro w hSw; (try dsimp only at hSw); go_simp; try with_reducible rfl)); try simp only [Act.put, List.setIfInBounds_toArray, List.set_cons_zero, List.set_cons_succ]
  (refine' take_in 16 rfl (by kernel_rfl) (by kernel_rfl) (by kernel_rfl) (fun _ _ _ h => h) (by rfl) (by assumption) ?_ ?_; rotate_left; focus (intro w hSw; (try dsimp only at hSw); go_simp; try with_reducible rfl)); try simp only [Act.put, List.setIfInBounds_toArray, List.set_cons_zero, List.set_cons_succ]
  (refine' take_in 17 rfl (by kernel_rfl) (by kernel_rfl) (by kernel_rfl) (fun _ _ _ h => h) (by rfl) (by assumption) ?_ ?_; rotate_left; focus (intro w hSw; (try dsimp only at hSw); go_simp; try with_reducible rfl)); try simp only [Act.put, List.setIfInBounds_toArray, List.set_cons_zero, List.set_cons_succ]
  (refine' take_in 18 rfl (by kernel_rfl) (by kernel_rfl) (by kernel_rfl) (fun _ _ _ h => h) (by rfl) (by assumption) ?_ ?_; rotate_left; focus (intro w hSw; (try dsimp only at hSw); go_simp; try with_reducible rfl)); try simp only [Act.put, List.setIfInBounds_toArray, List.set_cons_zero, List.set_cons_succ]
  (refine' take_in 19 rfl (by kernel_rfl) (by kernel_rfl) (by kernel_rfl) (fun _ _ _ h => h) (by rfl) (by assumption) ?_ ?_; rotate_left; focus (intro w hSw; (try dsimp only at hSw); go_simp; try with_reducible rfl)); try simp only [Act.put, List.setIfInBounds_toArray, List.set_cons_zero, List.set_cons_succ]
  (refine' take_in 20 rfl (by kernel_rfl) (by kernel_rfl) (by kernel_rfl) (fun _ _ _ h => h) (by rfl) (by assumption) ?_ ?_; rotate_left; focus (intro w hSw; (try dsimp only at hSw); go_simp; try with_reducible rfl)); try simp only [Act.put, List.setIfInBounds_toArray, List.set_cons_zero, List.set_cons_succ]
  (refine' take_in 21 rfl (by kernel_rfl) (by kernel_rfl) (by kernel_rfl) (fun _ _ _ h => h) (by rfl) (by assumption) ?_ ?_; rotate_left; focus (intro w hSw; (try dsimp only at hSw); go_simp; try with_reducible rfl)); try simp only [Act.put, List.setIfInBounds_toArray, List.set_cons_zero, List.set_cons_succ]
  (refine' take_in 22 rfl (by kernel_rfl) (by kernel_rfl) (by kernel_rfl) (fun _ _ _ h => h) (by rfl) (by assumption) ?_ ?_; rotate_left; focus (intro w hSw; (try dsimp only at hSw); go_simp; try with_reducible rfl)); try simp only [Act.put, List.setIfInBounds_toArray, List.set_cons_zero, List.set_cons_succ]
  refine' next_in 1 rfl (by kernel_rfl) (by rfl) (fun K hK => ?_)
  (go_simp; go_at_call 64; with_reducible refine (CK.out _).mono ?_; rintro e w1 ⟨rfl, hx1⟩)
  have hz1 := hx1.size
  simp at hz1
  have f0 : w1.frozen? ⟨w.heap.size + 1, 0, none⟩ = false := hx1.froz (v := .int .i64 0) (by simp [go_sem]) (by simp [go_sem])
  have f1 : w1.frozen? ⟨w.heap.size + 1, 1, none⟩ = false := hx1.froz (v := .int .i64 0) (by simp [go_sem]) (by simp [go_sem])
  have f2 : w1.frozen? ⟨w.heap.size + 1, 2, none⟩ = false := hx1.froz (v := .int .i64 0) (by simp [go_sem]) (by simp [go_sem])
  have f3 : w1.frozen? ⟨w.heap.size + 1, 3, none⟩ = false := hx1.froz (v := .int .i64 0) (by simp [go_sem]) (by simp [go_sem])
  have d0 : w1.cell? ⟨w.heap.size, 0, none⟩ = some (.int .i64 V) := hx1.has (by simp [go_sem, World.cell?_alloc_past])
  have d1 : w1.cell? ⟨w.heap.size, 1, none⟩ = some (.int .i64 S) := hx1.has (by simp [go_sem, World.cell?_alloc_past])
  have d2 : w1.cell? ⟨w.heap.size, 2, none⟩ = some (.int .i64 P) := hx1.has (by simp [go_sem, World.cell?_alloc_past])
  have d3 : w1.cell? ⟨w.heap.size, 3, none⟩ = some (.int .i64 F) := hx1.has (by simp [go_sem, World.cell?_alloc_past])
  have d4 : w1.cell? ⟨w.heap.size + 1, 0, none⟩ = some (.int .i64 0) := hx1.has (by simp [go_sem, World.cell?_alloc_past])
  have d5 : w1.cell? ⟨w.heap.size + 1, 1, none⟩ = some (.int .i64 0) := hx1.has (by simp [go_sem, World.cell?_alloc_past])
  have d6 : w1.cell? ⟨w.heap.size + 1, 2, none⟩ = some (.int .i64 0) := hx1.has (by simp [go_sem, World.cell?_alloc_past])
  have d7 : w1.cell? ⟨w.heap.size + 1, 3, none⟩ = some (.int .i64 0) := hx1.has (by simp [go_sem, World.cell?_alloc_past])
  have r0 : w.heap.size < w1.heap.size := by omega
  have r1 : w.heap.size + 1 < w1.heap.size := by omega
  try go_simp
  refine hK.out _ _ (by first | exact ⟨d0, d1, d2, d3, d4, d5, d6, d7, f0, f1, f2, f3⟩ | (simp [go_sem, World.cell?_alloc_past]; done) | (simp [go_sem, World.cell?_alloc_past, d0, d1, d2, d3, d4, d5, d6, d7, f0, f1, f2, f3, r0, r1]; done)) (fun hHeld => ?_); clear hK K; try simp only [Act.put, List.setIfInBounds_toArray, List.set_cons_zero, List.set_cons_succ]
  (refine' take_in 2 rfl (by kernel_rfl) (by kernel_rfl) (by kernel_rfl) (fun _ _ _ h => h) (by rfl) (by assumption) ?_ ?_; rotate_left; focus (intro w hSw; (try dsimp only at hSw); go_simp; try with_reducible rfl)); try simp only [Act.put, List.setIfInBounds_toArray, List.set_cons_zero, List.set_cons_succ]
  refine' next_in 4 rfl (by kernel_rfl) (by rfl) (fun K hK => ?_)
  (go_simp; go_at_call 64; with_reducible refine (CK.out _).mono ?_; rintro e w2 ⟨rfl, hx2⟩)
  have hxx : Ext w1 w2 := Ext.trans (by repeat (first | with_reducible exact Ext.refl _ | with_reducible refine Ext.drew ?_ | with_reducible refine Ext.alloc ?_ _)) hx2
  have hz := hxx.size
  replace f0 := hxx.froz d4 f0
  replace f1 := hxx.froz d5 f1
  replace f2 := hxx.froz d6 f2
  replace f3 := hxx.froz d7 f3
  replace d0 := hxx.has d0
  replace d1 := hxx.has d1
  replace d2 := hxx.has d2
  replace d3 := hxx.has d3
  replace d4 := hxx.has d4
  replace d5 := hxx.has d5
  replace d6 := hxx.has d6
  replace d7 := hxx.has d7
  replace r0 : w.heap.size < w2.heap.size := by omega
  replace r1 : w.heap.size + 1 < w2.heap.size := by omega
  clear hxx hz
  try go_simp
  refine hK.out _ _ (by first | exact ⟨d0, d1, d2, d3, d4, d5, d6, d7, f0, f1, f2, f3⟩ | (simp [go_sem, World.cell?_alloc_past]; done) | (simp [go_sem, World.cell?_alloc_past, d0, d1, d2, d3, d4, d5, d6, d7, f0, f1, f2, f3, r0, r1]; done)) (fun hHeld => ?_); clear hK K; try simp only [Act.put, List.setIfInBounds_toArray, List.set_cons_zero, List.set_cons_succ]
  (refine' take_in 5 rfl (by kernel_rfl) (by kernel_rfl) (by kernel_rfl) (fun _ _ _ h => h) (by rfl) (by assumption) ?_ ?_; rotate_left; focus (intro w hSw; (try dsimp only at hSw); go_simp; try with_reducible rfl)); try simp only [Act.put, List.setIfInBounds_toArray, List.set_cons_zero, List.set_cons_succ]
  refine' next_in 7 rfl (by kernel_rfl) (by rfl) (fun K hK => ?_)
  (go_simp; go_at_call 99; with_reducible refine (C1.out _).mono ?_; rintro e w9 ⟨rfl, rfl⟩; try go_simp)
  refine hK.out _ _ (by first | exact ⟨d0, d1, d2, d3, d4, d5, d6, d7, f0, f1, f2, f3⟩ | (simp [go_sem, World.cell?_alloc_past]; done) | (simp [go_sem, World.cell?_alloc_past, d0, d1, d2, d3, d4, d5, d6, d7, f0, f1, f2, f3, r0, r1]; done)) (fun hHeld => ?_); clear hK K; try simp only [Act.put, List.setIfInBounds_toArray, List.set_cons_zero, List.set_cons_succ]
  (refine' take_in 8 rfl (by kernel_rfl) (by kernel_rfl) (by kernel_rfl) (fun _ _ _ h => h) (by rfl) (by assumption) ?_ ?_; rotate_left; focus (intro w hSw; (try dsimp only at hSw); go_simp; try with_reducible rfl)); try simp only [Act.put, List.setIfInBounds_toArray, List.set_cons_zero, List.set_cons_succ]
  (refine' skip_in 9 rfl (by kernel_rfl) (by kernel_rfl) (by kernel_rfl) (fun _ _ _ h => h) (by rfl) (by assumption) ?_); try simp only [Act.put, List.setIfInBounds_toArray, List.set_cons_zero, List.set_cons_succ]
  (refine' skip_in 10 rfl (by kernel_rfl) (by kernel_rfl) (by kernel_rfl) (fun _ _ _ h => h) (by rfl) (by assumption) ?_); try simp only [Act.put, List.setIfInBounds_toArray, List.set_cons_zero, List.set_cons_succ]
  (refine' take_in 11 rfl (by kernel_rfl) (by kernel_rfl) (by kernel_rfl) (fun _ _ _ h => h) (by rfl) (by assumption) ?_ ?_; rotate_left; focus (intro w hSw; (try dsimp only at hSw); go_simp; try with_reducible rfl)); try simp only [Act.put, List.setIfInBounds_toArray, List.set_cons_zero, List.set_cons_succ]
  (refine' take_in 12 rfl (by kernel_rfl) (by kernel_rfl) (by kernel_rfl) (fun _ _ _ h => h) (by rfl) (by assumption) ?_ ?_; rotate_left; focus (intro w hSw; (try dsimp only at hSw); go_simp; try with_reducible rfl)); try simp only [Act.put, List.setIfInBounds_toArray, List.set_cons_zero, List.set_cons_succ]
  refine' next_in 23 rfl (by kernel_rfl) (by rfl) (fun K hK => ?_)
  go_simp
  refine hK.out _ _ (by first | exact ⟨d0, d1, d2, d3, d4, d5, d6, d7, f0, f1, f2, f3⟩ | (simp [go_sem, World.cell?_alloc_past]; done) | (simp [go_sem, World.cell?_alloc_past, d0, d1, d2, d3, d4, d5, d6, d7, f0, f1, f2, f3, r0, r1]; done)) (fun hHeld => ?_); clear hK K; try simp only [Act.put, List.setIfInBounds_toArray, List.set_cons_zero, List.set_cons_succ]
  refine' next_in 24 rfl (by kernel_rfl) (by rfl) (fun K hK => ?_)
  (go_simp; go_at_call 104; with_reducible refine (tfirst_any (some ⟨w2.heap.size, 0, none⟩) 4 4 [(E != 0, E), (true, 3), (to == V, 2), (decide (t < S), 9)] _ (sl_rules0 _ 136 _ _ _ _ _ _ _ _)).mono ?_; rintro e w3 ⟨rfl, hx3⟩)
  rw [HR.out]
  have hxx : Ext w2 w3 := Ext.trans (by repeat (first | with_reducible exact Ext.refl _ | with_reducible refine Ext.drew ?_ | with_reducible refine Ext.alloc ?_ _)) hx3
  have hz := hxx.size
  replace f0 := hxx.froz d4 f0
  replace f1 := hxx.froz d5 f1
  replace f2 := hxx.froz d6 f2
  replace f3 := hxx.froz d7 f3
  replace d0 := hxx.has d0
  replace d1 := hxx.has d1
  replace d2 := hxx.has d2
  replace d3 := hxx.has d3
  replace d4 := hxx.has d4
  replace d5 := hxx.has d5
  replace d6 := hxx.has d6
  replace d7 := hxx.has d7
  replace r0 : w.heap.size < w3.heap.size := by omega
  replace r1 : w.heap.size + 1 < w3.heap.size := by omega
  clear hxx hz
  try go_simp
  refine hK.out _ _ (by first | exact ⟨d0, d1, d2, d3, d4, d5, d6, d7, f0, f1, f2, f3⟩ | (simp [go_sem, World.cell?_alloc_past]; done) | (simp [go_sem, World.cell?_alloc_past, d0, d1, d2, d3, d4, d5, d6, d7, f0, f1, f2, f3, r0, r1]; done)) (fun hHeld => ?_); clear hK K; try simp only [Act.put, List.setIfInBounds_toArray, List.set_cons_zero, List.set_cons_succ]
  (refine' take_in 25 rfl (by kernel_rfl) (by kernel_rfl) (by kernel_rfl) (fun _ _ _ h => h) (by rfl) (by assumption) ?_ ?_; rotate_left; focus (intro w hSw; (try dsimp only at hSw); go_simp; try with_reducible rfl)); try simp only [Act.put, List.setIfInBounds_toArray, List.set_cons_zero, List.set_cons_succ]
  refine wpAnyH_done (by kernel_rfl) ?_ _
  go_wp2
  refine bodyPost_ret (v := .tuple #[.agg #[.int .i64 0, .int .i64 0, .int .i64 0, .int .i64 0], .int .i64 R]) (by simp [results, Try.results101, go_sem, d0, d1, d2, d3, d4, d5, d6, d7, f0, f1, f2, f3]; try rfl) rfl ⟨rfl, ?_⟩
  exact (by repeat (first | assumption | exact Ext.refl _ | refine Ext.drew ?_ | refine Ext.drewN ?_ _ | refine Ext.alloc ?_ _ | refine Ext.setCell ?_ (by first | omega | (simp; done) | (simp; omega)) _ | refine Ext.trans ?_ (by assumption)))
set_option maxRecDepth 100000 in
set_option maxHeartbeats 4000000 in
theorem tHop_err (V S P F to t E R : Int) (w : World) (CK : Hid (∀ w, Calls Try.prog 64 #[.agg #[.int .i64 V, .int .i64 S, .int .i64 P, .int .i64 F]] w fun r w' => r = .returned (.int .i64 E) ∧ Ext w w'))
    (C1 : Hid (∀ w, Calls Try.prog 99 #[.int .i64 to] w fun r w' => r = .returned (.bool false) ∧ w = w')) (b2 : Bool) (C2 : Hid (∀ w, Calls Try.prog 100 #[.int .i64 t] w fun r w' => r = .returned (.bool b2) ∧ w = w')) (HR : Hid (firstR [(E != 0, E), (b2, 3), (to == V, 2), (decide (t < S), 9)] = R)) (hR : (R == 0) = false) (hR2 : (R != 0) = true) :
    Calls Try.prog 101 #[.agg #[.int .i64 V, .int .i64 S, .int .i64 P, .int .i64 F], .int .i64 to, .int .i64 t] w fun r w' => r = .returned (.tuple #[.agg #[.int .i64 0, .int .i64 0, .int .i64 0, .int .i64 0], .int .i64 R]) ∧ Ext w w' := by
  go_enter Try.func101, Try.ntmps101
  go_wp2_with fail
  refine wp_region_held_drew (S := fun w' => w'.cell? ⟨w.heap.size, 0, none⟩ = some (.int .i64 V) ∧ w'.cell? ⟨w.heap.size, 1, none⟩ = some (.int .i64 S) ∧ w'.cell? ⟨w.heap.size, 2, none⟩ = some (.int .i64 P) ∧ w'.cell? ⟨w.heap.size, 3, none⟩ = some (.int .i64 F) ∧ w'.cell? ⟨w.heap.size + 1, 0, none⟩ = some (.int .i64 0) ∧ w'.cell? ⟨w.heap.size + 1, 1, none⟩ = some (.int .i64 0) ∧ w'.cell? ⟨w.heap.size + 1, 2, none⟩ = some (.int .i64 0) ∧ w'.cell? ⟨w.heap.size + 1, 3, none⟩ = some (.int .i64 0) ∧ w'.frozen? ⟨w.heap.size + 1, 0, none⟩ = false ∧ w'.frozen? ⟨w.heap.size + 1, 1, none⟩ = false ∧ w'.frozen? ⟨w.heap.size + 1, 2, none⟩ = false ∧ w'.frozen? ⟨w.heap.size + 1, 3, none⟩ = false) (by kernel_rfl) (by simp [go_sem]) (fun hHeld => ?_)
  (refine' take_in 0 rfl (by kernel_rfl) (by kernel_rfl) (by kernel_rfl) (fun _ _ _ h => h) (by rfl) (by assumption) ?_ ?_; rotate_left; focus (intro w hSw; (try dsimp only at hSw); go_simp; try with_reducible rfl)); try simp only [Act.put, List.setIfInBounds_toArray, List.set_cons_zero, List.set_cons_succ]
  (refine' take_in 3 rfl (by kernel_rfl) (by kernel_rfl) (by kernel_rfl) (fun _ _ _ h => h) (by rfl) (by assumption) ?_ ?_; rotate_left; focus (intro w hSw; (try dsimp only at hSw); go_simp; try with_reducible rfl)); try simp only [Act.put, List.setIfInBounds_toArray, List.set_cons_zero, List.set_cons_succ]
  (refine' take_in 6 rfl (by kernel_rfl) (by kernel_rfl) (by kernel_rfl) (fun _ _ _ h => h) (by rfl) (by assumption) ?_ ?_; rotate_left; focus (intro w hSw; (try dsimp only at hSw); go_simp; try with_reducible rfl)); try simp only [Act.put, List.setIfInBounds_toArray, List.set_cons_zero, List.set_cons_succ]
  (refine' take_in 13 rfl (by kernel_rfl) (by kernel_rfl) (by kernel_rfl) (fun _ _ _ h => h) (by rfl) (by assumption) ?_ ?_; rotate_left; focus (intro w hSw; (try dsimp only at hSw); go_simp; try with_reducible rfl)); try simp only [Act.put, List.setIfInBounds_toArray, List.set_cons_zero, List.set_cons_succ]
  (refine' take_in 14 rfl (by kernel_rfl) (by kernel_rfl) (by kernel_rfl) (fun _ _ _ h => h) (by rfl) (by assumption) ?_ ?_; rotate_left; focus (intro w hSw; (try dsimp only at hSw); go_simp; try with_reducible rfl)); try simp only [Act.put, List.setIfInBounds_toArray, List.set_cons_zero, List.set_cons_succ]
  (refine' take_in 15 rfl (by kernel_rfl) (by kernel_rfl) (by kernel_rfl) (fun _ _ _ h => h) (by rfl) (by assumption) ?_ ?_; rotate_left; focus (intro w hSw; (try dsimp only at hSw); go_simp; try with_reducible rfl)); try simp only [Act.put, List.setIfInBounds_toArray, List.set_cons_zero, List.set_cons_succ]
  (refine' take_in 16 rfl (by kernel_rfl) (by kernel_rfl) (by kernel_rfl) (fun _ _ _ h => h) (by rfl) (by assumption) ?_ ?_; rotate_left; focus (intro w hSw; (try dsimp only at hSw); go_simp; try with_reducible rfl)); try simp only [Act.put, List.setIfInBounds_toArray, List.set_cons_zero, List.set_cons_succ]
  (refine' take_in 17 rfl (by kernel_rfl) (by kernel_rfl) (by kernel_rfl) (fun _ _ _ h => h) (by rfl) (by assumption) ?_ ?_; rotate_left; focus (intro w hSw; (try dsimp only at hSw); go_simp; try with_reducible rfl)); try simp only [Act.put, List.setIfInBounds_toArray, List.set_cons_zero, List.set_cons_succ]
  (refine' take_in 18 rfl (by kernel_rfl) (by kernel_rfl) (by kernel_rfl) (fun _ _ _ h => h) (by rfl) (by assumption) ?_ ?_; rotate_left; focus (intro w hSw; (try dsimp only at hSw); go_simp; try with_reducible rfl)); try simp only [Act.put, List.setIfInBounds_toArray, List.set_cons_zero, List.set_cons_succ]
  (refine' take_in 19 rfl (by kernel_rfl) (by kernel_rfl) (by kernel_rfl) (fun _ _ _ h => h) (by rfl) (by assumption) ?_ ?_; rotate_left; focus (intro w hSw; (try dsimp only at hSw); go_simp; try with_reducible rfl)); try simp only [Act.put, List.setIfInBounds_toArray, List.set_cons_zero, List.set_cons_succ]
  (refine' take_in 20 rfl (by kernel_rfl) (by kernel_rfl) (by kernel_rfl) (fun _ _ _ h => h) (by rfl) (by assumption) ?_ ?_; rotate_left; focus (intro w hSw; (try dsimp only at hSw); go_simp; try with_reducible rfl)); try simp only [Act.put, List.setIfInBounds_toArray, List.set_cons_zero, List.set_cons_succ]
  (refine' take_in 21 rfl (by kernel_rfl) (by kernel_rfl) (by kernel_rfl) (fun _ _ _ h => h) (by rfl) (by assumption) ?_ ?_; rotate_left; focus (intro w hSw; (try dsimp only at hSw); go_simp; try with_reducible rfl)); try simp only [Act.put, List.setIfInBounds_toArray, List.set_cons_zero, List.set_cons_succ]
  (refine' take_in 22 rfl (by kernel_rfl) (by kernel_rfl) (by kernel_rfl) (fun _ _ _ h => h) (by rfl) (by assumption) ?_ ?_; rotate_left; focus (intro w hSw; (try dsimp only at hSw); go_simp; try with_reducible rfl)); try simp only [Act.put, List.setIfInBounds_toArray, List.set_cons_zero, List.set_cons_succ]
  refine' next_in 1 rfl (by kernel_rfl) (by rfl) (fun K hK => ?_)
  (go_simp; go_at_call 64; with_reducible refine (CK.out _).mono ?_; rintro e w1 ⟨rfl, hx1⟩)
  have hz1 := hx1.size
  simp at hz1
  have f0 : w1.frozen? ⟨w.heap.size + 1, 0, none⟩ = false := hx1.froz (v := .int .i64 0) (by simp [go_sem]) (by simp [go_sem])
  have f1 : w1.frozen? ⟨w.heap.size + 1, 1, none⟩ = false := hx1.froz (v := .int .i64 0) (by simp [go_sem]) (by simp [go_sem])
  have f2 : w1.frozen? ⟨w.heap.size + 1, 2, none⟩ = false := hx1.froz (v := .int .i64 0) (by simp [go_sem]) (by simp [go_sem])
  have f3 : w1.frozen? ⟨w.heap.size + 1, 3, none⟩ = false := hx1.froz (v := .int .i64 0) (by simp [go_sem]) (by simp [go_sem])
  have d0 : w1.cell? ⟨w.heap.size, 0, none⟩ = some (.int .i64 V) := hx1.has (by simp [go_sem, World.cell?_alloc_past])
  have d1 : w1.cell? ⟨w.heap.size, 1, none⟩ = some (.int .i64 S) := hx1.has (by simp [go_sem, World.cell?_alloc_past])
  have d2 : w1.cell? ⟨w.heap.size, 2, none⟩ = some (.int .i64 P) := hx1.has (by simp [go_sem, World.cell?_alloc_past])
  have d3 : w1.cell? ⟨w.heap.size, 3, none⟩ = some (.int .i64 F) := hx1.has (by simp [go_sem, World.cell?_alloc_past])
  have d4 : w1.cell? ⟨w.heap.size + 1, 0, none⟩ = some (.int .i64 0) := hx1.has (by simp [go_sem, World.cell?_alloc_past])
  have d5 : w1.cell? ⟨w.heap.size + 1, 1, none⟩ = some (.int .i64 0) := hx1.has (by simp [go_sem, World.cell?_alloc_past])
  have d6 : w1.cell? ⟨w.heap.size + 1, 2, none⟩ = some (.int .i64 0) := hx1.has (by simp [go_sem, World.cell?_alloc_past])
  have d7 : w1.cell? ⟨w.heap.size + 1, 3, none⟩ = some (.int .i64 0) := hx1.has (by simp [go_sem, World.cell?_alloc_past])
  have r0 : w.heap.size < w1.heap.size := by omega
  have r1 : w.heap.size + 1 < w1.heap.size := by omega
  try go_simp
  refine hK.out _ _ (by first | exact ⟨d0, d1, d2, d3, d4, d5, d6, d7, f0, f1, f2, f3⟩ | (simp [go_sem, World.cell?_alloc_past]; done) | (simp [go_sem, World.cell?_alloc_past, d0, d1, d2, d3, d4, d5, d6, d7, f0, f1, f2, f3, r0, r1]; done)) (fun hHeld => ?_); clear hK K; try simp only [Act.put, List.setIfInBounds_toArray, List.set_cons_zero, List.set_cons_succ]
  (refine' take_in 2 rfl (by kernel_rfl) (by kernel_rfl) (by kernel_rfl) (fun _ _ _ h => h) (by rfl) (by assumption) ?_ ?_; rotate_left; focus (intro w hSw; (try dsimp only at hSw); go_simp; try with_reducible rfl)); try simp only [Act.put, List.setIfInBounds_toArray, List.set_cons_zero, List.set_cons_succ]
  refine' next_in 4 rfl (by kernel_rfl) (by rfl) (fun K hK => ?_)
  (go_simp; go_at_call 64; with_reducible refine (CK.out _).mono ?_; rintro e w2 ⟨rfl, hx2⟩)
  have hxx : Ext w1 w2 := Ext.trans (by repeat (first | with_reducible exact Ext.refl _ | with_reducible refine Ext.drew ?_ | with_reducible refine Ext.alloc ?_ _)) hx2
  have hz := hxx.size
  replace f0 := hxx.froz d4 f0
  replace f1 := hxx.froz d5 f1
  replace f2 := hxx.froz d6 f2
  replace f3 := hxx.froz d7 f3
  replace d0 := hxx.has d0
  replace d1 := hxx.has d1
  replace d2 := hxx.has d2
  replace d3 := hxx.has d3
  replace d4 := hxx.has d4
  replace d5 := hxx.has d5
  replace d6 := hxx.has d6
  replace d7 := hxx.has d7
  replace r0 : w.heap.size < w2.heap.size := by omega
  replace r1 : w.heap.size + 1 < w2.heap.size := by omega
  clear hxx hz
  try go_simp
  refine hK.out _ _ (by first | exact ⟨d0, d1, d2, d3, d4, d5, d6, d7, f0, f1, f2, f3⟩ | (simp [go_sem, World.cell?_alloc_past]; done) | (simp [go_sem, World.cell?_alloc_past, d0, d1, d2, d3, d4, d5, d6, d7, f0, f1, f2, f3, r0, r1]; done)) (fun hHeld => ?_); clear hK K; try simp only [Act.put, List.setIfInBounds_toArray, List.set_cons_zero, List.set_cons_succ]
  (refine' take_in 5 rfl (by kernel_rfl) (by kernel_rfl) (by kernel_rfl) (fun _ _ _ h => h) (by rfl) (by assumption) ?_ ?_; rotate_left; focus (intro w hSw; (try dsimp only at hSw); go_simp; try with_reducible rfl)); try simp only [Act.put, List.setIfInBounds_toArray, List.set_cons_zero, List.set_cons_succ]
  refine' next_in 7 rfl (by kernel_rfl) (by rfl) (fun K hK => ?_)
  (go_simp; go_at_call 99; with_reducible refine (C1.out _).mono ?_; rintro e w9 ⟨rfl, rfl⟩; try go_simp)
  refine hK.out _ _ (by first | exact ⟨d0, d1, d2, d3, d4, d5, d6, d7, f0, f1, f2, f3⟩ | (simp [go_sem, World.cell?_alloc_past]; done) | (simp [go_sem, World.cell?_alloc_past, d0, d1, d2, d3, d4, d5, d6, d7, f0, f1, f2, f3, r0, r1]; done)) (fun hHeld => ?_); clear hK K; try simp only [Act.put, List.setIfInBounds_toArray, List.set_cons_zero, List.set_cons_succ]
  (refine' take_in 8 rfl (by kernel_rfl) (by kernel_rfl) (by kernel_rfl) (fun _ _ _ h => h) (by rfl) (by assumption) ?_ ?_; rotate_left; focus (intro w hSw; (try dsimp only at hSw); go_simp; try with_reducible rfl)); try simp only [Act.put, List.setIfInBounds_toArray, List.set_cons_zero, List.set_cons_succ]
  (refine' take_in 9 rfl (by kernel_rfl) (by kernel_rfl) (by kernel_rfl) (fun _ _ _ h => h) (by rfl) (by assumption) ?_ ?_; rotate_left; focus (intro w hSw; (try dsimp only at hSw); go_simp; try with_reducible rfl)); try simp only [Act.put, List.setIfInBounds_toArray, List.set_cons_zero, List.set_cons_succ]
  refine' next_in 10 rfl (by kernel_rfl) (by rfl) (fun K hK => ?_)
  (go_simp; go_at_call 100; with_reducible refine (C2.out _).mono ?_; rintro e w9 ⟨rfl, rfl⟩; try go_simp)
  refine hK.out _ _ (by first | exact ⟨d0, d1, d2, d3, d4, d5, d6, d7, f0, f1, f2, f3⟩ | (simp [go_sem, World.cell?_alloc_past]; done) | (simp [go_sem, World.cell?_alloc_past, d0, d1, d2, d3, d4, d5, d6, d7, f0, f1, f2, f3, r0, r1]; done)) (fun hHeld => ?_); clear hK K; try simp only [Act.put, List.setIfInBounds_toArray, List.set_cons_zero, List.set_cons_succ]
  (refine' take_in 11 rfl (by kernel_rfl) (by kernel_rfl) (by kernel_rfl) (fun _ _ _ h => h) (by rfl) (by assumption) ?_ ?_; rotate_left; focus (intro w hSw; (try dsimp only at hSw); go_simp; try with_reducible rfl)); try simp only [Act.put, List.setIfInBounds_toArray, List.set_cons_zero, List.set_cons_succ]
  (refine' take_in 12 rfl (by kernel_rfl) (by kernel_rfl) (by kernel_rfl) (fun _ _ _ h => h) (by rfl) (by assumption) ?_ ?_; rotate_left; focus (intro w hSw; (try dsimp only at hSw); go_simp; try with_reducible rfl)); try simp only [Act.put, List.setIfInBounds_toArray, List.set_cons_zero, List.set_cons_succ]
  refine' next_in 23 rfl (by kernel_rfl) (by rfl) (fun K hK => ?_)
  go_simp
  refine hK.out _ _ (by first | exact ⟨d0, d1, d2, d3, d4, d5, d6, d7, f0, f1, f2, f3⟩ | (simp [go_sem, World.cell?_alloc_past]; done) | (simp [go_sem, World.cell?_alloc_past, d0, d1, d2, d3, d4, d5, d6, d7, f0, f1, f2, f3, r0, r1]; done)) (fun hHeld => ?_); clear hK K; try simp only [Act.put, List.setIfInBounds_toArray, List.set_cons_zero, List.set_cons_succ]
  refine' next_in 24 rfl (by kernel_rfl) (by rfl) (fun K hK => ?_)
  (go_simp; go_at_call 104; with_reducible refine (tfirst_any (some ⟨w2.heap.size, 0, none⟩) 4 4 [(E != 0, E), (b2, 3), (to == V, 2), (decide (t < S), 9)] _ (sl_rules0 _ 136 _ _ _ _ _ _ _ _)).mono ?_; rintro e w3 ⟨rfl, hx3⟩)
  rw [HR.out]
  have hxx : Ext w2 w3 := Ext.trans (by repeat (first | with_reducible exact Ext.refl _ | with_reducible refine Ext.drew ?_ | with_reducible refine Ext.alloc ?_ _)) hx3
  have hz := hxx.size
  replace f0 := hxx.froz d4 f0
  replace f1 := hxx.froz d5 f1
  replace f2 := hxx.froz d6 f2
  replace f3 := hxx.froz d7 f3
  replace d0 := hxx.has d0
  replace d1 := hxx.has d1
  replace d2 := hxx.has d2
  replace d3 := hxx.has d3
  replace d4 := hxx.has d4
  replace d5 := hxx.has d5
  replace d6 := hxx.has d6
  replace d7 := hxx.has d7
  replace r0 : w.heap.size < w3.heap.size := by omega
  replace r1 : w.heap.size + 1 < w3.heap.size := by omega
  clear hxx hz
  try go_simp
  refine hK.out _ _ (by first | exact ⟨d0, d1, d2, d3, d4, d5, d6, d7, f0, f1, f2, f3⟩ | (simp [go_sem, World.cell?_alloc_past]; done) | (simp [go_sem, World.cell?_alloc_past, d0, d1, d2, d3, d4, d5, d6, d7, f0, f1, f2, f3, r0, r1]; done)) (fun hHeld => ?_); clear hK K; try simp only [Act.put, List.setIfInBounds_toArray, List.set_cons_zero, List.set_cons_succ]
  (refine' take_in 25 rfl (by kernel_rfl) (by kernel_rfl) (by kernel_rfl) (fun _ _ _ h => h) (by rfl) (by assumption) ?_ ?_; rotate_left; focus (intro w hSw; (try dsimp only at hSw); go_simp; try with_reducible rfl)); try simp only [Act.put, List.setIfInBounds_toArray, List.set_cons_zero, List.set_cons_succ]
  refine wpAnyH_done (by kernel_rfl) ?_ _
  go_wp2
  refine bodyPost_ret (v := .tuple #[.agg #[.int .i64 0, .int .i64 0, .int .i64 0, .int .i64 0], .int .i64 R]) (by simp [results, Try.results101, go_sem, d0, d1, d2, d3, d4, d5, d6, d7, f0, f1, f2, f3]; try rfl) rfl ⟨rfl, ?_⟩
  exact (by repeat (first | assumption | exact Ext.refl _ | refine Ext.drew ?_ | refine Ext.drewN ?_ _ | refine Ext.alloc ?_ _ | refine Ext.setCell ?_ (by first | omega | (simp; done) | (simp; omega)) _ | refine Ext.trans ?_ (by assumption)))
set_option maxRecDepth 100000 in
set_option maxHeartbeats 4000000 in
theorem tHop_ok (V S P F to t E R : Int) (w : World) (CK : Hid (∀ w, Calls Try.prog 64 #[.agg #[.int .i64 V, .int .i64 S, .int .i64 P, .int .i64 F]] w fun r w' => r = .returned (.int .i64 E) ∧ Ext w w'))
    (C1 : Hid (∀ w, Calls Try.prog 99 #[.int .i64 to] w fun r w' => r = .returned (.bool false) ∧ w = w')) (b2 : Bool) (C2 : Hid (∀ w, Calls Try.prog 100 #[.int .i64 t] w fun r w' => r = .returned (.bool b2) ∧ w = w')) (HR : Hid (firstR [(E != 0, E), (b2, 3), (to == V, 2), (decide (t < S), 9)] = 0)) :
    Calls Try.prog 101 #[.agg #[.int .i64 V, .int .i64 S, .int .i64 P, .int .i64 F], .int .i64 to, .int .i64 t] w fun r w' => r = .returned (.tuple #[.agg #[.int .i64 to, .int .i64 t, .int .i64 V, .int .i64 S], .int .i64 0]) ∧ Ext w w' := by
  go_enter Try.func101, Try.ntmps101
  go_wp2_with fail
  refine wp_region_held_drew (S := fun w' => w'.cell? ⟨w.heap.size, 0, none⟩ = some (.int .i64 V) ∧ w'.cell? ⟨w.heap.size, 1, none⟩ = some (.int .i64 S) ∧ w'.cell? ⟨w.heap.size, 2, none⟩ = some (.int .i64 P) ∧ w'.cell? ⟨w.heap.size, 3, none⟩ = some (.int .i64 F) ∧ w'.cell? ⟨w.heap.size + 1, 0, none⟩ = some (.int .i64 0) ∧ w'.cell? ⟨w.heap.size + 1, 1, none⟩ = some (.int .i64 0) ∧ w'.cell? ⟨w.heap.size + 1, 2, none⟩ = some (.int .i64 0) ∧ w'.cell? ⟨w.heap.size + 1, 3, none⟩ = some (.int .i64 0) ∧ w'.frozen? ⟨w.heap.size + 1, 0, none⟩ = false ∧ w'.frozen? ⟨w.heap.size + 1, 1, none⟩ = false ∧ w'.frozen? ⟨w.heap.size + 1, 2, none⟩ = false ∧ w'.frozen? ⟨w.heap.size + 1, 3, none⟩ = false) (by kernel_rfl) (by simp [go_sem]) (fun hHeld => ?_)
  (refine' take_in 0 rfl (by kernel_rfl) (by kernel_rfl) (by kernel_rfl) (fun _ _ _ h => h) (by rfl) (by assumption) ?_ ?_; rotate_left; focus (intro w hSw; (try dsimp only at hSw); go_simp; try with_reducible rfl)); try simp only [Act.put, List.setIfInBounds_toArray, List.set_cons_zero, List.set_cons_succ]
  (refine' take_in 3 rfl (by kernel_rfl) (by kernel_rfl) (by kernel_rfl) (fun _ _ _ h => h) (by rfl) (by assumption) ?_ ?_; rotate_left; focus (intro w hSw; (try dsimp only at hSw); go_simp; try with_reducible rfl)); try simp only [Act.put, List.setIfInBounds_toArray, List.set_cons_zero, List.set_cons_succ]
  (refine' take_in 6 rfl (by kernel_rfl) (by kernel_rfl) (by kernel_rfl) (fun _ _ _ h => h) (by rfl) (by assumption) ?_ ?_; rotate_left; focus (intro w hSw; (try dsimp only at hSw); go_simp; try with_reducible rfl)); try simp only [Act.put, List.setIfInBounds_toArray, List.set_cons_zero, List.set_cons_succ]
  (refine' take_in 13 rfl (by kernel_rfl) (by kernel_rfl) (by kernel_rfl) (fun _ _ _ h => h) (by rfl) (by assumption) ?_ ?_; rotate_left; focus (intro w hSw; (try dsimp only at hSw); go_simp; try with_reducible rfl)); try simp only [Act.put, List.setIfInBounds_toArray, List.set_cons_zero, List.set_cons_succ]
  (refine' take_in 14 rfl (by kernel_rfl) (by kernel_rfl) (by kernel_rfl) (fun _ _ _ h => h) (by rfl) (by assumption) ?_ ?_; rotate_left; focus (intro w hSw; (try dsimp only at hSw); go_simp; try with_reducible rfl)); try simp only [Act.put, List.setIfInBounds_toArray, List.set_cons_zero, List.set_cons_succ]
  (refine' take_in 15 rfl (by kernel_rfl) (by kernel_rfl) (by kernel_rfl) (fun _ _ _ h => h) (by rfl) (by assumption) ?_ ?_; rotate_left; focus (intro w hSw; (try dsimp only at hSw); go_simp; try with_reducible rfl)); try simp only [Act.put, List.setIfInBounds_toArray, List.set_cons_zero, List.set_cons_succ]
  (refine' take_in 16 rfl (by kernel_rfl) (by kernel_rfl) (by kernel_rfl) (fun _ _ _ h => h) (by rfl) (by assumption) ?_ ?_; rotate_left; focus (intro w hSw; (try dsimp only at hSw); go_simp; try with_reducible rfl)); try simp only [Act.put, List.setIfInBounds_toArray, List.set_cons_zero, List.set_cons_succ]
  (refine' take_in 17 rfl (by kernel_rfl) (by kernel_rfl) (by kernel_rfl) (fun _ _ _ h => h) (by rfl) (by assumption) ?_ ?_; rotate_left; focus (intro w hSw; (try dsimp only at hSw); go_simp; try with_reducible rfl)); try simp only [Act.put, List.setIfInBounds_toArray, List.set_cons_zero, List.set_cons_succ]
  (refine' take_in 18 rfl (by kernel_rfl) (by kernel_rfl) (by kernel_rfl) (fun _ _ _ h => h) (by rfl) (by assumption) ?_ ?_; rotate_left; focus (intro w hSw; (try dsimp only at hSw); go_simp; try with_reducible rfl)); try simp only [Act.put, List.setIfInBounds_toArray, List.set_cons_zero, List.set_cons_succ]
  (refine' take_in 19 rfl (by kernel_rfl) (by kernel_rfl) (by kernel_rfl) (fun _ _ _ h => h) (by rfl) (by assumption) ?_ ?_; rotate_left; focus (intro w hSw; (try dsimp only at hSw); go_simp; try with_reducible rfl)); try simp only [Act.put, List.setIfInBounds_toArray, List.set_cons_zero, List.set_cons_succ]
  (refine' take_in 20 rfl (by kernel_rfl) (by kernel_rfl) (by kernel_rfl) (fun _ _ _ h => h) (by rfl) (by assumption) ?_ ?_; rotate_left; focus (intro w hSw; (try dsimp only at hSw); go_simp; try with_reducible rfl)); try simp only [Act.put, List.setIfInBounds_toArray, List.set_cons_zero, List.set_cons_succ]
  (refine' take_in 21 rfl (by kernel_rfl) (by kernel_rfl) (by kernel_rfl) (fun _ _ _ h => h) (by rfl) (by assumption) ?_ ?_; rotate_left; focus (intro w hSw; (try dsimp only at hSw); go_simp; try with_reducible rfl)); try simp only [Act.put, List.setIfInBounds_toArray, List.set_cons_zero, List.set_cons_succ]
  (refine' take_in 22 rfl (by kernel_rfl) (by kernel_rfl) (by kernel_rfl) (fun _ _ _ h => h) (by rfl) (by assumption) ?_ ?_; rotate_left; focus (intro w hSw; (try dsimp only at hSw); go_simp; try with_reducible rfl)); try simp only [Act.put, List.setIfInBounds_toArray, List.set_cons_zero, List.set_cons_succ]
  refine' next_in 1 rfl (by kernel_rfl) (by rfl) (fun K hK => ?_)
  (go_simp; go_at_call 64; with_reducible refine (CK.out _).mono ?_; rintro e w1 ⟨rfl, hx1⟩)
  have hz1 := hx1.size
  simp at hz1
  have f0 : w1.frozen? ⟨w.heap.size + 1, 0, none⟩ = false := hx1.froz (v := .int .i64 0) (by simp [go_sem]) (by simp [go_sem])
  have f1 : w1.frozen? ⟨w.heap.size + 1, 1, none⟩ = false := hx1.froz (v := .int .i64 0) (by simp [go_sem]) (by simp [go_sem])
  have f2 : w1.frozen? ⟨w.heap.size + 1, 2, none⟩ = false := hx1.froz (v := .int .i64 0) (by simp [go_sem]) (by simp [go_sem])
  have f3 : w1.frozen? ⟨w.heap.size + 1, 3, none⟩ = false := hx1.froz (v := .int .i64 0) (by simp [go_sem]) (by simp [go_sem])
  have d0 : w1.cell? ⟨w.heap.size, 0, none⟩ = some (.int .i64 V) := hx1.has (by simp [go_sem, World.cell?_alloc_past])
  have d1 : w1.cell? ⟨w.heap.size, 1, none⟩ = some (.int .i64 S) := hx1.has (by simp [go_sem, World.cell?_alloc_past])
  have d2 : w1.cell? ⟨w.heap.size, 2, none⟩ = some (.int .i64 P) := hx1.has (by simp [go_sem, World.cell?_alloc_past])
  have d3 : w1.cell? ⟨w.heap.size, 3, none⟩ = some (.int .i64 F) := hx1.has (by simp [go_sem, World.cell?_alloc_past])
  have d4 : w1.cell? ⟨w.heap.size + 1, 0, none⟩ = some (.int .i64 0) := hx1.has (by simp [go_sem, World.cell?_alloc_past])
  have d5 : w1.cell? ⟨w.heap.size + 1, 1, none⟩ = some (.int .i64 0) := hx1.has (by simp [go_sem, World.cell?_alloc_past])
  have d6 : w1.cell? ⟨w.heap.size + 1, 2, none⟩ = some (.int .i64 0) := hx1.has (by simp [go_sem, World.cell?_alloc_past])
  have d7 : w1.cell? ⟨w.heap.size + 1, 3, none⟩ = some (.int .i64 0) := hx1.has (by simp [go_sem, World.cell?_alloc_past])
  have r0 : w.heap.size < w1.heap.size := by omega
  have r1 : w.heap.size + 1 < w1.heap.size := by omega
  try go_simp
  refine hK.out _ _ (by first | exact ⟨d0, d1, d2, d3, d4, d5, d6, d7, f0, f1, f2, f3⟩ | (simp [go_sem, World.cell?_alloc_past]; done) | (simp [go_sem, World.cell?_alloc_past, d0, d1, d2, d3, d4, d5, d6, d7, f0, f1, f2, f3, r0, r1]; done)) (fun hHeld => ?_); clear hK K; try simp only [Act.put, List.setIfInBounds_toArray, List.set_cons_zero, List.set_cons_succ]
  (refine' take_in 2 rfl (by kernel_rfl) (by kernel_rfl) (by kernel_rfl) (fun _ _ _ h => h) (by rfl) (by assumption) ?_ ?_; rotate_left; focus (intro w hSw; (try dsimp only at hSw); go_simp; try with_reducible rfl)); try simp only [Act.put, List.setIfInBounds_toArray, List.set_cons_zero, List.set_cons_succ]
  refine' next_in 4 rfl (by kernel_rfl) (by rfl) (fun K hK => ?_)
  (go_simp; go_at_call 64; with_reducible refine (CK.out _).mono ?_; rintro e w2 ⟨rfl, hx2⟩)
  have hxx : Ext w1 w2 := Ext.trans (by repeat (first | with_reducible exact Ext.refl _ | with_reducible refine Ext.drew ?_ | with_reducible refine Ext.alloc ?_ _)) hx2
  have hz := hxx.size
  replace f0 := hxx.froz d4 f0
  replace f1 := hxx.froz d5 f1
  replace f2 := hxx.froz d6 f2
  replace f3 := hxx.froz d7 f3
  replace d0 := hxx.has d0
  replace d1 := hxx.has d1
  replace d2 := hxx.has d2
  replace d3 := hxx.has d3
  replace d4 := hxx.has d4
  replace d5 := hxx.has d5
  replace d6 := hxx.has d6
  replace d7 := hxx.has d7
  replace r0 : w.heap.size < w2.heap.size := by omega
  replace r1 : w.heap.size + 1 < w2.heap.size := by omega
  clear hxx hz
  try go_simp
  refine hK.out _ _ (by first | exact ⟨d0, d1, d2, d3, d4, d5, d6, d7, f0, f1, f2, f3⟩ | (simp [go_sem, World.cell?_alloc_past]; done) | (simp [go_sem, World.cell?_alloc_past, d0, d1, d2, d3, d4, d5, d6, d7, f0, f1, f2, f3, r0, r1]; done)) (fun hHeld => ?_); clear hK K; try simp only [Act.put, List.setIfInBounds_toArray, List.set_cons_zero, List.set_cons_succ]
  (refine' take_in 5 rfl (by kernel_rfl) (by kernel_rfl) (by kernel_rfl) (fun _ _ _ h => h) (by rfl) (by assumption) ?_ ?_; rotate_left; focus (intro w hSw; (try dsimp only at hSw); go_simp; try with_reducible rfl)); try simp only [Act.put, List.setIfInBounds_toArray, List.set_cons_zero, List.set_cons_succ]
  refine' next_in 7 rfl (by kernel_rfl) (by rfl) (fun K hK => ?_)
  (go_simp; go_at_call 99; with_reducible refine (C1.out _).mono ?_; rintro e w9 ⟨rfl, rfl⟩; try go_simp)
  refine hK.out _ _ (by first | exact ⟨d0, d1, d2, d3, d4, d5, d6, d7, f0, f1, f2, f3⟩ | (simp [go_sem, World.cell?_alloc_past]; done) | (simp [go_sem, World.cell?_alloc_past, d0, d1, d2, d3, d4, d5, d6, d7, f0, f1, f2, f3, r0, r1]; done)) (fun hHeld => ?_); clear hK K; try simp only [Act.put, List.setIfInBounds_toArray, List.set_cons_zero, List.set_cons_succ]
  (refine' take_in 8 rfl (by kernel_rfl) (by kernel_rfl) (by kernel_rfl) (fun _ _ _ h => h) (by rfl) (by assumption) ?_ ?_; rotate_left; focus (intro w hSw; (try dsimp only at hSw); go_simp; try with_reducible rfl)); try simp only [Act.put, List.setIfInBounds_toArray, List.set_cons_zero, List.set_cons_succ]
  (refine' take_in 9 rfl (by kernel_rfl) (by kernel_rfl) (by kernel_rfl) (fun _ _ _ h => h) (by rfl) (by assumption) ?_ ?_; rotate_left; focus (intro w hSw; (try dsimp only at hSw); go_simp; try with_reducible rfl)); try simp only [Act.put, List.setIfInBounds_toArray, List.set_cons_zero, List.set_cons_succ]
  refine' next_in 10 rfl (by kernel_rfl) (by rfl) (fun K hK => ?_)
  (go_simp; go_at_call 100; with_reducible refine (C2.out _).mono ?_; rintro e w9 ⟨rfl, rfl⟩; try go_simp)
  refine hK.out _ _ (by first | exact ⟨d0, d1, d2, d3, d4, d5, d6, d7, f0, f1, f2, f3⟩ | (simp [go_sem, World.cell?_alloc_past]; done) | (simp [go_sem, World.cell?_alloc_past, d0, d1, d2, d3, d4, d5, d6, d7, f0, f1, f2, f3, r0, r1]; done)) (fun hHeld => ?_); clear hK K; try simp only [Act.put, List.setIfInBounds_toArray, List.set_cons_zero, List.set_cons_succ]
  (refine' take_in 11 rfl (by kernel_rfl) (by kernel_rfl) (by kernel_rfl) (fun _ _ _ h => h) (by rfl) (by assumption) ?_ ?_; rotate_left; focus (intro w hSw; (try dsimp only at hSw); go_simp; try with_reducible rfl)); try simp only [Act.put, List.setIfInBounds_toArray, List.set_cons_zero, List.set_cons_succ]
  (refine' take_in 12 rfl (by kernel_rfl) (by kernel_rfl) (by kernel_rfl) (fun _ _ _ h => h) (by rfl) (by assumption) ?_ ?_; rotate_left; focus (intro w hSw; (try dsimp only at hSw); go_simp; try with_reducible rfl)); try simp only [Act.put, List.setIfInBounds_toArray, List.set_cons_zero, List.set_cons_succ]
  refine' next_in 23 rfl (by kernel_rfl) (by rfl) (fun K hK => ?_)
  go_simp
  refine hK.out _ _ (by first | exact ⟨d0, d1, d2, d3, d4, d5, d6, d7, f0, f1, f2, f3⟩ | (simp [go_sem, World.cell?_alloc_past]; done) | (simp [go_sem, World.cell?_alloc_past, d0, d1, d2, d3, d4, d5, d6, d7, f0, f1, f2, f3, r0, r1]; done)) (fun hHeld => ?_); clear hK K; try simp only [Act.put, List.setIfInBounds_toArray, List.set_cons_zero, List.set_cons_succ]
  refine' next_in 24 rfl (by kernel_rfl) (by rfl) (fun K hK => ?_)
  (go_simp; go_at_call 104; with_reducible refine (tfirst_any (some ⟨w2.heap.size, 0, none⟩) 4 4 [(E != 0, E), (b2, 3), (to == V, 2), (decide (t < S), 9)] _ (sl_rules0 _ 136 _ _ _ _ _ _ _ _)).mono ?_; rintro e w3 ⟨rfl, hx3⟩)
  rw [HR.out]
  have hxx : Ext w2 w3 := Ext.trans (by repeat (first | with_reducible exact Ext.refl _ | with_reducible refine Ext.drew ?_ | with_reducible refine Ext.alloc ?_ _)) hx3
  have hz := hxx.size
  replace f0 := hxx.froz d4 f0
  replace f1 := hxx.froz d5 f1
  replace f2 := hxx.froz d6 f2
  replace f3 := hxx.froz d7 f3
  replace d0 := hxx.has d0
  replace d1 := hxx.has d1
  replace d2 := hxx.has d2
  replace d3 := hxx.has d3
  replace d4 := hxx.has d4
  replace d5 := hxx.has d5
  replace d6 := hxx.has d6
  replace d7 := hxx.has d7
  replace r0 : w.heap.size < w3.heap.size := by omega
  replace r1 : w.heap.size + 1 < w3.heap.size := by omega
  clear hxx hz
  try go_simp
  refine hK.out _ _ (by first | exact ⟨d0, d1, d2, d3, d4, d5, d6, d7, f0, f1, f2, f3⟩ | (simp [go_sem, World.cell?_alloc_past]; done) | (simp [go_sem, World.cell?_alloc_past, d0, d1, d2, d3, d4, d5, d6, d7, f0, f1, f2, f3, r0, r1]; done)) (fun hHeld => ?_); clear hK K; try simp only [Act.put, List.setIfInBounds_toArray, List.set_cons_zero, List.set_cons_succ]
  (refine' take_in 25 rfl (by kernel_rfl) (by kernel_rfl) (by kernel_rfl) (fun _ _ _ h => h) (by rfl) (by assumption) ?_ ?_; rotate_left; focus (intro w hSw; (try dsimp only at hSw); go_simp; try with_reducible rfl)); try simp only [Act.put, List.setIfInBounds_toArray, List.set_cons_zero, List.set_cons_succ]
  refine wpAnyH_done (by kernel_rfl) ?_ _
  go_wp2
  refine bodyPost_ret (v := .tuple #[.agg #[.int .i64 to, .int .i64 t, .int .i64 V, .int .i64 S], .int .i64 0]) (by simp [results, Try.results101, go_sem, d0, d1, d2, d3, d4, d5, d6, d7, f0, f1, f2, f3]; try rfl) rfl ⟨rfl, ?_⟩
  exact (by repeat (first | assumption | exact Ext.refl _ | refine Ext.drew ?_ | refine Ext.drewN ?_ _ | refine Ext.alloc ?_ _ | refine Ext.setCell ?_ (by first | omega | (simp; done) | (simp; omega)) _ | refine Ext.trans ?_ (by assumption)))
end Go.Proofs.Ythaknigljjnnaaa
