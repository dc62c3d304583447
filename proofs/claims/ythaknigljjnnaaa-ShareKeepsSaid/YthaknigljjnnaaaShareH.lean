/- What share's inner functions answer: left, cut. Conditions stand in each lemma. -/
import Derived.Test.YthaknigljjnnaaaShareG
set_option linter.unusedVariables false
set_option linter.unusedSimpArgs false
namespace Go.Proofs.Ythaknigljjnnaaa
open Go.RowKit

set_option maxHeartbeats 1000000 in
theorem sleft_poor (t s x : Int) (h : s < x) (w : World) :
    Calls Try.prog 118 #[.agg #[.int .u64 t, .int .u64 s], .int .u64 x] w fun r w' => r = .returned (.tuple #[.agg #[.int .u64 t, .int .u64 s], .int .u64 0, .int .i64 13]) ∧ Ext w w' := by
  have F : (13 : Int) = firstE [if true = true then 13 else 0] := rfl
  have HF := Lib.hid F
  clear F
  go_enter Try.func118, Try.ntmps118
  go_wp2_with (first
      | (go_at_call 83; refine (sso_any _ _ _).mono ?_; rintro r w4 ⟨rfl, rfl⟩)
      | (go_at_call 81
         refine (sfirst_one _ (w.heap.size + 1 + 1) (w.heap.size + 1 + 1 + 1) true 13
           (by simp [go_sem]) (by simp [go_sem]) (by simp [go_sem]) HF.out).mono ?_
         rintro r w5 ⟨rfl, rfl⟩))
  (try simp only [Exit.inBlock, Exit.then])
  refine bodyPost_ret (by simp [results, Try.results118, go_sem]; try rfl) rfl ?_
  exact ⟨rfl, (by repeat (first | assumption | exact Ext.refl _ | refine Ext.drew ?_ | refine Ext.drewN ?_ _ | refine Ext.alloc ?_ _ | refine Ext.setCell ?_ (by first | omega | (simp; done) | (simp; omega)) _ | refine Ext.trans ?_ (by assumption)))⟩
set_option maxHeartbeats 4000000 in
theorem sleft_at (t s x n V : Int) (w : World) (x0 : 0 ≤ x) (x1 : x ≤ s) (s1 : s < 18446744073709551616) (n0 : 0 ≤ n) (n1 : n ≤ t) (t1 : t < 18446744073709551616)
    (C1 : Hid (∀ w, Calls Try.prog 84 #[.agg #[.int .u64 t, .int .u64 s], .int .u64 x] w fun r w' => r = .returned (.int .u64 n) ∧ Ext w w'))
    (HV : Hid (V = firstE [if (n == 0) = true then 14 else 0])) :
    Calls Try.prog 118 #[.agg #[.int .u64 t, .int .u64 s], .int .u64 x] w fun r w' => r = .returned (.tuple #[.agg #[.int .u64 (t - n), .int .u64 (s - x)], .int .u64 n, .int .i64 V]) ∧ Ext w w' := by
  have F : (0 : Int) = firstE [if false = true then 13 else 0] := rfl
  have HF := Lib.hid F
  clear F
  have nx : ¬ s < x := by omega
  have q1 : 0 ≤ s - x := by omega
  have q2 : s - x < 18446744073709551616 := by omega
  have q3 : 0 ≤ t - n := by omega
  have e1 : IntKind.u64.wrap (t - n) = t - n := by rw [IntKind.wrap_u64]; omega
  have e2 : IntKind.u64.wrap (s - x) = s - x := by rw [IntKind.wrap_u64]; omega
  have q4 : t - n < 18446744073709551616 := by omega
  go_enter Try.func118, Try.ntmps118
  go_wp2_with (first
      | (go_at_call 83; refine (sso_any _ _ _).mono ?_; rintro r w4 ⟨rfl, rfl⟩)
      | (go_at_call 81
         refine (sfirst_one _ (w.heap.size + 1 + 1) (w.heap.size + 1 + 1 + 1) false 13
           (by simp [go_sem]) (by simp [go_sem]) (by simp [go_sem]) HF.out).mono ?_
         rintro r w5 ⟨rfl, rfl⟩)
      | (go_at_call 84; refine (C1.out _).mono ?_; rintro r w1 ⟨rfl, hx1⟩
         have hs1 := hx1.size
         simp at hs1
         have d1 : w1.cell? ⟨w.heap.size, 0, none⟩ = some (.int .u64 t) := by rw [hx1.cells.1 _ _ (by first | (simp; done) | (simp; omega))]; simp [go_sem]
         have d2 : w1.cell? ⟨w.heap.size, 1, none⟩ = some (.int .u64 s) := by rw [hx1.cells.1 _ _ (by first | (simp; done) | (simp; omega))]; simp [go_sem]
         have d3 : w1.cell? ⟨w.heap.size + 1, 0, none⟩ = some (.int .u64 0) := by rw [hx1.cells.1 _ _ (by first | (simp; done) | (simp; omega))]; simp [go_sem]
         have d4 : w1.cell? ⟨w.heap.size + 1, 1, none⟩ = some (.int .u64 0) := by rw [hx1.cells.1 _ _ (by first | (simp; done) | (simp; omega))]; simp [go_sem]
         have f3 : w1.frozen? ⟨w.heap.size + 1, 0, none⟩ = false := by rw [hx1.cells.2 _ _ (by first | (simp; done) | (simp; omega))]; simp [go_sem]
         have f4 : w1.frozen? ⟨w.heap.size + 1, 1, none⟩ = false := by rw [hx1.cells.2 _ _ (by first | (simp; done) | (simp; omega))]; simp [go_sem]))
  have q0 : w.heap.size < w1.heap.size := by omega
  have q1 : w.heap.size < w1.heap.size + 1 := by omega
  have q2 : w.heap.size < w1.heap.size + 1 + 1 := by omega
  have p0 : w.heap.size + 1 < w1.heap.size := by omega
  have p1 : w.heap.size + 1 < w1.heap.size + 1 := by omega
  have p2 : w.heap.size + 1 < w1.heap.size + 1 + 1 := by omega
  go_region_held3 (fun w' => w'.cell? ⟨w.heap.size, 0, none⟩ = some (.int .u64 t) ∧ w'.cell? ⟨w.heap.size, 1, none⟩ = some (.int .u64 s)) (first | (simp [go_sem, World.cell?_alloc_past, q0, q1, q2, p0, p1, p2, d1, d2, d3, d4, f3, f4]; done) | (go_split_ands <;> simp [go_sem, World.cell?_alloc_past, q0, q1, q2, p0, p1, p2, d1, d2, d3, d4, f3, f4]))
    (first
      | (go_at_call 83; refine (sso_any _ _ _).mono ?_; rintro r w4 ⟨rfl, rfl⟩)
      | (go_at_call 81
         refine (sfirst_one _ (w1.heap.size) (w1.heap.size + 1) (n == 0) 14
           (by simp [go_sem]) (by simp [go_sem]) (by simp [go_sem]) HV.out).mono ?_
         rintro r w5 ⟨rfl, rfl⟩))
  go_wp2
  (try simp only [Exit.inBlock, Exit.then])
  refine bodyPost_ret (by simp [results, Try.results118, go_sem, p0, p1, p2, d3, d4, World.cell?_alloc_past]; try rfl) rfl ?_
  exact ⟨rfl, (by repeat (first | assumption | exact Ext.refl _ | refine Ext.drew ?_ | refine Ext.drewN ?_ _ | refine Ext.alloc ?_ _ | refine Ext.setCell ?_ (by first | omega | (simp; done) | (simp; omega)) _ | refine Ext.trans ?_ (by assumption)))⟩
set_option maxHeartbeats 1000000 in
theorem scut_bad (t s p n e : Int) (he : ¬ e = 0) (w : World)
    (C1 : Hid (∀ w, Calls Try.prog 121 #[.int .u64 t, .int .u64 p] w fun r w' => r = .returned (.tuple #[.int .u64 n, .int .i64 e]) ∧ Ext w w')) :
    Calls Try.prog 95 #[.agg #[.int .u64 t, .int .u64 s], .int .u64 p] w fun r w' => r = .returned (.tuple #[.agg #[.int .u64 t, .int .u64 s], .int .u64 0, .int .i64 e]) ∧ Ext w w' := by
  go_enter Try.func95, Try.ntmps95
  go_wp2_with (
      go_at_call 121; refine (C1.out _).mono ?_; rintro r w1 ⟨rfl, hx1⟩
      have hs1 := hx1.size
      simp at hs1
      have d1 : w1.cell? ⟨w.heap.size, 0, none⟩ = some (.int .u64 t) := by rw [hx1.cells.1 _ _ (by first | (simp; done) | (simp; omega))]; simp [go_sem]
      have d2 : w1.cell? ⟨w.heap.size, 1, none⟩ = some (.int .u64 s) := by rw [hx1.cells.1 _ _ (by first | (simp; done) | (simp; omega))]; simp [go_sem]
      have d3 : w1.cell? ⟨w.heap.size + 1, 0, none⟩ = some (.int .u64 0) := by rw [hx1.cells.1 _ _ (by first | (simp; done) | (simp; omega))]; simp [go_sem]
      have d4 : w1.cell? ⟨w.heap.size + 1, 1, none⟩ = some (.int .u64 0) := by rw [hx1.cells.1 _ _ (by first | (simp; done) | (simp; omega))]; simp [go_sem]
      have f3 : w1.frozen? ⟨w.heap.size + 1, 0, none⟩ = false := by rw [hx1.cells.2 _ _ (by first | (simp; done) | (simp; omega))]; simp [go_sem]
      have f4 : w1.frozen? ⟨w.heap.size + 1, 1, none⟩ = false := by rw [hx1.cells.2 _ _ (by first | (simp; done) | (simp; omega))]; simp [go_sem]
      have q0 : w.heap.size < w1.heap.size := by omega
      have q1 : w.heap.size < w1.heap.size + 1 := by omega
      have q2 : w.heap.size < w1.heap.size + 1 + 1 := by omega
      have p0 : w.heap.size + 1 < w1.heap.size := by omega
      have p1 : w.heap.size + 1 < w1.heap.size + 1 := by omega
      have p2 : w.heap.size + 1 < w1.heap.size + 1 + 1 := by omega
      have r0 : ¬ w.heap.size + 1 = w1.heap.size := by omega
      have r1 : ¬ w1.heap.size = w.heap.size + 1 := by omega)
  (try simp only [Exit.inBlock, Exit.then])
  refine bodyPost_ret (by simp [results, Try.results95, go_sem, p0, p1, p2, d1, d2, d3, d4, World.cell?_alloc_past]; try rfl) rfl ?_
  exact ⟨rfl, (by repeat (first | assumption | exact Ext.refl _ | refine Ext.drew ?_ | refine Ext.drewN ?_ _ | refine Ext.alloc ?_ _ | refine Ext.setCell ?_ (by first | omega | (simp; done) | (simp; omega)) _ | refine Ext.trans ?_ (by assumption)))⟩
set_option maxHeartbeats 1000000 in
theorem scut_some (t s p n : Int) (w : World) (n0 : 0 ≤ n) (n1 : n ≤ t) (t1 : t < 18446744073709551616) (hz : ¬ t - n = 0)
    (C1 : Hid (∀ w, Calls Try.prog 121 #[.int .u64 t, .int .u64 p] w fun r w' => r = .returned (.tuple #[.int .u64 n, .int .i64 0]) ∧ Ext w w')) :
    Calls Try.prog 95 #[.agg #[.int .u64 t, .int .u64 s], .int .u64 p] w fun r w' => r = .returned (.tuple #[.agg #[.int .u64 (t - n), .int .u64 s], .int .u64 n, .int .i64 0]) ∧ Ext w w' := by
  have e1 : IntKind.u64.wrap (t - n) = t - n := by rw [IntKind.wrap_u64]; omega
  have hz' : (t - n == 0) = false := by simpa using hz
  go_enter Try.func95, Try.ntmps95
  go_wp2_with (
      go_at_call 121; refine (C1.out _).mono ?_; rintro r w1 ⟨rfl, hx1⟩
      have hs1 := hx1.size
      simp at hs1
      have d1 : w1.cell? ⟨w.heap.size, 0, none⟩ = some (.int .u64 t) := by rw [hx1.cells.1 _ _ (by first | (simp; done) | (simp; omega))]; simp [go_sem]
      have d2 : w1.cell? ⟨w.heap.size, 1, none⟩ = some (.int .u64 s) := by rw [hx1.cells.1 _ _ (by first | (simp; done) | (simp; omega))]; simp [go_sem]
      have d3 : w1.cell? ⟨w.heap.size + 1, 0, none⟩ = some (.int .u64 0) := by rw [hx1.cells.1 _ _ (by first | (simp; done) | (simp; omega))]; simp [go_sem]
      have d4 : w1.cell? ⟨w.heap.size + 1, 1, none⟩ = some (.int .u64 0) := by rw [hx1.cells.1 _ _ (by first | (simp; done) | (simp; omega))]; simp [go_sem]
      have f3 : w1.frozen? ⟨w.heap.size + 1, 0, none⟩ = false := by rw [hx1.cells.2 _ _ (by first | (simp; done) | (simp; omega))]; simp [go_sem]
      have f4 : w1.frozen? ⟨w.heap.size + 1, 1, none⟩ = false := by rw [hx1.cells.2 _ _ (by first | (simp; done) | (simp; omega))]; simp [go_sem]
      have q0 : w.heap.size < w1.heap.size := by omega
      have q1 : w.heap.size < w1.heap.size + 1 := by omega
      have q2 : w.heap.size < w1.heap.size + 1 + 1 := by omega
      have p0 : w.heap.size + 1 < w1.heap.size := by omega
      have p1 : w.heap.size + 1 < w1.heap.size + 1 := by omega
      have p2 : w.heap.size + 1 < w1.heap.size + 1 + 1 := by omega
      have r0 : ¬ w.heap.size + 1 = w1.heap.size := by omega
      have r1 : ¬ w1.heap.size = w.heap.size + 1 := by omega)
  (try simp only [Exit.inBlock, Exit.then])
  refine bodyPost_ret (by simp [results, Try.results95, go_sem, p0, p1, p2, d1, d2, d3, d4, World.cell?_alloc_past]; try rfl) rfl ?_
  exact ⟨rfl, (by repeat (first | assumption | exact Ext.refl _ | refine Ext.drew ?_ | refine Ext.drewN ?_ _ | refine Ext.alloc ?_ _ | refine Ext.setCell ?_ (by first | omega | (simp; done) | (simp; omega)) _ | refine Ext.trans ?_ (by assumption)))⟩
set_option maxHeartbeats 1000000 in
theorem scut_all (t s p : Int) (w : World)
    (C1 : Hid (∀ w, Calls Try.prog 121 #[.int .u64 t, .int .u64 p] w fun r w' => r = .returned (.tuple #[.int .u64 t, .int .i64 0]) ∧ Ext w w')) :
    Calls Try.prog 95 #[.agg #[.int .u64 t, .int .u64 s], .int .u64 p] w fun r w' => r = .returned (.tuple #[.agg #[.int .u64 0, .int .u64 0], .int .u64 t, .int .i64 0]) ∧ Ext w w' := by
  have e1 : IntKind.u64.wrap (t - t) = 0 := by rw [IntKind.wrap_u64]; omega
  have e2 : t - t = 0 := by omega
  go_enter Try.func95, Try.ntmps95
  go_wp2_with (
      go_at_call 121; refine (C1.out _).mono ?_; rintro r w1 ⟨rfl, hx1⟩
      have hs1 := hx1.size
      simp at hs1
      have d1 : w1.cell? ⟨w.heap.size, 0, none⟩ = some (.int .u64 t) := by rw [hx1.cells.1 _ _ (by first | (simp; done) | (simp; omega))]; simp [go_sem]
      have d2 : w1.cell? ⟨w.heap.size, 1, none⟩ = some (.int .u64 s) := by rw [hx1.cells.1 _ _ (by first | (simp; done) | (simp; omega))]; simp [go_sem]
      have d3 : w1.cell? ⟨w.heap.size + 1, 0, none⟩ = some (.int .u64 0) := by rw [hx1.cells.1 _ _ (by first | (simp; done) | (simp; omega))]; simp [go_sem]
      have d4 : w1.cell? ⟨w.heap.size + 1, 1, none⟩ = some (.int .u64 0) := by rw [hx1.cells.1 _ _ (by first | (simp; done) | (simp; omega))]; simp [go_sem]
      have f3 : w1.frozen? ⟨w.heap.size + 1, 0, none⟩ = false := by rw [hx1.cells.2 _ _ (by first | (simp; done) | (simp; omega))]; simp [go_sem]
      have f4 : w1.frozen? ⟨w.heap.size + 1, 1, none⟩ = false := by rw [hx1.cells.2 _ _ (by first | (simp; done) | (simp; omega))]; simp [go_sem]
      have q0 : w.heap.size < w1.heap.size := by omega
      have q1 : w.heap.size < w1.heap.size + 1 := by omega
      have q2 : w.heap.size < w1.heap.size + 1 + 1 := by omega
      have p0 : w.heap.size + 1 < w1.heap.size := by omega
      have p1 : w.heap.size + 1 < w1.heap.size + 1 := by omega
      have p2 : w.heap.size + 1 < w1.heap.size + 1 + 1 := by omega
      have r0 : ¬ w.heap.size + 1 = w1.heap.size := by omega
      have r1 : ¬ w1.heap.size = w.heap.size + 1 := by omega)
  (try simp only [Exit.inBlock, Exit.then])
  refine bodyPost_ret (by simp [results, Try.results95, go_sem, p0, p1, p2, d1, d2, d3, d4, World.cell?_alloc_past]; try rfl) rfl ?_
  exact ⟨rfl, (by repeat (first | assumption | exact Ext.refl _ | refine Ext.drew ?_ | refine Ext.drewN ?_ _ | refine Ext.alloc ?_ _ | refine Ext.setCell ?_ (by first | omega | (simp; done) | (simp; omega)) _ | refine Ext.trans ?_ (by assumption)))⟩
end Go.Proofs.Ythaknigljjnnaaa
