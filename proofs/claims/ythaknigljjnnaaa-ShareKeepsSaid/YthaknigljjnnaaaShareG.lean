/- What share's inner functions answer: joined, left, cut. Conditions stand in each lemma. -/
import Derived.Test.YthaknigljjnnaaaShareF
set_option linter.unusedVariables false
set_option linter.unusedSimpArgs false
namespace Go.Proofs.Ythaknigljjnnaaa
open Go.RowKit

set_option maxHeartbeats 4000000 in
theorem sjoined_at (t s a n e t' f s' g V : Int) (B : Bool) (w : World)
    (C1 : Hid (∀ w, Calls Try.prog 86 #[.agg #[.int .u64 t, .int .u64 s], .int .u64 a] w fun r w' => r = .returned (.tuple #[.int .u64 n, .int .i64 e]) ∧ Ext w w'))
    (C2 : Hid (∀ w, Calls Try.prog 127 #[.int .u64 t, .int .u64 a] w fun r w' => r = .returned (.tuple #[.int .u64 t', .int .i64 f]) ∧ Ext w w'))
    (C3 : Hid (∀ w, Calls Try.prog 128 #[.int .u64 s, .int .u64 n] w fun r w' => r = .returned (.tuple #[.int .u64 s', .int .i64 g]) ∧ Ext w w'))
    (HV : Hid (V = firstE [if (a == 0) = true then 14 else 0, if B = true then 12 else 0]))
    (hB : (¬ e = 0 ∧ B = true) ∨ (e = 0 ∧ ¬ f = 0 ∧ B = true) ∨ (e = 0 ∧ f = 0 ∧ ¬ g = 0 ∧ B = true) ∨ (e = 0 ∧ f = 0 ∧ g = 0 ∧ B = decide (4611686018427387904 < t'))) :
    Calls Try.prog 117 #[.agg #[.int .u64 t, .int .u64 s], .int .u64 a] w fun r w' =>
      r = .returned (.tuple #[.agg #[.int .u64 t', .int .u64 s'], .int .u64 n, .int .i64 V]) ∧ Ext w w' := by
  rcases hB with ⟨h1, rfl⟩ | ⟨rfl, h2, rfl⟩ | ⟨rfl, rfl, h3, rfl⟩ | ⟨rfl, rfl, rfl, rfl⟩
  · go_enter Try.func117, Try.ntmps117
    go_wp2_with (first
      | (go_at_call 86; refine (C1.out _).mono ?_; rintro r w1 ⟨rfl, hx1⟩
         have hs1 := hx1.size
         simp at hs1
         have d1 : w1.cell? ⟨w.heap.size, 0, none⟩ = some (.int .u64 t) := by rw [hx1.cells.1 _ _ (by simp; omega)]; simp [go_sem]
         have d2 : w1.cell? ⟨w.heap.size, 1, none⟩ = some (.int .u64 s) := by rw [hx1.cells.1 _ _ (by simp; omega)]; simp [go_sem]
         have d3 : w1.cell? ⟨w.heap.size + 1, 0, none⟩ = some (.int .u64 0) := by rw [hx1.cells.1 _ _ (by simp)]; simp [go_sem]
         have d4 : w1.cell? ⟨w.heap.size + 1, 1, none⟩ = some (.int .u64 0) := by rw [hx1.cells.1 _ _ (by simp)]; simp [go_sem]
         have f3 : w1.frozen? ⟨w.heap.size + 1, 0, none⟩ = false := by rw [hx1.cells.2 _ _ (by simp)]; simp [go_sem]
         have f4 : w1.frozen? ⟨w.heap.size + 1, 1, none⟩ = false := by rw [hx1.cells.2 _ _ (by simp)]; simp [go_sem])
      | (go_at_call 127; refine (C2.out _).mono ?_; rintro r w2 ⟨rfl, hx2⟩
         have hs2 := hx2.size
         have d1 := (hx2.cells.1 _ _ (by omega)).trans d1
         have d2 := (hx2.cells.1 _ _ (by omega)).trans d2
         have d3 := (hx2.cells.1 _ _ (by omega)).trans d3
         have d4 := (hx2.cells.1 _ _ (by omega)).trans d4
         have f3 := (hx2.cells.2 _ _ (by omega)).trans f3
         have f4 := (hx2.cells.2 _ _ (by omega)).trans f4)
      | (go_at_call 128; refine (C3.out _).mono ?_; rintro r w3 ⟨rfl, hx3⟩
         have hs3 := hx3.size
         have q0 : w.heap.size < w3.heap.size := by omega
         have p0 : w.heap.size + 1 < w3.heap.size := by omega
         have q1 : w.heap.size < w3.heap.size + 1 := by omega
         have p1 : w.heap.size + 1 < w3.heap.size + 1 := by omega
         have q2 : w.heap.size < w3.heap.size + 1 + 1 := by omega
         have p2 : w.heap.size + 1 < w3.heap.size + 1 + 1 := by omega
         have q3 : w.heap.size < w3.heap.size + 1 + 1 + 1 := by omega
         have p3 : w.heap.size + 1 < w3.heap.size + 1 + 1 + 1 := by omega
         have q4 : w.heap.size < w3.heap.size + 1 + 1 + 1 + 1 := by omega
         have p4 : w.heap.size + 1 < w3.heap.size + 1 + 1 + 1 + 1 := by omega
         have q5 : w.heap.size < w3.heap.size + 1 + 1 + 1 + 1 + 1 := by omega
         have p5 : w.heap.size + 1 < w3.heap.size + 1 + 1 + 1 + 1 + 1 := by omega
         have d1 := (hx3.cells.1 _ _ (by omega)).trans d1
         have d2 := (hx3.cells.1 _ _ (by omega)).trans d2
         have d3 := (hx3.cells.1 _ _ (by omega)).trans d3
         have d4 := (hx3.cells.1 _ _ (by omega)).trans d4
         have f3 := (hx3.cells.2 _ _ (by omega)).trans f3
         have f4 := (hx3.cells.2 _ _ (by omega)).trans f4)
      | (go_at_call 83; refine (sso_any _ _ _).mono ?_; rintro r w4 ⟨rfl, rfl⟩)
      | (go_at_call 81
         refine (sfirst_two _ (w3.heap.size) (w3.heap.size + 1) (w3.heap.size + 1 + 1) (w3.heap.size + 1 + 1 + 1) (a == 0) true 14 12
           (by simp [go_sem]) (by simp [go_sem]) (by simp [go_sem]) (by simp [go_sem]) (by simp [go_sem]) (by simp [go_sem]) (V := V) (by have := HV.out; simpa using this)).mono ?_
         rintro r w5 ⟨rfl, rfl⟩))
    (try simp only [Exit.inBlock, Exit.then])
    refine bodyPost_ret (by simp [results, Try.results117, go_sem, p0, p1, p2, p3, p4, p5, d3, d4, World.cell?_alloc_past]; try rfl) rfl ?_
    exact ⟨rfl, (by repeat (first | assumption | exact Ext.refl _ | refine Ext.drew ?_ | refine Ext.drewN ?_ _ | refine Ext.alloc ?_ _ | refine Ext.setCell ?_ (by first | omega | (simp; done) | (simp; omega)) _ | refine Ext.trans ?_ (by assumption)))⟩
  · go_enter Try.func117, Try.ntmps117
    go_wp2_with (first
      | (go_at_call 86; refine (C1.out _).mono ?_; rintro r w1 ⟨rfl, hx1⟩
         have hs1 := hx1.size
         simp at hs1
         have d1 : w1.cell? ⟨w.heap.size, 0, none⟩ = some (.int .u64 t) := by rw [hx1.cells.1 _ _ (by simp; omega)]; simp [go_sem]
         have d2 : w1.cell? ⟨w.heap.size, 1, none⟩ = some (.int .u64 s) := by rw [hx1.cells.1 _ _ (by simp; omega)]; simp [go_sem]
         have d3 : w1.cell? ⟨w.heap.size + 1, 0, none⟩ = some (.int .u64 0) := by rw [hx1.cells.1 _ _ (by simp)]; simp [go_sem]
         have d4 : w1.cell? ⟨w.heap.size + 1, 1, none⟩ = some (.int .u64 0) := by rw [hx1.cells.1 _ _ (by simp)]; simp [go_sem]
         have f3 : w1.frozen? ⟨w.heap.size + 1, 0, none⟩ = false := by rw [hx1.cells.2 _ _ (by simp)]; simp [go_sem]
         have f4 : w1.frozen? ⟨w.heap.size + 1, 1, none⟩ = false := by rw [hx1.cells.2 _ _ (by simp)]; simp [go_sem])
      | (go_at_call 127; refine (C2.out _).mono ?_; rintro r w2 ⟨rfl, hx2⟩
         have hs2 := hx2.size
         have d1 := (hx2.cells.1 _ _ (by omega)).trans d1
         have d2 := (hx2.cells.1 _ _ (by omega)).trans d2
         have d3 := (hx2.cells.1 _ _ (by omega)).trans d3
         have d4 := (hx2.cells.1 _ _ (by omega)).trans d4
         have f3 := (hx2.cells.2 _ _ (by omega)).trans f3
         have f4 := (hx2.cells.2 _ _ (by omega)).trans f4)
      | (go_at_call 128; refine (C3.out _).mono ?_; rintro r w3 ⟨rfl, hx3⟩
         have hs3 := hx3.size
         have q0 : w.heap.size < w3.heap.size := by omega
         have p0 : w.heap.size + 1 < w3.heap.size := by omega
         have q1 : w.heap.size < w3.heap.size + 1 := by omega
         have p1 : w.heap.size + 1 < w3.heap.size + 1 := by omega
         have q2 : w.heap.size < w3.heap.size + 1 + 1 := by omega
         have p2 : w.heap.size + 1 < w3.heap.size + 1 + 1 := by omega
         have q3 : w.heap.size < w3.heap.size + 1 + 1 + 1 := by omega
         have p3 : w.heap.size + 1 < w3.heap.size + 1 + 1 + 1 := by omega
         have q4 : w.heap.size < w3.heap.size + 1 + 1 + 1 + 1 := by omega
         have p4 : w.heap.size + 1 < w3.heap.size + 1 + 1 + 1 + 1 := by omega
         have q5 : w.heap.size < w3.heap.size + 1 + 1 + 1 + 1 + 1 := by omega
         have p5 : w.heap.size + 1 < w3.heap.size + 1 + 1 + 1 + 1 + 1 := by omega
         have d1 := (hx3.cells.1 _ _ (by omega)).trans d1
         have d2 := (hx3.cells.1 _ _ (by omega)).trans d2
         have d3 := (hx3.cells.1 _ _ (by omega)).trans d3
         have d4 := (hx3.cells.1 _ _ (by omega)).trans d4
         have f3 := (hx3.cells.2 _ _ (by omega)).trans f3
         have f4 := (hx3.cells.2 _ _ (by omega)).trans f4)
      | (go_at_call 83; refine (sso_any _ _ _).mono ?_; rintro r w4 ⟨rfl, rfl⟩)
      | (go_at_call 81
         refine (sfirst_two _ (w3.heap.size) (w3.heap.size + 1) (w3.heap.size + 1 + 1) (w3.heap.size + 1 + 1 + 1) (a == 0) true 14 12
           (by simp [go_sem]) (by simp [go_sem]) (by simp [go_sem]) (by simp [go_sem]) (by simp [go_sem]) (by simp [go_sem]) (V := V) (by have := HV.out; simpa using this)).mono ?_
         rintro r w5 ⟨rfl, rfl⟩))
    (try simp only [Exit.inBlock, Exit.then])
    refine bodyPost_ret (by simp [results, Try.results117, go_sem, p0, p1, p2, p3, p4, p5, d3, d4, World.cell?_alloc_past]; try rfl) rfl ?_
    exact ⟨rfl, (by repeat (first | assumption | exact Ext.refl _ | refine Ext.drew ?_ | refine Ext.drewN ?_ _ | refine Ext.alloc ?_ _ | refine Ext.setCell ?_ (by first | omega | (simp; done) | (simp; omega)) _ | refine Ext.trans ?_ (by assumption)))⟩
  · go_enter Try.func117, Try.ntmps117
    go_wp2_with (first
      | (go_at_call 86; refine (C1.out _).mono ?_; rintro r w1 ⟨rfl, hx1⟩
         have hs1 := hx1.size
         simp at hs1
         have d1 : w1.cell? ⟨w.heap.size, 0, none⟩ = some (.int .u64 t) := by rw [hx1.cells.1 _ _ (by simp; omega)]; simp [go_sem]
         have d2 : w1.cell? ⟨w.heap.size, 1, none⟩ = some (.int .u64 s) := by rw [hx1.cells.1 _ _ (by simp; omega)]; simp [go_sem]
         have d3 : w1.cell? ⟨w.heap.size + 1, 0, none⟩ = some (.int .u64 0) := by rw [hx1.cells.1 _ _ (by simp)]; simp [go_sem]
         have d4 : w1.cell? ⟨w.heap.size + 1, 1, none⟩ = some (.int .u64 0) := by rw [hx1.cells.1 _ _ (by simp)]; simp [go_sem]
         have f3 : w1.frozen? ⟨w.heap.size + 1, 0, none⟩ = false := by rw [hx1.cells.2 _ _ (by simp)]; simp [go_sem]
         have f4 : w1.frozen? ⟨w.heap.size + 1, 1, none⟩ = false := by rw [hx1.cells.2 _ _ (by simp)]; simp [go_sem])
      | (go_at_call 127; refine (C2.out _).mono ?_; rintro r w2 ⟨rfl, hx2⟩
         have hs2 := hx2.size
         have d1 := (hx2.cells.1 _ _ (by omega)).trans d1
         have d2 := (hx2.cells.1 _ _ (by omega)).trans d2
         have d3 := (hx2.cells.1 _ _ (by omega)).trans d3
         have d4 := (hx2.cells.1 _ _ (by omega)).trans d4
         have f3 := (hx2.cells.2 _ _ (by omega)).trans f3
         have f4 := (hx2.cells.2 _ _ (by omega)).trans f4)
      | (go_at_call 128; refine (C3.out _).mono ?_; rintro r w3 ⟨rfl, hx3⟩
         have hs3 := hx3.size
         have q0 : w.heap.size < w3.heap.size := by omega
         have p0 : w.heap.size + 1 < w3.heap.size := by omega
         have q1 : w.heap.size < w3.heap.size + 1 := by omega
         have p1 : w.heap.size + 1 < w3.heap.size + 1 := by omega
         have q2 : w.heap.size < w3.heap.size + 1 + 1 := by omega
         have p2 : w.heap.size + 1 < w3.heap.size + 1 + 1 := by omega
         have q3 : w.heap.size < w3.heap.size + 1 + 1 + 1 := by omega
         have p3 : w.heap.size + 1 < w3.heap.size + 1 + 1 + 1 := by omega
         have q4 : w.heap.size < w3.heap.size + 1 + 1 + 1 + 1 := by omega
         have p4 : w.heap.size + 1 < w3.heap.size + 1 + 1 + 1 + 1 := by omega
         have q5 : w.heap.size < w3.heap.size + 1 + 1 + 1 + 1 + 1 := by omega
         have p5 : w.heap.size + 1 < w3.heap.size + 1 + 1 + 1 + 1 + 1 := by omega
         have d1 := (hx3.cells.1 _ _ (by omega)).trans d1
         have d2 := (hx3.cells.1 _ _ (by omega)).trans d2
         have d3 := (hx3.cells.1 _ _ (by omega)).trans d3
         have d4 := (hx3.cells.1 _ _ (by omega)).trans d4
         have f3 := (hx3.cells.2 _ _ (by omega)).trans f3
         have f4 := (hx3.cells.2 _ _ (by omega)).trans f4)
      | (go_at_call 83; refine (sso_any _ _ _).mono ?_; rintro r w4 ⟨rfl, rfl⟩)
      | (go_at_call 81
         refine (sfirst_two _ (w3.heap.size) (w3.heap.size + 1) (w3.heap.size + 1 + 1) (w3.heap.size + 1 + 1 + 1) (a == 0) true 14 12
           (by simp [go_sem]) (by simp [go_sem]) (by simp [go_sem]) (by simp [go_sem]) (by simp [go_sem]) (by simp [go_sem]) (V := V) (by have := HV.out; simpa using this)).mono ?_
         rintro r w5 ⟨rfl, rfl⟩))
    (try simp only [Exit.inBlock, Exit.then])
    refine bodyPost_ret (by simp [results, Try.results117, go_sem, p0, p1, p2, p3, p4, p5, d3, d4, World.cell?_alloc_past]; try rfl) rfl ?_
    exact ⟨rfl, (by repeat (first | assumption | exact Ext.refl _ | refine Ext.drew ?_ | refine Ext.drewN ?_ _ | refine Ext.alloc ?_ _ | refine Ext.setCell ?_ (by first | omega | (simp; done) | (simp; omega)) _ | refine Ext.trans ?_ (by assumption)))⟩
  · go_enter Try.func117, Try.ntmps117
    go_wp2_with (first
      | (go_at_call 86; refine (C1.out _).mono ?_; rintro r w1 ⟨rfl, hx1⟩
         have hs1 := hx1.size
         simp at hs1
         have d1 : w1.cell? ⟨w.heap.size, 0, none⟩ = some (.int .u64 t) := by rw [hx1.cells.1 _ _ (by simp; omega)]; simp [go_sem]
         have d2 : w1.cell? ⟨w.heap.size, 1, none⟩ = some (.int .u64 s) := by rw [hx1.cells.1 _ _ (by simp; omega)]; simp [go_sem]
         have d3 : w1.cell? ⟨w.heap.size + 1, 0, none⟩ = some (.int .u64 0) := by rw [hx1.cells.1 _ _ (by simp)]; simp [go_sem]
         have d4 : w1.cell? ⟨w.heap.size + 1, 1, none⟩ = some (.int .u64 0) := by rw [hx1.cells.1 _ _ (by simp)]; simp [go_sem]
         have f3 : w1.frozen? ⟨w.heap.size + 1, 0, none⟩ = false := by rw [hx1.cells.2 _ _ (by simp)]; simp [go_sem]
         have f4 : w1.frozen? ⟨w.heap.size + 1, 1, none⟩ = false := by rw [hx1.cells.2 _ _ (by simp)]; simp [go_sem])
      | (go_at_call 127; refine (C2.out _).mono ?_; rintro r w2 ⟨rfl, hx2⟩
         have hs2 := hx2.size
         have d1 := (hx2.cells.1 _ _ (by omega)).trans d1
         have d2 := (hx2.cells.1 _ _ (by omega)).trans d2
         have d3 := (hx2.cells.1 _ _ (by omega)).trans d3
         have d4 := (hx2.cells.1 _ _ (by omega)).trans d4
         have f3 := (hx2.cells.2 _ _ (by omega)).trans f3
         have f4 := (hx2.cells.2 _ _ (by omega)).trans f4)
      | (go_at_call 128; refine (C3.out _).mono ?_; rintro r w3 ⟨rfl, hx3⟩
         have hs3 := hx3.size
         have q0 : w.heap.size < w3.heap.size := by omega
         have p0 : w.heap.size + 1 < w3.heap.size := by omega
         have q1 : w.heap.size < w3.heap.size + 1 := by omega
         have p1 : w.heap.size + 1 < w3.heap.size + 1 := by omega
         have q2 : w.heap.size < w3.heap.size + 1 + 1 := by omega
         have p2 : w.heap.size + 1 < w3.heap.size + 1 + 1 := by omega
         have q3 : w.heap.size < w3.heap.size + 1 + 1 + 1 := by omega
         have p3 : w.heap.size + 1 < w3.heap.size + 1 + 1 + 1 := by omega
         have q4 : w.heap.size < w3.heap.size + 1 + 1 + 1 + 1 := by omega
         have p4 : w.heap.size + 1 < w3.heap.size + 1 + 1 + 1 + 1 := by omega
         have q5 : w.heap.size < w3.heap.size + 1 + 1 + 1 + 1 + 1 := by omega
         have p5 : w.heap.size + 1 < w3.heap.size + 1 + 1 + 1 + 1 + 1 := by omega
         have d1 := (hx3.cells.1 _ _ (by omega)).trans d1
         have d2 := (hx3.cells.1 _ _ (by omega)).trans d2
         have d3 := (hx3.cells.1 _ _ (by omega)).trans d3
         have d4 := (hx3.cells.1 _ _ (by omega)).trans d4
         have f3 := (hx3.cells.2 _ _ (by omega)).trans f3
         have f4 := (hx3.cells.2 _ _ (by omega)).trans f4)
      | (go_at_call 83; refine (sso_any _ _ _).mono ?_; rintro r w4 ⟨rfl, rfl⟩)
      | (go_at_call 81
         refine (sfirst_two _ (w3.heap.size) (w3.heap.size + 1) (w3.heap.size + 1 + 1) (w3.heap.size + 1 + 1 + 1) (a == 0) (decide (4611686018427387904 < t')) 14 12
           (by simp [go_sem]) (by simp [go_sem]) (by simp [go_sem]) (by simp [go_sem]) (by simp [go_sem]) (by simp [go_sem]) (V := V) (by have := HV.out; simpa using this)).mono ?_
         rintro r w5 ⟨rfl, rfl⟩))
    (try simp only [Exit.inBlock, Exit.then])
    refine bodyPost_ret (by simp [results, Try.results117, go_sem, p0, p1, p2, p3, p4, p5, d3, d4, World.cell?_alloc_past]; try rfl) rfl ?_
    exact ⟨rfl, (by repeat (first | assumption | exact Ext.refl _ | refine Ext.drew ?_ | refine Ext.drewN ?_ _ | refine Ext.alloc ?_ _ | refine Ext.setCell ?_ (by first | omega | (simp; done) | (simp; omega)) _ | refine Ext.trans ?_ (by assumption)))⟩
end Go.Proofs.Ythaknigljjnnaaa
