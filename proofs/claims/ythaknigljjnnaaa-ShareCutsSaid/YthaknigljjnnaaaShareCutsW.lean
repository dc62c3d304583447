/- What is proved: distraintlaw11.ShareCuts returns true for every five words; nothing that was there is written. Conditions: none. -/
import Derived.Test.YthaknigljjnnaaaShareO
import Derived.Test.YthaknigljjnnaaaShareFairG
import Derived.Test.YthaknigljjnnaaaOpen
set_option linter.unusedVariables false
set_option linter.unusedSimpArgs false
namespace Go.Proofs.Ythaknigljjnnaaa
open Go.RowKit Gr

theorem SCut_at (t s p a b c : Int) (ht : Word t) (hs : Word s) (hp : Word p) (h1 : cutT t s p = a) (h2 : cutS t s p = b) (h3 : cutN t s p = c) (h4 : cutE t s p = 0) (w : World) :
    Calls Try.prog 55 #[.agg #[.int .u64 t, .int .u64 s], .int .u64 p] w fun r w' => r = .returned (.tuple #[.agg #[.int .u64 a, .int .u64 b], .int .u64 c, .int .i64 0]) ∧ Ext w w' := by
  have := SCut_any t s p ht hs hp w
  rw [h1, h2, h3, h4] at this
  exact this

set_option maxRecDepth 100000 in
set_option maxHeartbeats 4000000 in
theorem ShareCuts_zero (t s one two x T S o1 o2 A S' V A2 S2 M : Int) (b1 : one % 1000000001 = o1) (b2 : two % 1000000001 = o2) (b3 : 0 ≤ one) (b4 : one < 18446744073709551616) (b5 : 0 ≤ two) (b6 : two < 18446744073709551616) (hV : ¬ T < V) (hM : ¬ A < M) (e1 : S' = 0) (e2 : T = V) (e3 : A2 = 0) (e4 : S2 = 0) (w : World)
    (C0 : Hid (∀ w, Calls Try.prog 50 #[.int .u64 t, .int .u64 s] w fun r w' => r = .returned (.agg #[.int .u64 T, .int .u64 S]) ∧ Ext w w'))
    (C1 : Hid (∀ w, Calls Try.prog 55 #[.agg #[.int .u64 T, .int .u64 S], .int .u64 o1] w fun r w' => r = .returned (.tuple #[.agg #[.int .u64 A, .int .u64 S'], .int .u64 V, .int .i64 0]) ∧ Ext w w'))
    (C2 : Hid (∀ w, Calls Try.prog 55 #[.agg #[.int .u64 A, .int .u64 S'], .int .u64 o2] w fun r w' => r = .returned (.tuple #[.agg #[.int .u64 A2, .int .u64 S2], .int .u64 M, .int .i64 0]) ∧ Ext w w'))
    (C3 : Hid (∀ w, Calls Try.prog 55 #[.agg #[.int .u64 T, .int .u64 S], .int .u64 0] w fun r w' => r = .returned (.tuple #[.agg #[.int .u64 T, .int .u64 S], .int .u64 0, .int .i64 0]) ∧ Ext w w'))
    (C4 : Hid (∀ w, Calls Try.prog 55 #[.agg #[.int .u64 T, .int .u64 S], .int .u64 1000000000] w fun r w' => r = .returned (.tuple #[.agg #[.int .u64 0, .int .u64 0], .int .u64 T, .int .i64 0]) ∧ Ext w w'))
    : Calls Try.prog 9 #[.int .u64 t, .int .u64 s, .int .u64 one, .int .u64 two, .int .u64 x] w fun r w' => r = .returned (.bool true) ∧ Ext w w' := by
  go_enter Try.func9, Try.ntmps9
  subst e1 e2 e3 e4
  go_wp2_with fail
  refine (ShareKnown_any _).mono ?_
  rintro e w1 ⟨rfl, hx1⟩
  have X1 : Hid (Ext w w1) := Lib.hid (Ext.trans (by repeat (first | with_reducible exact Ext.refl w | with_reducible refine Ext.drew ?_ | with_reducible refine Ext.drewN ?_ _ | with_reducible refine Ext.alloc ?_ _ | with_reducible refine Ext.setCell ?_ (by first | omega | (simp; done) | (simp; omega)) _)) hx1)
  clear hx1
  go_wp2_with fail
  refine (C0.out _).mono ?_
  rintro e w2 ⟨rfl, hx2⟩
  have X2 : Hid (Ext w w2) := Lib.hid (Ext.trans (by repeat (first | with_reducible exact X1.out | with_reducible refine Ext.drew ?_ | with_reducible refine Ext.drewN ?_ _ | with_reducible refine Ext.alloc ?_ _ | with_reducible refine Ext.setCell ?_ (by first | omega | (simp; done) | (simp; omega)) _)) hx2)
  clear hx2 X1
  go_wp2_with fail
  refine (C1.out _).mono ?_
  rintro e w3 ⟨rfl, hx3⟩
  have d0 : w3.cell? ⟨w2.heap.size, 0, none⟩ = some (.int .u64 T) := hx3.has (by first | (simp [go_sem]; done) | (simp [go_sem, World.cell?_alloc_past]; done))
  have d1 : w3.cell? ⟨w2.heap.size, 1, none⟩ = some (.int .u64 S) := hx3.has (by first | (simp [go_sem]; done) | (simp [go_sem, World.cell?_alloc_past]; done))
  have z3 := hx3.size
  try simp at z3
  replace r0 : w2.heap.size < w3.heap.size := by omega
  replace r0a : w2.heap.size < w3.heap.size + 1 := by omega
  replace r0b : w2.heap.size < w3.heap.size + 1 + 1 := by omega
  have X3 : Hid (Ext w w3) := Lib.hid (Ext.trans (by repeat (first | with_reducible exact X2.out | with_reducible refine Ext.drew ?_ | with_reducible refine Ext.drewN ?_ _ | with_reducible refine Ext.alloc ?_ _ | with_reducible refine Ext.setCell ?_ (by first | omega | (simp; done) | (simp; omega)) _)) hx3)
  clear hx3 X2 z3
  go_wp2_with fail
  refine (C2.out _).mono ?_
  rintro e w4 ⟨rfl, hx4⟩
  replace d0 : w4.cell? ⟨w2.heap.size, 0, none⟩ = some (.int .u64 T) := hx4.has (by first | exact d0 | (simp [go_sem]; done) | (simp [go_sem, World.cell?_alloc_past, d0, r0, r0a, r0b]; done))
  replace d1 : w4.cell? ⟨w2.heap.size, 1, none⟩ = some (.int .u64 S) := hx4.has (by first | exact d1 | (simp [go_sem]; done) | (simp [go_sem, World.cell?_alloc_past, d1, r0, r0a, r0b]; done))
  have d2 : w4.cell? ⟨w3.heap.size, 0, none⟩ = some (.int .u64 A) := hx4.has (by first | (simp [go_sem]; done) | (simp [go_sem, World.cell?_alloc_past]; done))
  have d3 : w4.cell? ⟨w3.heap.size, 1, none⟩ = some (.int .u64 0) := hx4.has (by first | (simp [go_sem]; done) | (simp [go_sem, World.cell?_alloc_past]; done))
  have z4 := hx4.size
  try simp at z4
  replace r0 : w2.heap.size < w4.heap.size := by omega
  replace r0a : w2.heap.size < w4.heap.size + 1 := by omega
  replace r0b : w2.heap.size < w4.heap.size + 1 + 1 := by omega
  replace r1 : w3.heap.size < w4.heap.size := by omega
  replace r1a : w3.heap.size < w4.heap.size + 1 := by omega
  replace r1b : w3.heap.size < w4.heap.size + 1 + 1 := by omega
  have X4 : Hid (Ext w w4) := Lib.hid (Ext.trans (by repeat (first | with_reducible exact X3.out | with_reducible refine Ext.drew ?_ | with_reducible refine Ext.drewN ?_ _ | with_reducible refine Ext.alloc ?_ _ | with_reducible refine Ext.setCell ?_ (by first | omega | (simp; done) | (simp; omega)) _)) hx4)
  clear hx4 X3 z4
  go_wp2_with fail
  refine (C3.out _).mono ?_
  rintro e w5 ⟨rfl, hx5⟩
  replace d0 : w5.cell? ⟨w2.heap.size, 0, none⟩ = some (.int .u64 T) := hx5.has (by first | exact d0 | (simp [go_sem]; done) | (simp [go_sem, World.cell?_alloc_past, d0, r0, r0a, r0b, r1, r1a, r1b]; done))
  replace d1 : w5.cell? ⟨w2.heap.size, 1, none⟩ = some (.int .u64 S) := hx5.has (by first | exact d1 | (simp [go_sem]; done) | (simp [go_sem, World.cell?_alloc_past, d1, r0, r0a, r0b, r1, r1a, r1b]; done))
  replace d2 : w5.cell? ⟨w3.heap.size, 0, none⟩ = some (.int .u64 A) := hx5.has (by first | exact d2 | (simp [go_sem]; done) | (simp [go_sem, World.cell?_alloc_past, d2, r0, r0a, r0b, r1, r1a, r1b]; done))
  replace d3 : w5.cell? ⟨w3.heap.size, 1, none⟩ = some (.int .u64 0) := hx5.has (by first | exact d3 | (simp [go_sem]; done) | (simp [go_sem, World.cell?_alloc_past, d3, r0, r0a, r0b, r1, r1a, r1b]; done))
  have d4 : w5.cell? ⟨w4.heap.size, 0, none⟩ = some (.int .u64 0) := hx5.has (by first | (simp [go_sem]; done) | (simp [go_sem, World.cell?_alloc_past]; done))
  have d5 : w5.cell? ⟨w4.heap.size, 1, none⟩ = some (.int .u64 0) := hx5.has (by first | (simp [go_sem]; done) | (simp [go_sem, World.cell?_alloc_past]; done))
  have z5 := hx5.size
  try simp at z5
  replace r0 : w2.heap.size < w5.heap.size := by omega
  replace r0a : w2.heap.size < w5.heap.size + 1 := by omega
  replace r0b : w2.heap.size < w5.heap.size + 1 + 1 := by omega
  replace r1 : w3.heap.size < w5.heap.size := by omega
  replace r1a : w3.heap.size < w5.heap.size + 1 := by omega
  replace r1b : w3.heap.size < w5.heap.size + 1 + 1 := by omega
  replace r2 : w4.heap.size < w5.heap.size := by omega
  replace r2a : w4.heap.size < w5.heap.size + 1 := by omega
  replace r2b : w4.heap.size < w5.heap.size + 1 + 1 := by omega
  have X5 : Hid (Ext w w5) := Lib.hid (Ext.trans (by repeat (first | with_reducible exact X4.out | with_reducible refine Ext.drew ?_ | with_reducible refine Ext.drewN ?_ _ | with_reducible refine Ext.alloc ?_ _ | with_reducible refine Ext.setCell ?_ (by first | omega | (simp; done) | (simp; omega)) _)) hx5)
  clear hx5 X4 z5
  go_wp2_with fail
  refine (C4.out _).mono ?_
  rintro e w6 ⟨rfl, hx6⟩
  replace d0 : w6.cell? ⟨w2.heap.size, 0, none⟩ = some (.int .u64 T) := hx6.has (by first | exact d0 | (simp [go_sem]; done) | (simp [go_sem, World.cell?_alloc_past, d0, r0, r0a, r0b, r1, r1a, r1b, r2, r2a, r2b]; done))
  replace d1 : w6.cell? ⟨w2.heap.size, 1, none⟩ = some (.int .u64 S) := hx6.has (by first | exact d1 | (simp [go_sem]; done) | (simp [go_sem, World.cell?_alloc_past, d1, r0, r0a, r0b, r1, r1a, r1b, r2, r2a, r2b]; done))
  replace d2 : w6.cell? ⟨w3.heap.size, 0, none⟩ = some (.int .u64 A) := hx6.has (by first | exact d2 | (simp [go_sem]; done) | (simp [go_sem, World.cell?_alloc_past, d2, r0, r0a, r0b, r1, r1a, r1b, r2, r2a, r2b]; done))
  replace d3 : w6.cell? ⟨w3.heap.size, 1, none⟩ = some (.int .u64 0) := hx6.has (by first | exact d3 | (simp [go_sem]; done) | (simp [go_sem, World.cell?_alloc_past, d3, r0, r0a, r0b, r1, r1a, r1b, r2, r2a, r2b]; done))
  replace d4 : w6.cell? ⟨w4.heap.size, 0, none⟩ = some (.int .u64 0) := hx6.has (by first | exact d4 | (simp [go_sem]; done) | (simp [go_sem, World.cell?_alloc_past, d4, r0, r0a, r0b, r1, r1a, r1b, r2, r2a, r2b]; done))
  replace d5 : w6.cell? ⟨w4.heap.size, 1, none⟩ = some (.int .u64 0) := hx6.has (by first | exact d5 | (simp [go_sem]; done) | (simp [go_sem, World.cell?_alloc_past, d5, r0, r0a, r0b, r1, r1a, r1b, r2, r2a, r2b]; done))
  have d6 : w6.cell? ⟨w5.heap.size, 0, none⟩ = some (.int .u64 T) := hx6.has (by first | (simp [go_sem]; done) | (simp [go_sem, World.cell?_alloc_past]; done))
  have d7 : w6.cell? ⟨w5.heap.size, 1, none⟩ = some (.int .u64 S) := hx6.has (by first | (simp [go_sem]; done) | (simp [go_sem, World.cell?_alloc_past]; done))
  have z6 := hx6.size
  try simp at z6
  replace r0 : w2.heap.size < w6.heap.size := by omega
  replace r0a : w2.heap.size < w6.heap.size + 1 := by omega
  replace r0b : w2.heap.size < w6.heap.size + 1 + 1 := by omega
  replace r1 : w3.heap.size < w6.heap.size := by omega
  replace r1a : w3.heap.size < w6.heap.size + 1 := by omega
  replace r1b : w3.heap.size < w6.heap.size + 1 + 1 := by omega
  replace r2 : w4.heap.size < w6.heap.size := by omega
  replace r2a : w4.heap.size < w6.heap.size + 1 := by omega
  replace r2b : w4.heap.size < w6.heap.size + 1 + 1 := by omega
  replace r3 : w5.heap.size < w6.heap.size := by omega
  replace r3a : w5.heap.size < w6.heap.size + 1 := by omega
  replace r3b : w5.heap.size < w6.heap.size + 1 + 1 := by omega
  have X6 : Hid (Ext w w6) := Lib.hid (Ext.trans (by repeat (first | with_reducible exact X5.out | with_reducible refine Ext.drew ?_ | with_reducible refine Ext.drewN ?_ _ | with_reducible refine Ext.alloc ?_ _ | with_reducible refine Ext.setCell ?_ (by first | omega | (simp; done) | (simp; omega)) _)) hx6)
  clear hx6 X5 z6
  go_wp2_with fail
  go_ret
  exact ⟨rfl, by have X := X6.out; exact (by repeat (first | assumption | exact Ext.refl _ | refine Ext.drew ?_ | refine Ext.drewN ?_ _ | refine Ext.alloc ?_ _ | refine Ext.setCell ?_ (by first | omega | (simp; done) | (simp; omega)) _ | refine Ext.trans ?_ (by assumption)))⟩
set_option maxRecDepth 100000 in
set_option maxHeartbeats 4000000 in
theorem ShareCuts_some (t s one two x T S o1 o2 A S' V A2 S2 M X : Int) (b1 : one % 1000000001 = o1) (b2 : two % 1000000001 = o2) (b3 : 0 ≤ one) (b4 : one < 18446744073709551616) (b5 : 0 ≤ two) (b6 : two < 18446744073709551616) (hV : ¬ T < V) (hM : ¬ A < M) (e1 : S = S') (hS0 : (S == 0) = false) (hS : 0 < S) (hS2 : S < 18446744073709551616) (x0 : 0 ≤ x) (x1 : x < 18446744073709551616) (hX : x % S = X) (v0 : 0 ≤ V) (v1 : V ≤ T) (t0 : 0 ≤ T) (t1 : T < 18446744073709551616) (l1 : A2 ≤ A) (l2 : A ≤ T) (HX : Hid (B1 X)) (HT : Hid (B1 T)) (HA : Hid (B1 A)) (HTV : Hid (B1 (T - V))) (HV : Hid (decide (X * T * (T - V) = X * A * T) = true)) (w : World)
    (C0 : Hid (∀ w, Calls Try.prog 50 #[.int .u64 t, .int .u64 s] w fun r w' => r = .returned (.agg #[.int .u64 T, .int .u64 S]) ∧ Ext w w'))
    (C1 : Hid (∀ w, Calls Try.prog 55 #[.agg #[.int .u64 T, .int .u64 S], .int .u64 o1] w fun r w' => r = .returned (.tuple #[.agg #[.int .u64 A, .int .u64 S'], .int .u64 V, .int .i64 0]) ∧ Ext w w'))
    (C2 : Hid (∀ w, Calls Try.prog 55 #[.agg #[.int .u64 A, .int .u64 S'], .int .u64 o2] w fun r w' => r = .returned (.tuple #[.agg #[.int .u64 A2, .int .u64 S2], .int .u64 M, .int .i64 0]) ∧ Ext w w'))
    (C3 : Hid (∀ w, Calls Try.prog 55 #[.agg #[.int .u64 T, .int .u64 S], .int .u64 0] w fun r w' => r = .returned (.tuple #[.agg #[.int .u64 T, .int .u64 S], .int .u64 0, .int .i64 0]) ∧ Ext w w'))
    (C4 : Hid (∀ w, Calls Try.prog 55 #[.agg #[.int .u64 T, .int .u64 S], .int .u64 1000000000] w fun r w' => r = .returned (.tuple #[.agg #[.int .u64 0, .int .u64 0], .int .u64 T, .int .i64 0]) ∧ Ext w w'))
    : Calls Try.prog 9 #[.int .u64 t, .int .u64 s, .int .u64 one, .int .u64 two, .int .u64 x] w fun r w' => r = .returned (.bool true) ∧ Ext w w' := by
  go_enter Try.func9, Try.ntmps9
  subst e1
  go_wp2_with fail
  refine (ShareKnown_any _).mono ?_
  rintro e w1 ⟨rfl, hx1⟩
  have X1 : Hid (Ext w w1) := Lib.hid (Ext.trans (by repeat (first | with_reducible exact Ext.refl w | with_reducible refine Ext.drew ?_ | with_reducible refine Ext.drewN ?_ _ | with_reducible refine Ext.alloc ?_ _ | with_reducible refine Ext.setCell ?_ (by first | omega | (simp; done) | (simp; omega)) _)) hx1)
  clear hx1
  go_wp2_with fail
  refine (C0.out _).mono ?_
  rintro e w2 ⟨rfl, hx2⟩
  have X2 : Hid (Ext w w2) := Lib.hid (Ext.trans (by repeat (first | with_reducible exact X1.out | with_reducible refine Ext.drew ?_ | with_reducible refine Ext.drewN ?_ _ | with_reducible refine Ext.alloc ?_ _ | with_reducible refine Ext.setCell ?_ (by first | omega | (simp; done) | (simp; omega)) _)) hx2)
  clear hx2 X1
  go_wp2_with fail
  refine (C1.out _).mono ?_
  rintro e w3 ⟨rfl, hx3⟩
  have d0 : w3.cell? ⟨w2.heap.size, 0, none⟩ = some (.int .u64 T) := hx3.has (by first | (simp [go_sem]; done) | (simp [go_sem, World.cell?_alloc_past]; done))
  have d1 : w3.cell? ⟨w2.heap.size, 1, none⟩ = some (.int .u64 S) := hx3.has (by first | (simp [go_sem]; done) | (simp [go_sem, World.cell?_alloc_past]; done))
  have z3 := hx3.size
  try simp at z3
  replace r0 : w2.heap.size < w3.heap.size := by omega
  replace r0a : w2.heap.size < w3.heap.size + 1 := by omega
  replace r0b : w2.heap.size < w3.heap.size + 1 + 1 := by omega
  have X3 : Hid (Ext w w3) := Lib.hid (Ext.trans (by repeat (first | with_reducible exact X2.out | with_reducible refine Ext.drew ?_ | with_reducible refine Ext.drewN ?_ _ | with_reducible refine Ext.alloc ?_ _ | with_reducible refine Ext.setCell ?_ (by first | omega | (simp; done) | (simp; omega)) _)) hx3)
  clear hx3 X2 z3
  go_wp2_with fail
  refine (C2.out _).mono ?_
  rintro e w4 ⟨rfl, hx4⟩
  replace d0 : w4.cell? ⟨w2.heap.size, 0, none⟩ = some (.int .u64 T) := hx4.has (by first | exact d0 | (simp [go_sem]; done) | (simp [go_sem, World.cell?_alloc_past, d0, r0, r0a, r0b]; done))
  replace d1 : w4.cell? ⟨w2.heap.size, 1, none⟩ = some (.int .u64 S) := hx4.has (by first | exact d1 | (simp [go_sem]; done) | (simp [go_sem, World.cell?_alloc_past, d1, r0, r0a, r0b]; done))
  have d2 : w4.cell? ⟨w3.heap.size, 0, none⟩ = some (.int .u64 A) := hx4.has (by first | (simp [go_sem]; done) | (simp [go_sem, World.cell?_alloc_past]; done))
  have d3 : w4.cell? ⟨w3.heap.size, 1, none⟩ = some (.int .u64 S) := hx4.has (by first | (simp [go_sem]; done) | (simp [go_sem, World.cell?_alloc_past]; done))
  have z4 := hx4.size
  try simp at z4
  replace r0 : w2.heap.size < w4.heap.size := by omega
  replace r0a : w2.heap.size < w4.heap.size + 1 := by omega
  replace r0b : w2.heap.size < w4.heap.size + 1 + 1 := by omega
  replace r1 : w3.heap.size < w4.heap.size := by omega
  replace r1a : w3.heap.size < w4.heap.size + 1 := by omega
  replace r1b : w3.heap.size < w4.heap.size + 1 + 1 := by omega
  have X4 : Hid (Ext w w4) := Lib.hid (Ext.trans (by repeat (first | with_reducible exact X3.out | with_reducible refine Ext.drew ?_ | with_reducible refine Ext.drewN ?_ _ | with_reducible refine Ext.alloc ?_ _ | with_reducible refine Ext.setCell ?_ (by first | omega | (simp; done) | (simp; omega)) _)) hx4)
  clear hx4 X3 z4
  go_wp2_with fail
  refine (C3.out _).mono ?_
  rintro e w5 ⟨rfl, hx5⟩
  replace d0 : w5.cell? ⟨w2.heap.size, 0, none⟩ = some (.int .u64 T) := hx5.has (by first | exact d0 | (simp [go_sem]; done) | (simp [go_sem, World.cell?_alloc_past, d0, r0, r0a, r0b, r1, r1a, r1b]; done))
  replace d1 : w5.cell? ⟨w2.heap.size, 1, none⟩ = some (.int .u64 S) := hx5.has (by first | exact d1 | (simp [go_sem]; done) | (simp [go_sem, World.cell?_alloc_past, d1, r0, r0a, r0b, r1, r1a, r1b]; done))
  replace d2 : w5.cell? ⟨w3.heap.size, 0, none⟩ = some (.int .u64 A) := hx5.has (by first | exact d2 | (simp [go_sem]; done) | (simp [go_sem, World.cell?_alloc_past, d2, r0, r0a, r0b, r1, r1a, r1b]; done))
  replace d3 : w5.cell? ⟨w3.heap.size, 1, none⟩ = some (.int .u64 S) := hx5.has (by first | exact d3 | (simp [go_sem]; done) | (simp [go_sem, World.cell?_alloc_past, d3, r0, r0a, r0b, r1, r1a, r1b]; done))
  have d4 : w5.cell? ⟨w4.heap.size, 0, none⟩ = some (.int .u64 A2) := hx5.has (by first | (simp [go_sem]; done) | (simp [go_sem, World.cell?_alloc_past]; done))
  have d5 : w5.cell? ⟨w4.heap.size, 1, none⟩ = some (.int .u64 S2) := hx5.has (by first | (simp [go_sem]; done) | (simp [go_sem, World.cell?_alloc_past]; done))
  have z5 := hx5.size
  try simp at z5
  replace r0 : w2.heap.size < w5.heap.size := by omega
  replace r0a : w2.heap.size < w5.heap.size + 1 := by omega
  replace r0b : w2.heap.size < w5.heap.size + 1 + 1 := by omega
  replace r1 : w3.heap.size < w5.heap.size := by omega
  replace r1a : w3.heap.size < w5.heap.size + 1 := by omega
  replace r1b : w3.heap.size < w5.heap.size + 1 + 1 := by omega
  replace r2 : w4.heap.size < w5.heap.size := by omega
  replace r2a : w4.heap.size < w5.heap.size + 1 := by omega
  replace r2b : w4.heap.size < w5.heap.size + 1 + 1 := by omega
  have X5 : Hid (Ext w w5) := Lib.hid (Ext.trans (by repeat (first | with_reducible exact X4.out | with_reducible refine Ext.drew ?_ | with_reducible refine Ext.drewN ?_ _ | with_reducible refine Ext.alloc ?_ _ | with_reducible refine Ext.setCell ?_ (by first | omega | (simp; done) | (simp; omega)) _)) hx5)
  clear hx5 X4 z5
  go_wp2_with fail
  refine (C4.out _).mono ?_
  rintro e w6 ⟨rfl, hx6⟩
  replace d0 : w6.cell? ⟨w2.heap.size, 0, none⟩ = some (.int .u64 T) := hx6.has (by first | exact d0 | (simp [go_sem]; done) | (simp [go_sem, World.cell?_alloc_past, d0, r0, r0a, r0b, r1, r1a, r1b, r2, r2a, r2b]; done))
  replace d1 : w6.cell? ⟨w2.heap.size, 1, none⟩ = some (.int .u64 S) := hx6.has (by first | exact d1 | (simp [go_sem]; done) | (simp [go_sem, World.cell?_alloc_past, d1, r0, r0a, r0b, r1, r1a, r1b, r2, r2a, r2b]; done))
  replace d2 : w6.cell? ⟨w3.heap.size, 0, none⟩ = some (.int .u64 A) := hx6.has (by first | exact d2 | (simp [go_sem]; done) | (simp [go_sem, World.cell?_alloc_past, d2, r0, r0a, r0b, r1, r1a, r1b, r2, r2a, r2b]; done))
  replace d3 : w6.cell? ⟨w3.heap.size, 1, none⟩ = some (.int .u64 S) := hx6.has (by first | exact d3 | (simp [go_sem]; done) | (simp [go_sem, World.cell?_alloc_past, d3, r0, r0a, r0b, r1, r1a, r1b, r2, r2a, r2b]; done))
  replace d4 : w6.cell? ⟨w4.heap.size, 0, none⟩ = some (.int .u64 A2) := hx6.has (by first | exact d4 | (simp [go_sem]; done) | (simp [go_sem, World.cell?_alloc_past, d4, r0, r0a, r0b, r1, r1a, r1b, r2, r2a, r2b]; done))
  replace d5 : w6.cell? ⟨w4.heap.size, 1, none⟩ = some (.int .u64 S2) := hx6.has (by first | exact d5 | (simp [go_sem]; done) | (simp [go_sem, World.cell?_alloc_past, d5, r0, r0a, r0b, r1, r1a, r1b, r2, r2a, r2b]; done))
  have d6 : w6.cell? ⟨w5.heap.size, 0, none⟩ = some (.int .u64 T) := hx6.has (by first | (simp [go_sem]; done) | (simp [go_sem, World.cell?_alloc_past]; done))
  have d7 : w6.cell? ⟨w5.heap.size, 1, none⟩ = some (.int .u64 S) := hx6.has (by first | (simp [go_sem]; done) | (simp [go_sem, World.cell?_alloc_past]; done))
  have z6 := hx6.size
  try simp at z6
  replace r0 : w2.heap.size < w6.heap.size := by omega
  replace r0a : w2.heap.size < w6.heap.size + 1 := by omega
  replace r0b : w2.heap.size < w6.heap.size + 1 + 1 := by omega
  replace r1 : w3.heap.size < w6.heap.size := by omega
  replace r1a : w3.heap.size < w6.heap.size + 1 := by omega
  replace r1b : w3.heap.size < w6.heap.size + 1 + 1 := by omega
  replace r2 : w4.heap.size < w6.heap.size := by omega
  replace r2a : w4.heap.size < w6.heap.size + 1 := by omega
  replace r2b : w4.heap.size < w6.heap.size + 1 + 1 := by omega
  replace r3 : w5.heap.size < w6.heap.size := by omega
  replace r3a : w5.heap.size < w6.heap.size + 1 := by omega
  replace r3b : w5.heap.size < w6.heap.size + 1 + 1 := by omega
  have X6 : Hid (Ext w w6) := Lib.hid (Ext.trans (by repeat (first | with_reducible exact X5.out | with_reducible refine Ext.drew ?_ | with_reducible refine Ext.drewN ?_ _ | with_reducible refine Ext.alloc ?_ _ | with_reducible refine Ext.setCell ?_ (by first | omega | (simp; done) | (simp; omega)) _)) hx6)
  clear hx6 X5 z6
  go_wp2_with fail
  go_region_held3 (fun w' => w'.cell? ⟨w2.heap.size, 0, none⟩ = some (.int .u64 T) ∧ w'.cell? ⟨w2.heap.size, 1, none⟩ = some (.int .u64 S) ∧ w'.cell? ⟨w3.heap.size, 0, none⟩ = some (.int .u64 A) ∧ w'.cell? ⟨w3.heap.size, 1, none⟩ = some (.int .u64 S) ∧ w'.cell? ⟨w4.heap.size, 0, none⟩ = some (.int .u64 A2) ∧ w'.cell? ⟨w4.heap.size, 1, none⟩ = some (.int .u64 S2) ∧ w'.cell? ⟨w5.heap.size, 0, none⟩ = some (.int .u64 T) ∧ w'.cell? ⟨w5.heap.size, 1, none⟩ = some (.int .u64 S) ∧ w'.cell? ⟨w6.heap.size, 0, none⟩ = some (.int .u64 0) ∧ w'.cell? ⟨w6.heap.size, 1, none⟩ = some (.int .u64 0))
    (first | exact ⟨d0, d1, d2, d3, d4, d5, d6, d7, d8, d9⟩ | (simp [go_sem, World.cell?_alloc_past]; done) | (simp [go_sem, World.cell?_alloc_past, d0, d1, d2, d3, d4, d5, d6, d7, r0, r0a, r0b, r1, r1a, r1b, r2, r2a, r2b, r3, r3a, r3b]; done))
    (first
      | (have hst := X10
         clear hst
         go_at_call 56
         refine (gTimes aut ar (X * T) (T - V) (HX.out.mul HT.out).small HTV.out.small _ Gaut.out Gar.out).mono ?_
         rintro e w11 ⟨was, rfl, g11, hx11⟩
         replace d0 : w11.cell? ⟨w2.heap.size, 0, none⟩ = some (.int .u64 T) := hx11.has (by first | exact d0 | (simp [go_sem]; done) | (simp [go_sem, World.cell?_alloc_past, d0, r0, r0a, r0b, r1, r1a, r1b, r2, r2a, r2b, r3, r3a, r3b, r4, r4a, r4b]; done))
         replace d1 : w11.cell? ⟨w2.heap.size, 1, none⟩ = some (.int .u64 S) := hx11.has (by first | exact d1 | (simp [go_sem]; done) | (simp [go_sem, World.cell?_alloc_past, d1, r0, r0a, r0b, r1, r1a, r1b, r2, r2a, r2b, r3, r3a, r3b, r4, r4a, r4b]; done))
         replace d2 : w11.cell? ⟨w3.heap.size, 0, none⟩ = some (.int .u64 A) := hx11.has (by first | exact d2 | (simp [go_sem]; done) | (simp [go_sem, World.cell?_alloc_past, d2, r0, r0a, r0b, r1, r1a, r1b, r2, r2a, r2b, r3, r3a, r3b, r4, r4a, r4b]; done))
         replace d3 : w11.cell? ⟨w3.heap.size, 1, none⟩ = some (.int .u64 S) := hx11.has (by first | exact d3 | (simp [go_sem]; done) | (simp [go_sem, World.cell?_alloc_past, d3, r0, r0a, r0b, r1, r1a, r1b, r2, r2a, r2b, r3, r3a, r3b, r4, r4a, r4b]; done))
         replace d4 : w11.cell? ⟨w4.heap.size, 0, none⟩ = some (.int .u64 A2) := hx11.has (by first | exact d4 | (simp [go_sem]; done) | (simp [go_sem, World.cell?_alloc_past, d4, r0, r0a, r0b, r1, r1a, r1b, r2, r2a, r2b, r3, r3a, r3b, r4, r4a, r4b]; done))
         replace d5 : w11.cell? ⟨w4.heap.size, 1, none⟩ = some (.int .u64 S2) := hx11.has (by first | exact d5 | (simp [go_sem]; done) | (simp [go_sem, World.cell?_alloc_past, d5, r0, r0a, r0b, r1, r1a, r1b, r2, r2a, r2b, r3, r3a, r3b, r4, r4a, r4b]; done))
         replace d6 : w11.cell? ⟨w5.heap.size, 0, none⟩ = some (.int .u64 T) := hx11.has (by first | exact d6 | (simp [go_sem]; done) | (simp [go_sem, World.cell?_alloc_past, d6, r0, r0a, r0b, r1, r1a, r1b, r2, r2a, r2b, r3, r3a, r3b, r4, r4a, r4b]; done))
         replace d7 : w11.cell? ⟨w5.heap.size, 1, none⟩ = some (.int .u64 S) := hx11.has (by first | exact d7 | (simp [go_sem]; done) | (simp [go_sem, World.cell?_alloc_past, d7, r0, r0a, r0b, r1, r1a, r1b, r2, r2a, r2b, r3, r3a, r3b, r4, r4a, r4b]; done))
         replace d8 : w11.cell? ⟨w6.heap.size, 0, none⟩ = some (.int .u64 0) := hx11.has (by first | exact d8 | (simp [go_sem]; done) | (simp [go_sem, World.cell?_alloc_past, d8, r0, r0a, r0b, r1, r1a, r1b, r2, r2a, r2b, r3, r3a, r3b, r4, r4a, r4b]; done))
         replace d9 : w11.cell? ⟨w6.heap.size, 1, none⟩ = some (.int .u64 0) := hx11.has (by first | exact d9 | (simp [go_sem]; done) | (simp [go_sem, World.cell?_alloc_past, d9, r0, r0a, r0b, r1, r1a, r1b, r2, r2a, r2b, r3, r3a, r3b, r4, r4a, r4b]; done))
         have z11 := hx11.size
         try simp at z11
         replace r0 : w2.heap.size < w11.heap.size := by omega
         replace r0a : w2.heap.size < w11.heap.size + 1 := by omega
         replace r0b : w2.heap.size < w11.heap.size + 1 + 1 := by omega
         replace r1 : w3.heap.size < w11.heap.size := by omega
         replace r1a : w3.heap.size < w11.heap.size + 1 := by omega
         replace r1b : w3.heap.size < w11.heap.size + 1 + 1 := by omega
         replace r2 : w4.heap.size < w11.heap.size := by omega
         replace r2a : w4.heap.size < w11.heap.size + 1 := by omega
         replace r2b : w4.heap.size < w11.heap.size + 1 + 1 := by omega
         replace r3 : w5.heap.size < w11.heap.size := by omega
         replace r3a : w5.heap.size < w11.heap.size + 1 := by omega
         replace r3b : w5.heap.size < w11.heap.size + 1 + 1 := by omega
         replace r4 : w6.heap.size < w11.heap.size := by omega
         replace r4a : w6.heap.size < w11.heap.size + 1 := by omega
         replace r4b : w6.heap.size < w11.heap.size + 1 + 1 := by omega
         have X11 : Hid (Ext w w11) := Lib.hid (Ext.trans (by repeat (first | with_reducible exact X10.out | with_reducible refine Ext.drew ?_ | with_reducible refine Ext.drewN ?_ _ | with_reducible refine Ext.alloc ?_ _ | with_reducible refine Ext.setCell ?_ (by first | omega | (simp; done) | (simp; omega)) _)) hx11)
         have Gwas := Lib.hid g11
         clear hx11 Gaut Gar X10 g11 z11)
      | (have hst := X9
         clear hst
         go_at_call 57
         refine (gGreatW (T - V) HTV.out _).mono ?_
         rintro e w10 ⟨ar, rfl, g10, hx10⟩
         replace d0 : w10.cell? ⟨w2.heap.size, 0, none⟩ = some (.int .u64 T) := hx10.has (by first | exact d0 | (simp [go_sem]; done) | (simp [go_sem, World.cell?_alloc_past, d0, r0, r0a, r0b, r1, r1a, r1b, r2, r2a, r2b, r3, r3a, r3b, r4, r4a, r4b]; done))
         replace d1 : w10.cell? ⟨w2.heap.size, 1, none⟩ = some (.int .u64 S) := hx10.has (by first | exact d1 | (simp [go_sem]; done) | (simp [go_sem, World.cell?_alloc_past, d1, r0, r0a, r0b, r1, r1a, r1b, r2, r2a, r2b, r3, r3a, r3b, r4, r4a, r4b]; done))
         replace d2 : w10.cell? ⟨w3.heap.size, 0, none⟩ = some (.int .u64 A) := hx10.has (by first | exact d2 | (simp [go_sem]; done) | (simp [go_sem, World.cell?_alloc_past, d2, r0, r0a, r0b, r1, r1a, r1b, r2, r2a, r2b, r3, r3a, r3b, r4, r4a, r4b]; done))
         replace d3 : w10.cell? ⟨w3.heap.size, 1, none⟩ = some (.int .u64 S) := hx10.has (by first | exact d3 | (simp [go_sem]; done) | (simp [go_sem, World.cell?_alloc_past, d3, r0, r0a, r0b, r1, r1a, r1b, r2, r2a, r2b, r3, r3a, r3b, r4, r4a, r4b]; done))
         replace d4 : w10.cell? ⟨w4.heap.size, 0, none⟩ = some (.int .u64 A2) := hx10.has (by first | exact d4 | (simp [go_sem]; done) | (simp [go_sem, World.cell?_alloc_past, d4, r0, r0a, r0b, r1, r1a, r1b, r2, r2a, r2b, r3, r3a, r3b, r4, r4a, r4b]; done))
         replace d5 : w10.cell? ⟨w4.heap.size, 1, none⟩ = some (.int .u64 S2) := hx10.has (by first | exact d5 | (simp [go_sem]; done) | (simp [go_sem, World.cell?_alloc_past, d5, r0, r0a, r0b, r1, r1a, r1b, r2, r2a, r2b, r3, r3a, r3b, r4, r4a, r4b]; done))
         replace d6 : w10.cell? ⟨w5.heap.size, 0, none⟩ = some (.int .u64 T) := hx10.has (by first | exact d6 | (simp [go_sem]; done) | (simp [go_sem, World.cell?_alloc_past, d6, r0, r0a, r0b, r1, r1a, r1b, r2, r2a, r2b, r3, r3a, r3b, r4, r4a, r4b]; done))
         replace d7 : w10.cell? ⟨w5.heap.size, 1, none⟩ = some (.int .u64 S) := hx10.has (by first | exact d7 | (simp [go_sem]; done) | (simp [go_sem, World.cell?_alloc_past, d7, r0, r0a, r0b, r1, r1a, r1b, r2, r2a, r2b, r3, r3a, r3b, r4, r4a, r4b]; done))
         replace d8 : w10.cell? ⟨w6.heap.size, 0, none⟩ = some (.int .u64 0) := hx10.has (by first | exact d8 | (simp [go_sem]; done) | (simp [go_sem, World.cell?_alloc_past, d8, r0, r0a, r0b, r1, r1a, r1b, r2, r2a, r2b, r3, r3a, r3b, r4, r4a, r4b]; done))
         replace d9 : w10.cell? ⟨w6.heap.size, 1, none⟩ = some (.int .u64 0) := hx10.has (by first | exact d9 | (simp [go_sem]; done) | (simp [go_sem, World.cell?_alloc_past, d9, r0, r0a, r0b, r1, r1a, r1b, r2, r2a, r2b, r3, r3a, r3b, r4, r4a, r4b]; done))
         have z10 := hx10.size
         try simp at z10
         replace r0 : w2.heap.size < w10.heap.size := by omega
         replace r0a : w2.heap.size < w10.heap.size + 1 := by omega
         replace r0b : w2.heap.size < w10.heap.size + 1 + 1 := by omega
         replace r1 : w3.heap.size < w10.heap.size := by omega
         replace r1a : w3.heap.size < w10.heap.size + 1 := by omega
         replace r1b : w3.heap.size < w10.heap.size + 1 + 1 := by omega
         replace r2 : w4.heap.size < w10.heap.size := by omega
         replace r2a : w4.heap.size < w10.heap.size + 1 := by omega
         replace r2b : w4.heap.size < w10.heap.size + 1 + 1 := by omega
         replace r3 : w5.heap.size < w10.heap.size := by omega
         replace r3a : w5.heap.size < w10.heap.size + 1 := by omega
         replace r3b : w5.heap.size < w10.heap.size + 1 + 1 := by omega
         replace r4 : w6.heap.size < w10.heap.size := by omega
         replace r4a : w6.heap.size < w10.heap.size + 1 := by omega
         replace r4b : w6.heap.size < w10.heap.size + 1 + 1 := by omega
         replace Gaut := Lib.hid (Gaut.out.ext (Ext.trans (by repeat (first | with_reducible exact Ext.refl _ | with_reducible refine Ext.drew ?_ | with_reducible refine Ext.drewN ?_ _ | with_reducible refine Ext.alloc ?_ _ | with_reducible refine Ext.setCell ?_ (by first | omega | (simp; done) | (simp; omega)) _)) hx10))
         have X10 : Hid (Ext w w10) := Lib.hid (Ext.trans (by repeat (first | with_reducible exact X9.out | with_reducible refine Ext.drew ?_ | with_reducible refine Ext.drewN ?_ _ | with_reducible refine Ext.alloc ?_ _ | with_reducible refine Ext.setCell ?_ (by first | omega | (simp; done) | (simp; omega)) _)) hx10)
         have Gar := Lib.hid g10
         clear hx10 X9 g10 z10)
      | (have hst := X8
         clear hst
         go_at_call 56
         refine (gTimes au ak (X) (T) HX.out.small HT.out.small _ Gau.out Gak.out).mono ?_
         rintro e w9 ⟨aut, rfl, g9, hx9⟩
         replace d0 : w9.cell? ⟨w2.heap.size, 0, none⟩ = some (.int .u64 T) := hx9.has (by first | exact d0 | (simp [go_sem]; done) | (simp [go_sem, World.cell?_alloc_past, d0, r0, r0a, r0b, r1, r1a, r1b, r2, r2a, r2b, r3, r3a, r3b, r4, r4a, r4b]; done))
         replace d1 : w9.cell? ⟨w2.heap.size, 1, none⟩ = some (.int .u64 S) := hx9.has (by first | exact d1 | (simp [go_sem]; done) | (simp [go_sem, World.cell?_alloc_past, d1, r0, r0a, r0b, r1, r1a, r1b, r2, r2a, r2b, r3, r3a, r3b, r4, r4a, r4b]; done))
         replace d2 : w9.cell? ⟨w3.heap.size, 0, none⟩ = some (.int .u64 A) := hx9.has (by first | exact d2 | (simp [go_sem]; done) | (simp [go_sem, World.cell?_alloc_past, d2, r0, r0a, r0b, r1, r1a, r1b, r2, r2a, r2b, r3, r3a, r3b, r4, r4a, r4b]; done))
         replace d3 : w9.cell? ⟨w3.heap.size, 1, none⟩ = some (.int .u64 S) := hx9.has (by first | exact d3 | (simp [go_sem]; done) | (simp [go_sem, World.cell?_alloc_past, d3, r0, r0a, r0b, r1, r1a, r1b, r2, r2a, r2b, r3, r3a, r3b, r4, r4a, r4b]; done))
         replace d4 : w9.cell? ⟨w4.heap.size, 0, none⟩ = some (.int .u64 A2) := hx9.has (by first | exact d4 | (simp [go_sem]; done) | (simp [go_sem, World.cell?_alloc_past, d4, r0, r0a, r0b, r1, r1a, r1b, r2, r2a, r2b, r3, r3a, r3b, r4, r4a, r4b]; done))
         replace d5 : w9.cell? ⟨w4.heap.size, 1, none⟩ = some (.int .u64 S2) := hx9.has (by first | exact d5 | (simp [go_sem]; done) | (simp [go_sem, World.cell?_alloc_past, d5, r0, r0a, r0b, r1, r1a, r1b, r2, r2a, r2b, r3, r3a, r3b, r4, r4a, r4b]; done))
         replace d6 : w9.cell? ⟨w5.heap.size, 0, none⟩ = some (.int .u64 T) := hx9.has (by first | exact d6 | (simp [go_sem]; done) | (simp [go_sem, World.cell?_alloc_past, d6, r0, r0a, r0b, r1, r1a, r1b, r2, r2a, r2b, r3, r3a, r3b, r4, r4a, r4b]; done))
         replace d7 : w9.cell? ⟨w5.heap.size, 1, none⟩ = some (.int .u64 S) := hx9.has (by first | exact d7 | (simp [go_sem]; done) | (simp [go_sem, World.cell?_alloc_past, d7, r0, r0a, r0b, r1, r1a, r1b, r2, r2a, r2b, r3, r3a, r3b, r4, r4a, r4b]; done))
         replace d8 : w9.cell? ⟨w6.heap.size, 0, none⟩ = some (.int .u64 0) := hx9.has (by first | exact d8 | (simp [go_sem]; done) | (simp [go_sem, World.cell?_alloc_past, d8, r0, r0a, r0b, r1, r1a, r1b, r2, r2a, r2b, r3, r3a, r3b, r4, r4a, r4b]; done))
         replace d9 : w9.cell? ⟨w6.heap.size, 1, none⟩ = some (.int .u64 0) := hx9.has (by first | exact d9 | (simp [go_sem]; done) | (simp [go_sem, World.cell?_alloc_past, d9, r0, r0a, r0b, r1, r1a, r1b, r2, r2a, r2b, r3, r3a, r3b, r4, r4a, r4b]; done))
         have z9 := hx9.size
         try simp at z9
         replace r0 : w2.heap.size < w9.heap.size := by omega
         replace r0a : w2.heap.size < w9.heap.size + 1 := by omega
         replace r0b : w2.heap.size < w9.heap.size + 1 + 1 := by omega
         replace r1 : w3.heap.size < w9.heap.size := by omega
         replace r1a : w3.heap.size < w9.heap.size + 1 := by omega
         replace r1b : w3.heap.size < w9.heap.size + 1 + 1 := by omega
         replace r2 : w4.heap.size < w9.heap.size := by omega
         replace r2a : w4.heap.size < w9.heap.size + 1 := by omega
         replace r2b : w4.heap.size < w9.heap.size + 1 + 1 := by omega
         replace r3 : w5.heap.size < w9.heap.size := by omega
         replace r3a : w5.heap.size < w9.heap.size + 1 := by omega
         replace r3b : w5.heap.size < w9.heap.size + 1 + 1 := by omega
         replace r4 : w6.heap.size < w9.heap.size := by omega
         replace r4a : w6.heap.size < w9.heap.size + 1 := by omega
         replace r4b : w6.heap.size < w9.heap.size + 1 + 1 := by omega
         have X9 : Hid (Ext w w9) := Lib.hid (Ext.trans (by repeat (first | with_reducible exact X8.out | with_reducible refine Ext.drew ?_ | with_reducible refine Ext.drewN ?_ _ | with_reducible refine Ext.alloc ?_ _ | with_reducible refine Ext.setCell ?_ (by first | omega | (simp; done) | (simp; omega)) _)) hx9)
         have Gaut := Lib.hid g9
         clear hx9 Gau Gak X8 g9 z9)
      | (have hst := X7
         clear hst
         go_at_call 57
         refine (gGreat T HT.out _).mono ?_
         rintro e w8 ⟨ak, rfl, g8, hx8⟩
         replace d0 : w8.cell? ⟨w2.heap.size, 0, none⟩ = some (.int .u64 T) := hx8.has (by first | exact d0 | (simp [go_sem]; done) | (simp [go_sem, World.cell?_alloc_past, d0, r0, r0a, r0b, r1, r1a, r1b, r2, r2a, r2b, r3, r3a, r3b, r4, r4a, r4b]; done))
         replace d1 : w8.cell? ⟨w2.heap.size, 1, none⟩ = some (.int .u64 S) := hx8.has (by first | exact d1 | (simp [go_sem]; done) | (simp [go_sem, World.cell?_alloc_past, d1, r0, r0a, r0b, r1, r1a, r1b, r2, r2a, r2b, r3, r3a, r3b, r4, r4a, r4b]; done))
         replace d2 : w8.cell? ⟨w3.heap.size, 0, none⟩ = some (.int .u64 A) := hx8.has (by first | exact d2 | (simp [go_sem]; done) | (simp [go_sem, World.cell?_alloc_past, d2, r0, r0a, r0b, r1, r1a, r1b, r2, r2a, r2b, r3, r3a, r3b, r4, r4a, r4b]; done))
         replace d3 : w8.cell? ⟨w3.heap.size, 1, none⟩ = some (.int .u64 S) := hx8.has (by first | exact d3 | (simp [go_sem]; done) | (simp [go_sem, World.cell?_alloc_past, d3, r0, r0a, r0b, r1, r1a, r1b, r2, r2a, r2b, r3, r3a, r3b, r4, r4a, r4b]; done))
         replace d4 : w8.cell? ⟨w4.heap.size, 0, none⟩ = some (.int .u64 A2) := hx8.has (by first | exact d4 | (simp [go_sem]; done) | (simp [go_sem, World.cell?_alloc_past, d4, r0, r0a, r0b, r1, r1a, r1b, r2, r2a, r2b, r3, r3a, r3b, r4, r4a, r4b]; done))
         replace d5 : w8.cell? ⟨w4.heap.size, 1, none⟩ = some (.int .u64 S2) := hx8.has (by first | exact d5 | (simp [go_sem]; done) | (simp [go_sem, World.cell?_alloc_past, d5, r0, r0a, r0b, r1, r1a, r1b, r2, r2a, r2b, r3, r3a, r3b, r4, r4a, r4b]; done))
         replace d6 : w8.cell? ⟨w5.heap.size, 0, none⟩ = some (.int .u64 T) := hx8.has (by first | exact d6 | (simp [go_sem]; done) | (simp [go_sem, World.cell?_alloc_past, d6, r0, r0a, r0b, r1, r1a, r1b, r2, r2a, r2b, r3, r3a, r3b, r4, r4a, r4b]; done))
         replace d7 : w8.cell? ⟨w5.heap.size, 1, none⟩ = some (.int .u64 S) := hx8.has (by first | exact d7 | (simp [go_sem]; done) | (simp [go_sem, World.cell?_alloc_past, d7, r0, r0a, r0b, r1, r1a, r1b, r2, r2a, r2b, r3, r3a, r3b, r4, r4a, r4b]; done))
         replace d8 : w8.cell? ⟨w6.heap.size, 0, none⟩ = some (.int .u64 0) := hx8.has (by first | exact d8 | (simp [go_sem]; done) | (simp [go_sem, World.cell?_alloc_past, d8, r0, r0a, r0b, r1, r1a, r1b, r2, r2a, r2b, r3, r3a, r3b, r4, r4a, r4b]; done))
         replace d9 : w8.cell? ⟨w6.heap.size, 1, none⟩ = some (.int .u64 0) := hx8.has (by first | exact d9 | (simp [go_sem]; done) | (simp [go_sem, World.cell?_alloc_past, d9, r0, r0a, r0b, r1, r1a, r1b, r2, r2a, r2b, r3, r3a, r3b, r4, r4a, r4b]; done))
         have z8 := hx8.size
         try simp at z8
         replace r0 : w2.heap.size < w8.heap.size := by omega
         replace r0a : w2.heap.size < w8.heap.size + 1 := by omega
         replace r0b : w2.heap.size < w8.heap.size + 1 + 1 := by omega
         replace r1 : w3.heap.size < w8.heap.size := by omega
         replace r1a : w3.heap.size < w8.heap.size + 1 := by omega
         replace r1b : w3.heap.size < w8.heap.size + 1 + 1 := by omega
         replace r2 : w4.heap.size < w8.heap.size := by omega
         replace r2a : w4.heap.size < w8.heap.size + 1 := by omega
         replace r2b : w4.heap.size < w8.heap.size + 1 + 1 := by omega
         replace r3 : w5.heap.size < w8.heap.size := by omega
         replace r3a : w5.heap.size < w8.heap.size + 1 := by omega
         replace r3b : w5.heap.size < w8.heap.size + 1 + 1 := by omega
         replace r4 : w6.heap.size < w8.heap.size := by omega
         replace r4a : w6.heap.size < w8.heap.size + 1 := by omega
         replace r4b : w6.heap.size < w8.heap.size + 1 + 1 := by omega
         replace Gau := Lib.hid (Gau.out.ext (Ext.trans (by repeat (first | with_reducible exact Ext.refl _ | with_reducible refine Ext.drew ?_ | with_reducible refine Ext.drewN ?_ _ | with_reducible refine Ext.alloc ?_ _ | with_reducible refine Ext.setCell ?_ (by first | omega | (simp; done) | (simp; omega)) _)) hx8))
         have X8 : Hid (Ext w w8) := Lib.hid (Ext.trans (by repeat (first | with_reducible exact X7.out | with_reducible refine Ext.drew ?_ | with_reducible refine Ext.drewN ?_ _ | with_reducible refine Ext.alloc ?_ _ | with_reducible refine Ext.setCell ?_ (by first | omega | (simp; done) | (simp; omega)) _)) hx8)
         have Gak := Lib.hid g8
         clear hx8 X7 g8 z8)
      | (have hst := X6
         clear hst
         go_at_call 57
         refine (gGreat X HX.out _).mono ?_
         rintro e w7 ⟨au, rfl, g7, hx7⟩
         replace d0 : w7.cell? ⟨w2.heap.size, 0, none⟩ = some (.int .u64 T) := hx7.has (by first | exact d0 | (simp [go_sem]; done) | (simp [go_sem, World.cell?_alloc_past, d0, r0, r0a, r0b, r1, r1a, r1b, r2, r2a, r2b, r3, r3a, r3b]; done))
         replace d1 : w7.cell? ⟨w2.heap.size, 1, none⟩ = some (.int .u64 S) := hx7.has (by first | exact d1 | (simp [go_sem]; done) | (simp [go_sem, World.cell?_alloc_past, d1, r0, r0a, r0b, r1, r1a, r1b, r2, r2a, r2b, r3, r3a, r3b]; done))
         replace d2 : w7.cell? ⟨w3.heap.size, 0, none⟩ = some (.int .u64 A) := hx7.has (by first | exact d2 | (simp [go_sem]; done) | (simp [go_sem, World.cell?_alloc_past, d2, r0, r0a, r0b, r1, r1a, r1b, r2, r2a, r2b, r3, r3a, r3b]; done))
         replace d3 : w7.cell? ⟨w3.heap.size, 1, none⟩ = some (.int .u64 S) := hx7.has (by first | exact d3 | (simp [go_sem]; done) | (simp [go_sem, World.cell?_alloc_past, d3, r0, r0a, r0b, r1, r1a, r1b, r2, r2a, r2b, r3, r3a, r3b]; done))
         replace d4 : w7.cell? ⟨w4.heap.size, 0, none⟩ = some (.int .u64 A2) := hx7.has (by first | exact d4 | (simp [go_sem]; done) | (simp [go_sem, World.cell?_alloc_past, d4, r0, r0a, r0b, r1, r1a, r1b, r2, r2a, r2b, r3, r3a, r3b]; done))
         replace d5 : w7.cell? ⟨w4.heap.size, 1, none⟩ = some (.int .u64 S2) := hx7.has (by first | exact d5 | (simp [go_sem]; done) | (simp [go_sem, World.cell?_alloc_past, d5, r0, r0a, r0b, r1, r1a, r1b, r2, r2a, r2b, r3, r3a, r3b]; done))
         replace d6 : w7.cell? ⟨w5.heap.size, 0, none⟩ = some (.int .u64 T) := hx7.has (by first | exact d6 | (simp [go_sem]; done) | (simp [go_sem, World.cell?_alloc_past, d6, r0, r0a, r0b, r1, r1a, r1b, r2, r2a, r2b, r3, r3a, r3b]; done))
         replace d7 : w7.cell? ⟨w5.heap.size, 1, none⟩ = some (.int .u64 S) := hx7.has (by first | exact d7 | (simp [go_sem]; done) | (simp [go_sem, World.cell?_alloc_past, d7, r0, r0a, r0b, r1, r1a, r1b, r2, r2a, r2b, r3, r3a, r3b]; done))
         have d8 : w7.cell? ⟨w6.heap.size, 0, none⟩ = some (.int .u64 0) := hx7.has (by first | (simp [go_sem]; done) | (simp [go_sem, World.cell?_alloc_past]; done))
         have d9 : w7.cell? ⟨w6.heap.size, 1, none⟩ = some (.int .u64 0) := hx7.has (by first | (simp [go_sem]; done) | (simp [go_sem, World.cell?_alloc_past]; done))
         have z7 := hx7.size
         try simp at z7
         replace r0 : w2.heap.size < w7.heap.size := by omega
         replace r0a : w2.heap.size < w7.heap.size + 1 := by omega
         replace r0b : w2.heap.size < w7.heap.size + 1 + 1 := by omega
         replace r1 : w3.heap.size < w7.heap.size := by omega
         replace r1a : w3.heap.size < w7.heap.size + 1 := by omega
         replace r1b : w3.heap.size < w7.heap.size + 1 + 1 := by omega
         replace r2 : w4.heap.size < w7.heap.size := by omega
         replace r2a : w4.heap.size < w7.heap.size + 1 := by omega
         replace r2b : w4.heap.size < w7.heap.size + 1 + 1 := by omega
         replace r3 : w5.heap.size < w7.heap.size := by omega
         replace r3a : w5.heap.size < w7.heap.size + 1 := by omega
         replace r3b : w5.heap.size < w7.heap.size + 1 + 1 := by omega
         replace r4 : w6.heap.size < w7.heap.size := by omega
         replace r4a : w6.heap.size < w7.heap.size + 1 := by omega
         replace r4b : w6.heap.size < w7.heap.size + 1 + 1 := by omega
         have X7 : Hid (Ext w w7) := Lib.hid (Ext.trans (by repeat (first | with_reducible exact X6.out | with_reducible refine Ext.drew ?_ | with_reducible refine Ext.drewN ?_ _ | with_reducible refine Ext.alloc ?_ _ | with_reducible refine Ext.setCell ?_ (by first | omega | (simp; done) | (simp; omega)) _)) hx7)
         have Gau := Lib.hid g7
         clear hx7 X6 g7 z7))
  go_wp2_with fail
  go_region_held3 (fun w' => w'.cell? ⟨w2.heap.size, 0, none⟩ = some (.int .u64 T) ∧ w'.cell? ⟨w2.heap.size, 1, none⟩ = some (.int .u64 S) ∧ w'.cell? ⟨w3.heap.size, 0, none⟩ = some (.int .u64 A) ∧ w'.cell? ⟨w3.heap.size, 1, none⟩ = some (.int .u64 S) ∧ w'.cell? ⟨w4.heap.size, 0, none⟩ = some (.int .u64 A2) ∧ w'.cell? ⟨w4.heap.size, 1, none⟩ = some (.int .u64 S2) ∧ w'.cell? ⟨w5.heap.size, 0, none⟩ = some (.int .u64 T) ∧ w'.cell? ⟨w5.heap.size, 1, none⟩ = some (.int .u64 S) ∧ w'.cell? ⟨w6.heap.size, 0, none⟩ = some (.int .u64 0) ∧ w'.cell? ⟨w6.heap.size, 1, none⟩ = some (.int .u64 0))
    (first | exact ⟨d0, d1, d2, d3, d4, d5, d6, d7, d8, d9⟩ | (simp [go_sem, World.cell?_alloc_past]; done) | (simp [go_sem, World.cell?_alloc_past, d0, d1, d2, d3, d4, d5, d6, d7, d8, d9, r0, r0a, r0b, r1, r1a, r1b, r2, r2a, r2b, r3, r3a, r3b, r4, r4a, r4b]; done))
    (first
      | (have hst := X15
         clear hst
         go_at_call 56
         refine (gTimes but br (X * A) (T) (HX.out.mul HA.out).small HT.out.small _ Gbut.out Gbr.out).mono ?_
         rintro e w16 ⟨now, rfl, g16, hx16⟩
         replace d0 : w16.cell? ⟨w2.heap.size, 0, none⟩ = some (.int .u64 T) := hx16.has (by first | exact d0 | (simp [go_sem]; done) | (simp [go_sem, World.cell?_alloc_past, d0, r0, r0a, r0b, r1, r1a, r1b, r2, r2a, r2b, r3, r3a, r3b, r4, r4a, r4b]; done))
         replace d1 : w16.cell? ⟨w2.heap.size, 1, none⟩ = some (.int .u64 S) := hx16.has (by first | exact d1 | (simp [go_sem]; done) | (simp [go_sem, World.cell?_alloc_past, d1, r0, r0a, r0b, r1, r1a, r1b, r2, r2a, r2b, r3, r3a, r3b, r4, r4a, r4b]; done))
         replace d2 : w16.cell? ⟨w3.heap.size, 0, none⟩ = some (.int .u64 A) := hx16.has (by first | exact d2 | (simp [go_sem]; done) | (simp [go_sem, World.cell?_alloc_past, d2, r0, r0a, r0b, r1, r1a, r1b, r2, r2a, r2b, r3, r3a, r3b, r4, r4a, r4b]; done))
         replace d3 : w16.cell? ⟨w3.heap.size, 1, none⟩ = some (.int .u64 S) := hx16.has (by first | exact d3 | (simp [go_sem]; done) | (simp [go_sem, World.cell?_alloc_past, d3, r0, r0a, r0b, r1, r1a, r1b, r2, r2a, r2b, r3, r3a, r3b, r4, r4a, r4b]; done))
         replace d4 : w16.cell? ⟨w4.heap.size, 0, none⟩ = some (.int .u64 A2) := hx16.has (by first | exact d4 | (simp [go_sem]; done) | (simp [go_sem, World.cell?_alloc_past, d4, r0, r0a, r0b, r1, r1a, r1b, r2, r2a, r2b, r3, r3a, r3b, r4, r4a, r4b]; done))
         replace d5 : w16.cell? ⟨w4.heap.size, 1, none⟩ = some (.int .u64 S2) := hx16.has (by first | exact d5 | (simp [go_sem]; done) | (simp [go_sem, World.cell?_alloc_past, d5, r0, r0a, r0b, r1, r1a, r1b, r2, r2a, r2b, r3, r3a, r3b, r4, r4a, r4b]; done))
         replace d6 : w16.cell? ⟨w5.heap.size, 0, none⟩ = some (.int .u64 T) := hx16.has (by first | exact d6 | (simp [go_sem]; done) | (simp [go_sem, World.cell?_alloc_past, d6, r0, r0a, r0b, r1, r1a, r1b, r2, r2a, r2b, r3, r3a, r3b, r4, r4a, r4b]; done))
         replace d7 : w16.cell? ⟨w5.heap.size, 1, none⟩ = some (.int .u64 S) := hx16.has (by first | exact d7 | (simp [go_sem]; done) | (simp [go_sem, World.cell?_alloc_past, d7, r0, r0a, r0b, r1, r1a, r1b, r2, r2a, r2b, r3, r3a, r3b, r4, r4a, r4b]; done))
         replace d8 : w16.cell? ⟨w6.heap.size, 0, none⟩ = some (.int .u64 0) := hx16.has (by first | exact d8 | (simp [go_sem]; done) | (simp [go_sem, World.cell?_alloc_past, d8, r0, r0a, r0b, r1, r1a, r1b, r2, r2a, r2b, r3, r3a, r3b, r4, r4a, r4b]; done))
         replace d9 : w16.cell? ⟨w6.heap.size, 1, none⟩ = some (.int .u64 0) := hx16.has (by first | exact d9 | (simp [go_sem]; done) | (simp [go_sem, World.cell?_alloc_past, d9, r0, r0a, r0b, r1, r1a, r1b, r2, r2a, r2b, r3, r3a, r3b, r4, r4a, r4b]; done))
         have z16 := hx16.size
         try simp at z16
         replace r0 : w2.heap.size < w16.heap.size := by omega
         replace r0a : w2.heap.size < w16.heap.size + 1 := by omega
         replace r0b : w2.heap.size < w16.heap.size + 1 + 1 := by omega
         replace r1 : w3.heap.size < w16.heap.size := by omega
         replace r1a : w3.heap.size < w16.heap.size + 1 := by omega
         replace r1b : w3.heap.size < w16.heap.size + 1 + 1 := by omega
         replace r2 : w4.heap.size < w16.heap.size := by omega
         replace r2a : w4.heap.size < w16.heap.size + 1 := by omega
         replace r2b : w4.heap.size < w16.heap.size + 1 + 1 := by omega
         replace r3 : w5.heap.size < w16.heap.size := by omega
         replace r3a : w5.heap.size < w16.heap.size + 1 := by omega
         replace r3b : w5.heap.size < w16.heap.size + 1 + 1 := by omega
         replace r4 : w6.heap.size < w16.heap.size := by omega
         replace r4a : w6.heap.size < w16.heap.size + 1 := by omega
         replace r4b : w6.heap.size < w16.heap.size + 1 + 1 := by omega
         replace Gwas := Lib.hid (Gwas.out.ext (Ext.trans (by repeat (first | with_reducible exact Ext.refl _ | with_reducible refine Ext.drew ?_ | with_reducible refine Ext.drewN ?_ _ | with_reducible refine Ext.alloc ?_ _ | with_reducible refine Ext.setCell ?_ (by first | omega | (simp; done) | (simp; omega)) _)) hx16))
         have X16 : Hid (Ext w w16) := Lib.hid (Ext.trans (by repeat (first | with_reducible exact X15.out | with_reducible refine Ext.drew ?_ | with_reducible refine Ext.drewN ?_ _ | with_reducible refine Ext.alloc ?_ _ | with_reducible refine Ext.setCell ?_ (by first | omega | (simp; done) | (simp; omega)) _)) hx16)
         have Gnow := Lib.hid g16
         clear hx16 Gbut Gbr X15 g16 z16)
      | (have hst := X14
         clear hst
         go_at_call 57
         refine (gGreat T HT.out _).mono ?_
         rintro e w15 ⟨br, rfl, g15, hx15⟩
         replace d0 : w15.cell? ⟨w2.heap.size, 0, none⟩ = some (.int .u64 T) := hx15.has (by first | exact d0 | (simp [go_sem]; done) | (simp [go_sem, World.cell?_alloc_past, d0, r0, r0a, r0b, r1, r1a, r1b, r2, r2a, r2b, r3, r3a, r3b, r4, r4a, r4b]; done))
         replace d1 : w15.cell? ⟨w2.heap.size, 1, none⟩ = some (.int .u64 S) := hx15.has (by first | exact d1 | (simp [go_sem]; done) | (simp [go_sem, World.cell?_alloc_past, d1, r0, r0a, r0b, r1, r1a, r1b, r2, r2a, r2b, r3, r3a, r3b, r4, r4a, r4b]; done))
         replace d2 : w15.cell? ⟨w3.heap.size, 0, none⟩ = some (.int .u64 A) := hx15.has (by first | exact d2 | (simp [go_sem]; done) | (simp [go_sem, World.cell?_alloc_past, d2, r0, r0a, r0b, r1, r1a, r1b, r2, r2a, r2b, r3, r3a, r3b, r4, r4a, r4b]; done))
         replace d3 : w15.cell? ⟨w3.heap.size, 1, none⟩ = some (.int .u64 S) := hx15.has (by first | exact d3 | (simp [go_sem]; done) | (simp [go_sem, World.cell?_alloc_past, d3, r0, r0a, r0b, r1, r1a, r1b, r2, r2a, r2b, r3, r3a, r3b, r4, r4a, r4b]; done))
         replace d4 : w15.cell? ⟨w4.heap.size, 0, none⟩ = some (.int .u64 A2) := hx15.has (by first | exact d4 | (simp [go_sem]; done) | (simp [go_sem, World.cell?_alloc_past, d4, r0, r0a, r0b, r1, r1a, r1b, r2, r2a, r2b, r3, r3a, r3b, r4, r4a, r4b]; done))
         replace d5 : w15.cell? ⟨w4.heap.size, 1, none⟩ = some (.int .u64 S2) := hx15.has (by first | exact d5 | (simp [go_sem]; done) | (simp [go_sem, World.cell?_alloc_past, d5, r0, r0a, r0b, r1, r1a, r1b, r2, r2a, r2b, r3, r3a, r3b, r4, r4a, r4b]; done))
         replace d6 : w15.cell? ⟨w5.heap.size, 0, none⟩ = some (.int .u64 T) := hx15.has (by first | exact d6 | (simp [go_sem]; done) | (simp [go_sem, World.cell?_alloc_past, d6, r0, r0a, r0b, r1, r1a, r1b, r2, r2a, r2b, r3, r3a, r3b, r4, r4a, r4b]; done))
         replace d7 : w15.cell? ⟨w5.heap.size, 1, none⟩ = some (.int .u64 S) := hx15.has (by first | exact d7 | (simp [go_sem]; done) | (simp [go_sem, World.cell?_alloc_past, d7, r0, r0a, r0b, r1, r1a, r1b, r2, r2a, r2b, r3, r3a, r3b, r4, r4a, r4b]; done))
         replace d8 : w15.cell? ⟨w6.heap.size, 0, none⟩ = some (.int .u64 0) := hx15.has (by first | exact d8 | (simp [go_sem]; done) | (simp [go_sem, World.cell?_alloc_past, d8, r0, r0a, r0b, r1, r1a, r1b, r2, r2a, r2b, r3, r3a, r3b, r4, r4a, r4b]; done))
         replace d9 : w15.cell? ⟨w6.heap.size, 1, none⟩ = some (.int .u64 0) := hx15.has (by first | exact d9 | (simp [go_sem]; done) | (simp [go_sem, World.cell?_alloc_past, d9, r0, r0a, r0b, r1, r1a, r1b, r2, r2a, r2b, r3, r3a, r3b, r4, r4a, r4b]; done))
         have z15 := hx15.size
         try simp at z15
         replace r0 : w2.heap.size < w15.heap.size := by omega
         replace r0a : w2.heap.size < w15.heap.size + 1 := by omega
         replace r0b : w2.heap.size < w15.heap.size + 1 + 1 := by omega
         replace r1 : w3.heap.size < w15.heap.size := by omega
         replace r1a : w3.heap.size < w15.heap.size + 1 := by omega
         replace r1b : w3.heap.size < w15.heap.size + 1 + 1 := by omega
         replace r2 : w4.heap.size < w15.heap.size := by omega
         replace r2a : w4.heap.size < w15.heap.size + 1 := by omega
         replace r2b : w4.heap.size < w15.heap.size + 1 + 1 := by omega
         replace r3 : w5.heap.size < w15.heap.size := by omega
         replace r3a : w5.heap.size < w15.heap.size + 1 := by omega
         replace r3b : w5.heap.size < w15.heap.size + 1 + 1 := by omega
         replace r4 : w6.heap.size < w15.heap.size := by omega
         replace r4a : w6.heap.size < w15.heap.size + 1 := by omega
         replace r4b : w6.heap.size < w15.heap.size + 1 + 1 := by omega
         replace Gwas := Lib.hid (Gwas.out.ext (Ext.trans (by repeat (first | with_reducible exact Ext.refl _ | with_reducible refine Ext.drew ?_ | with_reducible refine Ext.drewN ?_ _ | with_reducible refine Ext.alloc ?_ _ | with_reducible refine Ext.setCell ?_ (by first | omega | (simp; done) | (simp; omega)) _)) hx15))
         replace Gbut := Lib.hid (Gbut.out.ext (Ext.trans (by repeat (first | with_reducible exact Ext.refl _ | with_reducible refine Ext.drew ?_ | with_reducible refine Ext.drewN ?_ _ | with_reducible refine Ext.alloc ?_ _ | with_reducible refine Ext.setCell ?_ (by first | omega | (simp; done) | (simp; omega)) _)) hx15))
         have X15 : Hid (Ext w w15) := Lib.hid (Ext.trans (by repeat (first | with_reducible exact X14.out | with_reducible refine Ext.drew ?_ | with_reducible refine Ext.drewN ?_ _ | with_reducible refine Ext.alloc ?_ _ | with_reducible refine Ext.setCell ?_ (by first | omega | (simp; done) | (simp; omega)) _)) hx15)
         have Gbr := Lib.hid g15
         clear hx15 X14 g15 z15)
      | (have hst := X13
         clear hst
         go_at_call 56
         refine (gTimes bu bk (X) (A) HX.out.small HA.out.small _ Gbu.out Gbk.out).mono ?_
         rintro e w14 ⟨but, rfl, g14, hx14⟩
         replace d0 : w14.cell? ⟨w2.heap.size, 0, none⟩ = some (.int .u64 T) := hx14.has (by first | exact d0 | (simp [go_sem]; done) | (simp [go_sem, World.cell?_alloc_past, d0, r0, r0a, r0b, r1, r1a, r1b, r2, r2a, r2b, r3, r3a, r3b, r4, r4a, r4b]; done))
         replace d1 : w14.cell? ⟨w2.heap.size, 1, none⟩ = some (.int .u64 S) := hx14.has (by first | exact d1 | (simp [go_sem]; done) | (simp [go_sem, World.cell?_alloc_past, d1, r0, r0a, r0b, r1, r1a, r1b, r2, r2a, r2b, r3, r3a, r3b, r4, r4a, r4b]; done))
         replace d2 : w14.cell? ⟨w3.heap.size, 0, none⟩ = some (.int .u64 A) := hx14.has (by first | exact d2 | (simp [go_sem]; done) | (simp [go_sem, World.cell?_alloc_past, d2, r0, r0a, r0b, r1, r1a, r1b, r2, r2a, r2b, r3, r3a, r3b, r4, r4a, r4b]; done))
         replace d3 : w14.cell? ⟨w3.heap.size, 1, none⟩ = some (.int .u64 S) := hx14.has (by first | exact d3 | (simp [go_sem]; done) | (simp [go_sem, World.cell?_alloc_past, d3, r0, r0a, r0b, r1, r1a, r1b, r2, r2a, r2b, r3, r3a, r3b, r4, r4a, r4b]; done))
         replace d4 : w14.cell? ⟨w4.heap.size, 0, none⟩ = some (.int .u64 A2) := hx14.has (by first | exact d4 | (simp [go_sem]; done) | (simp [go_sem, World.cell?_alloc_past, d4, r0, r0a, r0b, r1, r1a, r1b, r2, r2a, r2b, r3, r3a, r3b, r4, r4a, r4b]; done))
         replace d5 : w14.cell? ⟨w4.heap.size, 1, none⟩ = some (.int .u64 S2) := hx14.has (by first | exact d5 | (simp [go_sem]; done) | (simp [go_sem, World.cell?_alloc_past, d5, r0, r0a, r0b, r1, r1a, r1b, r2, r2a, r2b, r3, r3a, r3b, r4, r4a, r4b]; done))
         replace d6 : w14.cell? ⟨w5.heap.size, 0, none⟩ = some (.int .u64 T) := hx14.has (by first | exact d6 | (simp [go_sem]; done) | (simp [go_sem, World.cell?_alloc_past, d6, r0, r0a, r0b, r1, r1a, r1b, r2, r2a, r2b, r3, r3a, r3b, r4, r4a, r4b]; done))
         replace d7 : w14.cell? ⟨w5.heap.size, 1, none⟩ = some (.int .u64 S) := hx14.has (by first | exact d7 | (simp [go_sem]; done) | (simp [go_sem, World.cell?_alloc_past, d7, r0, r0a, r0b, r1, r1a, r1b, r2, r2a, r2b, r3, r3a, r3b, r4, r4a, r4b]; done))
         replace d8 : w14.cell? ⟨w6.heap.size, 0, none⟩ = some (.int .u64 0) := hx14.has (by first | exact d8 | (simp [go_sem]; done) | (simp [go_sem, World.cell?_alloc_past, d8, r0, r0a, r0b, r1, r1a, r1b, r2, r2a, r2b, r3, r3a, r3b, r4, r4a, r4b]; done))
         replace d9 : w14.cell? ⟨w6.heap.size, 1, none⟩ = some (.int .u64 0) := hx14.has (by first | exact d9 | (simp [go_sem]; done) | (simp [go_sem, World.cell?_alloc_past, d9, r0, r0a, r0b, r1, r1a, r1b, r2, r2a, r2b, r3, r3a, r3b, r4, r4a, r4b]; done))
         have z14 := hx14.size
         try simp at z14
         replace r0 : w2.heap.size < w14.heap.size := by omega
         replace r0a : w2.heap.size < w14.heap.size + 1 := by omega
         replace r0b : w2.heap.size < w14.heap.size + 1 + 1 := by omega
         replace r1 : w3.heap.size < w14.heap.size := by omega
         replace r1a : w3.heap.size < w14.heap.size + 1 := by omega
         replace r1b : w3.heap.size < w14.heap.size + 1 + 1 := by omega
         replace r2 : w4.heap.size < w14.heap.size := by omega
         replace r2a : w4.heap.size < w14.heap.size + 1 := by omega
         replace r2b : w4.heap.size < w14.heap.size + 1 + 1 := by omega
         replace r3 : w5.heap.size < w14.heap.size := by omega
         replace r3a : w5.heap.size < w14.heap.size + 1 := by omega
         replace r3b : w5.heap.size < w14.heap.size + 1 + 1 := by omega
         replace r4 : w6.heap.size < w14.heap.size := by omega
         replace r4a : w6.heap.size < w14.heap.size + 1 := by omega
         replace r4b : w6.heap.size < w14.heap.size + 1 + 1 := by omega
         replace Gwas := Lib.hid (Gwas.out.ext (Ext.trans (by repeat (first | with_reducible exact Ext.refl _ | with_reducible refine Ext.drew ?_ | with_reducible refine Ext.drewN ?_ _ | with_reducible refine Ext.alloc ?_ _ | with_reducible refine Ext.setCell ?_ (by first | omega | (simp; done) | (simp; omega)) _)) hx14))
         have X14 : Hid (Ext w w14) := Lib.hid (Ext.trans (by repeat (first | with_reducible exact X13.out | with_reducible refine Ext.drew ?_ | with_reducible refine Ext.drewN ?_ _ | with_reducible refine Ext.alloc ?_ _ | with_reducible refine Ext.setCell ?_ (by first | omega | (simp; done) | (simp; omega)) _)) hx14)
         have Gbut := Lib.hid g14
         clear hx14 Gbu Gbk X13 g14 z14)
      | (have hst := X12
         clear hst
         go_at_call 57
         refine (gGreat A HA.out _).mono ?_
         rintro e w13 ⟨bk, rfl, g13, hx13⟩
         replace d0 : w13.cell? ⟨w2.heap.size, 0, none⟩ = some (.int .u64 T) := hx13.has (by first | exact d0 | (simp [go_sem]; done) | (simp [go_sem, World.cell?_alloc_past, d0, r0, r0a, r0b, r1, r1a, r1b, r2, r2a, r2b, r3, r3a, r3b, r4, r4a, r4b]; done))
         replace d1 : w13.cell? ⟨w2.heap.size, 1, none⟩ = some (.int .u64 S) := hx13.has (by first | exact d1 | (simp [go_sem]; done) | (simp [go_sem, World.cell?_alloc_past, d1, r0, r0a, r0b, r1, r1a, r1b, r2, r2a, r2b, r3, r3a, r3b, r4, r4a, r4b]; done))
         replace d2 : w13.cell? ⟨w3.heap.size, 0, none⟩ = some (.int .u64 A) := hx13.has (by first | exact d2 | (simp [go_sem]; done) | (simp [go_sem, World.cell?_alloc_past, d2, r0, r0a, r0b, r1, r1a, r1b, r2, r2a, r2b, r3, r3a, r3b, r4, r4a, r4b]; done))
         replace d3 : w13.cell? ⟨w3.heap.size, 1, none⟩ = some (.int .u64 S) := hx13.has (by first | exact d3 | (simp [go_sem]; done) | (simp [go_sem, World.cell?_alloc_past, d3, r0, r0a, r0b, r1, r1a, r1b, r2, r2a, r2b, r3, r3a, r3b, r4, r4a, r4b]; done))
         replace d4 : w13.cell? ⟨w4.heap.size, 0, none⟩ = some (.int .u64 A2) := hx13.has (by first | exact d4 | (simp [go_sem]; done) | (simp [go_sem, World.cell?_alloc_past, d4, r0, r0a, r0b, r1, r1a, r1b, r2, r2a, r2b, r3, r3a, r3b, r4, r4a, r4b]; done))
         replace d5 : w13.cell? ⟨w4.heap.size, 1, none⟩ = some (.int .u64 S2) := hx13.has (by first | exact d5 | (simp [go_sem]; done) | (simp [go_sem, World.cell?_alloc_past, d5, r0, r0a, r0b, r1, r1a, r1b, r2, r2a, r2b, r3, r3a, r3b, r4, r4a, r4b]; done))
         replace d6 : w13.cell? ⟨w5.heap.size, 0, none⟩ = some (.int .u64 T) := hx13.has (by first | exact d6 | (simp [go_sem]; done) | (simp [go_sem, World.cell?_alloc_past, d6, r0, r0a, r0b, r1, r1a, r1b, r2, r2a, r2b, r3, r3a, r3b, r4, r4a, r4b]; done))
         replace d7 : w13.cell? ⟨w5.heap.size, 1, none⟩ = some (.int .u64 S) := hx13.has (by first | exact d7 | (simp [go_sem]; done) | (simp [go_sem, World.cell?_alloc_past, d7, r0, r0a, r0b, r1, r1a, r1b, r2, r2a, r2b, r3, r3a, r3b, r4, r4a, r4b]; done))
         replace d8 : w13.cell? ⟨w6.heap.size, 0, none⟩ = some (.int .u64 0) := hx13.has (by first | exact d8 | (simp [go_sem]; done) | (simp [go_sem, World.cell?_alloc_past, d8, r0, r0a, r0b, r1, r1a, r1b, r2, r2a, r2b, r3, r3a, r3b, r4, r4a, r4b]; done))
         replace d9 : w13.cell? ⟨w6.heap.size, 1, none⟩ = some (.int .u64 0) := hx13.has (by first | exact d9 | (simp [go_sem]; done) | (simp [go_sem, World.cell?_alloc_past, d9, r0, r0a, r0b, r1, r1a, r1b, r2, r2a, r2b, r3, r3a, r3b, r4, r4a, r4b]; done))
         have z13 := hx13.size
         try simp at z13
         replace r0 : w2.heap.size < w13.heap.size := by omega
         replace r0a : w2.heap.size < w13.heap.size + 1 := by omega
         replace r0b : w2.heap.size < w13.heap.size + 1 + 1 := by omega
         replace r1 : w3.heap.size < w13.heap.size := by omega
         replace r1a : w3.heap.size < w13.heap.size + 1 := by omega
         replace r1b : w3.heap.size < w13.heap.size + 1 + 1 := by omega
         replace r2 : w4.heap.size < w13.heap.size := by omega
         replace r2a : w4.heap.size < w13.heap.size + 1 := by omega
         replace r2b : w4.heap.size < w13.heap.size + 1 + 1 := by omega
         replace r3 : w5.heap.size < w13.heap.size := by omega
         replace r3a : w5.heap.size < w13.heap.size + 1 := by omega
         replace r3b : w5.heap.size < w13.heap.size + 1 + 1 := by omega
         replace r4 : w6.heap.size < w13.heap.size := by omega
         replace r4a : w6.heap.size < w13.heap.size + 1 := by omega
         replace r4b : w6.heap.size < w13.heap.size + 1 + 1 := by omega
         replace Gwas := Lib.hid (Gwas.out.ext (Ext.trans (by repeat (first | with_reducible exact Ext.refl _ | with_reducible refine Ext.drew ?_ | with_reducible refine Ext.drewN ?_ _ | with_reducible refine Ext.alloc ?_ _ | with_reducible refine Ext.setCell ?_ (by first | omega | (simp; done) | (simp; omega)) _)) hx13))
         replace Gbu := Lib.hid (Gbu.out.ext (Ext.trans (by repeat (first | with_reducible exact Ext.refl _ | with_reducible refine Ext.drew ?_ | with_reducible refine Ext.drewN ?_ _ | with_reducible refine Ext.alloc ?_ _ | with_reducible refine Ext.setCell ?_ (by first | omega | (simp; done) | (simp; omega)) _)) hx13))
         have X13 : Hid (Ext w w13) := Lib.hid (Ext.trans (by repeat (first | with_reducible exact X12.out | with_reducible refine Ext.drew ?_ | with_reducible refine Ext.drewN ?_ _ | with_reducible refine Ext.alloc ?_ _ | with_reducible refine Ext.setCell ?_ (by first | omega | (simp; done) | (simp; omega)) _)) hx13)
         have Gbk := Lib.hid g13
         clear hx13 X12 g13 z13)
      | (have hst := X11
         clear hst
         go_at_call 57
         refine (gGreat X HX.out _).mono ?_
         rintro e w12 ⟨bu, rfl, g12, hx12⟩
         replace d0 : w12.cell? ⟨w2.heap.size, 0, none⟩ = some (.int .u64 T) := hx12.has (by first | exact d0 | (simp [go_sem]; done) | (simp [go_sem, World.cell?_alloc_past, d0, r0, r0a, r0b, r1, r1a, r1b, r2, r2a, r2b, r3, r3a, r3b, r4, r4a, r4b]; done))
         replace d1 : w12.cell? ⟨w2.heap.size, 1, none⟩ = some (.int .u64 S) := hx12.has (by first | exact d1 | (simp [go_sem]; done) | (simp [go_sem, World.cell?_alloc_past, d1, r0, r0a, r0b, r1, r1a, r1b, r2, r2a, r2b, r3, r3a, r3b, r4, r4a, r4b]; done))
         replace d2 : w12.cell? ⟨w3.heap.size, 0, none⟩ = some (.int .u64 A) := hx12.has (by first | exact d2 | (simp [go_sem]; done) | (simp [go_sem, World.cell?_alloc_past, d2, r0, r0a, r0b, r1, r1a, r1b, r2, r2a, r2b, r3, r3a, r3b, r4, r4a, r4b]; done))
         replace d3 : w12.cell? ⟨w3.heap.size, 1, none⟩ = some (.int .u64 S) := hx12.has (by first | exact d3 | (simp [go_sem]; done) | (simp [go_sem, World.cell?_alloc_past, d3, r0, r0a, r0b, r1, r1a, r1b, r2, r2a, r2b, r3, r3a, r3b, r4, r4a, r4b]; done))
         replace d4 : w12.cell? ⟨w4.heap.size, 0, none⟩ = some (.int .u64 A2) := hx12.has (by first | exact d4 | (simp [go_sem]; done) | (simp [go_sem, World.cell?_alloc_past, d4, r0, r0a, r0b, r1, r1a, r1b, r2, r2a, r2b, r3, r3a, r3b, r4, r4a, r4b]; done))
         replace d5 : w12.cell? ⟨w4.heap.size, 1, none⟩ = some (.int .u64 S2) := hx12.has (by first | exact d5 | (simp [go_sem]; done) | (simp [go_sem, World.cell?_alloc_past, d5, r0, r0a, r0b, r1, r1a, r1b, r2, r2a, r2b, r3, r3a, r3b, r4, r4a, r4b]; done))
         replace d6 : w12.cell? ⟨w5.heap.size, 0, none⟩ = some (.int .u64 T) := hx12.has (by first | exact d6 | (simp [go_sem]; done) | (simp [go_sem, World.cell?_alloc_past, d6, r0, r0a, r0b, r1, r1a, r1b, r2, r2a, r2b, r3, r3a, r3b, r4, r4a, r4b]; done))
         replace d7 : w12.cell? ⟨w5.heap.size, 1, none⟩ = some (.int .u64 S) := hx12.has (by first | exact d7 | (simp [go_sem]; done) | (simp [go_sem, World.cell?_alloc_past, d7, r0, r0a, r0b, r1, r1a, r1b, r2, r2a, r2b, r3, r3a, r3b, r4, r4a, r4b]; done))
         replace d8 : w12.cell? ⟨w6.heap.size, 0, none⟩ = some (.int .u64 0) := hx12.has (by first | exact d8 | (simp [go_sem]; done) | (simp [go_sem, World.cell?_alloc_past, d8, r0, r0a, r0b, r1, r1a, r1b, r2, r2a, r2b, r3, r3a, r3b, r4, r4a, r4b]; done))
         replace d9 : w12.cell? ⟨w6.heap.size, 1, none⟩ = some (.int .u64 0) := hx12.has (by first | exact d9 | (simp [go_sem]; done) | (simp [go_sem, World.cell?_alloc_past, d9, r0, r0a, r0b, r1, r1a, r1b, r2, r2a, r2b, r3, r3a, r3b, r4, r4a, r4b]; done))
         have z12 := hx12.size
         try simp at z12
         replace r0 : w2.heap.size < w12.heap.size := by omega
         replace r0a : w2.heap.size < w12.heap.size + 1 := by omega
         replace r0b : w2.heap.size < w12.heap.size + 1 + 1 := by omega
         replace r1 : w3.heap.size < w12.heap.size := by omega
         replace r1a : w3.heap.size < w12.heap.size + 1 := by omega
         replace r1b : w3.heap.size < w12.heap.size + 1 + 1 := by omega
         replace r2 : w4.heap.size < w12.heap.size := by omega
         replace r2a : w4.heap.size < w12.heap.size + 1 := by omega
         replace r2b : w4.heap.size < w12.heap.size + 1 + 1 := by omega
         replace r3 : w5.heap.size < w12.heap.size := by omega
         replace r3a : w5.heap.size < w12.heap.size + 1 := by omega
         replace r3b : w5.heap.size < w12.heap.size + 1 + 1 := by omega
         replace r4 : w6.heap.size < w12.heap.size := by omega
         replace r4a : w6.heap.size < w12.heap.size + 1 := by omega
         replace r4b : w6.heap.size < w12.heap.size + 1 + 1 := by omega
         replace Gwas := Lib.hid (Gwas.out.ext (Ext.trans (by repeat (first | with_reducible exact Ext.refl _ | with_reducible refine Ext.drew ?_ | with_reducible refine Ext.drewN ?_ _ | with_reducible refine Ext.alloc ?_ _ | with_reducible refine Ext.setCell ?_ (by first | omega | (simp; done) | (simp; omega)) _)) hx12))
         have X12 : Hid (Ext w w12) := Lib.hid (Ext.trans (by repeat (first | with_reducible exact X11.out | with_reducible refine Ext.drew ?_ | with_reducible refine Ext.drewN ?_ _ | with_reducible refine Ext.alloc ?_ _ | with_reducible refine Ext.setCell ?_ (by first | omega | (simp; done) | (simp; omega)) _)) hx12)
         have Gbu := Lib.hid g12
         clear hx12 X11 g12 z12))
  go_wp2_with fail
  refine (gSame was now (X * T * (T - V)) (X * A * T) true HV.out _ Gwas.out Gnow.out).mono ?_
  rintro e w17 ⟨rfl, hx17⟩
  replace d0 : w17.cell? ⟨w2.heap.size, 0, none⟩ = some (.int .u64 T) := hx17.has (by first | exact d0 | (simp [go_sem]; done) | (simp [go_sem, World.cell?_alloc_past, d0, r0, r0a, r0b, r1, r1a, r1b, r2, r2a, r2b, r3, r3a, r3b, r4, r4a, r4b]; done))
  replace d1 : w17.cell? ⟨w2.heap.size, 1, none⟩ = some (.int .u64 S) := hx17.has (by first | exact d1 | (simp [go_sem]; done) | (simp [go_sem, World.cell?_alloc_past, d1, r0, r0a, r0b, r1, r1a, r1b, r2, r2a, r2b, r3, r3a, r3b, r4, r4a, r4b]; done))
  replace d2 : w17.cell? ⟨w3.heap.size, 0, none⟩ = some (.int .u64 A) := hx17.has (by first | exact d2 | (simp [go_sem]; done) | (simp [go_sem, World.cell?_alloc_past, d2, r0, r0a, r0b, r1, r1a, r1b, r2, r2a, r2b, r3, r3a, r3b, r4, r4a, r4b]; done))
  replace d3 : w17.cell? ⟨w3.heap.size, 1, none⟩ = some (.int .u64 S) := hx17.has (by first | exact d3 | (simp [go_sem]; done) | (simp [go_sem, World.cell?_alloc_past, d3, r0, r0a, r0b, r1, r1a, r1b, r2, r2a, r2b, r3, r3a, r3b, r4, r4a, r4b]; done))
  replace d4 : w17.cell? ⟨w4.heap.size, 0, none⟩ = some (.int .u64 A2) := hx17.has (by first | exact d4 | (simp [go_sem]; done) | (simp [go_sem, World.cell?_alloc_past, d4, r0, r0a, r0b, r1, r1a, r1b, r2, r2a, r2b, r3, r3a, r3b, r4, r4a, r4b]; done))
  replace d5 : w17.cell? ⟨w4.heap.size, 1, none⟩ = some (.int .u64 S2) := hx17.has (by first | exact d5 | (simp [go_sem]; done) | (simp [go_sem, World.cell?_alloc_past, d5, r0, r0a, r0b, r1, r1a, r1b, r2, r2a, r2b, r3, r3a, r3b, r4, r4a, r4b]; done))
  replace d6 : w17.cell? ⟨w5.heap.size, 0, none⟩ = some (.int .u64 T) := hx17.has (by first | exact d6 | (simp [go_sem]; done) | (simp [go_sem, World.cell?_alloc_past, d6, r0, r0a, r0b, r1, r1a, r1b, r2, r2a, r2b, r3, r3a, r3b, r4, r4a, r4b]; done))
  replace d7 : w17.cell? ⟨w5.heap.size, 1, none⟩ = some (.int .u64 S) := hx17.has (by first | exact d7 | (simp [go_sem]; done) | (simp [go_sem, World.cell?_alloc_past, d7, r0, r0a, r0b, r1, r1a, r1b, r2, r2a, r2b, r3, r3a, r3b, r4, r4a, r4b]; done))
  replace d8 : w17.cell? ⟨w6.heap.size, 0, none⟩ = some (.int .u64 0) := hx17.has (by first | exact d8 | (simp [go_sem]; done) | (simp [go_sem, World.cell?_alloc_past, d8, r0, r0a, r0b, r1, r1a, r1b, r2, r2a, r2b, r3, r3a, r3b, r4, r4a, r4b]; done))
  replace d9 : w17.cell? ⟨w6.heap.size, 1, none⟩ = some (.int .u64 0) := hx17.has (by first | exact d9 | (simp [go_sem]; done) | (simp [go_sem, World.cell?_alloc_past, d9, r0, r0a, r0b, r1, r1a, r1b, r2, r2a, r2b, r3, r3a, r3b, r4, r4a, r4b]; done))
  have z17 := hx17.size
  try simp at z17
  replace r0 : w2.heap.size < w17.heap.size := by omega
  replace r0a : w2.heap.size < w17.heap.size + 1 := by omega
  replace r0b : w2.heap.size < w17.heap.size + 1 + 1 := by omega
  replace r1 : w3.heap.size < w17.heap.size := by omega
  replace r1a : w3.heap.size < w17.heap.size + 1 := by omega
  replace r1b : w3.heap.size < w17.heap.size + 1 + 1 := by omega
  replace r2 : w4.heap.size < w17.heap.size := by omega
  replace r2a : w4.heap.size < w17.heap.size + 1 := by omega
  replace r2b : w4.heap.size < w17.heap.size + 1 + 1 := by omega
  replace r3 : w5.heap.size < w17.heap.size := by omega
  replace r3a : w5.heap.size < w17.heap.size + 1 := by omega
  replace r3b : w5.heap.size < w17.heap.size + 1 + 1 := by omega
  replace r4 : w6.heap.size < w17.heap.size := by omega
  replace r4a : w6.heap.size < w17.heap.size + 1 := by omega
  replace r4b : w6.heap.size < w17.heap.size + 1 + 1 := by omega
  have X17 : Hid (Ext w w17) := Lib.hid (Ext.trans (by repeat (first | with_reducible exact X16.out | with_reducible refine Ext.drew ?_ | with_reducible refine Ext.drewN ?_ _ | with_reducible refine Ext.alloc ?_ _ | with_reducible refine Ext.setCell ?_ (by first | omega | (simp; done) | (simp; omega)) _)) hx17)
  clear hx17 Gwas Gnow X16 z17
  go_wp2_with fail
  go_ret
  exact ⟨rfl, X17.out⟩
theorem ShareCuts_any (t : Int) (ft : Fits .u64 t) (s : Int) (fs : Fits .u64 s) (one : Int) (f1 : Fits .u64 one) (two : Int) (f2 : Fits .u64 two) (x : Int) (fx : Fits .u64 x) (w : World) :
    Calls Try.prog 9 #[.int .u64 t, .int .u64 s, .int .u64 one, .int .u64 two, .int .u64 x] w fun r w' => r = .returned (.bool true) ∧ Ext w w' := by
  have P := of_ok ft.u64 fs.u64
  have C0 := lof_any t s ft.u64 fs.u64
  generalize ofT t = T at P C0
  generalize ofS t s = S at P C0
  have p1 := Int.emod_nonneg one (by decide : (1000000001 : Int) ≠ 0)
  have p2 := Int.emod_lt_of_pos one (by decide : (0 : Int) < 1000000001)
  have q1 := Int.emod_nonneg two (by decide : (1000000001 : Int) ≠ 0)
  have q2 := Int.emod_lt_of_pos two (by decide : (0 : Int) < 1000000001)
  obtain ⟨a1, a2, a3, a4, a5, a6, a7⟩ := cut_ok P p1 (by omega : one % 1000000001 ≤ 1000000000)
  obtain ⟨c1, c2, c3, c4, c5, c6, c7⟩ := cut_ok a7 q1 (by omega : two % 1000000001 ≤ 1000000000)
  obtain ⟨n1, n2, n3, n4, n5, n6, n7⟩ := cut_ok P (by decide : (0 : Int) ≤ 0) (by decide)
  obtain ⟨m1, m2, m3, m4, m5, m6, m7⟩ := cut_ok P (by decide : (0 : Int) ≤ 1000000000) (by decide)
  have C1 := SCut_at T S (one % 1000000001) _ _ _ P.wt P.ws ⟨p1, by omega⟩ a4 a5 rfl a1
  have C2 := SCut_at _ _ (two % 1000000001) _ _ _ a7.wt a7.ws ⟨q1, by omega⟩ c4 c5 rfl c1
  have C3 := SCut_at T S 0 T S 0 P.wt P.ws (wd _ rfl) (by rw [n4, n6]; simp) (by rw [n5, n6]; simp; intro h; exact (P.z h).symm) (by rw [n6]; simp) n1
  have C4 := SCut_at T S 1000000000 0 0 T P.wt P.ws (wd _ rfl) (by rw [m4, m6, Int.mul_ediv_cancel _ (by decide)]; omega) (by rw [m5, m6, Int.mul_ediv_cancel _ (by decide)]; simp) (by rw [m6, Int.mul_ediv_cancel _ (by decide)]) m1
  generalize cutN T S (one % 1000000001) = V at *
  generalize cutN (T - V) (if T - V = 0 then 0 else S) (two % 1000000001) = M at *
  have b1 := f1.u64
  have b2 := f2.u64
  have b3 := fx.u64
  by_cases hz : T - V = 0
  · rw [if_pos hz] at C1 C2
    have e : (if T - V - M = 0 then (0 : Int) else 0) = 0 := by split <;> rfl
    rw [e] at C2
    have hM : M = 0 := by omega
    exact ShareCuts_zero t s one two x T S _ _ (T - V) 0 V (T - V - M) 0 M rfl rfl b1.1 b1.2 b2.1 b2.2 (by omega) (by omega) rfl (by omega) (by omega) rfl w C0 C1 C2 C3 C4
  · rw [if_neg hz] at C1 C2
    have hT := P.t0
    have hS : 0 < S := by have := P.ts; omega
    have x1 := Int.emod_nonneg x (by omega : S ≠ 0)
    have x2 := Int.emod_lt_of_pos x hS
    have hS2 := P.sm
    have hT2 := P.wt.2
    refine ShareCuts_some t s one two x T S _ _ (T - V) S V (T - V - M) _ M _ rfl rfl b1.1 b1.2 b2.1 b2.2 (by omega) (by omega) rfl (by simpa using (by omega : ¬ S = 0)) hS P.sm b3.1 b3.2 rfl a2 a3 hT hT2 (by omega) (by omega) (show B1 _ from ⟨x1, by omega⟩) (show B1 _ from ⟨hT, hT2⟩) (show B1 _ from ⟨by omega, by omega⟩) (show B1 _ from ⟨by omega, by omega⟩) (decide_eq_true (Int.mul_right_comm _ _ _)) w C0 C1 C2 C3 C4
end Go.Proofs.Ythaknigljjnnaaa
