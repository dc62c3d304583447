/- What is proved: distraintlaw11.ShareFair returns true for every four words and a bool; nothing that was there is written. Conditions: none. -/
import Derived.Test.YthaknigljjnnaaaShareO
import Derived.Test.YthaknigljjnnaaaShareFairG
import Derived.Test.YthaknigljjnnaaaPick
import Derived.Test.YthaknigljjnnaaaOpen
set_option linter.unusedVariables false
set_option linter.unusedSimpArgs false
namespace Go.Proofs.Ythaknigljjnnaaa
open Go.RowKit Gr

theorem latMost_true (x T S y T2 S2 m : Int) (hx : B1 x) (hT : B1 T) (hS : B1 S) (hy : B1 y) (hT2 : B1 T2) (hS2 : B1 S2) (hm : B1 m) (h : x * T * S2 ≤ y * T2 * S + S * S2 * m) (w : World) :
    Calls Try.prog 51 #[.int .u64 x, .agg #[.int .u64 T, .int .u64 S], .int .u64 y, .agg #[.int .u64 T2, .int .u64 S2], .int .u64 m] w fun r w' => r = .returned (.bool true) ∧ Ext w w' :=
  latMost_any x T S y T2 S2 m hx hT hS hy hT2 hS2 hm false (decide_eq_false (by omega)) w
theorem lsharper_false (x T S T2 S2 : Int) (hx : B1 x) (hT : B1 T) (hS : B1 S) (hT2 : B1 T2) (hS2 : B1 S2) (h : x * T2 * S < x * T * S2 + S * S2) (w : World) :
    Calls Try.prog 52 #[.int .u64 x, .agg #[.int .u64 T2, .int .u64 S2], .agg #[.int .u64 T, .int .u64 S]] w fun r w' => r = .returned (.bool false) ∧ Ext w w' :=
  lsharper_any x T S T2 S2 hx hT hS hT2 hS2 true (decide_eq_true h) w
theorem lwhole_false (x T S a : Int) (hx : B1 x) (hT : B1 T) (hS : B1 S) (ha : 1 ≤ a) (ha2 : a < 18446744073709551616) (h : (a - 1) * S < x * T) (w : World) :
    Calls Try.prog 53 #[.int .u64 x, .agg #[.int .u64 T, .int .u64 S], .int .u64 a] w fun r w' => r = .returned (.bool false) ∧ Ext w w' :=
  lwhole_any x T S a hx hT hS ha ha2 true (decide_eq_true h) w
set_option maxRecDepth 100000 in
set_option maxHeartbeats 4000000 in
theorem ShareFair_none (t s n other : Int) (j : Bool) (w : World) (C0 : Hid (∀ w, Calls Try.prog 50 #[.int .u64 t, .int .u64 s] w fun r w' => r = .returned (.agg #[.int .u64 0, .int .u64 0]) ∧ Ext w w')) :
    Calls Try.prog 7 #[.int .u64 t, .int .u64 s, .bool j, .int .u64 n, .int .u64 other] w fun r w' => r = .returned (.bool true) ∧ Ext w w' := by
  go_enter Try.func7, Try.ntmps7
  go_wp2_with fail
  refine (ShareKnown_any _).mono ?_
  rintro e w1 ⟨rfl, hx1⟩
  have X1 : Hid (Ext w w1) := Lib.hid (Ext.trans (by repeat (first | with_reducible exact Ext.refl w | with_reducible refine Ext.drew ?_ | with_reducible refine Ext.drewN ?_ _ | with_reducible refine Ext.alloc ?_ _ | with_reducible refine Ext.setCell ?_ (by first | omega | (simp; done) | (simp; omega)) _)) hx1)
  clear hx1
  go_wp2_with fail
  refine (C0.out _).mono ?_
  rintro e w2 ⟨rfl, hx2⟩
  have X2 : Hid (Ext w w2) := Lib.hid (Ext.trans (by repeat (first | with_reducible exact X1.out | with_reducible refine Ext.drew ?_ | with_reducible refine Ext.drewN ?_ _ | with_reducible refine Ext.alloc ?_ _ | with_reducible refine Ext.setCell ?_ (by first | omega | (simp; done) | (simp; omega)) _)) hx2)
  clear hx2 X1
  go_wp2_with fail
  go_ret
  exact ⟨rfl, by have X := X2.out; exact (by repeat (first | assumption | exact Ext.refl _ | refine Ext.drew ?_ | refine Ext.drewN ?_ _ | refine Ext.alloc ?_ _ | refine Ext.setCell ?_ (by first | omega | (simp; done) | (simp; omega)) _ | refine Ext.trans ?_ (by assumption)))⟩
set_option maxRecDepth 100000 in
set_option maxHeartbeats 4000000 in
theorem ShareFair_join_err (t s n other T S r : Int) (hS0 : (S == 0) = false) (hS : 0 < S) (hS2 : S < 18446744073709551616) (n0 : 0 ≤ n) (n1 : n < 18446744073709551616) (hr : n % 4611686018427387904 = r) (r0 : 0 ≤ r) (r1 : r < 4611686018427387904) (w : World) (C0 : Hid (∀ w, Calls Try.prog 50 #[.int .u64 t, .int .u64 s] w fun r w' => r = .returned (.agg #[.int .u64 T, .int .u64 S]) ∧ Ext w w')) (CD : Hid (∀ w, Calls Try.prog 45 #[.agg #[.int .u64 T, .int .u64 S], .agg #[.int .i64 0, .int .u64 (1 + r)]] w fun r w' => r = .returned (.tuple #[.agg #[.int .u64 0, .int .u64 0], .int .u64 0, .int .i64 12]) ∧ Ext w w')) :
    Calls Try.prog 7 #[.int .u64 t, .int .u64 s, .bool true, .int .u64 n, .int .u64 other] w fun r w' => r = .returned (.bool true) ∧ Ext w w' := by
  by_cases hnS : S < n
  all_goals
    go_enter Try.func7, Try.ntmps7
    go_wp2_with fail
    refine (ShareKnown_any _).mono ?_
    rintro e w1 ⟨rfl, hx1⟩
    have X1 : Hid (Ext w w1) := Lib.hid (Ext.trans (by repeat (first | with_reducible exact Ext.refl w | with_reducible refine Ext.drew ?_ | with_reducible refine Ext.drewN ?_ _ | with_reducible refine Ext.alloc ?_ _ | with_reducible refine Ext.setCell ?_ (by first | omega | (simp; done) | (simp; omega)) _)) hx1)
    clear hx1
    go_wp2_with fail
    refine (C0.out _).mono ?_
    rintro e w2 ⟨rfl, hx2⟩
    have X2 : Hid (Ext w w2) := Lib.hid (Ext.trans (by repeat (first | with_reducible exact X1.out | with_reducible refine Ext.drew ?_ | with_reducible refine Ext.drewN ?_ _ | with_reducible refine Ext.alloc ?_ _ | with_reducible refine Ext.setCell ?_ (by first | omega | (simp; done) | (simp; omega)) _)) hx2)
    clear hx2 X1
    have zz := X2.out.size
    go_wp2_with fail
    refine (CD.out _).mono ?_
    rintro e w3 ⟨rfl, hx3⟩
    have d0 : w3.cell? ⟨w2.heap.size, 0, none⟩ = some (.int .u64 T) := hx3.has (by first | (simp [go_sem]; done) | (simp [go_sem, World.cell?_alloc_past]; done))
    have d1 : w3.cell? ⟨w2.heap.size, 1, none⟩ = some (.int .u64 S) := hx3.has (by first | (simp [go_sem]; done) | (simp [go_sem, World.cell?_alloc_past]; done))
    have d2 : w3.cell? ⟨w2.heap.size + 1, 0, none⟩ = some (.int .i64 0) := hx3.has (by first | (simp [go_sem]; done) | (simp [go_sem, World.cell?_alloc_past]; done))
    have d3 : w3.cell? ⟨w2.heap.size + 1, 1, none⟩ = some (.int .u64 (1 + r)) := hx3.has (by first | (simp [go_sem]; done) | (simp [go_sem, World.cell?_alloc_past]; done))
    have z3 := hx3.size
    try simp at z3
    replace r0 : w2.heap.size < w3.heap.size := by omega
    replace r0a : w2.heap.size < w3.heap.size + 1 := by omega
    replace r0b : w2.heap.size < w3.heap.size + 1 + 1 := by omega
    replace r1 : w2.heap.size + 1 < w3.heap.size := by omega
    replace r1a : w2.heap.size + 1 < w3.heap.size + 1 := by omega
    replace r1b : w2.heap.size + 1 < w3.heap.size + 1 + 1 := by omega
    have X3 : Hid (Ext w w3) := Lib.hid (Ext.trans (by repeat (first | with_reducible exact X2.out | with_reducible refine Ext.drew ?_ | with_reducible refine Ext.drewN ?_ _ | with_reducible refine Ext.alloc ?_ _ | with_reducible refine Ext.setCell ?_ (by first | omega | (simp; done) | (simp; omega)) _)) hx3)
    clear hx3 X2 z3
    go_wp2_with fail
    go_ret
    exact ⟨rfl, by have X := X3.out; exact (by repeat (first | assumption | exact Ext.refl _ | refine Ext.drew ?_ | refine Ext.drewN ?_ _ | refine Ext.alloc ?_ _ | refine Ext.setCell ?_ (by first | omega | (simp; done) | (simp; omega)) _ | refine Ext.trans ?_ (by assumption)))⟩
set_option maxRecDepth 100000 in
set_option maxHeartbeats 4000000 in
theorem ShareFair_join_ok (t s n other T S T2 S2 V L O r : Int) (hS0 : (S == 0) = false) (hS : 0 < S) (hS2 : S < 18446744073709551616) (n0 : 0 ≤ n) (n1 : n < 18446744073709551616) (hr : n % 4611686018427387904 = r) (r0 : 0 ≤ r) (r1 : r < 4611686018427387904) (hL : (if S2 < S then S2 else S) = L) (hL0 : (L == 0) = false) (hLp : 0 < L) (hL2 : L < 18446744073709551616) (o0 : 0 ≤ other) (o1 : other < 18446744073709551616) (hO : other % L = O) (hq0 : (S2 == 0) = false) (HO : Hid (B1 O)) (HT : Hid (B1 T)) (HS : Hid (B1 S)) (HT2 : Hid (B1 T2)) (HS2 : Hid (B1 S2)) (H1 : Hid (O * T * S2 ≤ O * T2 * S + S * S2 * 0)) (H2 : Hid (O * T2 * S ≤ O * T * S2 + S2 * S * 1)) (H3 : Hid (O * T2 * S < O * T * S2 + S * S2)) (HV : Hid (B1 V)) (HN : Hid (B1 (1 + r))) (H4 : Hid (V * T2 * 1 ≤ 1 * (1 + r) * S2 + S2 * 1 * 0)) (H5 : Hid (1 * (1 + r) * S2 ≤ V * T2 * 1 + 1 * S2 * 1)) (H6 : Hid (((1 + r) - 1) * S2 < V * T2)) (w : World) (C0 : Hid (∀ w, Calls Try.prog 50 #[.int .u64 t, .int .u64 s] w fun r w' => r = .returned (.agg #[.int .u64 T, .int .u64 S]) ∧ Ext w w')) (CD : Hid (∀ w, Calls Try.prog 45 #[.agg #[.int .u64 T, .int .u64 S], .agg #[.int .i64 0, .int .u64 (1 + r)]] w fun r w' => r = .returned (.tuple #[.agg #[.int .u64 T2, .int .u64 S2], .int .u64 V, .int .i64 0]) ∧ Ext w w')) :
    Calls Try.prog 7 #[.int .u64 t, .int .u64 s, .bool true, .int .u64 n, .int .u64 other] w fun r w' => r = .returned (.bool true) ∧ Ext w w' := by
  have hmin : ∀ (ts : Array TypeId) (t : TypeId) (w : World), (Builtin.min_ ts t #[.int .u64 S, .int .u64 S2]).run Try.prog w = .ok (.int .u64 L) w := by
    intro ts t w
    rw [run_min_int2, hL]
  clear hL
  by_cases hnS : S < n
  all_goals
    go_enter Try.func7, Try.ntmps7
    go_wp2_with fail
    refine (ShareKnown_any _).mono ?_
    rintro e w1 ⟨rfl, hx1⟩
    have X1 : Hid (Ext w w1) := Lib.hid (Ext.trans (by repeat (first | with_reducible exact Ext.refl w | with_reducible refine Ext.drew ?_ | with_reducible refine Ext.drewN ?_ _ | with_reducible refine Ext.alloc ?_ _ | with_reducible refine Ext.setCell ?_ (by first | omega | (simp; done) | (simp; omega)) _)) hx1)
    clear hx1
    go_wp2_with fail
    refine (C0.out _).mono ?_
    rintro e w2 ⟨rfl, hx2⟩
    have X2 : Hid (Ext w w2) := Lib.hid (Ext.trans (by repeat (first | with_reducible exact X1.out | with_reducible refine Ext.drew ?_ | with_reducible refine Ext.drewN ?_ _ | with_reducible refine Ext.alloc ?_ _ | with_reducible refine Ext.setCell ?_ (by first | omega | (simp; done) | (simp; omega)) _)) hx2)
    clear hx2 X1
    have zz := X2.out.size
    go_wp2_with fail
    refine (CD.out _).mono ?_
    rintro e w3 ⟨rfl, hx3⟩
    have d0 : w3.cell? ⟨w2.heap.size, 0, none⟩ = some (.int .u64 T) := hx3.has (by first | (simp [go_sem]; done) | (simp [go_sem, World.cell?_alloc_past]; done))
    have d1 : w3.cell? ⟨w2.heap.size, 1, none⟩ = some (.int .u64 S) := hx3.has (by first | (simp [go_sem]; done) | (simp [go_sem, World.cell?_alloc_past]; done))
    have d2 : w3.cell? ⟨w2.heap.size + 1, 0, none⟩ = some (.int .i64 0) := hx3.has (by first | (simp [go_sem]; done) | (simp [go_sem, World.cell?_alloc_past]; done))
    have d3 : w3.cell? ⟨w2.heap.size + 1, 1, none⟩ = some (.int .u64 (1 + r)) := hx3.has (by first | (simp [go_sem]; done) | (simp [go_sem, World.cell?_alloc_past]; done))
    have z3 := hx3.size
    try simp at z3
    replace r0 : w2.heap.size < w3.heap.size := by omega
    replace r0a : w2.heap.size < w3.heap.size + 1 := by omega
    replace r0b : w2.heap.size < w3.heap.size + 1 + 1 := by omega
    replace r1 : w2.heap.size + 1 < w3.heap.size := by omega
    replace r1a : w2.heap.size + 1 < w3.heap.size + 1 := by omega
    replace r1b : w2.heap.size + 1 < w3.heap.size + 1 + 1 := by omega
    have X3 : Hid (Ext w w3) := Lib.hid (Ext.trans (by repeat (first | with_reducible exact X2.out | with_reducible refine Ext.drew ?_ | with_reducible refine Ext.drewN ?_ _ | with_reducible refine Ext.alloc ?_ _ | with_reducible refine Ext.setCell ?_ (by first | omega | (simp; done) | (simp; omega)) _)) hx3)
    clear hx3 X2 z3
    go_wp2_with fail
    refine (latMost_true O T S O T2 S2 0 HO.out HT.out HS.out HO.out HT2.out HS2.out ⟨by decide, by decide⟩ H1.out _).mono ?_
    rintro e w4 ⟨rfl, hx4⟩
    replace d0 : w4.cell? ⟨w2.heap.size, 0, none⟩ = some (.int .u64 T) := hx4.has (by first | exact d0 | (simp [go_sem]; done) | (simp [go_sem, World.cell?_alloc_past, d0, r0, r0a, r0b, r1, r1a, r1b]; done))
    replace d1 : w4.cell? ⟨w2.heap.size, 1, none⟩ = some (.int .u64 S) := hx4.has (by first | exact d1 | (simp [go_sem]; done) | (simp [go_sem, World.cell?_alloc_past, d1, r0, r0a, r0b, r1, r1a, r1b]; done))
    replace d2 : w4.cell? ⟨w2.heap.size + 1, 0, none⟩ = some (.int .i64 0) := hx4.has (by first | exact d2 | (simp [go_sem]; done) | (simp [go_sem, World.cell?_alloc_past, d2, r0, r0a, r0b, r1, r1a, r1b]; done))
    replace d3 : w4.cell? ⟨w2.heap.size + 1, 1, none⟩ = some (.int .u64 (1 + r)) := hx4.has (by first | exact d3 | (simp [go_sem]; done) | (simp [go_sem, World.cell?_alloc_past, d3, r0, r0a, r0b, r1, r1a, r1b]; done))
    have d4 : w4.cell? ⟨w3.heap.size, 0, none⟩ = some (.int .u64 T2) := hx4.has (by first | (simp [go_sem]; done) | (simp [go_sem, World.cell?_alloc_past]; done))
    have d5 : w4.cell? ⟨w3.heap.size, 1, none⟩ = some (.int .u64 S2) := hx4.has (by first | (simp [go_sem]; done) | (simp [go_sem, World.cell?_alloc_past]; done))
    have z4 := hx4.size
    try simp at z4
    replace r0 : w2.heap.size < w4.heap.size := by omega
    replace r0a : w2.heap.size < w4.heap.size + 1 := by omega
    replace r0b : w2.heap.size < w4.heap.size + 1 + 1 := by omega
    replace r1 : w2.heap.size + 1 < w4.heap.size := by omega
    replace r1a : w2.heap.size + 1 < w4.heap.size + 1 := by omega
    replace r1b : w2.heap.size + 1 < w4.heap.size + 1 + 1 := by omega
    replace r2 : w3.heap.size < w4.heap.size := by omega
    replace r2a : w3.heap.size < w4.heap.size + 1 := by omega
    replace r2b : w3.heap.size < w4.heap.size + 1 + 1 := by omega
    have X4 : Hid (Ext w w4) := Lib.hid (Ext.trans (by repeat (first | with_reducible exact X3.out | with_reducible refine Ext.drew ?_ | with_reducible refine Ext.drewN ?_ _ | with_reducible refine Ext.alloc ?_ _ | with_reducible refine Ext.setCell ?_ (by first | omega | (simp; done) | (simp; omega)) _)) hx4)
    clear hx4 X3 z4
    go_wp2_with fail
    refine (latMost_true O T2 S2 O T S 1 HO.out HT2.out HS2.out HO.out HT.out HS.out ⟨by decide, by decide⟩ H2.out _).mono ?_
    rintro e w5 ⟨rfl, hx5⟩
    replace d0 : w5.cell? ⟨w2.heap.size, 0, none⟩ = some (.int .u64 T) := hx5.has (by first | exact d0 | (simp [go_sem]; done) | (simp [go_sem, World.cell?_alloc_past, d0, r0, r0a, r0b, r1, r1a, r1b, r2, r2a, r2b]; done))
    replace d1 : w5.cell? ⟨w2.heap.size, 1, none⟩ = some (.int .u64 S) := hx5.has (by first | exact d1 | (simp [go_sem]; done) | (simp [go_sem, World.cell?_alloc_past, d1, r0, r0a, r0b, r1, r1a, r1b, r2, r2a, r2b]; done))
    replace d2 : w5.cell? ⟨w2.heap.size + 1, 0, none⟩ = some (.int .i64 0) := hx5.has (by first | exact d2 | (simp [go_sem]; done) | (simp [go_sem, World.cell?_alloc_past, d2, r0, r0a, r0b, r1, r1a, r1b, r2, r2a, r2b]; done))
    replace d3 : w5.cell? ⟨w2.heap.size + 1, 1, none⟩ = some (.int .u64 (1 + r)) := hx5.has (by first | exact d3 | (simp [go_sem]; done) | (simp [go_sem, World.cell?_alloc_past, d3, r0, r0a, r0b, r1, r1a, r1b, r2, r2a, r2b]; done))
    replace d4 : w5.cell? ⟨w3.heap.size, 0, none⟩ = some (.int .u64 T2) := hx5.has (by first | exact d4 | (simp [go_sem]; done) | (simp [go_sem, World.cell?_alloc_past, d4, r0, r0a, r0b, r1, r1a, r1b, r2, r2a, r2b]; done))
    replace d5 : w5.cell? ⟨w3.heap.size, 1, none⟩ = some (.int .u64 S2) := hx5.has (by first | exact d5 | (simp [go_sem]; done) | (simp [go_sem, World.cell?_alloc_past, d5, r0, r0a, r0b, r1, r1a, r1b, r2, r2a, r2b]; done))
    have z5 := hx5.size
    try simp at z5
    replace r0 : w2.heap.size < w5.heap.size := by omega
    replace r0a : w2.heap.size < w5.heap.size + 1 := by omega
    replace r0b : w2.heap.size < w5.heap.size + 1 + 1 := by omega
    replace r1 : w2.heap.size + 1 < w5.heap.size := by omega
    replace r1a : w2.heap.size + 1 < w5.heap.size + 1 := by omega
    replace r1b : w2.heap.size + 1 < w5.heap.size + 1 + 1 := by omega
    replace r2 : w3.heap.size < w5.heap.size := by omega
    replace r2a : w3.heap.size < w5.heap.size + 1 := by omega
    replace r2b : w3.heap.size < w5.heap.size + 1 + 1 := by omega
    have X5 : Hid (Ext w w5) := Lib.hid (Ext.trans (by repeat (first | with_reducible exact X4.out | with_reducible refine Ext.drew ?_ | with_reducible refine Ext.drewN ?_ _ | with_reducible refine Ext.alloc ?_ _ | with_reducible refine Ext.setCell ?_ (by first | omega | (simp; done) | (simp; omega)) _)) hx5)
    clear hx5 X4 z5
    go_wp2_with fail
    refine (lsharper_false O T S T2 S2 HO.out HT.out HS.out HT2.out HS2.out H3.out _).mono ?_
    rintro e w6 ⟨rfl, hx6⟩
    replace d0 : w6.cell? ⟨w2.heap.size, 0, none⟩ = some (.int .u64 T) := hx6.has (by first | exact d0 | (simp [go_sem]; done) | (simp [go_sem, World.cell?_alloc_past, d0, r0, r0a, r0b, r1, r1a, r1b, r2, r2a, r2b]; done))
    replace d1 : w6.cell? ⟨w2.heap.size, 1, none⟩ = some (.int .u64 S) := hx6.has (by first | exact d1 | (simp [go_sem]; done) | (simp [go_sem, World.cell?_alloc_past, d1, r0, r0a, r0b, r1, r1a, r1b, r2, r2a, r2b]; done))
    replace d2 : w6.cell? ⟨w2.heap.size + 1, 0, none⟩ = some (.int .i64 0) := hx6.has (by first | exact d2 | (simp [go_sem]; done) | (simp [go_sem, World.cell?_alloc_past, d2, r0, r0a, r0b, r1, r1a, r1b, r2, r2a, r2b]; done))
    replace d3 : w6.cell? ⟨w2.heap.size + 1, 1, none⟩ = some (.int .u64 (1 + r)) := hx6.has (by first | exact d3 | (simp [go_sem]; done) | (simp [go_sem, World.cell?_alloc_past, d3, r0, r0a, r0b, r1, r1a, r1b, r2, r2a, r2b]; done))
    replace d4 : w6.cell? ⟨w3.heap.size, 0, none⟩ = some (.int .u64 T2) := hx6.has (by first | exact d4 | (simp [go_sem]; done) | (simp [go_sem, World.cell?_alloc_past, d4, r0, r0a, r0b, r1, r1a, r1b, r2, r2a, r2b]; done))
    replace d5 : w6.cell? ⟨w3.heap.size, 1, none⟩ = some (.int .u64 S2) := hx6.has (by first | exact d5 | (simp [go_sem]; done) | (simp [go_sem, World.cell?_alloc_past, d5, r0, r0a, r0b, r1, r1a, r1b, r2, r2a, r2b]; done))
    have z6 := hx6.size
    try simp at z6
    replace r0 : w2.heap.size < w6.heap.size := by omega
    replace r0a : w2.heap.size < w6.heap.size + 1 := by omega
    replace r0b : w2.heap.size < w6.heap.size + 1 + 1 := by omega
    replace r1 : w2.heap.size + 1 < w6.heap.size := by omega
    replace r1a : w2.heap.size + 1 < w6.heap.size + 1 := by omega
    replace r1b : w2.heap.size + 1 < w6.heap.size + 1 + 1 := by omega
    replace r2 : w3.heap.size < w6.heap.size := by omega
    replace r2a : w3.heap.size < w6.heap.size + 1 := by omega
    replace r2b : w3.heap.size < w6.heap.size + 1 + 1 := by omega
    have X6 : Hid (Ext w w6) := Lib.hid (Ext.trans (by repeat (first | with_reducible exact X5.out | with_reducible refine Ext.drew ?_ | with_reducible refine Ext.drewN ?_ _ | with_reducible refine Ext.alloc ?_ _ | with_reducible refine Ext.setCell ?_ (by first | omega | (simp; done) | (simp; omega)) _)) hx6)
    clear hx6 X5 z6
    go_wp2_with fail
    refine (latMost_true V T2 S2 1 (1 + r) 1 0 HV.out HT2.out HS2.out ⟨by decide, by decide⟩ HN.out ⟨by decide, by decide⟩ ⟨by decide, by decide⟩ H4.out _).mono ?_
    rintro e w7 ⟨rfl, hx7⟩
    replace d0 : w7.cell? ⟨w2.heap.size, 0, none⟩ = some (.int .u64 T) := hx7.has (by first | exact d0 | (simp [go_sem]; done) | (simp [go_sem, World.cell?_alloc_past, d0, r0, r0a, r0b, r1, r1a, r1b, r2, r2a, r2b]; done))
    replace d1 : w7.cell? ⟨w2.heap.size, 1, none⟩ = some (.int .u64 S) := hx7.has (by first | exact d1 | (simp [go_sem]; done) | (simp [go_sem, World.cell?_alloc_past, d1, r0, r0a, r0b, r1, r1a, r1b, r2, r2a, r2b]; done))
    replace d2 : w7.cell? ⟨w2.heap.size + 1, 0, none⟩ = some (.int .i64 0) := hx7.has (by first | exact d2 | (simp [go_sem]; done) | (simp [go_sem, World.cell?_alloc_past, d2, r0, r0a, r0b, r1, r1a, r1b, r2, r2a, r2b]; done))
    replace d3 : w7.cell? ⟨w2.heap.size + 1, 1, none⟩ = some (.int .u64 (1 + r)) := hx7.has (by first | exact d3 | (simp [go_sem]; done) | (simp [go_sem, World.cell?_alloc_past, d3, r0, r0a, r0b, r1, r1a, r1b, r2, r2a, r2b]; done))
    replace d4 : w7.cell? ⟨w3.heap.size, 0, none⟩ = some (.int .u64 T2) := hx7.has (by first | exact d4 | (simp [go_sem]; done) | (simp [go_sem, World.cell?_alloc_past, d4, r0, r0a, r0b, r1, r1a, r1b, r2, r2a, r2b]; done))
    replace d5 : w7.cell? ⟨w3.heap.size, 1, none⟩ = some (.int .u64 S2) := hx7.has (by first | exact d5 | (simp [go_sem]; done) | (simp [go_sem, World.cell?_alloc_past, d5, r0, r0a, r0b, r1, r1a, r1b, r2, r2a, r2b]; done))
    have d6 : w7.cell? ⟨w6.heap.size, 0, none⟩ = some (.int .u64 (1 + r)) := hx7.has (by first | (simp [go_sem]; done) | (simp [go_sem, World.cell?_alloc_past]; done))
    have d7 : w7.cell? ⟨w6.heap.size, 1, none⟩ = some (.int .u64 1) := hx7.has (by first | (simp [go_sem]; done) | (simp [go_sem, World.cell?_alloc_past]; done))
    have z7 := hx7.size
    try simp at z7
    replace r0 : w2.heap.size < w7.heap.size := by omega
    replace r0a : w2.heap.size < w7.heap.size + 1 := by omega
    replace r0b : w2.heap.size < w7.heap.size + 1 + 1 := by omega
    replace r1 : w2.heap.size + 1 < w7.heap.size := by omega
    replace r1a : w2.heap.size + 1 < w7.heap.size + 1 := by omega
    replace r1b : w2.heap.size + 1 < w7.heap.size + 1 + 1 := by omega
    replace r2 : w3.heap.size < w7.heap.size := by omega
    replace r2a : w3.heap.size < w7.heap.size + 1 := by omega
    replace r2b : w3.heap.size < w7.heap.size + 1 + 1 := by omega
    replace r3 : w6.heap.size < w7.heap.size := by omega
    replace r3a : w6.heap.size < w7.heap.size + 1 := by omega
    replace r3b : w6.heap.size < w7.heap.size + 1 + 1 := by omega
    have X7 : Hid (Ext w w7) := Lib.hid (Ext.trans (by repeat (first | with_reducible exact X6.out | with_reducible refine Ext.drew ?_ | with_reducible refine Ext.drewN ?_ _ | with_reducible refine Ext.alloc ?_ _ | with_reducible refine Ext.setCell ?_ (by first | omega | (simp; done) | (simp; omega)) _)) hx7)
    clear hx7 X6 z7
    go_wp2_with fail
    refine (latMost_true 1 (1 + r) 1 V T2 S2 1 ⟨by decide, by decide⟩ HN.out ⟨by decide, by decide⟩ HV.out HT2.out HS2.out ⟨by decide, by decide⟩ H5.out _).mono ?_
    rintro e w8 ⟨rfl, hx8⟩
    replace d0 : w8.cell? ⟨w2.heap.size, 0, none⟩ = some (.int .u64 T) := hx8.has (by first | exact d0 | (simp [go_sem]; done) | (simp [go_sem, World.cell?_alloc_past, d0, r0, r0a, r0b, r1, r1a, r1b, r2, r2a, r2b, r3, r3a, r3b]; done))
    replace d1 : w8.cell? ⟨w2.heap.size, 1, none⟩ = some (.int .u64 S) := hx8.has (by first | exact d1 | (simp [go_sem]; done) | (simp [go_sem, World.cell?_alloc_past, d1, r0, r0a, r0b, r1, r1a, r1b, r2, r2a, r2b, r3, r3a, r3b]; done))
    replace d2 : w8.cell? ⟨w2.heap.size + 1, 0, none⟩ = some (.int .i64 0) := hx8.has (by first | exact d2 | (simp [go_sem]; done) | (simp [go_sem, World.cell?_alloc_past, d2, r0, r0a, r0b, r1, r1a, r1b, r2, r2a, r2b, r3, r3a, r3b]; done))
    replace d3 : w8.cell? ⟨w2.heap.size + 1, 1, none⟩ = some (.int .u64 (1 + r)) := hx8.has (by first | exact d3 | (simp [go_sem]; done) | (simp [go_sem, World.cell?_alloc_past, d3, r0, r0a, r0b, r1, r1a, r1b, r2, r2a, r2b, r3, r3a, r3b]; done))
    replace d4 : w8.cell? ⟨w3.heap.size, 0, none⟩ = some (.int .u64 T2) := hx8.has (by first | exact d4 | (simp [go_sem]; done) | (simp [go_sem, World.cell?_alloc_past, d4, r0, r0a, r0b, r1, r1a, r1b, r2, r2a, r2b, r3, r3a, r3b]; done))
    replace d5 : w8.cell? ⟨w3.heap.size, 1, none⟩ = some (.int .u64 S2) := hx8.has (by first | exact d5 | (simp [go_sem]; done) | (simp [go_sem, World.cell?_alloc_past, d5, r0, r0a, r0b, r1, r1a, r1b, r2, r2a, r2b, r3, r3a, r3b]; done))
    replace d6 : w8.cell? ⟨w6.heap.size, 0, none⟩ = some (.int .u64 (1 + r)) := hx8.has (by first | exact d6 | (simp [go_sem]; done) | (simp [go_sem, World.cell?_alloc_past, d6, r0, r0a, r0b, r1, r1a, r1b, r2, r2a, r2b, r3, r3a, r3b]; done))
    replace d7 : w8.cell? ⟨w6.heap.size, 1, none⟩ = some (.int .u64 1) := hx8.has (by first | exact d7 | (simp [go_sem]; done) | (simp [go_sem, World.cell?_alloc_past, d7, r0, r0a, r0b, r1, r1a, r1b, r2, r2a, r2b, r3, r3a, r3b]; done))
    have z8 := hx8.size
    try simp at z8
    replace r0 : w2.heap.size < w8.heap.size := by omega
    replace r0a : w2.heap.size < w8.heap.size + 1 := by omega
    replace r0b : w2.heap.size < w8.heap.size + 1 + 1 := by omega
    replace r1 : w2.heap.size + 1 < w8.heap.size := by omega
    replace r1a : w2.heap.size + 1 < w8.heap.size + 1 := by omega
    replace r1b : w2.heap.size + 1 < w8.heap.size + 1 + 1 := by omega
    replace r2 : w3.heap.size < w8.heap.size := by omega
    replace r2a : w3.heap.size < w8.heap.size + 1 := by omega
    replace r2b : w3.heap.size < w8.heap.size + 1 + 1 := by omega
    replace r3 : w6.heap.size < w8.heap.size := by omega
    replace r3a : w6.heap.size < w8.heap.size + 1 := by omega
    replace r3b : w6.heap.size < w8.heap.size + 1 + 1 := by omega
    have X8 : Hid (Ext w w8) := Lib.hid (Ext.trans (by repeat (first | with_reducible exact X7.out | with_reducible refine Ext.drew ?_ | with_reducible refine Ext.drewN ?_ _ | with_reducible refine Ext.alloc ?_ _ | with_reducible refine Ext.setCell ?_ (by first | omega | (simp; done) | (simp; omega)) _)) hx8)
    clear hx8 X7 z8
    go_wp2_with fail
    refine (lwhole_false V T2 S2 (1 + r) HV.out HT2.out HS2.out (by omega) HN.out.2 H6.out _).mono ?_
    rintro e w9 ⟨rfl, hx9⟩
    replace d0 : w9.cell? ⟨w2.heap.size, 0, none⟩ = some (.int .u64 T) := hx9.has (by first | exact d0 | (simp [go_sem]; done) | (simp [go_sem, World.cell?_alloc_past, d0, r0, r0a, r0b, r1, r1a, r1b, r2, r2a, r2b, r3, r3a, r3b]; done))
    replace d1 : w9.cell? ⟨w2.heap.size, 1, none⟩ = some (.int .u64 S) := hx9.has (by first | exact d1 | (simp [go_sem]; done) | (simp [go_sem, World.cell?_alloc_past, d1, r0, r0a, r0b, r1, r1a, r1b, r2, r2a, r2b, r3, r3a, r3b]; done))
    replace d2 : w9.cell? ⟨w2.heap.size + 1, 0, none⟩ = some (.int .i64 0) := hx9.has (by first | exact d2 | (simp [go_sem]; done) | (simp [go_sem, World.cell?_alloc_past, d2, r0, r0a, r0b, r1, r1a, r1b, r2, r2a, r2b, r3, r3a, r3b]; done))
    replace d3 : w9.cell? ⟨w2.heap.size + 1, 1, none⟩ = some (.int .u64 (1 + r)) := hx9.has (by first | exact d3 | (simp [go_sem]; done) | (simp [go_sem, World.cell?_alloc_past, d3, r0, r0a, r0b, r1, r1a, r1b, r2, r2a, r2b, r3, r3a, r3b]; done))
    replace d4 : w9.cell? ⟨w3.heap.size, 0, none⟩ = some (.int .u64 T2) := hx9.has (by first | exact d4 | (simp [go_sem]; done) | (simp [go_sem, World.cell?_alloc_past, d4, r0, r0a, r0b, r1, r1a, r1b, r2, r2a, r2b, r3, r3a, r3b]; done))
    replace d5 : w9.cell? ⟨w3.heap.size, 1, none⟩ = some (.int .u64 S2) := hx9.has (by first | exact d5 | (simp [go_sem]; done) | (simp [go_sem, World.cell?_alloc_past, d5, r0, r0a, r0b, r1, r1a, r1b, r2, r2a, r2b, r3, r3a, r3b]; done))
    replace d6 : w9.cell? ⟨w6.heap.size, 0, none⟩ = some (.int .u64 (1 + r)) := hx9.has (by first | exact d6 | (simp [go_sem]; done) | (simp [go_sem, World.cell?_alloc_past, d6, r0, r0a, r0b, r1, r1a, r1b, r2, r2a, r2b, r3, r3a, r3b]; done))
    replace d7 : w9.cell? ⟨w6.heap.size, 1, none⟩ = some (.int .u64 1) := hx9.has (by first | exact d7 | (simp [go_sem]; done) | (simp [go_sem, World.cell?_alloc_past, d7, r0, r0a, r0b, r1, r1a, r1b, r2, r2a, r2b, r3, r3a, r3b]; done))
    have z9 := hx9.size
    try simp at z9
    replace r0 : w2.heap.size < w9.heap.size := by omega
    replace r0a : w2.heap.size < w9.heap.size + 1 := by omega
    replace r0b : w2.heap.size < w9.heap.size + 1 + 1 := by omega
    replace r1 : w2.heap.size + 1 < w9.heap.size := by omega
    replace r1a : w2.heap.size + 1 < w9.heap.size + 1 := by omega
    replace r1b : w2.heap.size + 1 < w9.heap.size + 1 + 1 := by omega
    replace r2 : w3.heap.size < w9.heap.size := by omega
    replace r2a : w3.heap.size < w9.heap.size + 1 := by omega
    replace r2b : w3.heap.size < w9.heap.size + 1 + 1 := by omega
    replace r3 : w6.heap.size < w9.heap.size := by omega
    replace r3a : w6.heap.size < w9.heap.size + 1 := by omega
    replace r3b : w6.heap.size < w9.heap.size + 1 + 1 := by omega
    have X9 : Hid (Ext w w9) := Lib.hid (Ext.trans (by repeat (first | with_reducible exact X8.out | with_reducible refine Ext.drew ?_ | with_reducible refine Ext.drewN ?_ _ | with_reducible refine Ext.alloc ?_ _ | with_reducible refine Ext.setCell ?_ (by first | omega | (simp; done) | (simp; omega)) _)) hx9)
    clear hx9 X8 z9
    go_wp2_with fail
    go_ret
    exact ⟨rfl, by have X := X9.out; exact (by repeat (first | assumption | exact Ext.refl _ | refine Ext.drew ?_ | refine Ext.drewN ?_ _ | refine Ext.alloc ?_ _ | refine Ext.setCell ?_ (by first | omega | (simp; done) | (simp; omega)) _ | refine Ext.trans ?_ (by assumption)))⟩
set_option maxRecDepth 100000 in
set_option maxHeartbeats 4000000 in
theorem ShareFair_la_err (t s n other T S  : Int) (hS0 : (S == 0) = false) (hS : 0 < S) (hS2 : S < 18446744073709551616) (n0 : 0 ≤ n) (n1 : n < 18446744073709551616) (hn : ¬ S < n) (w : World) (C0 : Hid (∀ w, Calls Try.prog 50 #[.int .u64 t, .int .u64 s] w fun r w' => r = .returned (.agg #[.int .u64 T, .int .u64 S]) ∧ Ext w w')) (CD : Hid (∀ w, Calls Try.prog 45 #[.agg #[.int .u64 T, .int .u64 S], .agg #[.int .i64 1, .int .u64 n]] w fun r w' => r = .returned (.tuple #[.agg #[.int .u64 0, .int .u64 0], .int .u64 0, .int .i64 14]) ∧ Ext w w')) :
    Calls Try.prog 7 #[.int .u64 t, .int .u64 s, .bool false, .int .u64 n, .int .u64 other] w fun r w' => r = .returned (.bool true) ∧ Ext w w' := by
  go_enter Try.func7, Try.ntmps7
  go_wp2_with fail
  refine (ShareKnown_any _).mono ?_
  rintro e w1 ⟨rfl, hx1⟩
  have X1 : Hid (Ext w w1) := Lib.hid (Ext.trans (by repeat (first | with_reducible exact Ext.refl w | with_reducible refine Ext.drew ?_ | with_reducible refine Ext.drewN ?_ _ | with_reducible refine Ext.alloc ?_ _ | with_reducible refine Ext.setCell ?_ (by first | omega | (simp; done) | (simp; omega)) _)) hx1)
  clear hx1
  go_wp2_with fail
  refine (C0.out _).mono ?_
  rintro e w2 ⟨rfl, hx2⟩
  have X2 : Hid (Ext w w2) := Lib.hid (Ext.trans (by repeat (first | with_reducible exact X1.out | with_reducible refine Ext.drew ?_ | with_reducible refine Ext.drewN ?_ _ | with_reducible refine Ext.alloc ?_ _ | with_reducible refine Ext.setCell ?_ (by first | omega | (simp; done) | (simp; omega)) _)) hx2)
  clear hx2 X1
  have zz := X2.out.size
  go_wp2_with fail
  refine (CD.out _).mono ?_
  rintro e w3 ⟨rfl, hx3⟩
  have d0 : w3.cell? ⟨w2.heap.size, 0, none⟩ = some (.int .u64 T) := hx3.has (by first | (simp [go_sem]; done) | (simp [go_sem, World.cell?_alloc_past]; done))
  have d1 : w3.cell? ⟨w2.heap.size, 1, none⟩ = some (.int .u64 S) := hx3.has (by first | (simp [go_sem]; done) | (simp [go_sem, World.cell?_alloc_past]; done))
  have d2 : w3.cell? ⟨w2.heap.size + 1, 0, none⟩ = some (.int .i64 1) := hx3.has (by first | (simp [go_sem]; done) | (simp [go_sem, World.cell?_alloc_past]; done))
  have d3 : w3.cell? ⟨w2.heap.size + 1, 1, none⟩ = some (.int .u64 n) := hx3.has (by first | (simp [go_sem]; done) | (simp [go_sem, World.cell?_alloc_past]; done))
  have z3 := hx3.size
  try simp at z3
  replace r0 : w2.heap.size < w3.heap.size := by omega
  replace r0a : w2.heap.size < w3.heap.size + 1 := by omega
  replace r0b : w2.heap.size < w3.heap.size + 1 + 1 := by omega
  replace r1 : w2.heap.size + 1 < w3.heap.size := by omega
  replace r1a : w2.heap.size + 1 < w3.heap.size + 1 := by omega
  replace r1b : w2.heap.size + 1 < w3.heap.size + 1 + 1 := by omega
  have X3 : Hid (Ext w w3) := Lib.hid (Ext.trans (by repeat (first | with_reducible exact X2.out | with_reducible refine Ext.drew ?_ | with_reducible refine Ext.drewN ?_ _ | with_reducible refine Ext.alloc ?_ _ | with_reducible refine Ext.setCell ?_ (by first | omega | (simp; done) | (simp; omega)) _)) hx3)
  clear hx3 X2 z3
  go_wp2_with fail
  go_ret
  exact ⟨rfl, by have X := X3.out; exact (by repeat (first | assumption | exact Ext.refl _ | refine Ext.drew ?_ | refine Ext.drewN ?_ _ | refine Ext.alloc ?_ _ | refine Ext.setCell ?_ (by first | omega | (simp; done) | (simp; omega)) _ | refine Ext.trans ?_ (by assumption)))⟩
set_option maxRecDepth 100000 in
set_option maxHeartbeats 4000000 in
theorem ShareFair_la_all (t s n other T S T2 V  : Int) (hS0 : (S == 0) = false) (hS : 0 < S) (hS2 : S < 18446744073709551616) (n0 : 0 ≤ n) (n1 : n < 18446744073709551616) (hn : ¬ S < n) (w : World) (C0 : Hid (∀ w, Calls Try.prog 50 #[.int .u64 t, .int .u64 s] w fun r w' => r = .returned (.agg #[.int .u64 T, .int .u64 S]) ∧ Ext w w')) (CD : Hid (∀ w, Calls Try.prog 45 #[.agg #[.int .u64 T, .int .u64 S], .agg #[.int .i64 1, .int .u64 n]] w fun r w' => r = .returned (.tuple #[.agg #[.int .u64 T2, .int .u64 0], .int .u64 V, .int .i64 0]) ∧ Ext w w')) :
    Calls Try.prog 7 #[.int .u64 t, .int .u64 s, .bool false, .int .u64 n, .int .u64 other] w fun r w' => r = .returned (.bool true) ∧ Ext w w' := by
  go_enter Try.func7, Try.ntmps7
  go_wp2_with fail
  refine (ShareKnown_any _).mono ?_
  rintro e w1 ⟨rfl, hx1⟩
  have X1 : Hid (Ext w w1) := Lib.hid (Ext.trans (by repeat (first | with_reducible exact Ext.refl w | with_reducible refine Ext.drew ?_ | with_reducible refine Ext.drewN ?_ _ | with_reducible refine Ext.alloc ?_ _ | with_reducible refine Ext.setCell ?_ (by first | omega | (simp; done) | (simp; omega)) _)) hx1)
  clear hx1
  go_wp2_with fail
  refine (C0.out _).mono ?_
  rintro e w2 ⟨rfl, hx2⟩
  have X2 : Hid (Ext w w2) := Lib.hid (Ext.trans (by repeat (first | with_reducible exact X1.out | with_reducible refine Ext.drew ?_ | with_reducible refine Ext.drewN ?_ _ | with_reducible refine Ext.alloc ?_ _ | with_reducible refine Ext.setCell ?_ (by first | omega | (simp; done) | (simp; omega)) _)) hx2)
  clear hx2 X1
  have zz := X2.out.size
  go_wp2_with fail
  refine (CD.out _).mono ?_
  rintro e w3 ⟨rfl, hx3⟩
  have d0 : w3.cell? ⟨w2.heap.size, 0, none⟩ = some (.int .u64 T) := hx3.has (by first | (simp [go_sem]; done) | (simp [go_sem, World.cell?_alloc_past]; done))
  have d1 : w3.cell? ⟨w2.heap.size, 1, none⟩ = some (.int .u64 S) := hx3.has (by first | (simp [go_sem]; done) | (simp [go_sem, World.cell?_alloc_past]; done))
  have d2 : w3.cell? ⟨w2.heap.size + 1, 0, none⟩ = some (.int .i64 1) := hx3.has (by first | (simp [go_sem]; done) | (simp [go_sem, World.cell?_alloc_past]; done))
  have d3 : w3.cell? ⟨w2.heap.size + 1, 1, none⟩ = some (.int .u64 n) := hx3.has (by first | (simp [go_sem]; done) | (simp [go_sem, World.cell?_alloc_past]; done))
  have z3 := hx3.size
  try simp at z3
  replace r0 : w2.heap.size < w3.heap.size := by omega
  replace r0a : w2.heap.size < w3.heap.size + 1 := by omega
  replace r0b : w2.heap.size < w3.heap.size + 1 + 1 := by omega
  replace r1 : w2.heap.size + 1 < w3.heap.size := by omega
  replace r1a : w2.heap.size + 1 < w3.heap.size + 1 := by omega
  replace r1b : w2.heap.size + 1 < w3.heap.size + 1 + 1 := by omega
  have X3 : Hid (Ext w w3) := Lib.hid (Ext.trans (by repeat (first | with_reducible exact X2.out | with_reducible refine Ext.drew ?_ | with_reducible refine Ext.drewN ?_ _ | with_reducible refine Ext.alloc ?_ _ | with_reducible refine Ext.setCell ?_ (by first | omega | (simp; done) | (simp; omega)) _)) hx3)
  clear hx3 X2 z3
  go_wp2_with fail
  go_ret
  exact ⟨rfl, by have X := X3.out; exact (by repeat (first | assumption | exact Ext.refl _ | refine Ext.drew ?_ | refine Ext.drewN ?_ _ | refine Ext.alloc ?_ _ | refine Ext.setCell ?_ (by first | omega | (simp; done) | (simp; omega)) _ | refine Ext.trans ?_ (by assumption)))⟩
set_option maxRecDepth 100000 in
set_option maxHeartbeats 4000000 in
theorem ShareFair_la_ok (t s n other T S T2 S2 V L O  : Int) (hS0 : (S == 0) = false) (hS : 0 < S) (hS2 : S < 18446744073709551616) (n0 : 0 ≤ n) (n1 : n < 18446744073709551616) (hn : ¬ S < n) (hL : (if S2 < S then S2 else S) = L) (hL0 : (L == 0) = false) (hLp : 0 < L) (hL2 : L < 18446744073709551616) (o0 : 0 ≤ other) (o1 : other < 18446744073709551616) (hO : other % L = O) (hq0 : (S2 == 0) = false) (HO : Hid (B1 O)) (HT : Hid (B1 T)) (HS : Hid (B1 S)) (HT2 : Hid (B1 T2)) (HS2 : Hid (B1 S2)) (H1 : Hid (O * T * S2 ≤ O * T2 * S + S * S2 * 0)) (H2 : Hid (O * T2 * S ≤ O * T * S2 + S2 * S * 1)) (H3 : Hid (O * T2 * S < O * T * S2 + S * S2)) (w : World) (C0 : Hid (∀ w, Calls Try.prog 50 #[.int .u64 t, .int .u64 s] w fun r w' => r = .returned (.agg #[.int .u64 T, .int .u64 S]) ∧ Ext w w')) (CD : Hid (∀ w, Calls Try.prog 45 #[.agg #[.int .u64 T, .int .u64 S], .agg #[.int .i64 1, .int .u64 n]] w fun r w' => r = .returned (.tuple #[.agg #[.int .u64 T2, .int .u64 S2], .int .u64 V, .int .i64 0]) ∧ Ext w w')) :
    Calls Try.prog 7 #[.int .u64 t, .int .u64 s, .bool false, .int .u64 n, .int .u64 other] w fun r w' => r = .returned (.bool true) ∧ Ext w w' := by
  have hmin : ∀ (ts : Array TypeId) (t : TypeId) (w : World), (Builtin.min_ ts t #[.int .u64 S, .int .u64 S2]).run Try.prog w = .ok (.int .u64 L) w := by
    intro ts t w
    rw [run_min_int2, hL]
  clear hL
  go_enter Try.func7, Try.ntmps7
  go_wp2_with fail
  refine (ShareKnown_any _).mono ?_
  rintro e w1 ⟨rfl, hx1⟩
  have X1 : Hid (Ext w w1) := Lib.hid (Ext.trans (by repeat (first | with_reducible exact Ext.refl w | with_reducible refine Ext.drew ?_ | with_reducible refine Ext.drewN ?_ _ | with_reducible refine Ext.alloc ?_ _ | with_reducible refine Ext.setCell ?_ (by first | omega | (simp; done) | (simp; omega)) _)) hx1)
  clear hx1
  go_wp2_with fail
  refine (C0.out _).mono ?_
  rintro e w2 ⟨rfl, hx2⟩
  have X2 : Hid (Ext w w2) := Lib.hid (Ext.trans (by repeat (first | with_reducible exact X1.out | with_reducible refine Ext.drew ?_ | with_reducible refine Ext.drewN ?_ _ | with_reducible refine Ext.alloc ?_ _ | with_reducible refine Ext.setCell ?_ (by first | omega | (simp; done) | (simp; omega)) _)) hx2)
  clear hx2 X1
  have zz := X2.out.size
  go_wp2_with fail
  refine (CD.out _).mono ?_
  rintro e w3 ⟨rfl, hx3⟩
  have d0 : w3.cell? ⟨w2.heap.size, 0, none⟩ = some (.int .u64 T) := hx3.has (by first | (simp [go_sem]; done) | (simp [go_sem, World.cell?_alloc_past]; done))
  have d1 : w3.cell? ⟨w2.heap.size, 1, none⟩ = some (.int .u64 S) := hx3.has (by first | (simp [go_sem]; done) | (simp [go_sem, World.cell?_alloc_past]; done))
  have d2 : w3.cell? ⟨w2.heap.size + 1, 0, none⟩ = some (.int .i64 1) := hx3.has (by first | (simp [go_sem]; done) | (simp [go_sem, World.cell?_alloc_past]; done))
  have d3 : w3.cell? ⟨w2.heap.size + 1, 1, none⟩ = some (.int .u64 n) := hx3.has (by first | (simp [go_sem]; done) | (simp [go_sem, World.cell?_alloc_past]; done))
  have z3 := hx3.size
  try simp at z3
  replace r0 : w2.heap.size < w3.heap.size := by omega
  replace r0a : w2.heap.size < w3.heap.size + 1 := by omega
  replace r0b : w2.heap.size < w3.heap.size + 1 + 1 := by omega
  replace r1 : w2.heap.size + 1 < w3.heap.size := by omega
  replace r1a : w2.heap.size + 1 < w3.heap.size + 1 := by omega
  replace r1b : w2.heap.size + 1 < w3.heap.size + 1 + 1 := by omega
  have X3 : Hid (Ext w w3) := Lib.hid (Ext.trans (by repeat (first | with_reducible exact X2.out | with_reducible refine Ext.drew ?_ | with_reducible refine Ext.drewN ?_ _ | with_reducible refine Ext.alloc ?_ _ | with_reducible refine Ext.setCell ?_ (by first | omega | (simp; done) | (simp; omega)) _)) hx3)
  clear hx3 X2 z3
  go_wp2_with fail
  refine (latMost_true O T S O T2 S2 0 HO.out HT.out HS.out HO.out HT2.out HS2.out ⟨by decide, by decide⟩ H1.out _).mono ?_
  rintro e w4 ⟨rfl, hx4⟩
  replace d0 : w4.cell? ⟨w2.heap.size, 0, none⟩ = some (.int .u64 T) := hx4.has (by first | exact d0 | (simp [go_sem]; done) | (simp [go_sem, World.cell?_alloc_past, d0, r0, r0a, r0b, r1, r1a, r1b]; done))
  replace d1 : w4.cell? ⟨w2.heap.size, 1, none⟩ = some (.int .u64 S) := hx4.has (by first | exact d1 | (simp [go_sem]; done) | (simp [go_sem, World.cell?_alloc_past, d1, r0, r0a, r0b, r1, r1a, r1b]; done))
  replace d2 : w4.cell? ⟨w2.heap.size + 1, 0, none⟩ = some (.int .i64 1) := hx4.has (by first | exact d2 | (simp [go_sem]; done) | (simp [go_sem, World.cell?_alloc_past, d2, r0, r0a, r0b, r1, r1a, r1b]; done))
  replace d3 : w4.cell? ⟨w2.heap.size + 1, 1, none⟩ = some (.int .u64 n) := hx4.has (by first | exact d3 | (simp [go_sem]; done) | (simp [go_sem, World.cell?_alloc_past, d3, r0, r0a, r0b, r1, r1a, r1b]; done))
  have d4 : w4.cell? ⟨w3.heap.size, 0, none⟩ = some (.int .u64 T2) := hx4.has (by first | (simp [go_sem]; done) | (simp [go_sem, World.cell?_alloc_past]; done))
  have d5 : w4.cell? ⟨w3.heap.size, 1, none⟩ = some (.int .u64 S2) := hx4.has (by first | (simp [go_sem]; done) | (simp [go_sem, World.cell?_alloc_past]; done))
  have z4 := hx4.size
  try simp at z4
  replace r0 : w2.heap.size < w4.heap.size := by omega
  replace r0a : w2.heap.size < w4.heap.size + 1 := by omega
  replace r0b : w2.heap.size < w4.heap.size + 1 + 1 := by omega
  replace r1 : w2.heap.size + 1 < w4.heap.size := by omega
  replace r1a : w2.heap.size + 1 < w4.heap.size + 1 := by omega
  replace r1b : w2.heap.size + 1 < w4.heap.size + 1 + 1 := by omega
  replace r2 : w3.heap.size < w4.heap.size := by omega
  replace r2a : w3.heap.size < w4.heap.size + 1 := by omega
  replace r2b : w3.heap.size < w4.heap.size + 1 + 1 := by omega
  have X4 : Hid (Ext w w4) := Lib.hid (Ext.trans (by repeat (first | with_reducible exact X3.out | with_reducible refine Ext.drew ?_ | with_reducible refine Ext.drewN ?_ _ | with_reducible refine Ext.alloc ?_ _ | with_reducible refine Ext.setCell ?_ (by first | omega | (simp; done) | (simp; omega)) _)) hx4)
  clear hx4 X3 z4
  go_wp2_with fail
  refine (latMost_true O T2 S2 O T S 1 HO.out HT2.out HS2.out HO.out HT.out HS.out ⟨by decide, by decide⟩ H2.out _).mono ?_
  rintro e w5 ⟨rfl, hx5⟩
  replace d0 : w5.cell? ⟨w2.heap.size, 0, none⟩ = some (.int .u64 T) := hx5.has (by first | exact d0 | (simp [go_sem]; done) | (simp [go_sem, World.cell?_alloc_past, d0, r0, r0a, r0b, r1, r1a, r1b, r2, r2a, r2b]; done))
  replace d1 : w5.cell? ⟨w2.heap.size, 1, none⟩ = some (.int .u64 S) := hx5.has (by first | exact d1 | (simp [go_sem]; done) | (simp [go_sem, World.cell?_alloc_past, d1, r0, r0a, r0b, r1, r1a, r1b, r2, r2a, r2b]; done))
  replace d2 : w5.cell? ⟨w2.heap.size + 1, 0, none⟩ = some (.int .i64 1) := hx5.has (by first | exact d2 | (simp [go_sem]; done) | (simp [go_sem, World.cell?_alloc_past, d2, r0, r0a, r0b, r1, r1a, r1b, r2, r2a, r2b]; done))
  replace d3 : w5.cell? ⟨w2.heap.size + 1, 1, none⟩ = some (.int .u64 n) := hx5.has (by first | exact d3 | (simp [go_sem]; done) | (simp [go_sem, World.cell?_alloc_past, d3, r0, r0a, r0b, r1, r1a, r1b, r2, r2a, r2b]; done))
  replace d4 : w5.cell? ⟨w3.heap.size, 0, none⟩ = some (.int .u64 T2) := hx5.has (by first | exact d4 | (simp [go_sem]; done) | (simp [go_sem, World.cell?_alloc_past, d4, r0, r0a, r0b, r1, r1a, r1b, r2, r2a, r2b]; done))
  replace d5 : w5.cell? ⟨w3.heap.size, 1, none⟩ = some (.int .u64 S2) := hx5.has (by first | exact d5 | (simp [go_sem]; done) | (simp [go_sem, World.cell?_alloc_past, d5, r0, r0a, r0b, r1, r1a, r1b, r2, r2a, r2b]; done))
  have z5 := hx5.size
  try simp at z5
  replace r0 : w2.heap.size < w5.heap.size := by omega
  replace r0a : w2.heap.size < w5.heap.size + 1 := by omega
  replace r0b : w2.heap.size < w5.heap.size + 1 + 1 := by omega
  replace r1 : w2.heap.size + 1 < w5.heap.size := by omega
  replace r1a : w2.heap.size + 1 < w5.heap.size + 1 := by omega
  replace r1b : w2.heap.size + 1 < w5.heap.size + 1 + 1 := by omega
  replace r2 : w3.heap.size < w5.heap.size := by omega
  replace r2a : w3.heap.size < w5.heap.size + 1 := by omega
  replace r2b : w3.heap.size < w5.heap.size + 1 + 1 := by omega
  have X5 : Hid (Ext w w5) := Lib.hid (Ext.trans (by repeat (first | with_reducible exact X4.out | with_reducible refine Ext.drew ?_ | with_reducible refine Ext.drewN ?_ _ | with_reducible refine Ext.alloc ?_ _ | with_reducible refine Ext.setCell ?_ (by first | omega | (simp; done) | (simp; omega)) _)) hx5)
  clear hx5 X4 z5
  go_wp2_with fail
  refine (lsharper_false O T S T2 S2 HO.out HT.out HS.out HT2.out HS2.out H3.out _).mono ?_
  rintro e w6 ⟨rfl, hx6⟩
  replace d0 : w6.cell? ⟨w2.heap.size, 0, none⟩ = some (.int .u64 T) := hx6.has (by first | exact d0 | (simp [go_sem]; done) | (simp [go_sem, World.cell?_alloc_past, d0, r0, r0a, r0b, r1, r1a, r1b, r2, r2a, r2b]; done))
  replace d1 : w6.cell? ⟨w2.heap.size, 1, none⟩ = some (.int .u64 S) := hx6.has (by first | exact d1 | (simp [go_sem]; done) | (simp [go_sem, World.cell?_alloc_past, d1, r0, r0a, r0b, r1, r1a, r1b, r2, r2a, r2b]; done))
  replace d2 : w6.cell? ⟨w2.heap.size + 1, 0, none⟩ = some (.int .i64 1) := hx6.has (by first | exact d2 | (simp [go_sem]; done) | (simp [go_sem, World.cell?_alloc_past, d2, r0, r0a, r0b, r1, r1a, r1b, r2, r2a, r2b]; done))
  replace d3 : w6.cell? ⟨w2.heap.size + 1, 1, none⟩ = some (.int .u64 n) := hx6.has (by first | exact d3 | (simp [go_sem]; done) | (simp [go_sem, World.cell?_alloc_past, d3, r0, r0a, r0b, r1, r1a, r1b, r2, r2a, r2b]; done))
  replace d4 : w6.cell? ⟨w3.heap.size, 0, none⟩ = some (.int .u64 T2) := hx6.has (by first | exact d4 | (simp [go_sem]; done) | (simp [go_sem, World.cell?_alloc_past, d4, r0, r0a, r0b, r1, r1a, r1b, r2, r2a, r2b]; done))
  replace d5 : w6.cell? ⟨w3.heap.size, 1, none⟩ = some (.int .u64 S2) := hx6.has (by first | exact d5 | (simp [go_sem]; done) | (simp [go_sem, World.cell?_alloc_past, d5, r0, r0a, r0b, r1, r1a, r1b, r2, r2a, r2b]; done))
  have z6 := hx6.size
  try simp at z6
  replace r0 : w2.heap.size < w6.heap.size := by omega
  replace r0a : w2.heap.size < w6.heap.size + 1 := by omega
  replace r0b : w2.heap.size < w6.heap.size + 1 + 1 := by omega
  replace r1 : w2.heap.size + 1 < w6.heap.size := by omega
  replace r1a : w2.heap.size + 1 < w6.heap.size + 1 := by omega
  replace r1b : w2.heap.size + 1 < w6.heap.size + 1 + 1 := by omega
  replace r2 : w3.heap.size < w6.heap.size := by omega
  replace r2a : w3.heap.size < w6.heap.size + 1 := by omega
  replace r2b : w3.heap.size < w6.heap.size + 1 + 1 := by omega
  have X6 : Hid (Ext w w6) := Lib.hid (Ext.trans (by repeat (first | with_reducible exact X5.out | with_reducible refine Ext.drew ?_ | with_reducible refine Ext.drewN ?_ _ | with_reducible refine Ext.alloc ?_ _ | with_reducible refine Ext.setCell ?_ (by first | omega | (simp; done) | (simp; omega)) _)) hx6)
  clear hx6 X5 z6
  go_wp2_with fail
  go_ret
  exact ⟨rfl, by have X := X6.out; exact (by repeat (first | assumption | exact Ext.refl _ | refine Ext.drew ?_ | refine Ext.drewN ?_ _ | refine Ext.alloc ?_ _ | refine Ext.setCell ?_ (by first | omega | (simp; done) | (simp; omega)) _ | refine Ext.trans ?_ (by assumption)))⟩
set_option maxRecDepth 100000 in
set_option maxHeartbeats 4000000 in
theorem ShareFair_lb_err (t s n other T S N : Int) (hS0 : (S == 0) = false) (hS : 0 < S) (hS2 : S < 18446744073709551616) (n0 : 0 ≤ n) (n1 : n < 18446744073709551616) (hn : S < n) (hq : n % S = N) (w : World) (C0 : Hid (∀ w, Calls Try.prog 50 #[.int .u64 t, .int .u64 s] w fun r w' => r = .returned (.agg #[.int .u64 T, .int .u64 S]) ∧ Ext w w')) (CD : Hid (∀ w, Calls Try.prog 45 #[.agg #[.int .u64 T, .int .u64 S], .agg #[.int .i64 1, .int .u64 N]] w fun r w' => r = .returned (.tuple #[.agg #[.int .u64 0, .int .u64 0], .int .u64 0, .int .i64 14]) ∧ Ext w w')) :
    Calls Try.prog 7 #[.int .u64 t, .int .u64 s, .bool false, .int .u64 n, .int .u64 other] w fun r w' => r = .returned (.bool true) ∧ Ext w w' := by
  go_enter Try.func7, Try.ntmps7
  go_wp2_with fail
  refine (ShareKnown_any _).mono ?_
  rintro e w1 ⟨rfl, hx1⟩
  have X1 : Hid (Ext w w1) := Lib.hid (Ext.trans (by repeat (first | with_reducible exact Ext.refl w | with_reducible refine Ext.drew ?_ | with_reducible refine Ext.drewN ?_ _ | with_reducible refine Ext.alloc ?_ _ | with_reducible refine Ext.setCell ?_ (by first | omega | (simp; done) | (simp; omega)) _)) hx1)
  clear hx1
  go_wp2_with fail
  refine (C0.out _).mono ?_
  rintro e w2 ⟨rfl, hx2⟩
  have X2 : Hid (Ext w w2) := Lib.hid (Ext.trans (by repeat (first | with_reducible exact X1.out | with_reducible refine Ext.drew ?_ | with_reducible refine Ext.drewN ?_ _ | with_reducible refine Ext.alloc ?_ _ | with_reducible refine Ext.setCell ?_ (by first | omega | (simp; done) | (simp; omega)) _)) hx2)
  clear hx2 X1
  have zz := X2.out.size
  go_wp2_with fail
  refine (CD.out _).mono ?_
  rintro e w3 ⟨rfl, hx3⟩
  have d0 : w3.cell? ⟨w2.heap.size, 0, none⟩ = some (.int .u64 T) := hx3.has (by first | (simp [go_sem]; done) | (simp [go_sem, World.cell?_alloc_past]; done))
  have d1 : w3.cell? ⟨w2.heap.size, 1, none⟩ = some (.int .u64 S) := hx3.has (by first | (simp [go_sem]; done) | (simp [go_sem, World.cell?_alloc_past]; done))
  have d2 : w3.cell? ⟨w2.heap.size + 1, 0, none⟩ = some (.int .i64 1) := hx3.has (by first | (simp [go_sem]; done) | (simp [go_sem, World.cell?_alloc_past]; done))
  have d3 : w3.cell? ⟨w2.heap.size + 1, 1, none⟩ = some (.int .u64 N) := hx3.has (by first | (simp [go_sem]; done) | (simp [go_sem, World.cell?_alloc_past]; done))
  have z3 := hx3.size
  try simp at z3
  replace r0 : w2.heap.size < w3.heap.size := by omega
  replace r0a : w2.heap.size < w3.heap.size + 1 := by omega
  replace r0b : w2.heap.size < w3.heap.size + 1 + 1 := by omega
  replace r1 : w2.heap.size + 1 < w3.heap.size := by omega
  replace r1a : w2.heap.size + 1 < w3.heap.size + 1 := by omega
  replace r1b : w2.heap.size + 1 < w3.heap.size + 1 + 1 := by omega
  have X3 : Hid (Ext w w3) := Lib.hid (Ext.trans (by repeat (first | with_reducible exact X2.out | with_reducible refine Ext.drew ?_ | with_reducible refine Ext.drewN ?_ _ | with_reducible refine Ext.alloc ?_ _ | with_reducible refine Ext.setCell ?_ (by first | omega | (simp; done) | (simp; omega)) _)) hx3)
  clear hx3 X2 z3
  go_wp2_with fail
  go_ret
  exact ⟨rfl, by have X := X3.out; exact (by repeat (first | assumption | exact Ext.refl _ | refine Ext.drew ?_ | refine Ext.drewN ?_ _ | refine Ext.alloc ?_ _ | refine Ext.setCell ?_ (by first | omega | (simp; done) | (simp; omega)) _ | refine Ext.trans ?_ (by assumption)))⟩
set_option maxRecDepth 100000 in
set_option maxHeartbeats 4000000 in
theorem ShareFair_lb_all (t s n other T S T2 V N : Int) (hS0 : (S == 0) = false) (hS : 0 < S) (hS2 : S < 18446744073709551616) (n0 : 0 ≤ n) (n1 : n < 18446744073709551616) (hn : S < n) (hq : n % S = N) (w : World) (C0 : Hid (∀ w, Calls Try.prog 50 #[.int .u64 t, .int .u64 s] w fun r w' => r = .returned (.agg #[.int .u64 T, .int .u64 S]) ∧ Ext w w')) (CD : Hid (∀ w, Calls Try.prog 45 #[.agg #[.int .u64 T, .int .u64 S], .agg #[.int .i64 1, .int .u64 N]] w fun r w' => r = .returned (.tuple #[.agg #[.int .u64 T2, .int .u64 0], .int .u64 V, .int .i64 0]) ∧ Ext w w')) :
    Calls Try.prog 7 #[.int .u64 t, .int .u64 s, .bool false, .int .u64 n, .int .u64 other] w fun r w' => r = .returned (.bool true) ∧ Ext w w' := by
  go_enter Try.func7, Try.ntmps7
  go_wp2_with fail
  refine (ShareKnown_any _).mono ?_
  rintro e w1 ⟨rfl, hx1⟩
  have X1 : Hid (Ext w w1) := Lib.hid (Ext.trans (by repeat (first | with_reducible exact Ext.refl w | with_reducible refine Ext.drew ?_ | with_reducible refine Ext.drewN ?_ _ | with_reducible refine Ext.alloc ?_ _ | with_reducible refine Ext.setCell ?_ (by first | omega | (simp; done) | (simp; omega)) _)) hx1)
  clear hx1
  go_wp2_with fail
  refine (C0.out _).mono ?_
  rintro e w2 ⟨rfl, hx2⟩
  have X2 : Hid (Ext w w2) := Lib.hid (Ext.trans (by repeat (first | with_reducible exact X1.out | with_reducible refine Ext.drew ?_ | with_reducible refine Ext.drewN ?_ _ | with_reducible refine Ext.alloc ?_ _ | with_reducible refine Ext.setCell ?_ (by first | omega | (simp; done) | (simp; omega)) _)) hx2)
  clear hx2 X1
  have zz := X2.out.size
  go_wp2_with fail
  refine (CD.out _).mono ?_
  rintro e w3 ⟨rfl, hx3⟩
  have d0 : w3.cell? ⟨w2.heap.size, 0, none⟩ = some (.int .u64 T) := hx3.has (by first | (simp [go_sem]; done) | (simp [go_sem, World.cell?_alloc_past]; done))
  have d1 : w3.cell? ⟨w2.heap.size, 1, none⟩ = some (.int .u64 S) := hx3.has (by first | (simp [go_sem]; done) | (simp [go_sem, World.cell?_alloc_past]; done))
  have d2 : w3.cell? ⟨w2.heap.size + 1, 0, none⟩ = some (.int .i64 1) := hx3.has (by first | (simp [go_sem]; done) | (simp [go_sem, World.cell?_alloc_past]; done))
  have d3 : w3.cell? ⟨w2.heap.size + 1, 1, none⟩ = some (.int .u64 N) := hx3.has (by first | (simp [go_sem]; done) | (simp [go_sem, World.cell?_alloc_past]; done))
  have z3 := hx3.size
  try simp at z3
  replace r0 : w2.heap.size < w3.heap.size := by omega
  replace r0a : w2.heap.size < w3.heap.size + 1 := by omega
  replace r0b : w2.heap.size < w3.heap.size + 1 + 1 := by omega
  replace r1 : w2.heap.size + 1 < w3.heap.size := by omega
  replace r1a : w2.heap.size + 1 < w3.heap.size + 1 := by omega
  replace r1b : w2.heap.size + 1 < w3.heap.size + 1 + 1 := by omega
  have X3 : Hid (Ext w w3) := Lib.hid (Ext.trans (by repeat (first | with_reducible exact X2.out | with_reducible refine Ext.drew ?_ | with_reducible refine Ext.drewN ?_ _ | with_reducible refine Ext.alloc ?_ _ | with_reducible refine Ext.setCell ?_ (by first | omega | (simp; done) | (simp; omega)) _)) hx3)
  clear hx3 X2 z3
  go_wp2_with fail
  go_ret
  exact ⟨rfl, by have X := X3.out; exact (by repeat (first | assumption | exact Ext.refl _ | refine Ext.drew ?_ | refine Ext.drewN ?_ _ | refine Ext.alloc ?_ _ | refine Ext.setCell ?_ (by first | omega | (simp; done) | (simp; omega)) _ | refine Ext.trans ?_ (by assumption)))⟩
set_option maxRecDepth 100000 in
set_option maxHeartbeats 4000000 in
theorem ShareFair_lb_ok (t s n other T S T2 S2 V L O N : Int) (hS0 : (S == 0) = false) (hS : 0 < S) (hS2 : S < 18446744073709551616) (n0 : 0 ≤ n) (n1 : n < 18446744073709551616) (hn : S < n) (hq : n % S = N) (hL : (if S2 < S then S2 else S) = L) (hL0 : (L == 0) = false) (hLp : 0 < L) (hL2 : L < 18446744073709551616) (o0 : 0 ≤ other) (o1 : other < 18446744073709551616) (hO : other % L = O) (hq0 : (S2 == 0) = false) (HO : Hid (B1 O)) (HT : Hid (B1 T)) (HS : Hid (B1 S)) (HT2 : Hid (B1 T2)) (HS2 : Hid (B1 S2)) (H1 : Hid (O * T * S2 ≤ O * T2 * S + S * S2 * 0)) (H2 : Hid (O * T2 * S ≤ O * T * S2 + S2 * S * 1)) (H3 : Hid (O * T2 * S < O * T * S2 + S * S2)) (w : World) (C0 : Hid (∀ w, Calls Try.prog 50 #[.int .u64 t, .int .u64 s] w fun r w' => r = .returned (.agg #[.int .u64 T, .int .u64 S]) ∧ Ext w w')) (CD : Hid (∀ w, Calls Try.prog 45 #[.agg #[.int .u64 T, .int .u64 S], .agg #[.int .i64 1, .int .u64 N]] w fun r w' => r = .returned (.tuple #[.agg #[.int .u64 T2, .int .u64 S2], .int .u64 V, .int .i64 0]) ∧ Ext w w')) :
    Calls Try.prog 7 #[.int .u64 t, .int .u64 s, .bool false, .int .u64 n, .int .u64 other] w fun r w' => r = .returned (.bool true) ∧ Ext w w' := by
  have hmin : ∀ (ts : Array TypeId) (t : TypeId) (w : World), (Builtin.min_ ts t #[.int .u64 S, .int .u64 S2]).run Try.prog w = .ok (.int .u64 L) w := by
    intro ts t w
    rw [run_min_int2, hL]
  clear hL
  go_enter Try.func7, Try.ntmps7
  go_wp2_with fail
  refine (ShareKnown_any _).mono ?_
  rintro e w1 ⟨rfl, hx1⟩
  have X1 : Hid (Ext w w1) := Lib.hid (Ext.trans (by repeat (first | with_reducible exact Ext.refl w | with_reducible refine Ext.drew ?_ | with_reducible refine Ext.drewN ?_ _ | with_reducible refine Ext.alloc ?_ _ | with_reducible refine Ext.setCell ?_ (by first | omega | (simp; done) | (simp; omega)) _)) hx1)
  clear hx1
  go_wp2_with fail
  refine (C0.out _).mono ?_
  rintro e w2 ⟨rfl, hx2⟩
  have X2 : Hid (Ext w w2) := Lib.hid (Ext.trans (by repeat (first | with_reducible exact X1.out | with_reducible refine Ext.drew ?_ | with_reducible refine Ext.drewN ?_ _ | with_reducible refine Ext.alloc ?_ _ | with_reducible refine Ext.setCell ?_ (by first | omega | (simp; done) | (simp; omega)) _)) hx2)
  clear hx2 X1
  have zz := X2.out.size
  go_wp2_with fail
  refine (CD.out _).mono ?_
  rintro e w3 ⟨rfl, hx3⟩
  have d0 : w3.cell? ⟨w2.heap.size, 0, none⟩ = some (.int .u64 T) := hx3.has (by first | (simp [go_sem]; done) | (simp [go_sem, World.cell?_alloc_past]; done))
  have d1 : w3.cell? ⟨w2.heap.size, 1, none⟩ = some (.int .u64 S) := hx3.has (by first | (simp [go_sem]; done) | (simp [go_sem, World.cell?_alloc_past]; done))
  have d2 : w3.cell? ⟨w2.heap.size + 1, 0, none⟩ = some (.int .i64 1) := hx3.has (by first | (simp [go_sem]; done) | (simp [go_sem, World.cell?_alloc_past]; done))
  have d3 : w3.cell? ⟨w2.heap.size + 1, 1, none⟩ = some (.int .u64 N) := hx3.has (by first | (simp [go_sem]; done) | (simp [go_sem, World.cell?_alloc_past]; done))
  have z3 := hx3.size
  try simp at z3
  replace r0 : w2.heap.size < w3.heap.size := by omega
  replace r0a : w2.heap.size < w3.heap.size + 1 := by omega
  replace r0b : w2.heap.size < w3.heap.size + 1 + 1 := by omega
  replace r1 : w2.heap.size + 1 < w3.heap.size := by omega
  replace r1a : w2.heap.size + 1 < w3.heap.size + 1 := by omega
  replace r1b : w2.heap.size + 1 < w3.heap.size + 1 + 1 := by omega
  have X3 : Hid (Ext w w3) := Lib.hid (Ext.trans (by repeat (first | with_reducible exact X2.out | with_reducible refine Ext.drew ?_ | with_reducible refine Ext.drewN ?_ _ | with_reducible refine Ext.alloc ?_ _ | with_reducible refine Ext.setCell ?_ (by first | omega | (simp; done) | (simp; omega)) _)) hx3)
  clear hx3 X2 z3
  go_wp2_with fail
  refine (latMost_true O T S O T2 S2 0 HO.out HT.out HS.out HO.out HT2.out HS2.out ⟨by decide, by decide⟩ H1.out _).mono ?_
  rintro e w4 ⟨rfl, hx4⟩
  replace d0 : w4.cell? ⟨w2.heap.size, 0, none⟩ = some (.int .u64 T) := hx4.has (by first | exact d0 | (simp [go_sem]; done) | (simp [go_sem, World.cell?_alloc_past, d0, r0, r0a, r0b, r1, r1a, r1b]; done))
  replace d1 : w4.cell? ⟨w2.heap.size, 1, none⟩ = some (.int .u64 S) := hx4.has (by first | exact d1 | (simp [go_sem]; done) | (simp [go_sem, World.cell?_alloc_past, d1, r0, r0a, r0b, r1, r1a, r1b]; done))
  replace d2 : w4.cell? ⟨w2.heap.size + 1, 0, none⟩ = some (.int .i64 1) := hx4.has (by first | exact d2 | (simp [go_sem]; done) | (simp [go_sem, World.cell?_alloc_past, d2, r0, r0a, r0b, r1, r1a, r1b]; done))
  replace d3 : w4.cell? ⟨w2.heap.size + 1, 1, none⟩ = some (.int .u64 N) := hx4.has (by first | exact d3 | (simp [go_sem]; done) | (simp [go_sem, World.cell?_alloc_past, d3, r0, r0a, r0b, r1, r1a, r1b]; done))
  have d4 : w4.cell? ⟨w3.heap.size, 0, none⟩ = some (.int .u64 T2) := hx4.has (by first | (simp [go_sem]; done) | (simp [go_sem, World.cell?_alloc_past]; done))
  have d5 : w4.cell? ⟨w3.heap.size, 1, none⟩ = some (.int .u64 S2) := hx4.has (by first | (simp [go_sem]; done) | (simp [go_sem, World.cell?_alloc_past]; done))
  have z4 := hx4.size
  try simp at z4
  replace r0 : w2.heap.size < w4.heap.size := by omega
  replace r0a : w2.heap.size < w4.heap.size + 1 := by omega
  replace r0b : w2.heap.size < w4.heap.size + 1 + 1 := by omega
  replace r1 : w2.heap.size + 1 < w4.heap.size := by omega
  replace r1a : w2.heap.size + 1 < w4.heap.size + 1 := by omega
  replace r1b : w2.heap.size + 1 < w4.heap.size + 1 + 1 := by omega
  replace r2 : w3.heap.size < w4.heap.size := by omega
  replace r2a : w3.heap.size < w4.heap.size + 1 := by omega
  replace r2b : w3.heap.size < w4.heap.size + 1 + 1 := by omega
  have X4 : Hid (Ext w w4) := Lib.hid (Ext.trans (by repeat (first | with_reducible exact X3.out | with_reducible refine Ext.drew ?_ | with_reducible refine Ext.drewN ?_ _ | with_reducible refine Ext.alloc ?_ _ | with_reducible refine Ext.setCell ?_ (by first | omega | (simp; done) | (simp; omega)) _)) hx4)
  clear hx4 X3 z4
  go_wp2_with fail
  refine (latMost_true O T2 S2 O T S 1 HO.out HT2.out HS2.out HO.out HT.out HS.out ⟨by decide, by decide⟩ H2.out _).mono ?_
  rintro e w5 ⟨rfl, hx5⟩
  replace d0 : w5.cell? ⟨w2.heap.size, 0, none⟩ = some (.int .u64 T) := hx5.has (by first | exact d0 | (simp [go_sem]; done) | (simp [go_sem, World.cell?_alloc_past, d0, r0, r0a, r0b, r1, r1a, r1b, r2, r2a, r2b]; done))
  replace d1 : w5.cell? ⟨w2.heap.size, 1, none⟩ = some (.int .u64 S) := hx5.has (by first | exact d1 | (simp [go_sem]; done) | (simp [go_sem, World.cell?_alloc_past, d1, r0, r0a, r0b, r1, r1a, r1b, r2, r2a, r2b]; done))
  replace d2 : w5.cell? ⟨w2.heap.size + 1, 0, none⟩ = some (.int .i64 1) := hx5.has (by first | exact d2 | (simp [go_sem]; done) | (simp [go_sem, World.cell?_alloc_past, d2, r0, r0a, r0b, r1, r1a, r1b, r2, r2a, r2b]; done))
  replace d3 : w5.cell? ⟨w2.heap.size + 1, 1, none⟩ = some (.int .u64 N) := hx5.has (by first | exact d3 | (simp [go_sem]; done) | (simp [go_sem, World.cell?_alloc_past, d3, r0, r0a, r0b, r1, r1a, r1b, r2, r2a, r2b]; done))
  replace d4 : w5.cell? ⟨w3.heap.size, 0, none⟩ = some (.int .u64 T2) := hx5.has (by first | exact d4 | (simp [go_sem]; done) | (simp [go_sem, World.cell?_alloc_past, d4, r0, r0a, r0b, r1, r1a, r1b, r2, r2a, r2b]; done))
  replace d5 : w5.cell? ⟨w3.heap.size, 1, none⟩ = some (.int .u64 S2) := hx5.has (by first | exact d5 | (simp [go_sem]; done) | (simp [go_sem, World.cell?_alloc_past, d5, r0, r0a, r0b, r1, r1a, r1b, r2, r2a, r2b]; done))
  have z5 := hx5.size
  try simp at z5
  replace r0 : w2.heap.size < w5.heap.size := by omega
  replace r0a : w2.heap.size < w5.heap.size + 1 := by omega
  replace r0b : w2.heap.size < w5.heap.size + 1 + 1 := by omega
  replace r1 : w2.heap.size + 1 < w5.heap.size := by omega
  replace r1a : w2.heap.size + 1 < w5.heap.size + 1 := by omega
  replace r1b : w2.heap.size + 1 < w5.heap.size + 1 + 1 := by omega
  replace r2 : w3.heap.size < w5.heap.size := by omega
  replace r2a : w3.heap.size < w5.heap.size + 1 := by omega
  replace r2b : w3.heap.size < w5.heap.size + 1 + 1 := by omega
  have X5 : Hid (Ext w w5) := Lib.hid (Ext.trans (by repeat (first | with_reducible exact X4.out | with_reducible refine Ext.drew ?_ | with_reducible refine Ext.drewN ?_ _ | with_reducible refine Ext.alloc ?_ _ | with_reducible refine Ext.setCell ?_ (by first | omega | (simp; done) | (simp; omega)) _)) hx5)
  clear hx5 X4 z5
  go_wp2_with fail
  refine (lsharper_false O T S T2 S2 HO.out HT.out HS.out HT2.out HS2.out H3.out _).mono ?_
  rintro e w6 ⟨rfl, hx6⟩
  replace d0 : w6.cell? ⟨w2.heap.size, 0, none⟩ = some (.int .u64 T) := hx6.has (by first | exact d0 | (simp [go_sem]; done) | (simp [go_sem, World.cell?_alloc_past, d0, r0, r0a, r0b, r1, r1a, r1b, r2, r2a, r2b]; done))
  replace d1 : w6.cell? ⟨w2.heap.size, 1, none⟩ = some (.int .u64 S) := hx6.has (by first | exact d1 | (simp [go_sem]; done) | (simp [go_sem, World.cell?_alloc_past, d1, r0, r0a, r0b, r1, r1a, r1b, r2, r2a, r2b]; done))
  replace d2 : w6.cell? ⟨w2.heap.size + 1, 0, none⟩ = some (.int .i64 1) := hx6.has (by first | exact d2 | (simp [go_sem]; done) | (simp [go_sem, World.cell?_alloc_past, d2, r0, r0a, r0b, r1, r1a, r1b, r2, r2a, r2b]; done))
  replace d3 : w6.cell? ⟨w2.heap.size + 1, 1, none⟩ = some (.int .u64 N) := hx6.has (by first | exact d3 | (simp [go_sem]; done) | (simp [go_sem, World.cell?_alloc_past, d3, r0, r0a, r0b, r1, r1a, r1b, r2, r2a, r2b]; done))
  replace d4 : w6.cell? ⟨w3.heap.size, 0, none⟩ = some (.int .u64 T2) := hx6.has (by first | exact d4 | (simp [go_sem]; done) | (simp [go_sem, World.cell?_alloc_past, d4, r0, r0a, r0b, r1, r1a, r1b, r2, r2a, r2b]; done))
  replace d5 : w6.cell? ⟨w3.heap.size, 1, none⟩ = some (.int .u64 S2) := hx6.has (by first | exact d5 | (simp [go_sem]; done) | (simp [go_sem, World.cell?_alloc_past, d5, r0, r0a, r0b, r1, r1a, r1b, r2, r2a, r2b]; done))
  have z6 := hx6.size
  try simp at z6
  replace r0 : w2.heap.size < w6.heap.size := by omega
  replace r0a : w2.heap.size < w6.heap.size + 1 := by omega
  replace r0b : w2.heap.size < w6.heap.size + 1 + 1 := by omega
  replace r1 : w2.heap.size + 1 < w6.heap.size := by omega
  replace r1a : w2.heap.size + 1 < w6.heap.size + 1 := by omega
  replace r1b : w2.heap.size + 1 < w6.heap.size + 1 + 1 := by omega
  replace r2 : w3.heap.size < w6.heap.size := by omega
  replace r2a : w3.heap.size < w6.heap.size + 1 := by omega
  replace r2b : w3.heap.size < w6.heap.size + 1 + 1 := by omega
  have X6 : Hid (Ext w w6) := Lib.hid (Ext.trans (by repeat (first | with_reducible exact X5.out | with_reducible refine Ext.drew ?_ | with_reducible refine Ext.drewN ?_ _ | with_reducible refine Ext.alloc ?_ _ | with_reducible refine Ext.setCell ?_ (by first | omega | (simp; done) | (simp; omega)) _)) hx6)
  clear hx6 X5 z6
  go_wp2_with fail
  go_ret
  exact ⟨rfl, by have X := X6.out; exact (by repeat (first | assumption | exact Ext.refl _ | refine Ext.drew ?_ | refine Ext.drewN ?_ _ | refine Ext.alloc ?_ _ | refine Ext.setCell ?_ (by first | omega | (simp; done) | (simp; omega)) _ | refine Ext.trans ?_ (by assumption)))⟩
theorem ShareFair_any (t : Int) (ft : Fits .u64 t) (s : Int) (fs : Fits .u64 s) (j : Bool) (n : Int) (fn : Fits .u64 n) (other : Int) (fo : Fits .u64 other) (w : World) :
    Calls Try.prog 7 #[.int .u64 t, .int .u64 s, .bool j, .int .u64 n, .int .u64 other] w fun r w' => r = .returned (.bool true) ∧ Ext w w' := by
  have P := of_ok ft.u64 fs.u64
  have C0 := lof_any t s ft.u64 fs.u64
  generalize ofT t = T at P C0
  generalize ofS t s = S at P C0
  obtain ⟨n0, n1⟩ := fn.u64
  obtain ⟨o0, o1⟩ := fo.u64
  have hT0 := P.t0
  have hTS := P.ts
  have hS2 := P.sm
  by_cases hz : S = 0
  · have e : T = 0 := by omega
    subst hz; subst e
    exact ShareFair_none t s n other j w C0
  have hS : 0 < S := by omega
  have hT : 0 < T := by
    rcases Int.lt_or_le 0 T with h | h
    · exact h
    · exact absurd (P.z (by omega)) hz
  cases j
  · -- a Leave
    have main : ∀ N : Int, Word N → N ≤ S → (∀ CD' : Prop, True) → ((¬ S < n ∧ N = n) ∨ (S < n ∧ n % S = N)) → Calls Try.prog 7 #[.int .u64 t, .int .u64 s, .bool false, .int .u64 n, .int .u64 other] w fun r w' => r = .returned (.bool true) ∧ Ext w w' := by
      intro N hN hNS _ hv
      by_cases he : leaE T S N = 0
      · obtain ⟨a1, a2, a3, a4, a5, a6, a7, a8, a9, a10, a11⟩ := leave_ok P hN he
        have CD := ldoes_at 1 T S N (T - leaN T S N) (S - N) (leaN T S N) 0 P.wt P.ws hN a3 a4 rfl he
        generalize leaN T S N = V at *
        by_cases hq : S - N = 0
        · rw [hq] at CD
          rcases hv with ⟨h1, rfl⟩ | ⟨h1, h2⟩
          · exact ShareFair_la_all t s N other T S (T - V) V (beq_false_of_ne hz) hS hS2 n0 n1 h1 w C0 CD
          · exact ShareFair_lb_all t s n other T S (T - V) V N (beq_false_of_ne hz) hS hS2 n0 n1 h1 h2 w C0 CD
        · have hL : (if S - N < S then S - N else S) = S - N := if_pos (by omega)
          have x0 := Int.emod_nonneg other hq
          have x1 := Int.emod_lt_of_pos other (by omega : 0 < S - N)
          obtain ⟨f1, f2⟩ := fair_leave P a9 a1 a10 a11 x0 x1
          have BO : B1 (other % (S - N)) := ⟨x0, by omega⟩
          have BT : B1 T := P.wt
          have BS : B1 S := P.ws
          have BT2 : B1 (T - V) := a8.wt
          have BS2 : B1 (S - N) := a8.ws
          generalize hO : other % (S - N) = O at *
          have G1 : O * T * (S - N) ≤ O * (T - V) * S + S * (S - N) * 0 := by omega
          have G2 : O * (T - V) * S ≤ O * T * (S - N) + (S - N) * S * 1 := by rw [Int.mul_comm (S - N) S, Int.mul_one]; omega
          generalize hT2 : T - V = T2 at *
          generalize hS2' : S - N = S2 at *
          rcases hv with ⟨h1, rfl⟩ | ⟨h1, h2⟩
          · exact ShareFair_la_ok t s N other T S T2 S2 V S2 O (beq_false_of_ne hz) hS hS2 n0 n1 h1 hL (beq_false_of_ne hq) (by omega) BS2.2 o0 o1 hO (beq_false_of_ne hq) BO BT BS BT2 BS2 G1 G2 f2 w C0 CD
          · exact ShareFair_lb_ok t s n other T S T2 S2 V S2 O N (beq_false_of_ne hz) hS hS2 n0 n1 h1 h2 hL (beq_false_of_ne hq) (by omega) BS2.2 o0 o1 hO (beq_false_of_ne hq) BO BT BS BT2 BS2 G1 G2 f2 w C0 CD
      · have ee := leave_err P hNS he
        have CD := ldoes_at 1 T S N 0 0 0 14 P.wt P.ws hN (if_neg he) (if_neg he) (if_neg he) ee
        rcases hv with ⟨h1, rfl⟩ | ⟨h1, h2⟩
        · exact ShareFair_la_err t s N other T S (beq_false_of_ne hz) hS hS2 n0 n1 h1 w C0 CD
        · exact ShareFair_lb_err t s n other T S N (beq_false_of_ne hz) hS hS2 n0 n1 h1 h2 w C0 CD
    by_cases hn : S < n
    · have x0 := Int.emod_nonneg n hz
      have x1 := Int.emod_lt_of_pos n hS
      exact main (n % S) ⟨x0, by omega⟩ (by omega) (fun _ => trivial) (.inr ⟨hn, rfl⟩)
    · exact main n fn.u64 (by omega) (fun _ => trivial) (.inl ⟨hn, rfl⟩)
  · -- a Join
    have r0 := Int.emod_nonneg n (by decide : (4611686018427387904 : Int) ≠ 0)
    have r1 := Int.emod_lt_of_pos n (by decide : (0 : Int) < 4611686018427387904)
    generalize hr : n % 4611686018427387904 = r at r0 r1
    have hN : Word (1 + r) := ⟨by omega, by omega⟩
    by_cases he : joiE T S (1 + r) = 0
    · obtain ⟨a1, a2, a3, a4, a5, a6, a7⟩ := join_ok P hN he
      obtain ⟨a8, a9⟩ := a7 hT
      have CD := ldoes_at 0 T S (1 + r) (T + (1 + r)) (S + joiN T S (1 + r)) (joiN T S (1 + r)) 0 P.wt P.ws hN a2 a3 rfl he
      generalize joiN T S (1 + r) = V at *
      have hL : (if S + V < S then S + V else S) = S := if_neg (by omega)
      have x0 := Int.emod_nonneg other hz
      have x1 := Int.emod_lt_of_pos other hS
      obtain ⟨f1, f2, f3, f4, f5⟩ := fair_join P hT a1 a4 a8 a9 x0 x1
      have hq0 : ¬ S + V = 0 := by omega
      have BO : B1 (other % S) := ⟨x0, by omega⟩
      generalize hO : other % S = O at *
      generalize hN1 : 1 + r = N at *
      have G1 : O * T * (S + V) ≤ O * (T + N) * S + S * (S + V) * 0 := by omega
      have G2 : O * (T + N) * S ≤ O * T * (S + V) + (S + V) * S * 1 := by rw [Int.mul_comm (S + V) S, Int.mul_one]; omega
      have G4 : V * (T + N) * 1 ≤ 1 * N * (S + V) + (S + V) * 1 * 0 := by rw [Int.mul_one, Int.one_mul, Int.mul_zero]; omega
      have G5 : 1 * N * (S + V) ≤ V * (T + N) * 1 + 1 * (S + V) * 1 := by rw [Int.mul_one, Int.one_mul, Int.mul_one, Int.one_mul]; omega
      have BT : B1 T := P.wt
      have BS : B1 S := P.ws
      have BT2 : B1 (T + N) := a5.wt
      have BS2 : B1 (S + V) := a5.ws
      have BV : B1 V := ⟨by omega, by have := BS2.2; omega⟩
      have BN : B1 N := hN
      generalize hT2 : T + N = T2 at *
      generalize hS2' : S + V = S2 at *
      subst hN1
      exact ShareFair_join_ok t s n other T S T2 S2 V S O r (beq_false_of_ne hz) hS hS2 n0 n1 hr r0 r1 hL (beq_false_of_ne hz) hS hS2 o0 o1 hO (beq_false_of_ne hq0) BO BT BS BT2 BS2 G1 G2 f2 BV BN G4 G5 f5 w C0 CD
    · have ee := join_err P (by omega : (1 + r) ≠ 0) he
      have CD := ldoes_at 0 T S (1 + r) 0 0 0 12 P.wt P.ws hN (if_neg he) (if_neg he) (if_neg he) ee
      exact ShareFair_join_err t s n other T S r (beq_false_of_ne hz) hS hS2 n0 n1 hr r0 r1 w C0 CD
end Go.Proofs.Ythaknigljjnnaaa
