/- law12: awake and StampKnown return true (the chapter's examples). Conditions: none. -/
import Derived.Test.YthaknigljjnnaaaStampK
import Derived.Test.YthaknigljjnnaaaHeld
set_option linter.unusedVariables false
set_option linter.unusedSimpArgs false
namespace Go.Proofs.Ythaknigljjnnaaa
open Go.RowKit

theorem tBacked_at (V S P F v h u : Int) (b : Bool) (hb : bkdB V S P F v h u = b) (w : World) :
    Calls Try.prog 63 #[.agg #[.int .i64 V, .int .i64 S, .int .i64 P, .int .i64 F], .int .i64 v, .int .i64 h, .int .i64 u] w fun r w' => r = .returned (.bool b) ∧ Ext w w' := by
  rw [← hb]; exact tBacked_any V S P F v h u w
theorem tCompare_at (a b c d a' b' c' d' x : Int) (hx : cmpL [(a, a'), (b, b'), (c, c'), (d, d')] = x) (w : World) :
    Calls Try.prog 66 #[.agg #[.int .i64 a, .int .i64 b, .int .i64 c, .int .i64 d], .agg #[.int .i64 a', .int .i64 b', .int .i64 c', .int .i64 d']] w fun r w' => r = .returned (.int .i64 x) ∧ Ext w w' := by
  rw [← hx]; exact tCompare_any a b c d a' b' c' d' w
theorem tCheck_at (V S P F e : Int) (he : chkS V S P F = e) (w : World) :
    Calls Try.prog 64 #[.agg #[.int .i64 V, .int .i64 S, .int .i64 P, .int .i64 F]] w fun r w' => r = .returned (.int .i64 e) ∧ Ext w w' := by
  rw [← he]; exact tCheck_any V S P F w
set_option maxRecDepth 100000 in
set_option maxHeartbeats 4000000 in
theorem awake12_any (w : World) : Calls Try.prog 13 #[] w fun r w' => r = .returned (.bool true) ∧ Ext w w' := by
  go_enter Try.func13, Try.ntmps13
  go_wp2_with fail
  (with_reducible refine (lchapter12_any _).mono ?_)
  rintro e w1 ⟨rfl, hx1⟩
  have X1 : Hid (Ext w w1) := Lib.hid (Ext.trans (by repeat (first | with_reducible exact Ext.refl w | with_reducible refine Ext.drew ?_ | with_reducible refine Ext.drewN ?_ _ | with_reducible refine Ext.alloc ?_ _ | with_reducible refine Ext.setCell ?_ (by first | omega | (simp; done) | (simp; omega)) _)) hx1)
  clear hx1
  go_wp2_with fail
  go_region_held3 (fun w' => w'.cell? ⟨w1.heap.size, 0, none⟩ = some (.int .i64 2) ∧ w'.cell? ⟨w1.heap.size, 1, none⟩ = some (.int .i64 9) ∧ w'.cell? ⟨w1.heap.size, 2, none⟩ = some (.int .i64 1) ∧ w'.cell? ⟨w1.heap.size, 3, none⟩ = some (.int .i64 5))
    (first | exact ⟨d0, d1, d2, d3⟩ | (simp [go_sem, World.cell?_alloc_past]; done) | (simp [go_sem, World.cell?_alloc_past, go_sem, go_sem]; done))
    (first
      | (have hst := X9
         clear hst
         go_at_call 66
         (with_reducible refine (tCompare_at 2 9 (-1) 0 2 9 1 5 (-1) (by decide) _).mono ?_)
         rintro e w10 ⟨rfl, hx10⟩
         replace d0 : w10.cell? ⟨w1.heap.size, 0, none⟩ = some (.int .i64 2) := hx10.has (by first | exact d0 | (simp [go_sem]; done) | (simp [go_sem, World.cell?_alloc_past, d0, r0, r0a, r0b]; done))
         replace d1 : w10.cell? ⟨w1.heap.size, 1, none⟩ = some (.int .i64 9) := hx10.has (by first | exact d1 | (simp [go_sem]; done) | (simp [go_sem, World.cell?_alloc_past, d1, r0, r0a, r0b]; done))
         replace d2 : w10.cell? ⟨w1.heap.size, 2, none⟩ = some (.int .i64 1) := hx10.has (by first | exact d2 | (simp [go_sem]; done) | (simp [go_sem, World.cell?_alloc_past, d2, r0, r0a, r0b]; done))
         replace d3 : w10.cell? ⟨w1.heap.size, 3, none⟩ = some (.int .i64 5) := hx10.has (by first | exact d3 | (simp [go_sem]; done) | (simp [go_sem, World.cell?_alloc_past, d3, r0, r0a, r0b]; done))
         have z10 := hx10.size
         try simp at z10
         replace r0 : w1.heap.size < w10.heap.size := by omega
         replace r0a : w1.heap.size < w10.heap.size + 1 := by omega
         replace r0b : w1.heap.size < w10.heap.size + 1 + 1 := by omega
         have X10 : Hid (Ext w w10) := Lib.hid (Ext.trans (by repeat (first | with_reducible exact X9.out | with_reducible refine Ext.drew ?_ | with_reducible refine Ext.drewN ?_ _ | with_reducible refine Ext.alloc ?_ _ | with_reducible refine Ext.setCell ?_ (by first | omega | (simp; done) | (simp; omega)) _)) hx10)
         clear hx10 X9 z10)
      | (have hst := X8
         clear hst
         go_at_call 61
         (with_reducible refine (lbare_any 2 9 _).mono ?_)
         rintro e w9 ⟨rfl, hx9⟩
         replace d0 : w9.cell? ⟨w1.heap.size, 0, none⟩ = some (.int .i64 2) := hx9.has (by first | exact d0 | (simp [go_sem]; done) | (simp [go_sem, World.cell?_alloc_past, d0, r0, r0a, r0b]; done))
         replace d1 : w9.cell? ⟨w1.heap.size, 1, none⟩ = some (.int .i64 9) := hx9.has (by first | exact d1 | (simp [go_sem]; done) | (simp [go_sem, World.cell?_alloc_past, d1, r0, r0a, r0b]; done))
         replace d2 : w9.cell? ⟨w1.heap.size, 2, none⟩ = some (.int .i64 1) := hx9.has (by first | exact d2 | (simp [go_sem]; done) | (simp [go_sem, World.cell?_alloc_past, d2, r0, r0a, r0b]; done))
         replace d3 : w9.cell? ⟨w1.heap.size, 3, none⟩ = some (.int .i64 5) := hx9.has (by first | exact d3 | (simp [go_sem]; done) | (simp [go_sem, World.cell?_alloc_past, d3, r0, r0a, r0b]; done))
         have z9 := hx9.size
         try simp at z9
         replace r0 : w1.heap.size < w9.heap.size := by omega
         replace r0a : w1.heap.size < w9.heap.size + 1 := by omega
         replace r0b : w1.heap.size < w9.heap.size + 1 + 1 := by omega
         have X9 : Hid (Ext w w9) := Lib.hid (Ext.trans (by repeat (first | with_reducible exact X8.out | with_reducible refine Ext.drew ?_ | with_reducible refine Ext.drewN ?_ _ | with_reducible refine Ext.alloc ?_ _ | with_reducible refine Ext.setCell ?_ (by first | omega | (simp; done) | (simp; omega)) _)) hx9)
         clear hx9 X8 z9)
      | (have hst := X7
         clear hst
         go_at_call 63
         (with_reducible refine (tBacked_at 2 9 1 5 1 10 0 false (by decide) _).mono ?_)
         rintro e w8 ⟨rfl, hx8⟩
         replace d0 : w8.cell? ⟨w1.heap.size, 0, none⟩ = some (.int .i64 2) := hx8.has (by first | exact d0 | (simp [go_sem]; done) | (simp [go_sem, World.cell?_alloc_past, d0, r0, r0a, r0b]; done))
         replace d1 : w8.cell? ⟨w1.heap.size, 1, none⟩ = some (.int .i64 9) := hx8.has (by first | exact d1 | (simp [go_sem]; done) | (simp [go_sem, World.cell?_alloc_past, d1, r0, r0a, r0b]; done))
         replace d2 : w8.cell? ⟨w1.heap.size, 2, none⟩ = some (.int .i64 1) := hx8.has (by first | exact d2 | (simp [go_sem]; done) | (simp [go_sem, World.cell?_alloc_past, d2, r0, r0a, r0b]; done))
         replace d3 : w8.cell? ⟨w1.heap.size, 3, none⟩ = some (.int .i64 5) := hx8.has (by first | exact d3 | (simp [go_sem]; done) | (simp [go_sem, World.cell?_alloc_past, d3, r0, r0a, r0b]; done))
         have z8 := hx8.size
         try simp at z8
         replace r0 : w1.heap.size < w8.heap.size := by omega
         replace r0a : w1.heap.size < w8.heap.size + 1 := by omega
         replace r0b : w1.heap.size < w8.heap.size + 1 + 1 := by omega
         have X8 : Hid (Ext w w8) := Lib.hid (Ext.trans (by repeat (first | with_reducible exact X7.out | with_reducible refine Ext.drew ?_ | with_reducible refine Ext.drewN ?_ _ | with_reducible refine Ext.alloc ?_ _ | with_reducible refine Ext.setCell ?_ (by first | omega | (simp; done) | (simp; omega)) _)) hx8)
         clear hx8 X7 z8)
      | (have hst := X6
         clear hst
         go_at_call 63
         (with_reducible refine (tBacked_at 2 9 1 5 1 5 0 true (by decide) _).mono ?_)
         rintro e w7 ⟨rfl, hx7⟩
         replace d0 : w7.cell? ⟨w1.heap.size, 0, none⟩ = some (.int .i64 2) := hx7.has (by first | exact d0 | (simp [go_sem]; done) | (simp [go_sem, World.cell?_alloc_past, d0, r0, r0a, r0b]; done))
         replace d1 : w7.cell? ⟨w1.heap.size, 1, none⟩ = some (.int .i64 9) := hx7.has (by first | exact d1 | (simp [go_sem]; done) | (simp [go_sem, World.cell?_alloc_past, d1, r0, r0a, r0b]; done))
         replace d2 : w7.cell? ⟨w1.heap.size, 2, none⟩ = some (.int .i64 1) := hx7.has (by first | exact d2 | (simp [go_sem]; done) | (simp [go_sem, World.cell?_alloc_past, d2, r0, r0a, r0b]; done))
         replace d3 : w7.cell? ⟨w1.heap.size, 3, none⟩ = some (.int .i64 5) := hx7.has (by first | exact d3 | (simp [go_sem]; done) | (simp [go_sem, World.cell?_alloc_past, d3, r0, r0a, r0b]; done))
         have z7 := hx7.size
         try simp at z7
         replace r0 : w1.heap.size < w7.heap.size := by omega
         replace r0a : w1.heap.size < w7.heap.size + 1 := by omega
         replace r0b : w1.heap.size < w7.heap.size + 1 + 1 := by omega
         have X7 : Hid (Ext w w7) := Lib.hid (Ext.trans (by repeat (first | with_reducible exact X6.out | with_reducible refine Ext.drew ?_ | with_reducible refine Ext.drewN ?_ _ | with_reducible refine Ext.alloc ?_ _ | with_reducible refine Ext.setCell ?_ (by first | omega | (simp; done) | (simp; omega)) _)) hx7)
         clear hx7 X6 z7)
      | (have hst := X5
         clear hst
         go_at_call 63
         (with_reducible refine (tBacked_at 2 9 1 5 1 9 0 true (by decide) _).mono ?_)
         rintro e w6 ⟨rfl, hx6⟩
         replace d0 : w6.cell? ⟨w1.heap.size, 0, none⟩ = some (.int .i64 2) := hx6.has (by first | exact d0 | (simp [go_sem]; done) | (simp [go_sem, World.cell?_alloc_past, d0, r0, r0a, r0b]; done))
         replace d1 : w6.cell? ⟨w1.heap.size, 1, none⟩ = some (.int .i64 9) := hx6.has (by first | exact d1 | (simp [go_sem]; done) | (simp [go_sem, World.cell?_alloc_past, d1, r0, r0a, r0b]; done))
         replace d2 : w6.cell? ⟨w1.heap.size, 2, none⟩ = some (.int .i64 1) := hx6.has (by first | exact d2 | (simp [go_sem]; done) | (simp [go_sem, World.cell?_alloc_past, d2, r0, r0a, r0b]; done))
         replace d3 : w6.cell? ⟨w1.heap.size, 3, none⟩ = some (.int .i64 5) := hx6.has (by first | exact d3 | (simp [go_sem]; done) | (simp [go_sem, World.cell?_alloc_past, d3, r0, r0a, r0b]; done))
         have z6 := hx6.size
         try simp at z6
         replace r0 : w1.heap.size < w6.heap.size := by omega
         replace r0a : w1.heap.size < w6.heap.size + 1 := by omega
         replace r0b : w1.heap.size < w6.heap.size + 1 + 1 := by omega
         have X6 : Hid (Ext w w6) := Lib.hid (Ext.trans (by repeat (first | with_reducible exact X5.out | with_reducible refine Ext.drew ?_ | with_reducible refine Ext.drewN ?_ _ | with_reducible refine Ext.alloc ?_ _ | with_reducible refine Ext.setCell ?_ (by first | omega | (simp; done) | (simp; omega)) _)) hx6)
         clear hx6 X5 z6)
      | (have hst := X4
         clear hst
         go_at_call 63
         (with_reducible refine (tBacked_at 2 9 1 5 2 8 0 false (by decide) _).mono ?_)
         rintro e w5 ⟨rfl, hx5⟩
         replace d0 : w5.cell? ⟨w1.heap.size, 0, none⟩ = some (.int .i64 2) := hx5.has (by first | exact d0 | (simp [go_sem]; done) | (simp [go_sem, World.cell?_alloc_past, d0, r0, r0a, r0b]; done))
         replace d1 : w5.cell? ⟨w1.heap.size, 1, none⟩ = some (.int .i64 9) := hx5.has (by first | exact d1 | (simp [go_sem]; done) | (simp [go_sem, World.cell?_alloc_past, d1, r0, r0a, r0b]; done))
         replace d2 : w5.cell? ⟨w1.heap.size, 2, none⟩ = some (.int .i64 1) := hx5.has (by first | exact d2 | (simp [go_sem]; done) | (simp [go_sem, World.cell?_alloc_past, d2, r0, r0a, r0b]; done))
         replace d3 : w5.cell? ⟨w1.heap.size, 3, none⟩ = some (.int .i64 5) := hx5.has (by first | exact d3 | (simp [go_sem]; done) | (simp [go_sem, World.cell?_alloc_past, d3, r0, r0a, r0b]; done))
         have z5 := hx5.size
         try simp at z5
         replace r0 : w1.heap.size < w5.heap.size := by omega
         replace r0a : w1.heap.size < w5.heap.size + 1 := by omega
         replace r0b : w1.heap.size < w5.heap.size + 1 + 1 := by omega
         have X5 : Hid (Ext w w5) := Lib.hid (Ext.trans (by repeat (first | with_reducible exact X4.out | with_reducible refine Ext.drew ?_ | with_reducible refine Ext.drewN ?_ _ | with_reducible refine Ext.alloc ?_ _ | with_reducible refine Ext.setCell ?_ (by first | omega | (simp; done) | (simp; omega)) _)) hx5)
         clear hx5 X4 z5)
      | (have hst := X3
         clear hst
         go_at_call 63
         (with_reducible refine (tBacked_at 2 9 1 5 2 9 0 true (by decide) _).mono ?_)
         rintro e w4 ⟨rfl, hx4⟩
         replace d0 : w4.cell? ⟨w1.heap.size, 0, none⟩ = some (.int .i64 2) := hx4.has (by first | exact d0 | (simp [go_sem]; done) | (simp [go_sem, World.cell?_alloc_past, d0, r0, r0a, r0b]; done))
         replace d1 : w4.cell? ⟨w1.heap.size, 1, none⟩ = some (.int .i64 9) := hx4.has (by first | exact d1 | (simp [go_sem]; done) | (simp [go_sem, World.cell?_alloc_past, d1, r0, r0a, r0b]; done))
         replace d2 : w4.cell? ⟨w1.heap.size, 2, none⟩ = some (.int .i64 1) := hx4.has (by first | exact d2 | (simp [go_sem]; done) | (simp [go_sem, World.cell?_alloc_past, d2, r0, r0a, r0b]; done))
         replace d3 : w4.cell? ⟨w1.heap.size, 3, none⟩ = some (.int .i64 5) := hx4.has (by first | exact d3 | (simp [go_sem]; done) | (simp [go_sem, World.cell?_alloc_past, d3, r0, r0a, r0b]; done))
         have z4 := hx4.size
         try simp at z4
         replace r0 : w1.heap.size < w4.heap.size := by omega
         replace r0a : w1.heap.size < w4.heap.size + 1 := by omega
         replace r0b : w1.heap.size < w4.heap.size + 1 + 1 := by omega
         have X4 : Hid (Ext w w4) := Lib.hid (Ext.trans (by repeat (first | with_reducible exact X3.out | with_reducible refine Ext.drew ?_ | with_reducible refine Ext.drewN ?_ _ | with_reducible refine Ext.alloc ?_ _ | with_reducible refine Ext.setCell ?_ (by first | omega | (simp; done) | (simp; omega)) _)) hx4)
         clear hx4 X3 z4)
      | (have hst := X2
         clear hst
         go_at_call 62
         (with_reducible refine (lhops12_eq 1 5 (-1) 0 2 9 0 2 9 1 5 _ (by decide) (by decide) (by decide) (by decide) (by decide)).mono ?_)
         rintro e w3 ⟨rfl, hx3⟩
         replace d0 : w3.cell? ⟨w1.heap.size, 0, none⟩ = some (.int .i64 2) := hx3.has (by first | exact d0 | (simp [go_sem]; done) | (simp [go_sem, World.cell?_alloc_past, d0, r0, r0a, r0b]; done))
         replace d1 : w3.cell? ⟨w1.heap.size, 1, none⟩ = some (.int .i64 9) := hx3.has (by first | exact d1 | (simp [go_sem]; done) | (simp [go_sem, World.cell?_alloc_past, d1, r0, r0a, r0b]; done))
         replace d2 : w3.cell? ⟨w1.heap.size, 2, none⟩ = some (.int .i64 1) := hx3.has (by first | exact d2 | (simp [go_sem]; done) | (simp [go_sem, World.cell?_alloc_past, d2, r0, r0a, r0b]; done))
         replace d3 : w3.cell? ⟨w1.heap.size, 3, none⟩ = some (.int .i64 5) := hx3.has (by first | exact d3 | (simp [go_sem]; done) | (simp [go_sem, World.cell?_alloc_past, d3, r0, r0a, r0b]; done))
         have z3 := hx3.size
         try simp at z3
         replace r0 : w1.heap.size < w3.heap.size := by omega
         replace r0a : w1.heap.size < w3.heap.size + 1 := by omega
         replace r0b : w1.heap.size < w3.heap.size + 1 + 1 := by omega
         have X3 : Hid (Ext w w3) := Lib.hid (Ext.trans (by repeat (first | with_reducible exact X2.out | with_reducible refine Ext.drew ?_ | with_reducible refine Ext.drewN ?_ _ | with_reducible refine Ext.alloc ?_ _ | with_reducible refine Ext.setCell ?_ (by first | omega | (simp; done) | (simp; omega)) _)) hx3)
         clear hx3 X2 z3)
      | (have hst := X1
         clear hst
         go_at_call 61
         (with_reducible refine (lbare_any 1 5 _).mono ?_)
         rintro e w2 ⟨rfl, hx2⟩
         have d0 : w2.cell? ⟨w1.heap.size, 0, none⟩ = some (.int .i64 2) := hx2.has (by first | (simp [go_sem]; done) | (simp [go_sem, World.cell?_alloc_past]; done))
         have d1 : w2.cell? ⟨w1.heap.size, 1, none⟩ = some (.int .i64 9) := hx2.has (by first | (simp [go_sem]; done) | (simp [go_sem, World.cell?_alloc_past]; done))
         have d2 : w2.cell? ⟨w1.heap.size, 2, none⟩ = some (.int .i64 1) := hx2.has (by first | (simp [go_sem]; done) | (simp [go_sem, World.cell?_alloc_past]; done))
         have d3 : w2.cell? ⟨w1.heap.size, 3, none⟩ = some (.int .i64 5) := hx2.has (by first | (simp [go_sem]; done) | (simp [go_sem, World.cell?_alloc_past]; done))
         have z2 := hx2.size
         try simp at z2
         replace r0 : w1.heap.size < w2.heap.size := by omega
         replace r0a : w1.heap.size < w2.heap.size + 1 := by omega
         replace r0b : w1.heap.size < w2.heap.size + 1 + 1 := by omega
         have X2 : Hid (Ext w w2) := Lib.hid (Ext.trans (by repeat (first | with_reducible exact X1.out | with_reducible refine Ext.drew ?_ | with_reducible refine Ext.drewN ?_ _ | with_reducible refine Ext.alloc ?_ _ | with_reducible refine Ext.setCell ?_ (by first | omega | (simp; done) | (simp; omega)) _)) hx2)
         clear hx2 X1 z2))
  go_wp2_with fail
  go_ret
  exact ⟨rfl, X10.out⟩
theorem tNew_at (v h : Int) (b1 b2 : Bool) (x y z e : Int) (h1 : outB v 0 31 = b1) (h2 : outB h 1 4294967296 = b2) (hx : (if (b1 || b2) = true then 0 else v) = x) (hy : (if (b1 || b2) = true then 0 else h) = y) (hz : (if (b1 || b2) = true then 0 else -1) = z) (he : (if (b1 || b2) = true then 3 else 0) = e) (w : World) :
    Calls Try.prog 60 #[.int .i64 v, .int .i64 h] w fun r w' => r = .returned (.tuple #[.agg #[.int .i64 x, .int .i64 y, .int .i64 z, .int .i64 0], .int .i64 e]) ∧ Ext w w' := by
  rw [← hx, ← hy, ← hz, ← he]; exact tNew_any v h b1 b2 h1 h2 w
theorem stB_1 : stB 2 9 1 5 = [2, 9, 2, 5] := by
  decide +kernel
theorem stB_2 : stB 2 9 (-1) 0 = [2, 9, 0, 0] := by
  decide +kernel
theorem tBytes_at (V S P F : Int) (a b c d : Nat) (hL : stB V S P F = [a, b, c, d]) (he : chkS V S P F = 0) (w : World) :
    Calls Try.prog 31 #[.agg #[.int .i64 V, .int .i64 S, .int .i64 P, .int .i64 F]] w fun r w' => ∃ p : Nat × Nat, r = .returned (.tuple #[.slice (some ⟨p.1, 0, none⟩) 4 p.2, .int .i64 0]) ∧ Sl w' 1 (some ⟨p.1, 0, none⟩) 4 p.2 (by_ [a, b, c, d]) ∧ Ext w w' := by
  refine (tBytes_any V S P F w).mono ?_
  rintro r w' ⟨v, rfl, hown, hx⟩
  rw [hL] at hown
  rw [he]
  obtain ⟨g, cap, rfl⟩ := ownsRow_succ hown
  exact ⟨(g, cap), rfl, Sl.own hown, hx⟩
theorem known_sb0 (A : Option Addr) (c : Nat) (w : World) (h : Sl w 1 A 4 c (by_ [2, 9, 2, 5])) :
    Calls Try.prog 20 #[.slice A 4 c, .slice (some ⟨w.heap.size, 0, none⟩) 4 4] (w.alloc (.cells #[.int .u8 2, .int .u8 9, .int .u8 2, .int .u8 5] 5)) fun r w' => r = .returned (.bool true) ∧ Ext (w.alloc (.cells #[.int .u8 2, .int .u8 9, .int .u8 2, .int .u8 5] 5)) w' := by
  refine (kSameBytes_any A (some ⟨w.heap.size, 0, none⟩) 4 c 4 4 [2, 9, 2, 5] [2, 9, 2, 5] (by unfold Byt; decide) (by unfold Byt; decide) _ (h.ext ((Ext.refl w).alloc _)) (sl_new w 5 1 #[.int .u8 2, .int .u8 9, .int .u8 2, .int .u8 5] 4 rfl (by decide))).mono ?_
  rintro r w' ⟨rfl, rfl⟩
  exact ⟨by simp, Ext.refl _⟩
theorem known_sb1 (A : Option Addr) (c : Nat) (w : World) (h : Sl w 1 A 4 c (by_ [2, 9, 0, 0])) :
    Calls Try.prog 20 #[.slice A 4 c, .slice (some ⟨w.heap.size, 0, none⟩) 4 4] (w.alloc (.cells #[.int .u8 2, .int .u8 9, .int .u8 0, .int .u8 0] 5)) fun r w' => r = .returned (.bool true) ∧ Ext (w.alloc (.cells #[.int .u8 2, .int .u8 9, .int .u8 0, .int .u8 0] 5)) w' := by
  refine (kSameBytes_any A (some ⟨w.heap.size, 0, none⟩) 4 c 4 4 [2, 9, 0, 0] [2, 9, 0, 0] (by unfold Byt; decide) (by unfold Byt; decide) _ (h.ext ((Ext.refl w).alloc _)) (sl_new w 5 1 #[.int .u8 2, .int .u8 9, .int .u8 0, .int .u8 0] 4 rfl (by decide))).mono ?_
  rintro r w' ⟨rfl, rfl⟩
  exact ⟨by simp, Ext.refl _⟩
theorem known_f0 (w : World) :
    Calls Try.prog 65 #[.slice (some ⟨w.heap.size, 0, none⟩) 4 4] (w.alloc (.cells #[.int .u8 2, .int .u8 9, .int .u8 3, .int .u8 5] 5)) fun r w' => r = .returned (.agg #[.int .i64 2, .int .i64 0]) ∧ Ext (w.alloc (.cells #[.int .u8 2, .int .u8 9, .int .u8 3, .int .u8 5] 5)) w' :=
  lfault12_any (some ⟨w.heap.size, 0, none⟩) 4 [2, 9, 3, 5] (by unfold Byt; decide) (by decide) (by intro h; cases h) 2 0 (by decide) (by decide) _ (sl_new w 5 1 #[.int .u8 2, .int .u8 9, .int .u8 3, .int .u8 5] 4 rfl (by decide))
theorem known_f1 (w : World) :
    Calls Try.prog 65 #[.slice (some ⟨w.heap.size, 0, none⟩) 1 1] (w.alloc (.cells #[.int .u8 32] 5)) fun r w' => r = .returned (.agg #[.int .i64 3, .int .i64 0]) ∧ Ext (w.alloc (.cells #[.int .u8 32] 5)) w' :=
  lfault12_any (some ⟨w.heap.size, 0, none⟩) 1 [32] (by unfold Byt; decide) (by decide) (by intro h; cases h) 3 0 (by decide) (by decide) _ (sl_new w 5 1 #[.int .u8 32] 1 rfl (by decide))
theorem known_f2 (w : World) :
    Calls Try.prog 65 #[.slice (some ⟨w.heap.size, 0, none⟩) 5 5] (w.alloc (.cells #[.int .u8 2, .int .u8 9, .int .u8 2, .int .u8 5, .int .u8 1] 5)) fun r w' => r = .returned (.agg #[.int .i64 4, .int .i64 4]) ∧ Ext (w.alloc (.cells #[.int .u8 2, .int .u8 9, .int .u8 2, .int .u8 5, .int .u8 1] 5)) w' :=
  lfault12_any (some ⟨w.heap.size, 0, none⟩) 5 [2, 9, 2, 5, 1] (by unfold Byt; decide) (by decide) (by intro h; cases h) 4 4 (by decide) (by decide) _ (sl_new w 5 1 #[.int .u8 2, .int .u8 9, .int .u8 2, .int .u8 5, .int .u8 1] 5 rfl (by decide))
set_option maxRecDepth 100000 in
set_option maxHeartbeats 4000000 in
theorem StampKnown_any (w : World) : Calls Try.prog 10 #[] w fun r w' => r = .returned (.bool true) ∧ Ext w w' := by
  go_enter Try.func10, Try.ntmps10
  go_wp2_with fail
  (with_reducible refine (lchapter12_any _).mono ?_)
  rintro e w1 ⟨rfl, hx1⟩
  have X1 : Hid (Ext w w1) := Lib.hid (Ext.trans (by repeat (first | with_reducible exact Ext.refl w | with_reducible refine Ext.drew ?_ | with_reducible refine Ext.drewN ?_ _ | with_reducible refine Ext.alloc ?_ _ | with_reducible refine Ext.setCell ?_ (by first | omega | (simp; done) | (simp; omega)) _)) hx1)
  clear hx1
  go_wp2_with fail
  (with_reducible refine (tNew_at 2 9 false false 2 9 (-1) 0 (by decide) (by decide) (by decide) (by decide) (by decide) (by decide) _).mono ?_)
  rintro e w2 ⟨rfl, hx2⟩
  have d0 : w2.cell? ⟨w1.heap.size, 0, none⟩ = some (.int .i64 2) := hx2.has (by first | (simp [go_sem]; done) | (simp [go_sem, World.cell?_alloc_past]; done))
  have d1 : w2.cell? ⟨w1.heap.size, 1, none⟩ = some (.int .i64 9) := hx2.has (by first | (simp [go_sem]; done) | (simp [go_sem, World.cell?_alloc_past]; done))
  have d2 : w2.cell? ⟨w1.heap.size, 2, none⟩ = some (.int .i64 1) := hx2.has (by first | (simp [go_sem]; done) | (simp [go_sem, World.cell?_alloc_past]; done))
  have d3 : w2.cell? ⟨w1.heap.size, 3, none⟩ = some (.int .i64 5) := hx2.has (by first | (simp [go_sem]; done) | (simp [go_sem, World.cell?_alloc_past]; done))
  have z2 := hx2.size
  try simp at z2
  replace r0 : w1.heap.size < w2.heap.size := by omega
  replace r0a : w1.heap.size < w2.heap.size + 1 := by omega
  replace r0b : w1.heap.size < w2.heap.size + 1 + 1 := by omega
  have X2 : Hid (Ext w w2) := Lib.hid (Ext.trans (by repeat (first | with_reducible exact X1.out | with_reducible refine Ext.drew ?_ | with_reducible refine Ext.drewN ?_ _ | with_reducible refine Ext.alloc ?_ _ | with_reducible refine Ext.setCell ?_ (by first | omega | (simp; done) | (simp; omega)) _)) hx2)
  clear hx2 X1 z2
  go_wp2_with fail
  (with_reducible refine (tNew_at 32 9 true false 0 0 0 3 (by decide) (by decide) (by decide) (by decide) (by decide) (by decide) _).mono ?_)
  rintro e w3 ⟨rfl, hx3⟩
  replace d0 : w3.cell? ⟨w1.heap.size, 0, none⟩ = some (.int .i64 2) := hx3.has (by first | exact d0 | (simp [go_sem]; done) | (simp [go_sem, World.cell?_alloc_past, d0, r0, r0a, r0b]; done))
  replace d1 : w3.cell? ⟨w1.heap.size, 1, none⟩ = some (.int .i64 9) := hx3.has (by first | exact d1 | (simp [go_sem]; done) | (simp [go_sem, World.cell?_alloc_past, d1, r0, r0a, r0b]; done))
  replace d2 : w3.cell? ⟨w1.heap.size, 2, none⟩ = some (.int .i64 1) := hx3.has (by first | exact d2 | (simp [go_sem]; done) | (simp [go_sem, World.cell?_alloc_past, d2, r0, r0a, r0b]; done))
  replace d3 : w3.cell? ⟨w1.heap.size, 3, none⟩ = some (.int .i64 5) := hx3.has (by first | exact d3 | (simp [go_sem]; done) | (simp [go_sem, World.cell?_alloc_past, d3, r0, r0a, r0b]; done))
  have e0 : w3.cell? ⟨w2.heap.size, 0, none⟩ = some (.int .i64 2) := hx3.has (by first | (simp [go_sem]; done) | (simp [go_sem, World.cell?_alloc_past]; done))
  have e1 : w3.cell? ⟨w2.heap.size, 1, none⟩ = some (.int .i64 9) := hx3.has (by first | (simp [go_sem]; done) | (simp [go_sem, World.cell?_alloc_past]; done))
  have e2 : w3.cell? ⟨w2.heap.size, 2, none⟩ = some (.int .i64 (-1)) := hx3.has (by first | (simp [go_sem]; done) | (simp [go_sem, World.cell?_alloc_past]; done))
  have e3 : w3.cell? ⟨w2.heap.size, 3, none⟩ = some (.int .i64 0) := hx3.has (by first | (simp [go_sem]; done) | (simp [go_sem, World.cell?_alloc_past]; done))
  have z3 := hx3.size
  try simp at z3
  replace r0 : w1.heap.size < w3.heap.size := by omega
  replace r0a : w1.heap.size < w3.heap.size + 1 := by omega
  replace r0b : w1.heap.size < w3.heap.size + 1 + 1 := by omega
  replace r1 : w2.heap.size < w3.heap.size := by omega
  replace r1a : w2.heap.size < w3.heap.size + 1 := by omega
  replace r1b : w2.heap.size < w3.heap.size + 1 + 1 := by omega
  have X3 : Hid (Ext w w3) := Lib.hid (Ext.trans (by repeat (first | with_reducible exact X2.out | with_reducible refine Ext.drew ?_ | with_reducible refine Ext.drewN ?_ _ | with_reducible refine Ext.alloc ?_ _ | with_reducible refine Ext.setCell ?_ (by first | omega | (simp; done) | (simp; omega)) _)) hx3)
  clear hx3 X2 z3
  go_wp2_with fail
  (with_reducible refine (tNew_at 2 0 false true 0 0 0 3 (by decide) (by decide) (by decide) (by decide) (by decide) (by decide) _).mono ?_)
  rintro e w4 ⟨rfl, hx4⟩
  replace d0 : w4.cell? ⟨w1.heap.size, 0, none⟩ = some (.int .i64 2) := hx4.has (by first | exact d0 | (simp [go_sem]; done) | (simp [go_sem, World.cell?_alloc_past, d0, r0, r0a, r0b, r1, r1a, r1b]; done))
  replace d1 : w4.cell? ⟨w1.heap.size, 1, none⟩ = some (.int .i64 9) := hx4.has (by first | exact d1 | (simp [go_sem]; done) | (simp [go_sem, World.cell?_alloc_past, d1, r0, r0a, r0b, r1, r1a, r1b]; done))
  replace d2 : w4.cell? ⟨w1.heap.size, 2, none⟩ = some (.int .i64 1) := hx4.has (by first | exact d2 | (simp [go_sem]; done) | (simp [go_sem, World.cell?_alloc_past, d2, r0, r0a, r0b, r1, r1a, r1b]; done))
  replace d3 : w4.cell? ⟨w1.heap.size, 3, none⟩ = some (.int .i64 5) := hx4.has (by first | exact d3 | (simp [go_sem]; done) | (simp [go_sem, World.cell?_alloc_past, d3, r0, r0a, r0b, r1, r1a, r1b]; done))
  replace e0 : w4.cell? ⟨w2.heap.size, 0, none⟩ = some (.int .i64 2) := hx4.has (by first | exact e0 | (simp [go_sem]; done) | (simp [go_sem, World.cell?_alloc_past, e0, r0, r0a, r0b, r1, r1a, r1b]; done))
  replace e1 : w4.cell? ⟨w2.heap.size, 1, none⟩ = some (.int .i64 9) := hx4.has (by first | exact e1 | (simp [go_sem]; done) | (simp [go_sem, World.cell?_alloc_past, e1, r0, r0a, r0b, r1, r1a, r1b]; done))
  replace e2 : w4.cell? ⟨w2.heap.size, 2, none⟩ = some (.int .i64 (-1)) := hx4.has (by first | exact e2 | (simp [go_sem]; done) | (simp [go_sem, World.cell?_alloc_past, e2, r0, r0a, r0b, r1, r1a, r1b]; done))
  replace e3 : w4.cell? ⟨w2.heap.size, 3, none⟩ = some (.int .i64 0) := hx4.has (by first | exact e3 | (simp [go_sem]; done) | (simp [go_sem, World.cell?_alloc_past, e3, r0, r0a, r0b, r1, r1a, r1b]; done))
  have z4 := hx4.size
  try simp at z4
  replace r0 : w1.heap.size < w4.heap.size := by omega
  replace r0a : w1.heap.size < w4.heap.size + 1 := by omega
  replace r0b : w1.heap.size < w4.heap.size + 1 + 1 := by omega
  replace r1 : w2.heap.size < w4.heap.size := by omega
  replace r1a : w2.heap.size < w4.heap.size + 1 := by omega
  replace r1b : w2.heap.size < w4.heap.size + 1 + 1 := by omega
  have X4 : Hid (Ext w w4) := Lib.hid (Ext.trans (by repeat (first | with_reducible exact X3.out | with_reducible refine Ext.drew ?_ | with_reducible refine Ext.drewN ?_ _ | with_reducible refine Ext.alloc ?_ _ | with_reducible refine Ext.setCell ?_ (by first | omega | (simp; done) | (simp; omega)) _)) hx4)
  clear hx4 X3 z4
  go_wp2_with fail
  go_region_held3 (fun w' => w'.cell? ⟨w1.heap.size, 0, none⟩ = some (.int .i64 2) ∧ w'.cell? ⟨w1.heap.size, 1, none⟩ = some (.int .i64 9) ∧ w'.cell? ⟨w1.heap.size, 2, none⟩ = some (.int .i64 1) ∧ w'.cell? ⟨w1.heap.size, 3, none⟩ = some (.int .i64 5) ∧ w'.cell? ⟨w2.heap.size, 0, none⟩ = some (.int .i64 2) ∧ w'.cell? ⟨w2.heap.size, 1, none⟩ = some (.int .i64 9) ∧ w'.cell? ⟨w2.heap.size, 2, none⟩ = some (.int .i64 (-1)) ∧ w'.cell? ⟨w2.heap.size, 3, none⟩ = some (.int .i64 0))
    (first | exact ⟨d0, d1, d2, d3, e0, e1, e2, e3⟩ | (simp [go_sem, World.cell?_alloc_past]; done) | (simp [go_sem, World.cell?_alloc_past, d0, d1, d2, d3, e0, e1, e2, e3, r0, r0a, r0b, r1, r1a, r1b]; done))
    (first
      | (have hst := X8
         clear hst
         go_at_call 62
         (with_reducible refine (lhops12_eq 1 5 (-1) 0 2 4 9 0 0 0 0 _ (by decide) (by decide) (by decide) (by decide) (by decide)).mono ?_)
         rintro e w9 ⟨rfl, hx9⟩
         replace d0 : w9.cell? ⟨w1.heap.size, 0, none⟩ = some (.int .i64 2) := hx9.has (by first | exact d0 | (simp [go_sem]; done) | (simp [go_sem, World.cell?_alloc_past, d0, r0, r0a, r0b, r1, r1a, r1b]; done))
         replace d1 : w9.cell? ⟨w1.heap.size, 1, none⟩ = some (.int .i64 9) := hx9.has (by first | exact d1 | (simp [go_sem]; done) | (simp [go_sem, World.cell?_alloc_past, d1, r0, r0a, r0b, r1, r1a, r1b]; done))
         replace d2 : w9.cell? ⟨w1.heap.size, 2, none⟩ = some (.int .i64 1) := hx9.has (by first | exact d2 | (simp [go_sem]; done) | (simp [go_sem, World.cell?_alloc_past, d2, r0, r0a, r0b, r1, r1a, r1b]; done))
         replace d3 : w9.cell? ⟨w1.heap.size, 3, none⟩ = some (.int .i64 5) := hx9.has (by first | exact d3 | (simp [go_sem]; done) | (simp [go_sem, World.cell?_alloc_past, d3, r0, r0a, r0b, r1, r1a, r1b]; done))
         replace e0 : w9.cell? ⟨w2.heap.size, 0, none⟩ = some (.int .i64 2) := hx9.has (by first | exact e0 | (simp [go_sem]; done) | (simp [go_sem, World.cell?_alloc_past, e0, r0, r0a, r0b, r1, r1a, r1b]; done))
         replace e1 : w9.cell? ⟨w2.heap.size, 1, none⟩ = some (.int .i64 9) := hx9.has (by first | exact e1 | (simp [go_sem]; done) | (simp [go_sem, World.cell?_alloc_past, e1, r0, r0a, r0b, r1, r1a, r1b]; done))
         replace e2 : w9.cell? ⟨w2.heap.size, 2, none⟩ = some (.int .i64 (-1)) := hx9.has (by first | exact e2 | (simp [go_sem]; done) | (simp [go_sem, World.cell?_alloc_past, e2, r0, r0a, r0b, r1, r1a, r1b]; done))
         replace e3 : w9.cell? ⟨w2.heap.size, 3, none⟩ = some (.int .i64 0) := hx9.has (by first | exact e3 | (simp [go_sem]; done) | (simp [go_sem, World.cell?_alloc_past, e3, r0, r0a, r0b, r1, r1a, r1b]; done))
         have z9 := hx9.size
         try simp at z9
         replace r0 : w1.heap.size < w9.heap.size := by omega
         replace r0a : w1.heap.size < w9.heap.size + 1 := by omega
         replace r0b : w1.heap.size < w9.heap.size + 1 + 1 := by omega
         replace r1 : w2.heap.size < w9.heap.size := by omega
         replace r1a : w2.heap.size < w9.heap.size + 1 := by omega
         replace r1b : w2.heap.size < w9.heap.size + 1 + 1 := by omega
         have X9 : Hid (Ext w w9) := Lib.hid (Ext.trans (by repeat (first | with_reducible exact X8.out | with_reducible refine Ext.drew ?_ | with_reducible refine Ext.drewN ?_ _ | with_reducible refine Ext.alloc ?_ _ | with_reducible refine Ext.setCell ?_ (by first | omega | (simp; done) | (simp; omega)) _)) hx9)
         clear hx9 X8 z9)
      | (have hst := X7
         clear hst
         go_at_call 61
         (with_reducible refine (lbare_any 1 5 _).mono ?_)
         rintro e w8 ⟨rfl, hx8⟩
         replace d0 : w8.cell? ⟨w1.heap.size, 0, none⟩ = some (.int .i64 2) := hx8.has (by first | exact d0 | (simp [go_sem]; done) | (simp [go_sem, World.cell?_alloc_past, d0, r0, r0a, r0b, r1, r1a, r1b]; done))
         replace d1 : w8.cell? ⟨w1.heap.size, 1, none⟩ = some (.int .i64 9) := hx8.has (by first | exact d1 | (simp [go_sem]; done) | (simp [go_sem, World.cell?_alloc_past, d1, r0, r0a, r0b, r1, r1a, r1b]; done))
         replace d2 : w8.cell? ⟨w1.heap.size, 2, none⟩ = some (.int .i64 1) := hx8.has (by first | exact d2 | (simp [go_sem]; done) | (simp [go_sem, World.cell?_alloc_past, d2, r0, r0a, r0b, r1, r1a, r1b]; done))
         replace d3 : w8.cell? ⟨w1.heap.size, 3, none⟩ = some (.int .i64 5) := hx8.has (by first | exact d3 | (simp [go_sem]; done) | (simp [go_sem, World.cell?_alloc_past, d3, r0, r0a, r0b, r1, r1a, r1b]; done))
         replace e0 : w8.cell? ⟨w2.heap.size, 0, none⟩ = some (.int .i64 2) := hx8.has (by first | exact e0 | (simp [go_sem]; done) | (simp [go_sem, World.cell?_alloc_past, e0, r0, r0a, r0b, r1, r1a, r1b]; done))
         replace e1 : w8.cell? ⟨w2.heap.size, 1, none⟩ = some (.int .i64 9) := hx8.has (by first | exact e1 | (simp [go_sem]; done) | (simp [go_sem, World.cell?_alloc_past, e1, r0, r0a, r0b, r1, r1a, r1b]; done))
         replace e2 : w8.cell? ⟨w2.heap.size, 2, none⟩ = some (.int .i64 (-1)) := hx8.has (by first | exact e2 | (simp [go_sem]; done) | (simp [go_sem, World.cell?_alloc_past, e2, r0, r0a, r0b, r1, r1a, r1b]; done))
         replace e3 : w8.cell? ⟨w2.heap.size, 3, none⟩ = some (.int .i64 0) := hx8.has (by first | exact e3 | (simp [go_sem]; done) | (simp [go_sem, World.cell?_alloc_past, e3, r0, r0a, r0b, r1, r1a, r1b]; done))
         have z8 := hx8.size
         try simp at z8
         replace r0 : w1.heap.size < w8.heap.size := by omega
         replace r0a : w1.heap.size < w8.heap.size + 1 := by omega
         replace r0b : w1.heap.size < w8.heap.size + 1 + 1 := by omega
         replace r1 : w2.heap.size < w8.heap.size := by omega
         replace r1a : w2.heap.size < w8.heap.size + 1 := by omega
         replace r1b : w2.heap.size < w8.heap.size + 1 + 1 := by omega
         have X8 : Hid (Ext w w8) := Lib.hid (Ext.trans (by repeat (first | with_reducible exact X7.out | with_reducible refine Ext.drew ?_ | with_reducible refine Ext.drewN ?_ _ | with_reducible refine Ext.alloc ?_ _ | with_reducible refine Ext.setCell ?_ (by first | omega | (simp; done) | (simp; omega)) _)) hx8)
         clear hx8 X7 z8)
      | (have hst := X6
         clear hst
         go_at_call 62
         (with_reducible refine (lhops12_eq 1 5 (-1) 0 1 9 2 0 0 0 0 _ (by decide) (by decide) (by decide) (by decide) (by decide)).mono ?_)
         rintro e w7 ⟨rfl, hx7⟩
         replace d0 : w7.cell? ⟨w1.heap.size, 0, none⟩ = some (.int .i64 2) := hx7.has (by first | exact d0 | (simp [go_sem]; done) | (simp [go_sem, World.cell?_alloc_past, d0, r0, r0a, r0b, r1, r1a, r1b]; done))
         replace d1 : w7.cell? ⟨w1.heap.size, 1, none⟩ = some (.int .i64 9) := hx7.has (by first | exact d1 | (simp [go_sem]; done) | (simp [go_sem, World.cell?_alloc_past, d1, r0, r0a, r0b, r1, r1a, r1b]; done))
         replace d2 : w7.cell? ⟨w1.heap.size, 2, none⟩ = some (.int .i64 1) := hx7.has (by first | exact d2 | (simp [go_sem]; done) | (simp [go_sem, World.cell?_alloc_past, d2, r0, r0a, r0b, r1, r1a, r1b]; done))
         replace d3 : w7.cell? ⟨w1.heap.size, 3, none⟩ = some (.int .i64 5) := hx7.has (by first | exact d3 | (simp [go_sem]; done) | (simp [go_sem, World.cell?_alloc_past, d3, r0, r0a, r0b, r1, r1a, r1b]; done))
         replace e0 : w7.cell? ⟨w2.heap.size, 0, none⟩ = some (.int .i64 2) := hx7.has (by first | exact e0 | (simp [go_sem]; done) | (simp [go_sem, World.cell?_alloc_past, e0, r0, r0a, r0b, r1, r1a, r1b]; done))
         replace e1 : w7.cell? ⟨w2.heap.size, 1, none⟩ = some (.int .i64 9) := hx7.has (by first | exact e1 | (simp [go_sem]; done) | (simp [go_sem, World.cell?_alloc_past, e1, r0, r0a, r0b, r1, r1a, r1b]; done))
         replace e2 : w7.cell? ⟨w2.heap.size, 2, none⟩ = some (.int .i64 (-1)) := hx7.has (by first | exact e2 | (simp [go_sem]; done) | (simp [go_sem, World.cell?_alloc_past, e2, r0, r0a, r0b, r1, r1a, r1b]; done))
         replace e3 : w7.cell? ⟨w2.heap.size, 3, none⟩ = some (.int .i64 0) := hx7.has (by first | exact e3 | (simp [go_sem]; done) | (simp [go_sem, World.cell?_alloc_past, e3, r0, r0a, r0b, r1, r1a, r1b]; done))
         have z7 := hx7.size
         try simp at z7
         replace r0 : w1.heap.size < w7.heap.size := by omega
         replace r0a : w1.heap.size < w7.heap.size + 1 := by omega
         replace r0b : w1.heap.size < w7.heap.size + 1 + 1 := by omega
         replace r1 : w2.heap.size < w7.heap.size := by omega
         replace r1a : w2.heap.size < w7.heap.size + 1 := by omega
         replace r1b : w2.heap.size < w7.heap.size + 1 + 1 := by omega
         have X7 : Hid (Ext w w7) := Lib.hid (Ext.trans (by repeat (first | with_reducible exact X6.out | with_reducible refine Ext.drew ?_ | with_reducible refine Ext.drewN ?_ _ | with_reducible refine Ext.alloc ?_ _ | with_reducible refine Ext.setCell ?_ (by first | omega | (simp; done) | (simp; omega)) _)) hx7)
         clear hx7 X6 z7)
      | (have hst := X5
         clear hst
         go_at_call 61
         (with_reducible refine (lbare_any 1 5 _).mono ?_)
         rintro e w6 ⟨rfl, hx6⟩
         replace d0 : w6.cell? ⟨w1.heap.size, 0, none⟩ = some (.int .i64 2) := hx6.has (by first | exact d0 | (simp [go_sem]; done) | (simp [go_sem, World.cell?_alloc_past, d0, r0, r0a, r0b, r1, r1a, r1b]; done))
         replace d1 : w6.cell? ⟨w1.heap.size, 1, none⟩ = some (.int .i64 9) := hx6.has (by first | exact d1 | (simp [go_sem]; done) | (simp [go_sem, World.cell?_alloc_past, d1, r0, r0a, r0b, r1, r1a, r1b]; done))
         replace d2 : w6.cell? ⟨w1.heap.size, 2, none⟩ = some (.int .i64 1) := hx6.has (by first | exact d2 | (simp [go_sem]; done) | (simp [go_sem, World.cell?_alloc_past, d2, r0, r0a, r0b, r1, r1a, r1b]; done))
         replace d3 : w6.cell? ⟨w1.heap.size, 3, none⟩ = some (.int .i64 5) := hx6.has (by first | exact d3 | (simp [go_sem]; done) | (simp [go_sem, World.cell?_alloc_past, d3, r0, r0a, r0b, r1, r1a, r1b]; done))
         replace e0 : w6.cell? ⟨w2.heap.size, 0, none⟩ = some (.int .i64 2) := hx6.has (by first | exact e0 | (simp [go_sem]; done) | (simp [go_sem, World.cell?_alloc_past, e0, r0, r0a, r0b, r1, r1a, r1b]; done))
         replace e1 : w6.cell? ⟨w2.heap.size, 1, none⟩ = some (.int .i64 9) := hx6.has (by first | exact e1 | (simp [go_sem]; done) | (simp [go_sem, World.cell?_alloc_past, e1, r0, r0a, r0b, r1, r1a, r1b]; done))
         replace e2 : w6.cell? ⟨w2.heap.size, 2, none⟩ = some (.int .i64 (-1)) := hx6.has (by first | exact e2 | (simp [go_sem]; done) | (simp [go_sem, World.cell?_alloc_past, e2, r0, r0a, r0b, r1, r1a, r1b]; done))
         replace e3 : w6.cell? ⟨w2.heap.size, 3, none⟩ = some (.int .i64 0) := hx6.has (by first | exact e3 | (simp [go_sem]; done) | (simp [go_sem, World.cell?_alloc_past, e3, r0, r0a, r0b, r1, r1a, r1b]; done))
         have z6 := hx6.size
         try simp at z6
         replace r0 : w1.heap.size < w6.heap.size := by omega
         replace r0a : w1.heap.size < w6.heap.size + 1 := by omega
         replace r0b : w1.heap.size < w6.heap.size + 1 + 1 := by omega
         replace r1 : w2.heap.size < w6.heap.size := by omega
         replace r1a : w2.heap.size < w6.heap.size + 1 := by omega
         replace r1b : w2.heap.size < w6.heap.size + 1 + 1 := by omega
         have X6 : Hid (Ext w w6) := Lib.hid (Ext.trans (by repeat (first | with_reducible exact X5.out | with_reducible refine Ext.drew ?_ | with_reducible refine Ext.drewN ?_ _ | with_reducible refine Ext.alloc ?_ _ | with_reducible refine Ext.setCell ?_ (by first | omega | (simp; done) | (simp; omega)) _)) hx6)
         clear hx6 X5 z6)
      | (have hst := X4
         clear hst
         go_at_call 61
         (with_reducible refine (lbare_any 2 9 _).mono ?_)
         rintro e w5 ⟨rfl, hx5⟩
         replace d0 : w5.cell? ⟨w1.heap.size, 0, none⟩ = some (.int .i64 2) := hx5.has (by first | exact d0 | (simp [go_sem]; done) | (simp [go_sem, World.cell?_alloc_past, d0, r0, r0a, r0b, r1, r1a, r1b]; done))
         replace d1 : w5.cell? ⟨w1.heap.size, 1, none⟩ = some (.int .i64 9) := hx5.has (by first | exact d1 | (simp [go_sem]; done) | (simp [go_sem, World.cell?_alloc_past, d1, r0, r0a, r0b, r1, r1a, r1b]; done))
         replace d2 : w5.cell? ⟨w1.heap.size, 2, none⟩ = some (.int .i64 1) := hx5.has (by first | exact d2 | (simp [go_sem]; done) | (simp [go_sem, World.cell?_alloc_past, d2, r0, r0a, r0b, r1, r1a, r1b]; done))
         replace d3 : w5.cell? ⟨w1.heap.size, 3, none⟩ = some (.int .i64 5) := hx5.has (by first | exact d3 | (simp [go_sem]; done) | (simp [go_sem, World.cell?_alloc_past, d3, r0, r0a, r0b, r1, r1a, r1b]; done))
         replace e0 : w5.cell? ⟨w2.heap.size, 0, none⟩ = some (.int .i64 2) := hx5.has (by first | exact e0 | (simp [go_sem]; done) | (simp [go_sem, World.cell?_alloc_past, e0, r0, r0a, r0b, r1, r1a, r1b]; done))
         replace e1 : w5.cell? ⟨w2.heap.size, 1, none⟩ = some (.int .i64 9) := hx5.has (by first | exact e1 | (simp [go_sem]; done) | (simp [go_sem, World.cell?_alloc_past, e1, r0, r0a, r0b, r1, r1a, r1b]; done))
         replace e2 : w5.cell? ⟨w2.heap.size, 2, none⟩ = some (.int .i64 (-1)) := hx5.has (by first | exact e2 | (simp [go_sem]; done) | (simp [go_sem, World.cell?_alloc_past, e2, r0, r0a, r0b, r1, r1a, r1b]; done))
         replace e3 : w5.cell? ⟨w2.heap.size, 3, none⟩ = some (.int .i64 0) := hx5.has (by first | exact e3 | (simp [go_sem]; done) | (simp [go_sem, World.cell?_alloc_past, e3, r0, r0a, r0b, r1, r1a, r1b]; done))
         have z5 := hx5.size
         try simp at z5
         replace r0 : w1.heap.size < w5.heap.size := by omega
         replace r0a : w1.heap.size < w5.heap.size + 1 := by omega
         replace r0b : w1.heap.size < w5.heap.size + 1 + 1 := by omega
         replace r1 : w2.heap.size < w5.heap.size := by omega
         replace r1a : w2.heap.size < w5.heap.size + 1 := by omega
         replace r1b : w2.heap.size < w5.heap.size + 1 + 1 := by omega
         have X5 : Hid (Ext w w5) := Lib.hid (Ext.trans (by repeat (first | with_reducible exact X4.out | with_reducible refine Ext.drew ?_ | with_reducible refine Ext.drewN ?_ _ | with_reducible refine Ext.alloc ?_ _ | with_reducible refine Ext.setCell ?_ (by first | omega | (simp; done) | (simp; omega)) _)) hx5)
         clear hx5 X4 z5))
  go_wp2_with fail
  (with_reducible refine (tBacked_at 2 9 1 5 1 4 0 false (by decide) _).mono ?_)
  rintro e w10 ⟨rfl, hx10⟩
  replace d0 : w10.cell? ⟨w1.heap.size, 0, none⟩ = some (.int .i64 2) := hx10.has (by first | exact d0 | (simp [go_sem]; done) | (simp [go_sem, World.cell?_alloc_past, d0, r0, r0a, r0b, r1, r1a, r1b]; done))
  replace d1 : w10.cell? ⟨w1.heap.size, 1, none⟩ = some (.int .i64 9) := hx10.has (by first | exact d1 | (simp [go_sem]; done) | (simp [go_sem, World.cell?_alloc_past, d1, r0, r0a, r0b, r1, r1a, r1b]; done))
  replace d2 : w10.cell? ⟨w1.heap.size, 2, none⟩ = some (.int .i64 1) := hx10.has (by first | exact d2 | (simp [go_sem]; done) | (simp [go_sem, World.cell?_alloc_past, d2, r0, r0a, r0b, r1, r1a, r1b]; done))
  replace d3 : w10.cell? ⟨w1.heap.size, 3, none⟩ = some (.int .i64 5) := hx10.has (by first | exact d3 | (simp [go_sem]; done) | (simp [go_sem, World.cell?_alloc_past, d3, r0, r0a, r0b, r1, r1a, r1b]; done))
  have z10 := hx10.size
  try simp at z10
  replace r0 : w1.heap.size < w10.heap.size := by omega
  replace r0a : w1.heap.size < w10.heap.size + 1 := by omega
  replace r0b : w1.heap.size < w10.heap.size + 1 + 1 := by omega
  have X10 : Hid (Ext w w10) := Lib.hid (Ext.trans (by repeat (first | with_reducible exact X9.out | with_reducible refine Ext.drew ?_ | with_reducible refine Ext.drewN ?_ _ | with_reducible refine Ext.alloc ?_ _ | with_reducible refine Ext.setCell ?_ (by first | omega | (simp; done) | (simp; omega)) _)) hx10)
  clear hx10 X9 z10
  go_wp2_with fail
  (with_reducible refine (tBacked_at 2 9 1 5 2 20 0 true (by decide) _).mono ?_)
  rintro e w11 ⟨rfl, hx11⟩
  replace d0 : w11.cell? ⟨w1.heap.size, 0, none⟩ = some (.int .i64 2) := hx11.has (by first | exact d0 | (simp [go_sem]; done) | (simp [go_sem, World.cell?_alloc_past, d0, r0, r0a, r0b]; done))
  replace d1 : w11.cell? ⟨w1.heap.size, 1, none⟩ = some (.int .i64 9) := hx11.has (by first | exact d1 | (simp [go_sem]; done) | (simp [go_sem, World.cell?_alloc_past, d1, r0, r0a, r0b]; done))
  replace d2 : w11.cell? ⟨w1.heap.size, 2, none⟩ = some (.int .i64 1) := hx11.has (by first | exact d2 | (simp [go_sem]; done) | (simp [go_sem, World.cell?_alloc_past, d2, r0, r0a, r0b]; done))
  replace d3 : w11.cell? ⟨w1.heap.size, 3, none⟩ = some (.int .i64 5) := hx11.has (by first | exact d3 | (simp [go_sem]; done) | (simp [go_sem, World.cell?_alloc_past, d3, r0, r0a, r0b]; done))
  have z11 := hx11.size
  try simp at z11
  replace r0 : w1.heap.size < w11.heap.size := by omega
  replace r0a : w1.heap.size < w11.heap.size + 1 := by omega
  replace r0b : w1.heap.size < w11.heap.size + 1 + 1 := by omega
  have X11 : Hid (Ext w w11) := Lib.hid (Ext.trans (by repeat (first | with_reducible exact X10.out | with_reducible refine Ext.drew ?_ | with_reducible refine Ext.drewN ?_ _ | with_reducible refine Ext.alloc ?_ _ | with_reducible refine Ext.setCell ?_ (by first | omega | (simp; done) | (simp; omega)) _)) hx11)
  clear hx11 X10 z11
  go_wp2_with fail
  (with_reducible refine (tBacked_at 2 9 1 5 2 20 20 true (by decide) _).mono ?_)
  rintro e w12 ⟨rfl, hx12⟩
  replace d0 : w12.cell? ⟨w1.heap.size, 0, none⟩ = some (.int .i64 2) := hx12.has (by first | exact d0 | (simp [go_sem]; done) | (simp [go_sem, World.cell?_alloc_past, d0, r0, r0a, r0b]; done))
  replace d1 : w12.cell? ⟨w1.heap.size, 1, none⟩ = some (.int .i64 9) := hx12.has (by first | exact d1 | (simp [go_sem]; done) | (simp [go_sem, World.cell?_alloc_past, d1, r0, r0a, r0b]; done))
  replace d2 : w12.cell? ⟨w1.heap.size, 2, none⟩ = some (.int .i64 1) := hx12.has (by first | exact d2 | (simp [go_sem]; done) | (simp [go_sem, World.cell?_alloc_past, d2, r0, r0a, r0b]; done))
  replace d3 : w12.cell? ⟨w1.heap.size, 3, none⟩ = some (.int .i64 5) := hx12.has (by first | exact d3 | (simp [go_sem]; done) | (simp [go_sem, World.cell?_alloc_past, d3, r0, r0a, r0b]; done))
  have z12 := hx12.size
  try simp at z12
  replace r0 : w1.heap.size < w12.heap.size := by omega
  replace r0a : w1.heap.size < w12.heap.size + 1 := by omega
  replace r0b : w1.heap.size < w12.heap.size + 1 + 1 := by omega
  have X12 : Hid (Ext w w12) := Lib.hid (Ext.trans (by repeat (first | with_reducible exact X11.out | with_reducible refine Ext.drew ?_ | with_reducible refine Ext.drewN ?_ _ | with_reducible refine Ext.alloc ?_ _ | with_reducible refine Ext.setCell ?_ (by first | omega | (simp; done) | (simp; omega)) _)) hx12)
  clear hx12 X11 z12
  go_wp2_with fail
  (with_reducible refine (tBacked_at 2 9 1 5 2 21 20 false (by decide) _).mono ?_)
  rintro e w13 ⟨rfl, hx13⟩
  replace d0 : w13.cell? ⟨w1.heap.size, 0, none⟩ = some (.int .i64 2) := hx13.has (by first | exact d0 | (simp [go_sem]; done) | (simp [go_sem, World.cell?_alloc_past, d0, r0, r0a, r0b]; done))
  replace d1 : w13.cell? ⟨w1.heap.size, 1, none⟩ = some (.int .i64 9) := hx13.has (by first | exact d1 | (simp [go_sem]; done) | (simp [go_sem, World.cell?_alloc_past, d1, r0, r0a, r0b]; done))
  replace d2 : w13.cell? ⟨w1.heap.size, 2, none⟩ = some (.int .i64 1) := hx13.has (by first | exact d2 | (simp [go_sem]; done) | (simp [go_sem, World.cell?_alloc_past, d2, r0, r0a, r0b]; done))
  replace d3 : w13.cell? ⟨w1.heap.size, 3, none⟩ = some (.int .i64 5) := hx13.has (by first | exact d3 | (simp [go_sem]; done) | (simp [go_sem, World.cell?_alloc_past, d3, r0, r0a, r0b]; done))
  have z13 := hx13.size
  try simp at z13
  replace r0 : w1.heap.size < w13.heap.size := by omega
  replace r0a : w1.heap.size < w13.heap.size + 1 := by omega
  replace r0b : w1.heap.size < w13.heap.size + 1 + 1 := by omega
  have X13 : Hid (Ext w w13) := Lib.hid (Ext.trans (by repeat (first | with_reducible exact X12.out | with_reducible refine Ext.drew ?_ | with_reducible refine Ext.drewN ?_ _ | with_reducible refine Ext.alloc ?_ _ | with_reducible refine Ext.setCell ?_ (by first | omega | (simp; done) | (simp; omega)) _)) hx13)
  clear hx13 X12 z13
  go_wp2_with fail
  (with_reducible refine (tBacked_at 2 9 1 5 1 7 20 true (by decide) _).mono ?_)
  rintro e w14 ⟨rfl, hx14⟩
  replace d0 : w14.cell? ⟨w1.heap.size, 0, none⟩ = some (.int .i64 2) := hx14.has (by first | exact d0 | (simp [go_sem]; done) | (simp [go_sem, World.cell?_alloc_past, d0, r0, r0a, r0b]; done))
  replace d1 : w14.cell? ⟨w1.heap.size, 1, none⟩ = some (.int .i64 9) := hx14.has (by first | exact d1 | (simp [go_sem]; done) | (simp [go_sem, World.cell?_alloc_past, d1, r0, r0a, r0b]; done))
  replace d2 : w14.cell? ⟨w1.heap.size, 2, none⟩ = some (.int .i64 1) := hx14.has (by first | exact d2 | (simp [go_sem]; done) | (simp [go_sem, World.cell?_alloc_past, d2, r0, r0a, r0b]; done))
  replace d3 : w14.cell? ⟨w1.heap.size, 3, none⟩ = some (.int .i64 5) := hx14.has (by first | exact d3 | (simp [go_sem]; done) | (simp [go_sem, World.cell?_alloc_past, d3, r0, r0a, r0b]; done))
  have z14 := hx14.size
  try simp at z14
  replace r0 : w1.heap.size < w14.heap.size := by omega
  replace r0a : w1.heap.size < w14.heap.size + 1 := by omega
  replace r0b : w1.heap.size < w14.heap.size + 1 + 1 := by omega
  have X14 : Hid (Ext w w14) := Lib.hid (Ext.trans (by repeat (first | with_reducible exact X13.out | with_reducible refine Ext.drew ?_ | with_reducible refine Ext.drewN ?_ _ | with_reducible refine Ext.alloc ?_ _ | with_reducible refine Ext.setCell ?_ (by first | omega | (simp; done) | (simp; omega)) _)) hx14)
  clear hx14 X13 z14
  go_wp2_with fail
  (with_reducible refine (tBacked_at 2 9 1 5 0 9 0 false (by decide) _).mono ?_)
  rintro e w15 ⟨rfl, hx15⟩
  replace d0 : w15.cell? ⟨w1.heap.size, 0, none⟩ = some (.int .i64 2) := hx15.has (by first | exact d0 | (simp [go_sem]; done) | (simp [go_sem, World.cell?_alloc_past, d0, r0, r0a, r0b]; done))
  replace d1 : w15.cell? ⟨w1.heap.size, 1, none⟩ = some (.int .i64 9) := hx15.has (by first | exact d1 | (simp [go_sem]; done) | (simp [go_sem, World.cell?_alloc_past, d1, r0, r0a, r0b]; done))
  replace d2 : w15.cell? ⟨w1.heap.size, 2, none⟩ = some (.int .i64 1) := hx15.has (by first | exact d2 | (simp [go_sem]; done) | (simp [go_sem, World.cell?_alloc_past, d2, r0, r0a, r0b]; done))
  replace d3 : w15.cell? ⟨w1.heap.size, 3, none⟩ = some (.int .i64 5) := hx15.has (by first | exact d3 | (simp [go_sem]; done) | (simp [go_sem, World.cell?_alloc_past, d3, r0, r0a, r0b]; done))
  have z15 := hx15.size
  try simp at z15
  replace r0 : w1.heap.size < w15.heap.size := by omega
  replace r0a : w1.heap.size < w15.heap.size + 1 := by omega
  replace r0b : w1.heap.size < w15.heap.size + 1 + 1 := by omega
  have X15 : Hid (Ext w w15) := Lib.hid (Ext.trans (by repeat (first | with_reducible exact X14.out | with_reducible refine Ext.drew ?_ | with_reducible refine Ext.drewN ?_ _ | with_reducible refine Ext.alloc ?_ _ | with_reducible refine Ext.setCell ?_ (by first | omega | (simp; done) | (simp; omega)) _)) hx15)
  clear hx15 X14 z15
  go_wp2_with fail
  (with_reducible refine (tCheck_at 2 9 2 5 2 (by decide) _).mono ?_)
  rintro e w16 ⟨rfl, hx16⟩
  replace d0 : w16.cell? ⟨w1.heap.size, 0, none⟩ = some (.int .i64 2) := hx16.has (by first | exact d0 | (simp [go_sem]; done) | (simp [go_sem, World.cell?_alloc_past, d0, r0, r0a, r0b]; done))
  replace d1 : w16.cell? ⟨w1.heap.size, 1, none⟩ = some (.int .i64 9) := hx16.has (by first | exact d1 | (simp [go_sem]; done) | (simp [go_sem, World.cell?_alloc_past, d1, r0, r0a, r0b]; done))
  replace d2 : w16.cell? ⟨w1.heap.size, 2, none⟩ = some (.int .i64 1) := hx16.has (by first | exact d2 | (simp [go_sem]; done) | (simp [go_sem, World.cell?_alloc_past, d2, r0, r0a, r0b]; done))
  replace d3 : w16.cell? ⟨w1.heap.size, 3, none⟩ = some (.int .i64 5) := hx16.has (by first | exact d3 | (simp [go_sem]; done) | (simp [go_sem, World.cell?_alloc_past, d3, r0, r0a, r0b]; done))
  have f0 : w16.cell? ⟨w15.heap.size + 1, 0, none⟩ = some (.int .i64 2) := hx16.has (by first | (simp [go_sem]; done) | (simp [go_sem, World.cell?_alloc_past]; done))
  have f1 : w16.cell? ⟨w15.heap.size + 1, 1, none⟩ = some (.int .i64 9) := hx16.has (by first | (simp [go_sem]; done) | (simp [go_sem, World.cell?_alloc_past]; done))
  have f2 : w16.cell? ⟨w15.heap.size + 1, 2, none⟩ = some (.int .i64 (-1)) := hx16.has (by first | (simp [go_sem]; done) | (simp [go_sem, World.cell?_alloc_past]; done))
  have f3 : w16.cell? ⟨w15.heap.size + 1, 3, none⟩ = some (.int .i64 5) := hx16.has (by first | (simp [go_sem]; done) | (simp [go_sem, World.cell?_alloc_past]; done))
  have g0 : w16.cell? ⟨w15.heap.size + 1 + 1, 0, none⟩ = some (.int .i64 2) := hx16.has (by first | (simp [go_sem]; done) | (simp [go_sem, World.cell?_alloc_past]; done))
  have g1 : w16.cell? ⟨w15.heap.size + 1 + 1, 1, none⟩ = some (.int .i64 9) := hx16.has (by first | (simp [go_sem]; done) | (simp [go_sem, World.cell?_alloc_past]; done))
  have g2 : w16.cell? ⟨w15.heap.size + 1 + 1, 2, none⟩ = some (.int .i64 1) := hx16.has (by first | (simp [go_sem]; done) | (simp [go_sem, World.cell?_alloc_past]; done))
  have g3 : w16.cell? ⟨w15.heap.size + 1 + 1, 3, none⟩ = some (.int .i64 0) := hx16.has (by first | (simp [go_sem]; done) | (simp [go_sem, World.cell?_alloc_past]; done))
  have h0 : w16.cell? ⟨w15.heap.size + 1 + 1 + 1, 0, none⟩ = some (.int .i64 2) := hx16.has (by first | (simp [go_sem]; done) | (simp [go_sem, World.cell?_alloc_past]; done))
  have h1 : w16.cell? ⟨w15.heap.size + 1 + 1 + 1, 1, none⟩ = some (.int .i64 9) := hx16.has (by first | (simp [go_sem]; done) | (simp [go_sem, World.cell?_alloc_past]; done))
  have h2 : w16.cell? ⟨w15.heap.size + 1 + 1 + 1, 2, none⟩ = some (.int .i64 1) := hx16.has (by first | (simp [go_sem]; done) | (simp [go_sem, World.cell?_alloc_past]; done))
  have h3 : w16.cell? ⟨w15.heap.size + 1 + 1 + 1, 3, none⟩ = some (.int .i64 10) := hx16.has (by first | (simp [go_sem]; done) | (simp [go_sem, World.cell?_alloc_past]; done))
  have z16 := hx16.size
  try simp at z16
  replace r0 : w1.heap.size < w16.heap.size := by omega
  replace r0a : w1.heap.size < w16.heap.size + 1 := by omega
  replace r0b : w1.heap.size < w16.heap.size + 1 + 1 := by omega
  replace r1 : w15.heap.size + 1 < w16.heap.size := by omega
  replace r1a : w15.heap.size + 1 < w16.heap.size + 1 := by omega
  replace r1b : w15.heap.size + 1 < w16.heap.size + 1 + 1 := by omega
  replace r2 : w15.heap.size + 1 + 1 < w16.heap.size := by omega
  replace r2a : w15.heap.size + 1 + 1 < w16.heap.size + 1 := by omega
  replace r2b : w15.heap.size + 1 + 1 < w16.heap.size + 1 + 1 := by omega
  replace r3 : w15.heap.size + 1 + 1 + 1 < w16.heap.size := by omega
  replace r3a : w15.heap.size + 1 + 1 + 1 < w16.heap.size + 1 := by omega
  replace r3b : w15.heap.size + 1 + 1 + 1 < w16.heap.size + 1 + 1 := by omega
  have X16 : Hid (Ext w w16) := Lib.hid (Ext.trans (by repeat (first | with_reducible exact X15.out | with_reducible refine Ext.drew ?_ | with_reducible refine Ext.drewN ?_ _ | with_reducible refine Ext.alloc ?_ _ | with_reducible refine Ext.setCell ?_ (by first | omega | (simp; done) | (simp; omega)) _)) hx16)
  clear hx16 X15 z16
  go_wp2_with fail
  (with_reducible refine (tCheck_at 2 9 (-1) 5 11 (by decide) _).mono ?_)
  rintro e w17 ⟨rfl, hx17⟩
  replace d0 : w17.cell? ⟨w1.heap.size, 0, none⟩ = some (.int .i64 2) := hx17.has (by first | exact d0 | (simp [go_sem]; done) | (simp [go_sem, World.cell?_alloc_past, d0, r0, r0a, r0b, r1, r1a, r1b, r2, r2a, r2b, r3, r3a, r3b]; done))
  replace d1 : w17.cell? ⟨w1.heap.size, 1, none⟩ = some (.int .i64 9) := hx17.has (by first | exact d1 | (simp [go_sem]; done) | (simp [go_sem, World.cell?_alloc_past, d1, r0, r0a, r0b, r1, r1a, r1b, r2, r2a, r2b, r3, r3a, r3b]; done))
  replace d2 : w17.cell? ⟨w1.heap.size, 2, none⟩ = some (.int .i64 1) := hx17.has (by first | exact d2 | (simp [go_sem]; done) | (simp [go_sem, World.cell?_alloc_past, d2, r0, r0a, r0b, r1, r1a, r1b, r2, r2a, r2b, r3, r3a, r3b]; done))
  replace d3 : w17.cell? ⟨w1.heap.size, 3, none⟩ = some (.int .i64 5) := hx17.has (by first | exact d3 | (simp [go_sem]; done) | (simp [go_sem, World.cell?_alloc_past, d3, r0, r0a, r0b, r1, r1a, r1b, r2, r2a, r2b, r3, r3a, r3b]; done))
  replace f0 : w17.cell? ⟨w15.heap.size + 1, 0, none⟩ = some (.int .i64 2) := hx17.has (by first | exact f0 | (simp [go_sem]; done) | (simp [go_sem, World.cell?_alloc_past, f0, r0, r0a, r0b, r1, r1a, r1b, r2, r2a, r2b, r3, r3a, r3b]; done))
  replace f1 : w17.cell? ⟨w15.heap.size + 1, 1, none⟩ = some (.int .i64 9) := hx17.has (by first | exact f1 | (simp [go_sem]; done) | (simp [go_sem, World.cell?_alloc_past, f1, r0, r0a, r0b, r1, r1a, r1b, r2, r2a, r2b, r3, r3a, r3b]; done))
  replace f2 : w17.cell? ⟨w15.heap.size + 1, 2, none⟩ = some (.int .i64 (-1)) := hx17.has (by first | exact f2 | (simp [go_sem]; done) | (simp [go_sem, World.cell?_alloc_past, f2, r0, r0a, r0b, r1, r1a, r1b, r2, r2a, r2b, r3, r3a, r3b]; done))
  replace f3 : w17.cell? ⟨w15.heap.size + 1, 3, none⟩ = some (.int .i64 5) := hx17.has (by first | exact f3 | (simp [go_sem]; done) | (simp [go_sem, World.cell?_alloc_past, f3, r0, r0a, r0b, r1, r1a, r1b, r2, r2a, r2b, r3, r3a, r3b]; done))
  replace g0 : w17.cell? ⟨w15.heap.size + 1 + 1, 0, none⟩ = some (.int .i64 2) := hx17.has (by first | exact g0 | (simp [go_sem]; done) | (simp [go_sem, World.cell?_alloc_past, g0, r0, r0a, r0b, r1, r1a, r1b, r2, r2a, r2b, r3, r3a, r3b]; done))
  replace g1 : w17.cell? ⟨w15.heap.size + 1 + 1, 1, none⟩ = some (.int .i64 9) := hx17.has (by first | exact g1 | (simp [go_sem]; done) | (simp [go_sem, World.cell?_alloc_past, g1, r0, r0a, r0b, r1, r1a, r1b, r2, r2a, r2b, r3, r3a, r3b]; done))
  replace g2 : w17.cell? ⟨w15.heap.size + 1 + 1, 2, none⟩ = some (.int .i64 1) := hx17.has (by first | exact g2 | (simp [go_sem]; done) | (simp [go_sem, World.cell?_alloc_past, g2, r0, r0a, r0b, r1, r1a, r1b, r2, r2a, r2b, r3, r3a, r3b]; done))
  replace g3 : w17.cell? ⟨w15.heap.size + 1 + 1, 3, none⟩ = some (.int .i64 0) := hx17.has (by first | exact g3 | (simp [go_sem]; done) | (simp [go_sem, World.cell?_alloc_past, g3, r0, r0a, r0b, r1, r1a, r1b, r2, r2a, r2b, r3, r3a, r3b]; done))
  replace h0 : w17.cell? ⟨w15.heap.size + 1 + 1 + 1, 0, none⟩ = some (.int .i64 2) := hx17.has (by first | exact h0 | (simp [go_sem]; done) | (simp [go_sem, World.cell?_alloc_past, h0, r0, r0a, r0b, r1, r1a, r1b, r2, r2a, r2b, r3, r3a, r3b]; done))
  replace h1 : w17.cell? ⟨w15.heap.size + 1 + 1 + 1, 1, none⟩ = some (.int .i64 9) := hx17.has (by first | exact h1 | (simp [go_sem]; done) | (simp [go_sem, World.cell?_alloc_past, h1, r0, r0a, r0b, r1, r1a, r1b, r2, r2a, r2b, r3, r3a, r3b]; done))
  replace h2 : w17.cell? ⟨w15.heap.size + 1 + 1 + 1, 2, none⟩ = some (.int .i64 1) := hx17.has (by first | exact h2 | (simp [go_sem]; done) | (simp [go_sem, World.cell?_alloc_past, h2, r0, r0a, r0b, r1, r1a, r1b, r2, r2a, r2b, r3, r3a, r3b]; done))
  replace h3 : w17.cell? ⟨w15.heap.size + 1 + 1 + 1, 3, none⟩ = some (.int .i64 10) := hx17.has (by first | exact h3 | (simp [go_sem]; done) | (simp [go_sem, World.cell?_alloc_past, h3, r0, r0a, r0b, r1, r1a, r1b, r2, r2a, r2b, r3, r3a, r3b]; done))
  have z17 := hx17.size
  try simp at z17
  replace r0 : w1.heap.size < w17.heap.size := by omega
  replace r0a : w1.heap.size < w17.heap.size + 1 := by omega
  replace r0b : w1.heap.size < w17.heap.size + 1 + 1 := by omega
  replace r1 : w15.heap.size + 1 < w17.heap.size := by omega
  replace r1a : w15.heap.size + 1 < w17.heap.size + 1 := by omega
  replace r1b : w15.heap.size + 1 < w17.heap.size + 1 + 1 := by omega
  replace r2 : w15.heap.size + 1 + 1 < w17.heap.size := by omega
  replace r2a : w15.heap.size + 1 + 1 < w17.heap.size + 1 := by omega
  replace r2b : w15.heap.size + 1 + 1 < w17.heap.size + 1 + 1 := by omega
  replace r3 : w15.heap.size + 1 + 1 + 1 < w17.heap.size := by omega
  replace r3a : w15.heap.size + 1 + 1 + 1 < w17.heap.size + 1 := by omega
  replace r3b : w15.heap.size + 1 + 1 + 1 < w17.heap.size + 1 + 1 := by omega
  have X17 : Hid (Ext w w17) := Lib.hid (Ext.trans (by repeat (first | with_reducible exact X16.out | with_reducible refine Ext.drew ?_ | with_reducible refine Ext.drewN ?_ _ | with_reducible refine Ext.alloc ?_ _ | with_reducible refine Ext.setCell ?_ (by first | omega | (simp; done) | (simp; omega)) _)) hx17)
  clear hx17 X16 z17
  go_wp2_with fail
  (with_reducible refine (tCheck_at 2 9 1 0 11 (by decide) _).mono ?_)
  rintro e w18 ⟨rfl, hx18⟩
  replace d0 : w18.cell? ⟨w1.heap.size, 0, none⟩ = some (.int .i64 2) := hx18.has (by first | exact d0 | (simp [go_sem]; done) | (simp [go_sem, World.cell?_alloc_past, d0, r0, r0a, r0b, r1, r1a, r1b, r2, r2a, r2b, r3, r3a, r3b]; done))
  replace d1 : w18.cell? ⟨w1.heap.size, 1, none⟩ = some (.int .i64 9) := hx18.has (by first | exact d1 | (simp [go_sem]; done) | (simp [go_sem, World.cell?_alloc_past, d1, r0, r0a, r0b, r1, r1a, r1b, r2, r2a, r2b, r3, r3a, r3b]; done))
  replace d2 : w18.cell? ⟨w1.heap.size, 2, none⟩ = some (.int .i64 1) := hx18.has (by first | exact d2 | (simp [go_sem]; done) | (simp [go_sem, World.cell?_alloc_past, d2, r0, r0a, r0b, r1, r1a, r1b, r2, r2a, r2b, r3, r3a, r3b]; done))
  replace d3 : w18.cell? ⟨w1.heap.size, 3, none⟩ = some (.int .i64 5) := hx18.has (by first | exact d3 | (simp [go_sem]; done) | (simp [go_sem, World.cell?_alloc_past, d3, r0, r0a, r0b, r1, r1a, r1b, r2, r2a, r2b, r3, r3a, r3b]; done))
  replace g0 : w18.cell? ⟨w15.heap.size + 1 + 1, 0, none⟩ = some (.int .i64 2) := hx18.has (by first | exact g0 | (simp [go_sem]; done) | (simp [go_sem, World.cell?_alloc_past, g0, r0, r0a, r0b, r1, r1a, r1b, r2, r2a, r2b, r3, r3a, r3b]; done))
  replace g1 : w18.cell? ⟨w15.heap.size + 1 + 1, 1, none⟩ = some (.int .i64 9) := hx18.has (by first | exact g1 | (simp [go_sem]; done) | (simp [go_sem, World.cell?_alloc_past, g1, r0, r0a, r0b, r1, r1a, r1b, r2, r2a, r2b, r3, r3a, r3b]; done))
  replace g2 : w18.cell? ⟨w15.heap.size + 1 + 1, 2, none⟩ = some (.int .i64 1) := hx18.has (by first | exact g2 | (simp [go_sem]; done) | (simp [go_sem, World.cell?_alloc_past, g2, r0, r0a, r0b, r1, r1a, r1b, r2, r2a, r2b, r3, r3a, r3b]; done))
  replace g3 : w18.cell? ⟨w15.heap.size + 1 + 1, 3, none⟩ = some (.int .i64 0) := hx18.has (by first | exact g3 | (simp [go_sem]; done) | (simp [go_sem, World.cell?_alloc_past, g3, r0, r0a, r0b, r1, r1a, r1b, r2, r2a, r2b, r3, r3a, r3b]; done))
  replace h0 : w18.cell? ⟨w15.heap.size + 1 + 1 + 1, 0, none⟩ = some (.int .i64 2) := hx18.has (by first | exact h0 | (simp [go_sem]; done) | (simp [go_sem, World.cell?_alloc_past, h0, r0, r0a, r0b, r1, r1a, r1b, r2, r2a, r2b, r3, r3a, r3b]; done))
  replace h1 : w18.cell? ⟨w15.heap.size + 1 + 1 + 1, 1, none⟩ = some (.int .i64 9) := hx18.has (by first | exact h1 | (simp [go_sem]; done) | (simp [go_sem, World.cell?_alloc_past, h1, r0, r0a, r0b, r1, r1a, r1b, r2, r2a, r2b, r3, r3a, r3b]; done))
  replace h2 : w18.cell? ⟨w15.heap.size + 1 + 1 + 1, 2, none⟩ = some (.int .i64 1) := hx18.has (by first | exact h2 | (simp [go_sem]; done) | (simp [go_sem, World.cell?_alloc_past, h2, r0, r0a, r0b, r1, r1a, r1b, r2, r2a, r2b, r3, r3a, r3b]; done))
  replace h3 : w18.cell? ⟨w15.heap.size + 1 + 1 + 1, 3, none⟩ = some (.int .i64 10) := hx18.has (by first | exact h3 | (simp [go_sem]; done) | (simp [go_sem, World.cell?_alloc_past, h3, r0, r0a, r0b, r1, r1a, r1b, r2, r2a, r2b, r3, r3a, r3b]; done))
  have z18 := hx18.size
  try simp at z18
  replace r0 : w1.heap.size < w18.heap.size := by omega
  replace r0a : w1.heap.size < w18.heap.size + 1 := by omega
  replace r0b : w1.heap.size < w18.heap.size + 1 + 1 := by omega
  replace r1 : w15.heap.size + 1 + 1 < w18.heap.size := by omega
  replace r1a : w15.heap.size + 1 + 1 < w18.heap.size + 1 := by omega
  replace r1b : w15.heap.size + 1 + 1 < w18.heap.size + 1 + 1 := by omega
  replace r2 : w15.heap.size + 1 + 1 + 1 < w18.heap.size := by omega
  replace r2a : w15.heap.size + 1 + 1 + 1 < w18.heap.size + 1 := by omega
  replace r2b : w15.heap.size + 1 + 1 + 1 < w18.heap.size + 1 + 1 := by omega
  have X18 : Hid (Ext w w18) := Lib.hid (Ext.trans (by repeat (first | with_reducible exact X17.out | with_reducible refine Ext.drew ?_ | with_reducible refine Ext.drewN ?_ _ | with_reducible refine Ext.alloc ?_ _ | with_reducible refine Ext.setCell ?_ (by first | omega | (simp; done) | (simp; omega)) _)) hx18)
  clear hx18 X17 z18
  go_wp2_with fail
  (with_reducible refine (tCheck_at 2 9 1 10 9 (by decide) _).mono ?_)
  rintro e w19 ⟨rfl, hx19⟩
  replace d0 : w19.cell? ⟨w1.heap.size, 0, none⟩ = some (.int .i64 2) := hx19.has (by first | exact d0 | (simp [go_sem]; done) | (simp [go_sem, World.cell?_alloc_past, d0, r0, r0a, r0b, r1, r1a, r1b, r2, r2a, r2b]; done))
  replace d1 : w19.cell? ⟨w1.heap.size, 1, none⟩ = some (.int .i64 9) := hx19.has (by first | exact d1 | (simp [go_sem]; done) | (simp [go_sem, World.cell?_alloc_past, d1, r0, r0a, r0b, r1, r1a, r1b, r2, r2a, r2b]; done))
  replace d2 : w19.cell? ⟨w1.heap.size, 2, none⟩ = some (.int .i64 1) := hx19.has (by first | exact d2 | (simp [go_sem]; done) | (simp [go_sem, World.cell?_alloc_past, d2, r0, r0a, r0b, r1, r1a, r1b, r2, r2a, r2b]; done))
  replace d3 : w19.cell? ⟨w1.heap.size, 3, none⟩ = some (.int .i64 5) := hx19.has (by first | exact d3 | (simp [go_sem]; done) | (simp [go_sem, World.cell?_alloc_past, d3, r0, r0a, r0b, r1, r1a, r1b, r2, r2a, r2b]; done))
  replace h0 : w19.cell? ⟨w15.heap.size + 1 + 1 + 1, 0, none⟩ = some (.int .i64 2) := hx19.has (by first | exact h0 | (simp [go_sem]; done) | (simp [go_sem, World.cell?_alloc_past, h0, r0, r0a, r0b, r1, r1a, r1b, r2, r2a, r2b]; done))
  replace h1 : w19.cell? ⟨w15.heap.size + 1 + 1 + 1, 1, none⟩ = some (.int .i64 9) := hx19.has (by first | exact h1 | (simp [go_sem]; done) | (simp [go_sem, World.cell?_alloc_past, h1, r0, r0a, r0b, r1, r1a, r1b, r2, r2a, r2b]; done))
  replace h2 : w19.cell? ⟨w15.heap.size + 1 + 1 + 1, 2, none⟩ = some (.int .i64 1) := hx19.has (by first | exact h2 | (simp [go_sem]; done) | (simp [go_sem, World.cell?_alloc_past, h2, r0, r0a, r0b, r1, r1a, r1b, r2, r2a, r2b]; done))
  replace h3 : w19.cell? ⟨w15.heap.size + 1 + 1 + 1, 3, none⟩ = some (.int .i64 10) := hx19.has (by first | exact h3 | (simp [go_sem]; done) | (simp [go_sem, World.cell?_alloc_past, h3, r0, r0a, r0b, r1, r1a, r1b, r2, r2a, r2b]; done))
  have z19 := hx19.size
  try simp at z19
  replace r0 : w1.heap.size < w19.heap.size := by omega
  replace r0a : w1.heap.size < w19.heap.size + 1 := by omega
  replace r0b : w1.heap.size < w19.heap.size + 1 + 1 := by omega
  replace r1 : w15.heap.size + 1 + 1 + 1 < w19.heap.size := by omega
  replace r1a : w15.heap.size + 1 + 1 + 1 < w19.heap.size + 1 := by omega
  replace r1b : w15.heap.size + 1 + 1 + 1 < w19.heap.size + 1 + 1 := by omega
  have X19 : Hid (Ext w w19) := Lib.hid (Ext.trans (by repeat (first | with_reducible exact X18.out | with_reducible refine Ext.drew ?_ | with_reducible refine Ext.drewN ?_ _ | with_reducible refine Ext.alloc ?_ _ | with_reducible refine Ext.setCell ?_ (by first | omega | (simp; done) | (simp; omega)) _)) hx19)
  clear hx19 X18 z19
  go_wp2_with fail
  (with_reducible refine (lbare_any 2 0 _).mono ?_)
  rintro e w20 ⟨rfl, hx20⟩
  replace d0 : w20.cell? ⟨w1.heap.size, 0, none⟩ = some (.int .i64 2) := hx20.has (by first | exact d0 | (simp [go_sem]; done) | (simp [go_sem, World.cell?_alloc_past, d0, r0, r0a, r0b, r1, r1a, r1b]; done))
  replace d1 : w20.cell? ⟨w1.heap.size, 1, none⟩ = some (.int .i64 9) := hx20.has (by first | exact d1 | (simp [go_sem]; done) | (simp [go_sem, World.cell?_alloc_past, d1, r0, r0a, r0b, r1, r1a, r1b]; done))
  replace d2 : w20.cell? ⟨w1.heap.size, 2, none⟩ = some (.int .i64 1) := hx20.has (by first | exact d2 | (simp [go_sem]; done) | (simp [go_sem, World.cell?_alloc_past, d2, r0, r0a, r0b, r1, r1a, r1b]; done))
  replace d3 : w20.cell? ⟨w1.heap.size, 3, none⟩ = some (.int .i64 5) := hx20.has (by first | exact d3 | (simp [go_sem]; done) | (simp [go_sem, World.cell?_alloc_past, d3, r0, r0a, r0b, r1, r1a, r1b]; done))
  have z20 := hx20.size
  try simp at z20
  replace r0 : w1.heap.size < w20.heap.size := by omega
  replace r0a : w1.heap.size < w20.heap.size + 1 := by omega
  replace r0b : w1.heap.size < w20.heap.size + 1 + 1 := by omega
  have X20 : Hid (Ext w w20) := Lib.hid (Ext.trans (by repeat (first | with_reducible exact X19.out | with_reducible refine Ext.drew ?_ | with_reducible refine Ext.drewN ?_ _ | with_reducible refine Ext.alloc ?_ _ | with_reducible refine Ext.setCell ?_ (by first | omega | (simp; done) | (simp; omega)) _)) hx20)
  clear hx20 X19 z20
  go_wp2_with fail
  (with_reducible refine (tCheck_at 2 0 (-1) 0 3 (by decide) _).mono ?_)
  rintro e w21 ⟨rfl, hx21⟩
  replace d0 : w21.cell? ⟨w1.heap.size, 0, none⟩ = some (.int .i64 2) := hx21.has (by first | exact d0 | (simp [go_sem]; done) | (simp [go_sem, World.cell?_alloc_past, d0, r0, r0a, r0b]; done))
  replace d1 : w21.cell? ⟨w1.heap.size, 1, none⟩ = some (.int .i64 9) := hx21.has (by first | exact d1 | (simp [go_sem]; done) | (simp [go_sem, World.cell?_alloc_past, d1, r0, r0a, r0b]; done))
  replace d2 : w21.cell? ⟨w1.heap.size, 2, none⟩ = some (.int .i64 1) := hx21.has (by first | exact d2 | (simp [go_sem]; done) | (simp [go_sem, World.cell?_alloc_past, d2, r0, r0a, r0b]; done))
  replace d3 : w21.cell? ⟨w1.heap.size, 3, none⟩ = some (.int .i64 5) := hx21.has (by first | exact d3 | (simp [go_sem]; done) | (simp [go_sem, World.cell?_alloc_past, d3, r0, r0a, r0b]; done))
  have z21 := hx21.size
  try simp at z21
  replace r0 : w1.heap.size < w21.heap.size := by omega
  replace r0a : w1.heap.size < w21.heap.size + 1 := by omega
  replace r0b : w1.heap.size < w21.heap.size + 1 + 1 := by omega
  have X21 : Hid (Ext w w21) := Lib.hid (Ext.trans (by repeat (first | with_reducible exact X20.out | with_reducible refine Ext.drew ?_ | with_reducible refine Ext.drewN ?_ _ | with_reducible refine Ext.alloc ?_ _ | with_reducible refine Ext.setCell ?_ (by first | omega | (simp; done) | (simp; omega)) _)) hx21)
  clear hx21 X20 z21
  go_wp2_with fail
  (with_reducible refine (tBytes_at 2 9 1 5 2 9 2 5 stB_1 (by decide) _).mono ?_)
  rintro e w22 ⟨b1, rfl, g22, hx22⟩
  replace d0 : w22.cell? ⟨w1.heap.size, 0, none⟩ = some (.int .i64 2) := hx22.has (by first | exact d0 | (simp [go_sem]; done) | (simp [go_sem, World.cell?_alloc_past, d0, r0, r0a, r0b]; done))
  replace d1 : w22.cell? ⟨w1.heap.size, 1, none⟩ = some (.int .i64 9) := hx22.has (by first | exact d1 | (simp [go_sem]; done) | (simp [go_sem, World.cell?_alloc_past, d1, r0, r0a, r0b]; done))
  replace d2 : w22.cell? ⟨w1.heap.size, 2, none⟩ = some (.int .i64 1) := hx22.has (by first | exact d2 | (simp [go_sem]; done) | (simp [go_sem, World.cell?_alloc_past, d2, r0, r0a, r0b]; done))
  replace d3 : w22.cell? ⟨w1.heap.size, 3, none⟩ = some (.int .i64 5) := hx22.has (by first | exact d3 | (simp [go_sem]; done) | (simp [go_sem, World.cell?_alloc_past, d3, r0, r0a, r0b]; done))
  have z22 := hx22.size
  try simp at z22
  replace r0 : w1.heap.size < w22.heap.size := by omega
  replace r0a : w1.heap.size < w22.heap.size + 1 := by omega
  replace r0b : w1.heap.size < w22.heap.size + 1 + 1 := by omega
  have X22 : Hid (Ext w w22) := Lib.hid (Ext.trans (by repeat (first | with_reducible exact X21.out | with_reducible refine Ext.drew ?_ | with_reducible refine Ext.drewN ?_ _ | with_reducible refine Ext.alloc ?_ _ | with_reducible refine Ext.setCell ?_ (by first | omega | (simp; done) | (simp; omega)) _)) hx22)
  have Gb1 := Lib.hid g22
  clear hx22 X21 g22 z22
  go_wp2_with fail
  (with_reducible refine (lbare_any 2 9 _).mono ?_)
  rintro e w23 ⟨rfl, hx23⟩
  replace d0 : w23.cell? ⟨w1.heap.size, 0, none⟩ = some (.int .i64 2) := hx23.has (by first | exact d0 | (simp [go_sem]; done) | (simp [go_sem, World.cell?_alloc_past, d0, r0, r0a, r0b]; done))
  replace d1 : w23.cell? ⟨w1.heap.size, 1, none⟩ = some (.int .i64 9) := hx23.has (by first | exact d1 | (simp [go_sem]; done) | (simp [go_sem, World.cell?_alloc_past, d1, r0, r0a, r0b]; done))
  replace d2 : w23.cell? ⟨w1.heap.size, 2, none⟩ = some (.int .i64 1) := hx23.has (by first | exact d2 | (simp [go_sem]; done) | (simp [go_sem, World.cell?_alloc_past, d2, r0, r0a, r0b]; done))
  replace d3 : w23.cell? ⟨w1.heap.size, 3, none⟩ = some (.int .i64 5) := hx23.has (by first | exact d3 | (simp [go_sem]; done) | (simp [go_sem, World.cell?_alloc_past, d3, r0, r0a, r0b]; done))
  have z23 := hx23.size
  try simp at z23
  replace r0 : w1.heap.size < w23.heap.size := by omega
  replace r0a : w1.heap.size < w23.heap.size + 1 := by omega
  replace r0b : w1.heap.size < w23.heap.size + 1 + 1 := by omega
  replace Gb1 := Lib.hid (Gb1.out.ext (Ext.trans (by repeat (first | with_reducible exact Ext.refl _ | with_reducible refine Ext.drew ?_ | with_reducible refine Ext.drewN ?_ _ | with_reducible refine Ext.alloc ?_ _ | with_reducible refine Ext.setCell ?_ (by first | omega | (simp; done) | (simp; omega)) _)) hx23))
  have X23 : Hid (Ext w w23) := Lib.hid (Ext.trans (by repeat (first | with_reducible exact X22.out | with_reducible refine Ext.drew ?_ | with_reducible refine Ext.drewN ?_ _ | with_reducible refine Ext.alloc ?_ _ | with_reducible refine Ext.setCell ?_ (by first | omega | (simp; done) | (simp; omega)) _)) hx23)
  clear hx23 X22 z23
  go_wp2_with fail
  (with_reducible refine (tBytes_at 2 9 (-1) 0 2 9 0 0 stB_2 (by decide) _).mono ?_)
  rintro e w24 ⟨b2, rfl, g24, hx24⟩
  replace d0 : w24.cell? ⟨w1.heap.size, 0, none⟩ = some (.int .i64 2) := hx24.has (by first | exact d0 | (simp [go_sem]; done) | (simp [go_sem, World.cell?_alloc_past, d0, r0, r0a, r0b]; done))
  replace d1 : w24.cell? ⟨w1.heap.size, 1, none⟩ = some (.int .i64 9) := hx24.has (by first | exact d1 | (simp [go_sem]; done) | (simp [go_sem, World.cell?_alloc_past, d1, r0, r0a, r0b]; done))
  replace d2 : w24.cell? ⟨w1.heap.size, 2, none⟩ = some (.int .i64 1) := hx24.has (by first | exact d2 | (simp [go_sem]; done) | (simp [go_sem, World.cell?_alloc_past, d2, r0, r0a, r0b]; done))
  replace d3 : w24.cell? ⟨w1.heap.size, 3, none⟩ = some (.int .i64 5) := hx24.has (by first | exact d3 | (simp [go_sem]; done) | (simp [go_sem, World.cell?_alloc_past, d3, r0, r0a, r0b]; done))
  have z24 := hx24.size
  try simp at z24
  replace r0 : w1.heap.size < w24.heap.size := by omega
  replace r0a : w1.heap.size < w24.heap.size + 1 := by omega
  replace r0b : w1.heap.size < w24.heap.size + 1 + 1 := by omega
  replace Gb1 := Lib.hid (Gb1.out.ext (Ext.trans (by repeat (first | with_reducible exact Ext.refl _ | with_reducible refine Ext.drew ?_ | with_reducible refine Ext.drewN ?_ _ | with_reducible refine Ext.alloc ?_ _ | with_reducible refine Ext.setCell ?_ (by first | omega | (simp; done) | (simp; omega)) _)) hx24))
  have X24 : Hid (Ext w w24) := Lib.hid (Ext.trans (by repeat (first | with_reducible exact X23.out | with_reducible refine Ext.drew ?_ | with_reducible refine Ext.drewN ?_ _ | with_reducible refine Ext.alloc ?_ _ | with_reducible refine Ext.setCell ?_ (by first | omega | (simp; done) | (simp; omega)) _)) hx24)
  have Gb2 := Lib.hid g24
  clear hx24 X23 g24 z24
  go_wp2_with fail
  (with_reducible refine (known_sb0 _ _ _ Gb1.out).mono ?_)
  rintro e w25 ⟨rfl, hx25⟩
  replace d0 : w25.cell? ⟨w1.heap.size, 0, none⟩ = some (.int .i64 2) := hx25.has (by first | exact d0 | (simp [go_sem]; done) | (simp [go_sem, World.cell?_alloc_past, d0, r0, r0a, r0b]; done))
  replace d1 : w25.cell? ⟨w1.heap.size, 1, none⟩ = some (.int .i64 9) := hx25.has (by first | exact d1 | (simp [go_sem]; done) | (simp [go_sem, World.cell?_alloc_past, d1, r0, r0a, r0b]; done))
  replace d2 : w25.cell? ⟨w1.heap.size, 2, none⟩ = some (.int .i64 1) := hx25.has (by first | exact d2 | (simp [go_sem]; done) | (simp [go_sem, World.cell?_alloc_past, d2, r0, r0a, r0b]; done))
  replace d3 : w25.cell? ⟨w1.heap.size, 3, none⟩ = some (.int .i64 5) := hx25.has (by first | exact d3 | (simp [go_sem]; done) | (simp [go_sem, World.cell?_alloc_past, d3, r0, r0a, r0b]; done))
  have z25 := hx25.size
  try simp at z25
  replace r0 : w1.heap.size < w25.heap.size := by omega
  replace r0a : w1.heap.size < w25.heap.size + 1 := by omega
  replace r0b : w1.heap.size < w25.heap.size + 1 + 1 := by omega
  replace Gb2 := Lib.hid (Gb2.out.ext (Ext.trans (by repeat (first | with_reducible exact Ext.refl _ | with_reducible refine Ext.drew ?_ | with_reducible refine Ext.drewN ?_ _ | with_reducible refine Ext.alloc ?_ _ | with_reducible refine Ext.setCell ?_ (by first | omega | (simp; done) | (simp; omega)) _)) hx25))
  have X25 : Hid (Ext w w25) := Lib.hid (Ext.trans (by repeat (first | with_reducible exact X24.out | with_reducible refine Ext.drew ?_ | with_reducible refine Ext.drewN ?_ _ | with_reducible refine Ext.alloc ?_ _ | with_reducible refine Ext.setCell ?_ (by first | omega | (simp; done) | (simp; omega)) _)) hx25)
  clear hx25 Gb1 X24 z25
  go_wp2_with fail
  (with_reducible refine (known_sb1 _ _ _ Gb2.out).mono ?_)
  rintro e w26 ⟨rfl, hx26⟩
  replace d0 : w26.cell? ⟨w1.heap.size, 0, none⟩ = some (.int .i64 2) := hx26.has (by first | exact d0 | (simp [go_sem]; done) | (simp [go_sem, World.cell?_alloc_past, d0, r0, r0a, r0b]; done))
  replace d1 : w26.cell? ⟨w1.heap.size, 1, none⟩ = some (.int .i64 9) := hx26.has (by first | exact d1 | (simp [go_sem]; done) | (simp [go_sem, World.cell?_alloc_past, d1, r0, r0a, r0b]; done))
  replace d2 : w26.cell? ⟨w1.heap.size, 2, none⟩ = some (.int .i64 1) := hx26.has (by first | exact d2 | (simp [go_sem]; done) | (simp [go_sem, World.cell?_alloc_past, d2, r0, r0a, r0b]; done))
  replace d3 : w26.cell? ⟨w1.heap.size, 3, none⟩ = some (.int .i64 5) := hx26.has (by first | exact d3 | (simp [go_sem]; done) | (simp [go_sem, World.cell?_alloc_past, d3, r0, r0a, r0b]; done))
  have z26 := hx26.size
  try simp at z26
  replace r0 : w1.heap.size < w26.heap.size := by omega
  replace r0a : w1.heap.size < w26.heap.size + 1 := by omega
  replace r0b : w1.heap.size < w26.heap.size + 1 + 1 := by omega
  have X26 : Hid (Ext w w26) := Lib.hid (Ext.trans (by repeat (first | with_reducible exact X25.out | with_reducible refine Ext.drew ?_ | with_reducible refine Ext.drewN ?_ _ | with_reducible refine Ext.alloc ?_ _ | with_reducible refine Ext.setCell ?_ (by first | omega | (simp; done) | (simp; omega)) _)) hx26)
  clear hx26 Gb2 X25 z26
  go_wp2_with fail
  (with_reducible refine (known_f0 _).mono ?_)
  rintro e w27 ⟨rfl, hx27⟩
  replace d0 : w27.cell? ⟨w1.heap.size, 0, none⟩ = some (.int .i64 2) := hx27.has (by first | exact d0 | (simp [go_sem]; done) | (simp [go_sem, World.cell?_alloc_past, d0, r0, r0a, r0b]; done))
  replace d1 : w27.cell? ⟨w1.heap.size, 1, none⟩ = some (.int .i64 9) := hx27.has (by first | exact d1 | (simp [go_sem]; done) | (simp [go_sem, World.cell?_alloc_past, d1, r0, r0a, r0b]; done))
  replace d2 : w27.cell? ⟨w1.heap.size, 2, none⟩ = some (.int .i64 1) := hx27.has (by first | exact d2 | (simp [go_sem]; done) | (simp [go_sem, World.cell?_alloc_past, d2, r0, r0a, r0b]; done))
  replace d3 : w27.cell? ⟨w1.heap.size, 3, none⟩ = some (.int .i64 5) := hx27.has (by first | exact d3 | (simp [go_sem]; done) | (simp [go_sem, World.cell?_alloc_past, d3, r0, r0a, r0b]; done))
  have z27 := hx27.size
  try simp at z27
  replace r0 : w1.heap.size < w27.heap.size := by omega
  replace r0a : w1.heap.size < w27.heap.size + 1 := by omega
  replace r0b : w1.heap.size < w27.heap.size + 1 + 1 := by omega
  have X27 : Hid (Ext w w27) := Lib.hid (Ext.trans (by repeat (first | with_reducible exact X26.out | with_reducible refine Ext.drew ?_ | with_reducible refine Ext.drewN ?_ _ | with_reducible refine Ext.alloc ?_ _ | with_reducible refine Ext.setCell ?_ (by first | omega | (simp; done) | (simp; omega)) _)) hx27)
  clear hx27 X26 z27
  go_wp2_with fail
  (with_reducible refine (known_f1 _).mono ?_)
  rintro e w28 ⟨rfl, hx28⟩
  replace d0 : w28.cell? ⟨w1.heap.size, 0, none⟩ = some (.int .i64 2) := hx28.has (by first | exact d0 | (simp [go_sem]; done) | (simp [go_sem, World.cell?_alloc_past, d0, r0, r0a, r0b]; done))
  replace d1 : w28.cell? ⟨w1.heap.size, 1, none⟩ = some (.int .i64 9) := hx28.has (by first | exact d1 | (simp [go_sem]; done) | (simp [go_sem, World.cell?_alloc_past, d1, r0, r0a, r0b]; done))
  replace d2 : w28.cell? ⟨w1.heap.size, 2, none⟩ = some (.int .i64 1) := hx28.has (by first | exact d2 | (simp [go_sem]; done) | (simp [go_sem, World.cell?_alloc_past, d2, r0, r0a, r0b]; done))
  replace d3 : w28.cell? ⟨w1.heap.size, 3, none⟩ = some (.int .i64 5) := hx28.has (by first | exact d3 | (simp [go_sem]; done) | (simp [go_sem, World.cell?_alloc_past, d3, r0, r0a, r0b]; done))
  have z28 := hx28.size
  try simp at z28
  replace r0 : w1.heap.size < w28.heap.size := by omega
  replace r0a : w1.heap.size < w28.heap.size + 1 := by omega
  replace r0b : w1.heap.size < w28.heap.size + 1 + 1 := by omega
  have X28 : Hid (Ext w w28) := Lib.hid (Ext.trans (by repeat (first | with_reducible exact X27.out | with_reducible refine Ext.drew ?_ | with_reducible refine Ext.drewN ?_ _ | with_reducible refine Ext.alloc ?_ _ | with_reducible refine Ext.setCell ?_ (by first | omega | (simp; done) | (simp; omega)) _)) hx28)
  clear hx28 X27 z28
  go_wp2_with fail
  (with_reducible refine (known_f2 _).mono ?_)
  rintro e w29 ⟨rfl, hx29⟩
  replace d0 : w29.cell? ⟨w1.heap.size, 0, none⟩ = some (.int .i64 2) := hx29.has (by first | exact d0 | (simp [go_sem]; done) | (simp [go_sem, World.cell?_alloc_past, d0, r0, r0a, r0b]; done))
  replace d1 : w29.cell? ⟨w1.heap.size, 1, none⟩ = some (.int .i64 9) := hx29.has (by first | exact d1 | (simp [go_sem]; done) | (simp [go_sem, World.cell?_alloc_past, d1, r0, r0a, r0b]; done))
  replace d2 : w29.cell? ⟨w1.heap.size, 2, none⟩ = some (.int .i64 1) := hx29.has (by first | exact d2 | (simp [go_sem]; done) | (simp [go_sem, World.cell?_alloc_past, d2, r0, r0a, r0b]; done))
  replace d3 : w29.cell? ⟨w1.heap.size, 3, none⟩ = some (.int .i64 5) := hx29.has (by first | exact d3 | (simp [go_sem]; done) | (simp [go_sem, World.cell?_alloc_past, d3, r0, r0a, r0b]; done))
  have z29 := hx29.size
  try simp at z29
  replace r0 : w1.heap.size < w29.heap.size := by omega
  replace r0a : w1.heap.size < w29.heap.size + 1 := by omega
  replace r0b : w1.heap.size < w29.heap.size + 1 + 1 := by omega
  have X29 : Hid (Ext w w29) := Lib.hid (Ext.trans (by repeat (first | with_reducible exact X28.out | with_reducible refine Ext.drew ?_ | with_reducible refine Ext.drewN ?_ _ | with_reducible refine Ext.alloc ?_ _ | with_reducible refine Ext.setCell ?_ (by first | omega | (simp; done) | (simp; omega)) _)) hx29)
  clear hx29 X28 z29
  try clear e0
  try clear e1
  try clear e2
  try clear e3
  try clear f0
  try clear f1
  try clear f2
  try clear f3
  try clear g0
  try clear g1
  try clear g2
  try clear g3
  try clear h0
  try clear h1
  try clear h2
  try clear h3
  try clear r1
  try clear r1a
  try clear r1b
  try clear r2
  try clear r2a
  try clear r2b
  try clear r3
  try clear r3a
  try clear r3b
  go_wp2_with fail
  refine wp_region_held_drew (S := fun w' => w'.cell? ⟨w1.heap.size, 0, none⟩ = some (.int .i64 2) ∧ w'.cell? ⟨w1.heap.size, 1, none⟩ = some (.int .i64 9) ∧ w'.cell? ⟨w1.heap.size, 2, none⟩ = some (.int .i64 1) ∧ w'.cell? ⟨w1.heap.size, 3, none⟩ = some (.int .i64 5)) (by kernel_rfl) (by first | exact ⟨d0, d1, d2, d3⟩ | (simp [go_sem, World.cell?_alloc_past, d0, d1, d2, d3, r0, r0a, r0b]; done)) (fun hHeld => ?_)
  refine' next_in 0 rfl (by kernel_rfl) (by rfl) (fun K hK => ?_)
  go_simp
  (with_reducible refine (awake12_any _).mono ?_)
  rintro e w30 ⟨rfl, hx30⟩
  replace d0 : w30.cell? ⟨w1.heap.size, 0, none⟩ = some (.int .i64 2) := hx30.has (by first | exact d0 | (simp [go_sem]; done) | (simp [go_sem, World.cell?_alloc_past, d0, r0, r0a, r0b]; done))
  replace d1 : w30.cell? ⟨w1.heap.size, 1, none⟩ = some (.int .i64 9) := hx30.has (by first | exact d1 | (simp [go_sem]; done) | (simp [go_sem, World.cell?_alloc_past, d1, r0, r0a, r0b]; done))
  replace d2 : w30.cell? ⟨w1.heap.size, 2, none⟩ = some (.int .i64 1) := hx30.has (by first | exact d2 | (simp [go_sem]; done) | (simp [go_sem, World.cell?_alloc_past, d2, r0, r0a, r0b]; done))
  replace d3 : w30.cell? ⟨w1.heap.size, 3, none⟩ = some (.int .i64 5) := hx30.has (by first | exact d3 | (simp [go_sem]; done) | (simp [go_sem, World.cell?_alloc_past, d3, r0, r0a, r0b]; done))
  have z30 := hx30.size
  try simp at z30
  replace r0 : w1.heap.size < w30.heap.size := by omega
  replace r0a : w1.heap.size < w30.heap.size + 1 := by omega
  replace r0b : w1.heap.size < w30.heap.size + 1 + 1 := by omega
  have X30 : Hid (Ext w w30) := Lib.hid (Ext.trans (by repeat (first | with_reducible exact X29.out | with_reducible refine Ext.drew ?_ | with_reducible refine Ext.drewN ?_ _ | with_reducible refine Ext.alloc ?_ _)) hx30)
  clear hx30 X29 z30
  refine hK.out _ _ (by (first | exact ⟨d0, d1, d2, d3⟩ | (simp [go_sem, World.cell?_alloc_past, d0, d1, d2, d3, r0, r0a, r0b]; done))) (fun hHeld => ?_); clear hK K; try simp only [Act.put, List.setIfInBounds_toArray, List.set_cons_zero, List.set_cons_succ]
  (refine' take_in 1 rfl (by kernel_rfl) (by kernel_rfl) (by kernel_rfl) (fun _ _ _ h => h) (by rfl) (by assumption) ?_ ?_; rotate_left; focus (intro w hSw; (try dsimp only at hSw); go_simp; try with_reducible rfl)); try simp only [Act.put, List.setIfInBounds_toArray, List.set_cons_zero, List.set_cons_succ]
  (refine' take_in 2 rfl (by kernel_rfl) (by kernel_rfl) (by kernel_rfl) (fun _ _ _ h => h) (by rfl) (by assumption) ?_ ?_; rotate_left; focus (intro w hSw; (try dsimp only at hSw); go_simp; try with_reducible rfl)); try simp only [Act.put, List.setIfInBounds_toArray, List.set_cons_zero, List.set_cons_succ]
  (refine' take_in 3 rfl (by kernel_rfl) (by kernel_rfl) (by kernel_rfl) (fun _ _ _ h => h) (by rfl) (by assumption) ?_ ?_; rotate_left; focus (intro w hSw; (try dsimp only at hSw); go_simp; try with_reducible rfl)); try simp only [Act.put, List.setIfInBounds_toArray, List.set_cons_zero, List.set_cons_succ]
  (refine' take_in 4 rfl (by kernel_rfl) (by kernel_rfl) (by kernel_rfl) (fun _ _ _ h => h) (by rfl) (by assumption) ?_ ?_; rotate_left; focus (intro w hSw; (try dsimp only at hSw); go_simp; try with_reducible rfl)); try simp only [Act.put, List.setIfInBounds_toArray, List.set_cons_zero, List.set_cons_succ]
  (refine' take_in 5 rfl (by kernel_rfl) (by kernel_rfl) (by kernel_rfl) (fun _ _ _ h => h) (by rfl) (by assumption) ?_ ?_; rotate_left; focus (intro w hSw; (try dsimp only at hSw); go_simp; try with_reducible rfl)); try simp only [Act.put, List.setIfInBounds_toArray, List.set_cons_zero, List.set_cons_succ]
  (refine' take_in 6 rfl (by kernel_rfl) (by kernel_rfl) (by kernel_rfl) (fun _ _ _ h => h) (by rfl) (by assumption) ?_ ?_; rotate_left; focus (intro w hSw; (try dsimp only at hSw); go_simp; try with_reducible rfl)); try simp only [Act.put, List.setIfInBounds_toArray, List.set_cons_zero, List.set_cons_succ]
  (refine' take_in 7 rfl (by kernel_rfl) (by kernel_rfl) (by kernel_rfl) (fun _ _ _ h => h) (by rfl) (by assumption) ?_ ?_; rotate_left; focus (intro w hSw; (try dsimp only at hSw); go_simp; try with_reducible rfl)); try simp only [Act.put, List.setIfInBounds_toArray, List.set_cons_zero, List.set_cons_succ]
  (refine' take_in 8 rfl (by kernel_rfl) (by kernel_rfl) (by kernel_rfl) (fun _ _ _ h => h) (by rfl) (by assumption) ?_ ?_; rotate_left; focus (intro w hSw; (try dsimp only at hSw); go_simp; try with_reducible rfl)); try simp only [Act.put, List.setIfInBounds_toArray, List.set_cons_zero, List.set_cons_succ]
  (refine' take_in 9 rfl (by kernel_rfl) (by kernel_rfl) (by kernel_rfl) (fun _ _ _ h => h) (by rfl) (by assumption) ?_ ?_; rotate_left; focus (intro w hSw; (try dsimp only at hSw); go_simp; try with_reducible rfl)); try simp only [Act.put, List.setIfInBounds_toArray, List.set_cons_zero, List.set_cons_succ]
  (refine' take_in 10 rfl (by kernel_rfl) (by kernel_rfl) (by kernel_rfl) (fun _ _ _ h => h) (by rfl) (by assumption) ?_ ?_; rotate_left; focus (intro w hSw; (try dsimp only at hSw); go_simp; try with_reducible rfl)); try simp only [Act.put, List.setIfInBounds_toArray, List.set_cons_zero, List.set_cons_succ]
  (refine' take_in 11 rfl (by kernel_rfl) (by kernel_rfl) (by kernel_rfl) (fun _ _ _ h => h) (by rfl) (by assumption) ?_ ?_; rotate_left; focus (intro w hSw; (try dsimp only at hSw); go_simp; try with_reducible rfl)); try simp only [Act.put, List.setIfInBounds_toArray, List.set_cons_zero, List.set_cons_succ]
  (refine' take_in 12 rfl (by kernel_rfl) (by kernel_rfl) (by kernel_rfl) (fun _ _ _ h => h) (by rfl) (by assumption) ?_ ?_; rotate_left; focus (intro w hSw; (try dsimp only at hSw); go_simp; try with_reducible rfl)); try simp only [Act.put, List.setIfInBounds_toArray, List.set_cons_zero, List.set_cons_succ]
  (refine' take_in 13 rfl (by kernel_rfl) (by kernel_rfl) (by kernel_rfl) (fun _ _ _ h => h) (by rfl) (by assumption) ?_ ?_; rotate_left; focus (intro w hSw; (try dsimp only at hSw); go_simp; try with_reducible rfl)); try simp only [Act.put, List.setIfInBounds_toArray, List.set_cons_zero, List.set_cons_succ]
  (refine' take_in 14 rfl (by kernel_rfl) (by kernel_rfl) (by kernel_rfl) (fun _ _ _ h => h) (by rfl) (by assumption) ?_ ?_; rotate_left; focus (intro w hSw; (try dsimp only at hSw); go_simp; try with_reducible rfl)); try simp only [Act.put, List.setIfInBounds_toArray, List.set_cons_zero, List.set_cons_succ]
  refine' next_in 15 rfl (by kernel_rfl) (by rfl) (fun K hK => ?_)
  go_simp
  (with_reducible refine (lbare_any _ _ _).mono ?_)
  rintro e w31 ⟨rfl, hx31⟩
  replace d0 : w31.cell? ⟨w1.heap.size, 0, none⟩ = some (.int .i64 2) := hx31.has (by first | exact d0 | (simp [go_sem]; done) | (simp [go_sem, World.cell?_alloc_past, d0, r0, r0a, r0b]; done))
  replace d1 : w31.cell? ⟨w1.heap.size, 1, none⟩ = some (.int .i64 9) := hx31.has (by first | exact d1 | (simp [go_sem]; done) | (simp [go_sem, World.cell?_alloc_past, d1, r0, r0a, r0b]; done))
  replace d2 : w31.cell? ⟨w1.heap.size, 2, none⟩ = some (.int .i64 1) := hx31.has (by first | exact d2 | (simp [go_sem]; done) | (simp [go_sem, World.cell?_alloc_past, d2, r0, r0a, r0b]; done))
  replace d3 : w31.cell? ⟨w1.heap.size, 3, none⟩ = some (.int .i64 5) := hx31.has (by first | exact d3 | (simp [go_sem]; done) | (simp [go_sem, World.cell?_alloc_past, d3, r0, r0a, r0b]; done))
  have z31 := hx31.size
  try simp at z31
  replace r0 : w1.heap.size < w31.heap.size := by omega
  replace r0a : w1.heap.size < w31.heap.size + 1 := by omega
  replace r0b : w1.heap.size < w31.heap.size + 1 + 1 := by omega
  have X31 : Hid (Ext w w31) := Lib.hid (Ext.trans (by repeat (first | with_reducible exact X30.out | with_reducible refine Ext.drew ?_ | with_reducible refine Ext.drewN ?_ _ | with_reducible refine Ext.alloc ?_ _)) hx31)
  clear hx31 X30 z31
  refine hK.out _ _ (by (first | exact ⟨d0, d1, d2, d3⟩ | (simp [go_sem, World.cell?_alloc_past, d0, d1, d2, d3, r0, r0a, r0b]; done))) (fun hHeld => ?_); clear hK K; try simp only [Act.put, List.setIfInBounds_toArray, List.set_cons_zero, List.set_cons_succ]
  refine' next_in 16 rfl (by kernel_rfl) (by rfl) (fun K hK => ?_)
  go_simp
  (with_reducible refine (tCompare_at 2 9 1 5 2 10 (-1) 0 (-1) (by decide) _).mono ?_)
  rintro e w32 ⟨rfl, hx32⟩
  replace d0 : w32.cell? ⟨w1.heap.size, 0, none⟩ = some (.int .i64 2) := hx32.has (by first | exact d0 | (simp [go_sem]; done) | (simp [go_sem, World.cell?_alloc_past, d0, r0, r0a, r0b]; done))
  replace d1 : w32.cell? ⟨w1.heap.size, 1, none⟩ = some (.int .i64 9) := hx32.has (by first | exact d1 | (simp [go_sem]; done) | (simp [go_sem, World.cell?_alloc_past, d1, r0, r0a, r0b]; done))
  replace d2 : w32.cell? ⟨w1.heap.size, 2, none⟩ = some (.int .i64 1) := hx32.has (by first | exact d2 | (simp [go_sem]; done) | (simp [go_sem, World.cell?_alloc_past, d2, r0, r0a, r0b]; done))
  replace d3 : w32.cell? ⟨w1.heap.size, 3, none⟩ = some (.int .i64 5) := hx32.has (by first | exact d3 | (simp [go_sem]; done) | (simp [go_sem, World.cell?_alloc_past, d3, r0, r0a, r0b]; done))
  have z32 := hx32.size
  try simp at z32
  replace r0 : w1.heap.size < w32.heap.size := by omega
  replace r0a : w1.heap.size < w32.heap.size + 1 := by omega
  replace r0b : w1.heap.size < w32.heap.size + 1 + 1 := by omega
  have X32 : Hid (Ext w w32) := Lib.hid (Ext.trans (by repeat (first | with_reducible exact X31.out | with_reducible refine Ext.drew ?_ | with_reducible refine Ext.drewN ?_ _ | with_reducible refine Ext.alloc ?_ _)) hx32)
  clear hx32 X31 z32
  refine hK.out _ _ (by (first | exact ⟨d0, d1, d2, d3⟩ | (simp [go_sem, World.cell?_alloc_past, d0, d1, d2, d3, r0, r0a, r0b]; done))) (fun hHeld => ?_); clear hK K; try simp only [Act.put, List.setIfInBounds_toArray, List.set_cons_zero, List.set_cons_succ]
  (refine' take_in 17 rfl (by kernel_rfl) (by kernel_rfl) (by kernel_rfl) (fun _ _ _ h => h) (by rfl) (by assumption) ?_ ?_; rotate_left; focus (intro w hSw; (try dsimp only at hSw); go_simp; try with_reducible rfl)); try simp only [Act.put, List.setIfInBounds_toArray, List.set_cons_zero, List.set_cons_succ]
  (refine' take_in 18 rfl (by kernel_rfl) (by kernel_rfl) (by kernel_rfl) (fun _ _ _ h => h) (by rfl) (by assumption) ?_ ?_; rotate_left; focus (intro w hSw; (try dsimp only at hSw); go_simp; try with_reducible rfl)); try simp only [Act.put, List.setIfInBounds_toArray, List.set_cons_zero, List.set_cons_succ]
  (refine' take_in 19 rfl (by kernel_rfl) (by kernel_rfl) (by kernel_rfl) (fun _ _ _ h => h) (by rfl) (by assumption) ?_ ?_; rotate_left; focus (intro w hSw; (try dsimp only at hSw); go_simp; try with_reducible rfl)); try simp only [Act.put, List.setIfInBounds_toArray, List.set_cons_zero, List.set_cons_succ]
  (refine' take_in 20 rfl (by kernel_rfl) (by kernel_rfl) (by kernel_rfl) (fun _ _ _ h => h) (by rfl) (by assumption) ?_ ?_; rotate_left; focus (intro w hSw; (try dsimp only at hSw); go_simp; try with_reducible rfl)); try simp only [Act.put, List.setIfInBounds_toArray, List.set_cons_zero, List.set_cons_succ]
  (refine' take_in 21 rfl (by kernel_rfl) (by kernel_rfl) (by kernel_rfl) (fun _ _ _ h => h) (by rfl) (by assumption) ?_ ?_; rotate_left; focus (intro w hSw; (try dsimp only at hSw); go_simp; try with_reducible rfl)); try simp only [Act.put, List.setIfInBounds_toArray, List.set_cons_zero, List.set_cons_succ]
  refine' next_in 22 rfl (by kernel_rfl) (by rfl) (fun K hK => ?_)
  go_simp
  (with_reducible refine (tCompare_at 2 9 1 5 2 9 1 5 0 (by decide) _).mono ?_)
  rintro e w33 ⟨rfl, hx33⟩
  replace d0 : w33.cell? ⟨w1.heap.size, 0, none⟩ = some (.int .i64 2) := hx33.has (by first | exact d0 | (simp [go_sem]; done) | (simp [go_sem, World.cell?_alloc_past, d0, r0, r0a, r0b]; done))
  replace d1 : w33.cell? ⟨w1.heap.size, 1, none⟩ = some (.int .i64 9) := hx33.has (by first | exact d1 | (simp [go_sem]; done) | (simp [go_sem, World.cell?_alloc_past, d1, r0, r0a, r0b]; done))
  replace d2 : w33.cell? ⟨w1.heap.size, 2, none⟩ = some (.int .i64 1) := hx33.has (by first | exact d2 | (simp [go_sem]; done) | (simp [go_sem, World.cell?_alloc_past, d2, r0, r0a, r0b]; done))
  replace d3 : w33.cell? ⟨w1.heap.size, 3, none⟩ = some (.int .i64 5) := hx33.has (by first | exact d3 | (simp [go_sem]; done) | (simp [go_sem, World.cell?_alloc_past, d3, r0, r0a, r0b]; done))
  have z33 := hx33.size
  try simp at z33
  replace r0 : w1.heap.size < w33.heap.size := by omega
  replace r0a : w1.heap.size < w33.heap.size + 1 := by omega
  replace r0b : w1.heap.size < w33.heap.size + 1 + 1 := by omega
  have X33 : Hid (Ext w w33) := Lib.hid (Ext.trans (by repeat (first | with_reducible exact X32.out | with_reducible refine Ext.drew ?_ | with_reducible refine Ext.drewN ?_ _ | with_reducible refine Ext.alloc ?_ _)) hx33)
  clear hx33 X32 z33
  refine hK.out _ _ (by (first | exact ⟨d0, d1, d2, d3⟩ | (simp [go_sem, World.cell?_alloc_past, d0, d1, d2, d3, r0, r0a, r0b]; done))) (fun hHeld => ?_); clear hK K; try simp only [Act.put, List.setIfInBounds_toArray, List.set_cons_zero, List.set_cons_succ]
  (refine' take_in 23 rfl (by kernel_rfl) (by kernel_rfl) (by kernel_rfl) (fun _ _ _ h => h) (by rfl) (by assumption) ?_ ?_; rotate_left; focus (intro w hSw; (try dsimp only at hSw); go_simp; try with_reducible rfl)); try simp only [Act.put, List.setIfInBounds_toArray, List.set_cons_zero, List.set_cons_succ]
  (refine' take_in 24 rfl (by kernel_rfl) (by kernel_rfl) (by kernel_rfl) (fun _ _ _ h => h) (by rfl) (by assumption) ?_ ?_; rotate_left; focus (intro w hSw; (try dsimp only at hSw); go_simp; try with_reducible rfl)); try simp only [Act.put, List.setIfInBounds_toArray, List.set_cons_zero, List.set_cons_succ]
  (refine' take_in 25 rfl (by kernel_rfl) (by kernel_rfl) (by kernel_rfl) (fun _ _ _ h => h) (by rfl) (by assumption) ?_ ?_; rotate_left; focus (intro w hSw; (try dsimp only at hSw); go_simp; try with_reducible rfl)); try simp only [Act.put, List.setIfInBounds_toArray, List.set_cons_zero, List.set_cons_succ]
  refine' next_in 26 rfl (by kernel_rfl) (by rfl) (fun K hK => ?_)
  go_simp
  (with_reducible refine (lbare_any _ _ _).mono ?_)
  rintro e w34 ⟨rfl, hx34⟩
  replace d0 : w34.cell? ⟨w1.heap.size, 0, none⟩ = some (.int .i64 2) := hx34.has (by first | exact d0 | (simp [go_sem]; done) | (simp [go_sem, World.cell?_alloc_past, d0, r0, r0a, r0b]; done))
  replace d1 : w34.cell? ⟨w1.heap.size, 1, none⟩ = some (.int .i64 9) := hx34.has (by first | exact d1 | (simp [go_sem]; done) | (simp [go_sem, World.cell?_alloc_past, d1, r0, r0a, r0b]; done))
  replace d2 : w34.cell? ⟨w1.heap.size, 2, none⟩ = some (.int .i64 1) := hx34.has (by first | exact d2 | (simp [go_sem]; done) | (simp [go_sem, World.cell?_alloc_past, d2, r0, r0a, r0b]; done))
  replace d3 : w34.cell? ⟨w1.heap.size, 3, none⟩ = some (.int .i64 5) := hx34.has (by first | exact d3 | (simp [go_sem]; done) | (simp [go_sem, World.cell?_alloc_past, d3, r0, r0a, r0b]; done))
  have z34 := hx34.size
  try simp at z34
  replace r0 : w1.heap.size < w34.heap.size := by omega
  replace r0a : w1.heap.size < w34.heap.size + 1 := by omega
  replace r0b : w1.heap.size < w34.heap.size + 1 + 1 := by omega
  have X34 : Hid (Ext w w34) := Lib.hid (Ext.trans (by repeat (first | with_reducible exact X33.out | with_reducible refine Ext.drew ?_ | with_reducible refine Ext.drewN ?_ _ | with_reducible refine Ext.alloc ?_ _)) hx34)
  clear hx34 X33 z34
  refine hK.out _ _ (by (first | exact ⟨d0, d1, d2, d3⟩ | (simp [go_sem, World.cell?_alloc_past, d0, d1, d2, d3, r0, r0a, r0b]; done))) (fun hHeld => ?_); clear hK K; try simp only [Act.put, List.setIfInBounds_toArray, List.set_cons_zero, List.set_cons_succ]
  refine' next_in 27 rfl (by kernel_rfl) (by rfl) (fun K hK => ?_)
  go_simp
  (with_reducible refine (lbare_any _ _ _).mono ?_)
  rintro e w35 ⟨rfl, hx35⟩
  replace d0 : w35.cell? ⟨w1.heap.size, 0, none⟩ = some (.int .i64 2) := hx35.has (by first | exact d0 | (simp [go_sem]; done) | (simp [go_sem, World.cell?_alloc_past, d0, r0, r0a, r0b]; done))
  replace d1 : w35.cell? ⟨w1.heap.size, 1, none⟩ = some (.int .i64 9) := hx35.has (by first | exact d1 | (simp [go_sem]; done) | (simp [go_sem, World.cell?_alloc_past, d1, r0, r0a, r0b]; done))
  replace d2 : w35.cell? ⟨w1.heap.size, 2, none⟩ = some (.int .i64 1) := hx35.has (by first | exact d2 | (simp [go_sem]; done) | (simp [go_sem, World.cell?_alloc_past, d2, r0, r0a, r0b]; done))
  replace d3 : w35.cell? ⟨w1.heap.size, 3, none⟩ = some (.int .i64 5) := hx35.has (by first | exact d3 | (simp [go_sem]; done) | (simp [go_sem, World.cell?_alloc_past, d3, r0, r0a, r0b]; done))
  have z35 := hx35.size
  try simp at z35
  replace r0 : w1.heap.size < w35.heap.size := by omega
  replace r0a : w1.heap.size < w35.heap.size + 1 := by omega
  replace r0b : w1.heap.size < w35.heap.size + 1 + 1 := by omega
  have X35 : Hid (Ext w w35) := Lib.hid (Ext.trans (by repeat (first | with_reducible exact X34.out | with_reducible refine Ext.drew ?_ | with_reducible refine Ext.drewN ?_ _ | with_reducible refine Ext.alloc ?_ _)) hx35)
  clear hx35 X34 z35
  refine hK.out _ _ (by (first | exact ⟨d0, d1, d2, d3⟩ | (simp [go_sem, World.cell?_alloc_past, d0, d1, d2, d3, r0, r0a, r0b]; done))) (fun hHeld => ?_); clear hK K; try simp only [Act.put, List.setIfInBounds_toArray, List.set_cons_zero, List.set_cons_succ]
  refine' next_in 28 rfl (by kernel_rfl) (by rfl) (fun K hK => ?_)
  go_simp
  (with_reducible refine (tCompare_at 1 99 (-1) 0 2 1 (-1) 0 (-1) (by decide) _).mono ?_)
  rintro e w36 ⟨rfl, hx36⟩
  replace d0 : w36.cell? ⟨w1.heap.size, 0, none⟩ = some (.int .i64 2) := hx36.has (by first | exact d0 | (simp [go_sem]; done) | (simp [go_sem, World.cell?_alloc_past, d0, r0, r0a, r0b]; done))
  replace d1 : w36.cell? ⟨w1.heap.size, 1, none⟩ = some (.int .i64 9) := hx36.has (by first | exact d1 | (simp [go_sem]; done) | (simp [go_sem, World.cell?_alloc_past, d1, r0, r0a, r0b]; done))
  replace d2 : w36.cell? ⟨w1.heap.size, 2, none⟩ = some (.int .i64 1) := hx36.has (by first | exact d2 | (simp [go_sem]; done) | (simp [go_sem, World.cell?_alloc_past, d2, r0, r0a, r0b]; done))
  replace d3 : w36.cell? ⟨w1.heap.size, 3, none⟩ = some (.int .i64 5) := hx36.has (by first | exact d3 | (simp [go_sem]; done) | (simp [go_sem, World.cell?_alloc_past, d3, r0, r0a, r0b]; done))
  have z36 := hx36.size
  try simp at z36
  replace r0 : w1.heap.size < w36.heap.size := by omega
  replace r0a : w1.heap.size < w36.heap.size + 1 := by omega
  replace r0b : w1.heap.size < w36.heap.size + 1 + 1 := by omega
  have X36 : Hid (Ext w w36) := Lib.hid (Ext.trans (by repeat (first | with_reducible exact X35.out | with_reducible refine Ext.drew ?_ | with_reducible refine Ext.drewN ?_ _ | with_reducible refine Ext.alloc ?_ _)) hx36)
  clear hx36 X35 z36
  refine hK.out _ _ (by (first | exact ⟨d0, d1, d2, d3⟩ | (simp [go_sem, World.cell?_alloc_past, d0, d1, d2, d3, r0, r0a, r0b]; done))) (fun hHeld => ?_); clear hK K; try simp only [Act.put, List.setIfInBounds_toArray, List.set_cons_zero, List.set_cons_succ]
  (refine' take_in 29 rfl (by kernel_rfl) (by kernel_rfl) (by kernel_rfl) (fun _ _ _ h => h) (by rfl) (by assumption) ?_ ?_; rotate_left; focus (intro w hSw; (try dsimp only at hSw); go_simp; try with_reducible rfl)); try simp only [Act.put, List.setIfInBounds_toArray, List.set_cons_zero, List.set_cons_succ]
  (refine' take_in 30 rfl (by kernel_rfl) (by kernel_rfl) (by kernel_rfl) (fun _ _ _ h => h) (by rfl) (by assumption) ?_ ?_; rotate_left; focus (intro w hSw; (try dsimp only at hSw); go_simp; try with_reducible rfl)); try simp only [Act.put, List.setIfInBounds_toArray, List.set_cons_zero, List.set_cons_succ]
  (refine' take_in 31 rfl (by kernel_rfl) (by kernel_rfl) (by kernel_rfl) (fun _ _ _ h => h) (by rfl) (by assumption) ?_ ?_; rotate_left; focus (intro w hSw; (try dsimp only at hSw); go_simp; try with_reducible rfl)); try simp only [Act.put, List.setIfInBounds_toArray, List.set_cons_zero, List.set_cons_succ]
  refine wpAnyH_done (by kernel_rfl) ?_ _
  go_wp2_with fail
  go_ret
  exact ⟨rfl, X36.out⟩
end Go.Proofs.Ythaknigljjnnaaa
