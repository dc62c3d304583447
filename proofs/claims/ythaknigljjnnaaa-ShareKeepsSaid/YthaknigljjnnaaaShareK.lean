/- law11: awake and ShareKnown return true (the chapter's examples). Conditions: none. -/
import Derived.Test.YthaknigljjnnaaaShareL
set_option linter.unusedVariables false
set_option linter.unusedSimpArgs false
namespace Go.Proofs.Ythaknigljjnnaaa
open Go.RowKit

theorem wd (x : Int) (h : (decide (0 ≤ x) && decide (x < 18446744073709551616)) = true) : Word x := by
  simpa [Word] using h
theorem SCheck_at (t s e : Int) (ht : Word t) (hs : Word s) (h : chkE t s = e) (w : World) :
    Calls Try.prog 43 #[.agg #[.int .u64 t, .int .u64 s]] w fun r w' => r = .returned (.int .i64 e) ∧ Ext w w' := by
  rw [← h]; exact SCheck_any t s ht hs w
theorem SValue_at (t s x n e : Int) (ht : Word t) (hs : Word s) (hx : Word x) (h1 : valN t s x = n) (h2 : valE t s x = e) (w : World) :
    Calls Try.prog 39 #[.agg #[.int .u64 t, .int .u64 s], .int .u64 x] w fun r w' => r = .returned (.tuple #[.int .u64 n, .int .i64 e]) ∧ Ext w w' := by
  rw [← h1, ← h2]; exact SValue_any t s x ht hs hx w
theorem SPrice_at (t s x n e : Int) (ht : Word t) (hs : Word s) (hx : Word x) (h1 : pccN t s x = n) (h2 : pccE t s x = e) (w : World) :
    Calls Try.prog 41 #[.agg #[.int .u64 t, .int .u64 s], .int .u64 x] w fun r w' => r = .returned (.tuple #[.int .u64 n, .int .i64 e]) ∧ Ext w w' := by
  rw [← h1, ← h2]; exact SPrice_any t s x ht hs hx w
set_option maxRecDepth 100000 in
set_option maxHeartbeats 4000000 in
theorem awake11_any (w : World) : Calls Try.prog 38 #[] w fun r w' => r = .returned (.bool true) ∧ Ext w w' := by
  go_enter Try.func38, Try.ntmps38
  go_wp2_with fail
  refine (lpool_any 9 10 _).mono ?_
  rintro e w1 ⟨rfl, hx1⟩
  have X1 : Hid (Ext w w1) := Lib.hid (Ext.trans (by repeat (first | with_reducible exact Ext.refl w | with_reducible refine Ext.drew ?_ | with_reducible refine Ext.drewN ?_ _ | with_reducible refine Ext.alloc ?_ _ | with_reducible refine Ext.setCell ?_ (by first | omega | (simp; done) | (simp; omega)) _)) hx1)
  clear hx1
  go_wp2_with fail
  refine (SValue_at 9 10 5 4 0 (wd _ rfl) (wd _ rfl) (wd _ rfl) (by decide) (by decide) _).mono ?_
  rintro e w2 ⟨rfl, hx2⟩
  have X2 : Hid (Ext w w2) := Lib.hid (Ext.trans (by repeat (first | with_reducible exact X1.out | with_reducible refine Ext.drew ?_ | with_reducible refine Ext.drewN ?_ _ | with_reducible refine Ext.alloc ?_ _ | with_reducible refine Ext.setCell ?_ (by first | omega | (simp; done) | (simp; omega)) _)) hx2)
  clear hx2 X1
  go_wp2_with fail
  refine (lpool_any 0 0 _).mono ?_
  rintro e w3 ⟨rfl, hx3⟩
  have X3 : Hid (Ext w w3) := Lib.hid (Ext.trans (by repeat (first | with_reducible exact X2.out | with_reducible refine Ext.drew ?_ | with_reducible refine Ext.drewN ?_ _ | with_reducible refine Ext.alloc ?_ _ | with_reducible refine Ext.setCell ?_ (by first | omega | (simp; done) | (simp; omega)) _)) hx3)
  clear hx3 X2
  go_wp2_with fail
  refine (lpool_any 10 10 _).mono ?_
  rintro e w4 ⟨rfl, hx4⟩
  have X4 : Hid (Ext w w4) := Lib.hid (Ext.trans (by repeat (first | with_reducible exact X3.out | with_reducible refine Ext.drew ?_ | with_reducible refine Ext.drewN ?_ _ | with_reducible refine Ext.alloc ?_ _ | with_reducible refine Ext.setCell ?_ (by first | omega | (simp; done) | (simp; omega)) _)) hx4)
  clear hx4 X3
  go_wp2_with fail
  refine (lmakes_true 0 0 0 10 10 10 10 (wd _ rfl) (wd _ rfl) (wd _ rfl) (by decide) (by decide) (by decide) (by decide) _).mono ?_
  rintro e w5 ⟨rfl, hx5⟩
  have X5 : Hid (Ext w w5) := Lib.hid (Ext.trans (by repeat (first | with_reducible exact X4.out | with_reducible refine Ext.drew ?_ | with_reducible refine Ext.drewN ?_ _ | with_reducible refine Ext.alloc ?_ _ | with_reducible refine Ext.setCell ?_ (by first | omega | (simp; done) | (simp; omega)) _)) hx5)
  clear hx5 X4
  go_wp2_with fail
  refine (lpool_any 9 10 _).mono ?_
  rintro e w6 ⟨rfl, hx6⟩
  have X6 : Hid (Ext w w6) := Lib.hid (Ext.trans (by repeat (first | with_reducible exact X5.out | with_reducible refine Ext.drew ?_ | with_reducible refine Ext.drewN ?_ _ | with_reducible refine Ext.alloc ?_ _ | with_reducible refine Ext.setCell ?_ (by first | omega | (simp; done) | (simp; omega)) _)) hx6)
  clear hx6 X5
  go_wp2_with fail
  refine (lpool_any 18 20 _).mono ?_
  rintro e w7 ⟨rfl, hx7⟩
  have X7 : Hid (Ext w w7) := Lib.hid (Ext.trans (by repeat (first | with_reducible exact X6.out | with_reducible refine Ext.drew ?_ | with_reducible refine Ext.drewN ?_ _ | with_reducible refine Ext.alloc ?_ _ | with_reducible refine Ext.setCell ?_ (by first | omega | (simp; done) | (simp; omega)) _)) hx7)
  clear hx7 X6
  go_wp2_with fail
  refine (lmakes_true 0 9 10 9 18 20 10 (wd _ rfl) (wd _ rfl) (wd _ rfl) (by decide) (by decide) (by decide) (by decide) _).mono ?_
  rintro e w8 ⟨rfl, hx8⟩
  have X8 : Hid (Ext w w8) := Lib.hid (Ext.trans (by repeat (first | with_reducible exact X7.out | with_reducible refine Ext.drew ?_ | with_reducible refine Ext.drewN ?_ _ | with_reducible refine Ext.alloc ?_ _ | with_reducible refine Ext.setCell ?_ (by first | omega | (simp; done) | (simp; omega)) _)) hx8)
  clear hx8 X7
  go_wp2_with fail
  refine (lpool_any 9 10 _).mono ?_
  rintro e w9 ⟨rfl, hx9⟩
  have X9 : Hid (Ext w w9) := Lib.hid (Ext.trans (by repeat (first | with_reducible exact X8.out | with_reducible refine Ext.drew ?_ | with_reducible refine Ext.drewN ?_ _ | with_reducible refine Ext.alloc ?_ _ | with_reducible refine Ext.setCell ?_ (by first | omega | (simp; done) | (simp; omega)) _)) hx9)
  clear hx9 X8
  go_wp2_with fail
  refine (lpool_any 1 1 _).mono ?_
  rintro e w10 ⟨rfl, hx10⟩
  have X10 : Hid (Ext w w10) := Lib.hid (Ext.trans (by repeat (first | with_reducible exact X9.out | with_reducible refine Ext.drew ?_ | with_reducible refine Ext.drewN ?_ _ | with_reducible refine Ext.alloc ?_ _ | with_reducible refine Ext.setCell ?_ (by first | omega | (simp; done) | (simp; omega)) _)) hx10)
  clear hx10 X9
  go_wp2_with fail
  refine (lmakes_true 1 9 10 9 1 1 8 (wd _ rfl) (wd _ rfl) (wd _ rfl) (by decide) (by decide) (by decide) (by decide) _).mono ?_
  rintro e w11 ⟨rfl, hx11⟩
  have X11 : Hid (Ext w w11) := Lib.hid (Ext.trans (by repeat (first | with_reducible exact X10.out | with_reducible refine Ext.drew ?_ | with_reducible refine Ext.drewN ?_ _ | with_reducible refine Ext.alloc ?_ _ | with_reducible refine Ext.setCell ?_ (by first | omega | (simp; done) | (simp; omega)) _)) hx11)
  clear hx11 X10
  go_wp2_with fail
  refine (lpool_any 9 10 _).mono ?_
  rintro e w12 ⟨rfl, hx12⟩
  have X12 : Hid (Ext w w12) := Lib.hid (Ext.trans (by repeat (first | with_reducible exact X11.out | with_reducible refine Ext.drew ?_ | with_reducible refine Ext.drewN ?_ _ | with_reducible refine Ext.alloc ?_ _ | with_reducible refine Ext.setCell ?_ (by first | omega | (simp; done) | (simp; omega)) _)) hx12)
  clear hx12 X11
  go_wp2_with fail
  refine (lpool_any 5 10 _).mono ?_
  rintro e w13 ⟨rfl, hx13⟩
  have X13 : Hid (Ext w w13) := Lib.hid (Ext.trans (by repeat (first | with_reducible exact X12.out | with_reducible refine Ext.drew ?_ | with_reducible refine Ext.drewN ?_ _ | with_reducible refine Ext.alloc ?_ _ | with_reducible refine Ext.setCell ?_ (by first | omega | (simp; done) | (simp; omega)) _)) hx13)
  clear hx13 X12
  go_wp2_with fail
  refine (lmakes_true 2 9 10 500000000 5 10 4 (wd _ rfl) (wd _ rfl) (wd _ rfl) (by decide) (by decide) (by decide) (by decide) _).mono ?_
  rintro e w14 ⟨rfl, hx14⟩
  have X14 : Hid (Ext w w14) := Lib.hid (Ext.trans (by repeat (first | with_reducible exact X13.out | with_reducible refine Ext.drew ?_ | with_reducible refine Ext.drewN ?_ _ | with_reducible refine Ext.alloc ?_ _ | with_reducible refine Ext.setCell ?_ (by first | omega | (simp; done) | (simp; omega)) _)) hx14)
  clear hx14 X13
  go_wp2_with fail
  refine (lpool_any 0 1 _).mono ?_
  rintro e w15 ⟨rfl, hx15⟩
  have X15 : Hid (Ext w w15) := Lib.hid (Ext.trans (by repeat (first | with_reducible exact X14.out | with_reducible refine Ext.drew ?_ | with_reducible refine Ext.drewN ?_ _ | with_reducible refine Ext.alloc ?_ _ | with_reducible refine Ext.setCell ?_ (by first | omega | (simp; done) | (simp; omega)) _)) hx15)
  clear hx15 X14
  go_wp2_with fail
  refine (SCheck_at 0 1 11 (wd _ rfl) (wd _ rfl) (by decide) _).mono ?_
  rintro e w16 ⟨rfl, hx16⟩
  have X16 : Hid (Ext w w16) := Lib.hid (Ext.trans (by repeat (first | with_reducible exact X15.out | with_reducible refine Ext.drew ?_ | with_reducible refine Ext.drewN ?_ _ | with_reducible refine Ext.alloc ?_ _ | with_reducible refine Ext.setCell ?_ (by first | omega | (simp; done) | (simp; omega)) _)) hx16)
  clear hx16 X15
  go_wp2_with fail
  go_ret
  exact ⟨rfl, X16.out⟩
set_option maxRecDepth 100000 in
set_option maxHeartbeats 4000000 in
theorem ShareKnown_any (w : World) : Calls Try.prog 6 #[] w fun r w' => r = .returned (.bool true) ∧ Ext w w' := by
  go_enter Try.func6, Try.ntmps6
  go_wp2_with fail
  refine (lpool_any 9 10 _).mono ?_
  rintro e w1 ⟨rfl, hx1⟩
  have X1 : Hid (Ext w w1) := Lib.hid (Ext.trans (by repeat (first | with_reducible exact Ext.refl w | with_reducible refine Ext.drew ?_ | with_reducible refine Ext.drewN ?_ _ | with_reducible refine Ext.alloc ?_ _ | with_reducible refine Ext.setCell ?_ (by first | omega | (simp; done) | (simp; omega)) _)) hx1)
  clear hx1
  go_wp2_with fail
  go_region_held3 (fun w' => w'.cell? ⟨w1.heap.size, 0, none⟩ = some (.int .u64 9) ∧ w'.cell? ⟨w1.heap.size, 1, none⟩ = some (.int .u64 10))
    (first | exact ⟨d0, d1⟩ | (simp [go_sem, World.cell?_alloc_past]; done) | (simp [go_sem, World.cell?_alloc_past, go_sem, go_sem]; done))
    (first
      | (have hst := X7
         clear hst
         go_at_call 49
         refine (lerrs_true 1 9 10 11 13 (wd _ rfl) (wd _ rfl) (wd _ rfl) (by decide) (by decide) (by decide) (by decide) _).mono ?_
         rintro e w8 ⟨rfl, hx8⟩
         replace d0 : w8.cell? ⟨w1.heap.size, 0, none⟩ = some (.int .u64 9) := hx8.has (by first | exact d0 | (simp [go_sem]; done) | (simp [go_sem, World.cell?_alloc_past, d0, r0, r0a, r0b]; done))
         replace d1 : w8.cell? ⟨w1.heap.size, 1, none⟩ = some (.int .u64 10) := hx8.has (by first | exact d1 | (simp [go_sem]; done) | (simp [go_sem, World.cell?_alloc_past, d1, r0, r0a, r0b]; done))
         have z8 := hx8.size
         try simp at z8
         replace r0 : w1.heap.size < w8.heap.size := by omega
         replace r0a : w1.heap.size < w8.heap.size + 1 := by omega
         replace r0b : w1.heap.size < w8.heap.size + 1 + 1 := by omega
         have X8 : Hid (Ext w w8) := Lib.hid (Ext.trans (by repeat (first | with_reducible exact X7.out | with_reducible refine Ext.drew ?_ | with_reducible refine Ext.drewN ?_ _ | with_reducible refine Ext.alloc ?_ _ | with_reducible refine Ext.setCell ?_ (by first | omega | (simp; done) | (simp; omega)) _)) hx8)
         clear hx8 X7 z8)
      | (have hst := X6
         clear hst
         go_at_call 48
         refine (lmakes_true 1 9 10 10 0 0 9 (wd _ rfl) (wd _ rfl) (wd _ rfl) (by decide) (by decide) (by decide) (by decide) _).mono ?_
         rintro e w7 ⟨rfl, hx7⟩
         replace d0 : w7.cell? ⟨w1.heap.size, 0, none⟩ = some (.int .u64 9) := hx7.has (by first | exact d0 | (simp [go_sem]; done) | (simp [go_sem, World.cell?_alloc_past, d0, r0, r0a, r0b]; done))
         replace d1 : w7.cell? ⟨w1.heap.size, 1, none⟩ = some (.int .u64 10) := hx7.has (by first | exact d1 | (simp [go_sem]; done) | (simp [go_sem, World.cell?_alloc_past, d1, r0, r0a, r0b]; done))
         have z7 := hx7.size
         try simp at z7
         replace r0 : w1.heap.size < w7.heap.size := by omega
         replace r0a : w1.heap.size < w7.heap.size + 1 := by omega
         replace r0b : w1.heap.size < w7.heap.size + 1 + 1 := by omega
         have X7 : Hid (Ext w w7) := Lib.hid (Ext.trans (by repeat (first | with_reducible exact X6.out | with_reducible refine Ext.drew ?_ | with_reducible refine Ext.drewN ?_ _ | with_reducible refine Ext.alloc ?_ _ | with_reducible refine Ext.setCell ?_ (by first | omega | (simp; done) | (simp; omega)) _)) hx7)
         clear hx7 X6 z7)
      | (have hst := X5
         clear hst
         go_at_call 47
         refine (lpool_any 0 0 _).mono ?_
         rintro e w6 ⟨rfl, hx6⟩
         replace d0 : w6.cell? ⟨w1.heap.size, 0, none⟩ = some (.int .u64 9) := hx6.has (by first | exact d0 | (simp [go_sem]; done) | (simp [go_sem, World.cell?_alloc_past, d0, r0, r0a, r0b]; done))
         replace d1 : w6.cell? ⟨w1.heap.size, 1, none⟩ = some (.int .u64 10) := hx6.has (by first | exact d1 | (simp [go_sem]; done) | (simp [go_sem, World.cell?_alloc_past, d1, r0, r0a, r0b]; done))
         have z6 := hx6.size
         try simp at z6
         replace r0 : w1.heap.size < w6.heap.size := by omega
         replace r0a : w1.heap.size < w6.heap.size + 1 := by omega
         replace r0b : w1.heap.size < w6.heap.size + 1 + 1 := by omega
         have X6 : Hid (Ext w w6) := Lib.hid (Ext.trans (by repeat (first | with_reducible exact X5.out | with_reducible refine Ext.drew ?_ | with_reducible refine Ext.drewN ?_ _ | with_reducible refine Ext.alloc ?_ _ | with_reducible refine Ext.setCell ?_ (by first | omega | (simp; done) | (simp; omega)) _)) hx6)
         clear hx6 X5 z6)
      | (have hst := X4
         clear hst
         go_at_call 49
         refine (lerrs_true 1 9 10 1 14 (wd _ rfl) (wd _ rfl) (wd _ rfl) (by decide) (by decide) (by decide) (by decide) _).mono ?_
         rintro e w5 ⟨rfl, hx5⟩
         replace d0 : w5.cell? ⟨w1.heap.size, 0, none⟩ = some (.int .u64 9) := hx5.has (by first | exact d0 | (simp [go_sem]; done) | (simp [go_sem, World.cell?_alloc_past, d0, r0, r0a, r0b]; done))
         replace d1 : w5.cell? ⟨w1.heap.size, 1, none⟩ = some (.int .u64 10) := hx5.has (by first | exact d1 | (simp [go_sem]; done) | (simp [go_sem, World.cell?_alloc_past, d1, r0, r0a, r0b]; done))
         have z5 := hx5.size
         try simp at z5
         replace r0 : w1.heap.size < w5.heap.size := by omega
         replace r0a : w1.heap.size < w5.heap.size + 1 := by omega
         replace r0b : w1.heap.size < w5.heap.size + 1 + 1 := by omega
         have X5 : Hid (Ext w w5) := Lib.hid (Ext.trans (by repeat (first | with_reducible exact X4.out | with_reducible refine Ext.drew ?_ | with_reducible refine Ext.drewN ?_ _ | with_reducible refine Ext.alloc ?_ _ | with_reducible refine Ext.setCell ?_ (by first | omega | (simp; done) | (simp; omega)) _)) hx5)
         clear hx5 X4 z5)
      | (have hst := X3
         clear hst
         go_at_call 49
         refine (lerrs_true 0 9 10 0 14 (wd _ rfl) (wd _ rfl) (wd _ rfl) (by decide) (by decide) (by decide) (by decide) _).mono ?_
         rintro e w4 ⟨rfl, hx4⟩
         replace d0 : w4.cell? ⟨w1.heap.size, 0, none⟩ = some (.int .u64 9) := hx4.has (by first | exact d0 | (simp [go_sem]; done) | (simp [go_sem, World.cell?_alloc_past, d0, r0, r0a, r0b]; done))
         replace d1 : w4.cell? ⟨w1.heap.size, 1, none⟩ = some (.int .u64 10) := hx4.has (by first | exact d1 | (simp [go_sem]; done) | (simp [go_sem, World.cell?_alloc_past, d1, r0, r0a, r0b]; done))
         have z4 := hx4.size
         try simp at z4
         replace r0 : w1.heap.size < w4.heap.size := by omega
         replace r0a : w1.heap.size < w4.heap.size + 1 := by omega
         replace r0b : w1.heap.size < w4.heap.size + 1 + 1 := by omega
         have X4 : Hid (Ext w w4) := Lib.hid (Ext.trans (by repeat (first | with_reducible exact X3.out | with_reducible refine Ext.drew ?_ | with_reducible refine Ext.drewN ?_ _ | with_reducible refine Ext.alloc ?_ _ | with_reducible refine Ext.setCell ?_ (by first | omega | (simp; done) | (simp; omega)) _)) hx4)
         clear hx4 X3 z4)
      | (have hst := X2
         clear hst
         go_at_call 48
         refine (lmakes_true 0 9 10 1 10 11 1 (wd _ rfl) (wd _ rfl) (wd _ rfl) (by decide) (by decide) (by decide) (by decide) _).mono ?_
         rintro e w3 ⟨rfl, hx3⟩
         replace d0 : w3.cell? ⟨w1.heap.size, 0, none⟩ = some (.int .u64 9) := hx3.has (by first | exact d0 | (simp [go_sem]; done) | (simp [go_sem, World.cell?_alloc_past, d0, r0, r0a, r0b]; done))
         replace d1 : w3.cell? ⟨w1.heap.size, 1, none⟩ = some (.int .u64 10) := hx3.has (by first | exact d1 | (simp [go_sem]; done) | (simp [go_sem, World.cell?_alloc_past, d1, r0, r0a, r0b]; done))
         have z3 := hx3.size
         try simp at z3
         replace r0 : w1.heap.size < w3.heap.size := by omega
         replace r0a : w1.heap.size < w3.heap.size + 1 := by omega
         replace r0b : w1.heap.size < w3.heap.size + 1 + 1 := by omega
         have X3 : Hid (Ext w w3) := Lib.hid (Ext.trans (by repeat (first | with_reducible exact X2.out | with_reducible refine Ext.drew ?_ | with_reducible refine Ext.drewN ?_ _ | with_reducible refine Ext.alloc ?_ _ | with_reducible refine Ext.setCell ?_ (by first | omega | (simp; done) | (simp; omega)) _)) hx3)
         clear hx3 X2 z3)
      | (have hst := X1
         clear hst
         go_at_call 47
         refine (lpool_any 10 11 _).mono ?_
         rintro e w2 ⟨rfl, hx2⟩
         have d0 : w2.cell? ⟨w1.heap.size, 0, none⟩ = some (.int .u64 9) := hx2.has (by first | (simp [go_sem]; done) | (simp [go_sem, World.cell?_alloc_past]; done))
         have d1 : w2.cell? ⟨w1.heap.size, 1, none⟩ = some (.int .u64 10) := hx2.has (by first | (simp [go_sem]; done) | (simp [go_sem, World.cell?_alloc_past]; done))
         have z2 := hx2.size
         try simp at z2
         replace r0 : w1.heap.size < w2.heap.size := by omega
         replace r0a : w1.heap.size < w2.heap.size + 1 := by omega
         replace r0b : w1.heap.size < w2.heap.size + 1 + 1 := by omega
         have X2 : Hid (Ext w w2) := Lib.hid (Ext.trans (by repeat (first | with_reducible exact X1.out | with_reducible refine Ext.drew ?_ | with_reducible refine Ext.drewN ?_ _ | with_reducible refine Ext.alloc ?_ _ | with_reducible refine Ext.setCell ?_ (by first | omega | (simp; done) | (simp; omega)) _)) hx2)
         clear hx2 X1 z2))
  go_wp2_with fail
  go_region_held3 (fun w' => w'.cell? ⟨w1.heap.size, 0, none⟩ = some (.int .u64 9) ∧ w'.cell? ⟨w1.heap.size, 1, none⟩ = some (.int .u64 10))
    (first | exact ⟨d0, d1⟩ | (simp [go_sem, World.cell?_alloc_past]; done) | (simp [go_sem, World.cell?_alloc_past, d0, d1, r0, r0a, r0b]; done))
    (first
      | (have hst := X11
         clear hst
         go_at_call 49
         refine (lerrs_true 2 9 10 1000000001 3 (wd _ rfl) (wd _ rfl) (wd _ rfl) (by decide) (by decide) (by decide) (by decide) _).mono ?_
         rintro e w12 ⟨rfl, hx12⟩
         replace d0 : w12.cell? ⟨w1.heap.size, 0, none⟩ = some (.int .u64 9) := hx12.has (by first | exact d0 | (simp [go_sem]; done) | (simp [go_sem, World.cell?_alloc_past, d0, r0, r0a, r0b]; done))
         replace d1 : w12.cell? ⟨w1.heap.size, 1, none⟩ = some (.int .u64 10) := hx12.has (by first | exact d1 | (simp [go_sem]; done) | (simp [go_sem, World.cell?_alloc_past, d1, r0, r0a, r0b]; done))
         have z12 := hx12.size
         try simp at z12
         replace r0 : w1.heap.size < w12.heap.size := by omega
         replace r0a : w1.heap.size < w12.heap.size + 1 := by omega
         replace r0b : w1.heap.size < w12.heap.size + 1 + 1 := by omega
         have X12 : Hid (Ext w w12) := Lib.hid (Ext.trans (by repeat (first | with_reducible exact X11.out | with_reducible refine Ext.drew ?_ | with_reducible refine Ext.drewN ?_ _ | with_reducible refine Ext.alloc ?_ _ | with_reducible refine Ext.setCell ?_ (by first | omega | (simp; done) | (simp; omega)) _)) hx12)
         clear hx12 X11 z12)
      | (have hst := X10
         clear hst
         go_at_call 48
         refine (lmakes_true 2 9 10 0 9 10 0 (wd _ rfl) (wd _ rfl) (wd _ rfl) (by decide) (by decide) (by decide) (by decide) _).mono ?_
         rintro e w11 ⟨rfl, hx11⟩
         replace d0 : w11.cell? ⟨w1.heap.size, 0, none⟩ = some (.int .u64 9) := hx11.has (by first | exact d0 | (simp [go_sem]; done) | (simp [go_sem, World.cell?_alloc_past, d0, r0, r0a, r0b]; done))
         replace d1 : w11.cell? ⟨w1.heap.size, 1, none⟩ = some (.int .u64 10) := hx11.has (by first | exact d1 | (simp [go_sem]; done) | (simp [go_sem, World.cell?_alloc_past, d1, r0, r0a, r0b]; done))
         have z11 := hx11.size
         try simp at z11
         replace r0 : w1.heap.size < w11.heap.size := by omega
         replace r0a : w1.heap.size < w11.heap.size + 1 := by omega
         replace r0b : w1.heap.size < w11.heap.size + 1 + 1 := by omega
         have X11 : Hid (Ext w w11) := Lib.hid (Ext.trans (by repeat (first | with_reducible exact X10.out | with_reducible refine Ext.drew ?_ | with_reducible refine Ext.drewN ?_ _ | with_reducible refine Ext.alloc ?_ _ | with_reducible refine Ext.setCell ?_ (by first | omega | (simp; done) | (simp; omega)) _)) hx11)
         clear hx11 X10 z11)
      | (have hst := X9
         clear hst
         go_at_call 48
         refine (lmakes_true 2 9 10 1000000000 0 0 9 (wd _ rfl) (wd _ rfl) (wd _ rfl) (by decide) (by decide) (by decide) (by decide) _).mono ?_
         rintro e w10 ⟨rfl, hx10⟩
         replace d0 : w10.cell? ⟨w1.heap.size, 0, none⟩ = some (.int .u64 9) := hx10.has (by first | exact d0 | (simp [go_sem]; done) | (simp [go_sem, World.cell?_alloc_past, d0, r0, r0a, r0b]; done))
         replace d1 : w10.cell? ⟨w1.heap.size, 1, none⟩ = some (.int .u64 10) := hx10.has (by first | exact d1 | (simp [go_sem]; done) | (simp [go_sem, World.cell?_alloc_past, d1, r0, r0a, r0b]; done))
         have z10 := hx10.size
         try simp at z10
         replace r0 : w1.heap.size < w10.heap.size := by omega
         replace r0a : w1.heap.size < w10.heap.size + 1 := by omega
         replace r0b : w1.heap.size < w10.heap.size + 1 + 1 := by omega
         have X10 : Hid (Ext w w10) := Lib.hid (Ext.trans (by repeat (first | with_reducible exact X9.out | with_reducible refine Ext.drew ?_ | with_reducible refine Ext.drewN ?_ _ | with_reducible refine Ext.alloc ?_ _ | with_reducible refine Ext.setCell ?_ (by first | omega | (simp; done) | (simp; omega)) _)) hx10)
         clear hx10 X9 z10)
      | (have hst := X8
         clear hst
         go_at_call 47
         refine (lpool_any 0 0 _).mono ?_
         rintro e w9 ⟨rfl, hx9⟩
         replace d0 : w9.cell? ⟨w1.heap.size, 0, none⟩ = some (.int .u64 9) := hx9.has (by first | exact d0 | (simp [go_sem]; done) | (simp [go_sem, World.cell?_alloc_past, d0, r0, r0a, r0b]; done))
         replace d1 : w9.cell? ⟨w1.heap.size, 1, none⟩ = some (.int .u64 10) := hx9.has (by first | exact d1 | (simp [go_sem]; done) | (simp [go_sem, World.cell?_alloc_past, d1, r0, r0a, r0b]; done))
         have z9 := hx9.size
         try simp at z9
         replace r0 : w1.heap.size < w9.heap.size := by omega
         replace r0a : w1.heap.size < w9.heap.size + 1 := by omega
         replace r0b : w1.heap.size < w9.heap.size + 1 + 1 := by omega
         have X9 : Hid (Ext w w9) := Lib.hid (Ext.trans (by repeat (first | with_reducible exact X8.out | with_reducible refine Ext.drew ?_ | with_reducible refine Ext.drewN ?_ _ | with_reducible refine Ext.alloc ?_ _ | with_reducible refine Ext.setCell ?_ (by first | omega | (simp; done) | (simp; omega)) _)) hx9)
         clear hx9 X8 z9))
  go_wp2_with fail
  refine (lpool_any 10 9 _).mono ?_
  rintro e w13 ⟨rfl, hx13⟩
  replace d0 : w13.cell? ⟨w1.heap.size, 0, none⟩ = some (.int .u64 9) := hx13.has (by first | exact d0 | (simp [go_sem]; done) | (simp [go_sem, World.cell?_alloc_past, d0, r0, r0a, r0b]; done))
  replace d1 : w13.cell? ⟨w1.heap.size, 1, none⟩ = some (.int .u64 10) := hx13.has (by first | exact d1 | (simp [go_sem]; done) | (simp [go_sem, World.cell?_alloc_past, d1, r0, r0a, r0b]; done))
  have z13 := hx13.size
  try simp at z13
  replace r0 : w1.heap.size < w13.heap.size := by omega
  replace r0a : w1.heap.size < w13.heap.size + 1 := by omega
  replace r0b : w1.heap.size < w13.heap.size + 1 + 1 := by omega
  have X13 : Hid (Ext w w13) := Lib.hid (Ext.trans (by repeat (first | with_reducible exact X12.out | with_reducible refine Ext.drew ?_ | with_reducible refine Ext.drewN ?_ _ | with_reducible refine Ext.alloc ?_ _ | with_reducible refine Ext.setCell ?_ (by first | omega | (simp; done) | (simp; omega)) _)) hx13)
  clear hx13 X12 z13
  go_wp2_with fail
  refine (SCheck_at 10 9 9 (wd _ rfl) (wd _ rfl) (by decide) _).mono ?_
  rintro e w14 ⟨rfl, hx14⟩
  replace d0 : w14.cell? ⟨w1.heap.size, 0, none⟩ = some (.int .u64 9) := hx14.has (by first | exact d0 | (simp [go_sem]; done) | (simp [go_sem, World.cell?_alloc_past, d0, r0, r0a, r0b]; done))
  replace d1 : w14.cell? ⟨w1.heap.size, 1, none⟩ = some (.int .u64 10) := hx14.has (by first | exact d1 | (simp [go_sem]; done) | (simp [go_sem, World.cell?_alloc_past, d1, r0, r0a, r0b]; done))
  have z14 := hx14.size
  try simp at z14
  replace r0 : w1.heap.size < w14.heap.size := by omega
  replace r0a : w1.heap.size < w14.heap.size + 1 := by omega
  replace r0b : w1.heap.size < w14.heap.size + 1 + 1 := by omega
  have X14 : Hid (Ext w w14) := Lib.hid (Ext.trans (by repeat (first | with_reducible exact X13.out | with_reducible refine Ext.drew ?_ | with_reducible refine Ext.drewN ?_ _ | with_reducible refine Ext.alloc ?_ _ | with_reducible refine Ext.setCell ?_ (by first | omega | (simp; done) | (simp; omega)) _)) hx14)
  clear hx14 X13 z14
  go_wp2_with fail
  refine (lpool_any 4611686018427387905 9223372036854775808 _).mono ?_
  rintro e w15 ⟨rfl, hx15⟩
  replace d0 : w15.cell? ⟨w1.heap.size, 0, none⟩ = some (.int .u64 9) := hx15.has (by first | exact d0 | (simp [go_sem]; done) | (simp [go_sem, World.cell?_alloc_past, d0, r0, r0a, r0b]; done))
  replace d1 : w15.cell? ⟨w1.heap.size, 1, none⟩ = some (.int .u64 10) := hx15.has (by first | exact d1 | (simp [go_sem]; done) | (simp [go_sem, World.cell?_alloc_past, d1, r0, r0a, r0b]; done))
  have z15 := hx15.size
  try simp at z15
  replace r0 : w1.heap.size < w15.heap.size := by omega
  replace r0a : w1.heap.size < w15.heap.size + 1 := by omega
  replace r0b : w1.heap.size < w15.heap.size + 1 + 1 := by omega
  have X15 : Hid (Ext w w15) := Lib.hid (Ext.trans (by repeat (first | with_reducible exact X14.out | with_reducible refine Ext.drew ?_ | with_reducible refine Ext.drewN ?_ _ | with_reducible refine Ext.alloc ?_ _ | with_reducible refine Ext.setCell ?_ (by first | omega | (simp; done) | (simp; omega)) _)) hx15)
  clear hx15 X14 z15
  go_wp2_with fail
  refine (SCheck_at 4611686018427387905 9223372036854775808 12 (wd _ rfl) (wd _ rfl) (by decide) _).mono ?_
  rintro e w16 ⟨rfl, hx16⟩
  replace d0 : w16.cell? ⟨w1.heap.size, 0, none⟩ = some (.int .u64 9) := hx16.has (by first | exact d0 | (simp [go_sem]; done) | (simp [go_sem, World.cell?_alloc_past, d0, r0, r0a, r0b]; done))
  replace d1 : w16.cell? ⟨w1.heap.size, 1, none⟩ = some (.int .u64 10) := hx16.has (by first | exact d1 | (simp [go_sem]; done) | (simp [go_sem, World.cell?_alloc_past, d1, r0, r0a, r0b]; done))
  have z16 := hx16.size
  try simp at z16
  replace r0 : w1.heap.size < w16.heap.size := by omega
  replace r0a : w1.heap.size < w16.heap.size + 1 := by omega
  replace r0b : w1.heap.size < w16.heap.size + 1 + 1 := by omega
  have X16 : Hid (Ext w w16) := Lib.hid (Ext.trans (by repeat (first | with_reducible exact X15.out | with_reducible refine Ext.drew ?_ | with_reducible refine Ext.drewN ?_ _ | with_reducible refine Ext.alloc ?_ _ | with_reducible refine Ext.setCell ?_ (by first | omega | (simp; done) | (simp; omega)) _)) hx16)
  clear hx16 X15 z16
  go_wp2_with fail
  refine (lpool_any 0 0 _).mono ?_
  rintro e w17 ⟨rfl, hx17⟩
  replace d0 : w17.cell? ⟨w1.heap.size, 0, none⟩ = some (.int .u64 9) := hx17.has (by first | exact d0 | (simp [go_sem]; done) | (simp [go_sem, World.cell?_alloc_past, d0, r0, r0a, r0b]; done))
  replace d1 : w17.cell? ⟨w1.heap.size, 1, none⟩ = some (.int .u64 10) := hx17.has (by first | exact d1 | (simp [go_sem]; done) | (simp [go_sem, World.cell?_alloc_past, d1, r0, r0a, r0b]; done))
  have z17 := hx17.size
  try simp at z17
  replace r0 : w1.heap.size < w17.heap.size := by omega
  replace r0a : w1.heap.size < w17.heap.size + 1 := by omega
  replace r0b : w1.heap.size < w17.heap.size + 1 + 1 := by omega
  have X17 : Hid (Ext w w17) := Lib.hid (Ext.trans (by repeat (first | with_reducible exact X16.out | with_reducible refine Ext.drew ?_ | with_reducible refine Ext.drewN ?_ _ | with_reducible refine Ext.alloc ?_ _ | with_reducible refine Ext.setCell ?_ (by first | omega | (simp; done) | (simp; omega)) _)) hx17)
  clear hx17 X16 z17
  go_wp2_with fail
  refine (SCheck_at 0 0 0 (wd _ rfl) (wd _ rfl) (by decide) _).mono ?_
  rintro e w18 ⟨rfl, hx18⟩
  replace d0 : w18.cell? ⟨w1.heap.size, 0, none⟩ = some (.int .u64 9) := hx18.has (by first | exact d0 | (simp [go_sem]; done) | (simp [go_sem, World.cell?_alloc_past, d0, r0, r0a, r0b]; done))
  replace d1 : w18.cell? ⟨w1.heap.size, 1, none⟩ = some (.int .u64 10) := hx18.has (by first | exact d1 | (simp [go_sem]; done) | (simp [go_sem, World.cell?_alloc_past, d1, r0, r0a, r0b]; done))
  have z18 := hx18.size
  try simp at z18
  replace r0 : w1.heap.size < w18.heap.size := by omega
  replace r0a : w1.heap.size < w18.heap.size + 1 := by omega
  replace r0b : w1.heap.size < w18.heap.size + 1 + 1 := by omega
  have X18 : Hid (Ext w w18) := Lib.hid (Ext.trans (by repeat (first | with_reducible exact X17.out | with_reducible refine Ext.drew ?_ | with_reducible refine Ext.drewN ?_ _ | with_reducible refine Ext.alloc ?_ _ | with_reducible refine Ext.setCell ?_ (by first | omega | (simp; done) | (simp; omega)) _)) hx18)
  clear hx18 X17 z18
  go_wp2_with fail
  refine (lpool_any 0 0 _).mono ?_
  rintro e w19 ⟨rfl, hx19⟩
  replace d0 : w19.cell? ⟨w1.heap.size, 0, none⟩ = some (.int .u64 9) := hx19.has (by first | exact d0 | (simp [go_sem]; done) | (simp [go_sem, World.cell?_alloc_past, d0, r0, r0a, r0b]; done))
  replace d1 : w19.cell? ⟨w1.heap.size, 1, none⟩ = some (.int .u64 10) := hx19.has (by first | exact d1 | (simp [go_sem]; done) | (simp [go_sem, World.cell?_alloc_past, d1, r0, r0a, r0b]; done))
  have z19 := hx19.size
  try simp at z19
  replace r0 : w1.heap.size < w19.heap.size := by omega
  replace r0a : w1.heap.size < w19.heap.size + 1 := by omega
  replace r0b : w1.heap.size < w19.heap.size + 1 + 1 := by omega
  have X19 : Hid (Ext w w19) := Lib.hid (Ext.trans (by repeat (first | with_reducible exact X18.out | with_reducible refine Ext.drew ?_ | with_reducible refine Ext.drewN ?_ _ | with_reducible refine Ext.alloc ?_ _ | with_reducible refine Ext.setCell ?_ (by first | omega | (simp; done) | (simp; omega)) _)) hx19)
  clear hx19 X18 z19
  go_wp2_with fail
  refine (SValue_at 0 0 0 0 0 (wd _ rfl) (wd _ rfl) (wd _ rfl) (by decide) (by decide) _).mono ?_
  rintro e w20 ⟨rfl, hx20⟩
  replace d0 : w20.cell? ⟨w1.heap.size, 0, none⟩ = some (.int .u64 9) := hx20.has (by first | exact d0 | (simp [go_sem]; done) | (simp [go_sem, World.cell?_alloc_past, d0, r0, r0a, r0b]; done))
  replace d1 : w20.cell? ⟨w1.heap.size, 1, none⟩ = some (.int .u64 10) := hx20.has (by first | exact d1 | (simp [go_sem]; done) | (simp [go_sem, World.cell?_alloc_past, d1, r0, r0a, r0b]; done))
  have z20 := hx20.size
  try simp at z20
  replace r0 : w1.heap.size < w20.heap.size := by omega
  replace r0a : w1.heap.size < w20.heap.size + 1 := by omega
  replace r0b : w1.heap.size < w20.heap.size + 1 + 1 := by omega
  have X20 : Hid (Ext w w20) := Lib.hid (Ext.trans (by repeat (first | with_reducible exact X19.out | with_reducible refine Ext.drew ?_ | with_reducible refine Ext.drewN ?_ _ | with_reducible refine Ext.alloc ?_ _ | with_reducible refine Ext.setCell ?_ (by first | omega | (simp; done) | (simp; omega)) _)) hx20)
  clear hx20 X19 z20
  go_wp2_with fail
  refine (lpool_any 0 0 _).mono ?_
  rintro e w21 ⟨rfl, hx21⟩
  replace d0 : w21.cell? ⟨w1.heap.size, 0, none⟩ = some (.int .u64 9) := hx21.has (by first | exact d0 | (simp [go_sem]; done) | (simp [go_sem, World.cell?_alloc_past, d0, r0, r0a, r0b]; done))
  replace d1 : w21.cell? ⟨w1.heap.size, 1, none⟩ = some (.int .u64 10) := hx21.has (by first | exact d1 | (simp [go_sem]; done) | (simp [go_sem, World.cell?_alloc_past, d1, r0, r0a, r0b]; done))
  have z21 := hx21.size
  try simp at z21
  replace r0 : w1.heap.size < w21.heap.size := by omega
  replace r0a : w1.heap.size < w21.heap.size + 1 := by omega
  replace r0b : w1.heap.size < w21.heap.size + 1 + 1 := by omega
  have X21 : Hid (Ext w w21) := Lib.hid (Ext.trans (by repeat (first | with_reducible exact X20.out | with_reducible refine Ext.drew ?_ | with_reducible refine Ext.drewN ?_ _ | with_reducible refine Ext.alloc ?_ _ | with_reducible refine Ext.setCell ?_ (by first | omega | (simp; done) | (simp; omega)) _)) hx21)
  clear hx21 X20 z21
  go_wp2_with fail
  refine (SValue_at 0 0 1 0 13 (wd _ rfl) (wd _ rfl) (wd _ rfl) (by decide) (by decide) _).mono ?_
  rintro e w22 ⟨rfl, hx22⟩
  replace d0 : w22.cell? ⟨w1.heap.size, 0, none⟩ = some (.int .u64 9) := hx22.has (by first | exact d0 | (simp [go_sem]; done) | (simp [go_sem, World.cell?_alloc_past, d0, r0, r0a, r0b]; done))
  replace d1 : w22.cell? ⟨w1.heap.size, 1, none⟩ = some (.int .u64 10) := hx22.has (by first | exact d1 | (simp [go_sem]; done) | (simp [go_sem, World.cell?_alloc_past, d1, r0, r0a, r0b]; done))
  have z22 := hx22.size
  try simp at z22
  replace r0 : w1.heap.size < w22.heap.size := by omega
  replace r0a : w1.heap.size < w22.heap.size + 1 := by omega
  replace r0b : w1.heap.size < w22.heap.size + 1 + 1 := by omega
  have X22 : Hid (Ext w w22) := Lib.hid (Ext.trans (by repeat (first | with_reducible exact X21.out | with_reducible refine Ext.drew ?_ | with_reducible refine Ext.drewN ?_ _ | with_reducible refine Ext.alloc ?_ _ | with_reducible refine Ext.setCell ?_ (by first | omega | (simp; done) | (simp; omega)) _)) hx22)
  clear hx22 X21 z22
  go_wp2_with fail
  refine (SPrice_at 9 10 5 5 0 (wd _ rfl) (wd _ rfl) (wd _ rfl) (by decide) (by decide) _).mono ?_
  rintro e w23 ⟨rfl, hx23⟩
  replace d0 : w23.cell? ⟨w1.heap.size, 0, none⟩ = some (.int .u64 9) := hx23.has (by first | exact d0 | (simp [go_sem]; done) | (simp [go_sem, World.cell?_alloc_past, d0, r0, r0a, r0b]; done))
  replace d1 : w23.cell? ⟨w1.heap.size, 1, none⟩ = some (.int .u64 10) := hx23.has (by first | exact d1 | (simp [go_sem]; done) | (simp [go_sem, World.cell?_alloc_past, d1, r0, r0a, r0b]; done))
  have z23 := hx23.size
  try simp at z23
  replace r0 : w1.heap.size < w23.heap.size := by omega
  replace r0a : w1.heap.size < w23.heap.size + 1 := by omega
  replace r0b : w1.heap.size < w23.heap.size + 1 + 1 := by omega
  have X23 : Hid (Ext w w23) := Lib.hid (Ext.trans (by repeat (first | with_reducible exact X22.out | with_reducible refine Ext.drew ?_ | with_reducible refine Ext.drewN ?_ _ | with_reducible refine Ext.alloc ?_ _ | with_reducible refine Ext.setCell ?_ (by first | omega | (simp; done) | (simp; omega)) _)) hx23)
  clear hx23 X22 z23
  go_wp2_with fail
  refine (lpool_any 1 9223372036854775808 _).mono ?_
  rintro e w24 ⟨rfl, hx24⟩
  replace d0 : w24.cell? ⟨w1.heap.size, 0, none⟩ = some (.int .u64 9) := hx24.has (by first | exact d0 | (simp [go_sem]; done) | (simp [go_sem, World.cell?_alloc_past, d0, r0, r0a, r0b]; done))
  replace d1 : w24.cell? ⟨w1.heap.size, 1, none⟩ = some (.int .u64 10) := hx24.has (by first | exact d1 | (simp [go_sem]; done) | (simp [go_sem, World.cell?_alloc_past, d1, r0, r0a, r0b]; done))
  have z24 := hx24.size
  try simp at z24
  replace r0 : w1.heap.size < w24.heap.size := by omega
  replace r0a : w1.heap.size < w24.heap.size + 1 := by omega
  replace r0b : w1.heap.size < w24.heap.size + 1 + 1 := by omega
  have X24 : Hid (Ext w w24) := Lib.hid (Ext.trans (by repeat (first | with_reducible exact X23.out | with_reducible refine Ext.drew ?_ | with_reducible refine Ext.drewN ?_ _ | with_reducible refine Ext.alloc ?_ _ | with_reducible refine Ext.setCell ?_ (by first | omega | (simp; done) | (simp; omega)) _)) hx24)
  clear hx24 X23 z24
  go_wp2_with fail
  refine (SPrice_at 1 9223372036854775808 2 0 12 (wd _ rfl) (wd _ rfl) (wd _ rfl) (by decide) (by decide) _).mono ?_
  rintro e w25 ⟨rfl, hx25⟩
  replace d0 : w25.cell? ⟨w1.heap.size, 0, none⟩ = some (.int .u64 9) := hx25.has (by first | exact d0 | (simp [go_sem]; done) | (simp [go_sem, World.cell?_alloc_past, d0, r0, r0a, r0b]; done))
  replace d1 : w25.cell? ⟨w1.heap.size, 1, none⟩ = some (.int .u64 10) := hx25.has (by first | exact d1 | (simp [go_sem]; done) | (simp [go_sem, World.cell?_alloc_past, d1, r0, r0a, r0b]; done))
  have z25 := hx25.size
  try simp at z25
  replace r0 : w1.heap.size < w25.heap.size := by omega
  replace r0a : w1.heap.size < w25.heap.size + 1 := by omega
  replace r0b : w1.heap.size < w25.heap.size + 1 + 1 := by omega
  have X25 : Hid (Ext w w25) := Lib.hid (Ext.trans (by repeat (first | with_reducible exact X24.out | with_reducible refine Ext.drew ?_ | with_reducible refine Ext.drewN ?_ _ | with_reducible refine Ext.alloc ?_ _ | with_reducible refine Ext.setCell ?_ (by first | omega | (simp; done) | (simp; omega)) _)) hx25)
  clear hx25 X24 z25
  go_wp2_with fail
  refine (awake11_any _).mono ?_
  rintro e w26 ⟨rfl, hx26⟩
  replace d0 : w26.cell? ⟨w1.heap.size, 0, none⟩ = some (.int .u64 9) := hx26.has (by first | exact d0 | (simp [go_sem]; done) | (simp [go_sem, World.cell?_alloc_past, d0, r0, r0a, r0b]; done))
  replace d1 : w26.cell? ⟨w1.heap.size, 1, none⟩ = some (.int .u64 10) := hx26.has (by first | exact d1 | (simp [go_sem]; done) | (simp [go_sem, World.cell?_alloc_past, d1, r0, r0a, r0b]; done))
  have z26 := hx26.size
  try simp at z26
  replace r0 : w1.heap.size < w26.heap.size := by omega
  replace r0a : w1.heap.size < w26.heap.size + 1 := by omega
  replace r0b : w1.heap.size < w26.heap.size + 1 + 1 := by omega
  have X26 : Hid (Ext w w26) := Lib.hid (Ext.trans (by repeat (first | with_reducible exact X25.out | with_reducible refine Ext.drew ?_ | with_reducible refine Ext.drewN ?_ _ | with_reducible refine Ext.alloc ?_ _ | with_reducible refine Ext.setCell ?_ (by first | omega | (simp; done) | (simp; omega)) _)) hx26)
  clear hx26 X25 z26
  go_wp2_with fail
  refine (lpool_any 4611686018427387904 4611686018427387904 _).mono ?_
  rintro e w27 ⟨rfl, hx27⟩
  replace d0 : w27.cell? ⟨w1.heap.size, 0, none⟩ = some (.int .u64 9) := hx27.has (by first | exact d0 | (simp [go_sem]; done) | (simp [go_sem, World.cell?_alloc_past, d0, r0, r0a, r0b]; done))
  replace d1 : w27.cell? ⟨w1.heap.size, 1, none⟩ = some (.int .u64 10) := hx27.has (by first | exact d1 | (simp [go_sem]; done) | (simp [go_sem, World.cell?_alloc_past, d1, r0, r0a, r0b]; done))
  have z27 := hx27.size
  try simp at z27
  replace r0 : w1.heap.size < w27.heap.size := by omega
  replace r0a : w1.heap.size < w27.heap.size + 1 := by omega
  replace r0b : w1.heap.size < w27.heap.size + 1 + 1 := by omega
  have X27 : Hid (Ext w w27) := Lib.hid (Ext.trans (by repeat (first | with_reducible exact X26.out | with_reducible refine Ext.drew ?_ | with_reducible refine Ext.drewN ?_ _ | with_reducible refine Ext.alloc ?_ _ | with_reducible refine Ext.setCell ?_ (by first | omega | (simp; done) | (simp; omega)) _)) hx27)
  clear hx27 X26 z27
  go_wp2_with fail
  refine (lerrs_true 0 4611686018427387904 4611686018427387904 1 12 (wd _ rfl) (wd _ rfl) (wd _ rfl) (by decide) (by decide) (by decide) (by decide) _).mono ?_
  rintro e w28 ⟨rfl, hx28⟩
  replace d0 : w28.cell? ⟨w1.heap.size, 0, none⟩ = some (.int .u64 9) := hx28.has (by first | exact d0 | (simp [go_sem]; done) | (simp [go_sem, World.cell?_alloc_past, d0, r0, r0a, r0b]; done))
  replace d1 : w28.cell? ⟨w1.heap.size, 1, none⟩ = some (.int .u64 10) := hx28.has (by first | exact d1 | (simp [go_sem]; done) | (simp [go_sem, World.cell?_alloc_past, d1, r0, r0a, r0b]; done))
  have z28 := hx28.size
  try simp at z28
  replace r0 : w1.heap.size < w28.heap.size := by omega
  replace r0a : w1.heap.size < w28.heap.size + 1 := by omega
  replace r0b : w1.heap.size < w28.heap.size + 1 + 1 := by omega
  have X28 : Hid (Ext w w28) := Lib.hid (Ext.trans (by repeat (first | with_reducible exact X27.out | with_reducible refine Ext.drew ?_ | with_reducible refine Ext.drewN ?_ _ | with_reducible refine Ext.alloc ?_ _ | with_reducible refine Ext.setCell ?_ (by first | omega | (simp; done) | (simp; omega)) _)) hx28)
  clear hx28 X27 z28
  go_wp2_with fail
  go_ret
  exact ⟨rfl, X28.out⟩
end Go.Proofs.Ythaknigljjnnaaa
