/- law11's exact fractions: atMost, sharper, whole answer comparisons of products. Conditions stand in each lemma. -/
import Derived.Test.YthaknigljjnnaaaShareM
import Derived.Test.YthaknigljjnnaaaGreatV
set_option linter.unusedVariables false
set_option linter.unusedSimpArgs false
namespace Go.Proofs.Ythaknigljjnnaaa
open Go.RowKit Gr

set_option maxRecDepth 100000 in
set_option maxHeartbeats 4000000 in
theorem latMost_any (x T S y T2 S2 m : Int) (hx : B1 x) (hT : B1 T) (hS : B1 S) (hy : B1 y) (hT2 : B1 T2) (hS2 : B1 S2) (hm : B1 m) (V : Bool) (hV : decide (y * T2 * S + S * S2 * m < x * T * S2) = V) (w : World) :
    Calls Try.prog 51 #[.int .u64 x, .agg #[.int .u64 T, .int .u64 S], .int .u64 y, .agg #[.int .u64 T2, .int .u64 S2], .int .u64 m] w fun r w' => r = .returned (.bool (!V)) ∧ Ext w w' := by
  have Hx := Lib.hid hx
  have HT := Lib.hid hT
  have HS := Lib.hid hS
  have Hy := Lib.hid hy
  have HT2 := Lib.hid hT2
  have HS2 := Lib.hid hS2
  have Hm := Lib.hid hm
  have HV := Lib.hid hV
  clear hx hT hS hy hT2 hS2 hm hV
  go_enter Try.func51, Try.ntmps51
  go_wp2_with fail
  go_region_held3 (fun w' => w'.cell? ⟨w.heap.size, 0, none⟩ = some (.int .u64 T) ∧ w'.cell? ⟨w.heap.size, 1, none⟩ = some (.int .u64 S) ∧ w'.cell? ⟨w.heap.size + 1, 0, none⟩ = some (.int .u64 T2) ∧ w'.cell? ⟨w.heap.size + 1, 1, none⟩ = some (.int .u64 S2))
    (first | exact ⟨d0, d1, d2, d3⟩ | (simp [go_sem, World.cell?_alloc_past]; done) | (simp [go_sem, World.cell?_alloc_past, go_sem, go_sem]; done))
    (first
      | (have hst := X4
         clear hst
         go_at_call 56
         refine (gTimes aut ar (x * T) (S2) (Hx.out.mul HT.out).small HS2.out.small _ Gaut.out Gar.out).mono ?_
         rintro e w5 ⟨left, rfl, g5, hx5⟩
         replace d0 : w5.cell? ⟨w.heap.size, 0, none⟩ = some (.int .u64 T) := hx5.has (by first | exact d0 | (simp [go_sem]; done) | (simp [go_sem, World.cell?_alloc_past, d0, r0, r0a, r0b, r1, r1a, r1b]; done))
         replace d1 : w5.cell? ⟨w.heap.size, 1, none⟩ = some (.int .u64 S) := hx5.has (by first | exact d1 | (simp [go_sem]; done) | (simp [go_sem, World.cell?_alloc_past, d1, r0, r0a, r0b, r1, r1a, r1b]; done))
         replace d2 : w5.cell? ⟨w.heap.size + 1, 0, none⟩ = some (.int .u64 T2) := hx5.has (by first | exact d2 | (simp [go_sem]; done) | (simp [go_sem, World.cell?_alloc_past, d2, r0, r0a, r0b, r1, r1a, r1b]; done))
         replace d3 : w5.cell? ⟨w.heap.size + 1, 1, none⟩ = some (.int .u64 S2) := hx5.has (by first | exact d3 | (simp [go_sem]; done) | (simp [go_sem, World.cell?_alloc_past, d3, r0, r0a, r0b, r1, r1a, r1b]; done))
         have z5 := hx5.size
         try simp at z5
         replace r0 : w.heap.size < w5.heap.size := by omega
         replace r0a : w.heap.size < w5.heap.size + 1 := by omega
         replace r0b : w.heap.size < w5.heap.size + 1 + 1 := by omega
         replace r1 : w.heap.size + 1 < w5.heap.size := by omega
         replace r1a : w.heap.size + 1 < w5.heap.size + 1 := by omega
         replace r1b : w.heap.size + 1 < w5.heap.size + 1 + 1 := by omega
         have X5 : Hid (Ext w w5) := Lib.hid (Ext.trans (by repeat (first | with_reducible exact X4.out | with_reducible refine Ext.drew ?_ | with_reducible refine Ext.drewN ?_ _ | with_reducible refine Ext.alloc ?_ _ | with_reducible refine Ext.setCell ?_ (by first | omega | (simp; done) | (simp; omega)) _)) hx5)
         have Gleft := Lib.hid g5
         clear hx5 Gaut Gar X4 g5 z5)
      | (have hst := X3
         clear hst
         go_at_call 57
         refine (gGreat S2 HS2.out _).mono ?_
         rintro e w4 ⟨ar, rfl, g4, hx4⟩
         replace d0 : w4.cell? ⟨w.heap.size, 0, none⟩ = some (.int .u64 T) := hx4.has (by first | exact d0 | (simp [go_sem]; done) | (simp [go_sem, World.cell?_alloc_past, d0, r0, r0a, r0b, r1, r1a, r1b]; done))
         replace d1 : w4.cell? ⟨w.heap.size, 1, none⟩ = some (.int .u64 S) := hx4.has (by first | exact d1 | (simp [go_sem]; done) | (simp [go_sem, World.cell?_alloc_past, d1, r0, r0a, r0b, r1, r1a, r1b]; done))
         replace d2 : w4.cell? ⟨w.heap.size + 1, 0, none⟩ = some (.int .u64 T2) := hx4.has (by first | exact d2 | (simp [go_sem]; done) | (simp [go_sem, World.cell?_alloc_past, d2, r0, r0a, r0b, r1, r1a, r1b]; done))
         replace d3 : w4.cell? ⟨w.heap.size + 1, 1, none⟩ = some (.int .u64 S2) := hx4.has (by first | exact d3 | (simp [go_sem]; done) | (simp [go_sem, World.cell?_alloc_past, d3, r0, r0a, r0b, r1, r1a, r1b]; done))
         have z4 := hx4.size
         try simp at z4
         replace r0 : w.heap.size < w4.heap.size := by omega
         replace r0a : w.heap.size < w4.heap.size + 1 := by omega
         replace r0b : w.heap.size < w4.heap.size + 1 + 1 := by omega
         replace r1 : w.heap.size + 1 < w4.heap.size := by omega
         replace r1a : w.heap.size + 1 < w4.heap.size + 1 := by omega
         replace r1b : w.heap.size + 1 < w4.heap.size + 1 + 1 := by omega
         replace Gaut := Lib.hid (Gaut.out.ext (Ext.trans (by repeat (first | with_reducible exact Ext.refl _ | with_reducible refine Ext.drew ?_ | with_reducible refine Ext.drewN ?_ _ | with_reducible refine Ext.alloc ?_ _ | with_reducible refine Ext.setCell ?_ (by first | omega | (simp; done) | (simp; omega)) _)) hx4))
         have X4 : Hid (Ext w w4) := Lib.hid (Ext.trans (by repeat (first | with_reducible exact X3.out | with_reducible refine Ext.drew ?_ | with_reducible refine Ext.drewN ?_ _ | with_reducible refine Ext.alloc ?_ _ | with_reducible refine Ext.setCell ?_ (by first | omega | (simp; done) | (simp; omega)) _)) hx4)
         have Gar := Lib.hid g4
         clear hx4 X3 g4 z4)
      | (have hst := X2
         clear hst
         go_at_call 56
         refine (gTimes au ak (x) (T) Hx.out.small HT.out.small _ Gau.out Gak.out).mono ?_
         rintro e w3 ⟨aut, rfl, g3, hx3⟩
         replace d0 : w3.cell? ⟨w.heap.size, 0, none⟩ = some (.int .u64 T) := hx3.has (by first | exact d0 | (simp [go_sem]; done) | (simp [go_sem, World.cell?_alloc_past, d0, r0, r0a, r0b, r1, r1a, r1b]; done))
         replace d1 : w3.cell? ⟨w.heap.size, 1, none⟩ = some (.int .u64 S) := hx3.has (by first | exact d1 | (simp [go_sem]; done) | (simp [go_sem, World.cell?_alloc_past, d1, r0, r0a, r0b, r1, r1a, r1b]; done))
         replace d2 : w3.cell? ⟨w.heap.size + 1, 0, none⟩ = some (.int .u64 T2) := hx3.has (by first | exact d2 | (simp [go_sem]; done) | (simp [go_sem, World.cell?_alloc_past, d2, r0, r0a, r0b, r1, r1a, r1b]; done))
         replace d3 : w3.cell? ⟨w.heap.size + 1, 1, none⟩ = some (.int .u64 S2) := hx3.has (by first | exact d3 | (simp [go_sem]; done) | (simp [go_sem, World.cell?_alloc_past, d3, r0, r0a, r0b, r1, r1a, r1b]; done))
         have z3 := hx3.size
         try simp at z3
         replace r0 : w.heap.size < w3.heap.size := by omega
         replace r0a : w.heap.size < w3.heap.size + 1 := by omega
         replace r0b : w.heap.size < w3.heap.size + 1 + 1 := by omega
         replace r1 : w.heap.size + 1 < w3.heap.size := by omega
         replace r1a : w.heap.size + 1 < w3.heap.size + 1 := by omega
         replace r1b : w.heap.size + 1 < w3.heap.size + 1 + 1 := by omega
         have X3 : Hid (Ext w w3) := Lib.hid (Ext.trans (by repeat (first | with_reducible exact X2.out | with_reducible refine Ext.drew ?_ | with_reducible refine Ext.drewN ?_ _ | with_reducible refine Ext.alloc ?_ _ | with_reducible refine Ext.setCell ?_ (by first | omega | (simp; done) | (simp; omega)) _)) hx3)
         have Gaut := Lib.hid g3
         clear hx3 Gau Gak X2 g3 z3)
      | (have hst := X1
         clear hst
         go_at_call 57
         refine (gGreat T HT.out _).mono ?_
         rintro e w2 ⟨ak, rfl, g2, hx2⟩
         replace d0 : w2.cell? ⟨w.heap.size, 0, none⟩ = some (.int .u64 T) := hx2.has (by first | exact d0 | (simp [go_sem]; done) | (simp [go_sem, World.cell?_alloc_past, d0, r0, r0a, r0b, r1, r1a, r1b]; done))
         replace d1 : w2.cell? ⟨w.heap.size, 1, none⟩ = some (.int .u64 S) := hx2.has (by first | exact d1 | (simp [go_sem]; done) | (simp [go_sem, World.cell?_alloc_past, d1, r0, r0a, r0b, r1, r1a, r1b]; done))
         replace d2 : w2.cell? ⟨w.heap.size + 1, 0, none⟩ = some (.int .u64 T2) := hx2.has (by first | exact d2 | (simp [go_sem]; done) | (simp [go_sem, World.cell?_alloc_past, d2, r0, r0a, r0b, r1, r1a, r1b]; done))
         replace d3 : w2.cell? ⟨w.heap.size + 1, 1, none⟩ = some (.int .u64 S2) := hx2.has (by first | exact d3 | (simp [go_sem]; done) | (simp [go_sem, World.cell?_alloc_past, d3, r0, r0a, r0b, r1, r1a, r1b]; done))
         have z2 := hx2.size
         try simp at z2
         replace r0 : w.heap.size < w2.heap.size := by omega
         replace r0a : w.heap.size < w2.heap.size + 1 := by omega
         replace r0b : w.heap.size < w2.heap.size + 1 + 1 := by omega
         replace r1 : w.heap.size + 1 < w2.heap.size := by omega
         replace r1a : w.heap.size + 1 < w2.heap.size + 1 := by omega
         replace r1b : w.heap.size + 1 < w2.heap.size + 1 + 1 := by omega
         replace Gau := Lib.hid (Gau.out.ext (Ext.trans (by repeat (first | with_reducible exact Ext.refl _ | with_reducible refine Ext.drew ?_ | with_reducible refine Ext.drewN ?_ _ | with_reducible refine Ext.alloc ?_ _ | with_reducible refine Ext.setCell ?_ (by first | omega | (simp; done) | (simp; omega)) _)) hx2))
         have X2 : Hid (Ext w w2) := Lib.hid (Ext.trans (by repeat (first | with_reducible exact X1.out | with_reducible refine Ext.drew ?_ | with_reducible refine Ext.drewN ?_ _ | with_reducible refine Ext.alloc ?_ _ | with_reducible refine Ext.setCell ?_ (by first | omega | (simp; done) | (simp; omega)) _)) hx2)
         have Gak := Lib.hid g2
         clear hx2 X1 g2 z2)
      | (go_at_call 57
         refine (gGreat x Hx.out _).mono ?_
         rintro e w1 ⟨au, rfl, g1, hx1⟩
         have d0 : w1.cell? ⟨w.heap.size, 0, none⟩ = some (.int .u64 T) := hx1.has (by first | (simp [go_sem]; done) | (simp [go_sem, World.cell?_alloc_past]; done))
         have d1 : w1.cell? ⟨w.heap.size, 1, none⟩ = some (.int .u64 S) := hx1.has (by first | (simp [go_sem]; done) | (simp [go_sem, World.cell?_alloc_past]; done))
         have d2 : w1.cell? ⟨w.heap.size + 1, 0, none⟩ = some (.int .u64 T2) := hx1.has (by first | (simp [go_sem]; done) | (simp [go_sem, World.cell?_alloc_past]; done))
         have d3 : w1.cell? ⟨w.heap.size + 1, 1, none⟩ = some (.int .u64 S2) := hx1.has (by first | (simp [go_sem]; done) | (simp [go_sem, World.cell?_alloc_past]; done))
         have z1 := hx1.size
         try simp at z1
         replace r0 : w.heap.size < w1.heap.size := by omega
         replace r0a : w.heap.size < w1.heap.size + 1 := by omega
         replace r0b : w.heap.size < w1.heap.size + 1 + 1 := by omega
         replace r1 : w.heap.size + 1 < w1.heap.size := by omega
         replace r1a : w.heap.size + 1 < w1.heap.size + 1 := by omega
         replace r1b : w.heap.size + 1 < w1.heap.size + 1 + 1 := by omega
         have X1 : Hid (Ext w w1) := Lib.hid (Ext.trans (by repeat (first | with_reducible exact Ext.refl w | with_reducible refine Ext.drew ?_ | with_reducible refine Ext.drewN ?_ _ | with_reducible refine Ext.alloc ?_ _ | with_reducible refine Ext.setCell ?_ (by first | omega | (simp; done) | (simp; omega)) _)) hx1)
         have Gau := Lib.hid g1
         clear hx1 g1 z1))
  go_wp2_with fail
  go_region_held3 (fun w' => w'.cell? ⟨w.heap.size, 0, none⟩ = some (.int .u64 T) ∧ w'.cell? ⟨w.heap.size, 1, none⟩ = some (.int .u64 S) ∧ w'.cell? ⟨w.heap.size + 1, 0, none⟩ = some (.int .u64 T2) ∧ w'.cell? ⟨w.heap.size + 1, 1, none⟩ = some (.int .u64 S2))
    (first | exact ⟨d0, d1, d2, d3⟩ | (simp [go_sem, World.cell?_alloc_past]; done) | (simp [go_sem, World.cell?_alloc_past, d0, d1, d2, d3, r0, r0a, r0b, r1, r1a, r1b]; done))
    (first
      | (have hst := X9
         clear hst
         go_at_call 56
         refine (gTimes but br (y * T2) (S) (Hy.out.mul HT2.out).small HS.out.small _ Gbut.out Gbr.out).mono ?_
         rintro e w10 ⟨right, rfl, g10, hx10⟩
         replace d0 : w10.cell? ⟨w.heap.size, 0, none⟩ = some (.int .u64 T) := hx10.has (by first | exact d0 | (simp [go_sem]; done) | (simp [go_sem, World.cell?_alloc_past, d0, r0, r0a, r0b, r1, r1a, r1b]; done))
         replace d1 : w10.cell? ⟨w.heap.size, 1, none⟩ = some (.int .u64 S) := hx10.has (by first | exact d1 | (simp [go_sem]; done) | (simp [go_sem, World.cell?_alloc_past, d1, r0, r0a, r0b, r1, r1a, r1b]; done))
         replace d2 : w10.cell? ⟨w.heap.size + 1, 0, none⟩ = some (.int .u64 T2) := hx10.has (by first | exact d2 | (simp [go_sem]; done) | (simp [go_sem, World.cell?_alloc_past, d2, r0, r0a, r0b, r1, r1a, r1b]; done))
         replace d3 : w10.cell? ⟨w.heap.size + 1, 1, none⟩ = some (.int .u64 S2) := hx10.has (by first | exact d3 | (simp [go_sem]; done) | (simp [go_sem, World.cell?_alloc_past, d3, r0, r0a, r0b, r1, r1a, r1b]; done))
         have z10 := hx10.size
         try simp at z10
         replace r0 : w.heap.size < w10.heap.size := by omega
         replace r0a : w.heap.size < w10.heap.size + 1 := by omega
         replace r0b : w.heap.size < w10.heap.size + 1 + 1 := by omega
         replace r1 : w.heap.size + 1 < w10.heap.size := by omega
         replace r1a : w.heap.size + 1 < w10.heap.size + 1 := by omega
         replace r1b : w.heap.size + 1 < w10.heap.size + 1 + 1 := by omega
         replace Gleft := Lib.hid (Gleft.out.ext (Ext.trans (by repeat (first | with_reducible exact Ext.refl _ | with_reducible refine Ext.drew ?_ | with_reducible refine Ext.drewN ?_ _ | with_reducible refine Ext.alloc ?_ _ | with_reducible refine Ext.setCell ?_ (by first | omega | (simp; done) | (simp; omega)) _)) hx10))
         have X10 : Hid (Ext w w10) := Lib.hid (Ext.trans (by repeat (first | with_reducible exact X9.out | with_reducible refine Ext.drew ?_ | with_reducible refine Ext.drewN ?_ _ | with_reducible refine Ext.alloc ?_ _ | with_reducible refine Ext.setCell ?_ (by first | omega | (simp; done) | (simp; omega)) _)) hx10)
         have Gright := Lib.hid g10
         clear hx10 Gbut Gbr X9 g10 z10)
      | (have hst := X8
         clear hst
         go_at_call 57
         refine (gGreat S HS.out _).mono ?_
         rintro e w9 ⟨br, rfl, g9, hx9⟩
         replace d0 : w9.cell? ⟨w.heap.size, 0, none⟩ = some (.int .u64 T) := hx9.has (by first | exact d0 | (simp [go_sem]; done) | (simp [go_sem, World.cell?_alloc_past, d0, r0, r0a, r0b, r1, r1a, r1b]; done))
         replace d1 : w9.cell? ⟨w.heap.size, 1, none⟩ = some (.int .u64 S) := hx9.has (by first | exact d1 | (simp [go_sem]; done) | (simp [go_sem, World.cell?_alloc_past, d1, r0, r0a, r0b, r1, r1a, r1b]; done))
         replace d2 : w9.cell? ⟨w.heap.size + 1, 0, none⟩ = some (.int .u64 T2) := hx9.has (by first | exact d2 | (simp [go_sem]; done) | (simp [go_sem, World.cell?_alloc_past, d2, r0, r0a, r0b, r1, r1a, r1b]; done))
         replace d3 : w9.cell? ⟨w.heap.size + 1, 1, none⟩ = some (.int .u64 S2) := hx9.has (by first | exact d3 | (simp [go_sem]; done) | (simp [go_sem, World.cell?_alloc_past, d3, r0, r0a, r0b, r1, r1a, r1b]; done))
         have z9 := hx9.size
         try simp at z9
         replace r0 : w.heap.size < w9.heap.size := by omega
         replace r0a : w.heap.size < w9.heap.size + 1 := by omega
         replace r0b : w.heap.size < w9.heap.size + 1 + 1 := by omega
         replace r1 : w.heap.size + 1 < w9.heap.size := by omega
         replace r1a : w.heap.size + 1 < w9.heap.size + 1 := by omega
         replace r1b : w.heap.size + 1 < w9.heap.size + 1 + 1 := by omega
         replace Gleft := Lib.hid (Gleft.out.ext (Ext.trans (by repeat (first | with_reducible exact Ext.refl _ | with_reducible refine Ext.drew ?_ | with_reducible refine Ext.drewN ?_ _ | with_reducible refine Ext.alloc ?_ _ | with_reducible refine Ext.setCell ?_ (by first | omega | (simp; done) | (simp; omega)) _)) hx9))
         replace Gbut := Lib.hid (Gbut.out.ext (Ext.trans (by repeat (first | with_reducible exact Ext.refl _ | with_reducible refine Ext.drew ?_ | with_reducible refine Ext.drewN ?_ _ | with_reducible refine Ext.alloc ?_ _ | with_reducible refine Ext.setCell ?_ (by first | omega | (simp; done) | (simp; omega)) _)) hx9))
         have X9 : Hid (Ext w w9) := Lib.hid (Ext.trans (by repeat (first | with_reducible exact X8.out | with_reducible refine Ext.drew ?_ | with_reducible refine Ext.drewN ?_ _ | with_reducible refine Ext.alloc ?_ _ | with_reducible refine Ext.setCell ?_ (by first | omega | (simp; done) | (simp; omega)) _)) hx9)
         have Gbr := Lib.hid g9
         clear hx9 X8 g9 z9)
      | (have hst := X7
         clear hst
         go_at_call 56
         refine (gTimes bu bk (y) (T2) Hy.out.small HT2.out.small _ Gbu.out Gbk.out).mono ?_
         rintro e w8 ⟨but, rfl, g8, hx8⟩
         replace d0 : w8.cell? ⟨w.heap.size, 0, none⟩ = some (.int .u64 T) := hx8.has (by first | exact d0 | (simp [go_sem]; done) | (simp [go_sem, World.cell?_alloc_past, d0, r0, r0a, r0b, r1, r1a, r1b]; done))
         replace d1 : w8.cell? ⟨w.heap.size, 1, none⟩ = some (.int .u64 S) := hx8.has (by first | exact d1 | (simp [go_sem]; done) | (simp [go_sem, World.cell?_alloc_past, d1, r0, r0a, r0b, r1, r1a, r1b]; done))
         replace d2 : w8.cell? ⟨w.heap.size + 1, 0, none⟩ = some (.int .u64 T2) := hx8.has (by first | exact d2 | (simp [go_sem]; done) | (simp [go_sem, World.cell?_alloc_past, d2, r0, r0a, r0b, r1, r1a, r1b]; done))
         replace d3 : w8.cell? ⟨w.heap.size + 1, 1, none⟩ = some (.int .u64 S2) := hx8.has (by first | exact d3 | (simp [go_sem]; done) | (simp [go_sem, World.cell?_alloc_past, d3, r0, r0a, r0b, r1, r1a, r1b]; done))
         have z8 := hx8.size
         try simp at z8
         replace r0 : w.heap.size < w8.heap.size := by omega
         replace r0a : w.heap.size < w8.heap.size + 1 := by omega
         replace r0b : w.heap.size < w8.heap.size + 1 + 1 := by omega
         replace r1 : w.heap.size + 1 < w8.heap.size := by omega
         replace r1a : w.heap.size + 1 < w8.heap.size + 1 := by omega
         replace r1b : w.heap.size + 1 < w8.heap.size + 1 + 1 := by omega
         replace Gleft := Lib.hid (Gleft.out.ext (Ext.trans (by repeat (first | with_reducible exact Ext.refl _ | with_reducible refine Ext.drew ?_ | with_reducible refine Ext.drewN ?_ _ | with_reducible refine Ext.alloc ?_ _ | with_reducible refine Ext.setCell ?_ (by first | omega | (simp; done) | (simp; omega)) _)) hx8))
         have X8 : Hid (Ext w w8) := Lib.hid (Ext.trans (by repeat (first | with_reducible exact X7.out | with_reducible refine Ext.drew ?_ | with_reducible refine Ext.drewN ?_ _ | with_reducible refine Ext.alloc ?_ _ | with_reducible refine Ext.setCell ?_ (by first | omega | (simp; done) | (simp; omega)) _)) hx8)
         have Gbut := Lib.hid g8
         clear hx8 Gbu Gbk X7 g8 z8)
      | (have hst := X6
         clear hst
         go_at_call 57
         refine (gGreat T2 HT2.out _).mono ?_
         rintro e w7 ⟨bk, rfl, g7, hx7⟩
         replace d0 : w7.cell? ⟨w.heap.size, 0, none⟩ = some (.int .u64 T) := hx7.has (by first | exact d0 | (simp [go_sem]; done) | (simp [go_sem, World.cell?_alloc_past, d0, r0, r0a, r0b, r1, r1a, r1b]; done))
         replace d1 : w7.cell? ⟨w.heap.size, 1, none⟩ = some (.int .u64 S) := hx7.has (by first | exact d1 | (simp [go_sem]; done) | (simp [go_sem, World.cell?_alloc_past, d1, r0, r0a, r0b, r1, r1a, r1b]; done))
         replace d2 : w7.cell? ⟨w.heap.size + 1, 0, none⟩ = some (.int .u64 T2) := hx7.has (by first | exact d2 | (simp [go_sem]; done) | (simp [go_sem, World.cell?_alloc_past, d2, r0, r0a, r0b, r1, r1a, r1b]; done))
         replace d3 : w7.cell? ⟨w.heap.size + 1, 1, none⟩ = some (.int .u64 S2) := hx7.has (by first | exact d3 | (simp [go_sem]; done) | (simp [go_sem, World.cell?_alloc_past, d3, r0, r0a, r0b, r1, r1a, r1b]; done))
         have z7 := hx7.size
         try simp at z7
         replace r0 : w.heap.size < w7.heap.size := by omega
         replace r0a : w.heap.size < w7.heap.size + 1 := by omega
         replace r0b : w.heap.size < w7.heap.size + 1 + 1 := by omega
         replace r1 : w.heap.size + 1 < w7.heap.size := by omega
         replace r1a : w.heap.size + 1 < w7.heap.size + 1 := by omega
         replace r1b : w.heap.size + 1 < w7.heap.size + 1 + 1 := by omega
         replace Gleft := Lib.hid (Gleft.out.ext (Ext.trans (by repeat (first | with_reducible exact Ext.refl _ | with_reducible refine Ext.drew ?_ | with_reducible refine Ext.drewN ?_ _ | with_reducible refine Ext.alloc ?_ _ | with_reducible refine Ext.setCell ?_ (by first | omega | (simp; done) | (simp; omega)) _)) hx7))
         replace Gbu := Lib.hid (Gbu.out.ext (Ext.trans (by repeat (first | with_reducible exact Ext.refl _ | with_reducible refine Ext.drew ?_ | with_reducible refine Ext.drewN ?_ _ | with_reducible refine Ext.alloc ?_ _ | with_reducible refine Ext.setCell ?_ (by first | omega | (simp; done) | (simp; omega)) _)) hx7))
         have X7 : Hid (Ext w w7) := Lib.hid (Ext.trans (by repeat (first | with_reducible exact X6.out | with_reducible refine Ext.drew ?_ | with_reducible refine Ext.drewN ?_ _ | with_reducible refine Ext.alloc ?_ _ | with_reducible refine Ext.setCell ?_ (by first | omega | (simp; done) | (simp; omega)) _)) hx7)
         have Gbk := Lib.hid g7
         clear hx7 X6 g7 z7)
      | (have hst := X5
         clear hst
         go_at_call 57
         refine (gGreat y Hy.out _).mono ?_
         rintro e w6 ⟨bu, rfl, g6, hx6⟩
         replace d0 : w6.cell? ⟨w.heap.size, 0, none⟩ = some (.int .u64 T) := hx6.has (by first | exact d0 | (simp [go_sem]; done) | (simp [go_sem, World.cell?_alloc_past, d0, r0, r0a, r0b, r1, r1a, r1b]; done))
         replace d1 : w6.cell? ⟨w.heap.size, 1, none⟩ = some (.int .u64 S) := hx6.has (by first | exact d1 | (simp [go_sem]; done) | (simp [go_sem, World.cell?_alloc_past, d1, r0, r0a, r0b, r1, r1a, r1b]; done))
         replace d2 : w6.cell? ⟨w.heap.size + 1, 0, none⟩ = some (.int .u64 T2) := hx6.has (by first | exact d2 | (simp [go_sem]; done) | (simp [go_sem, World.cell?_alloc_past, d2, r0, r0a, r0b, r1, r1a, r1b]; done))
         replace d3 : w6.cell? ⟨w.heap.size + 1, 1, none⟩ = some (.int .u64 S2) := hx6.has (by first | exact d3 | (simp [go_sem]; done) | (simp [go_sem, World.cell?_alloc_past, d3, r0, r0a, r0b, r1, r1a, r1b]; done))
         have z6 := hx6.size
         try simp at z6
         replace r0 : w.heap.size < w6.heap.size := by omega
         replace r0a : w.heap.size < w6.heap.size + 1 := by omega
         replace r0b : w.heap.size < w6.heap.size + 1 + 1 := by omega
         replace r1 : w.heap.size + 1 < w6.heap.size := by omega
         replace r1a : w.heap.size + 1 < w6.heap.size + 1 := by omega
         replace r1b : w.heap.size + 1 < w6.heap.size + 1 + 1 := by omega
         replace Gleft := Lib.hid (Gleft.out.ext (Ext.trans (by repeat (first | with_reducible exact Ext.refl _ | with_reducible refine Ext.drew ?_ | with_reducible refine Ext.drewN ?_ _ | with_reducible refine Ext.alloc ?_ _ | with_reducible refine Ext.setCell ?_ (by first | omega | (simp; done) | (simp; omega)) _)) hx6))
         have X6 : Hid (Ext w w6) := Lib.hid (Ext.trans (by repeat (first | with_reducible exact X5.out | with_reducible refine Ext.drew ?_ | with_reducible refine Ext.drewN ?_ _ | with_reducible refine Ext.alloc ?_ _ | with_reducible refine Ext.setCell ?_ (by first | omega | (simp; done) | (simp; omega)) _)) hx6)
         have Gbu := Lib.hid g6
         clear hx6 X5 g6 z6))
  go_wp2_with fail
  go_region_held3 (fun w' => w'.cell? ⟨w.heap.size, 0, none⟩ = some (.int .u64 T) ∧ w'.cell? ⟨w.heap.size, 1, none⟩ = some (.int .u64 S) ∧ w'.cell? ⟨w.heap.size + 1, 0, none⟩ = some (.int .u64 T2) ∧ w'.cell? ⟨w.heap.size + 1, 1, none⟩ = some (.int .u64 S2))
    (first | exact ⟨d0, d1, d2, d3⟩ | (simp [go_sem, World.cell?_alloc_past]; done) | (simp [go_sem, World.cell?_alloc_past, d0, d1, d2, d3, r0, r0a, r0b, r1, r1a, r1b]; done))
    (first
      | (have hst := X14
         clear hst
         go_at_call 56
         refine (gTimes cut cr (S * S2) (m) (HS.out.mul HS2.out).small Hm.out.small _ Gcut.out Gcr.out).mono ?_
         rintro e w15 ⟨both, rfl, g15, hx15⟩
         replace d0 : w15.cell? ⟨w.heap.size, 0, none⟩ = some (.int .u64 T) := hx15.has (by first | exact d0 | (simp [go_sem]; done) | (simp [go_sem, World.cell?_alloc_past, d0, r0, r0a, r0b, r1, r1a, r1b]; done))
         replace d1 : w15.cell? ⟨w.heap.size, 1, none⟩ = some (.int .u64 S) := hx15.has (by first | exact d1 | (simp [go_sem]; done) | (simp [go_sem, World.cell?_alloc_past, d1, r0, r0a, r0b, r1, r1a, r1b]; done))
         replace d2 : w15.cell? ⟨w.heap.size + 1, 0, none⟩ = some (.int .u64 T2) := hx15.has (by first | exact d2 | (simp [go_sem]; done) | (simp [go_sem, World.cell?_alloc_past, d2, r0, r0a, r0b, r1, r1a, r1b]; done))
         replace d3 : w15.cell? ⟨w.heap.size + 1, 1, none⟩ = some (.int .u64 S2) := hx15.has (by first | exact d3 | (simp [go_sem]; done) | (simp [go_sem, World.cell?_alloc_past, d3, r0, r0a, r0b, r1, r1a, r1b]; done))
         have z15 := hx15.size
         try simp at z15
         replace r0 : w.heap.size < w15.heap.size := by omega
         replace r0a : w.heap.size < w15.heap.size + 1 := by omega
         replace r0b : w.heap.size < w15.heap.size + 1 + 1 := by omega
         replace r1 : w.heap.size + 1 < w15.heap.size := by omega
         replace r1a : w.heap.size + 1 < w15.heap.size + 1 := by omega
         replace r1b : w.heap.size + 1 < w15.heap.size + 1 + 1 := by omega
         replace Gleft := Lib.hid (Gleft.out.ext (Ext.trans (by repeat (first | with_reducible exact Ext.refl _ | with_reducible refine Ext.drew ?_ | with_reducible refine Ext.drewN ?_ _ | with_reducible refine Ext.alloc ?_ _ | with_reducible refine Ext.setCell ?_ (by first | omega | (simp; done) | (simp; omega)) _)) hx15))
         replace Gright := Lib.hid (Gright.out.ext (Ext.trans (by repeat (first | with_reducible exact Ext.refl _ | with_reducible refine Ext.drew ?_ | with_reducible refine Ext.drewN ?_ _ | with_reducible refine Ext.alloc ?_ _ | with_reducible refine Ext.setCell ?_ (by first | omega | (simp; done) | (simp; omega)) _)) hx15))
         have X15 : Hid (Ext w w15) := Lib.hid (Ext.trans (by repeat (first | with_reducible exact X14.out | with_reducible refine Ext.drew ?_ | with_reducible refine Ext.drewN ?_ _ | with_reducible refine Ext.alloc ?_ _ | with_reducible refine Ext.setCell ?_ (by first | omega | (simp; done) | (simp; omega)) _)) hx15)
         have Gboth := Lib.hid g15
         clear hx15 Gcut Gcr X14 g15 z15)
      | (have hst := X13
         clear hst
         go_at_call 57
         refine (gGreat m Hm.out _).mono ?_
         rintro e w14 ⟨cr, rfl, g14, hx14⟩
         replace d0 : w14.cell? ⟨w.heap.size, 0, none⟩ = some (.int .u64 T) := hx14.has (by first | exact d0 | (simp [go_sem]; done) | (simp [go_sem, World.cell?_alloc_past, d0, r0, r0a, r0b, r1, r1a, r1b]; done))
         replace d1 : w14.cell? ⟨w.heap.size, 1, none⟩ = some (.int .u64 S) := hx14.has (by first | exact d1 | (simp [go_sem]; done) | (simp [go_sem, World.cell?_alloc_past, d1, r0, r0a, r0b, r1, r1a, r1b]; done))
         replace d2 : w14.cell? ⟨w.heap.size + 1, 0, none⟩ = some (.int .u64 T2) := hx14.has (by first | exact d2 | (simp [go_sem]; done) | (simp [go_sem, World.cell?_alloc_past, d2, r0, r0a, r0b, r1, r1a, r1b]; done))
         replace d3 : w14.cell? ⟨w.heap.size + 1, 1, none⟩ = some (.int .u64 S2) := hx14.has (by first | exact d3 | (simp [go_sem]; done) | (simp [go_sem, World.cell?_alloc_past, d3, r0, r0a, r0b, r1, r1a, r1b]; done))
         have z14 := hx14.size
         try simp at z14
         replace r0 : w.heap.size < w14.heap.size := by omega
         replace r0a : w.heap.size < w14.heap.size + 1 := by omega
         replace r0b : w.heap.size < w14.heap.size + 1 + 1 := by omega
         replace r1 : w.heap.size + 1 < w14.heap.size := by omega
         replace r1a : w.heap.size + 1 < w14.heap.size + 1 := by omega
         replace r1b : w.heap.size + 1 < w14.heap.size + 1 + 1 := by omega
         replace Gleft := Lib.hid (Gleft.out.ext (Ext.trans (by repeat (first | with_reducible exact Ext.refl _ | with_reducible refine Ext.drew ?_ | with_reducible refine Ext.drewN ?_ _ | with_reducible refine Ext.alloc ?_ _ | with_reducible refine Ext.setCell ?_ (by first | omega | (simp; done) | (simp; omega)) _)) hx14))
         replace Gright := Lib.hid (Gright.out.ext (Ext.trans (by repeat (first | with_reducible exact Ext.refl _ | with_reducible refine Ext.drew ?_ | with_reducible refine Ext.drewN ?_ _ | with_reducible refine Ext.alloc ?_ _ | with_reducible refine Ext.setCell ?_ (by first | omega | (simp; done) | (simp; omega)) _)) hx14))
         replace Gcut := Lib.hid (Gcut.out.ext (Ext.trans (by repeat (first | with_reducible exact Ext.refl _ | with_reducible refine Ext.drew ?_ | with_reducible refine Ext.drewN ?_ _ | with_reducible refine Ext.alloc ?_ _ | with_reducible refine Ext.setCell ?_ (by first | omega | (simp; done) | (simp; omega)) _)) hx14))
         have X14 : Hid (Ext w w14) := Lib.hid (Ext.trans (by repeat (first | with_reducible exact X13.out | with_reducible refine Ext.drew ?_ | with_reducible refine Ext.drewN ?_ _ | with_reducible refine Ext.alloc ?_ _ | with_reducible refine Ext.setCell ?_ (by first | omega | (simp; done) | (simp; omega)) _)) hx14)
         have Gcr := Lib.hid g14
         clear hx14 X13 g14 z14)
      | (have hst := X12
         clear hst
         go_at_call 56
         refine (gTimes cu ck (S) (S2) HS.out.small HS2.out.small _ Gcu.out Gck.out).mono ?_
         rintro e w13 ⟨cut, rfl, g13, hx13⟩
         replace d0 : w13.cell? ⟨w.heap.size, 0, none⟩ = some (.int .u64 T) := hx13.has (by first | exact d0 | (simp [go_sem]; done) | (simp [go_sem, World.cell?_alloc_past, d0, r0, r0a, r0b, r1, r1a, r1b]; done))
         replace d1 : w13.cell? ⟨w.heap.size, 1, none⟩ = some (.int .u64 S) := hx13.has (by first | exact d1 | (simp [go_sem]; done) | (simp [go_sem, World.cell?_alloc_past, d1, r0, r0a, r0b, r1, r1a, r1b]; done))
         replace d2 : w13.cell? ⟨w.heap.size + 1, 0, none⟩ = some (.int .u64 T2) := hx13.has (by first | exact d2 | (simp [go_sem]; done) | (simp [go_sem, World.cell?_alloc_past, d2, r0, r0a, r0b, r1, r1a, r1b]; done))
         replace d3 : w13.cell? ⟨w.heap.size + 1, 1, none⟩ = some (.int .u64 S2) := hx13.has (by first | exact d3 | (simp [go_sem]; done) | (simp [go_sem, World.cell?_alloc_past, d3, r0, r0a, r0b, r1, r1a, r1b]; done))
         have z13 := hx13.size
         try simp at z13
         replace r0 : w.heap.size < w13.heap.size := by omega
         replace r0a : w.heap.size < w13.heap.size + 1 := by omega
         replace r0b : w.heap.size < w13.heap.size + 1 + 1 := by omega
         replace r1 : w.heap.size + 1 < w13.heap.size := by omega
         replace r1a : w.heap.size + 1 < w13.heap.size + 1 := by omega
         replace r1b : w.heap.size + 1 < w13.heap.size + 1 + 1 := by omega
         replace Gleft := Lib.hid (Gleft.out.ext (Ext.trans (by repeat (first | with_reducible exact Ext.refl _ | with_reducible refine Ext.drew ?_ | with_reducible refine Ext.drewN ?_ _ | with_reducible refine Ext.alloc ?_ _ | with_reducible refine Ext.setCell ?_ (by first | omega | (simp; done) | (simp; omega)) _)) hx13))
         replace Gright := Lib.hid (Gright.out.ext (Ext.trans (by repeat (first | with_reducible exact Ext.refl _ | with_reducible refine Ext.drew ?_ | with_reducible refine Ext.drewN ?_ _ | with_reducible refine Ext.alloc ?_ _ | with_reducible refine Ext.setCell ?_ (by first | omega | (simp; done) | (simp; omega)) _)) hx13))
         have X13 : Hid (Ext w w13) := Lib.hid (Ext.trans (by repeat (first | with_reducible exact X12.out | with_reducible refine Ext.drew ?_ | with_reducible refine Ext.drewN ?_ _ | with_reducible refine Ext.alloc ?_ _ | with_reducible refine Ext.setCell ?_ (by first | omega | (simp; done) | (simp; omega)) _)) hx13)
         have Gcut := Lib.hid g13
         clear hx13 Gcu Gck X12 g13 z13)
      | (have hst := X11
         clear hst
         go_at_call 57
         refine (gGreat S2 HS2.out _).mono ?_
         rintro e w12 ⟨ck, rfl, g12, hx12⟩
         replace d0 : w12.cell? ⟨w.heap.size, 0, none⟩ = some (.int .u64 T) := hx12.has (by first | exact d0 | (simp [go_sem]; done) | (simp [go_sem, World.cell?_alloc_past, d0, r0, r0a, r0b, r1, r1a, r1b]; done))
         replace d1 : w12.cell? ⟨w.heap.size, 1, none⟩ = some (.int .u64 S) := hx12.has (by first | exact d1 | (simp [go_sem]; done) | (simp [go_sem, World.cell?_alloc_past, d1, r0, r0a, r0b, r1, r1a, r1b]; done))
         replace d2 : w12.cell? ⟨w.heap.size + 1, 0, none⟩ = some (.int .u64 T2) := hx12.has (by first | exact d2 | (simp [go_sem]; done) | (simp [go_sem, World.cell?_alloc_past, d2, r0, r0a, r0b, r1, r1a, r1b]; done))
         replace d3 : w12.cell? ⟨w.heap.size + 1, 1, none⟩ = some (.int .u64 S2) := hx12.has (by first | exact d3 | (simp [go_sem]; done) | (simp [go_sem, World.cell?_alloc_past, d3, r0, r0a, r0b, r1, r1a, r1b]; done))
         have z12 := hx12.size
         try simp at z12
         replace r0 : w.heap.size < w12.heap.size := by omega
         replace r0a : w.heap.size < w12.heap.size + 1 := by omega
         replace r0b : w.heap.size < w12.heap.size + 1 + 1 := by omega
         replace r1 : w.heap.size + 1 < w12.heap.size := by omega
         replace r1a : w.heap.size + 1 < w12.heap.size + 1 := by omega
         replace r1b : w.heap.size + 1 < w12.heap.size + 1 + 1 := by omega
         replace Gleft := Lib.hid (Gleft.out.ext (Ext.trans (by repeat (first | with_reducible exact Ext.refl _ | with_reducible refine Ext.drew ?_ | with_reducible refine Ext.drewN ?_ _ | with_reducible refine Ext.alloc ?_ _ | with_reducible refine Ext.setCell ?_ (by first | omega | (simp; done) | (simp; omega)) _)) hx12))
         replace Gright := Lib.hid (Gright.out.ext (Ext.trans (by repeat (first | with_reducible exact Ext.refl _ | with_reducible refine Ext.drew ?_ | with_reducible refine Ext.drewN ?_ _ | with_reducible refine Ext.alloc ?_ _ | with_reducible refine Ext.setCell ?_ (by first | omega | (simp; done) | (simp; omega)) _)) hx12))
         replace Gcu := Lib.hid (Gcu.out.ext (Ext.trans (by repeat (first | with_reducible exact Ext.refl _ | with_reducible refine Ext.drew ?_ | with_reducible refine Ext.drewN ?_ _ | with_reducible refine Ext.alloc ?_ _ | with_reducible refine Ext.setCell ?_ (by first | omega | (simp; done) | (simp; omega)) _)) hx12))
         have X12 : Hid (Ext w w12) := Lib.hid (Ext.trans (by repeat (first | with_reducible exact X11.out | with_reducible refine Ext.drew ?_ | with_reducible refine Ext.drewN ?_ _ | with_reducible refine Ext.alloc ?_ _ | with_reducible refine Ext.setCell ?_ (by first | omega | (simp; done) | (simp; omega)) _)) hx12)
         have Gck := Lib.hid g12
         clear hx12 X11 g12 z12)
      | (have hst := X10
         clear hst
         go_at_call 57
         refine (gGreat S HS.out _).mono ?_
         rintro e w11 ⟨cu, rfl, g11, hx11⟩
         replace d0 : w11.cell? ⟨w.heap.size, 0, none⟩ = some (.int .u64 T) := hx11.has (by first | exact d0 | (simp [go_sem]; done) | (simp [go_sem, World.cell?_alloc_past, d0, r0, r0a, r0b, r1, r1a, r1b]; done))
         replace d1 : w11.cell? ⟨w.heap.size, 1, none⟩ = some (.int .u64 S) := hx11.has (by first | exact d1 | (simp [go_sem]; done) | (simp [go_sem, World.cell?_alloc_past, d1, r0, r0a, r0b, r1, r1a, r1b]; done))
         replace d2 : w11.cell? ⟨w.heap.size + 1, 0, none⟩ = some (.int .u64 T2) := hx11.has (by first | exact d2 | (simp [go_sem]; done) | (simp [go_sem, World.cell?_alloc_past, d2, r0, r0a, r0b, r1, r1a, r1b]; done))
         replace d3 : w11.cell? ⟨w.heap.size + 1, 1, none⟩ = some (.int .u64 S2) := hx11.has (by first | exact d3 | (simp [go_sem]; done) | (simp [go_sem, World.cell?_alloc_past, d3, r0, r0a, r0b, r1, r1a, r1b]; done))
         have z11 := hx11.size
         try simp at z11
         replace r0 : w.heap.size < w11.heap.size := by omega
         replace r0a : w.heap.size < w11.heap.size + 1 := by omega
         replace r0b : w.heap.size < w11.heap.size + 1 + 1 := by omega
         replace r1 : w.heap.size + 1 < w11.heap.size := by omega
         replace r1a : w.heap.size + 1 < w11.heap.size + 1 := by omega
         replace r1b : w.heap.size + 1 < w11.heap.size + 1 + 1 := by omega
         replace Gleft := Lib.hid (Gleft.out.ext (Ext.trans (by repeat (first | with_reducible exact Ext.refl _ | with_reducible refine Ext.drew ?_ | with_reducible refine Ext.drewN ?_ _ | with_reducible refine Ext.alloc ?_ _ | with_reducible refine Ext.setCell ?_ (by first | omega | (simp; done) | (simp; omega)) _)) hx11))
         replace Gright := Lib.hid (Gright.out.ext (Ext.trans (by repeat (first | with_reducible exact Ext.refl _ | with_reducible refine Ext.drew ?_ | with_reducible refine Ext.drewN ?_ _ | with_reducible refine Ext.alloc ?_ _ | with_reducible refine Ext.setCell ?_ (by first | omega | (simp; done) | (simp; omega)) _)) hx11))
         have X11 : Hid (Ext w w11) := Lib.hid (Ext.trans (by repeat (first | with_reducible exact X10.out | with_reducible refine Ext.drew ?_ | with_reducible refine Ext.drewN ?_ _ | with_reducible refine Ext.alloc ?_ _ | with_reducible refine Ext.setCell ?_ (by first | omega | (simp; done) | (simp; omega)) _)) hx11)
         have Gcu := Lib.hid g11
         clear hx11 X10 g11 z11))
  go_wp2_with fail
  refine (gSum right both (y * T2 * S) (S * S2 * m) ((Hy.out.mul HT2.out).mul HS.out).small ((HS.out.mul HS2.out).mul Hm.out).small _ Gright.out Gboth.out).mono ?_
  rintro e w16 ⟨sm, rfl, g16, hx16⟩
  replace d0 : w16.cell? ⟨w.heap.size, 0, none⟩ = some (.int .u64 T) := hx16.has (by first | exact d0 | (simp [go_sem]; done) | (simp [go_sem, World.cell?_alloc_past, d0, r0, r0a, r0b, r1, r1a, r1b]; done))
  replace d1 : w16.cell? ⟨w.heap.size, 1, none⟩ = some (.int .u64 S) := hx16.has (by first | exact d1 | (simp [go_sem]; done) | (simp [go_sem, World.cell?_alloc_past, d1, r0, r0a, r0b, r1, r1a, r1b]; done))
  replace d2 : w16.cell? ⟨w.heap.size + 1, 0, none⟩ = some (.int .u64 T2) := hx16.has (by first | exact d2 | (simp [go_sem]; done) | (simp [go_sem, World.cell?_alloc_past, d2, r0, r0a, r0b, r1, r1a, r1b]; done))
  replace d3 : w16.cell? ⟨w.heap.size + 1, 1, none⟩ = some (.int .u64 S2) := hx16.has (by first | exact d3 | (simp [go_sem]; done) | (simp [go_sem, World.cell?_alloc_past, d3, r0, r0a, r0b, r1, r1a, r1b]; done))
  have z16 := hx16.size
  try simp at z16
  replace r0 : w.heap.size < w16.heap.size := by omega
  replace r0a : w.heap.size < w16.heap.size + 1 := by omega
  replace r0b : w.heap.size < w16.heap.size + 1 + 1 := by omega
  replace r1 : w.heap.size + 1 < w16.heap.size := by omega
  replace r1a : w.heap.size + 1 < w16.heap.size + 1 := by omega
  replace r1b : w.heap.size + 1 < w16.heap.size + 1 + 1 := by omega
  replace Gleft := Lib.hid (Gleft.out.ext (Ext.trans (by repeat (first | with_reducible exact Ext.refl _ | with_reducible refine Ext.drew ?_ | with_reducible refine Ext.drewN ?_ _ | with_reducible refine Ext.alloc ?_ _ | with_reducible refine Ext.setCell ?_ (by first | omega | (simp; done) | (simp; omega)) _)) hx16))
  have X16 : Hid (Ext w w16) := Lib.hid (Ext.trans (by repeat (first | with_reducible exact X15.out | with_reducible refine Ext.drew ?_ | with_reducible refine Ext.drewN ?_ _ | with_reducible refine Ext.alloc ?_ _ | with_reducible refine Ext.setCell ?_ (by first | omega | (simp; done) | (simp; omega)) _)) hx16)
  have Gsm := Lib.hid g16
  clear hx16 Gright Gboth X15 g16 z16
  go_wp2_with fail
  refine (gLess sm left (y * T2 * S + S * S2 * m) (x * T * S2) V HV.out _ Gsm.out Gleft.out).mono ?_
  rintro e w17 ⟨rfl, hx17⟩
  replace d0 : w17.cell? ⟨w.heap.size, 0, none⟩ = some (.int .u64 T) := hx17.has (by first | exact d0 | (simp [go_sem]; done) | (simp [go_sem, World.cell?_alloc_past, d0, r0, r0a, r0b, r1, r1a, r1b]; done))
  replace d1 : w17.cell? ⟨w.heap.size, 1, none⟩ = some (.int .u64 S) := hx17.has (by first | exact d1 | (simp [go_sem]; done) | (simp [go_sem, World.cell?_alloc_past, d1, r0, r0a, r0b, r1, r1a, r1b]; done))
  replace d2 : w17.cell? ⟨w.heap.size + 1, 0, none⟩ = some (.int .u64 T2) := hx17.has (by first | exact d2 | (simp [go_sem]; done) | (simp [go_sem, World.cell?_alloc_past, d2, r0, r0a, r0b, r1, r1a, r1b]; done))
  replace d3 : w17.cell? ⟨w.heap.size + 1, 1, none⟩ = some (.int .u64 S2) := hx17.has (by first | exact d3 | (simp [go_sem]; done) | (simp [go_sem, World.cell?_alloc_past, d3, r0, r0a, r0b, r1, r1a, r1b]; done))
  have z17 := hx17.size
  try simp at z17
  replace r0 : w.heap.size < w17.heap.size := by omega
  replace r0a : w.heap.size < w17.heap.size + 1 := by omega
  replace r0b : w.heap.size < w17.heap.size + 1 + 1 := by omega
  replace r1 : w.heap.size + 1 < w17.heap.size := by omega
  replace r1a : w.heap.size + 1 < w17.heap.size + 1 := by omega
  replace r1b : w.heap.size + 1 < w17.heap.size + 1 + 1 := by omega
  have X17 : Hid (Ext w w17) := Lib.hid (Ext.trans (by repeat (first | with_reducible exact X16.out | with_reducible refine Ext.drew ?_ | with_reducible refine Ext.drewN ?_ _ | with_reducible refine Ext.alloc ?_ _ | with_reducible refine Ext.setCell ?_ (by first | omega | (simp; done) | (simp; omega)) _)) hx17)
  clear hx17 Gsm Gleft X16 z17
  go_wp2_with fail
  go_ret
  exact ⟨rfl, X17.out⟩
set_option maxRecDepth 100000 in
set_option maxHeartbeats 4000000 in
theorem lsharper_any (x T S T2 S2 : Int) (hx : B1 x) (hT : B1 T) (hS : B1 S) (hT2 : B1 T2) (hS2 : B1 S2) (V : Bool) (hV : decide (x * T2 * S < x * T * S2 + S * S2) = V) (w : World) :
    Calls Try.prog 52 #[.int .u64 x, .agg #[.int .u64 T2, .int .u64 S2], .agg #[.int .u64 T, .int .u64 S]] w fun r w' => r = .returned (.bool (!V)) ∧ Ext w w' := by
  have Hx := Lib.hid hx
  have HT := Lib.hid hT
  have HS := Lib.hid hS
  have HT2 := Lib.hid hT2
  have HS2 := Lib.hid hS2
  have HV := Lib.hid hV
  clear hx hT hS hT2 hS2 hV
  go_enter Try.func52, Try.ntmps52
  go_wp2_with fail
  go_region_held3 (fun w' => w'.cell? ⟨w.heap.size, 0, none⟩ = some (.int .u64 T2) ∧ w'.cell? ⟨w.heap.size, 1, none⟩ = some (.int .u64 S2) ∧ w'.cell? ⟨w.heap.size + 1, 0, none⟩ = some (.int .u64 T) ∧ w'.cell? ⟨w.heap.size + 1, 1, none⟩ = some (.int .u64 S))
    (first | exact ⟨d0, d1, d2, d3⟩ | (simp [go_sem, World.cell?_alloc_past]; done) | (simp [go_sem, World.cell?_alloc_past, go_sem, go_sem]; done))
    (first
      | (have hst := X4
         clear hst
         go_at_call 56
         refine (gTimes aut ar (x * T2) (S) (Hx.out.mul HT2.out).small HS.out.small _ Gaut.out Gar.out).mono ?_
         rintro e w5 ⟨left, rfl, g5, hx5⟩
         replace d0 : w5.cell? ⟨w.heap.size, 0, none⟩ = some (.int .u64 T2) := hx5.has (by first | exact d0 | (simp [go_sem]; done) | (simp [go_sem, World.cell?_alloc_past, d0, r0, r0a, r0b, r1, r1a, r1b]; done))
         replace d1 : w5.cell? ⟨w.heap.size, 1, none⟩ = some (.int .u64 S2) := hx5.has (by first | exact d1 | (simp [go_sem]; done) | (simp [go_sem, World.cell?_alloc_past, d1, r0, r0a, r0b, r1, r1a, r1b]; done))
         replace d2 : w5.cell? ⟨w.heap.size + 1, 0, none⟩ = some (.int .u64 T) := hx5.has (by first | exact d2 | (simp [go_sem]; done) | (simp [go_sem, World.cell?_alloc_past, d2, r0, r0a, r0b, r1, r1a, r1b]; done))
         replace d3 : w5.cell? ⟨w.heap.size + 1, 1, none⟩ = some (.int .u64 S) := hx5.has (by first | exact d3 | (simp [go_sem]; done) | (simp [go_sem, World.cell?_alloc_past, d3, r0, r0a, r0b, r1, r1a, r1b]; done))
         have z5 := hx5.size
         try simp at z5
         replace r0 : w.heap.size < w5.heap.size := by omega
         replace r0a : w.heap.size < w5.heap.size + 1 := by omega
         replace r0b : w.heap.size < w5.heap.size + 1 + 1 := by omega
         replace r1 : w.heap.size + 1 < w5.heap.size := by omega
         replace r1a : w.heap.size + 1 < w5.heap.size + 1 := by omega
         replace r1b : w.heap.size + 1 < w5.heap.size + 1 + 1 := by omega
         have X5 : Hid (Ext w w5) := Lib.hid (Ext.trans (by repeat (first | with_reducible exact X4.out | with_reducible refine Ext.drew ?_ | with_reducible refine Ext.drewN ?_ _ | with_reducible refine Ext.alloc ?_ _ | with_reducible refine Ext.setCell ?_ (by first | omega | (simp; done) | (simp; omega)) _)) hx5)
         have Gleft := Lib.hid g5
         clear hx5 Gaut Gar X4 g5 z5)
      | (have hst := X3
         clear hst
         go_at_call 57
         refine (gGreat S HS.out _).mono ?_
         rintro e w4 ⟨ar, rfl, g4, hx4⟩
         replace d0 : w4.cell? ⟨w.heap.size, 0, none⟩ = some (.int .u64 T2) := hx4.has (by first | exact d0 | (simp [go_sem]; done) | (simp [go_sem, World.cell?_alloc_past, d0, r0, r0a, r0b, r1, r1a, r1b]; done))
         replace d1 : w4.cell? ⟨w.heap.size, 1, none⟩ = some (.int .u64 S2) := hx4.has (by first | exact d1 | (simp [go_sem]; done) | (simp [go_sem, World.cell?_alloc_past, d1, r0, r0a, r0b, r1, r1a, r1b]; done))
         replace d2 : w4.cell? ⟨w.heap.size + 1, 0, none⟩ = some (.int .u64 T) := hx4.has (by first | exact d2 | (simp [go_sem]; done) | (simp [go_sem, World.cell?_alloc_past, d2, r0, r0a, r0b, r1, r1a, r1b]; done))
         replace d3 : w4.cell? ⟨w.heap.size + 1, 1, none⟩ = some (.int .u64 S) := hx4.has (by first | exact d3 | (simp [go_sem]; done) | (simp [go_sem, World.cell?_alloc_past, d3, r0, r0a, r0b, r1, r1a, r1b]; done))
         have z4 := hx4.size
         try simp at z4
         replace r0 : w.heap.size < w4.heap.size := by omega
         replace r0a : w.heap.size < w4.heap.size + 1 := by omega
         replace r0b : w.heap.size < w4.heap.size + 1 + 1 := by omega
         replace r1 : w.heap.size + 1 < w4.heap.size := by omega
         replace r1a : w.heap.size + 1 < w4.heap.size + 1 := by omega
         replace r1b : w.heap.size + 1 < w4.heap.size + 1 + 1 := by omega
         replace Gaut := Lib.hid (Gaut.out.ext (Ext.trans (by repeat (first | with_reducible exact Ext.refl _ | with_reducible refine Ext.drew ?_ | with_reducible refine Ext.drewN ?_ _ | with_reducible refine Ext.alloc ?_ _ | with_reducible refine Ext.setCell ?_ (by first | omega | (simp; done) | (simp; omega)) _)) hx4))
         have X4 : Hid (Ext w w4) := Lib.hid (Ext.trans (by repeat (first | with_reducible exact X3.out | with_reducible refine Ext.drew ?_ | with_reducible refine Ext.drewN ?_ _ | with_reducible refine Ext.alloc ?_ _ | with_reducible refine Ext.setCell ?_ (by first | omega | (simp; done) | (simp; omega)) _)) hx4)
         have Gar := Lib.hid g4
         clear hx4 X3 g4 z4)
      | (have hst := X2
         clear hst
         go_at_call 56
         refine (gTimes au ak (x) (T2) Hx.out.small HT2.out.small _ Gau.out Gak.out).mono ?_
         rintro e w3 ⟨aut, rfl, g3, hx3⟩
         replace d0 : w3.cell? ⟨w.heap.size, 0, none⟩ = some (.int .u64 T2) := hx3.has (by first | exact d0 | (simp [go_sem]; done) | (simp [go_sem, World.cell?_alloc_past, d0, r0, r0a, r0b, r1, r1a, r1b]; done))
         replace d1 : w3.cell? ⟨w.heap.size, 1, none⟩ = some (.int .u64 S2) := hx3.has (by first | exact d1 | (simp [go_sem]; done) | (simp [go_sem, World.cell?_alloc_past, d1, r0, r0a, r0b, r1, r1a, r1b]; done))
         replace d2 : w3.cell? ⟨w.heap.size + 1, 0, none⟩ = some (.int .u64 T) := hx3.has (by first | exact d2 | (simp [go_sem]; done) | (simp [go_sem, World.cell?_alloc_past, d2, r0, r0a, r0b, r1, r1a, r1b]; done))
         replace d3 : w3.cell? ⟨w.heap.size + 1, 1, none⟩ = some (.int .u64 S) := hx3.has (by first | exact d3 | (simp [go_sem]; done) | (simp [go_sem, World.cell?_alloc_past, d3, r0, r0a, r0b, r1, r1a, r1b]; done))
         have z3 := hx3.size
         try simp at z3
         replace r0 : w.heap.size < w3.heap.size := by omega
         replace r0a : w.heap.size < w3.heap.size + 1 := by omega
         replace r0b : w.heap.size < w3.heap.size + 1 + 1 := by omega
         replace r1 : w.heap.size + 1 < w3.heap.size := by omega
         replace r1a : w.heap.size + 1 < w3.heap.size + 1 := by omega
         replace r1b : w.heap.size + 1 < w3.heap.size + 1 + 1 := by omega
         have X3 : Hid (Ext w w3) := Lib.hid (Ext.trans (by repeat (first | with_reducible exact X2.out | with_reducible refine Ext.drew ?_ | with_reducible refine Ext.drewN ?_ _ | with_reducible refine Ext.alloc ?_ _ | with_reducible refine Ext.setCell ?_ (by first | omega | (simp; done) | (simp; omega)) _)) hx3)
         have Gaut := Lib.hid g3
         clear hx3 Gau Gak X2 g3 z3)
      | (have hst := X1
         clear hst
         go_at_call 57
         refine (gGreat T2 HT2.out _).mono ?_
         rintro e w2 ⟨ak, rfl, g2, hx2⟩
         replace d0 : w2.cell? ⟨w.heap.size, 0, none⟩ = some (.int .u64 T2) := hx2.has (by first | exact d0 | (simp [go_sem]; done) | (simp [go_sem, World.cell?_alloc_past, d0, r0, r0a, r0b, r1, r1a, r1b]; done))
         replace d1 : w2.cell? ⟨w.heap.size, 1, none⟩ = some (.int .u64 S2) := hx2.has (by first | exact d1 | (simp [go_sem]; done) | (simp [go_sem, World.cell?_alloc_past, d1, r0, r0a, r0b, r1, r1a, r1b]; done))
         replace d2 : w2.cell? ⟨w.heap.size + 1, 0, none⟩ = some (.int .u64 T) := hx2.has (by first | exact d2 | (simp [go_sem]; done) | (simp [go_sem, World.cell?_alloc_past, d2, r0, r0a, r0b, r1, r1a, r1b]; done))
         replace d3 : w2.cell? ⟨w.heap.size + 1, 1, none⟩ = some (.int .u64 S) := hx2.has (by first | exact d3 | (simp [go_sem]; done) | (simp [go_sem, World.cell?_alloc_past, d3, r0, r0a, r0b, r1, r1a, r1b]; done))
         have z2 := hx2.size
         try simp at z2
         replace r0 : w.heap.size < w2.heap.size := by omega
         replace r0a : w.heap.size < w2.heap.size + 1 := by omega
         replace r0b : w.heap.size < w2.heap.size + 1 + 1 := by omega
         replace r1 : w.heap.size + 1 < w2.heap.size := by omega
         replace r1a : w.heap.size + 1 < w2.heap.size + 1 := by omega
         replace r1b : w.heap.size + 1 < w2.heap.size + 1 + 1 := by omega
         replace Gau := Lib.hid (Gau.out.ext (Ext.trans (by repeat (first | with_reducible exact Ext.refl _ | with_reducible refine Ext.drew ?_ | with_reducible refine Ext.drewN ?_ _ | with_reducible refine Ext.alloc ?_ _ | with_reducible refine Ext.setCell ?_ (by first | omega | (simp; done) | (simp; omega)) _)) hx2))
         have X2 : Hid (Ext w w2) := Lib.hid (Ext.trans (by repeat (first | with_reducible exact X1.out | with_reducible refine Ext.drew ?_ | with_reducible refine Ext.drewN ?_ _ | with_reducible refine Ext.alloc ?_ _ | with_reducible refine Ext.setCell ?_ (by first | omega | (simp; done) | (simp; omega)) _)) hx2)
         have Gak := Lib.hid g2
         clear hx2 X1 g2 z2)
      | (go_at_call 57
         refine (gGreat x Hx.out _).mono ?_
         rintro e w1 ⟨au, rfl, g1, hx1⟩
         have d0 : w1.cell? ⟨w.heap.size, 0, none⟩ = some (.int .u64 T2) := hx1.has (by first | (simp [go_sem]; done) | (simp [go_sem, World.cell?_alloc_past]; done))
         have d1 : w1.cell? ⟨w.heap.size, 1, none⟩ = some (.int .u64 S2) := hx1.has (by first | (simp [go_sem]; done) | (simp [go_sem, World.cell?_alloc_past]; done))
         have d2 : w1.cell? ⟨w.heap.size + 1, 0, none⟩ = some (.int .u64 T) := hx1.has (by first | (simp [go_sem]; done) | (simp [go_sem, World.cell?_alloc_past]; done))
         have d3 : w1.cell? ⟨w.heap.size + 1, 1, none⟩ = some (.int .u64 S) := hx1.has (by first | (simp [go_sem]; done) | (simp [go_sem, World.cell?_alloc_past]; done))
         have z1 := hx1.size
         try simp at z1
         replace r0 : w.heap.size < w1.heap.size := by omega
         replace r0a : w.heap.size < w1.heap.size + 1 := by omega
         replace r0b : w.heap.size < w1.heap.size + 1 + 1 := by omega
         replace r1 : w.heap.size + 1 < w1.heap.size := by omega
         replace r1a : w.heap.size + 1 < w1.heap.size + 1 := by omega
         replace r1b : w.heap.size + 1 < w1.heap.size + 1 + 1 := by omega
         have X1 : Hid (Ext w w1) := Lib.hid (Ext.trans (by repeat (first | with_reducible exact Ext.refl w | with_reducible refine Ext.drew ?_ | with_reducible refine Ext.drewN ?_ _ | with_reducible refine Ext.alloc ?_ _ | with_reducible refine Ext.setCell ?_ (by first | omega | (simp; done) | (simp; omega)) _)) hx1)
         have Gau := Lib.hid g1
         clear hx1 g1 z1))
  go_wp2_with fail
  go_region_held3 (fun w' => w'.cell? ⟨w.heap.size, 0, none⟩ = some (.int .u64 T2) ∧ w'.cell? ⟨w.heap.size, 1, none⟩ = some (.int .u64 S2) ∧ w'.cell? ⟨w.heap.size + 1, 0, none⟩ = some (.int .u64 T) ∧ w'.cell? ⟨w.heap.size + 1, 1, none⟩ = some (.int .u64 S))
    (first | exact ⟨d0, d1, d2, d3⟩ | (simp [go_sem, World.cell?_alloc_past]; done) | (simp [go_sem, World.cell?_alloc_past, d0, d1, d2, d3, r0, r0a, r0b, r1, r1a, r1b]; done))
    (first
      | (have hst := X9
         clear hst
         go_at_call 56
         refine (gTimes but br (x * T) (S2) (Hx.out.mul HT.out).small HS2.out.small _ Gbut.out Gbr.out).mono ?_
         rintro e w10 ⟨right, rfl, g10, hx10⟩
         replace d0 : w10.cell? ⟨w.heap.size, 0, none⟩ = some (.int .u64 T2) := hx10.has (by first | exact d0 | (simp [go_sem]; done) | (simp [go_sem, World.cell?_alloc_past, d0, r0, r0a, r0b, r1, r1a, r1b]; done))
         replace d1 : w10.cell? ⟨w.heap.size, 1, none⟩ = some (.int .u64 S2) := hx10.has (by first | exact d1 | (simp [go_sem]; done) | (simp [go_sem, World.cell?_alloc_past, d1, r0, r0a, r0b, r1, r1a, r1b]; done))
         replace d2 : w10.cell? ⟨w.heap.size + 1, 0, none⟩ = some (.int .u64 T) := hx10.has (by first | exact d2 | (simp [go_sem]; done) | (simp [go_sem, World.cell?_alloc_past, d2, r0, r0a, r0b, r1, r1a, r1b]; done))
         replace d3 : w10.cell? ⟨w.heap.size + 1, 1, none⟩ = some (.int .u64 S) := hx10.has (by first | exact d3 | (simp [go_sem]; done) | (simp [go_sem, World.cell?_alloc_past, d3, r0, r0a, r0b, r1, r1a, r1b]; done))
         have z10 := hx10.size
         try simp at z10
         replace r0 : w.heap.size < w10.heap.size := by omega
         replace r0a : w.heap.size < w10.heap.size + 1 := by omega
         replace r0b : w.heap.size < w10.heap.size + 1 + 1 := by omega
         replace r1 : w.heap.size + 1 < w10.heap.size := by omega
         replace r1a : w.heap.size + 1 < w10.heap.size + 1 := by omega
         replace r1b : w.heap.size + 1 < w10.heap.size + 1 + 1 := by omega
         replace Gleft := Lib.hid (Gleft.out.ext (Ext.trans (by repeat (first | with_reducible exact Ext.refl _ | with_reducible refine Ext.drew ?_ | with_reducible refine Ext.drewN ?_ _ | with_reducible refine Ext.alloc ?_ _ | with_reducible refine Ext.setCell ?_ (by first | omega | (simp; done) | (simp; omega)) _)) hx10))
         have X10 : Hid (Ext w w10) := Lib.hid (Ext.trans (by repeat (first | with_reducible exact X9.out | with_reducible refine Ext.drew ?_ | with_reducible refine Ext.drewN ?_ _ | with_reducible refine Ext.alloc ?_ _ | with_reducible refine Ext.setCell ?_ (by first | omega | (simp; done) | (simp; omega)) _)) hx10)
         have Gright := Lib.hid g10
         clear hx10 Gbut Gbr X9 g10 z10)
      | (have hst := X8
         clear hst
         go_at_call 57
         refine (gGreat S2 HS2.out _).mono ?_
         rintro e w9 ⟨br, rfl, g9, hx9⟩
         replace d0 : w9.cell? ⟨w.heap.size, 0, none⟩ = some (.int .u64 T2) := hx9.has (by first | exact d0 | (simp [go_sem]; done) | (simp [go_sem, World.cell?_alloc_past, d0, r0, r0a, r0b, r1, r1a, r1b]; done))
         replace d1 : w9.cell? ⟨w.heap.size, 1, none⟩ = some (.int .u64 S2) := hx9.has (by first | exact d1 | (simp [go_sem]; done) | (simp [go_sem, World.cell?_alloc_past, d1, r0, r0a, r0b, r1, r1a, r1b]; done))
         replace d2 : w9.cell? ⟨w.heap.size + 1, 0, none⟩ = some (.int .u64 T) := hx9.has (by first | exact d2 | (simp [go_sem]; done) | (simp [go_sem, World.cell?_alloc_past, d2, r0, r0a, r0b, r1, r1a, r1b]; done))
         replace d3 : w9.cell? ⟨w.heap.size + 1, 1, none⟩ = some (.int .u64 S) := hx9.has (by first | exact d3 | (simp [go_sem]; done) | (simp [go_sem, World.cell?_alloc_past, d3, r0, r0a, r0b, r1, r1a, r1b]; done))
         have z9 := hx9.size
         try simp at z9
         replace r0 : w.heap.size < w9.heap.size := by omega
         replace r0a : w.heap.size < w9.heap.size + 1 := by omega
         replace r0b : w.heap.size < w9.heap.size + 1 + 1 := by omega
         replace r1 : w.heap.size + 1 < w9.heap.size := by omega
         replace r1a : w.heap.size + 1 < w9.heap.size + 1 := by omega
         replace r1b : w.heap.size + 1 < w9.heap.size + 1 + 1 := by omega
         replace Gleft := Lib.hid (Gleft.out.ext (Ext.trans (by repeat (first | with_reducible exact Ext.refl _ | with_reducible refine Ext.drew ?_ | with_reducible refine Ext.drewN ?_ _ | with_reducible refine Ext.alloc ?_ _ | with_reducible refine Ext.setCell ?_ (by first | omega | (simp; done) | (simp; omega)) _)) hx9))
         replace Gbut := Lib.hid (Gbut.out.ext (Ext.trans (by repeat (first | with_reducible exact Ext.refl _ | with_reducible refine Ext.drew ?_ | with_reducible refine Ext.drewN ?_ _ | with_reducible refine Ext.alloc ?_ _ | with_reducible refine Ext.setCell ?_ (by first | omega | (simp; done) | (simp; omega)) _)) hx9))
         have X9 : Hid (Ext w w9) := Lib.hid (Ext.trans (by repeat (first | with_reducible exact X8.out | with_reducible refine Ext.drew ?_ | with_reducible refine Ext.drewN ?_ _ | with_reducible refine Ext.alloc ?_ _ | with_reducible refine Ext.setCell ?_ (by first | omega | (simp; done) | (simp; omega)) _)) hx9)
         have Gbr := Lib.hid g9
         clear hx9 X8 g9 z9)
      | (have hst := X7
         clear hst
         go_at_call 56
         refine (gTimes bu bk (x) (T) Hx.out.small HT.out.small _ Gbu.out Gbk.out).mono ?_
         rintro e w8 ⟨but, rfl, g8, hx8⟩
         replace d0 : w8.cell? ⟨w.heap.size, 0, none⟩ = some (.int .u64 T2) := hx8.has (by first | exact d0 | (simp [go_sem]; done) | (simp [go_sem, World.cell?_alloc_past, d0, r0, r0a, r0b, r1, r1a, r1b]; done))
         replace d1 : w8.cell? ⟨w.heap.size, 1, none⟩ = some (.int .u64 S2) := hx8.has (by first | exact d1 | (simp [go_sem]; done) | (simp [go_sem, World.cell?_alloc_past, d1, r0, r0a, r0b, r1, r1a, r1b]; done))
         replace d2 : w8.cell? ⟨w.heap.size + 1, 0, none⟩ = some (.int .u64 T) := hx8.has (by first | exact d2 | (simp [go_sem]; done) | (simp [go_sem, World.cell?_alloc_past, d2, r0, r0a, r0b, r1, r1a, r1b]; done))
         replace d3 : w8.cell? ⟨w.heap.size + 1, 1, none⟩ = some (.int .u64 S) := hx8.has (by first | exact d3 | (simp [go_sem]; done) | (simp [go_sem, World.cell?_alloc_past, d3, r0, r0a, r0b, r1, r1a, r1b]; done))
         have z8 := hx8.size
         try simp at z8
         replace r0 : w.heap.size < w8.heap.size := by omega
         replace r0a : w.heap.size < w8.heap.size + 1 := by omega
         replace r0b : w.heap.size < w8.heap.size + 1 + 1 := by omega
         replace r1 : w.heap.size + 1 < w8.heap.size := by omega
         replace r1a : w.heap.size + 1 < w8.heap.size + 1 := by omega
         replace r1b : w.heap.size + 1 < w8.heap.size + 1 + 1 := by omega
         replace Gleft := Lib.hid (Gleft.out.ext (Ext.trans (by repeat (first | with_reducible exact Ext.refl _ | with_reducible refine Ext.drew ?_ | with_reducible refine Ext.drewN ?_ _ | with_reducible refine Ext.alloc ?_ _ | with_reducible refine Ext.setCell ?_ (by first | omega | (simp; done) | (simp; omega)) _)) hx8))
         have X8 : Hid (Ext w w8) := Lib.hid (Ext.trans (by repeat (first | with_reducible exact X7.out | with_reducible refine Ext.drew ?_ | with_reducible refine Ext.drewN ?_ _ | with_reducible refine Ext.alloc ?_ _ | with_reducible refine Ext.setCell ?_ (by first | omega | (simp; done) | (simp; omega)) _)) hx8)
         have Gbut := Lib.hid g8
         clear hx8 Gbu Gbk X7 g8 z8)
      | (have hst := X6
         clear hst
         go_at_call 57
         refine (gGreat T HT.out _).mono ?_
         rintro e w7 ⟨bk, rfl, g7, hx7⟩
         replace d0 : w7.cell? ⟨w.heap.size, 0, none⟩ = some (.int .u64 T2) := hx7.has (by first | exact d0 | (simp [go_sem]; done) | (simp [go_sem, World.cell?_alloc_past, d0, r0, r0a, r0b, r1, r1a, r1b]; done))
         replace d1 : w7.cell? ⟨w.heap.size, 1, none⟩ = some (.int .u64 S2) := hx7.has (by first | exact d1 | (simp [go_sem]; done) | (simp [go_sem, World.cell?_alloc_past, d1, r0, r0a, r0b, r1, r1a, r1b]; done))
         replace d2 : w7.cell? ⟨w.heap.size + 1, 0, none⟩ = some (.int .u64 T) := hx7.has (by first | exact d2 | (simp [go_sem]; done) | (simp [go_sem, World.cell?_alloc_past, d2, r0, r0a, r0b, r1, r1a, r1b]; done))
         replace d3 : w7.cell? ⟨w.heap.size + 1, 1, none⟩ = some (.int .u64 S) := hx7.has (by first | exact d3 | (simp [go_sem]; done) | (simp [go_sem, World.cell?_alloc_past, d3, r0, r0a, r0b, r1, r1a, r1b]; done))
         have z7 := hx7.size
         try simp at z7
         replace r0 : w.heap.size < w7.heap.size := by omega
         replace r0a : w.heap.size < w7.heap.size + 1 := by omega
         replace r0b : w.heap.size < w7.heap.size + 1 + 1 := by omega
         replace r1 : w.heap.size + 1 < w7.heap.size := by omega
         replace r1a : w.heap.size + 1 < w7.heap.size + 1 := by omega
         replace r1b : w.heap.size + 1 < w7.heap.size + 1 + 1 := by omega
         replace Gleft := Lib.hid (Gleft.out.ext (Ext.trans (by repeat (first | with_reducible exact Ext.refl _ | with_reducible refine Ext.drew ?_ | with_reducible refine Ext.drewN ?_ _ | with_reducible refine Ext.alloc ?_ _ | with_reducible refine Ext.setCell ?_ (by first | omega | (simp; done) | (simp; omega)) _)) hx7))
         replace Gbu := Lib.hid (Gbu.out.ext (Ext.trans (by repeat (first | with_reducible exact Ext.refl _ | with_reducible refine Ext.drew ?_ | with_reducible refine Ext.drewN ?_ _ | with_reducible refine Ext.alloc ?_ _ | with_reducible refine Ext.setCell ?_ (by first | omega | (simp; done) | (simp; omega)) _)) hx7))
         have X7 : Hid (Ext w w7) := Lib.hid (Ext.trans (by repeat (first | with_reducible exact X6.out | with_reducible refine Ext.drew ?_ | with_reducible refine Ext.drewN ?_ _ | with_reducible refine Ext.alloc ?_ _ | with_reducible refine Ext.setCell ?_ (by first | omega | (simp; done) | (simp; omega)) _)) hx7)
         have Gbk := Lib.hid g7
         clear hx7 X6 g7 z7)
      | (have hst := X5
         clear hst
         go_at_call 57
         refine (gGreat x Hx.out _).mono ?_
         rintro e w6 ⟨bu, rfl, g6, hx6⟩
         replace d0 : w6.cell? ⟨w.heap.size, 0, none⟩ = some (.int .u64 T2) := hx6.has (by first | exact d0 | (simp [go_sem]; done) | (simp [go_sem, World.cell?_alloc_past, d0, r0, r0a, r0b, r1, r1a, r1b]; done))
         replace d1 : w6.cell? ⟨w.heap.size, 1, none⟩ = some (.int .u64 S2) := hx6.has (by first | exact d1 | (simp [go_sem]; done) | (simp [go_sem, World.cell?_alloc_past, d1, r0, r0a, r0b, r1, r1a, r1b]; done))
         replace d2 : w6.cell? ⟨w.heap.size + 1, 0, none⟩ = some (.int .u64 T) := hx6.has (by first | exact d2 | (simp [go_sem]; done) | (simp [go_sem, World.cell?_alloc_past, d2, r0, r0a, r0b, r1, r1a, r1b]; done))
         replace d3 : w6.cell? ⟨w.heap.size + 1, 1, none⟩ = some (.int .u64 S) := hx6.has (by first | exact d3 | (simp [go_sem]; done) | (simp [go_sem, World.cell?_alloc_past, d3, r0, r0a, r0b, r1, r1a, r1b]; done))
         have z6 := hx6.size
         try simp at z6
         replace r0 : w.heap.size < w6.heap.size := by omega
         replace r0a : w.heap.size < w6.heap.size + 1 := by omega
         replace r0b : w.heap.size < w6.heap.size + 1 + 1 := by omega
         replace r1 : w.heap.size + 1 < w6.heap.size := by omega
         replace r1a : w.heap.size + 1 < w6.heap.size + 1 := by omega
         replace r1b : w.heap.size + 1 < w6.heap.size + 1 + 1 := by omega
         replace Gleft := Lib.hid (Gleft.out.ext (Ext.trans (by repeat (first | with_reducible exact Ext.refl _ | with_reducible refine Ext.drew ?_ | with_reducible refine Ext.drewN ?_ _ | with_reducible refine Ext.alloc ?_ _ | with_reducible refine Ext.setCell ?_ (by first | omega | (simp; done) | (simp; omega)) _)) hx6))
         have X6 : Hid (Ext w w6) := Lib.hid (Ext.trans (by repeat (first | with_reducible exact X5.out | with_reducible refine Ext.drew ?_ | with_reducible refine Ext.drewN ?_ _ | with_reducible refine Ext.alloc ?_ _ | with_reducible refine Ext.setCell ?_ (by first | omega | (simp; done) | (simp; omega)) _)) hx6)
         have Gbu := Lib.hid g6
         clear hx6 X5 g6 z6))
  go_wp2_with fail
  go_region_held3 (fun w' => w'.cell? ⟨w.heap.size, 0, none⟩ = some (.int .u64 T2) ∧ w'.cell? ⟨w.heap.size, 1, none⟩ = some (.int .u64 S2) ∧ w'.cell? ⟨w.heap.size + 1, 0, none⟩ = some (.int .u64 T) ∧ w'.cell? ⟨w.heap.size + 1, 1, none⟩ = some (.int .u64 S))
    (first | exact ⟨d0, d1, d2, d3⟩ | (simp [go_sem, World.cell?_alloc_past]; done) | (simp [go_sem, World.cell?_alloc_past, d0, d1, d2, d3, r0, r0a, r0b, r1, r1a, r1b]; done))
    (first
      | (have hst := X12
         clear hst
         go_at_call 56
         refine (gTimes cu ct (S) (S2) HS.out.small HS2.out.small _ Gcu.out Gct.out).mono ?_
         rintro e w13 ⟨both, rfl, g13, hx13⟩
         replace d0 : w13.cell? ⟨w.heap.size, 0, none⟩ = some (.int .u64 T2) := hx13.has (by first | exact d0 | (simp [go_sem]; done) | (simp [go_sem, World.cell?_alloc_past, d0, r0, r0a, r0b, r1, r1a, r1b]; done))
         replace d1 : w13.cell? ⟨w.heap.size, 1, none⟩ = some (.int .u64 S2) := hx13.has (by first | exact d1 | (simp [go_sem]; done) | (simp [go_sem, World.cell?_alloc_past, d1, r0, r0a, r0b, r1, r1a, r1b]; done))
         replace d2 : w13.cell? ⟨w.heap.size + 1, 0, none⟩ = some (.int .u64 T) := hx13.has (by first | exact d2 | (simp [go_sem]; done) | (simp [go_sem, World.cell?_alloc_past, d2, r0, r0a, r0b, r1, r1a, r1b]; done))
         replace d3 : w13.cell? ⟨w.heap.size + 1, 1, none⟩ = some (.int .u64 S) := hx13.has (by first | exact d3 | (simp [go_sem]; done) | (simp [go_sem, World.cell?_alloc_past, d3, r0, r0a, r0b, r1, r1a, r1b]; done))
         have z13 := hx13.size
         try simp at z13
         replace r0 : w.heap.size < w13.heap.size := by omega
         replace r0a : w.heap.size < w13.heap.size + 1 := by omega
         replace r0b : w.heap.size < w13.heap.size + 1 + 1 := by omega
         replace r1 : w.heap.size + 1 < w13.heap.size := by omega
         replace r1a : w.heap.size + 1 < w13.heap.size + 1 := by omega
         replace r1b : w.heap.size + 1 < w13.heap.size + 1 + 1 := by omega
         replace Gleft := Lib.hid (Gleft.out.ext (Ext.trans (by repeat (first | with_reducible exact Ext.refl _ | with_reducible refine Ext.drew ?_ | with_reducible refine Ext.drewN ?_ _ | with_reducible refine Ext.alloc ?_ _ | with_reducible refine Ext.setCell ?_ (by first | omega | (simp; done) | (simp; omega)) _)) hx13))
         replace Gright := Lib.hid (Gright.out.ext (Ext.trans (by repeat (first | with_reducible exact Ext.refl _ | with_reducible refine Ext.drew ?_ | with_reducible refine Ext.drewN ?_ _ | with_reducible refine Ext.alloc ?_ _ | with_reducible refine Ext.setCell ?_ (by first | omega | (simp; done) | (simp; omega)) _)) hx13))
         have X13 : Hid (Ext w w13) := Lib.hid (Ext.trans (by repeat (first | with_reducible exact X12.out | with_reducible refine Ext.drew ?_ | with_reducible refine Ext.drewN ?_ _ | with_reducible refine Ext.alloc ?_ _ | with_reducible refine Ext.setCell ?_ (by first | omega | (simp; done) | (simp; omega)) _)) hx13)
         have Gboth := Lib.hid g13
         clear hx13 Gcu Gct X12 g13 z13)
      | (have hst := X11
         clear hst
         go_at_call 57
         refine (gGreat S2 HS2.out _).mono ?_
         rintro e w12 ⟨ct, rfl, g12, hx12⟩
         replace d0 : w12.cell? ⟨w.heap.size, 0, none⟩ = some (.int .u64 T2) := hx12.has (by first | exact d0 | (simp [go_sem]; done) | (simp [go_sem, World.cell?_alloc_past, d0, r0, r0a, r0b, r1, r1a, r1b]; done))
         replace d1 : w12.cell? ⟨w.heap.size, 1, none⟩ = some (.int .u64 S2) := hx12.has (by first | exact d1 | (simp [go_sem]; done) | (simp [go_sem, World.cell?_alloc_past, d1, r0, r0a, r0b, r1, r1a, r1b]; done))
         replace d2 : w12.cell? ⟨w.heap.size + 1, 0, none⟩ = some (.int .u64 T) := hx12.has (by first | exact d2 | (simp [go_sem]; done) | (simp [go_sem, World.cell?_alloc_past, d2, r0, r0a, r0b, r1, r1a, r1b]; done))
         replace d3 : w12.cell? ⟨w.heap.size + 1, 1, none⟩ = some (.int .u64 S) := hx12.has (by first | exact d3 | (simp [go_sem]; done) | (simp [go_sem, World.cell?_alloc_past, d3, r0, r0a, r0b, r1, r1a, r1b]; done))
         have z12 := hx12.size
         try simp at z12
         replace r0 : w.heap.size < w12.heap.size := by omega
         replace r0a : w.heap.size < w12.heap.size + 1 := by omega
         replace r0b : w.heap.size < w12.heap.size + 1 + 1 := by omega
         replace r1 : w.heap.size + 1 < w12.heap.size := by omega
         replace r1a : w.heap.size + 1 < w12.heap.size + 1 := by omega
         replace r1b : w.heap.size + 1 < w12.heap.size + 1 + 1 := by omega
         replace Gleft := Lib.hid (Gleft.out.ext (Ext.trans (by repeat (first | with_reducible exact Ext.refl _ | with_reducible refine Ext.drew ?_ | with_reducible refine Ext.drewN ?_ _ | with_reducible refine Ext.alloc ?_ _ | with_reducible refine Ext.setCell ?_ (by first | omega | (simp; done) | (simp; omega)) _)) hx12))
         replace Gright := Lib.hid (Gright.out.ext (Ext.trans (by repeat (first | with_reducible exact Ext.refl _ | with_reducible refine Ext.drew ?_ | with_reducible refine Ext.drewN ?_ _ | with_reducible refine Ext.alloc ?_ _ | with_reducible refine Ext.setCell ?_ (by first | omega | (simp; done) | (simp; omega)) _)) hx12))
         replace Gcu := Lib.hid (Gcu.out.ext (Ext.trans (by repeat (first | with_reducible exact Ext.refl _ | with_reducible refine Ext.drew ?_ | with_reducible refine Ext.drewN ?_ _ | with_reducible refine Ext.alloc ?_ _ | with_reducible refine Ext.setCell ?_ (by first | omega | (simp; done) | (simp; omega)) _)) hx12))
         have X12 : Hid (Ext w w12) := Lib.hid (Ext.trans (by repeat (first | with_reducible exact X11.out | with_reducible refine Ext.drew ?_ | with_reducible refine Ext.drewN ?_ _ | with_reducible refine Ext.alloc ?_ _ | with_reducible refine Ext.setCell ?_ (by first | omega | (simp; done) | (simp; omega)) _)) hx12)
         have Gct := Lib.hid g12
         clear hx12 X11 g12 z12)
      | (have hst := X10
         clear hst
         go_at_call 57
         refine (gGreat S HS.out _).mono ?_
         rintro e w11 ⟨cu, rfl, g11, hx11⟩
         replace d0 : w11.cell? ⟨w.heap.size, 0, none⟩ = some (.int .u64 T2) := hx11.has (by first | exact d0 | (simp [go_sem]; done) | (simp [go_sem, World.cell?_alloc_past, d0, r0, r0a, r0b, r1, r1a, r1b]; done))
         replace d1 : w11.cell? ⟨w.heap.size, 1, none⟩ = some (.int .u64 S2) := hx11.has (by first | exact d1 | (simp [go_sem]; done) | (simp [go_sem, World.cell?_alloc_past, d1, r0, r0a, r0b, r1, r1a, r1b]; done))
         replace d2 : w11.cell? ⟨w.heap.size + 1, 0, none⟩ = some (.int .u64 T) := hx11.has (by first | exact d2 | (simp [go_sem]; done) | (simp [go_sem, World.cell?_alloc_past, d2, r0, r0a, r0b, r1, r1a, r1b]; done))
         replace d3 : w11.cell? ⟨w.heap.size + 1, 1, none⟩ = some (.int .u64 S) := hx11.has (by first | exact d3 | (simp [go_sem]; done) | (simp [go_sem, World.cell?_alloc_past, d3, r0, r0a, r0b, r1, r1a, r1b]; done))
         have z11 := hx11.size
         try simp at z11
         replace r0 : w.heap.size < w11.heap.size := by omega
         replace r0a : w.heap.size < w11.heap.size + 1 := by omega
         replace r0b : w.heap.size < w11.heap.size + 1 + 1 := by omega
         replace r1 : w.heap.size + 1 < w11.heap.size := by omega
         replace r1a : w.heap.size + 1 < w11.heap.size + 1 := by omega
         replace r1b : w.heap.size + 1 < w11.heap.size + 1 + 1 := by omega
         replace Gleft := Lib.hid (Gleft.out.ext (Ext.trans (by repeat (first | with_reducible exact Ext.refl _ | with_reducible refine Ext.drew ?_ | with_reducible refine Ext.drewN ?_ _ | with_reducible refine Ext.alloc ?_ _ | with_reducible refine Ext.setCell ?_ (by first | omega | (simp; done) | (simp; omega)) _)) hx11))
         replace Gright := Lib.hid (Gright.out.ext (Ext.trans (by repeat (first | with_reducible exact Ext.refl _ | with_reducible refine Ext.drew ?_ | with_reducible refine Ext.drewN ?_ _ | with_reducible refine Ext.alloc ?_ _ | with_reducible refine Ext.setCell ?_ (by first | omega | (simp; done) | (simp; omega)) _)) hx11))
         have X11 : Hid (Ext w w11) := Lib.hid (Ext.trans (by repeat (first | with_reducible exact X10.out | with_reducible refine Ext.drew ?_ | with_reducible refine Ext.drewN ?_ _ | with_reducible refine Ext.alloc ?_ _ | with_reducible refine Ext.setCell ?_ (by first | omega | (simp; done) | (simp; omega)) _)) hx11)
         have Gcu := Lib.hid g11
         clear hx11 X10 g11 z11))
  go_wp2_with fail
  refine (gSum right both (x * T * S2) (S * S2) ((Hx.out.mul HT.out).mul HS2.out).small (HS.out.mul HS2.out).small _ Gright.out Gboth.out).mono ?_
  rintro e w14 ⟨sm, rfl, g14, hx14⟩
  replace d0 : w14.cell? ⟨w.heap.size, 0, none⟩ = some (.int .u64 T2) := hx14.has (by first | exact d0 | (simp [go_sem]; done) | (simp [go_sem, World.cell?_alloc_past, d0, r0, r0a, r0b, r1, r1a, r1b]; done))
  replace d1 : w14.cell? ⟨w.heap.size, 1, none⟩ = some (.int .u64 S2) := hx14.has (by first | exact d1 | (simp [go_sem]; done) | (simp [go_sem, World.cell?_alloc_past, d1, r0, r0a, r0b, r1, r1a, r1b]; done))
  replace d2 : w14.cell? ⟨w.heap.size + 1, 0, none⟩ = some (.int .u64 T) := hx14.has (by first | exact d2 | (simp [go_sem]; done) | (simp [go_sem, World.cell?_alloc_past, d2, r0, r0a, r0b, r1, r1a, r1b]; done))
  replace d3 : w14.cell? ⟨w.heap.size + 1, 1, none⟩ = some (.int .u64 S) := hx14.has (by first | exact d3 | (simp [go_sem]; done) | (simp [go_sem, World.cell?_alloc_past, d3, r0, r0a, r0b, r1, r1a, r1b]; done))
  have z14 := hx14.size
  try simp at z14
  replace r0 : w.heap.size < w14.heap.size := by omega
  replace r0a : w.heap.size < w14.heap.size + 1 := by omega
  replace r0b : w.heap.size < w14.heap.size + 1 + 1 := by omega
  replace r1 : w.heap.size + 1 < w14.heap.size := by omega
  replace r1a : w.heap.size + 1 < w14.heap.size + 1 := by omega
  replace r1b : w.heap.size + 1 < w14.heap.size + 1 + 1 := by omega
  replace Gleft := Lib.hid (Gleft.out.ext (Ext.trans (by repeat (first | with_reducible exact Ext.refl _ | with_reducible refine Ext.drew ?_ | with_reducible refine Ext.drewN ?_ _ | with_reducible refine Ext.alloc ?_ _ | with_reducible refine Ext.setCell ?_ (by first | omega | (simp; done) | (simp; omega)) _)) hx14))
  have X14 : Hid (Ext w w14) := Lib.hid (Ext.trans (by repeat (first | with_reducible exact X13.out | with_reducible refine Ext.drew ?_ | with_reducible refine Ext.drewN ?_ _ | with_reducible refine Ext.alloc ?_ _ | with_reducible refine Ext.setCell ?_ (by first | omega | (simp; done) | (simp; omega)) _)) hx14)
  have Gsm := Lib.hid g14
  clear hx14 Gright Gboth X13 g14 z14
  go_wp2_with fail
  refine (gLess left sm (x * T2 * S) (x * T * S2 + S * S2) V HV.out _ Gleft.out Gsm.out).mono ?_
  rintro e w15 ⟨rfl, hx15⟩
  replace d0 : w15.cell? ⟨w.heap.size, 0, none⟩ = some (.int .u64 T2) := hx15.has (by first | exact d0 | (simp [go_sem]; done) | (simp [go_sem, World.cell?_alloc_past, d0, r0, r0a, r0b, r1, r1a, r1b]; done))
  replace d1 : w15.cell? ⟨w.heap.size, 1, none⟩ = some (.int .u64 S2) := hx15.has (by first | exact d1 | (simp [go_sem]; done) | (simp [go_sem, World.cell?_alloc_past, d1, r0, r0a, r0b, r1, r1a, r1b]; done))
  replace d2 : w15.cell? ⟨w.heap.size + 1, 0, none⟩ = some (.int .u64 T) := hx15.has (by first | exact d2 | (simp [go_sem]; done) | (simp [go_sem, World.cell?_alloc_past, d2, r0, r0a, r0b, r1, r1a, r1b]; done))
  replace d3 : w15.cell? ⟨w.heap.size + 1, 1, none⟩ = some (.int .u64 S) := hx15.has (by first | exact d3 | (simp [go_sem]; done) | (simp [go_sem, World.cell?_alloc_past, d3, r0, r0a, r0b, r1, r1a, r1b]; done))
  have z15 := hx15.size
  try simp at z15
  replace r0 : w.heap.size < w15.heap.size := by omega
  replace r0a : w.heap.size < w15.heap.size + 1 := by omega
  replace r0b : w.heap.size < w15.heap.size + 1 + 1 := by omega
  replace r1 : w.heap.size + 1 < w15.heap.size := by omega
  replace r1a : w.heap.size + 1 < w15.heap.size + 1 := by omega
  replace r1b : w.heap.size + 1 < w15.heap.size + 1 + 1 := by omega
  have X15 : Hid (Ext w w15) := Lib.hid (Ext.trans (by repeat (first | with_reducible exact X14.out | with_reducible refine Ext.drew ?_ | with_reducible refine Ext.drewN ?_ _ | with_reducible refine Ext.alloc ?_ _ | with_reducible refine Ext.setCell ?_ (by first | omega | (simp; done) | (simp; omega)) _)) hx15)
  clear hx15 Gleft Gsm X14 z15
  go_wp2_with fail
  go_ret
  exact ⟨rfl, X15.out⟩
set_option maxRecDepth 100000 in
set_option maxHeartbeats 4000000 in
theorem lwhole_any (x T S a : Int) (hx : B1 x) (hT : B1 T) (hS : B1 S) (ha : 1 ≤ a) (ha2 : a < 18446744073709551616) (V : Bool) (hV : decide ((a - 1) * S < x * T) = V) (w : World) :
    Calls Try.prog 53 #[.int .u64 x, .agg #[.int .u64 T, .int .u64 S], .int .u64 a] w fun r w' => r = .returned (.bool (!V)) ∧ Ext w w' := by
  have Hx := Lib.hid hx
  have HT := Lib.hid hT
  have HS := Lib.hid hS
  have HV := Lib.hid hV
  have Hb := Lib.hid (show B1 (a - 1) from ⟨by omega, by omega⟩)
  clear hx hT hS hV
  go_enter Try.func53, Try.ntmps53
  go_wp2_with fail
  go_region_held3 (fun w' => w'.cell? ⟨w.heap.size, 0, none⟩ = some (.int .u64 T) ∧ w'.cell? ⟨w.heap.size, 1, none⟩ = some (.int .u64 S))
    (first | exact ⟨d0, d1⟩ | (simp [go_sem, World.cell?_alloc_past]; done) | (simp [go_sem, World.cell?_alloc_past, go_sem, go_sem]; done))
    (first
      | (have hst := X2
         clear hst
         go_at_call 56
         refine (gTimes au as_ (x) (T) Hx.out.small HT.out.small _ Gau.out Gas_.out).mono ?_
         rintro e w3 ⟨left, rfl, g3, hx3⟩
         replace d0 : w3.cell? ⟨w.heap.size, 0, none⟩ = some (.int .u64 T) := hx3.has (by first | exact d0 | (simp [go_sem]; done) | (simp [go_sem, World.cell?_alloc_past, d0, r0, r0a, r0b]; done))
         replace d1 : w3.cell? ⟨w.heap.size, 1, none⟩ = some (.int .u64 S) := hx3.has (by first | exact d1 | (simp [go_sem]; done) | (simp [go_sem, World.cell?_alloc_past, d1, r0, r0a, r0b]; done))
         have z3 := hx3.size
         try simp at z3
         replace r0 : w.heap.size < w3.heap.size := by omega
         replace r0a : w.heap.size < w3.heap.size + 1 := by omega
         replace r0b : w.heap.size < w3.heap.size + 1 + 1 := by omega
         have X3 : Hid (Ext w w3) := Lib.hid (Ext.trans (by repeat (first | with_reducible exact X2.out | with_reducible refine Ext.drew ?_ | with_reducible refine Ext.drewN ?_ _ | with_reducible refine Ext.alloc ?_ _ | with_reducible refine Ext.setCell ?_ (by first | omega | (simp; done) | (simp; omega)) _)) hx3)
         have Gleft := Lib.hid g3
         clear hx3 Gau Gas_ X2 g3 z3)
      | (have hst := X1
         clear hst
         go_at_call 57
         refine (gGreat T HT.out _).mono ?_
         rintro e w2 ⟨as_, rfl, g2, hx2⟩
         replace d0 : w2.cell? ⟨w.heap.size, 0, none⟩ = some (.int .u64 T) := hx2.has (by first | exact d0 | (simp [go_sem]; done) | (simp [go_sem, World.cell?_alloc_past, d0, r0, r0a, r0b]; done))
         replace d1 : w2.cell? ⟨w.heap.size, 1, none⟩ = some (.int .u64 S) := hx2.has (by first | exact d1 | (simp [go_sem]; done) | (simp [go_sem, World.cell?_alloc_past, d1, r0, r0a, r0b]; done))
         have z2 := hx2.size
         try simp at z2
         replace r0 : w.heap.size < w2.heap.size := by omega
         replace r0a : w.heap.size < w2.heap.size + 1 := by omega
         replace r0b : w.heap.size < w2.heap.size + 1 + 1 := by omega
         replace Gau := Lib.hid (Gau.out.ext (Ext.trans (by repeat (first | with_reducible exact Ext.refl _ | with_reducible refine Ext.drew ?_ | with_reducible refine Ext.drewN ?_ _ | with_reducible refine Ext.alloc ?_ _ | with_reducible refine Ext.setCell ?_ (by first | omega | (simp; done) | (simp; omega)) _)) hx2))
         have X2 : Hid (Ext w w2) := Lib.hid (Ext.trans (by repeat (first | with_reducible exact X1.out | with_reducible refine Ext.drew ?_ | with_reducible refine Ext.drewN ?_ _ | with_reducible refine Ext.alloc ?_ _ | with_reducible refine Ext.setCell ?_ (by first | omega | (simp; done) | (simp; omega)) _)) hx2)
         have Gas_ := Lib.hid g2
         clear hx2 X1 g2 z2)
      | (go_at_call 57
         refine (gGreat x Hx.out _).mono ?_
         rintro e w1 ⟨au, rfl, g1, hx1⟩
         have d0 : w1.cell? ⟨w.heap.size, 0, none⟩ = some (.int .u64 T) := hx1.has (by first | (simp [go_sem]; done) | (simp [go_sem, World.cell?_alloc_past]; done))
         have d1 : w1.cell? ⟨w.heap.size, 1, none⟩ = some (.int .u64 S) := hx1.has (by first | (simp [go_sem]; done) | (simp [go_sem, World.cell?_alloc_past]; done))
         have z1 := hx1.size
         try simp at z1
         replace r0 : w.heap.size < w1.heap.size := by omega
         replace r0a : w.heap.size < w1.heap.size + 1 := by omega
         replace r0b : w.heap.size < w1.heap.size + 1 + 1 := by omega
         have X1 : Hid (Ext w w1) := Lib.hid (Ext.trans (by repeat (first | with_reducible exact Ext.refl w | with_reducible refine Ext.drew ?_ | with_reducible refine Ext.drewN ?_ _ | with_reducible refine Ext.alloc ?_ _ | with_reducible refine Ext.setCell ?_ (by first | omega | (simp; done) | (simp; omega)) _)) hx1)
         have Gau := Lib.hid g1
         clear hx1 g1 z1))
  go_wp2_with fail
  go_region_held3 (fun w' => w'.cell? ⟨w.heap.size, 0, none⟩ = some (.int .u64 T) ∧ w'.cell? ⟨w.heap.size, 1, none⟩ = some (.int .u64 S))
    (first | exact ⟨d0, d1⟩ | (simp [go_sem, World.cell?_alloc_past]; done) | (simp [go_sem, World.cell?_alloc_past, d0, d1, r0, r0a, r0b]; done))
    (first
      | (have hst := X5
         clear hst
         go_at_call 56
         refine (gTimes bu bt ((a - 1)) (S) Hb.out.small HS.out.small _ Gbu.out Gbt.out).mono ?_
         rintro e w6 ⟨right, rfl, g6, hx6⟩
         replace d0 : w6.cell? ⟨w.heap.size, 0, none⟩ = some (.int .u64 T) := hx6.has (by first | exact d0 | (simp [go_sem]; done) | (simp [go_sem, World.cell?_alloc_past, d0, r0, r0a, r0b]; done))
         replace d1 : w6.cell? ⟨w.heap.size, 1, none⟩ = some (.int .u64 S) := hx6.has (by first | exact d1 | (simp [go_sem]; done) | (simp [go_sem, World.cell?_alloc_past, d1, r0, r0a, r0b]; done))
         have z6 := hx6.size
         try simp at z6
         replace r0 : w.heap.size < w6.heap.size := by omega
         replace r0a : w.heap.size < w6.heap.size + 1 := by omega
         replace r0b : w.heap.size < w6.heap.size + 1 + 1 := by omega
         replace Gleft := Lib.hid (Gleft.out.ext (Ext.trans (by repeat (first | with_reducible exact Ext.refl _ | with_reducible refine Ext.drew ?_ | with_reducible refine Ext.drewN ?_ _ | with_reducible refine Ext.alloc ?_ _ | with_reducible refine Ext.setCell ?_ (by first | omega | (simp; done) | (simp; omega)) _)) hx6))
         have X6 : Hid (Ext w w6) := Lib.hid (Ext.trans (by repeat (first | with_reducible exact X5.out | with_reducible refine Ext.drew ?_ | with_reducible refine Ext.drewN ?_ _ | with_reducible refine Ext.alloc ?_ _ | with_reducible refine Ext.setCell ?_ (by first | omega | (simp; done) | (simp; omega)) _)) hx6)
         have Gright := Lib.hid g6
         clear hx6 Gbu Gbt X5 g6 z6)
      | (have hst := X4
         clear hst
         go_at_call 57
         refine (gGreat S HS.out _).mono ?_
         rintro e w5 ⟨bt, rfl, g5, hx5⟩
         replace d0 : w5.cell? ⟨w.heap.size, 0, none⟩ = some (.int .u64 T) := hx5.has (by first | exact d0 | (simp [go_sem]; done) | (simp [go_sem, World.cell?_alloc_past, d0, r0, r0a, r0b]; done))
         replace d1 : w5.cell? ⟨w.heap.size, 1, none⟩ = some (.int .u64 S) := hx5.has (by first | exact d1 | (simp [go_sem]; done) | (simp [go_sem, World.cell?_alloc_past, d1, r0, r0a, r0b]; done))
         have z5 := hx5.size
         try simp at z5
         replace r0 : w.heap.size < w5.heap.size := by omega
         replace r0a : w.heap.size < w5.heap.size + 1 := by omega
         replace r0b : w.heap.size < w5.heap.size + 1 + 1 := by omega
         replace Gleft := Lib.hid (Gleft.out.ext (Ext.trans (by repeat (first | with_reducible exact Ext.refl _ | with_reducible refine Ext.drew ?_ | with_reducible refine Ext.drewN ?_ _ | with_reducible refine Ext.alloc ?_ _ | with_reducible refine Ext.setCell ?_ (by first | omega | (simp; done) | (simp; omega)) _)) hx5))
         replace Gbu := Lib.hid (Gbu.out.ext (Ext.trans (by repeat (first | with_reducible exact Ext.refl _ | with_reducible refine Ext.drew ?_ | with_reducible refine Ext.drewN ?_ _ | with_reducible refine Ext.alloc ?_ _ | with_reducible refine Ext.setCell ?_ (by first | omega | (simp; done) | (simp; omega)) _)) hx5))
         have X5 : Hid (Ext w w5) := Lib.hid (Ext.trans (by repeat (first | with_reducible exact X4.out | with_reducible refine Ext.drew ?_ | with_reducible refine Ext.drewN ?_ _ | with_reducible refine Ext.alloc ?_ _ | with_reducible refine Ext.setCell ?_ (by first | omega | (simp; done) | (simp; omega)) _)) hx5)
         have Gbt := Lib.hid g5
         clear hx5 X4 g5 z5)
      | (have hst := X3
         clear hst
         go_at_call 57
         refine (gGreatW (a - 1) Hb.out _).mono ?_
         rintro e w4 ⟨bu, rfl, g4, hx4⟩
         replace d0 : w4.cell? ⟨w.heap.size, 0, none⟩ = some (.int .u64 T) := hx4.has (by first | exact d0 | (simp [go_sem]; done) | (simp [go_sem, World.cell?_alloc_past, d0, r0, r0a, r0b]; done))
         replace d1 : w4.cell? ⟨w.heap.size, 1, none⟩ = some (.int .u64 S) := hx4.has (by first | exact d1 | (simp [go_sem]; done) | (simp [go_sem, World.cell?_alloc_past, d1, r0, r0a, r0b]; done))
         have z4 := hx4.size
         try simp at z4
         replace r0 : w.heap.size < w4.heap.size := by omega
         replace r0a : w.heap.size < w4.heap.size + 1 := by omega
         replace r0b : w.heap.size < w4.heap.size + 1 + 1 := by omega
         replace Gleft := Lib.hid (Gleft.out.ext (Ext.trans (by repeat (first | with_reducible exact Ext.refl _ | with_reducible refine Ext.drew ?_ | with_reducible refine Ext.drewN ?_ _ | with_reducible refine Ext.alloc ?_ _ | with_reducible refine Ext.setCell ?_ (by first | omega | (simp; done) | (simp; omega)) _)) hx4))
         have X4 : Hid (Ext w w4) := Lib.hid (Ext.trans (by repeat (first | with_reducible exact X3.out | with_reducible refine Ext.drew ?_ | with_reducible refine Ext.drewN ?_ _ | with_reducible refine Ext.alloc ?_ _ | with_reducible refine Ext.setCell ?_ (by first | omega | (simp; done) | (simp; omega)) _)) hx4)
         have Gbu := Lib.hid g4
         clear hx4 X3 g4 z4))
  go_wp2_with fail
  refine (gLess right left ((a - 1) * S) (x * T) V HV.out _ Gright.out Gleft.out).mono ?_
  rintro e w7 ⟨rfl, hx7⟩
  replace d0 : w7.cell? ⟨w.heap.size, 0, none⟩ = some (.int .u64 T) := hx7.has (by first | exact d0 | (simp [go_sem]; done) | (simp [go_sem, World.cell?_alloc_past, d0, r0, r0a, r0b]; done))
  replace d1 : w7.cell? ⟨w.heap.size, 1, none⟩ = some (.int .u64 S) := hx7.has (by first | exact d1 | (simp [go_sem]; done) | (simp [go_sem, World.cell?_alloc_past, d1, r0, r0a, r0b]; done))
  have z7 := hx7.size
  try simp at z7
  replace r0 : w.heap.size < w7.heap.size := by omega
  replace r0a : w.heap.size < w7.heap.size + 1 := by omega
  replace r0b : w.heap.size < w7.heap.size + 1 + 1 := by omega
  have X7 : Hid (Ext w w7) := Lib.hid (Ext.trans (by repeat (first | with_reducible exact X6.out | with_reducible refine Ext.drew ?_ | with_reducible refine Ext.drewN ?_ _ | with_reducible refine Ext.alloc ?_ _ | with_reducible refine Ext.setCell ?_ (by first | omega | (simp; done) | (simp; omega)) _)) hx7)
  clear hx7 Gright Gleft X6 z7
  go_wp2_with fail
  go_ret
  exact ⟨rfl, X7.out⟩
end Go.Proofs.Ythaknigljjnnaaa
