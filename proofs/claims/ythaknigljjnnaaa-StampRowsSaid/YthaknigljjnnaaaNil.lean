/- codec's writer and reader that are nil, a writer of a bad limit; stamp.Put and stamp.Take of none. Conditions stand in each lemma. -/
import Derived.Test.YthaknigljjnnaaaStampP
import Derived.Test.YthaknigljjnnaaaStampT
set_option linter.unusedVariables false
set_option linter.unusedSimpArgs false
namespace Go.Proofs.Ythaknigljjnnaaa
open Go.RowKit
set_option maxRecDepth 100000 in
set_option maxHeartbeats 1000000 in
theorem cstate_nil  (w : World) :
    Calls Try.prog 70 #[.pointer none] w fun r w' => r = .returned (.int .i64 1) ∧ w = w' := by
  go_enter Try.func70, Try.ntmps70
  go_wp2_with fail
  go_ret
  exact ⟨rfl, rfl⟩
set_option maxRecDepth 100000 in
set_option maxHeartbeats 1000000 in
theorem cDone_nil  (w : World) :
    Calls Try.prog 18 #[.pointer none] w fun r w' => r = .returned (.tuple #[.slice none 0 0, .int .i64 1]) ∧ w = w' := by
  go_enter Try.func18, Try.ntmps18
  go_wp2_with fail
  (with_reducible refine (cstate_nil _).mono ?_)
  rintro e w_1 ⟨rfl, rfl⟩
  go_wp2_with fail
  go_ret2
  exact ⟨rfl, rfl⟩
set_option maxRecDepth 100000 in
set_option maxHeartbeats 1000000 in
theorem tPut_nil (V S P F : Int) (w : World) :
    Calls Try.prog 16 #[.pointer none, .agg #[.int .i64 V, .int .i64 S, .int .i64 P, .int .i64 F]] w fun r w' => r = .returned (.int .i64 1) ∧ Ext w w' := by
  go_enter Try.func16, Try.ntmps16
  go_wp2_with fail
  (with_reducible refine (cDone_nil _).mono ?_)
  rintro e w_1 ⟨rfl, rfl⟩
  go_wp2_with fail
  go_ret
  exact ⟨rfl, (by repeat (first | with_reducible exact Ext.refl w | with_reducible refine Ext.drew ?_ | with_reducible refine Ext.drewN ?_ _ | with_reducible refine Ext.alloc ?_ _ | with_reducible refine Ext.setCell ?_ (by first | omega | (simp; done) | (simp; omega)) _))⟩
set_option maxRecDepth 100000 in
set_option maxHeartbeats 1000000 in
theorem cnone_nil  (w : World) :
    Calls Try.prog 78 #[.pointer none] w fun r w' => r = .returned (.bool true) ∧ w = w' := by
  go_enter Try.func78, Try.ntmps78
  go_wp2_with fail
  go_ret
  exact ⟨rfl, rfl⟩
set_option maxRecDepth 100000 in
set_option maxHeartbeats 1000000 in
theorem creadI_nil (v : Value) (w : World) :
    Calls Try.prog 109 #[.pointer none, v] w fun r w' => r = .returned (.int .i64 0) ∧ w = w' := by
  go_enter Try.func109, Try.ntmps109
  go_wp2_with fail
  (with_reducible refine (cnone_nil _).mono ?_)
  rintro e w_1 ⟨rfl, rfl⟩
  go_wp2_with fail
  go_ret
  exact ⟨rfl, rfl⟩
set_option maxRecDepth 100000 in
set_option maxHeartbeats 1000000 in
theorem cRN_nil (a b : Int) (w : World) :
    Calls Try.prog 73 #[.pointer none, .int .i64 a, .int .i64 b] w fun r w' => r = .returned (.int .i64 0) ∧ Ext w w' := by
  go_enter Try.func73, Try.ntmps73
  go_wp2_with fail
  (with_reducible refine (creadI_nil _ _).mono ?_)
  rintro e w_1 ⟨rfl, rfl⟩
  go_wp2_with fail
  go_ret
  exact ⟨rfl, (by repeat (first | with_reducible exact Ext.refl w | with_reducible refine Ext.drew ?_ | with_reducible refine Ext.drewN ?_ _ | with_reducible refine Ext.alloc ?_ _ | with_reducible refine Ext.setCell ?_ (by first | omega | (simp; done) | (simp; omega)) _))⟩
set_option maxRecDepth 100000 in
set_option maxHeartbeats 1000000 in
theorem cAt_nil  (w : World) :
    Calls Try.prog 25 #[.pointer none] w fun r w' => r = .returned (.int .i64 0) ∧ w = w' := by
  go_enter Try.func25, Try.ntmps25
  go_wp2_with fail
  (with_reducible refine (cnone_nil _).mono ?_)
  rintro e w_1 ⟨rfl, rfl⟩
  go_wp2_with fail
  go_ret
  exact ⟨rfl, rfl⟩
set_option maxRecDepth 100000 in
set_option maxHeartbeats 1000000 in
theorem cLeft_nil  (w : World) :
    Calls Try.prog 27 #[.pointer none] w fun r w' => r = .returned (.int .i64 0) ∧ w = w' := by
  go_enter Try.func27, Try.ntmps27
  go_wp2_with fail
  (with_reducible refine (cnone_nil _).mono ?_)
  rintro e w_1 ⟨rfl, rfl⟩
  go_wp2_with fail
  go_ret
  exact ⟨rfl, rfl⟩
set_option maxRecDepth 100000 in
set_option maxHeartbeats 1000000 in
theorem cEnd_nil  (w : World) :
    Calls Try.prog 29 #[.pointer none] w fun r w' => r = .returned (.agg #[.int .i64 1, .int .i64 0]) ∧ Ext w w' := by
  go_enter Try.func29, Try.ntmps29
  go_wp2_with fail
  (with_reducible refine (cnone_nil _).mono ?_)
  rintro e w_1 ⟨rfl, rfl⟩
  go_wp2_with fail
  refine bodyPost_ret (v := .agg #[.int .i64 1, .int .i64 0]) (by simp [results, Try.results29, go_sem, World.cell?_alloc_past]; try rfl) rfl ⟨rfl, ?_⟩
  exact (by repeat (first | with_reducible exact Ext.refl w | with_reducible refine Ext.drew ?_ | with_reducible refine Ext.drewN ?_ _ | with_reducible refine Ext.alloc ?_ _ | with_reducible refine Ext.setCell ?_ (by first | omega | (simp; done) | (simp; omega)) _))
set_option maxRecDepth 100000 in
set_option maxHeartbeats 1000000 in
theorem tfaulty_nil  (w : World) :
    Calls Try.prog 74 #[.pointer none] w fun r w' => r = .returned (.bool true) ∧ Ext w w' := by
  have hfld : ∀ w : World, (Instr.field 47 (.agg #[.int .i64 1, .int .i64 0]) 0).run Try.prog w = .ok (.int .i64 1) w := fun _ => by kernel_rfl
  go_enter Try.func74, Try.ntmps74
  go_wp2_with fail
  (with_reducible refine (cLeft_nil _).mono ?_)
  rintro e w_1 ⟨rfl, rfl⟩
  go_wp2_with fail
  (with_reducible refine (cEnd_nil _).mono ?_)
  rintro e w1 ⟨rfl, hx1⟩
  have z1 := hx1.size
  try simp at z1
  have X1 : Hid (Ext w w1) := Lib.hid (Ext.trans (by repeat (first | with_reducible exact Ext.refl w | with_reducible refine Ext.drew ?_ | with_reducible refine Ext.drewN ?_ _ | with_reducible refine Ext.alloc ?_ _ | with_reducible refine Ext.setCell ?_ (by first | omega | (simp; done) | (simp; omega)) _)) hx1)
  clear hx1 z1
  go_wp2_with fail
  go_ret
  exact ⟨rfl, (by repeat (first | with_reducible exact X1.out | with_reducible refine Ext.drew ?_ | with_reducible refine Ext.drewN ?_ _ | with_reducible refine Ext.alloc ?_ _ | with_reducible refine Ext.setCell ?_ (by first | omega | (simp; done) | (simp; omega)) _))⟩
set_option maxRecDepth 100000 in
set_option maxHeartbeats 1000000 in
theorem tTake_nil  (w : World) :
    Calls Try.prog 23 #[.pointer none] w fun r w' => r = .returned (.agg #[.int .i64 0, .int .i64 0, .int .i64 0, .int .i64 0]) ∧ Ext w w' := by
  go_enter Try.func23, Try.ntmps23
  go_wp2_with fail
  (with_reducible refine (cAt_nil _).mono ?_)
  rintro e w_1 ⟨rfl, rfl⟩
  go_wp2_with fail
  (with_reducible refine (cRN_nil 0 31 _).mono ?_)
  rintro e w1 ⟨rfl, hx1⟩
  have c0_0f : w1.frozen? ⟨w.heap.size, 0, none⟩ = false := hx1.froz (v := .int .i64 0) (by first | fail | (simp [go_sem, World.cell?_alloc_past]; done)) (by first | fail | (simp [go_sem, World.cell?_alloc_past]; done))
  have c0_1f : w1.frozen? ⟨w.heap.size, 1, none⟩ = false := hx1.froz (v := .int .i64 0) (by first | fail | (simp [go_sem, World.cell?_alloc_past]; done)) (by first | fail | (simp [go_sem, World.cell?_alloc_past]; done))
  have c0_2f : w1.frozen? ⟨w.heap.size, 2, none⟩ = false := hx1.froz (v := .int .i64 0) (by first | fail | (simp [go_sem, World.cell?_alloc_past]; done)) (by first | fail | (simp [go_sem, World.cell?_alloc_past]; done))
  have c0_3f : w1.frozen? ⟨w.heap.size, 3, none⟩ = false := hx1.froz (v := .int .i64 0) (by first | fail | (simp [go_sem, World.cell?_alloc_past]; done)) (by first | fail | (simp [go_sem, World.cell?_alloc_past]; done))
  have c0_0 : w1.cell? ⟨w.heap.size, 0, none⟩ = some (.int .i64 0) := hx1.has (by first | fail | (simp [go_sem, World.cell?_alloc_past]; done))
  have c0_1 : w1.cell? ⟨w.heap.size, 1, none⟩ = some (.int .i64 0) := hx1.has (by first | fail | (simp [go_sem, World.cell?_alloc_past]; done))
  have c0_2 : w1.cell? ⟨w.heap.size, 2, none⟩ = some (.int .i64 0) := hx1.has (by first | fail | (simp [go_sem, World.cell?_alloc_past]; done))
  have c0_3 : w1.cell? ⟨w.heap.size, 3, none⟩ = some (.int .i64 0) := hx1.has (by first | fail | (simp [go_sem, World.cell?_alloc_past]; done))
  have z1 := hx1.size
  try simp at z1
  have rc0 : w.heap.size < w1.heap.size := by omega
  have rc0a : w.heap.size < w1.heap.size + 1 := by omega
  have rc0b : w.heap.size < w1.heap.size + 1 + 1 := by omega
  have rc0c : w.heap.size < w1.heap.size + 1 + 1 + 1 := by omega
  have rc0n : ¬ w.heap.size = w1.heap.size := by omega
  have X1 : Hid (Ext w w1) := Lib.hid (Ext.trans (by repeat (first | with_reducible exact Ext.refl w | with_reducible refine Ext.drew ?_ | with_reducible refine Ext.drewN ?_ _ | with_reducible refine Ext.alloc ?_ _ | with_reducible refine Ext.setCell ?_ (by first | omega | (simp; done) | (simp; omega)) _)) hx1)
  clear hx1 z1
  go_wp2_with fail
  (with_reducible refine (cRN_nil 1 4294967296 _).mono ?_)
  rintro e w2 ⟨rfl, hx2⟩
  replace c0_0f : w2.frozen? ⟨w.heap.size, 0, none⟩ = false := hx2.froz (v := .int .i64 0) (by first | exact c0_0 | (simp [go_sem, World.cell?_alloc_past, c0_0f, c0_1f, c0_2f, c0_3f, c0_0, c0_1, c0_2, c0_3, rc0, rc0a, rc0b, rc0c, rc0n]; done)) (by first | exact c0_0f | (simp [go_sem, World.cell?_alloc_past, c0_0f, c0_1f, c0_2f, c0_3f, c0_0, c0_1, c0_2, c0_3, rc0, rc0a, rc0b, rc0c, rc0n]; done))
  replace c0_1f : w2.frozen? ⟨w.heap.size, 1, none⟩ = false := hx2.froz (v := .int .i64 0) (by first | exact c0_1 | (simp [go_sem, World.cell?_alloc_past, c0_0f, c0_1f, c0_2f, c0_3f, c0_0, c0_1, c0_2, c0_3, rc0, rc0a, rc0b, rc0c, rc0n]; done)) (by first | exact c0_1f | (simp [go_sem, World.cell?_alloc_past, c0_0f, c0_1f, c0_2f, c0_3f, c0_0, c0_1, c0_2, c0_3, rc0, rc0a, rc0b, rc0c, rc0n]; done))
  replace c0_2f : w2.frozen? ⟨w.heap.size, 2, none⟩ = false := hx2.froz (v := .int .i64 0) (by first | exact c0_2 | (simp [go_sem, World.cell?_alloc_past, c0_0f, c0_1f, c0_2f, c0_3f, c0_0, c0_1, c0_2, c0_3, rc0, rc0a, rc0b, rc0c, rc0n]; done)) (by first | exact c0_2f | (simp [go_sem, World.cell?_alloc_past, c0_0f, c0_1f, c0_2f, c0_3f, c0_0, c0_1, c0_2, c0_3, rc0, rc0a, rc0b, rc0c, rc0n]; done))
  replace c0_3f : w2.frozen? ⟨w.heap.size, 3, none⟩ = false := hx2.froz (v := .int .i64 0) (by first | exact c0_3 | (simp [go_sem, World.cell?_alloc_past, c0_0f, c0_1f, c0_2f, c0_3f, c0_0, c0_1, c0_2, c0_3, rc0, rc0a, rc0b, rc0c, rc0n]; done)) (by first | exact c0_3f | (simp [go_sem, World.cell?_alloc_past, c0_0f, c0_1f, c0_2f, c0_3f, c0_0, c0_1, c0_2, c0_3, rc0, rc0a, rc0b, rc0c, rc0n]; done))
  replace c0_0 : w2.cell? ⟨w.heap.size, 0, none⟩ = some (.int .i64 0) := hx2.has (by first | exact c0_0 | (simp [go_sem, World.cell?_alloc_past, c0_0f, c0_1f, c0_2f, c0_3f, c0_0, c0_1, c0_2, c0_3, rc0, rc0a, rc0b, rc0c, rc0n]; done))
  replace c0_1 : w2.cell? ⟨w.heap.size, 1, none⟩ = some (.int .i64 0) := hx2.has (by first | exact c0_1 | (simp [go_sem, World.cell?_alloc_past, c0_0f, c0_1f, c0_2f, c0_3f, c0_0, c0_1, c0_2, c0_3, rc0, rc0a, rc0b, rc0c, rc0n]; done))
  replace c0_2 : w2.cell? ⟨w.heap.size, 2, none⟩ = some (.int .i64 0) := hx2.has (by first | exact c0_2 | (simp [go_sem, World.cell?_alloc_past, c0_0f, c0_1f, c0_2f, c0_3f, c0_0, c0_1, c0_2, c0_3, rc0, rc0a, rc0b, rc0c, rc0n]; done))
  replace c0_3 : w2.cell? ⟨w.heap.size, 3, none⟩ = some (.int .i64 0) := hx2.has (by first | exact c0_3 | (simp [go_sem, World.cell?_alloc_past, c0_0f, c0_1f, c0_2f, c0_3f, c0_0, c0_1, c0_2, c0_3, rc0, rc0a, rc0b, rc0c, rc0n]; done))
  have z2 := hx2.size
  try simp at z2
  replace rc0 : w.heap.size < w2.heap.size := by omega
  replace rc0a : w.heap.size < w2.heap.size + 1 := by omega
  replace rc0b : w.heap.size < w2.heap.size + 1 + 1 := by omega
  replace rc0c : w.heap.size < w2.heap.size + 1 + 1 + 1 := by omega
  replace rc0n : ¬ w.heap.size = w2.heap.size := by omega
  have X2 : Hid (Ext w w2) := Lib.hid (Ext.trans (by repeat (first | with_reducible exact X1.out | with_reducible refine Ext.drew ?_ | with_reducible refine Ext.drewN ?_ _ | with_reducible refine Ext.alloc ?_ _ | with_reducible refine Ext.setCell ?_ (by first | omega | (simp; done) | (simp; omega)) _)) hx2)
  clear X1 hx2 z2
  go_wp2_with fail
  (with_reducible refine (cRN_nil 0 32 _).mono ?_)
  rintro e w3 ⟨rfl, hx3⟩
  replace c0_0f : w3.frozen? ⟨w.heap.size, 0, none⟩ = false := hx3.froz (v := .int .i64 0) (by first | exact c0_0 | (simp [go_sem, World.cell?_alloc_past, c0_0f, c0_1f, c0_2f, c0_3f, c0_0, c0_1, c0_2, c0_3, rc0, rc0a, rc0b, rc0c, rc0n]; done)) (by first | exact c0_0f | (simp [go_sem, World.cell?_alloc_past, c0_0f, c0_1f, c0_2f, c0_3f, c0_0, c0_1, c0_2, c0_3, rc0, rc0a, rc0b, rc0c, rc0n]; done))
  replace c0_1f : w3.frozen? ⟨w.heap.size, 1, none⟩ = false := hx3.froz (v := .int .i64 0) (by first | exact c0_1 | (simp [go_sem, World.cell?_alloc_past, c0_0f, c0_1f, c0_2f, c0_3f, c0_0, c0_1, c0_2, c0_3, rc0, rc0a, rc0b, rc0c, rc0n]; done)) (by first | exact c0_1f | (simp [go_sem, World.cell?_alloc_past, c0_0f, c0_1f, c0_2f, c0_3f, c0_0, c0_1, c0_2, c0_3, rc0, rc0a, rc0b, rc0c, rc0n]; done))
  replace c0_2f : w3.frozen? ⟨w.heap.size, 2, none⟩ = false := hx3.froz (v := .int .i64 0) (by first | exact c0_2 | (simp [go_sem, World.cell?_alloc_past, c0_0f, c0_1f, c0_2f, c0_3f, c0_0, c0_1, c0_2, c0_3, rc0, rc0a, rc0b, rc0c, rc0n]; done)) (by first | exact c0_2f | (simp [go_sem, World.cell?_alloc_past, c0_0f, c0_1f, c0_2f, c0_3f, c0_0, c0_1, c0_2, c0_3, rc0, rc0a, rc0b, rc0c, rc0n]; done))
  replace c0_3f : w3.frozen? ⟨w.heap.size, 3, none⟩ = false := hx3.froz (v := .int .i64 0) (by first | exact c0_3 | (simp [go_sem, World.cell?_alloc_past, c0_0f, c0_1f, c0_2f, c0_3f, c0_0, c0_1, c0_2, c0_3, rc0, rc0a, rc0b, rc0c, rc0n]; done)) (by first | exact c0_3f | (simp [go_sem, World.cell?_alloc_past, c0_0f, c0_1f, c0_2f, c0_3f, c0_0, c0_1, c0_2, c0_3, rc0, rc0a, rc0b, rc0c, rc0n]; done))
  replace c0_0 : w3.cell? ⟨w.heap.size, 0, none⟩ = some (.int .i64 0) := hx3.has (by first | exact c0_0 | (simp [go_sem, World.cell?_alloc_past, c0_0f, c0_1f, c0_2f, c0_3f, c0_0, c0_1, c0_2, c0_3, rc0, rc0a, rc0b, rc0c, rc0n]; done))
  replace c0_1 : w3.cell? ⟨w.heap.size, 1, none⟩ = some (.int .i64 0) := hx3.has (by first | exact c0_1 | (simp [go_sem, World.cell?_alloc_past, c0_0f, c0_1f, c0_2f, c0_3f, c0_0, c0_1, c0_2, c0_3, rc0, rc0a, rc0b, rc0c, rc0n]; done))
  replace c0_2 : w3.cell? ⟨w.heap.size, 2, none⟩ = some (.int .i64 0) := hx3.has (by first | exact c0_2 | (simp [go_sem, World.cell?_alloc_past, c0_0f, c0_1f, c0_2f, c0_3f, c0_0, c0_1, c0_2, c0_3, rc0, rc0a, rc0b, rc0c, rc0n]; done))
  replace c0_3 : w3.cell? ⟨w.heap.size, 3, none⟩ = some (.int .i64 0) := hx3.has (by first | exact c0_3 | (simp [go_sem, World.cell?_alloc_past, c0_0f, c0_1f, c0_2f, c0_3f, c0_0, c0_1, c0_2, c0_3, rc0, rc0a, rc0b, rc0c, rc0n]; done))
  have c1_2f : w3.frozen? ⟨w2.heap.size, 2, none⟩ = false := hx3.froz (v := .int .i64 0) (by first | fail | (simp [go_sem, World.cell?_alloc_past, c0_0f, c0_1f, c0_2f, c0_3f, c0_0, c0_1, c0_2, c0_3, rc0, rc0a, rc0b, rc0c, rc0n]; done)) (by first | fail | (simp [go_sem, World.cell?_alloc_past, c0_0f, c0_1f, c0_2f, c0_3f, c0_0, c0_1, c0_2, c0_3, rc0, rc0a, rc0b, rc0c, rc0n]; done))
  have c1_3f : w3.frozen? ⟨w2.heap.size, 3, none⟩ = false := hx3.froz (v := .int .i64 0) (by first | fail | (simp [go_sem, World.cell?_alloc_past, c0_0f, c0_1f, c0_2f, c0_3f, c0_0, c0_1, c0_2, c0_3, rc0, rc0a, rc0b, rc0c, rc0n]; done)) (by first | fail | (simp [go_sem, World.cell?_alloc_past, c0_0f, c0_1f, c0_2f, c0_3f, c0_0, c0_1, c0_2, c0_3, rc0, rc0a, rc0b, rc0c, rc0n]; done))
  have c1_2 : w3.cell? ⟨w2.heap.size, 2, none⟩ = some (.int .i64 0) := hx3.has (by first | fail | (simp [go_sem, World.cell?_alloc_past, c0_0f, c0_1f, c0_2f, c0_3f, c0_0, c0_1, c0_2, c0_3, rc0, rc0a, rc0b, rc0c, rc0n]; done))
  have c1_3 : w3.cell? ⟨w2.heap.size, 3, none⟩ = some (.int .i64 0) := hx3.has (by first | fail | (simp [go_sem, World.cell?_alloc_past, c0_0f, c0_1f, c0_2f, c0_3f, c0_0, c0_1, c0_2, c0_3, rc0, rc0a, rc0b, rc0c, rc0n]; done))
  have z3 := hx3.size
  try simp at z3
  have lt_c0_c1 : w.heap.size < w2.heap.size := by omega
  have ne_c0_c1 : ¬ w.heap.size = w2.heap.size := by omega
  have ne_c1_c0 : ¬ w2.heap.size = w.heap.size := by omega
  replace rc0 : w.heap.size < w3.heap.size := by omega
  replace rc0a : w.heap.size < w3.heap.size + 1 := by omega
  replace rc0b : w.heap.size < w3.heap.size + 1 + 1 := by omega
  replace rc0c : w.heap.size < w3.heap.size + 1 + 1 + 1 := by omega
  replace rc0n : ¬ w.heap.size = w3.heap.size := by omega
  have rc1 : w2.heap.size < w3.heap.size := by omega
  have rc1a : w2.heap.size < w3.heap.size + 1 := by omega
  have rc1b : w2.heap.size < w3.heap.size + 1 + 1 := by omega
  have rc1c : w2.heap.size < w3.heap.size + 1 + 1 + 1 := by omega
  have rc1n : ¬ w2.heap.size = w3.heap.size := by omega
  have X3 : Hid (Ext w w3) := Lib.hid (Ext.trans (by repeat (first | with_reducible exact X2.out | with_reducible refine Ext.drew ?_ | with_reducible refine Ext.drewN ?_ _ | with_reducible refine Ext.alloc ?_ _ | with_reducible refine Ext.setCell ?_ (by first | omega | (simp; done) | (simp; omega)) _)) hx3)
  clear X2 hx3 z3
  go_wp2_with fail
  (with_reducible refine (cRN_nil 0 4294967296 _).mono ?_)
  rintro e w4 ⟨rfl, hx4⟩
  replace c0_0f : w4.frozen? ⟨w.heap.size, 0, none⟩ = false := hx4.froz (v := .int .i64 0) (by first | exact c0_0 | (simp [go_sem, World.cell?_alloc_past, c0_0f, c0_1f, c0_2f, c0_3f, c0_0, c0_1, c0_2, c0_3, c1_2f, c1_3f, c1_2, c1_3, ne_c0_c1, ne_c1_c0, rc0, rc0a, rc0b, rc0c, rc0n, rc1, rc1a, rc1b, rc1c, rc1n]; done)) (by first | exact c0_0f | (simp [go_sem, World.cell?_alloc_past, c0_0f, c0_1f, c0_2f, c0_3f, c0_0, c0_1, c0_2, c0_3, c1_2f, c1_3f, c1_2, c1_3, ne_c0_c1, ne_c1_c0, rc0, rc0a, rc0b, rc0c, rc0n, rc1, rc1a, rc1b, rc1c, rc1n]; done))
  replace c0_1f : w4.frozen? ⟨w.heap.size, 1, none⟩ = false := hx4.froz (v := .int .i64 0) (by first | exact c0_1 | (simp [go_sem, World.cell?_alloc_past, c0_0f, c0_1f, c0_2f, c0_3f, c0_0, c0_1, c0_2, c0_3, c1_2f, c1_3f, c1_2, c1_3, ne_c0_c1, ne_c1_c0, rc0, rc0a, rc0b, rc0c, rc0n, rc1, rc1a, rc1b, rc1c, rc1n]; done)) (by first | exact c0_1f | (simp [go_sem, World.cell?_alloc_past, c0_0f, c0_1f, c0_2f, c0_3f, c0_0, c0_1, c0_2, c0_3, c1_2f, c1_3f, c1_2, c1_3, ne_c0_c1, ne_c1_c0, rc0, rc0a, rc0b, rc0c, rc0n, rc1, rc1a, rc1b, rc1c, rc1n]; done))
  replace c0_2f : w4.frozen? ⟨w.heap.size, 2, none⟩ = false := hx4.froz (v := .int .i64 0) (by first | exact c0_2 | (simp [go_sem, World.cell?_alloc_past, c0_0f, c0_1f, c0_2f, c0_3f, c0_0, c0_1, c0_2, c0_3, c1_2f, c1_3f, c1_2, c1_3, ne_c0_c1, ne_c1_c0, rc0, rc0a, rc0b, rc0c, rc0n, rc1, rc1a, rc1b, rc1c, rc1n]; done)) (by first | exact c0_2f | (simp [go_sem, World.cell?_alloc_past, c0_0f, c0_1f, c0_2f, c0_3f, c0_0, c0_1, c0_2, c0_3, c1_2f, c1_3f, c1_2, c1_3, ne_c0_c1, ne_c1_c0, rc0, rc0a, rc0b, rc0c, rc0n, rc1, rc1a, rc1b, rc1c, rc1n]; done))
  replace c0_3f : w4.frozen? ⟨w.heap.size, 3, none⟩ = false := hx4.froz (v := .int .i64 0) (by first | exact c0_3 | (simp [go_sem, World.cell?_alloc_past, c0_0f, c0_1f, c0_2f, c0_3f, c0_0, c0_1, c0_2, c0_3, c1_2f, c1_3f, c1_2, c1_3, ne_c0_c1, ne_c1_c0, rc0, rc0a, rc0b, rc0c, rc0n, rc1, rc1a, rc1b, rc1c, rc1n]; done)) (by first | exact c0_3f | (simp [go_sem, World.cell?_alloc_past, c0_0f, c0_1f, c0_2f, c0_3f, c0_0, c0_1, c0_2, c0_3, c1_2f, c1_3f, c1_2, c1_3, ne_c0_c1, ne_c1_c0, rc0, rc0a, rc0b, rc0c, rc0n, rc1, rc1a, rc1b, rc1c, rc1n]; done))
  replace c0_0 : w4.cell? ⟨w.heap.size, 0, none⟩ = some (.int .i64 0) := hx4.has (by first | exact c0_0 | (simp [go_sem, World.cell?_alloc_past, c0_0f, c0_1f, c0_2f, c0_3f, c0_0, c0_1, c0_2, c0_3, c1_2f, c1_3f, c1_2, c1_3, ne_c0_c1, ne_c1_c0, rc0, rc0a, rc0b, rc0c, rc0n, rc1, rc1a, rc1b, rc1c, rc1n]; done))
  replace c0_1 : w4.cell? ⟨w.heap.size, 1, none⟩ = some (.int .i64 0) := hx4.has (by first | exact c0_1 | (simp [go_sem, World.cell?_alloc_past, c0_0f, c0_1f, c0_2f, c0_3f, c0_0, c0_1, c0_2, c0_3, c1_2f, c1_3f, c1_2, c1_3, ne_c0_c1, ne_c1_c0, rc0, rc0a, rc0b, rc0c, rc0n, rc1, rc1a, rc1b, rc1c, rc1n]; done))
  replace c0_2 : w4.cell? ⟨w.heap.size, 2, none⟩ = some (.int .i64 0) := hx4.has (by first | exact c0_2 | (simp [go_sem, World.cell?_alloc_past, c0_0f, c0_1f, c0_2f, c0_3f, c0_0, c0_1, c0_2, c0_3, c1_2f, c1_3f, c1_2, c1_3, ne_c0_c1, ne_c1_c0, rc0, rc0a, rc0b, rc0c, rc0n, rc1, rc1a, rc1b, rc1c, rc1n]; done))
  replace c0_3 : w4.cell? ⟨w.heap.size, 3, none⟩ = some (.int .i64 0) := hx4.has (by first | exact c0_3 | (simp [go_sem, World.cell?_alloc_past, c0_0f, c0_1f, c0_2f, c0_3f, c0_0, c0_1, c0_2, c0_3, c1_2f, c1_3f, c1_2, c1_3, ne_c0_c1, ne_c1_c0, rc0, rc0a, rc0b, rc0c, rc0n, rc1, rc1a, rc1b, rc1c, rc1n]; done))
  replace c1_3f : w4.frozen? ⟨w2.heap.size, 3, none⟩ = false := hx4.froz (v := .int .i64 0) (by first | exact c1_3 | (simp [go_sem, World.cell?_alloc_past, c0_0f, c0_1f, c0_2f, c0_3f, c0_0, c0_1, c0_2, c0_3, c1_2f, c1_3f, c1_2, c1_3, ne_c0_c1, ne_c1_c0, rc0, rc0a, rc0b, rc0c, rc0n, rc1, rc1a, rc1b, rc1c, rc1n]; done)) (by first | exact c1_3f | (simp [go_sem, World.cell?_alloc_past, c0_0f, c0_1f, c0_2f, c0_3f, c0_0, c0_1, c0_2, c0_3, c1_2f, c1_3f, c1_2, c1_3, ne_c0_c1, ne_c1_c0, rc0, rc0a, rc0b, rc0c, rc0n, rc1, rc1a, rc1b, rc1c, rc1n]; done))
  replace c1_3 : w4.cell? ⟨w2.heap.size, 3, none⟩ = some (.int .i64 0) := hx4.has (by first | exact c1_3 | (simp [go_sem, World.cell?_alloc_past, c0_0f, c0_1f, c0_2f, c0_3f, c0_0, c0_1, c0_2, c0_3, c1_2f, c1_3f, c1_2, c1_3, ne_c0_c1, ne_c1_c0, rc0, rc0a, rc0b, rc0c, rc0n, rc1, rc1a, rc1b, rc1c, rc1n]; done))
  have z4 := hx4.size
  try simp at z4
  replace rc0 : w.heap.size < w4.heap.size := by omega
  replace rc0a : w.heap.size < w4.heap.size + 1 := by omega
  replace rc0b : w.heap.size < w4.heap.size + 1 + 1 := by omega
  replace rc0c : w.heap.size < w4.heap.size + 1 + 1 + 1 := by omega
  replace rc0n : ¬ w.heap.size = w4.heap.size := by omega
  replace rc1 : w2.heap.size < w4.heap.size := by omega
  replace rc1a : w2.heap.size < w4.heap.size + 1 := by omega
  replace rc1b : w2.heap.size < w4.heap.size + 1 + 1 := by omega
  replace rc1c : w2.heap.size < w4.heap.size + 1 + 1 + 1 := by omega
  replace rc1n : ¬ w2.heap.size = w4.heap.size := by omega
  have X4 : Hid (Ext w w4) := Lib.hid (Ext.trans (by repeat (first | with_reducible exact X3.out | with_reducible refine Ext.drew ?_ | with_reducible refine Ext.drewN ?_ _ | with_reducible refine Ext.alloc ?_ _ | with_reducible refine Ext.setCell ?_ (by first | omega | (simp; done) | (simp; omega)) _)) hx4)
  clear c1_2 c1_2f X3 hx4 z4
  go_wp2_with fail
  (with_reducible refine (tfaulty_nil _).mono ?_)
  rintro e w5 ⟨rfl, hx5⟩
  replace c0_0f : w5.frozen? ⟨w.heap.size, 0, none⟩ = false := hx5.froz (v := .int .i64 0) (by first | exact c0_0 | (simp [go_sem, World.cell?_alloc_past, c0_0f, c0_1f, c0_2f, c0_3f, c0_0, c0_1, c0_2, c0_3, c1_3f, c1_3, ne_c0_c1, ne_c1_c0, rc0, rc0a, rc0b, rc0c, rc0n, rc1, rc1a, rc1b, rc1c, rc1n]; done)) (by first | exact c0_0f | (simp [go_sem, World.cell?_alloc_past, c0_0f, c0_1f, c0_2f, c0_3f, c0_0, c0_1, c0_2, c0_3, c1_3f, c1_3, ne_c0_c1, ne_c1_c0, rc0, rc0a, rc0b, rc0c, rc0n, rc1, rc1a, rc1b, rc1c, rc1n]; done))
  replace c0_1f : w5.frozen? ⟨w.heap.size, 1, none⟩ = false := hx5.froz (v := .int .i64 0) (by first | exact c0_1 | (simp [go_sem, World.cell?_alloc_past, c0_0f, c0_1f, c0_2f, c0_3f, c0_0, c0_1, c0_2, c0_3, c1_3f, c1_3, ne_c0_c1, ne_c1_c0, rc0, rc0a, rc0b, rc0c, rc0n, rc1, rc1a, rc1b, rc1c, rc1n]; done)) (by first | exact c0_1f | (simp [go_sem, World.cell?_alloc_past, c0_0f, c0_1f, c0_2f, c0_3f, c0_0, c0_1, c0_2, c0_3, c1_3f, c1_3, ne_c0_c1, ne_c1_c0, rc0, rc0a, rc0b, rc0c, rc0n, rc1, rc1a, rc1b, rc1c, rc1n]; done))
  replace c0_2f : w5.frozen? ⟨w.heap.size, 2, none⟩ = false := hx5.froz (v := .int .i64 0) (by first | exact c0_2 | (simp [go_sem, World.cell?_alloc_past, c0_0f, c0_1f, c0_2f, c0_3f, c0_0, c0_1, c0_2, c0_3, c1_3f, c1_3, ne_c0_c1, ne_c1_c0, rc0, rc0a, rc0b, rc0c, rc0n, rc1, rc1a, rc1b, rc1c, rc1n]; done)) (by first | exact c0_2f | (simp [go_sem, World.cell?_alloc_past, c0_0f, c0_1f, c0_2f, c0_3f, c0_0, c0_1, c0_2, c0_3, c1_3f, c1_3, ne_c0_c1, ne_c1_c0, rc0, rc0a, rc0b, rc0c, rc0n, rc1, rc1a, rc1b, rc1c, rc1n]; done))
  replace c0_3f : w5.frozen? ⟨w.heap.size, 3, none⟩ = false := hx5.froz (v := .int .i64 0) (by first | exact c0_3 | (simp [go_sem, World.cell?_alloc_past, c0_0f, c0_1f, c0_2f, c0_3f, c0_0, c0_1, c0_2, c0_3, c1_3f, c1_3, ne_c0_c1, ne_c1_c0, rc0, rc0a, rc0b, rc0c, rc0n, rc1, rc1a, rc1b, rc1c, rc1n]; done)) (by first | exact c0_3f | (simp [go_sem, World.cell?_alloc_past, c0_0f, c0_1f, c0_2f, c0_3f, c0_0, c0_1, c0_2, c0_3, c1_3f, c1_3, ne_c0_c1, ne_c1_c0, rc0, rc0a, rc0b, rc0c, rc0n, rc1, rc1a, rc1b, rc1c, rc1n]; done))
  replace c0_0 : w5.cell? ⟨w.heap.size, 0, none⟩ = some (.int .i64 0) := hx5.has (by first | exact c0_0 | (simp [go_sem, World.cell?_alloc_past, c0_0f, c0_1f, c0_2f, c0_3f, c0_0, c0_1, c0_2, c0_3, c1_3f, c1_3, ne_c0_c1, ne_c1_c0, rc0, rc0a, rc0b, rc0c, rc0n, rc1, rc1a, rc1b, rc1c, rc1n]; done))
  replace c0_1 : w5.cell? ⟨w.heap.size, 1, none⟩ = some (.int .i64 0) := hx5.has (by first | exact c0_1 | (simp [go_sem, World.cell?_alloc_past, c0_0f, c0_1f, c0_2f, c0_3f, c0_0, c0_1, c0_2, c0_3, c1_3f, c1_3, ne_c0_c1, ne_c1_c0, rc0, rc0a, rc0b, rc0c, rc0n, rc1, rc1a, rc1b, rc1c, rc1n]; done))
  replace c0_2 : w5.cell? ⟨w.heap.size, 2, none⟩ = some (.int .i64 0) := hx5.has (by first | exact c0_2 | (simp [go_sem, World.cell?_alloc_past, c0_0f, c0_1f, c0_2f, c0_3f, c0_0, c0_1, c0_2, c0_3, c1_3f, c1_3, ne_c0_c1, ne_c1_c0, rc0, rc0a, rc0b, rc0c, rc0n, rc1, rc1a, rc1b, rc1c, rc1n]; done))
  replace c0_3 : w5.cell? ⟨w.heap.size, 3, none⟩ = some (.int .i64 0) := hx5.has (by first | exact c0_3 | (simp [go_sem, World.cell?_alloc_past, c0_0f, c0_1f, c0_2f, c0_3f, c0_0, c0_1, c0_2, c0_3, c1_3f, c1_3, ne_c0_c1, ne_c1_c0, rc0, rc0a, rc0b, rc0c, rc0n, rc1, rc1a, rc1b, rc1c, rc1n]; done))
  have z5 := hx5.size
  try simp at z5
  replace rc0 : w.heap.size < w5.heap.size := by omega
  replace rc0a : w.heap.size < w5.heap.size + 1 := by omega
  replace rc0b : w.heap.size < w5.heap.size + 1 + 1 := by omega
  replace rc0c : w.heap.size < w5.heap.size + 1 + 1 + 1 := by omega
  replace rc0n : ¬ w.heap.size = w5.heap.size := by omega
  have X5 : Hid (Ext w w5) := Lib.hid (Ext.trans (by repeat (first | with_reducible exact X4.out | with_reducible refine Ext.drew ?_ | with_reducible refine Ext.drewN ?_ _ | with_reducible refine Ext.alloc ?_ _ | with_reducible refine Ext.setCell ?_ (by first | omega | (simp; done) | (simp; omega)) _)) hx5)
  clear c1_3f c1_3 rc1 rc1a rc1b rc1c rc1n X4 hx5 z5
  go_wp2_with fail
  (with_reducible refine (tfaulty_nil _).mono ?_)
  rintro e w6 ⟨rfl, hx6⟩
  replace c0_0f : w6.frozen? ⟨w.heap.size, 0, none⟩ = false := hx6.froz (v := .int .i64 0) (by first | exact c0_0 | (simp [go_sem, World.cell?_alloc_past, c0_0f, c0_1f, c0_2f, c0_3f, c0_0, c0_1, c0_2, c0_3, rc0, rc0a, rc0b, rc0c, rc0n]; done)) (by first | exact c0_0f | (simp [go_sem, World.cell?_alloc_past, c0_0f, c0_1f, c0_2f, c0_3f, c0_0, c0_1, c0_2, c0_3, rc0, rc0a, rc0b, rc0c, rc0n]; done))
  replace c0_1f : w6.frozen? ⟨w.heap.size, 1, none⟩ = false := hx6.froz (v := .int .i64 0) (by first | exact c0_1 | (simp [go_sem, World.cell?_alloc_past, c0_0f, c0_1f, c0_2f, c0_3f, c0_0, c0_1, c0_2, c0_3, rc0, rc0a, rc0b, rc0c, rc0n]; done)) (by first | exact c0_1f | (simp [go_sem, World.cell?_alloc_past, c0_0f, c0_1f, c0_2f, c0_3f, c0_0, c0_1, c0_2, c0_3, rc0, rc0a, rc0b, rc0c, rc0n]; done))
  replace c0_2f : w6.frozen? ⟨w.heap.size, 2, none⟩ = false := hx6.froz (v := .int .i64 0) (by first | exact c0_2 | (simp [go_sem, World.cell?_alloc_past, c0_0f, c0_1f, c0_2f, c0_3f, c0_0, c0_1, c0_2, c0_3, rc0, rc0a, rc0b, rc0c, rc0n]; done)) (by first | exact c0_2f | (simp [go_sem, World.cell?_alloc_past, c0_0f, c0_1f, c0_2f, c0_3f, c0_0, c0_1, c0_2, c0_3, rc0, rc0a, rc0b, rc0c, rc0n]; done))
  replace c0_3f : w6.frozen? ⟨w.heap.size, 3, none⟩ = false := hx6.froz (v := .int .i64 0) (by first | exact c0_3 | (simp [go_sem, World.cell?_alloc_past, c0_0f, c0_1f, c0_2f, c0_3f, c0_0, c0_1, c0_2, c0_3, rc0, rc0a, rc0b, rc0c, rc0n]; done)) (by first | exact c0_3f | (simp [go_sem, World.cell?_alloc_past, c0_0f, c0_1f, c0_2f, c0_3f, c0_0, c0_1, c0_2, c0_3, rc0, rc0a, rc0b, rc0c, rc0n]; done))
  replace c0_0 : w6.cell? ⟨w.heap.size, 0, none⟩ = some (.int .i64 0) := hx6.has (by first | exact c0_0 | (simp [go_sem, World.cell?_alloc_past, c0_0f, c0_1f, c0_2f, c0_3f, c0_0, c0_1, c0_2, c0_3, rc0, rc0a, rc0b, rc0c, rc0n]; done))
  replace c0_1 : w6.cell? ⟨w.heap.size, 1, none⟩ = some (.int .i64 0) := hx6.has (by first | exact c0_1 | (simp [go_sem, World.cell?_alloc_past, c0_0f, c0_1f, c0_2f, c0_3f, c0_0, c0_1, c0_2, c0_3, rc0, rc0a, rc0b, rc0c, rc0n]; done))
  replace c0_2 : w6.cell? ⟨w.heap.size, 2, none⟩ = some (.int .i64 0) := hx6.has (by first | exact c0_2 | (simp [go_sem, World.cell?_alloc_past, c0_0f, c0_1f, c0_2f, c0_3f, c0_0, c0_1, c0_2, c0_3, rc0, rc0a, rc0b, rc0c, rc0n]; done))
  replace c0_3 : w6.cell? ⟨w.heap.size, 3, none⟩ = some (.int .i64 0) := hx6.has (by first | exact c0_3 | (simp [go_sem, World.cell?_alloc_past, c0_0f, c0_1f, c0_2f, c0_3f, c0_0, c0_1, c0_2, c0_3, rc0, rc0a, rc0b, rc0c, rc0n]; done))
  have z6 := hx6.size
  try simp at z6
  replace rc0 : w.heap.size < w6.heap.size := by omega
  replace rc0a : w.heap.size < w6.heap.size + 1 := by omega
  replace rc0b : w.heap.size < w6.heap.size + 1 + 1 := by omega
  replace rc0c : w.heap.size < w6.heap.size + 1 + 1 + 1 := by omega
  replace rc0n : ¬ w.heap.size = w6.heap.size := by omega
  have X6 : Hid (Ext w w6) := Lib.hid (Ext.trans (by repeat (first | with_reducible exact X5.out | with_reducible refine Ext.drew ?_ | with_reducible refine Ext.drewN ?_ _ | with_reducible refine Ext.alloc ?_ _ | with_reducible refine Ext.setCell ?_ (by first | omega | (simp; done) | (simp; omega)) _)) hx6)
  clear X5 hx6 z6
  go_wp2_with fail
  refine bodyPost_ret (v := .agg #[.int .i64 0, .int .i64 0, .int .i64 0, .int .i64 0]) (by simp [results, Try.results23, go_sem, World.cell?_alloc_past, c0_0f, c0_1f, c0_2f, c0_3f, c0_0, c0_1, c0_2, c0_3, rc0, rc0a, rc0b, rc0c, rc0n]; try rfl) rfl ⟨rfl, ?_⟩
  exact (by repeat (first | with_reducible exact X6.out | with_reducible refine Ext.drew ?_ | with_reducible refine Ext.drewN ?_ _ | with_reducible refine Ext.alloc ?_ _ | with_reducible refine Ext.setCell ?_ (by first | omega | (simp; done) | (simp; omega)) _))
set_option maxRecDepth 100000 in
set_option maxHeartbeats 1000000 in
theorem cNewWriter_bad0 (lim : Int) (h : lim < 0) (w : World) :
    Calls Try.prog 14 #[.int .i64 lim] w fun r w' => r = .returned (.tuple #[.pointer none, .int .i64 3]) ∧ w = w' := by
  go_enter Try.func14, Try.ntmps14
  go_wp2_with fail
  go_ret2
  exact ⟨rfl, rfl⟩
set_option maxRecDepth 100000 in
set_option maxHeartbeats 1000000 in
theorem cNewWriter_bad1 (lim : Int) (h0 : ¬ lim < 0) (h : 1048576 < lim) (w : World) :
    Calls Try.prog 14 #[.int .i64 lim] w fun r w' => r = .returned (.tuple #[.pointer none, .int .i64 3]) ∧ w = w' := by
  go_enter Try.func14, Try.ntmps14
  go_wp2_with fail
  go_ret2
  exact ⟨rfl, rfl⟩
set_option maxRecDepth 100000 in
set_option maxHeartbeats 1000000 in
theorem rNewWriter_bad0 (lim : Int) (h : lim < 0) (w : World) :
    Calls Try.prog 15 #[.int .i64 lim] w fun r w' => r = .returned (.tuple #[.pointer none, .int .i64 3]) ∧ w = w' := by
  go_enter Try.func15, Try.ntmps15
  go_wp2_with fail
  go_ret2
  exact ⟨rfl, rfl⟩
set_option maxRecDepth 100000 in
set_option maxHeartbeats 1000000 in
theorem rNewWriter_bad1 (lim : Int) (h0 : ¬ lim < 0) (h : 1048576 < lim) (w : World) :
    Calls Try.prog 15 #[.int .i64 lim] w fun r w' => r = .returned (.tuple #[.pointer none, .int .i64 3]) ∧ w = w' := by
  go_enter Try.func15, Try.ntmps15
  go_wp2_with fail
  go_ret2
  exact ⟨rfl, rfl⟩
end Go.Proofs.Ythaknigljjnnaaa
