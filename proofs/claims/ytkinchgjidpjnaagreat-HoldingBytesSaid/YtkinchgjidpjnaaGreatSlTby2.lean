/- Tby, part 2. Conditions stand in each lemma. -/
import Derived.Test.YtkinchgjidpjnaaGreatSlTby1
set_option linter.unusedVariables false
set_option linter.unusedSimpArgs false
set_option maxRecDepth 100000
set_option maxHeartbeats 64000000
namespace Go.Proofs.YtkinchgjidpjnaaGreat
section
open Go.RowKit
theorem zSlTby2_0 {P : Prop} (h : P := by show ¬ _ = _; first | assumption | omega) : P := h
theorem zSlTby2_1 {P : Prop} (h : P := by repeat (first | with_reducible exact HR.out | with_reducible refine RRd.set ?_ (by omega) _ | with_reducible refine RRd.ext ?_ (Ext.alloc (Ext.refl _) _) | with_reducible refine RRd.ext ?_ (Ext.drew (Ext.refl _)) | with_reducible refine RRd.drewN ?_ _)) : P := h
theorem zSlTby2_2 {P : Prop} (h : P := by first | fail | (simp [go_sem, World.cell?_alloc_past]; done)) : P := h
theorem zSlTby2_3 {P : Prop} (h : P := by first | exact c0_3 | (simp [go_sem, World.cell?_alloc_past, *]; done)) : P := h
theorem zSlTby2_4 {P : Prop} (h : P := by first | exact c0_2 | (simp [go_sem, World.cell?_alloc_past, *]; done)) : P := h
theorem zSlTby2_5 {P : Prop} (h : P := by first | exact c0_1 | (simp [go_sem, World.cell?_alloc_past, *]; done)) : P := h
theorem zSlTby2_6 {P : Prop} (h : P := by first | exact c0_0 | (simp [go_sem, World.cell?_alloc_past, *]; done)) : P := h
theorem zSlTby2_7 {P : Prop} (h : P := by first | exact c1_3 | (simp [go_sem, World.cell?_alloc_past, *]; done)) : P := h
theorem zSlTby2_8 {P : Prop} (h : P := by first | exact c1_2 | (simp [go_sem, World.cell?_alloc_past, *]; done)) : P := h
theorem zSlTby2_9 {P : Prop} (h : P := by repeat (first | assumption | exact Ext.refl _ | refine Ext.drew ?_ | refine Ext.drewN ?_ _ | refine Ext.alloc ?_ _ | refine Ext.setCell ?_ (by first | omega | (simp; done) | (simp; omega)) _ | refine Ext.trans ?_ (by assumption))) : P := h
theorem zSlTby2_10 {P : Prop} (h : P := by first | exact c0_3f | (simp [go_sem, World.cell?_alloc_past, *]; done)) : P := h
theorem zSlTby2_11 {P : Prop} (h : P := by first | exact c0_2f | (simp [go_sem, World.cell?_alloc_past, *]; done)) : P := h
theorem zSlTby2_12 {P : Prop} (h : P := by first | exact c0_1f | (simp [go_sem, World.cell?_alloc_past, *]; done)) : P := h
theorem zSlTby2_13 {P : Prop} (h : P := by first | exact c0_0f | (simp [go_sem, World.cell?_alloc_past, *]; done)) : P := h
theorem zSlTby2_14 {P : Prop} (h : P := by first | exact c1_1 | (simp [go_sem, World.cell?_alloc_past, *]; done)) : P := h
theorem zSlTby2_15 {P : Prop} (h : P := by first | omega | (simp; done) | (simp; omega)) : P := h
theorem zSlTby2_16 {P : Prop} (h : P := by repeat (first | with_reducible exact But.refl _ w | with_reducible refine But.drew ?_ | with_reducible refine But.drewN ?_ _ | with_reducible refine But.alloc ?_ _ | with_reducible refine But.setG ?_ _ | with_reducible refine But.setNew ?_ zSlTby2_15 _)) : P := h
theorem zSlTby2_17 {P : Prop} (h : P := by first | exact c1_3f | (simp [go_sem, World.cell?_alloc_past, *]; done)) : P := h
theorem zSlTby2_18 {P : Prop} (h : P := by repeat (first | with_reducible exact X4.out | with_reducible refine But.drew ?_ | with_reducible refine But.drewN ?_ _ | with_reducible refine But.alloc ?_ _ | with_reducible refine But.setG ?_ _ | with_reducible refine But.setNew ?_ zSlTby2_15 _)) : P := h
theorem zSlTby2_19 {P : Prop} (h : P := by repeat (first | with_reducible exact X3.out | with_reducible refine But.drew ?_ | with_reducible refine But.drewN ?_ _ | with_reducible refine But.alloc ?_ _ | with_reducible refine But.setG ?_ _ | with_reducible refine But.setNew ?_ zSlTby2_15 _)) : P := h
theorem zSlTby2_20 {P : Prop} (h : P := by repeat (first | with_reducible exact X2.out | with_reducible refine But.drew ?_ | with_reducible refine But.drewN ?_ _ | with_reducible refine But.alloc ?_ _ | with_reducible refine But.setG ?_ _ | with_reducible refine But.setNew ?_ zSlTby2_15 _)) : P := h
theorem zSlTby2_21 {P : Prop} (h : P := by repeat (first | with_reducible exact X1.out | with_reducible refine But.drew ?_ | with_reducible refine But.drewN ?_ _ | with_reducible refine But.alloc ?_ _ | with_reducible refine But.setG ?_ _ | with_reducible refine But.setNew ?_ zSlTby2_15 _)) : P := h
theorem zSlTby2_22 {P : Prop} (h : P := by first | exact c1_0 | (simp [go_sem, World.cell?_alloc_past, *]; done)) : P := h
theorem zSlTby2_23 {P : Prop} (h : P := by first | exact c1_2f | (simp [go_sem, World.cell?_alloc_past, *]; done)) : P := h
theorem zSlTby2_24 {P : Prop} (h : P := by rw [clsGo_at HI.out HX.out.1 (v := EP) ((clsOne_pool (c := (xv, xs, xp, xf, xt, xh)) (show chkS xv xs xp xf = 0 from by rw [← HX.out.2.1]; omega) HP.out (show chkE xt xh ≠ 0 from by rw [← HX.out.2.2]; exact q5)).trans HX.out.2.2.symm) (by first | decide | assumption)]; first | decide | assumption) : P := h
theorem zSlTby2_25 {P : Prop} (h : P := by rw [clsGo_at HI.out HX.out.1 (v := 11) (clsOne_state (show chkS xv xs xp xf = 0 from by rw [← HX.out.2.1]; omega) HP.out (show chkE xt xh = 0 from by rw [← HX.out.2.2]; omega) ⟨q6a, q6b⟩) (by first | decide | assumption)]; first | decide | assumption) : P := h
theorem zSlTby2_26 {P : Prop} (h : P := by repeat (first | with_reducible exact X6.out | with_reducible refine But.drew ?_ | with_reducible refine But.drewN ?_ _ | with_reducible refine But.alloc ?_ _ | with_reducible refine But.setG ?_ _ | with_reducible refine But.setNew ?_ zSlTby2_15 _)) : P := h
theorem zSlTby2_27 {P : Prop} (h : P := by repeat (first | with_reducible exact X5.out | with_reducible refine But.drew ?_ | with_reducible refine But.drewN ?_ _ | with_reducible refine But.alloc ?_ _ | with_reducible refine But.setG ?_ _ | with_reducible refine But.setNew ?_ zSlTby2_15 _)) : P := h
theorem rTake12_some (g k k1 k2 k3 k4 : Nat) (L : List Nat) (f f1 f2 f3 : Option (Int × Int)) (at_ V S Q F : Int) (x : Int × Int) (q0 : 0 ≤ Q) (q1 : Q ≤ 32)
  (CA : Hid (∀ w, RRd w g L k f → Calls Tryz.prog 172 #[.pointer (some ⟨g, 0, none⟩)] w fun r w' => r = .returned (.int .i64 at_) ∧ w = w'))
  (C1 : Hid (∀ w, RRd w g L k f → Calls Tryz.prog 116 #[.pointer (some ⟨g, 0, none⟩), .int .i64 0, .int .i64 31] w fun r w' => r = .returned (.int .i64 V) ∧ RRd w' g L k1 f1 ∧ But (· = g) w w'))
  (C2 : Hid (∀ w, RRd w g L k1 f1 → Calls Tryz.prog 116 #[.pointer (some ⟨g, 0, none⟩), .int .i64 1, .int .i64 4294967296] w fun r w' => r = .returned (.int .i64 S) ∧ RRd w' g L k2 f2 ∧ But (· = g) w w'))
  (C3 : Hid (∀ w, RRd w g L k2 f2 → Calls Tryz.prog 116 #[.pointer (some ⟨g, 0, none⟩), .int .i64 0, .int .i64 32] w fun r w' => r = .returned (.int .i64 Q) ∧ RRd w' g L k3 f3 ∧ But (· = g) w w'))
  (C4 : Hid (∀ w, RRd w g L k3 f3 → Calls Tryz.prog 116 #[.pointer (some ⟨g, 0, none⟩), .int .i64 0, .int .i64 4294967296] w fun r w' => r = .returned (.int .i64 F) ∧ RRd w' g L k4 (some x) ∧ But (· = g) w w'))
  (w : World) (h : RRd w g L k f) :
  Calls Tryz.prog 117 #[.pointer (some ⟨g, 0, none⟩)] w fun r w' => r = .returned (.agg #[.int .i64 0, .int .i64 0, .int .i64 0, .int .i64 0]) ∧ RRd w' g L k4 (some x) ∧ But (· = g) w w' := by
 have hg := h.lt
 have HR := Lib.hid h
 clear h
 go_enter Tryz.func117, Tryz.ntmps117
 go_wp2_with fail
 (with_reducible refine (CA.out _ zSlTby2_1).mono ?_)
 rintro e w_1 ⟨rfl, rfl⟩
 go_wp2_with fail
 (with_reducible refine (C1.out _ zSlTby2_1).mono ?_)
 rintro e w1 ⟨rfl, hr, hx1⟩
 have hsz1 := hx1.size
 try simp at hsz1
 have c0_0f : w1.frozen? ⟨w.heap.size, 0, none⟩ = false := hx1.froz zSlTby2_0 (v := .int .i64 0) zSlTby2_2 zSlTby2_2
 have c0_1f : w1.frozen? ⟨w.heap.size, 1, none⟩ = false := hx1.froz zSlTby2_0 (v := .int .i64 0) zSlTby2_2 zSlTby2_2
 have c0_2f : w1.frozen? ⟨w.heap.size, 2, none⟩ = false := hx1.froz zSlTby2_0 (v := .int .i64 0) zSlTby2_2 zSlTby2_2
 have c0_3f : w1.frozen? ⟨w.heap.size, 3, none⟩ = false := hx1.froz zSlTby2_0 (v := .int .i64 0) zSlTby2_2 zSlTby2_2
 have c0_0 : w1.cell? ⟨w.heap.size, 0, none⟩ = some (.int .i64 0) := hx1.has zSlTby2_0 zSlTby2_2
 have c0_1 : w1.cell? ⟨w.heap.size, 1, none⟩ = some (.int .i64 0) := hx1.has zSlTby2_0 zSlTby2_2
 have c0_2 : w1.cell? ⟨w.heap.size, 2, none⟩ = some (.int .i64 0) := hx1.has zSlTby2_0 zSlTby2_2
 have c0_3 : w1.cell? ⟨w.heap.size, 3, none⟩ = some (.int .i64 0) := hx1.has zSlTby2_0 zSlTby2_2
 have c1_0f : w1.frozen? ⟨w.heap.size + 1, 0, none⟩ = false := hx1.froz zSlTby2_0 (v := .int .i64 0) zSlTby2_2 zSlTby2_2
 have c1_1f : w1.frozen? ⟨w.heap.size + 1, 1, none⟩ = false := hx1.froz zSlTby2_0 (v := .int .i64 0) zSlTby2_2 zSlTby2_2
 have c1_2f : w1.frozen? ⟨w.heap.size + 1, 2, none⟩ = false := hx1.froz zSlTby2_0 (v := .int .i64 0) zSlTby2_2 zSlTby2_2
 have c1_3f : w1.frozen? ⟨w.heap.size + 1, 3, none⟩ = false := hx1.froz zSlTby2_0 (v := .int .i64 0) zSlTby2_2 zSlTby2_2
 have c1_0 : w1.cell? ⟨w.heap.size + 1, 0, none⟩ = some (.int .i64 0) := hx1.has zSlTby2_0 zSlTby2_2
 have c1_1 : w1.cell? ⟨w.heap.size + 1, 1, none⟩ = some (.int .i64 0) := hx1.has zSlTby2_0 zSlTby2_2
 have c1_2 : w1.cell? ⟨w.heap.size + 1, 2, none⟩ = some (.int .i64 0) := hx1.has zSlTby2_0 zSlTby2_2
 have c1_3 : w1.cell? ⟨w.heap.size + 1, 3, none⟩ = some (.int .i64 0) := hx1.has zSlTby2_0 zSlTby2_2
 have z1 := hx1.size
 try simp at z1
 have lt_c0_c1 := zl w.heap.size (w.heap.size + 1)
 have rc0 := zr w.heap.size w1
 have rc1 := zr (w.heap.size + 1) w1
 have X1 : Hid (But (· = g) w w1) := Lib.hid (But.trans zSlTby2_16 hx1)
 clear HR
 have HR := Lib.hid hr
 clear hsz1 hx1 z1 hr
 go_wp2_with fail
 (with_reducible refine (C2.out _ zSlTby2_1).mono ?_)
 rintro e w2 ⟨rfl, hr, hx2⟩
 have hsz2 := hx2.size
 try simp at hsz2
 replace c0_0f : w2.frozen? ⟨w.heap.size, 0, none⟩ = false := hx2.froz zSlTby2_0 (v := .int .i64 0) zSlTby2_6 zSlTby2_13
 replace c0_1f : w2.frozen? ⟨w.heap.size, 1, none⟩ = false := hx2.froz zSlTby2_0 (v := .int .i64 0) zSlTby2_5 zSlTby2_12
 replace c0_2f : w2.frozen? ⟨w.heap.size, 2, none⟩ = false := hx2.froz zSlTby2_0 (v := .int .i64 0) zSlTby2_4 zSlTby2_11
 replace c0_3f : w2.frozen? ⟨w.heap.size, 3, none⟩ = false := hx2.froz zSlTby2_0 (v := .int .i64 0) zSlTby2_3 zSlTby2_10
 replace c0_0 : w2.cell? ⟨w.heap.size, 0, none⟩ = some (.int .i64 0) := hx2.has zSlTby2_0 zSlTby2_6
 replace c0_1 : w2.cell? ⟨w.heap.size, 1, none⟩ = some (.int .i64 0) := hx2.has zSlTby2_0 zSlTby2_5
 replace c0_2 : w2.cell? ⟨w.heap.size, 2, none⟩ = some (.int .i64 0) := hx2.has zSlTby2_0 zSlTby2_4
 replace c0_3 : w2.cell? ⟨w.heap.size, 3, none⟩ = some (.int .i64 0) := hx2.has zSlTby2_0 zSlTby2_3
 replace c1_1f : w2.frozen? ⟨w.heap.size + 1, 1, none⟩ = false := hx2.froz zSlTby2_0 (v := .int .i64 0) zSlTby2_14 (by first | exact c1_1f | (simp [go_sem, World.cell?_alloc_past, *]; done))
 replace c1_2f : w2.frozen? ⟨w.heap.size + 1, 2, none⟩ = false := hx2.froz zSlTby2_0 (v := .int .i64 0) zSlTby2_8 zSlTby2_23
 replace c1_3f : w2.frozen? ⟨w.heap.size + 1, 3, none⟩ = false := hx2.froz zSlTby2_0 (v := .int .i64 0) zSlTby2_7 zSlTby2_17
 replace c1_1 : w2.cell? ⟨w.heap.size + 1, 1, none⟩ = some (.int .i64 0) := hx2.has zSlTby2_0 zSlTby2_14
 replace c1_2 : w2.cell? ⟨w.heap.size + 1, 2, none⟩ = some (.int .i64 0) := hx2.has zSlTby2_0 zSlTby2_8
 replace c1_3 : w2.cell? ⟨w.heap.size + 1, 3, none⟩ = some (.int .i64 0) := hx2.has zSlTby2_0 zSlTby2_7
 have z2 := hx2.size
 try simp at z2
 replace rc0 := zr w.heap.size w2
 replace rc1 := zr (w.heap.size + 1) w2
 have X2 : Hid (But (· = g) w w2) := Lib.hid (But.trans zSlTby2_21 hx2)
 clear HR
 have HR := Lib.hid hr
 clear c1_0 c1_0f hsz2 X1 hx2 z2 hr
 go_wp2_with fail
 (with_reducible refine (C3.out _ zSlTby2_1).mono ?_)
 rintro e w3 ⟨rfl, hr, hx3⟩
 have hsz3 := hx3.size
 try simp at hsz3
 replace c0_0f : w3.frozen? ⟨w.heap.size, 0, none⟩ = false := hx3.froz zSlTby2_0 (v := .int .i64 0) zSlTby2_6 zSlTby2_13
 replace c0_1f : w3.frozen? ⟨w.heap.size, 1, none⟩ = false := hx3.froz zSlTby2_0 (v := .int .i64 0) zSlTby2_5 zSlTby2_12
 replace c0_2f : w3.frozen? ⟨w.heap.size, 2, none⟩ = false := hx3.froz zSlTby2_0 (v := .int .i64 0) zSlTby2_4 zSlTby2_11
 replace c0_3f : w3.frozen? ⟨w.heap.size, 3, none⟩ = false := hx3.froz zSlTby2_0 (v := .int .i64 0) zSlTby2_3 zSlTby2_10
 replace c0_0 : w3.cell? ⟨w.heap.size, 0, none⟩ = some (.int .i64 0) := hx3.has zSlTby2_0 zSlTby2_6
 replace c0_1 : w3.cell? ⟨w.heap.size, 1, none⟩ = some (.int .i64 0) := hx3.has zSlTby2_0 zSlTby2_5
 replace c0_2 : w3.cell? ⟨w.heap.size, 2, none⟩ = some (.int .i64 0) := hx3.has zSlTby2_0 zSlTby2_4
 replace c0_3 : w3.cell? ⟨w.heap.size, 3, none⟩ = some (.int .i64 0) := hx3.has zSlTby2_0 zSlTby2_3
 replace c1_2f : w3.frozen? ⟨w.heap.size + 1, 2, none⟩ = false := hx3.froz zSlTby2_0 (v := .int .i64 0) zSlTby2_8 zSlTby2_23
 replace c1_3f : w3.frozen? ⟨w.heap.size + 1, 3, none⟩ = false := hx3.froz zSlTby2_0 (v := .int .i64 0) zSlTby2_7 zSlTby2_17
 replace c1_2 : w3.cell? ⟨w.heap.size + 1, 2, none⟩ = some (.int .i64 0) := hx3.has zSlTby2_0 zSlTby2_8
 replace c1_3 : w3.cell? ⟨w.heap.size + 1, 3, none⟩ = some (.int .i64 0) := hx3.has zSlTby2_0 zSlTby2_7
 have z3 := hx3.size
 try simp at z3
 replace rc0 := zr w.heap.size w3
 replace rc1 := zr (w.heap.size + 1) w3
 have X3 : Hid (But (· = g) w w3) := Lib.hid (But.trans zSlTby2_20 hx3)
 clear HR
 have HR := Lib.hid hr
 clear c1_1f c1_1 hsz3 X2 hx3 z3 hr
 go_wp2_with fail
 (with_reducible refine (C4.out _ zSlTby2_1).mono ?_)
 rintro e w4 ⟨rfl, hr, hx4⟩
 have hsz4 := hx4.size
 try simp at hsz4
 replace c0_0f : w4.frozen? ⟨w.heap.size, 0, none⟩ = false := hx4.froz zSlTby2_0 (v := .int .i64 0) zSlTby2_6 zSlTby2_13
 replace c0_1f : w4.frozen? ⟨w.heap.size, 1, none⟩ = false := hx4.froz zSlTby2_0 (v := .int .i64 0) zSlTby2_5 zSlTby2_12
 replace c0_2f : w4.frozen? ⟨w.heap.size, 2, none⟩ = false := hx4.froz zSlTby2_0 (v := .int .i64 0) zSlTby2_4 zSlTby2_11
 replace c0_3f : w4.frozen? ⟨w.heap.size, 3, none⟩ = false := hx4.froz zSlTby2_0 (v := .int .i64 0) zSlTby2_3 zSlTby2_10
 replace c0_0 : w4.cell? ⟨w.heap.size, 0, none⟩ = some (.int .i64 0) := hx4.has zSlTby2_0 zSlTby2_6
 replace c0_1 : w4.cell? ⟨w.heap.size, 1, none⟩ = some (.int .i64 0) := hx4.has zSlTby2_0 zSlTby2_5
 replace c0_2 : w4.cell? ⟨w.heap.size, 2, none⟩ = some (.int .i64 0) := hx4.has zSlTby2_0 zSlTby2_4
 replace c0_3 : w4.cell? ⟨w.heap.size, 3, none⟩ = some (.int .i64 0) := hx4.has zSlTby2_0 zSlTby2_3
 replace c1_3f : w4.frozen? ⟨w.heap.size + 1, 3, none⟩ = false := hx4.froz zSlTby2_0 (v := .int .i64 0) zSlTby2_7 zSlTby2_17
 replace c1_3 : w4.cell? ⟨w.heap.size + 1, 3, none⟩ = some (.int .i64 0) := hx4.has zSlTby2_0 zSlTby2_7
 have z4 := hx4.size
 try simp at z4
 replace rc0 := zr w.heap.size w4
 replace rc1 := zr (w.heap.size + 1) w4
 have X4 : Hid (But (· = g) w w4) := Lib.hid (But.trans zSlTby2_19 hx4)
 clear HR
 have HR := Lib.hid hr
 clear c1_2f c1_2 hsz4 X3 hx4 z4 hr
 have g_2 := HR.out.c2
 have hz : (fltE (some x) == 0) = false := beq_false_of_ne (HR.out.nz x rfl)
 have hz2 : (fltE (some x) != 0) = true := by simpa [fltE] using HR.out.nz x rfl
 generalize fltE (some x) = z at *
 go_wp2_with fail
 refine bodyPost_ret (v := .agg #[.int .i64 0, .int .i64 0, .int .i64 0, .int .i64 0]) (by simp [results, Tryz.results117, go_sem, World.cell?_alloc_past, *]; try rfl) rfl ⟨rfl, ?_, zSlTby2_18⟩
 have hr := HR.out
 repeat (first | with_reducible exact hr | with_reducible refine RRd.set ?_ (by omega) _ | (with_reducible refine RRd.ext ?_ (Ext.alloc (Ext.refl _) _)))
theorem rTake12_ok (g k k1 k2 k3 k4 : Nat) (L : List Nat) (f f1 f2 f3 : Option (Int × Int)) (at_ V S Q F : Int)  (q0 : 0 ≤ Q) (q1 : Q ≤ 32)
  (CA : Hid (∀ w, RRd w g L k f → Calls Tryz.prog 172 #[.pointer (some ⟨g, 0, none⟩)] w fun r w' => r = .returned (.int .i64 at_) ∧ w = w'))
  (C1 : Hid (∀ w, RRd w g L k f → Calls Tryz.prog 116 #[.pointer (some ⟨g, 0, none⟩), .int .i64 0, .int .i64 31] w fun r w' => r = .returned (.int .i64 V) ∧ RRd w' g L k1 f1 ∧ But (· = g) w w'))
  (C2 : Hid (∀ w, RRd w g L k1 f1 → Calls Tryz.prog 116 #[.pointer (some ⟨g, 0, none⟩), .int .i64 1, .int .i64 4294967296] w fun r w' => r = .returned (.int .i64 S) ∧ RRd w' g L k2 f2 ∧ But (· = g) w w'))
  (C3 : Hid (∀ w, RRd w g L k2 f2 → Calls Tryz.prog 116 #[.pointer (some ⟨g, 0, none⟩), .int .i64 0, .int .i64 32] w fun r w' => r = .returned (.int .i64 Q) ∧ RRd w' g L k3 f3 ∧ But (· = g) w w'))
  (C4 : Hid (∀ w, RRd w g L k3 f3 → Calls Tryz.prog 116 #[.pointer (some ⟨g, 0, none⟩), .int .i64 0, .int .i64 4294967296] w fun r w' => r = .returned (.int .i64 F) ∧ RRd w' g L k4 none ∧ But (· = g) w w'))
  (CK : Hid (∀ w, Calls Tryz.prog 126 #[.agg #[.int .i64 V, .int .i64 S, .int .i64 (Q - 1), .int .i64 F]] w fun r w' => r = .returned (.int .i64 0) ∧ Ext w w'))
  (w : World) (h : RRd w g L k f) :
  Calls Tryz.prog 117 #[.pointer (some ⟨g, 0, none⟩)] w fun r w' => r = .returned (.agg #[.int .i64 V, .int .i64 S, .int .i64 (Q - 1), .int .i64 F]) ∧ RRd w' g L k4 none ∧ But (· = g) w w' := by
 have hg := h.lt
 have HR := Lib.hid h
 clear h
 go_enter Tryz.func117, Tryz.ntmps117
 go_wp2_with fail
 (with_reducible refine (CA.out _ zSlTby2_1).mono ?_)
 rintro e w_1 ⟨rfl, rfl⟩
 go_wp2_with fail
 (with_reducible refine (C1.out _ zSlTby2_1).mono ?_)
 rintro e w1 ⟨rfl, hr, hx1⟩
 have hsz1 := hx1.size
 try simp at hsz1
 have c0_0f : w1.frozen? ⟨w.heap.size, 0, none⟩ = false := hx1.froz zSlTby2_0 (v := .int .i64 0) zSlTby2_2 zSlTby2_2
 have c0_1f : w1.frozen? ⟨w.heap.size, 1, none⟩ = false := hx1.froz zSlTby2_0 (v := .int .i64 0) zSlTby2_2 zSlTby2_2
 have c0_2f : w1.frozen? ⟨w.heap.size, 2, none⟩ = false := hx1.froz zSlTby2_0 (v := .int .i64 0) zSlTby2_2 zSlTby2_2
 have c0_3f : w1.frozen? ⟨w.heap.size, 3, none⟩ = false := hx1.froz zSlTby2_0 (v := .int .i64 0) zSlTby2_2 zSlTby2_2
 have c0_0 : w1.cell? ⟨w.heap.size, 0, none⟩ = some (.int .i64 0) := hx1.has zSlTby2_0 zSlTby2_2
 have c0_1 : w1.cell? ⟨w.heap.size, 1, none⟩ = some (.int .i64 0) := hx1.has zSlTby2_0 zSlTby2_2
 have c0_2 : w1.cell? ⟨w.heap.size, 2, none⟩ = some (.int .i64 0) := hx1.has zSlTby2_0 zSlTby2_2
 have c0_3 : w1.cell? ⟨w.heap.size, 3, none⟩ = some (.int .i64 0) := hx1.has zSlTby2_0 zSlTby2_2
 have c1_0f : w1.frozen? ⟨w.heap.size + 1, 0, none⟩ = false := hx1.froz zSlTby2_0 (v := .int .i64 0) zSlTby2_2 zSlTby2_2
 have c1_1f : w1.frozen? ⟨w.heap.size + 1, 1, none⟩ = false := hx1.froz zSlTby2_0 (v := .int .i64 0) zSlTby2_2 zSlTby2_2
 have c1_2f : w1.frozen? ⟨w.heap.size + 1, 2, none⟩ = false := hx1.froz zSlTby2_0 (v := .int .i64 0) zSlTby2_2 zSlTby2_2
 have c1_3f : w1.frozen? ⟨w.heap.size + 1, 3, none⟩ = false := hx1.froz zSlTby2_0 (v := .int .i64 0) zSlTby2_2 zSlTby2_2
 have c1_0 : w1.cell? ⟨w.heap.size + 1, 0, none⟩ = some (.int .i64 0) := hx1.has zSlTby2_0 zSlTby2_2
 have c1_1 : w1.cell? ⟨w.heap.size + 1, 1, none⟩ = some (.int .i64 0) := hx1.has zSlTby2_0 zSlTby2_2
 have c1_2 : w1.cell? ⟨w.heap.size + 1, 2, none⟩ = some (.int .i64 0) := hx1.has zSlTby2_0 zSlTby2_2
 have c1_3 : w1.cell? ⟨w.heap.size + 1, 3, none⟩ = some (.int .i64 0) := hx1.has zSlTby2_0 zSlTby2_2
 have z1 := hx1.size
 try simp at z1
 have lt_c0_c1 := zl w.heap.size (w.heap.size + 1)
 have rc0 := zr w.heap.size w1
 have rc1 := zr (w.heap.size + 1) w1
 have X1 : Hid (But (· = g) w w1) := Lib.hid (But.trans zSlTby2_16 hx1)
 clear HR
 have HR := Lib.hid hr
 clear hsz1 hx1 z1 hr
 go_wp2_with fail
 (with_reducible refine (C2.out _ zSlTby2_1).mono ?_)
 rintro e w2 ⟨rfl, hr, hx2⟩
 have hsz2 := hx2.size
 try simp at hsz2
 replace c0_0f : w2.frozen? ⟨w.heap.size, 0, none⟩ = false := hx2.froz zSlTby2_0 (v := .int .i64 0) zSlTby2_6 zSlTby2_13
 replace c0_1f : w2.frozen? ⟨w.heap.size, 1, none⟩ = false := hx2.froz zSlTby2_0 (v := .int .i64 0) zSlTby2_5 zSlTby2_12
 replace c0_2f : w2.frozen? ⟨w.heap.size, 2, none⟩ = false := hx2.froz zSlTby2_0 (v := .int .i64 0) zSlTby2_4 zSlTby2_11
 replace c0_3f : w2.frozen? ⟨w.heap.size, 3, none⟩ = false := hx2.froz zSlTby2_0 (v := .int .i64 0) zSlTby2_3 zSlTby2_10
 replace c0_0 : w2.cell? ⟨w.heap.size, 0, none⟩ = some (.int .i64 0) := hx2.has zSlTby2_0 zSlTby2_6
 replace c0_1 : w2.cell? ⟨w.heap.size, 1, none⟩ = some (.int .i64 0) := hx2.has zSlTby2_0 zSlTby2_5
 replace c0_2 : w2.cell? ⟨w.heap.size, 2, none⟩ = some (.int .i64 0) := hx2.has zSlTby2_0 zSlTby2_4
 replace c0_3 : w2.cell? ⟨w.heap.size, 3, none⟩ = some (.int .i64 0) := hx2.has zSlTby2_0 zSlTby2_3
 replace c1_1f : w2.frozen? ⟨w.heap.size + 1, 1, none⟩ = false := hx2.froz zSlTby2_0 (v := .int .i64 0) zSlTby2_14 (by first | exact c1_1f | (simp [go_sem, World.cell?_alloc_past, *]; done))
 replace c1_2f : w2.frozen? ⟨w.heap.size + 1, 2, none⟩ = false := hx2.froz zSlTby2_0 (v := .int .i64 0) zSlTby2_8 zSlTby2_23
 replace c1_3f : w2.frozen? ⟨w.heap.size + 1, 3, none⟩ = false := hx2.froz zSlTby2_0 (v := .int .i64 0) zSlTby2_7 zSlTby2_17
 replace c1_0 : w2.cell? ⟨w.heap.size + 1, 0, none⟩ = some (.int .i64 V) := hx2.has zSlTby2_0 zSlTby2_22
 replace c1_1 : w2.cell? ⟨w.heap.size + 1, 1, none⟩ = some (.int .i64 0) := hx2.has zSlTby2_0 zSlTby2_14
 replace c1_2 : w2.cell? ⟨w.heap.size + 1, 2, none⟩ = some (.int .i64 0) := hx2.has zSlTby2_0 zSlTby2_8
 replace c1_3 : w2.cell? ⟨w.heap.size + 1, 3, none⟩ = some (.int .i64 0) := hx2.has zSlTby2_0 zSlTby2_7
 have z2 := hx2.size
 try simp at z2
 replace rc0 := zr w.heap.size w2
 replace rc1 := zr (w.heap.size + 1) w2
 have X2 : Hid (But (· = g) w w2) := Lib.hid (But.trans zSlTby2_21 hx2)
 clear HR
 have HR := Lib.hid hr
 clear c1_0f hsz2 X1 hx2 z2 hr
 go_wp2_with fail
 (with_reducible refine (C3.out _ zSlTby2_1).mono ?_)
 rintro e w3 ⟨rfl, hr, hx3⟩
 have hsz3 := hx3.size
 try simp at hsz3
 replace c0_0f : w3.frozen? ⟨w.heap.size, 0, none⟩ = false := hx3.froz zSlTby2_0 (v := .int .i64 0) zSlTby2_6 zSlTby2_13
 replace c0_1f : w3.frozen? ⟨w.heap.size, 1, none⟩ = false := hx3.froz zSlTby2_0 (v := .int .i64 0) zSlTby2_5 zSlTby2_12
 replace c0_2f : w3.frozen? ⟨w.heap.size, 2, none⟩ = false := hx3.froz zSlTby2_0 (v := .int .i64 0) zSlTby2_4 zSlTby2_11
 replace c0_3f : w3.frozen? ⟨w.heap.size, 3, none⟩ = false := hx3.froz zSlTby2_0 (v := .int .i64 0) zSlTby2_3 zSlTby2_10
 replace c0_0 : w3.cell? ⟨w.heap.size, 0, none⟩ = some (.int .i64 0) := hx3.has zSlTby2_0 zSlTby2_6
 replace c0_1 : w3.cell? ⟨w.heap.size, 1, none⟩ = some (.int .i64 0) := hx3.has zSlTby2_0 zSlTby2_5
 replace c0_2 : w3.cell? ⟨w.heap.size, 2, none⟩ = some (.int .i64 0) := hx3.has zSlTby2_0 zSlTby2_4
 replace c0_3 : w3.cell? ⟨w.heap.size, 3, none⟩ = some (.int .i64 0) := hx3.has zSlTby2_0 zSlTby2_3
 replace c1_2f : w3.frozen? ⟨w.heap.size + 1, 2, none⟩ = false := hx3.froz zSlTby2_0 (v := .int .i64 0) zSlTby2_8 zSlTby2_23
 replace c1_3f : w3.frozen? ⟨w.heap.size + 1, 3, none⟩ = false := hx3.froz zSlTby2_0 (v := .int .i64 0) zSlTby2_7 zSlTby2_17
 replace c1_0 : w3.cell? ⟨w.heap.size + 1, 0, none⟩ = some (.int .i64 V) := hx3.has zSlTby2_0 zSlTby2_22
 replace c1_1 : w3.cell? ⟨w.heap.size + 1, 1, none⟩ = some (.int .i64 S) := hx3.has zSlTby2_0 zSlTby2_14
 replace c1_2 : w3.cell? ⟨w.heap.size + 1, 2, none⟩ = some (.int .i64 0) := hx3.has zSlTby2_0 zSlTby2_8
 replace c1_3 : w3.cell? ⟨w.heap.size + 1, 3, none⟩ = some (.int .i64 0) := hx3.has zSlTby2_0 zSlTby2_7
 have z3 := hx3.size
 try simp at z3
 replace rc0 := zr w.heap.size w3
 replace rc1 := zr (w.heap.size + 1) w3
 have X3 : Hid (But (· = g) w w3) := Lib.hid (But.trans zSlTby2_20 hx3)
 clear HR
 have HR := Lib.hid hr
 clear c1_1f hsz3 X2 hx3 z3 hr
 go_wp2_with fail
 (with_reducible refine (C4.out _ zSlTby2_1).mono ?_)
 rintro e w4 ⟨rfl, hr, hx4⟩
 have hsz4 := hx4.size
 try simp at hsz4
 replace c0_0f : w4.frozen? ⟨w.heap.size, 0, none⟩ = false := hx4.froz zSlTby2_0 (v := .int .i64 0) zSlTby2_6 zSlTby2_13
 replace c0_1f : w4.frozen? ⟨w.heap.size, 1, none⟩ = false := hx4.froz zSlTby2_0 (v := .int .i64 0) zSlTby2_5 zSlTby2_12
 replace c0_2f : w4.frozen? ⟨w.heap.size, 2, none⟩ = false := hx4.froz zSlTby2_0 (v := .int .i64 0) zSlTby2_4 zSlTby2_11
 replace c0_3f : w4.frozen? ⟨w.heap.size, 3, none⟩ = false := hx4.froz zSlTby2_0 (v := .int .i64 0) zSlTby2_3 zSlTby2_10
 replace c0_0 : w4.cell? ⟨w.heap.size, 0, none⟩ = some (.int .i64 0) := hx4.has zSlTby2_0 zSlTby2_6
 replace c0_1 : w4.cell? ⟨w.heap.size, 1, none⟩ = some (.int .i64 0) := hx4.has zSlTby2_0 zSlTby2_5
 replace c0_2 : w4.cell? ⟨w.heap.size, 2, none⟩ = some (.int .i64 0) := hx4.has zSlTby2_0 zSlTby2_4
 replace c0_3 : w4.cell? ⟨w.heap.size, 3, none⟩ = some (.int .i64 0) := hx4.has zSlTby2_0 zSlTby2_3
 replace c1_3f : w4.frozen? ⟨w.heap.size + 1, 3, none⟩ = false := hx4.froz zSlTby2_0 (v := .int .i64 0) zSlTby2_7 zSlTby2_17
 replace c1_0 : w4.cell? ⟨w.heap.size + 1, 0, none⟩ = some (.int .i64 V) := hx4.has zSlTby2_0 zSlTby2_22
 replace c1_1 : w4.cell? ⟨w.heap.size + 1, 1, none⟩ = some (.int .i64 S) := hx4.has zSlTby2_0 zSlTby2_14
 replace c1_2 : w4.cell? ⟨w.heap.size + 1, 2, none⟩ = some (.int .i64 (Q - 1)) := hx4.has zSlTby2_0 zSlTby2_8
 replace c1_3 : w4.cell? ⟨w.heap.size + 1, 3, none⟩ = some (.int .i64 0) := hx4.has zSlTby2_0 zSlTby2_7
 have z4 := hx4.size
 try simp at z4
 replace rc0 := zr w.heap.size w4
 replace rc1 := zr (w.heap.size + 1) w4
 have X4 : Hid (But (· = g) w w4) := Lib.hid (But.trans zSlTby2_19 hx4)
 clear HR
 have HR := Lib.hid hr
 clear c1_2f hsz4 X3 hx4 z4 hr
 have g_2 := HR.out.c2
 change _ = some (Value.int .i64 0) at g_2
 go_wp2_with fail
 (with_reducible refine (CK.out _).mono ?_)
 rintro e w5 ⟨rfl, hx5⟩
 replace c0_0f : w5.frozen? ⟨w.heap.size, 0, none⟩ = false := hx5.froz (v := .int .i64 0) zSlTby2_6 zSlTby2_13
 replace c0_1f : w5.frozen? ⟨w.heap.size, 1, none⟩ = false := hx5.froz (v := .int .i64 0) zSlTby2_5 zSlTby2_12
 replace c0_2f : w5.frozen? ⟨w.heap.size, 2, none⟩ = false := hx5.froz (v := .int .i64 0) zSlTby2_4 zSlTby2_11
 replace c0_3f : w5.frozen? ⟨w.heap.size, 3, none⟩ = false := hx5.froz (v := .int .i64 0) zSlTby2_3 zSlTby2_10
 replace c0_0 : w5.cell? ⟨w.heap.size, 0, none⟩ = some (.int .i64 0) := hx5.has zSlTby2_6
 replace c0_1 : w5.cell? ⟨w.heap.size, 1, none⟩ = some (.int .i64 0) := hx5.has zSlTby2_5
 replace c0_2 : w5.cell? ⟨w.heap.size, 2, none⟩ = some (.int .i64 0) := hx5.has zSlTby2_4
 replace c0_3 : w5.cell? ⟨w.heap.size, 3, none⟩ = some (.int .i64 0) := hx5.has zSlTby2_3
 replace c1_0 : w5.cell? ⟨w.heap.size + 1, 0, none⟩ = some (.int .i64 V) := hx5.has zSlTby2_22
 replace c1_1 : w5.cell? ⟨w.heap.size + 1, 1, none⟩ = some (.int .i64 S) := hx5.has zSlTby2_14
 replace c1_2 : w5.cell? ⟨w.heap.size + 1, 2, none⟩ = some (.int .i64 (Q - 1)) := hx5.has zSlTby2_8
 replace c1_3 : w5.cell? ⟨w.heap.size + 1, 3, none⟩ = some (.int .i64 F) := hx5.has zSlTby2_7
 have z5 := hx5.size
 try simp at z5
 replace rc0 := zr w.heap.size w5
 replace rc1 := zr (w.heap.size + 1) w5
 have X5 : Hid (But (· = g) w w5) := Lib.hid (But.trans zSlTby2_18 (But.ofExt hx5))
 replace HR := Lib.hid (RRd.ext (g := g) (k := k4) (L := L) (flt := none) zSlTby2_1 hx5)
 clear c1_3f X4 hx5 z5
 go_wp2_with fail
 (with_reducible refine ((rFail_any g k4 L none 0 at_ _ zSlTby2_1)).mono ?_)
 rintro e w6 ⟨⟨v, rfl⟩, hr, hx6⟩
 have hsz6 := hx6.size
 try simp at hsz6
 replace c0_0f : w6.frozen? ⟨w.heap.size, 0, none⟩ = false := hx6.froz zSlTby2_0 (v := .int .i64 0) zSlTby2_6 zSlTby2_13
 replace c0_1f : w6.frozen? ⟨w.heap.size, 1, none⟩ = false := hx6.froz zSlTby2_0 (v := .int .i64 0) zSlTby2_5 zSlTby2_12
 replace c0_2f : w6.frozen? ⟨w.heap.size, 2, none⟩ = false := hx6.froz zSlTby2_0 (v := .int .i64 0) zSlTby2_4 zSlTby2_11
 replace c0_3f : w6.frozen? ⟨w.heap.size, 3, none⟩ = false := hx6.froz zSlTby2_0 (v := .int .i64 0) zSlTby2_3 zSlTby2_10
 replace c0_0 : w6.cell? ⟨w.heap.size, 0, none⟩ = some (.int .i64 0) := hx6.has zSlTby2_0 zSlTby2_6
 replace c0_1 : w6.cell? ⟨w.heap.size, 1, none⟩ = some (.int .i64 0) := hx6.has zSlTby2_0 zSlTby2_5
 replace c0_2 : w6.cell? ⟨w.heap.size, 2, none⟩ = some (.int .i64 0) := hx6.has zSlTby2_0 zSlTby2_4
 replace c0_3 : w6.cell? ⟨w.heap.size, 3, none⟩ = some (.int .i64 0) := hx6.has zSlTby2_0 zSlTby2_3
 replace c1_0 : w6.cell? ⟨w.heap.size + 1, 0, none⟩ = some (.int .i64 V) := hx6.has zSlTby2_0 zSlTby2_22
 replace c1_1 : w6.cell? ⟨w.heap.size + 1, 1, none⟩ = some (.int .i64 S) := hx6.has zSlTby2_0 zSlTby2_14
 replace c1_2 : w6.cell? ⟨w.heap.size + 1, 2, none⟩ = some (.int .i64 (Q - 1)) := hx6.has zSlTby2_0 zSlTby2_8
 replace c1_3 : w6.cell? ⟨w.heap.size + 1, 3, none⟩ = some (.int .i64 F) := hx6.has zSlTby2_0 zSlTby2_7
 have z6 := hx6.size
 try simp at z6
 replace rc0 := zr w.heap.size w6
 replace rc1 := zr (w.heap.size + 1) w6
 have X6 : Hid (But (· = g) w w6) := Lib.hid (But.trans zSlTby2_27 hx6)
 clear HR
 have HR := Lib.hid hr
 clear hsz6 X5 hx6 z6 hr
 clear g_2
 have g_2 := HR.out.c2
 change _ = some (Value.int .i64 0) at g_2
 go_wp2_with fail
 refine bodyPost_ret (v := .agg #[.int .i64 V, .int .i64 S, .int .i64 (Q - 1), .int .i64 F]) (by simp [results, Tryz.results117, go_sem, World.cell?_alloc_past, *]; try rfl) rfl ⟨rfl, ?_, zSlTby2_26⟩
 have hr := HR.out
 rw [failF_ok] at hr
 repeat (first | with_reducible exact hr | with_reducible refine RRd.set ?_ (by omega) _ | (with_reducible refine RRd.ext ?_ (Ext.alloc (Ext.refl _) _)))
theorem rTake12_bad (g k k1 k2 k3 k4 : Nat) (L : List Nat) (f f1 f2 f3 : Option (Int × Int)) (at_ V S Q F : Int) (E : Int) (hE : Hid (¬ E = 0)) (q0 : 0 ≤ Q) (q1 : Q ≤ 32)
  (CA : Hid (∀ w, RRd w g L k f → Calls Tryz.prog 172 #[.pointer (some ⟨g, 0, none⟩)] w fun r w' => r = .returned (.int .i64 at_) ∧ w = w'))
  (C1 : Hid (∀ w, RRd w g L k f → Calls Tryz.prog 116 #[.pointer (some ⟨g, 0, none⟩), .int .i64 0, .int .i64 31] w fun r w' => r = .returned (.int .i64 V) ∧ RRd w' g L k1 f1 ∧ But (· = g) w w'))
  (C2 : Hid (∀ w, RRd w g L k1 f1 → Calls Tryz.prog 116 #[.pointer (some ⟨g, 0, none⟩), .int .i64 1, .int .i64 4294967296] w fun r w' => r = .returned (.int .i64 S) ∧ RRd w' g L k2 f2 ∧ But (· = g) w w'))
  (C3 : Hid (∀ w, RRd w g L k2 f2 → Calls Tryz.prog 116 #[.pointer (some ⟨g, 0, none⟩), .int .i64 0, .int .i64 32] w fun r w' => r = .returned (.int .i64 Q) ∧ RRd w' g L k3 f3 ∧ But (· = g) w w'))
  (C4 : Hid (∀ w, RRd w g L k3 f3 → Calls Tryz.prog 116 #[.pointer (some ⟨g, 0, none⟩), .int .i64 0, .int .i64 4294967296] w fun r w' => r = .returned (.int .i64 F) ∧ RRd w' g L k4 none ∧ But (· = g) w w'))
  (CK : Hid (∀ w, Calls Tryz.prog 126 #[.agg #[.int .i64 V, .int .i64 S, .int .i64 (Q - 1), .int .i64 F]] w fun r w' => r = .returned (.int .i64 E) ∧ Ext w w'))
  (w : World) (h : RRd w g L k f) :
  Calls Tryz.prog 117 #[.pointer (some ⟨g, 0, none⟩)] w fun r w' => r = .returned (.agg #[.int .i64 0, .int .i64 0, .int .i64 0, .int .i64 0]) ∧ RRd w' g L k4 (some (E, at_)) ∧ But (· = g) w w' := by
 have hg := h.lt
 have HR := Lib.hid h
 clear h
 go_enter Tryz.func117, Tryz.ntmps117
 go_wp2_with fail
 (with_reducible refine (CA.out _ zSlTby2_1).mono ?_)
 rintro e w_1 ⟨rfl, rfl⟩
 go_wp2_with fail
 (with_reducible refine (C1.out _ zSlTby2_1).mono ?_)
 rintro e w1 ⟨rfl, hr, hx1⟩
 have hsz1 := hx1.size
 try simp at hsz1
 have c0_0f : w1.frozen? ⟨w.heap.size, 0, none⟩ = false := hx1.froz zSlTby2_0 (v := .int .i64 0) zSlTby2_2 zSlTby2_2
 have c0_1f : w1.frozen? ⟨w.heap.size, 1, none⟩ = false := hx1.froz zSlTby2_0 (v := .int .i64 0) zSlTby2_2 zSlTby2_2
 have c0_2f : w1.frozen? ⟨w.heap.size, 2, none⟩ = false := hx1.froz zSlTby2_0 (v := .int .i64 0) zSlTby2_2 zSlTby2_2
 have c0_3f : w1.frozen? ⟨w.heap.size, 3, none⟩ = false := hx1.froz zSlTby2_0 (v := .int .i64 0) zSlTby2_2 zSlTby2_2
 have c0_0 : w1.cell? ⟨w.heap.size, 0, none⟩ = some (.int .i64 0) := hx1.has zSlTby2_0 zSlTby2_2
 have c0_1 : w1.cell? ⟨w.heap.size, 1, none⟩ = some (.int .i64 0) := hx1.has zSlTby2_0 zSlTby2_2
 have c0_2 : w1.cell? ⟨w.heap.size, 2, none⟩ = some (.int .i64 0) := hx1.has zSlTby2_0 zSlTby2_2
 have c0_3 : w1.cell? ⟨w.heap.size, 3, none⟩ = some (.int .i64 0) := hx1.has zSlTby2_0 zSlTby2_2
 have c1_0f : w1.frozen? ⟨w.heap.size + 1, 0, none⟩ = false := hx1.froz zSlTby2_0 (v := .int .i64 0) zSlTby2_2 zSlTby2_2
 have c1_1f : w1.frozen? ⟨w.heap.size + 1, 1, none⟩ = false := hx1.froz zSlTby2_0 (v := .int .i64 0) zSlTby2_2 zSlTby2_2
 have c1_2f : w1.frozen? ⟨w.heap.size + 1, 2, none⟩ = false := hx1.froz zSlTby2_0 (v := .int .i64 0) zSlTby2_2 zSlTby2_2
 have c1_3f : w1.frozen? ⟨w.heap.size + 1, 3, none⟩ = false := hx1.froz zSlTby2_0 (v := .int .i64 0) zSlTby2_2 zSlTby2_2
 have c1_0 : w1.cell? ⟨w.heap.size + 1, 0, none⟩ = some (.int .i64 0) := hx1.has zSlTby2_0 zSlTby2_2
 have c1_1 : w1.cell? ⟨w.heap.size + 1, 1, none⟩ = some (.int .i64 0) := hx1.has zSlTby2_0 zSlTby2_2
 have c1_2 : w1.cell? ⟨w.heap.size + 1, 2, none⟩ = some (.int .i64 0) := hx1.has zSlTby2_0 zSlTby2_2
 have c1_3 : w1.cell? ⟨w.heap.size + 1, 3, none⟩ = some (.int .i64 0) := hx1.has zSlTby2_0 zSlTby2_2
 have z1 := hx1.size
 try simp at z1
 have lt_c0_c1 := zl w.heap.size (w.heap.size + 1)
 have rc0 := zr w.heap.size w1
 have rc1 := zr (w.heap.size + 1) w1
 have X1 : Hid (But (· = g) w w1) := Lib.hid (But.trans zSlTby2_16 hx1)
 clear HR
 have HR := Lib.hid hr
 clear hsz1 hx1 z1 hr
 go_wp2_with fail
 (with_reducible refine (C2.out _ zSlTby2_1).mono ?_)
 rintro e w2 ⟨rfl, hr, hx2⟩
 have hsz2 := hx2.size
 try simp at hsz2
 replace c0_0f : w2.frozen? ⟨w.heap.size, 0, none⟩ = false := hx2.froz zSlTby2_0 (v := .int .i64 0) zSlTby2_6 zSlTby2_13
 replace c0_1f : w2.frozen? ⟨w.heap.size, 1, none⟩ = false := hx2.froz zSlTby2_0 (v := .int .i64 0) zSlTby2_5 zSlTby2_12
 replace c0_2f : w2.frozen? ⟨w.heap.size, 2, none⟩ = false := hx2.froz zSlTby2_0 (v := .int .i64 0) zSlTby2_4 zSlTby2_11
 replace c0_3f : w2.frozen? ⟨w.heap.size, 3, none⟩ = false := hx2.froz zSlTby2_0 (v := .int .i64 0) zSlTby2_3 zSlTby2_10
 replace c0_0 : w2.cell? ⟨w.heap.size, 0, none⟩ = some (.int .i64 0) := hx2.has zSlTby2_0 zSlTby2_6
 replace c0_1 : w2.cell? ⟨w.heap.size, 1, none⟩ = some (.int .i64 0) := hx2.has zSlTby2_0 zSlTby2_5
 replace c0_2 : w2.cell? ⟨w.heap.size, 2, none⟩ = some (.int .i64 0) := hx2.has zSlTby2_0 zSlTby2_4
 replace c0_3 : w2.cell? ⟨w.heap.size, 3, none⟩ = some (.int .i64 0) := hx2.has zSlTby2_0 zSlTby2_3
 replace c1_1f : w2.frozen? ⟨w.heap.size + 1, 1, none⟩ = false := hx2.froz zSlTby2_0 (v := .int .i64 0) zSlTby2_14 (by first | exact c1_1f | (simp [go_sem, World.cell?_alloc_past, *]; done))
 replace c1_2f : w2.frozen? ⟨w.heap.size + 1, 2, none⟩ = false := hx2.froz zSlTby2_0 (v := .int .i64 0) zSlTby2_8 zSlTby2_23
 replace c1_3f : w2.frozen? ⟨w.heap.size + 1, 3, none⟩ = false := hx2.froz zSlTby2_0 (v := .int .i64 0) zSlTby2_7 zSlTby2_17
 replace c1_0 : w2.cell? ⟨w.heap.size + 1, 0, none⟩ = some (.int .i64 V) := hx2.has zSlTby2_0 zSlTby2_22
 replace c1_1 : w2.cell? ⟨w.heap.size + 1, 1, none⟩ = some (.int .i64 0) := hx2.has zSlTby2_0 zSlTby2_14
 replace c1_2 : w2.cell? ⟨w.heap.size + 1, 2, none⟩ = some (.int .i64 0) := hx2.has zSlTby2_0 zSlTby2_8
 replace c1_3 : w2.cell? ⟨w.heap.size + 1, 3, none⟩ = some (.int .i64 0) := hx2.has zSlTby2_0 zSlTby2_7
 have z2 := hx2.size
 try simp at z2
 replace rc0 := zr w.heap.size w2
 replace rc1 := zr (w.heap.size + 1) w2
 have X2 : Hid (But (· = g) w w2) := Lib.hid (But.trans zSlTby2_21 hx2)
 clear HR
 have HR := Lib.hid hr
 clear c1_0f hsz2 X1 hx2 z2 hr
 go_wp2_with fail
 (with_reducible refine (C3.out _ zSlTby2_1).mono ?_)
 rintro e w3 ⟨rfl, hr, hx3⟩
 have hsz3 := hx3.size
 try simp at hsz3
 replace c0_0f : w3.frozen? ⟨w.heap.size, 0, none⟩ = false := hx3.froz zSlTby2_0 (v := .int .i64 0) zSlTby2_6 zSlTby2_13
 replace c0_1f : w3.frozen? ⟨w.heap.size, 1, none⟩ = false := hx3.froz zSlTby2_0 (v := .int .i64 0) zSlTby2_5 zSlTby2_12
 replace c0_2f : w3.frozen? ⟨w.heap.size, 2, none⟩ = false := hx3.froz zSlTby2_0 (v := .int .i64 0) zSlTby2_4 zSlTby2_11
 replace c0_3f : w3.frozen? ⟨w.heap.size, 3, none⟩ = false := hx3.froz zSlTby2_0 (v := .int .i64 0) zSlTby2_3 zSlTby2_10
 replace c0_0 : w3.cell? ⟨w.heap.size, 0, none⟩ = some (.int .i64 0) := hx3.has zSlTby2_0 zSlTby2_6
 replace c0_1 : w3.cell? ⟨w.heap.size, 1, none⟩ = some (.int .i64 0) := hx3.has zSlTby2_0 zSlTby2_5
 replace c0_2 : w3.cell? ⟨w.heap.size, 2, none⟩ = some (.int .i64 0) := hx3.has zSlTby2_0 zSlTby2_4
 replace c0_3 : w3.cell? ⟨w.heap.size, 3, none⟩ = some (.int .i64 0) := hx3.has zSlTby2_0 zSlTby2_3
 replace c1_2f : w3.frozen? ⟨w.heap.size + 1, 2, none⟩ = false := hx3.froz zSlTby2_0 (v := .int .i64 0) zSlTby2_8 zSlTby2_23
 replace c1_3f : w3.frozen? ⟨w.heap.size + 1, 3, none⟩ = false := hx3.froz zSlTby2_0 (v := .int .i64 0) zSlTby2_7 zSlTby2_17
 replace c1_0 : w3.cell? ⟨w.heap.size + 1, 0, none⟩ = some (.int .i64 V) := hx3.has zSlTby2_0 zSlTby2_22
 replace c1_1 : w3.cell? ⟨w.heap.size + 1, 1, none⟩ = some (.int .i64 S) := hx3.has zSlTby2_0 zSlTby2_14
 replace c1_2 : w3.cell? ⟨w.heap.size + 1, 2, none⟩ = some (.int .i64 0) := hx3.has zSlTby2_0 zSlTby2_8
 replace c1_3 : w3.cell? ⟨w.heap.size + 1, 3, none⟩ = some (.int .i64 0) := hx3.has zSlTby2_0 zSlTby2_7
 have z3 := hx3.size
 try simp at z3
 replace rc0 := zr w.heap.size w3
 replace rc1 := zr (w.heap.size + 1) w3
 have X3 : Hid (But (· = g) w w3) := Lib.hid (But.trans zSlTby2_20 hx3)
 clear HR
 have HR := Lib.hid hr
 clear c1_1f hsz3 X2 hx3 z3 hr
 go_wp2_with fail
 (with_reducible refine (C4.out _ zSlTby2_1).mono ?_)
 rintro e w4 ⟨rfl, hr, hx4⟩
 have hsz4 := hx4.size
 try simp at hsz4
 replace c0_0f : w4.frozen? ⟨w.heap.size, 0, none⟩ = false := hx4.froz zSlTby2_0 (v := .int .i64 0) zSlTby2_6 zSlTby2_13
 replace c0_1f : w4.frozen? ⟨w.heap.size, 1, none⟩ = false := hx4.froz zSlTby2_0 (v := .int .i64 0) zSlTby2_5 zSlTby2_12
 replace c0_2f : w4.frozen? ⟨w.heap.size, 2, none⟩ = false := hx4.froz zSlTby2_0 (v := .int .i64 0) zSlTby2_4 zSlTby2_11
 replace c0_3f : w4.frozen? ⟨w.heap.size, 3, none⟩ = false := hx4.froz zSlTby2_0 (v := .int .i64 0) zSlTby2_3 zSlTby2_10
 replace c0_0 : w4.cell? ⟨w.heap.size, 0, none⟩ = some (.int .i64 0) := hx4.has zSlTby2_0 zSlTby2_6
 replace c0_1 : w4.cell? ⟨w.heap.size, 1, none⟩ = some (.int .i64 0) := hx4.has zSlTby2_0 zSlTby2_5
 replace c0_2 : w4.cell? ⟨w.heap.size, 2, none⟩ = some (.int .i64 0) := hx4.has zSlTby2_0 zSlTby2_4
 replace c0_3 : w4.cell? ⟨w.heap.size, 3, none⟩ = some (.int .i64 0) := hx4.has zSlTby2_0 zSlTby2_3
 replace c1_3f : w4.frozen? ⟨w.heap.size + 1, 3, none⟩ = false := hx4.froz zSlTby2_0 (v := .int .i64 0) zSlTby2_7 zSlTby2_17
 replace c1_0 : w4.cell? ⟨w.heap.size + 1, 0, none⟩ = some (.int .i64 V) := hx4.has zSlTby2_0 zSlTby2_22
 replace c1_1 : w4.cell? ⟨w.heap.size + 1, 1, none⟩ = some (.int .i64 S) := hx4.has zSlTby2_0 zSlTby2_14
 replace c1_2 : w4.cell? ⟨w.heap.size + 1, 2, none⟩ = some (.int .i64 (Q - 1)) := hx4.has zSlTby2_0 zSlTby2_8
 replace c1_3 : w4.cell? ⟨w.heap.size + 1, 3, none⟩ = some (.int .i64 0) := hx4.has zSlTby2_0 zSlTby2_7
 have z4 := hx4.size
 try simp at z4
 replace rc0 := zr w.heap.size w4
 replace rc1 := zr (w.heap.size + 1) w4
 have X4 : Hid (But (· = g) w w4) := Lib.hid (But.trans zSlTby2_19 hx4)
 clear HR
 have HR := Lib.hid hr
 clear c1_2f hsz4 X3 hx4 z4 hr
 have g_2 := HR.out.c2
 change _ = some (Value.int .i64 0) at g_2
 go_wp2_with fail
 (with_reducible refine (CK.out _).mono ?_)
 rintro e w5 ⟨rfl, hx5⟩
 replace c0_0f : w5.frozen? ⟨w.heap.size, 0, none⟩ = false := hx5.froz (v := .int .i64 0) zSlTby2_6 zSlTby2_13
 replace c0_1f : w5.frozen? ⟨w.heap.size, 1, none⟩ = false := hx5.froz (v := .int .i64 0) zSlTby2_5 zSlTby2_12
 replace c0_2f : w5.frozen? ⟨w.heap.size, 2, none⟩ = false := hx5.froz (v := .int .i64 0) zSlTby2_4 zSlTby2_11
 replace c0_3f : w5.frozen? ⟨w.heap.size, 3, none⟩ = false := hx5.froz (v := .int .i64 0) zSlTby2_3 zSlTby2_10
 replace c0_0 : w5.cell? ⟨w.heap.size, 0, none⟩ = some (.int .i64 0) := hx5.has zSlTby2_6
 replace c0_1 : w5.cell? ⟨w.heap.size, 1, none⟩ = some (.int .i64 0) := hx5.has zSlTby2_5
 replace c0_2 : w5.cell? ⟨w.heap.size, 2, none⟩ = some (.int .i64 0) := hx5.has zSlTby2_4
 replace c0_3 : w5.cell? ⟨w.heap.size, 3, none⟩ = some (.int .i64 0) := hx5.has zSlTby2_3
 have z5 := hx5.size
 try simp at z5
 replace rc0 := zr w.heap.size w5
 have X5 : Hid (But (· = g) w w5) := Lib.hid (But.trans zSlTby2_18 (But.ofExt hx5))
 replace HR := Lib.hid (RRd.ext (g := g) (k := k4) (L := L) (flt := none) zSlTby2_1 hx5)
 clear c1_0 c1_3 c1_1 c1_3f c1_2 rc1 X4 hx5 z5
 go_wp2_with fail
 (with_reducible refine ((rFail_any g k4 L none E at_ _ zSlTby2_1)).mono ?_)
 rintro e w6 ⟨⟨v, rfl⟩, hr, hx6⟩
 have hsz6 := hx6.size
 try simp at hsz6
 replace c0_0f : w6.frozen? ⟨w.heap.size, 0, none⟩ = false := hx6.froz zSlTby2_0 (v := .int .i64 0) zSlTby2_6 zSlTby2_13
 replace c0_1f : w6.frozen? ⟨w.heap.size, 1, none⟩ = false := hx6.froz zSlTby2_0 (v := .int .i64 0) zSlTby2_5 zSlTby2_12
 replace c0_2f : w6.frozen? ⟨w.heap.size, 2, none⟩ = false := hx6.froz zSlTby2_0 (v := .int .i64 0) zSlTby2_4 zSlTby2_11
 replace c0_3f : w6.frozen? ⟨w.heap.size, 3, none⟩ = false := hx6.froz zSlTby2_0 (v := .int .i64 0) zSlTby2_3 zSlTby2_10
 replace c0_0 : w6.cell? ⟨w.heap.size, 0, none⟩ = some (.int .i64 0) := hx6.has zSlTby2_0 zSlTby2_6
 replace c0_1 : w6.cell? ⟨w.heap.size, 1, none⟩ = some (.int .i64 0) := hx6.has zSlTby2_0 zSlTby2_5
 replace c0_2 : w6.cell? ⟨w.heap.size, 2, none⟩ = some (.int .i64 0) := hx6.has zSlTby2_0 zSlTby2_4
 replace c0_3 : w6.cell? ⟨w.heap.size, 3, none⟩ = some (.int .i64 0) := hx6.has zSlTby2_0 zSlTby2_3
 have z6 := hx6.size
 try simp at z6
 replace rc0 := zr w.heap.size w6
 have X6 : Hid (But (· = g) w w6) := Lib.hid (But.trans zSlTby2_27 hx6)
 clear HR
 have HR := Lib.hid hr
 clear hsz6 X5 hx6 z6 hr
 clear g_2
 have hff : failF none E at_ = some (E, at_) := by unfold failF; simp [hE.out]
 rw [hff] at HR
 have g_2 := HR.out.c2
 change _ = some (Value.int .i64 E) at g_2
 have hz : (E == 0) = false := beq_false_of_ne hE.out
 have hz2 : (E != 0) = true := by simpa using hE.out
 go_wp2_with fail
 refine bodyPost_ret (v := .agg #[.int .i64 0, .int .i64 0, .int .i64 0, .int .i64 0]) (by simp [results, Tryz.results117, go_sem, World.cell?_alloc_past, *]; try rfl) rfl ⟨rfl, ?_, zSlTby2_26⟩
 have hr := HR.out
 repeat (first | with_reducible exact hr | with_reducible refine RRd.set ?_ (by omega) _ | (with_reducible refine RRd.ext ?_ (Ext.alloc (Ext.refl _) _)))
theorem fltB_some {x : Int × Int} {k n : Nat} (h : ¬ x.1 = 0) : fltB (some x) k n = true := by
 unfold fltB leftF endF
 simp [h]
theorem fltB_none {k n : Nat} : fltB none k n = false := by
 unfold fltB leftF endF
 simp only
 by_cases h : k < n
 ·rw [if_pos h]; simp; omega
 rw [if_neg h]; simp
theorem rTake12_any (g k : Nat) (L : List Nat) (f : Option (Int × Int)) (hL : L.length < 1099511627776) (w : World) (h : RRd w g L k f) :
  Calls Tryz.prog 117 #[.pointer (some ⟨g, 0, none⟩)] w fun r w' => r = .returned (.agg #[.int .i64 (if tkZ L (k, f) = true then 0 else tkA L (k, f)), .int .i64 (if tkZ L (k, f) = true then 0 else tkB L (k, f)), .int .i64 (if tkZ L (k, f) = true then 0 else tkC L (k, f) - 1), .int .i64 (if tkZ L (k, f) = true then 0 else tkD L (k, f))]) ∧
   RRd w' g L (tk4 L (k, f)).1 (tkF L (k, f)) ∧ But (· = g) w w' := by
 have hq := rnV_bound L (tk2 L (k, f)).1 (tk2 L (k, f)).2 0 32 (by decide)
 have CA := Lib.hid fun w h => rAt_any g k L f w h
 have C1 := Lib.hid fun w h => rN_any g k L f 0 31 (by decide) (by decide) (by decide) (by decide) hL w h
 have C2 := Lib.hid fun w h => rN_any g (tk1 L (k, f)).1 L (tk1 L (k, f)).2 1 4294967296 (by decide) (by decide) (by decide) (by decide) hL w h
 have C3 := Lib.hid fun w h => rN_any g (tk2 L (k, f)).1 L (tk2 L (k, f)).2 0 32 (by decide) (by decide) (by decide) (by decide) hL w h
 have C4 := fun w h => rN_any g (tk3 L (k, f)).1 L (tk3 L (k, f)).2 0 4294967296 (by decide) (by decide) (by decide) (by decide) hL w h
 change ∀ w h, Calls _ _ _ _ (fun r w' => _ ∧ RRd w' g L (tk4 L (k, f)).1 (tk4 L (k, f)).2 ∧ _) at C4
 have z4 : FltNz (tk4 L (k, f)).2 := (((h.nz.rn L _ _ _).rn L _ _ _).rn L _ _ _).rn L _ _ _
 have CK := fun w => rCheck12_any (tkA L (k, f)) (tkB L (k, f)) (tkC L (k, f) - 1) (tkD L (k, f)) w
 unfold tkZ tkF
 cases hf : (tk4 L (k, f)).2 with
 | some x =>
  rw [hf] at C4
  have hx := z4 x hf
  rw [fltB_some hx]
  simp only [if_true]
  rw [fltB_some hx]
  simp only [if_true]
  exact rTake12_some g k (tk1 L (k, f)).1 (tk2 L (k, f)).1 (tk3 L (k, f)).1 (tk4 L (k, f)).1 L f (tk1 L (k, f)).2 (tk2 L (k, f)).2 (tk3 L (k, f)).2 (atF f k) _ _ _ _ x hq.1 hq.2 CA C1 C2 C3 (Lib.hid C4) w h
 | none =>
  rw [hf] at C4
  rw [fltB_none]
  simp only [Bool.false_eq_true, if_false]
  by_cases he : chkS (tkA L (k, f)) (tkB L (k, f)) (tkC L (k, f) - 1) (tkD L (k, f)) = 0
  ·rw [he] at CK ⊢
   rw [failF_ok, fltB_none]
   simp only [Bool.false_eq_true, if_false]
   exact rTake12_ok g k (tk1 L (k, f)).1 (tk2 L (k, f)).1 (tk3 L (k, f)).1 (tk4 L (k, f)).1 L f (tk1 L (k, f)).2 (tk2 L (k, f)).2 (tk3 L (k, f)).2 (atF f k) _ _ _ _ hq.1 hq.2 CA C1 C2 C3 (Lib.hid C4) (Lib.hid CK) w h
  generalize chkS (tkA L (k, f)) (tkB L (k, f)) (tkC L (k, f) - 1) (tkD L (k, f)) = E at *
  have e1 : failF none E (atF f k) = some (E, atF f k) := by unfold failF; simp [he]
  rw [e1, fltB_some he]
  simp only [if_true]
  exact rTake12_bad g k (tk1 L (k, f)).1 (tk2 L (k, f)).1 (tk3 L (k, f)).1 (tk4 L (k, f)).1 L f (tk1 L (k, f)).2 (tk2 L (k, f)).2 (tk3 L (k, f)).2 (atF f k) _ _ _ _ E (Lib.hid he) hq.1 hq.2 CA C1 C2 C3 (Lib.hid C4) (Lib.hid CK) w h
def wnS (lim : Int) (s : Int × List Nat) (n : Int) : Int × List Nat := (wNE lim s.1 s.2 n, wNL lim s.1 s.2 n)
def wnAll (lim : Int) (s : Int × List Nat) (l : List Int) : Int × List Nat := l.foldl (wnS lim) s
theorem wnS_err {lim : Int} {s : Int × List Nat} {n : Int} (h : ¬ s.1 = 0) : wnS lim s n = s := by
 unfold wnS wNE wNL
 rw [if_neg h, if_neg h]
theorem wnAll_err {lim : Int} {s : Int × List Nat} (h : ¬ s.1 = 0) : ∀ l, wnAll lim s l = s := by
 intro l
 induction l with
 | nil => rfl
 | cons n l ih => show wnAll lim (wnS lim s n) l = s; rw [wnS_err h]; exact ih
theorem wnAll_snoc (lim : Int) (s : Int × List Nat) (l : List Int) (n : Int) : wnAll lim s (l ++ [n]) = wnS lim (wnAll lim s l) n := by
 unfold wnAll; rw [List.foldl_append]; rfl
theorem wnAll_append (lim : Int) (s : Int × List Nat) (l m : List Int) : wnAll lim s (l ++ m) = wnAll lim (wnAll lim s l) m := by
 unfold wnAll; rw [List.foldl_append]
def putST (lim : Int) (s : Int × List Nat) (V S P F : Int) : Int × List Nat := if chkS V S P F = 0 then wnAll lim s (stL V S P F) else s
def putRE (lim : Int) (s : Int × List Nat) (V S P F : Int) : Int := if chkS V S P F = 0 then (wnAll lim s (stL V S P F)).1 else chkS V S P F

theorem done_out {L : List Nat} {E : Int} {r : Ending} {w w' : World} (h : ByErr L E w r w') : ∃ v, r = .returned (.tuple #[v, .int .i64 E]) ∧ Ext w w' := by
 obtain ⟨v, h1, _, h2⟩ := h
 exact ⟨v, h1, h2⟩
theorem tPut_badF (g : Nat) (lim err : Int) (L : List Nat) (V S P F E : Int) (hE : chkS V S P F = E) (he : ¬ E = 0) (h1 : ¬ err = 1) (w : World) (h : Wr w g lim err L) :
  Calls Tryz.prog 97 #[.pointer (some ⟨g, 0, none⟩), .agg #[.int .i64 V, .int .i64 S, .int .i64 P, .int .i64 F]] w fun r w' => r = .returned (.int .i64 E) ∧ Wr w' g lim err L ∧ Ext w w' := by
 have CK := fun w => tCheck_any V S P F w
 rw [hE] at CK
 replace CK := Lib.hid CK
 have hb : (E == 0) = false := beq_false_of_ne he
 have hb2 : (E != 0) = true := by simpa using he
 have h1b : (err == 1) = false := beq_false_of_ne h1
 have HW := Lib.hid h
 clear hE he h1 h
 go_enter Tryz.func97, Tryz.ntmps97
 go_wp2_with fail
 (with_reducible refine ((Calls.mono (cDone_any g lim err L _ (HW.out.ext zxt)) fun r w' h => done_out h)).mono ?_)
 rintro e w1 ⟨v, rfl, hx1⟩
 have c0_0 : w1.cell? ⟨w.heap.size, 0, none⟩ = some (.int .i64 V) := hx1.has zSlTby2_2
 have c0_1 : w1.cell? ⟨w.heap.size, 1, none⟩ = some (.int .i64 S) := hx1.has zSlTby2_2
 have c0_2 : w1.cell? ⟨w.heap.size, 2, none⟩ = some (.int .i64 P) := hx1.has zSlTby2_2
 have c0_3 : w1.cell? ⟨w.heap.size, 3, none⟩ = some (.int .i64 F) := hx1.has zSlTby2_2
 have z1 := hx1.size
 try simp at z1
 have rc0 := zr w.heap.size w1
 replace HW := Lib.hid (HW.out.ext (Ext.trans zxt hx1))
 have X1 : Hid (Ext w w1) := Lib.hid (Ext.trans zxt hx1)
 clear hx1 z1
 go_wp2_with fail
 (with_reducible refine (CK.out _).mono ?_)
 rintro e w2 ⟨rfl, hx2⟩
 have z2 := hx2.size
 try simp at z2
 replace HW := Lib.hid (HW.out.ext (Ext.trans zxt hx2))
 have X2 : Hid (Ext w w2) := Lib.hid (Ext.trans zxt hx2)
 clear c0_1 c0_2 c0_3 c0_0 rc0 X1 hx2 z2
 go_wp2_with fail
 go_ret
 exact ⟨rfl, HW.out.ext zxt, zxt⟩
theorem tPut_okF (g : Nat) (lim err : Int) (L : List Nat) (V S P F : Int) (hk : StampOk V S P F) (h1 : ¬ err = 1) (w : World) (h : Wr w g lim err L) :
  Calls Tryz.prog 97 #[.pointer (some ⟨g, 0, none⟩), .agg #[.int .i64 V, .int .i64 S, .int .i64 P, .int .i64 F]] w fun r w' => r = .returned (.int .i64 (wnAll lim (err, L) (stL V S P F)).1) ∧ Wr w' g lim (wnAll lim (err, L) (stL V S P F)).1 (wnAll lim (err, L) (stL V S P F)).2 ∧ WF g 0 w w' := by
 have CK := fun w => tCheck_any V S P F w
 rw [chkS_of hk] at CK
 replace CK := Lib.hid CK
 have h1b : (err == 1) = false := beq_false_of_ne h1
 obtain ⟨s0, hs0⟩ : ∃ s : Int × List Nat, s = (err, L) := ⟨_, rfl⟩
 have HS0 := Lib.hid hs0
 rw [← hs0]
 clear hs0
 have HW := Lib.hid h
 have lt := Lib.hid h.lt
 have HK := Lib.hid hk
 have hP0 := hk.p0
 have hP1 := hk.p1
 clear h1 h hk
 have i0 : ∀ w : World, (Instr.index 195 (.agg #[.int .i64 V, .int .i64 S, .int .i64 (P + 1), .int .i64 F]) (.int .i64 0)).run Tryz.prog w = .ok (.int .i64 V) w := fun _ => by kernel_rfl
 have i1 : ∀ w : World, (Instr.index 195 (.agg #[.int .i64 V, .int .i64 S, .int .i64 (P + 1), .int .i64 F]) (.int .i64 1)).run Tryz.prog w = .ok (.int .i64 S) w := fun _ => by kernel_rfl
 have i2 : ∀ w : World, (Instr.index 195 (.agg #[.int .i64 V, .int .i64 S, .int .i64 (P + 1), .int .i64 F]) (.int .i64 2)).run Tryz.prog w = .ok (.int .i64 (P + 1)) w := fun _ => by kernel_rfl
 have i3 : ∀ w : World, (Instr.index 195 (.agg #[.int .i64 V, .int .i64 S, .int .i64 (P + 1), .int .i64 F]) (.int .i64 3)).run Tryz.prog w = .ok (.int .i64 F) w := fun _ => by kernel_rfl
 go_enter Tryz.func97, Tryz.ntmps97
 go_wp2_with fail
 (with_reducible refine ((Calls.mono (cDone_any g lim err L _ (HW.out.ext zxt)) fun r w' h => done_out h)).mono ?_)
 rintro e w1 ⟨v, rfl, hx1⟩
 have c0_0 : w1.cell? ⟨w.heap.size, 0, none⟩ = some (.int .i64 V) := hx1.has zSlTby2_2
 have c0_1 : w1.cell? ⟨w.heap.size, 1, none⟩ = some (.int .i64 S) := hx1.has zSlTby2_2
 have c0_2 : w1.cell? ⟨w.heap.size, 2, none⟩ = some (.int .i64 P) := hx1.has zSlTby2_2
 have c0_3 : w1.cell? ⟨w.heap.size, 3, none⟩ = some (.int .i64 F) := hx1.has zSlTby2_2
 have z1 := hx1.size
 try simp at z1
 have rc0 := zr w.heap.size w1
 replace HW := Lib.hid (HW.out.ext (Ext.trans zxt hx1))
 have X1 : Hid (Ext w w1) := Lib.hid (Ext.trans zxt hx1)
 clear hx1 z1
 go_wp2_with fail
 (with_reducible refine (CK.out _).mono ?_)
 rintro e w2 ⟨rfl, hx2⟩
 replace c0_0 : w2.cell? ⟨w.heap.size, 0, none⟩ = some (.int .i64 V) := hx2.has zSlTby2_6
 replace c0_1 : w2.cell? ⟨w.heap.size, 1, none⟩ = some (.int .i64 S) := hx2.has zSlTby2_5
 replace c0_2 : w2.cell? ⟨w.heap.size, 2, none⟩ = some (.int .i64 P) := hx2.has zSlTby2_4
 replace c0_3 : w2.cell? ⟨w.heap.size, 3, none⟩ = some (.int .i64 F) := hx2.has zSlTby2_3
 have z2 := hx2.size
 try simp at z2
 replace rc0 := zr w.heap.size w2
 replace HW := Lib.hid (HW.out.ext (Ext.trans zxt hx2))
 have X2 : Hid (Ext w w2) := Lib.hid (Ext.trans zxt hx2)
 clear X1 hx2 z2
 go_wp2_with fail
 go_loopg [34] 4 (fun gh i wx => gh ≤ 4 ∧ i = .int .i64 ((4 - gh : Nat) : Int) ∧ Wr wx g lim (wnAll lim s0 ((stL V S P F).take (4 - gh))).1 (wnAll lim s0 ((stL V S P F).take (4 - gh))).2 ∧ (gh < 4 → (wnAll lim s0 ((stL V S P F).take (4 - gh))).1 = 0) ∧ WF g 0 w wx)
 case atStart => exact ⟨Nat.le_refl _, by simp, by rw [Nat.sub_self, List.take_zero, HS0.out]; exact HW.out, fun hh => absurd hh (by omega), WF.ofExt X2.out lt.out⟩
 obtain ⟨hg, hi, hw, hz, hb⟩ := hrel
 have HB := Lib.hid hb
 have HX := Lib.hid hw
 have HZ := Lib.hid hz
 clear hw hb hz
 have step : ∀ (k : Nat) (x : Int), (stL V S P F)[k]? = some x → 4 - gk = k → 0 ≤ x → x ≤ 4294967296 → ∃ (E : Int) (M : List Nat), wnAll lim s0 ((stL V S P F).take (k + 1)) = (E, M) ∧ Hid (Calls Tryz.prog 96 #[.pointer (some ⟨g, 0, none⟩), .int .i64 x] wr fun r w' => r = .returned (.int .i64 E) ∧ Wr w' g lim E M ∧ WF g 0 wr w') := by
  intro k x hx hgk x0 x1
  have hX := HX.out
  rw [hgk] at hX
  have C := cWN_anyF g lim _ _ x (by omega) (by omega) wr hX
  refine ⟨_, _, ?_, C⟩
  obtain ⟨hkl, hkx⟩ := List.getElem?_eq_some_iff.1 hx
  rw [List.take_succ_eq_append_getElem hkl, wnAll_snoc, hkx]
  rfl
 have hv := HK.out.v0; have hv1 := HK.out.v1; have hs0 := HK.out.s0; have hs1 := HK.out.s1; have hf0 := HK.out.f0; have hf1 := HK.out.f1
 have hcase : gk = 0 ∨ gk = 4 ∨ gk = 3 ∨ gk = 2 ∨ gk = 1 := by omega
 rcases hcase with rfl | rfl | rfl | rfl | rfl
 ·change _ = Value.int .i64 4 at hi
  obtain rfl := hi
  clear step
  have h4 : (stL V S P F).take (4 - 0) = stL V S P F := rfl
  have hz := HZ.out (by decide)
  have hw := HX.out
  rw [h4] at hz hw
  have HF := Lib.hid (And.intro hz hw)
  clear hz hw
  go_wp2
  go_ret
  exact ⟨ret_int HF.out.1.symm, HF.out.2, HB.out⟩
 ·change _ = Value.int .i64 0 at hi
  obtain rfl := hi
  obtain ⟨E, M, hEM, C⟩ := step 0 V rfl rfl (by omega) (by omega)
  have HE := Lib.hid hEM
  clear step hv hv1 hs0 hs1 hf0 hf1 hEM
  by_cases he : E = 0
  ·subst he
   go_wp2_with fail
   (with_reducible refine C.out.mono ?_)
   rintro r w3 ⟨rfl, hw3, hb3⟩
   have W3 := Lib.hid (And.intro hw3 (HB.out.trans hb3))
   clear hw3 hb3 C
   go_wp2_with fail
   go_roundg 3
   case measure => decide
   exact ⟨by decide, rfl, by rw [show 4 - 3 = 0 + 1 from rfl, HE.out]; exact W3.out.1, fun _ => by rw [show 4 - 3 = 0 + 1 from rfl, HE.out], W3.out.2⟩
  have heb : (E == 0) = false := beq_false_of_ne he
  have heb2 : (E != 0) = true := by simpa using he
  have HN := Lib.hid he
  clear he
  go_wp2_with fail
  (with_reducible refine C.out.mono ?_)
  rintro r w3 ⟨rfl, hw3, hb3⟩
  have W3 := Lib.hid (And.intro hw3 (HB.out.trans hb3))
  clear hw3 hb3 C
  go_wp2_with fail
  go_ret
  have hall : wnAll lim s0 (stL V S P F) = (E, M) := by
   have h5 := wnAll_append lim s0 ((stL V S P F).take (0 + 1)) ((stL V S P F).drop (0 + 1))
   rw [List.take_append_drop, HE.out, wnAll_err (s := (E, M)) HN.out] at h5
   exact h5
  rw [hall]
  exact ⟨rfl, W3.out.1, W3.out.2⟩
 ·change _ = Value.int .i64 1 at hi
  obtain rfl := hi
  obtain ⟨E, M, hEM, C⟩ := step 1 S rfl rfl (by omega) (by omega)
  have HE := Lib.hid hEM
  clear step hv hv1 hs0 hs1 hf0 hf1 hEM
  by_cases he : E = 0
  ·subst he
   go_wp2_with fail
   (with_reducible refine C.out.mono ?_)
   rintro r w3 ⟨rfl, hw3, hb3⟩
   have W3 := Lib.hid (And.intro hw3 (HB.out.trans hb3))
   clear hw3 hb3 C
   go_wp2_with fail
   go_roundg 2
   case measure => decide
   exact ⟨by decide, rfl, by rw [show 4 - 2 = 1 + 1 from rfl, HE.out]; exact W3.out.1, fun _ => by rw [show 4 - 2 = 1 + 1 from rfl, HE.out], W3.out.2⟩
  have heb : (E == 0) = false := beq_false_of_ne he
  have heb2 : (E != 0) = true := by simpa using he
  have HN := Lib.hid he
  clear he
  go_wp2_with fail
  (with_reducible refine C.out.mono ?_)
  rintro r w3 ⟨rfl, hw3, hb3⟩
  have W3 := Lib.hid (And.intro hw3 (HB.out.trans hb3))
  clear hw3 hb3 C
  go_wp2_with fail
  go_ret
  have hall : wnAll lim s0 (stL V S P F) = (E, M) := by
   have h5 := wnAll_append lim s0 ((stL V S P F).take (1 + 1)) ((stL V S P F).drop (1 + 1))
   rw [List.take_append_drop, HE.out, wnAll_err (s := (E, M)) HN.out] at h5
   exact h5
  rw [hall]
  exact ⟨rfl, W3.out.1, W3.out.2⟩
 ·change _ = Value.int .i64 2 at hi
  obtain rfl := hi
  obtain ⟨E, M, hEM, C⟩ := step 2 (P + 1) rfl rfl (by omega) (by omega)
  have HE := Lib.hid hEM
  clear step hv hv1 hs0 hs1 hf0 hf1 hEM
  by_cases he : E = 0
  ·subst he
   go_wp2_with fail
   (with_reducible refine C.out.mono ?_)
   rintro r w3 ⟨rfl, hw3, hb3⟩
   have W3 := Lib.hid (And.intro hw3 (HB.out.trans hb3))
   clear hw3 hb3 C
   go_wp2_with fail
   go_roundg 1
   case measure => decide
   exact ⟨by decide, rfl, by rw [show 4 - 1 = 2 + 1 from rfl, HE.out]; exact W3.out.1, fun _ => by rw [show 4 - 1 = 2 + 1 from rfl, HE.out], W3.out.2⟩
  have heb : (E == 0) = false := beq_false_of_ne he
  have heb2 : (E != 0) = true := by simpa using he
  have HN := Lib.hid he
  clear he
  go_wp2_with fail
  (with_reducible refine C.out.mono ?_)
  rintro r w3 ⟨rfl, hw3, hb3⟩
  have W3 := Lib.hid (And.intro hw3 (HB.out.trans hb3))
  clear hw3 hb3 C
  go_wp2_with fail
  go_ret
  have hall : wnAll lim s0 (stL V S P F) = (E, M) := by
   have h5 := wnAll_append lim s0 ((stL V S P F).take (2 + 1)) ((stL V S P F).drop (2 + 1))
   rw [List.take_append_drop, HE.out, wnAll_err (s := (E, M)) HN.out] at h5
   exact h5
  rw [hall]
  exact ⟨rfl, W3.out.1, W3.out.2⟩
 change _ = Value.int .i64 3 at hi
 obtain rfl := hi
 obtain ⟨E, M, hEM, C⟩ := step 3 F rfl rfl (by omega) (by omega)
 have HE := Lib.hid hEM
 clear step hv hv1 hs0 hs1 hf0 hf1 hEM
 by_cases he : E = 0
 ·subst he
  go_wp2_with fail
  (with_reducible refine C.out.mono ?_)
  rintro r w3 ⟨rfl, hw3, hb3⟩
  have W3 := Lib.hid (And.intro hw3 (HB.out.trans hb3))
  clear hw3 hb3 C
  go_wp2_with fail
  go_roundg 0
  case measure => decide
  exact ⟨by decide, rfl, by rw [show 4 - 0 = 3 + 1 from rfl, HE.out]; exact W3.out.1, fun _ => by rw [show 4 - 0 = 3 + 1 from rfl, HE.out], W3.out.2⟩
 have heb : (E == 0) = false := beq_false_of_ne he
 have heb2 : (E != 0) = true := by simpa using he
 have HN := Lib.hid he
 clear he
 go_wp2_with fail
 (with_reducible refine C.out.mono ?_)
 rintro r w3 ⟨rfl, hw3, hb3⟩
 have W3 := Lib.hid (And.intro hw3 (HB.out.trans hb3))
 clear hw3 hb3 C
 go_wp2_with fail
 go_ret
 have hall : wnAll lim s0 (stL V S P F) = (E, M) := by
  have h5 := wnAll_append lim s0 ((stL V S P F).take (3 + 1)) ((stL V S P F).drop (3 + 1))
  rw [List.take_append_drop, HE.out, wnAll_err (s := (E, M)) HN.out] at h5
  exact h5
 rw [hall]
 exact ⟨rfl, W3.out.1, W3.out.2⟩
theorem tPut_any (g : Nat) (lim err : Int) (L : List Nat) (V S P F : Int) (h1 : ¬ err = 1) (w : World) (h : Wr w g lim err L) :
  Calls Tryz.prog 97 #[.pointer (some ⟨g, 0, none⟩), .agg #[.int .i64 V, .int .i64 S, .int .i64 P, .int .i64 F]] w fun r w' => r = .returned (.int .i64 (putRE lim (err, L) V S P F)) ∧ Wr w' g lim (putST lim (err, L) V S P F).1 (putST lim (err, L) V S P F).2 ∧ WF g 0 w w' := by
 unfold putRE putST
 by_cases he : chkS V S P F = 0
 ·rw [if_pos he, if_pos he]
  exact tPut_okF g lim err L V S P F (chkS_ok he) h1 w h
 rw [if_neg he, if_neg he]
 refine (tPut_badF g lim err L V S P F _ rfl he h1 w h).mono ?_
 rintro r w' ⟨h2, h3, h4⟩
 exact ⟨h2, h3, WF.ofExt h4 h.lt⟩
theorem rPut12_bad (g : Nat) (lim err : Int) (L : List Nat) (V S P F E : Int) (hE : chkS V S P F = E) (he : ¬ E = 0) (w : World) (h : RWr w g lim err L) :
  Calls Tryz.prog 102 #[.pointer (some ⟨g, 0, none⟩), .agg #[.int .i64 V, .int .i64 S, .int .i64 P, .int .i64 F]] w fun r w' => r = .returned (.int .i64 E) ∧ RWr w' g lim err L ∧ Ext w w' := by
 have CK := fun w => rCheck12_any V S P F w
 rw [hE] at CK
 replace CK := Lib.hid CK
 have hb : (E == 0) = false := beq_false_of_ne he
 have hb2 : (E != 0) = true := by simpa using he
 have HW := Lib.hid h
 clear hE he h
 go_enter Tryz.func102, Tryz.ntmps102
 go_wp2_with fail
 (with_reducible refine (CK.out _).mono ?_)
 rintro e w1 ⟨rfl, hx1⟩
 have z1 := hx1.size
 try simp at z1
 replace HW := Lib.hid (HW.out.ext (Ext.trans zxt hx1))
 have X1 : Hid (Ext w w1) := Lib.hid (Ext.trans zxt hx1)
 clear hx1 z1
 go_wp2_with fail
 go_ret
 exact ⟨rfl, HW.out.ext zxt, zxt⟩
theorem rPut12_ok (g : Nat) (lim err : Int) (L : List Nat) (V S P F : Int) (hk : StampOk V S P F) (w : World) (h : RWr w g lim err L) :
  Calls Tryz.prog 102 #[.pointer (some ⟨g, 0, none⟩), .agg #[.int .i64 V, .int .i64 S, .int .i64 P, .int .i64 F]] w fun r w' => r = .returned (.int .i64 (wnAll lim (err, L) (stL V S P F)).1) ∧ RWr w' g lim (wnAll lim (err, L) (stL V S P F)).1 (wnAll lim (err, L) (stL V S P F)).2 ∧ WF g 1 w w' := by
 have CK := fun w => rCheck12_any V S P F w
 rw [chkS_of hk] at CK
 replace CK := Lib.hid CK
 obtain ⟨v0, v1, s0, s1, p0, p1, f0, f1, _, _, _⟩ := hk
 obtain ⟨e1, m1, hS1⟩ : ∃ e m, wnS lim (err, L) V = (e, m) := ⟨_, _, rfl⟩
 obtain ⟨e2, m2, hS2⟩ : ∃ e m, wnS lim (e1, m1) S = (e, m) := ⟨_, _, rfl⟩
 obtain ⟨e3, m3, hS3⟩ : ∃ e m, wnS lim (e2, m2) (P + 1) = (e, m) := ⟨_, _, rfl⟩
 obtain ⟨e4, m4, hS4⟩ : ∃ e m, wnS lim (e3, m3) F = (e, m) := ⟨_, _, rfl⟩
 have hall : wnAll lim (err, L) (stL V S P F) = (e4, m4) := by
  show wnS lim (wnS lim (wnS lim (wnS lim (err, L) V) S) (P + 1)) F = _
  rw [hS1, hS2, hS3, hS4]
 rw [hall]
 have C1 := fun w h => rWN_anyF g lim err L V (by omega) (by omega) w h
 have C2 := fun w h => rWN_anyF g lim e1 m1 S (by omega) (by omega) w h
 have C3 := fun w h => rWN_anyF g lim e2 m2 (P + 1) (by omega) (by omega) w h
 have C4 := fun w h => rWN_anyF g lim e3 m3 F (by omega) (by omega) w h
 unfold wnS at hS1 hS2 hS3 hS4
 simp only [Prod.mk.injEq] at hS1 hS2 hS3 hS4
 rw [hS1.1, hS1.2] at C1
 rw [hS2.1, hS2.2] at C2
 rw [hS3.1, hS3.2] at C3
 rw [hS4.1, hS4.2] at C4
 replace C1 := Lib.hid C1
 replace C2 := Lib.hid C2
 replace C3 := Lib.hid C3
 replace C4 := Lib.hid C4
 have HW := Lib.hid h
 have lt := Lib.hid h.lt
 have H0 := Lib.hid h
 clear h hS1 hS2 hS3 hS4 hall
 go_enter Tryz.func102, Tryz.ntmps102
 go_wp2_with fail
 (with_reducible refine (CK.out _).mono ?_)
 rintro e w1 ⟨rfl, hx1⟩
 have c0_0 : w1.cell? ⟨w.heap.size, 0, none⟩ = some (.int .i64 V) := hx1.has zSlTby2_2
 have c0_1 : w1.cell? ⟨w.heap.size, 1, none⟩ = some (.int .i64 S) := hx1.has zSlTby2_2
 have c0_2 : w1.cell? ⟨w.heap.size, 2, none⟩ = some (.int .i64 P) := hx1.has zSlTby2_2
 have c0_3 : w1.cell? ⟨w.heap.size, 3, none⟩ = some (.int .i64 F) := hx1.has zSlTby2_2
 have z1 := hx1.size
 try simp at z1
 have rc0 := zr w.heap.size w1
 replace HW := Lib.hid (HW.out.ext (Ext.trans zxt hx1))
 have X1 : Hid (Ext w w1) := Lib.hid (Ext.trans zxt hx1)
 clear hx1 z1
 have hns : Hid (¬ Sg w1 g 1 w.heap.size) := Lib.hid (fun hh => by
  have := (H0.out.sg ((Sg.congr (X1.out.cells.1 g 1 lt.out)).1 hh)).2
  omega)
 clear H0
 have HF := Lib.hid (show WF g 1 w w1 from WF.ofExt X1.out lt.out)
 go_wp2_with fail
 (with_reducible refine (C1.out _ HW.out).mono ?_)
 rintro r w2 ⟨rfl, hw, hf⟩
 replace c0_0 := hf.but.has hns.out c0_0
 replace c0_1 := hf.but.has hns.out c0_1
 replace c0_2 := hf.but.has hns.out c0_2
 replace c0_3 := hf.but.has hns.out c0_3
 have hzz := hf.but.size
 replace hns := Lib.hid (show ¬ Sg w2 g 1 w.heap.size from fun hh => hns.out (hf.row _ (by omega) hh))
 replace HF := Lib.hid (HF.out.trans hf)
 replace HW := Lib.hid hw
 replace rc0 : w.heap.size < w2.heap.size := by omega
 clear hw hf C1 hzz
 go_wp2_with fail
 (with_reducible refine (C2.out _ HW.out).mono ?_)
 rintro r w3 ⟨rfl, hw, hf⟩
 replace c0_0 := hf.but.has hns.out c0_0
 replace c0_1 := hf.but.has hns.out c0_1
 replace c0_2 := hf.but.has hns.out c0_2
 replace c0_3 := hf.but.has hns.out c0_3
 have hzz := hf.but.size
 replace hns := Lib.hid (show ¬ Sg w3 g 1 w.heap.size from fun hh => hns.out (hf.row _ (by omega) hh))
 replace HF := Lib.hid (HF.out.trans hf)
 replace HW := Lib.hid hw
 replace rc0 : w.heap.size < w3.heap.size := by omega
 clear hw hf C2 hzz
 go_wp2_with fail
 (with_reducible refine (C3.out _ HW.out).mono ?_)
 rintro r w4 ⟨rfl, hw, hf⟩
 replace c0_0 := hf.but.has hns.out c0_0
 replace c0_1 := hf.but.has hns.out c0_1
 replace c0_2 := hf.but.has hns.out c0_2
 replace c0_3 := hf.but.has hns.out c0_3
 have hzz := hf.but.size
 replace hns := Lib.hid (show ¬ Sg w4 g 1 w.heap.size from fun hh => hns.out (hf.row _ (by omega) hh))
 replace HF := Lib.hid (HF.out.trans hf)
 replace HW := Lib.hid hw
 replace rc0 : w.heap.size < w4.heap.size := by omega
 clear hw hf C3 hzz
 go_wp2_with fail
 (with_reducible refine (C4.out _ HW.out).mono ?_)
 rintro r w5 ⟨rfl, hw, hf⟩
 replace c0_0 := hf.but.has hns.out c0_0
 replace c0_1 := hf.but.has hns.out c0_1
 replace c0_2 := hf.but.has hns.out c0_2
 replace c0_3 := hf.but.has hns.out c0_3
 have hzz := hf.but.size
 replace hns := Lib.hid (show ¬ Sg w5 g 1 w.heap.size from fun hh => hns.out (hf.row _ (by omega) hh))
 replace HF := Lib.hid (HF.out.trans hf)
 replace HW := Lib.hid hw
 replace rc0 : w.heap.size < w5.heap.size := by omega
 clear hw hf C4 hzz
 go_wp2_with fail
 go_ret
 exact ⟨rfl, HW.out, HF.out⟩
theorem rPut12_any (g : Nat) (lim err : Int) (L : List Nat) (V S P F : Int) (w : World) (h : RWr w g lim err L) :
  Calls Tryz.prog 102 #[.pointer (some ⟨g, 0, none⟩), .agg #[.int .i64 V, .int .i64 S, .int .i64 P, .int .i64 F]] w fun r w' => r = .returned (.int .i64 (putRE lim (err, L) V S P F)) ∧ RWr w' g lim (putST lim (err, L) V S P F).1 (putST lim (err, L) V S P F).2 ∧ WF g 1 w w' := by
 unfold putRE putST
 by_cases he : chkS V S P F = 0
 ·rw [if_pos he, if_pos he]
  exact rPut12_ok g lim err L V S P F (chkS_ok he) w h
 rw [if_neg he, if_neg he]
 refine (rPut12_bad g lim err L V S P F _ rfl he w h).mono ?_
 rintro r w' ⟨h2, h3, h4⟩
 exact ⟨h2, h3, WF.ofExt h4 h.lt⟩
end
section
open Go.RowKit Go.ChangeShapes Go.WideShapes Go.Deep Go.Joins
def nuB (l : List Int) : List Nat := l.flatMap fun n => putL n.toNat
theorem nuB_len {l : List Int} (h : ∀ x ∈ l, x < 18446744073709551616) : (nuB l).length ≤ 10 * l.length := by
 induction l with
 | nil => simp [nuB]
 | cons x l ih =>
  have h1 := putL_ten (N := x.toNat) (by have := h x (List.mem_cons_self ..); omega)
  have h2 := ih (fun y hy => h y (List.mem_cons_of_mem _ hy))
  unfold nuB at h2 ⊢
  rw [List.flatMap_cons, List.length_append, List.length_cons]
  omega
theorem wnAll_fit {lim : Int} : ∀ {l : List Int} {L : List Nat}, (∀ x ∈ l, 0 ≤ x ∧ x < 18446744073709551616) → (L.length : Int) + 10 * l.length ≤ lim → wnAll lim (0, L) l = (0, L ++ nuB l)
 | [], L, _, _ => by show ((0 : Int), L) = _; simp [nuB]
 | x :: l, L, h, hf => by
  obtain ⟨h0, h1⟩ := h x (List.mem_cons_self ..)
  have h2 := putL_ten (N := x.toNat) (by omega)
  rw [List.length_cons] at hf
  obtain ⟨e1, e2⟩ := wAdd_fit (lim := lim) (L := L) (b := putL x.toNat) (by omega)
  have e : wnS lim (0, L) x = (0, L ++ putL x.toNat) := by
   unfold wnS wNE wNL
   simp only [if_pos, if_neg (show ¬ x < 0 from by omega)]
   rw [e1, e2]
  show wnAll lim (wnS lim (0, L) x) l = _
  rw [e, wnAll_fit (fun y hy => h y (List.mem_cons_of_mem _ hy)) (by rw [List.length_append]; omega)]
  unfold nuB
  rw [List.flatMap_cons, List.append_assoc]
theorem stL_in {V S P F : Int} (h : chkS V S P F = 0) : ∀ x ∈ stL V S P F, 0 ≤ x ∧ x < 18446744073709551616 := by
 have hk := chkS_ok h
 intro x hx
 have := hk.v0; have := hk.v1; have := hk.s0; have := hk.s1; have := hk.p0; have := hk.p1; have := hk.f0; have := hk.f1
 simp [stL] at hx
 omega
theorem tPut_box (g q : Nat) (lim : Int) (L : List Nat) (V S P F : Int) (hk : chkS V S P F = 0) (hf : (L.length : Int) + 40 ≤ lim) (w : World) (h : Wr w g lim 0 L) (hq : Off w g 0 q) :
  Calls Tryz.prog 97 #[.pointer (some ⟨g, 0, none⟩), .agg #[.int .i64 V, .int .i64 S, .int .i64 P, .int .i64 F]] w fun r w' => r = .returned (.int .i64 0) ∧ Wr w' g lim 0 (L ++ nuB (stL V S P F)) ∧ Off w' g 0 q ∧ But (fun k => k ≠ q ∧ g ≤ k) w w' := by
 have hc := tPut_any g lim 0 L V S P F (by decide) w h
 have e := wnAll_fit (lim := lim) (L := L) (stL_in hk) (by simp [stL]; omega)
 unfold putRE putST at hc
 rw [if_pos hk, if_pos hk, e] at hc
 refine hc.mono ?_
 rintro r w' ⟨h1, h2, h3⟩
 exact ⟨h1, h2, hq.wf h3, WF.box h hq h3⟩
theorem Off.newR {w w' : World} {g q : Nat} {lim e : Int} {L : List Nat} (h : RWr w g lim e L) (hq : w.heap.size ≤ q) (hx : Ext w w') (hq2 : q < w'.heap.size) : Off w' g 1 q :=
 ⟨by have := h.lt; have := hx.size; omega, hq2, fun hs => by have := RWr.sg h ((Sg.congr (hx.cells.1 g 1 h.lt)).1 hs); omega⟩
theorem WF.boxR {w w' : World} {g q : Nat} {lim e : Int} {L : List Nat} (hw : RWr w g lim e L) (hq : Off w g 1 q) (hx : WF g 1 w w') : But (fun k => k ≠ q ∧ g ≤ k) w w' :=
 hx.but.mono fun k _ hs => ⟨fun e => hq.2.2 (e ▸ hs), (RWr.sg hw hs).1⟩
theorem rWU_anyF (g : Nat) (lim e : Int) (L : List Nat) (N : Nat) (hN : N < 18446744073709551616) (w : World) (h : RWr w g lim e L) :
  Calls Tryz.prog 103 #[.pointer (some ⟨g, 0, none⟩), .int .u64 (N : Int)] w fun r w' => r = .returned (.int .i64 (wAddE lim e L (putL N))) ∧ RWr w' g lim (wAddE lim e L (putL N)) (wAddL lim e L (putL N)) ∧ WF g 1 w w' := by
 have H := Lib.hid h
 have CP := Lib.hid (fun w => rPut_any N (by omega) w)
 have hp : (putL N).length ≤ 1048576 := by have := putL_len N 9 (by omega); omega
 have HP := Lib.hid hp
 obtain ⟨E, hE⟩ : ∃ E, E = wAddE lim e L (putL N) := ⟨_, rfl⟩
 obtain ⟨M, hM⟩ : ∃ M, M = wAddL lim e L (putL N) := ⟨_, rfl⟩
 rw [← hE, ← hM]
 have HE := Lib.hid (And.intro hE hM)
 clear h hE hM hp hN
 go_enter Tryz.func103, Tryz.ntmps103
 go_wp2_with fail
 refine (CP.out _).mono ?_
 rintro r w1 ⟨v, rfl, h1, hx1⟩
 obtain ⟨A1, c1, rfl, s1⟩ := own_parts h1
 have C := rWAdd_anyF g lim e L (putL N) A1 (putL N).length c1 w1 (H.out.keep hx1) s1 HP.out
 rw [← HE.out.1, ← HE.out.2] at C
 replace C := Lib.hid C
 have X1 := Lib.hid (And.intro hx1 H.out.lt)
 clear h1 s1 hx1
 go_wp2_with fail
 refine C.out.mono ?_
 rintro r w2 ⟨rfl, hw2, hb2⟩
 have W2 := Lib.hid (And.intro hw2 hb2)
 clear hw2 hb2 C
 go_wp2_with fail
 go_ret
 exact ⟨rfl, W2.out.1, (WF.ofExt X1.out.1 X1.out.2).trans W2.out.2⟩
theorem rWU_box (g q : Nat) (lim : Int) (L : List Nat) (n : Int) (h0 : 0 ≤ n) (h1 : n < 18446744073709551616) (hf : (L.length : Int) + 10 ≤ lim) (w : World) (h : RWr w g lim 0 L) (hq : Off w g 1 q) :
  Calls Tryz.prog 103 #[.pointer (some ⟨g, 0, none⟩), .int .u64 n] w fun r w' => r = .returned (.int .i64 0) ∧ RWr w' g lim 0 (L ++ putL n.toNat) ∧ Off w' g 1 q ∧ But (fun k => k ≠ q ∧ g ≤ k) w w' := by
 obtain ⟨N, rfl⟩ : ∃ N : Nat, n = (N : Int) := ⟨n.toNat, by omega⟩
 rw [show ((N : Int)).toNat = N from by simp]
 have hb := putL_ten (N := N) (by omega)
 obtain ⟨e1, e2⟩ := wAdd_fit (lim := lim) (L := L) (b := putL N) (by omega)
 have hc := rWU_anyF g lim 0 L N (by omega) w h
 rw [e1, e2] at hc
 refine hc.mono ?_
 rintro r w' ⟨h1, h2, h3⟩
 exact ⟨h1, h2, hq.wf h3, WF.boxR h hq h3⟩
theorem rWN_box (g q : Nat) (lim : Int) (L : List Nat) (n : Int) (h0 : 0 ≤ n) (h1 : n < 9223372036854775808) (hf : (L.length : Int) + 10 ≤ lim) (w : World) (h : RWr w g lim 0 L) (hq : Off w g 1 q) :
  Calls Tryz.prog 101 #[.pointer (some ⟨g, 0, none⟩), .int .i64 n] w fun r w' => r = .returned (.int .i64 0) ∧ RWr w' g lim 0 (L ++ putL n.toNat) ∧ Off w' g 1 q ∧ But (fun k => k ≠ q ∧ g ≤ k) w w' := by
 obtain ⟨N, rfl⟩ : ∃ N : Nat, n = (N : Int) := ⟨n.toNat, by omega⟩
 rw [show ((N : Int)).toNat = N from by simp]
 have hb := putL_ten (N := N) (by omega)
 obtain ⟨e1, e2⟩ := wAdd_fit (lim := lim) (L := L) (b := putL N) (by omega)
 have hc := rWN_posF g lim 0 L N (by omega) w h
 rw [e1, e2] at hc
 refine hc.mono ?_
 rintro r w' ⟨h1, h2, h3⟩
 exact ⟨h1, h2, hq.wf h3, WF.boxR h hq h3⟩
theorem rPut12_box (g q : Nat) (lim : Int) (L : List Nat) (V S P F : Int) (hk : chkS V S P F = 0) (hf : (L.length : Int) + 40 ≤ lim) (w : World) (h : RWr w g lim 0 L) (hq : Off w g 1 q) :
  Calls Tryz.prog 102 #[.pointer (some ⟨g, 0, none⟩), .agg #[.int .i64 V, .int .i64 S, .int .i64 P, .int .i64 F]] w fun r w' => r = .returned (.int .i64 0) ∧ RWr w' g lim 0 (L ++ nuB (stL V S P F)) ∧ Off w' g 1 q ∧ But (fun k => k ≠ q ∧ g ≤ k) w w' := by
 have hc := rPut12_any g lim 0 L V S P F w h
 have e := wnAll_fit (lim := lim) (L := L) (stL_in hk) (by simp [stL]; omega)
 unfold putRE putST at hc
 rw [if_pos hk, if_pos hk, e] at hc
 refine hc.mono ?_
 rintro r w' ⟨h1, h2, h3⟩
 exact ⟨h1, h2, hq.wf h3, WF.boxR h hq h3⟩
end
section
open Go.RowKit RefMath
theorem rAdd_any (a b : Int) (ha : Word a) (hb : Word b) (w : World) :
  Calls Tryz.prog 152 #[.int .u64 a, .int .u64 b] w fun e w' => e = .returned (.tuple #[.int .u64 (addN a b), .int .i64 (addE a b)]) ∧ w = w' := by
 obtain ⟨a1, a2⟩ := ha
 obtain ⟨b1, b2⟩ := hb
 by_cases h : a + b < 18446744073709551616
 ·have e1 : addN a b = a + b := if_pos h
  have e2 : addE a b = 0 := if_pos h
  rw [e1, e2]
  clear e1 e2
  have h' : ¬ 18446744073709551615 - b < a := by omega
  go_enter Tryz.func152, Tryz.ntmps152
  go_wp2
  go_ret2
  exact ⟨rfl, rfl⟩
 have e1 : addN a b = 0 := if_neg h
 have e2 : addE a b = 12 := if_neg h
 rw [e1, e2]
 clear e1 e2
 have h' : 18446744073709551615 - b < a := by omega
 go_enter Tryz.func152, Tryz.ntmps152
 go_wp2
 go_ret2
 exact ⟨rfl, rfl⟩
end
section
open Go.RowKit
theorem AskS.new (w : World) (is : Bool) (e : Int) :
  AskS ((w.alloc (.cells #[.bool is] 4)).alloc (.cells #[.int .i64 e] 30)) (.func (.func 200) #[] #[.pointer (some ⟨w.heap.size, 0, none⟩), .pointer (some ⟨w.heap.size + 1, 0, none⟩)]) (if is = true then e else 0) :=
 ⟨_, _, is, e, rfl, by simp; omega, by simp, by simp [go_sem], by simp [go_sem], rfl⟩

end
section
open Go.RowKit Go.ChangeShapes Go.WideShapes Go.Deep Go.Joins
section
variable {H : Type} {enc : TypeId × Value → H} {P : Program} {w : World} {base : Nat} {spare : Nat → Bool} {held : Bool}
theorem rec4 {t : TypeId} {k0 k1 k2 k3 : IntKind} {f0 f1 f2 f3 : Field} {cs : List Value} {m : Nat} {y : DataW H × List MemPlace} (ht : P.underlying t = some (.struct #[f0, f1, f2, f3])) (hone : oneCellFields P #[f0, f1, f2, f3] = true)
  (h0 : P.underlying f0.type = some (.int k0)) (h1 : P.underlying f1.type = some (.int k1)) (h2 : P.underlying f2.type = some (.int k2)) (h3 : P.underlying f3.type = some (.int k3))
  (h : DataW.trod enc P w base spare held m t cs = some y) (hl : cs.length = 4) : ∃ x : Int × Int × Int × Int, cs = [.int k0 x.1, .int k1 x.2.1, .int k2 x.2.2.1, .int k3 x.2.2.2] ∧ Fits k0 x.1 ∧ Fits k1 x.2.1 ∧ Fits k2 x.2.2.1 ∧ Fits k3 x.2.2.2 := by
 obtain ⟨y0, y1, y2, y3, m', _, _, g0, g1, g2, g3⟩ := trod_struct4 ht h
 obtain ⟨o0, c0⟩ := hone_of hone 0 f0 rfl
 obtain ⟨o1, c1⟩ := hone_of hone 1 f1 rfl
 obtain ⟨o2, c2⟩ := hone_of hone 2 f2 rfl
 obtain ⟨o3, c3⟩ := hone_of hone 3 f3 rfl
 match cs, hl with
 | [v0, v1, v2, v3], _ =>
  rw [o0, c0] at g0
  rw [o1, c1] at g1
  rw [o2, c2] at g2
  rw [o3, c3] at g3
  obtain ⟨a, ha, _, wa⟩ := DataW.trod_int h0 g0
  obtain ⟨b, hb, _, wb⟩ := DataW.trod_int h1 g1
  obtain ⟨c, hc, _, wc⟩ := DataW.trod_int h2 g2
  obtain ⟨d, hd, _, wd⟩ := DataW.trod_int h3 g3
  simp at ha hb hc hd
  subst ha; subst hb; subst hc; subst hd
  exact ⟨(a, b, c, d), rfl, wa, wb, wc, wd⟩
end
end
section
open Go.RowKit
theorem pCheck_any (t s : Int) (w : World) :
  Calls Tryz.prog 121 #[.agg #[.int .u64 t, .int .u64 s]] w fun r w' => r = .returned (.int .i64 (chkE t s)) ∧ Ext w w' := by
 by_cases h1 : s < t
 ·have e : chkE t s = 9 := if_pos h1
  rw [e]
  clear e
  go_enter Tryz.func121, Tryz.ntmps121
  go_wp2
  go_ret
  exact ⟨rfl, zSlTby2_9⟩
 by_cases h2 : 4611686018427387904 < t
 ·have e : chkE t s = 12 := by unfold chkE; rw [if_neg h1, if_pos h2]
  rw [e]
  clear e
  go_enter Tryz.func121, Tryz.ntmps121
  go_wp2
  go_ret
  exact ⟨rfl, zSlTby2_9⟩
 by_cases h3 : t = 0
 ·subst h3
  by_cases h4 : s = 0
  ·have e : chkE 0 s = 0 := by unfold chkE; rw [if_neg h1, if_neg h2, if_pos rfl, if_pos h4]
   rw [e]
   subst h4
   clear e
   go_enter Tryz.func121, Tryz.ntmps121
   go_wp2
   go_ret
   exact ⟨rfl, zSlTby2_9⟩
  have e : chkE 0 s = 11 := by unfold chkE; rw [if_neg h1, if_neg h2, if_pos rfl, if_neg h4]
  rw [e]
  have h5 : (s == 0) = false := by simpa using h4
  clear e
  go_enter Tryz.func121, Tryz.ntmps121
  go_wp2
  go_ret
  exact ⟨rfl, zSlTby2_9⟩
 have e : chkE t s = 0 := by unfold chkE; rw [if_neg h1, if_neg h2, if_neg h3]
 rw [e]
 have h5 : (t == 0) = false := by simpa using h3
 clear e
 go_enter Tryz.func121, Tryz.ntmps121
 go_wp2
 go_ret
 exact ⟨rfl, zSlTby2_9⟩
end
section
open Go.RowKit Go.ChangeShapes Go.WideShapes Go.Deep Go.Joins
theorem rCompare12_any (a b c d a' b' c' d' : Int) (w : World) :
  Calls Tryz.prog 119 #[.agg #[.int .i64 a, .int .i64 b, .int .i64 c, .int .i64 d], .agg #[.int .i64 a', .int .i64 b', .int .i64 c', .int .i64 d']] w fun r w' => r = .returned (.int .i64 (cmpL [(a, a'), (b, b'), (c, c'), (d, d')])) ∧ Ext w w' := by
 obtain ⟨V, hV⟩ : ∃ V, V = cmpL [(a, a'), (b, b'), (c, c'), (d, d')] := ⟨_, rfl⟩
 rw [← hV]
 have HV := Lib.hid hV
 clear hV
 go_enter Tryz.func119, Tryz.ntmps119
 go_wp2
 go_loopg [7] 4 (fun gh i wx => gh ≤ 4 ∧ i = .int .i64 ((4 - gh : Nat) : Int) ∧ Hid (V = cmpL ([(a, a'), (b, b'), (c, c'), (d, d')].drop (4 - gh))) ∧ (wx.cell? ⟨w.heap.size + 1 + 1, 0, none⟩ = some (.int .i64 a) ∧ wx.cell? ⟨w.heap.size + 1 + 1, 1, none⟩ = some (.int .i64 b) ∧ wx.cell? ⟨w.heap.size + 1 + 1, 2, none⟩ = some (.int .i64 c) ∧ wx.cell? ⟨w.heap.size + 1 + 1, 3, none⟩ = some (.int .i64 d) ∧ wx.cell? ⟨w.heap.size + 1 + 1 + 1, 0, none⟩ = some (.int .i64 a') ∧ wx.cell? ⟨w.heap.size + 1 + 1 + 1, 1, none⟩ = some (.int .i64 b') ∧ wx.cell? ⟨w.heap.size + 1 + 1 + 1, 2, none⟩ = some (.int .i64 c') ∧ wx.cell? ⟨w.heap.size + 1 + 1 + 1, 3, none⟩ = some (.int .i64 d')) ∧ Ext w wx)
 case atStart => exact ⟨Nat.le_refl _, by simp, HV, ⟨by simp [go_sem, World.cell?_alloc_past], by simp [go_sem, World.cell?_alloc_past], by simp [go_sem, World.cell?_alloc_past], by simp [go_sem, World.cell?_alloc_past], by simp [go_sem, World.cell?_alloc_past], by simp [go_sem, World.cell?_alloc_past], by simp [go_sem, World.cell?_alloc_past], by simp [go_sem, World.cell?_alloc_past]⟩, (by repeat (first | with_reducible exact Ext.refl _ | with_reducible refine Ext.drew ?_ | with_reducible refine Ext.alloc ?_ _))⟩
 obtain ⟨hg, hi, H, ⟨x_0, x_1, x_2, x_3, y_0, y_1, y_2, y_3⟩, hx⟩ := hrel
 have XW := Lib.hid hx
 clear hx HV
 have hcase : gk = 0 ∨ gk = 4 ∨ gk = 3 ∨ gk = 2 ∨ gk = 1 := by omega
 rcases hcase with rfl | rfl | rfl | rfl | rfl
 ·change _ = Value.int .i64 4 at hi
  obtain rfl := hi
  have hv : V = 0 := H.out
  subst hv
  clear H
  go_wp2
  go_ret
  exact ⟨rfl, XW.out⟩
 ·change _ = Value.int .i64 0 at hi
  obtain rfl := hi
  have hd := H.out.trans (cmpL_drop (l := [(a, a'), (b, b'), (c, c'), (d, d')]) (k := 0) (x := (a, a')) rfl)
  clear H
  go_wp2_with fail
  refine wp_region_held_drew (S := fun w' => w'.cell? ⟨w.heap.size + 1 + 1, 0, none⟩ = some (.int .i64 a) ∧ w'.cell? ⟨w.heap.size + 1 + 1 + 1, 0, none⟩ = some (.int .i64 a')) (by kernel_rfl) (by first | with_reducible exact ⟨x_0, y_0⟩ | (simp [go_sem, World.cell?_alloc_past, x_0, y_0]; done)) (fun hHeld => ?_)
  refine' zt 0 ?_
  refine' zt 1 ?_
  refine' zt 2 ?_
  refine' zt 3 ?_
  refine' zt 4 ?_
  refine' zt 5 ?_
  refine' zt 6 ?_
  refine' zt 7 ?_
  refine' zt 8 ?_
  refine wpAnyH_done (by kernel_rfl) ?_ _
  by_cases h1 : a < a'
  ·have h1d : decide (a < a') = true := decide_eq_true h1
   rw [if_pos h1] at hd
   subst hd
   go_wp2_with fail
   go_ret
   exact ⟨rfl, zxt⟩
  have h1d : decide (a < a') = false := decide_eq_false h1
  go_wp2_with fail
  refine wp_region_held_drew (S := fun w' => w'.cell? ⟨w.heap.size + 1 + 1, 0, none⟩ = some (.int .i64 a) ∧ w'.cell? ⟨w.heap.size + 1 + 1 + 1, 0, none⟩ = some (.int .i64 a')) (by kernel_rfl) (by first | with_reducible exact ⟨x_0, y_0⟩ | (simp [go_sem, World.cell?_alloc_past, x_0, y_0]; done)) (fun hHeld => ?_)
  refine' zt 0 ?_
  refine' zt 1 ?_
  refine' zt 2 ?_
  refine' zt 3 ?_
  refine' zt 4 ?_
  refine' zt 5 ?_
  refine' zt 6 ?_
  refine' zt 7 ?_
  refine' zt 8 ?_
  refine wpAnyH_done (by kernel_rfl) ?_ _
  by_cases h2 : a' < a
  ·have h2d : decide (a' < a) = true := decide_eq_true h2
   rw [if_neg (by omega), if_pos (by omega)] at hd
   subst hd
   go_wp2_with fail
   go_ret
   exact ⟨rfl, zxt⟩
  have h2d : decide (a' < a) = false := decide_eq_false h2
  rw [if_neg (by omega), if_neg (by omega)] at hd
  have H := Lib.hid hd
  clear hd
  go_wp2_with fail
  go_roundg 3
  case measure => decide
  exact ⟨by decide, rfl, H, ⟨x_0, x_1, x_2, x_3, y_0, y_1, y_2, y_3⟩, zxt⟩
 ·change _ = Value.int .i64 1 at hi
  obtain rfl := hi
  have hd := H.out.trans (cmpL_drop (l := [(a, a'), (b, b'), (c, c'), (d, d')]) (k := 1) (x := (b, b')) rfl)
  clear H
  go_wp2_with fail
  refine wp_region_held_drew (S := fun w' => w'.cell? ⟨w.heap.size + 1 + 1, 1, none⟩ = some (.int .i64 b) ∧ w'.cell? ⟨w.heap.size + 1 + 1 + 1, 1, none⟩ = some (.int .i64 b')) (by kernel_rfl) (by first | with_reducible exact ⟨x_1, y_1⟩ | (simp [go_sem, World.cell?_alloc_past, x_1, y_1]; done)) (fun hHeld => ?_)
  refine' zt 0 ?_
  refine' zt 1 ?_
  refine' zt 2 ?_
  refine' zt 3 ?_
  refine' zt 4 ?_
  refine' zt 5 ?_
  refine' zt 6 ?_
  refine' zt 7 ?_
  refine' zt 8 ?_
  refine wpAnyH_done (by kernel_rfl) ?_ _
  by_cases h1 : b < b'
  ·have h1d : decide (b < b') = true := decide_eq_true h1
   rw [if_pos h1] at hd
   subst hd
   go_wp2_with fail
   go_ret
   exact ⟨rfl, zxt⟩
  have h1d : decide (b < b') = false := decide_eq_false h1
  go_wp2_with fail
  refine wp_region_held_drew (S := fun w' => w'.cell? ⟨w.heap.size + 1 + 1, 1, none⟩ = some (.int .i64 b) ∧ w'.cell? ⟨w.heap.size + 1 + 1 + 1, 1, none⟩ = some (.int .i64 b')) (by kernel_rfl) (by first | with_reducible exact ⟨x_1, y_1⟩ | (simp [go_sem, World.cell?_alloc_past, x_1, y_1]; done)) (fun hHeld => ?_)
  refine' zt 0 ?_
  refine' zt 1 ?_
  refine' zt 2 ?_
  refine' zt 3 ?_
  refine' zt 4 ?_
  refine' zt 5 ?_
  refine' zt 6 ?_
  refine' zt 7 ?_
  refine' zt 8 ?_
  refine wpAnyH_done (by kernel_rfl) ?_ _
  by_cases h2 : b' < b
  ·have h2d : decide (b' < b) = true := decide_eq_true h2
   rw [if_neg (by omega), if_pos (by omega)] at hd
   subst hd
   go_wp2_with fail
   go_ret
   exact ⟨rfl, zxt⟩
  have h2d : decide (b' < b) = false := decide_eq_false h2
  rw [if_neg (by omega), if_neg (by omega)] at hd
  have H := Lib.hid hd
  clear hd
  go_wp2_with fail
  go_roundg 2
  case measure => decide
  exact ⟨by decide, rfl, H, ⟨x_0, x_1, x_2, x_3, y_0, y_1, y_2, y_3⟩, zxt⟩
 ·change _ = Value.int .i64 2 at hi
  obtain rfl := hi
  have hd := H.out.trans (cmpL_drop (l := [(a, a'), (b, b'), (c, c'), (d, d')]) (k := 2) (x := (c, c')) rfl)
  clear H
  go_wp2_with fail
  refine wp_region_held_drew (S := fun w' => w'.cell? ⟨w.heap.size + 1 + 1, 2, none⟩ = some (.int .i64 c) ∧ w'.cell? ⟨w.heap.size + 1 + 1 + 1, 2, none⟩ = some (.int .i64 c')) (by kernel_rfl) (by first | with_reducible exact ⟨x_2, y_2⟩ | (simp [go_sem, World.cell?_alloc_past, x_2, y_2]; done)) (fun hHeld => ?_)
  refine' zt 0 ?_
  refine' zt 1 ?_
  refine' zt 2 ?_
  refine' zt 3 ?_
  refine' zt 4 ?_
  refine' zt 5 ?_
  refine' zt 6 ?_
  refine' zt 7 ?_
  refine' zt 8 ?_
  refine wpAnyH_done (by kernel_rfl) ?_ _
  by_cases h1 : c < c'
  ·have h1d : decide (c < c') = true := decide_eq_true h1
   rw [if_pos h1] at hd
   subst hd
   go_wp2_with fail
   go_ret
   exact ⟨rfl, zxt⟩
  have h1d : decide (c < c') = false := decide_eq_false h1
  go_wp2_with fail
  refine wp_region_held_drew (S := fun w' => w'.cell? ⟨w.heap.size + 1 + 1, 2, none⟩ = some (.int .i64 c) ∧ w'.cell? ⟨w.heap.size + 1 + 1 + 1, 2, none⟩ = some (.int .i64 c')) (by kernel_rfl) (by first | with_reducible exact ⟨x_2, y_2⟩ | (simp [go_sem, World.cell?_alloc_past, x_2, y_2]; done)) (fun hHeld => ?_)
  refine' zt 0 ?_
  refine' zt 1 ?_
  refine' zt 2 ?_
  refine' zt 3 ?_
  refine' zt 4 ?_
  refine' zt 5 ?_
  refine' zt 6 ?_
  refine' zt 7 ?_
  refine' zt 8 ?_
  refine wpAnyH_done (by kernel_rfl) ?_ _
  by_cases h2 : c' < c
  ·have h2d : decide (c' < c) = true := decide_eq_true h2
   rw [if_neg (by omega), if_pos (by omega)] at hd
   subst hd
   go_wp2_with fail
   go_ret
   exact ⟨rfl, zxt⟩
  have h2d : decide (c' < c) = false := decide_eq_false h2
  rw [if_neg (by omega), if_neg (by omega)] at hd
  have H := Lib.hid hd
  clear hd
  go_wp2_with fail
  go_roundg 1
  case measure => decide
  exact ⟨by decide, rfl, H, ⟨x_0, x_1, x_2, x_3, y_0, y_1, y_2, y_3⟩, zxt⟩
 change _ = Value.int .i64 3 at hi
 obtain rfl := hi
 have hd := H.out.trans (cmpL_drop (l := [(a, a'), (b, b'), (c, c'), (d, d')]) (k := 3) (x := (d, d')) rfl)
 clear H
 go_wp2_with fail
 refine wp_region_held_drew (S := fun w' => w'.cell? ⟨w.heap.size + 1 + 1, 3, none⟩ = some (.int .i64 d) ∧ w'.cell? ⟨w.heap.size + 1 + 1 + 1, 3, none⟩ = some (.int .i64 d')) (by kernel_rfl) (by first | with_reducible exact ⟨x_3, y_3⟩ | (simp [go_sem, World.cell?_alloc_past, x_3, y_3]; done)) (fun hHeld => ?_)
 refine' zt 0 ?_
 refine' zt 1 ?_
 refine' zt 2 ?_
 refine' zt 3 ?_
 refine' zt 4 ?_
 refine' zt 5 ?_
 refine' zt 6 ?_
 refine' zt 7 ?_
 refine' zt 8 ?_
 refine wpAnyH_done (by kernel_rfl) ?_ _
 by_cases h1 : d < d'
 ·have h1d : decide (d < d') = true := decide_eq_true h1
  rw [if_pos h1] at hd
  subst hd
  go_wp2_with fail
  go_ret
  exact ⟨rfl, zxt⟩
 have h1d : decide (d < d') = false := decide_eq_false h1
 go_wp2_with fail
 refine wp_region_held_drew (S := fun w' => w'.cell? ⟨w.heap.size + 1 + 1, 3, none⟩ = some (.int .i64 d) ∧ w'.cell? ⟨w.heap.size + 1 + 1 + 1, 3, none⟩ = some (.int .i64 d')) (by kernel_rfl) (by first | with_reducible exact ⟨x_3, y_3⟩ | (simp [go_sem, World.cell?_alloc_past, x_3, y_3]; done)) (fun hHeld => ?_)
 refine' zt 0 ?_
 refine' zt 1 ?_
 refine' zt 2 ?_
 refine' zt 3 ?_
 refine' zt 4 ?_
 refine' zt 5 ?_
 refine' zt 6 ?_
 refine' zt 7 ?_
 refine' zt 8 ?_
 refine wpAnyH_done (by kernel_rfl) ?_ _
 by_cases h2 : d' < d
 ·have h2d : decide (d' < d) = true := decide_eq_true h2
  rw [if_neg (by omega), if_pos (by omega)] at hd
  subst hd
  go_wp2_with fail
  go_ret
  exact ⟨rfl, zxt⟩
 have h2d : decide (d' < d) = false := decide_eq_false h2
 rw [if_neg (by omega), if_neg (by omega)] at hd
 have H := Lib.hid hd
 clear hd
 go_wp2_with fail
 go_roundg 0
 case measure => decide
 exact ⟨by decide, rfl, H, ⟨x_0, x_1, x_2, x_3, y_0, y_1, y_2, y_3⟩, zxt⟩
theorem rCompare12_at (a b c d a' b' c' d' V : Int) (w : World) (hV : V = cmpL [(a, a'), (b, b'), (c, c'), (d, d')]) :
  Calls Tryz.prog 119 #[.agg #[.int .i64 a, .int .i64 b, .int .i64 c, .int .i64 d], .agg #[.int .i64 a', .int .i64 b', .int .i64 c', .int .i64 d']] w fun r w' => r = .returned (.int .i64 V) ∧ Ext w w' := by
 subst hV
 exact rCompare12_any a b c d a' b' c' d' w
def FndI {α : Type} (key : α → List Int) (l : List α) (q : List Int) (i : Int) : Prop := (i = -1 ∧ getK key l q = none) ∨ ∃ (m : Nat) (x : α), i = (m : Int) ∧ l[m]? = some x ∧ getK key l q = some x
theorem getK_step_none {α : Type} {key : α → List Int} {l : List α} {q : List Int} {k : Nat} {x : α} (h : getK key (l.take k) q = none) (hx : l[k]? = some x) (hn : key x ≠ q) : getK key (l.take (k + 1)) q = none := by
 unfold getK at h ⊢
 rw [List.take_add_one, hx, List.find?_append, h]
 simp [hn]
theorem getK_step_some {α : Type} {key : α → List Int} {l : List α} {q : List Int} {k : Nat} {x : α} (h : getK key (l.take k) q = none) (hx : l[k]? = some x) (he : key x = q) : getK key l q = some x := by
 have e : l = l.take k ++ x :: l.drop (k + 1) := by rw [← drop_at hx, List.take_append_drop]
 unfold getK at h ⊢
 rw [e, List.find?_append, h]
 simp [he]
theorem r13owner_any (x : Int) (w : World) : Calls Tryz.prog 64 #[.int .i64 x] w fun r w' => r = .returned (.bool (decide (0 ≤ x ∧ x < 64))) ∧ w' = w := by
 by_cases h1 : 0 ≤ x
 ·by_cases h2 : x < 64
  ·rw [decide_eq_true (And.intro h1 h2)]
   go_enter Tryz.func64, Tryz.ntmps64
   go_wp2
   go_ret
   exact ⟨by simp [*], rfl⟩
  rw [decide_eq_false (fun h => h2 h.2)]
  go_enter Tryz.func64, Tryz.ntmps64
  go_wp2
  go_ret
  exact ⟨by simp [*], rfl⟩
 rw [decide_eq_false (fun h => h1 h.1)]
 go_enter Tryz.func64, Tryz.ntmps64
 go_wp2
 go_ret
 exact ⟨by simp [*], rfl⟩
theorem r13class_any (n c n2 c2 : Nat) (A A2 : Option Addr) (cl : List I6) (V S P Q : Int) (w : World) (h : Sl w 6 A n c (cl.flatMap clsC)) :
  Calls Tryz.prog 66 #[.agg #[.slice A n c, .slice A2 n2 c2], .agg #[.int .i64 V, .int .i64 S, .int .i64 P, .int .i64 Q]] w fun r w' => ∃ i, r = .returned (.int .i64 i) ∧ FndI kC cl [V, S, P, Q] i ∧ Ext w w' := by
 have hll := h.rlen clsC_len (by decide)
 have hsm := h.small
 have HS := Lib.hid h
 have HLL := Lib.hid hll
 have pq1 := stm_eq
 have pq2 := stm_eqg
 clear h hll
 go_enter Tryz.func66, Tryz.ntmps66
 go_wp2
 go_loopg [5] n (fun gh i wx => gh ≤ n ∧ i = .int .i64 ((n - gh : Nat) : Int) ∧ Hid (getK kC (cl.take (n - gh)) [V, S, P, Q] = none) ∧ (wx.cell? ⟨w.heap.size, 0, none⟩ = some (.slice A n c) ∧ wx.cell? ⟨w.heap.size, 1, none⟩ = some (.slice A2 n2 c2) ∧ wx.cell? ⟨w.heap.size + 1, 0, none⟩ = some (.int .i64 V) ∧ wx.cell? ⟨w.heap.size + 1, 1, none⟩ = some (.int .i64 S) ∧ wx.cell? ⟨w.heap.size + 1, 2, none⟩ = some (.int .i64 P) ∧ wx.cell? ⟨w.heap.size + 1, 3, none⟩ = some (.int .i64 Q)) ∧ Ext w wx)
 case atStart => exact ⟨Nat.le_refl _, by simp, by rw [Nat.sub_self]; exact Lib.hid (by simp [getK]), ⟨by simp [go_sem, World.cell?_alloc_past], by simp [go_sem, World.cell?_alloc_past], by simp [go_sem, World.cell?_alloc_past], by simp [go_sem, World.cell?_alloc_past], by simp [go_sem, World.cell?_alloc_past], by simp [go_sem, World.cell?_alloc_past]⟩, zxt⟩
 obtain ⟨hg, hi, HI, ⟨b_0, b_1, s_0, s_1, s_2, s_3⟩, hx⟩ := hrel
 have XR := Lib.hid hx
 obtain ⟨k, hk⟩ : ∃ k, k = n - gk := ⟨_, rfl⟩
 rw [← hk] at hi HI
 subst hi
 by_cases hz : gk = 0
 ·have hkn : ¬ (k : Int) < (n : Int) := by omega
  have hN : getK kC cl [V, S, P, Q] = none := by have h := HI.out; rwa [List.take_of_length_le (by have := HLL.out; omega)] at h
  have HN := Lib.hid hN
  clear hk hg hz HI hx hN
  go_wp2
  go_ret
  exact ⟨_, rfl, .inl ⟨rfl, HN.out⟩, zxt⟩
 have hkn : (k : Int) < (n : Int) := by omega
 have hkl : k < cl.length := by have := HLL.out; omega
 have HSr := Lib.hid (HS.out.ext XR.out)
 obtain ⟨b1, o1, rfl, hb1, hc_x⟩ := HSr.out.rec_ clsC_len (show 0 < n from by omega)
 obtain ⟨xw, hl_x⟩ : ∃ x, cl[k]? = some x := ⟨_, List.getElem?_eq_getElem (by omega)⟩
 have x_0 := hc_x (k) xw hl_x 0 _ rfl
 have x_1 := hc_x (k) xw hl_x 1 _ rfl
 have x_2 := hc_x (k) xw hl_x 2 _ rfl
 have x_3 := hc_x (k) xw hl_x 3 _ rfl
 have x_4 := hc_x (k) xw hl_x 4 _ rfl
 have x_5 := hc_x (k) xw hl_x 5 _ rfl
 obtain ⟨xv, xs, xp, xf, xt, xh⟩ := xw
 simp only at x_0 x_1 x_2 x_3 x_4 x_5
 rw [Nat.add_zero] at x_0
 rw [← Nat.add_assoc] at x_1 x_2 x_3 x_4 x_5
 have HK := Lib.hid (And.intro hk (And.intro hg hz))
 have HX := Lib.hid hl_x
 clear hk hg hz hkl hl_x hc_x HSr hx
 by_cases hq : xv = V ∧ xs = S ∧ xp = P ∧ xf = Q
 ·have hqb := four_true hq
  have HQ := Lib.hid hq
  clear hq
  go_wp2_with fail
  refine wp_region_held_drew (S := fun w' => w'.cell? ⟨w.heap.size, 0, none⟩ = some (.slice (some ⟨b1, o1, none⟩) n c) ∧ w'.cell? ⟨w.heap.size + 1, 0, none⟩ = some (.int .i64 V) ∧ w'.cell? ⟨w.heap.size + 1, 1, none⟩ = some (.int .i64 S) ∧ w'.cell? ⟨w.heap.size + 1, 2, none⟩ = some (.int .i64 P) ∧ w'.cell? ⟨w.heap.size + 1, 3, none⟩ = some (.int .i64 Q) ∧ w'.cell? ⟨b1, o1 + k * 6, none⟩ = some (.int .i64 xv) ∧ w'.cell? ⟨b1, o1 + k * 6 + 1, none⟩ = some (.int .i64 xs) ∧ w'.cell? ⟨b1, o1 + k * 6 + 2, none⟩ = some (.int .i64 xp) ∧ w'.cell? ⟨b1, o1 + k * 6 + 3, none⟩ = some (.int .i64 xf)) (by kernel_rfl) (by first | with_reducible exact ⟨b_0, s_0, s_1, s_2, s_3, x_0, x_1, x_2, x_3⟩ | (simp [go_sem, World.cell?_alloc_past, *]; done)) (fun hHeld => ?_)
  refine' zt 0 ?_
  refine' zt 1 ?_
  refine' zt 2 ?_
  refine' zt 3 ?_
  refine' zt 4 ?_
  refine' zt 5 ?_
  refine' zt 6 ?_
  refine' zt 7 ?_
  refine wpAnyH_done (by kernel_rfl) ?_ _
  go_wp2_with fail
  go_ret
  exact ⟨_, rfl, .inr ⟨k, _, rfl, HX.out, getK_step_some HI.out HX.out (kC_eq HQ.out)⟩, zxt⟩
 have hqb := four_false hq
 have HQ := Lib.hid hq
 clear hq
 go_wp2_with fail
 refine wp_region_held_drew (S := fun w' => w'.cell? ⟨w.heap.size, 0, none⟩ = some (.slice (some ⟨b1, o1, none⟩) n c) ∧ w'.cell? ⟨w.heap.size + 1, 0, none⟩ = some (.int .i64 V) ∧ w'.cell? ⟨w.heap.size + 1, 1, none⟩ = some (.int .i64 S) ∧ w'.cell? ⟨w.heap.size + 1, 2, none⟩ = some (.int .i64 P) ∧ w'.cell? ⟨w.heap.size + 1, 3, none⟩ = some (.int .i64 Q) ∧ w'.cell? ⟨b1, o1 + k * 6, none⟩ = some (.int .i64 xv) ∧ w'.cell? ⟨b1, o1 + k * 6 + 1, none⟩ = some (.int .i64 xs) ∧ w'.cell? ⟨b1, o1 + k * 6 + 2, none⟩ = some (.int .i64 xp) ∧ w'.cell? ⟨b1, o1 + k * 6 + 3, none⟩ = some (.int .i64 xf)) (by kernel_rfl) (by first | with_reducible exact ⟨b_0, s_0, s_1, s_2, s_3, x_0, x_1, x_2, x_3⟩ | (simp [go_sem, World.cell?_alloc_past, *]; done)) (fun hHeld => ?_)
 refine' zt 0 ?_
 refine' zt 1 ?_
 refine' zt 2 ?_
 refine' zt 3 ?_
 refine' zt 4 ?_
 refine' zt 5 ?_
 refine' zt 6 ?_
 refine' zt 7 ?_
 refine wpAnyH_done (by kernel_rfl) ?_ _
 go_wp2_with fail
 go_roundg (gk - 1)
 case measure => have := HK.out; omega
 exact ⟨by have := HK.out; omega, num_eq (by have := HK.out; omega), by rw [show n - (gk - 1) = k + 1 from by have := HK.out; omega]; exact Lib.hid (getK_step_none HI.out HX.out (kC_ne (t := xt) (s := xh) HQ.out)), ⟨b_0, b_1, s_0, s_1, s_2, s_3⟩, zxt⟩
theorem r13below_any (xo xv xs xp xf xh yo yv ys yp yf yh : Int) (w : World) :
  Calls Tryz.prog 65 #[.agg #[.int .i64 xo, .int .i64 xv, .int .i64 xs, .int .i64 xp, .int .i64 xf, .int .u64 xh], .agg #[.int .i64 yo, .int .i64 yv, .int .i64 ys, .int .i64 yp, .int .i64 yf, .int .u64 yh]] w fun r w' => r = .returned (.bool (decide (cmpK [xo, xv, xs, xp, xf] [yo, yv, ys, yp, yf] < 0))) ∧ Ext w w' := by
 obtain ⟨G, hG⟩ : ∃ G, G = cmpL [(xv, yv), (xs, ys), (xp, yp), (xf, yf)] := ⟨_, rfl⟩
 have CG := Lib.hid (fun w => rCompare12_at xv xs xp xf yv ys yp yf G w hG)
 obtain ⟨B, hB⟩ : ∃ B, B = decide (cmpK [xo, xv, xs, xp, xf] [yo, yv, ys, yp, yf] < 0) := ⟨_, rfl⟩
 have hBe : B = if xo < yo then true else if yo < xo then false else decide (G < 0) := by
  rw [hB, hG, cmpK_cons]
  by_cases h1 : xo < yo
  ·rw [if_pos h1, if_pos h1]; rfl
  rw [if_neg h1, if_neg h1]
  by_cases h2 : yo < xo
  ·rw [if_pos h2, if_pos h2]; rfl
  rw [if_neg h2, if_neg h2]; rfl
 rw [← hB]
 clear hG hB
 go_enter Tryz.func65, Tryz.ntmps65
 by_cases q1 : ¬ xo = yo
 ·have q1b : (xo != yo) = true := by simp [q1]
  obtain rfl : B = decide (xo < yo) := by rw [hBe]; by_cases h1 : xo < yo; rw [if_pos h1, decide_eq_true h1]; rw [if_neg h1, if_pos (by omega), decide_eq_false h1]
  clear hBe
  go_wp2_with fail
  go_ret
  exact ⟨by first | rfl | simp, zxt⟩
 have q1b : (xo != yo) = false := by simpa using q1
 obtain rfl : B = decide (G < 0) := by rw [hBe, if_neg (by omega), if_neg (by omega)]
 clear hBe
 go_wp2_with fail
 (with_reducible refine (CG.out _).mono ?_)
 rintro e w1 ⟨rfl, hx1⟩
 have z1 := hx1.size
 try simp at z1
 have X1 : Hid (Ext w w1) := Lib.hid (Ext.trans zxt hx1)
 clear hx1 z1
 go_wp2_with fail
 go_ret
 exact ⟨by first | rfl | simp, zxt⟩
def capT (cl : List I6) : Int := if totC cl < 18446744073709551616 then totC cl else 18446744073709551615
theorem clsV_long {cl : List I6} (h : 1024 < cl.length) : clsV cl = 4 := if_pos h
theorem clsV_go {cl : List I6} (h : ¬ 1024 < cl.length) (h2 : clsGo none cl ≠ 0) : clsV cl = clsGo none cl := by unfold clsV; rw [if_neg h, if_pos h2]
theorem clsV_tot {cl : List I6} (h : ¬ 1024 < cl.length) (h2 : clsGo none cl = 0) : clsV cl = if 4611686018427387904 < capT cl then 12 else 0 := by
 unfold clsV capT
 rw [if_neg h, if_neg (by simpa using h2)]
 by_cases h3 : totC cl < 18446744073709551616
 ·rw [if_pos h3]
  by_cases h4 : totC cl ≤ 4611686018427387904
  ·rw [if_pos h4, if_neg (by omega)]
  rw [if_neg h4, if_pos (by omega)]
 rw [if_neg h3, if_neg (by omega), if_pos (by decide)]
theorem clsGo_at {cl : List I6} {k : Nat} {x : I6} {v : Int} (h : clsGo none cl = clsGo (prK kC cl k) (cl.drop k)) (hx : cl[k]? = some x) (h1 : clsOne (prK kC cl k) x = v) (hv : v ≠ 0) : clsGo none cl = v := by
 rw [h, drop_at hx]
 show (if clsOne (prK kC cl k) x ≠ 0 then _ else _) = _
 rw [h1, if_pos hv]
theorem clsGo_next {cl : List I6} {k : Nat} {x : I6} (h : clsGo none cl = clsGo (prK kC cl k) (cl.drop k)) (hx : cl[k]? = some x) (h1 : clsOne (prK kC cl k) x = 0) : clsGo none cl = clsGo (prK kC cl (k + 1)) (cl.drop (k + 1)) := by
 rw [h, drop_at hx, prK_succ hx]
 show (if clsOne (prK kC cl k) x ≠ 0 then _ else _) = _
 rw [if_neg (by simpa using h1)]
theorem clsGo_end {cl : List I6} {k : Nat} (h : clsGo none cl = clsGo (prK kC cl k) (cl.drop k)) (hk : cl.length ≤ k) : clsGo none cl = 0 := by
 rw [h, List.drop_of_length_le hk]
 rfl
theorem r13all_any (n c n2 c2 : Nat) (A A2 : Option Addr) (cl : List I6) (w : World) (h : Sl w 6 A n c (cl.flatMap clsC)) (hw : ∀ x ∈ cl, WdC x) :
  Calls Tryz.prog 84 #[.agg #[.slice A n c, .slice A2 n2 c2]] w fun r w' => r = .returned (.int .u64 (capT cl)) ∧ Ext w w' := by
 have hll := h.rlen clsC_len (by decide)
 have hsm := h.small
 have HS := Lib.hid h
 have HLL := Lib.hid hll
 have HW := Lib.hid hw
 obtain ⟨R, hR⟩ : ∃ R, R = capT cl := ⟨_, rfl⟩
 rw [← hR]
 have HR := Lib.hid hR
 clear h hll hw hR
 go_enter Tryz.func84, Tryz.ntmps84
 go_wp2
 go_loopg [3, 4] n (fun gh a i wx => gh ≤ n ∧ i = .int .i64 ((n - gh : Nat) : Int) ∧ a = .int .u64 (totC (cl.take (n - gh))) ∧ Hid (totC (cl.take (n - gh)) < 18446744073709551616) ∧ (wx.cell? ⟨w.heap.size, 0, none⟩ = some (.slice A n c) ∧ wx.cell? ⟨w.heap.size, 1, none⟩ = some (.slice A2 n2 c2)) ∧ Hid (Ext w wx))
 case atStart => exact ⟨Nat.le_refl _, by simp, by rw [Nat.sub_self]; rfl, by rw [Nat.sub_self]; exact Lib.hid (show (0 : Int) < 18446744073709551616 from by decide), ⟨by simp [go_sem, World.cell?_alloc_past], by simp [go_sem, World.cell?_alloc_past]⟩, Lib.hid zxt⟩
 obtain ⟨hg, hi, ha, HB, ⟨b_0, b_1⟩, XR⟩ := hrel
 obtain ⟨k, hk⟩ : ∃ k, k = n - gk := ⟨_, rfl⟩
 rw [← hk] at hi ha HB
 subst hi
 obtain ⟨t, ht⟩ : ∃ t, t = totC (cl.take k) := ⟨_, rfl⟩
 rw [← ht] at ha HB
 subst ha
 by_cases hz : gk = 0
 ·have hkn : ¬ (k : Int) < (n : Int) := by omega
  have hT : t = R := by
   have e : t = totC cl := by rw [ht, List.take_of_length_le (by have := HLL.out; omega)]
   have hb := HB.out
   rw [HR.out]
   unfold capT
   rw [if_pos (by omega), e]
  clear hk hg hz ht HR HB
  subst hT
  go_wp2
  go_ret
  exact ⟨rfl, XR.out⟩
 have hkn : (k : Int) < (n : Int) := by omega
 have hkl : k < cl.length := by have := HLL.out; omega
 have HSr := Lib.hid (HS.out.ext XR.out)
 obtain ⟨b1, o1, rfl, hb1, hc_x⟩ := HSr.out.rec_ clsC_len (show 0 < n from by omega)
 obtain ⟨xw, hl_x⟩ : ∃ x, cl[k]? = some x := ⟨_, List.getElem?_eq_getElem (by omega)⟩
 have x_0 := hc_x (k) xw hl_x 0 _ rfl
 have x_1 := hc_x (k) xw hl_x 1 _ rfl
 have x_2 := hc_x (k) xw hl_x 2 _ rfl
 have x_3 := hc_x (k) xw hl_x 3 _ rfl
 have x_4 := hc_x (k) xw hl_x 4 _ rfl
 have x_5 := hc_x (k) xw hl_x 5 _ rfl
 obtain ⟨xv, xs, xp, xf, xt, xh⟩ := xw
 simp only at x_0 x_1 x_2 x_3 x_4 x_5
 rw [Nat.add_zero] at x_0
 rw [← Nat.add_assoc] at x_1 x_2 x_3 x_4 x_5
 have hst : totC (cl.take (k + 1)) = t + xt := by rw [ht]; exact addF_take toC hl_x
 have hb0 : 0 ≤ t := by rw [ht]; exact addF_nn (fun y hy => (HW.out y (List.mem_of_mem_take hy)).1.1)
 have hxw := (HW.out _ (List.mem_of_getElem? hl_x)).1
 have hle : totC (cl.take (k + 1)) ≤ totC cl := addF_le (fun y hy => (HW.out y hy).1.1) (k + 1)
 have CA := Lib.hid (fun w => rAdd_any t xt ⟨hb0, HB.out⟩ hxw w)
 have HT := Lib.hid hst
 have HLE := Lib.hid hle
 have HK := Lib.hid (And.intro hk (And.intro hg hz))
 obtain ⟨N, hN⟩ : ∃ N, N = addN t xt := ⟨_, rfl⟩
 obtain ⟨EA, hEA⟩ : ∃ EA, EA = addE t xt := ⟨_, rfl⟩
 rw [← hN, ← hEA] at CA
 have HN := Lib.hid (And.intro hN hEA)
 have hb1s : ¬ b1 = wr.heap.size := by omega
 clear hk hg hz hkl hl_x hc_x HSr ht hst hle hxw hb0 hN hEA
 go_wp2_with fail
 (with_reducible refine (CA.out _).mono ?_)
 rintro e w_1 ⟨rfl, rfl⟩
 by_cases q : ¬ t + xt < 18446744073709551616
 ·obtain rfl : EA = 12 := by rw [HN.out.2]; exact if_neg q
  obtain rfl : R = 18446744073709551615 := by rw [HR.out]; unfold capT; rw [if_neg (by have := HLE.out; rw [HT.out] at this; omega)]
  go_wp2_with fail
  go_ret
  exact ⟨rfl, zxt⟩
 replace q : t + xt < 18446744073709551616 := by omega
 obtain rfl : EA = 0 := by rw [HN.out.2]; exact if_pos q
 obtain rfl : N = t + xt := by rw [HN.out.1]; exact if_pos q
 go_wp2_with fail
 go_roundg (gk - 1)
 case measure => have := HK.out; omega
 exact ⟨by have := HK.out; omega, num_eq (by have := HK.out; omega), num_eq (by rw [show n - (gk - 1) = k + 1 from by have := HK.out; omega]; exact HT.out.symm), by rw [show n - (gk - 1) = k + 1 from by have := HK.out; omega, HT.out]; exact Lib.hid q, ⟨b_0, b_1⟩, Lib.hid zxt⟩
theorem r13classes_any (n c n2 c2 : Nat) (A A2 : Option Addr) (cl : List I6) (w : World) (h : Sl w 6 A n c (cl.flatMap clsC)) (hw : ∀ x ∈ cl, WdC x) :
  Calls Tryz.prog 63 #[.agg #[.slice A n c, .slice A2 n2 c2]] w fun r w' => r = .returned (.int .i64 (clsV cl)) ∧ Ext w w' := by
 have hll := h.rlen clsC_len (by decide)
 have hsm := h.small
 by_cases hL : 1024 < n
 ·have hV := clsV_long (cl := cl) (by omega)
  rw [hV]
  have hL2 : (1024 : Int) < (n : Int) := by omega
  clear h hll hw hV
  go_enter Tryz.func63, Tryz.ntmps63
  go_wp2
  go_ret
  exact ⟨rfl, zxt⟩
 have hL2 : ¬ (1024 : Int) < (n : Int) := by omega
 have HS := Lib.hid h
 have HW := Lib.hid hw
 have HLL := Lib.hid (And.intro hll hL)
 have pq1 := pol_eq
 have pq2 := pol_eqg
 obtain ⟨V, hV⟩ : ∃ V, V = clsV cl := ⟨_, rfl⟩
 rw [← hV]
 have HV := Lib.hid hV
 have C3 := Lib.hid (fun (w' : World) (hx : Ext w w') => r13all_any n c n2 c2 A A2 cl w' (h.ext hx) hw)
 obtain ⟨CT, hCT⟩ : ∃ t, t = capT cl := ⟨_, rfl⟩
 rw [← hCT] at C3
 have HCT := Lib.hid hCT
 clear h hw hll hL hV hCT
 go_enter Tryz.func63, Tryz.ntmps63
 go_wp2
 go_loopg [3] n (fun gh i wx => gh ≤ n ∧ i = .int .i64 ((n - gh : Nat) : Int) ∧ Hid (clsGo none cl = clsGo (prK kC cl (n - gh)) (cl.drop (n - gh))) ∧ (wx.cell? ⟨w.heap.size, 0, none⟩ = some (.slice A n c) ∧ wx.cell? ⟨w.heap.size, 1, none⟩ = some (.slice A2 n2 c2)) ∧ Hid (Ext w wx))
 case atStart => exact ⟨Nat.le_refl _, by simp, by rw [Nat.sub_self]; exact Lib.hid rfl, ⟨by simp [go_sem, World.cell?_alloc_past], by simp [go_sem, World.cell?_alloc_past]⟩, Lib.hid zxt⟩
 obtain ⟨hg, hi, HI, ⟨b_0, b_1⟩, XR⟩ := hrel
 obtain ⟨k, hk⟩ : ∃ k, k = n - gk := ⟨_, rfl⟩
 rw [← hk] at hi HI
 subst hi
 have hqr := cell_lt b_0
 by_cases hz : gk = 0
 ·have hkn : ¬ (k : Int) < (n : Int) := by omega
  have hG := clsGo_end HI.out (by have := HLL.out; omega)
  have HD := Lib.hid (clsV_tot (show ¬ 1024 < cl.length from by have := HLL.out; omega) hG)
  rw [← HV.out, ← HCT.out] at HD
  clear hk hg hz HI hG HV HCT
  go_wp2_with fail
  (with_reducible refine (C3.out _ zxt).mono ?_)
  rintro e w41 ⟨rfl, hx41⟩
  have z41 := hx41.size
  try simp at z41
  have X41 : Hid (Ext w w41) := Lib.hid (Ext.trans zxt hx41)
  clear b_0 b_1 XR hx41 z41
  by_cases q : 4611686018427387904 < CT
  ·obtain rfl : V = 12 := HD.out.trans (if_pos q)
   have qd : decide (4611686018427387904 < CT) = true := decide_eq_true q
   go_wp2_with fail
   go_ret
   exact ⟨rfl, zxt⟩
  obtain rfl : V = 0 := HD.out.trans (if_neg q)
  have qd : decide (4611686018427387904 < CT) = false := decide_eq_false q
  go_wp2_with fail
  go_ret
  exact ⟨rfl, zxt⟩
 have hkn : (k : Int) < (n : Int) := by omega
 have hkl : k < cl.length := by have := HLL.out; omega
 have HSr := Lib.hid (HS.out.ext XR.out)
 obtain ⟨b1, o1, rfl, hb1, hc_x⟩ := HSr.out.rec_ clsC_len (show 0 < n from by omega)
 obtain ⟨xw, hl_x⟩ : ∃ x, cl[k]? = some x := ⟨_, List.getElem?_eq_getElem (by omega)⟩
 have x_0 := hc_x (k) xw hl_x 0 _ rfl
 have x_1 := hc_x (k) xw hl_x 1 _ rfl
 have x_2 := hc_x (k) xw hl_x 2 _ rfl
 have x_3 := hc_x (k) xw hl_x 3 _ rfl
 have x_4 := hc_x (k) xw hl_x 4 _ rfl
 have x_5 := hc_x (k) xw hl_x 5 _ rfl
 obtain ⟨xv, xs, xp, xf, xt, xh⟩ := xw
 simp only at x_0 x_1 x_2 x_3 x_4 x_5
 rw [Nat.add_zero] at x_0
 rw [← Nat.add_assoc] at x_1 x_2 x_3 x_4 x_5
 have hwx := HW.out _ (List.mem_of_getElem? hl_x)
 have CS := Lib.hid (fun w => pCheck_any xt xh w)
 obtain ⟨ES, hES⟩ : ∃ ES, ES = chkS xv xs xp xf := ⟨_, rfl⟩
 have CT := Lib.hid (fun w => rCheck12_any xv xs xp xf w)
 rw [← hES] at CT
 obtain ⟨EP, hEP⟩ : ∃ EP, EP = chkE xt xh := ⟨_, rfl⟩
 rw [← hEP] at CS
 have HK := Lib.hid (And.intro hk (And.intro hg hz))
 have HX := Lib.hid (And.intro hl_x (And.intro hES hEP))
 have hb1s : ¬ b1 = wr.heap.size := by omega
 have hqs : ¬ w.heap.size = wr.heap.size := by omega
 by_cases hk0 : k = 0
 ·subst hk0
  have HP := Lib.hid (show prevGe (prK kC cl 0) [xv, xs, xp, xf] = false from rfl)
  clear hk hg hz hkl hl_x hwx hES hEP hc_x HSr
  simp only [Nat.zero_mul, Nat.add_zero] at x_0 x_1 x_2 x_3 x_4 x_5
  simp only [Int.cast_ofNat_Int] at hkn ⊢
  go_wp2_with fail
  (with_reducible refine (CT.out _).mono ?_)
  rintro e w11 ⟨rfl, hx11⟩
  replace b_0 := zh hx11 b_0
  replace b_1 := zh hx11 b_1
  have c0_4 : w11.cell? ⟨wr.heap.size, 4, none⟩ = some (.int .u64 xt) := hx11.has zcv
  have c0_5 : w11.cell? ⟨wr.heap.size, 5, none⟩ = some (.int .u64 xh) := hx11.has zcv
  have z11 := hx11.size
  try simp at z11
  have lt_b_c0 := zl w.heap.size wr.heap.size
  have rb := zr w.heap.size w11
  have rc0 := zr wr.heap.size w11
  have X11 : Hid (Ext w w11) := Lib.hid (Ext.trans zxt hx11)
  clear x_5 x_2 x_1 x_4 x_3 x_0 XR hx11 z11
  by_cases q3 : ¬ ES = 0
  ·have q3b : (ES != 0) = true := by simp [q3]
   obtain rfl : V = 3 := HV.out.trans ((clsV_go (show ¬ 1024 < cl.length from by have := HLL.out; omega) (by rw [clsGo_at HI.out HX.out.1 (v := 3) (clsOne_range (show chkS xv xs xp xf ≠ 0 from by rw [← HX.out.2.1]; exact q3)) (by first | decide | assumption)]; first | decide | assumption)).trans (clsGo_at HI.out HX.out.1 (clsOne_range (show chkS xv xs xp xf ≠ 0 from by rw [← HX.out.2.1]; exact q3)) (by first | decide | assumption)))
   go_wp2_with fail
   go_ret
   exact ⟨rfl, zxt⟩
  have q3b : (ES != 0) = false := by simpa using q3
  have q3c : ES = 0 := by omega
  go_wp2_with fail
  refine wp_region_held_drew (S := fun w' => True) (by kernel_rfl) (by first | exact trivial | (simp [go_sem, World.cell?_alloc_past, *]; done)) (fun hHeld => ?_)
  refine' zt 0 ?_
  refine' zt 1 ?_
  refine' zt 2 ?_
  refine' zs 3 ?_
  refine' zs 4 ?_
  refine' zs 5 ?_
  refine' zs 6 ?_
  refine' zs 7 ?_
  refine' zs 8 ?_
  refine' zs 9 ?_
  refine' zs 10 ?_
  refine' zs 11 ?_
  refine' zs 12 ?_
  refine' zs 13 ?_
  refine' zt 14 ?_
  refine wpAnyH_done (by kernel_rfl) ?_ _
  go_wp2_with fail
  (with_reducible refine (CS.out _).mono ?_)
  rintro e w12 ⟨rfl, hx12⟩
  replace b_0 := zh hx12 b_0
  replace b_1 := zh hx12 b_1
  replace c0_4 := zh hx12 c0_4
  replace c0_5 := zh hx12 c0_5
  have z12 := hx12.size
  try simp at z12
  replace rb := zr w.heap.size w12
  replace rc0 := zr wr.heap.size w12
  have X12 : Hid (Ext w w12) := Lib.hid (Ext.trans zxt hx12)
  clear X11 hx12 z12
  by_cases q5 : ¬ EP = 0
  ·have q5b : (EP != 0) = true := by simp [q5]
   obtain rfl : V = EP := HV.out.trans ((clsV_go (show ¬ 1024 < cl.length from by have := HLL.out; omega) zSlTby2_24).trans (clsGo_at HI.out HX.out.1 ((clsOne_pool (c := (xv, xs, xp, xf, xt, xh)) (show chkS xv xs xp xf = 0 from by rw [← HX.out.2.1]; omega) HP.out (show chkE xt xh ≠ 0 from by rw [← HX.out.2.2]; exact q5)).trans HX.out.2.2.symm) (by first | decide | assumption)))
   go_wp2_with fail
   go_ret
   exact ⟨rfl, zxt⟩
  have q5b : (EP != 0) = false := by simpa using q5
  have q5c : EP = 0 := by omega
  by_cases q6 : xt = 0 ∧ xh = 0
  ·obtain ⟨q6a, q6b⟩ := q6
   have q6c : (xt == 0 && xh == 0) = true := two_true ⟨q6a, q6b⟩
   obtain rfl : V = 11 := HV.out.trans ((clsV_go (show ¬ 1024 < cl.length from by have := HLL.out; omega) zSlTby2_25).trans (clsGo_at HI.out HX.out.1 (clsOne_state (show chkS xv xs xp xf = 0 from by rw [← HX.out.2.1]; omega) HP.out (show chkE xt xh = 0 from by rw [← HX.out.2.2]; omega) ⟨q6a, q6b⟩) (by first | decide | assumption)))
   go_wp2_with fail
   go_ret
   exact ⟨rfl, zxt⟩
  have q6c : (xt == 0 && xh == 0) = false := two_false q6
  have HN := Lib.hid (clsGo_next HI.out HX.out.1 (clsOne_ok (show chkS xv xs xp xf = 0 from by rw [← HX.out.2.1]; omega) HP.out (show chkE xt xh = 0 from by rw [← HX.out.2.2]; omega) q6))
  go_wp2_with fail
  go_roundg (gk - 1)
  case measure => have := HK.out; omega
  exact ⟨by have := HK.out; omega, num_eq (by have := HK.out; omega), by rw [show n - (gk - 1) = 0 + 1 from by have := HK.out; omega]; exact HN, ⟨b_0, b_1⟩, Lib.hid zxt⟩
 obtain ⟨m, rfl⟩ : ∃ m, k = m + 1 := ⟨k - 1, by omega⟩
 obtain ⟨yw, hl_y⟩ : ∃ x, cl[m]? = some x := ⟨_, List.getElem?_eq_getElem (by omega)⟩
 have y_0 := hc_x m yw hl_y 0 _ rfl
 have y_1 := hc_x m yw hl_y 1 _ rfl
 have y_2 := hc_x m yw hl_y 2 _ rfl
 have y_3 := hc_x m yw hl_y 3 _ rfl
 obtain ⟨yv, ys, yp, yf, yt, yh⟩ := yw
 simp only at y_0 y_1 y_2 y_3
 rw [Nat.add_zero] at y_0
 rw [← Nat.add_assoc] at y_1 y_2 y_3
 obtain ⟨G, hG⟩ : ∃ G, G = cmpK [yv, ys, yp, yf] [xv, xs, xp, xf] := ⟨_, rfl⟩
 have HG := Lib.hid (show G = cmpL [(yv, xv), (ys, xs), (yp, xp), (yf, xf)] from hG)
 have HP := Lib.hid (show prevGe (prK kC cl (m + 1)) [xv, xs, xp, xf] = decide (0 ≤ G) from by rw [prK_succ hl_y, hG]; rfl)
 have hm1 : (m : Int) + 1 - 1 = (m : Int) := by omega
 have hmd : decide ((0 : Int) < (m : Int) + 1) = true := decide_eq_true (by omega)
 have hmp : (0 : Int) < (m : Int) + 1 := by omega
 have hml : (m : Int) < (n : Int) := by omega
 have hmw : IntKind.i64.wrap (m : Int) = (m : Int) := IntWalk.i64_in _ (by omega)
 have hmw2 : IntKind.i64.wrap ((m : Int) + 1 - 1) = (m : Int) := by rw [hm1]; exact hmw
 have hms : m ≤ 9223372036854775806 := by omega
 clear hk hg hz hkl hl_x hl_y hwx hES hEP hG hc_x HSr
 go_wp2_with fail
 (with_reducible refine (CT.out _).mono ?_)
 rintro e w11 ⟨rfl, hx11⟩
 replace y_0 := zh hx11 y_0
 replace y_1 := zh hx11 y_1
 replace y_2 := zh hx11 y_2
 replace y_3 := zh hx11 y_3
 replace b_0 := zh hx11 b_0
 replace b_1 := zh hx11 b_1
 have c0_0 : w11.cell? ⟨wr.heap.size, 0, none⟩ = some (.int .i64 xv) := hx11.has zcv
 have c0_1 : w11.cell? ⟨wr.heap.size, 1, none⟩ = some (.int .i64 xs) := hx11.has zcv
 have c0_2 : w11.cell? ⟨wr.heap.size, 2, none⟩ = some (.int .i64 xp) := hx11.has zcv
 have c0_3 : w11.cell? ⟨wr.heap.size, 3, none⟩ = some (.int .i64 xf) := hx11.has zcv
 have c0_4 : w11.cell? ⟨wr.heap.size, 4, none⟩ = some (.int .u64 xt) := hx11.has zcv
 have c0_5 : w11.cell? ⟨wr.heap.size, 5, none⟩ = some (.int .u64 xh) := hx11.has zcv
 have z11 := hx11.size
 try simp at z11
 have lt_y_c0 := zl b1 wr.heap.size
 have lt_b_c0 := zl w.heap.size wr.heap.size
 have ry := zr b1 w11
 have rb := zr w.heap.size w11
 have rc0 := zr wr.heap.size w11
 have X11 : Hid (Ext w w11) := Lib.hid (Ext.trans zxt hx11)
 clear x_5 x_1 x_2 x_4 x_0 x_3 XR hx11 z11
 by_cases q3 : ¬ ES = 0
 ·have q3b : (ES != 0) = true := by simp [q3]
  obtain rfl : V = 3 := HV.out.trans ((clsV_go (show ¬ 1024 < cl.length from by have := HLL.out; omega) (by rw [clsGo_at HI.out HX.out.1 (v := 3) (clsOne_range (show chkS xv xs xp xf ≠ 0 from by rw [← HX.out.2.1]; exact q3)) (by first | decide | assumption)]; first | decide | assumption)).trans (clsGo_at HI.out HX.out.1 (clsOne_range (show chkS xv xs xp xf ≠ 0 from by rw [← HX.out.2.1]; exact q3)) (by first | decide | assumption)))
  go_wp2_with fail
  go_ret
  exact ⟨rfl, zxt⟩
 have q3b : (ES != 0) = false := by simpa using q3
 have q3c : ES = 0 := by omega
 go_wp2_with fail
 refine wp_region_held_drew (S := fun w' => w'.cell? ⟨w.heap.size, 0, none⟩ = some (.slice (some ⟨b1, o1, none⟩) n c) ∧ w'.cell? ⟨wr.heap.size, 0, none⟩ = some (.int .i64 xv) ∧ w'.cell? ⟨wr.heap.size, 1, none⟩ = some (.int .i64 xs) ∧ w'.cell? ⟨wr.heap.size, 2, none⟩ = some (.int .i64 xp) ∧ w'.cell? ⟨wr.heap.size, 3, none⟩ = some (.int .i64 xf) ∧ w'.cell? ⟨b1, o1 + m * 6, none⟩ = some (.int .i64 yv) ∧ w'.cell? ⟨b1, o1 + m * 6 + 1, none⟩ = some (.int .i64 ys) ∧ w'.cell? ⟨b1, o1 + m * 6 + 2, none⟩ = some (.int .i64 yp) ∧ w'.cell? ⟨b1, o1 + m * 6 + 3, none⟩ = some (.int .i64 yf)) (by kernel_rfl) (by first | with_reducible exact ⟨b_0, c0_0, c0_1, c0_2, c0_3, y_0, y_1, y_2, y_3⟩ | (simp [go_sem, World.cell?_alloc_past, *]; done)) (fun hHeld => ?_)
 refine' zt 0 ?_
 refine' zt 1 ?_
 refine' zt 2 ?_
 refine' zt 3 ?_
 refine' zt 4 ?_
 refine' zt 5 ?_
 refine' zt 6 ?_
 refine' zt 7 ?_
 refine' zt 8 ?_
 refine' zt 9 ?_
 refine' zt 10 ?_
 refine' zt 11 ?_
 refine' zn 12 (fun K hK => ?_)
 go_simp
 (with_reducible refine (rCompare12_at yv ys yp yf xv xs xp xf G _ HG.out).mono ?_)
 rintro e w12 ⟨rfl, hx12⟩
 replace y_0 := zh hx12 y_0
 replace y_1 := zh hx12 y_1
 replace y_2 := zh hx12 y_2
 replace y_3 := zh hx12 y_3
 replace b_0 := zh hx12 b_0
 replace b_1 := zh hx12 b_1
 replace c0_0 := zh hx12 c0_0
 replace c0_1 := zh hx12 c0_1
 replace c0_2 := zh hx12 c0_2
 replace c0_3 := zh hx12 c0_3
 replace c0_4 := zh hx12 c0_4
 replace c0_5 := zh hx12 c0_5
 have z12 := hx12.size
 try simp at z12
 replace ry := zr b1 w12
 replace rb := zr w.heap.size w12
 replace rc0 := zr wr.heap.size w12
 have X12 : Hid (Ext w w12) := Lib.hid (Ext.trans zxt hx12)
 clear X11 hx12 z12
 refine' zk hK (by (first | exact ⟨b_0, c0_0, c0_1, c0_2, c0_3, y_0, y_1, y_2, y_3⟩ | (simp [go_sem, World.cell?_alloc_past, *]; done))) (fun hHeld => ?_); clear hK K
 refine' zt 13 ?_
 refine' zt 14 ?_
 refine wpAnyH_done (by kernel_rfl) ?_ _
 by_cases q4 : 0 ≤ G
 ·have q4b : decide (0 ≤ G) = true := decide_eq_true q4
  obtain rfl : V = 9 := HV.out.trans ((clsV_go (show ¬ 1024 < cl.length from by have := HLL.out; omega) (by rw [clsGo_at HI.out HX.out.1 (v := 9) (clsOne_order (show chkS xv xs xp xf = 0 from by rw [← HX.out.2.1]; omega) (HP.out.trans q4b)) (by first | decide | assumption)]; first | decide | assumption)).trans (clsGo_at HI.out HX.out.1 (clsOne_order (show chkS xv xs xp xf = 0 from by rw [← HX.out.2.1]; omega) (HP.out.trans q4b)) (by first | decide | assumption)))
  go_wp2_with fail
  go_ret
  exact ⟨rfl, zxt⟩
 have q4b : decide (0 ≤ G) = false := decide_eq_false q4
 replace HP := Lib.hid (HP.out.trans q4b)
 go_wp2_with fail
 (with_reducible refine (CS.out _).mono ?_)
 rintro e w13 ⟨rfl, hx13⟩
 replace y_0 := zh hx13 y_0
 replace y_1 := zh hx13 y_1
 replace y_2 := zh hx13 y_2
 replace y_3 := zh hx13 y_3
 replace b_0 := zh hx13 b_0
 replace b_1 := zh hx13 b_1
 replace c0_0 := zh hx13 c0_0
 replace c0_1 := zh hx13 c0_1
 replace c0_2 := zh hx13 c0_2
 replace c0_3 := zh hx13 c0_3
 replace c0_4 := zh hx13 c0_4
 replace c0_5 := zh hx13 c0_5
 have z13 := hx13.size
 try simp at z13
 replace ry := zr b1 w13
 replace rb := zr w.heap.size w13
 replace rc0 := zr wr.heap.size w13
 have X13 : Hid (Ext w w13) := Lib.hid (Ext.trans zxt hx13)
 clear X12 hx13 z13
 by_cases q5 : ¬ EP = 0
 ·have q5b : (EP != 0) = true := by simp [q5]
  obtain rfl : V = EP := HV.out.trans ((clsV_go (show ¬ 1024 < cl.length from by have := HLL.out; omega) zSlTby2_24).trans (clsGo_at HI.out HX.out.1 ((clsOne_pool (c := (xv, xs, xp, xf, xt, xh)) (show chkS xv xs xp xf = 0 from by rw [← HX.out.2.1]; omega) HP.out (show chkE xt xh ≠ 0 from by rw [← HX.out.2.2]; exact q5)).trans HX.out.2.2.symm) (by first | decide | assumption)))
  go_wp2_with fail
  go_ret
  exact ⟨rfl, zxt⟩
 have q5b : (EP != 0) = false := by simpa using q5
 have q5c : EP = 0 := by omega
 by_cases q6 : xt = 0 ∧ xh = 0
 ·obtain ⟨q6a, q6b⟩ := q6
  have q6c : (xt == 0 && xh == 0) = true := two_true ⟨q6a, q6b⟩
  obtain rfl : V = 11 := HV.out.trans ((clsV_go (show ¬ 1024 < cl.length from by have := HLL.out; omega) zSlTby2_25).trans (clsGo_at HI.out HX.out.1 (clsOne_state (show chkS xv xs xp xf = 0 from by rw [← HX.out.2.1]; omega) HP.out (show chkE xt xh = 0 from by rw [← HX.out.2.2]; omega) ⟨q6a, q6b⟩) (by first | decide | assumption)))
  go_wp2_with fail
  go_ret
  exact ⟨rfl, zxt⟩
 have q6c : (xt == 0 && xh == 0) = false := two_false q6
 have HN := Lib.hid (clsGo_next HI.out HX.out.1 (clsOne_ok (show chkS xv xs xp xf = 0 from by rw [← HX.out.2.1]; omega) HP.out (show chkE xt xh = 0 from by rw [← HX.out.2.2]; omega) q6))
 go_wp2_with fail
 go_roundg (gk - 1)
 case measure => have := HK.out; omega
 exact ⟨by have := HK.out; omega, num_eq (by have := HK.out; omega), by rw [show n - (gk - 1) = (m + 1) + 1 from by have := HK.out; omega]; exact HN, ⟨b_0, b_1⟩, Lib.hid zxt⟩
end
end Go.Proofs.YtkinchgjidpjnaaGreat
