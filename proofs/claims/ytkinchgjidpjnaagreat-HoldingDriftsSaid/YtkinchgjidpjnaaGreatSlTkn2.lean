/- Tkn, part 2. Conditions stand in each lemma. -/
import Derived.Test.YtkinchgjidpjnaaGreatSlTkn1
set_option linter.unusedVariables false
set_option linter.unusedSimpArgs false
set_option maxRecDepth 100000
set_option maxHeartbeats 64000000
namespace Go.Proofs.YtkinchgjidpjnaaGreat
section
open Go.RowKit Go.ChangeShapes Go.WideShapes Go.Deep Go.Joins
theorem zSlTkn2_0 {P : Prop} (h : P := by unfold OwnCls; repeat (first | exact HO.out | refine own_set_ne ?_ (fun j hj hh => by have h9 := RO.out j hj; first | omega | (simp at h9; omega)) | refine own_keep (base := w.heap.size) ?_ (Ext.alloc (Ext.refl _) _) | with_reducible refine World.ownsRow.drew ?_)) : P := h
theorem zSlTkn2_1 {P : Prop} (h : P := by unfold OwnPos; repeat (first | exact HP.out | refine own_set_ne ?_ (fun j hj hh => by have h9 := RP.out j hj; first | omega | (simp at h9; omega)) | refine own_keep (base := w.heap.size) ?_ (Ext.alloc (Ext.refl _) _) | with_reducible refine World.ownsRow.drew ?_)) : P := h
theorem zSlTkn2_2 {P : Prop} (h : P := by (first | exact ⟨c0_0, c0_1⟩ | (simp [go_sem, World.cell?_alloc_past, *]; done))) : P := h
theorem zSlTkn2_3 {P : Prop} (h : P := by unfold OwnCls; repeat (first | exact HJ.out | refine own_set_ne ?_ (fun j hj hh => by have h9 := RJ.out j hj; first | omega | (simp at h9; omega)) | refine own_keep (base := w.heap.size) ?_ (Ext.alloc (Ext.refl _) _) | with_reducible refine World.ownsRow.drew ?_)) : P := h
theorem zSlTkn2_4 {P : Prop} (h : P := by first | with_reducible exact ⟨c0_0, c0_1⟩ | (simp [go_sem, World.cell?_alloc_past, *]; done)) : P := h
theorem zSlTkn2_5 {P : Prop} (h : P := by first | exact Nat.le_refl _ | omega | (simp; done) | (simp; omega)) : P := h
theorem sl_pre {w : World} {sz n c : Nat} {A : Option Addr} {xs ys zs : List Value} (h : Sl w sz A n c xs) (m : Nat) (hm : m ≤ n) (he : xs = ys ++ zs) (hl : ys.length = m * sz) : Sl w sz A m c ys := by
 refine ⟨hl, Nat.le_trans hm h.2.1, h.2.2.1, fun h0 => ?_⟩
 obtain ⟨b, o, e, hb, hc⟩ := h.2.2.2 (by omega)
 refine ⟨b, o, e, hb, fun j u hu => hc j u ?_⟩
 rw [he, List.getElem?_append_left (List.getElem?_eq_some_iff.1 hu).1]
 exact hu
theorem known13_any (w : World) : Calls Tryz.prog 4 #[] w fun r w' => r = .returned (.bool true) ∧ Ext w w' := by
 go_enter Tryz.func4, Tryz.ntmps4
 go_wp2_with fail
 (with_reducible refine (chapter13_any _).mono ?_)
 rintro e w1 ⟨B, d, B2, d2, rfl, hB, hB2, hO, hO2, hx1⟩
 have z1 := hx1.size
 try simp at z1
 have X1 : Hid (Ext w w1) := Lib.hid (Ext.trans zxt hx1)
 have HO := Lib.hid (show OwnCls _ w.heap.size _ _ _ from own_lower hO zSlTkn2_5)
 have HP := Lib.hid (show OwnPos _ w.heap.size _ _ _ from own_lower hO2 zSlTkn2_5)
 clear hx1
 have RO := Lib.hid (own_rng hO)
 have RP := Lib.hid (own_rng hO2)
 have hdd := (OwnCls.sl hO).2.1
 have hdd2 := (OwnPos.sl hO2).2.1
 have slP : ∀ w, (Instr.slice 23 (.slice B2 3 d2) none (some (.int .i64 2)) none).run Tryz.prog w = .ok (.slice B2 2 d2) w := by
  intro w
  have hq := run_slice_h (P := Tryz.prog) (w := w) 23 B2 3 d2 (by kernel_rfl) .i64 2 (by omega) (by omega)
  rw [hq]
  simp [go_sem]
 have slC : ∀ w, (Instr.slice 22 (.slice B 2 d) none (some (.int .i64 1)) none).run Tryz.prog w = .ok (.slice B 1 d) w := by
  intro w
  have hq := run_slice_h (P := Tryz.prog) (w := w) 22 B 2 d (by kernel_rfl) .i64 1 (by omega) (by omega)
  rw [hq]
  simp [go_sem]
 clear hO hO2
 go_wp2_with fail
 (refine (knCutA_any d d2 B B2 _ (OwnCls.sl (show OwnCls _ w.heap.size (.slice B 2 d) 2 (chC 3) from zSlTkn2_0)) (OwnPos.sl (show OwnPos _ w.heap.size (.slice B2 3 d2) 3 (chP 3) from zSlTkn2_1)) hB hB2).mono ?_)
 rintro e w2 ⟨G, dg, G2, dg2, A, c, rfl, hO, hx2⟩
 have c0_0f : w2.frozen? ⟨w1.heap.size, 0, none⟩ = false := hx2.froz (v := .slice B 2 d) zcv zcv
 have c0_1f : w2.frozen? ⟨w1.heap.size, 1, none⟩ = false := hx2.froz (v := .slice B2 3 d2) zcv zcv
 have c0_0 : w2.cell? ⟨w1.heap.size, 0, none⟩ = some (.slice B 2 d) := hx2.has zcv
 have c0_1 : w2.cell? ⟨w1.heap.size, 1, none⟩ = some (.slice B2 3 d2) := hx2.has zcv
 have z2 := hx2.size
 try simp at z2
 have rc0 := zr w1.heap.size w2
 replace HO := Lib.hid ((show OwnCls _ w.heap.size (.slice B 2 d) 2 (chC 3) from zSlTkn2_0).ext hx2)
 replace HP := Lib.hid ((show OwnPos _ w.heap.size (.slice B2 3 d2) 3 (chP 3) from zSlTkn2_1).ext hx2)
 have X2 : Hid (Ext w w2) := Lib.hid (Ext.trans zxt hx2)
 clear X1 hx2
 clear hO
 go_wp2_with fail
 (refine (knCutB_any d d2 B B2 _ (OwnCls.sl (show OwnCls _ w.heap.size (.slice B 2 d) 2 (chC 3) from zSlTkn2_0)) (OwnPos.sl (show OwnPos _ w.heap.size (.slice B2 3 d2) 3 (chP 3) from zSlTkn2_1)) hB hB2).mono ?_)
 rintro e w3 ⟨M, dm, M2, dm2, A3, c3, rfl, hO, hx3⟩
 replace c0_0f := zf hx3 c0_0 c0_0f
 replace c0_1f := zf hx3 c0_1 c0_1f
 replace c0_0 := zh hx3 c0_0
 replace c0_1 := zh hx3 c0_1
 have c1_0f : w3.frozen? ⟨w2.heap.size, 0, none⟩ = false := hx3.froz (v := .slice G 2 dg) zcv zcv
 have c1_1f : w3.frozen? ⟨w2.heap.size, 1, none⟩ = false := hx3.froz (v := .slice G2 3 dg2) zcv zcv
 have c1_0 : w3.cell? ⟨w2.heap.size, 0, none⟩ = some (.slice G 2 dg) := hx3.has zcv
 have c1_1 : w3.cell? ⟨w2.heap.size, 1, none⟩ = some (.slice G2 3 dg2) := hx3.has zcv
 have z3 := hx3.size
 try simp at z3
 have lt_c0_c1 := zl w1.heap.size w2.heap.size
 replace rc0 := zr w1.heap.size w3
 have rc1 := zr w2.heap.size w3
 replace HO := Lib.hid ((show OwnCls _ w.heap.size (.slice B 2 d) 2 (chC 3) from zSlTkn2_0).ext hx3)
 replace HP := Lib.hid ((show OwnPos _ w.heap.size (.slice B2 3 d2) 3 (chP 3) from zSlTkn2_1).ext hx3)
 have X3 : Hid (Ext w w3) := Lib.hid (Ext.trans zxt hx3)
 have HG := Lib.hid (show OwnPos _ w.heap.size _ _ _ from own_lower hO zSlTkn2_5)
 clear X2 hx3
 have RG := Lib.hid (own_rng hO)
 clear hO
 go_wp2_with fail
 refine wp_region_held_drew (S := fun w' => w'.cell? ⟨w1.heap.size, 0, none⟩ = some (.slice B 2 d) ∧ w'.cell? ⟨w1.heap.size, 1, none⟩ = some (.slice B2 3 d2) ∧ w'.cell? ⟨w3.heap.size, 1, none⟩ = some (.slice M2 2 dm2)) (by kernel_rfl) (by first | with_reducible exact ⟨c0_0, c0_1, c2_1⟩ | (simp [go_sem, World.cell?_alloc_past, *]; done)) (fun hHeld => ?_)
 refine' zt 0 ?_
 refine' zt 1 ?_
 refine' zt 2 ?_
 refine' zt 3 ?_
 refine' zt 4 ?_
 refine' zt 5 ?_
 refine' zt 6 ?_
 refine' zt 7 ?_
 refine' zt 8 ?_
 refine' zt 9 ?_
 refine' zt 10 ?_
 refine' zt 11 ?_
 refine' zt 12 ?_
 refine' zt 13 ?_
 refine' zt 14 ?_
 refine' zt 15 ?_
 refine' zt 16 ?_
 refine' zt 17 ?_
 refine' zt 18 ?_
 refine' zt 19 ?_
 refine' zt 20 ?_
 refine' zt 21 ?_
 refine' zt 22 ?_
 refine' zt 23 ?_
 refine' zt 24 ?_
 refine' zt 25 ?_
 refine' zt 26 ?_
 refine' zt 27 ?_
 refine' zn 28 (fun K hK => ?_)
 go_simp
 (refine (((kSamePositions_any M2 B2 2 dm2 2 d2 knP knP _ (OwnPos.sl (show OwnPos _ w.heap.size (.slice M2 2 dm2) 2 knP from (by unfold OwnPos; repeat (first | exact HG.out | refine own_set_ne ?_ (fun j hj hh => by have h9 := RG.out j hj; first | omega | (simp at h9; omega)) | refine own_keep (base := w.heap.size) ?_ (Ext.alloc (Ext.refl _) _) | with_reducible refine World.ownsRow.drew ?_)))) (sl_pre (OwnPos.sl (show OwnPos _ w.heap.size (.slice B2 3 d2) 3 (chP 3) from zSlTkn2_1)) 2 (by omega) (ys := knP.flatMap posC) (zs := posC (1, 3, 6, -1, 0, 7)) rfl rfl)).mono (fun e w' h => (⟨h.1.trans (by simp), h.2⟩ : e = .returned (.bool true) ∧ Ext _ w')))).mono ?_)
 rintro e w4 ⟨rfl, hx4⟩
 replace c0_0f := zf hx4 c0_0 c0_0f
 replace c0_1f := zf hx4 c0_1 c0_1f
 replace c0_0 := zh hx4 c0_0
 replace c0_1 := zh hx4 c0_1
 replace c1_0f := zf hx4 c1_0 c1_0f
 replace c1_1f := zf hx4 c1_1 c1_1f
 replace c1_0 := zh hx4 c1_0
 replace c1_1 := zh hx4 c1_1
 have c2_0f : w4.frozen? ⟨w3.heap.size, 0, none⟩ = false := hx4.froz (v := .slice M 1 dm) zcv zcv
 have c2_1f : w4.frozen? ⟨w3.heap.size, 1, none⟩ = false := hx4.froz (v := .slice M2 2 dm2) zcv zcv
 have c2_0 : w4.cell? ⟨w3.heap.size, 0, none⟩ = some (.slice M 1 dm) := hx4.has zcv
 have c2_1 : w4.cell? ⟨w3.heap.size, 1, none⟩ = some (.slice M2 2 dm2) := hx4.has zcv
 have z4 := hx4.size
 try simp at z4
 have lt_c0_c2 := zl w1.heap.size w3.heap.size
 have lt_c1_c2 := zl w2.heap.size w3.heap.size
 replace rc0 := zr w1.heap.size w4
 replace rc1 := zr w2.heap.size w4
 have rc2 := zr w3.heap.size w4
 replace HO := Lib.hid ((show OwnCls _ w.heap.size (.slice B 2 d) 2 (chC 3) from zSlTkn2_0).ext hx4)
 replace HP := Lib.hid ((show OwnPos _ w.heap.size (.slice B2 3 d2) 3 (chP 3) from zSlTkn2_1).ext hx4)
 have X4 : Hid (Ext w w4) := Lib.hid (Ext.trans zxt hx4)
 clear HG X3 hx4
 refine' zk hK (by (first | exact ⟨c0_0, c0_1, c2_1⟩ | (simp [go_sem, World.cell?_alloc_past, *]; done))) (fun hHeld => ?_); clear hK K
 refine' zt 29 ?_
 refine' zt 30 ?_
 refine' zt 31 ?_
 refine' zt 32 ?_
 refine' zn 33 (fun K hK => ?_)
 go_simp
 (refine (knErr0_any d d2 B B2 _ (OwnCls.sl (show OwnCls _ w.heap.size (.slice B 2 d) 2 (chC 3) from zSlTkn2_0)) (OwnPos.sl (show OwnPos _ w.heap.size (.slice B2 3 d2) 3 (chP 3) from zSlTkn2_1)) hB hB2).mono ?_)
 rintro e w5 ⟨rfl, hx5⟩
 replace c0_0f := zf hx5 c0_0 c0_0f
 replace c0_1f := zf hx5 c0_1 c0_1f
 replace c0_0 := zh hx5 c0_0
 replace c0_1 := zh hx5 c0_1
 replace c1_0f := zf hx5 c1_0 c1_0f
 replace c1_1f := zf hx5 c1_1 c1_1f
 replace c1_0 := zh hx5 c1_0
 replace c1_1 := zh hx5 c1_1
 replace c2_0f := zf hx5 c2_0 c2_0f
 replace c2_1f := zf hx5 c2_1 c2_1f
 replace c2_0 := zh hx5 c2_0
 replace c2_1 := zh hx5 c2_1
 have z5 := hx5.size
 try simp at z5
 replace rc0 := zr w1.heap.size w5
 replace rc1 := zr w2.heap.size w5
 replace rc2 := zr w3.heap.size w5
 replace HO := Lib.hid ((show OwnCls _ w.heap.size (.slice B 2 d) 2 (chC 3) from zSlTkn2_0).ext hx5)
 replace HP := Lib.hid ((show OwnPos _ w.heap.size (.slice B2 3 d2) 3 (chP 3) from zSlTkn2_1).ext hx5)
 have X5 : Hid (Ext w w5) := Lib.hid (Ext.trans zxt hx5)
 clear X4 hx5
 refine' zk hK (by (first | exact ⟨c0_0, c0_1, c2_1⟩ | (simp [go_sem, World.cell?_alloc_past, *]; done))) (fun hHeld => ?_); clear hK K
 refine' zt 34 ?_
 refine' zt 35 ?_
 refine wpAnyH_done (by kernel_rfl) ?_ _
 go_wp2_with fail
 refine wp_region_held_drew (S := fun w' => w'.cell? ⟨w1.heap.size, 0, none⟩ = some (.slice B 2 d) ∧ w'.cell? ⟨w1.heap.size, 1, none⟩ = some (.slice B2 3 d2)) (by kernel_rfl) zSlTkn2_4 (fun hHeld => ?_)
 refine' zt 0 ?_
 refine' zn 1 (fun K hK => ?_)
 go_simp
 (with_reducible refine (at13_any 3 6 _).mono ?_)
 rintro e w6 ⟨rfl, hx6⟩
 replace c0_0f := zf hx6 c0_0 c0_0f
 replace c0_1f := zf hx6 c0_1 c0_1f
 replace c0_0 := zh hx6 c0_0
 replace c0_1 := zh hx6 c0_1
 replace c1_0f := zf hx6 c1_0 c1_0f
 replace c1_1f := zf hx6 c1_1 c1_1f
 replace c1_0 := zh hx6 c1_0
 replace c1_1 := zh hx6 c1_1
 replace c2_0f := zf hx6 c2_0 c2_0f
 replace c2_1f := zf hx6 c2_1 c2_1f
 replace c2_0 := zh hx6 c2_0
 replace c2_1 := zh hx6 c2_1
 have z6 := hx6.size
 try simp at z6
 replace rc0 := zr w1.heap.size w6
 replace rc1 := zr w2.heap.size w6
 replace rc2 := zr w3.heap.size w6
 replace HO := Lib.hid ((show OwnCls _ w.heap.size (.slice B 2 d) 2 (chC 3) from zSlTkn2_0).ext hx6)
 replace HP := Lib.hid ((show OwnPos _ w.heap.size (.slice B2 3 d2) 3 (chP 3) from zSlTkn2_1).ext hx6)
 have X6 : Hid (Ext w w6) := Lib.hid (Ext.trans zxt hx6)
 clear X5 hx6
 refine' zk hK zSlTkn2_2 (fun hHeld => ?_); clear hK K
 refine' zt 2 ?_
 refine' zn 3 (fun K hK => ?_)
 go_simp
 (refine (knErr1_any d d2 B B2 _ (OwnCls.sl (show OwnCls _ w.heap.size (.slice B 2 d) 2 (chC 3) from zSlTkn2_0)) (OwnPos.sl (show OwnPos _ w.heap.size (.slice B2 3 d2) 3 (chP 3) from zSlTkn2_1)) hB hB2).mono ?_)
 rintro e w7 ⟨rfl, hx7⟩
 replace c0_0f := zf hx7 c0_0 c0_0f
 replace c0_1f := zf hx7 c0_1 c0_1f
 replace c0_0 := zh hx7 c0_0
 replace c0_1 := zh hx7 c0_1
 replace c1_0f := zf hx7 c1_0 c1_0f
 replace c1_1f := zf hx7 c1_1 c1_1f
 replace c1_0 := zh hx7 c1_0
 replace c1_1 := zh hx7 c1_1
 replace c2_0f := zf hx7 c2_0 c2_0f
 replace c2_1f := zf hx7 c2_1 c2_1f
 replace c2_0 := zh hx7 c2_0
 replace c2_1 := zh hx7 c2_1
 have z7 := hx7.size
 try simp at z7
 replace rc0 := zr w1.heap.size w7
 replace rc1 := zr w2.heap.size w7
 replace rc2 := zr w3.heap.size w7
 replace HO := Lib.hid ((show OwnCls _ w.heap.size (.slice B 2 d) 2 (chC 3) from zSlTkn2_0).ext hx7)
 replace HP := Lib.hid ((show OwnPos _ w.heap.size (.slice B2 3 d2) 3 (chP 3) from zSlTkn2_1).ext hx7)
 have X7 : Hid (Ext w w7) := Lib.hid (Ext.trans zxt hx7)
 clear X6 hx7
 refine' zk hK zSlTkn2_2 (fun hHeld => ?_); clear hK K
 refine' zt 4 ?_
 refine' zt 5 ?_
 refine' zn 6 (fun K hK => ?_)
 go_simp
 (with_reducible refine (at13_any 2 5 _).mono ?_)
 rintro e w8 ⟨rfl, hx8⟩
 replace c0_0f := zf hx8 c0_0 c0_0f
 replace c0_1f := zf hx8 c0_1 c0_1f
 replace c0_0 := zh hx8 c0_0
 replace c0_1 := zh hx8 c0_1
 replace c1_0f := zf hx8 c1_0 c1_0f
 replace c1_1f := zf hx8 c1_1 c1_1f
 replace c1_0 := zh hx8 c1_0
 replace c1_1 := zh hx8 c1_1
 replace c2_0f := zf hx8 c2_0 c2_0f
 replace c2_1f := zf hx8 c2_1 c2_1f
 replace c2_0 := zh hx8 c2_0
 replace c2_1 := zh hx8 c2_1
 have z8 := hx8.size
 try simp at z8
 replace rc0 := zr w1.heap.size w8
 replace rc1 := zr w2.heap.size w8
 replace rc2 := zr w3.heap.size w8
 replace HO := Lib.hid ((show OwnCls _ w.heap.size (.slice B 2 d) 2 (chC 3) from zSlTkn2_0).ext hx8)
 replace HP := Lib.hid ((show OwnPos _ w.heap.size (.slice B2 3 d2) 3 (chP 3) from zSlTkn2_1).ext hx8)
 have X8 : Hid (Ext w w8) := Lib.hid (Ext.trans zxt hx8)
 clear X7 hx8
 refine' zk hK zSlTkn2_2 (fun hHeld => ?_); clear hK K
 refine' zt 7 ?_
 refine' zn 8 (fun K hK => ?_)
 go_simp
 (refine (knErr2_any d d2 B B2 _ (OwnCls.sl (show OwnCls _ w.heap.size (.slice B 2 d) 2 (chC 3) from zSlTkn2_0)) (OwnPos.sl (show OwnPos _ w.heap.size (.slice B2 3 d2) 3 (chP 3) from zSlTkn2_1)) hB hB2).mono ?_)
 rintro e w9 ⟨rfl, hx9⟩
 replace c0_0f := zf hx9 c0_0 c0_0f
 replace c0_1f := zf hx9 c0_1 c0_1f
 replace c0_0 := zh hx9 c0_0
 replace c0_1 := zh hx9 c0_1
 replace c1_0f := zf hx9 c1_0 c1_0f
 replace c1_1f := zf hx9 c1_1 c1_1f
 replace c1_0 := zh hx9 c1_0
 replace c1_1 := zh hx9 c1_1
 replace c2_0f := zf hx9 c2_0 c2_0f
 replace c2_1f := zf hx9 c2_1 c2_1f
 replace c2_0 := zh hx9 c2_0
 replace c2_1 := zh hx9 c2_1
 have z9 := hx9.size
 try simp at z9
 replace rc0 := zr w1.heap.size w9
 replace rc1 := zr w2.heap.size w9
 replace rc2 := zr w3.heap.size w9
 replace HO := Lib.hid ((show OwnCls _ w.heap.size (.slice B 2 d) 2 (chC 3) from zSlTkn2_0).ext hx9)
 replace HP := Lib.hid ((show OwnPos _ w.heap.size (.slice B2 3 d2) 3 (chP 3) from zSlTkn2_1).ext hx9)
 have X9 : Hid (Ext w w9) := Lib.hid (Ext.trans zxt hx9)
 clear X8 hx9
 refine' zk hK zSlTkn2_2 (fun hHeld => ?_); clear hK K
 refine' zt 9 ?_
 refine' zt 10 ?_
 refine' zt 11 ?_
 refine' zn 12 (fun K hK => ?_)
 go_simp
 (with_reducible refine (at13_any 2 5 _).mono ?_)
 rintro e w10 ⟨rfl, hx10⟩
 replace c0_0f := zf hx10 c0_0 c0_0f
 replace c0_1f := zf hx10 c0_1 c0_1f
 replace c0_0 := zh hx10 c0_0
 replace c0_1 := zh hx10 c0_1
 replace c1_0f := zf hx10 c1_0 c1_0f
 replace c1_1f := zf hx10 c1_1 c1_1f
 replace c1_0 := zh hx10 c1_0
 replace c1_1 := zh hx10 c1_1
 replace c2_0f := zf hx10 c2_0 c2_0f
 replace c2_1f := zf hx10 c2_1 c2_1f
 replace c2_0 := zh hx10 c2_0
 replace c2_1 := zh hx10 c2_1
 have z10 := hx10.size
 try simp at z10
 replace rc0 := zr w1.heap.size w10
 replace rc1 := zr w2.heap.size w10
 replace rc2 := zr w3.heap.size w10
 replace HO := Lib.hid ((show OwnCls _ w.heap.size (.slice B 2 d) 2 (chC 3) from zSlTkn2_0).ext hx10)
 replace HP := Lib.hid ((show OwnPos _ w.heap.size (.slice B2 3 d2) 3 (chP 3) from zSlTkn2_1).ext hx10)
 have X10 : Hid (Ext w w10) := Lib.hid (Ext.trans zxt hx10)
 clear X9 hx10
 refine' zk hK zSlTkn2_2 (fun hHeld => ?_); clear hK K
 refine' zt 13 ?_
 refine' zn 14 (fun K hK => ?_)
 go_simp
 (refine (knErr3_any d d2 B B2 _ (OwnCls.sl (show OwnCls _ w.heap.size (.slice B 2 d) 2 (chC 3) from zSlTkn2_0)) (OwnPos.sl (show OwnPos _ w.heap.size (.slice B2 3 d2) 3 (chP 3) from zSlTkn2_1)) hB hB2).mono ?_)
 rintro e w11 ⟨rfl, hx11⟩
 replace c0_0f := zf hx11 c0_0 c0_0f
 replace c0_1f := zf hx11 c0_1 c0_1f
 replace c0_0 := zh hx11 c0_0
 replace c0_1 := zh hx11 c0_1
 replace c1_0f := zf hx11 c1_0 c1_0f
 replace c1_1f := zf hx11 c1_1 c1_1f
 replace c1_0 := zh hx11 c1_0
 replace c1_1 := zh hx11 c1_1
 replace c2_0f := zf hx11 c2_0 c2_0f
 replace c2_1f := zf hx11 c2_1 c2_1f
 replace c2_0 := zh hx11 c2_0
 replace c2_1 := zh hx11 c2_1
 have z11 := hx11.size
 try simp at z11
 replace rc0 := zr w1.heap.size w11
 replace rc1 := zr w2.heap.size w11
 replace rc2 := zr w3.heap.size w11
 replace HO := Lib.hid ((show OwnCls _ w.heap.size (.slice B 2 d) 2 (chC 3) from zSlTkn2_0).ext hx11)
 replace HP := Lib.hid ((show OwnPos _ w.heap.size (.slice B2 3 d2) 3 (chP 3) from zSlTkn2_1).ext hx11)
 have X11 : Hid (Ext w w11) := Lib.hid (Ext.trans zxt hx11)
 clear X10 hx11
 refine' zk hK zSlTkn2_2 (fun hHeld => ?_); clear hK K
 refine' zt 15 ?_
 refine' zt 16 ?_
 refine wpAnyH_done (by kernel_rfl) ?_ _
 go_wp2_with fail
 refine wp_region_held_drew (S := fun w' => w'.cell? ⟨w1.heap.size, 0, none⟩ = some (.slice B 2 d) ∧ w'.cell? ⟨w1.heap.size, 1, none⟩ = some (.slice B2 3 d2)) (by kernel_rfl) zSlTkn2_4 (fun hHeld => ?_)
 refine' zt 0 ?_
 refine' next2_in 1 7 rfl rfl (by kernel_rfl) (by rfl) (by rfl) (fun K hK => ?_) (fun K hK => ?_)
 ·go_simp
  (with_reducible refine (at13_any 3 6 _).mono ?_)
  rintro e w12 ⟨rfl, hx12⟩
  replace c0_0f := zf hx12 c0_0 c0_0f
  replace c0_1f := zf hx12 c0_1 c0_1f
  replace c0_0 := zh hx12 c0_0
  replace c0_1 := zh hx12 c0_1
  replace c1_0f := zf hx12 c1_0 c1_0f
  replace c1_1f := zf hx12 c1_1 c1_1f
  replace c1_0 := zh hx12 c1_0
  replace c1_1 := zh hx12 c1_1
  replace c2_0f := zf hx12 c2_0 c2_0f
  replace c2_1f := zf hx12 c2_1 c2_1f
  replace c2_0 := zh hx12 c2_0
  replace c2_1 := zh hx12 c2_1
  have z12 := hx12.size
  try simp at z12
  replace rc0 := zr w1.heap.size w12
  replace rc1 := zr w2.heap.size w12
  replace rc2 := zr w3.heap.size w12
  replace HO := Lib.hid ((show OwnCls _ w.heap.size (.slice B 2 d) 2 (chC 3) from zSlTkn2_0).ext hx12)
  replace HP := Lib.hid ((show OwnPos _ w.heap.size (.slice B2 3 d2) 3 (chP 3) from zSlTkn2_1).ext hx12)
  have X12 : Hid (Ext w w12) := Lib.hid (Ext.trans zxt hx12)
  clear X11 hx12
  refine' zk hK zSlTkn2_2 (fun hHeld => ?_); clear hK K
  refine' next2_in 2 7 rfl rfl (by kernel_rfl) (by rfl) (by rfl) (fun K hK => ?_) (fun K hK => ?_)
  ·go_simp
   (refine (knLeave_any d d2 B B2 _ (OwnCls.sl (show OwnCls _ w.heap.size (.slice B 2 d) 2 (chC 3) from zSlTkn2_0)) (OwnPos.sl (show OwnPos _ w.heap.size (.slice B2 3 d2) 3 (chP 3) from zSlTkn2_1)) hB hB2).mono ?_)
   rintro e w13 ⟨J, dj, J2, dj2, rfl, hO, hx13⟩
   replace c0_0f := zf hx13 c0_0 c0_0f
   replace c0_1f := zf hx13 c0_1 c0_1f
   replace c0_0 := zh hx13 c0_0
   replace c0_1 := zh hx13 c0_1
   replace c1_0f := zf hx13 c1_0 c1_0f
   replace c1_1f := zf hx13 c1_1 c1_1f
   replace c1_0 := zh hx13 c1_0
   replace c1_1 := zh hx13 c1_1
   replace c2_0f := zf hx13 c2_0 c2_0f
   replace c2_1f := zf hx13 c2_1 c2_1f
   replace c2_0 := zh hx13 c2_0
   replace c2_1 := zh hx13 c2_1
   have z13 := hx13.size
   try simp at z13
   replace rc0 := zr w1.heap.size w13
   replace rc1 := zr w2.heap.size w13
   replace rc2 := zr w3.heap.size w13
   replace HO := Lib.hid ((show OwnCls _ w.heap.size (.slice B 2 d) 2 (chC 3) from zSlTkn2_0).ext hx13)
   replace HP := Lib.hid ((show OwnPos _ w.heap.size (.slice B2 3 d2) 3 (chP 3) from zSlTkn2_1).ext hx13)
   have X13 : Hid (Ext w w13) := Lib.hid (Ext.trans zxt hx13)
   have HJ := Lib.hid (show OwnCls _ w.heap.size _ _ _ from own_lower hO zSlTkn2_5)
   clear X12 hx13
   have RJ := Lib.hid (own_rng hO)
   clear hO
   refine' zk hK zSlTkn2_2 (fun hHeld => ?_); clear hK K
   refine' zt 3 ?_
   refine' zt 4 ?_
   refine' zt 5 ?_
   refine' zt 6 ?_
   refine' zn 7 (fun K hK => ?_)
   go_simp
   refine' zk hK zSlTkn2_2 (fun hHeld => ?_); clear hK K
   refine' zn 8 (fun K hK => ?_)
   go_simp
   refine' zk hK zSlTkn2_2 (fun hHeld => ?_); clear hK K
   refine' zt 9 ?_
   refine' zt 10 ?_
   refine wpAnyH_done (by kernel_rfl) ?_ _
   go_wp2_with fail
   refine wp_region_held_drew (S := fun w' => w'.cell? ⟨w1.heap.size, 0, none⟩ = some (.slice B 2 d) ∧ w'.cell? ⟨w13.heap.size, 0, none⟩ = some (.slice J 1 dj)) (by kernel_rfl) (by first | with_reducible exact ⟨c0_0, c3_0⟩ | (simp [go_sem, World.cell?_alloc_past, *]; done)) (fun hHeld => ?_)
   refine' zt 0 ?_
   refine' zt 1 ?_
   refine' zt 2 ?_
   refine' zt 3 ?_
   refine' zt 4 ?_
   refine' zt 5 ?_
   refine' zt 6 ?_
   refine' zt 7 ?_
   refine' zt 8 ?_
   refine' zt 9 ?_
   refine' zt 10 ?_
   refine' zt 11 ?_
   refine' zt 12 ?_
   refine' zt 13 ?_
   refine' zt 14 ?_
   refine' zn 15 (fun K hK => ?_)
   go_simp
   (refine (((kSameClasses_any J B 1 dj 1 d knC knC _ (OwnCls.sl (show OwnCls _ w.heap.size (.slice J 1 dj) 1 knC from zSlTkn2_3)) (sl_pre (OwnCls.sl (show OwnCls _ w.heap.size (.slice B 2 d) 2 (chC 3) from zSlTkn2_0)) 1 (by omega) (ys := knC.flatMap clsC) (zs := clsC (3, 6, -1, 0, 7, 7)) rfl rfl)).mono (fun e w' h => (⟨h.1.trans (by simp), h.2⟩ : e = .returned (.bool true) ∧ Ext _ w')))).mono ?_)
   rintro e w14 ⟨rfl, hx14⟩
   replace c0_0f := zf hx14 c0_0 c0_0f
   replace c0_1f := zf hx14 c0_1 c0_1f
   replace c0_0 := zh hx14 c0_0
   replace c0_1 := zh hx14 c0_1
   replace c1_0f := zf hx14 c1_0 c1_0f
   replace c1_1f := zf hx14 c1_1 c1_1f
   replace c1_0 := zh hx14 c1_0
   replace c1_1 := zh hx14 c1_1
   replace c2_0f := zf hx14 c2_0 c2_0f
   replace c2_1f := zf hx14 c2_1 c2_1f
   replace c2_0 := zh hx14 c2_0
   replace c2_1 := zh hx14 c2_1
   have c3_0f : w14.frozen? ⟨w13.heap.size, 0, none⟩ = false := hx14.froz (v := .slice J 1 dj) zcv zcv
   have c3_1f : w14.frozen? ⟨w13.heap.size, 1, none⟩ = false := hx14.froz (v := .slice J2 2 dj2) zcv zcv
   have c3_0 : w14.cell? ⟨w13.heap.size, 0, none⟩ = some (.slice J 1 dj) := hx14.has zcv
   have c3_1 : w14.cell? ⟨w13.heap.size, 1, none⟩ = some (.slice J2 2 dj2) := hx14.has zcv
   have z14 := hx14.size
   try simp at z14
   have lt_c0_c3 := zl w1.heap.size w13.heap.size
   have lt_c1_c3 := zl w2.heap.size w13.heap.size
   have lt_c2_c3 := zl w3.heap.size w13.heap.size
   replace rc0 := zr w1.heap.size w14
   replace rc1 := zr w2.heap.size w14
   replace rc2 := zr w3.heap.size w14
   have rc3 := zr w13.heap.size w14
   replace HO := Lib.hid ((show OwnCls _ w.heap.size (.slice B 2 d) 2 (chC 3) from zSlTkn2_0).ext hx14)
   replace HP := Lib.hid ((show OwnPos _ w.heap.size (.slice B2 3 d2) 3 (chP 3) from zSlTkn2_1).ext hx14)
   have X14 : Hid (Ext w w14) := Lib.hid (Ext.trans zxt hx14)
   clear HJ X13 hx14
   refine' zk hK (by (first | exact ⟨c0_0, c3_0⟩ | (simp [go_sem, World.cell?_alloc_past, *]; done))) (fun hHeld => ?_); clear hK K
   refine' zt 16 ?_
   refine' zt 17 ?_
   refine wpAnyH_done (by kernel_rfl) ?_ _
   go_wp2_with fail
   refine wp_region_held_drew (S := fun w' => w'.cell? ⟨w1.heap.size, 0, none⟩ = some (.slice B 2 d) ∧ w'.cell? ⟨w1.heap.size, 1, none⟩ = some (.slice B2 3 d2)) (by kernel_rfl) zSlTkn2_4 (fun hHeld => ?_)
   refine' zt 0 ?_
   refine' zn 1 (fun K hK => ?_)
   go_simp
   (with_reducible refine (at13_any 2 5 _).mono ?_)
   rintro e w15 ⟨rfl, hx15⟩
   replace c0_0f := zf hx15 c0_0 c0_0f
   replace c0_1f := zf hx15 c0_1 c0_1f
   replace c0_0 := zh hx15 c0_0
   replace c0_1 := zh hx15 c0_1
   replace c1_0f := zf hx15 c1_0 c1_0f
   replace c1_1f := zf hx15 c1_1 c1_1f
   replace c1_0 := zh hx15 c1_0
   replace c1_1 := zh hx15 c1_1
   replace c2_0f := zf hx15 c2_0 c2_0f
   replace c2_1f := zf hx15 c2_1 c2_1f
   replace c2_0 := zh hx15 c2_0
   replace c2_1 := zh hx15 c2_1
   replace c3_0f := zf hx15 c3_0 c3_0f
   replace c3_1f := zf hx15 c3_1 c3_1f
   replace c3_0 := zh hx15 c3_0
   replace c3_1 := zh hx15 c3_1
   have z15 := hx15.size
   try simp at z15
   replace rc0 := zr w1.heap.size w15
   replace rc1 := zr w2.heap.size w15
   replace rc2 := zr w3.heap.size w15
   replace rc3 := zr w13.heap.size w15
   replace HO := Lib.hid ((show OwnCls _ w.heap.size (.slice B 2 d) 2 (chC 3) from zSlTkn2_0).ext hx15)
   replace HP := Lib.hid ((show OwnPos _ w.heap.size (.slice B2 3 d2) 3 (chP 3) from zSlTkn2_1).ext hx15)
   have X15 : Hid (Ext w w15) := Lib.hid (Ext.trans zxt hx15)
   clear X14 hx15
   refine' zk hK zSlTkn2_2 (fun hHeld => ?_); clear hK K
   refine' zt 2 ?_
   refine' zn 3 (fun K hK => ?_)
   go_simp
   (refine (knErr4_any d d2 B B2 _ (OwnCls.sl (show OwnCls _ w.heap.size (.slice B 2 d) 2 (chC 3) from zSlTkn2_0)) (OwnPos.sl (show OwnPos _ w.heap.size (.slice B2 3 d2) 3 (chP 3) from zSlTkn2_1)) hB hB2).mono ?_)
   rintro e w16 ⟨rfl, hx16⟩
   replace c0_0f := zf hx16 c0_0 c0_0f
   replace c0_1f := zf hx16 c0_1 c0_1f
   replace c0_0 := zh hx16 c0_0
   replace c0_1 := zh hx16 c0_1
   replace c1_0f := zf hx16 c1_0 c1_0f
   replace c1_1f := zf hx16 c1_1 c1_1f
   replace c1_0 := zh hx16 c1_0
   replace c1_1 := zh hx16 c1_1
   replace c2_0f := zf hx16 c2_0 c2_0f
   replace c2_1f := zf hx16 c2_1 c2_1f
   replace c2_0 := zh hx16 c2_0
   replace c2_1 := zh hx16 c2_1
   replace c3_0f := zf hx16 c3_0 c3_0f
   replace c3_1f := zf hx16 c3_1 c3_1f
   replace c3_0 := zh hx16 c3_0
   replace c3_1 := zh hx16 c3_1
   have z16 := hx16.size
   try simp at z16
   replace rc0 := zr w1.heap.size w16
   replace rc1 := zr w2.heap.size w16
   replace rc2 := zr w3.heap.size w16
   replace rc3 := zr w13.heap.size w16
   replace HO := Lib.hid ((show OwnCls _ w.heap.size (.slice B 2 d) 2 (chC 3) from zSlTkn2_0).ext hx16)
   replace HP := Lib.hid ((show OwnPos _ w.heap.size (.slice B2 3 d2) 3 (chP 3) from zSlTkn2_1).ext hx16)
   have X16 : Hid (Ext w w16) := Lib.hid (Ext.trans zxt hx16)
   clear X15 hx16
   refine' zk hK zSlTkn2_2 (fun hHeld => ?_); clear hK K
   refine' zt 4 ?_
   refine' zt 5 ?_
   refine' zn 6 (fun K hK => ?_)
   go_simp
   (with_reducible refine (at13_any 2 5 _).mono ?_)
   rintro e w17 ⟨rfl, hx17⟩
   replace c0_0f := zf hx17 c0_0 c0_0f
   replace c0_1f := zf hx17 c0_1 c0_1f
   replace c0_0 := zh hx17 c0_0
   replace c0_1 := zh hx17 c0_1
   replace c1_0f := zf hx17 c1_0 c1_0f
   replace c1_1f := zf hx17 c1_1 c1_1f
   replace c1_0 := zh hx17 c1_0
   replace c1_1 := zh hx17 c1_1
   replace c2_0f := zf hx17 c2_0 c2_0f
   replace c2_1f := zf hx17 c2_1 c2_1f
   replace c2_0 := zh hx17 c2_0
   replace c2_1 := zh hx17 c2_1
   replace c3_0f := zf hx17 c3_0 c3_0f
   replace c3_1f := zf hx17 c3_1 c3_1f
   replace c3_0 := zh hx17 c3_0
   replace c3_1 := zh hx17 c3_1
   have z17 := hx17.size
   try simp at z17
   replace rc0 := zr w1.heap.size w17
   replace rc1 := zr w2.heap.size w17
   replace rc2 := zr w3.heap.size w17
   replace rc3 := zr w13.heap.size w17
   replace HO := Lib.hid ((show OwnCls _ w.heap.size (.slice B 2 d) 2 (chC 3) from zSlTkn2_0).ext hx17)
   replace HP := Lib.hid ((show OwnPos _ w.heap.size (.slice B2 3 d2) 3 (chP 3) from zSlTkn2_1).ext hx17)
   have X17 : Hid (Ext w w17) := Lib.hid (Ext.trans zxt hx17)
   clear X16 hx17
   refine' zk hK zSlTkn2_2 (fun hHeld => ?_); clear hK K
   refine' zt 7 ?_
   refine' zn 8 (fun K hK => ?_)
   go_simp
   (refine (knErr5_any d d2 B B2 _ (OwnCls.sl (show OwnCls _ w.heap.size (.slice B 2 d) 2 (chC 3) from zSlTkn2_0)) (OwnPos.sl (show OwnPos _ w.heap.size (.slice B2 3 d2) 3 (chP 3) from zSlTkn2_1)) hB hB2).mono ?_)
   rintro e w18 ⟨rfl, hx18⟩
   replace c0_0f := zf hx18 c0_0 c0_0f
   replace c0_1f := zf hx18 c0_1 c0_1f
   replace c0_0 := zh hx18 c0_0
   replace c0_1 := zh hx18 c0_1
   replace c1_0f := zf hx18 c1_0 c1_0f
   replace c1_1f := zf hx18 c1_1 c1_1f
   replace c1_0 := zh hx18 c1_0
   replace c1_1 := zh hx18 c1_1
   replace c2_0f := zf hx18 c2_0 c2_0f
   replace c2_1f := zf hx18 c2_1 c2_1f
   replace c2_0 := zh hx18 c2_0
   replace c2_1 := zh hx18 c2_1
   replace c3_0f := zf hx18 c3_0 c3_0f
   replace c3_1f := zf hx18 c3_1 c3_1f
   replace c3_0 := zh hx18 c3_0
   replace c3_1 := zh hx18 c3_1
   have z18 := hx18.size
   try simp at z18
   replace rc0 := zr w1.heap.size w18
   replace rc1 := zr w2.heap.size w18
   replace rc2 := zr w3.heap.size w18
   replace rc3 := zr w13.heap.size w18
   replace HO := Lib.hid ((show OwnCls _ w.heap.size (.slice B 2 d) 2 (chC 3) from zSlTkn2_0).ext hx18)
   replace HP := Lib.hid ((show OwnPos _ w.heap.size (.slice B2 3 d2) 3 (chP 3) from zSlTkn2_1).ext hx18)
   have X18 : Hid (Ext w w18) := Lib.hid (Ext.trans zxt hx18)
   clear X17 hx18
   refine' zk hK zSlTkn2_2 (fun hHeld => ?_); clear hK K
   refine' zt 9 ?_
   refine' zt 10 ?_
   refine' zt 11 ?_
   refine' zn 12 (fun K hK => ?_)
   go_simp
   (with_reducible refine (at13_any 2 5 _).mono ?_)
   rintro e w19 ⟨rfl, hx19⟩
   replace c0_0f := zf hx19 c0_0 c0_0f
   replace c0_1f := zf hx19 c0_1 c0_1f
   replace c0_0 := zh hx19 c0_0
   replace c0_1 := zh hx19 c0_1
   replace c1_0f := zf hx19 c1_0 c1_0f
   replace c1_1f := zf hx19 c1_1 c1_1f
   replace c1_0 := zh hx19 c1_0
   replace c1_1 := zh hx19 c1_1
   replace c2_0f := zf hx19 c2_0 c2_0f
   replace c2_1f := zf hx19 c2_1 c2_1f
   replace c2_0 := zh hx19 c2_0
   replace c2_1 := zh hx19 c2_1
   replace c3_0f := zf hx19 c3_0 c3_0f
   replace c3_1f := zf hx19 c3_1 c3_1f
   replace c3_0 := zh hx19 c3_0
   replace c3_1 := zh hx19 c3_1
   have z19 := hx19.size
   try simp at z19
   replace rc0 := zr w1.heap.size w19
   replace rc1 := zr w2.heap.size w19
   replace rc2 := zr w3.heap.size w19
   replace rc3 := zr w13.heap.size w19
   replace HO := Lib.hid ((show OwnCls _ w.heap.size (.slice B 2 d) 2 (chC 3) from zSlTkn2_0).ext hx19)
   replace HP := Lib.hid ((show OwnPos _ w.heap.size (.slice B2 3 d2) 3 (chP 3) from zSlTkn2_1).ext hx19)
   have X19 : Hid (Ext w w19) := Lib.hid (Ext.trans zxt hx19)
   clear X18 hx19
   refine' zk hK zSlTkn2_2 (fun hHeld => ?_); clear hK K
   refine' zt 13 ?_
   refine' zn 14 (fun K hK => ?_)
   go_simp
   (refine (knErr6_any d d2 B B2 _ (OwnCls.sl (show OwnCls _ w.heap.size (.slice B 2 d) 2 (chC 3) from zSlTkn2_0)) (OwnPos.sl (show OwnPos _ w.heap.size (.slice B2 3 d2) 3 (chP 3) from zSlTkn2_1)) hB hB2).mono ?_)
   rintro e w20 ⟨rfl, hx20⟩
   replace c0_0f := zf hx20 c0_0 c0_0f
   replace c0_1f := zf hx20 c0_1 c0_1f
   replace c0_0 := zh hx20 c0_0
   replace c0_1 := zh hx20 c0_1
   replace c1_0f := zf hx20 c1_0 c1_0f
   replace c1_1f := zf hx20 c1_1 c1_1f
   replace c1_0 := zh hx20 c1_0
   replace c1_1 := zh hx20 c1_1
   replace c2_0f := zf hx20 c2_0 c2_0f
   replace c2_1f := zf hx20 c2_1 c2_1f
   replace c2_0 := zh hx20 c2_0
   replace c2_1 := zh hx20 c2_1
   replace c3_0f := zf hx20 c3_0 c3_0f
   replace c3_1f := zf hx20 c3_1 c3_1f
   replace c3_0 := zh hx20 c3_0
   replace c3_1 := zh hx20 c3_1
   have z20 := hx20.size
   try simp at z20
   replace rc0 := zr w1.heap.size w20
   replace rc1 := zr w2.heap.size w20
   replace rc2 := zr w3.heap.size w20
   replace rc3 := zr w13.heap.size w20
   replace HO := Lib.hid ((show OwnCls _ w.heap.size (.slice B 2 d) 2 (chC 3) from zSlTkn2_0).ext hx20)
   replace HP := Lib.hid ((show OwnPos _ w.heap.size (.slice B2 3 d2) 3 (chP 3) from zSlTkn2_1).ext hx20)
   have X20 : Hid (Ext w w20) := Lib.hid (Ext.trans zxt hx20)
   clear X19 hx20
   refine' zk hK zSlTkn2_2 (fun hHeld => ?_); clear hK K
   refine' zt 15 ?_
   refine' zt 16 ?_
   refine wpAnyH_done (by kernel_rfl) ?_ _
   go_wp2_with fail
   (refine (knTok_any d d2 B B2 _ (OwnCls.sl (show OwnCls _ w.heap.size (.slice B 2 d) 2 (chC 3) from zSlTkn2_0)) (OwnPos.sl (show OwnPos _ w.heap.size (.slice B2 3 d2) 3 (chP 3) from zSlTkn2_1))).mono ?_)
   rintro e w21 ⟨rfl, hx21⟩
   replace c0_0f := zf hx21 c0_0 c0_0f
   replace c0_1f := zf hx21 c0_1 c0_1f
   replace c0_0 := zh hx21 c0_0
   replace c0_1 := zh hx21 c0_1
   replace c1_0f := zf hx21 c1_0 c1_0f
   replace c1_1f := zf hx21 c1_1 c1_1f
   replace c1_0 := zh hx21 c1_0
   replace c1_1 := zh hx21 c1_1
   replace c2_0f := zf hx21 c2_0 c2_0f
   replace c2_1f := zf hx21 c2_1 c2_1f
   replace c2_0 := zh hx21 c2_0
   replace c2_1 := zh hx21 c2_1
   replace c3_0f := zf hx21 c3_0 c3_0f
   replace c3_1f := zf hx21 c3_1 c3_1f
   replace c3_0 := zh hx21 c3_0
   replace c3_1 := zh hx21 c3_1
   have z21 := hx21.size
   try simp at z21
   replace rc0 := zr w1.heap.size w21
   replace rc1 := zr w2.heap.size w21
   replace rc2 := zr w3.heap.size w21
   replace rc3 := zr w13.heap.size w21
   replace HO := Lib.hid ((show OwnCls _ w.heap.size (.slice B 2 d) 2 (chC 3) from zSlTkn2_0).ext hx21)
   replace HP := Lib.hid ((show OwnPos _ w.heap.size (.slice B2 3 d2) 3 (chP 3) from zSlTkn2_1).ext hx21)
   have X21 : Hid (Ext w w21) := Lib.hid (Ext.trans zxt hx21)
   clear X20 hx21
   go_wp2_with fail
   (refine (knAll_any d d2 B B2 _ (OwnCls.sl (show OwnCls _ w.heap.size (.slice B 2 d) 2 (chC 3) from zSlTkn2_0)) (OwnPos.sl (show OwnPos _ w.heap.size (.slice B2 3 d2) 3 (chP 3) from zSlTkn2_1))).mono ?_)
   rintro e w22 ⟨rfl, hx22⟩
   replace c0_0f := zf hx22 c0_0 c0_0f
   replace c0_1f := zf hx22 c0_1 c0_1f
   replace c0_0 := zh hx22 c0_0
   replace c0_1 := zh hx22 c0_1
   replace c1_0f := zf hx22 c1_0 c1_0f
   replace c1_1f := zf hx22 c1_1 c1_1f
   replace c1_0 := zh hx22 c1_0
   replace c1_1 := zh hx22 c1_1
   replace c2_0f := zf hx22 c2_0 c2_0f
   replace c2_1f := zf hx22 c2_1 c2_1f
   replace c2_0 := zh hx22 c2_0
   replace c2_1 := zh hx22 c2_1
   replace c3_0f := zf hx22 c3_0 c3_0f
   replace c3_1f := zf hx22 c3_1 c3_1f
   replace c3_0 := zh hx22 c3_0
   replace c3_1 := zh hx22 c3_1
   have z22 := hx22.size
   try simp at z22
   replace rc0 := zr w1.heap.size w22
   replace rc1 := zr w2.heap.size w22
   replace rc2 := zr w3.heap.size w22
   replace rc3 := zr w13.heap.size w22
   replace HO := Lib.hid ((show OwnCls _ w.heap.size (.slice B 2 d) 2 (chC 3) from zSlTkn2_0).ext hx22)
   replace HP := Lib.hid ((show OwnPos _ w.heap.size (.slice B2 3 d2) 3 (chP 3) from zSlTkn2_1).ext hx22)
   have X22 : Hid (Ext w w22) := Lib.hid (Ext.trans zxt hx22)
   clear X21 hx22
   go_wp2_with fail
   (refine (knExp_any d d2 B B2 _ (OwnCls.sl (show OwnCls _ w.heap.size (.slice B 2 d) 2 (chC 3) from zSlTkn2_0)) (OwnPos.sl (show OwnPos _ w.heap.size (.slice B2 3 d2) 3 (chP 3) from zSlTkn2_1))).mono ?_)
   rintro e w23 ⟨A5, c5, rfl, hx23⟩
   replace c0_0f := zf hx23 c0_0 c0_0f
   replace c0_1f := zf hx23 c0_1 c0_1f
   replace c0_0 := zh hx23 c0_0
   replace c0_1 := zh hx23 c0_1
   replace c1_0f := zf hx23 c1_0 c1_0f
   replace c1_1f := zf hx23 c1_1 c1_1f
   replace c1_0 := zh hx23 c1_0
   replace c1_1 := zh hx23 c1_1
   replace c2_0f := zf hx23 c2_0 c2_0f
   replace c2_1f := zf hx23 c2_1 c2_1f
   replace c2_0 := zh hx23 c2_0
   replace c2_1 := zh hx23 c2_1
   replace c3_0f := zf hx23 c3_0 c3_0f
   replace c3_1f := zf hx23 c3_1 c3_1f
   replace c3_0 := zh hx23 c3_0
   replace c3_1 := zh hx23 c3_1
   have z23 := hx23.size
   try simp at z23
   replace rc0 := zr w1.heap.size w23
   replace rc1 := zr w2.heap.size w23
   replace rc2 := zr w3.heap.size w23
   replace rc3 := zr w13.heap.size w23
   replace HO := Lib.hid ((show OwnCls _ w.heap.size (.slice B 2 d) 2 (chC 3) from zSlTkn2_0).ext hx23)
   replace HP := Lib.hid ((show OwnPos _ w.heap.size (.slice B2 3 d2) 3 (chP 3) from zSlTkn2_1).ext hx23)
   have X23 : Hid (Ext w w23) := Lib.hid (Ext.trans zxt hx23)
   clear X22 hx23
   go_wp2_with fail
   (with_reducible refine (awake13_any _).mono ?_)
   rintro e w24 ⟨rfl, hx24⟩
   replace c0_0f := zf hx24 c0_0 c0_0f
   replace c0_1f := zf hx24 c0_1 c0_1f
   replace c0_0 := zh hx24 c0_0
   replace c0_1 := zh hx24 c0_1
   replace c1_0f := zf hx24 c1_0 c1_0f
   replace c1_1f := zf hx24 c1_1 c1_1f
   replace c1_0 := zh hx24 c1_0
   replace c1_1 := zh hx24 c1_1
   replace c2_0f := zf hx24 c2_0 c2_0f
   replace c2_1f := zf hx24 c2_1 c2_1f
   replace c2_0 := zh hx24 c2_0
   replace c2_1 := zh hx24 c2_1
   replace c3_0f := zf hx24 c3_0 c3_0f
   replace c3_1f := zf hx24 c3_1 c3_1f
   replace c3_0 := zh hx24 c3_0
   replace c3_1 := zh hx24 c3_1
   have z24 := hx24.size
   try simp at z24
   replace rc0 := zr w1.heap.size w24
   replace rc1 := zr w2.heap.size w24
   replace rc2 := zr w3.heap.size w24
   replace rc3 := zr w13.heap.size w24
   replace HO := Lib.hid ((show OwnCls _ w.heap.size (.slice B 2 d) 2 (chC 3) from zSlTkn2_0).ext hx24)
   replace HP := Lib.hid ((show OwnPos _ w.heap.size (.slice B2 3 d2) 3 (chP 3) from zSlTkn2_1).ext hx24)
   have X24 : Hid (Ext w w24) := Lib.hid (Ext.trans zxt hx24)
   clear X23 hx24
   go_wp2_with fail
   refine bodyPost_ret (v := .bool true) (by simp [results, Tryz.results4, go_sem, World.cell?_alloc_past, *]; try rfl) rfl ⟨rfl, ?_⟩
   exact zxt
  go_simp
  refine' zk hK zSlTkn2_2 (fun hHeld => ?_); clear hK K
  refine' zn 2 (fun K hK => ?_)
  go_simp
  (refine (knLeave_any d d2 B B2 _ (OwnCls.sl (show OwnCls _ w.heap.size (.slice B 2 d) 2 (chC 3) from zSlTkn2_0)) (OwnPos.sl (show OwnPos _ w.heap.size (.slice B2 3 d2) 3 (chP 3) from zSlTkn2_1)) hB hB2).mono ?_)
  rintro e w13 ⟨J, dj, J2, dj2, rfl, hO, hx13⟩
  replace c0_0f := zf hx13 c0_0 c0_0f
  replace c0_1f := zf hx13 c0_1 c0_1f
  replace c0_0 := zh hx13 c0_0
  replace c0_1 := zh hx13 c0_1
  replace c1_0f := zf hx13 c1_0 c1_0f
  replace c1_1f := zf hx13 c1_1 c1_1f
  replace c1_0 := zh hx13 c1_0
  replace c1_1 := zh hx13 c1_1
  replace c2_0f := zf hx13 c2_0 c2_0f
  replace c2_1f := zf hx13 c2_1 c2_1f
  replace c2_0 := zh hx13 c2_0
  replace c2_1 := zh hx13 c2_1
  have c3_0f : w13.frozen? ⟨w12.heap.size, 0, none⟩ = false := hx13.froz (v := .slice none 0 0) zcv zcv
  have c3_1f : w13.frozen? ⟨w12.heap.size, 1, none⟩ = false := hx13.froz (v := .slice none 0 0) zcv zcv
  have c3_0 : w13.cell? ⟨w12.heap.size, 0, none⟩ = some (.slice none 0 0) := hx13.has zcv
  have c3_1 : w13.cell? ⟨w12.heap.size, 1, none⟩ = some (.slice none 0 0) := hx13.has zcv
  have z13 := hx13.size
  try simp at z13
  have lt_c0_c3 := zl w1.heap.size w12.heap.size
  have lt_c1_c3 := zl w2.heap.size w12.heap.size
  have lt_c2_c3 := zl w3.heap.size w12.heap.size
  replace rc0 := zr w1.heap.size w13
  replace rc1 := zr w2.heap.size w13
  replace rc2 := zr w3.heap.size w13
  have rc3 := zr w12.heap.size w13
  replace HO := Lib.hid ((show OwnCls _ w.heap.size (.slice B 2 d) 2 (chC 3) from zSlTkn2_0).ext hx13)
  replace HP := Lib.hid ((show OwnPos _ w.heap.size (.slice B2 3 d2) 3 (chP 3) from zSlTkn2_1).ext hx13)
  have X13 : Hid (Ext w w13) := Lib.hid (Ext.trans zxt hx13)
  have HJ := Lib.hid (show OwnCls _ w.heap.size _ _ _ from own_lower hO zSlTkn2_5)
  clear X12 hx13
  have RJ := Lib.hid (own_rng hO)
  clear hO
  refine' zk hK zSlTkn2_2 (fun hHeld => ?_); clear hK K
  refine' zt 3 ?_
  refine' zt 4 ?_
  refine' zt 5 ?_
  refine' zt 6 ?_
  refine' zn 8 (fun K hK => ?_)
  go_simp
  refine' zk hK zSlTkn2_2 (fun hHeld => ?_); clear hK K
  refine' zt 9 ?_
  refine' zt 10 ?_
  refine wpAnyH_done (by kernel_rfl) ?_ _
  go_wp2_with fail
  refine wp_region_held_drew (S := fun w' => w'.cell? ⟨w1.heap.size, 0, none⟩ = some (.slice B 2 d) ∧ w'.cell? ⟨w12.heap.size, 0, none⟩ = some (.slice J 1 dj)) (by kernel_rfl) (by first | with_reducible exact ⟨c0_0, c3_0⟩ | (simp [go_sem, World.cell?_alloc_past, *]; done)) (fun hHeld => ?_)
  refine' zt 0 ?_
  refine' zt 1 ?_
  refine' zt 2 ?_
  refine' zt 3 ?_
  refine' zt 4 ?_
  refine' zt 5 ?_
  refine' zt 6 ?_
  refine' zt 7 ?_
  refine' zt 8 ?_
  refine' zt 9 ?_
  refine' zt 10 ?_
  refine' zt 11 ?_
  refine' zt 12 ?_
  refine' zt 13 ?_
  refine' zt 14 ?_
  refine' zn 15 (fun K hK => ?_)
  go_simp
  (refine (((kSameClasses_any J B 1 dj 1 d knC knC _ (OwnCls.sl (show OwnCls _ w.heap.size (.slice J 1 dj) 1 knC from zSlTkn2_3)) (sl_pre (OwnCls.sl (show OwnCls _ w.heap.size (.slice B 2 d) 2 (chC 3) from zSlTkn2_0)) 1 (by omega) (ys := knC.flatMap clsC) (zs := clsC (3, 6, -1, 0, 7, 7)) rfl rfl)).mono (fun e w' h => (⟨h.1.trans (by simp), h.2⟩ : e = .returned (.bool true) ∧ Ext _ w')))).mono ?_)
  rintro e w14 ⟨rfl, hx14⟩
  replace c0_0f := zf hx14 c0_0 c0_0f
  replace c0_1f := zf hx14 c0_1 c0_1f
  replace c0_0 := zh hx14 c0_0
  replace c0_1 := zh hx14 c0_1
  replace c1_0f := zf hx14 c1_0 c1_0f
  replace c1_1f := zf hx14 c1_1 c1_1f
  replace c1_0 := zh hx14 c1_0
  replace c1_1 := zh hx14 c1_1
  replace c2_0f := zf hx14 c2_0 c2_0f
  replace c2_1f := zf hx14 c2_1 c2_1f
  replace c2_0 := zh hx14 c2_0
  replace c2_1 := zh hx14 c2_1
  replace c3_0f : w14.frozen? ⟨w12.heap.size, 0, none⟩ = false := hx14.froz (v := .slice J 1 dj) zcv zcv
  replace c3_1f : w14.frozen? ⟨w12.heap.size, 1, none⟩ = false := hx14.froz (v := .slice J2 2 dj2) zcv zcv
  replace c3_0 : w14.cell? ⟨w12.heap.size, 0, none⟩ = some (.slice J 1 dj) := hx14.has zcv
  replace c3_1 : w14.cell? ⟨w12.heap.size, 1, none⟩ = some (.slice J2 2 dj2) := hx14.has zcv
  have z14 := hx14.size
  try simp at z14
  replace rc0 := zr w1.heap.size w14
  replace rc1 := zr w2.heap.size w14
  replace rc2 := zr w3.heap.size w14
  replace rc3 := zr w12.heap.size w14
  replace HO := Lib.hid ((show OwnCls _ w.heap.size (.slice B 2 d) 2 (chC 3) from zSlTkn2_0).ext hx14)
  replace HP := Lib.hid ((show OwnPos _ w.heap.size (.slice B2 3 d2) 3 (chP 3) from zSlTkn2_1).ext hx14)
  have X14 : Hid (Ext w w14) := Lib.hid (Ext.trans zxt hx14)
  clear HJ X13 hx14
  refine' zk hK (by (first | exact ⟨c0_0, c3_0⟩ | (simp [go_sem, World.cell?_alloc_past, *]; done))) (fun hHeld => ?_); clear hK K
  refine' zt 16 ?_
  refine' zt 17 ?_
  refine wpAnyH_done (by kernel_rfl) ?_ _
  go_wp2_with fail
  refine wp_region_held_drew (S := fun w' => w'.cell? ⟨w1.heap.size, 0, none⟩ = some (.slice B 2 d) ∧ w'.cell? ⟨w1.heap.size, 1, none⟩ = some (.slice B2 3 d2)) (by kernel_rfl) zSlTkn2_4 (fun hHeld => ?_)
  refine' zt 0 ?_
  refine' zn 1 (fun K hK => ?_)
  go_simp
  (with_reducible refine (at13_any 2 5 _).mono ?_)
  rintro e w15 ⟨rfl, hx15⟩
  replace c0_0f := zf hx15 c0_0 c0_0f
  replace c0_1f := zf hx15 c0_1 c0_1f
  replace c0_0 := zh hx15 c0_0
  replace c0_1 := zh hx15 c0_1
  replace c1_0f := zf hx15 c1_0 c1_0f
  replace c1_1f := zf hx15 c1_1 c1_1f
  replace c1_0 := zh hx15 c1_0
  replace c1_1 := zh hx15 c1_1
  replace c2_0f := zf hx15 c2_0 c2_0f
  replace c2_1f := zf hx15 c2_1 c2_1f
  replace c2_0 := zh hx15 c2_0
  replace c2_1 := zh hx15 c2_1
  replace c3_0f := zf hx15 c3_0 c3_0f
  replace c3_1f := zf hx15 c3_1 c3_1f
  replace c3_0 := zh hx15 c3_0
  replace c3_1 := zh hx15 c3_1
  have z15 := hx15.size
  try simp at z15
  replace rc0 := zr w1.heap.size w15
  replace rc1 := zr w2.heap.size w15
  replace rc2 := zr w3.heap.size w15
  replace rc3 := zr w12.heap.size w15
  replace HO := Lib.hid ((show OwnCls _ w.heap.size (.slice B 2 d) 2 (chC 3) from zSlTkn2_0).ext hx15)
  replace HP := Lib.hid ((show OwnPos _ w.heap.size (.slice B2 3 d2) 3 (chP 3) from zSlTkn2_1).ext hx15)
  have X15 : Hid (Ext w w15) := Lib.hid (Ext.trans zxt hx15)
  clear X14 hx15
  refine' zk hK zSlTkn2_2 (fun hHeld => ?_); clear hK K
  refine' zt 2 ?_
  refine' zn 3 (fun K hK => ?_)
  go_simp
  (refine (knErr4_any d d2 B B2 _ (OwnCls.sl (show OwnCls _ w.heap.size (.slice B 2 d) 2 (chC 3) from zSlTkn2_0)) (OwnPos.sl (show OwnPos _ w.heap.size (.slice B2 3 d2) 3 (chP 3) from zSlTkn2_1)) hB hB2).mono ?_)
  rintro e w16 ⟨rfl, hx16⟩
  replace c0_0f := zf hx16 c0_0 c0_0f
  replace c0_1f := zf hx16 c0_1 c0_1f
  replace c0_0 := zh hx16 c0_0
  replace c0_1 := zh hx16 c0_1
  replace c1_0f := zf hx16 c1_0 c1_0f
  replace c1_1f := zf hx16 c1_1 c1_1f
  replace c1_0 := zh hx16 c1_0
  replace c1_1 := zh hx16 c1_1
  replace c2_0f := zf hx16 c2_0 c2_0f
  replace c2_1f := zf hx16 c2_1 c2_1f
  replace c2_0 := zh hx16 c2_0
  replace c2_1 := zh hx16 c2_1
  replace c3_0f := zf hx16 c3_0 c3_0f
  replace c3_1f := zf hx16 c3_1 c3_1f
  replace c3_0 := zh hx16 c3_0
  replace c3_1 := zh hx16 c3_1
  have z16 := hx16.size
  try simp at z16
  replace rc0 := zr w1.heap.size w16
  replace rc1 := zr w2.heap.size w16
  replace rc2 := zr w3.heap.size w16
  replace rc3 := zr w12.heap.size w16
  replace HO := Lib.hid ((show OwnCls _ w.heap.size (.slice B 2 d) 2 (chC 3) from zSlTkn2_0).ext hx16)
  replace HP := Lib.hid ((show OwnPos _ w.heap.size (.slice B2 3 d2) 3 (chP 3) from zSlTkn2_1).ext hx16)
  have X16 : Hid (Ext w w16) := Lib.hid (Ext.trans zxt hx16)
  clear X15 hx16
  refine' zk hK zSlTkn2_2 (fun hHeld => ?_); clear hK K
  refine' zt 4 ?_
  refine' zt 5 ?_
  refine' zn 6 (fun K hK => ?_)
  go_simp
  (with_reducible refine (at13_any 2 5 _).mono ?_)
  rintro e w17 ⟨rfl, hx17⟩
  replace c0_0f := zf hx17 c0_0 c0_0f
  replace c0_1f := zf hx17 c0_1 c0_1f
  replace c0_0 := zh hx17 c0_0
  replace c0_1 := zh hx17 c0_1
  replace c1_0f := zf hx17 c1_0 c1_0f
  replace c1_1f := zf hx17 c1_1 c1_1f
  replace c1_0 := zh hx17 c1_0
  replace c1_1 := zh hx17 c1_1
  replace c2_0f := zf hx17 c2_0 c2_0f
  replace c2_1f := zf hx17 c2_1 c2_1f
  replace c2_0 := zh hx17 c2_0
  replace c2_1 := zh hx17 c2_1
  replace c3_0f := zf hx17 c3_0 c3_0f
  replace c3_1f := zf hx17 c3_1 c3_1f
  replace c3_0 := zh hx17 c3_0
  replace c3_1 := zh hx17 c3_1
  have z17 := hx17.size
  try simp at z17
  replace rc0 := zr w1.heap.size w17
  replace rc1 := zr w2.heap.size w17
  replace rc2 := zr w3.heap.size w17
  replace rc3 := zr w12.heap.size w17
  replace HO := Lib.hid ((show OwnCls _ w.heap.size (.slice B 2 d) 2 (chC 3) from zSlTkn2_0).ext hx17)
  replace HP := Lib.hid ((show OwnPos _ w.heap.size (.slice B2 3 d2) 3 (chP 3) from zSlTkn2_1).ext hx17)
  have X17 : Hid (Ext w w17) := Lib.hid (Ext.trans zxt hx17)
  clear X16 hx17
  refine' zk hK zSlTkn2_2 (fun hHeld => ?_); clear hK K
  refine' zt 7 ?_
  refine' zn 8 (fun K hK => ?_)
  go_simp
  (refine (knErr5_any d d2 B B2 _ (OwnCls.sl (show OwnCls _ w.heap.size (.slice B 2 d) 2 (chC 3) from zSlTkn2_0)) (OwnPos.sl (show OwnPos _ w.heap.size (.slice B2 3 d2) 3 (chP 3) from zSlTkn2_1)) hB hB2).mono ?_)
  rintro e w18 ⟨rfl, hx18⟩
  replace c0_0f := zf hx18 c0_0 c0_0f
  replace c0_1f := zf hx18 c0_1 c0_1f
  replace c0_0 := zh hx18 c0_0
  replace c0_1 := zh hx18 c0_1
  replace c1_0f := zf hx18 c1_0 c1_0f
  replace c1_1f := zf hx18 c1_1 c1_1f
  replace c1_0 := zh hx18 c1_0
  replace c1_1 := zh hx18 c1_1
  replace c2_0f := zf hx18 c2_0 c2_0f
  replace c2_1f := zf hx18 c2_1 c2_1f
  replace c2_0 := zh hx18 c2_0
  replace c2_1 := zh hx18 c2_1
  replace c3_0f := zf hx18 c3_0 c3_0f
  replace c3_1f := zf hx18 c3_1 c3_1f
  replace c3_0 := zh hx18 c3_0
  replace c3_1 := zh hx18 c3_1
  have z18 := hx18.size
  try simp at z18
  replace rc0 := zr w1.heap.size w18
  replace rc1 := zr w2.heap.size w18
  replace rc2 := zr w3.heap.size w18
  replace rc3 := zr w12.heap.size w18
  replace HO := Lib.hid ((show OwnCls _ w.heap.size (.slice B 2 d) 2 (chC 3) from zSlTkn2_0).ext hx18)
  replace HP := Lib.hid ((show OwnPos _ w.heap.size (.slice B2 3 d2) 3 (chP 3) from zSlTkn2_1).ext hx18)
  have X18 : Hid (Ext w w18) := Lib.hid (Ext.trans zxt hx18)
  clear X17 hx18
  refine' zk hK zSlTkn2_2 (fun hHeld => ?_); clear hK K
  refine' zt 9 ?_
  refine' zt 10 ?_
  refine' zt 11 ?_
  refine' zn 12 (fun K hK => ?_)
  go_simp
  (with_reducible refine (at13_any 2 5 _).mono ?_)
  rintro e w19 ⟨rfl, hx19⟩
  replace c0_0f := zf hx19 c0_0 c0_0f
  replace c0_1f := zf hx19 c0_1 c0_1f
  replace c0_0 := zh hx19 c0_0
  replace c0_1 := zh hx19 c0_1
  replace c1_0f := zf hx19 c1_0 c1_0f
  replace c1_1f := zf hx19 c1_1 c1_1f
  replace c1_0 := zh hx19 c1_0
  replace c1_1 := zh hx19 c1_1
  replace c2_0f := zf hx19 c2_0 c2_0f
  replace c2_1f := zf hx19 c2_1 c2_1f
  replace c2_0 := zh hx19 c2_0
  replace c2_1 := zh hx19 c2_1
  replace c3_0f := zf hx19 c3_0 c3_0f
  replace c3_1f := zf hx19 c3_1 c3_1f
  replace c3_0 := zh hx19 c3_0
  replace c3_1 := zh hx19 c3_1
  have z19 := hx19.size
  try simp at z19
  replace rc0 := zr w1.heap.size w19
  replace rc1 := zr w2.heap.size w19
  replace rc2 := zr w3.heap.size w19
  replace rc3 := zr w12.heap.size w19
  replace HO := Lib.hid ((show OwnCls _ w.heap.size (.slice B 2 d) 2 (chC 3) from zSlTkn2_0).ext hx19)
  replace HP := Lib.hid ((show OwnPos _ w.heap.size (.slice B2 3 d2) 3 (chP 3) from zSlTkn2_1).ext hx19)
  have X19 : Hid (Ext w w19) := Lib.hid (Ext.trans zxt hx19)
  clear X18 hx19
  refine' zk hK zSlTkn2_2 (fun hHeld => ?_); clear hK K
  refine' zt 13 ?_
  refine' zn 14 (fun K hK => ?_)
  go_simp
  (refine (knErr6_any d d2 B B2 _ (OwnCls.sl (show OwnCls _ w.heap.size (.slice B 2 d) 2 (chC 3) from zSlTkn2_0)) (OwnPos.sl (show OwnPos _ w.heap.size (.slice B2 3 d2) 3 (chP 3) from zSlTkn2_1)) hB hB2).mono ?_)
  rintro e w20 ⟨rfl, hx20⟩
  replace c0_0f := zf hx20 c0_0 c0_0f
  replace c0_1f := zf hx20 c0_1 c0_1f
  replace c0_0 := zh hx20 c0_0
  replace c0_1 := zh hx20 c0_1
  replace c1_0f := zf hx20 c1_0 c1_0f
  replace c1_1f := zf hx20 c1_1 c1_1f
  replace c1_0 := zh hx20 c1_0
  replace c1_1 := zh hx20 c1_1
  replace c2_0f := zf hx20 c2_0 c2_0f
  replace c2_1f := zf hx20 c2_1 c2_1f
  replace c2_0 := zh hx20 c2_0
  replace c2_1 := zh hx20 c2_1
  replace c3_0f := zf hx20 c3_0 c3_0f
  replace c3_1f := zf hx20 c3_1 c3_1f
  replace c3_0 := zh hx20 c3_0
  replace c3_1 := zh hx20 c3_1
  have z20 := hx20.size
  try simp at z20
  replace rc0 := zr w1.heap.size w20
  replace rc1 := zr w2.heap.size w20
  replace rc2 := zr w3.heap.size w20
  replace rc3 := zr w12.heap.size w20
  replace HO := Lib.hid ((show OwnCls _ w.heap.size (.slice B 2 d) 2 (chC 3) from zSlTkn2_0).ext hx20)
  replace HP := Lib.hid ((show OwnPos _ w.heap.size (.slice B2 3 d2) 3 (chP 3) from zSlTkn2_1).ext hx20)
  have X20 : Hid (Ext w w20) := Lib.hid (Ext.trans zxt hx20)
  clear X19 hx20
  refine' zk hK zSlTkn2_2 (fun hHeld => ?_); clear hK K
  refine' zt 15 ?_
  refine' zt 16 ?_
  refine wpAnyH_done (by kernel_rfl) ?_ _
  go_wp2_with fail
  (refine (knTok_any d d2 B B2 _ (OwnCls.sl (show OwnCls _ w.heap.size (.slice B 2 d) 2 (chC 3) from zSlTkn2_0)) (OwnPos.sl (show OwnPos _ w.heap.size (.slice B2 3 d2) 3 (chP 3) from zSlTkn2_1))).mono ?_)
  rintro e w21 ⟨rfl, hx21⟩
  replace c0_0f := zf hx21 c0_0 c0_0f
  replace c0_1f := zf hx21 c0_1 c0_1f
  replace c0_0 := zh hx21 c0_0
  replace c0_1 := zh hx21 c0_1
  replace c1_0f := zf hx21 c1_0 c1_0f
  replace c1_1f := zf hx21 c1_1 c1_1f
  replace c1_0 := zh hx21 c1_0
  replace c1_1 := zh hx21 c1_1
  replace c2_0f := zf hx21 c2_0 c2_0f
  replace c2_1f := zf hx21 c2_1 c2_1f
  replace c2_0 := zh hx21 c2_0
  replace c2_1 := zh hx21 c2_1
  replace c3_0f := zf hx21 c3_0 c3_0f
  replace c3_1f := zf hx21 c3_1 c3_1f
  replace c3_0 := zh hx21 c3_0
  replace c3_1 := zh hx21 c3_1
  have z21 := hx21.size
  try simp at z21
  replace rc0 := zr w1.heap.size w21
  replace rc1 := zr w2.heap.size w21
  replace rc2 := zr w3.heap.size w21
  replace rc3 := zr w12.heap.size w21
  replace HO := Lib.hid ((show OwnCls _ w.heap.size (.slice B 2 d) 2 (chC 3) from zSlTkn2_0).ext hx21)
  replace HP := Lib.hid ((show OwnPos _ w.heap.size (.slice B2 3 d2) 3 (chP 3) from zSlTkn2_1).ext hx21)
  have X21 : Hid (Ext w w21) := Lib.hid (Ext.trans zxt hx21)
  clear X20 hx21
  go_wp2_with fail
  (refine (knAll_any d d2 B B2 _ (OwnCls.sl (show OwnCls _ w.heap.size (.slice B 2 d) 2 (chC 3) from zSlTkn2_0)) (OwnPos.sl (show OwnPos _ w.heap.size (.slice B2 3 d2) 3 (chP 3) from zSlTkn2_1))).mono ?_)
  rintro e w22 ⟨rfl, hx22⟩
  replace c0_0f := zf hx22 c0_0 c0_0f
  replace c0_1f := zf hx22 c0_1 c0_1f
  replace c0_0 := zh hx22 c0_0
  replace c0_1 := zh hx22 c0_1
  replace c1_0f := zf hx22 c1_0 c1_0f
  replace c1_1f := zf hx22 c1_1 c1_1f
  replace c1_0 := zh hx22 c1_0
  replace c1_1 := zh hx22 c1_1
  replace c2_0f := zf hx22 c2_0 c2_0f
  replace c2_1f := zf hx22 c2_1 c2_1f
  replace c2_0 := zh hx22 c2_0
  replace c2_1 := zh hx22 c2_1
  replace c3_0f := zf hx22 c3_0 c3_0f
  replace c3_1f := zf hx22 c3_1 c3_1f
  replace c3_0 := zh hx22 c3_0
  replace c3_1 := zh hx22 c3_1
  have z22 := hx22.size
  try simp at z22
  replace rc0 := zr w1.heap.size w22
  replace rc1 := zr w2.heap.size w22
  replace rc2 := zr w3.heap.size w22
  replace rc3 := zr w12.heap.size w22
  replace HO := Lib.hid ((show OwnCls _ w.heap.size (.slice B 2 d) 2 (chC 3) from zSlTkn2_0).ext hx22)
  replace HP := Lib.hid ((show OwnPos _ w.heap.size (.slice B2 3 d2) 3 (chP 3) from zSlTkn2_1).ext hx22)
  have X22 : Hid (Ext w w22) := Lib.hid (Ext.trans zxt hx22)
  clear X21 hx22
  go_wp2_with fail
  (refine (knExp_any d d2 B B2 _ (OwnCls.sl (show OwnCls _ w.heap.size (.slice B 2 d) 2 (chC 3) from zSlTkn2_0)) (OwnPos.sl (show OwnPos _ w.heap.size (.slice B2 3 d2) 3 (chP 3) from zSlTkn2_1))).mono ?_)
  rintro e w23 ⟨A5, c5, rfl, hx23⟩
  replace c0_0f := zf hx23 c0_0 c0_0f
  replace c0_1f := zf hx23 c0_1 c0_1f
  replace c0_0 := zh hx23 c0_0
  replace c0_1 := zh hx23 c0_1
  replace c1_0f := zf hx23 c1_0 c1_0f
  replace c1_1f := zf hx23 c1_1 c1_1f
  replace c1_0 := zh hx23 c1_0
  replace c1_1 := zh hx23 c1_1
  replace c2_0f := zf hx23 c2_0 c2_0f
  replace c2_1f := zf hx23 c2_1 c2_1f
  replace c2_0 := zh hx23 c2_0
  replace c2_1 := zh hx23 c2_1
  replace c3_0f := zf hx23 c3_0 c3_0f
  replace c3_1f := zf hx23 c3_1 c3_1f
  replace c3_0 := zh hx23 c3_0
  replace c3_1 := zh hx23 c3_1
  have z23 := hx23.size
  try simp at z23
  replace rc0 := zr w1.heap.size w23
  replace rc1 := zr w2.heap.size w23
  replace rc2 := zr w3.heap.size w23
  replace rc3 := zr w12.heap.size w23
  replace HO := Lib.hid ((show OwnCls _ w.heap.size (.slice B 2 d) 2 (chC 3) from zSlTkn2_0).ext hx23)
  replace HP := Lib.hid ((show OwnPos _ w.heap.size (.slice B2 3 d2) 3 (chP 3) from zSlTkn2_1).ext hx23)
  have X23 : Hid (Ext w w23) := Lib.hid (Ext.trans zxt hx23)
  clear X22 hx23
  go_wp2_with fail
  (with_reducible refine (awake13_any _).mono ?_)
  rintro e w24 ⟨rfl, hx24⟩
  replace c0_0f := zf hx24 c0_0 c0_0f
  replace c0_1f := zf hx24 c0_1 c0_1f
  replace c0_0 := zh hx24 c0_0
  replace c0_1 := zh hx24 c0_1
  replace c1_0f := zf hx24 c1_0 c1_0f
  replace c1_1f := zf hx24 c1_1 c1_1f
  replace c1_0 := zh hx24 c1_0
  replace c1_1 := zh hx24 c1_1
  replace c2_0f := zf hx24 c2_0 c2_0f
  replace c2_1f := zf hx24 c2_1 c2_1f
  replace c2_0 := zh hx24 c2_0
  replace c2_1 := zh hx24 c2_1
  replace c3_0f := zf hx24 c3_0 c3_0f
  replace c3_1f := zf hx24 c3_1 c3_1f
  replace c3_0 := zh hx24 c3_0
  replace c3_1 := zh hx24 c3_1
  have z24 := hx24.size
  try simp at z24
  replace rc0 := zr w1.heap.size w24
  replace rc1 := zr w2.heap.size w24
  replace rc2 := zr w3.heap.size w24
  replace rc3 := zr w12.heap.size w24
  replace HO := Lib.hid ((show OwnCls _ w.heap.size (.slice B 2 d) 2 (chC 3) from zSlTkn2_0).ext hx24)
  replace HP := Lib.hid ((show OwnPos _ w.heap.size (.slice B2 3 d2) 3 (chP 3) from zSlTkn2_1).ext hx24)
  have X24 : Hid (Ext w w24) := Lib.hid (Ext.trans zxt hx24)
  clear X23 hx24
  go_wp2_with fail
  refine bodyPost_ret (v := .bool true) (by simp [results, Tryz.results4, go_sem, World.cell?_alloc_past, *]; try rfl) rfl ⟨rfl, ?_⟩
  exact zxt
 go_simp
 refine' zk hK zSlTkn2_2 (fun hHeld => ?_); clear hK K
 refine' zn 1 (fun K hK => ?_)
 go_simp
 (with_reducible refine (at13_any 3 6 _).mono ?_)
 rintro e w12 ⟨rfl, hx12⟩
 replace c0_0f := zf hx12 c0_0 c0_0f
 replace c0_1f := zf hx12 c0_1 c0_1f
 replace c0_0 := zh hx12 c0_0
 replace c0_1 := zh hx12 c0_1
 replace c1_0f := zf hx12 c1_0 c1_0f
 replace c1_1f := zf hx12 c1_1 c1_1f
 replace c1_0 := zh hx12 c1_0
 replace c1_1 := zh hx12 c1_1
 replace c2_0f := zf hx12 c2_0 c2_0f
 replace c2_1f := zf hx12 c2_1 c2_1f
 replace c2_0 := zh hx12 c2_0
 replace c2_1 := zh hx12 c2_1
 have c3_0f : w12.frozen? ⟨w11.heap.size, 0, none⟩ = false := hx12.froz (v := .slice none 0 0) zcv zcv
 have c3_1f : w12.frozen? ⟨w11.heap.size, 1, none⟩ = false := hx12.froz (v := .slice none 0 0) zcv zcv
 have c3_0 : w12.cell? ⟨w11.heap.size, 0, none⟩ = some (.slice none 0 0) := hx12.has zcv
 have c3_1 : w12.cell? ⟨w11.heap.size, 1, none⟩ = some (.slice none 0 0) := hx12.has zcv
 have z12 := hx12.size
 try simp at z12
 have lt_c0_c3 := zl w1.heap.size w11.heap.size
 have lt_c1_c3 := zl w2.heap.size w11.heap.size
 have lt_c2_c3 := zl w3.heap.size w11.heap.size
 replace rc0 := zr w1.heap.size w12
 replace rc1 := zr w2.heap.size w12
 replace rc2 := zr w3.heap.size w12
 have rc3 := zr w11.heap.size w12
 replace HO := Lib.hid ((show OwnCls _ w.heap.size (.slice B 2 d) 2 (chC 3) from zSlTkn2_0).ext hx12)
 replace HP := Lib.hid ((show OwnPos _ w.heap.size (.slice B2 3 d2) 3 (chP 3) from zSlTkn2_1).ext hx12)
 have X12 : Hid (Ext w w12) := Lib.hid (Ext.trans zxt hx12)
 clear X11 hx12
 refine' zk hK zSlTkn2_2 (fun hHeld => ?_); clear hK K
 refine' zn 2 (fun K hK => ?_)
 go_simp
 (refine (knLeave_any d d2 B B2 _ (OwnCls.sl (show OwnCls _ w.heap.size (.slice B 2 d) 2 (chC 3) from zSlTkn2_0)) (OwnPos.sl (show OwnPos _ w.heap.size (.slice B2 3 d2) 3 (chP 3) from zSlTkn2_1)) hB hB2).mono ?_)
 rintro e w13 ⟨J, dj, J2, dj2, rfl, hO, hx13⟩
 replace c0_0f := zf hx13 c0_0 c0_0f
 replace c0_1f := zf hx13 c0_1 c0_1f
 replace c0_0 := zh hx13 c0_0
 replace c0_1 := zh hx13 c0_1
 replace c1_0f := zf hx13 c1_0 c1_0f
 replace c1_1f := zf hx13 c1_1 c1_1f
 replace c1_0 := zh hx13 c1_0
 replace c1_1 := zh hx13 c1_1
 replace c2_0f := zf hx13 c2_0 c2_0f
 replace c2_1f := zf hx13 c2_1 c2_1f
 replace c2_0 := zh hx13 c2_0
 replace c2_1 := zh hx13 c2_1
 replace c3_0f := zf hx13 c3_0 c3_0f
 replace c3_1f := zf hx13 c3_1 c3_1f
 replace c3_0 := zh hx13 c3_0
 replace c3_1 := zh hx13 c3_1
 have z13 := hx13.size
 try simp at z13
 replace rc0 := zr w1.heap.size w13
 replace rc1 := zr w2.heap.size w13
 replace rc2 := zr w3.heap.size w13
 replace rc3 := zr w11.heap.size w13
 replace HO := Lib.hid ((show OwnCls _ w.heap.size (.slice B 2 d) 2 (chC 3) from zSlTkn2_0).ext hx13)
 replace HP := Lib.hid ((show OwnPos _ w.heap.size (.slice B2 3 d2) 3 (chP 3) from zSlTkn2_1).ext hx13)
 have X13 : Hid (Ext w w13) := Lib.hid (Ext.trans zxt hx13)
 have HJ := Lib.hid (show OwnCls _ w.heap.size _ _ _ from own_lower hO zSlTkn2_5)
 clear X12 hx13
 have RJ := Lib.hid (own_rng hO)
 clear hO
 refine' zk hK zSlTkn2_2 (fun hHeld => ?_); clear hK K
 refine' zt 3 ?_
 refine' zt 4 ?_
 refine' zt 5 ?_
 refine' zt 6 ?_
 refine' zn 8 (fun K hK => ?_)
 go_simp
 refine' zk hK zSlTkn2_2 (fun hHeld => ?_); clear hK K
 refine' zt 9 ?_
 refine' zt 10 ?_
 refine wpAnyH_done (by kernel_rfl) ?_ _
 go_wp2_with fail
 refine wp_region_held_drew (S := fun w' => w'.cell? ⟨w1.heap.size, 0, none⟩ = some (.slice B 2 d) ∧ w'.cell? ⟨w11.heap.size, 0, none⟩ = some (.slice J 1 dj)) (by kernel_rfl) (by first | with_reducible exact ⟨c0_0, c3_0⟩ | (simp [go_sem, World.cell?_alloc_past, *]; done)) (fun hHeld => ?_)
 refine' zt 0 ?_
 refine' zt 1 ?_
 refine' zt 2 ?_
 refine' zt 3 ?_
 refine' zt 4 ?_
 refine' zt 5 ?_
 refine' zt 6 ?_
 refine' zt 7 ?_
 refine' zt 8 ?_
 refine' zt 9 ?_
 refine' zt 10 ?_
 refine' zt 11 ?_
 refine' zt 12 ?_
 refine' zt 13 ?_
 refine' zt 14 ?_
 refine' zn 15 (fun K hK => ?_)
 go_simp
 (refine (((kSameClasses_any J B 1 dj 1 d knC knC _ (OwnCls.sl (show OwnCls _ w.heap.size (.slice J 1 dj) 1 knC from zSlTkn2_3)) (sl_pre (OwnCls.sl (show OwnCls _ w.heap.size (.slice B 2 d) 2 (chC 3) from zSlTkn2_0)) 1 (by omega) (ys := knC.flatMap clsC) (zs := clsC (3, 6, -1, 0, 7, 7)) rfl rfl)).mono (fun e w' h => (⟨h.1.trans (by simp), h.2⟩ : e = .returned (.bool true) ∧ Ext _ w')))).mono ?_)
 rintro e w14 ⟨rfl, hx14⟩
 replace c0_0f := zf hx14 c0_0 c0_0f
 replace c0_1f := zf hx14 c0_1 c0_1f
 replace c0_0 := zh hx14 c0_0
 replace c0_1 := zh hx14 c0_1
 replace c1_0f := zf hx14 c1_0 c1_0f
 replace c1_1f := zf hx14 c1_1 c1_1f
 replace c1_0 := zh hx14 c1_0
 replace c1_1 := zh hx14 c1_1
 replace c2_0f := zf hx14 c2_0 c2_0f
 replace c2_1f := zf hx14 c2_1 c2_1f
 replace c2_0 := zh hx14 c2_0
 replace c2_1 := zh hx14 c2_1
 replace c3_0f : w14.frozen? ⟨w11.heap.size, 0, none⟩ = false := hx14.froz (v := .slice J 1 dj) zcv zcv
 replace c3_1f : w14.frozen? ⟨w11.heap.size, 1, none⟩ = false := hx14.froz (v := .slice J2 2 dj2) zcv zcv
 replace c3_0 : w14.cell? ⟨w11.heap.size, 0, none⟩ = some (.slice J 1 dj) := hx14.has zcv
 replace c3_1 : w14.cell? ⟨w11.heap.size, 1, none⟩ = some (.slice J2 2 dj2) := hx14.has zcv
 have z14 := hx14.size
 try simp at z14
 replace rc0 := zr w1.heap.size w14
 replace rc1 := zr w2.heap.size w14
 replace rc2 := zr w3.heap.size w14
 replace rc3 := zr w11.heap.size w14
 replace HO := Lib.hid ((show OwnCls _ w.heap.size (.slice B 2 d) 2 (chC 3) from zSlTkn2_0).ext hx14)
 replace HP := Lib.hid ((show OwnPos _ w.heap.size (.slice B2 3 d2) 3 (chP 3) from zSlTkn2_1).ext hx14)
 have X14 : Hid (Ext w w14) := Lib.hid (Ext.trans zxt hx14)
 clear HJ X13 hx14
 refine' zk hK (by (first | exact ⟨c0_0, c3_0⟩ | (simp [go_sem, World.cell?_alloc_past, *]; done))) (fun hHeld => ?_); clear hK K
 refine' zt 16 ?_
 refine' zt 17 ?_
 refine wpAnyH_done (by kernel_rfl) ?_ _
 go_wp2_with fail
 refine wp_region_held_drew (S := fun w' => w'.cell? ⟨w1.heap.size, 0, none⟩ = some (.slice B 2 d) ∧ w'.cell? ⟨w1.heap.size, 1, none⟩ = some (.slice B2 3 d2)) (by kernel_rfl) zSlTkn2_4 (fun hHeld => ?_)
 refine' zt 0 ?_
 refine' zn 1 (fun K hK => ?_)
 go_simp
 (with_reducible refine (at13_any 2 5 _).mono ?_)
 rintro e w15 ⟨rfl, hx15⟩
 replace c0_0f := zf hx15 c0_0 c0_0f
 replace c0_1f := zf hx15 c0_1 c0_1f
 replace c0_0 := zh hx15 c0_0
 replace c0_1 := zh hx15 c0_1
 replace c1_0f := zf hx15 c1_0 c1_0f
 replace c1_1f := zf hx15 c1_1 c1_1f
 replace c1_0 := zh hx15 c1_0
 replace c1_1 := zh hx15 c1_1
 replace c2_0f := zf hx15 c2_0 c2_0f
 replace c2_1f := zf hx15 c2_1 c2_1f
 replace c2_0 := zh hx15 c2_0
 replace c2_1 := zh hx15 c2_1
 replace c3_0f := zf hx15 c3_0 c3_0f
 replace c3_1f := zf hx15 c3_1 c3_1f
 replace c3_0 := zh hx15 c3_0
 replace c3_1 := zh hx15 c3_1
 have z15 := hx15.size
 try simp at z15
 replace rc0 := zr w1.heap.size w15
 replace rc1 := zr w2.heap.size w15
 replace rc2 := zr w3.heap.size w15
 replace rc3 := zr w11.heap.size w15
 replace HO := Lib.hid ((show OwnCls _ w.heap.size (.slice B 2 d) 2 (chC 3) from zSlTkn2_0).ext hx15)
 replace HP := Lib.hid ((show OwnPos _ w.heap.size (.slice B2 3 d2) 3 (chP 3) from zSlTkn2_1).ext hx15)
 have X15 : Hid (Ext w w15) := Lib.hid (Ext.trans zxt hx15)
 clear X14 hx15
 refine' zk hK zSlTkn2_2 (fun hHeld => ?_); clear hK K
 refine' zt 2 ?_
 refine' zn 3 (fun K hK => ?_)
 go_simp
 (refine (knErr4_any d d2 B B2 _ (OwnCls.sl (show OwnCls _ w.heap.size (.slice B 2 d) 2 (chC 3) from zSlTkn2_0)) (OwnPos.sl (show OwnPos _ w.heap.size (.slice B2 3 d2) 3 (chP 3) from zSlTkn2_1)) hB hB2).mono ?_)
 rintro e w16 ⟨rfl, hx16⟩
 replace c0_0f := zf hx16 c0_0 c0_0f
 replace c0_1f := zf hx16 c0_1 c0_1f
 replace c0_0 := zh hx16 c0_0
 replace c0_1 := zh hx16 c0_1
 replace c1_0f := zf hx16 c1_0 c1_0f
 replace c1_1f := zf hx16 c1_1 c1_1f
 replace c1_0 := zh hx16 c1_0
 replace c1_1 := zh hx16 c1_1
 replace c2_0f := zf hx16 c2_0 c2_0f
 replace c2_1f := zf hx16 c2_1 c2_1f
 replace c2_0 := zh hx16 c2_0
 replace c2_1 := zh hx16 c2_1
 replace c3_0f := zf hx16 c3_0 c3_0f
 replace c3_1f := zf hx16 c3_1 c3_1f
 replace c3_0 := zh hx16 c3_0
 replace c3_1 := zh hx16 c3_1
 have z16 := hx16.size
 try simp at z16
 replace rc0 := zr w1.heap.size w16
 replace rc1 := zr w2.heap.size w16
 replace rc2 := zr w3.heap.size w16
 replace rc3 := zr w11.heap.size w16
 replace HO := Lib.hid ((show OwnCls _ w.heap.size (.slice B 2 d) 2 (chC 3) from zSlTkn2_0).ext hx16)
 replace HP := Lib.hid ((show OwnPos _ w.heap.size (.slice B2 3 d2) 3 (chP 3) from zSlTkn2_1).ext hx16)
 have X16 : Hid (Ext w w16) := Lib.hid (Ext.trans zxt hx16)
 clear X15 hx16
 refine' zk hK zSlTkn2_2 (fun hHeld => ?_); clear hK K
 refine' zt 4 ?_
 refine' zt 5 ?_
 refine' zn 6 (fun K hK => ?_)
 go_simp
 (with_reducible refine (at13_any 2 5 _).mono ?_)
 rintro e w17 ⟨rfl, hx17⟩
 replace c0_0f := zf hx17 c0_0 c0_0f
 replace c0_1f := zf hx17 c0_1 c0_1f
 replace c0_0 := zh hx17 c0_0
 replace c0_1 := zh hx17 c0_1
 replace c1_0f := zf hx17 c1_0 c1_0f
 replace c1_1f := zf hx17 c1_1 c1_1f
 replace c1_0 := zh hx17 c1_0
 replace c1_1 := zh hx17 c1_1
 replace c2_0f := zf hx17 c2_0 c2_0f
 replace c2_1f := zf hx17 c2_1 c2_1f
 replace c2_0 := zh hx17 c2_0
 replace c2_1 := zh hx17 c2_1
 replace c3_0f := zf hx17 c3_0 c3_0f
 replace c3_1f := zf hx17 c3_1 c3_1f
 replace c3_0 := zh hx17 c3_0
 replace c3_1 := zh hx17 c3_1
 have z17 := hx17.size
 try simp at z17
 replace rc0 := zr w1.heap.size w17
 replace rc1 := zr w2.heap.size w17
 replace rc2 := zr w3.heap.size w17
 replace rc3 := zr w11.heap.size w17
 replace HO := Lib.hid ((show OwnCls _ w.heap.size (.slice B 2 d) 2 (chC 3) from zSlTkn2_0).ext hx17)
 replace HP := Lib.hid ((show OwnPos _ w.heap.size (.slice B2 3 d2) 3 (chP 3) from zSlTkn2_1).ext hx17)
 have X17 : Hid (Ext w w17) := Lib.hid (Ext.trans zxt hx17)
 clear X16 hx17
 refine' zk hK zSlTkn2_2 (fun hHeld => ?_); clear hK K
 refine' zt 7 ?_
 refine' zn 8 (fun K hK => ?_)
 go_simp
 (refine (knErr5_any d d2 B B2 _ (OwnCls.sl (show OwnCls _ w.heap.size (.slice B 2 d) 2 (chC 3) from zSlTkn2_0)) (OwnPos.sl (show OwnPos _ w.heap.size (.slice B2 3 d2) 3 (chP 3) from zSlTkn2_1)) hB hB2).mono ?_)
 rintro e w18 ⟨rfl, hx18⟩
 replace c0_0f := zf hx18 c0_0 c0_0f
 replace c0_1f := zf hx18 c0_1 c0_1f
 replace c0_0 := zh hx18 c0_0
 replace c0_1 := zh hx18 c0_1
 replace c1_0f := zf hx18 c1_0 c1_0f
 replace c1_1f := zf hx18 c1_1 c1_1f
 replace c1_0 := zh hx18 c1_0
 replace c1_1 := zh hx18 c1_1
 replace c2_0f := zf hx18 c2_0 c2_0f
 replace c2_1f := zf hx18 c2_1 c2_1f
 replace c2_0 := zh hx18 c2_0
 replace c2_1 := zh hx18 c2_1
 replace c3_0f := zf hx18 c3_0 c3_0f
 replace c3_1f := zf hx18 c3_1 c3_1f
 replace c3_0 := zh hx18 c3_0
 replace c3_1 := zh hx18 c3_1
 have z18 := hx18.size
 try simp at z18
 replace rc0 := zr w1.heap.size w18
 replace rc1 := zr w2.heap.size w18
 replace rc2 := zr w3.heap.size w18
 replace rc3 := zr w11.heap.size w18
 replace HO := Lib.hid ((show OwnCls _ w.heap.size (.slice B 2 d) 2 (chC 3) from zSlTkn2_0).ext hx18)
 replace HP := Lib.hid ((show OwnPos _ w.heap.size (.slice B2 3 d2) 3 (chP 3) from zSlTkn2_1).ext hx18)
 have X18 : Hid (Ext w w18) := Lib.hid (Ext.trans zxt hx18)
 clear X17 hx18
 refine' zk hK zSlTkn2_2 (fun hHeld => ?_); clear hK K
 refine' zt 9 ?_
 refine' zt 10 ?_
 refine' zt 11 ?_
 refine' zn 12 (fun K hK => ?_)
 go_simp
 (with_reducible refine (at13_any 2 5 _).mono ?_)
 rintro e w19 ⟨rfl, hx19⟩
 replace c0_0f := zf hx19 c0_0 c0_0f
 replace c0_1f := zf hx19 c0_1 c0_1f
 replace c0_0 := zh hx19 c0_0
 replace c0_1 := zh hx19 c0_1
 replace c1_0f := zf hx19 c1_0 c1_0f
 replace c1_1f := zf hx19 c1_1 c1_1f
 replace c1_0 := zh hx19 c1_0
 replace c1_1 := zh hx19 c1_1
 replace c2_0f := zf hx19 c2_0 c2_0f
 replace c2_1f := zf hx19 c2_1 c2_1f
 replace c2_0 := zh hx19 c2_0
 replace c2_1 := zh hx19 c2_1
 replace c3_0f := zf hx19 c3_0 c3_0f
 replace c3_1f := zf hx19 c3_1 c3_1f
 replace c3_0 := zh hx19 c3_0
 replace c3_1 := zh hx19 c3_1
 have z19 := hx19.size
 try simp at z19
 replace rc0 := zr w1.heap.size w19
 replace rc1 := zr w2.heap.size w19
 replace rc2 := zr w3.heap.size w19
 replace rc3 := zr w11.heap.size w19
 replace HO := Lib.hid ((show OwnCls _ w.heap.size (.slice B 2 d) 2 (chC 3) from zSlTkn2_0).ext hx19)
 replace HP := Lib.hid ((show OwnPos _ w.heap.size (.slice B2 3 d2) 3 (chP 3) from zSlTkn2_1).ext hx19)
 have X19 : Hid (Ext w w19) := Lib.hid (Ext.trans zxt hx19)
 clear X18 hx19
 refine' zk hK zSlTkn2_2 (fun hHeld => ?_); clear hK K
 refine' zt 13 ?_
 refine' zn 14 (fun K hK => ?_)
 go_simp
 (refine (knErr6_any d d2 B B2 _ (OwnCls.sl (show OwnCls _ w.heap.size (.slice B 2 d) 2 (chC 3) from zSlTkn2_0)) (OwnPos.sl (show OwnPos _ w.heap.size (.slice B2 3 d2) 3 (chP 3) from zSlTkn2_1)) hB hB2).mono ?_)
 rintro e w20 ⟨rfl, hx20⟩
 replace c0_0f := zf hx20 c0_0 c0_0f
 replace c0_1f := zf hx20 c0_1 c0_1f
 replace c0_0 := zh hx20 c0_0
 replace c0_1 := zh hx20 c0_1
 replace c1_0f := zf hx20 c1_0 c1_0f
 replace c1_1f := zf hx20 c1_1 c1_1f
 replace c1_0 := zh hx20 c1_0
 replace c1_1 := zh hx20 c1_1
 replace c2_0f := zf hx20 c2_0 c2_0f
 replace c2_1f := zf hx20 c2_1 c2_1f
 replace c2_0 := zh hx20 c2_0
 replace c2_1 := zh hx20 c2_1
 replace c3_0f := zf hx20 c3_0 c3_0f
 replace c3_1f := zf hx20 c3_1 c3_1f
 replace c3_0 := zh hx20 c3_0
 replace c3_1 := zh hx20 c3_1
 have z20 := hx20.size
 try simp at z20
 replace rc0 := zr w1.heap.size w20
 replace rc1 := zr w2.heap.size w20
 replace rc2 := zr w3.heap.size w20
 replace rc3 := zr w11.heap.size w20
 replace HO := Lib.hid ((show OwnCls _ w.heap.size (.slice B 2 d) 2 (chC 3) from zSlTkn2_0).ext hx20)
 replace HP := Lib.hid ((show OwnPos _ w.heap.size (.slice B2 3 d2) 3 (chP 3) from zSlTkn2_1).ext hx20)
 have X20 : Hid (Ext w w20) := Lib.hid (Ext.trans zxt hx20)
 clear X19 hx20
 refine' zk hK zSlTkn2_2 (fun hHeld => ?_); clear hK K
 refine' zt 15 ?_
 refine' zt 16 ?_
 refine wpAnyH_done (by kernel_rfl) ?_ _
 go_wp2_with fail
 (refine (knTok_any d d2 B B2 _ (OwnCls.sl (show OwnCls _ w.heap.size (.slice B 2 d) 2 (chC 3) from zSlTkn2_0)) (OwnPos.sl (show OwnPos _ w.heap.size (.slice B2 3 d2) 3 (chP 3) from zSlTkn2_1))).mono ?_)
 rintro e w21 ⟨rfl, hx21⟩
 replace c0_0f := zf hx21 c0_0 c0_0f
 replace c0_1f := zf hx21 c0_1 c0_1f
 replace c0_0 := zh hx21 c0_0
 replace c0_1 := zh hx21 c0_1
 replace c1_0f := zf hx21 c1_0 c1_0f
 replace c1_1f := zf hx21 c1_1 c1_1f
 replace c1_0 := zh hx21 c1_0
 replace c1_1 := zh hx21 c1_1
 replace c2_0f := zf hx21 c2_0 c2_0f
 replace c2_1f := zf hx21 c2_1 c2_1f
 replace c2_0 := zh hx21 c2_0
 replace c2_1 := zh hx21 c2_1
 replace c3_0f := zf hx21 c3_0 c3_0f
 replace c3_1f := zf hx21 c3_1 c3_1f
 replace c3_0 := zh hx21 c3_0
 replace c3_1 := zh hx21 c3_1
 have z21 := hx21.size
 try simp at z21
 replace rc0 := zr w1.heap.size w21
 replace rc1 := zr w2.heap.size w21
 replace rc2 := zr w3.heap.size w21
 replace rc3 := zr w11.heap.size w21
 replace HO := Lib.hid ((show OwnCls _ w.heap.size (.slice B 2 d) 2 (chC 3) from zSlTkn2_0).ext hx21)
 replace HP := Lib.hid ((show OwnPos _ w.heap.size (.slice B2 3 d2) 3 (chP 3) from zSlTkn2_1).ext hx21)
 have X21 : Hid (Ext w w21) := Lib.hid (Ext.trans zxt hx21)
 clear X20 hx21
 go_wp2_with fail
 (refine (knAll_any d d2 B B2 _ (OwnCls.sl (show OwnCls _ w.heap.size (.slice B 2 d) 2 (chC 3) from zSlTkn2_0)) (OwnPos.sl (show OwnPos _ w.heap.size (.slice B2 3 d2) 3 (chP 3) from zSlTkn2_1))).mono ?_)
 rintro e w22 ⟨rfl, hx22⟩
 replace c0_0f := zf hx22 c0_0 c0_0f
 replace c0_1f := zf hx22 c0_1 c0_1f
 replace c0_0 := zh hx22 c0_0
 replace c0_1 := zh hx22 c0_1
 replace c1_0f := zf hx22 c1_0 c1_0f
 replace c1_1f := zf hx22 c1_1 c1_1f
 replace c1_0 := zh hx22 c1_0
 replace c1_1 := zh hx22 c1_1
 replace c2_0f := zf hx22 c2_0 c2_0f
 replace c2_1f := zf hx22 c2_1 c2_1f
 replace c2_0 := zh hx22 c2_0
 replace c2_1 := zh hx22 c2_1
 replace c3_0f := zf hx22 c3_0 c3_0f
 replace c3_1f := zf hx22 c3_1 c3_1f
 replace c3_0 := zh hx22 c3_0
 replace c3_1 := zh hx22 c3_1
 have z22 := hx22.size
 try simp at z22
 replace rc0 := zr w1.heap.size w22
 replace rc1 := zr w2.heap.size w22
 replace rc2 := zr w3.heap.size w22
 replace rc3 := zr w11.heap.size w22
 replace HO := Lib.hid ((show OwnCls _ w.heap.size (.slice B 2 d) 2 (chC 3) from zSlTkn2_0).ext hx22)
 replace HP := Lib.hid ((show OwnPos _ w.heap.size (.slice B2 3 d2) 3 (chP 3) from zSlTkn2_1).ext hx22)
 have X22 : Hid (Ext w w22) := Lib.hid (Ext.trans zxt hx22)
 clear X21 hx22
 go_wp2_with fail
 (refine (knExp_any d d2 B B2 _ (OwnCls.sl (show OwnCls _ w.heap.size (.slice B 2 d) 2 (chC 3) from zSlTkn2_0)) (OwnPos.sl (show OwnPos _ w.heap.size (.slice B2 3 d2) 3 (chP 3) from zSlTkn2_1))).mono ?_)
 rintro e w23 ⟨A5, c5, rfl, hx23⟩
 replace c0_0f := zf hx23 c0_0 c0_0f
 replace c0_1f := zf hx23 c0_1 c0_1f
 replace c0_0 := zh hx23 c0_0
 replace c0_1 := zh hx23 c0_1
 replace c1_0f := zf hx23 c1_0 c1_0f
 replace c1_1f := zf hx23 c1_1 c1_1f
 replace c1_0 := zh hx23 c1_0
 replace c1_1 := zh hx23 c1_1
 replace c2_0f := zf hx23 c2_0 c2_0f
 replace c2_1f := zf hx23 c2_1 c2_1f
 replace c2_0 := zh hx23 c2_0
 replace c2_1 := zh hx23 c2_1
 replace c3_0f := zf hx23 c3_0 c3_0f
 replace c3_1f := zf hx23 c3_1 c3_1f
 replace c3_0 := zh hx23 c3_0
 replace c3_1 := zh hx23 c3_1
 have z23 := hx23.size
 try simp at z23
 replace rc0 := zr w1.heap.size w23
 replace rc1 := zr w2.heap.size w23
 replace rc2 := zr w3.heap.size w23
 replace rc3 := zr w11.heap.size w23
 replace HO := Lib.hid ((show OwnCls _ w.heap.size (.slice B 2 d) 2 (chC 3) from zSlTkn2_0).ext hx23)
 replace HP := Lib.hid ((show OwnPos _ w.heap.size (.slice B2 3 d2) 3 (chP 3) from zSlTkn2_1).ext hx23)
 have X23 : Hid (Ext w w23) := Lib.hid (Ext.trans zxt hx23)
 clear X22 hx23
 go_wp2_with fail
 (with_reducible refine (awake13_any _).mono ?_)
 rintro e w24 ⟨rfl, hx24⟩
 replace c0_0f := zf hx24 c0_0 c0_0f
 replace c0_1f := zf hx24 c0_1 c0_1f
 replace c0_0 := zh hx24 c0_0
 replace c0_1 := zh hx24 c0_1
 replace c1_0f := zf hx24 c1_0 c1_0f
 replace c1_1f := zf hx24 c1_1 c1_1f
 replace c1_0 := zh hx24 c1_0
 replace c1_1 := zh hx24 c1_1
 replace c2_0f := zf hx24 c2_0 c2_0f
 replace c2_1f := zf hx24 c2_1 c2_1f
 replace c2_0 := zh hx24 c2_0
 replace c2_1 := zh hx24 c2_1
 replace c3_0f := zf hx24 c3_0 c3_0f
 replace c3_1f := zf hx24 c3_1 c3_1f
 replace c3_0 := zh hx24 c3_0
 replace c3_1 := zh hx24 c3_1
 have z24 := hx24.size
 try simp at z24
 replace rc0 := zr w1.heap.size w24
 replace rc1 := zr w2.heap.size w24
 replace rc2 := zr w3.heap.size w24
 replace rc3 := zr w11.heap.size w24
 replace HO := Lib.hid ((show OwnCls _ w.heap.size (.slice B 2 d) 2 (chC 3) from zSlTkn2_0).ext hx24)
 replace HP := Lib.hid ((show OwnPos _ w.heap.size (.slice B2 3 d2) 3 (chP 3) from zSlTkn2_1).ext hx24)
 have X24 : Hid (Ext w w24) := Lib.hid (Ext.trans zxt hx24)
 clear X23 hx24
 go_wp2_with fail
 refine bodyPost_ret (v := .bool true) (by simp [results, Tryz.results4, go_sem, World.cell?_alloc_past, *]; try rfl) rfl ⟨rfl, ?_⟩
 exact zxt
end
end Go.Proofs.YtkinchgjidpjnaaGreat
