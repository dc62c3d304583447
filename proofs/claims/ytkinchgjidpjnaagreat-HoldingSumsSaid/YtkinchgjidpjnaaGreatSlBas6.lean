/- Bas, part 6 of 6: Hw5. Conditions stand in each lemma. -/
import Derived.WalkKit
import Derived.Deep.QuietTactic
import Derived.Deep.Draws
import Derived.Lib.Hide
import Derived.Laws.OwnMore
import Derived.Laws.AppendOwn
import Derived.OwnWalk
import Derived.Maps.AppendAt
import Derived.Deep.RegionHeld3
import Derived.RangeFuncBox
import Derived.RangeFuncLeaves
import Derived.Shelf.Abstract
import Derived.OwnWalkIn
import Derived.TacticsInMore
import Derived.LoopNIn
import Derived.LoopIn
import Derived.Test.YtkinchgjidpjnaaGreatRows
import Derived.Deep.Onto
import Derived.ProofKit
import Derived.ChangeOld
import Derived.OpenShut
import Derived.Deep.Slices
import Derived.BigQuiet
import Derived.IntWalk
import Derived.Lib.SliceRun
import Derived.Deep.LoopGhost
import Derived.WalkSpells
import Derived.WalkLawsBesides
import Derived.Lib.SmallJoins
import Derived.Test.YtkinchgjidpjnaaGreatShelf
import Derived.Test.YtkinchgjidpjnaaGreatDivNorm
import Derived.Deep.DeepCutAuto
import Derived.Deep.CutBlock
import Derived.Shelf.Spec.BitsCarry
import Derived.Test.YtkinchgjidpjnaaGreatFixRefMath
import Derived.Test.YtkinchgjidpjnaaGreatFixDivideMath
import Derived.Handy
import Derived.ArgAppend
import Derived.Laws.CopyRow
import Derived.Lib.AppendZerosOnto
import Derived.Laws.Externs
import Derived.Lib.Overlaps
import Derived.Shelf.RegionOpenPlain
import Derived.Lib.AppendZeros
import Derived.WalkMore
import Derived.Laws.IdiomCopy
import Derived.Laws.StructEq
import Derived.RangeFuncNested
import Derived.Test.YtkinchgjidpjnaaGreatSlBas5
set_option linter.unusedVariables false
set_option linter.unusedSimpArgs false
namespace Go.Proofs.YtkinchgjidpjnaaGreat
section
open Go.RowKit Go.ChangeShapes Go.WideShapes Go.Deep Go.Joins
theorem zSlBas6_0 {P : Prop} (h : P := by unfold OwnLoss; repeat (first | exact HL.out | refine own_set_ne ?_ (fun j hj hh => by have h9 := RL.out j hj; first | omega | (simp at h9; omega)) | refine own_keep (base := w.heap.size) ?_ (Ext.alloc (Ext.refl _) _) | with_reducible refine World.ownsRow.drew ?_)) : P := h
theorem zSlBas6_1 {P : Prop} (h : P := by unfold OwnPos; repeat (first | exact HR.out | refine own_set_ne ?_ (fun j hj hh => by have h9 := RR.out j hj; first | omega | (simp at h9; omega)) | refine own_keep (base := w.heap.size) ?_ (Ext.alloc (Ext.refl _) _) | with_reducible refine World.ownsRow.drew ?_)) : P := h
theorem zSlBas6_2 {P : Prop} (h : P := by unfold OwnCls; repeat (first | exact HD.out | refine own_set_ne ?_ (fun j hj hh => by have h9 := RD.out j hj; first | omega | (simp at h9; omega)) | refine own_keep (base := w.heap.size) ?_ (Ext.alloc (Ext.refl _) _) | with_reducible refine World.ownsRow.drew ?_)) : P := h
theorem zSlBas6_3 {P : Prop} (h : P := by (first | exact ⟨c1_0, c1_1⟩ | (simp [go_sem, World.cell?_alloc_past, *]; done))) : P := h
theorem zSlBas6_4 {P : Prop} (h : P := by first | exact Nat.le_refl _ | omega | (simp; done) | (simp; omega)) : P := h
theorem zSlBas6_5 {P : Prop} (h : P := by (first | exact ⟨c2_0, c2_1⟩ | (simp [go_sem, World.cell?_alloc_past, *]; done))) : P := h
set_option maxRecDepth 100000 in
set_option maxHeartbeats 8000000 in
theorem awake13_any (w : World) : Calls Tryz.prog 12 #[] w fun r w' => r = .returned (.bool true) ∧ Ext w w' := by
  go_enter Tryz.func12, Tryz.ntmps12
  go_wp2_with fail
  (with_reducible refine (chapter13_any _).mono ?_)
  rintro e w1 ⟨B, d, B2, d2, rfl, hB, hB2, hO, hO2, hx1⟩
  have z1 := hx1.size
  try simp at z1
  have X1 : Hid (Ext w w1) := Lib.hid (Ext.trans zxt hx1)
  have HO := Lib.hid (show OwnCls _ w.heap.size _ _ _ from own_lower hO zSlBas6_4)
  have HP := Lib.hid (show OwnPos _ w.heap.size _ _ _ from own_lower hO2 zSlBas6_4)
  clear hx1
  clear hO hO2
  go_wp2_with fail
  (with_reducible refine (awCut_any d d2 B B2 _ (OwnCls.sl (HO.out.ext zxt)) (OwnPos.sl (HP.out.ext zxt)) hB hB2).mono ?_)
  rintro e w2 ⟨G, dg, G2, dg2, A, c, rfl, hG, hG2, hO, hO2, hO3, hx2⟩
  have c0_0f : w2.frozen? ⟨w1.heap.size, 0, none⟩ = false := hx2.froz (v := .slice B 2 d) zcv zcv
  have c0_1f : w2.frozen? ⟨w1.heap.size, 1, none⟩ = false := hx2.froz (v := .slice B2 3 d2) zcv zcv
  have c0_0 : w2.cell? ⟨w1.heap.size, 0, none⟩ = some (.slice B 2 d) := hx2.has zcv
  have c0_1 : w2.cell? ⟨w1.heap.size, 1, none⟩ = some (.slice B2 3 d2) := hx2.has zcv
  have z2 := hx2.size
  try simp at z2
  have zq := zrc (show w1.heap.size < w2.heap.size from by omega)
  obtain ⟨rc0, rc0a, rc0b, rc0c, rc0n⟩ := zq
  have X2 : Hid (Ext w w2) := Lib.hid (Ext.trans zxt hx2)
  have HC := Lib.hid (show OwnCls _ w.heap.size _ _ _ from own_lower hO zSlBas6_4)
  have HQ := Lib.hid (show OwnPos _ w.heap.size _ _ _ from own_lower hO2 zSlBas6_4)
  have HL := Lib.hid (show OwnLoss _ w.heap.size _ _ _ from own_lower hO3 zSlBas6_4)
  clear HO HP X1 hx2
  have RL := Lib.hid (own_rng hO3)
  clear hO hO2 hO3
  go_wp2_with fail
  refine wp_region_held_drew (S := fun w' => w'.cell? ⟨w2.heap.size, 0, none⟩ = some (.slice G 2 dg) ∧ w'.cell? ⟨w2.heap.size, 1, none⟩ = some (.slice G2 3 dg2)) (by kernel_rfl) (by first | exact ⟨c1_0, c1_1⟩ | (simp [go_sem, World.cell?_alloc_past, *]; done)) (fun hHeld => ?_)
  refine' zt 0 ?_
  refine' next2_in 1 7 rfl rfl (by kernel_rfl) (by rfl) (by rfl) (fun K hK => ?_) (fun K hK => ?_)
  · go_simp
    (with_reducible refine (at13_any 2 5 _).mono ?_)
    rintro e w3 ⟨rfl, hx3⟩
    replace c0_0f := zf hx3 c0_0 c0_0f
    replace c0_1f := zf hx3 c0_1 c0_1f
    replace c0_0 := zh hx3 c0_0
    replace c0_1 := zh hx3 c0_1
    have c1_0f : w3.frozen? ⟨w2.heap.size, 0, none⟩ = false := hx3.froz (v := .slice G 2 dg) zcv zcv
    have c1_1f : w3.frozen? ⟨w2.heap.size, 1, none⟩ = false := hx3.froz (v := .slice G2 3 dg2) zcv zcv
    have c1_0 : w3.cell? ⟨w2.heap.size, 0, none⟩ = some (.slice G 2 dg) := hx3.has zcv
    have c1_1 : w3.cell? ⟨w2.heap.size, 1, none⟩ = some (.slice G2 3 dg2) := hx3.has zcv
    have z3 := hx3.size
    try simp at z3
    have lt_c0_c1 : w1.heap.size < w2.heap.size := by omega
    have ne_c0_c1 : ¬ w1.heap.size = w2.heap.size := by omega
    have ne_c1_c0 : ¬ w2.heap.size = w1.heap.size := by omega
    have zq := zrc (show w1.heap.size < w3.heap.size from by omega)
    clear rc0 rc0a rc0b rc0c rc0n
    obtain ⟨rc0, rc0a, rc0b, rc0c, rc0n⟩ := zq
    have zq := zrc (show w2.heap.size < w3.heap.size from by omega)
    obtain ⟨rc1, rc1a, rc1b, rc1c, rc1n⟩ := zq
    replace HC := Lib.hid (HC.out.ext (Ext.trans zxt hx3))
    replace HQ := Lib.hid (HQ.out.ext (Ext.trans zxt hx3))
    replace HL := Lib.hid ((show OwnLoss _ w.heap.size (.slice A 1 c) 1 awL from zSlBas6_0).ext hx3)
    have X3 : Hid (Ext w w3) := Lib.hid (Ext.trans zxt hx3)
    clear X2 hx3
    refine hK.out _ _ zSlBas6_3 (fun hHeld => ?_); clear hK K; try simp only [Act.put, List.setIfInBounds_toArray, List.set_cons_zero, List.set_cons_succ]
    refine' next2_in 2 7 rfl rfl (by kernel_rfl) (by rfl) (by rfl) (fun K hK => ?_) (fun K hK => ?_)
    · go_simp
      (with_reducible refine (awLeave_any dg dg2 G G2 _ (OwnCls.sl (HC.out.ext zxt)) (OwnPos.sl (HQ.out.ext zxt)) hG hG2).mono ?_)
      rintro e w4 ⟨J, dj, J2, dj2, rfl, hO, hO2, hx4⟩
      replace c0_0f := zf hx4 c0_0 c0_0f
      replace c0_1f := zf hx4 c0_1 c0_1f
      replace c0_0 := zh hx4 c0_0
      replace c0_1 := zh hx4 c0_1
      replace c1_0f := zf hx4 c1_0 c1_0f
      replace c1_1f := zf hx4 c1_1 c1_1f
      replace c1_0 := zh hx4 c1_0
      replace c1_1 := zh hx4 c1_1
      have z4 := hx4.size
      try simp at z4
      have zq := zrc (show w1.heap.size < w4.heap.size from by omega)
      clear rc0 rc0a rc0b rc0c rc0n
      obtain ⟨rc0, rc0a, rc0b, rc0c, rc0n⟩ := zq
      have zq := zrc (show w2.heap.size < w4.heap.size from by omega)
      clear rc1 rc1a rc1b rc1c rc1n
      obtain ⟨rc1, rc1a, rc1b, rc1c, rc1n⟩ := zq
      replace HL := Lib.hid ((show OwnLoss _ w.heap.size (.slice A 1 c) 1 awL from zSlBas6_0).ext hx4)
      have X4 : Hid (Ext w w4) := Lib.hid (Ext.trans zxt hx4)
      have HD := Lib.hid (show OwnCls _ w.heap.size _ _ _ from own_lower hO zSlBas6_4)
      have HR := Lib.hid (show OwnPos _ w.heap.size _ _ _ from own_lower hO2 zSlBas6_4)
      clear HC HQ X3 hx4
      have RD := Lib.hid (own_rng hO)
      have RR := Lib.hid (own_rng hO2)
      clear hO hO2
      refine hK.out _ _ zSlBas6_3 (fun hHeld => ?_); clear hK K; try simp only [Act.put, List.setIfInBounds_toArray, List.set_cons_zero, List.set_cons_succ]
      refine' zt 3 ?_
      refine' zt 4 ?_
      refine' zt 5 ?_
      refine' zt 6 ?_
      refine' zn 7 (fun K hK => ?_)
      go_simp
      refine hK.out _ _ zSlBas6_3 (fun hHeld => ?_); clear hK K; try simp only [Act.put, List.setIfInBounds_toArray, List.set_cons_zero, List.set_cons_succ]
      refine' zn 8 (fun K hK => ?_)
      go_simp
      refine hK.out _ _ zSlBas6_3 (fun hHeld => ?_); clear hK K; try simp only [Act.put, List.setIfInBounds_toArray, List.set_cons_zero, List.set_cons_succ]
      refine' zt 9 ?_
      refine' zt 10 ?_
      refine wpAnyH_done (by kernel_rfl) ?_ _
      go_wp2_with fail
      refine wp_region_held_drew (S := fun w' => w'.cell? ⟨w4.heap.size, 0, none⟩ = some (.slice J 2 dj) ∧ w'.cell? ⟨w4.heap.size, 1, none⟩ = some (.slice J2 3 dj2)) (by kernel_rfl) (by first | exact ⟨c2_0, c2_1⟩ | (simp [go_sem, World.cell?_alloc_past, *]; done)) (fun hHeld => ?_)
      refine' zt 0 ?_
      refine' zn 1 (fun K hK => ?_)
      go_simp
      (with_reducible refine (at13_any 2 5 _).mono ?_)
      rintro e w5 ⟨rfl, hx5⟩
      replace c0_0f := zf hx5 c0_0 c0_0f
      replace c0_1f := zf hx5 c0_1 c0_1f
      replace c0_0 := zh hx5 c0_0
      replace c0_1 := zh hx5 c0_1
      replace c1_0f := zf hx5 c1_0 c1_0f
      replace c1_1f := zf hx5 c1_1 c1_1f
      replace c1_0 := zh hx5 c1_0
      replace c1_1 := zh hx5 c1_1
      have c2_0f : w5.frozen? ⟨w4.heap.size, 0, none⟩ = false := hx5.froz (v := .slice J 2 dj) zcv zcv
      have c2_1f : w5.frozen? ⟨w4.heap.size, 1, none⟩ = false := hx5.froz (v := .slice J2 3 dj2) zcv zcv
      have c2_0 : w5.cell? ⟨w4.heap.size, 0, none⟩ = some (.slice J 2 dj) := hx5.has zcv
      have c2_1 : w5.cell? ⟨w4.heap.size, 1, none⟩ = some (.slice J2 3 dj2) := hx5.has zcv
      have z5 := hx5.size
      try simp at z5
      have lt_c0_c2 : w1.heap.size < w4.heap.size := by omega
      have ne_c0_c2 : ¬ w1.heap.size = w4.heap.size := by omega
      have lt_c1_c2 : w2.heap.size < w4.heap.size := by omega
      have ne_c1_c2 : ¬ w2.heap.size = w4.heap.size := by omega
      have ne_c2_c0 : ¬ w4.heap.size = w1.heap.size := by omega
      have ne_c2_c1 : ¬ w4.heap.size = w2.heap.size := by omega
      have zq := zrc (show w1.heap.size < w5.heap.size from by omega)
      clear rc0 rc0a rc0b rc0c rc0n
      obtain ⟨rc0, rc0a, rc0b, rc0c, rc0n⟩ := zq
      have zq := zrc (show w2.heap.size < w5.heap.size from by omega)
      clear rc1 rc1a rc1b rc1c rc1n
      obtain ⟨rc1, rc1a, rc1b, rc1c, rc1n⟩ := zq
      have zq := zrc (show w4.heap.size < w5.heap.size from by omega)
      obtain ⟨rc2, rc2a, rc2b, rc2c, rc2n⟩ := zq
      replace HL := Lib.hid ((show OwnLoss _ w.heap.size (.slice A 1 c) 1 awL from zSlBas6_0).ext hx5)
      replace HD := Lib.hid ((show OwnCls _ w.heap.size (.slice J 2 dj) 2 awD from zSlBas6_2).ext hx5)
      replace HR := Lib.hid ((show OwnPos _ w.heap.size (.slice J2 3 dj2) 3 awQ from zSlBas6_1).ext hx5)
      have X5 : Hid (Ext w w5) := Lib.hid (Ext.trans zxt hx5)
      clear X4 hx5
      refine hK.out _ _ zSlBas6_5 (fun hHeld => ?_); clear hK K; try simp only [Act.put, List.setIfInBounds_toArray, List.set_cons_zero, List.set_cons_succ]
      refine' zn 2 (fun K hK => ?_)
      go_simp
      (refine (awValue_any dj dj2 J J2 _ (OwnCls.sl (show OwnCls _ w.heap.size (.slice J 2 dj) 2 awD from zSlBas6_2)) (OwnPos.sl (show OwnPos _ w.heap.size (.slice J2 3 dj2) 3 awQ from zSlBas6_1))).mono ?_)
      rintro e w6 ⟨rfl, hx6⟩
      replace c0_0f := zf hx6 c0_0 c0_0f
      replace c0_1f := zf hx6 c0_1 c0_1f
      replace c0_0 := zh hx6 c0_0
      replace c0_1 := zh hx6 c0_1
      replace c1_0f := zf hx6 c1_0 c1_0f
      replace c1_1f := zf hx6 c1_1 c1_1f
      replace c1_0 := zh hx6 c1_0
      replace c1_1 := zh hx6 c1_1
      replace c2_0f := zf hx6 c2_0 c2_0f
      replace c2_1f := zf hx6 c2_1 c2_1f
      replace c2_0 := zh hx6 c2_0
      replace c2_1 := zh hx6 c2_1
      have z6 := hx6.size
      try simp at z6
      have zq := zrc (show w1.heap.size < w6.heap.size from by omega)
      clear rc0 rc0a rc0b rc0c rc0n
      obtain ⟨rc0, rc0a, rc0b, rc0c, rc0n⟩ := zq
      have zq := zrc (show w2.heap.size < w6.heap.size from by omega)
      clear rc1 rc1a rc1b rc1c rc1n
      obtain ⟨rc1, rc1a, rc1b, rc1c, rc1n⟩ := zq
      have zq := zrc (show w4.heap.size < w6.heap.size from by omega)
      clear rc2 rc2a rc2b rc2c rc2n
      obtain ⟨rc2, rc2a, rc2b, rc2c, rc2n⟩ := zq
      replace HL := Lib.hid ((show OwnLoss _ w.heap.size (.slice A 1 c) 1 awL from zSlBas6_0).ext hx6)
      replace HD := Lib.hid ((show OwnCls _ w.heap.size (.slice J 2 dj) 2 awD from zSlBas6_2).ext hx6)
      replace HR := Lib.hid ((show OwnPos _ w.heap.size (.slice J2 3 dj2) 3 awQ from zSlBas6_1).ext hx6)
      have X6 : Hid (Ext w w6) := Lib.hid (Ext.trans zxt hx6)
      clear X5 hx6
      refine hK.out _ _ zSlBas6_5 (fun hHeld => ?_); clear hK K; try simp only [Act.put, List.setIfInBounds_toArray, List.set_cons_zero, List.set_cons_succ]
      refine' zt 3 ?_
      refine' zt 4 ?_
      refine' zt 5 ?_
      refine' zt 6 ?_
      refine' zt 7 ?_
      refine wpAnyH_done (by kernel_rfl) ?_ _
      go_wp2_with fail
      (refine (awOwn_any dj dj2 J J2 _ (OwnCls.sl (show OwnCls _ w.heap.size (.slice J 2 dj) 2 awD from zSlBas6_2)) (OwnPos.sl (show OwnPos _ w.heap.size (.slice J2 3 dj2) 3 awQ from zSlBas6_1))).mono ?_)
      rintro e w7 ⟨rfl, hx7⟩
      replace c0_0f := zf hx7 c0_0 c0_0f
      replace c0_1f := zf hx7 c0_1 c0_1f
      replace c0_0 := zh hx7 c0_0
      replace c0_1 := zh hx7 c0_1
      replace c1_0f := zf hx7 c1_0 c1_0f
      replace c1_1f := zf hx7 c1_1 c1_1f
      replace c1_0 := zh hx7 c1_0
      replace c1_1 := zh hx7 c1_1
      replace c2_0f := zf hx7 c2_0 c2_0f
      replace c2_1f := zf hx7 c2_1 c2_1f
      replace c2_0 := zh hx7 c2_0
      replace c2_1 := zh hx7 c2_1
      have z7 := hx7.size
      try simp at z7
      have zq := zrc (show w1.heap.size < w7.heap.size from by omega)
      clear rc0 rc0a rc0b rc0c rc0n
      obtain ⟨rc0, rc0a, rc0b, rc0c, rc0n⟩ := zq
      have zq := zrc (show w2.heap.size < w7.heap.size from by omega)
      clear rc1 rc1a rc1b rc1c rc1n
      obtain ⟨rc1, rc1a, rc1b, rc1c, rc1n⟩ := zq
      have zq := zrc (show w4.heap.size < w7.heap.size from by omega)
      clear rc2 rc2a rc2b rc2c rc2n
      obtain ⟨rc2, rc2a, rc2b, rc2c, rc2n⟩ := zq
      replace HL := Lib.hid ((show OwnLoss _ w.heap.size (.slice A 1 c) 1 awL from zSlBas6_0).ext hx7)
      have X7 : Hid (Ext w w7) := Lib.hid (Ext.trans zxt hx7)
      clear HD HR X6 hx7
      go_wp2_with fail
      (with_reducible refine (at13_any 2 5 _).mono ?_)
      rintro e w8 ⟨rfl, hx8⟩
      replace c0_0f := zf hx8 c0_0 c0_0f
      replace c0_1f := zf hx8 c0_1 c0_1f
      replace c0_0 := zh hx8 c0_0
      replace c0_1 := zh hx8 c0_1
      replace c1_0f := zf hx8 c1_0 c1_0f
      replace c1_1f := zf hx8 c1_1 c1_1f
      replace c1_0 := zh hx8 c1_0
      replace c1_1 := zh hx8 c1_1
      replace c2_0f := zf hx8 c2_0 c2_0f
      replace c2_1f := zf hx8 c2_1 c2_1f
      replace c2_0 := zh hx8 c2_0
      replace c2_1 := zh hx8 c2_1
      have z8 := hx8.size
      try simp at z8
      have zq := zrc (show w1.heap.size < w8.heap.size from by omega)
      clear rc0 rc0a rc0b rc0c rc0n
      obtain ⟨rc0, rc0a, rc0b, rc0c, rc0n⟩ := zq
      have zq := zrc (show w2.heap.size < w8.heap.size from by omega)
      clear rc1 rc1a rc1b rc1c rc1n
      obtain ⟨rc1, rc1a, rc1b, rc1c, rc1n⟩ := zq
      have zq := zrc (show w4.heap.size < w8.heap.size from by omega)
      clear rc2 rc2a rc2b rc2c rc2n
      obtain ⟨rc2, rc2a, rc2b, rc2c, rc2n⟩ := zq
      replace HL := Lib.hid ((show OwnLoss _ w.heap.size (.slice A 1 c) 1 awL from zSlBas6_0).ext hx8)
      have X8 : Hid (Ext w w8) := Lib.hid (Ext.trans zxt hx8)
      clear X7 hx8
      go_wp2_with fail
      (refine (((kSameLosses_any A (some ⟨w8.heap.size, 0, none⟩) 1 c 1 1 awL awL (w8.alloc (.cells #[.int .i64 2, .int .i64 5, .int .i64 (-1), .int .i64 0, .int .u64 2] 73)) (OwnLoss.sl (show OwnLoss _ w.heap.size (.slice A 1 c) 1 awL from zSlBas6_0)) (show Sl _ 5 _ 1 1 (awL.flatMap lossC) from sl_new w8 73 5 #[.int .i64 2, .int .i64 5, .int .i64 (-1), .int .i64 0, .int .u64 2] 1 rfl (by decide))).mono (fun e w' h => (⟨h.1.trans (by simp), h.2⟩ : e = .returned (.bool true) ∧ Ext _ w')))).mono ?_)
      rintro e w9 ⟨rfl, hx9⟩
      replace c0_0f := zf hx9 c0_0 c0_0f
      replace c0_1f := zf hx9 c0_1 c0_1f
      replace c0_0 := zh hx9 c0_0
      replace c0_1 := zh hx9 c0_1
      replace c1_0f := zf hx9 c1_0 c1_0f
      replace c1_1f := zf hx9 c1_1 c1_1f
      replace c1_0 := zh hx9 c1_0
      replace c1_1 := zh hx9 c1_1
      replace c2_0f := zf hx9 c2_0 c2_0f
      replace c2_1f := zf hx9 c2_1 c2_1f
      replace c2_0 := zh hx9 c2_0
      replace c2_1 := zh hx9 c2_1
      have c3_0f : w9.frozen? ⟨w8.heap.size, 0, none⟩ = false := hx9.froz (v := .int .i64 2) zcv zcv
      have c3_1f : w9.frozen? ⟨w8.heap.size, 1, none⟩ = false := hx9.froz (v := .int .i64 5) zcv zcv
      have c3_0 : w9.cell? ⟨w8.heap.size, 0, none⟩ = some (.int .i64 2) := hx9.has zcv
      have c3_1 : w9.cell? ⟨w8.heap.size, 1, none⟩ = some (.int .i64 5) := hx9.has zcv
      have z9 := hx9.size
      try simp at z9
      have lt_c0_c3 : w1.heap.size < w8.heap.size := by omega
      have ne_c0_c3 : ¬ w1.heap.size = w8.heap.size := by omega
      have lt_c1_c3 : w2.heap.size < w8.heap.size := by omega
      have ne_c1_c3 : ¬ w2.heap.size = w8.heap.size := by omega
      have lt_c2_c3 : w4.heap.size < w8.heap.size := by omega
      have ne_c2_c3 : ¬ w4.heap.size = w8.heap.size := by omega
      have ne_c3_c0 : ¬ w8.heap.size = w1.heap.size := by omega
      have ne_c3_c1 : ¬ w8.heap.size = w2.heap.size := by omega
      have ne_c3_c2 : ¬ w8.heap.size = w4.heap.size := by omega
      have zq := zrc (show w1.heap.size < w9.heap.size from by omega)
      clear rc0 rc0a rc0b rc0c rc0n
      obtain ⟨rc0, rc0a, rc0b, rc0c, rc0n⟩ := zq
      have zq := zrc (show w2.heap.size < w9.heap.size from by omega)
      clear rc1 rc1a rc1b rc1c rc1n
      obtain ⟨rc1, rc1a, rc1b, rc1c, rc1n⟩ := zq
      have zq := zrc (show w4.heap.size < w9.heap.size from by omega)
      clear rc2 rc2a rc2b rc2c rc2n
      obtain ⟨rc2, rc2a, rc2b, rc2c, rc2n⟩ := zq
      have zq := zrc (show w8.heap.size < w9.heap.size from by omega)
      obtain ⟨rc3, rc3a, rc3b, rc3c, rc3n⟩ := zq
      have X9 : Hid (Ext w w9) := Lib.hid (Ext.trans zxt hx9)
      clear HL X8 hx9
      go_wp2_with fail
      refine bodyPost_ret (v := .bool true) (by simp [results, Tryz.results12, go_sem, World.cell?_alloc_past, *]; try rfl) rfl ⟨rfl, ?_⟩
      exact zxt
    · go_simp
      refine hK.out _ _ zSlBas6_3 (fun hHeld => ?_); clear hK K; try simp only [Act.put, List.setIfInBounds_toArray, List.set_cons_zero, List.set_cons_succ]
      refine' zn 2 (fun K hK => ?_)
      go_simp
      (with_reducible refine (awLeave_any dg dg2 G G2 _ (OwnCls.sl (HC.out.ext zxt)) (OwnPos.sl (HQ.out.ext zxt)) hG hG2).mono ?_)
      rintro e w4 ⟨J, dj, J2, dj2, rfl, hO, hO2, hx4⟩
      replace c0_0f := zf hx4 c0_0 c0_0f
      replace c0_1f := zf hx4 c0_1 c0_1f
      replace c0_0 := zh hx4 c0_0
      replace c0_1 := zh hx4 c0_1
      replace c1_0f := zf hx4 c1_0 c1_0f
      replace c1_1f := zf hx4 c1_1 c1_1f
      replace c1_0 := zh hx4 c1_0
      replace c1_1 := zh hx4 c1_1
      have c2_0f : w4.frozen? ⟨w3.heap.size, 0, none⟩ = false := hx4.froz (v := .slice none 0 0) zcv zcv
      have c2_1f : w4.frozen? ⟨w3.heap.size, 1, none⟩ = false := hx4.froz (v := .slice none 0 0) zcv zcv
      have c2_0 : w4.cell? ⟨w3.heap.size, 0, none⟩ = some (.slice none 0 0) := hx4.has zcv
      have c2_1 : w4.cell? ⟨w3.heap.size, 1, none⟩ = some (.slice none 0 0) := hx4.has zcv
      have z4 := hx4.size
      try simp at z4
      have lt_c0_c2 : w1.heap.size < w3.heap.size := by omega
      have ne_c0_c2 : ¬ w1.heap.size = w3.heap.size := by omega
      have lt_c1_c2 : w2.heap.size < w3.heap.size := by omega
      have ne_c1_c2 : ¬ w2.heap.size = w3.heap.size := by omega
      have ne_c2_c0 : ¬ w3.heap.size = w1.heap.size := by omega
      have ne_c2_c1 : ¬ w3.heap.size = w2.heap.size := by omega
      have zq := zrc (show w1.heap.size < w4.heap.size from by omega)
      clear rc0 rc0a rc0b rc0c rc0n
      obtain ⟨rc0, rc0a, rc0b, rc0c, rc0n⟩ := zq
      have zq := zrc (show w2.heap.size < w4.heap.size from by omega)
      clear rc1 rc1a rc1b rc1c rc1n
      obtain ⟨rc1, rc1a, rc1b, rc1c, rc1n⟩ := zq
      have zq := zrc (show w3.heap.size < w4.heap.size from by omega)
      obtain ⟨rc2, rc2a, rc2b, rc2c, rc2n⟩ := zq
      replace HL := Lib.hid ((show OwnLoss _ w.heap.size (.slice A 1 c) 1 awL from zSlBas6_0).ext hx4)
      have X4 : Hid (Ext w w4) := Lib.hid (Ext.trans zxt hx4)
      have HD := Lib.hid (show OwnCls _ w.heap.size _ _ _ from own_lower hO zSlBas6_4)
      have HR := Lib.hid (show OwnPos _ w.heap.size _ _ _ from own_lower hO2 zSlBas6_4)
      clear HC HQ X3 hx4
      have RD := Lib.hid (own_rng hO)
      have RR := Lib.hid (own_rng hO2)
      clear hO hO2
      refine hK.out _ _ zSlBas6_3 (fun hHeld => ?_); clear hK K; try simp only [Act.put, List.setIfInBounds_toArray, List.set_cons_zero, List.set_cons_succ]
      refine' zt 3 ?_
      refine' zt 4 ?_
      refine' zt 5 ?_
      refine' zt 6 ?_
      refine' zn 8 (fun K hK => ?_)
      go_simp
      refine hK.out _ _ zSlBas6_3 (fun hHeld => ?_); clear hK K; try simp only [Act.put, List.setIfInBounds_toArray, List.set_cons_zero, List.set_cons_succ]
      refine' zt 9 ?_
      refine' zt 10 ?_
      refine wpAnyH_done (by kernel_rfl) ?_ _
      go_wp2_with fail
      refine wp_region_held_drew (S := fun w' => w'.cell? ⟨w3.heap.size, 0, none⟩ = some (.slice J 2 dj) ∧ w'.cell? ⟨w3.heap.size, 1, none⟩ = some (.slice J2 3 dj2)) (by kernel_rfl) (by first | exact ⟨c2_0, c2_1⟩ | (simp [go_sem, World.cell?_alloc_past, *]; done)) (fun hHeld => ?_)
      refine' zt 0 ?_
      refine' zn 1 (fun K hK => ?_)
      go_simp
      (with_reducible refine (at13_any 2 5 _).mono ?_)
      rintro e w5 ⟨rfl, hx5⟩
      replace c0_0f := zf hx5 c0_0 c0_0f
      replace c0_1f := zf hx5 c0_1 c0_1f
      replace c0_0 := zh hx5 c0_0
      replace c0_1 := zh hx5 c0_1
      replace c1_0f := zf hx5 c1_0 c1_0f
      replace c1_1f := zf hx5 c1_1 c1_1f
      replace c1_0 := zh hx5 c1_0
      replace c1_1 := zh hx5 c1_1
      replace c2_0f : w5.frozen? ⟨w3.heap.size, 0, none⟩ = false := hx5.froz (v := .slice J 2 dj) zcv zcv
      replace c2_1f : w5.frozen? ⟨w3.heap.size, 1, none⟩ = false := hx5.froz (v := .slice J2 3 dj2) zcv zcv
      replace c2_0 : w5.cell? ⟨w3.heap.size, 0, none⟩ = some (.slice J 2 dj) := hx5.has zcv
      replace c2_1 : w5.cell? ⟨w3.heap.size, 1, none⟩ = some (.slice J2 3 dj2) := hx5.has zcv
      have z5 := hx5.size
      try simp at z5
      have zq := zrc (show w1.heap.size < w5.heap.size from by omega)
      clear rc0 rc0a rc0b rc0c rc0n
      obtain ⟨rc0, rc0a, rc0b, rc0c, rc0n⟩ := zq
      have zq := zrc (show w2.heap.size < w5.heap.size from by omega)
      clear rc1 rc1a rc1b rc1c rc1n
      obtain ⟨rc1, rc1a, rc1b, rc1c, rc1n⟩ := zq
      have zq := zrc (show w3.heap.size < w5.heap.size from by omega)
      clear rc2 rc2a rc2b rc2c rc2n
      obtain ⟨rc2, rc2a, rc2b, rc2c, rc2n⟩ := zq
      replace HL := Lib.hid ((show OwnLoss _ w.heap.size (.slice A 1 c) 1 awL from zSlBas6_0).ext hx5)
      replace HD := Lib.hid ((show OwnCls _ w.heap.size (.slice J 2 dj) 2 awD from zSlBas6_2).ext hx5)
      replace HR := Lib.hid ((show OwnPos _ w.heap.size (.slice J2 3 dj2) 3 awQ from zSlBas6_1).ext hx5)
      have X5 : Hid (Ext w w5) := Lib.hid (Ext.trans zxt hx5)
      clear X4 hx5
      refine hK.out _ _ zSlBas6_5 (fun hHeld => ?_); clear hK K; try simp only [Act.put, List.setIfInBounds_toArray, List.set_cons_zero, List.set_cons_succ]
      refine' zn 2 (fun K hK => ?_)
      go_simp
      (refine (awValue_any dj dj2 J J2 _ (OwnCls.sl (show OwnCls _ w.heap.size (.slice J 2 dj) 2 awD from zSlBas6_2)) (OwnPos.sl (show OwnPos _ w.heap.size (.slice J2 3 dj2) 3 awQ from zSlBas6_1))).mono ?_)
      rintro e w6 ⟨rfl, hx6⟩
      replace c0_0f := zf hx6 c0_0 c0_0f
      replace c0_1f := zf hx6 c0_1 c0_1f
      replace c0_0 := zh hx6 c0_0
      replace c0_1 := zh hx6 c0_1
      replace c1_0f := zf hx6 c1_0 c1_0f
      replace c1_1f := zf hx6 c1_1 c1_1f
      replace c1_0 := zh hx6 c1_0
      replace c1_1 := zh hx6 c1_1
      replace c2_0f := zf hx6 c2_0 c2_0f
      replace c2_1f := zf hx6 c2_1 c2_1f
      replace c2_0 := zh hx6 c2_0
      replace c2_1 := zh hx6 c2_1
      have z6 := hx6.size
      try simp at z6
      have zq := zrc (show w1.heap.size < w6.heap.size from by omega)
      clear rc0 rc0a rc0b rc0c rc0n
      obtain ⟨rc0, rc0a, rc0b, rc0c, rc0n⟩ := zq
      have zq := zrc (show w2.heap.size < w6.heap.size from by omega)
      clear rc1 rc1a rc1b rc1c rc1n
      obtain ⟨rc1, rc1a, rc1b, rc1c, rc1n⟩ := zq
      have zq := zrc (show w3.heap.size < w6.heap.size from by omega)
      clear rc2 rc2a rc2b rc2c rc2n
      obtain ⟨rc2, rc2a, rc2b, rc2c, rc2n⟩ := zq
      replace HL := Lib.hid ((show OwnLoss _ w.heap.size (.slice A 1 c) 1 awL from zSlBas6_0).ext hx6)
      replace HD := Lib.hid ((show OwnCls _ w.heap.size (.slice J 2 dj) 2 awD from zSlBas6_2).ext hx6)
      replace HR := Lib.hid ((show OwnPos _ w.heap.size (.slice J2 3 dj2) 3 awQ from zSlBas6_1).ext hx6)
      have X6 : Hid (Ext w w6) := Lib.hid (Ext.trans zxt hx6)
      clear X5 hx6
      refine hK.out _ _ zSlBas6_5 (fun hHeld => ?_); clear hK K; try simp only [Act.put, List.setIfInBounds_toArray, List.set_cons_zero, List.set_cons_succ]
      refine' zt 3 ?_
      refine' zt 4 ?_
      refine' zt 5 ?_
      refine' zt 6 ?_
      refine' zt 7 ?_
      refine wpAnyH_done (by kernel_rfl) ?_ _
      go_wp2_with fail
      (refine (awOwn_any dj dj2 J J2 _ (OwnCls.sl (show OwnCls _ w.heap.size (.slice J 2 dj) 2 awD from zSlBas6_2)) (OwnPos.sl (show OwnPos _ w.heap.size (.slice J2 3 dj2) 3 awQ from zSlBas6_1))).mono ?_)
      rintro e w7 ⟨rfl, hx7⟩
      replace c0_0f := zf hx7 c0_0 c0_0f
      replace c0_1f := zf hx7 c0_1 c0_1f
      replace c0_0 := zh hx7 c0_0
      replace c0_1 := zh hx7 c0_1
      replace c1_0f := zf hx7 c1_0 c1_0f
      replace c1_1f := zf hx7 c1_1 c1_1f
      replace c1_0 := zh hx7 c1_0
      replace c1_1 := zh hx7 c1_1
      replace c2_0f := zf hx7 c2_0 c2_0f
      replace c2_1f := zf hx7 c2_1 c2_1f
      replace c2_0 := zh hx7 c2_0
      replace c2_1 := zh hx7 c2_1
      have z7 := hx7.size
      try simp at z7
      have zq := zrc (show w1.heap.size < w7.heap.size from by omega)
      clear rc0 rc0a rc0b rc0c rc0n
      obtain ⟨rc0, rc0a, rc0b, rc0c, rc0n⟩ := zq
      have zq := zrc (show w2.heap.size < w7.heap.size from by omega)
      clear rc1 rc1a rc1b rc1c rc1n
      obtain ⟨rc1, rc1a, rc1b, rc1c, rc1n⟩ := zq
      have zq := zrc (show w3.heap.size < w7.heap.size from by omega)
      clear rc2 rc2a rc2b rc2c rc2n
      obtain ⟨rc2, rc2a, rc2b, rc2c, rc2n⟩ := zq
      replace HL := Lib.hid ((show OwnLoss _ w.heap.size (.slice A 1 c) 1 awL from zSlBas6_0).ext hx7)
      have X7 : Hid (Ext w w7) := Lib.hid (Ext.trans zxt hx7)
      clear HD HR X6 hx7
      go_wp2_with fail
      (with_reducible refine (at13_any 2 5 _).mono ?_)
      rintro e w8 ⟨rfl, hx8⟩
      replace c0_0f := zf hx8 c0_0 c0_0f
      replace c0_1f := zf hx8 c0_1 c0_1f
      replace c0_0 := zh hx8 c0_0
      replace c0_1 := zh hx8 c0_1
      replace c1_0f := zf hx8 c1_0 c1_0f
      replace c1_1f := zf hx8 c1_1 c1_1f
      replace c1_0 := zh hx8 c1_0
      replace c1_1 := zh hx8 c1_1
      replace c2_0f := zf hx8 c2_0 c2_0f
      replace c2_1f := zf hx8 c2_1 c2_1f
      replace c2_0 := zh hx8 c2_0
      replace c2_1 := zh hx8 c2_1
      have z8 := hx8.size
      try simp at z8
      have zq := zrc (show w1.heap.size < w8.heap.size from by omega)
      clear rc0 rc0a rc0b rc0c rc0n
      obtain ⟨rc0, rc0a, rc0b, rc0c, rc0n⟩ := zq
      have zq := zrc (show w2.heap.size < w8.heap.size from by omega)
      clear rc1 rc1a rc1b rc1c rc1n
      obtain ⟨rc1, rc1a, rc1b, rc1c, rc1n⟩ := zq
      have zq := zrc (show w3.heap.size < w8.heap.size from by omega)
      clear rc2 rc2a rc2b rc2c rc2n
      obtain ⟨rc2, rc2a, rc2b, rc2c, rc2n⟩ := zq
      replace HL := Lib.hid ((show OwnLoss _ w.heap.size (.slice A 1 c) 1 awL from zSlBas6_0).ext hx8)
      have X8 : Hid (Ext w w8) := Lib.hid (Ext.trans zxt hx8)
      clear X7 hx8
      go_wp2_with fail
      (refine (((kSameLosses_any A (some ⟨w8.heap.size, 0, none⟩) 1 c 1 1 awL awL (w8.alloc (.cells #[.int .i64 2, .int .i64 5, .int .i64 (-1), .int .i64 0, .int .u64 2] 73)) (OwnLoss.sl (show OwnLoss _ w.heap.size (.slice A 1 c) 1 awL from zSlBas6_0)) (show Sl _ 5 _ 1 1 (awL.flatMap lossC) from sl_new w8 73 5 #[.int .i64 2, .int .i64 5, .int .i64 (-1), .int .i64 0, .int .u64 2] 1 rfl (by decide))).mono (fun e w' h => (⟨h.1.trans (by simp), h.2⟩ : e = .returned (.bool true) ∧ Ext _ w')))).mono ?_)
      rintro e w9 ⟨rfl, hx9⟩
      replace c0_0f := zf hx9 c0_0 c0_0f
      replace c0_1f := zf hx9 c0_1 c0_1f
      replace c0_0 := zh hx9 c0_0
      replace c0_1 := zh hx9 c0_1
      replace c1_0f := zf hx9 c1_0 c1_0f
      replace c1_1f := zf hx9 c1_1 c1_1f
      replace c1_0 := zh hx9 c1_0
      replace c1_1 := zh hx9 c1_1
      replace c2_0f := zf hx9 c2_0 c2_0f
      replace c2_1f := zf hx9 c2_1 c2_1f
      replace c2_0 := zh hx9 c2_0
      replace c2_1 := zh hx9 c2_1
      have c3_0f : w9.frozen? ⟨w8.heap.size, 0, none⟩ = false := hx9.froz (v := .int .i64 2) zcv zcv
      have c3_1f : w9.frozen? ⟨w8.heap.size, 1, none⟩ = false := hx9.froz (v := .int .i64 5) zcv zcv
      have c3_0 : w9.cell? ⟨w8.heap.size, 0, none⟩ = some (.int .i64 2) := hx9.has zcv
      have c3_1 : w9.cell? ⟨w8.heap.size, 1, none⟩ = some (.int .i64 5) := hx9.has zcv
      have z9 := hx9.size
      try simp at z9
      have lt_c0_c3 : w1.heap.size < w8.heap.size := by omega
      have ne_c0_c3 : ¬ w1.heap.size = w8.heap.size := by omega
      have lt_c1_c3 : w2.heap.size < w8.heap.size := by omega
      have ne_c1_c3 : ¬ w2.heap.size = w8.heap.size := by omega
      have lt_c2_c3 : w3.heap.size < w8.heap.size := by omega
      have ne_c2_c3 : ¬ w3.heap.size = w8.heap.size := by omega
      have ne_c3_c0 : ¬ w8.heap.size = w1.heap.size := by omega
      have ne_c3_c1 : ¬ w8.heap.size = w2.heap.size := by omega
      have ne_c3_c2 : ¬ w8.heap.size = w3.heap.size := by omega
      have zq := zrc (show w1.heap.size < w9.heap.size from by omega)
      clear rc0 rc0a rc0b rc0c rc0n
      obtain ⟨rc0, rc0a, rc0b, rc0c, rc0n⟩ := zq
      have zq := zrc (show w2.heap.size < w9.heap.size from by omega)
      clear rc1 rc1a rc1b rc1c rc1n
      obtain ⟨rc1, rc1a, rc1b, rc1c, rc1n⟩ := zq
      have zq := zrc (show w3.heap.size < w9.heap.size from by omega)
      clear rc2 rc2a rc2b rc2c rc2n
      obtain ⟨rc2, rc2a, rc2b, rc2c, rc2n⟩ := zq
      have zq := zrc (show w8.heap.size < w9.heap.size from by omega)
      obtain ⟨rc3, rc3a, rc3b, rc3c, rc3n⟩ := zq
      have X9 : Hid (Ext w w9) := Lib.hid (Ext.trans zxt hx9)
      clear HL X8 hx9
      go_wp2_with fail
      refine bodyPost_ret (v := .bool true) (by simp [results, Tryz.results12, go_sem, World.cell?_alloc_past, *]; try rfl) rfl ⟨rfl, ?_⟩
      exact zxt
  · go_simp
    refine hK.out _ _ zSlBas6_3 (fun hHeld => ?_); clear hK K; try simp only [Act.put, List.setIfInBounds_toArray, List.set_cons_zero, List.set_cons_succ]
    refine' zn 1 (fun K hK => ?_)
    go_simp
    (with_reducible refine (at13_any 2 5 _).mono ?_)
    rintro e w3 ⟨rfl, hx3⟩
    replace c0_0f := zf hx3 c0_0 c0_0f
    replace c0_1f := zf hx3 c0_1 c0_1f
    replace c0_0 := zh hx3 c0_0
    replace c0_1 := zh hx3 c0_1
    have c1_0f : w3.frozen? ⟨w2.heap.size, 0, none⟩ = false := hx3.froz (v := .slice G 2 dg) zcv zcv
    have c1_1f : w3.frozen? ⟨w2.heap.size, 1, none⟩ = false := hx3.froz (v := .slice G2 3 dg2) zcv zcv
    have c1_0 : w3.cell? ⟨w2.heap.size, 0, none⟩ = some (.slice G 2 dg) := hx3.has zcv
    have c1_1 : w3.cell? ⟨w2.heap.size, 1, none⟩ = some (.slice G2 3 dg2) := hx3.has zcv
    have c2_0f : w3.frozen? ⟨w2.heap.size + 1, 0, none⟩ = false := hx3.froz (v := .slice none 0 0) zcv zcv
    have c2_1f : w3.frozen? ⟨w2.heap.size + 1, 1, none⟩ = false := hx3.froz (v := .slice none 0 0) zcv zcv
    have c2_0 : w3.cell? ⟨w2.heap.size + 1, 0, none⟩ = some (.slice none 0 0) := hx3.has zcv
    have c2_1 : w3.cell? ⟨w2.heap.size + 1, 1, none⟩ = some (.slice none 0 0) := hx3.has zcv
    have z3 := hx3.size
    try simp at z3
    have lt_c0_c1 : w1.heap.size < w2.heap.size := by omega
    have ne_c0_c1 : ¬ w1.heap.size = w2.heap.size := by omega
    have lt_c0_c2 : w1.heap.size < w2.heap.size + 1 := by omega
    have ne_c0_c2 : ¬ w1.heap.size = w2.heap.size + 1 := by omega
    have ne_c1_c0 : ¬ w2.heap.size = w1.heap.size := by omega
    have lt_c1_c2 : w2.heap.size < w2.heap.size + 1 := by omega
    have ne_c1_c2 : ¬ w2.heap.size = w2.heap.size + 1 := by omega
    have ne_c2_c0 : ¬ w2.heap.size + 1 = w1.heap.size := by omega
    have ne_c2_c1 : ¬ w2.heap.size + 1 = w2.heap.size := by omega
    have zq := zrc (show w1.heap.size < w3.heap.size from by omega)
    clear rc0 rc0a rc0b rc0c rc0n
    obtain ⟨rc0, rc0a, rc0b, rc0c, rc0n⟩ := zq
    have zq := zrc (show w2.heap.size < w3.heap.size from by omega)
    obtain ⟨rc1, rc1a, rc1b, rc1c, rc1n⟩ := zq
    have zq := zrc (show w2.heap.size + 1 < w3.heap.size from by omega)
    obtain ⟨rc2, rc2a, rc2b, rc2c, rc2n⟩ := zq
    replace HC := Lib.hid (HC.out.ext (Ext.trans zxt hx3))
    replace HQ := Lib.hid (HQ.out.ext (Ext.trans zxt hx3))
    replace HL := Lib.hid ((show OwnLoss _ w.heap.size (.slice A 1 c) 1 awL from zSlBas6_0).ext hx3)
    have X3 : Hid (Ext w w3) := Lib.hid (Ext.trans zxt hx3)
    clear X2 hx3
    refine hK.out _ _ zSlBas6_3 (fun hHeld => ?_); clear hK K; try simp only [Act.put, List.setIfInBounds_toArray, List.set_cons_zero, List.set_cons_succ]
    refine' zn 2 (fun K hK => ?_)
    go_simp
    (with_reducible refine (awLeave_any dg dg2 G G2 _ (OwnCls.sl (HC.out.ext zxt)) (OwnPos.sl (HQ.out.ext zxt)) hG hG2).mono ?_)
    rintro e w4 ⟨J, dj, J2, dj2, rfl, hO, hO2, hx4⟩
    replace c0_0f := zf hx4 c0_0 c0_0f
    replace c0_1f := zf hx4 c0_1 c0_1f
    replace c0_0 := zh hx4 c0_0
    replace c0_1 := zh hx4 c0_1
    replace c1_0f := zf hx4 c1_0 c1_0f
    replace c1_1f := zf hx4 c1_1 c1_1f
    replace c1_0 := zh hx4 c1_0
    replace c1_1 := zh hx4 c1_1
    replace c2_0f := zf hx4 c2_0 c2_0f
    replace c2_1f := zf hx4 c2_1 c2_1f
    replace c2_0 := zh hx4 c2_0
    replace c2_1 := zh hx4 c2_1
    have z4 := hx4.size
    try simp at z4
    have zq := zrc (show w1.heap.size < w4.heap.size from by omega)
    clear rc0 rc0a rc0b rc0c rc0n
    obtain ⟨rc0, rc0a, rc0b, rc0c, rc0n⟩ := zq
    have zq := zrc (show w2.heap.size < w4.heap.size from by omega)
    clear rc1 rc1a rc1b rc1c rc1n
    obtain ⟨rc1, rc1a, rc1b, rc1c, rc1n⟩ := zq
    have zq := zrc (show w2.heap.size + 1 < w4.heap.size from by omega)
    clear rc2 rc2a rc2b rc2c rc2n
    obtain ⟨rc2, rc2a, rc2b, rc2c, rc2n⟩ := zq
    replace HL := Lib.hid ((show OwnLoss _ w.heap.size (.slice A 1 c) 1 awL from zSlBas6_0).ext hx4)
    have X4 : Hid (Ext w w4) := Lib.hid (Ext.trans zxt hx4)
    have HD := Lib.hid (show OwnCls _ w.heap.size _ _ _ from own_lower hO zSlBas6_4)
    have HR := Lib.hid (show OwnPos _ w.heap.size _ _ _ from own_lower hO2 zSlBas6_4)
    clear HC HQ X3 hx4
    have RD := Lib.hid (own_rng hO)
    have RR := Lib.hid (own_rng hO2)
    clear hO hO2
    refine hK.out _ _ zSlBas6_3 (fun hHeld => ?_); clear hK K; try simp only [Act.put, List.setIfInBounds_toArray, List.set_cons_zero, List.set_cons_succ]
    refine' zt 3 ?_
    refine' zt 4 ?_
    refine' zt 5 ?_
    refine' zt 6 ?_
    refine' zn 8 (fun K hK => ?_)
    go_simp
    refine hK.out _ _ zSlBas6_3 (fun hHeld => ?_); clear hK K; try simp only [Act.put, List.setIfInBounds_toArray, List.set_cons_zero, List.set_cons_succ]
    refine' zt 9 ?_
    refine' zt 10 ?_
    refine wpAnyH_done (by kernel_rfl) ?_ _
    go_wp2_with fail
    refine wp_region_held_drew (S := fun w' => w'.cell? ⟨w2.heap.size + 1, 0, none⟩ = some (.slice J 2 dj) ∧ w'.cell? ⟨w2.heap.size + 1, 1, none⟩ = some (.slice J2 3 dj2)) (by kernel_rfl) (by first | exact ⟨c2_0, c2_1⟩ | (simp [go_sem, World.cell?_alloc_past, *]; done)) (fun hHeld => ?_)
    refine' zt 0 ?_
    refine' zn 1 (fun K hK => ?_)
    go_simp
    (with_reducible refine (at13_any 2 5 _).mono ?_)
    rintro e w5 ⟨rfl, hx5⟩
    replace c0_0f := zf hx5 c0_0 c0_0f
    replace c0_1f := zf hx5 c0_1 c0_1f
    replace c0_0 := zh hx5 c0_0
    replace c0_1 := zh hx5 c0_1
    replace c1_0f := zf hx5 c1_0 c1_0f
    replace c1_1f := zf hx5 c1_1 c1_1f
    replace c1_0 := zh hx5 c1_0
    replace c1_1 := zh hx5 c1_1
    replace c2_0f : w5.frozen? ⟨w2.heap.size + 1, 0, none⟩ = false := hx5.froz (v := .slice J 2 dj) zcv zcv
    replace c2_1f : w5.frozen? ⟨w2.heap.size + 1, 1, none⟩ = false := hx5.froz (v := .slice J2 3 dj2) zcv zcv
    replace c2_0 : w5.cell? ⟨w2.heap.size + 1, 0, none⟩ = some (.slice J 2 dj) := hx5.has zcv
    replace c2_1 : w5.cell? ⟨w2.heap.size + 1, 1, none⟩ = some (.slice J2 3 dj2) := hx5.has zcv
    have z5 := hx5.size
    try simp at z5
    have zq := zrc (show w1.heap.size < w5.heap.size from by omega)
    clear rc0 rc0a rc0b rc0c rc0n
    obtain ⟨rc0, rc0a, rc0b, rc0c, rc0n⟩ := zq
    have zq := zrc (show w2.heap.size < w5.heap.size from by omega)
    clear rc1 rc1a rc1b rc1c rc1n
    obtain ⟨rc1, rc1a, rc1b, rc1c, rc1n⟩ := zq
    have zq := zrc (show w2.heap.size + 1 < w5.heap.size from by omega)
    clear rc2 rc2a rc2b rc2c rc2n
    obtain ⟨rc2, rc2a, rc2b, rc2c, rc2n⟩ := zq
    replace HL := Lib.hid ((show OwnLoss _ w.heap.size (.slice A 1 c) 1 awL from zSlBas6_0).ext hx5)
    replace HD := Lib.hid ((show OwnCls _ w.heap.size (.slice J 2 dj) 2 awD from zSlBas6_2).ext hx5)
    replace HR := Lib.hid ((show OwnPos _ w.heap.size (.slice J2 3 dj2) 3 awQ from zSlBas6_1).ext hx5)
    have X5 : Hid (Ext w w5) := Lib.hid (Ext.trans zxt hx5)
    clear X4 hx5
    refine hK.out _ _ zSlBas6_5 (fun hHeld => ?_); clear hK K; try simp only [Act.put, List.setIfInBounds_toArray, List.set_cons_zero, List.set_cons_succ]
    refine' zn 2 (fun K hK => ?_)
    go_simp
    (refine (awValue_any dj dj2 J J2 _ (OwnCls.sl (show OwnCls _ w.heap.size (.slice J 2 dj) 2 awD from zSlBas6_2)) (OwnPos.sl (show OwnPos _ w.heap.size (.slice J2 3 dj2) 3 awQ from zSlBas6_1))).mono ?_)
    rintro e w6 ⟨rfl, hx6⟩
    replace c0_0f := zf hx6 c0_0 c0_0f
    replace c0_1f := zf hx6 c0_1 c0_1f
    replace c0_0 := zh hx6 c0_0
    replace c0_1 := zh hx6 c0_1
    replace c1_0f := zf hx6 c1_0 c1_0f
    replace c1_1f := zf hx6 c1_1 c1_1f
    replace c1_0 := zh hx6 c1_0
    replace c1_1 := zh hx6 c1_1
    replace c2_0f := zf hx6 c2_0 c2_0f
    replace c2_1f := zf hx6 c2_1 c2_1f
    replace c2_0 := zh hx6 c2_0
    replace c2_1 := zh hx6 c2_1
    have z6 := hx6.size
    try simp at z6
    have zq := zrc (show w1.heap.size < w6.heap.size from by omega)
    clear rc0 rc0a rc0b rc0c rc0n
    obtain ⟨rc0, rc0a, rc0b, rc0c, rc0n⟩ := zq
    have zq := zrc (show w2.heap.size < w6.heap.size from by omega)
    clear rc1 rc1a rc1b rc1c rc1n
    obtain ⟨rc1, rc1a, rc1b, rc1c, rc1n⟩ := zq
    have zq := zrc (show w2.heap.size + 1 < w6.heap.size from by omega)
    clear rc2 rc2a rc2b rc2c rc2n
    obtain ⟨rc2, rc2a, rc2b, rc2c, rc2n⟩ := zq
    replace HL := Lib.hid ((show OwnLoss _ w.heap.size (.slice A 1 c) 1 awL from zSlBas6_0).ext hx6)
    replace HD := Lib.hid ((show OwnCls _ w.heap.size (.slice J 2 dj) 2 awD from zSlBas6_2).ext hx6)
    replace HR := Lib.hid ((show OwnPos _ w.heap.size (.slice J2 3 dj2) 3 awQ from zSlBas6_1).ext hx6)
    have X6 : Hid (Ext w w6) := Lib.hid (Ext.trans zxt hx6)
    clear X5 hx6
    refine hK.out _ _ zSlBas6_5 (fun hHeld => ?_); clear hK K; try simp only [Act.put, List.setIfInBounds_toArray, List.set_cons_zero, List.set_cons_succ]
    refine' zt 3 ?_
    refine' zt 4 ?_
    refine' zt 5 ?_
    refine' zt 6 ?_
    refine' zt 7 ?_
    refine wpAnyH_done (by kernel_rfl) ?_ _
    go_wp2_with fail
    (refine (awOwn_any dj dj2 J J2 _ (OwnCls.sl (show OwnCls _ w.heap.size (.slice J 2 dj) 2 awD from zSlBas6_2)) (OwnPos.sl (show OwnPos _ w.heap.size (.slice J2 3 dj2) 3 awQ from zSlBas6_1))).mono ?_)
    rintro e w7 ⟨rfl, hx7⟩
    replace c0_0f := zf hx7 c0_0 c0_0f
    replace c0_1f := zf hx7 c0_1 c0_1f
    replace c0_0 := zh hx7 c0_0
    replace c0_1 := zh hx7 c0_1
    replace c1_0f := zf hx7 c1_0 c1_0f
    replace c1_1f := zf hx7 c1_1 c1_1f
    replace c1_0 := zh hx7 c1_0
    replace c1_1 := zh hx7 c1_1
    replace c2_0f := zf hx7 c2_0 c2_0f
    replace c2_1f := zf hx7 c2_1 c2_1f
    replace c2_0 := zh hx7 c2_0
    replace c2_1 := zh hx7 c2_1
    have z7 := hx7.size
    try simp at z7
    have zq := zrc (show w1.heap.size < w7.heap.size from by omega)
    clear rc0 rc0a rc0b rc0c rc0n
    obtain ⟨rc0, rc0a, rc0b, rc0c, rc0n⟩ := zq
    have zq := zrc (show w2.heap.size < w7.heap.size from by omega)
    clear rc1 rc1a rc1b rc1c rc1n
    obtain ⟨rc1, rc1a, rc1b, rc1c, rc1n⟩ := zq
    have zq := zrc (show w2.heap.size + 1 < w7.heap.size from by omega)
    clear rc2 rc2a rc2b rc2c rc2n
    obtain ⟨rc2, rc2a, rc2b, rc2c, rc2n⟩ := zq
    replace HL := Lib.hid ((show OwnLoss _ w.heap.size (.slice A 1 c) 1 awL from zSlBas6_0).ext hx7)
    have X7 : Hid (Ext w w7) := Lib.hid (Ext.trans zxt hx7)
    clear HD HR X6 hx7
    go_wp2_with fail
    (with_reducible refine (at13_any 2 5 _).mono ?_)
    rintro e w8 ⟨rfl, hx8⟩
    replace c0_0f := zf hx8 c0_0 c0_0f
    replace c0_1f := zf hx8 c0_1 c0_1f
    replace c0_0 := zh hx8 c0_0
    replace c0_1 := zh hx8 c0_1
    replace c1_0f := zf hx8 c1_0 c1_0f
    replace c1_1f := zf hx8 c1_1 c1_1f
    replace c1_0 := zh hx8 c1_0
    replace c1_1 := zh hx8 c1_1
    replace c2_0f := zf hx8 c2_0 c2_0f
    replace c2_1f := zf hx8 c2_1 c2_1f
    replace c2_0 := zh hx8 c2_0
    replace c2_1 := zh hx8 c2_1
    have z8 := hx8.size
    try simp at z8
    have zq := zrc (show w1.heap.size < w8.heap.size from by omega)
    clear rc0 rc0a rc0b rc0c rc0n
    obtain ⟨rc0, rc0a, rc0b, rc0c, rc0n⟩ := zq
    have zq := zrc (show w2.heap.size < w8.heap.size from by omega)
    clear rc1 rc1a rc1b rc1c rc1n
    obtain ⟨rc1, rc1a, rc1b, rc1c, rc1n⟩ := zq
    have zq := zrc (show w2.heap.size + 1 < w8.heap.size from by omega)
    clear rc2 rc2a rc2b rc2c rc2n
    obtain ⟨rc2, rc2a, rc2b, rc2c, rc2n⟩ := zq
    replace HL := Lib.hid ((show OwnLoss _ w.heap.size (.slice A 1 c) 1 awL from zSlBas6_0).ext hx8)
    have X8 : Hid (Ext w w8) := Lib.hid (Ext.trans zxt hx8)
    clear X7 hx8
    go_wp2_with fail
    (refine (((kSameLosses_any A (some ⟨w8.heap.size, 0, none⟩) 1 c 1 1 awL awL (w8.alloc (.cells #[.int .i64 2, .int .i64 5, .int .i64 (-1), .int .i64 0, .int .u64 2] 73)) (OwnLoss.sl (show OwnLoss _ w.heap.size (.slice A 1 c) 1 awL from zSlBas6_0)) (show Sl _ 5 _ 1 1 (awL.flatMap lossC) from sl_new w8 73 5 #[.int .i64 2, .int .i64 5, .int .i64 (-1), .int .i64 0, .int .u64 2] 1 rfl (by decide))).mono (fun e w' h => (⟨h.1.trans (by simp), h.2⟩ : e = .returned (.bool true) ∧ Ext _ w')))).mono ?_)
    rintro e w9 ⟨rfl, hx9⟩
    replace c0_0f := zf hx9 c0_0 c0_0f
    replace c0_1f := zf hx9 c0_1 c0_1f
    replace c0_0 := zh hx9 c0_0
    replace c0_1 := zh hx9 c0_1
    replace c1_0f := zf hx9 c1_0 c1_0f
    replace c1_1f := zf hx9 c1_1 c1_1f
    replace c1_0 := zh hx9 c1_0
    replace c1_1 := zh hx9 c1_1
    replace c2_0f := zf hx9 c2_0 c2_0f
    replace c2_1f := zf hx9 c2_1 c2_1f
    replace c2_0 := zh hx9 c2_0
    replace c2_1 := zh hx9 c2_1
    have c3_0f : w9.frozen? ⟨w8.heap.size, 0, none⟩ = false := hx9.froz (v := .int .i64 2) zcv zcv
    have c3_1f : w9.frozen? ⟨w8.heap.size, 1, none⟩ = false := hx9.froz (v := .int .i64 5) zcv zcv
    have c3_0 : w9.cell? ⟨w8.heap.size, 0, none⟩ = some (.int .i64 2) := hx9.has zcv
    have c3_1 : w9.cell? ⟨w8.heap.size, 1, none⟩ = some (.int .i64 5) := hx9.has zcv
    have z9 := hx9.size
    try simp at z9
    have lt_c0_c3 : w1.heap.size < w8.heap.size := by omega
    have ne_c0_c3 : ¬ w1.heap.size = w8.heap.size := by omega
    have lt_c1_c3 : w2.heap.size < w8.heap.size := by omega
    have ne_c1_c3 : ¬ w2.heap.size = w8.heap.size := by omega
    have lt_c2_c3 : w2.heap.size + 1 < w8.heap.size := by omega
    have ne_c2_c3 : ¬ w2.heap.size + 1 = w8.heap.size := by omega
    have ne_c3_c0 : ¬ w8.heap.size = w1.heap.size := by omega
    have ne_c3_c1 : ¬ w8.heap.size = w2.heap.size := by omega
    have ne_c3_c2 : ¬ w8.heap.size = w2.heap.size + 1 := by omega
    have zq := zrc (show w1.heap.size < w9.heap.size from by omega)
    clear rc0 rc0a rc0b rc0c rc0n
    obtain ⟨rc0, rc0a, rc0b, rc0c, rc0n⟩ := zq
    have zq := zrc (show w2.heap.size < w9.heap.size from by omega)
    clear rc1 rc1a rc1b rc1c rc1n
    obtain ⟨rc1, rc1a, rc1b, rc1c, rc1n⟩ := zq
    have zq := zrc (show w2.heap.size + 1 < w9.heap.size from by omega)
    clear rc2 rc2a rc2b rc2c rc2n
    obtain ⟨rc2, rc2a, rc2b, rc2c, rc2n⟩ := zq
    have zq := zrc (show w8.heap.size < w9.heap.size from by omega)
    obtain ⟨rc3, rc3a, rc3b, rc3c, rc3n⟩ := zq
    have X9 : Hid (Ext w w9) := Lib.hid (Ext.trans zxt hx9)
    clear HL X8 hx9
    go_wp2_with fail
    refine bodyPost_ret (v := .bool true) (by simp [results, Tryz.results12, go_sem, World.cell?_alloc_past, *]; try rfl) rfl ⟨rfl, ?_⟩
    exact zxt
end
end Go.Proofs.YtkinchgjidpjnaaGreat
