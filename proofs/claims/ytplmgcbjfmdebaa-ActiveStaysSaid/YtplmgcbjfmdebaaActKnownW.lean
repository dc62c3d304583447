/- law17: ActiveKnown returns true. Conditions: none. -/
import Derived.Test.YtplmgcbjfmdebaaAct13
set_option linter.unusedVariables false
set_option linter.unusedSimpArgs false
namespace Go.Proofs.Ytplmgcbjfmdebaa
open Go.RowKit Go.Shelf Go.ChangeShapes Go.WideShapes Go.Deep

set_option maxRecDepth 100000 in
set_option maxHeartbeats 4000000 in
theorem ActiveKnown_any (w : World) : Calls Try.prog 5 #[] w fun r w' => r = .returned (.bool true) ∧ Ext w w' := by
  go_enter Try.func5, Try.ntmps5
  go_wp2_with fail
  have HW1 := Lib.hid (wd_newA w [5, 9] 2 (some ⟨w.heap.size, 0, none⟩) #[.int .u64 5, .int .u64 9] rfl rfl rfl (by omega))
  (with_reducible refine (bools17_ev ⟨#[48, 49]⟩ [false, true] 2 _ (by decide) (by decide) rfl).mono ?_)
  rintro e w1 ⟨B1, bB1, rfl, hB1, hx1⟩
  have z1 := hx1.size
  try simp at z1
  replace HW1 := Lib.hid (HW1.out.ext (Ext.trans (by repeat (first | with_reducible exact Ext.refl _ | with_reducible refine Ext.drew ?_ | with_reducible refine Ext.drewN ?_ _ | with_reducible refine Ext.alloc ?_ _ | with_reducible refine Ext.setCell ?_ (by first | omega | (simp; done) | (simp; omega)) _)) hx1))
  have X1 : Hid (Ext w w1) := Lib.hid (Ext.trans (by repeat (first | with_reducible exact Ext.refl w | with_reducible refine Ext.drew ?_ | with_reducible refine Ext.drewN ?_ _ | with_reducible refine Ext.alloc ?_ _ | with_reducible refine Ext.setCell ?_ (by first | omega | (simp; done) | (simp; omega)) _)) hx1)
  have HB1 := Lib.hid hB1
  clear hx1 z1 hB1
  go_wp2_with fail
  (with_reducible refine (rank_ev _ _ 2 2 2 _ [5, 9] [false, true] [1] 1 _ (HW1.out.ext (by repeat (first | with_reducible exact Ext.refl _ | with_reducible refine Ext.drew ?_ | with_reducible refine Ext.drewN ?_ _ | with_reducible refine Ext.alloc ?_ _ | with_reducible refine Ext.setCell ?_ (by first | omega | (simp; done) | (simp; omega)) _))) (OwnBool.sl (HB1.out.ext (by repeat (first | with_reducible exact Ext.refl _ | with_reducible refine Ext.drew ?_ | with_reducible refine Ext.drewN ?_ _ | with_reducible refine Ext.alloc ?_ _ | with_reducible refine Ext.setCell ?_ (by first | omega | (simp; done) | (simp; omega)) _)))) (by decide) (by decide) (words_of rfl) (by decide) rfl).mono ?_)
  rintro e w2 ⟨A2, cA2, rfl, hA2, hx2⟩
  have z2 := hx2.size
  try simp at z2
  replace HW1 := Lib.hid (HW1.out.ext (Ext.trans (by repeat (first | with_reducible exact Ext.refl _ | with_reducible refine Ext.drew ?_ | with_reducible refine Ext.drewN ?_ _ | with_reducible refine Ext.alloc ?_ _ | with_reducible refine Ext.setCell ?_ (by first | omega | (simp; done) | (simp; omega)) _)) hx2))
  replace HB1 := Lib.hid (HB1.out.ext (Ext.trans (by repeat (first | with_reducible exact Ext.refl _ | with_reducible refine Ext.drew ?_ | with_reducible refine Ext.drewN ?_ _ | with_reducible refine Ext.alloc ?_ _ | with_reducible refine Ext.setCell ?_ (by first | omega | (simp; done) | (simp; omega)) _)) hx2))
  have X2 : Hid (Ext w w2) := Lib.hid (Ext.trans (by repeat (first | with_reducible exact X1.out | with_reducible refine Ext.drew ?_ | with_reducible refine Ext.drewN ?_ _ | with_reducible refine Ext.alloc ?_ _ | with_reducible refine Ext.setCell ?_ (by first | omega | (simp; done) | (simp; omega)) _)) hx2)
  have LA2 := Lib.hid hA2
  clear X1 hx2 z2 hA2
  go_wp2_with fail
  (with_reducible refine (kSameInts_eq A2 _ 1 cA2 1 1 [1] _ (OwnInt.sl (LA2.out.ext (by repeat (first | with_reducible exact Ext.refl _ | with_reducible refine Ext.drew ?_ | with_reducible refine Ext.drewN ?_ _ | with_reducible refine Ext.alloc ?_ _ | with_reducible refine Ext.setCell ?_ (by first | omega | (simp; done) | (simp; omega)) _)))) (in_newA _ [1] 1 _ _ (by first | rfl | (simp [iv]; done)) (by first | rfl | (simp; done)) rfl (by omega))).mono ?_)
  rintro e w3 ⟨rfl, hx3⟩
  have z3 := hx3.size
  try simp at z3
  have X3 : Hid (Ext w w3) := Lib.hid (Ext.trans (by repeat (first | with_reducible exact X2.out | with_reducible refine Ext.drew ?_ | with_reducible refine Ext.drewN ?_ _ | with_reducible refine Ext.alloc ?_ _ | with_reducible refine Ext.setCell ?_ (by first | omega | (simp; done) | (simp; omega)) _)) hx3)
  clear LA2 HB1 HW1 X2 hx3 z3
  go_wp2_with fail
  (with_reducible refine (rank_ev _ _ 1 1 0 _ [5] [] [] 0 _ (wd_newA _ [5] 1 _ _ (by first | rfl | (simp [iv]; done)) (by first | rfl | (simp; done)) rfl (by omega)) (Sl.nil _ _) (by decide) (by decide) (words_of rfl) (by decide) rfl).mono ?_)
  rintro e w4 ⟨A3, cA3, rfl, hA3, hx4⟩
  have z4 := hx4.size
  try simp at z4
  have X4 : Hid (Ext w w4) := Lib.hid (Ext.trans (by repeat (first | with_reducible exact X3.out | with_reducible refine Ext.drew ?_ | with_reducible refine Ext.drewN ?_ _ | with_reducible refine Ext.alloc ?_ _ | with_reducible refine Ext.setCell ?_ (by first | omega | (simp; done) | (simp; omega)) _)) hx4)
  have LA3 := Lib.hid hA3
  clear X3 hx4 z4 hA3
  go_wp2_with fail
  have HW2 := Lib.hid (wd_newA w4 [5, 9] 2 (some ⟨w4.heap.size, 0, none⟩) #[.int .u64 5, .int .u64 9] rfl rfl rfl (by omega))
  (with_reducible refine (bools17_ev ⟨#[49, 49]⟩ [true, true] 2 _ (by decide) (by decide) rfl).mono ?_)
  rintro e w5 ⟨B4, bB4, rfl, hB4, hx5⟩
  have z5 := hx5.size
  try simp at z5
  replace LA3 := Lib.hid (LA3.out.ext (Ext.trans (by repeat (first | with_reducible exact Ext.refl _ | with_reducible refine Ext.drew ?_ | with_reducible refine Ext.drewN ?_ _ | with_reducible refine Ext.alloc ?_ _ | with_reducible refine Ext.setCell ?_ (by first | omega | (simp; done) | (simp; omega)) _)) hx5))
  replace HW2 := Lib.hid (HW2.out.ext (Ext.trans (by repeat (first | with_reducible exact Ext.refl _ | with_reducible refine Ext.drew ?_ | with_reducible refine Ext.drewN ?_ _ | with_reducible refine Ext.alloc ?_ _ | with_reducible refine Ext.setCell ?_ (by first | omega | (simp; done) | (simp; omega)) _)) hx5))
  have X5 : Hid (Ext w w5) := Lib.hid (Ext.trans (by repeat (first | with_reducible exact X4.out | with_reducible refine Ext.drew ?_ | with_reducible refine Ext.drewN ?_ _ | with_reducible refine Ext.alloc ?_ _ | with_reducible refine Ext.setCell ?_ (by first | omega | (simp; done) | (simp; omega)) _)) hx5)
  have HB2 := Lib.hid hB4
  clear X4 hx5 z5 hB4
  go_wp2_with fail
  (with_reducible refine (choose_ev _ _ 2 2 2 _ [5, 9] [true, true] 0 [false, false] 2 _ (HW2.out.ext (by repeat (first | with_reducible exact Ext.refl _ | with_reducible refine Ext.drew ?_ | with_reducible refine Ext.drewN ?_ _ | with_reducible refine Ext.alloc ?_ _ | with_reducible refine Ext.setCell ?_ (by first | omega | (simp; done) | (simp; omega)) _))) (OwnBool.sl (HB2.out.ext (by repeat (first | with_reducible exact Ext.refl _ | with_reducible refine Ext.drew ?_ | with_reducible refine Ext.drewN ?_ _ | with_reducible refine Ext.alloc ?_ _ | with_reducible refine Ext.setCell ?_ (by first | omega | (simp; done) | (simp; omega)) _)))) (by decide) (by decide) (words_of rfl) (by decide) rfl).mono ?_)
  rintro e w6 ⟨A5, cA5, rfl, hA5, hx6⟩
  have z6 := hx6.size
  try simp at z6
  replace LA3 := Lib.hid (LA3.out.ext (Ext.trans (by repeat (first | with_reducible exact Ext.refl _ | with_reducible refine Ext.drew ?_ | with_reducible refine Ext.drewN ?_ _ | with_reducible refine Ext.alloc ?_ _ | with_reducible refine Ext.setCell ?_ (by first | omega | (simp; done) | (simp; omega)) _)) hx6))
  replace HW2 := Lib.hid (HW2.out.ext (Ext.trans (by repeat (first | with_reducible exact Ext.refl _ | with_reducible refine Ext.drew ?_ | with_reducible refine Ext.drewN ?_ _ | with_reducible refine Ext.alloc ?_ _ | with_reducible refine Ext.setCell ?_ (by first | omega | (simp; done) | (simp; omega)) _)) hx6))
  replace HB2 := Lib.hid (HB2.out.ext (Ext.trans (by repeat (first | with_reducible exact Ext.refl _ | with_reducible refine Ext.drew ?_ | with_reducible refine Ext.drewN ?_ _ | with_reducible refine Ext.alloc ?_ _ | with_reducible refine Ext.setCell ?_ (by first | omega | (simp; done) | (simp; omega)) _)) hx6))
  have X6 : Hid (Ext w w6) := Lib.hid (Ext.trans (by repeat (first | with_reducible exact X5.out | with_reducible refine Ext.drew ?_ | with_reducible refine Ext.drewN ?_ _ | with_reducible refine Ext.alloc ?_ _ | with_reducible refine Ext.setCell ?_ (by first | omega | (simp; done) | (simp; omega)) _)) hx6)
  have LA5 := Lib.hid hA5
  clear X5 hx6 z6 hA5
  go_wp2_with fail
  (with_reducible refine (bools17_ev ⟨#[48, 48]⟩ [false, false] 2 _ (by decide) (by decide) rfl).mono ?_)
  rintro e w7 ⟨B6, bB6, rfl, hB6, hx7⟩
  have z7 := hx7.size
  try simp at z7
  replace LA3 := Lib.hid (LA3.out.ext (Ext.trans (by repeat (first | with_reducible exact Ext.refl _ | with_reducible refine Ext.drew ?_ | with_reducible refine Ext.drewN ?_ _ | with_reducible refine Ext.alloc ?_ _ | with_reducible refine Ext.setCell ?_ (by first | omega | (simp; done) | (simp; omega)) _)) hx7))
  replace HW2 := Lib.hid (HW2.out.ext (Ext.trans (by repeat (first | with_reducible exact Ext.refl _ | with_reducible refine Ext.drew ?_ | with_reducible refine Ext.drewN ?_ _ | with_reducible refine Ext.alloc ?_ _ | with_reducible refine Ext.setCell ?_ (by first | omega | (simp; done) | (simp; omega)) _)) hx7))
  replace HB2 := Lib.hid (HB2.out.ext (Ext.trans (by repeat (first | with_reducible exact Ext.refl _ | with_reducible refine Ext.drew ?_ | with_reducible refine Ext.drewN ?_ _ | with_reducible refine Ext.alloc ?_ _ | with_reducible refine Ext.setCell ?_ (by first | omega | (simp; done) | (simp; omega)) _)) hx7))
  replace LA5 := Lib.hid (LA5.out.ext (Ext.trans (by repeat (first | with_reducible exact Ext.refl _ | with_reducible refine Ext.drew ?_ | with_reducible refine Ext.drewN ?_ _ | with_reducible refine Ext.alloc ?_ _ | with_reducible refine Ext.setCell ?_ (by first | omega | (simp; done) | (simp; omega)) _)) hx7))
  have X7 : Hid (Ext w w7) := Lib.hid (Ext.trans (by repeat (first | with_reducible exact X6.out | with_reducible refine Ext.drew ?_ | with_reducible refine Ext.drewN ?_ _ | with_reducible refine Ext.alloc ?_ _ | with_reducible refine Ext.setCell ?_ (by first | omega | (simp; done) | (simp; omega)) _)) hx7)
  have HB3 := Lib.hid hB6
  clear X6 hx7 z7 hB6
  go_wp2_with fail
  (with_reducible refine (sameBools17_eq A5 B6 2 cA5 2 bB6 [false, false] _ (OwnBool.sl (LA5.out.ext (by repeat (first | with_reducible exact Ext.refl _ | with_reducible refine Ext.drew ?_ | with_reducible refine Ext.drewN ?_ _ | with_reducible refine Ext.alloc ?_ _ | with_reducible refine Ext.setCell ?_ (by first | omega | (simp; done) | (simp; omega)) _)))) (OwnBool.sl (HB3.out.ext (by repeat (first | with_reducible exact Ext.refl _ | with_reducible refine Ext.drew ?_ | with_reducible refine Ext.drewN ?_ _ | with_reducible refine Ext.alloc ?_ _ | with_reducible refine Ext.setCell ?_ (by first | omega | (simp; done) | (simp; omega)) _))))).mono ?_)
  rintro e w8 ⟨rfl, hx8⟩
  have z8 := hx8.size
  try simp at z8
  replace LA3 := Lib.hid (LA3.out.ext (Ext.trans (by repeat (first | with_reducible exact Ext.refl _ | with_reducible refine Ext.drew ?_ | with_reducible refine Ext.drewN ?_ _ | with_reducible refine Ext.alloc ?_ _ | with_reducible refine Ext.setCell ?_ (by first | omega | (simp; done) | (simp; omega)) _)) hx8))
  have X8 : Hid (Ext w w8) := Lib.hid (Ext.trans (by repeat (first | with_reducible exact X7.out | with_reducible refine Ext.drew ?_ | with_reducible refine Ext.drewN ?_ _ | with_reducible refine Ext.alloc ?_ _ | with_reducible refine Ext.setCell ?_ (by first | omega | (simp; done) | (simp; omega)) _)) hx8)
  clear LA5 HB3 HW2 HB2 X7 hx8 z8
  go_wp2_with fail
  (with_reducible refine (bools17_ev ⟨#[49]⟩ [true] 1 _ (by decide) (by decide) rfl).mono ?_)
  rintro e w9 ⟨B7, bB7, rfl, hB7, hx9⟩
  have z9 := hx9.size
  try simp at z9
  replace LA3 := Lib.hid (LA3.out.ext (Ext.trans (by repeat (first | with_reducible exact Ext.refl _ | with_reducible refine Ext.drew ?_ | with_reducible refine Ext.drewN ?_ _ | with_reducible refine Ext.alloc ?_ _ | with_reducible refine Ext.setCell ?_ (by first | omega | (simp; done) | (simp; omega)) _)) hx9))
  have X9 : Hid (Ext w w9) := Lib.hid (Ext.trans (by repeat (first | with_reducible exact X8.out | with_reducible refine Ext.drew ?_ | with_reducible refine Ext.drewN ?_ _ | with_reducible refine Ext.alloc ?_ _ | with_reducible refine Ext.setCell ?_ (by first | omega | (simp; done) | (simp; omega)) _)) hx9)
  have HB4 := Lib.hid hB7
  clear X8 hx9 z9 hB7
  go_wp2_with fail
  (with_reducible refine (choose_ev _ _ 0 0 1 _ [] [true] 1 [false] 1 _ (Sl.nil _ _) (OwnBool.sl (HB4.out.ext (by repeat (first | with_reducible exact Ext.refl _ | with_reducible refine Ext.drew ?_ | with_reducible refine Ext.drewN ?_ _ | with_reducible refine Ext.alloc ?_ _ | with_reducible refine Ext.setCell ?_ (by first | omega | (simp; done) | (simp; omega)) _)))) (by decide) (by decide) (words_of rfl) (by decide) rfl).mono ?_)
  rintro e w10 ⟨A8, cA8, rfl, hA8, hx10⟩
  have z10 := hx10.size
  try simp at z10
  replace LA3 := Lib.hid (LA3.out.ext (Ext.trans (by repeat (first | with_reducible exact Ext.refl _ | with_reducible refine Ext.drew ?_ | with_reducible refine Ext.drewN ?_ _ | with_reducible refine Ext.alloc ?_ _ | with_reducible refine Ext.setCell ?_ (by first | omega | (simp; done) | (simp; omega)) _)) hx10))
  replace HB4 := Lib.hid (HB4.out.ext (Ext.trans (by repeat (first | with_reducible exact Ext.refl _ | with_reducible refine Ext.drew ?_ | with_reducible refine Ext.drewN ?_ _ | with_reducible refine Ext.alloc ?_ _ | with_reducible refine Ext.setCell ?_ (by first | omega | (simp; done) | (simp; omega)) _)) hx10))
  have X10 : Hid (Ext w w10) := Lib.hid (Ext.trans (by repeat (first | with_reducible exact X9.out | with_reducible refine Ext.drew ?_ | with_reducible refine Ext.drewN ?_ _ | with_reducible refine Ext.alloc ?_ _ | with_reducible refine Ext.setCell ?_ (by first | omega | (simp; done) | (simp; omega)) _)) hx10)
  have LA8 := Lib.hid hA8
  clear X9 hx10 z10 hA8
  go_wp2_with fail
  (with_reducible refine (bools17_ev ⟨#[48]⟩ [false] 1 _ (by decide) (by decide) rfl).mono ?_)
  rintro e w11 ⟨B9, bB9, rfl, hB9, hx11⟩
  have z11 := hx11.size
  try simp at z11
  replace LA3 := Lib.hid (LA3.out.ext (Ext.trans (by repeat (first | with_reducible exact Ext.refl _ | with_reducible refine Ext.drew ?_ | with_reducible refine Ext.drewN ?_ _ | with_reducible refine Ext.alloc ?_ _ | with_reducible refine Ext.setCell ?_ (by first | omega | (simp; done) | (simp; omega)) _)) hx11))
  replace HB4 := Lib.hid (HB4.out.ext (Ext.trans (by repeat (first | with_reducible exact Ext.refl _ | with_reducible refine Ext.drew ?_ | with_reducible refine Ext.drewN ?_ _ | with_reducible refine Ext.alloc ?_ _ | with_reducible refine Ext.setCell ?_ (by first | omega | (simp; done) | (simp; omega)) _)) hx11))
  replace LA8 := Lib.hid (LA8.out.ext (Ext.trans (by repeat (first | with_reducible exact Ext.refl _ | with_reducible refine Ext.drew ?_ | with_reducible refine Ext.drewN ?_ _ | with_reducible refine Ext.alloc ?_ _ | with_reducible refine Ext.setCell ?_ (by first | omega | (simp; done) | (simp; omega)) _)) hx11))
  have X11 : Hid (Ext w w11) := Lib.hid (Ext.trans (by repeat (first | with_reducible exact X10.out | with_reducible refine Ext.drew ?_ | with_reducible refine Ext.drewN ?_ _ | with_reducible refine Ext.alloc ?_ _ | with_reducible refine Ext.setCell ?_ (by first | omega | (simp; done) | (simp; omega)) _)) hx11)
  have HB5 := Lib.hid hB9
  clear X10 hx11 z11 hB9
  go_wp2_with fail
  (with_reducible refine (sameBools17_eq A8 B9 1 cA8 1 bB9 [false] _ (OwnBool.sl (LA8.out.ext (by repeat (first | with_reducible exact Ext.refl _ | with_reducible refine Ext.drew ?_ | with_reducible refine Ext.drewN ?_ _ | with_reducible refine Ext.alloc ?_ _ | with_reducible refine Ext.setCell ?_ (by first | omega | (simp; done) | (simp; omega)) _)))) (OwnBool.sl (HB5.out.ext (by repeat (first | with_reducible exact Ext.refl _ | with_reducible refine Ext.drew ?_ | with_reducible refine Ext.drewN ?_ _ | with_reducible refine Ext.alloc ?_ _ | with_reducible refine Ext.setCell ?_ (by first | omega | (simp; done) | (simp; omega)) _))))).mono ?_)
  rintro e w12 ⟨rfl, hx12⟩
  have z12 := hx12.size
  try simp at z12
  replace LA3 := Lib.hid (LA3.out.ext (Ext.trans (by repeat (first | with_reducible exact Ext.refl _ | with_reducible refine Ext.drew ?_ | with_reducible refine Ext.drewN ?_ _ | with_reducible refine Ext.alloc ?_ _ | with_reducible refine Ext.setCell ?_ (by first | omega | (simp; done) | (simp; omega)) _)) hx12))
  have X12 : Hid (Ext w w12) := Lib.hid (Ext.trans (by repeat (first | with_reducible exact X11.out | with_reducible refine Ext.drew ?_ | with_reducible refine Ext.drewN ?_ _ | with_reducible refine Ext.alloc ?_ _ | with_reducible refine Ext.setCell ?_ (by first | omega | (simp; done) | (simp; omega)) _)) hx12)
  clear LA8 HB4 HB5 X11 hx12 z12
  go_wp2_with fail
  (with_reducible refine (bools17_ev ⟨#[49, 49]⟩ [true, true] 2 _ (by decide) (by decide) rfl).mono ?_)
  rintro e w13 ⟨B10, bB10, rfl, hB10, hx13⟩
  have z13 := hx13.size
  try simp at z13
  replace LA3 := Lib.hid (LA3.out.ext (Ext.trans (by repeat (first | with_reducible exact Ext.refl _ | with_reducible refine Ext.drew ?_ | with_reducible refine Ext.drewN ?_ _ | with_reducible refine Ext.alloc ?_ _ | with_reducible refine Ext.setCell ?_ (by first | omega | (simp; done) | (simp; omega)) _)) hx13))
  have X13 : Hid (Ext w w13) := Lib.hid (Ext.trans (by repeat (first | with_reducible exact X12.out | with_reducible refine Ext.drew ?_ | with_reducible refine Ext.drewN ?_ _ | with_reducible refine Ext.alloc ?_ _ | with_reducible refine Ext.setCell ?_ (by first | omega | (simp; done) | (simp; omega)) _)) hx13)
  have HB6 := Lib.hid hB10
  clear X12 hx13 z13 hB10
  go_wp2_with fail
  (with_reducible refine (bools17_ev ⟨#[48, 49, 49]⟩ [false, true, true] 3 _ (by decide) (by decide) rfl).mono ?_)
  rintro e w14 ⟨B11, bB11, rfl, hB11, hx14⟩
  have z14 := hx14.size
  try simp at z14
  replace LA3 := Lib.hid (LA3.out.ext (Ext.trans (by repeat (first | with_reducible exact Ext.refl _ | with_reducible refine Ext.drew ?_ | with_reducible refine Ext.drewN ?_ _ | with_reducible refine Ext.alloc ?_ _ | with_reducible refine Ext.setCell ?_ (by first | omega | (simp; done) | (simp; omega)) _)) hx14))
  replace HB6 := Lib.hid (HB6.out.ext (Ext.trans (by repeat (first | with_reducible exact Ext.refl _ | with_reducible refine Ext.drew ?_ | with_reducible refine Ext.drewN ?_ _ | with_reducible refine Ext.alloc ?_ _ | with_reducible refine Ext.setCell ?_ (by first | omega | (simp; done) | (simp; omega)) _)) hx14))
  have X14 : Hid (Ext w w14) := Lib.hid (Ext.trans (by repeat (first | with_reducible exact X13.out | with_reducible refine Ext.drew ?_ | with_reducible refine Ext.drewN ?_ _ | with_reducible refine Ext.alloc ?_ _ | with_reducible refine Ext.setCell ?_ (by first | omega | (simp; done) | (simp; omega)) _)) hx14)
  have HB7 := Lib.hid hB11
  clear X13 hx14 z14 hB11
  go_wp2_with fail
  (with_reducible refine (diff_ev _ _ 2 _ 3 _ [true, true] [false, true, true] [2] [0] 1 1 _ (OwnBool.sl (HB6.out.ext (by repeat (first | with_reducible exact Ext.refl _ | with_reducible refine Ext.drew ?_ | with_reducible refine Ext.drewN ?_ _ | with_reducible refine Ext.alloc ?_ _ | with_reducible refine Ext.setCell ?_ (by first | omega | (simp; done) | (simp; omega)) _)))) (OwnBool.sl (HB7.out.ext (by repeat (first | with_reducible exact Ext.refl _ | with_reducible refine Ext.drew ?_ | with_reducible refine Ext.drewN ?_ _ | with_reducible refine Ext.alloc ?_ _ | with_reducible refine Ext.setCell ?_ (by first | omega | (simp; done) | (simp; omega)) _)))) (by decide) (by decide) (by decide) (by decide) rfl rfl).mono ?_)
  rintro e w15 ⟨I1, cI1, O1, cO1, rfl, hI1, hO1, hx15⟩
  have z15 := hx15.size
  try simp at z15
  replace LA3 := Lib.hid (LA3.out.ext (Ext.trans (by repeat (first | with_reducible exact Ext.refl _ | with_reducible refine Ext.drew ?_ | with_reducible refine Ext.drewN ?_ _ | with_reducible refine Ext.alloc ?_ _ | with_reducible refine Ext.setCell ?_ (by first | omega | (simp; done) | (simp; omega)) _)) hx15))
  have X15 : Hid (Ext w w15) := Lib.hid (Ext.trans (by repeat (first | with_reducible exact X14.out | with_reducible refine Ext.drew ?_ | with_reducible refine Ext.drewN ?_ _ | with_reducible refine Ext.alloc ?_ _ | with_reducible refine Ext.setCell ?_ (by first | omega | (simp; done) | (simp; omega)) _)) hx15)
  have LI1 := Lib.hid hI1
  have LO1 := Lib.hid hO1
  clear HB6 HB7 X14 hx15 z15 hI1 hO1
  go_wp2_with fail
  (with_reducible refine (diff_ev none none 0 0 0 0 [] [] [] [] 0 0 _ (Sl.nil _ _) (Sl.nil _ _) (by decide) (by decide) (by decide) (by decide) rfl rfl).mono ?_)
  rintro e w16 ⟨I2, cI2, O2, cO2, rfl, _, _, hx16⟩
  have z16 := hx16.size
  try simp at z16
  replace LA3 := Lib.hid (LA3.out.ext (Ext.trans (by repeat (first | with_reducible exact Ext.refl _ | with_reducible refine Ext.drew ?_ | with_reducible refine Ext.drewN ?_ _ | with_reducible refine Ext.alloc ?_ _ | with_reducible refine Ext.setCell ?_ (by first | omega | (simp; done) | (simp; omega)) _)) hx16))
  replace LI1 := Lib.hid (LI1.out.ext (Ext.trans (by repeat (first | with_reducible exact Ext.refl _ | with_reducible refine Ext.drew ?_ | with_reducible refine Ext.drewN ?_ _ | with_reducible refine Ext.alloc ?_ _ | with_reducible refine Ext.setCell ?_ (by first | omega | (simp; done) | (simp; omega)) _)) hx16))
  replace LO1 := Lib.hid (LO1.out.ext (Ext.trans (by repeat (first | with_reducible exact Ext.refl _ | with_reducible refine Ext.drew ?_ | with_reducible refine Ext.drewN ?_ _ | with_reducible refine Ext.alloc ?_ _ | with_reducible refine Ext.setCell ?_ (by first | omega | (simp; done) | (simp; omega)) _)) hx16))
  have X16 : Hid (Ext w w16) := Lib.hid (Ext.trans (by repeat (first | with_reducible exact X15.out | with_reducible refine Ext.drew ?_ | with_reducible refine Ext.drewN ?_ _ | with_reducible refine Ext.alloc ?_ _ | with_reducible refine Ext.setCell ?_ (by first | omega | (simp; done) | (simp; omega)) _)) hx16)
  clear X15 hx16 z16
  go_wp2_with fail
  (with_reducible refine (kSameInts_eq I1 _ 1 cI1 1 1 [2] _ (OwnInt.sl (LI1.out.ext (by repeat (first | with_reducible exact Ext.refl _ | with_reducible refine Ext.drew ?_ | with_reducible refine Ext.drewN ?_ _ | with_reducible refine Ext.alloc ?_ _ | with_reducible refine Ext.setCell ?_ (by first | omega | (simp; done) | (simp; omega)) _)))) (in_newA _ [2] 1 _ _ (by first | rfl | (simp [iv]; done)) (by first | rfl | (simp; done)) rfl (by omega))).mono ?_)
  rintro e w17 ⟨rfl, hx17⟩
  have z17 := hx17.size
  try simp at z17
  replace LA3 := Lib.hid (LA3.out.ext (Ext.trans (by repeat (first | with_reducible exact Ext.refl _ | with_reducible refine Ext.drew ?_ | with_reducible refine Ext.drewN ?_ _ | with_reducible refine Ext.alloc ?_ _ | with_reducible refine Ext.setCell ?_ (by first | omega | (simp; done) | (simp; omega)) _)) hx17))
  replace LO1 := Lib.hid (LO1.out.ext (Ext.trans (by repeat (first | with_reducible exact Ext.refl _ | with_reducible refine Ext.drew ?_ | with_reducible refine Ext.drewN ?_ _ | with_reducible refine Ext.alloc ?_ _ | with_reducible refine Ext.setCell ?_ (by first | omega | (simp; done) | (simp; omega)) _)) hx17))
  have X17 : Hid (Ext w w17) := Lib.hid (Ext.trans (by repeat (first | with_reducible exact X16.out | with_reducible refine Ext.drew ?_ | with_reducible refine Ext.drewN ?_ _ | with_reducible refine Ext.alloc ?_ _ | with_reducible refine Ext.setCell ?_ (by first | omega | (simp; done) | (simp; omega)) _)) hx17)
  clear LI1 X16 hx17 z17
  go_wp2_with fail
  (with_reducible refine (kSameInts_eq O1 _ 1 cO1 1 1 [0] _ (OwnInt.sl (LO1.out.ext (by repeat (first | with_reducible exact Ext.refl _ | with_reducible refine Ext.drew ?_ | with_reducible refine Ext.drewN ?_ _ | with_reducible refine Ext.alloc ?_ _ | with_reducible refine Ext.setCell ?_ (by first | omega | (simp; done) | (simp; omega)) _)))) (in_newA _ [0] 1 _ _ (by first | rfl | (simp [iv]; done)) (by first | rfl | (simp; done)) rfl (by omega))).mono ?_)
  rintro e w18 ⟨rfl, hx18⟩
  have z18 := hx18.size
  try simp at z18
  replace LA3 := Lib.hid (LA3.out.ext (Ext.trans (by repeat (first | with_reducible exact Ext.refl _ | with_reducible refine Ext.drew ?_ | with_reducible refine Ext.drewN ?_ _ | with_reducible refine Ext.alloc ?_ _ | with_reducible refine Ext.setCell ?_ (by first | omega | (simp; done) | (simp; omega)) _)) hx18))
  have X18 : Hid (Ext w w18) := Lib.hid (Ext.trans (by repeat (first | with_reducible exact X17.out | with_reducible refine Ext.drew ?_ | with_reducible refine Ext.drewN ?_ _ | with_reducible refine Ext.alloc ?_ _ | with_reducible refine Ext.setCell ?_ (by first | omega | (simp; done) | (simp; omega)) _)) hx18)
  clear LO1 X17 hx18 z18
  go_wp2_with fail
  have HW3 := Lib.hid (wd_newA w18 [5, 9, 3] 3 (some ⟨w18.heap.size, 0, none⟩) #[.int .u64 5, .int .u64 9, .int .u64 3] rfl rfl rfl (by omega))
  (with_reducible refine (bools17_ev ⟨#[49, 49]⟩ [true, true] 2 _ (by decide) (by decide) rfl).mono ?_)
  rintro e w19 ⟨B12, bB12, rfl, hB12, hx19⟩
  have z19 := hx19.size
  try simp at z19
  replace LA3 := Lib.hid (LA3.out.ext (Ext.trans (by repeat (first | with_reducible exact Ext.refl _ | with_reducible refine Ext.drew ?_ | with_reducible refine Ext.drewN ?_ _ | with_reducible refine Ext.alloc ?_ _ | with_reducible refine Ext.setCell ?_ (by first | omega | (simp; done) | (simp; omega)) _)) hx19))
  replace HW3 := Lib.hid (HW3.out.ext (Ext.trans (by repeat (first | with_reducible exact Ext.refl _ | with_reducible refine Ext.drew ?_ | with_reducible refine Ext.drewN ?_ _ | with_reducible refine Ext.alloc ?_ _ | with_reducible refine Ext.setCell ?_ (by first | omega | (simp; done) | (simp; omega)) _)) hx19))
  have X19 : Hid (Ext w w19) := Lib.hid (Ext.trans (by repeat (first | with_reducible exact X18.out | with_reducible refine Ext.drew ?_ | with_reducible refine Ext.drewN ?_ _ | with_reducible refine Ext.alloc ?_ _ | with_reducible refine Ext.setCell ?_ (by first | omega | (simp; done) | (simp; omega)) _)) hx19)
  have HB8 := Lib.hid hB12
  clear X18 hx19 z19 hB12
  go_wp2_with fail
  (with_reducible refine (floor_ev _ _ 3 3 2 _ [5, 9, 3] [true, true] 5 true _ (HW3.out.ext (by repeat (first | with_reducible exact Ext.refl _ | with_reducible refine Ext.drew ?_ | with_reducible refine Ext.drewN ?_ _ | with_reducible refine Ext.alloc ?_ _ | with_reducible refine Ext.setCell ?_ (by first | omega | (simp; done) | (simp; omega)) _))) (OwnBool.sl (HB8.out.ext (by repeat (first | with_reducible exact Ext.refl _ | with_reducible refine Ext.drew ?_ | with_reducible refine Ext.drewN ?_ _ | with_reducible refine Ext.alloc ?_ _ | with_reducible refine Ext.setCell ?_ (by first | omega | (simp; done) | (simp; omega)) _)))) (by decide) (words_of rfl) (by decide)).mono ?_)
  rintro e w20 ⟨rfl, hx20⟩
  have z20 := hx20.size
  try simp at z20
  replace LA3 := Lib.hid (LA3.out.ext (Ext.trans (by repeat (first | with_reducible exact Ext.refl _ | with_reducible refine Ext.drew ?_ | with_reducible refine Ext.drewN ?_ _ | with_reducible refine Ext.alloc ?_ _ | with_reducible refine Ext.setCell ?_ (by first | omega | (simp; done) | (simp; omega)) _)) hx20))
  have X20 : Hid (Ext w w20) := Lib.hid (Ext.trans (by repeat (first | with_reducible exact X19.out | with_reducible refine Ext.drew ?_ | with_reducible refine Ext.drewN ?_ _ | with_reducible refine Ext.alloc ?_ _ | with_reducible refine Ext.setCell ?_ (by first | omega | (simp; done) | (simp; omega)) _)) hx20)
  clear HW3 HB8 X19 hx20 z20
  go_wp2_with fail
  have HW4 := Lib.hid (wd_newA w20 [5] 1 (some ⟨w20.heap.size, 0, none⟩) #[.int .u64 5] rfl rfl rfl (by omega))
  (with_reducible refine (bools17_ev ⟨#[49, 49]⟩ [true, true] 2 _ (by decide) (by decide) rfl).mono ?_)
  rintro e w21 ⟨B13, bB13, rfl, hB13, hx21⟩
  have z21 := hx21.size
  try simp at z21
  replace LA3 := Lib.hid (LA3.out.ext (Ext.trans (by repeat (first | with_reducible exact Ext.refl _ | with_reducible refine Ext.drew ?_ | with_reducible refine Ext.drewN ?_ _ | with_reducible refine Ext.alloc ?_ _ | with_reducible refine Ext.setCell ?_ (by first | omega | (simp; done) | (simp; omega)) _)) hx21))
  replace HW4 := Lib.hid (HW4.out.ext (Ext.trans (by repeat (first | with_reducible exact Ext.refl _ | with_reducible refine Ext.drew ?_ | with_reducible refine Ext.drewN ?_ _ | with_reducible refine Ext.alloc ?_ _ | with_reducible refine Ext.setCell ?_ (by first | omega | (simp; done) | (simp; omega)) _)) hx21))
  have X21 : Hid (Ext w w21) := Lib.hid (Ext.trans (by repeat (first | with_reducible exact X20.out | with_reducible refine Ext.drew ?_ | with_reducible refine Ext.drewN ?_ _ | with_reducible refine Ext.alloc ?_ _ | with_reducible refine Ext.setCell ?_ (by first | omega | (simp; done) | (simp; omega)) _)) hx21)
  have HB9 := Lib.hid hB13
  clear X20 hx21 z21 hB13
  go_wp2_with fail
  (with_reducible refine (floor_ev _ _ 1 1 2 _ [5] [true, true] 0 true _ (HW4.out.ext (by repeat (first | with_reducible exact Ext.refl _ | with_reducible refine Ext.drew ?_ | with_reducible refine Ext.drewN ?_ _ | with_reducible refine Ext.alloc ?_ _ | with_reducible refine Ext.setCell ?_ (by first | omega | (simp; done) | (simp; omega)) _))) (OwnBool.sl (HB9.out.ext (by repeat (first | with_reducible exact Ext.refl _ | with_reducible refine Ext.drew ?_ | with_reducible refine Ext.drewN ?_ _ | with_reducible refine Ext.alloc ?_ _ | with_reducible refine Ext.setCell ?_ (by first | omega | (simp; done) | (simp; omega)) _)))) (by decide) (words_of rfl) (by decide)).mono ?_)
  rintro e w22 ⟨rfl, hx22⟩
  have z22 := hx22.size
  try simp at z22
  replace LA3 := Lib.hid (LA3.out.ext (Ext.trans (by repeat (first | with_reducible exact Ext.refl _ | with_reducible refine Ext.drew ?_ | with_reducible refine Ext.drewN ?_ _ | with_reducible refine Ext.alloc ?_ _ | with_reducible refine Ext.setCell ?_ (by first | omega | (simp; done) | (simp; omega)) _)) hx22))
  have X22 : Hid (Ext w w22) := Lib.hid (Ext.trans (by repeat (first | with_reducible exact X21.out | with_reducible refine Ext.drew ?_ | with_reducible refine Ext.drewN ?_ _ | with_reducible refine Ext.alloc ?_ _ | with_reducible refine Ext.setCell ?_ (by first | omega | (simp; done) | (simp; omega)) _)) hx22)
  clear HW4 HB9 X21 hx22 z22
  go_wp2_with fail
  (with_reducible refine (floor_ev _ none 1 1 0 0 [5] [] 0 false _ (wd_newA _ [5] 1 _ _ (by first | rfl | (simp [iv]; done)) (by first | rfl | (simp; done)) rfl (by omega)) (Sl.nil _ _) (by decide) (words_of rfl) (by decide)).mono ?_)
  rintro e w23 ⟨rfl, hx23⟩
  have z23 := hx23.size
  try simp at z23
  replace LA3 := Lib.hid (LA3.out.ext (Ext.trans (by repeat (first | with_reducible exact Ext.refl _ | with_reducible refine Ext.drew ?_ | with_reducible refine Ext.drewN ?_ _ | with_reducible refine Ext.alloc ?_ _ | with_reducible refine Ext.setCell ?_ (by first | omega | (simp; done) | (simp; omega)) _)) hx23))
  have X23 : Hid (Ext w w23) := Lib.hid (Ext.trans (by repeat (first | with_reducible exact X22.out | with_reducible refine Ext.drew ?_ | with_reducible refine Ext.drewN ?_ _ | with_reducible refine Ext.alloc ?_ _ | with_reducible refine Ext.setCell ?_ (by first | omega | (simp; done) | (simp; omega)) _)) hx23)
  clear X22 hx23 z23
  go_wp2_with fail
  have HWA := Lib.hid (wd_newA w23 [18446744073709551615, 18446744073709551615] 2 (some ⟨w23.heap.size, 0, none⟩) #[.int .u64 18446744073709551615, .int .u64 18446744073709551615] rfl rfl rfl (by omega))
  (with_reducible refine (bools17_ev ⟨#[49, 49]⟩ [true, true] 2 _ (by decide) (by decide) rfl).mono ?_)
  rintro e w24 ⟨B14, bB14, rfl, hB14, hx24⟩
  have z24 := hx24.size
  try simp at z24
  replace LA3 := Lib.hid (LA3.out.ext (Ext.trans (by repeat (first | with_reducible exact Ext.refl _ | with_reducible refine Ext.drew ?_ | with_reducible refine Ext.drewN ?_ _ | with_reducible refine Ext.alloc ?_ _ | with_reducible refine Ext.setCell ?_ (by first | omega | (simp; done) | (simp; omega)) _)) hx24))
  replace HWA := Lib.hid (HWA.out.ext (Ext.trans (by repeat (first | with_reducible exact Ext.refl _ | with_reducible refine Ext.drew ?_ | with_reducible refine Ext.drewN ?_ _ | with_reducible refine Ext.alloc ?_ _ | with_reducible refine Ext.setCell ?_ (by first | omega | (simp; done) | (simp; omega)) _)) hx24))
  have X24 : Hid (Ext w w24) := Lib.hid (Ext.trans (by repeat (first | with_reducible exact X23.out | with_reducible refine Ext.drew ?_ | with_reducible refine Ext.drewN ?_ _ | with_reducible refine Ext.alloc ?_ _ | with_reducible refine Ext.setCell ?_ (by first | omega | (simp; done) | (simp; omega)) _)) hx24)
  have HBA := Lib.hid hB14
  clear X23 hx24 z24 hB14
  go_wp2_with fail
  (with_reducible refine (sum_ev _ _ 2 2 2 _ [18446744073709551615, 18446744073709551615] [true, true] 18446744073709551615 _ (HWA.out.ext (by repeat (first | with_reducible exact Ext.refl _ | with_reducible refine Ext.drew ?_ | with_reducible refine Ext.drewN ?_ _ | with_reducible refine Ext.alloc ?_ _ | with_reducible refine Ext.setCell ?_ (by first | omega | (simp; done) | (simp; omega)) _))) (OwnBool.sl (HBA.out.ext (by repeat (first | with_reducible exact Ext.refl _ | with_reducible refine Ext.drew ?_ | with_reducible refine Ext.drewN ?_ _ | with_reducible refine Ext.alloc ?_ _ | with_reducible refine Ext.setCell ?_ (by first | omega | (simp; done) | (simp; omega)) _)))) (by decide) (words_of rfl) (by decide)).mono ?_)
  rintro e w25 ⟨rfl, hx25⟩
  have z25 := hx25.size
  try simp at z25
  replace LA3 := Lib.hid (LA3.out.ext (Ext.trans (by repeat (first | with_reducible exact Ext.refl _ | with_reducible refine Ext.drew ?_ | with_reducible refine Ext.drewN ?_ _ | with_reducible refine Ext.alloc ?_ _ | with_reducible refine Ext.setCell ?_ (by first | omega | (simp; done) | (simp; omega)) _)) hx25))
  have X25 : Hid (Ext w w25) := Lib.hid (Ext.trans (by repeat (first | with_reducible exact X24.out | with_reducible refine Ext.drew ?_ | with_reducible refine Ext.drewN ?_ _ | with_reducible refine Ext.alloc ?_ _ | with_reducible refine Ext.setCell ?_ (by first | omega | (simp; done) | (simp; omega)) _)) hx25)
  clear HWA HBA X24 hx25 z25
  go_wp2_with fail
  (with_reducible refine (awake17_any _).mono ?_)
  rintro e w26 ⟨rfl, hx26⟩
  have z26 := hx26.size
  try simp at z26
  replace LA3 := Lib.hid (LA3.out.ext (Ext.trans (by repeat (first | with_reducible exact Ext.refl _ | with_reducible refine Ext.drew ?_ | with_reducible refine Ext.drewN ?_ _ | with_reducible refine Ext.alloc ?_ _ | with_reducible refine Ext.setCell ?_ (by first | omega | (simp; done) | (simp; omega)) _)) hx26))
  have X26 : Hid (Ext w w26) := Lib.hid (Ext.trans (by repeat (first | with_reducible exact X25.out | with_reducible refine Ext.drew ?_ | with_reducible refine Ext.drewN ?_ _ | with_reducible refine Ext.alloc ?_ _ | with_reducible refine Ext.setCell ?_ (by first | omega | (simp; done) | (simp; omega)) _)) hx26)
  clear X25 hx26 z26
  go_wp2_with fail
  (with_reducible refine (quo_ev 0 1 _ (word_of rfl) (by decide)).mono ?_)
  rintro e w27 ⟨rfl, hx27⟩
  have z27 := hx27.size
  try simp at z27
  replace LA3 := Lib.hid (LA3.out.ext (Ext.trans (by repeat (first | with_reducible exact Ext.refl _ | with_reducible refine Ext.drew ?_ | with_reducible refine Ext.drewN ?_ _ | with_reducible refine Ext.alloc ?_ _ | with_reducible refine Ext.setCell ?_ (by first | omega | (simp; done) | (simp; omega)) _)) hx27))
  have X27 : Hid (Ext w w27) := Lib.hid (Ext.trans (by repeat (first | with_reducible exact X26.out | with_reducible refine Ext.drew ?_ | with_reducible refine Ext.drewN ?_ _ | with_reducible refine Ext.alloc ?_ _ | with_reducible refine Ext.setCell ?_ (by first | omega | (simp; done) | (simp; omega)) _)) hx27)
  clear X26 hx27 z27
  go_wp2_with fail
  (with_reducible refine (quo_ev 3 3 _ (word_of rfl) (by decide)).mono ?_)
  rintro e w28 ⟨rfl, hx28⟩
  have z28 := hx28.size
  try simp at z28
  replace LA3 := Lib.hid (LA3.out.ext (Ext.trans (by repeat (first | with_reducible exact Ext.refl _ | with_reducible refine Ext.drew ?_ | with_reducible refine Ext.drewN ?_ _ | with_reducible refine Ext.alloc ?_ _ | with_reducible refine Ext.setCell ?_ (by first | omega | (simp; done) | (simp; omega)) _)) hx28))
  have X28 : Hid (Ext w w28) := Lib.hid (Ext.trans (by repeat (first | with_reducible exact X27.out | with_reducible refine Ext.drew ?_ | with_reducible refine Ext.drewN ?_ _ | with_reducible refine Ext.alloc ?_ _ | with_reducible refine Ext.setCell ?_ (by first | omega | (simp; done) | (simp; omega)) _)) hx28)
  clear X27 hx28 z28
  go_wp2_with fail
  (with_reducible refine (quo_ev 18446744073709551615 12297829382473034411 _ (word_of rfl) (by decide)).mono ?_)
  rintro e w29 ⟨rfl, hx29⟩
  have z29 := hx29.size
  try simp at z29
  replace LA3 := Lib.hid (LA3.out.ext (Ext.trans (by repeat (first | with_reducible exact Ext.refl _ | with_reducible refine Ext.drew ?_ | with_reducible refine Ext.drewN ?_ _ | with_reducible refine Ext.alloc ?_ _ | with_reducible refine Ext.setCell ?_ (by first | omega | (simp; done) | (simp; omega)) _)) hx29))
  have X29 : Hid (Ext w w29) := Lib.hid (Ext.trans (by repeat (first | with_reducible exact X28.out | with_reducible refine Ext.drew ?_ | with_reducible refine Ext.drewN ?_ _ | with_reducible refine Ext.alloc ?_ _ | with_reducible refine Ext.setCell ?_ (by first | omega | (simp; done) | (simp; omega)) _)) hx29)
  clear X28 hx29 z29
  go_wp2_with fail
  go_ret
  exact ⟨rfl, (by repeat (first | with_reducible exact X29.out | with_reducible refine Ext.drew ?_ | with_reducible refine Ext.drewN ?_ _ | with_reducible refine Ext.alloc ?_ _ | with_reducible refine Ext.setCell ?_ (by first | omega | (simp; done) | (simp; omega)) _))⟩
end Go.Proofs.Ytplmgcbjfmdebaa
