/- law16: RosterBack returns true, whatever comes in. Conditions: none but those of the arguments' types. -/
import Derived.Test.YtjdpgapmdmpjjaaRosM
import Derived.Test.YtjdpgapmdmpjjaaRosKnownW
set_option linter.unusedVariables false
set_option linter.unusedSimpArgs false
namespace Go.Proofs.Ytjdpgapmdmpjjaa
open Go.RowKit Go.ChangeShapes Go.WideShapes Go.Deep Go.Joins

set_option maxRecDepth 100000 in
theorem RosterBack_long (A A1 : Option Addr) (c n c1 n1 : Nat) (w : World) (hl : ¬ n ≤ 40 ∨ ¬ n1 ≤ 600) (hs : n ≤ 9223372036854775807) (hs1 : n1 ≤ 9223372036854775807) :
    Calls Try.prog 14 #[.slice A n c, .slice A1 n1 c1] w fun r w' => r = .returned (.bool true) ∧ Ext w w' := by
  go_enter Try.func14, Try.ntmps14
  go_wp2_with fail
  (with_reducible refine (RosterKnown_any _).mono ?_)
  rintro e w1 ⟨rfl, hx1⟩
  have z1 := hx1.size
  try simp at z1
  have X1 : Hid (Ext w w1) := Lib.hid (Ext.trans (by repeat (first | with_reducible exact Ext.refl w | with_reducible refine Ext.drew ?_ | with_reducible refine Ext.drewN ?_ _ | with_reducible refine Ext.alloc ?_ _ | with_reducible refine Ext.setCell ?_ (by first | omega | (simp; done) | (simp; omega)) _)) hx1)
  clear hx1 z1
  by_cases h0 : (40 : Int) < (n : Int)
  · skip
    go_wp2_with fail
    go_ret
    exact ⟨rfl, (by repeat (first | with_reducible exact X1.out | with_reducible refine Ext.drew ?_ | with_reducible refine Ext.drewN ?_ _ | with_reducible refine Ext.alloc ?_ _ | with_reducible refine Ext.setCell ?_ (by first | omega | (simp; done) | (simp; omega)) _))⟩
  · have h1 : (600 : Int) < (n1 : Int) := by omega
    go_wp2_with fail
    go_ret
    exact ⟨rfl, (by repeat (first | with_reducible exact X1.out | with_reducible refine Ext.drew ?_ | with_reducible refine Ext.drewN ?_ _ | with_reducible refine Ext.alloc ?_ _ | with_reducible refine Ext.setCell ?_ (by first | omega | (simp; done) | (simp; omega)) _))⟩
set_option maxRecDepth 100000 in
set_option maxHeartbeats 4000000 in
theorem RosterBack_main (A A0 : Option Addr) (c c0 : Nat) (l RL : List (Int × Int × Int × Int × Bool × Bool)) (M BL : List Nat) (e1 e2 re ra : Int) (w : World) (hs : Sl w 6 A l.length c (l.flatMap valC)) (hb : Sl w 1 A0 M.length c0 (by_ M)) (hM : Byt M) (hw : ∀ x ∈ l, (Lit.int .i64 x.1).wf = true) (hm : ∀ x ∈ l, Fits .u64 x.2.1) (hl : l.length ≤ 40) (hl0 : M.length ≤ 600) (hnil0 : A0 = none → c0 = 0) (hf : (e1, e2) = chkV l) (h1 : (BL, e1) = (rosB l, (chkV l).1)) (h2 : (RL, re, ra) = rosRV M) (hBL : Byt BL) (hBl : BL.length < 1099511627776)
    (hp : e1 = 0 → (l, (0 : Int), (0 : Int)) = rosRV BL) (hq : re = 0 → (M, (0 : Int)) = (rosB RL, (chkV RL).1) ∧ ra = 0 ∧ (∀ x ∈ RL, (Lit.int .i64 x.1).wf = true) ∧ (∀ x ∈ RL, Fits .u64 x.2.1)) (hr : re ≠ 0 → RL = []) :
    Calls Try.prog 14 #[.slice A l.length c, .slice A0 M.length c0] w fun r w' => r = .returned (.bool true) ∧ Ext w w' := by
  have hMd : ¬ (40 : Int) < (l.length : Int) := by omega
  have hMe : ¬ (600 : Int) < (M.length : Int) := by omega
  have s1 := hs.small
  have s2 := hb.small
  have HS := Lib.hid hs
  have HB := Lib.hid hb
  have HW := Lib.hid (And.intro hw hm)
  have Hf := Lib.hid hf
  have F1 := Lib.hid h1
  have F2 := Lib.hid h2
  have HM := Lib.hid (And.intro hM hBL)
  have HP := Lib.hid hp
  have HQ := Lib.hid hq
  have HR := Lib.hid hr
  have qe := flt_eql
  have qn := flt_neq
  have qg := flt_eqg
  clear hs hw hb h1 h2 hM hBL hm hf hp hq hr
  go_enter Try.func14, Try.ntmps14
  go_wp2_with fail
  (with_reducible refine (RosterKnown_any _).mono ?_)
  rintro e w1 ⟨rfl, hx1⟩
  have z1 := hx1.size
  try simp at z1
  replace HS := Lib.hid (HS.out.ext (Ext.trans (by repeat (first | with_reducible exact Ext.refl _ | with_reducible refine Ext.drew ?_ | with_reducible refine Ext.drewN ?_ _ | with_reducible refine Ext.alloc ?_ _ | with_reducible refine Ext.setCell ?_ (by first | omega | (simp; done) | (simp; omega)) _)) hx1))
  replace HB := Lib.hid (HB.out.ext (Ext.trans (by repeat (first | with_reducible exact Ext.refl _ | with_reducible refine Ext.drew ?_ | with_reducible refine Ext.drewN ?_ _ | with_reducible refine Ext.alloc ?_ _ | with_reducible refine Ext.setCell ?_ (by first | omega | (simp; done) | (simp; omega)) _)) hx1))
  have X1 : Hid (Ext w w1) := Lib.hid (Ext.trans (by repeat (first | with_reducible exact Ext.refl w | with_reducible refine Ext.drew ?_ | with_reducible refine Ext.drewN ?_ _ | with_reducible refine Ext.alloc ?_ _ | with_reducible refine Ext.setCell ?_ (by first | omega | (simp; done) | (simp; omega)) _)) hx1)
  clear hx1 z1
  go_wp2_with fail
  (with_reducible refine (rosCheck_ev A l.length c l e1 e2 _ (HS.out.ext (by repeat (first | with_reducible exact Ext.refl _ | with_reducible refine Ext.drew ?_ | with_reducible refine Ext.drewN ?_ _ | with_reducible refine Ext.alloc ?_ _ | with_reducible refine Ext.setCell ?_ (by first | omega | (simp; done) | (simp; omega)) _))) HW.out.1 Hf.out).mono ?_)
  rintro e w2 ⟨rfl, hx2⟩
  have z2 := hx2.size
  try simp at z2
  replace HS := Lib.hid (HS.out.ext (Ext.trans (by repeat (first | with_reducible exact Ext.refl _ | with_reducible refine Ext.drew ?_ | with_reducible refine Ext.drewN ?_ _ | with_reducible refine Ext.alloc ?_ _ | with_reducible refine Ext.setCell ?_ (by first | omega | (simp; done) | (simp; omega)) _)) hx2))
  replace HB := Lib.hid (HB.out.ext (Ext.trans (by repeat (first | with_reducible exact Ext.refl _ | with_reducible refine Ext.drew ?_ | with_reducible refine Ext.drewN ?_ _ | with_reducible refine Ext.alloc ?_ _ | with_reducible refine Ext.setCell ?_ (by first | omega | (simp; done) | (simp; omega)) _)) hx2))
  have X2 : Hid (Ext w w2) := Lib.hid (Ext.trans (by repeat (first | with_reducible exact X1.out | with_reducible refine Ext.drew ?_ | with_reducible refine Ext.drewN ?_ _ | with_reducible refine Ext.alloc ?_ _ | with_reducible refine Ext.setCell ?_ (by first | omega | (simp; done) | (simp; omega)) _)) hx2)
  clear X1 hx2 z2
  go_wp2_with fail
  (with_reducible refine (rosBytes_e A c l BL e1 _ (HS.out.ext (by repeat (first | with_reducible exact Ext.refl _ | with_reducible refine Ext.drew ?_ | with_reducible refine Ext.drewN ?_ _ | with_reducible refine Ext.alloc ?_ _ | with_reducible refine Ext.setCell ?_ (by first | omega | (simp; done) | (simp; omega)) _))) HW.out.1 HW.out.2 F1.out).mono ?_)
  rintro e w3 ⟨A2, c2, rfl, hN2, hO, hx3⟩
  have z3 := hx3.size
  try simp at z3
  replace HS := Lib.hid (HS.out.ext (Ext.trans (by repeat (first | with_reducible exact Ext.refl _ | with_reducible refine Ext.drew ?_ | with_reducible refine Ext.drewN ?_ _ | with_reducible refine Ext.alloc ?_ _ | with_reducible refine Ext.setCell ?_ (by first | omega | (simp; done) | (simp; omega)) _)) hx3))
  replace HB := Lib.hid (HB.out.ext (Ext.trans (by repeat (first | with_reducible exact Ext.refl _ | with_reducible refine Ext.drew ?_ | with_reducible refine Ext.drewN ?_ _ | with_reducible refine Ext.alloc ?_ _ | with_reducible refine Ext.setCell ?_ (by first | omega | (simp; done) | (simp; omega)) _)) hx3))
  have X3 : Hid (Ext w w3) := Lib.hid (Ext.trans (by repeat (first | with_reducible exact X2.out | with_reducible refine Ext.drew ?_ | with_reducible refine Ext.drewN ?_ _ | with_reducible refine Ext.alloc ?_ _ | with_reducible refine Ext.setCell ?_ (by first | omega | (simp; done) | (simp; omega)) _)) hx3)
  have HX := Lib.hid hO
  clear X2 hx3 z3 hO
  have HN2 := Lib.hid hN2
  clear hN2
  by_cases hc : e1 = 0
  · have e7 : (e1 == 0) = true := by simpa using hc
    go_wp2_with fail
    (with_reducible refine (rosRead_e A2 c2 BL l 0 0 HM.out.2 hBl HN2.out _ (OwnN.sl (HX.out.ext (by repeat (first | with_reducible exact Ext.refl _ | with_reducible refine Ext.drew ?_ | with_reducible refine Ext.drewN ?_ _ | with_reducible refine Ext.alloc ?_ _ | with_reducible refine Ext.setCell ?_ (by first | omega | (simp; done) | (simp; omega)) _)))) (HP.out hc)).mono ?_)
    rintro e w4 ⟨A3, c3, rfl, _, hO, hx4⟩
    have z4 := hx4.size
    try simp at z4
    replace HS := Lib.hid (HS.out.ext (Ext.trans (by repeat (first | with_reducible exact Ext.refl _ | with_reducible refine Ext.drew ?_ | with_reducible refine Ext.drewN ?_ _ | with_reducible refine Ext.alloc ?_ _ | with_reducible refine Ext.setCell ?_ (by first | omega | (simp; done) | (simp; omega)) _)) hx4))
    replace HB := Lib.hid (HB.out.ext (Ext.trans (by repeat (first | with_reducible exact Ext.refl _ | with_reducible refine Ext.drew ?_ | with_reducible refine Ext.drewN ?_ _ | with_reducible refine Ext.alloc ?_ _ | with_reducible refine Ext.setCell ?_ (by first | omega | (simp; done) | (simp; omega)) _)) hx4))
    have X4 : Hid (Ext w w4) := Lib.hid (Ext.trans (by repeat (first | with_reducible exact X3.out | with_reducible refine Ext.drew ?_ | with_reducible refine Ext.drewN ?_ _ | with_reducible refine Ext.alloc ?_ _ | with_reducible refine Ext.setCell ?_ (by first | omega | (simp; done) | (simp; omega)) _)) hx4)
    have HO := Lib.hid (OwnVal.sl hO)
    clear HX X3 hx4 z4
    go_wp2_with fail
    (with_reducible refine (kSameVals_eq A3 A _ c3 _ c l _ (HO.out.ext (by repeat (first | with_reducible exact Ext.refl _ | with_reducible refine Ext.drew ?_ | with_reducible refine Ext.drewN ?_ _ | with_reducible refine Ext.alloc ?_ _ | with_reducible refine Ext.setCell ?_ (by first | omega | (simp; done) | (simp; omega)) _))) (HS.out.ext (by repeat (first | with_reducible exact Ext.refl _ | with_reducible refine Ext.drew ?_ | with_reducible refine Ext.drewN ?_ _ | with_reducible refine Ext.alloc ?_ _ | with_reducible refine Ext.setCell ?_ (by first | omega | (simp; done) | (simp; omega)) _)))).mono ?_)
    rintro e w5 ⟨rfl, hx5⟩
    have z5 := hx5.size
    try simp at z5
    replace HS := Lib.hid (HS.out.ext (Ext.trans (by repeat (first | with_reducible exact Ext.refl _ | with_reducible refine Ext.drew ?_ | with_reducible refine Ext.drewN ?_ _ | with_reducible refine Ext.alloc ?_ _ | with_reducible refine Ext.setCell ?_ (by first | omega | (simp; done) | (simp; omega)) _)) hx5))
    replace HB := Lib.hid (HB.out.ext (Ext.trans (by repeat (first | with_reducible exact Ext.refl _ | with_reducible refine Ext.drew ?_ | with_reducible refine Ext.drewN ?_ _ | with_reducible refine Ext.alloc ?_ _ | with_reducible refine Ext.setCell ?_ (by first | omega | (simp; done) | (simp; omega)) _)) hx5))
    have X5 : Hid (Ext w w5) := Lib.hid (Ext.trans (by repeat (first | with_reducible exact X4.out | with_reducible refine Ext.drew ?_ | with_reducible refine Ext.drewN ?_ _ | with_reducible refine Ext.alloc ?_ _ | with_reducible refine Ext.setCell ?_ (by first | omega | (simp; done) | (simp; omega)) _)) hx5)
    clear HO X4 hx5 z5
    go_wp2_with fail
    (with_reducible refine (rosRead_e A0 c0 M RL re ra HM.out.1 (by omega) hnil0 _ (HB.out.ext (by repeat (first | with_reducible exact Ext.refl _ | with_reducible refine Ext.drew ?_ | with_reducible refine Ext.drewN ?_ _ | with_reducible refine Ext.alloc ?_ _ | with_reducible refine Ext.setCell ?_ (by first | omega | (simp; done) | (simp; omega)) _))) F2.out).mono ?_)
    rintro e w6 ⟨A4, c4, rfl, hN4, hO, hx6⟩
    have z6 := hx6.size
    try simp at z6
    replace HS := Lib.hid (HS.out.ext (Ext.trans (by repeat (first | with_reducible exact Ext.refl _ | with_reducible refine Ext.drew ?_ | with_reducible refine Ext.drewN ?_ _ | with_reducible refine Ext.alloc ?_ _ | with_reducible refine Ext.setCell ?_ (by first | omega | (simp; done) | (simp; omega)) _)) hx6))
    replace HB := Lib.hid (HB.out.ext (Ext.trans (by repeat (first | with_reducible exact Ext.refl _ | with_reducible refine Ext.drew ?_ | with_reducible refine Ext.drewN ?_ _ | with_reducible refine Ext.alloc ?_ _ | with_reducible refine Ext.setCell ?_ (by first | omega | (simp; done) | (simp; omega)) _)) hx6))
    have X6 : Hid (Ext w w6) := Lib.hid (Ext.trans (by repeat (first | with_reducible exact X5.out | with_reducible refine Ext.drew ?_ | with_reducible refine Ext.drewN ?_ _ | with_reducible refine Ext.alloc ?_ _ | with_reducible refine Ext.setCell ?_ (by first | omega | (simp; done) | (simp; omega)) _)) hx6)
    have HR4 := Lib.hid (OwnVal.sl hO)
    clear X5 hx6 z6
    have HN4 := Lib.hid hN4
    clear hN4
    by_cases hre : re ≠ 0
    · have e8 : (!(re == 0 && ra == 0)) = true := by simp [hre]
      obtain rfl : RL = [] := HR.out hre
      go_wp2_with fail
      go_ret
      exact ⟨rfl, (by repeat (first | with_reducible exact X6.out | with_reducible refine Ext.drew ?_ | with_reducible refine Ext.drewN ?_ _ | with_reducible refine Ext.alloc ?_ _ | with_reducible refine Ext.setCell ?_ (by first | omega | (simp; done) | (simp; omega)) _))⟩
    · replace hre : re = 0 := by simpa using hre
      obtain ⟨hq1, hq2, hq3, hq4⟩ := HQ.out hre
      have e8 : (!(re == 0 && ra == 0)) = false := by simp [hre, hq2]
      have HQ1 := Lib.hid hq1
      have HQ3 := Lib.hid hq3
      have HQ4 := Lib.hid hq4
      clear hq1 hq3 hq4
      go_wp2_with fail
      (with_reducible refine (rosBytes_e A4 c4 RL M 0 _ (HR4.out.ext (by repeat (first | with_reducible exact Ext.refl _ | with_reducible refine Ext.drew ?_ | with_reducible refine Ext.drewN ?_ _ | with_reducible refine Ext.alloc ?_ _ | with_reducible refine Ext.setCell ?_ (by first | omega | (simp; done) | (simp; omega)) _))) HQ3.out HQ4.out HQ1.out).mono ?_)
      rintro e w7 ⟨A5, c5, rfl, _, hO, hx7⟩
      have z7 := hx7.size
      try simp at z7
      replace HS := Lib.hid (HS.out.ext (Ext.trans (by repeat (first | with_reducible exact Ext.refl _ | with_reducible refine Ext.drew ?_ | with_reducible refine Ext.drewN ?_ _ | with_reducible refine Ext.alloc ?_ _ | with_reducible refine Ext.setCell ?_ (by first | omega | (simp; done) | (simp; omega)) _)) hx7))
      replace HB := Lib.hid (HB.out.ext (Ext.trans (by repeat (first | with_reducible exact Ext.refl _ | with_reducible refine Ext.drew ?_ | with_reducible refine Ext.drewN ?_ _ | with_reducible refine Ext.alloc ?_ _ | with_reducible refine Ext.setCell ?_ (by first | omega | (simp; done) | (simp; omega)) _)) hx7))
      replace HR4 := Lib.hid (HR4.out.ext (Ext.trans (by repeat (first | with_reducible exact Ext.refl _ | with_reducible refine Ext.drew ?_ | with_reducible refine Ext.drewN ?_ _ | with_reducible refine Ext.alloc ?_ _ | with_reducible refine Ext.setCell ?_ (by first | omega | (simp; done) | (simp; omega)) _)) hx7))
      have X7 : Hid (Ext w w7) := Lib.hid (Ext.trans (by repeat (first | with_reducible exact X6.out | with_reducible refine Ext.drew ?_ | with_reducible refine Ext.drewN ?_ _ | with_reducible refine Ext.alloc ?_ _ | with_reducible refine Ext.setCell ?_ (by first | omega | (simp; done) | (simp; omega)) _)) hx7)
      have HY := Lib.hid hO
      clear X6 hx7 z7 hO
      go_wp2_with fail
      (with_reducible refine (kSameBytes_eq A5 A0 _ c5 _ c0 M HM.out.1 _ (OwnN.sl (HY.out.ext (by repeat (first | with_reducible exact Ext.refl _ | with_reducible refine Ext.drew ?_ | with_reducible refine Ext.drewN ?_ _ | with_reducible refine Ext.alloc ?_ _ | with_reducible refine Ext.setCell ?_ (by first | omega | (simp; done) | (simp; omega)) _)))) (HB.out.ext (by repeat (first | with_reducible exact Ext.refl _ | with_reducible refine Ext.drew ?_ | with_reducible refine Ext.drewN ?_ _ | with_reducible refine Ext.alloc ?_ _ | with_reducible refine Ext.setCell ?_ (by first | omega | (simp; done) | (simp; omega)) _)))).mono ?_)
      rintro e w_1 ⟨rfl, rfl⟩
      go_wp2_with fail
      go_ret
      exact ⟨rfl, (by repeat (first | with_reducible exact X7.out | with_reducible refine Ext.drew ?_ | with_reducible refine Ext.drewN ?_ _ | with_reducible refine Ext.alloc ?_ _ | with_reducible refine Ext.setCell ?_ (by first | omega | (simp; done) | (simp; omega)) _))⟩
  · have e7 : (e1 == 0) = false := by simpa using hc
    go_wp2_with fail
    (with_reducible refine (rosRead_e A0 c0 M RL re ra HM.out.1 (by omega) hnil0 _ (HB.out.ext (by repeat (first | with_reducible exact Ext.refl _ | with_reducible refine Ext.drew ?_ | with_reducible refine Ext.drewN ?_ _ | with_reducible refine Ext.alloc ?_ _ | with_reducible refine Ext.setCell ?_ (by first | omega | (simp; done) | (simp; omega)) _))) F2.out).mono ?_)
    rintro e w4 ⟨A4, c4, rfl, hN4, hO, hx4⟩
    have z4 := hx4.size
    try simp at z4
    replace HS := Lib.hid (HS.out.ext (Ext.trans (by repeat (first | with_reducible exact Ext.refl _ | with_reducible refine Ext.drew ?_ | with_reducible refine Ext.drewN ?_ _ | with_reducible refine Ext.alloc ?_ _ | with_reducible refine Ext.setCell ?_ (by first | omega | (simp; done) | (simp; omega)) _)) hx4))
    replace HB := Lib.hid (HB.out.ext (Ext.trans (by repeat (first | with_reducible exact Ext.refl _ | with_reducible refine Ext.drew ?_ | with_reducible refine Ext.drewN ?_ _ | with_reducible refine Ext.alloc ?_ _ | with_reducible refine Ext.setCell ?_ (by first | omega | (simp; done) | (simp; omega)) _)) hx4))
    replace HX := Lib.hid (HX.out.ext (Ext.trans (by repeat (first | with_reducible exact Ext.refl _ | with_reducible refine Ext.drew ?_ | with_reducible refine Ext.drewN ?_ _ | with_reducible refine Ext.alloc ?_ _ | with_reducible refine Ext.setCell ?_ (by first | omega | (simp; done) | (simp; omega)) _)) hx4))
    have X4 : Hid (Ext w w4) := Lib.hid (Ext.trans (by repeat (first | with_reducible exact X3.out | with_reducible refine Ext.drew ?_ | with_reducible refine Ext.drewN ?_ _ | with_reducible refine Ext.alloc ?_ _ | with_reducible refine Ext.setCell ?_ (by first | omega | (simp; done) | (simp; omega)) _)) hx4)
    have HR4 := Lib.hid (OwnVal.sl hO)
    clear X3 hx4 z4
    have HN4 := Lib.hid hN4
    clear hN4
    by_cases hre : re ≠ 0
    · have e8 : (!(re == 0 && ra == 0)) = true := by simp [hre]
      obtain rfl : RL = [] := HR.out hre
      go_wp2_with fail
      go_ret
      exact ⟨rfl, (by repeat (first | with_reducible exact X4.out | with_reducible refine Ext.drew ?_ | with_reducible refine Ext.drewN ?_ _ | with_reducible refine Ext.alloc ?_ _ | with_reducible refine Ext.setCell ?_ (by first | omega | (simp; done) | (simp; omega)) _))⟩
    · replace hre : re = 0 := by simpa using hre
      obtain ⟨hq1, hq2, hq3, hq4⟩ := HQ.out hre
      have e8 : (!(re == 0 && ra == 0)) = false := by simp [hre, hq2]
      have HQ1 := Lib.hid hq1
      have HQ3 := Lib.hid hq3
      have HQ4 := Lib.hid hq4
      clear hq1 hq3 hq4
      go_wp2_with fail
      (with_reducible refine (rosBytes_e A4 c4 RL M 0 _ (HR4.out.ext (by repeat (first | with_reducible exact Ext.refl _ | with_reducible refine Ext.drew ?_ | with_reducible refine Ext.drewN ?_ _ | with_reducible refine Ext.alloc ?_ _ | with_reducible refine Ext.setCell ?_ (by first | omega | (simp; done) | (simp; omega)) _))) HQ3.out HQ4.out HQ1.out).mono ?_)
      rintro e w5 ⟨A5, c5, rfl, _, hO, hx5⟩
      have z5 := hx5.size
      try simp at z5
      replace HS := Lib.hid (HS.out.ext (Ext.trans (by repeat (first | with_reducible exact Ext.refl _ | with_reducible refine Ext.drew ?_ | with_reducible refine Ext.drewN ?_ _ | with_reducible refine Ext.alloc ?_ _ | with_reducible refine Ext.setCell ?_ (by first | omega | (simp; done) | (simp; omega)) _)) hx5))
      replace HB := Lib.hid (HB.out.ext (Ext.trans (by repeat (first | with_reducible exact Ext.refl _ | with_reducible refine Ext.drew ?_ | with_reducible refine Ext.drewN ?_ _ | with_reducible refine Ext.alloc ?_ _ | with_reducible refine Ext.setCell ?_ (by first | omega | (simp; done) | (simp; omega)) _)) hx5))
      replace HX := Lib.hid (HX.out.ext (Ext.trans (by repeat (first | with_reducible exact Ext.refl _ | with_reducible refine Ext.drew ?_ | with_reducible refine Ext.drewN ?_ _ | with_reducible refine Ext.alloc ?_ _ | with_reducible refine Ext.setCell ?_ (by first | omega | (simp; done) | (simp; omega)) _)) hx5))
      replace HR4 := Lib.hid (HR4.out.ext (Ext.trans (by repeat (first | with_reducible exact Ext.refl _ | with_reducible refine Ext.drew ?_ | with_reducible refine Ext.drewN ?_ _ | with_reducible refine Ext.alloc ?_ _ | with_reducible refine Ext.setCell ?_ (by first | omega | (simp; done) | (simp; omega)) _)) hx5))
      have X5 : Hid (Ext w w5) := Lib.hid (Ext.trans (by repeat (first | with_reducible exact X4.out | with_reducible refine Ext.drew ?_ | with_reducible refine Ext.drewN ?_ _ | with_reducible refine Ext.alloc ?_ _ | with_reducible refine Ext.setCell ?_ (by first | omega | (simp; done) | (simp; omega)) _)) hx5)
      have HY := Lib.hid hO
      clear X4 hx5 z5 hO
      go_wp2_with fail
      (with_reducible refine (kSameBytes_eq A5 A0 _ c5 _ c0 M HM.out.1 _ (OwnN.sl (HY.out.ext (by repeat (first | with_reducible exact Ext.refl _ | with_reducible refine Ext.drew ?_ | with_reducible refine Ext.drewN ?_ _ | with_reducible refine Ext.alloc ?_ _ | with_reducible refine Ext.setCell ?_ (by first | omega | (simp; done) | (simp; omega)) _)))) (HB.out.ext (by repeat (first | with_reducible exact Ext.refl _ | with_reducible refine Ext.drew ?_ | with_reducible refine Ext.drewN ?_ _ | with_reducible refine Ext.alloc ?_ _ | with_reducible refine Ext.setCell ?_ (by first | omega | (simp; done) | (simp; omega)) _)))).mono ?_)
      rintro e w_1 ⟨rfl, rfl⟩
      go_wp2_with fail
      go_ret
      exact ⟨rfl, (by repeat (first | with_reducible exact X5.out | with_reducible refine Ext.drew ?_ | with_reducible refine Ext.drewN ?_ _ | with_reducible refine Ext.alloc ?_ _ | with_reducible refine Ext.setCell ?_ (by first | omega | (simp; done) | (simp; omega)) _))⟩
theorem RosterBack_any (A : Option Addr) (c : Nat) (l : List (Int × Int × Int × Int × Bool × Bool)) (A0 : Option Addr) (c0 : Nat) (M : List Nat) (w : World) (hs : Sl w 6 A l.length c (l.flatMap valC)) (hw : ∀ x ∈ l, Fits .i64 x.1 ∧ Fits .u64 x.2.1 ∧ Fits .i64 x.2.2.1 ∧ Fits .i64 x.2.2.2.1) (hnil : A = none → c = 0) (hb : Sl w 1 A0 M.length c0 (by_ M)) (hM : Byt M) (hnil0 : A0 = none → c0 = 0) :
    Calls Try.prog 14 #[.slice A l.length c, .slice A0 M.length c0] w fun r w' => r = .returned (.bool true) ∧ Ext w w' := by
  by_cases hl : l.length ≤ 40 ∧ M.length ≤ 600
  · have hm : ∀ x ∈ l, Fits .u64 x.2.1 := fun x hx => (hw x hx).2.1
    have hbl : (rosB l).length < 1099511627776 := by
      by_cases hc : (chkV l).1 = 0
      · have := val_fit hc hm l.length
        rw [List.take_length] at this
        unfold rosB
        rw [if_pos hc]
        omega
      · unfold rosB
        rw [if_neg hc]
        simp
    refine RosterBack_main A A0 c c0 l (rosRV M).1 M (rosB l) (chkV l).1 (chkV l).2 (rosRV M).2.1 (rosRV M).2.2 w hs hb hM (fun x hx => (hw x hx).1) hm hl.1 hl.2 hnil0 rfl rfl rfl (byt_rosB l) hbl (fun hc => (rosRV_put hc hm).symm) (fun hr => ?_) (fun hr => rosRV_nil hr)
    obtain ⟨h1, h2, h3, h4⟩ := rosRV_back hM hr
    exact ⟨by rw [h1, h2], h3, fun x hx => (h4 x hx).1, fun x hx => (h4 x hx).2⟩
  · exact RosterBack_long A A0 c l.length c0 M.length w (by omega) hs.small hb.small
end Go.Proofs.Ytjdpgapmdmpjjaa
