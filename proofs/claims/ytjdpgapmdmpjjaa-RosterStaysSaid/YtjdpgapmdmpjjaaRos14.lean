/- roster: the chapter is awake. Conditions stand in each lemma. -/
import Derived.Test.YtjdpgapmdmpjjaaRos13
set_option linter.unusedVariables false
set_option linter.unusedSimpArgs false
namespace Go.Proofs.Ytjdpgapmdmpjjaa
open Go.RowKit Go.ChangeShapes Go.WideShapes Go.Deep Go.Joins

def aw2 : List (Int × Int × Int × Int × Bool × Bool) := [(5, 1, 2, 0, false, false), (3, 9, 1, 0, false, false)]
def aw4 : List (Int × Int × Int × Int × Bool × Bool) := [(5, 1, 3, 30, false, false), (3, 9, 1, 0, false, false)]
theorem bools2 {w : World} {g : Nat} {a b : Bool} (h0 : w.cell? ⟨g, 0, none⟩ = some (.bool a)) (h1 : w.cell? ⟨g, 1, none⟩ = some (.bool b)) : Sl w 1 (some ⟨g, 0, none⟩) 2 2 ([a, b].map Value.bool) := by
  refine ⟨rfl, Nat.le_refl _, by simp [maxLen], fun _ => ⟨g, 0, rfl, cell_lt h0, fun j u hj => ?_⟩⟩
  match j, hj with
  | 0, hj => simp at hj; subst hj; simpa using h0
  | 1, hj => simp at hj; subst hj; simpa using h1
  | j + 2, hj => simp at hj
theorem awCho1 (A : Option Addr) (c g : Nat) (w : World) (h : Sl w 6 A 2 c (chapV.flatMap valC)) (hnil : A = none → c = 0) (h0 : w.cell? ⟨g, 0, none⟩ = some (.bool true)) (h1 : w.cell? ⟨g, 1, none⟩ = some (.bool false)) :
    Calls Try.prog 54 #[.slice A 2 c, .slice (some ⟨g, 0, none⟩) 2 2] w fun e w' => ∃ A c, e = .returned (.tuple #[.slice A 2 c, .int .i64 0]) ∧ (A = none → c = 0) ∧ OwnVal w' w.heap.size (.slice A 2 c) 2 aw2 ∧ Ext w w' := by
  have h := rosChoose_any A (some ⟨g, 0, none⟩) c 2 2 chapV [true, false] w h (bools2 h0 h1) (by intro x hx; simp [chapV] at hx; rcases hx with rfl | rfl <;> rfl) hnil
  rw [cho_1] at h
  exact h
theorem awJail (A : Option Addr) (c : Nat) (w : World) (h : Sl w 6 A 2 c (aw2.flatMap valC)) (hnil : A = none → c = 0) :
    Calls Try.prog 56 #[.slice A 2 c, .int .i64 0, .int .i64 30] w fun e w' => ∃ A c, e = .returned (.tuple #[.slice A 2 c, .int .i64 0]) ∧ (A = none → c = 0) ∧ OwnVal w' w.heap.size (.slice A 2 c) 2 aw4 ∧ Ext w w' := by
  have h := rosJail_any A c aw2 0 30 w h (by intro x hx; simp [aw2] at hx; rcases hx with rfl | rfl <;> rfl) hnil
  have e : jailV aw2 0 30 = (aw4, 0) := jail_1
  rw [e] at h
  exact h
theorem awCho2 (A : Option Addr) (c g : Nat) (w : World) (h : Sl w 6 A 2 c (aw4.flatMap valC)) (hnil : A = none → c = 0) (h0 : w.cell? ⟨g, 0, none⟩ = some (.bool true)) (h1 : w.cell? ⟨g, 1, none⟩ = some (.bool true)) :
    Calls Try.prog 54 #[.slice A 2 c, .slice (some ⟨g, 0, none⟩) 2 2] w fun e w' => ∃ A c, e = .returned (.tuple #[.slice A 0 c, .int .i64 11]) ∧ Ext w w' := by
  have h := rosChoose_any A (some ⟨g, 0, none⟩) c 2 2 aw4 [true, true] w h (bools2 h0 h1) (by intro x hx; simp [aw4] at hx; rcases hx with rfl | rfl <;> rfl) hnil
  have e : choV aw4 [true, true] = ([], 11) := cho_2
  rw [e] at h
  exact h.mono (by rintro e w' ⟨A, c, h1, _, _, h2⟩; exact ⟨A, c, h1, h2⟩)
theorem awFind (A : Option Addr) (c : Nat) (w : World) (h : Sl w 6 A 2 c (chapV.flatMap valC)) : Calls Try.prog 39 #[.slice A 2 c, .int .i64 3] w fun e w' => e = .returned (.tuple #[.int .i64 1, .bool true]) ∧ Ext w w' := rosFind_ev A 2 c chapV 3 1 true w h rfl
theorem awActive (A : Option Addr) (c : Nat) (w : World) (h : Sl w 6 A 2 c (aw2.flatMap valC)) : Calls Try.prog 44 #[.slice A 2 c] w fun e w' => ∃ A c, e = .returned (.slice A 2 c) ∧ Sl w' 1 A 2 c ([true, false].map Value.bool) ∧ Ext w w' :=
  (rosActive_any A 2 c aw2 w h (by omega)).mono (by rintro e w' ⟨A, c, h1, _, h3, h4⟩; exact ⟨A, c, h1, OwnB.sl h3, h4⟩)
theorem awFree (A : Option Addr) (c : Nat) (w : World) (h : Sl w 6 A 2 c (aw4.flatMap valC)) : Calls Try.prog 42 #[.slice A 2 c] w fun e w' => ∃ A c, e = .returned (.slice A 2 c) ∧ Sl w' 1 A 2 c ([false, true].map Value.bool) ∧ Ext w w' :=
  (rosFree_any A 2 c aw4 w h (by omega)).mono (by rintro e w' ⟨A, c, h1, _, h3, h4⟩; exact ⟨A, c, h1, OwnB.sl h3, h4⟩)
theorem chapter16_some (w : World) : Calls Try.prog 81 #[] w fun e w' => ∃ g c, e = .returned (.slice (some ⟨g, 0, none⟩) 2 c) ∧ OwnVal w' w.heap.size (.slice (some ⟨g, 0, none⟩) 2 c) 2 chapV ∧ Ext w w' := by
  refine (chapter16_any w).mono ?_
  rintro e w' ⟨A, c, rfl, _, hO, hx⟩
  rcases hO.2 with ⟨_, h0⟩ | ⟨g, cap, cur, h', hbg, _⟩
  · omega
  injection h' with h1 h2 h3
  subst h1
  exact ⟨g, c, rfl, hO, hx⟩
set_option maxRecDepth 100000 in
set_option maxHeartbeats 2000000 in
theorem awake16_any (w : World) : Calls Try.prog 31 #[] w fun e w' => e = .returned (.bool true) ∧ Ext w w' := by
  have q22 : ∀ (w : World) (a : Option Addr) (n c n' c' : Nat), (binOp .eql 40 (.slice a n c) (.slice none n' c')).run Try.prog w = .ok (.bool a.isNone) w := fun w a n c n' c' => Go.Lib.run_eql_slice_nil w _ _ a n c n' c' Try.underlying40
  go_enter Try.func31, Try.ntmps31
  go_wp2_with fail
  (with_reducible refine (chapter16_some _).mono ?_)
  rintro e w1 ⟨g1, c1, rfl, hO1, hx1⟩
  have z1 := hx1.size
  try simp at z1
  have X1 : Hid (Ext w w1) := Lib.hid (Ext.trans (by repeat (first | with_reducible exact Ext.refl w | with_reducible refine Ext.drew ?_ | with_reducible refine Ext.drewN ?_ _ | with_reducible refine Ext.alloc ?_ _ | with_reducible refine Ext.setCell ?_ (by first | omega | (simp; done) | (simp; omega)) _)) hx1)
  have HO := Lib.hid hO1
  clear hx1 z1 hO1
  go_wp2_with fail
  (with_reducible refine (awCho1 _ c1 _ _ (OwnVal.sl (HO.out.ext (by repeat (first | with_reducible exact Ext.refl _ | with_reducible refine Ext.drew ?_ | with_reducible refine Ext.drewN ?_ _ | with_reducible refine Ext.alloc ?_ _ | with_reducible refine Ext.setCell ?_ (by first | omega | (simp; done) | (simp; omega)) _)))) (fun h => by cases h) (by first | (simp [go_sem, World.cell?_alloc_past]; done) | assumption) (by first | (simp [go_sem, World.cell?_alloc_past]; done) | assumption)).mono ?_)
  rintro e w2 ⟨A2, c2, rfl, hA2, hO2, hx2⟩
  have z2 := hx2.size
  try simp at z2
  replace HO := Lib.hid (HO.out.ext (Ext.trans (by repeat (first | with_reducible exact Ext.refl _ | with_reducible refine Ext.drew ?_ | with_reducible refine Ext.drewN ?_ _ | with_reducible refine Ext.alloc ?_ _ | with_reducible refine Ext.setCell ?_ (by first | omega | (simp; done) | (simp; omega)) _)) hx2))
  have X2 : Hid (Ext w w2) := Lib.hid (Ext.trans (by repeat (first | with_reducible exact X1.out | with_reducible refine Ext.drew ?_ | with_reducible refine Ext.drewN ?_ _ | with_reducible refine Ext.alloc ?_ _ | with_reducible refine Ext.setCell ?_ (by first | omega | (simp; done) | (simp; omega)) _)) hx2)
  have HO2 := Lib.hid hO2
  clear X1 hx2 z2 hO2
  go_wp2_with fail
  (with_reducible refine (awJail A2 c2 _ (OwnVal.sl (HO2.out.ext (by repeat (first | with_reducible exact Ext.refl _ | with_reducible refine Ext.drew ?_ | with_reducible refine Ext.drewN ?_ _ | with_reducible refine Ext.alloc ?_ _ | with_reducible refine Ext.setCell ?_ (by first | omega | (simp; done) | (simp; omega)) _)))) hA2).mono ?_)
  rintro e w3 ⟨A3, c3, rfl, hA3, hO3, hx3⟩
  have z3 := hx3.size
  try simp at z3
  replace HO := Lib.hid (HO.out.ext (Ext.trans (by repeat (first | with_reducible exact Ext.refl _ | with_reducible refine Ext.drew ?_ | with_reducible refine Ext.drewN ?_ _ | with_reducible refine Ext.alloc ?_ _ | with_reducible refine Ext.setCell ?_ (by first | omega | (simp; done) | (simp; omega)) _)) hx3))
  replace HO2 := Lib.hid (HO2.out.ext (Ext.trans (by repeat (first | with_reducible exact Ext.refl _ | with_reducible refine Ext.drew ?_ | with_reducible refine Ext.drewN ?_ _ | with_reducible refine Ext.alloc ?_ _ | with_reducible refine Ext.setCell ?_ (by first | omega | (simp; done) | (simp; omega)) _)) hx3))
  have X3 : Hid (Ext w w3) := Lib.hid (Ext.trans (by repeat (first | with_reducible exact X2.out | with_reducible refine Ext.drew ?_ | with_reducible refine Ext.drewN ?_ _ | with_reducible refine Ext.alloc ?_ _ | with_reducible refine Ext.setCell ?_ (by first | omega | (simp; done) | (simp; omega)) _)) hx3)
  have HO3 := Lib.hid hO3
  clear X2 hx3 z3 hO3
  go_wp2_with fail
  (with_reducible refine (awCho2 A3 c3 _ _ (OwnVal.sl (HO3.out.ext (by repeat (first | with_reducible exact Ext.refl _ | with_reducible refine Ext.drew ?_ | with_reducible refine Ext.drewN ?_ _ | with_reducible refine Ext.alloc ?_ _ | with_reducible refine Ext.setCell ?_ (by first | omega | (simp; done) | (simp; omega)) _)))) hA3 (by first | (simp [go_sem, World.cell?_alloc_past]; done) | assumption) (by first | (simp [go_sem, World.cell?_alloc_past]; done) | assumption)).mono ?_)
  rintro e w4 ⟨A4, c4, rfl, hx4⟩
  have z4 := hx4.size
  try simp at z4
  replace HO := Lib.hid (HO.out.ext (Ext.trans (by repeat (first | with_reducible exact Ext.refl _ | with_reducible refine Ext.drew ?_ | with_reducible refine Ext.drewN ?_ _ | with_reducible refine Ext.alloc ?_ _ | with_reducible refine Ext.setCell ?_ (by first | omega | (simp; done) | (simp; omega)) _)) hx4))
  replace HO2 := Lib.hid (HO2.out.ext (Ext.trans (by repeat (first | with_reducible exact Ext.refl _ | with_reducible refine Ext.drew ?_ | with_reducible refine Ext.drewN ?_ _ | with_reducible refine Ext.alloc ?_ _ | with_reducible refine Ext.setCell ?_ (by first | omega | (simp; done) | (simp; omega)) _)) hx4))
  replace HO3 := Lib.hid (HO3.out.ext (Ext.trans (by repeat (first | with_reducible exact Ext.refl _ | with_reducible refine Ext.drew ?_ | with_reducible refine Ext.drewN ?_ _ | with_reducible refine Ext.alloc ?_ _ | with_reducible refine Ext.setCell ?_ (by first | omega | (simp; done) | (simp; omega)) _)) hx4))
  have X4 : Hid (Ext w w4) := Lib.hid (Ext.trans (by repeat (first | with_reducible exact X3.out | with_reducible refine Ext.drew ?_ | with_reducible refine Ext.drewN ?_ _ | with_reducible refine Ext.alloc ?_ _ | with_reducible refine Ext.setCell ?_ (by first | omega | (simp; done) | (simp; omega)) _)) hx4)
  clear X3 hx4 z4
  go_wp2_with fail
  (with_reducible refine (awFind _ c1 _ (OwnVal.sl (HO.out.ext (by repeat (first | with_reducible exact Ext.refl _ | with_reducible refine Ext.drew ?_ | with_reducible refine Ext.drewN ?_ _ | with_reducible refine Ext.alloc ?_ _ | with_reducible refine Ext.setCell ?_ (by first | omega | (simp; done) | (simp; omega)) _))))).mono ?_)
  rintro e w5 ⟨rfl, hx5⟩
  have z5 := hx5.size
  try simp at z5
  replace HO := Lib.hid (HO.out.ext (Ext.trans (by repeat (first | with_reducible exact Ext.refl _ | with_reducible refine Ext.drew ?_ | with_reducible refine Ext.drewN ?_ _ | with_reducible refine Ext.alloc ?_ _ | with_reducible refine Ext.setCell ?_ (by first | omega | (simp; done) | (simp; omega)) _)) hx5))
  replace HO2 := Lib.hid (HO2.out.ext (Ext.trans (by repeat (first | with_reducible exact Ext.refl _ | with_reducible refine Ext.drew ?_ | with_reducible refine Ext.drewN ?_ _ | with_reducible refine Ext.alloc ?_ _ | with_reducible refine Ext.setCell ?_ (by first | omega | (simp; done) | (simp; omega)) _)) hx5))
  replace HO3 := Lib.hid (HO3.out.ext (Ext.trans (by repeat (first | with_reducible exact Ext.refl _ | with_reducible refine Ext.drew ?_ | with_reducible refine Ext.drewN ?_ _ | with_reducible refine Ext.alloc ?_ _ | with_reducible refine Ext.setCell ?_ (by first | omega | (simp; done) | (simp; omega)) _)) hx5))
  have X5 : Hid (Ext w w5) := Lib.hid (Ext.trans (by repeat (first | with_reducible exact X4.out | with_reducible refine Ext.drew ?_ | with_reducible refine Ext.drewN ?_ _ | with_reducible refine Ext.alloc ?_ _ | with_reducible refine Ext.setCell ?_ (by first | omega | (simp; done) | (simp; omega)) _)) hx5)
  clear X4 hx5 z5
  go_wp2_with fail
  (with_reducible refine (awActive A2 c2 _ (OwnVal.sl (HO2.out.ext (by repeat (first | with_reducible exact Ext.refl _ | with_reducible refine Ext.drew ?_ | with_reducible refine Ext.drewN ?_ _ | with_reducible refine Ext.alloc ?_ _ | with_reducible refine Ext.setCell ?_ (by first | omega | (simp; done) | (simp; omega)) _))))).mono ?_)
  rintro e w6 ⟨A6, c6, rfl, hS6, hx6⟩
  have z6 := hx6.size
  try simp at z6
  replace HO := Lib.hid (HO.out.ext (Ext.trans (by repeat (first | with_reducible exact Ext.refl _ | with_reducible refine Ext.drew ?_ | with_reducible refine Ext.drewN ?_ _ | with_reducible refine Ext.alloc ?_ _ | with_reducible refine Ext.setCell ?_ (by first | omega | (simp; done) | (simp; omega)) _)) hx6))
  replace HO2 := Lib.hid (HO2.out.ext (Ext.trans (by repeat (first | with_reducible exact Ext.refl _ | with_reducible refine Ext.drew ?_ | with_reducible refine Ext.drewN ?_ _ | with_reducible refine Ext.alloc ?_ _ | with_reducible refine Ext.setCell ?_ (by first | omega | (simp; done) | (simp; omega)) _)) hx6))
  replace HO3 := Lib.hid (HO3.out.ext (Ext.trans (by repeat (first | with_reducible exact Ext.refl _ | with_reducible refine Ext.drew ?_ | with_reducible refine Ext.drewN ?_ _ | with_reducible refine Ext.alloc ?_ _ | with_reducible refine Ext.setCell ?_ (by first | omega | (simp; done) | (simp; omega)) _)) hx6))
  have X6 : Hid (Ext w w6) := Lib.hid (Ext.trans (by repeat (first | with_reducible exact X5.out | with_reducible refine Ext.drew ?_ | with_reducible refine Ext.drewN ?_ _ | with_reducible refine Ext.alloc ?_ _ | with_reducible refine Ext.setCell ?_ (by first | omega | (simp; done) | (simp; omega)) _)) hx6)
  have HS6 := Lib.hid hS6
  clear X5 hx6 z6 hS6
  go_wp2_with fail
  (with_reducible refine (kSameBools_any A6 _ 2 c6 2 2 [true, false] [true, false] _ (HS6.out.ext (by repeat (first | with_reducible exact Ext.refl _ | with_reducible refine Ext.drew ?_ | with_reducible refine Ext.drewN ?_ _ | with_reducible refine Ext.alloc ?_ _ | with_reducible refine Ext.setCell ?_ (by first | omega | (simp; done) | (simp; omega)) _))) (bools2 (by first | (simp [go_sem, World.cell?_alloc_past]; done) | assumption) (by first | (simp [go_sem, World.cell?_alloc_past]; done) | assumption))).mono ?_)
  rintro e w7 ⟨rfl, hx7⟩
  have z7 := hx7.size
  try simp at z7
  replace HO := Lib.hid (HO.out.ext (Ext.trans (by repeat (first | with_reducible exact Ext.refl _ | with_reducible refine Ext.drew ?_ | with_reducible refine Ext.drewN ?_ _ | with_reducible refine Ext.alloc ?_ _ | with_reducible refine Ext.setCell ?_ (by first | omega | (simp; done) | (simp; omega)) _)) hx7))
  replace HO2 := Lib.hid (HO2.out.ext (Ext.trans (by repeat (first | with_reducible exact Ext.refl _ | with_reducible refine Ext.drew ?_ | with_reducible refine Ext.drewN ?_ _ | with_reducible refine Ext.alloc ?_ _ | with_reducible refine Ext.setCell ?_ (by first | omega | (simp; done) | (simp; omega)) _)) hx7))
  replace HO3 := Lib.hid (HO3.out.ext (Ext.trans (by repeat (first | with_reducible exact Ext.refl _ | with_reducible refine Ext.drew ?_ | with_reducible refine Ext.drewN ?_ _ | with_reducible refine Ext.alloc ?_ _ | with_reducible refine Ext.setCell ?_ (by first | omega | (simp; done) | (simp; omega)) _)) hx7))
  replace HS6 := Lib.hid (HS6.out.ext (Ext.trans (by repeat (first | with_reducible exact Ext.refl _ | with_reducible refine Ext.drew ?_ | with_reducible refine Ext.drewN ?_ _ | with_reducible refine Ext.alloc ?_ _ | with_reducible refine Ext.setCell ?_ (by first | omega | (simp; done) | (simp; omega)) _)) hx7))
  have X7 : Hid (Ext w w7) := Lib.hid (Ext.trans (by repeat (first | with_reducible exact X6.out | with_reducible refine Ext.drew ?_ | with_reducible refine Ext.drewN ?_ _ | with_reducible refine Ext.alloc ?_ _ | with_reducible refine Ext.setCell ?_ (by first | omega | (simp; done) | (simp; omega)) _)) hx7)
  clear X6 hx7 z7
  go_wp2_with fail
  (with_reducible refine (awFree A3 c3 _ (OwnVal.sl (HO3.out.ext (by repeat (first | with_reducible exact Ext.refl _ | with_reducible refine Ext.drew ?_ | with_reducible refine Ext.drewN ?_ _ | with_reducible refine Ext.alloc ?_ _ | with_reducible refine Ext.setCell ?_ (by first | omega | (simp; done) | (simp; omega)) _))))).mono ?_)
  rintro e w8 ⟨A8, c8, rfl, hS8, hx8⟩
  have z8 := hx8.size
  try simp at z8
  replace HO := Lib.hid (HO.out.ext (Ext.trans (by repeat (first | with_reducible exact Ext.refl _ | with_reducible refine Ext.drew ?_ | with_reducible refine Ext.drewN ?_ _ | with_reducible refine Ext.alloc ?_ _ | with_reducible refine Ext.setCell ?_ (by first | omega | (simp; done) | (simp; omega)) _)) hx8))
  replace HO2 := Lib.hid (HO2.out.ext (Ext.trans (by repeat (first | with_reducible exact Ext.refl _ | with_reducible refine Ext.drew ?_ | with_reducible refine Ext.drewN ?_ _ | with_reducible refine Ext.alloc ?_ _ | with_reducible refine Ext.setCell ?_ (by first | omega | (simp; done) | (simp; omega)) _)) hx8))
  replace HO3 := Lib.hid (HO3.out.ext (Ext.trans (by repeat (first | with_reducible exact Ext.refl _ | with_reducible refine Ext.drew ?_ | with_reducible refine Ext.drewN ?_ _ | with_reducible refine Ext.alloc ?_ _ | with_reducible refine Ext.setCell ?_ (by first | omega | (simp; done) | (simp; omega)) _)) hx8))
  replace HS6 := Lib.hid (HS6.out.ext (Ext.trans (by repeat (first | with_reducible exact Ext.refl _ | with_reducible refine Ext.drew ?_ | with_reducible refine Ext.drewN ?_ _ | with_reducible refine Ext.alloc ?_ _ | with_reducible refine Ext.setCell ?_ (by first | omega | (simp; done) | (simp; omega)) _)) hx8))
  have X8 : Hid (Ext w w8) := Lib.hid (Ext.trans (by repeat (first | with_reducible exact X7.out | with_reducible refine Ext.drew ?_ | with_reducible refine Ext.drewN ?_ _ | with_reducible refine Ext.alloc ?_ _ | with_reducible refine Ext.setCell ?_ (by first | omega | (simp; done) | (simp; omega)) _)) hx8)
  have HS8 := Lib.hid hS8
  clear X7 hx8 z8 hS8
  go_wp2_with fail
  (with_reducible refine (kSameBools_any A8 _ 2 c8 2 2 [false, true] [false, true] _ (HS8.out.ext (by repeat (first | with_reducible exact Ext.refl _ | with_reducible refine Ext.drew ?_ | with_reducible refine Ext.drewN ?_ _ | with_reducible refine Ext.alloc ?_ _ | with_reducible refine Ext.setCell ?_ (by first | omega | (simp; done) | (simp; omega)) _))) (bools2 (by first | (simp [go_sem, World.cell?_alloc_past]; done) | assumption) (by first | (simp [go_sem, World.cell?_alloc_past]; done) | assumption))).mono ?_)
  rintro e w9 ⟨rfl, hx9⟩
  have z9 := hx9.size
  try simp at z9
  replace HO := Lib.hid (HO.out.ext (Ext.trans (by repeat (first | with_reducible exact Ext.refl _ | with_reducible refine Ext.drew ?_ | with_reducible refine Ext.drewN ?_ _ | with_reducible refine Ext.alloc ?_ _ | with_reducible refine Ext.setCell ?_ (by first | omega | (simp; done) | (simp; omega)) _)) hx9))
  replace HO2 := Lib.hid (HO2.out.ext (Ext.trans (by repeat (first | with_reducible exact Ext.refl _ | with_reducible refine Ext.drew ?_ | with_reducible refine Ext.drewN ?_ _ | with_reducible refine Ext.alloc ?_ _ | with_reducible refine Ext.setCell ?_ (by first | omega | (simp; done) | (simp; omega)) _)) hx9))
  replace HO3 := Lib.hid (HO3.out.ext (Ext.trans (by repeat (first | with_reducible exact Ext.refl _ | with_reducible refine Ext.drew ?_ | with_reducible refine Ext.drewN ?_ _ | with_reducible refine Ext.alloc ?_ _ | with_reducible refine Ext.setCell ?_ (by first | omega | (simp; done) | (simp; omega)) _)) hx9))
  replace HS6 := Lib.hid (HS6.out.ext (Ext.trans (by repeat (first | with_reducible exact Ext.refl _ | with_reducible refine Ext.drew ?_ | with_reducible refine Ext.drewN ?_ _ | with_reducible refine Ext.alloc ?_ _ | with_reducible refine Ext.setCell ?_ (by first | omega | (simp; done) | (simp; omega)) _)) hx9))
  replace HS8 := Lib.hid (HS8.out.ext (Ext.trans (by repeat (first | with_reducible exact Ext.refl _ | with_reducible refine Ext.drew ?_ | with_reducible refine Ext.drewN ?_ _ | with_reducible refine Ext.alloc ?_ _ | with_reducible refine Ext.setCell ?_ (by first | omega | (simp; done) | (simp; omega)) _)) hx9))
  have X9 : Hid (Ext w w9) := Lib.hid (Ext.trans (by repeat (first | with_reducible exact X8.out | with_reducible refine Ext.drew ?_ | with_reducible refine Ext.drewN ?_ _ | with_reducible refine Ext.alloc ?_ _ | with_reducible refine Ext.setCell ?_ (by first | omega | (simp; done) | (simp; omega)) _)) hx9)
  clear X8 hx9 z9
  go_wp2_with fail
  go_ret
  exact ⟨rfl, (by repeat (first | with_reducible exact X9.out | with_reducible refine Ext.drew ?_ | with_reducible refine Ext.drewN ?_ _ | with_reducible refine Ext.alloc ?_ _ | with_reducible refine Ext.setCell ?_ (by first | omega | (simp; done) | (simp; omega)) _))⟩
end Go.Proofs.Ytjdpgapmdmpjjaa
