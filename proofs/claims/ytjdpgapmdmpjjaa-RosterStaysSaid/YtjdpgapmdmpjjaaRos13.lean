/- roster: the chapter's own roster. Conditions stand in each lemma. -/
import Derived.Test.YtjdpgapmdmpjjaaRos12
set_option linter.unusedVariables false
set_option linter.unusedSimpArgs false
namespace Go.Proofs.Ytjdpgapmdmpjjaa
open Go.RowKit Go.ChangeShapes Go.WideShapes Go.Deep Go.Joins

def chap1 : List (Int × Int × Int × Int × Bool × Bool) := [(5, 1, 1, 0, false, false)]
def chapV : List (Int × Int × Int × Int × Bool × Bool) := [(5, 1, 1, 0, false, false), (3, 9, 1, 0, false, false)]
theorem cre_1 : creV [] 5 1 = (chap1, 0, 0) := by rfl
theorem cre_2 : creV chap1 3 9 = (chapV, 1, 0) := by rfl
theorem chap_chk : chkV chapV = (0, 0) := by rfl
theorem cho_1 : choV chapV [true, false] = ([(5, 1, 2, 0, false, false), (3, 9, 1, 0, false, false)], 0) := by rfl
theorem jail_1 : jailV [(5, 1, 2, 0, false, false), (3, 9, 1, 0, false, false)] 0 30 = ([(5, 1, 3, 30, false, false), (3, 9, 1, 0, false, false)], 0) := by rfl
theorem cho_2 : choV [(5, 1, 3, 30, false, false), (3, 9, 1, 0, false, false)] [true, true] = ([], 11) := by rfl
theorem fnd_1 : fndV chapV 3 = (1, true) := by rfl
theorem rosCreate_1 (w : World) : Calls Try.prog 33 #[.slice none 0 0, .int .i64 5, .int .u64 1] w fun e w' => ∃ A c, e = .returned (.tuple #[.slice A 1 c, .int .i64 0, .int .i64 0]) ∧ (A = none → c = 0) ∧ OwnVal w' w.heap.size (.slice A 1 c) 1 chap1 ∧ Ext w w' := by
  have h := rosCreate_any none 0 0 [] 5 1 w (Sl.nil w 6) (by simp) (fun _ => rfl)
  rw [cre_1] at h
  exact h
theorem rosCreate_2 (A : Option Addr) (c : Nat) (w : World) (h : Sl w 6 A 1 c (chap1.flatMap valC)) (hnil : A = none → c = 0) : Calls Try.prog 33 #[.slice A 1 c, .int .i64 3, .int .u64 9] w fun e w' => ∃ A c, e = .returned (.tuple #[.slice A 2 c, .int .i64 1, .int .i64 0]) ∧ (A = none → c = 0) ∧ OwnVal w' w.heap.size (.slice A 2 c) 2 chapV ∧ Ext w w' := by
  have h := rosCreate_any A 1 c chap1 3 9 w h (by simp [chap1]; rfl) hnil
  rw [cre_2] at h
  exact h
set_option maxRecDepth 100000 in
set_option maxHeartbeats 1000000 in
theorem chapter16_any (w : World) : Calls Try.prog 81 #[] w fun e w' => ∃ A c, e = .returned (.slice A 2 c) ∧ (A = none → c = 0) ∧ OwnVal w' w.heap.size (.slice A 2 c) 2 chapV ∧ Ext w w' := by
  go_enter Try.func81, Try.ntmps81
  go_wp2_with fail
  (with_reducible refine (rosCreate_1 _).mono ?_)
  rintro e w1 ⟨A1, c1, rfl, hA1, hO1, hx1⟩
  have z1 := hx1.size
  try simp at z1
  have X1 : Hid (Ext w w1) := Lib.hid (Ext.trans (by repeat (first | with_reducible exact Ext.refl w | with_reducible refine Ext.drew ?_ | with_reducible refine Ext.drewN ?_ _ | with_reducible refine Ext.alloc ?_ _ | with_reducible refine Ext.setCell ?_ (by first | omega | (simp; done) | (simp; omega)) _)) hx1)
  have HO := Lib.hid hO1
  clear hx1 z1 hO1
  go_wp2_with fail
  have hrm1 := Ext.size X1.out
  (with_reducible refine (rosCreate_2 A1 c1 _ (OwnVal.sl (HO.out.ext (by repeat (first | with_reducible exact Ext.refl _ | with_reducible refine Ext.drew ?_ | with_reducible refine Ext.drewN ?_ _ | with_reducible refine Ext.alloc ?_ _ | with_reducible refine Ext.setCell ?_ (by first | omega | (simp; done) | (simp; omega)) _)))) hA1).mono ?_)
  rintro e w2 ⟨A2, c2, rfl, hA2, hO2, hx2⟩
  have z2 := hx2.size
  try simp at z2
  have X2 : Hid (Ext w w2) := Lib.hid (Ext.trans (by repeat (first | with_reducible exact X1.out | with_reducible refine Ext.drew ?_ | with_reducible refine Ext.drewN ?_ _ | with_reducible refine Ext.alloc ?_ _ | with_reducible refine Ext.setCell ?_ (by first | omega | (simp; done) | (simp; omega)) _)) hx2)
  have HO2 := Lib.hid hO2
  clear HO X1 hx2 z2 hO2
  go_wp2_with fail
  go_ret
  exact ⟨A2, c2, rfl, hA2, OwnVal.lower HO2.out hrm1, (by repeat (first | with_reducible exact X2.out | with_reducible refine Ext.drew ?_ | with_reducible refine Ext.drewN ?_ _ | with_reducible refine Ext.alloc ?_ _ | with_reducible refine Ext.setCell ?_ (by first | omega | (simp; done) | (simp; omega)) _))⟩
end Go.Proofs.Ytjdpgapmdmpjjaa
