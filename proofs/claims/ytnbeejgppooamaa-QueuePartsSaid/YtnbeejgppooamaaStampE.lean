/- stamp.Backed. Conditions stand in each lemma. -/
import Derived.Test.YtnbeejgppooamaaStampD
import Derived.Test.YtnbeejgppooamaaStampB
set_option linter.unusedVariables false
set_option linter.unusedSimpArgs false
namespace Go.Proofs.Ytnbeejgppooamaa
open Go.RowKit

def bkdB (V S P F v h u : Int) : Bool := if chkS V S P F = 0 then (hasB V S (if u < 1 then 9223372036854775807 else u) v h || (if P < 0 then false else hasB P F S v h)) else false
theorem tBacked_bad (V S P F v h u E : Int) (hE : chkS V S P F = E) (he : ¬ E = 0) (w : World) :
    Calls Try.prog 40 #[.agg #[.int .i64 V, .int .i64 S, .int .i64 P, .int .i64 F], .int .i64 v, .int .i64 h, .int .i64 u] w fun r w' => r = .returned (.bool false) ∧ Ext w w' := by
  have CK := fun w => tCheck_any V S P F w
  rw [hE] at CK
  replace CK := Lib.hid CK
  have hef : (E == 0) = false := beq_false_of_ne he
  clear he hE
  go_enter Try.func40, Try.ntmps40
  go_wp2_with fail
  refine (CK.out _).mono ?_
  rintro r w1 ⟨rfl, hx1⟩
  have X1 := Lib.hid (show Ext w w1 from Ext.trans ((Ext.refl w).alloc _) hx1)
  clear hx1 CK
  go_wp2_with fail
  go_ret
  exact ⟨rfl, X1.out⟩
set_option maxHeartbeats 1000000 in
theorem tBacked_neg (V S P F v h u t : Int) (p : Bool) (hE : chkS V S P F = 0) 
    (CS : Hid (∀ w, Calls Try.prog 72 #[.agg #[.int .i64 V, .int .i64 S, .int .i64 P, .int .i64 F], .int .i64 u] w fun r w' => r = .returned (.tuple #[.agg #[.int .i64 V, .int .i64 S, .int .i64 t], .agg #[.int .i64 0, .int .i64 0, .int .i64 0]]) ∧ Ext w w'))
    (HN : Hid (∀ w, Calls Try.prog 73 #[.agg #[.int .i64 V, .int .i64 S, .int .i64 t], .int .i64 v, .int .i64 h] w fun r w' => r = .returned (.bool p) ∧ Ext w w')) (w : World) :
    Calls Try.prog 40 #[.agg #[.int .i64 V, .int .i64 S, .int .i64 P, .int .i64 F], .int .i64 v, .int .i64 h, .int .i64 u] w fun r w' => r = .returned (.bool p) ∧ Ext w w' := by
  have CK := fun w => tCheck_any V S P F w
  rw [hE] at CK
  replace CK := Lib.hid CK
  clear hE
  cases p
  all_goals
    go_enter Try.func40, Try.ntmps40
    go_wp2_with fail
    refine (CK.out _).mono ?_
    rintro r w1 ⟨rfl, hx1⟩
    have d0 : w1.cell? ⟨w.heap.size, 0, none⟩ = some (.int .i64 V) := hx1.has (by simp [go_sem])
    have d1 : w1.cell? ⟨w.heap.size, 1, none⟩ = some (.int .i64 S) := hx1.has (by simp [go_sem])
    have d2 : w1.cell? ⟨w.heap.size, 2, none⟩ = some (.int .i64 P) := hx1.has (by simp [go_sem])
    have d3 : w1.cell? ⟨w.heap.size, 3, none⟩ = some (.int .i64 F) := hx1.has (by simp [go_sem])
    have X1 := Lib.hid (show Ext w w1 from Ext.trans ((Ext.refl w).alloc _) hx1)
    clear hx1 CK
    go_wp2_with fail
    refine (CS.out _).mono ?_
    rintro r w2 ⟨rfl, hx2⟩
    have X2 := Lib.hid (show Ext w w2 from X1.out.trans hx2)
    clear hx2 CS X1 d0 d1 d2 d3
    go_wp2_with fail
    refine (HN.out _).mono ?_
    rintro r w3 ⟨rfl, hx3⟩
    have e0 : w3.cell? ⟨w2.heap.size + 1, 0, none⟩ = some (.int .i64 0) := hx3.has (by simp [go_sem, World.cell?_alloc_past])
    have e1 : w3.cell? ⟨w2.heap.size + 1, 1, none⟩ = some (.int .i64 0) := hx3.has (by simp [go_sem, World.cell?_alloc_past])
    have e2 : w3.cell? ⟨w2.heap.size + 1, 2, none⟩ = some (.int .i64 0) := hx3.has (by simp [go_sem, World.cell?_alloc_past])
    have X3 := Lib.hid (show Ext w w3 from X2.out.trans (Ext.trans (((Ext.refl w2).alloc _).alloc _) hx3))
    clear hx3 HN X2
    go_wp2_with fail
    first
      | (go_ret; exact ⟨by simp, X3.out⟩)
      | (refine (thas_zero v h _).mono ?_
         rintro r w4 ⟨rfl, hx4⟩
         have X4 := Lib.hid (X3.out.trans hx4)
         clear hx4 X3
         go_wp2_with fail
         go_ret
         exact ⟨by simp, X4.out⟩)
set_option maxHeartbeats 1000000 in
theorem tBacked_pos (V S P F v h u t : Int) (p : Bool) (hE : chkS V S P F = 0) (q : Bool) (HP : Hid (∀ w, Calls Try.prog 73 #[.agg #[.int .i64 P, .int .i64 F, .int .i64 S], .int .i64 v, .int .i64 h] w fun r w' => r = .returned (.bool q) ∧ Ext w w')) 
    (CS : Hid (∀ w, Calls Try.prog 72 #[.agg #[.int .i64 V, .int .i64 S, .int .i64 P, .int .i64 F], .int .i64 u] w fun r w' => r = .returned (.tuple #[.agg #[.int .i64 V, .int .i64 S, .int .i64 t], .agg #[.int .i64 P, .int .i64 F, .int .i64 S]]) ∧ Ext w w'))
    (HN : Hid (∀ w, Calls Try.prog 73 #[.agg #[.int .i64 V, .int .i64 S, .int .i64 t], .int .i64 v, .int .i64 h] w fun r w' => r = .returned (.bool p) ∧ Ext w w')) (w : World) :
    Calls Try.prog 40 #[.agg #[.int .i64 V, .int .i64 S, .int .i64 P, .int .i64 F], .int .i64 v, .int .i64 h, .int .i64 u] w fun r w' => r = .returned (.bool (p || q)) ∧ Ext w w' := by
  have CK := fun w => tCheck_any V S P F w
  rw [hE] at CK
  replace CK := Lib.hid CK
  clear hE
  cases p
  all_goals
    go_enter Try.func40, Try.ntmps40
    go_wp2_with fail
    refine (CK.out _).mono ?_
    rintro r w1 ⟨rfl, hx1⟩
    have d0 : w1.cell? ⟨w.heap.size, 0, none⟩ = some (.int .i64 V) := hx1.has (by simp [go_sem])
    have d1 : w1.cell? ⟨w.heap.size, 1, none⟩ = some (.int .i64 S) := hx1.has (by simp [go_sem])
    have d2 : w1.cell? ⟨w.heap.size, 2, none⟩ = some (.int .i64 P) := hx1.has (by simp [go_sem])
    have d3 : w1.cell? ⟨w.heap.size, 3, none⟩ = some (.int .i64 F) := hx1.has (by simp [go_sem])
    have X1 := Lib.hid (show Ext w w1 from Ext.trans ((Ext.refl w).alloc _) hx1)
    clear hx1 CK
    go_wp2_with fail
    refine (CS.out _).mono ?_
    rintro r w2 ⟨rfl, hx2⟩
    have X2 := Lib.hid (show Ext w w2 from X1.out.trans hx2)
    clear hx2 CS X1 d0 d1 d2 d3
    go_wp2_with fail
    refine (HN.out _).mono ?_
    rintro r w3 ⟨rfl, hx3⟩
    have e0 : w3.cell? ⟨w2.heap.size + 1, 0, none⟩ = some (.int .i64 P) := hx3.has (by simp [go_sem, World.cell?_alloc_past])
    have e1 : w3.cell? ⟨w2.heap.size + 1, 1, none⟩ = some (.int .i64 F) := hx3.has (by simp [go_sem, World.cell?_alloc_past])
    have e2 : w3.cell? ⟨w2.heap.size + 1, 2, none⟩ = some (.int .i64 S) := hx3.has (by simp [go_sem, World.cell?_alloc_past])
    have X3 := Lib.hid (show Ext w w3 from X2.out.trans (Ext.trans (((Ext.refl w2).alloc _).alloc _) hx3))
    clear hx3 HN X2
    go_wp2_with fail
    first
      | (go_ret; exact ⟨by simp, X3.out⟩)
      | (refine (HP.out _).mono ?_
         rintro r w4 ⟨rfl, hx4⟩
         have X4 := Lib.hid (X3.out.trans hx4)
         clear hx4 X3
         go_wp2_with fail
         go_ret
         exact ⟨by simp, X4.out⟩)
theorem tBacked_any (V S P F v h u : Int) (w : World) :
    Calls Try.prog 40 #[.agg #[.int .i64 V, .int .i64 S, .int .i64 P, .int .i64 F], .int .i64 v, .int .i64 h, .int .i64 u] w fun r w' => r = .returned (.bool (bkdB V S P F v h u)) ∧ Ext w w' := by
  unfold bkdB
  by_cases he : chkS V S P F = 0
  · rw [if_pos he]
    have hk := chkS_ok he
    have hs0 := hk.s0
    have hsz : (S == 0) = false := beq_false_of_ne (by omega)
    by_cases hP : P < 0
    · rw [if_pos hP, Bool.or_false]
      exact tBacked_neg V S P F v h u _ _ he (Lib.hid fun w => tspans_neg V S P F u _ hP rfl w) (Lib.hid fun w => thas_nz V S _ v h (.inl hsz) w) w
    · rw [if_neg hP]
      exact tBacked_pos V S P F v h u _ _ he _ (Lib.hid fun w => thas_nz P F S v h (.inr hsz) w) (Lib.hid fun w => tspans_pos V S P F u _ hP rfl w) (Lib.hid fun w => thas_nz V S _ v h (.inl hsz) w) w
  · rw [if_neg he]
    exact tBacked_bad V S P F v h u _ rfl he w
end Go.Proofs.Ytnbeejgppooamaa
