/- law12: StampEnds returns true. Conditions: h is an int. -/
import Derived.Test.YthaknigljjnnaaaStampN
import Derived.Test.YthaknigljjnnaaaOpen
import Derived.OpenShut
import Derived.Test.YthaknigljjnnaaaRec
import Derived.Lib.SmallJoins
set_option linter.unusedVariables false
set_option linter.unusedSimpArgs false
namespace Go.Proofs.Ythaknigljjnnaaa
open Go.RowKit

theorem ends_le (V S P F v h u : Int) (hu : u < 1) : bkdB V S P F v h 0 = bkdB V S P F v h u := by
  unfold bkdB
  rw [if_pos hu, if_pos (show (0 : Int) < 1 by omega)]
theorem ends_gt (V S P F v h u : Int) (hh : h ≤ 9223372036854775807) (hu : ¬ u < 1) : bkdB V S P F v h u = (bkdB V S P F v h 0 && (v == P || decide (h ≤ u))) := by
  unfold bkdB
  by_cases hc : chkS V S P F = 0
  · rw [if_pos hc, if_pos hc, if_neg hu, if_pos (show (0 : Int) < 1 by omega)]
    have hk := chkS_ok hc
    have hv0 := hk.v0
    have hpv := hk.ne
    unfold hasB
    rw [Bool.eq_iff_iff]
    by_cases hP : P < 0
    · rw [if_pos hP]
      simp
      omega
    · rw [if_neg hP]
      simp
      omega
  · rw [if_neg hc, if_neg hc]
    rfl
set_option maxRecDepth 100000 in
set_option maxHeartbeats 4000000 in
theorem StampEnds_w (V S P F v h u : Int) (p q : Bool) (C1 : Hid (∀ w, Calls Try.prog 63 #[.agg #[.int .i64 V, .int .i64 S, .int .i64 P, .int .i64 F], .int .i64 v, .int .i64 h, .int .i64 0] w fun r w' => r = .returned (.bool p) ∧ Ext w w')) (C2 : Hid (∀ w, Calls Try.prog 63 #[.agg #[.int .i64 V, .int .i64 S, .int .i64 P, .int .i64 F], .int .i64 v, .int .i64 h, .int .i64 u] w fun r w' => r = .returned (.bool q) ∧ Ext w w'))
    (h1 : u < 1 → p = q) (h2 : ¬ u < 1 → q = (p && (v == P || decide (h ≤ u)))) (w : World) :
    Calls Try.prog 11 #[.agg #[.int .i64 V, .int .i64 S, .int .i64 P, .int .i64 F], .int .i64 v, .int .i64 h, .int .i64 u] w fun r w' => r = .returned (.bool true) ∧ Ext w w' := by
  obtain ⟨b, hb⟩ : ∃ b, decide (u < 1) = b := ⟨_, rfl⟩
  obtain ⟨c, hc⟩ : ∃ c, (v == P) = c := ⟨_, rfl⟩
  obtain ⟨e, he⟩ : ∃ e, decide (h ≤ u) = e := ⟨_, rfl⟩
  have HL : Hid (if b = true then p = q else q = (p && (c || e))) := Lib.hid (by
    rw [hc, he] at h2
    cases b
    · exact h2 (of_decide_eq_false hb)
    · exact h1 (of_decide_eq_true hb))
  clear h1 h2
  go_enter Try.func11, Try.ntmps11
  go_wp2_with fail
  (with_reducible refine (StampKnown_any _).mono ?_)
  rintro e w1 ⟨rfl, hx1⟩
  have d0 : w1.cell? ⟨w.heap.size, 0, none⟩ = some (.int .i64 V) := hx1.has (by first | (simp [go_sem]; done) | (simp [go_sem, World.cell?_alloc_past]; done))
  have d1 : w1.cell? ⟨w.heap.size, 1, none⟩ = some (.int .i64 S) := hx1.has (by first | (simp [go_sem]; done) | (simp [go_sem, World.cell?_alloc_past]; done))
  have d2 : w1.cell? ⟨w.heap.size, 2, none⟩ = some (.int .i64 P) := hx1.has (by first | (simp [go_sem]; done) | (simp [go_sem, World.cell?_alloc_past]; done))
  have d3 : w1.cell? ⟨w.heap.size, 3, none⟩ = some (.int .i64 F) := hx1.has (by first | (simp [go_sem]; done) | (simp [go_sem, World.cell?_alloc_past]; done))
  have z1 := hx1.size
  try simp at z1
  replace r0 : w.heap.size < w1.heap.size := by omega
  replace r0a : w.heap.size < w1.heap.size + 1 := by omega
  replace r0b : w.heap.size < w1.heap.size + 1 + 1 := by omega
  have X1 : Hid (Ext w w1) := Lib.hid (Ext.trans (by repeat (first | with_reducible exact Ext.refl w | with_reducible refine Ext.drew ?_ | with_reducible refine Ext.drewN ?_ _ | with_reducible refine Ext.alloc ?_ _ | with_reducible refine Ext.setCell ?_ (by first | omega | (simp; done) | (simp; omega)) _)) hx1)
  clear hx1 z1
  go_wp2_with fail
  go_region_held3 (fun w' => w'.cell? ⟨w.heap.size, 0, none⟩ = some (.int .i64 V) ∧ w'.cell? ⟨w.heap.size, 1, none⟩ = some (.int .i64 S) ∧ w'.cell? ⟨w.heap.size, 2, none⟩ = some (.int .i64 P) ∧ w'.cell? ⟨w.heap.size, 3, none⟩ = some (.int .i64 F))
    (first | exact ⟨d0, d1, d2, d3⟩ | (simp [go_sem, World.cell?_alloc_past]; done) | (simp [go_sem, World.cell?_alloc_past, d0, d1, d2, d3, r0, r0a, r0b]; done))
    (first
      | (have hst := X2
         clear hst
         go_at_call 63
         (with_reducible refine (C2.out _).mono ?_)
         rintro e w3 ⟨rfl, hx3⟩
         replace d0 : w3.cell? ⟨w.heap.size, 0, none⟩ = some (.int .i64 V) := hx3.has (by first | exact d0 | (simp [go_sem]; done) | (simp [go_sem, World.cell?_alloc_past, d0, r0, r0a, r0b]; done))
         replace d1 : w3.cell? ⟨w.heap.size, 1, none⟩ = some (.int .i64 S) := hx3.has (by first | exact d1 | (simp [go_sem]; done) | (simp [go_sem, World.cell?_alloc_past, d1, r0, r0a, r0b]; done))
         replace d2 : w3.cell? ⟨w.heap.size, 2, none⟩ = some (.int .i64 P) := hx3.has (by first | exact d2 | (simp [go_sem]; done) | (simp [go_sem, World.cell?_alloc_past, d2, r0, r0a, r0b]; done))
         replace d3 : w3.cell? ⟨w.heap.size, 3, none⟩ = some (.int .i64 F) := hx3.has (by first | exact d3 | (simp [go_sem]; done) | (simp [go_sem, World.cell?_alloc_past, d3, r0, r0a, r0b]; done))
         have z3 := hx3.size
         try simp at z3
         replace r0 : w.heap.size < w3.heap.size := by omega
         replace r0a : w.heap.size < w3.heap.size + 1 := by omega
         replace r0b : w.heap.size < w3.heap.size + 1 + 1 := by omega
         have X3 : Hid (Ext w w3) := Lib.hid (Ext.trans (by repeat (first | with_reducible exact X2.out | with_reducible refine Ext.drew ?_ | with_reducible refine Ext.drewN ?_ _ | with_reducible refine Ext.alloc ?_ _ | with_reducible refine Ext.setCell ?_ (by first | omega | (simp; done) | (simp; omega)) _)) hx3)
         clear hx3 X2 z3)
      | (have hst := X1
         clear hst
         go_at_call 63
         (with_reducible refine (C1.out _).mono ?_)
         rintro e w2 ⟨rfl, hx2⟩
         replace d0 : w2.cell? ⟨w.heap.size, 0, none⟩ = some (.int .i64 V) := hx2.has (by first | exact d0 | (simp [go_sem]; done) | (simp [go_sem, World.cell?_alloc_past, d0, r0, r0a, r0b]; done))
         replace d1 : w2.cell? ⟨w.heap.size, 1, none⟩ = some (.int .i64 S) := hx2.has (by first | exact d1 | (simp [go_sem]; done) | (simp [go_sem, World.cell?_alloc_past, d1, r0, r0a, r0b]; done))
         replace d2 : w2.cell? ⟨w.heap.size, 2, none⟩ = some (.int .i64 P) := hx2.has (by first | exact d2 | (simp [go_sem]; done) | (simp [go_sem, World.cell?_alloc_past, d2, r0, r0a, r0b]; done))
         replace d3 : w2.cell? ⟨w.heap.size, 3, none⟩ = some (.int .i64 F) := hx2.has (by first | exact d3 | (simp [go_sem]; done) | (simp [go_sem, World.cell?_alloc_past, d3, r0, r0a, r0b]; done))
         have z2 := hx2.size
         try simp at z2
         replace r0 : w.heap.size < w2.heap.size := by omega
         replace r0a : w.heap.size < w2.heap.size + 1 := by omega
         replace r0b : w.heap.size < w2.heap.size + 1 + 1 := by omega
         have X2 : Hid (Ext w w2) := Lib.hid (Ext.trans (by repeat (first | with_reducible exact X1.out | with_reducible refine Ext.drew ?_ | with_reducible refine Ext.drewN ?_ _ | with_reducible refine Ext.alloc ?_ _ | with_reducible refine Ext.setCell ?_ (by first | omega | (simp; done) | (simp; omega)) _)) hx2)
         clear hx2 X1 z2))
  have HL := HL.out
  cases b
  · simp at HL
    subst HL
    cases p <;> cases c <;> cases e <;> (go_wp2; go_ret; exact ⟨rfl, X3.out⟩)
  · simp at HL
    subst HL
    cases p <;> (go_wp2; go_ret; exact ⟨rfl, X3.out⟩)
theorem StampEnds_any (V S P F : Int) (_ : Fits .i64 V) (_ : Fits .i64 S) (_ : Fits .i64 P) (_ : Fits .i64 F) (v : Int) (_ : Fits .i64 v) (h : Int) (hh : Fits .i64 h) (u : Int) (_ : Fits .i64 u) (w : World) :
    Calls Try.prog 11 #[.agg #[.int .i64 V, .int .i64 S, .int .i64 P, .int .i64 F], .int .i64 v, .int .i64 h, .int .i64 u] w fun r w' => r = .returned (.bool true) ∧ Ext w w' :=
  StampEnds_w V S P F v h u _ _ (Lib.hid fun w => tBacked_any V S P F v h 0 w) (Lib.hid fun w => tBacked_any V S P F v h u w) (ends_le V S P F v h u) (ends_gt V S P F v h u (hh.i64.2)) w
set_option maxRecDepth 100000 in
theorem open_stamp {H : Type} {enc : TypeId × Value → H} {w : World} {base b0 : Nat} {spare : Nat → Bool} {held : Bool} {r : Reach} {v : Value} {d : DataW H} {p : List MemPlace}
    (hv : Value.okWide Try.prog w r b0 34 v) (h : DataW.Trod enc Try.prog w base spare held 34 v d p) : ∃ a b c e, v = .agg #[.int .i64 a, .int .i64 b, .int .i64 c, .int .i64 e] ∧ Fits .i64 a ∧ Fits .i64 b ∧ Fits .i64 c ∧ Fits .i64 e := by
  obtain ⟨v0, v1, v2, v3, y0, y1, y2, y3, n, rfl, _, _, h0, h1, h2, h3⟩ := Go.Joins.open_agg4 Try.underlying34 (by kernel_rfl) (by kernel_rfl) hv h
  obtain ⟨a, ha, _, wa⟩ := DataW.trod_int Try.underlying3 h0
  obtain ⟨b, hb, _, wb⟩ := DataW.trod_int Try.underlying3 h1
  obtain ⟨c, hc, _, wc⟩ := DataW.trod_int Try.underlying3 h2
  obtain ⟨e, he, _, we⟩ := DataW.trod_int Try.underlying3 h3
  simp at ha hb hc he
  subst ha; subst hb; subst hc; subst he
  exact ⟨a, b, c, e, rfl, wa, wb, wc, we⟩
end Go.Proofs.Ythaknigljjnnaaa
