/- Check, Price, Join, Leave and Cut answer what is reckoned. Conditions stand in each lemma. -/
import Derived.Test.YthaknigljjnnaaaShareH
set_option linter.unusedVariables false
set_option linter.unusedSimpArgs false
namespace Go.Proofs.Ythaknigljjnnaaa
open Go.RowKit

theorem Ext.has {a b : World} (h : Ext a b) {k o : Nat} {v : Value} (hc : a.cell? ⟨k, o, none⟩ = some v) : b.cell? ⟨k, o, none⟩ = some v := (h.cells.1 k o (cell_lt hc)).trans hc
theorem Ext.froz {a b : World} (h : Ext a b) {k o : Nat} {v : Value} (hc : a.cell? ⟨k, o, none⟩ = some v) (hf : a.frozen? ⟨k, o, none⟩ = false) : b.frozen? ⟨k, o, none⟩ = false := (h.cells.2 k o (cell_lt hc)).trans hf
theorem SCheck_any (t s : Int) (ht : Word t) (hs : Word s) (w : World) :
    Calls Try.prog 43 #[.agg #[.int .u64 t, .int .u64 s]] w fun r w' => r = .returned (.int .i64 (chkE t s)) ∧ Ext w w' := by
  have C := Lib.hid (scheck_any t s ht hs)
  clear ht hs
  go_enter Try.func43, Try.ntmps43
  go_wp2_with (first
    | (go_at_call 80; refine (sof_any _ _ _).mono ?_; rintro e w1 ⟨rfl, hx1⟩; (have hs1 := hx1.size); (try simp at hs1))
    | (go_at_call 82; refine (C.out _).mono ?_; rintro e w2 ⟨rfl, hx2⟩; (have hs2 := hx2.size); (try simp at hs2)))
  go_ret
  exact ⟨rfl, (by repeat (first | assumption | exact Ext.refl _ | refine Ext.drew ?_ | refine Ext.drewN ?_ _ | refine Ext.alloc ?_ _ | refine Ext.setCell ?_ (by first | omega | (simp; done) | (simp; omega)) _ | refine Ext.trans ?_ (by assumption)))⟩
set_option maxHeartbeats 1000000 in
theorem SPrice_bad (t s a c : Int) (hc : ¬ c = 0) (w : World)
    (CK : Hid (∀ w, Calls Try.prog 82 #[.agg #[.int .u64 t, .int .u64 s]] w fun r w' => r = .returned (.int .i64 c) ∧ Ext w w')) :
    Calls Try.prog 41 #[.agg #[.int .u64 t, .int .u64 s], .int .u64 a] w fun r w' => r = .returned (.tuple #[.int .u64 0, .int .i64 c]) ∧ Ext w w' := by
  go_enter Try.func41, Try.ntmps41
  go_wp2_with (first
    | (go_at_call 80; refine (sof_any _ _ _).mono ?_; rintro e w1 ⟨rfl, hx1⟩; (have hs1 := hx1.size); (try simp at hs1))
    | (go_at_call 82; refine (CK.out _).mono ?_; rintro e w2 ⟨rfl, hx2⟩; (have hs2 := hx2.size); (try simp at hs2)))
  go_ret2
  exact ⟨rfl, (by repeat (first | assumption | exact Ext.refl _ | refine Ext.drew ?_ | refine Ext.drewN ?_ _ | refine Ext.alloc ?_ _ | refine Ext.setCell ?_ (by first | omega | (simp; done) | (simp; omega)) _ | refine Ext.trans ?_ (by assumption)))⟩
set_option maxHeartbeats 1000000 in
theorem SPrice_err (t s a n e : Int) (he : ¬ e = 0) (w : World)
    (CK : Hid (∀ w, Calls Try.prog 82 #[.agg #[.int .u64 t, .int .u64 s]] w fun r w' => r = .returned (.int .i64 0) ∧ Ext w w'))
    (C1 : Hid (∀ w, Calls Try.prog 86 #[.agg #[.int .u64 t, .int .u64 s], .int .u64 a] w fun r w' => r = .returned (.tuple #[.int .u64 n, .int .i64 e]) ∧ Ext w w')) :
    Calls Try.prog 41 #[.agg #[.int .u64 t, .int .u64 s], .int .u64 a] w fun r w' => r = .returned (.tuple #[.int .u64 0, .int .i64 e]) ∧ Ext w w' := by
  go_enter Try.func41, Try.ntmps41
  go_wp2_with (first
    | (go_at_call 80; refine (sof_any _ _ _).mono ?_; rintro r w1 ⟨rfl, hx1⟩
       have hs1 := hx1.size
       simp at hs1
       have b1 : w1.cell? ⟨w.heap.size, 0, none⟩ = some (.int .u64 t) := hx1.has (by simp [go_sem])
       have b2 : w1.cell? ⟨w.heap.size, 1, none⟩ = some (.int .u64 s) := hx1.has (by simp [go_sem]))
    | (go_at_call 82; refine (CK.out _).mono ?_; rintro r w2 ⟨rfl, hx2⟩
       have hs2 := hx2.size
       simp at hs2
       have c1 : w2.cell? ⟨w1.heap.size, 0, none⟩ = some (.int .u64 t) := hx2.has (by simp [go_sem])
       have c2 : w2.cell? ⟨w1.heap.size, 1, none⟩ = some (.int .u64 s) := hx2.has (by simp [go_sem]))
    | (go_at_call 86; refine (C1.out _).mono ?_; rintro r w3 ⟨rfl, hx3⟩
       have hs3 := hx3.size))
  go_ret2
  exact ⟨rfl, (by repeat (first | assumption | exact Ext.refl _ | refine Ext.drew ?_ | refine Ext.drewN ?_ _ | refine Ext.alloc ?_ _ | refine Ext.setCell ?_ (by first | omega | (simp; done) | (simp; omega)) _ | refine Ext.trans ?_ (by assumption)))⟩
set_option maxHeartbeats 1000000 in
theorem SPrice_ok (t s a n : Int) (w : World)
    (CK : Hid (∀ w, Calls Try.prog 82 #[.agg #[.int .u64 t, .int .u64 s]] w fun r w' => r = .returned (.int .i64 0) ∧ Ext w w'))
    (C1 : Hid (∀ w, Calls Try.prog 86 #[.agg #[.int .u64 t, .int .u64 s], .int .u64 a] w fun r w' => r = .returned (.tuple #[.int .u64 n, .int .i64 0]) ∧ Ext w w')) :
    Calls Try.prog 41 #[.agg #[.int .u64 t, .int .u64 s], .int .u64 a] w fun r w' => r = .returned (.tuple #[.int .u64 n, .int .i64 0]) ∧ Ext w w' := by
  go_enter Try.func41, Try.ntmps41
  go_wp2_with (first
    | (go_at_call 80; refine (sof_any _ _ _).mono ?_; rintro r w1 ⟨rfl, hx1⟩
       have hs1 := hx1.size
       simp at hs1
       have b1 : w1.cell? ⟨w.heap.size, 0, none⟩ = some (.int .u64 t) := hx1.has (by simp [go_sem])
       have b2 : w1.cell? ⟨w.heap.size, 1, none⟩ = some (.int .u64 s) := hx1.has (by simp [go_sem]))
    | (go_at_call 82; refine (CK.out _).mono ?_; rintro r w2 ⟨rfl, hx2⟩
       have hs2 := hx2.size
       simp at hs2
       have c1 : w2.cell? ⟨w1.heap.size, 0, none⟩ = some (.int .u64 t) := hx2.has (by simp [go_sem])
       have c2 : w2.cell? ⟨w1.heap.size, 1, none⟩ = some (.int .u64 s) := hx2.has (by simp [go_sem]))
    | (go_at_call 86; refine (C1.out _).mono ?_; rintro r w3 ⟨rfl, hx3⟩
       have hs3 := hx3.size))
  go_ret2
  exact ⟨rfl, (by repeat (first | assumption | exact Ext.refl _ | refine Ext.drew ?_ | refine Ext.drewN ?_ _ | refine Ext.alloc ?_ _ | refine Ext.setCell ?_ (by first | omega | (simp; done) | (simp; omega)) _ | refine Ext.trans ?_ (by assumption)))⟩
set_option maxHeartbeats 2000000 in
theorem SJoin_bad (t s a c : Int) (hc : ¬ c = 0) (w : World)
    (CK : Hid (∀ w, Calls Try.prog 82 #[.agg #[.int .u64 t, .int .u64 s]] w fun r w' => r = .returned (.int .i64 c) ∧ Ext w w')) :
    Calls Try.prog 88 #[.agg #[.int .u64 t, .int .u64 s], .int .u64 a] w fun r w' => r = .returned (.tuple #[.agg #[.int .u64 0, .int .u64 0], .int .u64 0, .int .i64 c]) ∧ Ext w w' := by
  go_enter Try.func88, Try.ntmps88
  go_wp2_with (first
    | (go_at_call 80; refine (sof_any _ _ _).mono ?_; rintro r w1 ⟨rfl, hx1⟩
       have hs1 := hx1.size
       simp at hs1
       have b1 : w1.cell? ⟨w.heap.size, 0, none⟩ = some (.int .u64 t) := hx1.has (by simp [go_sem])
       have b2 : w1.cell? ⟨w.heap.size, 1, none⟩ = some (.int .u64 s) := hx1.has (by simp [go_sem])
       have d3 : w1.cell? ⟨w.heap.size + 1, 0, none⟩ = some (.int .u64 0) := hx1.has (by simp [go_sem])
       have d4 : w1.cell? ⟨w.heap.size + 1, 1, none⟩ = some (.int .u64 0) := hx1.has (by simp [go_sem])
       have f3 : w1.frozen? ⟨w.heap.size + 1, 0, none⟩ = false := hx1.froz (v := .int .u64 0) (by simp [go_sem]) (by simp [go_sem])
       have f4 : w1.frozen? ⟨w.heap.size + 1, 1, none⟩ = false := hx1.froz (v := .int .u64 0) (by simp [go_sem]) (by simp [go_sem])
       have r1 : w.heap.size + 1 < w1.heap.size := by omega
       have r2 : w.heap.size + 1 < w1.heap.size + 1 := by omega
       have r3 : w.heap.size < w1.heap.size + 1 := by omega
       have r4 : w.heap.size < w1.heap.size := by omega)
    | (go_at_call 82; refine (CK.out _).mono ?_; rintro r w2 ⟨rfl, hx2⟩
       have hs2 := hx2.size
       simp at hs2
       have c1 : w2.cell? ⟨w1.heap.size, 0, none⟩ = some (.int .u64 t) := hx2.has (by simp [go_sem])
       have c2 : w2.cell? ⟨w1.heap.size, 1, none⟩ = some (.int .u64 s) := hx2.has (by simp [go_sem])
       have d3' : w2.cell? ⟨w.heap.size + 1, 0, none⟩ = some (.int .u64 0) := hx2.has (by simp [go_sem, World.cell?_alloc_past, r1, r2, r3, r4, d3, d4, f3, f4])
       have d4' : w2.cell? ⟨w.heap.size + 1, 1, none⟩ = some (.int .u64 0) := hx2.has (by simp [go_sem, World.cell?_alloc_past, r1, r2, r3, r4, d3, d4, f3, f4])
       have f3 : w2.frozen? ⟨w.heap.size + 1, 0, none⟩ = false := hx2.froz (v := .int .u64 0) (by simp [go_sem, World.cell?_alloc_past, r1, r2, r3, r4, d3, d4, f3, f4]) (by simp [go_sem, World.frozen?_alloc_past, r1, r2, r3, r4, d3, d4, f3, f4])
       have f4 : w2.frozen? ⟨w.heap.size + 1, 1, none⟩ = false := hx2.froz (v := .int .u64 0) (by simp [go_sem, World.cell?_alloc_past, r1, r2, r3, r4, d3, d4, f3, f4]) (by simp [go_sem, World.frozen?_alloc_past, r1, r2, r3, r4, d3, d4, f3, f4])
       have d3 := d3'
       have d4 := d4'
       clear d3' d4'
       have r1 : w.heap.size + 1 < w2.heap.size := by omega
       have r2 : w.heap.size + 1 < w2.heap.size + 1 := by omega
       have r3 : w.heap.size < w2.heap.size + 1 := by omega
       have r4 : w.heap.size < w2.heap.size := by omega))
  (try simp only [Exit.inBlock, Exit.then])
  refine bodyPost_ret (by simp [results, Try.results88, go_sem, r1, r2, r3, r4, d3, d4, World.cell?_alloc_past]; try rfl) rfl ?_
  exact ⟨rfl, (by repeat (first | assumption | exact Ext.refl _ | refine Ext.drew ?_ | refine Ext.drewN ?_ _ | refine Ext.alloc ?_ _ | refine Ext.setCell ?_ (by first | omega | (simp; done) | (simp; omega)) _ | refine Ext.trans ?_ (by assumption)))⟩
set_option maxHeartbeats 2000000 in
theorem SJoin_err (t s a t' s' n e : Int) (he : ¬ e = 0) (w : World)
    (CK : Hid (∀ w, Calls Try.prog 82 #[.agg #[.int .u64 t, .int .u64 s]] w fun r w' => r = .returned (.int .i64 0) ∧ Ext w w'))
    (C1 : Hid (∀ w, Calls Try.prog 117 #[.agg #[.int .u64 t, .int .u64 s], .int .u64 a] w fun r w' => r = .returned (.tuple #[.agg #[.int .u64 t', .int .u64 s'], .int .u64 n, .int .i64 e]) ∧ Ext w w')) :
    Calls Try.prog 88 #[.agg #[.int .u64 t, .int .u64 s], .int .u64 a] w fun r w' => r = .returned (.tuple #[.agg #[.int .u64 0, .int .u64 0], .int .u64 0, .int .i64 e]) ∧ Ext w w' := by
  go_enter Try.func88, Try.ntmps88
  go_wp2_with (first
    | (go_at_call 80; refine (sof_any _ _ _).mono ?_; rintro r w1 ⟨rfl, hx1⟩
       have hs1 := hx1.size
       simp at hs1
       have b1 : w1.cell? ⟨w.heap.size, 0, none⟩ = some (.int .u64 t) := hx1.has (by simp [go_sem])
       have b2 : w1.cell? ⟨w.heap.size, 1, none⟩ = some (.int .u64 s) := hx1.has (by simp [go_sem])
       have d3 : w1.cell? ⟨w.heap.size + 1, 0, none⟩ = some (.int .u64 0) := hx1.has (by simp [go_sem])
       have d4 : w1.cell? ⟨w.heap.size + 1, 1, none⟩ = some (.int .u64 0) := hx1.has (by simp [go_sem])
       have f3 : w1.frozen? ⟨w.heap.size + 1, 0, none⟩ = false := hx1.froz (v := .int .u64 0) (by simp [go_sem]) (by simp [go_sem])
       have f4 : w1.frozen? ⟨w.heap.size + 1, 1, none⟩ = false := hx1.froz (v := .int .u64 0) (by simp [go_sem]) (by simp [go_sem])
       have r1 : w.heap.size + 1 < w1.heap.size := by omega
       have r2 : w.heap.size + 1 < w1.heap.size + 1 := by omega
       have r3 : w.heap.size < w1.heap.size + 1 := by omega
       have r4 : w.heap.size < w1.heap.size := by omega)
    | (go_at_call 82; refine (CK.out _).mono ?_; rintro r w2 ⟨rfl, hx2⟩
       have hs2 := hx2.size
       simp at hs2
       have c1 : w2.cell? ⟨w1.heap.size, 0, none⟩ = some (.int .u64 t) := hx2.has (by simp [go_sem])
       have c2 : w2.cell? ⟨w1.heap.size, 1, none⟩ = some (.int .u64 s) := hx2.has (by simp [go_sem])
       have d3' : w2.cell? ⟨w.heap.size + 1, 0, none⟩ = some (.int .u64 0) := hx2.has (by simp [go_sem, World.cell?_alloc_past, r1, r2, r3, r4, d3, d4, f3, f4])
       have d4' : w2.cell? ⟨w.heap.size + 1, 1, none⟩ = some (.int .u64 0) := hx2.has (by simp [go_sem, World.cell?_alloc_past, r1, r2, r3, r4, d3, d4, f3, f4])
       have f3 : w2.frozen? ⟨w.heap.size + 1, 0, none⟩ = false := hx2.froz (v := .int .u64 0) (by simp [go_sem, World.cell?_alloc_past, r1, r2, r3, r4, d3, d4, f3, f4]) (by simp [go_sem, World.frozen?_alloc_past, r1, r2, r3, r4, d3, d4, f3, f4])
       have f4 : w2.frozen? ⟨w.heap.size + 1, 1, none⟩ = false := hx2.froz (v := .int .u64 0) (by simp [go_sem, World.cell?_alloc_past, r1, r2, r3, r4, d3, d4, f3, f4]) (by simp [go_sem, World.frozen?_alloc_past, r1, r2, r3, r4, d3, d4, f3, f4])
       have d3 := d3'
       have d4 := d4'
       clear d3' d4'
       have r1 : w.heap.size + 1 < w2.heap.size := by omega
       have r2 : w.heap.size + 1 < w2.heap.size + 1 := by omega
       have r3 : w.heap.size < w2.heap.size + 1 := by omega
       have r4 : w.heap.size < w2.heap.size := by omega)
    | (go_at_call 117; refine (C1.out _).mono ?_; rintro r w3 ⟨rfl, hx3⟩
       have hs3 := hx3.size
       have d3' : w3.cell? ⟨w.heap.size + 1, 0, none⟩ = some (.int .u64 0) := hx3.has (by simp [go_sem, World.cell?_alloc_past, r1, r2, r3, r4, d3, d4, f3, f4])
       have d4' : w3.cell? ⟨w.heap.size + 1, 1, none⟩ = some (.int .u64 0) := hx3.has (by simp [go_sem, World.cell?_alloc_past, r1, r2, r3, r4, d3, d4, f3, f4])
       have f3 : w3.frozen? ⟨w.heap.size + 1, 0, none⟩ = false := hx3.froz (v := .int .u64 0) (by simp [go_sem, World.cell?_alloc_past, r1, r2, r3, r4, d3, d4, f3, f4]) (by simp [go_sem, World.frozen?_alloc_past, r1, r2, r3, r4, d3, d4, f3, f4])
       have f4 : w3.frozen? ⟨w.heap.size + 1, 1, none⟩ = false := hx3.froz (v := .int .u64 0) (by simp [go_sem, World.cell?_alloc_past, r1, r2, r3, r4, d3, d4, f3, f4]) (by simp [go_sem, World.frozen?_alloc_past, r1, r2, r3, r4, d3, d4, f3, f4])
       have d3 := d3'
       have d4 := d4'
       clear d3' d4'
       have r1 : w.heap.size + 1 < w3.heap.size := by omega
       have r2 : w.heap.size + 1 < w3.heap.size + 1 := by omega
       have r3 : w.heap.size < w3.heap.size + 1 := by omega
       have r4 : w.heap.size < w3.heap.size := by omega)
    | (go_at_call 96; refine (stold_any _ _ _).mono ?_; rintro r w4 ⟨rfl, hx4⟩
       have hs4 := hx4.size
       simp at hs4
       have d3' : w4.cell? ⟨w.heap.size + 1, 0, none⟩ = some (.int .u64 0) := hx4.has (by simp [go_sem, World.cell?_alloc_past, r1, r2, r3, r4, d3, d4, f3, f4])
       have d4' : w4.cell? ⟨w.heap.size + 1, 1, none⟩ = some (.int .u64 0) := hx4.has (by simp [go_sem, World.cell?_alloc_past, r1, r2, r3, r4, d3, d4, f3, f4])
       have f3 : w4.frozen? ⟨w.heap.size + 1, 0, none⟩ = false := hx4.froz (v := .int .u64 0) (by simp [go_sem, World.cell?_alloc_past, r1, r2, r3, r4, d3, d4, f3, f4]) (by simp [go_sem, World.frozen?_alloc_past, r1, r2, r3, r4, d3, d4, f3, f4])
       have f4 : w4.frozen? ⟨w.heap.size + 1, 1, none⟩ = false := hx4.froz (v := .int .u64 0) (by simp [go_sem, World.cell?_alloc_past, r1, r2, r3, r4, d3, d4, f3, f4]) (by simp [go_sem, World.frozen?_alloc_past, r1, r2, r3, r4, d3, d4, f3, f4])
       have d3 := d3'
       have d4 := d4'
       clear d3' d4'
       have r1 : w.heap.size + 1 < w4.heap.size := by omega
       have r2 : w.heap.size + 1 < w4.heap.size + 1 := by omega
       have r3 : w.heap.size < w4.heap.size + 1 := by omega
       have r4 : w.heap.size < w4.heap.size := by omega))
  (try simp only [Exit.inBlock, Exit.then])
  refine bodyPost_ret (by simp [results, Try.results88, go_sem, r1, r2, r3, r4, d3, d4, World.cell?_alloc_past]; try rfl) rfl ?_
  exact ⟨rfl, (by repeat (first | assumption | exact Ext.refl _ | refine Ext.drew ?_ | refine Ext.drewN ?_ _ | refine Ext.alloc ?_ _ | refine Ext.setCell ?_ (by first | omega | (simp; done) | (simp; omega)) _ | refine Ext.trans ?_ (by assumption)))⟩
set_option maxHeartbeats 2000000 in
theorem SJoin_ok (t s a t' s' n : Int) (w : World)
    (CK : Hid (∀ w, Calls Try.prog 82 #[.agg #[.int .u64 t, .int .u64 s]] w fun r w' => r = .returned (.int .i64 0) ∧ Ext w w'))
    (C1 : Hid (∀ w, Calls Try.prog 117 #[.agg #[.int .u64 t, .int .u64 s], .int .u64 a] w fun r w' => r = .returned (.tuple #[.agg #[.int .u64 t', .int .u64 s'], .int .u64 n, .int .i64 0]) ∧ Ext w w')) :
    Calls Try.prog 88 #[.agg #[.int .u64 t, .int .u64 s], .int .u64 a] w fun r w' => r = .returned (.tuple #[.agg #[.int .u64 t', .int .u64 s'], .int .u64 n, .int .i64 0]) ∧ Ext w w' := by
  go_enter Try.func88, Try.ntmps88
  go_wp2_with (first
    | (go_at_call 80; refine (sof_any _ _ _).mono ?_; rintro r w1 ⟨rfl, hx1⟩
       have hs1 := hx1.size
       simp at hs1
       have b1 : w1.cell? ⟨w.heap.size, 0, none⟩ = some (.int .u64 t) := hx1.has (by simp [go_sem])
       have b2 : w1.cell? ⟨w.heap.size, 1, none⟩ = some (.int .u64 s) := hx1.has (by simp [go_sem])
       have d3 : w1.cell? ⟨w.heap.size + 1, 0, none⟩ = some (.int .u64 0) := hx1.has (by simp [go_sem])
       have d4 : w1.cell? ⟨w.heap.size + 1, 1, none⟩ = some (.int .u64 0) := hx1.has (by simp [go_sem])
       have f3 : w1.frozen? ⟨w.heap.size + 1, 0, none⟩ = false := hx1.froz (v := .int .u64 0) (by simp [go_sem]) (by simp [go_sem])
       have f4 : w1.frozen? ⟨w.heap.size + 1, 1, none⟩ = false := hx1.froz (v := .int .u64 0) (by simp [go_sem]) (by simp [go_sem])
       have r1 : w.heap.size + 1 < w1.heap.size := by omega
       have r2 : w.heap.size + 1 < w1.heap.size + 1 := by omega
       have r3 : w.heap.size < w1.heap.size + 1 := by omega
       have r4 : w.heap.size < w1.heap.size := by omega)
    | (go_at_call 82; refine (CK.out _).mono ?_; rintro r w2 ⟨rfl, hx2⟩
       have hs2 := hx2.size
       simp at hs2
       have c1 : w2.cell? ⟨w1.heap.size, 0, none⟩ = some (.int .u64 t) := hx2.has (by simp [go_sem])
       have c2 : w2.cell? ⟨w1.heap.size, 1, none⟩ = some (.int .u64 s) := hx2.has (by simp [go_sem])
       have d3' : w2.cell? ⟨w.heap.size + 1, 0, none⟩ = some (.int .u64 0) := hx2.has (by simp [go_sem, World.cell?_alloc_past, r1, r2, r3, r4, d3, d4, f3, f4])
       have d4' : w2.cell? ⟨w.heap.size + 1, 1, none⟩ = some (.int .u64 0) := hx2.has (by simp [go_sem, World.cell?_alloc_past, r1, r2, r3, r4, d3, d4, f3, f4])
       have f3 : w2.frozen? ⟨w.heap.size + 1, 0, none⟩ = false := hx2.froz (v := .int .u64 0) (by simp [go_sem, World.cell?_alloc_past, r1, r2, r3, r4, d3, d4, f3, f4]) (by simp [go_sem, World.frozen?_alloc_past, r1, r2, r3, r4, d3, d4, f3, f4])
       have f4 : w2.frozen? ⟨w.heap.size + 1, 1, none⟩ = false := hx2.froz (v := .int .u64 0) (by simp [go_sem, World.cell?_alloc_past, r1, r2, r3, r4, d3, d4, f3, f4]) (by simp [go_sem, World.frozen?_alloc_past, r1, r2, r3, r4, d3, d4, f3, f4])
       have d3 := d3'
       have d4 := d4'
       clear d3' d4'
       have r1 : w.heap.size + 1 < w2.heap.size := by omega
       have r2 : w.heap.size + 1 < w2.heap.size + 1 := by omega
       have r3 : w.heap.size < w2.heap.size + 1 := by omega
       have r4 : w.heap.size < w2.heap.size := by omega)
    | (go_at_call 117; refine (C1.out _).mono ?_; rintro r w3 ⟨rfl, hx3⟩
       have hs3 := hx3.size
       have d3' : w3.cell? ⟨w.heap.size + 1, 0, none⟩ = some (.int .u64 0) := hx3.has (by simp [go_sem, World.cell?_alloc_past, r1, r2, r3, r4, d3, d4, f3, f4])
       have d4' : w3.cell? ⟨w.heap.size + 1, 1, none⟩ = some (.int .u64 0) := hx3.has (by simp [go_sem, World.cell?_alloc_past, r1, r2, r3, r4, d3, d4, f3, f4])
       have f3 : w3.frozen? ⟨w.heap.size + 1, 0, none⟩ = false := hx3.froz (v := .int .u64 0) (by simp [go_sem, World.cell?_alloc_past, r1, r2, r3, r4, d3, d4, f3, f4]) (by simp [go_sem, World.frozen?_alloc_past, r1, r2, r3, r4, d3, d4, f3, f4])
       have f4 : w3.frozen? ⟨w.heap.size + 1, 1, none⟩ = false := hx3.froz (v := .int .u64 0) (by simp [go_sem, World.cell?_alloc_past, r1, r2, r3, r4, d3, d4, f3, f4]) (by simp [go_sem, World.frozen?_alloc_past, r1, r2, r3, r4, d3, d4, f3, f4])
       have d3 := d3'
       have d4 := d4'
       clear d3' d4'
       have r1 : w.heap.size + 1 < w3.heap.size := by omega
       have r2 : w.heap.size + 1 < w3.heap.size + 1 := by omega
       have r3 : w.heap.size < w3.heap.size + 1 := by omega
       have r4 : w.heap.size < w3.heap.size := by omega)
    | (go_at_call 96; refine (stold_any _ _ _).mono ?_; rintro r w4 ⟨rfl, hx4⟩
       have hs4 := hx4.size
       simp at hs4
       have d3' : w4.cell? ⟨w.heap.size + 1, 0, none⟩ = some (.int .u64 0) := hx4.has (by simp [go_sem, World.cell?_alloc_past, r1, r2, r3, r4, d3, d4, f3, f4])
       have d4' : w4.cell? ⟨w.heap.size + 1, 1, none⟩ = some (.int .u64 0) := hx4.has (by simp [go_sem, World.cell?_alloc_past, r1, r2, r3, r4, d3, d4, f3, f4])
       have f3 : w4.frozen? ⟨w.heap.size + 1, 0, none⟩ = false := hx4.froz (v := .int .u64 0) (by simp [go_sem, World.cell?_alloc_past, r1, r2, r3, r4, d3, d4, f3, f4]) (by simp [go_sem, World.frozen?_alloc_past, r1, r2, r3, r4, d3, d4, f3, f4])
       have f4 : w4.frozen? ⟨w.heap.size + 1, 1, none⟩ = false := hx4.froz (v := .int .u64 0) (by simp [go_sem, World.cell?_alloc_past, r1, r2, r3, r4, d3, d4, f3, f4]) (by simp [go_sem, World.frozen?_alloc_past, r1, r2, r3, r4, d3, d4, f3, f4])
       have d3 := d3'
       have d4 := d4'
       clear d3' d4'
       have r1 : w.heap.size + 1 < w4.heap.size := by omega
       have r2 : w.heap.size + 1 < w4.heap.size + 1 := by omega
       have r3 : w.heap.size < w4.heap.size + 1 := by omega
       have r4 : w.heap.size < w4.heap.size := by omega))
  (try simp only [Exit.inBlock, Exit.then])
  refine bodyPost_ret (by simp [results, Try.results88, go_sem, r1, r2, r3, r4, d3, d4, World.cell?_alloc_past]; try rfl) rfl ?_
  exact ⟨rfl, (by repeat (first | assumption | exact Ext.refl _ | refine Ext.drew ?_ | refine Ext.drewN ?_ _ | refine Ext.alloc ?_ _ | refine Ext.setCell ?_ (by first | omega | (simp; done) | (simp; omega)) _ | refine Ext.trans ?_ (by assumption)))⟩
set_option maxHeartbeats 2000000 in
theorem SLeave_bad (t s a c : Int) (hc : ¬ c = 0) (w : World)
    (CK : Hid (∀ w, Calls Try.prog 82 #[.agg #[.int .u64 t, .int .u64 s]] w fun r w' => r = .returned (.int .i64 c) ∧ Ext w w')) :
    Calls Try.prog 89 #[.agg #[.int .u64 t, .int .u64 s], .int .u64 a] w fun r w' => r = .returned (.tuple #[.agg #[.int .u64 0, .int .u64 0], .int .u64 0, .int .i64 c]) ∧ Ext w w' := by
  go_enter Try.func89, Try.ntmps89
  go_wp2_with (first
    | (go_at_call 80; refine (sof_any _ _ _).mono ?_; rintro r w1 ⟨rfl, hx1⟩
       have hs1 := hx1.size
       simp at hs1
       have b1 : w1.cell? ⟨w.heap.size, 0, none⟩ = some (.int .u64 t) := hx1.has (by simp [go_sem])
       have b2 : w1.cell? ⟨w.heap.size, 1, none⟩ = some (.int .u64 s) := hx1.has (by simp [go_sem])
       have d3 : w1.cell? ⟨w.heap.size + 1, 0, none⟩ = some (.int .u64 0) := hx1.has (by simp [go_sem])
       have d4 : w1.cell? ⟨w.heap.size + 1, 1, none⟩ = some (.int .u64 0) := hx1.has (by simp [go_sem])
       have f3 : w1.frozen? ⟨w.heap.size + 1, 0, none⟩ = false := hx1.froz (v := .int .u64 0) (by simp [go_sem]) (by simp [go_sem])
       have f4 : w1.frozen? ⟨w.heap.size + 1, 1, none⟩ = false := hx1.froz (v := .int .u64 0) (by simp [go_sem]) (by simp [go_sem])
       have r1 : w.heap.size + 1 < w1.heap.size := by omega
       have r2 : w.heap.size + 1 < w1.heap.size + 1 := by omega
       have r3 : w.heap.size < w1.heap.size + 1 := by omega
       have r4 : w.heap.size < w1.heap.size := by omega)
    | (go_at_call 82; refine (CK.out _).mono ?_; rintro r w2 ⟨rfl, hx2⟩
       have hs2 := hx2.size
       simp at hs2
       have c1 : w2.cell? ⟨w1.heap.size, 0, none⟩ = some (.int .u64 t) := hx2.has (by simp [go_sem])
       have c2 : w2.cell? ⟨w1.heap.size, 1, none⟩ = some (.int .u64 s) := hx2.has (by simp [go_sem])
       have d3' : w2.cell? ⟨w.heap.size + 1, 0, none⟩ = some (.int .u64 0) := hx2.has (by simp [go_sem, World.cell?_alloc_past, r1, r2, r3, r4, d3, d4, f3, f4])
       have d4' : w2.cell? ⟨w.heap.size + 1, 1, none⟩ = some (.int .u64 0) := hx2.has (by simp [go_sem, World.cell?_alloc_past, r1, r2, r3, r4, d3, d4, f3, f4])
       have f3 : w2.frozen? ⟨w.heap.size + 1, 0, none⟩ = false := hx2.froz (v := .int .u64 0) (by simp [go_sem, World.cell?_alloc_past, r1, r2, r3, r4, d3, d4, f3, f4]) (by simp [go_sem, World.frozen?_alloc_past, r1, r2, r3, r4, d3, d4, f3, f4])
       have f4 : w2.frozen? ⟨w.heap.size + 1, 1, none⟩ = false := hx2.froz (v := .int .u64 0) (by simp [go_sem, World.cell?_alloc_past, r1, r2, r3, r4, d3, d4, f3, f4]) (by simp [go_sem, World.frozen?_alloc_past, r1, r2, r3, r4, d3, d4, f3, f4])
       have d3 := d3'
       have d4 := d4'
       clear d3' d4'
       have r1 : w.heap.size + 1 < w2.heap.size := by omega
       have r2 : w.heap.size + 1 < w2.heap.size + 1 := by omega
       have r3 : w.heap.size < w2.heap.size + 1 := by omega
       have r4 : w.heap.size < w2.heap.size := by omega))
  (try simp only [Exit.inBlock, Exit.then])
  refine bodyPost_ret (by simp [results, Try.results89, go_sem, r1, r2, r3, r4, d3, d4, World.cell?_alloc_past]; try rfl) rfl ?_
  exact ⟨rfl, (by repeat (first | assumption | exact Ext.refl _ | refine Ext.drew ?_ | refine Ext.drewN ?_ _ | refine Ext.alloc ?_ _ | refine Ext.setCell ?_ (by first | omega | (simp; done) | (simp; omega)) _ | refine Ext.trans ?_ (by assumption)))⟩
set_option maxHeartbeats 2000000 in
theorem SLeave_err (t s a t' s' n e : Int) (he : ¬ e = 0) (w : World)
    (CK : Hid (∀ w, Calls Try.prog 82 #[.agg #[.int .u64 t, .int .u64 s]] w fun r w' => r = .returned (.int .i64 0) ∧ Ext w w'))
    (C1 : Hid (∀ w, Calls Try.prog 118 #[.agg #[.int .u64 t, .int .u64 s], .int .u64 a] w fun r w' => r = .returned (.tuple #[.agg #[.int .u64 t', .int .u64 s'], .int .u64 n, .int .i64 e]) ∧ Ext w w')) :
    Calls Try.prog 89 #[.agg #[.int .u64 t, .int .u64 s], .int .u64 a] w fun r w' => r = .returned (.tuple #[.agg #[.int .u64 0, .int .u64 0], .int .u64 0, .int .i64 e]) ∧ Ext w w' := by
  go_enter Try.func89, Try.ntmps89
  go_wp2_with (first
    | (go_at_call 80; refine (sof_any _ _ _).mono ?_; rintro r w1 ⟨rfl, hx1⟩
       have hs1 := hx1.size
       simp at hs1
       have b1 : w1.cell? ⟨w.heap.size, 0, none⟩ = some (.int .u64 t) := hx1.has (by simp [go_sem])
       have b2 : w1.cell? ⟨w.heap.size, 1, none⟩ = some (.int .u64 s) := hx1.has (by simp [go_sem])
       have d3 : w1.cell? ⟨w.heap.size + 1, 0, none⟩ = some (.int .u64 0) := hx1.has (by simp [go_sem])
       have d4 : w1.cell? ⟨w.heap.size + 1, 1, none⟩ = some (.int .u64 0) := hx1.has (by simp [go_sem])
       have f3 : w1.frozen? ⟨w.heap.size + 1, 0, none⟩ = false := hx1.froz (v := .int .u64 0) (by simp [go_sem]) (by simp [go_sem])
       have f4 : w1.frozen? ⟨w.heap.size + 1, 1, none⟩ = false := hx1.froz (v := .int .u64 0) (by simp [go_sem]) (by simp [go_sem])
       have r1 : w.heap.size + 1 < w1.heap.size := by omega
       have r2 : w.heap.size + 1 < w1.heap.size + 1 := by omega
       have r3 : w.heap.size < w1.heap.size + 1 := by omega
       have r4 : w.heap.size < w1.heap.size := by omega)
    | (go_at_call 82; refine (CK.out _).mono ?_; rintro r w2 ⟨rfl, hx2⟩
       have hs2 := hx2.size
       simp at hs2
       have c1 : w2.cell? ⟨w1.heap.size, 0, none⟩ = some (.int .u64 t) := hx2.has (by simp [go_sem])
       have c2 : w2.cell? ⟨w1.heap.size, 1, none⟩ = some (.int .u64 s) := hx2.has (by simp [go_sem])
       have d3' : w2.cell? ⟨w.heap.size + 1, 0, none⟩ = some (.int .u64 0) := hx2.has (by simp [go_sem, World.cell?_alloc_past, r1, r2, r3, r4, d3, d4, f3, f4])
       have d4' : w2.cell? ⟨w.heap.size + 1, 1, none⟩ = some (.int .u64 0) := hx2.has (by simp [go_sem, World.cell?_alloc_past, r1, r2, r3, r4, d3, d4, f3, f4])
       have f3 : w2.frozen? ⟨w.heap.size + 1, 0, none⟩ = false := hx2.froz (v := .int .u64 0) (by simp [go_sem, World.cell?_alloc_past, r1, r2, r3, r4, d3, d4, f3, f4]) (by simp [go_sem, World.frozen?_alloc_past, r1, r2, r3, r4, d3, d4, f3, f4])
       have f4 : w2.frozen? ⟨w.heap.size + 1, 1, none⟩ = false := hx2.froz (v := .int .u64 0) (by simp [go_sem, World.cell?_alloc_past, r1, r2, r3, r4, d3, d4, f3, f4]) (by simp [go_sem, World.frozen?_alloc_past, r1, r2, r3, r4, d3, d4, f3, f4])
       have d3 := d3'
       have d4 := d4'
       clear d3' d4'
       have r1 : w.heap.size + 1 < w2.heap.size := by omega
       have r2 : w.heap.size + 1 < w2.heap.size + 1 := by omega
       have r3 : w.heap.size < w2.heap.size + 1 := by omega
       have r4 : w.heap.size < w2.heap.size := by omega)
    | (go_at_call 118; refine (C1.out _).mono ?_; rintro r w3 ⟨rfl, hx3⟩
       have hs3 := hx3.size
       have d3' : w3.cell? ⟨w.heap.size + 1, 0, none⟩ = some (.int .u64 0) := hx3.has (by simp [go_sem, World.cell?_alloc_past, r1, r2, r3, r4, d3, d4, f3, f4])
       have d4' : w3.cell? ⟨w.heap.size + 1, 1, none⟩ = some (.int .u64 0) := hx3.has (by simp [go_sem, World.cell?_alloc_past, r1, r2, r3, r4, d3, d4, f3, f4])
       have f3 : w3.frozen? ⟨w.heap.size + 1, 0, none⟩ = false := hx3.froz (v := .int .u64 0) (by simp [go_sem, World.cell?_alloc_past, r1, r2, r3, r4, d3, d4, f3, f4]) (by simp [go_sem, World.frozen?_alloc_past, r1, r2, r3, r4, d3, d4, f3, f4])
       have f4 : w3.frozen? ⟨w.heap.size + 1, 1, none⟩ = false := hx3.froz (v := .int .u64 0) (by simp [go_sem, World.cell?_alloc_past, r1, r2, r3, r4, d3, d4, f3, f4]) (by simp [go_sem, World.frozen?_alloc_past, r1, r2, r3, r4, d3, d4, f3, f4])
       have d3 := d3'
       have d4 := d4'
       clear d3' d4'
       have r1 : w.heap.size + 1 < w3.heap.size := by omega
       have r2 : w.heap.size + 1 < w3.heap.size + 1 := by omega
       have r3 : w.heap.size < w3.heap.size + 1 := by omega
       have r4 : w.heap.size < w3.heap.size := by omega)
    | (go_at_call 96; refine (stold_any _ _ _).mono ?_; rintro r w4 ⟨rfl, hx4⟩
       have hs4 := hx4.size
       simp at hs4
       have d3' : w4.cell? ⟨w.heap.size + 1, 0, none⟩ = some (.int .u64 0) := hx4.has (by simp [go_sem, World.cell?_alloc_past, r1, r2, r3, r4, d3, d4, f3, f4])
       have d4' : w4.cell? ⟨w.heap.size + 1, 1, none⟩ = some (.int .u64 0) := hx4.has (by simp [go_sem, World.cell?_alloc_past, r1, r2, r3, r4, d3, d4, f3, f4])
       have f3 : w4.frozen? ⟨w.heap.size + 1, 0, none⟩ = false := hx4.froz (v := .int .u64 0) (by simp [go_sem, World.cell?_alloc_past, r1, r2, r3, r4, d3, d4, f3, f4]) (by simp [go_sem, World.frozen?_alloc_past, r1, r2, r3, r4, d3, d4, f3, f4])
       have f4 : w4.frozen? ⟨w.heap.size + 1, 1, none⟩ = false := hx4.froz (v := .int .u64 0) (by simp [go_sem, World.cell?_alloc_past, r1, r2, r3, r4, d3, d4, f3, f4]) (by simp [go_sem, World.frozen?_alloc_past, r1, r2, r3, r4, d3, d4, f3, f4])
       have d3 := d3'
       have d4 := d4'
       clear d3' d4'
       have r1 : w.heap.size + 1 < w4.heap.size := by omega
       have r2 : w.heap.size + 1 < w4.heap.size + 1 := by omega
       have r3 : w.heap.size < w4.heap.size + 1 := by omega
       have r4 : w.heap.size < w4.heap.size := by omega))
  (try simp only [Exit.inBlock, Exit.then])
  refine bodyPost_ret (by simp [results, Try.results89, go_sem, r1, r2, r3, r4, d3, d4, World.cell?_alloc_past]; try rfl) rfl ?_
  exact ⟨rfl, (by repeat (first | assumption | exact Ext.refl _ | refine Ext.drew ?_ | refine Ext.drewN ?_ _ | refine Ext.alloc ?_ _ | refine Ext.setCell ?_ (by first | omega | (simp; done) | (simp; omega)) _ | refine Ext.trans ?_ (by assumption)))⟩
set_option maxHeartbeats 2000000 in
theorem SLeave_ok (t s a t' s' n : Int) (w : World)
    (CK : Hid (∀ w, Calls Try.prog 82 #[.agg #[.int .u64 t, .int .u64 s]] w fun r w' => r = .returned (.int .i64 0) ∧ Ext w w'))
    (C1 : Hid (∀ w, Calls Try.prog 118 #[.agg #[.int .u64 t, .int .u64 s], .int .u64 a] w fun r w' => r = .returned (.tuple #[.agg #[.int .u64 t', .int .u64 s'], .int .u64 n, .int .i64 0]) ∧ Ext w w')) :
    Calls Try.prog 89 #[.agg #[.int .u64 t, .int .u64 s], .int .u64 a] w fun r w' => r = .returned (.tuple #[.agg #[.int .u64 t', .int .u64 s'], .int .u64 n, .int .i64 0]) ∧ Ext w w' := by
  go_enter Try.func89, Try.ntmps89
  go_wp2_with (first
    | (go_at_call 80; refine (sof_any _ _ _).mono ?_; rintro r w1 ⟨rfl, hx1⟩
       have hs1 := hx1.size
       simp at hs1
       have b1 : w1.cell? ⟨w.heap.size, 0, none⟩ = some (.int .u64 t) := hx1.has (by simp [go_sem])
       have b2 : w1.cell? ⟨w.heap.size, 1, none⟩ = some (.int .u64 s) := hx1.has (by simp [go_sem])
       have d3 : w1.cell? ⟨w.heap.size + 1, 0, none⟩ = some (.int .u64 0) := hx1.has (by simp [go_sem])
       have d4 : w1.cell? ⟨w.heap.size + 1, 1, none⟩ = some (.int .u64 0) := hx1.has (by simp [go_sem])
       have f3 : w1.frozen? ⟨w.heap.size + 1, 0, none⟩ = false := hx1.froz (v := .int .u64 0) (by simp [go_sem]) (by simp [go_sem])
       have f4 : w1.frozen? ⟨w.heap.size + 1, 1, none⟩ = false := hx1.froz (v := .int .u64 0) (by simp [go_sem]) (by simp [go_sem])
       have r1 : w.heap.size + 1 < w1.heap.size := by omega
       have r2 : w.heap.size + 1 < w1.heap.size + 1 := by omega
       have r3 : w.heap.size < w1.heap.size + 1 := by omega
       have r4 : w.heap.size < w1.heap.size := by omega)
    | (go_at_call 82; refine (CK.out _).mono ?_; rintro r w2 ⟨rfl, hx2⟩
       have hs2 := hx2.size
       simp at hs2
       have c1 : w2.cell? ⟨w1.heap.size, 0, none⟩ = some (.int .u64 t) := hx2.has (by simp [go_sem])
       have c2 : w2.cell? ⟨w1.heap.size, 1, none⟩ = some (.int .u64 s) := hx2.has (by simp [go_sem])
       have d3' : w2.cell? ⟨w.heap.size + 1, 0, none⟩ = some (.int .u64 0) := hx2.has (by simp [go_sem, World.cell?_alloc_past, r1, r2, r3, r4, d3, d4, f3, f4])
       have d4' : w2.cell? ⟨w.heap.size + 1, 1, none⟩ = some (.int .u64 0) := hx2.has (by simp [go_sem, World.cell?_alloc_past, r1, r2, r3, r4, d3, d4, f3, f4])
       have f3 : w2.frozen? ⟨w.heap.size + 1, 0, none⟩ = false := hx2.froz (v := .int .u64 0) (by simp [go_sem, World.cell?_alloc_past, r1, r2, r3, r4, d3, d4, f3, f4]) (by simp [go_sem, World.frozen?_alloc_past, r1, r2, r3, r4, d3, d4, f3, f4])
       have f4 : w2.frozen? ⟨w.heap.size + 1, 1, none⟩ = false := hx2.froz (v := .int .u64 0) (by simp [go_sem, World.cell?_alloc_past, r1, r2, r3, r4, d3, d4, f3, f4]) (by simp [go_sem, World.frozen?_alloc_past, r1, r2, r3, r4, d3, d4, f3, f4])
       have d3 := d3'
       have d4 := d4'
       clear d3' d4'
       have r1 : w.heap.size + 1 < w2.heap.size := by omega
       have r2 : w.heap.size + 1 < w2.heap.size + 1 := by omega
       have r3 : w.heap.size < w2.heap.size + 1 := by omega
       have r4 : w.heap.size < w2.heap.size := by omega)
    | (go_at_call 118; refine (C1.out _).mono ?_; rintro r w3 ⟨rfl, hx3⟩
       have hs3 := hx3.size
       have d3' : w3.cell? ⟨w.heap.size + 1, 0, none⟩ = some (.int .u64 0) := hx3.has (by simp [go_sem, World.cell?_alloc_past, r1, r2, r3, r4, d3, d4, f3, f4])
       have d4' : w3.cell? ⟨w.heap.size + 1, 1, none⟩ = some (.int .u64 0) := hx3.has (by simp [go_sem, World.cell?_alloc_past, r1, r2, r3, r4, d3, d4, f3, f4])
       have f3 : w3.frozen? ⟨w.heap.size + 1, 0, none⟩ = false := hx3.froz (v := .int .u64 0) (by simp [go_sem, World.cell?_alloc_past, r1, r2, r3, r4, d3, d4, f3, f4]) (by simp [go_sem, World.frozen?_alloc_past, r1, r2, r3, r4, d3, d4, f3, f4])
       have f4 : w3.frozen? ⟨w.heap.size + 1, 1, none⟩ = false := hx3.froz (v := .int .u64 0) (by simp [go_sem, World.cell?_alloc_past, r1, r2, r3, r4, d3, d4, f3, f4]) (by simp [go_sem, World.frozen?_alloc_past, r1, r2, r3, r4, d3, d4, f3, f4])
       have d3 := d3'
       have d4 := d4'
       clear d3' d4'
       have r1 : w.heap.size + 1 < w3.heap.size := by omega
       have r2 : w.heap.size + 1 < w3.heap.size + 1 := by omega
       have r3 : w.heap.size < w3.heap.size + 1 := by omega
       have r4 : w.heap.size < w3.heap.size := by omega)
    | (go_at_call 96; refine (stold_any _ _ _).mono ?_; rintro r w4 ⟨rfl, hx4⟩
       have hs4 := hx4.size
       simp at hs4
       have d3' : w4.cell? ⟨w.heap.size + 1, 0, none⟩ = some (.int .u64 0) := hx4.has (by simp [go_sem, World.cell?_alloc_past, r1, r2, r3, r4, d3, d4, f3, f4])
       have d4' : w4.cell? ⟨w.heap.size + 1, 1, none⟩ = some (.int .u64 0) := hx4.has (by simp [go_sem, World.cell?_alloc_past, r1, r2, r3, r4, d3, d4, f3, f4])
       have f3 : w4.frozen? ⟨w.heap.size + 1, 0, none⟩ = false := hx4.froz (v := .int .u64 0) (by simp [go_sem, World.cell?_alloc_past, r1, r2, r3, r4, d3, d4, f3, f4]) (by simp [go_sem, World.frozen?_alloc_past, r1, r2, r3, r4, d3, d4, f3, f4])
       have f4 : w4.frozen? ⟨w.heap.size + 1, 1, none⟩ = false := hx4.froz (v := .int .u64 0) (by simp [go_sem, World.cell?_alloc_past, r1, r2, r3, r4, d3, d4, f3, f4]) (by simp [go_sem, World.frozen?_alloc_past, r1, r2, r3, r4, d3, d4, f3, f4])
       have d3 := d3'
       have d4 := d4'
       clear d3' d4'
       have r1 : w.heap.size + 1 < w4.heap.size := by omega
       have r2 : w.heap.size + 1 < w4.heap.size + 1 := by omega
       have r3 : w.heap.size < w4.heap.size + 1 := by omega
       have r4 : w.heap.size < w4.heap.size := by omega))
  (try simp only [Exit.inBlock, Exit.then])
  refine bodyPost_ret (by simp [results, Try.results89, go_sem, r1, r2, r3, r4, d3, d4, World.cell?_alloc_past]; try rfl) rfl ?_
  exact ⟨rfl, (by repeat (first | assumption | exact Ext.refl _ | refine Ext.drew ?_ | refine Ext.drewN ?_ _ | refine Ext.alloc ?_ _ | refine Ext.setCell ?_ (by first | omega | (simp; done) | (simp; omega)) _ | refine Ext.trans ?_ (by assumption)))⟩
set_option maxHeartbeats 2000000 in
theorem SCut_bad (t s a c : Int) (hc : ¬ c = 0) (w : World)
    (CK : Hid (∀ w, Calls Try.prog 82 #[.agg #[.int .u64 t, .int .u64 s]] w fun r w' => r = .returned (.int .i64 c) ∧ Ext w w')) :
    Calls Try.prog 55 #[.agg #[.int .u64 t, .int .u64 s], .int .u64 a] w fun r w' => r = .returned (.tuple #[.agg #[.int .u64 0, .int .u64 0], .int .u64 0, .int .i64 c]) ∧ Ext w w' := by
  go_enter Try.func55, Try.ntmps55
  go_wp2_with (first
    | (go_at_call 80; refine (sof_any _ _ _).mono ?_; rintro r w1 ⟨rfl, hx1⟩
       have hs1 := hx1.size
       simp at hs1
       have b1 : w1.cell? ⟨w.heap.size, 0, none⟩ = some (.int .u64 t) := hx1.has (by simp [go_sem])
       have b2 : w1.cell? ⟨w.heap.size, 1, none⟩ = some (.int .u64 s) := hx1.has (by simp [go_sem])
       have d3 : w1.cell? ⟨w.heap.size + 1, 0, none⟩ = some (.int .u64 0) := hx1.has (by simp [go_sem])
       have d4 : w1.cell? ⟨w.heap.size + 1, 1, none⟩ = some (.int .u64 0) := hx1.has (by simp [go_sem])
       have f3 : w1.frozen? ⟨w.heap.size + 1, 0, none⟩ = false := hx1.froz (v := .int .u64 0) (by simp [go_sem]) (by simp [go_sem])
       have f4 : w1.frozen? ⟨w.heap.size + 1, 1, none⟩ = false := hx1.froz (v := .int .u64 0) (by simp [go_sem]) (by simp [go_sem])
       have r1 : w.heap.size + 1 < w1.heap.size := by omega
       have r2 : w.heap.size + 1 < w1.heap.size + 1 := by omega
       have r3 : w.heap.size < w1.heap.size + 1 := by omega
       have r4 : w.heap.size < w1.heap.size := by omega)
    | (go_at_call 82; refine (CK.out _).mono ?_; rintro r w2 ⟨rfl, hx2⟩
       have hs2 := hx2.size
       simp at hs2
       have c1 : w2.cell? ⟨w1.heap.size, 0, none⟩ = some (.int .u64 t) := hx2.has (by simp [go_sem])
       have c2 : w2.cell? ⟨w1.heap.size, 1, none⟩ = some (.int .u64 s) := hx2.has (by simp [go_sem])
       have d3' : w2.cell? ⟨w.heap.size + 1, 0, none⟩ = some (.int .u64 0) := hx2.has (by simp [go_sem, World.cell?_alloc_past, r1, r2, r3, r4, d3, d4, f3, f4])
       have d4' : w2.cell? ⟨w.heap.size + 1, 1, none⟩ = some (.int .u64 0) := hx2.has (by simp [go_sem, World.cell?_alloc_past, r1, r2, r3, r4, d3, d4, f3, f4])
       have f3 : w2.frozen? ⟨w.heap.size + 1, 0, none⟩ = false := hx2.froz (v := .int .u64 0) (by simp [go_sem, World.cell?_alloc_past, r1, r2, r3, r4, d3, d4, f3, f4]) (by simp [go_sem, World.frozen?_alloc_past, r1, r2, r3, r4, d3, d4, f3, f4])
       have f4 : w2.frozen? ⟨w.heap.size + 1, 1, none⟩ = false := hx2.froz (v := .int .u64 0) (by simp [go_sem, World.cell?_alloc_past, r1, r2, r3, r4, d3, d4, f3, f4]) (by simp [go_sem, World.frozen?_alloc_past, r1, r2, r3, r4, d3, d4, f3, f4])
       have d3 := d3'
       have d4 := d4'
       clear d3' d4'
       have r1 : w.heap.size + 1 < w2.heap.size := by omega
       have r2 : w.heap.size + 1 < w2.heap.size + 1 := by omega
       have r3 : w.heap.size < w2.heap.size + 1 := by omega
       have r4 : w.heap.size < w2.heap.size := by omega))
  (try simp only [Exit.inBlock, Exit.then])
  refine bodyPost_ret (by simp [results, Try.results55, go_sem, r1, r2, r3, r4, d3, d4, World.cell?_alloc_past]; try rfl) rfl ?_
  exact ⟨rfl, (by repeat (first | assumption | exact Ext.refl _ | refine Ext.drew ?_ | refine Ext.drewN ?_ _ | refine Ext.alloc ?_ _ | refine Ext.setCell ?_ (by first | omega | (simp; done) | (simp; omega)) _ | refine Ext.trans ?_ (by assumption)))⟩
set_option maxHeartbeats 2000000 in
theorem SCut_err (t s a t' s' n e : Int) (he : ¬ e = 0) (w : World)
    (CK : Hid (∀ w, Calls Try.prog 82 #[.agg #[.int .u64 t, .int .u64 s]] w fun r w' => r = .returned (.int .i64 0) ∧ Ext w w'))
    (C1 : Hid (∀ w, Calls Try.prog 95 #[.agg #[.int .u64 t, .int .u64 s], .int .u64 a] w fun r w' => r = .returned (.tuple #[.agg #[.int .u64 t', .int .u64 s'], .int .u64 n, .int .i64 e]) ∧ Ext w w')) :
    Calls Try.prog 55 #[.agg #[.int .u64 t, .int .u64 s], .int .u64 a] w fun r w' => r = .returned (.tuple #[.agg #[.int .u64 0, .int .u64 0], .int .u64 0, .int .i64 e]) ∧ Ext w w' := by
  go_enter Try.func55, Try.ntmps55
  go_wp2_with (first
    | (go_at_call 80; refine (sof_any _ _ _).mono ?_; rintro r w1 ⟨rfl, hx1⟩
       have hs1 := hx1.size
       simp at hs1
       have b1 : w1.cell? ⟨w.heap.size, 0, none⟩ = some (.int .u64 t) := hx1.has (by simp [go_sem])
       have b2 : w1.cell? ⟨w.heap.size, 1, none⟩ = some (.int .u64 s) := hx1.has (by simp [go_sem])
       have d3 : w1.cell? ⟨w.heap.size + 1, 0, none⟩ = some (.int .u64 0) := hx1.has (by simp [go_sem])
       have d4 : w1.cell? ⟨w.heap.size + 1, 1, none⟩ = some (.int .u64 0) := hx1.has (by simp [go_sem])
       have f3 : w1.frozen? ⟨w.heap.size + 1, 0, none⟩ = false := hx1.froz (v := .int .u64 0) (by simp [go_sem]) (by simp [go_sem])
       have f4 : w1.frozen? ⟨w.heap.size + 1, 1, none⟩ = false := hx1.froz (v := .int .u64 0) (by simp [go_sem]) (by simp [go_sem])
       have r1 : w.heap.size + 1 < w1.heap.size := by omega
       have r2 : w.heap.size + 1 < w1.heap.size + 1 := by omega
       have r3 : w.heap.size < w1.heap.size + 1 := by omega
       have r4 : w.heap.size < w1.heap.size := by omega)
    | (go_at_call 82; refine (CK.out _).mono ?_; rintro r w2 ⟨rfl, hx2⟩
       have hs2 := hx2.size
       simp at hs2
       have c1 : w2.cell? ⟨w1.heap.size, 0, none⟩ = some (.int .u64 t) := hx2.has (by simp [go_sem])
       have c2 : w2.cell? ⟨w1.heap.size, 1, none⟩ = some (.int .u64 s) := hx2.has (by simp [go_sem])
       have d3' : w2.cell? ⟨w.heap.size + 1, 0, none⟩ = some (.int .u64 0) := hx2.has (by simp [go_sem, World.cell?_alloc_past, r1, r2, r3, r4, d3, d4, f3, f4])
       have d4' : w2.cell? ⟨w.heap.size + 1, 1, none⟩ = some (.int .u64 0) := hx2.has (by simp [go_sem, World.cell?_alloc_past, r1, r2, r3, r4, d3, d4, f3, f4])
       have f3 : w2.frozen? ⟨w.heap.size + 1, 0, none⟩ = false := hx2.froz (v := .int .u64 0) (by simp [go_sem, World.cell?_alloc_past, r1, r2, r3, r4, d3, d4, f3, f4]) (by simp [go_sem, World.frozen?_alloc_past, r1, r2, r3, r4, d3, d4, f3, f4])
       have f4 : w2.frozen? ⟨w.heap.size + 1, 1, none⟩ = false := hx2.froz (v := .int .u64 0) (by simp [go_sem, World.cell?_alloc_past, r1, r2, r3, r4, d3, d4, f3, f4]) (by simp [go_sem, World.frozen?_alloc_past, r1, r2, r3, r4, d3, d4, f3, f4])
       have d3 := d3'
       have d4 := d4'
       clear d3' d4'
       have r1 : w.heap.size + 1 < w2.heap.size := by omega
       have r2 : w.heap.size + 1 < w2.heap.size + 1 := by omega
       have r3 : w.heap.size < w2.heap.size + 1 := by omega
       have r4 : w.heap.size < w2.heap.size := by omega)
    | (go_at_call 95; refine (C1.out _).mono ?_; rintro r w3 ⟨rfl, hx3⟩
       have hs3 := hx3.size
       have d3' : w3.cell? ⟨w.heap.size + 1, 0, none⟩ = some (.int .u64 0) := hx3.has (by simp [go_sem, World.cell?_alloc_past, r1, r2, r3, r4, d3, d4, f3, f4])
       have d4' : w3.cell? ⟨w.heap.size + 1, 1, none⟩ = some (.int .u64 0) := hx3.has (by simp [go_sem, World.cell?_alloc_past, r1, r2, r3, r4, d3, d4, f3, f4])
       have f3 : w3.frozen? ⟨w.heap.size + 1, 0, none⟩ = false := hx3.froz (v := .int .u64 0) (by simp [go_sem, World.cell?_alloc_past, r1, r2, r3, r4, d3, d4, f3, f4]) (by simp [go_sem, World.frozen?_alloc_past, r1, r2, r3, r4, d3, d4, f3, f4])
       have f4 : w3.frozen? ⟨w.heap.size + 1, 1, none⟩ = false := hx3.froz (v := .int .u64 0) (by simp [go_sem, World.cell?_alloc_past, r1, r2, r3, r4, d3, d4, f3, f4]) (by simp [go_sem, World.frozen?_alloc_past, r1, r2, r3, r4, d3, d4, f3, f4])
       have d3 := d3'
       have d4 := d4'
       clear d3' d4'
       have r1 : w.heap.size + 1 < w3.heap.size := by omega
       have r2 : w.heap.size + 1 < w3.heap.size + 1 := by omega
       have r3 : w.heap.size < w3.heap.size + 1 := by omega
       have r4 : w.heap.size < w3.heap.size := by omega)
    | (go_at_call 96; refine (stold_any _ _ _).mono ?_; rintro r w4 ⟨rfl, hx4⟩
       have hs4 := hx4.size
       simp at hs4
       have d3' : w4.cell? ⟨w.heap.size + 1, 0, none⟩ = some (.int .u64 0) := hx4.has (by simp [go_sem, World.cell?_alloc_past, r1, r2, r3, r4, d3, d4, f3, f4])
       have d4' : w4.cell? ⟨w.heap.size + 1, 1, none⟩ = some (.int .u64 0) := hx4.has (by simp [go_sem, World.cell?_alloc_past, r1, r2, r3, r4, d3, d4, f3, f4])
       have f3 : w4.frozen? ⟨w.heap.size + 1, 0, none⟩ = false := hx4.froz (v := .int .u64 0) (by simp [go_sem, World.cell?_alloc_past, r1, r2, r3, r4, d3, d4, f3, f4]) (by simp [go_sem, World.frozen?_alloc_past, r1, r2, r3, r4, d3, d4, f3, f4])
       have f4 : w4.frozen? ⟨w.heap.size + 1, 1, none⟩ = false := hx4.froz (v := .int .u64 0) (by simp [go_sem, World.cell?_alloc_past, r1, r2, r3, r4, d3, d4, f3, f4]) (by simp [go_sem, World.frozen?_alloc_past, r1, r2, r3, r4, d3, d4, f3, f4])
       have d3 := d3'
       have d4 := d4'
       clear d3' d4'
       have r1 : w.heap.size + 1 < w4.heap.size := by omega
       have r2 : w.heap.size + 1 < w4.heap.size + 1 := by omega
       have r3 : w.heap.size < w4.heap.size + 1 := by omega
       have r4 : w.heap.size < w4.heap.size := by omega))
  (try simp only [Exit.inBlock, Exit.then])
  refine bodyPost_ret (by simp [results, Try.results55, go_sem, r1, r2, r3, r4, d3, d4, World.cell?_alloc_past]; try rfl) rfl ?_
  exact ⟨rfl, (by repeat (first | assumption | exact Ext.refl _ | refine Ext.drew ?_ | refine Ext.drewN ?_ _ | refine Ext.alloc ?_ _ | refine Ext.setCell ?_ (by first | omega | (simp; done) | (simp; omega)) _ | refine Ext.trans ?_ (by assumption)))⟩
set_option maxHeartbeats 2000000 in
theorem SCut_ok (t s a t' s' n : Int) (w : World)
    (CK : Hid (∀ w, Calls Try.prog 82 #[.agg #[.int .u64 t, .int .u64 s]] w fun r w' => r = .returned (.int .i64 0) ∧ Ext w w'))
    (C1 : Hid (∀ w, Calls Try.prog 95 #[.agg #[.int .u64 t, .int .u64 s], .int .u64 a] w fun r w' => r = .returned (.tuple #[.agg #[.int .u64 t', .int .u64 s'], .int .u64 n, .int .i64 0]) ∧ Ext w w')) :
    Calls Try.prog 55 #[.agg #[.int .u64 t, .int .u64 s], .int .u64 a] w fun r w' => r = .returned (.tuple #[.agg #[.int .u64 t', .int .u64 s'], .int .u64 n, .int .i64 0]) ∧ Ext w w' := by
  go_enter Try.func55, Try.ntmps55
  go_wp2_with (first
    | (go_at_call 80; refine (sof_any _ _ _).mono ?_; rintro r w1 ⟨rfl, hx1⟩
       have hs1 := hx1.size
       simp at hs1
       have b1 : w1.cell? ⟨w.heap.size, 0, none⟩ = some (.int .u64 t) := hx1.has (by simp [go_sem])
       have b2 : w1.cell? ⟨w.heap.size, 1, none⟩ = some (.int .u64 s) := hx1.has (by simp [go_sem])
       have d3 : w1.cell? ⟨w.heap.size + 1, 0, none⟩ = some (.int .u64 0) := hx1.has (by simp [go_sem])
       have d4 : w1.cell? ⟨w.heap.size + 1, 1, none⟩ = some (.int .u64 0) := hx1.has (by simp [go_sem])
       have f3 : w1.frozen? ⟨w.heap.size + 1, 0, none⟩ = false := hx1.froz (v := .int .u64 0) (by simp [go_sem]) (by simp [go_sem])
       have f4 : w1.frozen? ⟨w.heap.size + 1, 1, none⟩ = false := hx1.froz (v := .int .u64 0) (by simp [go_sem]) (by simp [go_sem])
       have r1 : w.heap.size + 1 < w1.heap.size := by omega
       have r2 : w.heap.size + 1 < w1.heap.size + 1 := by omega
       have r3 : w.heap.size < w1.heap.size + 1 := by omega
       have r4 : w.heap.size < w1.heap.size := by omega)
    | (go_at_call 82; refine (CK.out _).mono ?_; rintro r w2 ⟨rfl, hx2⟩
       have hs2 := hx2.size
       simp at hs2
       have c1 : w2.cell? ⟨w1.heap.size, 0, none⟩ = some (.int .u64 t) := hx2.has (by simp [go_sem])
       have c2 : w2.cell? ⟨w1.heap.size, 1, none⟩ = some (.int .u64 s) := hx2.has (by simp [go_sem])
       have d3' : w2.cell? ⟨w.heap.size + 1, 0, none⟩ = some (.int .u64 0) := hx2.has (by simp [go_sem, World.cell?_alloc_past, r1, r2, r3, r4, d3, d4, f3, f4])
       have d4' : w2.cell? ⟨w.heap.size + 1, 1, none⟩ = some (.int .u64 0) := hx2.has (by simp [go_sem, World.cell?_alloc_past, r1, r2, r3, r4, d3, d4, f3, f4])
       have f3 : w2.frozen? ⟨w.heap.size + 1, 0, none⟩ = false := hx2.froz (v := .int .u64 0) (by simp [go_sem, World.cell?_alloc_past, r1, r2, r3, r4, d3, d4, f3, f4]) (by simp [go_sem, World.frozen?_alloc_past, r1, r2, r3, r4, d3, d4, f3, f4])
       have f4 : w2.frozen? ⟨w.heap.size + 1, 1, none⟩ = false := hx2.froz (v := .int .u64 0) (by simp [go_sem, World.cell?_alloc_past, r1, r2, r3, r4, d3, d4, f3, f4]) (by simp [go_sem, World.frozen?_alloc_past, r1, r2, r3, r4, d3, d4, f3, f4])
       have d3 := d3'
       have d4 := d4'
       clear d3' d4'
       have r1 : w.heap.size + 1 < w2.heap.size := by omega
       have r2 : w.heap.size + 1 < w2.heap.size + 1 := by omega
       have r3 : w.heap.size < w2.heap.size + 1 := by omega
       have r4 : w.heap.size < w2.heap.size := by omega)
    | (go_at_call 95; refine (C1.out _).mono ?_; rintro r w3 ⟨rfl, hx3⟩
       have hs3 := hx3.size
       have d3' : w3.cell? ⟨w.heap.size + 1, 0, none⟩ = some (.int .u64 0) := hx3.has (by simp [go_sem, World.cell?_alloc_past, r1, r2, r3, r4, d3, d4, f3, f4])
       have d4' : w3.cell? ⟨w.heap.size + 1, 1, none⟩ = some (.int .u64 0) := hx3.has (by simp [go_sem, World.cell?_alloc_past, r1, r2, r3, r4, d3, d4, f3, f4])
       have f3 : w3.frozen? ⟨w.heap.size + 1, 0, none⟩ = false := hx3.froz (v := .int .u64 0) (by simp [go_sem, World.cell?_alloc_past, r1, r2, r3, r4, d3, d4, f3, f4]) (by simp [go_sem, World.frozen?_alloc_past, r1, r2, r3, r4, d3, d4, f3, f4])
       have f4 : w3.frozen? ⟨w.heap.size + 1, 1, none⟩ = false := hx3.froz (v := .int .u64 0) (by simp [go_sem, World.cell?_alloc_past, r1, r2, r3, r4, d3, d4, f3, f4]) (by simp [go_sem, World.frozen?_alloc_past, r1, r2, r3, r4, d3, d4, f3, f4])
       have d3 := d3'
       have d4 := d4'
       clear d3' d4'
       have r1 : w.heap.size + 1 < w3.heap.size := by omega
       have r2 : w.heap.size + 1 < w3.heap.size + 1 := by omega
       have r3 : w.heap.size < w3.heap.size + 1 := by omega
       have r4 : w.heap.size < w3.heap.size := by omega)
    | (go_at_call 96; refine (stold_any _ _ _).mono ?_; rintro r w4 ⟨rfl, hx4⟩
       have hs4 := hx4.size
       simp at hs4
       have d3' : w4.cell? ⟨w.heap.size + 1, 0, none⟩ = some (.int .u64 0) := hx4.has (by simp [go_sem, World.cell?_alloc_past, r1, r2, r3, r4, d3, d4, f3, f4])
       have d4' : w4.cell? ⟨w.heap.size + 1, 1, none⟩ = some (.int .u64 0) := hx4.has (by simp [go_sem, World.cell?_alloc_past, r1, r2, r3, r4, d3, d4, f3, f4])
       have f3 : w4.frozen? ⟨w.heap.size + 1, 0, none⟩ = false := hx4.froz (v := .int .u64 0) (by simp [go_sem, World.cell?_alloc_past, r1, r2, r3, r4, d3, d4, f3, f4]) (by simp [go_sem, World.frozen?_alloc_past, r1, r2, r3, r4, d3, d4, f3, f4])
       have f4 : w4.frozen? ⟨w.heap.size + 1, 1, none⟩ = false := hx4.froz (v := .int .u64 0) (by simp [go_sem, World.cell?_alloc_past, r1, r2, r3, r4, d3, d4, f3, f4]) (by simp [go_sem, World.frozen?_alloc_past, r1, r2, r3, r4, d3, d4, f3, f4])
       have d3 := d3'
       have d4 := d4'
       clear d3' d4'
       have r1 : w.heap.size + 1 < w4.heap.size := by omega
       have r2 : w.heap.size + 1 < w4.heap.size + 1 := by omega
       have r3 : w.heap.size < w4.heap.size + 1 := by omega
       have r4 : w.heap.size < w4.heap.size := by omega))
  (try simp only [Exit.inBlock, Exit.then])
  refine bodyPost_ret (by simp [results, Try.results55, go_sem, r1, r2, r3, r4, d3, d4, World.cell?_alloc_past]; try rfl) rfl ?_
  exact ⟨rfl, (by repeat (first | assumption | exact Ext.refl _ | refine Ext.drew ?_ | refine Ext.drewN ?_ _ | refine Ext.alloc ?_ _ | refine Ext.setCell ?_ (by first | omega | (simp; done) | (simp; omega)) _ | refine Ext.trans ?_ (by assumption)))⟩
end Go.Proofs.Ythaknigljjnnaaa
