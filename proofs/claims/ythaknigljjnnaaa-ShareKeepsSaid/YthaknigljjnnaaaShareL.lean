/- law11's own small functions: does, should, makes, errs, pool, of, awake. Conditions stand in each lemma. -/
import Derived.Test.YthaknigljjnnaaaShareRef3
set_option linter.unusedVariables false
set_option linter.unusedSimpArgs false
namespace Go.Proofs.Ythaknigljjnnaaa
open Go.RowKit

def doT (k t s n : Int) : Int := if k = 0 then joiT t s n else if k = 1 then leaT t s n else if k = 2 then cutT t s n else t
def doS (k t s n : Int) : Int := if k = 0 then joiS t s n else if k = 1 then leaS t s n else if k = 2 then cutS t s n else s
def doN (k t s n : Int) : Int := if k = 0 then joiN t s n else if k = 1 then leaN t s n else if k = 2 then cutN t s n else 0
def doE (k t s n : Int) : Int := if k = 0 then joiE t s n else if k = 1 then leaE t s n else if k = 2 then cutE t s n else 0
set_option maxHeartbeats 2000000 in
theorem ldoes_0 (t s n a b c e : Int) (w : World)
    (C : Hid (∀ w, Calls Try.prog 88 #[.agg #[.int .u64 t, .int .u64 s], .int .u64 n] w fun r w' => r = .returned (.tuple #[.agg #[.int .u64 a, .int .u64 b], .int .u64 c, .int .i64 e]) ∧ Ext w w')) :
    Calls Try.prog 45 #[.agg #[.int .u64 t, .int .u64 s], .agg #[.int .i64 0, .int .u64 n]] w fun r w' => r = .returned (.tuple #[.agg #[.int .u64 a, .int .u64 b], .int .u64 c, .int .i64 e]) ∧ Ext w w' := by
  go_enter Try.func45, Try.ntmps45
  go_wp2_with (first
    | (go_at_call 88; refine (C.out _).mono ?_; rintro r w1 ⟨rfl, hx1⟩
       have hs1 := hx1.size
       simp at hs1
       have d3 : w1.cell? ⟨w.heap.size + 1 + 1, 0, none⟩ = some (.int .u64 0) := hx1.has (by simp [go_sem])
       have d4 : w1.cell? ⟨w.heap.size + 1 + 1, 1, none⟩ = some (.int .u64 0) := hx1.has (by simp [go_sem])
       have f3 : w1.frozen? ⟨w.heap.size + 1 + 1, 0, none⟩ = false := hx1.froz (v := .int .u64 0) (by simp [go_sem]) (by simp [go_sem])
       have f4 : w1.frozen? ⟨w.heap.size + 1 + 1, 1, none⟩ = false := hx1.froz (v := .int .u64 0) (by simp [go_sem]) (by simp [go_sem])))
  (try simp only [Exit.inBlock, Exit.then])
  refine bodyPost_ret (by simp [results, Try.results45, go_sem, d3, d4, World.cell?_alloc_past]; try rfl) rfl ?_
  exact ⟨rfl, (by repeat (first | assumption | exact Ext.refl _ | refine Ext.drew ?_ | refine Ext.drewN ?_ _ | refine Ext.alloc ?_ _ | refine Ext.setCell ?_ (by first | omega | (simp; done) | (simp; omega)) _ | refine Ext.trans ?_ (by assumption)))⟩
set_option maxHeartbeats 2000000 in
theorem ldoes_1 (t s n a b c e : Int) (w : World)
    (C : Hid (∀ w, Calls Try.prog 89 #[.agg #[.int .u64 t, .int .u64 s], .int .u64 n] w fun r w' => r = .returned (.tuple #[.agg #[.int .u64 a, .int .u64 b], .int .u64 c, .int .i64 e]) ∧ Ext w w')) :
    Calls Try.prog 45 #[.agg #[.int .u64 t, .int .u64 s], .agg #[.int .i64 1, .int .u64 n]] w fun r w' => r = .returned (.tuple #[.agg #[.int .u64 a, .int .u64 b], .int .u64 c, .int .i64 e]) ∧ Ext w w' := by
  go_enter Try.func45, Try.ntmps45
  go_wp2_with (first
    | (go_at_call 89; refine (C.out _).mono ?_; rintro r w1 ⟨rfl, hx1⟩
       have hs1 := hx1.size
       simp at hs1
       have d3 : w1.cell? ⟨w.heap.size + 1 + 1, 0, none⟩ = some (.int .u64 0) := hx1.has (by simp [go_sem])
       have d4 : w1.cell? ⟨w.heap.size + 1 + 1, 1, none⟩ = some (.int .u64 0) := hx1.has (by simp [go_sem])
       have f3 : w1.frozen? ⟨w.heap.size + 1 + 1, 0, none⟩ = false := hx1.froz (v := .int .u64 0) (by simp [go_sem]) (by simp [go_sem])
       have f4 : w1.frozen? ⟨w.heap.size + 1 + 1, 1, none⟩ = false := hx1.froz (v := .int .u64 0) (by simp [go_sem]) (by simp [go_sem])))
  (try simp only [Exit.inBlock, Exit.then])
  refine bodyPost_ret (by simp [results, Try.results45, go_sem, d3, d4, World.cell?_alloc_past]; try rfl) rfl ?_
  exact ⟨rfl, (by repeat (first | assumption | exact Ext.refl _ | refine Ext.drew ?_ | refine Ext.drewN ?_ _ | refine Ext.alloc ?_ _ | refine Ext.setCell ?_ (by first | omega | (simp; done) | (simp; omega)) _ | refine Ext.trans ?_ (by assumption)))⟩
set_option maxHeartbeats 2000000 in
theorem ldoes_2 (t s n a b c e : Int) (w : World)
    (C : Hid (∀ w, Calls Try.prog 55 #[.agg #[.int .u64 t, .int .u64 s], .int .u64 n] w fun r w' => r = .returned (.tuple #[.agg #[.int .u64 a, .int .u64 b], .int .u64 c, .int .i64 e]) ∧ Ext w w')) :
    Calls Try.prog 45 #[.agg #[.int .u64 t, .int .u64 s], .agg #[.int .i64 2, .int .u64 n]] w fun r w' => r = .returned (.tuple #[.agg #[.int .u64 a, .int .u64 b], .int .u64 c, .int .i64 e]) ∧ Ext w w' := by
  go_enter Try.func45, Try.ntmps45
  go_wp2_with (first
    | (go_at_call 55; refine (C.out _).mono ?_; rintro r w1 ⟨rfl, hx1⟩
       have hs1 := hx1.size
       simp at hs1
       have d3 : w1.cell? ⟨w.heap.size + 1 + 1, 0, none⟩ = some (.int .u64 0) := hx1.has (by simp [go_sem])
       have d4 : w1.cell? ⟨w.heap.size + 1 + 1, 1, none⟩ = some (.int .u64 0) := hx1.has (by simp [go_sem])
       have f3 : w1.frozen? ⟨w.heap.size + 1 + 1, 0, none⟩ = false := hx1.froz (v := .int .u64 0) (by simp [go_sem]) (by simp [go_sem])
       have f4 : w1.frozen? ⟨w.heap.size + 1 + 1, 1, none⟩ = false := hx1.froz (v := .int .u64 0) (by simp [go_sem]) (by simp [go_sem])))
  (try simp only [Exit.inBlock, Exit.then])
  refine bodyPost_ret (by simp [results, Try.results45, go_sem, d3, d4, World.cell?_alloc_past]; try rfl) rfl ?_
  exact ⟨rfl, (by repeat (first | assumption | exact Ext.refl _ | refine Ext.drew ?_ | refine Ext.drewN ?_ _ | refine Ext.alloc ?_ _ | refine Ext.setCell ?_ (by first | omega | (simp; done) | (simp; omega)) _ | refine Ext.trans ?_ (by assumption)))⟩
set_option maxHeartbeats 2000000 in
theorem ldoes_else (k t s n : Int) (h0 : (k == 0) = false) (h1 : (k == 1) = false) (h2 : (k == 2) = false) (w : World) :
    Calls Try.prog 45 #[.agg #[.int .u64 t, .int .u64 s], .agg #[.int .i64 k, .int .u64 n]] w fun r w' => r = .returned (.tuple #[.agg #[.int .u64 t, .int .u64 s], .int .u64 0, .int .i64 0]) ∧ Ext w w' := by
  go_enter Try.func45, Try.ntmps45
  go_wp2
  (try simp only [Exit.inBlock, Exit.then])
  refine bodyPost_ret (by simp [results, Try.results45, go_sem, World.cell?_alloc_past]; try rfl) rfl ?_
  exact ⟨rfl, (by repeat (first | assumption | exact Ext.refl _ | refine Ext.drew ?_ | refine Ext.drewN ?_ _ | refine Ext.alloc ?_ _ | refine Ext.setCell ?_ (by first | omega | (simp; done) | (simp; omega)) _ | refine Ext.trans ?_ (by assumption)))⟩
theorem ldoes_any (k t s n : Int) (ht : Word t) (hs : Word s) (hn : Word n) (w : World) :
    Calls Try.prog 45 #[.agg #[.int .u64 t, .int .u64 s], .agg #[.int .i64 k, .int .u64 n]] w fun r w' => r = .returned (.tuple #[.agg #[.int .u64 (doT k t s n), .int .u64 (doS k t s n)], .int .u64 (doN k t s n), .int .i64 (doE k t s n)]) ∧ Ext w w' := by
  unfold doT doS doN doE
  by_cases h0 : k = 0
  · subst h0
    simp only [if_pos]
    exact ldoes_0 t s n _ _ _ _ w (SJoin_any t s n ht hs hn)
  · by_cases h1 : k = 1
    · subst h1
      simp only [if_neg h0, if_pos]
      exact ldoes_1 t s n _ _ _ _ w (SLeave_any t s n ht hs hn)
    · by_cases h2 : k = 2
      · subst h2
        simp only [if_neg h0, if_neg h1, if_pos]
        exact ldoes_2 t s n _ _ _ _ w (SCut_any t s n ht hs hn)
      · simp only [if_neg h0, if_neg h1, if_neg h2]
        exact ldoes_else k t s n (by simpa using h0) (by simpa using h1) (by simpa using h2) w
set_option maxHeartbeats 2000000 in
theorem lshould_0 (t s n a b c e : Int) (w : World)
    (C : Hid (∀ w, Calls Try.prog 90 #[.agg #[.int .u64 t, .int .u64 s], .int .u64 n] w fun r w' => r = .returned (.tuple #[.agg #[.int .u64 a, .int .u64 b], .int .u64 c, .int .i64 e]) ∧ Ext w w')) :
    Calls Try.prog 46 #[.agg #[.int .u64 t, .int .u64 s], .agg #[.int .i64 0, .int .u64 n]] w fun r w' => r = .returned (.tuple #[.agg #[.int .u64 a, .int .u64 b], .int .u64 c, .int .i64 e]) ∧ Ext w w' := by
  go_enter Try.func46, Try.ntmps46
  go_wp2_with (first
    | (go_at_call 90; refine (C.out _).mono ?_; rintro r w1 ⟨rfl, hx1⟩
       have hs1 := hx1.size
       simp at hs1
       have d3 : w1.cell? ⟨w.heap.size + 1 + 1, 0, none⟩ = some (.int .u64 0) := hx1.has (by simp [go_sem])
       have d4 : w1.cell? ⟨w.heap.size + 1 + 1, 1, none⟩ = some (.int .u64 0) := hx1.has (by simp [go_sem])
       have f3 : w1.frozen? ⟨w.heap.size + 1 + 1, 0, none⟩ = false := hx1.froz (v := .int .u64 0) (by simp [go_sem]) (by simp [go_sem])
       have f4 : w1.frozen? ⟨w.heap.size + 1 + 1, 1, none⟩ = false := hx1.froz (v := .int .u64 0) (by simp [go_sem]) (by simp [go_sem])))
  (try simp only [Exit.inBlock, Exit.then])
  refine bodyPost_ret (by simp [results, Try.results46, go_sem, d3, d4, World.cell?_alloc_past]; try rfl) rfl ?_
  exact ⟨rfl, (by repeat (first | assumption | exact Ext.refl _ | refine Ext.drew ?_ | refine Ext.drewN ?_ _ | refine Ext.alloc ?_ _ | refine Ext.setCell ?_ (by first | omega | (simp; done) | (simp; omega)) _ | refine Ext.trans ?_ (by assumption)))⟩
set_option maxHeartbeats 2000000 in
theorem lshould_1 (t s n a b c e : Int) (w : World)
    (C : Hid (∀ w, Calls Try.prog 91 #[.agg #[.int .u64 t, .int .u64 s], .int .u64 n] w fun r w' => r = .returned (.tuple #[.agg #[.int .u64 a, .int .u64 b], .int .u64 c, .int .i64 e]) ∧ Ext w w')) :
    Calls Try.prog 46 #[.agg #[.int .u64 t, .int .u64 s], .agg #[.int .i64 1, .int .u64 n]] w fun r w' => r = .returned (.tuple #[.agg #[.int .u64 a, .int .u64 b], .int .u64 c, .int .i64 e]) ∧ Ext w w' := by
  go_enter Try.func46, Try.ntmps46
  go_wp2_with (first
    | (go_at_call 91; refine (C.out _).mono ?_; rintro r w1 ⟨rfl, hx1⟩
       have hs1 := hx1.size
       simp at hs1
       have d3 : w1.cell? ⟨w.heap.size + 1 + 1, 0, none⟩ = some (.int .u64 0) := hx1.has (by simp [go_sem])
       have d4 : w1.cell? ⟨w.heap.size + 1 + 1, 1, none⟩ = some (.int .u64 0) := hx1.has (by simp [go_sem])
       have f3 : w1.frozen? ⟨w.heap.size + 1 + 1, 0, none⟩ = false := hx1.froz (v := .int .u64 0) (by simp [go_sem]) (by simp [go_sem])
       have f4 : w1.frozen? ⟨w.heap.size + 1 + 1, 1, none⟩ = false := hx1.froz (v := .int .u64 0) (by simp [go_sem]) (by simp [go_sem])))
  (try simp only [Exit.inBlock, Exit.then])
  refine bodyPost_ret (by simp [results, Try.results46, go_sem, d3, d4, World.cell?_alloc_past]; try rfl) rfl ?_
  exact ⟨rfl, (by repeat (first | assumption | exact Ext.refl _ | refine Ext.drew ?_ | refine Ext.drewN ?_ _ | refine Ext.alloc ?_ _ | refine Ext.setCell ?_ (by first | omega | (simp; done) | (simp; omega)) _ | refine Ext.trans ?_ (by assumption)))⟩
set_option maxHeartbeats 2000000 in
theorem lshould_2 (t s n a b c e : Int) (w : World)
    (C : Hid (∀ w, Calls Try.prog 92 #[.agg #[.int .u64 t, .int .u64 s], .int .u64 n] w fun r w' => r = .returned (.tuple #[.agg #[.int .u64 a, .int .u64 b], .int .u64 c, .int .i64 e]) ∧ Ext w w')) :
    Calls Try.prog 46 #[.agg #[.int .u64 t, .int .u64 s], .agg #[.int .i64 2, .int .u64 n]] w fun r w' => r = .returned (.tuple #[.agg #[.int .u64 a, .int .u64 b], .int .u64 c, .int .i64 e]) ∧ Ext w w' := by
  go_enter Try.func46, Try.ntmps46
  go_wp2_with (first
    | (go_at_call 92; refine (C.out _).mono ?_; rintro r w1 ⟨rfl, hx1⟩
       have hs1 := hx1.size
       simp at hs1
       have d3 : w1.cell? ⟨w.heap.size + 1 + 1, 0, none⟩ = some (.int .u64 0) := hx1.has (by simp [go_sem])
       have d4 : w1.cell? ⟨w.heap.size + 1 + 1, 1, none⟩ = some (.int .u64 0) := hx1.has (by simp [go_sem])
       have f3 : w1.frozen? ⟨w.heap.size + 1 + 1, 0, none⟩ = false := hx1.froz (v := .int .u64 0) (by simp [go_sem]) (by simp [go_sem])
       have f4 : w1.frozen? ⟨w.heap.size + 1 + 1, 1, none⟩ = false := hx1.froz (v := .int .u64 0) (by simp [go_sem]) (by simp [go_sem])))
  (try simp only [Exit.inBlock, Exit.then])
  refine bodyPost_ret (by simp [results, Try.results46, go_sem, d3, d4, World.cell?_alloc_past]; try rfl) rfl ?_
  exact ⟨rfl, (by repeat (first | assumption | exact Ext.refl _ | refine Ext.drew ?_ | refine Ext.drewN ?_ _ | refine Ext.alloc ?_ _ | refine Ext.setCell ?_ (by first | omega | (simp; done) | (simp; omega)) _ | refine Ext.trans ?_ (by assumption)))⟩
set_option maxHeartbeats 2000000 in
theorem lshould_else (k t s n : Int) (h0 : (k == 0) = false) (h1 : (k == 1) = false) (h2 : (k == 2) = false) (w : World) :
    Calls Try.prog 46 #[.agg #[.int .u64 t, .int .u64 s], .agg #[.int .i64 k, .int .u64 n]] w fun r w' => r = .returned (.tuple #[.agg #[.int .u64 t, .int .u64 s], .int .u64 0, .int .i64 0]) ∧ Ext w w' := by
  go_enter Try.func46, Try.ntmps46
  go_wp2
  (try simp only [Exit.inBlock, Exit.then])
  refine bodyPost_ret (by simp [results, Try.results46, go_sem, World.cell?_alloc_past]; try rfl) rfl ?_
  exact ⟨rfl, (by repeat (first | assumption | exact Ext.refl _ | refine Ext.drew ?_ | refine Ext.drewN ?_ _ | refine Ext.alloc ?_ _ | refine Ext.setCell ?_ (by first | omega | (simp; done) | (simp; omega)) _ | refine Ext.trans ?_ (by assumption)))⟩
theorem lshould_any (k t s n : Int) (ht : Word t) (hs : Word s) (hn : Word n) (w : World) :
    Calls Try.prog 46 #[.agg #[.int .u64 t, .int .u64 s], .agg #[.int .i64 k, .int .u64 n]] w fun r w' => r = .returned (.tuple #[.agg #[.int .u64 (doT k t s n), .int .u64 (doS k t s n)], .int .u64 (doN k t s n), .int .i64 (doE k t s n)]) ∧ Ext w w' := by
  unfold doT doS doN doE
  by_cases h0 : k = 0
  · subst h0
    simp only [if_pos]
    exact lshould_0 t s n _ _ _ _ w (pJoin_any t s n ht hs hn)
  · by_cases h1 : k = 1
    · subst h1
      simp only [if_neg h0, if_pos]
      exact lshould_1 t s n _ _ _ _ w (pLeave_any t s n ht hs hn)
    · by_cases h2 : k = 2
      · subst h2
        simp only [if_neg h0, if_neg h1, if_pos]
        exact lshould_2 t s n _ _ _ _ w (pCut_any t s n ht hs hn)
      · simp only [if_neg h0, if_neg h1, if_neg h2]
        exact lshould_else k t s n (by simpa using h0) (by simpa using h1) (by simpa using h2) w
theorem lpool_any (t s : Int) (w : World) :
    Calls Try.prog 47 #[.int .u64 t, .int .u64 s] w fun r w' => r = .returned (.agg #[.int .u64 t, .int .u64 s]) ∧ Ext w w' := by
  go_enter Try.func47, Try.ntmps47
  go_wp2
  go_returns
  exact ⟨rfl, (by repeat (first | assumption | exact Ext.refl _ | refine Ext.drew ?_ | refine Ext.drewN ?_ _ | refine Ext.alloc ?_ _ | refine Ext.setCell ?_ (by first | omega | (simp; done) | (simp; omega)) _ | refine Ext.trans ?_ (by assumption)))⟩
set_option maxHeartbeats 2000000 in
theorem lmakes_at (k t s n a b c : Int) (w : World)
    (C : Hid (∀ w, Calls Try.prog 45 #[.agg #[.int .u64 t, .int .u64 s], .agg #[.int .i64 k, .int .u64 n]] w fun r w' => r = .returned (.tuple #[.agg #[.int .u64 a, .int .u64 b], .int .u64 c, .int .i64 0]) ∧ Ext w w')) :
    Calls Try.prog 48 #[.agg #[.int .u64 t, .int .u64 s], .int .i64 k, .int .u64 n, .agg #[.int .u64 a, .int .u64 b], .int .u64 c] w fun r w' => r = .returned (.bool true) ∧ Ext w w' := by
  go_enter Try.func48, Try.ntmps48
  go_wp2_with (first
    | (go_at_call 45; refine (C.out _).mono ?_; rintro r w1 ⟨rfl, hx1⟩
       have hs1 := hx1.size
       simp at hs1
       have d3 : w1.cell? ⟨w.heap.size + 1, 0, none⟩ = some (.int .u64 a) := hx1.has (by simp [go_sem])
       have d4 : w1.cell? ⟨w.heap.size + 1, 1, none⟩ = some (.int .u64 b) := hx1.has (by simp [go_sem])
       have r1 : w.heap.size + 1 < w1.heap.size := by omega
       have r2 : w.heap.size + 1 < w1.heap.size + 1 := by omega
       have r3 : w.heap.size < w1.heap.size := by omega))
  go_ret
  exact ⟨rfl, (by repeat (first | assumption | exact Ext.refl _ | refine Ext.drew ?_ | refine Ext.drewN ?_ _ | refine Ext.alloc ?_ _ | refine Ext.setCell ?_ (by first | omega | (simp; done) | (simp; omega)) _ | refine Ext.trans ?_ (by assumption)))⟩
set_option maxHeartbeats 2000000 in
theorem lerrs_at (k t s n e : Int) (w : World)
    (C : Hid (∀ w, Calls Try.prog 45 #[.agg #[.int .u64 t, .int .u64 s], .agg #[.int .i64 k, .int .u64 n]] w fun r w' => r = .returned (.tuple #[.agg #[.int .u64 0, .int .u64 0], .int .u64 0, .int .i64 e]) ∧ Ext w w')) :
    Calls Try.prog 49 #[.agg #[.int .u64 t, .int .u64 s], .int .i64 k, .int .u64 n, .int .i64 e] w fun r w' => r = .returned (.bool true) ∧ Ext w w' := by
  go_enter Try.func49, Try.ntmps49
  go_wp2_with (first
    | (go_at_call 45; refine (C.out _).mono ?_; rintro e w1 ⟨rfl, hx1⟩; (have hs1 := hx1.size); (try simp at hs1)))
  go_ret
  exact ⟨rfl, (by repeat (first | assumption | exact Ext.refl _ | refine Ext.drew ?_ | refine Ext.drewN ?_ _ | refine Ext.alloc ?_ _ | refine Ext.setCell ?_ (by first | omega | (simp; done) | (simp; omega)) _ | refine Ext.trans ?_ (by assumption)))⟩
theorem lmakes_true (k t s n a b c : Int) (ht : Word t) (hs : Word s) (hn : Word n) (ha : doT k t s n = a) (hb : doS k t s n = b) (hc : doN k t s n = c) (he : doE k t s n = 0) (w : World) :
    Calls Try.prog 48 #[.agg #[.int .u64 t, .int .u64 s], .int .i64 k, .int .u64 n, .agg #[.int .u64 a, .int .u64 b], .int .u64 c] w fun r w' => r = .returned (.bool true) ∧ Ext w w' := by
  have C := ldoes_any k t s n ht hs hn
  rw [ha, hb, hc, he] at C
  exact lmakes_at k t s n a b c w C
theorem lerrs_true (k t s n e : Int) (ht : Word t) (hs : Word s) (hn : Word n) (ha : doT k t s n = 0) (hb : doS k t s n = 0) (hc : doN k t s n = 0) (he : doE k t s n = e) (w : World) :
    Calls Try.prog 49 #[.agg #[.int .u64 t, .int .u64 s], .int .i64 k, .int .u64 n, .int .i64 e] w fun r w' => r = .returned (.bool true) ∧ Ext w w' := by
  have C := ldoes_any k t s n ht hs hn
  rw [ha, hb, hc, he] at C
  exact lerrs_at k t s n e w C
end Go.Proofs.Ythaknigljjnnaaa
