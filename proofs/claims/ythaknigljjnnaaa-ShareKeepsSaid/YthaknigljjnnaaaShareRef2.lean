/- What the document's answers for share are: Join, Leave, Cut. Conditions stand in each lemma. -/
import Derived.Test.YthaknigljjnnaaaShareRef
set_option linter.unusedVariables false
set_option linter.unusedSimpArgs false
namespace Go.Proofs.Ythaknigljjnnaaa
open Go.RowKit

set_option maxHeartbeats 2000000 in
theorem pJoin_bad (t s x c : Int) (hc : ¬ c = 0)
    (CK : Hid (∀ w, Calls Try.prog 44 #[.agg #[.int .u64 t, .int .u64 s]] w fun r w' => r = .returned (.int .i64 c) ∧ Ext w w')) (w : World) :
    Calls Try.prog 90 #[.agg #[.int .u64 t, .int .u64 s], .int .u64 x] w fun r w' => r = .returned (.tuple #[.agg #[.int .u64 0, .int .u64 0], .int .u64 0, .int .i64 c]) ∧ Ext w w' := by
  go_enter Try.func90, Try.ntmps90
  go_wp2_with (first
    | (go_at_call 44; refine (CK.out _).mono ?_; rintro r w1 ⟨rfl, hx1⟩
       have hs1 := hx1.size
       simp at hs1
       have b1 : w1.cell? ⟨w.heap.size, 0, none⟩ = some (.int .u64 t) := hx1.has (by simp [go_sem])
       have b2 : w1.cell? ⟨w.heap.size, 1, none⟩ = some (.int .u64 s) := hx1.has (by simp [go_sem])
       have d3 : w1.cell? ⟨w.heap.size + 1, 0, none⟩ = some (.int .u64 0) := hx1.has (by simp [go_sem])
       have d4 : w1.cell? ⟨w.heap.size + 1, 1, none⟩ = some (.int .u64 0) := hx1.has (by simp [go_sem])
       have f3 : w1.frozen? ⟨w.heap.size + 1, 0, none⟩ = false := hx1.froz (v := .int .u64 0) (by simp [go_sem]) (by simp [go_sem])
       have f4 : w1.frozen? ⟨w.heap.size + 1, 1, none⟩ = false := hx1.froz (v := .int .u64 0) (by simp [go_sem]) (by simp [go_sem])))
  (try simp only [Exit.inBlock, Exit.then])
  refine bodyPost_ret (by simp [results, Try.results90, go_sem, d3, d4]; try rfl) rfl ?_
  exact ⟨rfl, (by repeat (first | assumption | exact Ext.refl _ | refine Ext.drew ?_ | refine Ext.drewN ?_ _ | refine Ext.alloc ?_ _ | refine Ext.setCell ?_ (by first | omega | (simp; done) | (simp; omega)) _ | refine Ext.trans ?_ (by assumption)))⟩
set_option maxHeartbeats 2000000 in
theorem pJoin_dust (t s x : Int) (h : x = 0)
    (CK : Hid (∀ w, Calls Try.prog 44 #[.agg #[.int .u64 t, .int .u64 s]] w fun r w' => r = .returned (.int .i64 0) ∧ Ext w w')) (w : World) :
    Calls Try.prog 90 #[.agg #[.int .u64 t, .int .u64 s], .int .u64 x] w fun r w' => r = .returned (.tuple #[.agg #[.int .u64 0, .int .u64 0], .int .u64 0, .int .i64 14]) ∧ Ext w w' := by
  subst h
  go_enter Try.func90, Try.ntmps90
  go_wp2_with (first
    | (go_at_call 44; refine (CK.out _).mono ?_; rintro r w1 ⟨rfl, hx1⟩
       have hs1 := hx1.size
       simp at hs1
       have b1 : w1.cell? ⟨w.heap.size, 0, none⟩ = some (.int .u64 t) := hx1.has (by simp [go_sem])
       have b2 : w1.cell? ⟨w.heap.size, 1, none⟩ = some (.int .u64 s) := hx1.has (by simp [go_sem])
       have d3 : w1.cell? ⟨w.heap.size + 1, 0, none⟩ = some (.int .u64 0) := hx1.has (by simp [go_sem])
       have d4 : w1.cell? ⟨w.heap.size + 1, 1, none⟩ = some (.int .u64 0) := hx1.has (by simp [go_sem])
       have f3 : w1.frozen? ⟨w.heap.size + 1, 0, none⟩ = false := hx1.froz (v := .int .u64 0) (by simp [go_sem]) (by simp [go_sem])
       have f4 : w1.frozen? ⟨w.heap.size + 1, 1, none⟩ = false := hx1.froz (v := .int .u64 0) (by simp [go_sem]) (by simp [go_sem])))
  (try simp only [Exit.inBlock, Exit.then])
  refine bodyPost_ret (by simp [results, Try.results90, go_sem, d3, d4]; try rfl) rfl ?_
  exact ⟨rfl, (by repeat (first | assumption | exact Ext.refl _ | refine Ext.drew ?_ | refine Ext.drewN ?_ _ | refine Ext.alloc ?_ _ | refine Ext.setCell ?_ (by first | omega | (simp; done) | (simp; omega)) _ | refine Ext.trans ?_ (by assumption)))⟩
set_option maxHeartbeats 2000000 in
theorem pJoin_e (t s x n e s' g : Int) (h : (x == 0) = false) (he : ¬ e = 0)
    (CK : Hid (∀ w, Calls Try.prog 44 #[.agg #[.int .u64 t, .int .u64 s]] w fun r w' => r = .returned (.int .i64 0) ∧ Ext w w'))
    (CP : Hid (∀ w, Calls Try.prog 42 #[.agg #[.int .u64 t, .int .u64 s], .int .u64 x] w fun r w' => r = .returned (.tuple #[.int .u64 n, .int .i64 e]) ∧ Ext w w'))
    (CA : Hid (∀ w, Calls Try.prog 119 #[.int .u64 s, .int .u64 n] w fun r w' => r = .returned (.tuple #[.int .u64 s', .int .i64 g]) ∧ w = w')) (w : World) :
    Calls Try.prog 90 #[.agg #[.int .u64 t, .int .u64 s], .int .u64 x] w fun r w' => r = .returned (.tuple #[.agg #[.int .u64 0, .int .u64 0], .int .u64 0, .int .i64 12]) ∧ Ext w w' := by
  go_enter Try.func90, Try.ntmps90
  go_wp2_with (first
    | (go_at_call 44; refine (CK.out _).mono ?_; rintro r w1 ⟨rfl, hx1⟩
       have hs1 := hx1.size
       simp at hs1
       have b1 : w1.cell? ⟨w.heap.size, 0, none⟩ = some (.int .u64 t) := hx1.has (by simp [go_sem])
       have b2 : w1.cell? ⟨w.heap.size, 1, none⟩ = some (.int .u64 s) := hx1.has (by simp [go_sem])
       have d3 : w1.cell? ⟨w.heap.size + 1, 0, none⟩ = some (.int .u64 0) := hx1.has (by simp [go_sem])
       have d4 : w1.cell? ⟨w.heap.size + 1, 1, none⟩ = some (.int .u64 0) := hx1.has (by simp [go_sem])
       have f3 : w1.frozen? ⟨w.heap.size + 1, 0, none⟩ = false := hx1.froz (v := .int .u64 0) (by simp [go_sem]) (by simp [go_sem])
       have f4 : w1.frozen? ⟨w.heap.size + 1, 1, none⟩ = false := hx1.froz (v := .int .u64 0) (by simp [go_sem]) (by simp [go_sem]))
    | (go_at_call 42; refine (CP.out _).mono ?_; rintro r w2 ⟨rfl, hx2⟩
       have b1 := hx2.has b1
       have b2 := hx2.has b2
       have f3 := hx2.froz d3 f3
       have f4 := hx2.froz d4 f4
       have d3 := hx2.has d3
       have d4 := hx2.has d4)
    | (go_at_call 119; refine (CA.out _).mono ?_; rintro r w3 ⟨rfl, rfl⟩))
  (try simp only [Exit.inBlock, Exit.then])
  refine bodyPost_ret (by simp [results, Try.results90, go_sem, d3, d4]; try rfl) rfl ?_
  exact ⟨rfl, (by repeat (first | assumption | exact Ext.refl _ | refine Ext.drew ?_ | refine Ext.drewN ?_ _ | refine Ext.alloc ?_ _ | refine Ext.setCell ?_ (by first | omega | (simp; done) | (simp; omega)) _ | refine Ext.trans ?_ (by assumption)))⟩
set_option maxHeartbeats 2000000 in
theorem pJoin_g (t s x n s' g : Int) (h : (x == 0) = false) (hg : ¬ g = 0)
    (CK : Hid (∀ w, Calls Try.prog 44 #[.agg #[.int .u64 t, .int .u64 s]] w fun r w' => r = .returned (.int .i64 0) ∧ Ext w w'))
    (CP : Hid (∀ w, Calls Try.prog 42 #[.agg #[.int .u64 t, .int .u64 s], .int .u64 x] w fun r w' => r = .returned (.tuple #[.int .u64 n, .int .i64 0]) ∧ Ext w w'))
    (CA : Hid (∀ w, Calls Try.prog 119 #[.int .u64 s, .int .u64 n] w fun r w' => r = .returned (.tuple #[.int .u64 s', .int .i64 g]) ∧ w = w')) (w : World) :
    Calls Try.prog 90 #[.agg #[.int .u64 t, .int .u64 s], .int .u64 x] w fun r w' => r = .returned (.tuple #[.agg #[.int .u64 0, .int .u64 0], .int .u64 0, .int .i64 12]) ∧ Ext w w' := by
  go_enter Try.func90, Try.ntmps90
  go_wp2_with (first
    | (go_at_call 44; refine (CK.out _).mono ?_; rintro r w1 ⟨rfl, hx1⟩
       have hs1 := hx1.size
       simp at hs1
       have b1 : w1.cell? ⟨w.heap.size, 0, none⟩ = some (.int .u64 t) := hx1.has (by simp [go_sem])
       have b2 : w1.cell? ⟨w.heap.size, 1, none⟩ = some (.int .u64 s) := hx1.has (by simp [go_sem])
       have d3 : w1.cell? ⟨w.heap.size + 1, 0, none⟩ = some (.int .u64 0) := hx1.has (by simp [go_sem])
       have d4 : w1.cell? ⟨w.heap.size + 1, 1, none⟩ = some (.int .u64 0) := hx1.has (by simp [go_sem])
       have f3 : w1.frozen? ⟨w.heap.size + 1, 0, none⟩ = false := hx1.froz (v := .int .u64 0) (by simp [go_sem]) (by simp [go_sem])
       have f4 : w1.frozen? ⟨w.heap.size + 1, 1, none⟩ = false := hx1.froz (v := .int .u64 0) (by simp [go_sem]) (by simp [go_sem]))
    | (go_at_call 42; refine (CP.out _).mono ?_; rintro r w2 ⟨rfl, hx2⟩
       have b1 := hx2.has b1
       have b2 := hx2.has b2
       have f3 := hx2.froz d3 f3
       have f4 := hx2.froz d4 f4
       have d3 := hx2.has d3
       have d4 := hx2.has d4)
    | (go_at_call 119; refine (CA.out _).mono ?_; rintro r w3 ⟨rfl, rfl⟩))
  (try simp only [Exit.inBlock, Exit.then])
  refine bodyPost_ret (by simp [results, Try.results90, go_sem, d3, d4]; try rfl) rfl ?_
  exact ⟨rfl, (by repeat (first | assumption | exact Ext.refl _ | refine Ext.drew ?_ | refine Ext.drewN ?_ _ | refine Ext.alloc ?_ _ | refine Ext.setCell ?_ (by first | omega | (simp; done) | (simp; omega)) _ | refine Ext.trans ?_ (by assumption)))⟩
set_option maxHeartbeats 2000000 in
theorem pJoin_max (t s x n s' : Int) (h : (x == 0) = false) (ht : 0 ≤ t ∧ t ≤ 4611686018427387904) (hm : 4611686018427387904 - t < x)
    (CK : Hid (∀ w, Calls Try.prog 44 #[.agg #[.int .u64 t, .int .u64 s]] w fun r w' => r = .returned (.int .i64 0) ∧ Ext w w'))
    (CP : Hid (∀ w, Calls Try.prog 42 #[.agg #[.int .u64 t, .int .u64 s], .int .u64 x] w fun r w' => r = .returned (.tuple #[.int .u64 n, .int .i64 0]) ∧ Ext w w'))
    (CA : Hid (∀ w, Calls Try.prog 119 #[.int .u64 s, .int .u64 n] w fun r w' => r = .returned (.tuple #[.int .u64 s', .int .i64 0]) ∧ w = w')) (w : World) :
    Calls Try.prog 90 #[.agg #[.int .u64 t, .int .u64 s], .int .u64 x] w fun r w' => r = .returned (.tuple #[.agg #[.int .u64 0, .int .u64 0], .int .u64 0, .int .i64 12]) ∧ Ext w w' := by
  have e1 : IntKind.u64.wrap (4611686018427387904 - t) = 4611686018427387904 - t := by rw [IntKind.wrap_u64]; omega
  go_enter Try.func90, Try.ntmps90
  go_wp2_with (first
    | (go_at_call 44; refine (CK.out _).mono ?_; rintro r w1 ⟨rfl, hx1⟩
       have hs1 := hx1.size
       simp at hs1
       have b1 : w1.cell? ⟨w.heap.size, 0, none⟩ = some (.int .u64 t) := hx1.has (by simp [go_sem])
       have b2 : w1.cell? ⟨w.heap.size, 1, none⟩ = some (.int .u64 s) := hx1.has (by simp [go_sem])
       have d3 : w1.cell? ⟨w.heap.size + 1, 0, none⟩ = some (.int .u64 0) := hx1.has (by simp [go_sem])
       have d4 : w1.cell? ⟨w.heap.size + 1, 1, none⟩ = some (.int .u64 0) := hx1.has (by simp [go_sem])
       have f3 : w1.frozen? ⟨w.heap.size + 1, 0, none⟩ = false := hx1.froz (v := .int .u64 0) (by simp [go_sem]) (by simp [go_sem])
       have f4 : w1.frozen? ⟨w.heap.size + 1, 1, none⟩ = false := hx1.froz (v := .int .u64 0) (by simp [go_sem]) (by simp [go_sem]))
    | (go_at_call 42; refine (CP.out _).mono ?_; rintro r w2 ⟨rfl, hx2⟩
       have b1 := hx2.has b1
       have b2 := hx2.has b2
       have f3 := hx2.froz d3 f3
       have f4 := hx2.froz d4 f4
       have d3 := hx2.has d3
       have d4 := hx2.has d4)
    | (go_at_call 119; refine (CA.out _).mono ?_; rintro r w3 ⟨rfl, rfl⟩))
  (try simp only [Exit.inBlock, Exit.then])
  refine bodyPost_ret (by simp [results, Try.results90, go_sem, d3, d4]; try rfl) rfl ?_
  exact ⟨rfl, (by repeat (first | assumption | exact Ext.refl _ | refine Ext.drew ?_ | refine Ext.drewN ?_ _ | refine Ext.alloc ?_ _ | refine Ext.setCell ?_ (by first | omega | (simp; done) | (simp; omega)) _ | refine Ext.trans ?_ (by assumption)))⟩
set_option maxHeartbeats 2000000 in
theorem pJoin_ok (t s x n s' : Int) (h : (x == 0) = false) (ht : 0 ≤ t ∧ t ≤ 4611686018427387904) (hm : ¬ 4611686018427387904 - t < x) (hx : 0 ≤ x)
    (CK : Hid (∀ w, Calls Try.prog 44 #[.agg #[.int .u64 t, .int .u64 s]] w fun r w' => r = .returned (.int .i64 0) ∧ Ext w w'))
    (CP : Hid (∀ w, Calls Try.prog 42 #[.agg #[.int .u64 t, .int .u64 s], .int .u64 x] w fun r w' => r = .returned (.tuple #[.int .u64 n, .int .i64 0]) ∧ Ext w w'))
    (CA : Hid (∀ w, Calls Try.prog 119 #[.int .u64 s, .int .u64 n] w fun r w' => r = .returned (.tuple #[.int .u64 s', .int .i64 0]) ∧ w = w')) (w : World) :
    Calls Try.prog 90 #[.agg #[.int .u64 t, .int .u64 s], .int .u64 x] w fun r w' => r = .returned (.tuple #[.agg #[.int .u64 (t + x), .int .u64 s'], .int .u64 n, .int .i64 0]) ∧ Ext w w' := by
  have e1 : IntKind.u64.wrap (4611686018427387904 - t) = 4611686018427387904 - t := by rw [IntKind.wrap_u64]; omega
  have e2 : IntKind.u64.wrap (t + x) = t + x := by rw [IntKind.wrap_u64]; omega
  go_enter Try.func90, Try.ntmps90
  go_wp2_with (first
    | (go_at_call 44; refine (CK.out _).mono ?_; rintro r w1 ⟨rfl, hx1⟩
       have hs1 := hx1.size
       simp at hs1
       have b1 : w1.cell? ⟨w.heap.size, 0, none⟩ = some (.int .u64 t) := hx1.has (by simp [go_sem])
       have b2 : w1.cell? ⟨w.heap.size, 1, none⟩ = some (.int .u64 s) := hx1.has (by simp [go_sem])
       have d3 : w1.cell? ⟨w.heap.size + 1, 0, none⟩ = some (.int .u64 0) := hx1.has (by simp [go_sem])
       have d4 : w1.cell? ⟨w.heap.size + 1, 1, none⟩ = some (.int .u64 0) := hx1.has (by simp [go_sem])
       have f3 : w1.frozen? ⟨w.heap.size + 1, 0, none⟩ = false := hx1.froz (v := .int .u64 0) (by simp [go_sem]) (by simp [go_sem])
       have f4 : w1.frozen? ⟨w.heap.size + 1, 1, none⟩ = false := hx1.froz (v := .int .u64 0) (by simp [go_sem]) (by simp [go_sem]))
    | (go_at_call 42; refine (CP.out _).mono ?_; rintro r w2 ⟨rfl, hx2⟩
       have b1 := hx2.has b1
       have b2 := hx2.has b2
       have f3 := hx2.froz d3 f3
       have f4 := hx2.froz d4 f4
       have d3 := hx2.has d3
       have d4 := hx2.has d4)
    | (go_at_call 119; refine (CA.out _).mono ?_; rintro r w3 ⟨rfl, rfl⟩))
  (try simp only [Exit.inBlock, Exit.then])
  refine bodyPost_ret (by simp [results, Try.results90, go_sem, d3, d4]; try rfl) rfl ?_
  exact ⟨rfl, (by repeat (first | assumption | exact Ext.refl _ | refine Ext.drew ?_ | refine Ext.drewN ?_ _ | refine Ext.alloc ?_ _ | refine Ext.setCell ?_ (by first | omega | (simp; done) | (simp; omega)) _ | refine Ext.trans ?_ (by assumption)))⟩
set_option maxHeartbeats 2000000 in
theorem pLeave_bad (t s x n e : Int) (he : ¬ e = 0)
    (CV : Hid (∀ w, Calls Try.prog 40 #[.agg #[.int .u64 t, .int .u64 s], .int .u64 x] w fun r w' => r = .returned (.tuple #[.int .u64 n, .int .i64 e]) ∧ Ext w w')) (w : World) :
    Calls Try.prog 91 #[.agg #[.int .u64 t, .int .u64 s], .int .u64 x] w fun r w' => r = .returned (.tuple #[.agg #[.int .u64 0, .int .u64 0], .int .u64 0, .int .i64 e]) ∧ Ext w w' := by
  go_enter Try.func91, Try.ntmps91
  go_wp2_with (first
    | (go_at_call 40; refine (CV.out _).mono ?_; rintro r w1 ⟨rfl, hx1⟩
       have hs1 := hx1.size
       simp at hs1
       have b1 : w1.cell? ⟨w.heap.size, 0, none⟩ = some (.int .u64 t) := hx1.has (by simp [go_sem])
       have b2 : w1.cell? ⟨w.heap.size, 1, none⟩ = some (.int .u64 s) := hx1.has (by simp [go_sem])
       have d3 : w1.cell? ⟨w.heap.size + 1, 0, none⟩ = some (.int .u64 0) := hx1.has (by simp [go_sem])
       have d4 : w1.cell? ⟨w.heap.size + 1, 1, none⟩ = some (.int .u64 0) := hx1.has (by simp [go_sem])
       have f3 : w1.frozen? ⟨w.heap.size + 1, 0, none⟩ = false := hx1.froz (v := .int .u64 0) (by simp [go_sem]) (by simp [go_sem])
       have f4 : w1.frozen? ⟨w.heap.size + 1, 1, none⟩ = false := hx1.froz (v := .int .u64 0) (by simp [go_sem]) (by simp [go_sem])))
  (try simp only [Exit.inBlock, Exit.then])
  refine bodyPost_ret (by simp [results, Try.results91, go_sem, d3, d4]; try rfl) rfl ?_
  exact ⟨rfl, (by repeat (first | assumption | exact Ext.refl _ | refine Ext.drew ?_ | refine Ext.drewN ?_ _ | refine Ext.alloc ?_ _ | refine Ext.setCell ?_ (by first | omega | (simp; done) | (simp; omega)) _ | refine Ext.trans ?_ (by assumption)))⟩
set_option maxHeartbeats 2000000 in
theorem pLeave_dust (t s x : Int)
    (CV : Hid (∀ w, Calls Try.prog 40 #[.agg #[.int .u64 t, .int .u64 s], .int .u64 x] w fun r w' => r = .returned (.tuple #[.int .u64 0, .int .i64 0]) ∧ Ext w w')) (w : World) :
    Calls Try.prog 91 #[.agg #[.int .u64 t, .int .u64 s], .int .u64 x] w fun r w' => r = .returned (.tuple #[.agg #[.int .u64 0, .int .u64 0], .int .u64 0, .int .i64 14]) ∧ Ext w w' := by
  go_enter Try.func91, Try.ntmps91
  go_wp2_with (first
    | (go_at_call 40; refine (CV.out _).mono ?_; rintro r w1 ⟨rfl, hx1⟩
       have hs1 := hx1.size
       simp at hs1
       have b1 : w1.cell? ⟨w.heap.size, 0, none⟩ = some (.int .u64 t) := hx1.has (by simp [go_sem])
       have b2 : w1.cell? ⟨w.heap.size, 1, none⟩ = some (.int .u64 s) := hx1.has (by simp [go_sem])
       have d3 : w1.cell? ⟨w.heap.size + 1, 0, none⟩ = some (.int .u64 0) := hx1.has (by simp [go_sem])
       have d4 : w1.cell? ⟨w.heap.size + 1, 1, none⟩ = some (.int .u64 0) := hx1.has (by simp [go_sem])
       have f3 : w1.frozen? ⟨w.heap.size + 1, 0, none⟩ = false := hx1.froz (v := .int .u64 0) (by simp [go_sem]) (by simp [go_sem])
       have f4 : w1.frozen? ⟨w.heap.size + 1, 1, none⟩ = false := hx1.froz (v := .int .u64 0) (by simp [go_sem]) (by simp [go_sem])))
  (try simp only [Exit.inBlock, Exit.then])
  refine bodyPost_ret (by simp [results, Try.results91, go_sem, d3, d4]; try rfl) rfl ?_
  exact ⟨rfl, (by repeat (first | assumption | exact Ext.refl _ | refine Ext.drew ?_ | refine Ext.drewN ?_ _ | refine Ext.alloc ?_ _ | refine Ext.setCell ?_ (by first | omega | (simp; done) | (simp; omega)) _ | refine Ext.trans ?_ (by assumption)))⟩
set_option maxHeartbeats 2000000 in
theorem pLeave_ok (t s x n : Int) (h : (n == 0) = false) (n0 : 0 ≤ n) (n1 : n ≤ t) (t1 : t < 18446744073709551616) (x0 : 0 ≤ x) (x1 : x ≤ s) (s1 : s < 18446744073709551616)
    (CV : Hid (∀ w, Calls Try.prog 40 #[.agg #[.int .u64 t, .int .u64 s], .int .u64 x] w fun r w' => r = .returned (.tuple #[.int .u64 n, .int .i64 0]) ∧ Ext w w')) (w : World) :
    Calls Try.prog 91 #[.agg #[.int .u64 t, .int .u64 s], .int .u64 x] w fun r w' => r = .returned (.tuple #[.agg #[.int .u64 (t - n), .int .u64 (s - x)], .int .u64 n, .int .i64 0]) ∧ Ext w w' := by
  have e1 : IntKind.u64.wrap (t - n) = t - n := by rw [IntKind.wrap_u64]; omega
  have e2 : IntKind.u64.wrap (s - x) = s - x := by rw [IntKind.wrap_u64]; omega
  go_enter Try.func91, Try.ntmps91
  go_wp2_with (first
    | (go_at_call 40; refine (CV.out _).mono ?_; rintro r w1 ⟨rfl, hx1⟩
       have hs1 := hx1.size
       simp at hs1
       have b1 : w1.cell? ⟨w.heap.size, 0, none⟩ = some (.int .u64 t) := hx1.has (by simp [go_sem])
       have b2 : w1.cell? ⟨w.heap.size, 1, none⟩ = some (.int .u64 s) := hx1.has (by simp [go_sem])
       have d3 : w1.cell? ⟨w.heap.size + 1, 0, none⟩ = some (.int .u64 0) := hx1.has (by simp [go_sem])
       have d4 : w1.cell? ⟨w.heap.size + 1, 1, none⟩ = some (.int .u64 0) := hx1.has (by simp [go_sem])
       have f3 : w1.frozen? ⟨w.heap.size + 1, 0, none⟩ = false := hx1.froz (v := .int .u64 0) (by simp [go_sem]) (by simp [go_sem])
       have f4 : w1.frozen? ⟨w.heap.size + 1, 1, none⟩ = false := hx1.froz (v := .int .u64 0) (by simp [go_sem]) (by simp [go_sem])))
  (try simp only [Exit.inBlock, Exit.then])
  refine bodyPost_ret (by simp [results, Try.results91, go_sem, d3, d4]; try rfl) rfl ?_
  exact ⟨rfl, (by repeat (first | assumption | exact Ext.refl _ | refine Ext.drew ?_ | refine Ext.drewN ?_ _ | refine Ext.alloc ?_ _ | refine Ext.setCell ?_ (by first | omega | (simp; done) | (simp; omega)) _ | refine Ext.trans ?_ (by assumption)))⟩
set_option maxHeartbeats 2000000 in
theorem pCut_bad (t s x c : Int) (hc : ¬ c = 0)
    (CK : Hid (∀ w, Calls Try.prog 44 #[.agg #[.int .u64 t, .int .u64 s]] w fun r w' => r = .returned (.int .i64 c) ∧ Ext w w')) (w : World) :
    Calls Try.prog 92 #[.agg #[.int .u64 t, .int .u64 s], .int .u64 x] w fun r w' => r = .returned (.tuple #[.agg #[.int .u64 0, .int .u64 0], .int .u64 0, .int .i64 c]) ∧ Ext w w' := by
  go_enter Try.func92, Try.ntmps92
  go_wp2_with (first
    | (go_at_call 44; refine (CK.out _).mono ?_; rintro r w1 ⟨rfl, hx1⟩
       have hs1 := hx1.size
       simp at hs1
       have b1 : w1.cell? ⟨w.heap.size, 0, none⟩ = some (.int .u64 t) := hx1.has (by simp [go_sem])
       have b2 : w1.cell? ⟨w.heap.size, 1, none⟩ = some (.int .u64 s) := hx1.has (by simp [go_sem])
       have d3 : w1.cell? ⟨w.heap.size + 1, 0, none⟩ = some (.int .u64 0) := hx1.has (by simp [go_sem])
       have d4 : w1.cell? ⟨w.heap.size + 1, 1, none⟩ = some (.int .u64 0) := hx1.has (by simp [go_sem])
       have f3 : w1.frozen? ⟨w.heap.size + 1, 0, none⟩ = false := hx1.froz (v := .int .u64 0) (by simp [go_sem]) (by simp [go_sem])
       have f4 : w1.frozen? ⟨w.heap.size + 1, 1, none⟩ = false := hx1.froz (v := .int .u64 0) (by simp [go_sem]) (by simp [go_sem])))
  (try simp only [Exit.inBlock, Exit.then])
  refine bodyPost_ret (by simp [results, Try.results92, go_sem, d3, d4]; try rfl) rfl ?_
  exact ⟨rfl, (by repeat (first | assumption | exact Ext.refl _ | refine Ext.drew ?_ | refine Ext.drewN ?_ _ | refine Ext.alloc ?_ _ | refine Ext.setCell ?_ (by first | omega | (simp; done) | (simp; omega)) _ | refine Ext.trans ?_ (by assumption)))⟩
set_option maxHeartbeats 2000000 in
theorem pCut_e (t s x n e : Int) (he : ¬ e = 0)
    (CK : Hid (∀ w, Calls Try.prog 44 #[.agg #[.int .u64 t, .int .u64 s]] w fun r w' => r = .returned (.int .i64 0) ∧ Ext w w'))
    (CR : Hid (∀ w, Calls Try.prog 120 #[.int .u64 t, .int .u64 x] w fun r w' => r = .returned (.tuple #[.int .u64 n, .int .i64 e]) ∧ w = w')) (w : World) :
    Calls Try.prog 92 #[.agg #[.int .u64 t, .int .u64 s], .int .u64 x] w fun r w' => r = .returned (.tuple #[.agg #[.int .u64 0, .int .u64 0], .int .u64 0, .int .i64 e]) ∧ Ext w w' := by
  go_enter Try.func92, Try.ntmps92
  go_wp2_with (first
    | (go_at_call 44; refine (CK.out _).mono ?_; rintro r w1 ⟨rfl, hx1⟩
       have hs1 := hx1.size
       simp at hs1
       have b1 : w1.cell? ⟨w.heap.size, 0, none⟩ = some (.int .u64 t) := hx1.has (by simp [go_sem])
       have b2 : w1.cell? ⟨w.heap.size, 1, none⟩ = some (.int .u64 s) := hx1.has (by simp [go_sem])
       have d3 : w1.cell? ⟨w.heap.size + 1, 0, none⟩ = some (.int .u64 0) := hx1.has (by simp [go_sem])
       have d4 : w1.cell? ⟨w.heap.size + 1, 1, none⟩ = some (.int .u64 0) := hx1.has (by simp [go_sem])
       have f3 : w1.frozen? ⟨w.heap.size + 1, 0, none⟩ = false := hx1.froz (v := .int .u64 0) (by simp [go_sem]) (by simp [go_sem])
       have f4 : w1.frozen? ⟨w.heap.size + 1, 1, none⟩ = false := hx1.froz (v := .int .u64 0) (by simp [go_sem]) (by simp [go_sem]))
    | (go_at_call 120; refine (CR.out _).mono ?_; rintro r w2 ⟨rfl, rfl⟩))
  (try simp only [Exit.inBlock, Exit.then])
  refine bodyPost_ret (by simp [results, Try.results92, go_sem, d3, d4]; try rfl) rfl ?_
  exact ⟨rfl, (by repeat (first | assumption | exact Ext.refl _ | refine Ext.drew ?_ | refine Ext.drewN ?_ _ | refine Ext.alloc ?_ _ | refine Ext.setCell ?_ (by first | omega | (simp; done) | (simp; omega)) _ | refine Ext.trans ?_ (by assumption)))⟩
set_option maxHeartbeats 2000000 in
theorem pCut_all (t s x : Int)
    (CK : Hid (∀ w, Calls Try.prog 44 #[.agg #[.int .u64 t, .int .u64 s]] w fun r w' => r = .returned (.int .i64 0) ∧ Ext w w'))
    (CR : Hid (∀ w, Calls Try.prog 120 #[.int .u64 t, .int .u64 x] w fun r w' => r = .returned (.tuple #[.int .u64 t, .int .i64 0]) ∧ w = w')) (w : World) :
    Calls Try.prog 92 #[.agg #[.int .u64 t, .int .u64 s], .int .u64 x] w fun r w' => r = .returned (.tuple #[.agg #[.int .u64 0, .int .u64 0], .int .u64 t, .int .i64 0]) ∧ Ext w w' := by
  go_enter Try.func92, Try.ntmps92
  go_wp2_with (first
    | (go_at_call 44; refine (CK.out _).mono ?_; rintro r w1 ⟨rfl, hx1⟩
       have hs1 := hx1.size
       simp at hs1
       have b1 : w1.cell? ⟨w.heap.size, 0, none⟩ = some (.int .u64 t) := hx1.has (by simp [go_sem])
       have b2 : w1.cell? ⟨w.heap.size, 1, none⟩ = some (.int .u64 s) := hx1.has (by simp [go_sem])
       have d3 : w1.cell? ⟨w.heap.size + 1, 0, none⟩ = some (.int .u64 0) := hx1.has (by simp [go_sem])
       have d4 : w1.cell? ⟨w.heap.size + 1, 1, none⟩ = some (.int .u64 0) := hx1.has (by simp [go_sem])
       have f3 : w1.frozen? ⟨w.heap.size + 1, 0, none⟩ = false := hx1.froz (v := .int .u64 0) (by simp [go_sem]) (by simp [go_sem])
       have f4 : w1.frozen? ⟨w.heap.size + 1, 1, none⟩ = false := hx1.froz (v := .int .u64 0) (by simp [go_sem]) (by simp [go_sem]))
    | (go_at_call 120; refine (CR.out _).mono ?_; rintro r w2 ⟨rfl, rfl⟩))
  (try simp only [Exit.inBlock, Exit.then])
  refine bodyPost_ret (by simp [results, Try.results92, go_sem, d3, d4]; try rfl) rfl ?_
  exact ⟨rfl, (by repeat (first | assumption | exact Ext.refl _ | refine Ext.drew ?_ | refine Ext.drewN ?_ _ | refine Ext.alloc ?_ _ | refine Ext.setCell ?_ (by first | omega | (simp; done) | (simp; omega)) _ | refine Ext.trans ?_ (by assumption)))⟩
set_option maxHeartbeats 2000000 in
theorem pCut_some (t s x n : Int) (h : (n == t) = false) (n0 : 0 ≤ n) (n1 : n ≤ t) (t1 : t < 18446744073709551616)
    (CK : Hid (∀ w, Calls Try.prog 44 #[.agg #[.int .u64 t, .int .u64 s]] w fun r w' => r = .returned (.int .i64 0) ∧ Ext w w'))
    (CR : Hid (∀ w, Calls Try.prog 120 #[.int .u64 t, .int .u64 x] w fun r w' => r = .returned (.tuple #[.int .u64 n, .int .i64 0]) ∧ w = w')) (w : World) :
    Calls Try.prog 92 #[.agg #[.int .u64 t, .int .u64 s], .int .u64 x] w fun r w' => r = .returned (.tuple #[.agg #[.int .u64 (t - n), .int .u64 s], .int .u64 n, .int .i64 0]) ∧ Ext w w' := by
  have e1 : IntKind.u64.wrap (t - n) = t - n := by rw [IntKind.wrap_u64]; omega
  go_enter Try.func92, Try.ntmps92
  go_wp2_with (first
    | (go_at_call 44; refine (CK.out _).mono ?_; rintro r w1 ⟨rfl, hx1⟩
       have hs1 := hx1.size
       simp at hs1
       have b1 : w1.cell? ⟨w.heap.size, 0, none⟩ = some (.int .u64 t) := hx1.has (by simp [go_sem])
       have b2 : w1.cell? ⟨w.heap.size, 1, none⟩ = some (.int .u64 s) := hx1.has (by simp [go_sem])
       have d3 : w1.cell? ⟨w.heap.size + 1, 0, none⟩ = some (.int .u64 0) := hx1.has (by simp [go_sem])
       have d4 : w1.cell? ⟨w.heap.size + 1, 1, none⟩ = some (.int .u64 0) := hx1.has (by simp [go_sem])
       have f3 : w1.frozen? ⟨w.heap.size + 1, 0, none⟩ = false := hx1.froz (v := .int .u64 0) (by simp [go_sem]) (by simp [go_sem])
       have f4 : w1.frozen? ⟨w.heap.size + 1, 1, none⟩ = false := hx1.froz (v := .int .u64 0) (by simp [go_sem]) (by simp [go_sem]))
    | (go_at_call 120; refine (CR.out _).mono ?_; rintro r w2 ⟨rfl, rfl⟩))
  (try simp only [Exit.inBlock, Exit.then])
  refine bodyPost_ret (by simp [results, Try.results92, go_sem, d3, d4]; try rfl) rfl ?_
  exact ⟨rfl, (by repeat (first | assumption | exact Ext.refl _ | refine Ext.drew ?_ | refine Ext.drewN ?_ _ | refine Ext.alloc ?_ _ | refine Ext.setCell ?_ (by first | omega | (simp; done) | (simp; omega)) _ | refine Ext.trans ?_ (by assumption)))⟩
end Go.Proofs.Ythaknigljjnnaaa
