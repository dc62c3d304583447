/- law11's 'of': a pool that may be, by two numbers. Conditions stand in each lemma. -/
import Derived.Test.YthaknigljjnnaaaShareK
import Derived.Test.YthaknigljjnnaaaShareM
set_option linter.unusedVariables false
set_option linter.unusedSimpArgs false
namespace Go.Proofs.Ythaknigljjnnaaa
open Go.RowKit

theorem lof_zero (t s : Int) (ht : Word t) (h0 : t % 4611686018427387905 = 0) (w : World) :
    Calls Try.prog 50 #[.int .u64 t, .int .u64 s] w fun r w' => r = .returned (.agg #[.int .u64 0, .int .u64 0]) ∧ Ext w w' := by
  obtain ⟨t0, t1⟩ := ht
  go_enter Try.func50, Try.ntmps50
  go_wp2
  go_returns
  exact ⟨rfl, (by repeat (first | assumption | exact Ext.refl _ | refine Ext.drew ?_ | refine Ext.drewN ?_ _ | refine Ext.alloc ?_ _ | refine Ext.setCell ?_ (by first | omega | (simp; done) | (simp; omega)) _ | refine Ext.trans ?_ (by assumption)))⟩
theorem lof_less (t s T q : Int) (ht : Word t) (hs : Word s) (hT : t % 4611686018427387905 = T) (h0 : (T == 0) = false) (h1 : 0 < T) (h2 : T < 4611686018427387905) (hl : s < T) (hq : s % T = q) (q0 : 0 ≤ q) (q1 : q < T) (w : World) :
    Calls Try.prog 50 #[.int .u64 t, .int .u64 s] w fun r w' => r = .returned (.agg #[.int .u64 T, .int .u64 (T + q)]) ∧ Ext w w' := by
  obtain ⟨t0, t1⟩ := ht
  obtain ⟨s0, s1⟩ := hs
  go_enter Try.func50, Try.ntmps50
  go_wp2_with fail
  refine (lpool_any _ _ _).mono ?_
  rintro r w1 ⟨rfl, hx1⟩
  have c1 := hx1.cells
  have z := hx1.size
  simp at z
  have d3 : w1.cell? ⟨w.heap.size, 0, none⟩ = some (.int .u64 0) := hx1.has (by simp [go_sem])
  have d4 : w1.cell? ⟨w.heap.size, 1, none⟩ = some (.int .u64 0) := hx1.has (by simp [go_sem])
  have f3 : w1.frozen? ⟨w.heap.size, 0, none⟩ = false := hx1.froz (v := .int .u64 0) (by simp [go_sem]) (by simp [go_sem])
  have f4 : w1.frozen? ⟨w.heap.size, 1, none⟩ = false := hx1.froz (v := .int .u64 0) (by simp [go_sem]) (by simp [go_sem])
  go_wp2
  (try simp only [Exit.inBlock, Exit.then])
  refine bodyPost_ret (by simp [results, Try.results50, go_sem, d3, d4, World.cell?_alloc_past]; try rfl) rfl ?_
  exact ⟨rfl, (by repeat (first | assumption | exact Ext.refl _ | refine Ext.drew ?_ | refine Ext.drewN ?_ _ | refine Ext.alloc ?_ _ | refine Ext.setCell ?_ (by first | omega | (simp; done) | (simp; omega)) _ | refine Ext.trans ?_ (by assumption)))⟩
theorem lof_more (t s T : Int) (ht : Word t) (hs : Word s) (hT : t % 4611686018427387905 = T) (h0 : (T == 0) = false) (h1 : 0 < T) (h2 : T < 4611686018427387905) (hl : ¬ s < T) (w : World) :
    Calls Try.prog 50 #[.int .u64 t, .int .u64 s] w fun r w' => r = .returned (.agg #[.int .u64 T, .int .u64 s]) ∧ Ext w w' := by
  obtain ⟨t0, t1⟩ := ht
  obtain ⟨s0, s1⟩ := hs
  go_enter Try.func50, Try.ntmps50
  go_wp2_with fail
  refine (lpool_any _ _ _).mono ?_
  rintro r w1 ⟨rfl, hx1⟩
  have z := hx1.size
  simp at z
  have d3 : w1.cell? ⟨w.heap.size, 0, none⟩ = some (.int .u64 0) := hx1.has (by simp [go_sem])
  have d4 : w1.cell? ⟨w.heap.size, 1, none⟩ = some (.int .u64 0) := hx1.has (by simp [go_sem])
  have f3 : w1.frozen? ⟨w.heap.size, 0, none⟩ = false := hx1.froz (v := .int .u64 0) (by simp [go_sem]) (by simp [go_sem])
  have f4 : w1.frozen? ⟨w.heap.size, 1, none⟩ = false := hx1.froz (v := .int .u64 0) (by simp [go_sem]) (by simp [go_sem])
  go_wp2
  (try simp only [Exit.inBlock, Exit.then])
  refine bodyPost_ret (by simp [results, Try.results50, go_sem, d3, d4, World.cell?_alloc_past]; try rfl) rfl ?_
  exact ⟨rfl, (by repeat (first | assumption | exact Ext.refl _ | refine Ext.drew ?_ | refine Ext.drewN ?_ _ | refine Ext.alloc ?_ _ | refine Ext.setCell ?_ (by first | omega | (simp; done) | (simp; omega)) _ | refine Ext.trans ?_ (by assumption)))⟩
theorem lof_any (t s : Int) (ht : Word t) (hs : Word s) (w : World) :
    Calls Try.prog 50 #[.int .u64 t, .int .u64 s] w fun r w' => r = .returned (.agg #[.int .u64 (ofT t), .int .u64 (ofS t s)]) ∧ Ext w w' := by
  by_cases h0 : t % 4611686018427387905 = 0
  · have e1 : ofT t = 0 := h0
    have e2 : ofS t s = 0 := by unfold ofS; rw [if_pos e1]
    rw [e1, e2]
    exact lof_zero t s ht h0 w
  · have e1 : ¬ ofT t = 0 := h0
    have hT : 0 < ofT t := by unfold ofT; omega
    have hT2 : ofT t < 4611686018427387905 := by unfold ofT; omega
    by_cases hl : s < ofT t
    · have e2 : ofS t s = ofT t + s % ofT t := by unfold ofS; rw [if_neg e1, if_pos hl]
      rw [e2]
      exact lof_less t s _ _ ht hs rfl (beq_false_of_ne e1) hT hT2 hl rfl (Int.emod_nonneg s e1) (Int.emod_lt_of_pos s hT) w
    · have e2 : ofS t s = s := by unfold ofS; rw [if_neg e1, if_neg hl]
      rw [e2]
      exact lof_more t s _ ht hs rfl (beq_false_of_ne e1) hT hT2 hl w
theorem lof_at (t s T S : Int) (ht : Word t) (hs : Word s) (h1 : ofT t = T) (h2 : ofS t s = S) (w : World) :
    Calls Try.prog 50 #[.int .u64 t, .int .u64 s] w fun r w' => r = .returned (.agg #[.int .u64 T, .int .u64 S]) ∧ Ext w w' := by
  rw [← h1, ← h2]; exact lof_any t s ht hs w
theorem ldoes_at (k t s n a b c e : Int) (ht : Word t) (hs : Word s) (hn : Word n) (h1 : doT k t s n = a) (h2 : doS k t s n = b) (h3 : doN k t s n = c) (h4 : doE k t s n = e) (w : World) :
    Calls Try.prog 45 #[.agg #[.int .u64 t, .int .u64 s], .agg #[.int .i64 k, .int .u64 n]] w fun r w' => r = .returned (.tuple #[.agg #[.int .u64 a, .int .u64 b], .int .u64 c, .int .i64 e]) ∧ Ext w w' := by
  have := ldoes_any k t s n ht hs hn w
  rw [h1, h2, h3, h4] at this
  exact this
end Go.Proofs.Ythaknigljjnnaaa
