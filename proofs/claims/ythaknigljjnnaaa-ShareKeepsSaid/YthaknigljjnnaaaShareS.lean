/- What the exported functions of share answer, whole. Conditions stand in each lemma. -/
import Derived.Test.YthaknigljjnnaaaShareV
set_option linter.unusedVariables false
set_option linter.unusedSimpArgs false
namespace Go.Proofs.Ythaknigljjnnaaa
open Go.RowKit

/-- is a join too much? -/
def joB (t s a : Int) : Bool := decide (priE t s a ≠ 0 ∨ addE t a ≠ 0 ∨ addE s (priN t s a) ≠ 0 ∨ 4611686018427387904 < addN t a)
def joE (t s a : Int) : Int := firstE [if (a == 0) = true then 14 else 0, if joB t s a = true then 12 else 0]
def valE (t s x : Int) : Int := if chkE t s = 0 then (if decide (s < x) = true then 13 else 0) else chkE t s
def valN (t s x : Int) : Int := if valE t s x = 0 then worV t s x else 0
def pccE (t s a : Int) : Int := if chkE t s = 0 then priE t s a else chkE t s
def pccN (t s a : Int) : Int := if pccE t s a = 0 then priN t s a else 0
def joiE (t s a : Int) : Int := if chkE t s = 0 then joE t s a else chkE t s
def joiT (t s a : Int) : Int := if joiE t s a = 0 then addN t a else 0
def joiS (t s a : Int) : Int := if joiE t s a = 0 then addN s (priN t s a) else 0
def joiN (t s a : Int) : Int := if joiE t s a = 0 then priN t s a else 0
def leaE (t s x : Int) : Int := if chkE t s = 0 then (if s < x then 13 else if worV t s x = 0 then 14 else 0) else chkE t s
def leaT (t s x : Int) : Int := if leaE t s x = 0 then t - worV t s x else 0
def leaS (t s x : Int) : Int := if leaE t s x = 0 then s - x else 0
def leaN (t s x : Int) : Int := if leaE t s x = 0 then worV t s x else 0
def cutE (t s p : Int) : Int := if chkE t s = 0 then paE t p else chkE t s
def cutN (t s p : Int) : Int := if cutE t s p = 0 then paN t p else 0
def cutT (t s p : Int) : Int := if cutE t s p = 0 then t - paN t p else 0
def cutS (t s p : Int) : Int := if cutE t s p = 0 then (if t - paN t p = 0 then 0 else s) else 0

theorem SValue_any (t s x : Int) (ht : Word t) (hs : Word s) (hx : Word x) (w : World) :
    Calls Try.prog 39 #[.agg #[.int .u64 t, .int .u64 s], .int .u64 x] w fun r w' => r = .returned (.tuple #[.int .u64 (valN t s x), .int .i64 (valE t s x)]) ∧ Ext w w' := by
  by_cases h : valE t s x = 0
  · have e : valN t s x = worV t s x := if_pos h
    have H := SValue_ok t s x (worV t s x) (valE t s x) ⟨ht, hs⟩ rfl h w (sworth_any t s x ht hs hx)
    rw [e, h]; exact H
  · have e : valN t s x = 0 := if_neg h
    rw [e]
    exact SValue_bad t s x (valE t s x) ⟨ht, hs⟩ rfl h w
theorem SPrice_any (t s a : Int) (ht : Word t) (hs : Word s) (ha : Word a) (w : World) :
    Calls Try.prog 41 #[.agg #[.int .u64 t, .int .u64 s], .int .u64 a] w fun r w' => r = .returned (.tuple #[.int .u64 (pccN t s a), .int .i64 (pccE t s a)]) ∧ Ext w w' := by
  have CK := scheck_any t s ht hs
  have C1 := sprice_any t s a ht hs ha
  by_cases hc : chkE t s = 0
  · have e1 : pccE t s a = priE t s a := if_pos hc
    rw [hc] at CK
    by_cases h : priE t s a = 0
    · have e2 : pccN t s a = priN t s a := if_pos (e1.trans h)
      rw [e1, e2, h]
      rw [h] at C1
      exact SPrice_ok t s a _ w CK C1
    · have e2 : pccN t s a = 0 := if_neg (by rw [e1]; exact h)
      rw [e1, e2]
      exact SPrice_err t s a _ _ h w CK C1
  · have e1 : pccE t s a = chkE t s := if_neg hc
    have e2 : pccN t s a = 0 := if_neg (by rw [e1]; exact hc)
    rw [e1, e2]
    exact SPrice_bad t s a _ hc w CK
theorem sjoined_any (t s a : Int) (ht : Word t) (hs : Word s) (ha : Word a) (w : World) :
    Calls Try.prog 117 #[.agg #[.int .u64 t, .int .u64 s], .int .u64 a] w fun r w' =>
      r = .returned (.tuple #[.agg #[.int .u64 (addN t a), .int .u64 (addN s (priN t s a))], .int .u64 (priN t s a), .int .i64 (joE t s a)]) ∧ Ext w w' := by
  refine sjoined_at t s a (priN t s a) (priE t s a) (addN t a) (addE t a) (addN s (priN t s a)) (addE s (priN t s a)) (joE t s a) (joB t s a) w (sprice_any t s a ht hs ha) (sumT_any t a ht ha) (sumS_any s _ hs (word_priN ht hs ha)) rfl ?_
  unfold joB
  by_cases h1 : priE t s a = 0 <;> by_cases h2 : addE t a = 0 <;> by_cases h3 : addE s (priN t s a) = 0 <;> simp [h1, h2, h3]
theorem SJoin_any (t s a : Int) (ht : Word t) (hs : Word s) (ha : Word a) (w : World) :
    Calls Try.prog 88 #[.agg #[.int .u64 t, .int .u64 s], .int .u64 a] w fun r w' => r = .returned (.tuple #[.agg #[.int .u64 (joiT t s a), .int .u64 (joiS t s a)], .int .u64 (joiN t s a), .int .i64 (joiE t s a)]) ∧ Ext w w' := by
  have CK := scheck_any t s ht hs
  have C1 := sjoined_any t s a ht hs ha
  unfold joiT joiS joiN
  by_cases hc : chkE t s = 0
  · have e1 : joiE t s a = joE t s a := if_pos hc
    rw [hc] at CK
    rw [e1]
    by_cases h : joE t s a = 0
    · rw [h] at C1
      rw [if_pos h, if_pos h, if_pos h, h]
      exact SJoin_ok t s a _ _ _ w CK C1
    · rw [if_neg h, if_neg h, if_neg h]
      exact SJoin_err t s a _ _ _ _ h w CK C1
  · have e1 : joiE t s a = chkE t s := if_neg hc
    rw [e1, if_neg hc, if_neg hc, if_neg hc]
    exact SJoin_bad t s a _ hc w CK
/-- what a pool that may be is -/
theorem chk_ok {t s : Int} (ht : Word t) (hs : Word s) (h : chkE t s = 0) : t ≤ s ∧ t ≤ 4611686018427387904 ∧ (t = 0 → s = 0) := by
  unfold chkE at h
  split at h
  · omega
  · split at h
    · omega
    · refine ⟨by omega, by omega, fun h0 => ?_⟩
      rw [if_pos h0] at h
      split at h
      · assumption
      · omega
theorem mul_le {a b c : Int} (ha : 0 ≤ a) (h : b ≤ c) : a * b ≤ a * c := Int.mul_le_mul_of_nonneg_left h ha
theorem worV_le {t s x : Int} (ht : Word t) (hs : Word s) (hx : Word x) (h : x ≤ s) : 0 ≤ worV t s x ∧ worV t s x ≤ t := by
  refine ⟨(word_worV ht hs hx).1, ?_⟩
  unfold worV
  split
  · exact ht.1
  · rename_i h0
    have hp : 0 < s := by have := hs.1; omega
    have h1 : x * t / s ≤ t := by
      refine Int.ediv_le_of_le_mul hp ?_
      rw [Int.mul_comm t s]
      exact Int.mul_le_mul_of_nonneg_right h ht.1
    unfold mdN
    rw [if_neg h0]
    split
    · exact h1
    · exact ht.1
theorem SLeave_any (t s x : Int) (ht : Word t) (hs : Word s) (hx : Word x) (w : World) :
    Calls Try.prog 89 #[.agg #[.int .u64 t, .int .u64 s], .int .u64 x] w fun r w' => r = .returned (.tuple #[.agg #[.int .u64 (leaT t s x), .int .u64 (leaS t s x)], .int .u64 (leaN t s x), .int .i64 (leaE t s x)]) ∧ Ext w w' := by
  have CK := scheck_any t s ht hs
  unfold leaT leaS leaN
  by_cases hc : chkE t s = 0
  · rw [hc] at CK
    by_cases h : s < x
    · have e : leaE t s x = 13 := by unfold leaE; rw [if_pos hc, if_pos h]
      rw [e, if_neg (by decide), if_neg (by decide), if_neg (by decide)]
      exact SLeave_err t s x _ _ _ 13 (by decide) w CK (sleft_poor t s x h)
    · obtain ⟨n0, n1⟩ := worV_le ht hs hx (by omega)
      have C1 := fun w => sleft_at t s x (worV t s x) _ w hx.1 (by omega) hs.2 n0 n1 ht.2 (sworth_any t s x ht hs hx) rfl
      by_cases hz : worV t s x = 0
      · have e : leaE t s x = 14 := by unfold leaE; rw [if_pos hc, if_neg h, if_pos hz]
        rw [e, if_neg (by decide), if_neg (by decide), if_neg (by decide)]
        have ef : firstE [if (worV t s x == 0) = true then 14 else 0] = 14 := by rw [hz]; rfl
        rw [ef] at C1
        exact SLeave_err t s x _ _ _ 14 (by decide) w CK C1
      · have e : leaE t s x = 0 := by unfold leaE; rw [if_pos hc, if_neg h, if_neg hz]
        rw [e, if_pos rfl, if_pos rfl, if_pos rfl]
        have ef : firstE [if (worV t s x == 0) = true then 14 else 0] = 0 := by simp [hz, firstE]
        rw [ef] at C1
        exact SLeave_ok t s x _ _ _ w CK C1
  · have e : leaE t s x = chkE t s := if_neg hc
    rw [e, if_neg hc, if_neg hc, if_neg hc]
    exact SLeave_bad t s x _ hc w CK
theorem paN_le {t p : Int} (ht : Word t) (hp : Word p) : 0 ≤ paN t p ∧ paN t p ≤ t := by
  refine ⟨(word_paN ht hp).1, ?_⟩
  unfold paN
  split
  · exact ht.1
  · have h1 : t * p / 1000000000 ≤ t := by
      refine Int.ediv_le_of_le_mul (by decide) ?_
      exact Int.mul_le_mul_of_nonneg_left (by omega) ht.1
    unfold mdN
    rw [if_neg (by decide)]
    split
    · exact h1
    · exact ht.1
theorem SCut_any (t s p : Int) (ht : Word t) (hs : Word s) (hp : Word p) (w : World) :
    Calls Try.prog 55 #[.agg #[.int .u64 t, .int .u64 s], .int .u64 p] w fun r w' => r = .returned (.tuple #[.agg #[.int .u64 (cutT t s p), .int .u64 (cutS t s p)], .int .u64 (cutN t s p), .int .i64 (cutE t s p)]) ∧ Ext w w' := by
  have CK := scheck_any t s ht hs
  have C := fPart_any t p ht hp
  obtain ⟨n0, n1⟩ := paN_le ht hp
  unfold cutT cutS cutN
  by_cases hc : chkE t s = 0
  · rw [hc] at CK
    have e : cutE t s p = paE t p := if_pos hc
    rw [e]
    by_cases h : paE t p = 0
    · rw [h] at C
      rw [h, if_pos rfl, if_pos rfl, if_pos rfl]
      by_cases hz : t - paN t p = 0
      · rw [if_pos hz, hz]
        have e2 : paN t p = t := by omega
        rw [e2] at C ⊢
        exact SCut_ok t s p _ _ _ w CK (fun w => scut_all t s p w C)
      · rw [if_neg hz]
        exact SCut_ok t s p _ _ _ w CK (fun w => scut_some t s p _ w n0 n1 ht.2 hz C)
    · rw [if_neg h, if_neg h, if_neg h]
      exact SCut_err t s p _ _ _ _ h w CK (fun w => scut_bad t s p _ _ h w C)
  · have e : cutE t s p = chkE t s := if_neg hc
    rw [e, if_neg hc, if_neg hc, if_neg hc]
    exact SCut_bad t s p _ hc w CK
end Go.Proofs.Ythaknigljjnnaaa
