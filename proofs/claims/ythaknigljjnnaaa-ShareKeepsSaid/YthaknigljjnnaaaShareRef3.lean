/- The document's Join, Leave and Cut, whole. Conditions stand in each lemma. -/
import Derived.Test.YthaknigljjnnaaaShareRef2
set_option linter.unusedVariables false
set_option linter.unusedSimpArgs false
namespace Go.Proofs.Ythaknigljjnnaaa
open Go.RowKit

theorem addE_cases (a b : Int) : (addE a b = 0 ∧ a + b < 18446744073709551616 ∧ addN a b = a + b) ∨ (addE a b = 12 ∧ ¬ a + b < 18446744073709551616) := by
  unfold addE addN
  by_cases h : a + b < 18446744073709551616
  · exact .inl ⟨if_pos h, h, if_pos h⟩
  · exact .inr ⟨if_neg h, h⟩
theorem joE_over {t s a : Int} (ha : ¬ a = 0) (h : joB t s a = true) : joE t s a = 12 := by
  unfold joE
  simp [firstE, ha, h]
theorem joE_ok {t s a : Int} (ha : ¬ a = 0) (h : joB t s a = false) : joE t s a = 0 := by
  unfold joE
  simp [firstE, ha, h]
theorem pJoin_any (t s x : Int) (ht : Word t) (hs : Word s) (hx : Word x) (w : World) :
    Calls Try.prog 90 #[.agg #[.int .u64 t, .int .u64 s], .int .u64 x] w fun r w' => r = .returned (.tuple #[.agg #[.int .u64 (joiT t s x), .int .u64 (joiS t s x)], .int .u64 (joiN t s x), .int .i64 (joiE t s x)]) ∧ Ext w w' := by
  have CK := pCheck_any t s
  unfold joiT joiS joiN
  by_cases hc : chkE t s = 0
  · obtain ⟨k1, k2, k3⟩ := chk_ok ht hs hc
    rw [hc] at CK
    have e : joiE t s x = joE t s x := if_pos hc
    rw [e]
    by_cases h0 : x = 0
    · have e : joE t s x = 14 := by unfold joE; simp [firstE, h0]
      rw [e, if_neg (by decide), if_neg (by decide), if_neg (by decide)]
      exact pJoin_dust t s x h0 CK w
    · have h0' : (x == 0) = false := by simpa using h0
      have CP := pPrice_any t s x ht hs hx
      have p1 : pccE t s x = priE t s x := if_pos hc
      have wn : Word (pccN t s x) := by
        unfold pccN
        split
        · exact word_priN ht hs hx
        · exact ⟨by decide, by decide⟩
      have CA := fun w => rAdd_any s (pccN t s x) hs wn w
      by_cases h1 : priE t s x = 0
      · have p2 : pccN t s x = priN t s x := if_pos (p1.trans h1)
        rw [p2] at CP CA
        rw [p1, h1] at CP
        rcases addE_cases s (priN t s x) with ⟨q1, q2, q3⟩ | ⟨q1, q2⟩
        · rw [q1] at CA
          by_cases hm : 4611686018427387904 - t < x
          · have e : joE t s x = 12 := joE_over h0 (by
              unfold joB
              rcases addE_cases t x with ⟨r1, r2, r3⟩ | ⟨r1, r2⟩
              · rw [h1, r1, q1, r3]; simp; omega
              · rw [r1]; simp)
            rw [e, if_neg (by decide), if_neg (by decide), if_neg (by decide)]
            exact pJoin_max t s x _ _ h0' ⟨ht.1, k2⟩ hm CK CP CA w
          · rcases addE_cases t x with ⟨r1, r2, r3⟩ | ⟨r1, r2⟩
            · have e : joE t s x = 0 := joE_ok h0 (by
                unfold joB
                rw [h1, r1, q1, r3]; simp; omega)
              rw [e, if_pos rfl, if_pos rfl, if_pos rfl, r3]
              exact pJoin_ok t s x _ _ h0' ⟨ht.1, k2⟩ hm hx.1 CK CP CA w
            · exact absurd r2 (by omega)
        · have e : joE t s x = 12 := joE_over h0 (by unfold joB; rw [q1]; simp)
          rw [e, if_neg (by decide), if_neg (by decide), if_neg (by decide)]
          exact pJoin_g t s x (priN t s x) (addN s (priN t s x)) (addE s (priN t s x)) h0' (by rw [q1]; decide) CK CP CA w
      · have e : joE t s x = 12 := joE_over h0 (by unfold joB; simp [h1])
        rw [e, if_neg (by decide), if_neg (by decide), if_neg (by decide)]
        rw [p1] at CP
        exact pJoin_e t s x _ _ _ _ h0' h1 CK CP CA w
  · have e : joiE t s x = chkE t s := if_neg hc
    rw [e, if_neg hc, if_neg hc, if_neg hc]
    exact pJoin_bad t s x _ hc CK w
theorem pLeave_any (t s x : Int) (ht : Word t) (hs : Word s) (hx : Word x) (w : World) :
    Calls Try.prog 91 #[.agg #[.int .u64 t, .int .u64 s], .int .u64 x] w fun r w' => r = .returned (.tuple #[.agg #[.int .u64 (leaT t s x), .int .u64 (leaS t s x)], .int .u64 (leaN t s x), .int .i64 (leaE t s x)]) ∧ Ext w w' := by
  have CV := pValue_any t s x ht hs hx
  unfold leaT leaS leaN
  by_cases hc : chkE t s = 0
  · by_cases h : s < x
    · have e : leaE t s x = 13 := by unfold leaE; rw [if_pos hc, if_pos h]
      have e2 : valE t s x = 13 := by unfold valE; rw [if_pos hc, if_pos (by simpa using h)]
      rw [e, if_neg (by decide), if_neg (by decide), if_neg (by decide)]
      rw [e2] at CV
      exact pLeave_bad t s x _ 13 (by decide) CV w
    · obtain ⟨n0, n1⟩ := worV_le ht hs hx (by omega)
      have e2 : valE t s x = 0 := by unfold valE; rw [if_pos hc, if_neg (by simpa using h)]
      have e3 : valN t s x = worV t s x := if_pos e2
      rw [e2, e3] at CV
      by_cases hz : worV t s x = 0
      · have e : leaE t s x = 14 := by unfold leaE; rw [if_pos hc, if_neg h, if_pos hz]
        rw [e, if_neg (by decide), if_neg (by decide), if_neg (by decide)]
        rw [hz] at CV
        exact pLeave_dust t s x CV w
      · have e : leaE t s x = 0 := by unfold leaE; rw [if_pos hc, if_neg h, if_neg hz]
        rw [e, if_pos rfl, if_pos rfl, if_pos rfl]
        exact pLeave_ok t s x _ (by simpa using hz) n0 n1 ht.2 hx.1 (by omega) hs.2 CV w
  · have e : leaE t s x = chkE t s := if_neg hc
    have e2 : valE t s x = chkE t s := if_neg hc
    rw [e, if_neg hc, if_neg hc, if_neg hc]
    rw [e2] at CV
    exact pLeave_bad t s x _ _ hc CV w
theorem pCut_any (t s p : Int) (ht : Word t) (hs : Word s) (hp : Word p) (w : World) :
    Calls Try.prog 92 #[.agg #[.int .u64 t, .int .u64 s], .int .u64 p] w fun r w' => r = .returned (.tuple #[.agg #[.int .u64 (cutT t s p), .int .u64 (cutS t s p)], .int .u64 (cutN t s p), .int .i64 (cutE t s p)]) ∧ Ext w w' := by
  have CK := pCheck_any t s
  have CR := rPart_any t p ht hp
  obtain ⟨n0, n1⟩ := paN_le ht hp
  unfold cutT cutS cutN
  by_cases hc : chkE t s = 0
  · rw [hc] at CK
    have e : cutE t s p = paE t p := if_pos hc
    rw [e]
    by_cases h : paE t p = 0
    · rw [h] at CR
      rw [h, if_pos rfl, if_pos rfl, if_pos rfl]
      by_cases hz : t - paN t p = 0
      · rw [if_pos hz, hz]
        have e2 : paN t p = t := by omega
        rw [e2] at CR ⊢
        exact pCut_all t s p CK CR w
      · rw [if_neg hz]
        exact pCut_some t s p _ (by have : ¬ paN t p = t := by omega
                                    simpa using this) n0 n1 ht.2 CK CR w
    · rw [if_neg h, if_neg h, if_neg h]
      exact pCut_e t s p _ _ h CK CR w
  · have e : cutE t s p = chkE t s := if_neg hc
    rw [e, if_neg hc, if_neg hc, if_neg hc]
    exact pCut_bad t s p _ hc CK w
end Go.Proofs.Ythaknigljjnnaaa
