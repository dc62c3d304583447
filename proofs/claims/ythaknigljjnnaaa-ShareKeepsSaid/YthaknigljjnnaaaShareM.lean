/- Plain numbers: what comes of a Join, a Leave, a Cut of a pool that may be. Conditions stand in each lemma. -/
import Derived.Test.YthaknigljjnnaaaShareS
set_option linter.unusedVariables false
set_option linter.unusedSimpArgs false
namespace Go.Proofs.Ythaknigljjnnaaa
open Go.RowKit

/-- a pool that may be -/
structure PoolOk (T S : Int) : Prop where
  t0 : 0 ≤ T
  ts : T ≤ S
  tm : T ≤ 4611686018427387904
  sm : S < 18446744073709551616
  z : T = 0 → S = 0
theorem PoolOk.wt {T S : Int} (h : PoolOk T S) : Word T := ⟨h.t0, by have := h.tm; omega⟩
theorem PoolOk.ws {T S : Int} (h : PoolOk T S) : Word S := ⟨by have := h.t0; have := h.ts; omega, h.sm⟩
theorem PoolOk.chk {T S : Int} (h : PoolOk T S) : chkE T S = 0 := by
  obtain ⟨a, b, c, d, e⟩ := h
  unfold chkE
  rw [if_neg (by omega), if_neg (by omega)]
  split
  · rw [if_pos (e (by assumption))]
  · rfl
theorem pool_of_chk {T S : Int} (ht : Word T) (hs : Word S) (h : chkE T S = 0) : PoolOk T S := by
  obtain ⟨a, b, c⟩ := chk_ok ht hs h
  exact ⟨ht.1, a, b, hs.2, c⟩
theorem pool_zero : PoolOk 0 0 := ⟨by decide, by decide, by decide, by decide, fun _ => rfl⟩
def ofT (t : Int) : Int := t % 4611686018427387905
def ofS (t s : Int) : Int := if ofT t = 0 then 0 else if s < ofT t then ofT t + s % ofT t else s
theorem of_ok {t s : Int} (ht : Word t) (hs : Word s) : PoolOk (ofT t) (ofS t s) := by
  have h0 : 0 ≤ ofT t := by unfold ofT; omega
  have h1 : ofT t ≤ 4611686018427387904 := by unfold ofT; omega
  unfold ofS
  generalize ofT t = T at h0 h1
  obtain ⟨s0, s1⟩ := hs
  split
  · rename_i h; subst h; exact pool_zero
  · rename_i h
    split
    · have a := Int.emod_nonneg s h
      have b := Int.emod_lt_of_pos s (by omega : 0 < T)
      exact ⟨h0, by omega, h1, by omega, fun hh => absurd hh h⟩
    · exact ⟨h0, by omega, h1, by omega, fun hh => absurd hh h⟩
theorem fl_le {n c : Int} (hc : 0 < c) : c * (n / c) ≤ n := Int.mul_ediv_self_le (by omega)
theorem fl_lt {n c : Int} (hc : 0 < c) : n < c * (n / c) + c := Int.lt_mul_ediv_self_add hc
theorem fl_nn {n c : Int} (hn : 0 ≤ n) (hc : 0 < c) : 0 ≤ n / c := Int.ediv_nonneg hn (by omega)

/-- a Join that is taken -/
theorem join_ok {T S N : Int} (h : PoolOk T S) (hN : Word N) (he : joiE T S N = 0) :
    0 < N ∧ joiT T S N = T + N ∧ joiS T S N = S + joiN T S N ∧ N ≤ joiN T S N ∧ PoolOk (T + N) (S + joiN T S N) ∧ (T = 0 → joiN T S N = N) ∧ (0 < T → T * joiN T S N ≤ N * S ∧ N * S < T * joiN T S N + T) := by
  have hj : joE T S N = 0 := by unfold joiE at he; rwa [if_pos h.chk] at he
  have h1 : joiT T S N = addN T N := if_pos he
  have h2 : joiS T S N = addN S (priN T S N) := if_pos he
  have h3 : joiN T S N = priN T S N := if_pos he
  rw [h1, h2, h3]
  unfold joE firstE at hj
  have hn0 : ¬ N = 0 := by intro hh; subst hh; simp at hj
  have hb : joB T S N = false := by
    cases hb : joB T S N
    · rfl
    · simp [hn0, hb, firstE] at hj
  unfold joB at hb
  simp only [decide_eq_false_iff_not, not_or, Int.not_lt, ne_eq, Decidable.not_not] at hb
  obtain ⟨b1, b2, b3, b4⟩ := hb
  obtain ⟨N0, N1⟩ := hN
  obtain ⟨a1, a2, a3, a4, a5⟩ := h
  have e1 : T + N < 18446744073709551616 := by
    unfold addE at b2
    split at b2
    · assumption
    · omega
  have e2 : S + priN T S N < 18446744073709551616 := by
    unfold addE at b3
    split at b3
    · assumption
    · omega
  have e3 : addN T N = T + N := by unfold addN; rw [if_pos e1]
  have e4 : addN S (priN T S N) = S + priN T S N := by unfold addN; rw [if_pos e2]
  rw [e3] at b4 ⊢
  rw [e4]
  have hp : N ≤ priN T S N ∧ (T = 0 → priN T S N = N) ∧ (0 < T → T * priN T S N ≤ N * S ∧ N * S < T * priN T S N + T) := by
    unfold priN priE at *
    by_cases h0 : T = 0
    · rw [if_pos h0]
      exact ⟨Int.le_refl _, fun _ => rfl, fun hh => by omega⟩
    · rw [if_neg h0] at b1 ⊢
      have hT : 0 < T := by omega
      unfold mdE at b1
      rw [if_neg h0] at b1
      have hlt : N * S / T < 18446744073709551616 := by
        split at b1
        · assumption
        · omega
      have e : mdN N S T = N * S / T := by unfold mdN; rw [if_neg h0, if_pos hlt]
      rw [e]
      refine ⟨?_, fun hh => absurd hh h0, fun _ => ⟨fl_le hT, fl_lt hT⟩⟩
      rw [Int.le_ediv_iff_mul_le hT]
      exact Int.mul_le_mul_of_nonneg_left a2 N0
  obtain ⟨p1, p2, p3⟩ := hp
  exact ⟨by omega, rfl, rfl, p1, ⟨by omega, by omega, b4, e2, fun hh => by omega⟩, p2, p3⟩
theorem join_err {T S N : Int} (h : PoolOk T S) (hN : N ≠ 0) (he : joiE T S N ≠ 0) : joiE T S N = 12 := by
  unfold joiE at he ⊢
  rw [if_pos h.chk] at he ⊢
  unfold joE firstE at he ⊢
  cases hb : joB T S N <;> simp [hN, hb, firstE] at he ⊢

/-- a Leave that is taken -/
theorem leave_ok {T S N : Int} (h : PoolOk T S) (hN : Word N) (he : leaE T S N = 0) :
    0 < N ∧ N ≤ S ∧ leaT T S N = T - leaN T S N ∧ leaS T S N = S - N ∧ 0 < leaN T S N ∧ leaN T S N ≤ N ∧ leaN T S N ≤ T ∧ PoolOk (T - leaN T S N) (S - N) ∧ 0 < S ∧ S * leaN T S N ≤ N * T ∧ N * T < S * leaN T S N + S := by
  have h1 : leaT T S N = T - worV T S N := if_pos he
  have h2 : leaS T S N = S - N := if_pos he
  have h3 : leaN T S N = worV T S N := if_pos he
  rw [h1, h2, h3]
  unfold leaE at he
  rw [if_pos h.chk] at he
  have c1 : ¬ S < N := by intro hh; rw [if_pos hh] at he; omega
  rw [if_neg c1] at he
  have c2 : ¬ worV T S N = 0 := by intro hh; rw [if_pos hh] at he; omega
  obtain ⟨w0, w1⟩ := worV_le h.wt h.ws hN (by omega)
  obtain ⟨N0, N1⟩ := hN
  obtain ⟨a1, a2, a3, a4, a5⟩ := h
  have hS : ¬ S = 0 := by intro hh; unfold worV at c2; rw [if_pos hh] at c2; exact c2 rfl
  have hSp : 0 < S := by omega
  have hT : 0 < T := by
    rcases Int.lt_or_le 0 T with h | h
    · exact h
    · exact absurd (a5 (by omega)) hS
  have hle : N * T / S ≤ T := by
    refine Int.ediv_le_of_le_mul hSp ?_
    rw [Int.mul_comm T S]
    exact Int.mul_le_mul_of_nonneg_right (by omega) a1
  have e : worV T S N = N * T / S := by
    unfold worV mdN; rw [if_neg hS, if_neg hS, if_pos (by omega)]
  have f1 : S * worV T S N ≤ N * T := by rw [e]; exact fl_le hSp
  have f2 : N * T < S * worV T S N + S := by rw [e]; exact fl_lt hSp
  generalize worV T S N = V at *
  have hVN : V ≤ N := by
    rcases Int.lt_or_le N V with hh | hh
    · have g1 : S * (N + 1) ≤ S * V := Int.mul_le_mul_of_nonneg_left (by omega) (by omega)
      have g2 : N * T ≤ N * S := Int.mul_le_mul_of_nonneg_left a2 N0
      rw [Int.mul_add, Int.mul_one, Int.mul_comm S N] at g1
      omega
    · exact hh
  have hlast : T - V ≤ S - N := by
    rcases Int.lt_or_le (S - N) (T - V) with hh | hh
    · have g1 : S * (S - N + 1) ≤ S * (T - V) := Int.mul_le_mul_of_nonneg_left (by omega) (by omega)
      have g2 : (S - N) * T ≤ (S - N) * S := Int.mul_le_mul_of_nonneg_left a2 (by omega)
      rw [Int.mul_sub] at g1
      rw [Int.sub_mul, Int.sub_mul] at g2
      rw [Int.mul_add, Int.mul_sub, Int.mul_one, Int.mul_comm S N] at g1
      omega
    · exact hh
  have hzero : T - V = 0 → S - N = 0 := by
    intro hh
    have hv : V = T := by omega
    subst hv
    rcases Int.lt_or_le N S with hlt | hge
    · have g : (N + 1) * V ≤ S * V := Int.mul_le_mul_of_nonneg_right (by omega) (by omega)
      rw [Int.add_mul, Int.one_mul] at g
      omega
    · omega
  have hN0 : 0 < N := by omega
  exact ⟨hN0, by omega, rfl, rfl, by omega, hVN, w1, ⟨by omega, hlast, by omega, by omega, hzero⟩, hSp, f1, f2⟩
theorem leave_err {T S N : Int} (h : PoolOk T S) (hN : N ≤ S) (he : leaE T S N ≠ 0) : leaE T S N = 14 := by
  unfold leaE at he ⊢
  rw [if_pos h.chk, if_neg (by omega)] at he ⊢
  split at he
  · rw [if_pos (by assumption)]
  · omega
/-- a Cut -/
theorem cut_ok {T S P : Int} (h : PoolOk T S) (p0 : 0 ≤ P) (p1 : P ≤ 1000000000) :
    cutE T S P = 0 ∧ 0 ≤ cutN T S P ∧ cutN T S P ≤ T ∧ cutT T S P = T - cutN T S P ∧ cutS T S P = (if T - cutN T S P = 0 then 0 else S) ∧ cutN T S P = T * P / 1000000000 ∧ PoolOk (T - cutN T S P) (if T - cutN T S P = 0 then 0 else S) := by
  have hT := h.t0
  have hle : T * P / 1000000000 ≤ T := Int.ediv_le_of_le_mul (by decide) (Int.mul_le_mul_of_nonneg_left p1 hT)
  have hnn : 0 ≤ T * P / 1000000000 := fl_nn (Int.mul_nonneg hT p0) (by decide)
  have hm := h.tm
  have e0 : cutE T S P = 0 := by
    unfold cutE paE mdE
    rw [if_pos h.chk, if_neg (by omega), if_neg (by decide), if_pos (by omega)]
  have e1 : paN T P = T * P / 1000000000 := by
    unfold paN mdN
    rw [if_neg (by omega), if_neg (by decide), if_pos (by omega)]
  have e2 : cutN T S P = T * P / 1000000000 := by unfold cutN; rw [if_pos e0, e1]
  have e3 : cutT T S P = T - T * P / 1000000000 := by unfold cutT; rw [if_pos e0, e1]
  have e4 : cutS T S P = if T - T * P / 1000000000 = 0 then 0 else S := by unfold cutS; rw [if_pos e0, e1]
  rw [e2, e3, e4]
  generalize T * P / 1000000000 = V at *
  refine ⟨e0, hnn, hle, rfl, rfl, rfl, ?_⟩
  have := h.ts
  have := h.sm
  split
  · rename_i hz; rw [hz]; exact pool_zero
  · rename_i hz
    exact ⟨by omega, by omega, by omega, h.sm, fun hh => absurd hh hz⟩

/-- what shares are worth does not fall, and grows by less than 1: a Join -/
theorem fair_join {T S N F x : Int} (h : PoolOk T S) (hT : 0 < T) (hN : 0 < N) (hF : N ≤ F) (h1 : T * F ≤ N * S) (h2 : N * S < T * F + T) (x0 : 0 ≤ x) (x1 : x < S) :
    x * T * (S + F) ≤ x * (T + N) * S ∧ x * (T + N) * S < x * T * (S + F) + S * (S + F) ∧ F * (T + N) ≤ N * (S + F) ∧ N * (S + F) ≤ F * (T + N) + (S + F) ∧ (N - 1) * (S + F) < F * (T + N) := by
  obtain ⟨_, a2, _, _, _⟩ := h
  have ex : x * T * (S + F) = x * T * S + x * (T * F) := by rw [Int.mul_add, Int.mul_assoc x T F]
  have ey : x * (T + N) * S = x * T * S + x * (N * S) := by rw [Int.mul_add, Int.add_mul, Int.mul_assoc x N S]
  rw [ex, ey]
  have m1 : x * (T * F) ≤ x * (N * S) := Int.mul_le_mul_of_nonneg_left h1 x0
  have m2 : x * (N * S) ≤ x * (T * F + T - 1) := Int.mul_le_mul_of_nonneg_left (by omega) x0
  have m3 : x * (T * F + T - 1) = x * (T * F) + x * (T - 1) := by rw [← Int.mul_add]; congr 1; omega
  have m4 : x * (T - 1) ≤ x * S := Int.mul_le_mul_of_nonneg_left (by omega) x0
  have m5 : x * S < S * S := Int.mul_lt_mul_of_pos_right x1 (by omega)
  have m6 : S * (S + F) = S * S + S * F := Int.mul_add _ _ _
  have m7 : 0 ≤ S * F := Int.mul_nonneg (by omega) (by omega)
  have e1 : F * (T + N) = T * F + F * N := by rw [Int.mul_add, Int.mul_comm F T]
  have e2 : N * (S + F) = N * S + F * N := by rw [Int.mul_add, Int.mul_comm N F]
  have e3 : (N - 1) * (S + F) = N * (S + F) - (S + F) := by rw [Int.sub_mul, Int.one_mul]
  rw [e3, e1, e2]
  refine ⟨by omega, by omega, by omega, by omega, by omega⟩
/-- .. a Leave -/
theorem fair_leave {T S N V x : Int} (h : PoolOk T S) (hS : 0 < S) (hN : 0 < N) (h1 : S * V ≤ N * T) (h2 : N * T < S * V + S) (x0 : 0 ≤ x) (x1 : x < S - N) :
    x * T * (S - N) ≤ x * (T - V) * S ∧ x * (T - V) * S < x * T * (S - N) + S * (S - N) := by
  have ex : x * T * (S - N) = x * T * S - x * (N * T) := by rw [Int.mul_sub, Int.mul_comm N T, ← Int.mul_assoc x T N]
  have ey : x * (T - V) * S = x * T * S - x * (S * V) := by rw [Int.mul_sub, Int.sub_mul, Int.mul_comm S V, ← Int.mul_assoc x V S]
  rw [ex, ey]
  have m1 : x * (S * V) ≤ x * (N * T) := Int.mul_le_mul_of_nonneg_left h1 x0
  have m2 : x * (N * T) ≤ x * (S * V + S) := Int.mul_le_mul_of_nonneg_left (by omega) x0
  rw [Int.mul_add] at m2
  have m5 : x * S < (S - N) * S := Int.mul_lt_mul_of_pos_right x1 hS
  rw [Int.mul_comm (S - N) S] at m5
  exact ⟨by omega, by omega⟩
end Go.Proofs.Ythaknigljjnnaaa
