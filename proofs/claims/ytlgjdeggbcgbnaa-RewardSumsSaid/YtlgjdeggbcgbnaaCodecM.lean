/- Numbers as bytes, read back: what putL writes numGo reads, and what numGo reads putL writes; the same for the codec's Reader. Conditions stand in each lemma. -/
import Derived.Test.YtlgjdeggbcgbnaaReader
set_option linter.unusedVariables false
set_option linter.unusedSimpArgs false
namespace Go.Proofs.Ytlgjdeggbcgbnaa
open Go.RowKit

theorem pow7_succ (i : Nat) : 2 ^ (7 * (i + 1)) = 128 * 2 ^ (7 * i) := by
  rw [show 7 * (i + 1) = 7 + 7 * i from by omega, Nat.pow_add]
theorem pow7_pos (i : Nat) : 0 < 2 ^ (7 * i) := Nat.pow_pos (by decide)
theorem numGo_putL : ∀ (b m i acc : Nat) (rest : List Nat), m ≤ b → (0 < i → 0 < m) → i ≤ 9 → m * 2 ^ (7 * i) < 18446744073709551616 →
    numGo (putL m ++ rest) i acc = (acc + m * 2 ^ (7 * i), i + (putL m).length, 0) := by
  intro b
  induction b with
  | zero =>
    intro m i acc rest hb hi h9 hm
    obtain rfl : m = 0 := by omega
    have hi0 : i = 0 := by omega
    subst hi0
    rw [putL_lt (by decide)]
    simp [numGo]
  | succ b ih =>
    intro m i acc rest hb hi h9 hm
    by_cases h : m < 128
    · rw [putL_lt h, List.singleton_append, numGo, if_neg, if_pos h, Nat.mod_eq_of_lt h]
      · rfl
      · intro hh
        rcases hh with ⟨rfl, h1⟩ | ⟨h1, h2⟩
        · have : 2 * 2 ^ (7 * 9) ≤ m * 2 ^ (7 * 9) := Nat.mul_le_mul_right _ h1
          omega
        · have := hi h1; omega
    · have hp := pow7_succ i
      have hq := pow7_pos i
      have hd : (m / 128) * 2 ^ (7 * (i + 1)) ≤ m * 2 ^ (7 * i) := by
        rw [hp, ← Nat.mul_assoc]
        exact Nat.mul_le_mul_right _ (Nat.div_mul_le_self m 128)
      have hi8 : i ≤ 8 := by
        rcases Nat.lt_or_ge i 9 with g | g
        · omega
        · obtain rfl : i = 9 := by omega
          have : 128 * 2 ^ (7 * 9) ≤ m * 2 ^ (7 * 9) := Nat.mul_le_mul_right _ (by omega)
          omega
      rw [putL_ge h, List.cons_append, numGo, if_neg (by omega), if_neg (by omega), ih (m / 128) (i + 1) _ rest (by omega) (fun _ => by omega) (by omega) (by omega), List.length_cons]
      have e1 : (m % 128 + 128) % 128 = m % 128 := by omega
      rw [e1, hp]
      have e2 : m * 2 ^ (7 * i) = m % 128 * 2 ^ (7 * i) + m / 128 * (128 * 2 ^ (7 * i)) := by
        rw [← Nat.mul_assoc, ← Nat.add_mul]
        congr 1
        omega
      rw [e2, ← Nat.add_assoc, Nat.add_assoc i, Nat.add_comm 1]
theorem numGo_back : ∀ (L : List Nat) (i acc n k : Nat), Byt L → numGo L i acc = (n, k, 0) →
    ∃ m rest, L = putL m ++ rest ∧ n = acc + m * 2 ^ (7 * i) ∧ k = i + (putL m).length ∧ (0 < i → 0 < m) := by
  intro L
  induction L with
  | nil => intro i acc n k _ h; simp [numGo] at h
  | cons c l ih =>
    intro i acc n k hB h
    have hc : c < 256 := hB c (List.mem_cons_self ..)
    have hBl : Byt l := fun x hx => hB x (List.mem_cons_of_mem _ hx)
    rw [numGo] at h
    split at h
    · simp at h
    · rename_i hcond
      split at h
      · rename_i h1
        simp only [Prod.mk.injEq] at h
        obtain ⟨h2, h3, _⟩ := h
        refine ⟨c, l, by rw [putL_lt h1]; rfl, by rw [← h2, Nat.mod_eq_of_lt h1], by rw [putL_lt h1, ← h3]; rfl, fun hi => by omega⟩
      · rename_i h1
        obtain ⟨m, rest, rfl, hn, hk, hm⟩ := ih (i + 1) _ n k hBl h
        have hm0 : 0 < m := hm (by omega)
        have hge : ¬ (c - 128 + 128 * m) < 128 := by omega
        have e : putL (c - 128 + 128 * m) = c :: putL m := by
          rw [putL_ge hge]
          rw [show (c - 128 + 128 * m) % 128 + 128 = c from by omega, show (c - 128 + 128 * m) / 128 = m from by omega]
        refine ⟨c - 128 + 128 * m, rest, by rw [e]; rfl, ?_, by rw [e, List.length_cons, hk]; omega, fun _ => by omega⟩
        rw [hn, pow7_succ, show c % 128 = c - 128 from by omega, Nat.add_mul, Nat.mul_comm 128 m, Nat.mul_assoc, Nat.add_assoc]
/-- what a reader reads of bytes that were written -/
theorem rn_put {L rest : List Nat} {k m : Nat} {lo hi : Int} (hL : L.drop k = putL m ++ rest) (hm : m < 18446744073709551616) (h1 : lo ≤ m) (h2 : (m : Int) ≤ hi) :
    rnV L k none lo hi = m ∧ rnK L k none lo hi = k + (putL m).length ∧ rnF L k none lo hi = none := by
  have e := numGo_putL m m 0 0 rest (Nat.le_refl _) (fun h => absurd h (by omega)) (by omega) (by omega)
  rw [← hL] at e
  have e0 : rnE L k lo hi = 0 := by
    unfold rnE bndE
    rw [e]
    simp
    omega
  unfold rnV rnK rnF
  rw [e0, e]
  simp [failF]
/-- a number that was read stands there -/
theorem rn_back {L : List Nat} (hB : Byt L) {k : Nat} {lo hi : Int} (hlo : 0 ≤ lo) (h : rnF L k none lo hi = none) :
    ∃ m rest, L.drop k = putL m ++ rest ∧ rnV L k none lo hi = (m : Int) ∧ rnK L k none lo hi = k + (putL m).length ∧ lo ≤ m ∧ (m : Int) ≤ hi := by
  have e0 : rnE L k lo hi = 0 := by
    unfold rnF at h
    rw [if_pos rfl] at h
    unfold failF at h
    simp at h
    exact h
  have hb := e0
  unfold rnE bndE at hb
  split at hb
  · rename_i h0
    split at hb
    · omega
    · rename_i h1
      obtain ⟨n, k', e, hx⟩ : ∃ n k' e, numGo (L.drop k) 0 0 = (n, k', e) := ⟨_, _, _, rfl⟩
      rw [hx] at h0 h1
      simp at h0
      subst h0
      obtain ⟨m, rest, hL, hn, hk, _⟩ := numGo_back (L.drop k) 0 0 n k' (fun x hx => hB x (List.mem_of_mem_drop hx)) hx
      simp at hn hk
      subst hn; subst hk
      unfold rnV rnK
      rw [e0, hx]
      refine ⟨n, rest, hL, by simp, by simp, by omega, by omega⟩
  · rename_i h0
    exact absurd hb h0
/-- a fault stays, and is a fault -/
theorem rnF_some (L : List Nat) (k : Nat) (x : Int × Int) (lo hi : Int) : rnF L k (some x) lo hi = some x := by
  unfold rnF; rw [if_neg (by simp)]
theorem rnF_none {L : List Nat} {k : Nat} {f : Option (Int × Int)} {lo hi : Int} (h : rnF L k f lo hi = none) : f = none := by
  cases f with
  | none => rfl
  | some x => rw [rnF_some] at h; cases h
theorem failF_none {f : Option (Int × Int)} {e a : Int} (h : failF f e a = none) : f = none ∧ e = 0 := by
  cases f with
  | some x => simp [failF] at h
  | none => refine ⟨rfl, ?_⟩; unfold failF at h; simp at h; exact h
theorem failF_ok (f : Option (Int × Int)) (a : Int) : failF f 0 a = f := by cases f <;> simp [failF]
/-- a fault's error is none of nought -/
def FltNz (f : Option (Int × Int)) : Prop := ∀ x, f = some x → ¬ x.1 = 0
theorem FltNz.none : FltNz none := fun x h => by cases h
theorem FltNz.fail {f : Option (Int × Int)} (h : FltNz f) (e a : Int) : FltNz (failF f e a) := by
  intro x hx
  cases f with
  | some y => exact h x (by simpa [failF] using hx)
  | none =>
    unfold failF at hx
    simp at hx
    obtain ⟨h1, rfl⟩ := hx
    exact h1
theorem FltNz.rn {f : Option (Int × Int)} (h : FltNz f) (L : List Nat) (k : Nat) (lo hi : Int) : FltNz (rnF L k f lo hi) := by
  unfold rnF
  split
  · exact FltNz.none.fail _ _
  · exact h
/-- no fault, and nothing left -/
theorem endF_zero {f : Option (Int × Int)} {k n : Nat} (hz : FltNz f) (h : (endF f k n).1 = 0) : f = none ∧ n ≤ k := by
  cases f with
  | some x => exact absurd h (hz x rfl)
  | none =>
    refine ⟨rfl, ?_⟩
    unfold endF at h
    simp at h
    by_cases hk : k < n
    · simp [hk] at h
    · omega
end Go.Proofs.Ytlgjdeggbcgbnaa
