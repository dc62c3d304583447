/- What the functions of fixnum compute, as plain integers, and their bounds. Conditions stand in each lemma. -/
set_option linter.unusedVariables false
set_option linter.unusedSimpArgs false
namespace Go.Proofs.Ytnbeejgppooamaa

def addN (a b : Int) : Int := if a + b < 18446744073709551616 then a + b else 0
def addE (a b : Int) : Int := if a + b < 18446744073709551616 then 0 else 12
def subN (a b : Int) : Int := if b ≤ a then a - b else 0
def subE (a b : Int) : Int := if b ≤ a then 0 else 13
def hiN (a b : Int) : Int := a * b / 18446744073709551616
def loN (a b : Int) : Int := a * b % 18446744073709551616
def mulN (a b : Int) : Int := if a * b < 18446744073709551616 then a * b else 0
def mulE (a b : Int) : Int := if a * b < 18446744073709551616 then 0 else 12
def mdN (a b c : Int) : Int := if c = 0 then 0 else if a * b / c < 18446744073709551616 then a * b / c else 0
def mdE (a b c : Int) : Int := if c = 0 then 2 else if a * b / c < 18446744073709551616 then 0 else 12
/-- the whole number above -/
def upQ (a b c : Int) : Int := if a * b % c = 0 then a * b / c else a * b / c + 1
def muN (a b c : Int) : Int := if c = 0 then 0 else if upQ a b c < 18446744073709551616 then upQ a b c else 0
def muE (a b c : Int) : Int := if c = 0 then 2 else if upQ a b c < 18446744073709551616 then 0 else 12
def reN (a b c : Int) : Int := if c = 0 then 0 else a * b % c
def reE (c : Int) : Int := if c = 0 then 2 else 0
def caN (m a b c : Int) : Int := if c = 0 then 0 else if m < a * b / c then m else a * b / c
def caE (c : Int) : Int := if c = 0 then 2 else 0
def paN (a p : Int) : Int := if 1000000000 < p then 0 else mdN a p 1000000000
def paE (a p : Int) : Int := if 1000000000 < p then 3 else mdE a p 1000000000
def cmpV (a b c d : Int) : Int := if a * b = c * d then 0 else if a * b < c * d then -1 else 1
def sumL : List Int → Int
  | [] => 0
  | x :: l => x + sumL l
def suN (l : List Int) : Int := if sumL l < 18446744073709551616 then sumL l else 0
def suE (l : List Int) : Int := if sumL l < 18446744073709551616 then 0 else 12

/-- A word. -/
def Word (x : Int) : Prop := 0 ≤ x ∧ x < 18446744073709551616
theorem Word.lo {x : Int} (h : Word x) : 0 ≤ x := h.1
theorem Word.hi {x : Int} (h : Word x) : x < 18446744073709551616 := h.2

theorem prod_bounds {a b : Int} (ha : Word a) (hb : Word b) : 0 ≤ a * b ∧ a * b ≤ 340282366920938463426481119284349108225 := by
  refine ⟨Int.mul_nonneg ha.1 hb.1, ?_⟩
  have h1 : a * b ≤ 18446744073709551615 * b := Int.mul_le_mul_of_nonneg_right (by have := ha.2; omega) hb.1
  have := hb.2
  omega
theorem word_hi {a b : Int} (ha : Word a) (hb : Word b) : Word (hiN a b) := by
  obtain ⟨h1, h2⟩ := prod_bounds ha hb
  unfold hiN Word
  omega
theorem word_lo (a b : Int) : Word (loN a b) := by unfold loN Word; omega
theorem hi_lo (a b : Int) : hiN a b * 18446744073709551616 + loN a b = a * b := by unfold hiN loN; omega
theorem word_add {a b : Int} (ha : Word a) (hb : Word b) : Word (addN a b) := by
  unfold addN Word; have := ha.1; have := hb.1; split <;> omega
theorem word_mod (x : Int) : Word (x % 18446744073709551616) := ⟨by omega, by omega⟩
/-- the quotient of two words, in two words -/
theorem quo_hi {h l c : Int} (hc : 0 < c) (hh : 0 ≤ h) (hl : Word l) :
    (h * 18446744073709551616 + l) / c = h / c * 18446744073709551616 + (h % c * 18446744073709551616 + l) / c ∧
    (h * 18446744073709551616 + l) % c = (h % c * 18446744073709551616 + l) % c ∧ Word ((h % c * 18446744073709551616 + l) / c) := by
  have hd := Int.mul_ediv_add_emod h c
  have hm := Int.emod_nonneg h (by omega : c ≠ 0)
  have hm2 := Int.emod_lt_of_pos h hc
  have e : h * 18446744073709551616 + l = (h % c * 18446744073709551616 + l) + c * (h / c * 18446744073709551616) := by
    have : c * (h / c * 18446744073709551616) = c * (h / c) * 18446744073709551616 := by rw [Int.mul_assoc]
    omega
  refine ⟨?_, ?_, ?_⟩
  · rw [e, Int.add_mul_ediv_left _ _ (by omega)]; omega
  · rw [e, Int.add_mul_emod_self_left]
  · have := hl.1
    have := hl.2
    constructor
    · exact Int.ediv_nonneg (by omega) (by omega)
    · refine Int.ediv_lt_of_lt_mul hc ?_
      have h3 : (h % c + 1) * 18446744073709551616 ≤ c * 18446744073709551616 := Int.mul_le_mul_of_nonneg_right (by omega) (by omega)
      omega
theorem sumL_append (a b : List Int) : sumL (a ++ b) = sumL a + sumL b := by
  induction a with
  | nil => simp [sumL]
  | cons x a ih => show x + sumL (a ++ b) = x + sumL a + sumL b; rw [ih]; omega
theorem sumL_take_succ {l : List Int} {k : Nat} (h : k < l.length) : sumL (l.take (k + 1)) = sumL (l.take k) + l.getD k 0 := by
  rw [List.take_succ_eq_append_getElem h, sumL_append, List.getD_eq_getElem?_getD, List.getElem?_eq_getElem h]
  simp [sumL]
theorem sumL_nonneg {l : List Int} (h : ∀ x ∈ l, 0 ≤ x) : 0 ≤ sumL l := by
  induction l with
  | nil => exact Int.le_refl 0
  | cons x l ih =>
    have h1 := h x List.mem_cons_self
    have h2 := ih fun y hy => h y (List.mem_cons_of_mem _ hy)
    show 0 ≤ x + sumL l
    omega
theorem sumL_take_le {l : List Int} (h : ∀ x ∈ l, 0 ≤ x) (k : Nat) : sumL (l.take k) ≤ sumL l := by
  have e : sumL l = sumL (l.take k) + sumL (l.drop k) := by rw [← sumL_append, List.take_append_drop]
  have := sumL_nonneg (l := l.drop k) fun x hx => h x (List.mem_of_mem_drop hx)
  omega
theorem getD_word {l : List Int} (h : ∀ x ∈ l, Word x) (k : Nat) : Word (l.getD k 0) := by
  rw [List.getD_eq_getElem?_getD]
  rcases hx : l[k]? with _ | x
  · exact ⟨by decide, by decide⟩
  · exact h x (List.mem_of_getElem? hx)
/-- all fits so far, and this one fits too, or it does not -/
theorem sum_step {l : List Int} (h : ∀ x ∈ l, Word x) {k : Nat} (hk : k < l.length) (h0 : sumL (l.take k) < 18446744073709551616) :
    Word (sumL (l.take k)) ∧ addN (sumL (l.take k)) (l.getD k 0) = (if sumL (l.take (k + 1)) < 18446744073709551616 then sumL (l.take (k + 1)) else 0) ∧
    addE (sumL (l.take k)) (l.getD k 0) = (if sumL (l.take (k + 1)) < 18446744073709551616 then 0 else 12) := by
  have h1 := sumL_nonneg (l := l.take k) fun x hx => (h x (List.mem_of_mem_take hx)).1
  rw [sumL_take_succ hk]
  exact ⟨⟨h1, h0⟩, rfl, rfl⟩
theorem sum_over {l : List Int} (h : ∀ x ∈ l, Word x) {k : Nat} (h0 : ¬ sumL (l.take k) < 18446744073709551616) : suN l = 0 ∧ suE l = 12 := by
  have := sumL_take_le (fun x hx => (h x hx).1) k
  unfold suN suE
  rw [if_neg (by omega), if_neg (by omega)]
  exact ⟨rfl, rfl⟩
theorem sum_done {l : List Int} (h0 : sumL (l.take l.length) < 18446744073709551616) : suN l = sumL (l.take l.length) ∧ suE l = 0 := by
  rw [List.take_of_length_le (Nat.le_refl _)] at *
  unfold suN suE
  rw [if_pos h0, if_pos h0]
  exact ⟨rfl, rfl⟩
end Go.Proofs.Ytnbeejgppooamaa
