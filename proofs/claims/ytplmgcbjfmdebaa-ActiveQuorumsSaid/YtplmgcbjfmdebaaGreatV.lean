/- Great numbers as values: the kit's Great, TimesGreat, SumGreat, LessGreat, SameGreat over them. Conditions stand in each lemma. -/
import Derived.Test.YtplmgcbjfmdebaaTimes
import Derived.Test.YtplmgcbjfmdebaaSumGreat
set_option linter.unusedVariables false
set_option linter.unusedSimpArgs false
namespace Go.Proofs.Ytplmgcbjfmdebaa
open Go.RowKit Gr

theorem gr_short {w : World} {A : Option Addr} {n c : Nat} {l : List Int} {N : Int} (h : IsGr w A n c l N) {k : Nat} (hN : N < pw k) : n ≤ k := by
  have := len_of h.dig h.nor (by rw [h.eq]; exact hN)
  rw [h.sl.ilen] at this
  exact this
/-- the value is a great number -/
def GV (w : World) (v : Value) (N : Int) : Prop := ∃ A n c l, v = .slice A n c ∧ IsGr w A n c l N
theorem GV.ext {w w' : World} {v : Value} {N : Int} (h : GV w v N) (hx : Ext w w') : GV w' v N := by
  obtain ⟨A, n, c, l, h1, h2⟩ := h
  exact ⟨A, n, c, l, h1, h2.ext hx⟩
theorem pw4' : pw 4 = 18446744073709551616 := by decide
theorem pw16 : pw 16 = 115792089237316195423570985008687907853269984665640564039457584007913129639936 := by decide
def B1 (N : Int) : Prop := 0 ≤ N ∧ N < 18446744073709551616
def B2 (N : Int) : Prop := 0 ≤ N ∧ N < 340282366920938463463374607431768211456
def B3 (N : Int) : Prop := 0 ≤ N ∧ N < 6277101735386680763835789423207666416102355444464034512896
theorem mul_lt {a b A B : Int} (h1 : 0 ≤ a) (h2 : a < A) (h3 : 0 ≤ b) (h4 : b < B) : 0 ≤ a * b ∧ a * b < A * B := by
  refine ⟨Int.mul_nonneg h1 h3, ?_⟩
  have m1 : a * b ≤ a * B := Int.mul_le_mul_of_nonneg_left (by omega) h1
  have m2 : a * B < A * B := Int.mul_lt_mul_of_pos_right h2 (by omega)
  omega
theorem B1.mul {a b : Int} (h : B1 a) (k : B1 b) : B2 (a * b) := mul_lt h.1 h.2 k.1 k.2
theorem B2.mul {a b : Int} (h : B2 a) (k : B1 b) : B3 (a * b) := mul_lt h.1 h.2 k.1 k.2
theorem B1.small {N : Int} (h : B1 N) : N < pw 16 := by rw [pw16]; have := h.2; omega
theorem B2.small {N : Int} (h : B2 N) : N < pw 16 := by rw [pw16]; have := h.2; omega
theorem B3.small {N : Int} (h : B3 N) : N < pw 16 := by rw [pw16]; have := h.2; omega
theorem gGreat (n : Int) (hn : B1 n) (w : World) : Calls Try.prog 34 #[.int .u64 n] w fun e w' => ∃ v, e = .returned v ∧ GV w' v n ∧ Ext w w' := by
  refine (kGreat_any n hn w).mono ?_
  rintro e w' ⟨A, m, c, l, rfl, g, hx⟩
  exact ⟨_, rfl, ⟨A, m, c, l, rfl, g⟩, hx⟩
theorem wrap64 {n : Int} (h : B1 n) : IntKind.u64.wrap n = n := by
  obtain ⟨a, b⟩ := h
  simp only [IntKind.wrap, IntKind.bits, IntKind.signed]
  simp
  omega
theorem gGreatW (n : Int) (hn : B1 n) (w : World) : Calls Try.prog 34 #[.int .u64 (IntKind.u64.wrap n)] w fun e w' => ∃ v, e = .returned v ∧ GV w' v n ∧ Ext w w' := by
  rw [wrap64 hn]; exact gGreat n hn w
theorem gTimes (v u : Value) (N M : Int) (hN : N < pw 16) (hM : M < pw 16) (w : World) (h1 : GV w v N) (h2 : GV w u M) :
    Calls Try.prog 33 #[v, u] w fun e w' => ∃ x, e = .returned x ∧ GV w' x (N * M) ∧ Ext w w' := by
  obtain ⟨A, n, c, l, rfl, g⟩ := h1
  obtain ⟨B, m, d, k, rfl, f⟩ := h2
  refine (kTimesGreat_any A B n m c d l k N M w g f (by have := gr_short g hN; omega) (by have := gr_short f hM; omega)).mono ?_
  rintro e w' ⟨A, m, c, l, rfl, g, hx⟩
  exact ⟨_, rfl, ⟨A, m, c, l, rfl, g⟩, hx⟩
theorem gSum (v u : Value) (N M : Int) (hN : N < pw 16) (hM : M < pw 16) (w : World) (h1 : GV w v N) (h2 : GV w u M) :
    Calls Try.prog 37 #[v, u] w fun e w' => ∃ x, e = .returned x ∧ GV w' x (N + M) ∧ Ext w w' := by
  obtain ⟨A, n, c, l, rfl, g⟩ := h1
  obtain ⟨B, m, d, k, rfl, f⟩ := h2
  refine (kSumGreat_any A B n m c d l k N M w g f (by have := gr_short g hN; omega) (by have := gr_short f hM; omega)).mono ?_
  rintro e w' ⟨A, m, c, l, rfl, g, hx⟩
  exact ⟨_, rfl, ⟨A, m, c, l, rfl, g⟩, hx⟩
theorem gLess (v u : Value) (N M : Int) (V : Bool) (hV : decide (N < M) = V) (w : World) (h1 : GV w v N) (h2 : GV w u M) :
    Calls Try.prog 35 #[v, u] w fun e w' => e = .returned (.bool V) ∧ Ext w w' := by
  obtain ⟨A, n, c, l, rfl, g⟩ := h1
  obtain ⟨B, m, d, k, rfl, f⟩ := h2
  subst hV
  exact (kLessGreat_any A B n m c d l k N M w g f).mono fun e w' h => ⟨h.1, h.2.ext⟩
end Go.Proofs.Ytplmgcbjfmdebaa
