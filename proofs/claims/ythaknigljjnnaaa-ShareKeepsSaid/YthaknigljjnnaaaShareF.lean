/- What share's inner functions answer: worth, price, joined, left, cut. Conditions stand in each lemma. -/
import Derived.Test.YthaknigljjnnaaaShareP
import Derived.Handy
set_option linter.unusedVariables false
set_option linter.unusedSimpArgs false
namespace Go.Proofs.Ythaknigljjnnaaa
open Go.RowKit

theorem word_mdN {a b c : Int} (ha : Word a) (hb : Word b) (hc : Word c) : Word (mdN a b c) := by
  have h1 := (prod_bounds ha hb).1
  have h2 : 0 ≤ a * b / c := Int.ediv_nonneg h1 hc.1
  unfold mdN Word
  split <;> try split
  all_goals omega
theorem word_paN {a p : Int} (ha : Word a) (hp : Word p) : Word (paN a p) := by
  unfold paN
  split
  · exact ⟨by decide, by decide⟩
  · exact word_mdN ha hp ⟨by decide, by decide⟩
/-- what shares are worth -/
def worV (t s x : Int) : Int := if s = 0 then 0 else mdN x t s
/-- how many shares an amount comes to -/
def priN (t s a : Int) : Int := if t = 0 then a else mdN a s t
def priE (t s a : Int) : Int := if t = 0 then 0 else mdE a s t
theorem word_worV {t s x : Int} (ht : Word t) (hs : Word s) (hx : Word x) : Word (worV t s x) := by
  unfold worV
  split
  · exact ⟨by decide, by decide⟩
  · exact word_mdN hx ht hs
theorem word_priN {t s x : Int} (ht : Word t) (hs : Word s) (hx : Word x) : Word (priN t s x) := by
  unfold priN
  split
  · exact hx
  · exact word_mdN hx hs ht
theorem sof_any (t s : Int) (w : World) :
    Calls Try.prog 80 #[.agg #[.int .u64 t, .int .u64 s]] w fun e w' => e = .returned (.agg #[.int .u64 t, .int .u64 s]) ∧ Ext w w' := by
  go_enter Try.func80, Try.ntmps80
  go_wp2
  go_returns
  exact ⟨rfl, (by repeat (first | assumption | exact Ext.refl _ | refine Ext.drew ?_ | refine Ext.drewN ?_ _ | refine Ext.alloc ?_ _ | refine Ext.setCell ?_ (by first | omega | (simp; done) | (simp; omega)) _ | refine Ext.trans ?_ (by assumption)))⟩
theorem stold_any (t s : Int) (w : World) :
    Calls Try.prog 96 #[.agg #[.int .u64 t, .int .u64 s]] w fun e w' => e = .returned (.agg #[.int .u64 t, .int .u64 s]) ∧ Ext w w' := by
  go_enter Try.func96, Try.ntmps96
  go_wp2
  go_returns
  exact ⟨rfl, (by repeat (first | assumption | exact Ext.refl _ | refine Ext.drew ?_ | refine Ext.drewN ?_ _ | refine Ext.alloc ?_ _ | refine Ext.setCell ?_ (by first | omega | (simp; done) | (simp; omega)) _ | refine Ext.trans ?_ (by assumption)))⟩
theorem shareST_any (a b c : Int) (ha : Word a) (hb : Word b) (hc : Word c) (w : World) :
    Calls Try.prog 114 #[.int .u64 a, .int .u64 b, .int .u64 c] w fun e w' => e = .returned (.tuple #[.int .u64 (mdN a b c), .int .i64 (mdE a b c)]) ∧ Ext w w' := by
  have C := fMulDiv_any a b c ha hb hc
  obtain ⟨x, hx⟩ : ∃ x, x = mdN a b c := ⟨_, rfl⟩
  have HX := hx ▸ word_mdN ha hb hc
  obtain ⟨y, hy⟩ : ∃ x, x = mdE a b c := ⟨_, rfl⟩
  rw [← hx, ← hy]
  simp only [← hx, ← hy] at C
  replace C := Lib.hid C
  clear hx hy
  obtain ⟨a1, a2⟩ := ha
  obtain ⟨b1, b2⟩ := hb
  obtain ⟨c1, c2⟩ := hc
  obtain ⟨x1, x2⟩ := HX
  go_enter Try.func114, Try.ntmps114
  go_wp2_with ((go_at_call 125; refine (C.out _).mono ?_; rintro e w1 ⟨rfl, hx1⟩; (have hs1 := hx1.size); (try simp at hs1)))
  go_ret2
  exact ⟨rfl, (by repeat (first | assumption | exact Ext.refl _ | refine Ext.drew ?_ | refine Ext.drewN ?_ _ | refine Ext.alloc ?_ _ | refine Ext.setCell ?_ (by first | omega | (simp; done) | (simp; omega)) _ | refine Ext.trans ?_ (by assumption)))⟩
theorem shareTS_any (a b c : Int) (ha : Word a) (hb : Word b) (hc : Word c) (w : World) :
    Calls Try.prog 115 #[.int .u64 a, .int .u64 b, .int .u64 c] w fun e w' => e = .returned (.tuple #[.int .u64 (mdN a b c), .int .i64 (mdE a b c)]) ∧ Ext w w' := by
  have C := fMulDiv_any a b c ha hb hc
  obtain ⟨x, hx⟩ : ∃ x, x = mdN a b c := ⟨_, rfl⟩
  have HX := hx ▸ word_mdN ha hb hc
  obtain ⟨y, hy⟩ : ∃ x, x = mdE a b c := ⟨_, rfl⟩
  rw [← hx, ← hy]
  simp only [← hx, ← hy] at C
  replace C := Lib.hid C
  clear hx hy
  obtain ⟨a1, a2⟩ := ha
  obtain ⟨b1, b2⟩ := hb
  obtain ⟨c1, c2⟩ := hc
  obtain ⟨x1, x2⟩ := HX
  go_enter Try.func115, Try.ntmps115
  go_wp2_with ((go_at_call 125; refine (C.out _).mono ?_; rintro e w1 ⟨rfl, hx1⟩; (have hs1 := hx1.size); (try simp at hs1)))
  go_ret2
  exact ⟨rfl, (by repeat (first | assumption | exact Ext.refl _ | refine Ext.drew ?_ | refine Ext.drewN ?_ _ | refine Ext.alloc ?_ _ | refine Ext.setCell ?_ (by first | omega | (simp; done) | (simp; omega)) _ | refine Ext.trans ?_ (by assumption)))⟩
theorem sumT_any (a b : Int) (ha : Word a) (hb : Word b) (w : World) :
    Calls Try.prog 127 #[.int .u64 a, .int .u64 b] w fun e w' => e = .returned (.tuple #[.int .u64 (addN a b), .int .i64 (addE a b)]) ∧ Ext w w' := by
  have C := fAdd_any a b ha hb
  obtain ⟨x, hx⟩ : ∃ x, x = addN a b := ⟨_, rfl⟩
  have HX := hx ▸ word_add ha hb
  obtain ⟨y, hy⟩ : ∃ x, x = addE a b := ⟨_, rfl⟩
  rw [← hx, ← hy]
  simp only [← hx, ← hy] at C
  replace C := Lib.hid C
  clear hx hy
  obtain ⟨a1, a2⟩ := ha
  obtain ⟨b1, b2⟩ := hb
  obtain ⟨x1, x2⟩ := HX
  go_enter Try.func127, Try.ntmps127
  go_wp2_with ((go_at_call 134; refine (C.out _).mono ?_; rintro e w1 ⟨rfl, hx1⟩; (have hs1 := hx1.size); (try simp at hs1)))
  go_ret2
  exact ⟨rfl, (by repeat (first | assumption | exact Ext.refl _ | refine Ext.drew ?_ | refine Ext.drewN ?_ _ | refine Ext.alloc ?_ _ | refine Ext.setCell ?_ (by first | omega | (simp; done) | (simp; omega)) _ | refine Ext.trans ?_ (by assumption)))⟩
theorem sumS_any (a b : Int) (ha : Word a) (hb : Word b) (w : World) :
    Calls Try.prog 128 #[.int .u64 a, .int .u64 b] w fun e w' => e = .returned (.tuple #[.int .u64 (addN a b), .int .i64 (addE a b)]) ∧ Ext w w' := by
  have C := fAdd_any a b ha hb
  obtain ⟨x, hx⟩ : ∃ x, x = addN a b := ⟨_, rfl⟩
  have HX := hx ▸ word_add ha hb
  obtain ⟨y, hy⟩ : ∃ x, x = addE a b := ⟨_, rfl⟩
  rw [← hx, ← hy]
  simp only [← hx, ← hy] at C
  replace C := Lib.hid C
  clear hx hy
  obtain ⟨a1, a2⟩ := ha
  obtain ⟨b1, b2⟩ := hb
  obtain ⟨x1, x2⟩ := HX
  go_enter Try.func128, Try.ntmps128
  go_wp2_with ((go_at_call 134; refine (C.out _).mono ?_; rintro e w1 ⟨rfl, hx1⟩; (have hs1 := hx1.size); (try simp at hs1)))
  go_ret2
  exact ⟨rfl, (by repeat (first | assumption | exact Ext.refl _ | refine Ext.drew ?_ | refine Ext.drewN ?_ _ | refine Ext.alloc ?_ _ | refine Ext.setCell ?_ (by first | omega | (simp; done) | (simp; omega)) _ | refine Ext.trans ?_ (by assumption)))⟩
theorem sworth_any (t s x : Int) (ht : Word t) (hs : Word s) (hx : Word x) (w : World) :
    Calls Try.prog 84 #[.agg #[.int .u64 t, .int .u64 s], .int .u64 x] w fun e w' => e = .returned (.int .u64 (worV t s x)) ∧ Ext w w' := by
  by_cases hz : s = 0
  · have e : worV t s x = 0 := if_pos hz
    rw [e]
    subst hz
    clear e ht hs hx
    go_enter Try.func84, Try.ntmps84
    go_wp2
    go_ret
    exact ⟨rfl, (by repeat (first | assumption | exact Ext.refl _ | refine Ext.drew ?_ | refine Ext.drewN ?_ _ | refine Ext.alloc ?_ _ | refine Ext.setCell ?_ (by first | omega | (simp; done) | (simp; omega)) _ | refine Ext.trans ?_ (by assumption)))⟩
  · have e : worV t s x = mdN x t s := if_neg hz
    rw [e]
    clear e
    have C := Lib.hid (shareST_any x t s hx ht hs)
    have hz' : (s == 0) = false := by simpa using hz
    clear ht hs hx hz
    go_enter Try.func84, Try.ntmps84
    go_wp2_with ((go_at_call 114; refine (C.out _).mono ?_; rintro e w1 ⟨rfl, hx1⟩; (have hs1 := hx1.size); (try simp at hs1)))
    go_ret
    exact ⟨rfl, (by repeat (first | assumption | exact Ext.refl _ | refine Ext.drew ?_ | refine Ext.drewN ?_ _ | refine Ext.alloc ?_ _ | refine Ext.setCell ?_ (by first | omega | (simp; done) | (simp; omega)) _ | refine Ext.trans ?_ (by assumption)))⟩
theorem sprice_any (t s a : Int) (ht : Word t) (hs : Word s) (ha : Word a) (w : World) :
    Calls Try.prog 86 #[.agg #[.int .u64 t, .int .u64 s], .int .u64 a] w fun e w' => e = .returned (.tuple #[.int .u64 (priN t s a), .int .i64 (priE t s a)]) ∧ Ext w w' := by
  by_cases hz : t = 0
  · have e : priN t s a = a := if_pos hz
    have e' : priE t s a = 0 := if_pos hz
    rw [e, e']
    subst hz
    obtain ⟨a1, a2⟩ := ha
    clear e e' ht hs
    go_enter Try.func86, Try.ntmps86
    go_wp2
    go_ret2
    exact ⟨rfl, (by repeat (first | assumption | exact Ext.refl _ | refine Ext.drew ?_ | refine Ext.drewN ?_ _ | refine Ext.alloc ?_ _ | refine Ext.setCell ?_ (by first | omega | (simp; done) | (simp; omega)) _ | refine Ext.trans ?_ (by assumption)))⟩
  · have e : priN t s a = mdN a s t := if_neg hz
    have e' : priE t s a = mdE a s t := if_neg hz
    rw [e, e']
    clear e e'
    have C := Lib.hid (shareTS_any a s t ha hs ht)
    have hz' : (t == 0) = false := by simpa using hz
    obtain ⟨a1, a2⟩ := ha
    clear ht hs hz
    go_enter Try.func86, Try.ntmps86
    go_wp2_with ((go_at_call 115; refine (C.out _).mono ?_; rintro e w1 ⟨rfl, hx1⟩; (have hs1 := hx1.size); (try simp at hs1)))
    go_ret2
    exact ⟨rfl, (by repeat (first | assumption | exact Ext.refl _ | refine Ext.drew ?_ | refine Ext.drewN ?_ _ | refine Ext.alloc ?_ _ | refine Ext.setCell ?_ (by first | omega | (simp; done) | (simp; omega)) _ | refine Ext.trans ?_ (by assumption)))⟩
end Go.Proofs.Ythaknigljjnnaaa
