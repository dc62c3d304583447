/- law24: the chapter's credits, splits, awake, credits. Conditions stand in each lemma. -/
import Derived.Test.YtlgjdeggbcgbnaaRew6
import Derived.WalkSpells
set_option linter.unusedVariables false
set_option linter.unusedSimpArgs false
namespace Go.Proofs.Ytlgjdeggbcgbnaa
open Go.RowKit Go.Shelf

theorem rewNew_ev (i : Int) (R : List Int) (e0 : Int) (n : Nat) (w : World) (hv : newV i = (R, e0)) (hn : R.length = n) :
    Calls Try.prog 32 #[.int .i64 i] w fun e w' => ∃ A' c', e = .returned (.tuple #[.slice A' n c', .int .i64 e0]) ∧ (A' = none → c' = 0) ∧ OwnWord w' w.heap.size (.slice A' n c') n R ∧ Ext w w' := by
  have := rewNew_any i w
  rw [hv] at this
  subst hn
  exact this
theorem rNew24_ev (i : Int) (R : List Int) (e0 : Int) (n : Nat) (w : World) (hv : newV i = (R, e0)) (hn : R.length = n) :
    Calls Try.prog 33 #[.int .i64 i] w fun e w' => ∃ A' c', e = .returned (.tuple #[.slice A' n c', .int .i64 e0]) ∧ (A' = none → c' = 0) ∧ OwnWord w' w.heap.size (.slice A' n c') n R ∧ Ext w w' := by
  have := rNew24_any i w
  rw [hv] at this
  subst hn
  exact this
theorem rewCredit_ev (A : Option Addr) (m c : Nat) (l : List Int) (i a : Int) (R : List Int) (e0 : Int) (n : Nat) (w : World) (h : Sl w 1 A m c (iv .u64 l)) (hw : ∀ x ∈ l, Word x) (ha : Word a) (hnil : A = none → c = 0) (hv : crdV l i a = (R, e0)) (hn : R.length = n) :
    Calls Try.prog 10 #[.slice A m c, .int .i64 i, .int .u64 a] w fun e w' => ∃ A' c', e = .returned (.tuple #[.slice A' n c', .int .i64 e0]) ∧ (A' = none → c' = 0) ∧ OwnWord w' w.heap.size (.slice A' n c') n R ∧ Ext w w' := by
  have hl := h.ilen
  subst hl
  have := rewCredit_any A c l i a w h hw ha hnil
  rw [hv] at this
  subst hn
  exact this
theorem rCredit24_ev (A : Option Addr) (m c : Nat) (l : List Int) (i a : Int) (R : List Int) (e0 : Int) (n : Nat) (w : World) (h : Sl w 1 A m c (iv .u64 l)) (hw : ∀ x ∈ l, Word x) (ha : Word a) (hv : crdV l i a = (R, e0)) (hn : R.length = n) :
    Calls Try.prog 11 #[.slice A m c, .int .i64 i, .int .u64 a] w fun e w' => ∃ A' c', e = .returned (.tuple #[.slice A' n c', .int .i64 e0]) ∧ (A' = none → c' = 0) ∧ OwnWord w' w.heap.size (.slice A' n c') n R ∧ Ext w w' := by
  have hl := h.ilen
  subst hl
  have := rCredit24_any A c l i a w h hw ha
  rw [hv] at this
  subst hn
  exact this
theorem rewClaim_ev (A : Option Addr) (m c : Nat) (l : List Int) (i : Int) (R : List Int) (u e0 : Int) (n : Nat) (w : World) (h : Sl w 1 A m c (iv .u64 l)) (hw : ∀ x ∈ l, Word x) (hnil : A = none → c = 0) (hv : clmV l i = (R, u, e0)) (hn : R.length = n) :
    Calls Try.prog 14 #[.slice A m c, .int .i64 i] w fun e w' => ∃ A' c', e = .returned (.tuple #[.slice A' n c', .int .u64 u, .int .i64 e0]) ∧ (A' = none → c' = 0) ∧ OwnWord w' w.heap.size (.slice A' n c') n R ∧ Ext w w' := by
  have hl := h.ilen
  subst hl
  have := rewClaim_any A c l i w h hw hnil
  rw [hv] at this
  subst hn
  exact this
theorem rClaim24_ev (A : Option Addr) (m c : Nat) (l : List Int) (i : Int) (R : List Int) (u e0 : Int) (n : Nat) (w : World) (h : Sl w 1 A m c (iv .u64 l)) (hw : ∀ x ∈ l, Word x) (hv : clmV l i = (R, u, e0)) (hn : R.length = n) :
    Calls Try.prog 15 #[.slice A m c, .int .i64 i] w fun e w' => ∃ A' c', e = .returned (.tuple #[.slice A' n c', .int .u64 u, .int .i64 e0]) ∧ (A' = none → c' = 0) ∧ OwnWord w' w.heap.size (.slice A' n c') n R ∧ Ext w w' := by
  have hl := h.ilen
  subst hl
  have := rClaim24_any A c l i w h hw
  rw [hv] at this
  subst hn
  exact this
theorem rewTotal_ev (A : Option Addr) (m c : Nat) (l : List Int) (u e0 : Int) (w : World) (h : Sl w 1 A m c (iv .u64 l)) (hw : ∀ x ∈ l, Word x) (hv : totR l = (u, e0)) :
    Calls Try.prog 16 #[.slice A m c] w fun e w' => e = .returned (.tuple #[.int .u64 u, .int .i64 e0]) ∧ Ext w w' := by
  have := rewTotal_any A m c l w h hw
  rw [hv] at this
  exact this
theorem rTotal24_ev (A : Option Addr) (m c : Nat) (l : List Int) (u e0 : Int) (w : World) (h : Sl w 1 A m c (iv .u64 l)) (hw : ∀ x ∈ l, Word x) (hv : totR l = (u, e0)) :
    Calls Try.prog 17 #[.slice A m c] w fun e w' => e = .returned (.tuple #[.int .u64 u, .int .i64 e0]) ∧ Ext w w' := by
  have := rTotal24_any A m c l w h hw
  rw [hv] at this
  exact this
theorem rewCheck_ev (A : Option Addr) (n c : Nat) (l : List Int) (q : Int) (w : World) (h : Sl w 1 A n c (iv .u64 l)) (hw : ∀ x ∈ l, Word x) (hq : chkR l = q) :
    Calls Try.prog 18 #[.slice A n c] w fun e w' => e = .returned (.int .i64 q) ∧ Ext w w' := by
  rw [← hq]; exact rewCheck_any A n c l w h hw
theorem rewKeep_ev (r : Int) (own : Bool) (u e0 : Int) (w : World) (hv : kpV r own = (u, e0)) :
    Calls Try.prog 20 #[.int .u64 r, .bool own] w fun e w' => e = .returned (.tuple #[.int .u64 u, .int .i64 e0]) ∧ Ext w w' := by
  have := rewKeep_any r own w
  rw [hv] at this
  exact this
theorem rKeep24_ev (r : Int) (own : Bool) (u e0 : Int) (w : World) (hv : kpV r own = (u, e0)) :
    Calls Try.prog 21 #[.int .u64 r, .bool own] w fun e w' => e = .returned (.tuple #[.int .u64 u, .int .i64 e0]) ∧ Ext w w' := by
  have := rKeep24_any r own w
  rw [hv] at this
  exact this
theorem rewSplit_ev (a r : Int) (own : Bool) (u v e0 : Int) (w : World) (ha : Word a) (hr : 0 ≤ r) (hv : splV a r own = (u, v, e0)) :
    Calls Try.prog 22 #[.int .u64 a, .int .u64 r, .bool own] w fun e w' => e = .returned (.tuple #[.int .u64 u, .int .u64 v, .int .i64 e0]) ∧ Ext w w' := by
  have := rewSplit_any a r own ha hr w
  rw [hv] at this
  exact this
theorem rSplit24_ev (a r : Int) (own : Bool) (u v e0 : Int) (w : World) (ha : Word a) (hr : 0 ≤ r) (hv : splV a r own = (u, v, e0)) :
    Calls Try.prog 23 #[.int .u64 a, .int .u64 r, .bool own] w fun e w' => e = .returned (.tuple #[.int .u64 u, .int .u64 v, .int .i64 e0]) ∧ Ext w w' := by
  have := rSplit24_any a r own ha hr w
  rw [hv] at this
  exact this
theorem words_of {l : List Int} (h : l.all (fun x => decide (0 ≤ x ∧ x < 18446744073709551616)) = true) : ∀ x ∈ l, Word x := by
  intro x hx
  have h1 := List.all_eq_true.1 h x hx
  have h2 : 0 ≤ x ∧ x < 18446744073709551616 := by simpa using h1
  exact h2
theorem three_new (w : World) (a b c : Int) : Sl (w.alloc (.cells #[.int .u64 a, .int .u64 b, .int .u64 c] 23)) 1 (some ⟨w.heap.size, 0, none⟩) 3 3 (iv .u64 [a, b, c]) := sl_new w 23 1 #[.int .u64 a, .int .u64 b, .int .u64 c] 3 rfl (by decide)
set_option maxRecDepth 100000 in
set_option maxHeartbeats 2000000 in
theorem chapter24_any (w : World) : Calls Try.prog 34 #[] w fun e w' => ∃ A c, e = .returned (.slice A 3 c) ∧ (A = none → c = 0) ∧ OwnWord w' w.heap.size (.slice A 3 c) 3 [0, 57, 0] ∧ Ext w w' := by
  have N := Lib.hid (rewNew_ev 3 [0, 0, 0] 0 3 w (by decide) rfl)
  go_enter Try.func34, Try.ntmps34
  go_wp2_with fail
  refine N.out.mono ?_
  rintro e w1 ⟨A1, c1, rfl, n1, hO1, hX1⟩
  have z1 := hX1.size
  have C1 := Lib.hid (rewCredit_ev A1 3 c1 [0, 0, 0] 1 50 [0, 50, 0] 0 3 w1 (OwnWord.sl hO1) (words_of rfl) ⟨by decide, by decide⟩ n1 (by decide) rfl)
  have HX1 := Lib.hid hX1
  clear hO1 n1 hX1
  go_wp2_with fail
  refine C1.out.mono ?_
  rintro e w2 ⟨A2, c2, rfl, n2, hO2, hX2⟩
  have z2 := hX2.size
  have C2 := Lib.hid (rewCredit_ev A2 3 c2 [0, 50, 0] 1 7 [0, 57, 0] 0 3 w2 (OwnWord.sl hO2) (words_of rfl) ⟨by decide, by decide⟩ n2 (by decide) rfl)
  have HX2 : Hid (Ext w w2) := Lib.hid (HX1.out.trans hX2)
  clear hO2 n2 hX2
  go_wp2_with fail
  refine C2.out.mono ?_
  rintro e w3 ⟨A3, c3, rfl, n3, hO3, hX3⟩
  have z3 := hX3.size
  have HO := Lib.hid (OwnWord.lower (b' := w.heap.size) hO3 (by omega))
  have HX3 : Hid (Ext w w3) := Lib.hid (HX2.out.trans hX3)
  have HN := Lib.hid n3
  clear hO3 n3 hX3
  go_wp2_with fail
  refine (kSameWords_eq A3 (some ⟨w3.heap.size, 0, none⟩) 3 c3 3 3 [0, 57, 0] _ ((OwnWord.sl HO.out).ext ((Ext.refl _).alloc _)) (three_new w3 0 57 0)).mono ?_
  rintro e w4 ⟨rfl, hX4⟩
  have HX4 : Hid (Ext w3 w4) := Lib.hid (((Ext.refl w3).alloc _).trans hX4)
  clear hX4
  go_wp2_with fail
  go_ret
  exact ⟨A3, c3, rfl, HN.out, OwnWord.ext HO.out HX4.out, HX3.out.trans HX4.out⟩
set_option maxRecDepth 100000 in
theorem splits24_t (a r : Int) (own : Bool) (u v e0 : Int) (w : World) (ha : Word a) (hr : 0 ≤ r) (hv : splV a r own = (u, v, e0)) :
    Calls Try.prog 35 #[.int .u64 a, .int .u64 r, .bool own, .int .u64 u, .int .u64 v, .int .i64 e0] w fun e w' => e = .returned (.bool true) ∧ Ext w w' := by
  have S := Lib.hid (rewSplit_ev a r own u v e0 w ha hr hv)
  clear ha hr hv
  go_enter Try.func35, Try.ntmps35
  go_wp2_with fail
  refine S.out.mono ?_
  rintro e w1 ⟨rfl, hX⟩
  go_wp2_with fail
  go_ret
  exact ⟨rfl, hX⟩
set_option maxRecDepth 100000 in
theorem credits24_t (A : Option Addr) (m c : Nat) (l : List Int) (i a : Int) (R : List Int) (e0 : Int) (w : World) (h : Sl w 1 A m c (iv .u64 l)) (hw : ∀ x ∈ l, Word x) (ha : Word a) (hnil : A = none → c = 0) (hv : crdV l i a = (R, e0)) :
    Calls Try.prog 36 #[.slice A m c, .int .i64 i, .int .u64 a] w fun e w' => e = .returned (.int .i64 e0) ∧ Ext w w' := by
  have S := Lib.hid (rewCredit_ev A m c l i a R e0 _ w h hw ha hnil hv rfl)
  clear h hw ha hnil hv
  go_enter Try.func36, Try.ntmps36
  go_wp2_with fail
  refine S.out.mono ?_
  rintro e w1 ⟨A1, c1, rfl, _, _, hX⟩
  go_wp2_with fail
  go_ret
  exact ⟨rfl, hX⟩
set_option maxRecDepth 100000 in
set_option maxHeartbeats 2000000 in
theorem awake24_any (w : World) : Calls Try.prog 8 #[] w fun e w' => e = .returned (.bool true) ∧ Ext w w' := by
  have q22 : ∀ (w : World) (a : Option Addr) (n c n' c' : Nat), (binOp .neq 22 (.slice a n c) (.slice none n' c')).run Try.prog w = .ok (.bool !a.isNone) w := fun w a n c n' c' => run_neq_slice_nil_any w _ _ a n c n' c' Try.underlying22
  have N := Lib.hid (chapter24_any w)
  go_enter Try.func8, Try.ntmps8
  go_wp2_with fail
  refine N.out.mono ?_
  rintro e w1 ⟨A1, c1, rfl, n1, hO1, hX1⟩
  have hA : A1.isNone = false := by
    obtain ⟨g, u0, rfl, _⟩ := OwnWord.blk (k := 0) hO1 (by decide)
    rfl
  have C1 := Lib.hid (rewClaim_ev A1 3 c1 [0, 57, 0] 1 [0, 0, 0] 57 0 3 w1 (OwnWord.sl hO1) (words_of rfl) n1 (by decide) rfl)
  have HX1 := Lib.hid hX1
  clear hO1 n1 hX1
  go_wp2_with fail
  refine C1.out.mono ?_
  rintro e w2 ⟨A2, c2, rfl, n2, hO2, hX2⟩
  have HX2 : Hid (Ext w w2) := Lib.hid (HX1.out.trans hX2)
  have HO := Lib.hid hO2
  clear hO2 n2 hX2
  go_wp2_with fail
  refine (kSameWords_eq A2 (some ⟨w2.heap.size, 0, none⟩) 3 c2 3 3 [0, 0, 0] _ ((OwnWord.sl HO.out).ext ((Ext.refl _).alloc _)) (three_new w2 0 0 0)).mono ?_
  rintro e w4 ⟨rfl, hX4⟩
  have HX4 : Hid (Ext w w4) := Lib.hid ((HX2.out.alloc _).trans hX4)
  clear hX4
  go_wp2_with fail
  refine (splits24_t 39 100000000 false 3 36 0 w4 ⟨by decide, by decide⟩ (by decide) (by decide)).mono ?_
  rintro e w5 ⟨rfl, hX5⟩
  have HX5 : Hid (Ext w w5) := Lib.hid (HX4.out.trans hX5)
  clear hX5
  go_wp2_with fail
  go_ret
  exact ⟨rfl, HX5.out⟩
end Go.Proofs.Ytlgjdeggbcgbnaa
