/- reward: has, with, placed, Check, Total, Keep, Split, New. Conditions stand in each lemma. -/
import Derived.Test.YtlgjdeggbcgbnaaRew2
import Derived.Test.YtlgjdeggbcgbnaaListWord
import Derived.Test.YtlgjdeggbcgbnaaFixShareMath
set_option linter.unusedVariables false
set_option linter.unusedSimpArgs false
namespace Go.Proofs.Ytlgjdeggbcgbnaa
open Go.RowKit Go.Shelf

/-- is there such an account -/
def hasV (n : Nat) (i : Int) : Int := if i < 0 ∨ (n : Int) ≤ i then 10 else 0
set_option maxRecDepth 100000 in
theorem rewHas_any (A : Option Addr) (n c : Nat) (i : Int) (hn : n ≤ 9223372036854775807) (w : World) :
    Calls Try.prog 39 #[.slice A n c, .int .i64 i] w fun e w' => e = .returned (.int .i64 (hasV n i)) ∧ Ext w w' := by
  unfold hasV
  by_cases h0 : i < 0
  · rw [if_pos (.inl h0)]
    go_enter Try.func39, Try.ntmps39
    go_wp2
    go_ret
    exact ⟨rfl, Ext.refl _⟩
  by_cases h1 : (n : Int) ≤ i
  · rw [if_pos (.inr h1)]
    have hd : decide ((n : Int) ≤ i) = true := by simpa using h1
    go_enter Try.func39, Try.ntmps39
    go_wp2
    go_ret
    exact ⟨rfl, Ext.refl _⟩
  · rw [if_neg (by omega)]
    go_enter Try.func39, Try.ntmps39
    go_wp2
    go_ret
    exact ⟨rfl, Ext.refl _⟩
set_option maxRecDepth 100000 in
theorem rewWith_any (A : Option Addr) (c : Nat) (l : List Int) (i : Nat) (x : Int) (w : World) (h : Sl w 1 A l.length c (iv .u64 l)) (hn : l.length < 1099511627776) (hnil : A = none → c = 0) (hi : i < l.length) :
    Calls Try.prog 41 #[.slice A l.length c, .int .i64 (i : Int), .int .u64 x] w (RetWord (l.set i x) w) := by
  have C := Lib.hid (wClone_any A l.length c l w h hn hnil)
  have HI := Lib.hid hi
  clear h hnil
  go_enter Try.func41, Try.ntmps41
  go_wp2_with fail
  refine C.out.mono ?_
  rintro e w1 ⟨B, d, rfl, hb, hO, hX⟩
  rcases hO.2 with ⟨h', h0⟩ | ⟨g, cap, cur, h', hbg, _⟩
  · exfalso
    injection h' with h1 h2 h3
    have := HI.out
    omega
  · injection h' with h1 h2 h3
    subst h1; subst h3
    have HO := Lib.hid hO
    have hil : (i : Int) < (l.length : Int) := by have := HI.out; omega
    have hi2 : i < (iv .u64 l).length := by rw [iv_len]; exact HI.out
    have c0 := (hO.cellAt i (by have := HI.out; omega)).trans (List.getElem?_eq_getElem hi2)
    have f0 := hO.frozenAt i
    have hs := (Sl.own hO).small
    generalize (iv .u64 l)[i] = u0 at c0
    have HX := Lib.hid hX
    have HG := Lib.hid hbg
    clear hO hX hi2 hb hbg C
    go_wp2_with fail
    go_ret
    have h4 := (World.ownsRow.stored HO.out i (.int .u64 x)).1
    have h5 : (iv .u64 l).set i (.int .u64 x) = iv .u64 (l.set i x) := by simp [iv, List.map_set]
    rw [h5] at h4
    have h6 : OwnWord (w1.setCell ⟨g, i, none⟩ (.int .u64 x)) w.heap.size (.slice (some ⟨g, 0, none⟩) (l.set i x).length d) (l.set i x).length (l.set i x) := by rw [List.length_set]; exact h4
    exact ⟨some ⟨g, 0, none⟩, d, by simp, fun h => by simp at h, h6, Below.setCell (p := ⟨g, i, none⟩) HX.out HG.out _⟩
/-- what a list is found to be -/
def chkR (l : List Int) : Int := if l.length < 1 ∨ 64 < l.length then 3 else (totV l).2
set_option maxRecDepth 100000 in
theorem rewCheck_any (A : Option Addr) (n c : Nat) (l : List Int) (w : World) (h : Sl w 1 A n c (iv .u64 l)) (hw : ∀ x ∈ l, Word x) :
    Calls Try.prog 18 #[.slice A n c] w fun e w' => e = .returned (.int .i64 (chkR l)) ∧ Ext w w' := by
  have hl := h.ilen
  have hs := h.small
  unfold chkR
  have C := Lib.hid (rewTot_any A n c l w h hw)
  clear h hw
  by_cases h0 : n < 1
  · rw [if_pos (.inl (by omega))]
    have hd : (n : Int) < 1 := by omega
    clear hl C
    go_enter Try.func18, Try.ntmps18
    go_wp2
    go_ret
    exact ⟨rfl, Ext.refl _⟩
  by_cases h1 : 64 < n
  · rw [if_pos (.inr (by omega))]
    have hd : ¬ (n : Int) < 1 := by omega
    have hd2 : (64 : Int) < (n : Int) := by omega
    clear hl C
    go_enter Try.func18, Try.ntmps18
    go_wp2
    go_ret
    exact ⟨rfl, Ext.refl _⟩
  · rw [if_neg (by omega)]
    have hd : ¬ (n : Int) < 1 := by omega
    have hd2 : ¬ (64 : Int) < (n : Int) := by omega
    clear hl
    go_enter Try.func18, Try.ntmps18
    go_wp2_with fail
    refine C.out.mono ?_
    rintro e w1 ⟨rfl, hX⟩
    go_wp2_with fail
    go_ret
    exact ⟨rfl, hX⟩
/-- what all are together, or what is wrong -/
def totR (l : List Int) : Int × Int := if chkR l ≠ 0 then (0, chkR l) else totV l
set_option maxRecDepth 100000 in
theorem rewTotal_any (A : Option Addr) (n c : Nat) (l : List Int) (w : World) (h : Sl w 1 A n c (iv .u64 l)) (hw : ∀ x ∈ l, Word x) :
    Calls Try.prog 16 #[.slice A n c] w fun e w' => e = .returned (.tuple #[.int .u64 (totR l).1, .int .i64 (totR l).2]) ∧ Ext w w' := by
  unfold totR
  have HS := Lib.hid h
  have HW := Lib.hid hw
  have C := Lib.hid (rewCheck_any A n c l w h hw)
  clear h hw
  obtain ⟨q, hq⟩ : ∃ q, q = chkR l := ⟨_, rfl⟩
  rw [← hq] at C ⊢
  clear hq
  by_cases h0 : q = 0
  · rw [if_neg (by simp [h0])]
    subst h0
    go_enter Try.func16, Try.ntmps16
    go_wp2_with fail
    refine C.out.mono ?_
    rintro e w1 ⟨rfl, hX⟩
    go_wp2_with fail
    refine (rewTot_any A n c l w1 (HS.out.ext hX) HW.out).mono ?_
    rintro e w2 ⟨rfl, hX2⟩
    go_wp2_with fail
    go_ret2
    exact ⟨rfl, hX.trans hX2⟩
  · rw [if_pos h0]
    have hd : (q != 0) = true := by simpa using h0
    go_enter Try.func16, Try.ntmps16
    go_wp2_with fail
    refine C.out.mono ?_
    rintro e w1 ⟨rfl, hX⟩
    go_wp2_with fail
    go_ret2
    exact ⟨rfl, hX⟩
/-- what part is kept -/
def kpV (r : Int) (own : Bool) : Int × Int := if 1000000000 < r then (0, 3) else if own = true then (0, 0) else (r, 0)
set_option maxRecDepth 100000 in
theorem rewKeep_any (r : Int) (own : Bool) (w : World) :
    Calls Try.prog 20 #[.int .u64 r, .bool own] w fun e w' => e = .returned (.tuple #[.int .u64 (kpV r own).1, .int .i64 (kpV r own).2]) ∧ Ext w w' := by
  unfold kpV
  by_cases h0 : 1000000000 < r
  · rw [if_pos h0]
    go_enter Try.func20, Try.ntmps20
    go_wp2
    go_ret2
    exact ⟨rfl, Ext.refl _⟩
  rw [if_neg h0]
  cases own
  · go_enter Try.func20, Try.ntmps20
    go_wp2
    go_ret2
    exact ⟨rfl, Ext.refl _⟩
  · go_enter Try.func20, Try.ntmps20
    go_wp2
    go_ret2
    exact ⟨rfl, Ext.refl _⟩
/-- how an amount is split -/
def splV (a r : Int) (own : Bool) : Int × Int × Int := if 1000000000 < r then (0, 0, 3) else (prt a (kpV r own).1, a - prt a (kpV r own).1, 0)
theorem kpV_ok {r : Int} {own : Bool} (h0 : 0 ≤ r) (h : ¬ 1000000000 < r) : (kpV r own).2 = 0 ∧ 0 ≤ (kpV r own).1 ∧ (kpV r own).1 ≤ 1000000000 := by
  unfold kpV
  rw [if_neg h]
  cases own <;> simp <;> omega
theorem fPart_b24 (a p : Int) (ha : Word a) (hp : 0 ≤ p) (h : p ≤ 1000000000) (w : World) :
    Calls Try.prog 44 #[.int .u64 a, .int .u64 p] w fun e w' => e = .returned (.tuple #[.int .u64 (prt a p), .int .i64 0]) ∧ Ext w w' := by
  obtain ⟨h1, h2⟩ := pa_prt ha hp h
  rw [← h1, ← h2]
  exact fPart_any a p ha ⟨hp, by omega⟩ w
set_option maxRecDepth 100000 in
theorem rewSplit_any (a r : Int) (own : Bool) (ha : Word a) (hr : 0 ≤ r) (w : World) :
    Calls Try.prog 22 #[.int .u64 a, .int .u64 r, .bool own] w fun e w' => e = .returned (.tuple #[.int .u64 (splV a r own).1, .int .u64 (splV a r own).2.1, .int .i64 (splV a r own).2.2]) ∧ Ext w w' := by
  unfold splV
  have C := Lib.hid (rewKeep_any r own w)
  by_cases h0 : 1000000000 < r
  · rw [if_pos h0]
    have e1 : kpV r own = (0, 3) := if_pos h0
    rw [e1] at C
    clear e1
    go_enter Try.func22, Try.ntmps22
    go_wp2_with fail
    refine C.out.mono ?_
    rintro e w1 ⟨rfl, hX⟩
    go_wp2_with fail
    refine bodyPost_ret (v := .tuple #[.int .u64 0, .int .u64 0, .int .i64 3]) (by simp [results, Try.results22]; try rfl) rfl ?_
    exact ⟨rfl, hX⟩
  · rw [if_neg h0]
    obtain ⟨e1, e2, e3⟩ := kpV_ok (own := own) hr h0
    obtain ⟨p, hp⟩ : ∃ p, p = (kpV r own).1 := ⟨_, rfl⟩
    rw [e1] at C
    rw [← hp] at e2 e3 C ⊢
    clear e1 hp
    have P := Lib.hid (fPart_b24 a p ha e2 e3)
    obtain ⟨b1, b2, _⟩ := prt_bounds ha.1 e2 e3
    obtain ⟨t, ht⟩ : ∃ t, t = prt a p := ⟨_, rfl⟩
    rw [← ht] at P b1 b2 ⊢
    obtain ⟨a1, a2⟩ := ha
    have g1 : 0 ≤ a - t := by omega
    have g2 : a - t < 18446744073709551616 := by omega
    clear ht e2 e3
    go_enter Try.func22, Try.ntmps22
    go_wp2_with fail
    refine C.out.mono ?_
    rintro e w1 ⟨rfl, hX⟩
    go_wp2_with fail
    refine (P.out w1).mono ?_
    rintro e w2 ⟨rfl, hX2⟩
    go_wp2_with fail
    refine bodyPost_ret (v := .tuple #[.int .u64 t, .int .u64 (a - t), .int .i64 0]) (by simp [results, Try.results22]; try rfl) rfl ?_
    exact ⟨rfl, hX.trans hX2⟩
/-- where an account is -/
def plV (l : List Int) (i : Int) : Int := if chkR l ≠ 0 then chkR l else hasV l.length i
set_option maxRecDepth 100000 in
theorem rewPlaced_any (A : Option Addr) (n c : Nat) (l : List Int) (i : Int) (w : World) (h : Sl w 1 A n c (iv .u64 l)) (hw : ∀ x ∈ l, Word x) :
    Calls Try.prog 38 #[.slice A n c, .int .i64 i, .func (.func 39) #[.slice A n c] #[]] w fun e w' => e = .returned (.int .i64 (plV l i)) ∧ Ext w w' := by
  unfold plV
  have hl := h.ilen
  have hs := h.small
  subst hl
  have C := Lib.hid (rewCheck_any A l.length c l w h hw)
  clear h hw
  obtain ⟨q, hq⟩ : ∃ q, q = chkR l := ⟨_, rfl⟩
  rw [← hq] at C ⊢
  clear hq
  by_cases h0 : q = 0
  · rw [if_neg (by simp [h0])]
    subst h0
    go_enter Try.func38, Try.ntmps38
    go_wp2_with fail
    refine C.out.mono ?_
    rintro e w1 ⟨rfl, hX⟩
    go_wp2_with fail
    refine (rewHas_any A l.length c i hs w1).mono ?_
    rintro e w2 ⟨rfl, hX2⟩
    go_wp2_with fail
    go_ret
    exact ⟨rfl, hX.trans hX2⟩
  · rw [if_pos h0]
    have hd : (q != 0) = true := by simpa using h0
    go_enter Try.func38, Try.ntmps38
    go_wp2_with fail
    refine C.out.mono ?_
    rintro e w1 ⟨rfl, hX⟩
    go_wp2_with fail
    go_ret
    exact ⟨rfl, hX⟩
end Go.Proofs.Ytlgjdeggbcgbnaa
