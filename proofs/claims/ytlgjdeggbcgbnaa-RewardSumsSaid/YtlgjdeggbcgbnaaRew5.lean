/- reward: the reference's answers. Conditions stand in each lemma. -/
import Derived.Test.YtlgjdeggbcgbnaaRew4
import Derived.Test.YtlgjdeggbcgbnaaFixRefF
import Derived.Test.YtlgjdeggbcgbnaaFixSum
set_option linter.unusedVariables false
set_option linter.unusedSimpArgs false
namespace Go.Proofs.Ytlgjdeggbcgbnaa
open Go.RowKit Go.Shelf

theorem sumL_set : ∀ {l : List Int} {k : Nat} {x : Int}, k < l.length → sumL (l.set k x) = sumL l - l.getD k 0 + x
  | [], k, x, h => by simp at h
  | a :: l, 0, x, h => by simp [sumL]; omega
  | a :: l, k + 1, x, h => by
    have ih := sumL_set (l := l) (k := k) (x := x) (by simpa using h)
    simp only [List.set_cons_succ, sumL, List.getD_cons_succ]
    omega
theorem word_set {l : List Int} {k : Nat} {x : Int} (h : ∀ y ∈ l, Word y) (hx : Word x) : ∀ y ∈ l.set k x, Word y := by
  intro y hy
  rcases List.mem_or_eq_of_mem_set hy with h1 | rfl
  · exact h y h1
  · exact hx
theorem chkR_sum {l : List Int} (h1 : ¬ l.length < 1) (h2 : ¬ 64 < l.length) : chkR l = if suE l ≠ 0 ∨ 4611686018427387904 < suN l then 12 else 0 := by
  unfold chkR totV suE suN
  rw [if_neg (by omega)]
  by_cases h3 : sumL l < 18446744073709551616
  · simp only [if_pos h3]
    by_cases h4 : sumL l ≤ 4611686018427387904
    · rw [if_pos h4, if_neg (by omega)]
    · rw [if_neg h4, if_pos (by omega)]
  · simp only [if_neg h3]
    rw [if_neg (by omega)]
    rfl
set_option maxRecDepth 100000 in
theorem rCheck24_any (A : Option Addr) (n c : Nat) (l : List Int) (w : World) (h : Sl w 1 A n c (iv .u64 l)) (hw : ∀ x ∈ l, Word x) :
    Calls Try.prog 19 #[.slice A n c] w fun e w' => e = .returned (.int .i64 (chkR l)) ∧ Ext w w' := by
  have hl := h.ilen
  have hs := h.small
  have C := Lib.hid (rSum_any A n c l w h hw)
  clear h hw
  by_cases h0 : n < 1
  · have e : chkR l = 3 := if_pos (.inl (by omega))
    rw [e]
    have hd : (n : Int) < 1 := by omega
    clear hl C e
    go_enter Try.func19, Try.ntmps19
    go_wp2
    go_ret
    exact ⟨rfl, Ext.refl _⟩
  by_cases h1 : 64 < n
  · have e : chkR l = 3 := if_pos (.inr (by omega))
    rw [e]
    have hd : ¬ (n : Int) < 1 := by omega
    have hd2 : (64 : Int) < (n : Int) := by omega
    clear hl C e
    go_enter Try.func19, Try.ntmps19
    go_wp2
    go_ret
    exact ⟨rfl, Ext.refl _⟩
  rw [chkR_sum (by omega) (by omega)]
  obtain ⟨s, hs2⟩ : ∃ s, s = suN l := ⟨_, rfl⟩
  obtain ⟨q, hq⟩ : ∃ q, q = suE l := ⟨_, rfl⟩
  rw [← hs2, ← hq] at C ⊢
  have hd : ¬ (n : Int) < 1 := by omega
  have hd2 : ¬ (64 : Int) < (n : Int) := by omega
  clear hl hs2 hq
  by_cases h2 : q = 0
  · subst h2
    by_cases h3 : 4611686018427387904 < s
    · rw [if_pos (.inr h3)]
      go_enter Try.func19, Try.ntmps19
      go_wp2_with fail
      refine C.out.mono ?_
      rintro e w1 ⟨rfl, rfl⟩
      go_wp2_with fail
      go_ret
      exact ⟨rfl, Ext.refl _⟩
    · rw [if_neg (by omega)]
      go_enter Try.func19, Try.ntmps19
      go_wp2_with fail
      refine C.out.mono ?_
      rintro e w1 ⟨rfl, rfl⟩
      go_wp2_with fail
      go_ret
      exact ⟨rfl, Ext.refl _⟩
  · rw [if_pos (.inl h2)]
    have hd3 : (q != 0) = true := by simpa using h2
    go_enter Try.func19, Try.ntmps19
    go_wp2_with fail
    refine C.out.mono ?_
    rintro e w1 ⟨rfl, rfl⟩
    go_wp2_with fail
    go_ret
    exact ⟨rfl, Ext.refl _⟩
theorem rCheck24_ev (A : Option Addr) (n c : Nat) (l : List Int) (q : Int) (w : World) (h : Sl w 1 A n c (iv .u64 l)) (hw : ∀ x ∈ l, Word x) (hq : chkR l = q) :
    Calls Try.prog 19 #[.slice A n c] w fun e w' => e = .returned (.int .i64 q) ∧ Ext w w' := by
  rw [← hq]; exact rCheck24_any A n c l w h hw
set_option maxRecDepth 100000 in
theorem rTotal24_any (A : Option Addr) (n c : Nat) (l : List Int) (w : World) (h : Sl w 1 A n c (iv .u64 l)) (hw : ∀ x ∈ l, Word x) :
    Calls Try.prog 17 #[.slice A n c] w fun e w' => e = .returned (.tuple #[.int .u64 (totR l).1, .int .i64 (totR l).2]) ∧ Ext w w' := by
  unfold totR
  have HS := Lib.hid h
  have HW := Lib.hid hw
  obtain ⟨q, hq⟩ : ∃ q, chkR l = q := ⟨_, rfl⟩
  have C := Lib.hid (rCheck24_ev A n c l q w h hw hq)
  clear h hw
  by_cases h0 : q = 0
  · subst h0
    obtain ⟨_, _, h3, h4⟩ := chkR_zero hq
    rw [if_neg (by simp [hq]), h3]
    have T := Lib.hid (show ∀ w1, Sl w1 1 A n c (iv .u64 l) → Calls Try.prog 43 #[.slice A n c] w1 fun e w' => e = .returned (.tuple #[.int .u64 (sumL l), .int .i64 0]) ∧ w1 = w' from fun w1 h => by
      have := rSum_any A n c l w1 h HW.out
      unfold suN suE at this
      rwa [if_pos (by omega), if_pos (by omega)] at this)
    clear hq h3 h4
    go_enter Try.func17, Try.ntmps17
    go_wp2_with fail
    refine C.out.mono ?_
    rintro e w1 ⟨rfl, hX⟩
    go_wp2_with fail
    refine (T.out w1 (HS.out.ext hX)).mono ?_
    rintro e w2 ⟨rfl, rfl⟩
    go_wp2_with fail
    go_ret2
    exact ⟨rfl, hX⟩
  · rw [hq, if_pos h0]
    have hd : (q != 0) = true := by simpa using h0
    clear hq
    go_enter Try.func17, Try.ntmps17
    go_wp2_with fail
    refine C.out.mono ?_
    rintro e w1 ⟨rfl, hX⟩
    go_wp2_with fail
    go_ret2
    exact ⟨rfl, hX⟩
set_option maxRecDepth 100000 in
theorem rKeep24_any (r : Int) (own : Bool) (w : World) :
    Calls Try.prog 21 #[.int .u64 r, .bool own] w fun e w' => e = .returned (.tuple #[.int .u64 (kpV r own).1, .int .i64 (kpV r own).2]) ∧ Ext w w' := by
  unfold kpV
  by_cases h0 : 1000000000 < r
  · rw [if_pos h0]
    go_enter Try.func21, Try.ntmps21
    go_wp2
    go_ret2
    exact ⟨rfl, Ext.refl _⟩
  rw [if_neg h0]
  cases own
  · go_enter Try.func21, Try.ntmps21
    go_wp2
    go_ret2
    exact ⟨rfl, Ext.refl _⟩
  · go_enter Try.func21, Try.ntmps21
    go_wp2
    go_ret2
    exact ⟨rfl, Ext.refl _⟩
theorem rPart_b24 (a p : Int) (ha : Word a) (hp : 0 ≤ p) (h : p ≤ 1000000000) (w : World) :
    Calls Try.prog 45 #[.int .u64 a, .int .u64 p] w fun e w' => e = .returned (.tuple #[.int .u64 (prt a p), .int .i64 0]) ∧ w = w' := by
  obtain ⟨h1, h2⟩ := pa_prt ha hp h
  rw [← h1, ← h2]
  exact rPart_any a p ha ⟨hp, by omega⟩ w
set_option maxRecDepth 100000 in
theorem rSplit24_any (a r : Int) (own : Bool) (ha : Word a) (hr : 0 ≤ r) (w : World) :
    Calls Try.prog 23 #[.int .u64 a, .int .u64 r, .bool own] w fun e w' => e = .returned (.tuple #[.int .u64 (splV a r own).1, .int .u64 (splV a r own).2.1, .int .i64 (splV a r own).2.2]) ∧ Ext w w' := by
  unfold splV
  have C := Lib.hid (rKeep24_any r own w)
  by_cases h0 : 1000000000 < r
  · rw [if_pos h0]
    have e1 : kpV r own = (0, 3) := if_pos h0
    rw [e1] at C
    clear e1
    go_enter Try.func23, Try.ntmps23
    go_wp2_with fail
    refine C.out.mono ?_
    rintro e w1 ⟨rfl, hX⟩
    go_wp2_with fail
    refine bodyPost_ret (v := .tuple #[.int .u64 0, .int .u64 0, .int .i64 3]) (by simp [results, Try.results23]; try rfl) rfl ?_
    exact ⟨rfl, hX⟩
  · rw [if_neg h0]
    obtain ⟨e1, e2, e3⟩ := kpV_ok (own := own) hr h0
    obtain ⟨p, hp⟩ : ∃ p, p = (kpV r own).1 := ⟨_, rfl⟩
    rw [e1] at C
    rw [← hp] at e2 e3 C ⊢
    clear e1 hp
    have P := Lib.hid (rPart_b24 a p ha e2 e3)
    obtain ⟨b1, b2, _⟩ := prt_bounds ha.1 e2 e3
    obtain ⟨t, ht⟩ : ∃ t, t = prt a p := ⟨_, rfl⟩
    rw [← ht] at P b1 b2 ⊢
    obtain ⟨a1, a2⟩ := ha
    have g1 : 0 ≤ a - t := by omega
    have g2 : a - t < 18446744073709551616 := by omega
    clear ht e2 e3
    go_enter Try.func23, Try.ntmps23
    go_wp2_with fail
    refine C.out.mono ?_
    rintro e w1 ⟨rfl, hX⟩
    go_wp2_with fail
    refine (P.out w1).mono ?_
    rintro e w2 ⟨rfl, rfl⟩
    go_wp2_with fail
    refine bodyPost_ret (v := .tuple #[.int .u64 t, .int .u64 (a - t), .int .i64 0]) (by simp [results, Try.results23]; try rfl) rfl ?_
    exact ⟨rfl, hX⟩
set_option maxRecDepth 100000 in
theorem rNew24_any (n : Int) (w : World) : Calls Try.prog 33 #[.int .i64 n] w (RetWs (newV n).1 [.int .i64 (newV n).2] w) := by
  obtain ⟨i0, hi, hz0, hz1, hz2⟩ := info_parts infoWord
  unfold newV
  by_cases h0 : n < 1
  · rw [if_pos (.inl h0)]
    go_enter Try.func33, Try.ntmps33
    go_wp2
    go_ret2
    exact RetWs.nil (xs := [.int .i64 3]) (Ext.refl _)
  by_cases h1 : 64 < n
  · rw [if_pos (.inr h1)]
    go_enter Try.func33, Try.ntmps33
    go_wp2
    go_ret2
    exact RetWs.nil (xs := [.int .i64 3]) (Ext.refl _)
  rw [if_neg (by omega)]
  obtain ⟨m, rfl⟩ : ∃ m : Nat, n = m := ⟨n.toNat, by omega⟩
  obtain ⟨w1, h1', h2', h3'⟩ := make_tc hi hz0 hz1 hz2 m (by omega) w
  rw [Int.toNat_natCast]
  have hm0 : m < 1099511627776 := by omega
  have R := Lib.hid (show RetWs (List.replicate m 0) [.int .i64 0] w (.returned (.tuple (.slice (some ⟨w.heap.size, 0, none⟩) m m :: [.int .i64 0]).toArray)) w1 from RetWs.mk h2' h3' (by simp))
  clear h2' h3'
  go_enter Try.func33, Try.ntmps33
  go_wp2
  go_ret2
  exact R.out
theorem plV_split {l : List Int} {i q : Int} (h : plV l i = q) : (chkR l ≠ 0 ∧ chkR l = q) ∨ (chkR l = 0 ∧ q = 10 ∧ i < 0) ∨ (chkR l = 0 ∧ q = 10 ∧ (l.length : Int) ≤ i ∧ 0 ≤ i) ∨ (chkR l = 0 ∧ q = 0 ∧ 0 ≤ i ∧ i < l.length) := by
  unfold plV hasV at h
  by_cases h0 : chkR l = 0
  · rw [if_neg (by simp [h0])] at h
    by_cases h1 : i < 0
    · rw [if_pos (.inl h1)] at h
      exact .inr (.inl ⟨h0, h.symm, h1⟩)
    · by_cases h2 : (l.length : Int) ≤ i
      · rw [if_pos (.inr h2)] at h
        exact .inr (.inr (.inl ⟨h0, h.symm, h2, by omega⟩))
      · rw [if_neg (by omega)] at h
        exact .inr (.inr (.inr ⟨h0, h.symm, by omega, by omega⟩))
  · rw [if_pos h0] at h
    exact .inl ⟨h0, h⟩
end Go.Proofs.Ytlgjdeggbcgbnaa
