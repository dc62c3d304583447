/- What the document's answers for share are. Conditions stand in each lemma. -/
import Derived.Test.YthaknigljjnnaaaShareS
set_option linter.unusedVariables false
set_option linter.unusedSimpArgs false
namespace Go.Proofs.Ythaknigljjnnaaa
open Go.RowKit

theorem pCheck_any (t s : Int) (w : World) :
    Calls Try.prog 44 #[.agg #[.int .u64 t, .int .u64 s]] w fun r w' => r = .returned (.int .i64 (chkE t s)) ∧ Ext w w' := by
  by_cases h1 : s < t
  · have e : chkE t s = 9 := if_pos h1
    rw [e]
    clear e
    go_enter Try.func44, Try.ntmps44
    go_wp2
    go_ret
    exact ⟨rfl, (by repeat (first | assumption | exact Ext.refl _ | refine Ext.drew ?_ | refine Ext.drewN ?_ _ | refine Ext.alloc ?_ _ | refine Ext.setCell ?_ (by first | omega | (simp; done) | (simp; omega)) _ | refine Ext.trans ?_ (by assumption)))⟩
  · by_cases h2 : 4611686018427387904 < t
    · have e : chkE t s = 12 := by unfold chkE; rw [if_neg h1, if_pos h2]
      rw [e]
      clear e
      go_enter Try.func44, Try.ntmps44
      go_wp2
      go_ret
      exact ⟨rfl, (by repeat (first | assumption | exact Ext.refl _ | refine Ext.drew ?_ | refine Ext.drewN ?_ _ | refine Ext.alloc ?_ _ | refine Ext.setCell ?_ (by first | omega | (simp; done) | (simp; omega)) _ | refine Ext.trans ?_ (by assumption)))⟩
    · by_cases h3 : t = 0
      · subst h3
        by_cases h4 : s = 0
        · have e : chkE 0 s = 0 := by unfold chkE; rw [if_neg h1, if_neg h2, if_pos rfl, if_pos h4]
          rw [e]
          subst h4
          clear e
          go_enter Try.func44, Try.ntmps44
          go_wp2
          go_ret
          exact ⟨rfl, (by repeat (first | assumption | exact Ext.refl _ | refine Ext.drew ?_ | refine Ext.drewN ?_ _ | refine Ext.alloc ?_ _ | refine Ext.setCell ?_ (by first | omega | (simp; done) | (simp; omega)) _ | refine Ext.trans ?_ (by assumption)))⟩
        · have e : chkE 0 s = 11 := by unfold chkE; rw [if_neg h1, if_neg h2, if_pos rfl, if_neg h4]
          rw [e]
          have h5 : (s == 0) = false := by simpa using h4
          clear e
          go_enter Try.func44, Try.ntmps44
          go_wp2
          go_ret
          exact ⟨rfl, (by repeat (first | assumption | exact Ext.refl _ | refine Ext.drew ?_ | refine Ext.drewN ?_ _ | refine Ext.alloc ?_ _ | refine Ext.setCell ?_ (by first | omega | (simp; done) | (simp; omega)) _ | refine Ext.trans ?_ (by assumption)))⟩
      · have e : chkE t s = 0 := by unfold chkE; rw [if_neg h1, if_neg h2, if_neg h3]
        rw [e]
        have h5 : (t == 0) = false := by simpa using h3
        clear e
        go_enter Try.func44, Try.ntmps44
        go_wp2
        go_ret
        exact ⟨rfl, (by repeat (first | assumption | exact Ext.refl _ | refine Ext.drew ?_ | refine Ext.drewN ?_ _ | refine Ext.alloc ?_ _ | refine Ext.setCell ?_ (by first | omega | (simp; done) | (simp; omega)) _ | refine Ext.trans ?_ (by assumption)))⟩
theorem pWorth_any (t s x : Int) (ht : Word t) (hs : Word s) (hx : Word x) (w : World) :
    Calls Try.prog 85 #[.agg #[.int .u64 t, .int .u64 s], .int .u64 x] w fun r w' => r = .returned (.int .u64 (worV t s x)) ∧ Ext w w' := by
  by_cases hz : s = 0
  · have e : worV t s x = 0 := if_pos hz
    rw [e]
    subst hz
    clear e ht hs hx
    go_enter Try.func85, Try.ntmps85
    go_wp2
    go_ret
    exact ⟨rfl, (by repeat (first | assumption | exact Ext.refl _ | refine Ext.drew ?_ | refine Ext.drewN ?_ _ | refine Ext.alloc ?_ _ | refine Ext.setCell ?_ (by first | omega | (simp; done) | (simp; omega)) _ | refine Ext.trans ?_ (by assumption)))⟩
  · have e : worV t s x = mdN x t s := if_neg hz
    rw [e]
    clear e
    have C := Lib.hid (rMulDiv_any x t s hx ht hs)
    have hz' : (s == 0) = false := by simpa using hz
    clear ht hs hx hz
    go_enter Try.func85, Try.ntmps85
    go_wp2_with (go_at_call 87; refine (C.out _).mono ?_; rintro e w' ⟨rfl, rfl⟩)
    go_ret
    exact ⟨rfl, (by repeat (first | assumption | exact Ext.refl _ | refine Ext.drew ?_ | refine Ext.drewN ?_ _ | refine Ext.alloc ?_ _ | refine Ext.setCell ?_ (by first | omega | (simp; done) | (simp; omega)) _ | refine Ext.trans ?_ (by assumption)))⟩
set_option maxHeartbeats 2000000 in
theorem pValue_bad (t s x c : Int) (hc : ¬ c = 0) (CK : Hid (∀ w, Calls Try.prog 44 #[.agg #[.int .u64 t, .int .u64 s]] w fun r w' => r = .returned (.int .i64 c) ∧ Ext w w')) (w : World) :
    Calls Try.prog 40 #[.agg #[.int .u64 t, .int .u64 s], .int .u64 x] w fun r w' => r = .returned (.tuple #[.int .u64 0, .int .i64 c]) ∧ Ext w w' := by
  go_enter Try.func40, Try.ntmps40
  go_wp2_with (first
    | (go_at_call 44; refine (CK.out _).mono ?_; rintro r w1 ⟨rfl, hx1⟩
       have hs1 := hx1.size
       simp at hs1
       have b1 : w1.cell? ⟨w.heap.size, 0, none⟩ = some (.int .u64 t) := hx1.has (by simp [go_sem])
       have b2 : w1.cell? ⟨w.heap.size, 1, none⟩ = some (.int .u64 s) := hx1.has (by simp [go_sem])))
  go_ret2
  exact ⟨rfl, (by repeat (first | assumption | exact Ext.refl _ | refine Ext.drew ?_ | refine Ext.drewN ?_ _ | refine Ext.alloc ?_ _ | refine Ext.setCell ?_ (by first | omega | (simp; done) | (simp; omega)) _ | refine Ext.trans ?_ (by assumption)))⟩
set_option maxHeartbeats 2000000 in
theorem pValue_poor (t s x : Int) (h : s < x) (CK : Hid (∀ w, Calls Try.prog 44 #[.agg #[.int .u64 t, .int .u64 s]] w fun r w' => r = .returned (.int .i64 0) ∧ Ext w w')) (w : World) :
    Calls Try.prog 40 #[.agg #[.int .u64 t, .int .u64 s], .int .u64 x] w fun r w' => r = .returned (.tuple #[.int .u64 0, .int .i64 13]) ∧ Ext w w' := by
  go_enter Try.func40, Try.ntmps40
  go_wp2_with (first
    | (go_at_call 44; refine (CK.out _).mono ?_; rintro r w1 ⟨rfl, hx1⟩
       have hs1 := hx1.size
       simp at hs1
       have b1 : w1.cell? ⟨w.heap.size, 0, none⟩ = some (.int .u64 t) := hx1.has (by simp [go_sem])
       have b2 : w1.cell? ⟨w.heap.size, 1, none⟩ = some (.int .u64 s) := hx1.has (by simp [go_sem])))
  go_ret2
  exact ⟨rfl, (by repeat (first | assumption | exact Ext.refl _ | refine Ext.drew ?_ | refine Ext.drewN ?_ _ | refine Ext.alloc ?_ _ | refine Ext.setCell ?_ (by first | omega | (simp; done) | (simp; omega)) _ | refine Ext.trans ?_ (by assumption)))⟩
set_option maxHeartbeats 2000000 in
theorem pValue_ok (t s x n : Int) (h : ¬ s < x) (CK : Hid (∀ w, Calls Try.prog 44 #[.agg #[.int .u64 t, .int .u64 s]] w fun r w' => r = .returned (.int .i64 0) ∧ Ext w w')) (C1 : Hid (∀ w, Calls Try.prog 85 #[.agg #[.int .u64 t, .int .u64 s], .int .u64 x] w fun r w' => r = .returned (.int .u64 n) ∧ Ext w w')) (w : World) :
    Calls Try.prog 40 #[.agg #[.int .u64 t, .int .u64 s], .int .u64 x] w fun r w' => r = .returned (.tuple #[.int .u64 n, .int .i64 0]) ∧ Ext w w' := by
  go_enter Try.func40, Try.ntmps40
  go_wp2_with (first
    | (go_at_call 44; refine (CK.out _).mono ?_; rintro r w1 ⟨rfl, hx1⟩
       have hs1 := hx1.size
       simp at hs1
       have b1 : w1.cell? ⟨w.heap.size, 0, none⟩ = some (.int .u64 t) := hx1.has (by simp [go_sem])
       have b2 : w1.cell? ⟨w.heap.size, 1, none⟩ = some (.int .u64 s) := hx1.has (by simp [go_sem]))
    | (go_at_call 85; refine (C1.out _).mono ?_; rintro r w2 ⟨rfl, hx2⟩))
  go_ret2
  exact ⟨rfl, (by repeat (first | assumption | exact Ext.refl _ | refine Ext.drew ?_ | refine Ext.drewN ?_ _ | refine Ext.alloc ?_ _ | refine Ext.setCell ?_ (by first | omega | (simp; done) | (simp; omega)) _ | refine Ext.trans ?_ (by assumption)))⟩
set_option maxHeartbeats 2000000 in
theorem pPrice_bad (t s x c : Int) (hc : ¬ c = 0) (CK : Hid (∀ w, Calls Try.prog 44 #[.agg #[.int .u64 t, .int .u64 s]] w fun r w' => r = .returned (.int .i64 c) ∧ Ext w w')) (w : World) :
    Calls Try.prog 42 #[.agg #[.int .u64 t, .int .u64 s], .int .u64 x] w fun r w' => r = .returned (.tuple #[.int .u64 0, .int .i64 c]) ∧ Ext w w' := by
  go_enter Try.func42, Try.ntmps42
  go_wp2_with (first
    | (go_at_call 44; refine (CK.out _).mono ?_; rintro r w1 ⟨rfl, hx1⟩
       have hs1 := hx1.size
       simp at hs1
       have b1 : w1.cell? ⟨w.heap.size, 0, none⟩ = some (.int .u64 t) := hx1.has (by simp [go_sem])
       have b2 : w1.cell? ⟨w.heap.size, 1, none⟩ = some (.int .u64 s) := hx1.has (by simp [go_sem])))
  go_ret2
  exact ⟨rfl, (by repeat (first | assumption | exact Ext.refl _ | refine Ext.drew ?_ | refine Ext.drewN ?_ _ | refine Ext.alloc ?_ _ | refine Ext.setCell ?_ (by first | omega | (simp; done) | (simp; omega)) _ | refine Ext.trans ?_ (by assumption)))⟩
set_option maxHeartbeats 2000000 in
theorem pPrice_one (t x : Int)  (CK : Hid (∀ w, Calls Try.prog 44 #[.agg #[.int .u64 t, .int .u64 0]] w fun r w' => r = .returned (.int .i64 0) ∧ Ext w w')) (w : World) :
    Calls Try.prog 42 #[.agg #[.int .u64 t, .int .u64 0], .int .u64 x] w fun r w' => r = .returned (.tuple #[.int .u64 x, .int .i64 0]) ∧ Ext w w' := by
  go_enter Try.func42, Try.ntmps42
  go_wp2_with (first
    | (go_at_call 44; refine (CK.out _).mono ?_; rintro r w1 ⟨rfl, hx1⟩
       have hs1 := hx1.size
       simp at hs1
       have b1 : w1.cell? ⟨w.heap.size, 0, none⟩ = some (.int .u64 t) := hx1.has (by simp [go_sem])
       have b2 : w1.cell? ⟨w.heap.size, 1, none⟩ = some (.int .u64 0) := hx1.has (by simp [go_sem])))
  go_ret2
  exact ⟨rfl, (by repeat (first | assumption | exact Ext.refl _ | refine Ext.drew ?_ | refine Ext.drewN ?_ _ | refine Ext.alloc ?_ _ | refine Ext.setCell ?_ (by first | omega | (simp; done) | (simp; omega)) _ | refine Ext.trans ?_ (by assumption)))⟩
set_option maxHeartbeats 2000000 in
theorem pPrice_ok (t s x n e : Int) (h : (s == 0) = false) (CK : Hid (∀ w, Calls Try.prog 44 #[.agg #[.int .u64 t, .int .u64 s]] w fun r w' => r = .returned (.int .i64 0) ∧ Ext w w')) (C1 : Hid (∀ w, Calls Try.prog 87 #[.int .u64 x, .int .u64 s, .int .u64 t] w fun r w' => r = .returned (.tuple #[.int .u64 n, .int .i64 e]) ∧ w = w')) (w : World) :
    Calls Try.prog 42 #[.agg #[.int .u64 t, .int .u64 s], .int .u64 x] w fun r w' => r = .returned (.tuple #[.int .u64 n, .int .i64 e]) ∧ Ext w w' := by
  go_enter Try.func42, Try.ntmps42
  go_wp2_with (first
    | (go_at_call 44; refine (CK.out _).mono ?_; rintro r w1 ⟨rfl, hx1⟩
       have hs1 := hx1.size
       simp at hs1
       have b1 : w1.cell? ⟨w.heap.size, 0, none⟩ = some (.int .u64 t) := hx1.has (by simp [go_sem])
       have b2 : w1.cell? ⟨w.heap.size, 1, none⟩ = some (.int .u64 s) := hx1.has (by simp [go_sem]))
    | (go_at_call 87; refine (C1.out _).mono ?_; rintro r w2 ⟨rfl, rfl⟩))
  go_ret2
  exact ⟨rfl, (by repeat (first | assumption | exact Ext.refl _ | refine Ext.drew ?_ | refine Ext.drewN ?_ _ | refine Ext.alloc ?_ _ | refine Ext.setCell ?_ (by first | omega | (simp; done) | (simp; omega)) _ | refine Ext.trans ?_ (by assumption)))⟩
theorem mdN_err {a b c : Int} (h : mdE a b c ≠ 0) : mdN a b c = 0 := by
  unfold mdE at h
  unfold mdN
  by_cases hc : c = 0
  · rw [if_pos hc]
  · rw [if_neg hc] at h ⊢
    by_cases h1 : a * b / c < 18446744073709551616
    · rw [if_pos h1] at h; exact absurd rfl h
    · rw [if_neg h1]
theorem pValue_any (t s x : Int) (ht : Word t) (hs : Word s) (hx : Word x) (w : World) :
    Calls Try.prog 40 #[.agg #[.int .u64 t, .int .u64 s], .int .u64 x] w fun r w' => r = .returned (.tuple #[.int .u64 (valN t s x), .int .i64 (valE t s x)]) ∧ Ext w w' := by
  have CK := pCheck_any t s
  unfold valN
  by_cases hc : chkE t s = 0
  · rw [hc] at CK
    by_cases h : s < x
    · have e : valE t s x = 13 := by unfold valE; rw [if_pos hc, if_pos (by simpa using h)]
      rw [e, if_neg (by decide)]
      exact pValue_poor t s x h CK w
    · have e : valE t s x = 0 := by unfold valE; rw [if_pos hc, if_neg (by simpa using h)]
      rw [e, if_pos rfl]
      exact pValue_ok t s x _ h CK (pWorth_any t s x ht hs hx) w
  · have e : valE t s x = chkE t s := if_neg hc
    rw [e, if_neg hc]
    exact pValue_bad t s x _ hc CK w
theorem pPrice_any (t s x : Int) (ht : Word t) (hs : Word s) (hx : Word x) (w : World) :
    Calls Try.prog 42 #[.agg #[.int .u64 t, .int .u64 s], .int .u64 x] w fun r w' => r = .returned (.tuple #[.int .u64 (pccN t s x), .int .i64 (pccE t s x)]) ∧ Ext w w' := by
  have CK := pCheck_any t s
  unfold pccN
  by_cases hc : chkE t s = 0
  · obtain ⟨k1, k2, k3⟩ := chk_ok ht hs hc
    rw [hc] at CK
    have e : pccE t s x = priE t s x := if_pos hc
    rw [e]
    by_cases h : s = 0
    · have h0 : t = 0 := by have := ht.1; omega
      have e1 : priE t s x = 0 := if_pos h0
      have e2 : priN t s x = x := if_pos h0
      rw [e1, e2, if_pos rfl]
      subst h
      exact pPrice_one t x CK w
    · have h0 : ¬ t = 0 := fun h0 => h (k3 h0)
      have e1 : priE t s x = mdE x s t := if_neg h0
      have e2 : priN t s x = mdN x s t := if_neg h0
      have H := pPrice_ok t s x _ _ (by simpa using h) CK (rMulDiv_any x s t hx hs ht) w
      rw [e1, e2]
      by_cases h1 : mdE x s t = 0
      · rw [if_pos h1]; exact H
      · rw [if_neg h1]; rw [mdN_err h1] at H; exact H
  · have e : pccE t s x = chkE t s := if_neg hc
    rw [e, if_neg hc]
    exact pPrice_bad t s x _ hc CK w
end Go.Proofs.Ythaknigljjnnaaa
