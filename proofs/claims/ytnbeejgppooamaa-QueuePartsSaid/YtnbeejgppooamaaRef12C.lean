/- distraintref12: within, Check. Conditions stand in each lemma. -/
import Derived.Test.YtnbeejgppooamaaStampB
set_option linter.unusedVariables false
set_option linter.unusedSimpArgs false
namespace Go.Proofs.Ytnbeejgppooamaa
open Go.RowKit
theorem own_low {w : World} {base b : Nat} {e : TypeId} {sz n : Nat} {v : Value} {xs : List Value} (h : w.ownsRow base e sz v n xs) (hb : b ≤ base) : w.ownsRow b e sz v n xs := by
  refine ⟨h.1, ?_⟩
  rcases h.2 with h2 | ⟨q, cap, cur, e', hq, rest⟩
  · exact .inl h2
  · exact .inr ⟨q, cap, cur, e', Nat.le_trans hb hq, rest⟩

theorem rwithin_any (n lo hi : Int) (b : Bool) (hb : outB n lo hi = !b) (w : World) :
    Calls Try.prog 80 #[.int .i64 n, .int .i64 lo, .int .i64 hi] w fun r w' => r = .returned (.bool b) ∧ w = w' := by
  unfold outB at hb
  by_cases h1 : n < lo
  · obtain rfl : b = false := by simp [h1] at hb; exact hb
    have h1' : decide (lo ≤ n) = false := decide_eq_false (by omega)
    clear h1 hb
    go_enter Try.func80, Try.ntmps80
    go_wp2
    go_ret
    exact ⟨rfl, rfl⟩
  · obtain rfl : b = decide (n ≤ hi) := by
      have e : decide (hi < n) = !decide (n ≤ hi) := by rw [Bool.eq_iff_iff]; simp
      simp only [decide_eq_false h1, Bool.false_or, e] at hb
      cases b <;> simp_all
    have h1' : decide (lo ≤ n) = true := decide_eq_true (by omega)
    generalize hq : decide (n ≤ hi) = q
    clear h1 hb
    go_enter Try.func80, Try.ntmps80
    go_wp2
    go_ret
    exact ⟨rfl, rfl⟩
theorem rwithin_t (n lo hi : Int) (hb : outB n lo hi = false) (w : World) :
    Calls Try.prog 80 #[.int .i64 n, .int .i64 lo, .int .i64 hi] w fun r w' => r = .returned (.bool true) ∧ w = w' := rwithin_any n lo hi true hb w
theorem rwithin_f (n lo hi : Int) (hb : outB n lo hi = true) (w : World) :
    Calls Try.prog 80 #[.int .i64 n, .int .i64 lo, .int .i64 hi] w fun r w' => r = .returned (.bool false) ∧ w = w' := rwithin_any n lo hi false hb w
set_option maxRecDepth 100000 in
set_option maxHeartbeats 1000000 in
theorem rCheck12_o0 (V S P F : Int) (h0 : outB V 0 31 = true)  (w : World) :
    Calls Try.prog 78 #[.agg #[.int .i64 V, .int .i64 S, .int .i64 P, .int .i64 F]] w fun r w' => r = .returned (.int .i64 3) ∧ Ext w w' := by
  have H0 := Lib.hid h0
  clear h0
  go_enter Try.func78, Try.ntmps78
  go_wp2_with fail
  (with_reducible refine (rwithin_f V 0 31 H0.out _).mono ?_)
  rintro e w_1 ⟨rfl, rfl⟩
  go_wp2_with fail
  go_ret
  exact ⟨rfl, (by repeat (first | with_reducible exact Ext.refl w | with_reducible refine Ext.drew ?_ | with_reducible refine Ext.drewN ?_ _ | with_reducible refine Ext.alloc ?_ _ | with_reducible refine Ext.setCell ?_ (by first | omega | (simp; done) | (simp; omega)) _))⟩
set_option maxRecDepth 100000 in
set_option maxHeartbeats 1000000 in
theorem rCheck12_o1 (V S P F : Int) (h0 : outB V 0 31 = false) (h1 : outB S 1 4294967296 = true)  (w : World) :
    Calls Try.prog 78 #[.agg #[.int .i64 V, .int .i64 S, .int .i64 P, .int .i64 F]] w fun r w' => r = .returned (.int .i64 3) ∧ Ext w w' := by
  have H0 := Lib.hid h0
  have H1 := Lib.hid h1
  clear h0 h1
  go_enter Try.func78, Try.ntmps78
  go_wp2_with fail
  (with_reducible refine (rwithin_t V 0 31 H0.out _).mono ?_)
  rintro e w_1 ⟨rfl, rfl⟩
  go_wp2_with fail
  (with_reducible refine (rwithin_f S 1 4294967296 H1.out _).mono ?_)
  rintro e w_2 ⟨rfl, rfl⟩
  go_wp2_with fail
  go_ret
  exact ⟨rfl, (by repeat (first | with_reducible exact Ext.refl w | with_reducible refine Ext.drew ?_ | with_reducible refine Ext.drewN ?_ _ | with_reducible refine Ext.alloc ?_ _ | with_reducible refine Ext.setCell ?_ (by first | omega | (simp; done) | (simp; omega)) _))⟩
set_option maxRecDepth 100000 in
set_option maxHeartbeats 1000000 in
theorem rCheck12_o2 (V S P F : Int) (h0 : outB V 0 31 = false) (h1 : outB S 1 4294967296 = false) (h2 : outB P (-1) 31 = true)  (w : World) :
    Calls Try.prog 78 #[.agg #[.int .i64 V, .int .i64 S, .int .i64 P, .int .i64 F]] w fun r w' => r = .returned (.int .i64 3) ∧ Ext w w' := by
  have H0 := Lib.hid h0
  have H1 := Lib.hid h1
  have H2 := Lib.hid h2
  clear h0 h1 h2
  go_enter Try.func78, Try.ntmps78
  go_wp2_with fail
  (with_reducible refine (rwithin_t V 0 31 H0.out _).mono ?_)
  rintro e w_1 ⟨rfl, rfl⟩
  go_wp2_with fail
  (with_reducible refine (rwithin_t S 1 4294967296 H1.out _).mono ?_)
  rintro e w_2 ⟨rfl, rfl⟩
  go_wp2_with fail
  (with_reducible refine (rwithin_f P (-1) 31 H2.out _).mono ?_)
  rintro e w_3 ⟨rfl, rfl⟩
  go_wp2_with fail
  go_ret
  exact ⟨rfl, (by repeat (first | with_reducible exact Ext.refl w | with_reducible refine Ext.drew ?_ | with_reducible refine Ext.drewN ?_ _ | with_reducible refine Ext.alloc ?_ _ | with_reducible refine Ext.setCell ?_ (by first | omega | (simp; done) | (simp; omega)) _))⟩
set_option maxRecDepth 100000 in
set_option maxHeartbeats 1000000 in
theorem rCheck12_o3 (V S P F : Int) (h0 : outB V 0 31 = false) (h1 : outB S 1 4294967296 = false) (h2 : outB P (-1) 31 = false) (h3 : outB F 0 4294967296 = true)  (w : World) :
    Calls Try.prog 78 #[.agg #[.int .i64 V, .int .i64 S, .int .i64 P, .int .i64 F]] w fun r w' => r = .returned (.int .i64 3) ∧ Ext w w' := by
  have H0 := Lib.hid h0
  have H1 := Lib.hid h1
  have H2 := Lib.hid h2
  have H3 := Lib.hid h3
  clear h0 h1 h2 h3
  go_enter Try.func78, Try.ntmps78
  go_wp2_with fail
  (with_reducible refine (rwithin_t V 0 31 H0.out _).mono ?_)
  rintro e w_1 ⟨rfl, rfl⟩
  go_wp2_with fail
  (with_reducible refine (rwithin_t S 1 4294967296 H1.out _).mono ?_)
  rintro e w_2 ⟨rfl, rfl⟩
  go_wp2_with fail
  (with_reducible refine (rwithin_t P (-1) 31 H2.out _).mono ?_)
  rintro e w_3 ⟨rfl, rfl⟩
  go_wp2_with fail
  (with_reducible refine (rwithin_f F 0 4294967296 H3.out _).mono ?_)
  rintro e w_4 ⟨rfl, rfl⟩
  go_wp2_with fail
  go_ret
  exact ⟨rfl, (by repeat (first | with_reducible exact Ext.refl w | with_reducible refine Ext.drew ?_ | with_reducible refine Ext.drewN ?_ _ | with_reducible refine Ext.alloc ?_ _ | with_reducible refine Ext.setCell ?_ (by first | omega | (simp; done) | (simp; omega)) _))⟩
set_option maxRecDepth 100000 in
set_option maxHeartbeats 1000000 in
theorem rCheck12_arg (V S P F : Int) (h0 : outB V 0 31 = false) (h1 : outB S 1 4294967296 = false) (h2 : outB P (-1) 31 = false) (h3 : outB F 0 4294967296 = false) (q0 : (P == V) = true) (w : World) :
    Calls Try.prog 78 #[.agg #[.int .i64 V, .int .i64 S, .int .i64 P, .int .i64 F]] w fun r w' => r = .returned (.int .i64 2) ∧ Ext w w' := by
  have H0 := Lib.hid h0
  have H1 := Lib.hid h1
  have H2 := Lib.hid h2
  have H3 := Lib.hid h3
  clear h0 h1 h2 h3
  go_enter Try.func78, Try.ntmps78
  go_wp2_with fail
  (with_reducible refine (rwithin_t V 0 31 H0.out _).mono ?_)
  rintro e w_1 ⟨rfl, rfl⟩
  go_wp2_with fail
  (with_reducible refine (rwithin_t S 1 4294967296 H1.out _).mono ?_)
  rintro e w_2 ⟨rfl, rfl⟩
  go_wp2_with fail
  (with_reducible refine (rwithin_t P (-1) 31 H2.out _).mono ?_)
  rintro e w_3 ⟨rfl, rfl⟩
  go_wp2_with fail
  (with_reducible refine (rwithin_t F 0 4294967296 H3.out _).mono ?_)
  rintro e w_4 ⟨rfl, rfl⟩
  go_wp2_with fail
  go_ret
  exact ⟨rfl, (by repeat (first | with_reducible exact Ext.refl w | with_reducible refine Ext.drew ?_ | with_reducible refine Ext.drewN ?_ _ | with_reducible refine Ext.alloc ?_ _ | with_reducible refine Ext.setCell ?_ (by first | omega | (simp; done) | (simp; omega)) _))⟩
set_option maxRecDepth 100000 in
set_option maxHeartbeats 1000000 in
theorem rCheck12_st1 (V S P F : Int) (h0 : outB V 0 31 = false) (h1 : outB S 1 4294967296 = false) (h2 : outB P (-1) 31 = false) (h3 : outB F 0 4294967296 = false) (q0 : (P == V) = false) (q1 : (P == -1) = true) (q2 : (F == 0) = false) (w : World) :
    Calls Try.prog 78 #[.agg #[.int .i64 V, .int .i64 S, .int .i64 P, .int .i64 F]] w fun r w' => r = .returned (.int .i64 11) ∧ Ext w w' := by
  have H0 := Lib.hid h0
  have H1 := Lib.hid h1
  have H2 := Lib.hid h2
  have H3 := Lib.hid h3
  clear h0 h1 h2 h3
  go_enter Try.func78, Try.ntmps78
  go_wp2_with fail
  (with_reducible refine (rwithin_t V 0 31 H0.out _).mono ?_)
  rintro e w_1 ⟨rfl, rfl⟩
  go_wp2_with fail
  (with_reducible refine (rwithin_t S 1 4294967296 H1.out _).mono ?_)
  rintro e w_2 ⟨rfl, rfl⟩
  go_wp2_with fail
  (with_reducible refine (rwithin_t P (-1) 31 H2.out _).mono ?_)
  rintro e w_3 ⟨rfl, rfl⟩
  go_wp2_with fail
  (with_reducible refine (rwithin_t F 0 4294967296 H3.out _).mono ?_)
  rintro e w_4 ⟨rfl, rfl⟩
  go_wp2_with fail
  go_ret
  exact ⟨rfl, (by repeat (first | with_reducible exact Ext.refl w | with_reducible refine Ext.drew ?_ | with_reducible refine Ext.drewN ?_ _ | with_reducible refine Ext.alloc ?_ _ | with_reducible refine Ext.setCell ?_ (by first | omega | (simp; done) | (simp; omega)) _))⟩
set_option maxRecDepth 100000 in
set_option maxHeartbeats 1000000 in
theorem rCheck12_st0 (V S P F : Int) (h0 : outB V 0 31 = false) (h1 : outB S 1 4294967296 = false) (h2 : outB P (-1) 31 = false) (h3 : outB F 0 4294967296 = false) (q0 : (P == V) = false) (q1 : (P == -1) = false) (q2 : (F == 0) = true) (w : World) :
    Calls Try.prog 78 #[.agg #[.int .i64 V, .int .i64 S, .int .i64 P, .int .i64 F]] w fun r w' => r = .returned (.int .i64 11) ∧ Ext w w' := by
  have H0 := Lib.hid h0
  have H1 := Lib.hid h1
  have H2 := Lib.hid h2
  have H3 := Lib.hid h3
  clear h0 h1 h2 h3
  go_enter Try.func78, Try.ntmps78
  go_wp2_with fail
  (with_reducible refine (rwithin_t V 0 31 H0.out _).mono ?_)
  rintro e w_1 ⟨rfl, rfl⟩
  go_wp2_with fail
  (with_reducible refine (rwithin_t S 1 4294967296 H1.out _).mono ?_)
  rintro e w_2 ⟨rfl, rfl⟩
  go_wp2_with fail
  (with_reducible refine (rwithin_t P (-1) 31 H2.out _).mono ?_)
  rintro e w_3 ⟨rfl, rfl⟩
  go_wp2_with fail
  (with_reducible refine (rwithin_t F 0 4294967296 H3.out _).mono ?_)
  rintro e w_4 ⟨rfl, rfl⟩
  go_wp2_with fail
  go_ret
  exact ⟨rfl, (by repeat (first | with_reducible exact Ext.refl w | with_reducible refine Ext.drew ?_ | with_reducible refine Ext.drewN ?_ _ | with_reducible refine Ext.alloc ?_ _ | with_reducible refine Ext.setCell ?_ (by first | omega | (simp; done) | (simp; omega)) _))⟩
set_option maxRecDepth 100000 in
set_option maxHeartbeats 1000000 in
theorem rCheck12_or1 (V S P F : Int) (h0 : outB V 0 31 = false) (h1 : outB S 1 4294967296 = false) (h2 : outB P (-1) 31 = false) (h3 : outB F 0 4294967296 = false) (q0 : (P == V) = false) (q1 : (P == -1) = true) (q2 : (F == 0) = true) (q3 : decide (S < F) = true) (w : World) :
    Calls Try.prog 78 #[.agg #[.int .i64 V, .int .i64 S, .int .i64 P, .int .i64 F]] w fun r w' => r = .returned (.int .i64 9) ∧ Ext w w' := by
  have H0 := Lib.hid h0
  have H1 := Lib.hid h1
  have H2 := Lib.hid h2
  have H3 := Lib.hid h3
  clear h0 h1 h2 h3
  go_enter Try.func78, Try.ntmps78
  go_wp2_with fail
  (with_reducible refine (rwithin_t V 0 31 H0.out _).mono ?_)
  rintro e w_1 ⟨rfl, rfl⟩
  go_wp2_with fail
  (with_reducible refine (rwithin_t S 1 4294967296 H1.out _).mono ?_)
  rintro e w_2 ⟨rfl, rfl⟩
  go_wp2_with fail
  (with_reducible refine (rwithin_t P (-1) 31 H2.out _).mono ?_)
  rintro e w_3 ⟨rfl, rfl⟩
  go_wp2_with fail
  (with_reducible refine (rwithin_t F 0 4294967296 H3.out _).mono ?_)
  rintro e w_4 ⟨rfl, rfl⟩
  go_wp2_with fail
  go_ret
  exact ⟨rfl, (by repeat (first | with_reducible exact Ext.refl w | with_reducible refine Ext.drew ?_ | with_reducible refine Ext.drewN ?_ _ | with_reducible refine Ext.alloc ?_ _ | with_reducible refine Ext.setCell ?_ (by first | omega | (simp; done) | (simp; omega)) _))⟩
set_option maxRecDepth 100000 in
set_option maxHeartbeats 1000000 in
theorem rCheck12_ok1 (V S P F : Int) (h0 : outB V 0 31 = false) (h1 : outB S 1 4294967296 = false) (h2 : outB P (-1) 31 = false) (h3 : outB F 0 4294967296 = false) (q0 : (P == V) = false) (q1 : (P == -1) = true) (q2 : (F == 0) = true) (q3 : decide (S < F) = false) (w : World) :
    Calls Try.prog 78 #[.agg #[.int .i64 V, .int .i64 S, .int .i64 P, .int .i64 F]] w fun r w' => r = .returned (.int .i64 0) ∧ Ext w w' := by
  have H0 := Lib.hid h0
  have H1 := Lib.hid h1
  have H2 := Lib.hid h2
  have H3 := Lib.hid h3
  clear h0 h1 h2 h3
  go_enter Try.func78, Try.ntmps78
  go_wp2_with fail
  (with_reducible refine (rwithin_t V 0 31 H0.out _).mono ?_)
  rintro e w_1 ⟨rfl, rfl⟩
  go_wp2_with fail
  (with_reducible refine (rwithin_t S 1 4294967296 H1.out _).mono ?_)
  rintro e w_2 ⟨rfl, rfl⟩
  go_wp2_with fail
  (with_reducible refine (rwithin_t P (-1) 31 H2.out _).mono ?_)
  rintro e w_3 ⟨rfl, rfl⟩
  go_wp2_with fail
  (with_reducible refine (rwithin_t F 0 4294967296 H3.out _).mono ?_)
  rintro e w_4 ⟨rfl, rfl⟩
  go_wp2_with fail
  go_ret
  exact ⟨rfl, (by repeat (first | with_reducible exact Ext.refl w | with_reducible refine Ext.drew ?_ | with_reducible refine Ext.drewN ?_ _ | with_reducible refine Ext.alloc ?_ _ | with_reducible refine Ext.setCell ?_ (by first | omega | (simp; done) | (simp; omega)) _))⟩
set_option maxRecDepth 100000 in
set_option maxHeartbeats 1000000 in
theorem rCheck12_or0 (V S P F : Int) (h0 : outB V 0 31 = false) (h1 : outB S 1 4294967296 = false) (h2 : outB P (-1) 31 = false) (h3 : outB F 0 4294967296 = false) (q0 : (P == V) = false) (q1 : (P == -1) = false) (q2 : (F == 0) = false) (q3 : decide (S < F) = true) (w : World) :
    Calls Try.prog 78 #[.agg #[.int .i64 V, .int .i64 S, .int .i64 P, .int .i64 F]] w fun r w' => r = .returned (.int .i64 9) ∧ Ext w w' := by
  have H0 := Lib.hid h0
  have H1 := Lib.hid h1
  have H2 := Lib.hid h2
  have H3 := Lib.hid h3
  clear h0 h1 h2 h3
  go_enter Try.func78, Try.ntmps78
  go_wp2_with fail
  (with_reducible refine (rwithin_t V 0 31 H0.out _).mono ?_)
  rintro e w_1 ⟨rfl, rfl⟩
  go_wp2_with fail
  (with_reducible refine (rwithin_t S 1 4294967296 H1.out _).mono ?_)
  rintro e w_2 ⟨rfl, rfl⟩
  go_wp2_with fail
  (with_reducible refine (rwithin_t P (-1) 31 H2.out _).mono ?_)
  rintro e w_3 ⟨rfl, rfl⟩
  go_wp2_with fail
  (with_reducible refine (rwithin_t F 0 4294967296 H3.out _).mono ?_)
  rintro e w_4 ⟨rfl, rfl⟩
  go_wp2_with fail
  go_ret
  exact ⟨rfl, (by repeat (first | with_reducible exact Ext.refl w | with_reducible refine Ext.drew ?_ | with_reducible refine Ext.drewN ?_ _ | with_reducible refine Ext.alloc ?_ _ | with_reducible refine Ext.setCell ?_ (by first | omega | (simp; done) | (simp; omega)) _))⟩
set_option maxRecDepth 100000 in
set_option maxHeartbeats 1000000 in
theorem rCheck12_ok0 (V S P F : Int) (h0 : outB V 0 31 = false) (h1 : outB S 1 4294967296 = false) (h2 : outB P (-1) 31 = false) (h3 : outB F 0 4294967296 = false) (q0 : (P == V) = false) (q1 : (P == -1) = false) (q2 : (F == 0) = false) (q3 : decide (S < F) = false) (w : World) :
    Calls Try.prog 78 #[.agg #[.int .i64 V, .int .i64 S, .int .i64 P, .int .i64 F]] w fun r w' => r = .returned (.int .i64 0) ∧ Ext w w' := by
  have H0 := Lib.hid h0
  have H1 := Lib.hid h1
  have H2 := Lib.hid h2
  have H3 := Lib.hid h3
  clear h0 h1 h2 h3
  go_enter Try.func78, Try.ntmps78
  go_wp2_with fail
  (with_reducible refine (rwithin_t V 0 31 H0.out _).mono ?_)
  rintro e w_1 ⟨rfl, rfl⟩
  go_wp2_with fail
  (with_reducible refine (rwithin_t S 1 4294967296 H1.out _).mono ?_)
  rintro e w_2 ⟨rfl, rfl⟩
  go_wp2_with fail
  (with_reducible refine (rwithin_t P (-1) 31 H2.out _).mono ?_)
  rintro e w_3 ⟨rfl, rfl⟩
  go_wp2_with fail
  (with_reducible refine (rwithin_t F 0 4294967296 H3.out _).mono ?_)
  rintro e w_4 ⟨rfl, rfl⟩
  go_wp2_with fail
  go_ret
  exact ⟨rfl, (by repeat (first | with_reducible exact Ext.refl w | with_reducible refine Ext.drew ?_ | with_reducible refine Ext.drewN ?_ _ | with_reducible refine Ext.alloc ?_ _ | with_reducible refine Ext.setCell ?_ (by first | omega | (simp; done) | (simp; omega)) _))⟩
theorem rCheck12_any (V S P F : Int) (w : World) :
    Calls Try.prog 78 #[.agg #[.int .i64 V, .int .i64 S, .int .i64 P, .int .i64 F]] w fun r w' => r = .returned (.int .i64 (chkS V S P F)) ∧ Ext w w' := by
  unfold chkS
  cases h1 : outB V 0 31
  · cases h2 : outB S 1 4294967296
    · cases h3 : outB P (-1) 31
      · cases h4 : outB F 0 4294967296
        · cases q0 : (P == V)
          · cases q1 : (P == -1)
            · cases q2 : (F == 0)
              · cases q3 : decide (S < F)
                · exact rCheck12_ok0 V S P F h1 h2 h3 h4 q0 q1 q2 q3 w
                · exact rCheck12_or0 V S P F h1 h2 h3 h4 q0 q1 q2 q3 w
              · exact rCheck12_st0 V S P F h1 h2 h3 h4 q0 q1 q2 w
            · cases q2 : (F == 0)
              · exact rCheck12_st1 V S P F h1 h2 h3 h4 q0 q1 q2 w
              · cases q3 : decide (S < F)
                · exact rCheck12_ok1 V S P F h1 h2 h3 h4 q0 q1 q2 q3 w
                · exact rCheck12_or1 V S P F h1 h2 h3 h4 q0 q1 q2 q3 w
          · exact rCheck12_arg V S P F h1 h2 h3 h4 q0 w
        · exact rCheck12_o3 V S P F h1 h2 h3 h4 w
      · exact rCheck12_o2 V S P F h1 h2 h3 w
    · exact rCheck12_o1 V S P F h1 h2 w
  · exact rCheck12_o0 V S P F h1 w
end Go.Proofs.Ytnbeejgppooamaa
