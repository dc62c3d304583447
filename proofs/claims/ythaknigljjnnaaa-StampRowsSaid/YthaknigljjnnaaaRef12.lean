/- distraintref12: within, Check, Bytes, Take, Read. Conditions stand in each lemma. -/
import Derived.Test.YthaknigljjnnaaaRefN
import Derived.Test.YthaknigljjnnaaaStampB
import Derived.Test.YthaknigljjnnaaaStampR
set_option linter.unusedVariables false
set_option linter.unusedSimpArgs false
namespace Go.Proofs.Ythaknigljjnnaaa
open Go.RowKit
theorem own_low {w : World} {base b : Nat} {e : TypeId} {sz n : Nat} {v : Value} {xs : List Value} (h : w.ownsRow base e sz v n xs) (hb : b ≤ base) : w.ownsRow b e sz v n xs := by
  refine ⟨h.1, ?_⟩
  rcases h.2 with h2 | ⟨q, cap, cur, e', hq, rest⟩
  · exact .inl h2
  · exact .inr ⟨q, cap, cur, e', Nat.le_trans hb hq, rest⟩

theorem rwithin_any (n lo hi : Int) (b : Bool) (hb : outB n lo hi = !b) (w : World) :
    Calls Try.prog 107 #[.int .i64 n, .int .i64 lo, .int .i64 hi] w fun r w' => r = .returned (.bool b) ∧ w = w' := by
  unfold outB at hb
  by_cases h1 : n < lo
  · obtain rfl : b = false := by simp [h1] at hb; exact hb
    have h1' : decide (lo ≤ n) = false := decide_eq_false (by omega)
    clear h1 hb
    go_enter Try.func107, Try.ntmps107
    go_wp2
    go_ret
    exact ⟨rfl, rfl⟩
  · obtain rfl : b = decide (n ≤ hi) := by
      have e : decide (hi < n) = !decide (n ≤ hi) := by rw [Bool.eq_iff_iff]; simp
      simp only [decide_eq_false h1, Bool.false_or, e] at hb
      cases b <;> simp_all
    have h1' : decide (lo ≤ n) = true := decide_eq_true (by omega)
    generalize hq : decide (n ≤ hi) = q
    clear h1 hb
    go_enter Try.func107, Try.ntmps107
    go_wp2
    go_ret
    exact ⟨rfl, rfl⟩
theorem rwithin_t (n lo hi : Int) (hb : outB n lo hi = false) (w : World) :
    Calls Try.prog 107 #[.int .i64 n, .int .i64 lo, .int .i64 hi] w fun r w' => r = .returned (.bool true) ∧ w = w' := rwithin_any n lo hi true hb w
theorem rwithin_f (n lo hi : Int) (hb : outB n lo hi = true) (w : World) :
    Calls Try.prog 107 #[.int .i64 n, .int .i64 lo, .int .i64 hi] w fun r w' => r = .returned (.bool false) ∧ w = w' := rwithin_any n lo hi false hb w
set_option maxRecDepth 100000 in
set_option maxHeartbeats 1000000 in
theorem rCheck12_o0 (V S P F : Int) (h0 : outB V 0 31 = true)  (w : World) :
    Calls Try.prog 68 #[.agg #[.int .i64 V, .int .i64 S, .int .i64 P, .int .i64 F]] w fun r w' => r = .returned (.int .i64 3) ∧ Ext w w' := by
  have H0 := Lib.hid h0
  clear h0
  go_enter Try.func68, Try.ntmps68
  go_wp2_with fail
  (with_reducible refine (rwithin_f V 0 31 H0.out _).mono ?_)
  rintro e w_1 ⟨rfl, rfl⟩
  go_wp2_with fail
  go_ret
  exact ⟨rfl, (by repeat (first | with_reducible exact Ext.refl w | with_reducible refine Ext.drew ?_ | with_reducible refine Ext.drewN ?_ _ | with_reducible refine Ext.alloc ?_ _ | with_reducible refine Ext.setCell ?_ (by first | omega | (simp; done) | (simp; omega)) _))⟩
set_option maxRecDepth 100000 in
set_option maxHeartbeats 1000000 in
theorem rCheck12_o1 (V S P F : Int) (h0 : outB V 0 31 = false) (h1 : outB S 1 4294967296 = true)  (w : World) :
    Calls Try.prog 68 #[.agg #[.int .i64 V, .int .i64 S, .int .i64 P, .int .i64 F]] w fun r w' => r = .returned (.int .i64 3) ∧ Ext w w' := by
  have H0 := Lib.hid h0
  have H1 := Lib.hid h1
  clear h0 h1
  go_enter Try.func68, Try.ntmps68
  go_wp2_with fail
  (with_reducible refine (rwithin_t V 0 31 H0.out _).mono ?_)
  rintro e w_1 ⟨rfl, rfl⟩
  go_wp2_with fail
  (with_reducible refine (rwithin_f S 1 4294967296 H1.out _).mono ?_)
  rintro e w_2 ⟨rfl, rfl⟩
  go_wp2_with fail
  go_ret
  exact ⟨rfl, (by repeat (first | with_reducible exact Ext.refl w | with_reducible refine Ext.drew ?_ | with_reducible refine Ext.drewN ?_ _ | with_reducible refine Ext.alloc ?_ _ | with_reducible refine Ext.setCell ?_ (by first | omega | (simp; done) | (simp; omega)) _))⟩
set_option maxRecDepth 100000 in
set_option maxHeartbeats 1000000 in
theorem rCheck12_o2 (V S P F : Int) (h0 : outB V 0 31 = false) (h1 : outB S 1 4294967296 = false) (h2 : outB P (-1) 31 = true)  (w : World) :
    Calls Try.prog 68 #[.agg #[.int .i64 V, .int .i64 S, .int .i64 P, .int .i64 F]] w fun r w' => r = .returned (.int .i64 3) ∧ Ext w w' := by
  have H0 := Lib.hid h0
  have H1 := Lib.hid h1
  have H2 := Lib.hid h2
  clear h0 h1 h2
  go_enter Try.func68, Try.ntmps68
  go_wp2_with fail
  (with_reducible refine (rwithin_t V 0 31 H0.out _).mono ?_)
  rintro e w_1 ⟨rfl, rfl⟩
  go_wp2_with fail
  (with_reducible refine (rwithin_t S 1 4294967296 H1.out _).mono ?_)
  rintro e w_2 ⟨rfl, rfl⟩
  go_wp2_with fail
  (with_reducible refine (rwithin_f P (-1) 31 H2.out _).mono ?_)
  rintro e w_3 ⟨rfl, rfl⟩
  go_wp2_with fail
  go_ret
  exact ⟨rfl, (by repeat (first | with_reducible exact Ext.refl w | with_reducible refine Ext.drew ?_ | with_reducible refine Ext.drewN ?_ _ | with_reducible refine Ext.alloc ?_ _ | with_reducible refine Ext.setCell ?_ (by first | omega | (simp; done) | (simp; omega)) _))⟩
set_option maxRecDepth 100000 in
set_option maxHeartbeats 1000000 in
theorem rCheck12_o3 (V S P F : Int) (h0 : outB V 0 31 = false) (h1 : outB S 1 4294967296 = false) (h2 : outB P (-1) 31 = false) (h3 : outB F 0 4294967296 = true)  (w : World) :
    Calls Try.prog 68 #[.agg #[.int .i64 V, .int .i64 S, .int .i64 P, .int .i64 F]] w fun r w' => r = .returned (.int .i64 3) ∧ Ext w w' := by
  have H0 := Lib.hid h0
  have H1 := Lib.hid h1
  have H2 := Lib.hid h2
  have H3 := Lib.hid h3
  clear h0 h1 h2 h3
  go_enter Try.func68, Try.ntmps68
  go_wp2_with fail
  (with_reducible refine (rwithin_t V 0 31 H0.out _).mono ?_)
  rintro e w_1 ⟨rfl, rfl⟩
  go_wp2_with fail
  (with_reducible refine (rwithin_t S 1 4294967296 H1.out _).mono ?_)
  rintro e w_2 ⟨rfl, rfl⟩
  go_wp2_with fail
  (with_reducible refine (rwithin_t P (-1) 31 H2.out _).mono ?_)
  rintro e w_3 ⟨rfl, rfl⟩
  go_wp2_with fail
  (with_reducible refine (rwithin_f F 0 4294967296 H3.out _).mono ?_)
  rintro e w_4 ⟨rfl, rfl⟩
  go_wp2_with fail
  go_ret
  exact ⟨rfl, (by repeat (first | with_reducible exact Ext.refl w | with_reducible refine Ext.drew ?_ | with_reducible refine Ext.drewN ?_ _ | with_reducible refine Ext.alloc ?_ _ | with_reducible refine Ext.setCell ?_ (by first | omega | (simp; done) | (simp; omega)) _))⟩
set_option maxRecDepth 100000 in
set_option maxHeartbeats 1000000 in
theorem rCheck12_arg (V S P F : Int) (h0 : outB V 0 31 = false) (h1 : outB S 1 4294967296 = false) (h2 : outB P (-1) 31 = false) (h3 : outB F 0 4294967296 = false) (q0 : (P == V) = true) (w : World) :
    Calls Try.prog 68 #[.agg #[.int .i64 V, .int .i64 S, .int .i64 P, .int .i64 F]] w fun r w' => r = .returned (.int .i64 2) ∧ Ext w w' := by
  have H0 := Lib.hid h0
  have H1 := Lib.hid h1
  have H2 := Lib.hid h2
  have H3 := Lib.hid h3
  clear h0 h1 h2 h3
  go_enter Try.func68, Try.ntmps68
  go_wp2_with fail
  (with_reducible refine (rwithin_t V 0 31 H0.out _).mono ?_)
  rintro e w_1 ⟨rfl, rfl⟩
  go_wp2_with fail
  (with_reducible refine (rwithin_t S 1 4294967296 H1.out _).mono ?_)
  rintro e w_2 ⟨rfl, rfl⟩
  go_wp2_with fail
  (with_reducible refine (rwithin_t P (-1) 31 H2.out _).mono ?_)
  rintro e w_3 ⟨rfl, rfl⟩
  go_wp2_with fail
  (with_reducible refine (rwithin_t F 0 4294967296 H3.out _).mono ?_)
  rintro e w_4 ⟨rfl, rfl⟩
  go_wp2_with fail
  go_ret
  exact ⟨rfl, (by repeat (first | with_reducible exact Ext.refl w | with_reducible refine Ext.drew ?_ | with_reducible refine Ext.drewN ?_ _ | with_reducible refine Ext.alloc ?_ _ | with_reducible refine Ext.setCell ?_ (by first | omega | (simp; done) | (simp; omega)) _))⟩
set_option maxRecDepth 100000 in
set_option maxHeartbeats 1000000 in
theorem rCheck12_st1 (V S P F : Int) (h0 : outB V 0 31 = false) (h1 : outB S 1 4294967296 = false) (h2 : outB P (-1) 31 = false) (h3 : outB F 0 4294967296 = false) (q0 : (P == V) = false) (q1 : (P == -1) = true) (q2 : (F == 0) = false) (w : World) :
    Calls Try.prog 68 #[.agg #[.int .i64 V, .int .i64 S, .int .i64 P, .int .i64 F]] w fun r w' => r = .returned (.int .i64 11) ∧ Ext w w' := by
  have H0 := Lib.hid h0
  have H1 := Lib.hid h1
  have H2 := Lib.hid h2
  have H3 := Lib.hid h3
  clear h0 h1 h2 h3
  go_enter Try.func68, Try.ntmps68
  go_wp2_with fail
  (with_reducible refine (rwithin_t V 0 31 H0.out _).mono ?_)
  rintro e w_1 ⟨rfl, rfl⟩
  go_wp2_with fail
  (with_reducible refine (rwithin_t S 1 4294967296 H1.out _).mono ?_)
  rintro e w_2 ⟨rfl, rfl⟩
  go_wp2_with fail
  (with_reducible refine (rwithin_t P (-1) 31 H2.out _).mono ?_)
  rintro e w_3 ⟨rfl, rfl⟩
  go_wp2_with fail
  (with_reducible refine (rwithin_t F 0 4294967296 H3.out _).mono ?_)
  rintro e w_4 ⟨rfl, rfl⟩
  go_wp2_with fail
  go_ret
  exact ⟨rfl, (by repeat (first | with_reducible exact Ext.refl w | with_reducible refine Ext.drew ?_ | with_reducible refine Ext.drewN ?_ _ | with_reducible refine Ext.alloc ?_ _ | with_reducible refine Ext.setCell ?_ (by first | omega | (simp; done) | (simp; omega)) _))⟩
set_option maxRecDepth 100000 in
set_option maxHeartbeats 1000000 in
theorem rCheck12_st0 (V S P F : Int) (h0 : outB V 0 31 = false) (h1 : outB S 1 4294967296 = false) (h2 : outB P (-1) 31 = false) (h3 : outB F 0 4294967296 = false) (q0 : (P == V) = false) (q1 : (P == -1) = false) (q2 : (F == 0) = true) (w : World) :
    Calls Try.prog 68 #[.agg #[.int .i64 V, .int .i64 S, .int .i64 P, .int .i64 F]] w fun r w' => r = .returned (.int .i64 11) ∧ Ext w w' := by
  have H0 := Lib.hid h0
  have H1 := Lib.hid h1
  have H2 := Lib.hid h2
  have H3 := Lib.hid h3
  clear h0 h1 h2 h3
  go_enter Try.func68, Try.ntmps68
  go_wp2_with fail
  (with_reducible refine (rwithin_t V 0 31 H0.out _).mono ?_)
  rintro e w_1 ⟨rfl, rfl⟩
  go_wp2_with fail
  (with_reducible refine (rwithin_t S 1 4294967296 H1.out _).mono ?_)
  rintro e w_2 ⟨rfl, rfl⟩
  go_wp2_with fail
  (with_reducible refine (rwithin_t P (-1) 31 H2.out _).mono ?_)
  rintro e w_3 ⟨rfl, rfl⟩
  go_wp2_with fail
  (with_reducible refine (rwithin_t F 0 4294967296 H3.out _).mono ?_)
  rintro e w_4 ⟨rfl, rfl⟩
  go_wp2_with fail
  go_ret
  exact ⟨rfl, (by repeat (first | with_reducible exact Ext.refl w | with_reducible refine Ext.drew ?_ | with_reducible refine Ext.drewN ?_ _ | with_reducible refine Ext.alloc ?_ _ | with_reducible refine Ext.setCell ?_ (by first | omega | (simp; done) | (simp; omega)) _))⟩
set_option maxRecDepth 100000 in
set_option maxHeartbeats 1000000 in
theorem rCheck12_or1 (V S P F : Int) (h0 : outB V 0 31 = false) (h1 : outB S 1 4294967296 = false) (h2 : outB P (-1) 31 = false) (h3 : outB F 0 4294967296 = false) (q0 : (P == V) = false) (q1 : (P == -1) = true) (q2 : (F == 0) = true) (q3 : decide (S < F) = true) (w : World) :
    Calls Try.prog 68 #[.agg #[.int .i64 V, .int .i64 S, .int .i64 P, .int .i64 F]] w fun r w' => r = .returned (.int .i64 9) ∧ Ext w w' := by
  have H0 := Lib.hid h0
  have H1 := Lib.hid h1
  have H2 := Lib.hid h2
  have H3 := Lib.hid h3
  clear h0 h1 h2 h3
  go_enter Try.func68, Try.ntmps68
  go_wp2_with fail
  (with_reducible refine (rwithin_t V 0 31 H0.out _).mono ?_)
  rintro e w_1 ⟨rfl, rfl⟩
  go_wp2_with fail
  (with_reducible refine (rwithin_t S 1 4294967296 H1.out _).mono ?_)
  rintro e w_2 ⟨rfl, rfl⟩
  go_wp2_with fail
  (with_reducible refine (rwithin_t P (-1) 31 H2.out _).mono ?_)
  rintro e w_3 ⟨rfl, rfl⟩
  go_wp2_with fail
  (with_reducible refine (rwithin_t F 0 4294967296 H3.out _).mono ?_)
  rintro e w_4 ⟨rfl, rfl⟩
  go_wp2_with fail
  go_ret
  exact ⟨rfl, (by repeat (first | with_reducible exact Ext.refl w | with_reducible refine Ext.drew ?_ | with_reducible refine Ext.drewN ?_ _ | with_reducible refine Ext.alloc ?_ _ | with_reducible refine Ext.setCell ?_ (by first | omega | (simp; done) | (simp; omega)) _))⟩
set_option maxRecDepth 100000 in
set_option maxHeartbeats 1000000 in
theorem rCheck12_ok1 (V S P F : Int) (h0 : outB V 0 31 = false) (h1 : outB S 1 4294967296 = false) (h2 : outB P (-1) 31 = false) (h3 : outB F 0 4294967296 = false) (q0 : (P == V) = false) (q1 : (P == -1) = true) (q2 : (F == 0) = true) (q3 : decide (S < F) = false) (w : World) :
    Calls Try.prog 68 #[.agg #[.int .i64 V, .int .i64 S, .int .i64 P, .int .i64 F]] w fun r w' => r = .returned (.int .i64 0) ∧ Ext w w' := by
  have H0 := Lib.hid h0
  have H1 := Lib.hid h1
  have H2 := Lib.hid h2
  have H3 := Lib.hid h3
  clear h0 h1 h2 h3
  go_enter Try.func68, Try.ntmps68
  go_wp2_with fail
  (with_reducible refine (rwithin_t V 0 31 H0.out _).mono ?_)
  rintro e w_1 ⟨rfl, rfl⟩
  go_wp2_with fail
  (with_reducible refine (rwithin_t S 1 4294967296 H1.out _).mono ?_)
  rintro e w_2 ⟨rfl, rfl⟩
  go_wp2_with fail
  (with_reducible refine (rwithin_t P (-1) 31 H2.out _).mono ?_)
  rintro e w_3 ⟨rfl, rfl⟩
  go_wp2_with fail
  (with_reducible refine (rwithin_t F 0 4294967296 H3.out _).mono ?_)
  rintro e w_4 ⟨rfl, rfl⟩
  go_wp2_with fail
  go_ret
  exact ⟨rfl, (by repeat (first | with_reducible exact Ext.refl w | with_reducible refine Ext.drew ?_ | with_reducible refine Ext.drewN ?_ _ | with_reducible refine Ext.alloc ?_ _ | with_reducible refine Ext.setCell ?_ (by first | omega | (simp; done) | (simp; omega)) _))⟩
set_option maxRecDepth 100000 in
set_option maxHeartbeats 1000000 in
theorem rCheck12_or0 (V S P F : Int) (h0 : outB V 0 31 = false) (h1 : outB S 1 4294967296 = false) (h2 : outB P (-1) 31 = false) (h3 : outB F 0 4294967296 = false) (q0 : (P == V) = false) (q1 : (P == -1) = false) (q2 : (F == 0) = false) (q3 : decide (S < F) = true) (w : World) :
    Calls Try.prog 68 #[.agg #[.int .i64 V, .int .i64 S, .int .i64 P, .int .i64 F]] w fun r w' => r = .returned (.int .i64 9) ∧ Ext w w' := by
  have H0 := Lib.hid h0
  have H1 := Lib.hid h1
  have H2 := Lib.hid h2
  have H3 := Lib.hid h3
  clear h0 h1 h2 h3
  go_enter Try.func68, Try.ntmps68
  go_wp2_with fail
  (with_reducible refine (rwithin_t V 0 31 H0.out _).mono ?_)
  rintro e w_1 ⟨rfl, rfl⟩
  go_wp2_with fail
  (with_reducible refine (rwithin_t S 1 4294967296 H1.out _).mono ?_)
  rintro e w_2 ⟨rfl, rfl⟩
  go_wp2_with fail
  (with_reducible refine (rwithin_t P (-1) 31 H2.out _).mono ?_)
  rintro e w_3 ⟨rfl, rfl⟩
  go_wp2_with fail
  (with_reducible refine (rwithin_t F 0 4294967296 H3.out _).mono ?_)
  rintro e w_4 ⟨rfl, rfl⟩
  go_wp2_with fail
  go_ret
  exact ⟨rfl, (by repeat (first | with_reducible exact Ext.refl w | with_reducible refine Ext.drew ?_ | with_reducible refine Ext.drewN ?_ _ | with_reducible refine Ext.alloc ?_ _ | with_reducible refine Ext.setCell ?_ (by first | omega | (simp; done) | (simp; omega)) _))⟩
set_option maxRecDepth 100000 in
set_option maxHeartbeats 1000000 in
theorem rCheck12_ok0 (V S P F : Int) (h0 : outB V 0 31 = false) (h1 : outB S 1 4294967296 = false) (h2 : outB P (-1) 31 = false) (h3 : outB F 0 4294967296 = false) (q0 : (P == V) = false) (q1 : (P == -1) = false) (q2 : (F == 0) = false) (q3 : decide (S < F) = false) (w : World) :
    Calls Try.prog 68 #[.agg #[.int .i64 V, .int .i64 S, .int .i64 P, .int .i64 F]] w fun r w' => r = .returned (.int .i64 0) ∧ Ext w w' := by
  have H0 := Lib.hid h0
  have H1 := Lib.hid h1
  have H2 := Lib.hid h2
  have H3 := Lib.hid h3
  clear h0 h1 h2 h3
  go_enter Try.func68, Try.ntmps68
  go_wp2_with fail
  (with_reducible refine (rwithin_t V 0 31 H0.out _).mono ?_)
  rintro e w_1 ⟨rfl, rfl⟩
  go_wp2_with fail
  (with_reducible refine (rwithin_t S 1 4294967296 H1.out _).mono ?_)
  rintro e w_2 ⟨rfl, rfl⟩
  go_wp2_with fail
  (with_reducible refine (rwithin_t P (-1) 31 H2.out _).mono ?_)
  rintro e w_3 ⟨rfl, rfl⟩
  go_wp2_with fail
  (with_reducible refine (rwithin_t F 0 4294967296 H3.out _).mono ?_)
  rintro e w_4 ⟨rfl, rfl⟩
  go_wp2_with fail
  go_ret
  exact ⟨rfl, (by repeat (first | with_reducible exact Ext.refl w | with_reducible refine Ext.drew ?_ | with_reducible refine Ext.drewN ?_ _ | with_reducible refine Ext.alloc ?_ _ | with_reducible refine Ext.setCell ?_ (by first | omega | (simp; done) | (simp; omega)) _))⟩
theorem rCheck12_any (V S P F : Int) (w : World) :
    Calls Try.prog 68 #[.agg #[.int .i64 V, .int .i64 S, .int .i64 P, .int .i64 F]] w fun r w' => r = .returned (.int .i64 (chkS V S P F)) ∧ Ext w w' := by
  unfold chkS
  cases h1 : outB V 0 31
  · cases h2 : outB S 1 4294967296
    · cases h3 : outB P (-1) 31
      · cases h4 : outB F 0 4294967296
        · cases q0 : (P == V)
          · cases q1 : (P == -1)
            · cases q2 : (F == 0)
              · cases q3 : decide (S < F)
                · exact rCheck12_ok0 V S P F h1 h2 h3 h4 q0 q1 q2 q3 w
                · exact rCheck12_or0 V S P F h1 h2 h3 h4 q0 q1 q2 q3 w
              · exact rCheck12_st0 V S P F h1 h2 h3 h4 q0 q1 q2 w
            · cases q2 : (F == 0)
              · exact rCheck12_st1 V S P F h1 h2 h3 h4 q0 q1 q2 w
              · cases q3 : decide (S < F)
                · exact rCheck12_ok1 V S P F h1 h2 h3 h4 q0 q1 q2 q3 w
                · exact rCheck12_or1 V S P F h1 h2 h3 h4 q0 q1 q2 q3 w
          · exact rCheck12_arg V S P F h1 h2 h3 h4 q0 w
        · exact rCheck12_o3 V S P F h1 h2 h3 h4 w
      · exact rCheck12_o2 V S P F h1 h2 h3 w
    · exact rCheck12_o1 V S P F h1 h2 w
  · exact rCheck12_o0 V S P F h1 w
set_option maxRecDepth 100000 in
set_option maxHeartbeats 1000000 in
theorem rBytes12_bad (V S P F E : Int) (hE : chkS V S P F = E) (he : ¬ E = 0) (w : World) :
    Calls Try.prog 32 #[.agg #[.int .i64 V, .int .i64 S, .int .i64 P, .int .i64 F]] w fun r w' => r = .returned (.tuple #[.slice none 0 0, .int .i64 E]) ∧ Ext w w' := by
  have CK := fun w => rCheck12_any V S P F w
  rw [hE] at CK
  replace CK := Lib.hid CK
  have hb : (E == 0) = false := beq_false_of_ne he
  have hb2 : (E != 0) = true := by simpa using he
  clear hE he
  go_enter Try.func32, Try.ntmps32
  go_wp2_with fail
  (with_reducible refine (CK.out _).mono ?_)
  rintro e w1 ⟨rfl, hx1⟩
  have z1 := hx1.size
  try simp at z1
  have X1 : Hid (Ext w w1) := Lib.hid (Ext.trans (by repeat (first | with_reducible exact Ext.refl w | with_reducible refine Ext.drew ?_ | with_reducible refine Ext.drewN ?_ _ | with_reducible refine Ext.alloc ?_ _ | with_reducible refine Ext.setCell ?_ (by first | omega | (simp; done) | (simp; omega)) _)) hx1)
  clear hx1 z1
  go_wp2_with fail
  go_ret2
  exact ⟨rfl, (by repeat (first | with_reducible exact X1.out | with_reducible refine Ext.drew ?_ | with_reducible refine Ext.drewN ?_ _ | with_reducible refine Ext.alloc ?_ _ | with_reducible refine Ext.setCell ?_ (by first | omega | (simp; done) | (simp; omega)) _))⟩
set_option maxRecDepth 100000 in
set_option maxHeartbeats 1000000 in
theorem rBytes12_ok (V S P F : Int) (hk : StampOk V S P F) (w : World) :
    Calls Try.prog 32 #[.agg #[.int .i64 V, .int .i64 S, .int .i64 P, .int .i64 F]] w (ByErr (putsL (stL V S P F)) 0 w) := by
  obtain ⟨i0, hi, hz0, hz1, hz2⟩ := info_parts u8_info
  have CK := fun w => rCheck12_any V S P F w
  rw [chkS_of hk] at CK
  replace CK := Lib.hid CK
  have HK := Lib.hid hk
  have hP0 := hk.p0
  have hP1 := hk.p1
  clear hk
  go_enter Try.func32, Try.ntmps32
  go_wp2_with fail
  (with_reducible refine (CK.out _).mono ?_)
  rintro e w1 ⟨rfl, hx1⟩
  have c0_0 : w1.cell? ⟨w.heap.size, 0, none⟩ = some (.int .i64 V) := hx1.has (by first | fail | (simp [go_sem, World.cell?_alloc_past]; done))
  have c0_1 : w1.cell? ⟨w.heap.size, 1, none⟩ = some (.int .i64 S) := hx1.has (by first | fail | (simp [go_sem, World.cell?_alloc_past]; done))
  have c0_2 : w1.cell? ⟨w.heap.size, 2, none⟩ = some (.int .i64 P) := hx1.has (by first | fail | (simp [go_sem, World.cell?_alloc_past]; done))
  have c0_3 : w1.cell? ⟨w.heap.size, 3, none⟩ = some (.int .i64 F) := hx1.has (by first | fail | (simp [go_sem, World.cell?_alloc_past]; done))
  have z1 := hx1.size
  try simp at z1
  have rc0 : w.heap.size < w1.heap.size := by omega
  have rc0a : w.heap.size < w1.heap.size + 1 := by omega
  have rc0b : w.heap.size < w1.heap.size + 1 + 1 := by omega
  have rc0c : w.heap.size < w1.heap.size + 1 + 1 + 1 := by omega
  have rc0n : ¬ w.heap.size = w1.heap.size := by omega
  have X1 : Hid (Ext w w1) := Lib.hid (Ext.trans (by repeat (first | with_reducible exact Ext.refl w | with_reducible refine Ext.drew ?_ | with_reducible refine Ext.drewN ?_ _ | with_reducible refine Ext.alloc ?_ _ | with_reducible refine Ext.setCell ?_ (by first | omega | (simp; done) | (simp; omega)) _)) hx1)
  clear hx1 z1
  go_wp2_with fail
  go_loopg [5, 7] 4 (fun gh v i wx => gh ≤ 4 ∧ i = .int .i64 ((4 - gh : Nat) : Int) ∧ wx.ownsRow (w1.heap.size + 1) 5 1 v (putsL ((stL V S P F).take (4 - gh))).length (by_ (putsL ((stL V S P F).take (4 - gh)))) ∧ Ext (w1.alloc (.cells #[.int .i64 V, .int .i64 S, .int .i64 (P + 1), .int .i64 F] 3)) wx)
  case atStart => exact ⟨Nat.le_refl _, by simp, World.ownsRow_nil _ _ _ _, Ext.refl _⟩
  case round =>
    obtain ⟨hg, hi', hw, hb⟩ := hrel
    have d0 : wr.cell? ⟨w1.heap.size, 0, none⟩ = some (.int .i64 V) := hb.has (by simp [go_sem])
    have d1 : wr.cell? ⟨w1.heap.size, 1, none⟩ = some (.int .i64 S) := hb.has (by simp [go_sem])
    have d2 : wr.cell? ⟨w1.heap.size, 2, none⟩ = some (.int .i64 (P + 1)) := hb.has (by simp [go_sem])
    have d3 : wr.cell? ⟨w1.heap.size, 3, none⟩ = some (.int .i64 F) := hb.has (by simp [go_sem])
    have hzz := hb.size
    simp at hzz
    have HB := Lib.hid hb
    have HO := Lib.hid hw
    clear hw hb
    have hlen : ∀ k, (putsL ((stL V S P F).take k)).length ≤ 40 := by
      intro k
      refine Nat.le_trans (putsL_len _ ?_) ?_
      · intro y hy
        have hy2 := List.mem_of_mem_take hy
        have := HK.out.v1; have := HK.out.s1; have := HK.out.p1; have := HK.out.f1
        unfold stL at hy2
        simp at hy2
        omega
      · have : ((stL V S P F).take k).length ≤ 4 := by rw [List.length_take]; simp [stL]; omega
        omega
    have HLEN := Lib.hid hlen
    clear hlen
    have hv := HK.out.v0; have hv1 := HK.out.v1; have hs0 := HK.out.s0; have hs1 := HK.out.s1; have hf0 := HK.out.f0; have hf1 := HK.out.f1
    have hcase : gk = 0 ∨ gk = 4 ∨ gk = 3 ∨ gk = 2 ∨ gk = 1 := by omega
    rcases hcase with rfl | rfl | rfl | rfl | rfl
    · change _ = Value.int .i64 4 at hi'
      obtain rfl := hi'
      go_wp2_with fail
      go_ret2
      have h1 := HO.out
      rw [show 4 - 0 = 4 from rfl, List.take_of_length_le (show (stL V S P F).length ≤ 4 from Nat.le_refl _)] at h1
      have hX := Ext.trans ((X1.out).alloc _) HB.out
      exact ⟨_, rfl, own_low h1 (by have := X1.out.size; omega), hX⟩
    · change _ = Value.int .i64 0 at hi'
      obtain rfl := hi'
      have CP := fun w => rPut_any (V).toNat (by omega) w
      rw [Int.toNat_of_nonneg (show 0 ≤ V by omega)] at CP
      replace CP := Lib.hid CP
      have hN9 := Lib.hid (putL_len (V).toNat 9 (by omega))
      have hN0 : (0 : Int) ≤ V := by omega
      have hN1 : V < 18446744073709551616 := by omega
      go_wp2_with fail
      refine (CP.out _).mono ?_
      rintro r w5 ⟨v1, rfl, h5, hx5⟩
      obtain ⟨A1, c1, rfl, s5⟩ := own_parts h5
      have hlt : (putsL ((stL V S P F).take (4 - 4))).length + (putL (V).toNat).length < 1099511627776 := by
        have := HLEN.out (4 - 4); have := hN9.out; omega
      have HLn := Lib.hid hlt
      have HO5 := Lib.hid (own_keep HO.out hx5)
      have hS5 := Lib.hid s5
      have hz5 := hx5.size
      have hbs := Lib.hid (show w1.heap.size + 1 ≤ w5.heap.size by omega)
      have HB5 := Lib.hid (HB.out.trans hx5)
      clear h5 hx5 s5 hz5 hlt CP HB HO
      go_wp2_with (at_builtin; refine wpList_append_sl w5 rfl _ _ 23 rfl (w1.heap.size + 1) 5 i0 (.int .u8 0) 1 1 Try.underlying23 hi hz0 hz1 hz2 rfl (by decide) _ _ _ (by rfl) HO5.out A1 _ c1 (by_ (putL (V).toNat)) (by rfl) hS5.out by_one HLn.out (by decide) hbs.out ?_; intro v2 w6 hown6 hb6; have H6 := Lib.hid (And.intro hown6 hb6); clear hown6 hb6)
      go_roundg 3
      case measure => decide
      case rel =>
        refine ⟨by decide, rfl, ?_, Ext.below HB5.out (by simpa using H6.out.2)⟩
        have h6 := H6.out.1
        rw [by_append, ← List.length_append] at h6
        have e : putsL ((stL V S P F).take (4 - 3)) = putsL ((stL V S P F).take (4 - 4)) ++ putL (V).toNat := by
          rw [show 4 - 3 = 0 + 1 from rfl, putsL_take (show (stL V S P F)[0]? = some V from rfl)]
        rw [e]
        exact h6
    · change _ = Value.int .i64 1 at hi'
      obtain rfl := hi'
      have CP := fun w => rPut_any (S).toNat (by omega) w
      rw [Int.toNat_of_nonneg (show 0 ≤ S by omega)] at CP
      replace CP := Lib.hid CP
      have hN9 := Lib.hid (putL_len (S).toNat 9 (by omega))
      have hN0 : (0 : Int) ≤ S := by omega
      have hN1 : S < 18446744073709551616 := by omega
      go_wp2_with fail
      refine (CP.out _).mono ?_
      rintro r w5 ⟨v1, rfl, h5, hx5⟩
      obtain ⟨A1, c1, rfl, s5⟩ := own_parts h5
      have hlt : (putsL ((stL V S P F).take (4 - 3))).length + (putL (S).toNat).length < 1099511627776 := by
        have := HLEN.out (4 - 3); have := hN9.out; omega
      have HLn := Lib.hid hlt
      have HO5 := Lib.hid (own_keep HO.out hx5)
      have hS5 := Lib.hid s5
      have hz5 := hx5.size
      have hbs := Lib.hid (show w1.heap.size + 1 ≤ w5.heap.size by omega)
      have HB5 := Lib.hid (HB.out.trans hx5)
      clear h5 hx5 s5 hz5 hlt CP HB HO
      go_wp2_with (at_builtin; refine wpList_append_sl w5 rfl _ _ 23 rfl (w1.heap.size + 1) 5 i0 (.int .u8 0) 1 1 Try.underlying23 hi hz0 hz1 hz2 rfl (by decide) _ _ _ (by rfl) HO5.out A1 _ c1 (by_ (putL (S).toNat)) (by rfl) hS5.out by_one HLn.out (by decide) hbs.out ?_; intro v2 w6 hown6 hb6; have H6 := Lib.hid (And.intro hown6 hb6); clear hown6 hb6)
      go_roundg 2
      case measure => decide
      case rel =>
        refine ⟨by decide, rfl, ?_, Ext.below HB5.out (by simpa using H6.out.2)⟩
        have h6 := H6.out.1
        rw [by_append, ← List.length_append] at h6
        have e : putsL ((stL V S P F).take (4 - 2)) = putsL ((stL V S P F).take (4 - 3)) ++ putL (S).toNat := by
          rw [show 4 - 2 = 1 + 1 from rfl, putsL_take (show (stL V S P F)[1]? = some S from rfl)]
        rw [e]
        exact h6
    · change _ = Value.int .i64 2 at hi'
      obtain rfl := hi'
      have CP := fun w => rPut_any ((P + 1)).toNat (by omega) w
      rw [Int.toNat_of_nonneg (show 0 ≤ (P + 1) by omega)] at CP
      replace CP := Lib.hid CP
      have hN9 := Lib.hid (putL_len ((P + 1)).toNat 9 (by omega))
      have hN0 : (0 : Int) ≤ (P + 1) := by omega
      have hN1 : (P + 1) < 18446744073709551616 := by omega
      go_wp2_with fail
      refine (CP.out _).mono ?_
      rintro r w5 ⟨v1, rfl, h5, hx5⟩
      obtain ⟨A1, c1, rfl, s5⟩ := own_parts h5
      have hlt : (putsL ((stL V S P F).take (4 - 2))).length + (putL ((P + 1)).toNat).length < 1099511627776 := by
        have := HLEN.out (4 - 2); have := hN9.out; omega
      have HLn := Lib.hid hlt
      have HO5 := Lib.hid (own_keep HO.out hx5)
      have hS5 := Lib.hid s5
      have hz5 := hx5.size
      have hbs := Lib.hid (show w1.heap.size + 1 ≤ w5.heap.size by omega)
      have HB5 := Lib.hid (HB.out.trans hx5)
      clear h5 hx5 s5 hz5 hlt CP HB HO
      go_wp2_with (at_builtin; refine wpList_append_sl w5 rfl _ _ 23 rfl (w1.heap.size + 1) 5 i0 (.int .u8 0) 1 1 Try.underlying23 hi hz0 hz1 hz2 rfl (by decide) _ _ _ (by rfl) HO5.out A1 _ c1 (by_ (putL ((P + 1)).toNat)) (by rfl) hS5.out by_one HLn.out (by decide) hbs.out ?_; intro v2 w6 hown6 hb6; have H6 := Lib.hid (And.intro hown6 hb6); clear hown6 hb6)
      go_roundg 1
      case measure => decide
      case rel =>
        refine ⟨by decide, rfl, ?_, Ext.below HB5.out (by simpa using H6.out.2)⟩
        have h6 := H6.out.1
        rw [by_append, ← List.length_append] at h6
        have e : putsL ((stL V S P F).take (4 - 1)) = putsL ((stL V S P F).take (4 - 2)) ++ putL ((P + 1)).toNat := by
          rw [show 4 - 1 = 2 + 1 from rfl, putsL_take (show (stL V S P F)[2]? = some (P + 1) from rfl)]
        rw [e]
        exact h6
    · change _ = Value.int .i64 3 at hi'
      obtain rfl := hi'
      have CP := fun w => rPut_any (F).toNat (by omega) w
      rw [Int.toNat_of_nonneg (show 0 ≤ F by omega)] at CP
      replace CP := Lib.hid CP
      have hN9 := Lib.hid (putL_len (F).toNat 9 (by omega))
      have hN0 : (0 : Int) ≤ F := by omega
      have hN1 : F < 18446744073709551616 := by omega
      go_wp2_with fail
      refine (CP.out _).mono ?_
      rintro r w5 ⟨v1, rfl, h5, hx5⟩
      obtain ⟨A1, c1, rfl, s5⟩ := own_parts h5
      have hlt : (putsL ((stL V S P F).take (4 - 1))).length + (putL (F).toNat).length < 1099511627776 := by
        have := HLEN.out (4 - 1); have := hN9.out; omega
      have HLn := Lib.hid hlt
      have HO5 := Lib.hid (own_keep HO.out hx5)
      have hS5 := Lib.hid s5
      have hz5 := hx5.size
      have hbs := Lib.hid (show w1.heap.size + 1 ≤ w5.heap.size by omega)
      have HB5 := Lib.hid (HB.out.trans hx5)
      clear h5 hx5 s5 hz5 hlt CP HB HO
      go_wp2_with (at_builtin; refine wpList_append_sl w5 rfl _ _ 23 rfl (w1.heap.size + 1) 5 i0 (.int .u8 0) 1 1 Try.underlying23 hi hz0 hz1 hz2 rfl (by decide) _ _ _ (by rfl) HO5.out A1 _ c1 (by_ (putL (F).toNat)) (by rfl) hS5.out by_one HLn.out (by decide) hbs.out ?_; intro v2 w6 hown6 hb6; have H6 := Lib.hid (And.intro hown6 hb6); clear hown6 hb6)
      go_roundg 0
      case measure => decide
      case rel =>
        refine ⟨by decide, rfl, ?_, Ext.below HB5.out (by simpa using H6.out.2)⟩
        have h6 := H6.out.1
        rw [by_append, ← List.length_append] at h6
        have e : putsL ((stL V S P F).take (4 - 0)) = putsL ((stL V S P F).take (4 - 1)) ++ putL (F).toNat := by
          rw [show 4 - 0 = 3 + 1 from rfl, putsL_take (show (stL V S P F)[3]? = some F from rfl)]
        rw [e]
        exact h6
/-- what Bytes answers -/
theorem rBytes12_any (V S P F : Int) (w : World) :
    Calls Try.prog 32 #[.agg #[.int .i64 V, .int .i64 S, .int .i64 P, .int .i64 F]] w (ByErr (stB V S P F) (chkS V S P F) w) := by
  unfold stB
  by_cases he : chkS V S P F = 0
  · rw [if_pos he, he]
    exact rBytes12_ok V S P F (chkS_ok he) w
  · rw [if_neg he]
    refine (rBytes12_bad V S P F _ rfl he w).mono ?_
    rintro r w' ⟨rfl, hx⟩
    exact ⟨_, rfl, World.ownsRow_nil _ _ _ _, hx⟩
set_option maxRecDepth 100000 in
set_option maxHeartbeats 4000000 in
theorem rTake12_some (g k k1 k2 k3 k4 : Nat) (L : List Nat) (f f1 f2 f3 : Option (Int × Int)) (at_ V S Q F : Int) (x : Int × Int) (q0 : 0 ≤ Q) (q1 : Q ≤ 32)
    (CA : Hid (∀ w, RRd w g L k f → Calls Try.prog 26 #[.pointer (some ⟨g, 0, none⟩)] w fun r w' => r = .returned (.int .i64 at_) ∧ w = w'))
    (C1 : Hid (∀ w, RRd w g L k f → Calls Try.prog 76 #[.pointer (some ⟨g, 0, none⟩), .int .i64 0, .int .i64 31] w fun r w' => r = .returned (.int .i64 V) ∧ RRd w' g L k1 f1 ∧ But (· = g) w w'))
    (C2 : Hid (∀ w, RRd w g L k1 f1 → Calls Try.prog 76 #[.pointer (some ⟨g, 0, none⟩), .int .i64 1, .int .i64 4294967296] w fun r w' => r = .returned (.int .i64 S) ∧ RRd w' g L k2 f2 ∧ But (· = g) w w'))
    (C3 : Hid (∀ w, RRd w g L k2 f2 → Calls Try.prog 76 #[.pointer (some ⟨g, 0, none⟩), .int .i64 0, .int .i64 32] w fun r w' => r = .returned (.int .i64 Q) ∧ RRd w' g L k3 f3 ∧ But (· = g) w w'))
    (C4 : Hid (∀ w, RRd w g L k3 f3 → Calls Try.prog 76 #[.pointer (some ⟨g, 0, none⟩), .int .i64 0, .int .i64 4294967296] w fun r w' => r = .returned (.int .i64 F) ∧ RRd w' g L k4 (some x) ∧ But (· = g) w w'))
    (w : World) (h : RRd w g L k f) :
    Calls Try.prog 24 #[.pointer (some ⟨g, 0, none⟩)] w fun r w' => r = .returned (.agg #[.int .i64 0, .int .i64 0, .int .i64 0, .int .i64 0]) ∧ RRd w' g L k4 (some x) ∧ But (· = g) w w' := by
  have hg := h.lt
  have HR := Lib.hid h
  clear h
  go_enter Try.func24, Try.ntmps24
  go_wp2_with fail
  (with_reducible refine (CA.out _ (by repeat (first | with_reducible exact HR.out | with_reducible refine RRd.set ?_ (by omega) _ | with_reducible refine RRd.ext ?_ (Ext.alloc (Ext.refl _) _) | with_reducible refine RRd.ext ?_ (Ext.drew (Ext.refl _)) | with_reducible refine RRd.drewN ?_ _))).mono ?_)
  rintro e w_1 ⟨rfl, rfl⟩
  go_wp2_with fail
  (with_reducible refine (C1.out _ (by repeat (first | with_reducible exact HR.out | with_reducible refine RRd.set ?_ (by omega) _ | with_reducible refine RRd.ext ?_ (Ext.alloc (Ext.refl _) _) | with_reducible refine RRd.ext ?_ (Ext.drew (Ext.refl _)) | with_reducible refine RRd.drewN ?_ _))).mono ?_)
  rintro e w1 ⟨rfl, hr, hx1⟩
  have hsz1 := hx1.size
  try simp at hsz1
  have c0_0f : w1.frozen? ⟨w.heap.size, 0, none⟩ = false := hx1.froz (by show ¬ _ = _; first | assumption | omega) (v := .int .i64 0) (by first | fail | (simp [go_sem, World.cell?_alloc_past]; done)) (by first | fail | (simp [go_sem, World.cell?_alloc_past]; done))
  have c0_1f : w1.frozen? ⟨w.heap.size, 1, none⟩ = false := hx1.froz (by show ¬ _ = _; first | assumption | omega) (v := .int .i64 0) (by first | fail | (simp [go_sem, World.cell?_alloc_past]; done)) (by first | fail | (simp [go_sem, World.cell?_alloc_past]; done))
  have c0_2f : w1.frozen? ⟨w.heap.size, 2, none⟩ = false := hx1.froz (by show ¬ _ = _; first | assumption | omega) (v := .int .i64 0) (by first | fail | (simp [go_sem, World.cell?_alloc_past]; done)) (by first | fail | (simp [go_sem, World.cell?_alloc_past]; done))
  have c0_3f : w1.frozen? ⟨w.heap.size, 3, none⟩ = false := hx1.froz (by show ¬ _ = _; first | assumption | omega) (v := .int .i64 0) (by first | fail | (simp [go_sem, World.cell?_alloc_past]; done)) (by first | fail | (simp [go_sem, World.cell?_alloc_past]; done))
  have c0_0 : w1.cell? ⟨w.heap.size, 0, none⟩ = some (.int .i64 0) := hx1.has (by show ¬ _ = _; first | assumption | omega) (by first | fail | (simp [go_sem, World.cell?_alloc_past]; done))
  have c0_1 : w1.cell? ⟨w.heap.size, 1, none⟩ = some (.int .i64 0) := hx1.has (by show ¬ _ = _; first | assumption | omega) (by first | fail | (simp [go_sem, World.cell?_alloc_past]; done))
  have c0_2 : w1.cell? ⟨w.heap.size, 2, none⟩ = some (.int .i64 0) := hx1.has (by show ¬ _ = _; first | assumption | omega) (by first | fail | (simp [go_sem, World.cell?_alloc_past]; done))
  have c0_3 : w1.cell? ⟨w.heap.size, 3, none⟩ = some (.int .i64 0) := hx1.has (by show ¬ _ = _; first | assumption | omega) (by first | fail | (simp [go_sem, World.cell?_alloc_past]; done))
  have c1_0f : w1.frozen? ⟨w.heap.size + 1, 0, none⟩ = false := hx1.froz (by show ¬ _ = _; first | assumption | omega) (v := .int .i64 0) (by first | fail | (simp [go_sem, World.cell?_alloc_past]; done)) (by first | fail | (simp [go_sem, World.cell?_alloc_past]; done))
  have c1_1f : w1.frozen? ⟨w.heap.size + 1, 1, none⟩ = false := hx1.froz (by show ¬ _ = _; first | assumption | omega) (v := .int .i64 0) (by first | fail | (simp [go_sem, World.cell?_alloc_past]; done)) (by first | fail | (simp [go_sem, World.cell?_alloc_past]; done))
  have c1_2f : w1.frozen? ⟨w.heap.size + 1, 2, none⟩ = false := hx1.froz (by show ¬ _ = _; first | assumption | omega) (v := .int .i64 0) (by first | fail | (simp [go_sem, World.cell?_alloc_past]; done)) (by first | fail | (simp [go_sem, World.cell?_alloc_past]; done))
  have c1_3f : w1.frozen? ⟨w.heap.size + 1, 3, none⟩ = false := hx1.froz (by show ¬ _ = _; first | assumption | omega) (v := .int .i64 0) (by first | fail | (simp [go_sem, World.cell?_alloc_past]; done)) (by first | fail | (simp [go_sem, World.cell?_alloc_past]; done))
  have c1_0 : w1.cell? ⟨w.heap.size + 1, 0, none⟩ = some (.int .i64 0) := hx1.has (by show ¬ _ = _; first | assumption | omega) (by first | fail | (simp [go_sem, World.cell?_alloc_past]; done))
  have c1_1 : w1.cell? ⟨w.heap.size + 1, 1, none⟩ = some (.int .i64 0) := hx1.has (by show ¬ _ = _; first | assumption | omega) (by first | fail | (simp [go_sem, World.cell?_alloc_past]; done))
  have c1_2 : w1.cell? ⟨w.heap.size + 1, 2, none⟩ = some (.int .i64 0) := hx1.has (by show ¬ _ = _; first | assumption | omega) (by first | fail | (simp [go_sem, World.cell?_alloc_past]; done))
  have c1_3 : w1.cell? ⟨w.heap.size + 1, 3, none⟩ = some (.int .i64 0) := hx1.has (by show ¬ _ = _; first | assumption | omega) (by first | fail | (simp [go_sem, World.cell?_alloc_past]; done))
  have z1 := hx1.size
  try simp at z1
  have lt_c0_c1 : w.heap.size < w.heap.size + 1 := by omega
  have ne_c0_c1 : ¬ w.heap.size = w.heap.size + 1 := by omega
  have ne_c1_c0 : ¬ w.heap.size + 1 = w.heap.size := by omega
  have rc0 : w.heap.size < w1.heap.size := by omega
  have rc0a : w.heap.size < w1.heap.size + 1 := by omega
  have rc0b : w.heap.size < w1.heap.size + 1 + 1 := by omega
  have rc0c : w.heap.size < w1.heap.size + 1 + 1 + 1 := by omega
  have rc0n : ¬ w.heap.size = w1.heap.size := by omega
  have rc1 : w.heap.size + 1 < w1.heap.size := by omega
  have rc1a : w.heap.size + 1 < w1.heap.size + 1 := by omega
  have rc1b : w.heap.size + 1 < w1.heap.size + 1 + 1 := by omega
  have rc1c : w.heap.size + 1 < w1.heap.size + 1 + 1 + 1 := by omega
  have rc1n : ¬ w.heap.size + 1 = w1.heap.size := by omega
  have X1 : Hid (But (· = g) w w1) := Lib.hid (But.trans (by repeat (first | with_reducible exact But.refl _ w | with_reducible refine But.drew ?_ | with_reducible refine But.drewN ?_ _ | with_reducible refine But.alloc ?_ _ | with_reducible refine But.setG ?_ _ | with_reducible refine But.setNew ?_ (by first | omega | (simp; done) | (simp; omega)) _)) hx1)
  clear HR
  have HR := Lib.hid hr
  clear hsz1 hx1 z1 hr
  go_wp2_with fail
  (with_reducible refine (C2.out _ (by repeat (first | with_reducible exact HR.out | with_reducible refine RRd.set ?_ (by omega) _ | with_reducible refine RRd.ext ?_ (Ext.alloc (Ext.refl _) _) | with_reducible refine RRd.ext ?_ (Ext.drew (Ext.refl _)) | with_reducible refine RRd.drewN ?_ _))).mono ?_)
  rintro e w2 ⟨rfl, hr, hx2⟩
  have hsz2 := hx2.size
  try simp at hsz2
  replace c0_0f : w2.frozen? ⟨w.heap.size, 0, none⟩ = false := hx2.froz (by show ¬ _ = _; first | assumption | omega) (v := .int .i64 0) (by first | exact c0_0 | (simp [go_sem, World.cell?_alloc_past, c0_0f, c0_1f, c0_2f, c0_3f, c0_0, c0_1, c0_2, c0_3, c1_0f, c1_1f, c1_2f, c1_3f, c1_0, c1_1, c1_2, c1_3, ne_c0_c1, ne_c1_c0, rc0, rc0a, rc0b, rc0c, rc0n, rc1, rc1a, rc1b, rc1c, rc1n]; done)) (by first | exact c0_0f | (simp [go_sem, World.cell?_alloc_past, c0_0f, c0_1f, c0_2f, c0_3f, c0_0, c0_1, c0_2, c0_3, c1_0f, c1_1f, c1_2f, c1_3f, c1_0, c1_1, c1_2, c1_3, ne_c0_c1, ne_c1_c0, rc0, rc0a, rc0b, rc0c, rc0n, rc1, rc1a, rc1b, rc1c, rc1n]; done))
  replace c0_1f : w2.frozen? ⟨w.heap.size, 1, none⟩ = false := hx2.froz (by show ¬ _ = _; first | assumption | omega) (v := .int .i64 0) (by first | exact c0_1 | (simp [go_sem, World.cell?_alloc_past, c0_0f, c0_1f, c0_2f, c0_3f, c0_0, c0_1, c0_2, c0_3, c1_0f, c1_1f, c1_2f, c1_3f, c1_0, c1_1, c1_2, c1_3, ne_c0_c1, ne_c1_c0, rc0, rc0a, rc0b, rc0c, rc0n, rc1, rc1a, rc1b, rc1c, rc1n]; done)) (by first | exact c0_1f | (simp [go_sem, World.cell?_alloc_past, c0_0f, c0_1f, c0_2f, c0_3f, c0_0, c0_1, c0_2, c0_3, c1_0f, c1_1f, c1_2f, c1_3f, c1_0, c1_1, c1_2, c1_3, ne_c0_c1, ne_c1_c0, rc0, rc0a, rc0b, rc0c, rc0n, rc1, rc1a, rc1b, rc1c, rc1n]; done))
  replace c0_2f : w2.frozen? ⟨w.heap.size, 2, none⟩ = false := hx2.froz (by show ¬ _ = _; first | assumption | omega) (v := .int .i64 0) (by first | exact c0_2 | (simp [go_sem, World.cell?_alloc_past, c0_0f, c0_1f, c0_2f, c0_3f, c0_0, c0_1, c0_2, c0_3, c1_0f, c1_1f, c1_2f, c1_3f, c1_0, c1_1, c1_2, c1_3, ne_c0_c1, ne_c1_c0, rc0, rc0a, rc0b, rc0c, rc0n, rc1, rc1a, rc1b, rc1c, rc1n]; done)) (by first | exact c0_2f | (simp [go_sem, World.cell?_alloc_past, c0_0f, c0_1f, c0_2f, c0_3f, c0_0, c0_1, c0_2, c0_3, c1_0f, c1_1f, c1_2f, c1_3f, c1_0, c1_1, c1_2, c1_3, ne_c0_c1, ne_c1_c0, rc0, rc0a, rc0b, rc0c, rc0n, rc1, rc1a, rc1b, rc1c, rc1n]; done))
  replace c0_3f : w2.frozen? ⟨w.heap.size, 3, none⟩ = false := hx2.froz (by show ¬ _ = _; first | assumption | omega) (v := .int .i64 0) (by first | exact c0_3 | (simp [go_sem, World.cell?_alloc_past, c0_0f, c0_1f, c0_2f, c0_3f, c0_0, c0_1, c0_2, c0_3, c1_0f, c1_1f, c1_2f, c1_3f, c1_0, c1_1, c1_2, c1_3, ne_c0_c1, ne_c1_c0, rc0, rc0a, rc0b, rc0c, rc0n, rc1, rc1a, rc1b, rc1c, rc1n]; done)) (by first | exact c0_3f | (simp [go_sem, World.cell?_alloc_past, c0_0f, c0_1f, c0_2f, c0_3f, c0_0, c0_1, c0_2, c0_3, c1_0f, c1_1f, c1_2f, c1_3f, c1_0, c1_1, c1_2, c1_3, ne_c0_c1, ne_c1_c0, rc0, rc0a, rc0b, rc0c, rc0n, rc1, rc1a, rc1b, rc1c, rc1n]; done))
  replace c0_0 : w2.cell? ⟨w.heap.size, 0, none⟩ = some (.int .i64 0) := hx2.has (by show ¬ _ = _; first | assumption | omega) (by first | exact c0_0 | (simp [go_sem, World.cell?_alloc_past, c0_0f, c0_1f, c0_2f, c0_3f, c0_0, c0_1, c0_2, c0_3, c1_0f, c1_1f, c1_2f, c1_3f, c1_0, c1_1, c1_2, c1_3, ne_c0_c1, ne_c1_c0, rc0, rc0a, rc0b, rc0c, rc0n, rc1, rc1a, rc1b, rc1c, rc1n]; done))
  replace c0_1 : w2.cell? ⟨w.heap.size, 1, none⟩ = some (.int .i64 0) := hx2.has (by show ¬ _ = _; first | assumption | omega) (by first | exact c0_1 | (simp [go_sem, World.cell?_alloc_past, c0_0f, c0_1f, c0_2f, c0_3f, c0_0, c0_1, c0_2, c0_3, c1_0f, c1_1f, c1_2f, c1_3f, c1_0, c1_1, c1_2, c1_3, ne_c0_c1, ne_c1_c0, rc0, rc0a, rc0b, rc0c, rc0n, rc1, rc1a, rc1b, rc1c, rc1n]; done))
  replace c0_2 : w2.cell? ⟨w.heap.size, 2, none⟩ = some (.int .i64 0) := hx2.has (by show ¬ _ = _; first | assumption | omega) (by first | exact c0_2 | (simp [go_sem, World.cell?_alloc_past, c0_0f, c0_1f, c0_2f, c0_3f, c0_0, c0_1, c0_2, c0_3, c1_0f, c1_1f, c1_2f, c1_3f, c1_0, c1_1, c1_2, c1_3, ne_c0_c1, ne_c1_c0, rc0, rc0a, rc0b, rc0c, rc0n, rc1, rc1a, rc1b, rc1c, rc1n]; done))
  replace c0_3 : w2.cell? ⟨w.heap.size, 3, none⟩ = some (.int .i64 0) := hx2.has (by show ¬ _ = _; first | assumption | omega) (by first | exact c0_3 | (simp [go_sem, World.cell?_alloc_past, c0_0f, c0_1f, c0_2f, c0_3f, c0_0, c0_1, c0_2, c0_3, c1_0f, c1_1f, c1_2f, c1_3f, c1_0, c1_1, c1_2, c1_3, ne_c0_c1, ne_c1_c0, rc0, rc0a, rc0b, rc0c, rc0n, rc1, rc1a, rc1b, rc1c, rc1n]; done))
  replace c1_1f : w2.frozen? ⟨w.heap.size + 1, 1, none⟩ = false := hx2.froz (by show ¬ _ = _; first | assumption | omega) (v := .int .i64 0) (by first | exact c1_1 | (simp [go_sem, World.cell?_alloc_past, c0_0f, c0_1f, c0_2f, c0_3f, c0_0, c0_1, c0_2, c0_3, c1_0f, c1_1f, c1_2f, c1_3f, c1_0, c1_1, c1_2, c1_3, ne_c0_c1, ne_c1_c0, rc0, rc0a, rc0b, rc0c, rc0n, rc1, rc1a, rc1b, rc1c, rc1n]; done)) (by first | exact c1_1f | (simp [go_sem, World.cell?_alloc_past, c0_0f, c0_1f, c0_2f, c0_3f, c0_0, c0_1, c0_2, c0_3, c1_0f, c1_1f, c1_2f, c1_3f, c1_0, c1_1, c1_2, c1_3, ne_c0_c1, ne_c1_c0, rc0, rc0a, rc0b, rc0c, rc0n, rc1, rc1a, rc1b, rc1c, rc1n]; done))
  replace c1_2f : w2.frozen? ⟨w.heap.size + 1, 2, none⟩ = false := hx2.froz (by show ¬ _ = _; first | assumption | omega) (v := .int .i64 0) (by first | exact c1_2 | (simp [go_sem, World.cell?_alloc_past, c0_0f, c0_1f, c0_2f, c0_3f, c0_0, c0_1, c0_2, c0_3, c1_0f, c1_1f, c1_2f, c1_3f, c1_0, c1_1, c1_2, c1_3, ne_c0_c1, ne_c1_c0, rc0, rc0a, rc0b, rc0c, rc0n, rc1, rc1a, rc1b, rc1c, rc1n]; done)) (by first | exact c1_2f | (simp [go_sem, World.cell?_alloc_past, c0_0f, c0_1f, c0_2f, c0_3f, c0_0, c0_1, c0_2, c0_3, c1_0f, c1_1f, c1_2f, c1_3f, c1_0, c1_1, c1_2, c1_3, ne_c0_c1, ne_c1_c0, rc0, rc0a, rc0b, rc0c, rc0n, rc1, rc1a, rc1b, rc1c, rc1n]; done))
  replace c1_3f : w2.frozen? ⟨w.heap.size + 1, 3, none⟩ = false := hx2.froz (by show ¬ _ = _; first | assumption | omega) (v := .int .i64 0) (by first | exact c1_3 | (simp [go_sem, World.cell?_alloc_past, c0_0f, c0_1f, c0_2f, c0_3f, c0_0, c0_1, c0_2, c0_3, c1_0f, c1_1f, c1_2f, c1_3f, c1_0, c1_1, c1_2, c1_3, ne_c0_c1, ne_c1_c0, rc0, rc0a, rc0b, rc0c, rc0n, rc1, rc1a, rc1b, rc1c, rc1n]; done)) (by first | exact c1_3f | (simp [go_sem, World.cell?_alloc_past, c0_0f, c0_1f, c0_2f, c0_3f, c0_0, c0_1, c0_2, c0_3, c1_0f, c1_1f, c1_2f, c1_3f, c1_0, c1_1, c1_2, c1_3, ne_c0_c1, ne_c1_c0, rc0, rc0a, rc0b, rc0c, rc0n, rc1, rc1a, rc1b, rc1c, rc1n]; done))
  replace c1_1 : w2.cell? ⟨w.heap.size + 1, 1, none⟩ = some (.int .i64 0) := hx2.has (by show ¬ _ = _; first | assumption | omega) (by first | exact c1_1 | (simp [go_sem, World.cell?_alloc_past, c0_0f, c0_1f, c0_2f, c0_3f, c0_0, c0_1, c0_2, c0_3, c1_0f, c1_1f, c1_2f, c1_3f, c1_0, c1_1, c1_2, c1_3, ne_c0_c1, ne_c1_c0, rc0, rc0a, rc0b, rc0c, rc0n, rc1, rc1a, rc1b, rc1c, rc1n]; done))
  replace c1_2 : w2.cell? ⟨w.heap.size + 1, 2, none⟩ = some (.int .i64 0) := hx2.has (by show ¬ _ = _; first | assumption | omega) (by first | exact c1_2 | (simp [go_sem, World.cell?_alloc_past, c0_0f, c0_1f, c0_2f, c0_3f, c0_0, c0_1, c0_2, c0_3, c1_0f, c1_1f, c1_2f, c1_3f, c1_0, c1_1, c1_2, c1_3, ne_c0_c1, ne_c1_c0, rc0, rc0a, rc0b, rc0c, rc0n, rc1, rc1a, rc1b, rc1c, rc1n]; done))
  replace c1_3 : w2.cell? ⟨w.heap.size + 1, 3, none⟩ = some (.int .i64 0) := hx2.has (by show ¬ _ = _; first | assumption | omega) (by first | exact c1_3 | (simp [go_sem, World.cell?_alloc_past, c0_0f, c0_1f, c0_2f, c0_3f, c0_0, c0_1, c0_2, c0_3, c1_0f, c1_1f, c1_2f, c1_3f, c1_0, c1_1, c1_2, c1_3, ne_c0_c1, ne_c1_c0, rc0, rc0a, rc0b, rc0c, rc0n, rc1, rc1a, rc1b, rc1c, rc1n]; done))
  have z2 := hx2.size
  try simp at z2
  replace rc0 : w.heap.size < w2.heap.size := by omega
  replace rc0a : w.heap.size < w2.heap.size + 1 := by omega
  replace rc0b : w.heap.size < w2.heap.size + 1 + 1 := by omega
  replace rc0c : w.heap.size < w2.heap.size + 1 + 1 + 1 := by omega
  replace rc0n : ¬ w.heap.size = w2.heap.size := by omega
  replace rc1 : w.heap.size + 1 < w2.heap.size := by omega
  replace rc1a : w.heap.size + 1 < w2.heap.size + 1 := by omega
  replace rc1b : w.heap.size + 1 < w2.heap.size + 1 + 1 := by omega
  replace rc1c : w.heap.size + 1 < w2.heap.size + 1 + 1 + 1 := by omega
  replace rc1n : ¬ w.heap.size + 1 = w2.heap.size := by omega
  have X2 : Hid (But (· = g) w w2) := Lib.hid (But.trans (by repeat (first | with_reducible exact X1.out | with_reducible refine But.drew ?_ | with_reducible refine But.drewN ?_ _ | with_reducible refine But.alloc ?_ _ | with_reducible refine But.setG ?_ _ | with_reducible refine But.setNew ?_ (by first | omega | (simp; done) | (simp; omega)) _)) hx2)
  clear HR
  have HR := Lib.hid hr
  clear c1_0 c1_0f hsz2 X1 hx2 z2 hr
  go_wp2_with fail
  (with_reducible refine (C3.out _ (by repeat (first | with_reducible exact HR.out | with_reducible refine RRd.set ?_ (by omega) _ | with_reducible refine RRd.ext ?_ (Ext.alloc (Ext.refl _) _) | with_reducible refine RRd.ext ?_ (Ext.drew (Ext.refl _)) | with_reducible refine RRd.drewN ?_ _))).mono ?_)
  rintro e w3 ⟨rfl, hr, hx3⟩
  have hsz3 := hx3.size
  try simp at hsz3
  replace c0_0f : w3.frozen? ⟨w.heap.size, 0, none⟩ = false := hx3.froz (by show ¬ _ = _; first | assumption | omega) (v := .int .i64 0) (by first | exact c0_0 | (simp [go_sem, World.cell?_alloc_past, c0_0f, c0_1f, c0_2f, c0_3f, c0_0, c0_1, c0_2, c0_3, c1_1f, c1_2f, c1_3f, c1_1, c1_2, c1_3, ne_c0_c1, ne_c1_c0, rc0, rc0a, rc0b, rc0c, rc0n, rc1, rc1a, rc1b, rc1c, rc1n]; done)) (by first | exact c0_0f | (simp [go_sem, World.cell?_alloc_past, c0_0f, c0_1f, c0_2f, c0_3f, c0_0, c0_1, c0_2, c0_3, c1_1f, c1_2f, c1_3f, c1_1, c1_2, c1_3, ne_c0_c1, ne_c1_c0, rc0, rc0a, rc0b, rc0c, rc0n, rc1, rc1a, rc1b, rc1c, rc1n]; done))
  replace c0_1f : w3.frozen? ⟨w.heap.size, 1, none⟩ = false := hx3.froz (by show ¬ _ = _; first | assumption | omega) (v := .int .i64 0) (by first | exact c0_1 | (simp [go_sem, World.cell?_alloc_past, c0_0f, c0_1f, c0_2f, c0_3f, c0_0, c0_1, c0_2, c0_3, c1_1f, c1_2f, c1_3f, c1_1, c1_2, c1_3, ne_c0_c1, ne_c1_c0, rc0, rc0a, rc0b, rc0c, rc0n, rc1, rc1a, rc1b, rc1c, rc1n]; done)) (by first | exact c0_1f | (simp [go_sem, World.cell?_alloc_past, c0_0f, c0_1f, c0_2f, c0_3f, c0_0, c0_1, c0_2, c0_3, c1_1f, c1_2f, c1_3f, c1_1, c1_2, c1_3, ne_c0_c1, ne_c1_c0, rc0, rc0a, rc0b, rc0c, rc0n, rc1, rc1a, rc1b, rc1c, rc1n]; done))
  replace c0_2f : w3.frozen? ⟨w.heap.size, 2, none⟩ = false := hx3.froz (by show ¬ _ = _; first | assumption | omega) (v := .int .i64 0) (by first | exact c0_2 | (simp [go_sem, World.cell?_alloc_past, c0_0f, c0_1f, c0_2f, c0_3f, c0_0, c0_1, c0_2, c0_3, c1_1f, c1_2f, c1_3f, c1_1, c1_2, c1_3, ne_c0_c1, ne_c1_c0, rc0, rc0a, rc0b, rc0c, rc0n, rc1, rc1a, rc1b, rc1c, rc1n]; done)) (by first | exact c0_2f | (simp [go_sem, World.cell?_alloc_past, c0_0f, c0_1f, c0_2f, c0_3f, c0_0, c0_1, c0_2, c0_3, c1_1f, c1_2f, c1_3f, c1_1, c1_2, c1_3, ne_c0_c1, ne_c1_c0, rc0, rc0a, rc0b, rc0c, rc0n, rc1, rc1a, rc1b, rc1c, rc1n]; done))
  replace c0_3f : w3.frozen? ⟨w.heap.size, 3, none⟩ = false := hx3.froz (by show ¬ _ = _; first | assumption | omega) (v := .int .i64 0) (by first | exact c0_3 | (simp [go_sem, World.cell?_alloc_past, c0_0f, c0_1f, c0_2f, c0_3f, c0_0, c0_1, c0_2, c0_3, c1_1f, c1_2f, c1_3f, c1_1, c1_2, c1_3, ne_c0_c1, ne_c1_c0, rc0, rc0a, rc0b, rc0c, rc0n, rc1, rc1a, rc1b, rc1c, rc1n]; done)) (by first | exact c0_3f | (simp [go_sem, World.cell?_alloc_past, c0_0f, c0_1f, c0_2f, c0_3f, c0_0, c0_1, c0_2, c0_3, c1_1f, c1_2f, c1_3f, c1_1, c1_2, c1_3, ne_c0_c1, ne_c1_c0, rc0, rc0a, rc0b, rc0c, rc0n, rc1, rc1a, rc1b, rc1c, rc1n]; done))
  replace c0_0 : w3.cell? ⟨w.heap.size, 0, none⟩ = some (.int .i64 0) := hx3.has (by show ¬ _ = _; first | assumption | omega) (by first | exact c0_0 | (simp [go_sem, World.cell?_alloc_past, c0_0f, c0_1f, c0_2f, c0_3f, c0_0, c0_1, c0_2, c0_3, c1_1f, c1_2f, c1_3f, c1_1, c1_2, c1_3, ne_c0_c1, ne_c1_c0, rc0, rc0a, rc0b, rc0c, rc0n, rc1, rc1a, rc1b, rc1c, rc1n]; done))
  replace c0_1 : w3.cell? ⟨w.heap.size, 1, none⟩ = some (.int .i64 0) := hx3.has (by show ¬ _ = _; first | assumption | omega) (by first | exact c0_1 | (simp [go_sem, World.cell?_alloc_past, c0_0f, c0_1f, c0_2f, c0_3f, c0_0, c0_1, c0_2, c0_3, c1_1f, c1_2f, c1_3f, c1_1, c1_2, c1_3, ne_c0_c1, ne_c1_c0, rc0, rc0a, rc0b, rc0c, rc0n, rc1, rc1a, rc1b, rc1c, rc1n]; done))
  replace c0_2 : w3.cell? ⟨w.heap.size, 2, none⟩ = some (.int .i64 0) := hx3.has (by show ¬ _ = _; first | assumption | omega) (by first | exact c0_2 | (simp [go_sem, World.cell?_alloc_past, c0_0f, c0_1f, c0_2f, c0_3f, c0_0, c0_1, c0_2, c0_3, c1_1f, c1_2f, c1_3f, c1_1, c1_2, c1_3, ne_c0_c1, ne_c1_c0, rc0, rc0a, rc0b, rc0c, rc0n, rc1, rc1a, rc1b, rc1c, rc1n]; done))
  replace c0_3 : w3.cell? ⟨w.heap.size, 3, none⟩ = some (.int .i64 0) := hx3.has (by show ¬ _ = _; first | assumption | omega) (by first | exact c0_3 | (simp [go_sem, World.cell?_alloc_past, c0_0f, c0_1f, c0_2f, c0_3f, c0_0, c0_1, c0_2, c0_3, c1_1f, c1_2f, c1_3f, c1_1, c1_2, c1_3, ne_c0_c1, ne_c1_c0, rc0, rc0a, rc0b, rc0c, rc0n, rc1, rc1a, rc1b, rc1c, rc1n]; done))
  replace c1_2f : w3.frozen? ⟨w.heap.size + 1, 2, none⟩ = false := hx3.froz (by show ¬ _ = _; first | assumption | omega) (v := .int .i64 0) (by first | exact c1_2 | (simp [go_sem, World.cell?_alloc_past, c0_0f, c0_1f, c0_2f, c0_3f, c0_0, c0_1, c0_2, c0_3, c1_1f, c1_2f, c1_3f, c1_1, c1_2, c1_3, ne_c0_c1, ne_c1_c0, rc0, rc0a, rc0b, rc0c, rc0n, rc1, rc1a, rc1b, rc1c, rc1n]; done)) (by first | exact c1_2f | (simp [go_sem, World.cell?_alloc_past, c0_0f, c0_1f, c0_2f, c0_3f, c0_0, c0_1, c0_2, c0_3, c1_1f, c1_2f, c1_3f, c1_1, c1_2, c1_3, ne_c0_c1, ne_c1_c0, rc0, rc0a, rc0b, rc0c, rc0n, rc1, rc1a, rc1b, rc1c, rc1n]; done))
  replace c1_3f : w3.frozen? ⟨w.heap.size + 1, 3, none⟩ = false := hx3.froz (by show ¬ _ = _; first | assumption | omega) (v := .int .i64 0) (by first | exact c1_3 | (simp [go_sem, World.cell?_alloc_past, c0_0f, c0_1f, c0_2f, c0_3f, c0_0, c0_1, c0_2, c0_3, c1_1f, c1_2f, c1_3f, c1_1, c1_2, c1_3, ne_c0_c1, ne_c1_c0, rc0, rc0a, rc0b, rc0c, rc0n, rc1, rc1a, rc1b, rc1c, rc1n]; done)) (by first | exact c1_3f | (simp [go_sem, World.cell?_alloc_past, c0_0f, c0_1f, c0_2f, c0_3f, c0_0, c0_1, c0_2, c0_3, c1_1f, c1_2f, c1_3f, c1_1, c1_2, c1_3, ne_c0_c1, ne_c1_c0, rc0, rc0a, rc0b, rc0c, rc0n, rc1, rc1a, rc1b, rc1c, rc1n]; done))
  replace c1_2 : w3.cell? ⟨w.heap.size + 1, 2, none⟩ = some (.int .i64 0) := hx3.has (by show ¬ _ = _; first | assumption | omega) (by first | exact c1_2 | (simp [go_sem, World.cell?_alloc_past, c0_0f, c0_1f, c0_2f, c0_3f, c0_0, c0_1, c0_2, c0_3, c1_1f, c1_2f, c1_3f, c1_1, c1_2, c1_3, ne_c0_c1, ne_c1_c0, rc0, rc0a, rc0b, rc0c, rc0n, rc1, rc1a, rc1b, rc1c, rc1n]; done))
  replace c1_3 : w3.cell? ⟨w.heap.size + 1, 3, none⟩ = some (.int .i64 0) := hx3.has (by show ¬ _ = _; first | assumption | omega) (by first | exact c1_3 | (simp [go_sem, World.cell?_alloc_past, c0_0f, c0_1f, c0_2f, c0_3f, c0_0, c0_1, c0_2, c0_3, c1_1f, c1_2f, c1_3f, c1_1, c1_2, c1_3, ne_c0_c1, ne_c1_c0, rc0, rc0a, rc0b, rc0c, rc0n, rc1, rc1a, rc1b, rc1c, rc1n]; done))
  have z3 := hx3.size
  try simp at z3
  replace rc0 : w.heap.size < w3.heap.size := by omega
  replace rc0a : w.heap.size < w3.heap.size + 1 := by omega
  replace rc0b : w.heap.size < w3.heap.size + 1 + 1 := by omega
  replace rc0c : w.heap.size < w3.heap.size + 1 + 1 + 1 := by omega
  replace rc0n : ¬ w.heap.size = w3.heap.size := by omega
  replace rc1 : w.heap.size + 1 < w3.heap.size := by omega
  replace rc1a : w.heap.size + 1 < w3.heap.size + 1 := by omega
  replace rc1b : w.heap.size + 1 < w3.heap.size + 1 + 1 := by omega
  replace rc1c : w.heap.size + 1 < w3.heap.size + 1 + 1 + 1 := by omega
  replace rc1n : ¬ w.heap.size + 1 = w3.heap.size := by omega
  have X3 : Hid (But (· = g) w w3) := Lib.hid (But.trans (by repeat (first | with_reducible exact X2.out | with_reducible refine But.drew ?_ | with_reducible refine But.drewN ?_ _ | with_reducible refine But.alloc ?_ _ | with_reducible refine But.setG ?_ _ | with_reducible refine But.setNew ?_ (by first | omega | (simp; done) | (simp; omega)) _)) hx3)
  clear HR
  have HR := Lib.hid hr
  clear c1_1f c1_1 hsz3 X2 hx3 z3 hr
  go_wp2_with fail
  (with_reducible refine (C4.out _ (by repeat (first | with_reducible exact HR.out | with_reducible refine RRd.set ?_ (by omega) _ | with_reducible refine RRd.ext ?_ (Ext.alloc (Ext.refl _) _) | with_reducible refine RRd.ext ?_ (Ext.drew (Ext.refl _)) | with_reducible refine RRd.drewN ?_ _))).mono ?_)
  rintro e w4 ⟨rfl, hr, hx4⟩
  have hsz4 := hx4.size
  try simp at hsz4
  replace c0_0f : w4.frozen? ⟨w.heap.size, 0, none⟩ = false := hx4.froz (by show ¬ _ = _; first | assumption | omega) (v := .int .i64 0) (by first | exact c0_0 | (simp [go_sem, World.cell?_alloc_past, c0_0f, c0_1f, c0_2f, c0_3f, c0_0, c0_1, c0_2, c0_3, c1_2f, c1_3f, c1_2, c1_3, ne_c0_c1, ne_c1_c0, rc0, rc0a, rc0b, rc0c, rc0n, rc1, rc1a, rc1b, rc1c, rc1n]; done)) (by first | exact c0_0f | (simp [go_sem, World.cell?_alloc_past, c0_0f, c0_1f, c0_2f, c0_3f, c0_0, c0_1, c0_2, c0_3, c1_2f, c1_3f, c1_2, c1_3, ne_c0_c1, ne_c1_c0, rc0, rc0a, rc0b, rc0c, rc0n, rc1, rc1a, rc1b, rc1c, rc1n]; done))
  replace c0_1f : w4.frozen? ⟨w.heap.size, 1, none⟩ = false := hx4.froz (by show ¬ _ = _; first | assumption | omega) (v := .int .i64 0) (by first | exact c0_1 | (simp [go_sem, World.cell?_alloc_past, c0_0f, c0_1f, c0_2f, c0_3f, c0_0, c0_1, c0_2, c0_3, c1_2f, c1_3f, c1_2, c1_3, ne_c0_c1, ne_c1_c0, rc0, rc0a, rc0b, rc0c, rc0n, rc1, rc1a, rc1b, rc1c, rc1n]; done)) (by first | exact c0_1f | (simp [go_sem, World.cell?_alloc_past, c0_0f, c0_1f, c0_2f, c0_3f, c0_0, c0_1, c0_2, c0_3, c1_2f, c1_3f, c1_2, c1_3, ne_c0_c1, ne_c1_c0, rc0, rc0a, rc0b, rc0c, rc0n, rc1, rc1a, rc1b, rc1c, rc1n]; done))
  replace c0_2f : w4.frozen? ⟨w.heap.size, 2, none⟩ = false := hx4.froz (by show ¬ _ = _; first | assumption | omega) (v := .int .i64 0) (by first | exact c0_2 | (simp [go_sem, World.cell?_alloc_past, c0_0f, c0_1f, c0_2f, c0_3f, c0_0, c0_1, c0_2, c0_3, c1_2f, c1_3f, c1_2, c1_3, ne_c0_c1, ne_c1_c0, rc0, rc0a, rc0b, rc0c, rc0n, rc1, rc1a, rc1b, rc1c, rc1n]; done)) (by first | exact c0_2f | (simp [go_sem, World.cell?_alloc_past, c0_0f, c0_1f, c0_2f, c0_3f, c0_0, c0_1, c0_2, c0_3, c1_2f, c1_3f, c1_2, c1_3, ne_c0_c1, ne_c1_c0, rc0, rc0a, rc0b, rc0c, rc0n, rc1, rc1a, rc1b, rc1c, rc1n]; done))
  replace c0_3f : w4.frozen? ⟨w.heap.size, 3, none⟩ = false := hx4.froz (by show ¬ _ = _; first | assumption | omega) (v := .int .i64 0) (by first | exact c0_3 | (simp [go_sem, World.cell?_alloc_past, c0_0f, c0_1f, c0_2f, c0_3f, c0_0, c0_1, c0_2, c0_3, c1_2f, c1_3f, c1_2, c1_3, ne_c0_c1, ne_c1_c0, rc0, rc0a, rc0b, rc0c, rc0n, rc1, rc1a, rc1b, rc1c, rc1n]; done)) (by first | exact c0_3f | (simp [go_sem, World.cell?_alloc_past, c0_0f, c0_1f, c0_2f, c0_3f, c0_0, c0_1, c0_2, c0_3, c1_2f, c1_3f, c1_2, c1_3, ne_c0_c1, ne_c1_c0, rc0, rc0a, rc0b, rc0c, rc0n, rc1, rc1a, rc1b, rc1c, rc1n]; done))
  replace c0_0 : w4.cell? ⟨w.heap.size, 0, none⟩ = some (.int .i64 0) := hx4.has (by show ¬ _ = _; first | assumption | omega) (by first | exact c0_0 | (simp [go_sem, World.cell?_alloc_past, c0_0f, c0_1f, c0_2f, c0_3f, c0_0, c0_1, c0_2, c0_3, c1_2f, c1_3f, c1_2, c1_3, ne_c0_c1, ne_c1_c0, rc0, rc0a, rc0b, rc0c, rc0n, rc1, rc1a, rc1b, rc1c, rc1n]; done))
  replace c0_1 : w4.cell? ⟨w.heap.size, 1, none⟩ = some (.int .i64 0) := hx4.has (by show ¬ _ = _; first | assumption | omega) (by first | exact c0_1 | (simp [go_sem, World.cell?_alloc_past, c0_0f, c0_1f, c0_2f, c0_3f, c0_0, c0_1, c0_2, c0_3, c1_2f, c1_3f, c1_2, c1_3, ne_c0_c1, ne_c1_c0, rc0, rc0a, rc0b, rc0c, rc0n, rc1, rc1a, rc1b, rc1c, rc1n]; done))
  replace c0_2 : w4.cell? ⟨w.heap.size, 2, none⟩ = some (.int .i64 0) := hx4.has (by show ¬ _ = _; first | assumption | omega) (by first | exact c0_2 | (simp [go_sem, World.cell?_alloc_past, c0_0f, c0_1f, c0_2f, c0_3f, c0_0, c0_1, c0_2, c0_3, c1_2f, c1_3f, c1_2, c1_3, ne_c0_c1, ne_c1_c0, rc0, rc0a, rc0b, rc0c, rc0n, rc1, rc1a, rc1b, rc1c, rc1n]; done))
  replace c0_3 : w4.cell? ⟨w.heap.size, 3, none⟩ = some (.int .i64 0) := hx4.has (by show ¬ _ = _; first | assumption | omega) (by first | exact c0_3 | (simp [go_sem, World.cell?_alloc_past, c0_0f, c0_1f, c0_2f, c0_3f, c0_0, c0_1, c0_2, c0_3, c1_2f, c1_3f, c1_2, c1_3, ne_c0_c1, ne_c1_c0, rc0, rc0a, rc0b, rc0c, rc0n, rc1, rc1a, rc1b, rc1c, rc1n]; done))
  replace c1_3f : w4.frozen? ⟨w.heap.size + 1, 3, none⟩ = false := hx4.froz (by show ¬ _ = _; first | assumption | omega) (v := .int .i64 0) (by first | exact c1_3 | (simp [go_sem, World.cell?_alloc_past, c0_0f, c0_1f, c0_2f, c0_3f, c0_0, c0_1, c0_2, c0_3, c1_2f, c1_3f, c1_2, c1_3, ne_c0_c1, ne_c1_c0, rc0, rc0a, rc0b, rc0c, rc0n, rc1, rc1a, rc1b, rc1c, rc1n]; done)) (by first | exact c1_3f | (simp [go_sem, World.cell?_alloc_past, c0_0f, c0_1f, c0_2f, c0_3f, c0_0, c0_1, c0_2, c0_3, c1_2f, c1_3f, c1_2, c1_3, ne_c0_c1, ne_c1_c0, rc0, rc0a, rc0b, rc0c, rc0n, rc1, rc1a, rc1b, rc1c, rc1n]; done))
  replace c1_3 : w4.cell? ⟨w.heap.size + 1, 3, none⟩ = some (.int .i64 0) := hx4.has (by show ¬ _ = _; first | assumption | omega) (by first | exact c1_3 | (simp [go_sem, World.cell?_alloc_past, c0_0f, c0_1f, c0_2f, c0_3f, c0_0, c0_1, c0_2, c0_3, c1_2f, c1_3f, c1_2, c1_3, ne_c0_c1, ne_c1_c0, rc0, rc0a, rc0b, rc0c, rc0n, rc1, rc1a, rc1b, rc1c, rc1n]; done))
  have z4 := hx4.size
  try simp at z4
  replace rc0 : w.heap.size < w4.heap.size := by omega
  replace rc0a : w.heap.size < w4.heap.size + 1 := by omega
  replace rc0b : w.heap.size < w4.heap.size + 1 + 1 := by omega
  replace rc0c : w.heap.size < w4.heap.size + 1 + 1 + 1 := by omega
  replace rc0n : ¬ w.heap.size = w4.heap.size := by omega
  replace rc1 : w.heap.size + 1 < w4.heap.size := by omega
  replace rc1a : w.heap.size + 1 < w4.heap.size + 1 := by omega
  replace rc1b : w.heap.size + 1 < w4.heap.size + 1 + 1 := by omega
  replace rc1c : w.heap.size + 1 < w4.heap.size + 1 + 1 + 1 := by omega
  replace rc1n : ¬ w.heap.size + 1 = w4.heap.size := by omega
  have X4 : Hid (But (· = g) w w4) := Lib.hid (But.trans (by repeat (first | with_reducible exact X3.out | with_reducible refine But.drew ?_ | with_reducible refine But.drewN ?_ _ | with_reducible refine But.alloc ?_ _ | with_reducible refine But.setG ?_ _ | with_reducible refine But.setNew ?_ (by first | omega | (simp; done) | (simp; omega)) _)) hx4)
  clear HR
  have HR := Lib.hid hr
  clear c1_2f c1_2 hsz4 X3 hx4 z4 hr
  have g_2 := HR.out.c2
  have hz : (fltE (some x) == 0) = false := beq_false_of_ne (HR.out.nz x rfl)
  have hz2 : (fltE (some x) != 0) = true := by simpa [fltE] using HR.out.nz x rfl
  generalize fltE (some x) = z at *
  go_wp2_with fail
  refine bodyPost_ret (v := .agg #[.int .i64 0, .int .i64 0, .int .i64 0, .int .i64 0]) (by simp [results, Try.results24, go_sem, World.cell?_alloc_past, c0_0f, c0_1f, c0_2f, c0_3f, c0_0, c0_1, c0_2, c0_3, c1_3f, c1_3, ne_c0_c1, ne_c1_c0, rc0, rc0a, rc0b, rc0c, rc0n, rc1, rc1a, rc1b, rc1c, rc1n]; try rfl) rfl ⟨rfl, ?_, (by repeat (first | with_reducible exact X4.out | with_reducible refine But.drew ?_ | with_reducible refine But.drewN ?_ _ | with_reducible refine But.alloc ?_ _ | with_reducible refine But.setG ?_ _ | with_reducible refine But.setNew ?_ (by first | omega | (simp; done) | (simp; omega)) _))⟩
  have hr := HR.out
  repeat (first | with_reducible exact hr | with_reducible refine RRd.set ?_ (by omega) _ | (with_reducible refine RRd.ext ?_ (Ext.alloc (Ext.refl _) _)))
set_option maxRecDepth 100000 in
set_option maxHeartbeats 4000000 in
theorem rTake12_ok (g k k1 k2 k3 k4 : Nat) (L : List Nat) (f f1 f2 f3 : Option (Int × Int)) (at_ V S Q F : Int)  (q0 : 0 ≤ Q) (q1 : Q ≤ 32)
    (CA : Hid (∀ w, RRd w g L k f → Calls Try.prog 26 #[.pointer (some ⟨g, 0, none⟩)] w fun r w' => r = .returned (.int .i64 at_) ∧ w = w'))
    (C1 : Hid (∀ w, RRd w g L k f → Calls Try.prog 76 #[.pointer (some ⟨g, 0, none⟩), .int .i64 0, .int .i64 31] w fun r w' => r = .returned (.int .i64 V) ∧ RRd w' g L k1 f1 ∧ But (· = g) w w'))
    (C2 : Hid (∀ w, RRd w g L k1 f1 → Calls Try.prog 76 #[.pointer (some ⟨g, 0, none⟩), .int .i64 1, .int .i64 4294967296] w fun r w' => r = .returned (.int .i64 S) ∧ RRd w' g L k2 f2 ∧ But (· = g) w w'))
    (C3 : Hid (∀ w, RRd w g L k2 f2 → Calls Try.prog 76 #[.pointer (some ⟨g, 0, none⟩), .int .i64 0, .int .i64 32] w fun r w' => r = .returned (.int .i64 Q) ∧ RRd w' g L k3 f3 ∧ But (· = g) w w'))
    (C4 : Hid (∀ w, RRd w g L k3 f3 → Calls Try.prog 76 #[.pointer (some ⟨g, 0, none⟩), .int .i64 0, .int .i64 4294967296] w fun r w' => r = .returned (.int .i64 F) ∧ RRd w' g L k4 none ∧ But (· = g) w w'))
    (CK : Hid (∀ w, Calls Try.prog 68 #[.agg #[.int .i64 V, .int .i64 S, .int .i64 (Q - 1), .int .i64 F]] w fun r w' => r = .returned (.int .i64 0) ∧ Ext w w'))
    (w : World) (h : RRd w g L k f) :
    Calls Try.prog 24 #[.pointer (some ⟨g, 0, none⟩)] w fun r w' => r = .returned (.agg #[.int .i64 V, .int .i64 S, .int .i64 (Q - 1), .int .i64 F]) ∧ RRd w' g L k4 none ∧ But (· = g) w w' := by
  have hg := h.lt
  have HR := Lib.hid h
  clear h
  go_enter Try.func24, Try.ntmps24
  go_wp2_with fail
  (with_reducible refine (CA.out _ (by repeat (first | with_reducible exact HR.out | with_reducible refine RRd.set ?_ (by omega) _ | with_reducible refine RRd.ext ?_ (Ext.alloc (Ext.refl _) _) | with_reducible refine RRd.ext ?_ (Ext.drew (Ext.refl _)) | with_reducible refine RRd.drewN ?_ _))).mono ?_)
  rintro e w_1 ⟨rfl, rfl⟩
  go_wp2_with fail
  (with_reducible refine (C1.out _ (by repeat (first | with_reducible exact HR.out | with_reducible refine RRd.set ?_ (by omega) _ | with_reducible refine RRd.ext ?_ (Ext.alloc (Ext.refl _) _) | with_reducible refine RRd.ext ?_ (Ext.drew (Ext.refl _)) | with_reducible refine RRd.drewN ?_ _))).mono ?_)
  rintro e w1 ⟨rfl, hr, hx1⟩
  have hsz1 := hx1.size
  try simp at hsz1
  have c0_0f : w1.frozen? ⟨w.heap.size, 0, none⟩ = false := hx1.froz (by show ¬ _ = _; first | assumption | omega) (v := .int .i64 0) (by first | fail | (simp [go_sem, World.cell?_alloc_past]; done)) (by first | fail | (simp [go_sem, World.cell?_alloc_past]; done))
  have c0_1f : w1.frozen? ⟨w.heap.size, 1, none⟩ = false := hx1.froz (by show ¬ _ = _; first | assumption | omega) (v := .int .i64 0) (by first | fail | (simp [go_sem, World.cell?_alloc_past]; done)) (by first | fail | (simp [go_sem, World.cell?_alloc_past]; done))
  have c0_2f : w1.frozen? ⟨w.heap.size, 2, none⟩ = false := hx1.froz (by show ¬ _ = _; first | assumption | omega) (v := .int .i64 0) (by first | fail | (simp [go_sem, World.cell?_alloc_past]; done)) (by first | fail | (simp [go_sem, World.cell?_alloc_past]; done))
  have c0_3f : w1.frozen? ⟨w.heap.size, 3, none⟩ = false := hx1.froz (by show ¬ _ = _; first | assumption | omega) (v := .int .i64 0) (by first | fail | (simp [go_sem, World.cell?_alloc_past]; done)) (by first | fail | (simp [go_sem, World.cell?_alloc_past]; done))
  have c0_0 : w1.cell? ⟨w.heap.size, 0, none⟩ = some (.int .i64 0) := hx1.has (by show ¬ _ = _; first | assumption | omega) (by first | fail | (simp [go_sem, World.cell?_alloc_past]; done))
  have c0_1 : w1.cell? ⟨w.heap.size, 1, none⟩ = some (.int .i64 0) := hx1.has (by show ¬ _ = _; first | assumption | omega) (by first | fail | (simp [go_sem, World.cell?_alloc_past]; done))
  have c0_2 : w1.cell? ⟨w.heap.size, 2, none⟩ = some (.int .i64 0) := hx1.has (by show ¬ _ = _; first | assumption | omega) (by first | fail | (simp [go_sem, World.cell?_alloc_past]; done))
  have c0_3 : w1.cell? ⟨w.heap.size, 3, none⟩ = some (.int .i64 0) := hx1.has (by show ¬ _ = _; first | assumption | omega) (by first | fail | (simp [go_sem, World.cell?_alloc_past]; done))
  have c1_0f : w1.frozen? ⟨w.heap.size + 1, 0, none⟩ = false := hx1.froz (by show ¬ _ = _; first | assumption | omega) (v := .int .i64 0) (by first | fail | (simp [go_sem, World.cell?_alloc_past]; done)) (by first | fail | (simp [go_sem, World.cell?_alloc_past]; done))
  have c1_1f : w1.frozen? ⟨w.heap.size + 1, 1, none⟩ = false := hx1.froz (by show ¬ _ = _; first | assumption | omega) (v := .int .i64 0) (by first | fail | (simp [go_sem, World.cell?_alloc_past]; done)) (by first | fail | (simp [go_sem, World.cell?_alloc_past]; done))
  have c1_2f : w1.frozen? ⟨w.heap.size + 1, 2, none⟩ = false := hx1.froz (by show ¬ _ = _; first | assumption | omega) (v := .int .i64 0) (by first | fail | (simp [go_sem, World.cell?_alloc_past]; done)) (by first | fail | (simp [go_sem, World.cell?_alloc_past]; done))
  have c1_3f : w1.frozen? ⟨w.heap.size + 1, 3, none⟩ = false := hx1.froz (by show ¬ _ = _; first | assumption | omega) (v := .int .i64 0) (by first | fail | (simp [go_sem, World.cell?_alloc_past]; done)) (by first | fail | (simp [go_sem, World.cell?_alloc_past]; done))
  have c1_0 : w1.cell? ⟨w.heap.size + 1, 0, none⟩ = some (.int .i64 0) := hx1.has (by show ¬ _ = _; first | assumption | omega) (by first | fail | (simp [go_sem, World.cell?_alloc_past]; done))
  have c1_1 : w1.cell? ⟨w.heap.size + 1, 1, none⟩ = some (.int .i64 0) := hx1.has (by show ¬ _ = _; first | assumption | omega) (by first | fail | (simp [go_sem, World.cell?_alloc_past]; done))
  have c1_2 : w1.cell? ⟨w.heap.size + 1, 2, none⟩ = some (.int .i64 0) := hx1.has (by show ¬ _ = _; first | assumption | omega) (by first | fail | (simp [go_sem, World.cell?_alloc_past]; done))
  have c1_3 : w1.cell? ⟨w.heap.size + 1, 3, none⟩ = some (.int .i64 0) := hx1.has (by show ¬ _ = _; first | assumption | omega) (by first | fail | (simp [go_sem, World.cell?_alloc_past]; done))
  have z1 := hx1.size
  try simp at z1
  have lt_c0_c1 : w.heap.size < w.heap.size + 1 := by omega
  have ne_c0_c1 : ¬ w.heap.size = w.heap.size + 1 := by omega
  have ne_c1_c0 : ¬ w.heap.size + 1 = w.heap.size := by omega
  have rc0 : w.heap.size < w1.heap.size := by omega
  have rc0a : w.heap.size < w1.heap.size + 1 := by omega
  have rc0b : w.heap.size < w1.heap.size + 1 + 1 := by omega
  have rc0c : w.heap.size < w1.heap.size + 1 + 1 + 1 := by omega
  have rc0n : ¬ w.heap.size = w1.heap.size := by omega
  have rc1 : w.heap.size + 1 < w1.heap.size := by omega
  have rc1a : w.heap.size + 1 < w1.heap.size + 1 := by omega
  have rc1b : w.heap.size + 1 < w1.heap.size + 1 + 1 := by omega
  have rc1c : w.heap.size + 1 < w1.heap.size + 1 + 1 + 1 := by omega
  have rc1n : ¬ w.heap.size + 1 = w1.heap.size := by omega
  have X1 : Hid (But (· = g) w w1) := Lib.hid (But.trans (by repeat (first | with_reducible exact But.refl _ w | with_reducible refine But.drew ?_ | with_reducible refine But.drewN ?_ _ | with_reducible refine But.alloc ?_ _ | with_reducible refine But.setG ?_ _ | with_reducible refine But.setNew ?_ (by first | omega | (simp; done) | (simp; omega)) _)) hx1)
  clear HR
  have HR := Lib.hid hr
  clear hsz1 hx1 z1 hr
  go_wp2_with fail
  (with_reducible refine (C2.out _ (by repeat (first | with_reducible exact HR.out | with_reducible refine RRd.set ?_ (by omega) _ | with_reducible refine RRd.ext ?_ (Ext.alloc (Ext.refl _) _) | with_reducible refine RRd.ext ?_ (Ext.drew (Ext.refl _)) | with_reducible refine RRd.drewN ?_ _))).mono ?_)
  rintro e w2 ⟨rfl, hr, hx2⟩
  have hsz2 := hx2.size
  try simp at hsz2
  replace c0_0f : w2.frozen? ⟨w.heap.size, 0, none⟩ = false := hx2.froz (by show ¬ _ = _; first | assumption | omega) (v := .int .i64 0) (by first | exact c0_0 | (simp [go_sem, World.cell?_alloc_past, c0_0f, c0_1f, c0_2f, c0_3f, c0_0, c0_1, c0_2, c0_3, c1_0f, c1_1f, c1_2f, c1_3f, c1_0, c1_1, c1_2, c1_3, ne_c0_c1, ne_c1_c0, rc0, rc0a, rc0b, rc0c, rc0n, rc1, rc1a, rc1b, rc1c, rc1n]; done)) (by first | exact c0_0f | (simp [go_sem, World.cell?_alloc_past, c0_0f, c0_1f, c0_2f, c0_3f, c0_0, c0_1, c0_2, c0_3, c1_0f, c1_1f, c1_2f, c1_3f, c1_0, c1_1, c1_2, c1_3, ne_c0_c1, ne_c1_c0, rc0, rc0a, rc0b, rc0c, rc0n, rc1, rc1a, rc1b, rc1c, rc1n]; done))
  replace c0_1f : w2.frozen? ⟨w.heap.size, 1, none⟩ = false := hx2.froz (by show ¬ _ = _; first | assumption | omega) (v := .int .i64 0) (by first | exact c0_1 | (simp [go_sem, World.cell?_alloc_past, c0_0f, c0_1f, c0_2f, c0_3f, c0_0, c0_1, c0_2, c0_3, c1_0f, c1_1f, c1_2f, c1_3f, c1_0, c1_1, c1_2, c1_3, ne_c0_c1, ne_c1_c0, rc0, rc0a, rc0b, rc0c, rc0n, rc1, rc1a, rc1b, rc1c, rc1n]; done)) (by first | exact c0_1f | (simp [go_sem, World.cell?_alloc_past, c0_0f, c0_1f, c0_2f, c0_3f, c0_0, c0_1, c0_2, c0_3, c1_0f, c1_1f, c1_2f, c1_3f, c1_0, c1_1, c1_2, c1_3, ne_c0_c1, ne_c1_c0, rc0, rc0a, rc0b, rc0c, rc0n, rc1, rc1a, rc1b, rc1c, rc1n]; done))
  replace c0_2f : w2.frozen? ⟨w.heap.size, 2, none⟩ = false := hx2.froz (by show ¬ _ = _; first | assumption | omega) (v := .int .i64 0) (by first | exact c0_2 | (simp [go_sem, World.cell?_alloc_past, c0_0f, c0_1f, c0_2f, c0_3f, c0_0, c0_1, c0_2, c0_3, c1_0f, c1_1f, c1_2f, c1_3f, c1_0, c1_1, c1_2, c1_3, ne_c0_c1, ne_c1_c0, rc0, rc0a, rc0b, rc0c, rc0n, rc1, rc1a, rc1b, rc1c, rc1n]; done)) (by first | exact c0_2f | (simp [go_sem, World.cell?_alloc_past, c0_0f, c0_1f, c0_2f, c0_3f, c0_0, c0_1, c0_2, c0_3, c1_0f, c1_1f, c1_2f, c1_3f, c1_0, c1_1, c1_2, c1_3, ne_c0_c1, ne_c1_c0, rc0, rc0a, rc0b, rc0c, rc0n, rc1, rc1a, rc1b, rc1c, rc1n]; done))
  replace c0_3f : w2.frozen? ⟨w.heap.size, 3, none⟩ = false := hx2.froz (by show ¬ _ = _; first | assumption | omega) (v := .int .i64 0) (by first | exact c0_3 | (simp [go_sem, World.cell?_alloc_past, c0_0f, c0_1f, c0_2f, c0_3f, c0_0, c0_1, c0_2, c0_3, c1_0f, c1_1f, c1_2f, c1_3f, c1_0, c1_1, c1_2, c1_3, ne_c0_c1, ne_c1_c0, rc0, rc0a, rc0b, rc0c, rc0n, rc1, rc1a, rc1b, rc1c, rc1n]; done)) (by first | exact c0_3f | (simp [go_sem, World.cell?_alloc_past, c0_0f, c0_1f, c0_2f, c0_3f, c0_0, c0_1, c0_2, c0_3, c1_0f, c1_1f, c1_2f, c1_3f, c1_0, c1_1, c1_2, c1_3, ne_c0_c1, ne_c1_c0, rc0, rc0a, rc0b, rc0c, rc0n, rc1, rc1a, rc1b, rc1c, rc1n]; done))
  replace c0_0 : w2.cell? ⟨w.heap.size, 0, none⟩ = some (.int .i64 0) := hx2.has (by show ¬ _ = _; first | assumption | omega) (by first | exact c0_0 | (simp [go_sem, World.cell?_alloc_past, c0_0f, c0_1f, c0_2f, c0_3f, c0_0, c0_1, c0_2, c0_3, c1_0f, c1_1f, c1_2f, c1_3f, c1_0, c1_1, c1_2, c1_3, ne_c0_c1, ne_c1_c0, rc0, rc0a, rc0b, rc0c, rc0n, rc1, rc1a, rc1b, rc1c, rc1n]; done))
  replace c0_1 : w2.cell? ⟨w.heap.size, 1, none⟩ = some (.int .i64 0) := hx2.has (by show ¬ _ = _; first | assumption | omega) (by first | exact c0_1 | (simp [go_sem, World.cell?_alloc_past, c0_0f, c0_1f, c0_2f, c0_3f, c0_0, c0_1, c0_2, c0_3, c1_0f, c1_1f, c1_2f, c1_3f, c1_0, c1_1, c1_2, c1_3, ne_c0_c1, ne_c1_c0, rc0, rc0a, rc0b, rc0c, rc0n, rc1, rc1a, rc1b, rc1c, rc1n]; done))
  replace c0_2 : w2.cell? ⟨w.heap.size, 2, none⟩ = some (.int .i64 0) := hx2.has (by show ¬ _ = _; first | assumption | omega) (by first | exact c0_2 | (simp [go_sem, World.cell?_alloc_past, c0_0f, c0_1f, c0_2f, c0_3f, c0_0, c0_1, c0_2, c0_3, c1_0f, c1_1f, c1_2f, c1_3f, c1_0, c1_1, c1_2, c1_3, ne_c0_c1, ne_c1_c0, rc0, rc0a, rc0b, rc0c, rc0n, rc1, rc1a, rc1b, rc1c, rc1n]; done))
  replace c0_3 : w2.cell? ⟨w.heap.size, 3, none⟩ = some (.int .i64 0) := hx2.has (by show ¬ _ = _; first | assumption | omega) (by first | exact c0_3 | (simp [go_sem, World.cell?_alloc_past, c0_0f, c0_1f, c0_2f, c0_3f, c0_0, c0_1, c0_2, c0_3, c1_0f, c1_1f, c1_2f, c1_3f, c1_0, c1_1, c1_2, c1_3, ne_c0_c1, ne_c1_c0, rc0, rc0a, rc0b, rc0c, rc0n, rc1, rc1a, rc1b, rc1c, rc1n]; done))
  replace c1_1f : w2.frozen? ⟨w.heap.size + 1, 1, none⟩ = false := hx2.froz (by show ¬ _ = _; first | assumption | omega) (v := .int .i64 0) (by first | exact c1_1 | (simp [go_sem, World.cell?_alloc_past, c0_0f, c0_1f, c0_2f, c0_3f, c0_0, c0_1, c0_2, c0_3, c1_0f, c1_1f, c1_2f, c1_3f, c1_0, c1_1, c1_2, c1_3, ne_c0_c1, ne_c1_c0, rc0, rc0a, rc0b, rc0c, rc0n, rc1, rc1a, rc1b, rc1c, rc1n]; done)) (by first | exact c1_1f | (simp [go_sem, World.cell?_alloc_past, c0_0f, c0_1f, c0_2f, c0_3f, c0_0, c0_1, c0_2, c0_3, c1_0f, c1_1f, c1_2f, c1_3f, c1_0, c1_1, c1_2, c1_3, ne_c0_c1, ne_c1_c0, rc0, rc0a, rc0b, rc0c, rc0n, rc1, rc1a, rc1b, rc1c, rc1n]; done))
  replace c1_2f : w2.frozen? ⟨w.heap.size + 1, 2, none⟩ = false := hx2.froz (by show ¬ _ = _; first | assumption | omega) (v := .int .i64 0) (by first | exact c1_2 | (simp [go_sem, World.cell?_alloc_past, c0_0f, c0_1f, c0_2f, c0_3f, c0_0, c0_1, c0_2, c0_3, c1_0f, c1_1f, c1_2f, c1_3f, c1_0, c1_1, c1_2, c1_3, ne_c0_c1, ne_c1_c0, rc0, rc0a, rc0b, rc0c, rc0n, rc1, rc1a, rc1b, rc1c, rc1n]; done)) (by first | exact c1_2f | (simp [go_sem, World.cell?_alloc_past, c0_0f, c0_1f, c0_2f, c0_3f, c0_0, c0_1, c0_2, c0_3, c1_0f, c1_1f, c1_2f, c1_3f, c1_0, c1_1, c1_2, c1_3, ne_c0_c1, ne_c1_c0, rc0, rc0a, rc0b, rc0c, rc0n, rc1, rc1a, rc1b, rc1c, rc1n]; done))
  replace c1_3f : w2.frozen? ⟨w.heap.size + 1, 3, none⟩ = false := hx2.froz (by show ¬ _ = _; first | assumption | omega) (v := .int .i64 0) (by first | exact c1_3 | (simp [go_sem, World.cell?_alloc_past, c0_0f, c0_1f, c0_2f, c0_3f, c0_0, c0_1, c0_2, c0_3, c1_0f, c1_1f, c1_2f, c1_3f, c1_0, c1_1, c1_2, c1_3, ne_c0_c1, ne_c1_c0, rc0, rc0a, rc0b, rc0c, rc0n, rc1, rc1a, rc1b, rc1c, rc1n]; done)) (by first | exact c1_3f | (simp [go_sem, World.cell?_alloc_past, c0_0f, c0_1f, c0_2f, c0_3f, c0_0, c0_1, c0_2, c0_3, c1_0f, c1_1f, c1_2f, c1_3f, c1_0, c1_1, c1_2, c1_3, ne_c0_c1, ne_c1_c0, rc0, rc0a, rc0b, rc0c, rc0n, rc1, rc1a, rc1b, rc1c, rc1n]; done))
  replace c1_0 : w2.cell? ⟨w.heap.size + 1, 0, none⟩ = some (.int .i64 V) := hx2.has (by show ¬ _ = _; first | assumption | omega) (by first | exact c1_0 | (simp [go_sem, World.cell?_alloc_past, c0_0f, c0_1f, c0_2f, c0_3f, c0_0, c0_1, c0_2, c0_3, c1_0f, c1_1f, c1_2f, c1_3f, c1_0, c1_1, c1_2, c1_3, ne_c0_c1, ne_c1_c0, rc0, rc0a, rc0b, rc0c, rc0n, rc1, rc1a, rc1b, rc1c, rc1n]; done))
  replace c1_1 : w2.cell? ⟨w.heap.size + 1, 1, none⟩ = some (.int .i64 0) := hx2.has (by show ¬ _ = _; first | assumption | omega) (by first | exact c1_1 | (simp [go_sem, World.cell?_alloc_past, c0_0f, c0_1f, c0_2f, c0_3f, c0_0, c0_1, c0_2, c0_3, c1_0f, c1_1f, c1_2f, c1_3f, c1_0, c1_1, c1_2, c1_3, ne_c0_c1, ne_c1_c0, rc0, rc0a, rc0b, rc0c, rc0n, rc1, rc1a, rc1b, rc1c, rc1n]; done))
  replace c1_2 : w2.cell? ⟨w.heap.size + 1, 2, none⟩ = some (.int .i64 0) := hx2.has (by show ¬ _ = _; first | assumption | omega) (by first | exact c1_2 | (simp [go_sem, World.cell?_alloc_past, c0_0f, c0_1f, c0_2f, c0_3f, c0_0, c0_1, c0_2, c0_3, c1_0f, c1_1f, c1_2f, c1_3f, c1_0, c1_1, c1_2, c1_3, ne_c0_c1, ne_c1_c0, rc0, rc0a, rc0b, rc0c, rc0n, rc1, rc1a, rc1b, rc1c, rc1n]; done))
  replace c1_3 : w2.cell? ⟨w.heap.size + 1, 3, none⟩ = some (.int .i64 0) := hx2.has (by show ¬ _ = _; first | assumption | omega) (by first | exact c1_3 | (simp [go_sem, World.cell?_alloc_past, c0_0f, c0_1f, c0_2f, c0_3f, c0_0, c0_1, c0_2, c0_3, c1_0f, c1_1f, c1_2f, c1_3f, c1_0, c1_1, c1_2, c1_3, ne_c0_c1, ne_c1_c0, rc0, rc0a, rc0b, rc0c, rc0n, rc1, rc1a, rc1b, rc1c, rc1n]; done))
  have z2 := hx2.size
  try simp at z2
  replace rc0 : w.heap.size < w2.heap.size := by omega
  replace rc0a : w.heap.size < w2.heap.size + 1 := by omega
  replace rc0b : w.heap.size < w2.heap.size + 1 + 1 := by omega
  replace rc0c : w.heap.size < w2.heap.size + 1 + 1 + 1 := by omega
  replace rc0n : ¬ w.heap.size = w2.heap.size := by omega
  replace rc1 : w.heap.size + 1 < w2.heap.size := by omega
  replace rc1a : w.heap.size + 1 < w2.heap.size + 1 := by omega
  replace rc1b : w.heap.size + 1 < w2.heap.size + 1 + 1 := by omega
  replace rc1c : w.heap.size + 1 < w2.heap.size + 1 + 1 + 1 := by omega
  replace rc1n : ¬ w.heap.size + 1 = w2.heap.size := by omega
  have X2 : Hid (But (· = g) w w2) := Lib.hid (But.trans (by repeat (first | with_reducible exact X1.out | with_reducible refine But.drew ?_ | with_reducible refine But.drewN ?_ _ | with_reducible refine But.alloc ?_ _ | with_reducible refine But.setG ?_ _ | with_reducible refine But.setNew ?_ (by first | omega | (simp; done) | (simp; omega)) _)) hx2)
  clear HR
  have HR := Lib.hid hr
  clear c1_0f hsz2 X1 hx2 z2 hr
  go_wp2_with fail
  (with_reducible refine (C3.out _ (by repeat (first | with_reducible exact HR.out | with_reducible refine RRd.set ?_ (by omega) _ | with_reducible refine RRd.ext ?_ (Ext.alloc (Ext.refl _) _) | with_reducible refine RRd.ext ?_ (Ext.drew (Ext.refl _)) | with_reducible refine RRd.drewN ?_ _))).mono ?_)
  rintro e w3 ⟨rfl, hr, hx3⟩
  have hsz3 := hx3.size
  try simp at hsz3
  replace c0_0f : w3.frozen? ⟨w.heap.size, 0, none⟩ = false := hx3.froz (by show ¬ _ = _; first | assumption | omega) (v := .int .i64 0) (by first | exact c0_0 | (simp [go_sem, World.cell?_alloc_past, c0_0f, c0_1f, c0_2f, c0_3f, c0_0, c0_1, c0_2, c0_3, c1_1f, c1_2f, c1_3f, c1_0, c1_1, c1_2, c1_3, ne_c0_c1, ne_c1_c0, rc0, rc0a, rc0b, rc0c, rc0n, rc1, rc1a, rc1b, rc1c, rc1n]; done)) (by first | exact c0_0f | (simp [go_sem, World.cell?_alloc_past, c0_0f, c0_1f, c0_2f, c0_3f, c0_0, c0_1, c0_2, c0_3, c1_1f, c1_2f, c1_3f, c1_0, c1_1, c1_2, c1_3, ne_c0_c1, ne_c1_c0, rc0, rc0a, rc0b, rc0c, rc0n, rc1, rc1a, rc1b, rc1c, rc1n]; done))
  replace c0_1f : w3.frozen? ⟨w.heap.size, 1, none⟩ = false := hx3.froz (by show ¬ _ = _; first | assumption | omega) (v := .int .i64 0) (by first | exact c0_1 | (simp [go_sem, World.cell?_alloc_past, c0_0f, c0_1f, c0_2f, c0_3f, c0_0, c0_1, c0_2, c0_3, c1_1f, c1_2f, c1_3f, c1_0, c1_1, c1_2, c1_3, ne_c0_c1, ne_c1_c0, rc0, rc0a, rc0b, rc0c, rc0n, rc1, rc1a, rc1b, rc1c, rc1n]; done)) (by first | exact c0_1f | (simp [go_sem, World.cell?_alloc_past, c0_0f, c0_1f, c0_2f, c0_3f, c0_0, c0_1, c0_2, c0_3, c1_1f, c1_2f, c1_3f, c1_0, c1_1, c1_2, c1_3, ne_c0_c1, ne_c1_c0, rc0, rc0a, rc0b, rc0c, rc0n, rc1, rc1a, rc1b, rc1c, rc1n]; done))
  replace c0_2f : w3.frozen? ⟨w.heap.size, 2, none⟩ = false := hx3.froz (by show ¬ _ = _; first | assumption | omega) (v := .int .i64 0) (by first | exact c0_2 | (simp [go_sem, World.cell?_alloc_past, c0_0f, c0_1f, c0_2f, c0_3f, c0_0, c0_1, c0_2, c0_3, c1_1f, c1_2f, c1_3f, c1_0, c1_1, c1_2, c1_3, ne_c0_c1, ne_c1_c0, rc0, rc0a, rc0b, rc0c, rc0n, rc1, rc1a, rc1b, rc1c, rc1n]; done)) (by first | exact c0_2f | (simp [go_sem, World.cell?_alloc_past, c0_0f, c0_1f, c0_2f, c0_3f, c0_0, c0_1, c0_2, c0_3, c1_1f, c1_2f, c1_3f, c1_0, c1_1, c1_2, c1_3, ne_c0_c1, ne_c1_c0, rc0, rc0a, rc0b, rc0c, rc0n, rc1, rc1a, rc1b, rc1c, rc1n]; done))
  replace c0_3f : w3.frozen? ⟨w.heap.size, 3, none⟩ = false := hx3.froz (by show ¬ _ = _; first | assumption | omega) (v := .int .i64 0) (by first | exact c0_3 | (simp [go_sem, World.cell?_alloc_past, c0_0f, c0_1f, c0_2f, c0_3f, c0_0, c0_1, c0_2, c0_3, c1_1f, c1_2f, c1_3f, c1_0, c1_1, c1_2, c1_3, ne_c0_c1, ne_c1_c0, rc0, rc0a, rc0b, rc0c, rc0n, rc1, rc1a, rc1b, rc1c, rc1n]; done)) (by first | exact c0_3f | (simp [go_sem, World.cell?_alloc_past, c0_0f, c0_1f, c0_2f, c0_3f, c0_0, c0_1, c0_2, c0_3, c1_1f, c1_2f, c1_3f, c1_0, c1_1, c1_2, c1_3, ne_c0_c1, ne_c1_c0, rc0, rc0a, rc0b, rc0c, rc0n, rc1, rc1a, rc1b, rc1c, rc1n]; done))
  replace c0_0 : w3.cell? ⟨w.heap.size, 0, none⟩ = some (.int .i64 0) := hx3.has (by show ¬ _ = _; first | assumption | omega) (by first | exact c0_0 | (simp [go_sem, World.cell?_alloc_past, c0_0f, c0_1f, c0_2f, c0_3f, c0_0, c0_1, c0_2, c0_3, c1_1f, c1_2f, c1_3f, c1_0, c1_1, c1_2, c1_3, ne_c0_c1, ne_c1_c0, rc0, rc0a, rc0b, rc0c, rc0n, rc1, rc1a, rc1b, rc1c, rc1n]; done))
  replace c0_1 : w3.cell? ⟨w.heap.size, 1, none⟩ = some (.int .i64 0) := hx3.has (by show ¬ _ = _; first | assumption | omega) (by first | exact c0_1 | (simp [go_sem, World.cell?_alloc_past, c0_0f, c0_1f, c0_2f, c0_3f, c0_0, c0_1, c0_2, c0_3, c1_1f, c1_2f, c1_3f, c1_0, c1_1, c1_2, c1_3, ne_c0_c1, ne_c1_c0, rc0, rc0a, rc0b, rc0c, rc0n, rc1, rc1a, rc1b, rc1c, rc1n]; done))
  replace c0_2 : w3.cell? ⟨w.heap.size, 2, none⟩ = some (.int .i64 0) := hx3.has (by show ¬ _ = _; first | assumption | omega) (by first | exact c0_2 | (simp [go_sem, World.cell?_alloc_past, c0_0f, c0_1f, c0_2f, c0_3f, c0_0, c0_1, c0_2, c0_3, c1_1f, c1_2f, c1_3f, c1_0, c1_1, c1_2, c1_3, ne_c0_c1, ne_c1_c0, rc0, rc0a, rc0b, rc0c, rc0n, rc1, rc1a, rc1b, rc1c, rc1n]; done))
  replace c0_3 : w3.cell? ⟨w.heap.size, 3, none⟩ = some (.int .i64 0) := hx3.has (by show ¬ _ = _; first | assumption | omega) (by first | exact c0_3 | (simp [go_sem, World.cell?_alloc_past, c0_0f, c0_1f, c0_2f, c0_3f, c0_0, c0_1, c0_2, c0_3, c1_1f, c1_2f, c1_3f, c1_0, c1_1, c1_2, c1_3, ne_c0_c1, ne_c1_c0, rc0, rc0a, rc0b, rc0c, rc0n, rc1, rc1a, rc1b, rc1c, rc1n]; done))
  replace c1_2f : w3.frozen? ⟨w.heap.size + 1, 2, none⟩ = false := hx3.froz (by show ¬ _ = _; first | assumption | omega) (v := .int .i64 0) (by first | exact c1_2 | (simp [go_sem, World.cell?_alloc_past, c0_0f, c0_1f, c0_2f, c0_3f, c0_0, c0_1, c0_2, c0_3, c1_1f, c1_2f, c1_3f, c1_0, c1_1, c1_2, c1_3, ne_c0_c1, ne_c1_c0, rc0, rc0a, rc0b, rc0c, rc0n, rc1, rc1a, rc1b, rc1c, rc1n]; done)) (by first | exact c1_2f | (simp [go_sem, World.cell?_alloc_past, c0_0f, c0_1f, c0_2f, c0_3f, c0_0, c0_1, c0_2, c0_3, c1_1f, c1_2f, c1_3f, c1_0, c1_1, c1_2, c1_3, ne_c0_c1, ne_c1_c0, rc0, rc0a, rc0b, rc0c, rc0n, rc1, rc1a, rc1b, rc1c, rc1n]; done))
  replace c1_3f : w3.frozen? ⟨w.heap.size + 1, 3, none⟩ = false := hx3.froz (by show ¬ _ = _; first | assumption | omega) (v := .int .i64 0) (by first | exact c1_3 | (simp [go_sem, World.cell?_alloc_past, c0_0f, c0_1f, c0_2f, c0_3f, c0_0, c0_1, c0_2, c0_3, c1_1f, c1_2f, c1_3f, c1_0, c1_1, c1_2, c1_3, ne_c0_c1, ne_c1_c0, rc0, rc0a, rc0b, rc0c, rc0n, rc1, rc1a, rc1b, rc1c, rc1n]; done)) (by first | exact c1_3f | (simp [go_sem, World.cell?_alloc_past, c0_0f, c0_1f, c0_2f, c0_3f, c0_0, c0_1, c0_2, c0_3, c1_1f, c1_2f, c1_3f, c1_0, c1_1, c1_2, c1_3, ne_c0_c1, ne_c1_c0, rc0, rc0a, rc0b, rc0c, rc0n, rc1, rc1a, rc1b, rc1c, rc1n]; done))
  replace c1_0 : w3.cell? ⟨w.heap.size + 1, 0, none⟩ = some (.int .i64 V) := hx3.has (by show ¬ _ = _; first | assumption | omega) (by first | exact c1_0 | (simp [go_sem, World.cell?_alloc_past, c0_0f, c0_1f, c0_2f, c0_3f, c0_0, c0_1, c0_2, c0_3, c1_1f, c1_2f, c1_3f, c1_0, c1_1, c1_2, c1_3, ne_c0_c1, ne_c1_c0, rc0, rc0a, rc0b, rc0c, rc0n, rc1, rc1a, rc1b, rc1c, rc1n]; done))
  replace c1_1 : w3.cell? ⟨w.heap.size + 1, 1, none⟩ = some (.int .i64 S) := hx3.has (by show ¬ _ = _; first | assumption | omega) (by first | exact c1_1 | (simp [go_sem, World.cell?_alloc_past, c0_0f, c0_1f, c0_2f, c0_3f, c0_0, c0_1, c0_2, c0_3, c1_1f, c1_2f, c1_3f, c1_0, c1_1, c1_2, c1_3, ne_c0_c1, ne_c1_c0, rc0, rc0a, rc0b, rc0c, rc0n, rc1, rc1a, rc1b, rc1c, rc1n]; done))
  replace c1_2 : w3.cell? ⟨w.heap.size + 1, 2, none⟩ = some (.int .i64 0) := hx3.has (by show ¬ _ = _; first | assumption | omega) (by first | exact c1_2 | (simp [go_sem, World.cell?_alloc_past, c0_0f, c0_1f, c0_2f, c0_3f, c0_0, c0_1, c0_2, c0_3, c1_1f, c1_2f, c1_3f, c1_0, c1_1, c1_2, c1_3, ne_c0_c1, ne_c1_c0, rc0, rc0a, rc0b, rc0c, rc0n, rc1, rc1a, rc1b, rc1c, rc1n]; done))
  replace c1_3 : w3.cell? ⟨w.heap.size + 1, 3, none⟩ = some (.int .i64 0) := hx3.has (by show ¬ _ = _; first | assumption | omega) (by first | exact c1_3 | (simp [go_sem, World.cell?_alloc_past, c0_0f, c0_1f, c0_2f, c0_3f, c0_0, c0_1, c0_2, c0_3, c1_1f, c1_2f, c1_3f, c1_0, c1_1, c1_2, c1_3, ne_c0_c1, ne_c1_c0, rc0, rc0a, rc0b, rc0c, rc0n, rc1, rc1a, rc1b, rc1c, rc1n]; done))
  have z3 := hx3.size
  try simp at z3
  replace rc0 : w.heap.size < w3.heap.size := by omega
  replace rc0a : w.heap.size < w3.heap.size + 1 := by omega
  replace rc0b : w.heap.size < w3.heap.size + 1 + 1 := by omega
  replace rc0c : w.heap.size < w3.heap.size + 1 + 1 + 1 := by omega
  replace rc0n : ¬ w.heap.size = w3.heap.size := by omega
  replace rc1 : w.heap.size + 1 < w3.heap.size := by omega
  replace rc1a : w.heap.size + 1 < w3.heap.size + 1 := by omega
  replace rc1b : w.heap.size + 1 < w3.heap.size + 1 + 1 := by omega
  replace rc1c : w.heap.size + 1 < w3.heap.size + 1 + 1 + 1 := by omega
  replace rc1n : ¬ w.heap.size + 1 = w3.heap.size := by omega
  have X3 : Hid (But (· = g) w w3) := Lib.hid (But.trans (by repeat (first | with_reducible exact X2.out | with_reducible refine But.drew ?_ | with_reducible refine But.drewN ?_ _ | with_reducible refine But.alloc ?_ _ | with_reducible refine But.setG ?_ _ | with_reducible refine But.setNew ?_ (by first | omega | (simp; done) | (simp; omega)) _)) hx3)
  clear HR
  have HR := Lib.hid hr
  clear c1_1f hsz3 X2 hx3 z3 hr
  go_wp2_with fail
  (with_reducible refine (C4.out _ (by repeat (first | with_reducible exact HR.out | with_reducible refine RRd.set ?_ (by omega) _ | with_reducible refine RRd.ext ?_ (Ext.alloc (Ext.refl _) _) | with_reducible refine RRd.ext ?_ (Ext.drew (Ext.refl _)) | with_reducible refine RRd.drewN ?_ _))).mono ?_)
  rintro e w4 ⟨rfl, hr, hx4⟩
  have hsz4 := hx4.size
  try simp at hsz4
  replace c0_0f : w4.frozen? ⟨w.heap.size, 0, none⟩ = false := hx4.froz (by show ¬ _ = _; first | assumption | omega) (v := .int .i64 0) (by first | exact c0_0 | (simp [go_sem, World.cell?_alloc_past, c0_0f, c0_1f, c0_2f, c0_3f, c0_0, c0_1, c0_2, c0_3, c1_2f, c1_3f, c1_0, c1_1, c1_2, c1_3, ne_c0_c1, ne_c1_c0, rc0, rc0a, rc0b, rc0c, rc0n, rc1, rc1a, rc1b, rc1c, rc1n]; done)) (by first | exact c0_0f | (simp [go_sem, World.cell?_alloc_past, c0_0f, c0_1f, c0_2f, c0_3f, c0_0, c0_1, c0_2, c0_3, c1_2f, c1_3f, c1_0, c1_1, c1_2, c1_3, ne_c0_c1, ne_c1_c0, rc0, rc0a, rc0b, rc0c, rc0n, rc1, rc1a, rc1b, rc1c, rc1n]; done))
  replace c0_1f : w4.frozen? ⟨w.heap.size, 1, none⟩ = false := hx4.froz (by show ¬ _ = _; first | assumption | omega) (v := .int .i64 0) (by first | exact c0_1 | (simp [go_sem, World.cell?_alloc_past, c0_0f, c0_1f, c0_2f, c0_3f, c0_0, c0_1, c0_2, c0_3, c1_2f, c1_3f, c1_0, c1_1, c1_2, c1_3, ne_c0_c1, ne_c1_c0, rc0, rc0a, rc0b, rc0c, rc0n, rc1, rc1a, rc1b, rc1c, rc1n]; done)) (by first | exact c0_1f | (simp [go_sem, World.cell?_alloc_past, c0_0f, c0_1f, c0_2f, c0_3f, c0_0, c0_1, c0_2, c0_3, c1_2f, c1_3f, c1_0, c1_1, c1_2, c1_3, ne_c0_c1, ne_c1_c0, rc0, rc0a, rc0b, rc0c, rc0n, rc1, rc1a, rc1b, rc1c, rc1n]; done))
  replace c0_2f : w4.frozen? ⟨w.heap.size, 2, none⟩ = false := hx4.froz (by show ¬ _ = _; first | assumption | omega) (v := .int .i64 0) (by first | exact c0_2 | (simp [go_sem, World.cell?_alloc_past, c0_0f, c0_1f, c0_2f, c0_3f, c0_0, c0_1, c0_2, c0_3, c1_2f, c1_3f, c1_0, c1_1, c1_2, c1_3, ne_c0_c1, ne_c1_c0, rc0, rc0a, rc0b, rc0c, rc0n, rc1, rc1a, rc1b, rc1c, rc1n]; done)) (by first | exact c0_2f | (simp [go_sem, World.cell?_alloc_past, c0_0f, c0_1f, c0_2f, c0_3f, c0_0, c0_1, c0_2, c0_3, c1_2f, c1_3f, c1_0, c1_1, c1_2, c1_3, ne_c0_c1, ne_c1_c0, rc0, rc0a, rc0b, rc0c, rc0n, rc1, rc1a, rc1b, rc1c, rc1n]; done))
  replace c0_3f : w4.frozen? ⟨w.heap.size, 3, none⟩ = false := hx4.froz (by show ¬ _ = _; first | assumption | omega) (v := .int .i64 0) (by first | exact c0_3 | (simp [go_sem, World.cell?_alloc_past, c0_0f, c0_1f, c0_2f, c0_3f, c0_0, c0_1, c0_2, c0_3, c1_2f, c1_3f, c1_0, c1_1, c1_2, c1_3, ne_c0_c1, ne_c1_c0, rc0, rc0a, rc0b, rc0c, rc0n, rc1, rc1a, rc1b, rc1c, rc1n]; done)) (by first | exact c0_3f | (simp [go_sem, World.cell?_alloc_past, c0_0f, c0_1f, c0_2f, c0_3f, c0_0, c0_1, c0_2, c0_3, c1_2f, c1_3f, c1_0, c1_1, c1_2, c1_3, ne_c0_c1, ne_c1_c0, rc0, rc0a, rc0b, rc0c, rc0n, rc1, rc1a, rc1b, rc1c, rc1n]; done))
  replace c0_0 : w4.cell? ⟨w.heap.size, 0, none⟩ = some (.int .i64 0) := hx4.has (by show ¬ _ = _; first | assumption | omega) (by first | exact c0_0 | (simp [go_sem, World.cell?_alloc_past, c0_0f, c0_1f, c0_2f, c0_3f, c0_0, c0_1, c0_2, c0_3, c1_2f, c1_3f, c1_0, c1_1, c1_2, c1_3, ne_c0_c1, ne_c1_c0, rc0, rc0a, rc0b, rc0c, rc0n, rc1, rc1a, rc1b, rc1c, rc1n]; done))
  replace c0_1 : w4.cell? ⟨w.heap.size, 1, none⟩ = some (.int .i64 0) := hx4.has (by show ¬ _ = _; first | assumption | omega) (by first | exact c0_1 | (simp [go_sem, World.cell?_alloc_past, c0_0f, c0_1f, c0_2f, c0_3f, c0_0, c0_1, c0_2, c0_3, c1_2f, c1_3f, c1_0, c1_1, c1_2, c1_3, ne_c0_c1, ne_c1_c0, rc0, rc0a, rc0b, rc0c, rc0n, rc1, rc1a, rc1b, rc1c, rc1n]; done))
  replace c0_2 : w4.cell? ⟨w.heap.size, 2, none⟩ = some (.int .i64 0) := hx4.has (by show ¬ _ = _; first | assumption | omega) (by first | exact c0_2 | (simp [go_sem, World.cell?_alloc_past, c0_0f, c0_1f, c0_2f, c0_3f, c0_0, c0_1, c0_2, c0_3, c1_2f, c1_3f, c1_0, c1_1, c1_2, c1_3, ne_c0_c1, ne_c1_c0, rc0, rc0a, rc0b, rc0c, rc0n, rc1, rc1a, rc1b, rc1c, rc1n]; done))
  replace c0_3 : w4.cell? ⟨w.heap.size, 3, none⟩ = some (.int .i64 0) := hx4.has (by show ¬ _ = _; first | assumption | omega) (by first | exact c0_3 | (simp [go_sem, World.cell?_alloc_past, c0_0f, c0_1f, c0_2f, c0_3f, c0_0, c0_1, c0_2, c0_3, c1_2f, c1_3f, c1_0, c1_1, c1_2, c1_3, ne_c0_c1, ne_c1_c0, rc0, rc0a, rc0b, rc0c, rc0n, rc1, rc1a, rc1b, rc1c, rc1n]; done))
  replace c1_3f : w4.frozen? ⟨w.heap.size + 1, 3, none⟩ = false := hx4.froz (by show ¬ _ = _; first | assumption | omega) (v := .int .i64 0) (by first | exact c1_3 | (simp [go_sem, World.cell?_alloc_past, c0_0f, c0_1f, c0_2f, c0_3f, c0_0, c0_1, c0_2, c0_3, c1_2f, c1_3f, c1_0, c1_1, c1_2, c1_3, ne_c0_c1, ne_c1_c0, rc0, rc0a, rc0b, rc0c, rc0n, rc1, rc1a, rc1b, rc1c, rc1n]; done)) (by first | exact c1_3f | (simp [go_sem, World.cell?_alloc_past, c0_0f, c0_1f, c0_2f, c0_3f, c0_0, c0_1, c0_2, c0_3, c1_2f, c1_3f, c1_0, c1_1, c1_2, c1_3, ne_c0_c1, ne_c1_c0, rc0, rc0a, rc0b, rc0c, rc0n, rc1, rc1a, rc1b, rc1c, rc1n]; done))
  replace c1_0 : w4.cell? ⟨w.heap.size + 1, 0, none⟩ = some (.int .i64 V) := hx4.has (by show ¬ _ = _; first | assumption | omega) (by first | exact c1_0 | (simp [go_sem, World.cell?_alloc_past, c0_0f, c0_1f, c0_2f, c0_3f, c0_0, c0_1, c0_2, c0_3, c1_2f, c1_3f, c1_0, c1_1, c1_2, c1_3, ne_c0_c1, ne_c1_c0, rc0, rc0a, rc0b, rc0c, rc0n, rc1, rc1a, rc1b, rc1c, rc1n]; done))
  replace c1_1 : w4.cell? ⟨w.heap.size + 1, 1, none⟩ = some (.int .i64 S) := hx4.has (by show ¬ _ = _; first | assumption | omega) (by first | exact c1_1 | (simp [go_sem, World.cell?_alloc_past, c0_0f, c0_1f, c0_2f, c0_3f, c0_0, c0_1, c0_2, c0_3, c1_2f, c1_3f, c1_0, c1_1, c1_2, c1_3, ne_c0_c1, ne_c1_c0, rc0, rc0a, rc0b, rc0c, rc0n, rc1, rc1a, rc1b, rc1c, rc1n]; done))
  replace c1_2 : w4.cell? ⟨w.heap.size + 1, 2, none⟩ = some (.int .i64 (Q - 1)) := hx4.has (by show ¬ _ = _; first | assumption | omega) (by first | exact c1_2 | (simp [go_sem, World.cell?_alloc_past, c0_0f, c0_1f, c0_2f, c0_3f, c0_0, c0_1, c0_2, c0_3, c1_2f, c1_3f, c1_0, c1_1, c1_2, c1_3, ne_c0_c1, ne_c1_c0, rc0, rc0a, rc0b, rc0c, rc0n, rc1, rc1a, rc1b, rc1c, rc1n]; done))
  replace c1_3 : w4.cell? ⟨w.heap.size + 1, 3, none⟩ = some (.int .i64 0) := hx4.has (by show ¬ _ = _; first | assumption | omega) (by first | exact c1_3 | (simp [go_sem, World.cell?_alloc_past, c0_0f, c0_1f, c0_2f, c0_3f, c0_0, c0_1, c0_2, c0_3, c1_2f, c1_3f, c1_0, c1_1, c1_2, c1_3, ne_c0_c1, ne_c1_c0, rc0, rc0a, rc0b, rc0c, rc0n, rc1, rc1a, rc1b, rc1c, rc1n]; done))
  have z4 := hx4.size
  try simp at z4
  replace rc0 : w.heap.size < w4.heap.size := by omega
  replace rc0a : w.heap.size < w4.heap.size + 1 := by omega
  replace rc0b : w.heap.size < w4.heap.size + 1 + 1 := by omega
  replace rc0c : w.heap.size < w4.heap.size + 1 + 1 + 1 := by omega
  replace rc0n : ¬ w.heap.size = w4.heap.size := by omega
  replace rc1 : w.heap.size + 1 < w4.heap.size := by omega
  replace rc1a : w.heap.size + 1 < w4.heap.size + 1 := by omega
  replace rc1b : w.heap.size + 1 < w4.heap.size + 1 + 1 := by omega
  replace rc1c : w.heap.size + 1 < w4.heap.size + 1 + 1 + 1 := by omega
  replace rc1n : ¬ w.heap.size + 1 = w4.heap.size := by omega
  have X4 : Hid (But (· = g) w w4) := Lib.hid (But.trans (by repeat (first | with_reducible exact X3.out | with_reducible refine But.drew ?_ | with_reducible refine But.drewN ?_ _ | with_reducible refine But.alloc ?_ _ | with_reducible refine But.setG ?_ _ | with_reducible refine But.setNew ?_ (by first | omega | (simp; done) | (simp; omega)) _)) hx4)
  clear HR
  have HR := Lib.hid hr
  clear c1_2f hsz4 X3 hx4 z4 hr
  have g_2 := HR.out.c2
  change _ = some (Value.int .i64 0) at g_2
  go_wp2_with fail
  (with_reducible refine (CK.out _).mono ?_)
  rintro e w5 ⟨rfl, hx5⟩
  replace c0_0f : w5.frozen? ⟨w.heap.size, 0, none⟩ = false := hx5.froz (v := .int .i64 0) (by first | exact c0_0 | (simp [go_sem, World.cell?_alloc_past, c0_0f, c0_1f, c0_2f, c0_3f, c0_0, c0_1, c0_2, c0_3, c1_3f, c1_0, c1_1, c1_2, c1_3, ne_c0_c1, ne_c1_c0, rc0, rc0a, rc0b, rc0c, rc0n, rc1, rc1a, rc1b, rc1c, rc1n]; done)) (by first | exact c0_0f | (simp [go_sem, World.cell?_alloc_past, c0_0f, c0_1f, c0_2f, c0_3f, c0_0, c0_1, c0_2, c0_3, c1_3f, c1_0, c1_1, c1_2, c1_3, ne_c0_c1, ne_c1_c0, rc0, rc0a, rc0b, rc0c, rc0n, rc1, rc1a, rc1b, rc1c, rc1n]; done))
  replace c0_1f : w5.frozen? ⟨w.heap.size, 1, none⟩ = false := hx5.froz (v := .int .i64 0) (by first | exact c0_1 | (simp [go_sem, World.cell?_alloc_past, c0_0f, c0_1f, c0_2f, c0_3f, c0_0, c0_1, c0_2, c0_3, c1_3f, c1_0, c1_1, c1_2, c1_3, ne_c0_c1, ne_c1_c0, rc0, rc0a, rc0b, rc0c, rc0n, rc1, rc1a, rc1b, rc1c, rc1n]; done)) (by first | exact c0_1f | (simp [go_sem, World.cell?_alloc_past, c0_0f, c0_1f, c0_2f, c0_3f, c0_0, c0_1, c0_2, c0_3, c1_3f, c1_0, c1_1, c1_2, c1_3, ne_c0_c1, ne_c1_c0, rc0, rc0a, rc0b, rc0c, rc0n, rc1, rc1a, rc1b, rc1c, rc1n]; done))
  replace c0_2f : w5.frozen? ⟨w.heap.size, 2, none⟩ = false := hx5.froz (v := .int .i64 0) (by first | exact c0_2 | (simp [go_sem, World.cell?_alloc_past, c0_0f, c0_1f, c0_2f, c0_3f, c0_0, c0_1, c0_2, c0_3, c1_3f, c1_0, c1_1, c1_2, c1_3, ne_c0_c1, ne_c1_c0, rc0, rc0a, rc0b, rc0c, rc0n, rc1, rc1a, rc1b, rc1c, rc1n]; done)) (by first | exact c0_2f | (simp [go_sem, World.cell?_alloc_past, c0_0f, c0_1f, c0_2f, c0_3f, c0_0, c0_1, c0_2, c0_3, c1_3f, c1_0, c1_1, c1_2, c1_3, ne_c0_c1, ne_c1_c0, rc0, rc0a, rc0b, rc0c, rc0n, rc1, rc1a, rc1b, rc1c, rc1n]; done))
  replace c0_3f : w5.frozen? ⟨w.heap.size, 3, none⟩ = false := hx5.froz (v := .int .i64 0) (by first | exact c0_3 | (simp [go_sem, World.cell?_alloc_past, c0_0f, c0_1f, c0_2f, c0_3f, c0_0, c0_1, c0_2, c0_3, c1_3f, c1_0, c1_1, c1_2, c1_3, ne_c0_c1, ne_c1_c0, rc0, rc0a, rc0b, rc0c, rc0n, rc1, rc1a, rc1b, rc1c, rc1n]; done)) (by first | exact c0_3f | (simp [go_sem, World.cell?_alloc_past, c0_0f, c0_1f, c0_2f, c0_3f, c0_0, c0_1, c0_2, c0_3, c1_3f, c1_0, c1_1, c1_2, c1_3, ne_c0_c1, ne_c1_c0, rc0, rc0a, rc0b, rc0c, rc0n, rc1, rc1a, rc1b, rc1c, rc1n]; done))
  replace c0_0 : w5.cell? ⟨w.heap.size, 0, none⟩ = some (.int .i64 0) := hx5.has (by first | exact c0_0 | (simp [go_sem, World.cell?_alloc_past, c0_0f, c0_1f, c0_2f, c0_3f, c0_0, c0_1, c0_2, c0_3, c1_3f, c1_0, c1_1, c1_2, c1_3, ne_c0_c1, ne_c1_c0, rc0, rc0a, rc0b, rc0c, rc0n, rc1, rc1a, rc1b, rc1c, rc1n]; done))
  replace c0_1 : w5.cell? ⟨w.heap.size, 1, none⟩ = some (.int .i64 0) := hx5.has (by first | exact c0_1 | (simp [go_sem, World.cell?_alloc_past, c0_0f, c0_1f, c0_2f, c0_3f, c0_0, c0_1, c0_2, c0_3, c1_3f, c1_0, c1_1, c1_2, c1_3, ne_c0_c1, ne_c1_c0, rc0, rc0a, rc0b, rc0c, rc0n, rc1, rc1a, rc1b, rc1c, rc1n]; done))
  replace c0_2 : w5.cell? ⟨w.heap.size, 2, none⟩ = some (.int .i64 0) := hx5.has (by first | exact c0_2 | (simp [go_sem, World.cell?_alloc_past, c0_0f, c0_1f, c0_2f, c0_3f, c0_0, c0_1, c0_2, c0_3, c1_3f, c1_0, c1_1, c1_2, c1_3, ne_c0_c1, ne_c1_c0, rc0, rc0a, rc0b, rc0c, rc0n, rc1, rc1a, rc1b, rc1c, rc1n]; done))
  replace c0_3 : w5.cell? ⟨w.heap.size, 3, none⟩ = some (.int .i64 0) := hx5.has (by first | exact c0_3 | (simp [go_sem, World.cell?_alloc_past, c0_0f, c0_1f, c0_2f, c0_3f, c0_0, c0_1, c0_2, c0_3, c1_3f, c1_0, c1_1, c1_2, c1_3, ne_c0_c1, ne_c1_c0, rc0, rc0a, rc0b, rc0c, rc0n, rc1, rc1a, rc1b, rc1c, rc1n]; done))
  replace c1_0 : w5.cell? ⟨w.heap.size + 1, 0, none⟩ = some (.int .i64 V) := hx5.has (by first | exact c1_0 | (simp [go_sem, World.cell?_alloc_past, c0_0f, c0_1f, c0_2f, c0_3f, c0_0, c0_1, c0_2, c0_3, c1_3f, c1_0, c1_1, c1_2, c1_3, ne_c0_c1, ne_c1_c0, rc0, rc0a, rc0b, rc0c, rc0n, rc1, rc1a, rc1b, rc1c, rc1n]; done))
  replace c1_1 : w5.cell? ⟨w.heap.size + 1, 1, none⟩ = some (.int .i64 S) := hx5.has (by first | exact c1_1 | (simp [go_sem, World.cell?_alloc_past, c0_0f, c0_1f, c0_2f, c0_3f, c0_0, c0_1, c0_2, c0_3, c1_3f, c1_0, c1_1, c1_2, c1_3, ne_c0_c1, ne_c1_c0, rc0, rc0a, rc0b, rc0c, rc0n, rc1, rc1a, rc1b, rc1c, rc1n]; done))
  replace c1_2 : w5.cell? ⟨w.heap.size + 1, 2, none⟩ = some (.int .i64 (Q - 1)) := hx5.has (by first | exact c1_2 | (simp [go_sem, World.cell?_alloc_past, c0_0f, c0_1f, c0_2f, c0_3f, c0_0, c0_1, c0_2, c0_3, c1_3f, c1_0, c1_1, c1_2, c1_3, ne_c0_c1, ne_c1_c0, rc0, rc0a, rc0b, rc0c, rc0n, rc1, rc1a, rc1b, rc1c, rc1n]; done))
  replace c1_3 : w5.cell? ⟨w.heap.size + 1, 3, none⟩ = some (.int .i64 F) := hx5.has (by first | exact c1_3 | (simp [go_sem, World.cell?_alloc_past, c0_0f, c0_1f, c0_2f, c0_3f, c0_0, c0_1, c0_2, c0_3, c1_3f, c1_0, c1_1, c1_2, c1_3, ne_c0_c1, ne_c1_c0, rc0, rc0a, rc0b, rc0c, rc0n, rc1, rc1a, rc1b, rc1c, rc1n]; done))
  have z5 := hx5.size
  try simp at z5
  replace rc0 : w.heap.size < w5.heap.size := by omega
  replace rc0a : w.heap.size < w5.heap.size + 1 := by omega
  replace rc0b : w.heap.size < w5.heap.size + 1 + 1 := by omega
  replace rc0c : w.heap.size < w5.heap.size + 1 + 1 + 1 := by omega
  replace rc0n : ¬ w.heap.size = w5.heap.size := by omega
  replace rc1 : w.heap.size + 1 < w5.heap.size := by omega
  replace rc1a : w.heap.size + 1 < w5.heap.size + 1 := by omega
  replace rc1b : w.heap.size + 1 < w5.heap.size + 1 + 1 := by omega
  replace rc1c : w.heap.size + 1 < w5.heap.size + 1 + 1 + 1 := by omega
  replace rc1n : ¬ w.heap.size + 1 = w5.heap.size := by omega
  have X5 : Hid (But (· = g) w w5) := Lib.hid (But.trans (by repeat (first | with_reducible exact X4.out | with_reducible refine But.drew ?_ | with_reducible refine But.drewN ?_ _ | with_reducible refine But.alloc ?_ _ | with_reducible refine But.setG ?_ _ | with_reducible refine But.setNew ?_ (by first | omega | (simp; done) | (simp; omega)) _)) (But.ofExt hx5))
  replace HR := Lib.hid (RRd.ext (g := g) (k := k4) (L := L) (flt := none) (by repeat (first | with_reducible exact HR.out | with_reducible refine RRd.set ?_ (by omega) _ | with_reducible refine RRd.ext ?_ (Ext.alloc (Ext.refl _) _) | with_reducible refine RRd.ext ?_ (Ext.drew (Ext.refl _)) | with_reducible refine RRd.drewN ?_ _)) hx5)
  clear c1_3f X4 hx5 z5
  go_wp2_with fail
  (with_reducible refine ((rFail_any g k4 L none 0 at_ _ (by repeat (first | with_reducible exact HR.out | with_reducible refine RRd.set ?_ (by omega) _ | with_reducible refine RRd.ext ?_ (Ext.alloc (Ext.refl _) _) | with_reducible refine RRd.ext ?_ (Ext.drew (Ext.refl _)) | with_reducible refine RRd.drewN ?_ _)))).mono ?_)
  rintro e w6 ⟨⟨v, rfl⟩, hr, hx6⟩
  have hsz6 := hx6.size
  try simp at hsz6
  replace c0_0f : w6.frozen? ⟨w.heap.size, 0, none⟩ = false := hx6.froz (by show ¬ _ = _; first | assumption | omega) (v := .int .i64 0) (by first | exact c0_0 | (simp [go_sem, World.cell?_alloc_past, c0_0f, c0_1f, c0_2f, c0_3f, c0_0, c0_1, c0_2, c0_3, c1_0, c1_1, c1_2, c1_3, ne_c0_c1, ne_c1_c0, rc0, rc0a, rc0b, rc0c, rc0n, rc1, rc1a, rc1b, rc1c, rc1n]; done)) (by first | exact c0_0f | (simp [go_sem, World.cell?_alloc_past, c0_0f, c0_1f, c0_2f, c0_3f, c0_0, c0_1, c0_2, c0_3, c1_0, c1_1, c1_2, c1_3, ne_c0_c1, ne_c1_c0, rc0, rc0a, rc0b, rc0c, rc0n, rc1, rc1a, rc1b, rc1c, rc1n]; done))
  replace c0_1f : w6.frozen? ⟨w.heap.size, 1, none⟩ = false := hx6.froz (by show ¬ _ = _; first | assumption | omega) (v := .int .i64 0) (by first | exact c0_1 | (simp [go_sem, World.cell?_alloc_past, c0_0f, c0_1f, c0_2f, c0_3f, c0_0, c0_1, c0_2, c0_3, c1_0, c1_1, c1_2, c1_3, ne_c0_c1, ne_c1_c0, rc0, rc0a, rc0b, rc0c, rc0n, rc1, rc1a, rc1b, rc1c, rc1n]; done)) (by first | exact c0_1f | (simp [go_sem, World.cell?_alloc_past, c0_0f, c0_1f, c0_2f, c0_3f, c0_0, c0_1, c0_2, c0_3, c1_0, c1_1, c1_2, c1_3, ne_c0_c1, ne_c1_c0, rc0, rc0a, rc0b, rc0c, rc0n, rc1, rc1a, rc1b, rc1c, rc1n]; done))
  replace c0_2f : w6.frozen? ⟨w.heap.size, 2, none⟩ = false := hx6.froz (by show ¬ _ = _; first | assumption | omega) (v := .int .i64 0) (by first | exact c0_2 | (simp [go_sem, World.cell?_alloc_past, c0_0f, c0_1f, c0_2f, c0_3f, c0_0, c0_1, c0_2, c0_3, c1_0, c1_1, c1_2, c1_3, ne_c0_c1, ne_c1_c0, rc0, rc0a, rc0b, rc0c, rc0n, rc1, rc1a, rc1b, rc1c, rc1n]; done)) (by first | exact c0_2f | (simp [go_sem, World.cell?_alloc_past, c0_0f, c0_1f, c0_2f, c0_3f, c0_0, c0_1, c0_2, c0_3, c1_0, c1_1, c1_2, c1_3, ne_c0_c1, ne_c1_c0, rc0, rc0a, rc0b, rc0c, rc0n, rc1, rc1a, rc1b, rc1c, rc1n]; done))
  replace c0_3f : w6.frozen? ⟨w.heap.size, 3, none⟩ = false := hx6.froz (by show ¬ _ = _; first | assumption | omega) (v := .int .i64 0) (by first | exact c0_3 | (simp [go_sem, World.cell?_alloc_past, c0_0f, c0_1f, c0_2f, c0_3f, c0_0, c0_1, c0_2, c0_3, c1_0, c1_1, c1_2, c1_3, ne_c0_c1, ne_c1_c0, rc0, rc0a, rc0b, rc0c, rc0n, rc1, rc1a, rc1b, rc1c, rc1n]; done)) (by first | exact c0_3f | (simp [go_sem, World.cell?_alloc_past, c0_0f, c0_1f, c0_2f, c0_3f, c0_0, c0_1, c0_2, c0_3, c1_0, c1_1, c1_2, c1_3, ne_c0_c1, ne_c1_c0, rc0, rc0a, rc0b, rc0c, rc0n, rc1, rc1a, rc1b, rc1c, rc1n]; done))
  replace c0_0 : w6.cell? ⟨w.heap.size, 0, none⟩ = some (.int .i64 0) := hx6.has (by show ¬ _ = _; first | assumption | omega) (by first | exact c0_0 | (simp [go_sem, World.cell?_alloc_past, c0_0f, c0_1f, c0_2f, c0_3f, c0_0, c0_1, c0_2, c0_3, c1_0, c1_1, c1_2, c1_3, ne_c0_c1, ne_c1_c0, rc0, rc0a, rc0b, rc0c, rc0n, rc1, rc1a, rc1b, rc1c, rc1n]; done))
  replace c0_1 : w6.cell? ⟨w.heap.size, 1, none⟩ = some (.int .i64 0) := hx6.has (by show ¬ _ = _; first | assumption | omega) (by first | exact c0_1 | (simp [go_sem, World.cell?_alloc_past, c0_0f, c0_1f, c0_2f, c0_3f, c0_0, c0_1, c0_2, c0_3, c1_0, c1_1, c1_2, c1_3, ne_c0_c1, ne_c1_c0, rc0, rc0a, rc0b, rc0c, rc0n, rc1, rc1a, rc1b, rc1c, rc1n]; done))
  replace c0_2 : w6.cell? ⟨w.heap.size, 2, none⟩ = some (.int .i64 0) := hx6.has (by show ¬ _ = _; first | assumption | omega) (by first | exact c0_2 | (simp [go_sem, World.cell?_alloc_past, c0_0f, c0_1f, c0_2f, c0_3f, c0_0, c0_1, c0_2, c0_3, c1_0, c1_1, c1_2, c1_3, ne_c0_c1, ne_c1_c0, rc0, rc0a, rc0b, rc0c, rc0n, rc1, rc1a, rc1b, rc1c, rc1n]; done))
  replace c0_3 : w6.cell? ⟨w.heap.size, 3, none⟩ = some (.int .i64 0) := hx6.has (by show ¬ _ = _; first | assumption | omega) (by first | exact c0_3 | (simp [go_sem, World.cell?_alloc_past, c0_0f, c0_1f, c0_2f, c0_3f, c0_0, c0_1, c0_2, c0_3, c1_0, c1_1, c1_2, c1_3, ne_c0_c1, ne_c1_c0, rc0, rc0a, rc0b, rc0c, rc0n, rc1, rc1a, rc1b, rc1c, rc1n]; done))
  replace c1_0 : w6.cell? ⟨w.heap.size + 1, 0, none⟩ = some (.int .i64 V) := hx6.has (by show ¬ _ = _; first | assumption | omega) (by first | exact c1_0 | (simp [go_sem, World.cell?_alloc_past, c0_0f, c0_1f, c0_2f, c0_3f, c0_0, c0_1, c0_2, c0_3, c1_0, c1_1, c1_2, c1_3, ne_c0_c1, ne_c1_c0, rc0, rc0a, rc0b, rc0c, rc0n, rc1, rc1a, rc1b, rc1c, rc1n]; done))
  replace c1_1 : w6.cell? ⟨w.heap.size + 1, 1, none⟩ = some (.int .i64 S) := hx6.has (by show ¬ _ = _; first | assumption | omega) (by first | exact c1_1 | (simp [go_sem, World.cell?_alloc_past, c0_0f, c0_1f, c0_2f, c0_3f, c0_0, c0_1, c0_2, c0_3, c1_0, c1_1, c1_2, c1_3, ne_c0_c1, ne_c1_c0, rc0, rc0a, rc0b, rc0c, rc0n, rc1, rc1a, rc1b, rc1c, rc1n]; done))
  replace c1_2 : w6.cell? ⟨w.heap.size + 1, 2, none⟩ = some (.int .i64 (Q - 1)) := hx6.has (by show ¬ _ = _; first | assumption | omega) (by first | exact c1_2 | (simp [go_sem, World.cell?_alloc_past, c0_0f, c0_1f, c0_2f, c0_3f, c0_0, c0_1, c0_2, c0_3, c1_0, c1_1, c1_2, c1_3, ne_c0_c1, ne_c1_c0, rc0, rc0a, rc0b, rc0c, rc0n, rc1, rc1a, rc1b, rc1c, rc1n]; done))
  replace c1_3 : w6.cell? ⟨w.heap.size + 1, 3, none⟩ = some (.int .i64 F) := hx6.has (by show ¬ _ = _; first | assumption | omega) (by first | exact c1_3 | (simp [go_sem, World.cell?_alloc_past, c0_0f, c0_1f, c0_2f, c0_3f, c0_0, c0_1, c0_2, c0_3, c1_0, c1_1, c1_2, c1_3, ne_c0_c1, ne_c1_c0, rc0, rc0a, rc0b, rc0c, rc0n, rc1, rc1a, rc1b, rc1c, rc1n]; done))
  have z6 := hx6.size
  try simp at z6
  replace rc0 : w.heap.size < w6.heap.size := by omega
  replace rc0a : w.heap.size < w6.heap.size + 1 := by omega
  replace rc0b : w.heap.size < w6.heap.size + 1 + 1 := by omega
  replace rc0c : w.heap.size < w6.heap.size + 1 + 1 + 1 := by omega
  replace rc0n : ¬ w.heap.size = w6.heap.size := by omega
  replace rc1 : w.heap.size + 1 < w6.heap.size := by omega
  replace rc1a : w.heap.size + 1 < w6.heap.size + 1 := by omega
  replace rc1b : w.heap.size + 1 < w6.heap.size + 1 + 1 := by omega
  replace rc1c : w.heap.size + 1 < w6.heap.size + 1 + 1 + 1 := by omega
  replace rc1n : ¬ w.heap.size + 1 = w6.heap.size := by omega
  have X6 : Hid (But (· = g) w w6) := Lib.hid (But.trans (by repeat (first | with_reducible exact X5.out | with_reducible refine But.drew ?_ | with_reducible refine But.drewN ?_ _ | with_reducible refine But.alloc ?_ _ | with_reducible refine But.setG ?_ _ | with_reducible refine But.setNew ?_ (by first | omega | (simp; done) | (simp; omega)) _)) hx6)
  clear HR
  have HR := Lib.hid hr
  clear hsz6 X5 hx6 z6 hr
  clear g_2
  have g_2 := HR.out.c2
  change _ = some (Value.int .i64 0) at g_2
  go_wp2_with fail
  refine bodyPost_ret (v := .agg #[.int .i64 V, .int .i64 S, .int .i64 (Q - 1), .int .i64 F]) (by simp [results, Try.results24, go_sem, World.cell?_alloc_past, c0_0f, c0_1f, c0_2f, c0_3f, c0_0, c0_1, c0_2, c0_3, c1_0, c1_1, c1_2, c1_3, ne_c0_c1, ne_c1_c0, rc0, rc0a, rc0b, rc0c, rc0n, rc1, rc1a, rc1b, rc1c, rc1n]; try rfl) rfl ⟨rfl, ?_, (by repeat (first | with_reducible exact X6.out | with_reducible refine But.drew ?_ | with_reducible refine But.drewN ?_ _ | with_reducible refine But.alloc ?_ _ | with_reducible refine But.setG ?_ _ | with_reducible refine But.setNew ?_ (by first | omega | (simp; done) | (simp; omega)) _))⟩
  have hr := HR.out
  rw [failF_ok] at hr
  repeat (first | with_reducible exact hr | with_reducible refine RRd.set ?_ (by omega) _ | (with_reducible refine RRd.ext ?_ (Ext.alloc (Ext.refl _) _)))
set_option maxRecDepth 100000 in
set_option maxHeartbeats 4000000 in
theorem rTake12_bad (g k k1 k2 k3 k4 : Nat) (L : List Nat) (f f1 f2 f3 : Option (Int × Int)) (at_ V S Q F : Int) (E : Int) (hE : Hid (¬ E = 0)) (q0 : 0 ≤ Q) (q1 : Q ≤ 32)
    (CA : Hid (∀ w, RRd w g L k f → Calls Try.prog 26 #[.pointer (some ⟨g, 0, none⟩)] w fun r w' => r = .returned (.int .i64 at_) ∧ w = w'))
    (C1 : Hid (∀ w, RRd w g L k f → Calls Try.prog 76 #[.pointer (some ⟨g, 0, none⟩), .int .i64 0, .int .i64 31] w fun r w' => r = .returned (.int .i64 V) ∧ RRd w' g L k1 f1 ∧ But (· = g) w w'))
    (C2 : Hid (∀ w, RRd w g L k1 f1 → Calls Try.prog 76 #[.pointer (some ⟨g, 0, none⟩), .int .i64 1, .int .i64 4294967296] w fun r w' => r = .returned (.int .i64 S) ∧ RRd w' g L k2 f2 ∧ But (· = g) w w'))
    (C3 : Hid (∀ w, RRd w g L k2 f2 → Calls Try.prog 76 #[.pointer (some ⟨g, 0, none⟩), .int .i64 0, .int .i64 32] w fun r w' => r = .returned (.int .i64 Q) ∧ RRd w' g L k3 f3 ∧ But (· = g) w w'))
    (C4 : Hid (∀ w, RRd w g L k3 f3 → Calls Try.prog 76 #[.pointer (some ⟨g, 0, none⟩), .int .i64 0, .int .i64 4294967296] w fun r w' => r = .returned (.int .i64 F) ∧ RRd w' g L k4 none ∧ But (· = g) w w'))
    (CK : Hid (∀ w, Calls Try.prog 68 #[.agg #[.int .i64 V, .int .i64 S, .int .i64 (Q - 1), .int .i64 F]] w fun r w' => r = .returned (.int .i64 E) ∧ Ext w w'))
    (w : World) (h : RRd w g L k f) :
    Calls Try.prog 24 #[.pointer (some ⟨g, 0, none⟩)] w fun r w' => r = .returned (.agg #[.int .i64 0, .int .i64 0, .int .i64 0, .int .i64 0]) ∧ RRd w' g L k4 (some (E, at_)) ∧ But (· = g) w w' := by
  have hg := h.lt
  have HR := Lib.hid h
  clear h
  go_enter Try.func24, Try.ntmps24
  go_wp2_with fail
  (with_reducible refine (CA.out _ (by repeat (first | with_reducible exact HR.out | with_reducible refine RRd.set ?_ (by omega) _ | with_reducible refine RRd.ext ?_ (Ext.alloc (Ext.refl _) _) | with_reducible refine RRd.ext ?_ (Ext.drew (Ext.refl _)) | with_reducible refine RRd.drewN ?_ _))).mono ?_)
  rintro e w_1 ⟨rfl, rfl⟩
  go_wp2_with fail
  (with_reducible refine (C1.out _ (by repeat (first | with_reducible exact HR.out | with_reducible refine RRd.set ?_ (by omega) _ | with_reducible refine RRd.ext ?_ (Ext.alloc (Ext.refl _) _) | with_reducible refine RRd.ext ?_ (Ext.drew (Ext.refl _)) | with_reducible refine RRd.drewN ?_ _))).mono ?_)
  rintro e w1 ⟨rfl, hr, hx1⟩
  have hsz1 := hx1.size
  try simp at hsz1
  have c0_0f : w1.frozen? ⟨w.heap.size, 0, none⟩ = false := hx1.froz (by show ¬ _ = _; first | assumption | omega) (v := .int .i64 0) (by first | fail | (simp [go_sem, World.cell?_alloc_past]; done)) (by first | fail | (simp [go_sem, World.cell?_alloc_past]; done))
  have c0_1f : w1.frozen? ⟨w.heap.size, 1, none⟩ = false := hx1.froz (by show ¬ _ = _; first | assumption | omega) (v := .int .i64 0) (by first | fail | (simp [go_sem, World.cell?_alloc_past]; done)) (by first | fail | (simp [go_sem, World.cell?_alloc_past]; done))
  have c0_2f : w1.frozen? ⟨w.heap.size, 2, none⟩ = false := hx1.froz (by show ¬ _ = _; first | assumption | omega) (v := .int .i64 0) (by first | fail | (simp [go_sem, World.cell?_alloc_past]; done)) (by first | fail | (simp [go_sem, World.cell?_alloc_past]; done))
  have c0_3f : w1.frozen? ⟨w.heap.size, 3, none⟩ = false := hx1.froz (by show ¬ _ = _; first | assumption | omega) (v := .int .i64 0) (by first | fail | (simp [go_sem, World.cell?_alloc_past]; done)) (by first | fail | (simp [go_sem, World.cell?_alloc_past]; done))
  have c0_0 : w1.cell? ⟨w.heap.size, 0, none⟩ = some (.int .i64 0) := hx1.has (by show ¬ _ = _; first | assumption | omega) (by first | fail | (simp [go_sem, World.cell?_alloc_past]; done))
  have c0_1 : w1.cell? ⟨w.heap.size, 1, none⟩ = some (.int .i64 0) := hx1.has (by show ¬ _ = _; first | assumption | omega) (by first | fail | (simp [go_sem, World.cell?_alloc_past]; done))
  have c0_2 : w1.cell? ⟨w.heap.size, 2, none⟩ = some (.int .i64 0) := hx1.has (by show ¬ _ = _; first | assumption | omega) (by first | fail | (simp [go_sem, World.cell?_alloc_past]; done))
  have c0_3 : w1.cell? ⟨w.heap.size, 3, none⟩ = some (.int .i64 0) := hx1.has (by show ¬ _ = _; first | assumption | omega) (by first | fail | (simp [go_sem, World.cell?_alloc_past]; done))
  have c1_0f : w1.frozen? ⟨w.heap.size + 1, 0, none⟩ = false := hx1.froz (by show ¬ _ = _; first | assumption | omega) (v := .int .i64 0) (by first | fail | (simp [go_sem, World.cell?_alloc_past]; done)) (by first | fail | (simp [go_sem, World.cell?_alloc_past]; done))
  have c1_1f : w1.frozen? ⟨w.heap.size + 1, 1, none⟩ = false := hx1.froz (by show ¬ _ = _; first | assumption | omega) (v := .int .i64 0) (by first | fail | (simp [go_sem, World.cell?_alloc_past]; done)) (by first | fail | (simp [go_sem, World.cell?_alloc_past]; done))
  have c1_2f : w1.frozen? ⟨w.heap.size + 1, 2, none⟩ = false := hx1.froz (by show ¬ _ = _; first | assumption | omega) (v := .int .i64 0) (by first | fail | (simp [go_sem, World.cell?_alloc_past]; done)) (by first | fail | (simp [go_sem, World.cell?_alloc_past]; done))
  have c1_3f : w1.frozen? ⟨w.heap.size + 1, 3, none⟩ = false := hx1.froz (by show ¬ _ = _; first | assumption | omega) (v := .int .i64 0) (by first | fail | (simp [go_sem, World.cell?_alloc_past]; done)) (by first | fail | (simp [go_sem, World.cell?_alloc_past]; done))
  have c1_0 : w1.cell? ⟨w.heap.size + 1, 0, none⟩ = some (.int .i64 0) := hx1.has (by show ¬ _ = _; first | assumption | omega) (by first | fail | (simp [go_sem, World.cell?_alloc_past]; done))
  have c1_1 : w1.cell? ⟨w.heap.size + 1, 1, none⟩ = some (.int .i64 0) := hx1.has (by show ¬ _ = _; first | assumption | omega) (by first | fail | (simp [go_sem, World.cell?_alloc_past]; done))
  have c1_2 : w1.cell? ⟨w.heap.size + 1, 2, none⟩ = some (.int .i64 0) := hx1.has (by show ¬ _ = _; first | assumption | omega) (by first | fail | (simp [go_sem, World.cell?_alloc_past]; done))
  have c1_3 : w1.cell? ⟨w.heap.size + 1, 3, none⟩ = some (.int .i64 0) := hx1.has (by show ¬ _ = _; first | assumption | omega) (by first | fail | (simp [go_sem, World.cell?_alloc_past]; done))
  have z1 := hx1.size
  try simp at z1
  have lt_c0_c1 : w.heap.size < w.heap.size + 1 := by omega
  have ne_c0_c1 : ¬ w.heap.size = w.heap.size + 1 := by omega
  have ne_c1_c0 : ¬ w.heap.size + 1 = w.heap.size := by omega
  have rc0 : w.heap.size < w1.heap.size := by omega
  have rc0a : w.heap.size < w1.heap.size + 1 := by omega
  have rc0b : w.heap.size < w1.heap.size + 1 + 1 := by omega
  have rc0c : w.heap.size < w1.heap.size + 1 + 1 + 1 := by omega
  have rc0n : ¬ w.heap.size = w1.heap.size := by omega
  have rc1 : w.heap.size + 1 < w1.heap.size := by omega
  have rc1a : w.heap.size + 1 < w1.heap.size + 1 := by omega
  have rc1b : w.heap.size + 1 < w1.heap.size + 1 + 1 := by omega
  have rc1c : w.heap.size + 1 < w1.heap.size + 1 + 1 + 1 := by omega
  have rc1n : ¬ w.heap.size + 1 = w1.heap.size := by omega
  have X1 : Hid (But (· = g) w w1) := Lib.hid (But.trans (by repeat (first | with_reducible exact But.refl _ w | with_reducible refine But.drew ?_ | with_reducible refine But.drewN ?_ _ | with_reducible refine But.alloc ?_ _ | with_reducible refine But.setG ?_ _ | with_reducible refine But.setNew ?_ (by first | omega | (simp; done) | (simp; omega)) _)) hx1)
  clear HR
  have HR := Lib.hid hr
  clear hsz1 hx1 z1 hr
  go_wp2_with fail
  (with_reducible refine (C2.out _ (by repeat (first | with_reducible exact HR.out | with_reducible refine RRd.set ?_ (by omega) _ | with_reducible refine RRd.ext ?_ (Ext.alloc (Ext.refl _) _) | with_reducible refine RRd.ext ?_ (Ext.drew (Ext.refl _)) | with_reducible refine RRd.drewN ?_ _))).mono ?_)
  rintro e w2 ⟨rfl, hr, hx2⟩
  have hsz2 := hx2.size
  try simp at hsz2
  replace c0_0f : w2.frozen? ⟨w.heap.size, 0, none⟩ = false := hx2.froz (by show ¬ _ = _; first | assumption | omega) (v := .int .i64 0) (by first | exact c0_0 | (simp [go_sem, World.cell?_alloc_past, c0_0f, c0_1f, c0_2f, c0_3f, c0_0, c0_1, c0_2, c0_3, c1_0f, c1_1f, c1_2f, c1_3f, c1_0, c1_1, c1_2, c1_3, ne_c0_c1, ne_c1_c0, rc0, rc0a, rc0b, rc0c, rc0n, rc1, rc1a, rc1b, rc1c, rc1n]; done)) (by first | exact c0_0f | (simp [go_sem, World.cell?_alloc_past, c0_0f, c0_1f, c0_2f, c0_3f, c0_0, c0_1, c0_2, c0_3, c1_0f, c1_1f, c1_2f, c1_3f, c1_0, c1_1, c1_2, c1_3, ne_c0_c1, ne_c1_c0, rc0, rc0a, rc0b, rc0c, rc0n, rc1, rc1a, rc1b, rc1c, rc1n]; done))
  replace c0_1f : w2.frozen? ⟨w.heap.size, 1, none⟩ = false := hx2.froz (by show ¬ _ = _; first | assumption | omega) (v := .int .i64 0) (by first | exact c0_1 | (simp [go_sem, World.cell?_alloc_past, c0_0f, c0_1f, c0_2f, c0_3f, c0_0, c0_1, c0_2, c0_3, c1_0f, c1_1f, c1_2f, c1_3f, c1_0, c1_1, c1_2, c1_3, ne_c0_c1, ne_c1_c0, rc0, rc0a, rc0b, rc0c, rc0n, rc1, rc1a, rc1b, rc1c, rc1n]; done)) (by first | exact c0_1f | (simp [go_sem, World.cell?_alloc_past, c0_0f, c0_1f, c0_2f, c0_3f, c0_0, c0_1, c0_2, c0_3, c1_0f, c1_1f, c1_2f, c1_3f, c1_0, c1_1, c1_2, c1_3, ne_c0_c1, ne_c1_c0, rc0, rc0a, rc0b, rc0c, rc0n, rc1, rc1a, rc1b, rc1c, rc1n]; done))
  replace c0_2f : w2.frozen? ⟨w.heap.size, 2, none⟩ = false := hx2.froz (by show ¬ _ = _; first | assumption | omega) (v := .int .i64 0) (by first | exact c0_2 | (simp [go_sem, World.cell?_alloc_past, c0_0f, c0_1f, c0_2f, c0_3f, c0_0, c0_1, c0_2, c0_3, c1_0f, c1_1f, c1_2f, c1_3f, c1_0, c1_1, c1_2, c1_3, ne_c0_c1, ne_c1_c0, rc0, rc0a, rc0b, rc0c, rc0n, rc1, rc1a, rc1b, rc1c, rc1n]; done)) (by first | exact c0_2f | (simp [go_sem, World.cell?_alloc_past, c0_0f, c0_1f, c0_2f, c0_3f, c0_0, c0_1, c0_2, c0_3, c1_0f, c1_1f, c1_2f, c1_3f, c1_0, c1_1, c1_2, c1_3, ne_c0_c1, ne_c1_c0, rc0, rc0a, rc0b, rc0c, rc0n, rc1, rc1a, rc1b, rc1c, rc1n]; done))
  replace c0_3f : w2.frozen? ⟨w.heap.size, 3, none⟩ = false := hx2.froz (by show ¬ _ = _; first | assumption | omega) (v := .int .i64 0) (by first | exact c0_3 | (simp [go_sem, World.cell?_alloc_past, c0_0f, c0_1f, c0_2f, c0_3f, c0_0, c0_1, c0_2, c0_3, c1_0f, c1_1f, c1_2f, c1_3f, c1_0, c1_1, c1_2, c1_3, ne_c0_c1, ne_c1_c0, rc0, rc0a, rc0b, rc0c, rc0n, rc1, rc1a, rc1b, rc1c, rc1n]; done)) (by first | exact c0_3f | (simp [go_sem, World.cell?_alloc_past, c0_0f, c0_1f, c0_2f, c0_3f, c0_0, c0_1, c0_2, c0_3, c1_0f, c1_1f, c1_2f, c1_3f, c1_0, c1_1, c1_2, c1_3, ne_c0_c1, ne_c1_c0, rc0, rc0a, rc0b, rc0c, rc0n, rc1, rc1a, rc1b, rc1c, rc1n]; done))
  replace c0_0 : w2.cell? ⟨w.heap.size, 0, none⟩ = some (.int .i64 0) := hx2.has (by show ¬ _ = _; first | assumption | omega) (by first | exact c0_0 | (simp [go_sem, World.cell?_alloc_past, c0_0f, c0_1f, c0_2f, c0_3f, c0_0, c0_1, c0_2, c0_3, c1_0f, c1_1f, c1_2f, c1_3f, c1_0, c1_1, c1_2, c1_3, ne_c0_c1, ne_c1_c0, rc0, rc0a, rc0b, rc0c, rc0n, rc1, rc1a, rc1b, rc1c, rc1n]; done))
  replace c0_1 : w2.cell? ⟨w.heap.size, 1, none⟩ = some (.int .i64 0) := hx2.has (by show ¬ _ = _; first | assumption | omega) (by first | exact c0_1 | (simp [go_sem, World.cell?_alloc_past, c0_0f, c0_1f, c0_2f, c0_3f, c0_0, c0_1, c0_2, c0_3, c1_0f, c1_1f, c1_2f, c1_3f, c1_0, c1_1, c1_2, c1_3, ne_c0_c1, ne_c1_c0, rc0, rc0a, rc0b, rc0c, rc0n, rc1, rc1a, rc1b, rc1c, rc1n]; done))
  replace c0_2 : w2.cell? ⟨w.heap.size, 2, none⟩ = some (.int .i64 0) := hx2.has (by show ¬ _ = _; first | assumption | omega) (by first | exact c0_2 | (simp [go_sem, World.cell?_alloc_past, c0_0f, c0_1f, c0_2f, c0_3f, c0_0, c0_1, c0_2, c0_3, c1_0f, c1_1f, c1_2f, c1_3f, c1_0, c1_1, c1_2, c1_3, ne_c0_c1, ne_c1_c0, rc0, rc0a, rc0b, rc0c, rc0n, rc1, rc1a, rc1b, rc1c, rc1n]; done))
  replace c0_3 : w2.cell? ⟨w.heap.size, 3, none⟩ = some (.int .i64 0) := hx2.has (by show ¬ _ = _; first | assumption | omega) (by first | exact c0_3 | (simp [go_sem, World.cell?_alloc_past, c0_0f, c0_1f, c0_2f, c0_3f, c0_0, c0_1, c0_2, c0_3, c1_0f, c1_1f, c1_2f, c1_3f, c1_0, c1_1, c1_2, c1_3, ne_c0_c1, ne_c1_c0, rc0, rc0a, rc0b, rc0c, rc0n, rc1, rc1a, rc1b, rc1c, rc1n]; done))
  replace c1_1f : w2.frozen? ⟨w.heap.size + 1, 1, none⟩ = false := hx2.froz (by show ¬ _ = _; first | assumption | omega) (v := .int .i64 0) (by first | exact c1_1 | (simp [go_sem, World.cell?_alloc_past, c0_0f, c0_1f, c0_2f, c0_3f, c0_0, c0_1, c0_2, c0_3, c1_0f, c1_1f, c1_2f, c1_3f, c1_0, c1_1, c1_2, c1_3, ne_c0_c1, ne_c1_c0, rc0, rc0a, rc0b, rc0c, rc0n, rc1, rc1a, rc1b, rc1c, rc1n]; done)) (by first | exact c1_1f | (simp [go_sem, World.cell?_alloc_past, c0_0f, c0_1f, c0_2f, c0_3f, c0_0, c0_1, c0_2, c0_3, c1_0f, c1_1f, c1_2f, c1_3f, c1_0, c1_1, c1_2, c1_3, ne_c0_c1, ne_c1_c0, rc0, rc0a, rc0b, rc0c, rc0n, rc1, rc1a, rc1b, rc1c, rc1n]; done))
  replace c1_2f : w2.frozen? ⟨w.heap.size + 1, 2, none⟩ = false := hx2.froz (by show ¬ _ = _; first | assumption | omega) (v := .int .i64 0) (by first | exact c1_2 | (simp [go_sem, World.cell?_alloc_past, c0_0f, c0_1f, c0_2f, c0_3f, c0_0, c0_1, c0_2, c0_3, c1_0f, c1_1f, c1_2f, c1_3f, c1_0, c1_1, c1_2, c1_3, ne_c0_c1, ne_c1_c0, rc0, rc0a, rc0b, rc0c, rc0n, rc1, rc1a, rc1b, rc1c, rc1n]; done)) (by first | exact c1_2f | (simp [go_sem, World.cell?_alloc_past, c0_0f, c0_1f, c0_2f, c0_3f, c0_0, c0_1, c0_2, c0_3, c1_0f, c1_1f, c1_2f, c1_3f, c1_0, c1_1, c1_2, c1_3, ne_c0_c1, ne_c1_c0, rc0, rc0a, rc0b, rc0c, rc0n, rc1, rc1a, rc1b, rc1c, rc1n]; done))
  replace c1_3f : w2.frozen? ⟨w.heap.size + 1, 3, none⟩ = false := hx2.froz (by show ¬ _ = _; first | assumption | omega) (v := .int .i64 0) (by first | exact c1_3 | (simp [go_sem, World.cell?_alloc_past, c0_0f, c0_1f, c0_2f, c0_3f, c0_0, c0_1, c0_2, c0_3, c1_0f, c1_1f, c1_2f, c1_3f, c1_0, c1_1, c1_2, c1_3, ne_c0_c1, ne_c1_c0, rc0, rc0a, rc0b, rc0c, rc0n, rc1, rc1a, rc1b, rc1c, rc1n]; done)) (by first | exact c1_3f | (simp [go_sem, World.cell?_alloc_past, c0_0f, c0_1f, c0_2f, c0_3f, c0_0, c0_1, c0_2, c0_3, c1_0f, c1_1f, c1_2f, c1_3f, c1_0, c1_1, c1_2, c1_3, ne_c0_c1, ne_c1_c0, rc0, rc0a, rc0b, rc0c, rc0n, rc1, rc1a, rc1b, rc1c, rc1n]; done))
  replace c1_0 : w2.cell? ⟨w.heap.size + 1, 0, none⟩ = some (.int .i64 V) := hx2.has (by show ¬ _ = _; first | assumption | omega) (by first | exact c1_0 | (simp [go_sem, World.cell?_alloc_past, c0_0f, c0_1f, c0_2f, c0_3f, c0_0, c0_1, c0_2, c0_3, c1_0f, c1_1f, c1_2f, c1_3f, c1_0, c1_1, c1_2, c1_3, ne_c0_c1, ne_c1_c0, rc0, rc0a, rc0b, rc0c, rc0n, rc1, rc1a, rc1b, rc1c, rc1n]; done))
  replace c1_1 : w2.cell? ⟨w.heap.size + 1, 1, none⟩ = some (.int .i64 0) := hx2.has (by show ¬ _ = _; first | assumption | omega) (by first | exact c1_1 | (simp [go_sem, World.cell?_alloc_past, c0_0f, c0_1f, c0_2f, c0_3f, c0_0, c0_1, c0_2, c0_3, c1_0f, c1_1f, c1_2f, c1_3f, c1_0, c1_1, c1_2, c1_3, ne_c0_c1, ne_c1_c0, rc0, rc0a, rc0b, rc0c, rc0n, rc1, rc1a, rc1b, rc1c, rc1n]; done))
  replace c1_2 : w2.cell? ⟨w.heap.size + 1, 2, none⟩ = some (.int .i64 0) := hx2.has (by show ¬ _ = _; first | assumption | omega) (by first | exact c1_2 | (simp [go_sem, World.cell?_alloc_past, c0_0f, c0_1f, c0_2f, c0_3f, c0_0, c0_1, c0_2, c0_3, c1_0f, c1_1f, c1_2f, c1_3f, c1_0, c1_1, c1_2, c1_3, ne_c0_c1, ne_c1_c0, rc0, rc0a, rc0b, rc0c, rc0n, rc1, rc1a, rc1b, rc1c, rc1n]; done))
  replace c1_3 : w2.cell? ⟨w.heap.size + 1, 3, none⟩ = some (.int .i64 0) := hx2.has (by show ¬ _ = _; first | assumption | omega) (by first | exact c1_3 | (simp [go_sem, World.cell?_alloc_past, c0_0f, c0_1f, c0_2f, c0_3f, c0_0, c0_1, c0_2, c0_3, c1_0f, c1_1f, c1_2f, c1_3f, c1_0, c1_1, c1_2, c1_3, ne_c0_c1, ne_c1_c0, rc0, rc0a, rc0b, rc0c, rc0n, rc1, rc1a, rc1b, rc1c, rc1n]; done))
  have z2 := hx2.size
  try simp at z2
  replace rc0 : w.heap.size < w2.heap.size := by omega
  replace rc0a : w.heap.size < w2.heap.size + 1 := by omega
  replace rc0b : w.heap.size < w2.heap.size + 1 + 1 := by omega
  replace rc0c : w.heap.size < w2.heap.size + 1 + 1 + 1 := by omega
  replace rc0n : ¬ w.heap.size = w2.heap.size := by omega
  replace rc1 : w.heap.size + 1 < w2.heap.size := by omega
  replace rc1a : w.heap.size + 1 < w2.heap.size + 1 := by omega
  replace rc1b : w.heap.size + 1 < w2.heap.size + 1 + 1 := by omega
  replace rc1c : w.heap.size + 1 < w2.heap.size + 1 + 1 + 1 := by omega
  replace rc1n : ¬ w.heap.size + 1 = w2.heap.size := by omega
  have X2 : Hid (But (· = g) w w2) := Lib.hid (But.trans (by repeat (first | with_reducible exact X1.out | with_reducible refine But.drew ?_ | with_reducible refine But.drewN ?_ _ | with_reducible refine But.alloc ?_ _ | with_reducible refine But.setG ?_ _ | with_reducible refine But.setNew ?_ (by first | omega | (simp; done) | (simp; omega)) _)) hx2)
  clear HR
  have HR := Lib.hid hr
  clear c1_0f hsz2 X1 hx2 z2 hr
  go_wp2_with fail
  (with_reducible refine (C3.out _ (by repeat (first | with_reducible exact HR.out | with_reducible refine RRd.set ?_ (by omega) _ | with_reducible refine RRd.ext ?_ (Ext.alloc (Ext.refl _) _) | with_reducible refine RRd.ext ?_ (Ext.drew (Ext.refl _)) | with_reducible refine RRd.drewN ?_ _))).mono ?_)
  rintro e w3 ⟨rfl, hr, hx3⟩
  have hsz3 := hx3.size
  try simp at hsz3
  replace c0_0f : w3.frozen? ⟨w.heap.size, 0, none⟩ = false := hx3.froz (by show ¬ _ = _; first | assumption | omega) (v := .int .i64 0) (by first | exact c0_0 | (simp [go_sem, World.cell?_alloc_past, c0_0f, c0_1f, c0_2f, c0_3f, c0_0, c0_1, c0_2, c0_3, c1_1f, c1_2f, c1_3f, c1_0, c1_1, c1_2, c1_3, ne_c0_c1, ne_c1_c0, rc0, rc0a, rc0b, rc0c, rc0n, rc1, rc1a, rc1b, rc1c, rc1n]; done)) (by first | exact c0_0f | (simp [go_sem, World.cell?_alloc_past, c0_0f, c0_1f, c0_2f, c0_3f, c0_0, c0_1, c0_2, c0_3, c1_1f, c1_2f, c1_3f, c1_0, c1_1, c1_2, c1_3, ne_c0_c1, ne_c1_c0, rc0, rc0a, rc0b, rc0c, rc0n, rc1, rc1a, rc1b, rc1c, rc1n]; done))
  replace c0_1f : w3.frozen? ⟨w.heap.size, 1, none⟩ = false := hx3.froz (by show ¬ _ = _; first | assumption | omega) (v := .int .i64 0) (by first | exact c0_1 | (simp [go_sem, World.cell?_alloc_past, c0_0f, c0_1f, c0_2f, c0_3f, c0_0, c0_1, c0_2, c0_3, c1_1f, c1_2f, c1_3f, c1_0, c1_1, c1_2, c1_3, ne_c0_c1, ne_c1_c0, rc0, rc0a, rc0b, rc0c, rc0n, rc1, rc1a, rc1b, rc1c, rc1n]; done)) (by first | exact c0_1f | (simp [go_sem, World.cell?_alloc_past, c0_0f, c0_1f, c0_2f, c0_3f, c0_0, c0_1, c0_2, c0_3, c1_1f, c1_2f, c1_3f, c1_0, c1_1, c1_2, c1_3, ne_c0_c1, ne_c1_c0, rc0, rc0a, rc0b, rc0c, rc0n, rc1, rc1a, rc1b, rc1c, rc1n]; done))
  replace c0_2f : w3.frozen? ⟨w.heap.size, 2, none⟩ = false := hx3.froz (by show ¬ _ = _; first | assumption | omega) (v := .int .i64 0) (by first | exact c0_2 | (simp [go_sem, World.cell?_alloc_past, c0_0f, c0_1f, c0_2f, c0_3f, c0_0, c0_1, c0_2, c0_3, c1_1f, c1_2f, c1_3f, c1_0, c1_1, c1_2, c1_3, ne_c0_c1, ne_c1_c0, rc0, rc0a, rc0b, rc0c, rc0n, rc1, rc1a, rc1b, rc1c, rc1n]; done)) (by first | exact c0_2f | (simp [go_sem, World.cell?_alloc_past, c0_0f, c0_1f, c0_2f, c0_3f, c0_0, c0_1, c0_2, c0_3, c1_1f, c1_2f, c1_3f, c1_0, c1_1, c1_2, c1_3, ne_c0_c1, ne_c1_c0, rc0, rc0a, rc0b, rc0c, rc0n, rc1, rc1a, rc1b, rc1c, rc1n]; done))
  replace c0_3f : w3.frozen? ⟨w.heap.size, 3, none⟩ = false := hx3.froz (by show ¬ _ = _; first | assumption | omega) (v := .int .i64 0) (by first | exact c0_3 | (simp [go_sem, World.cell?_alloc_past, c0_0f, c0_1f, c0_2f, c0_3f, c0_0, c0_1, c0_2, c0_3, c1_1f, c1_2f, c1_3f, c1_0, c1_1, c1_2, c1_3, ne_c0_c1, ne_c1_c0, rc0, rc0a, rc0b, rc0c, rc0n, rc1, rc1a, rc1b, rc1c, rc1n]; done)) (by first | exact c0_3f | (simp [go_sem, World.cell?_alloc_past, c0_0f, c0_1f, c0_2f, c0_3f, c0_0, c0_1, c0_2, c0_3, c1_1f, c1_2f, c1_3f, c1_0, c1_1, c1_2, c1_3, ne_c0_c1, ne_c1_c0, rc0, rc0a, rc0b, rc0c, rc0n, rc1, rc1a, rc1b, rc1c, rc1n]; done))
  replace c0_0 : w3.cell? ⟨w.heap.size, 0, none⟩ = some (.int .i64 0) := hx3.has (by show ¬ _ = _; first | assumption | omega) (by first | exact c0_0 | (simp [go_sem, World.cell?_alloc_past, c0_0f, c0_1f, c0_2f, c0_3f, c0_0, c0_1, c0_2, c0_3, c1_1f, c1_2f, c1_3f, c1_0, c1_1, c1_2, c1_3, ne_c0_c1, ne_c1_c0, rc0, rc0a, rc0b, rc0c, rc0n, rc1, rc1a, rc1b, rc1c, rc1n]; done))
  replace c0_1 : w3.cell? ⟨w.heap.size, 1, none⟩ = some (.int .i64 0) := hx3.has (by show ¬ _ = _; first | assumption | omega) (by first | exact c0_1 | (simp [go_sem, World.cell?_alloc_past, c0_0f, c0_1f, c0_2f, c0_3f, c0_0, c0_1, c0_2, c0_3, c1_1f, c1_2f, c1_3f, c1_0, c1_1, c1_2, c1_3, ne_c0_c1, ne_c1_c0, rc0, rc0a, rc0b, rc0c, rc0n, rc1, rc1a, rc1b, rc1c, rc1n]; done))
  replace c0_2 : w3.cell? ⟨w.heap.size, 2, none⟩ = some (.int .i64 0) := hx3.has (by show ¬ _ = _; first | assumption | omega) (by first | exact c0_2 | (simp [go_sem, World.cell?_alloc_past, c0_0f, c0_1f, c0_2f, c0_3f, c0_0, c0_1, c0_2, c0_3, c1_1f, c1_2f, c1_3f, c1_0, c1_1, c1_2, c1_3, ne_c0_c1, ne_c1_c0, rc0, rc0a, rc0b, rc0c, rc0n, rc1, rc1a, rc1b, rc1c, rc1n]; done))
  replace c0_3 : w3.cell? ⟨w.heap.size, 3, none⟩ = some (.int .i64 0) := hx3.has (by show ¬ _ = _; first | assumption | omega) (by first | exact c0_3 | (simp [go_sem, World.cell?_alloc_past, c0_0f, c0_1f, c0_2f, c0_3f, c0_0, c0_1, c0_2, c0_3, c1_1f, c1_2f, c1_3f, c1_0, c1_1, c1_2, c1_3, ne_c0_c1, ne_c1_c0, rc0, rc0a, rc0b, rc0c, rc0n, rc1, rc1a, rc1b, rc1c, rc1n]; done))
  replace c1_2f : w3.frozen? ⟨w.heap.size + 1, 2, none⟩ = false := hx3.froz (by show ¬ _ = _; first | assumption | omega) (v := .int .i64 0) (by first | exact c1_2 | (simp [go_sem, World.cell?_alloc_past, c0_0f, c0_1f, c0_2f, c0_3f, c0_0, c0_1, c0_2, c0_3, c1_1f, c1_2f, c1_3f, c1_0, c1_1, c1_2, c1_3, ne_c0_c1, ne_c1_c0, rc0, rc0a, rc0b, rc0c, rc0n, rc1, rc1a, rc1b, rc1c, rc1n]; done)) (by first | exact c1_2f | (simp [go_sem, World.cell?_alloc_past, c0_0f, c0_1f, c0_2f, c0_3f, c0_0, c0_1, c0_2, c0_3, c1_1f, c1_2f, c1_3f, c1_0, c1_1, c1_2, c1_3, ne_c0_c1, ne_c1_c0, rc0, rc0a, rc0b, rc0c, rc0n, rc1, rc1a, rc1b, rc1c, rc1n]; done))
  replace c1_3f : w3.frozen? ⟨w.heap.size + 1, 3, none⟩ = false := hx3.froz (by show ¬ _ = _; first | assumption | omega) (v := .int .i64 0) (by first | exact c1_3 | (simp [go_sem, World.cell?_alloc_past, c0_0f, c0_1f, c0_2f, c0_3f, c0_0, c0_1, c0_2, c0_3, c1_1f, c1_2f, c1_3f, c1_0, c1_1, c1_2, c1_3, ne_c0_c1, ne_c1_c0, rc0, rc0a, rc0b, rc0c, rc0n, rc1, rc1a, rc1b, rc1c, rc1n]; done)) (by first | exact c1_3f | (simp [go_sem, World.cell?_alloc_past, c0_0f, c0_1f, c0_2f, c0_3f, c0_0, c0_1, c0_2, c0_3, c1_1f, c1_2f, c1_3f, c1_0, c1_1, c1_2, c1_3, ne_c0_c1, ne_c1_c0, rc0, rc0a, rc0b, rc0c, rc0n, rc1, rc1a, rc1b, rc1c, rc1n]; done))
  replace c1_0 : w3.cell? ⟨w.heap.size + 1, 0, none⟩ = some (.int .i64 V) := hx3.has (by show ¬ _ = _; first | assumption | omega) (by first | exact c1_0 | (simp [go_sem, World.cell?_alloc_past, c0_0f, c0_1f, c0_2f, c0_3f, c0_0, c0_1, c0_2, c0_3, c1_1f, c1_2f, c1_3f, c1_0, c1_1, c1_2, c1_3, ne_c0_c1, ne_c1_c0, rc0, rc0a, rc0b, rc0c, rc0n, rc1, rc1a, rc1b, rc1c, rc1n]; done))
  replace c1_1 : w3.cell? ⟨w.heap.size + 1, 1, none⟩ = some (.int .i64 S) := hx3.has (by show ¬ _ = _; first | assumption | omega) (by first | exact c1_1 | (simp [go_sem, World.cell?_alloc_past, c0_0f, c0_1f, c0_2f, c0_3f, c0_0, c0_1, c0_2, c0_3, c1_1f, c1_2f, c1_3f, c1_0, c1_1, c1_2, c1_3, ne_c0_c1, ne_c1_c0, rc0, rc0a, rc0b, rc0c, rc0n, rc1, rc1a, rc1b, rc1c, rc1n]; done))
  replace c1_2 : w3.cell? ⟨w.heap.size + 1, 2, none⟩ = some (.int .i64 0) := hx3.has (by show ¬ _ = _; first | assumption | omega) (by first | exact c1_2 | (simp [go_sem, World.cell?_alloc_past, c0_0f, c0_1f, c0_2f, c0_3f, c0_0, c0_1, c0_2, c0_3, c1_1f, c1_2f, c1_3f, c1_0, c1_1, c1_2, c1_3, ne_c0_c1, ne_c1_c0, rc0, rc0a, rc0b, rc0c, rc0n, rc1, rc1a, rc1b, rc1c, rc1n]; done))
  replace c1_3 : w3.cell? ⟨w.heap.size + 1, 3, none⟩ = some (.int .i64 0) := hx3.has (by show ¬ _ = _; first | assumption | omega) (by first | exact c1_3 | (simp [go_sem, World.cell?_alloc_past, c0_0f, c0_1f, c0_2f, c0_3f, c0_0, c0_1, c0_2, c0_3, c1_1f, c1_2f, c1_3f, c1_0, c1_1, c1_2, c1_3, ne_c0_c1, ne_c1_c0, rc0, rc0a, rc0b, rc0c, rc0n, rc1, rc1a, rc1b, rc1c, rc1n]; done))
  have z3 := hx3.size
  try simp at z3
  replace rc0 : w.heap.size < w3.heap.size := by omega
  replace rc0a : w.heap.size < w3.heap.size + 1 := by omega
  replace rc0b : w.heap.size < w3.heap.size + 1 + 1 := by omega
  replace rc0c : w.heap.size < w3.heap.size + 1 + 1 + 1 := by omega
  replace rc0n : ¬ w.heap.size = w3.heap.size := by omega
  replace rc1 : w.heap.size + 1 < w3.heap.size := by omega
  replace rc1a : w.heap.size + 1 < w3.heap.size + 1 := by omega
  replace rc1b : w.heap.size + 1 < w3.heap.size + 1 + 1 := by omega
  replace rc1c : w.heap.size + 1 < w3.heap.size + 1 + 1 + 1 := by omega
  replace rc1n : ¬ w.heap.size + 1 = w3.heap.size := by omega
  have X3 : Hid (But (· = g) w w3) := Lib.hid (But.trans (by repeat (first | with_reducible exact X2.out | with_reducible refine But.drew ?_ | with_reducible refine But.drewN ?_ _ | with_reducible refine But.alloc ?_ _ | with_reducible refine But.setG ?_ _ | with_reducible refine But.setNew ?_ (by first | omega | (simp; done) | (simp; omega)) _)) hx3)
  clear HR
  have HR := Lib.hid hr
  clear c1_1f hsz3 X2 hx3 z3 hr
  go_wp2_with fail
  (with_reducible refine (C4.out _ (by repeat (first | with_reducible exact HR.out | with_reducible refine RRd.set ?_ (by omega) _ | with_reducible refine RRd.ext ?_ (Ext.alloc (Ext.refl _) _) | with_reducible refine RRd.ext ?_ (Ext.drew (Ext.refl _)) | with_reducible refine RRd.drewN ?_ _))).mono ?_)
  rintro e w4 ⟨rfl, hr, hx4⟩
  have hsz4 := hx4.size
  try simp at hsz4
  replace c0_0f : w4.frozen? ⟨w.heap.size, 0, none⟩ = false := hx4.froz (by show ¬ _ = _; first | assumption | omega) (v := .int .i64 0) (by first | exact c0_0 | (simp [go_sem, World.cell?_alloc_past, c0_0f, c0_1f, c0_2f, c0_3f, c0_0, c0_1, c0_2, c0_3, c1_2f, c1_3f, c1_0, c1_1, c1_2, c1_3, ne_c0_c1, ne_c1_c0, rc0, rc0a, rc0b, rc0c, rc0n, rc1, rc1a, rc1b, rc1c, rc1n]; done)) (by first | exact c0_0f | (simp [go_sem, World.cell?_alloc_past, c0_0f, c0_1f, c0_2f, c0_3f, c0_0, c0_1, c0_2, c0_3, c1_2f, c1_3f, c1_0, c1_1, c1_2, c1_3, ne_c0_c1, ne_c1_c0, rc0, rc0a, rc0b, rc0c, rc0n, rc1, rc1a, rc1b, rc1c, rc1n]; done))
  replace c0_1f : w4.frozen? ⟨w.heap.size, 1, none⟩ = false := hx4.froz (by show ¬ _ = _; first | assumption | omega) (v := .int .i64 0) (by first | exact c0_1 | (simp [go_sem, World.cell?_alloc_past, c0_0f, c0_1f, c0_2f, c0_3f, c0_0, c0_1, c0_2, c0_3, c1_2f, c1_3f, c1_0, c1_1, c1_2, c1_3, ne_c0_c1, ne_c1_c0, rc0, rc0a, rc0b, rc0c, rc0n, rc1, rc1a, rc1b, rc1c, rc1n]; done)) (by first | exact c0_1f | (simp [go_sem, World.cell?_alloc_past, c0_0f, c0_1f, c0_2f, c0_3f, c0_0, c0_1, c0_2, c0_3, c1_2f, c1_3f, c1_0, c1_1, c1_2, c1_3, ne_c0_c1, ne_c1_c0, rc0, rc0a, rc0b, rc0c, rc0n, rc1, rc1a, rc1b, rc1c, rc1n]; done))
  replace c0_2f : w4.frozen? ⟨w.heap.size, 2, none⟩ = false := hx4.froz (by show ¬ _ = _; first | assumption | omega) (v := .int .i64 0) (by first | exact c0_2 | (simp [go_sem, World.cell?_alloc_past, c0_0f, c0_1f, c0_2f, c0_3f, c0_0, c0_1, c0_2, c0_3, c1_2f, c1_3f, c1_0, c1_1, c1_2, c1_3, ne_c0_c1, ne_c1_c0, rc0, rc0a, rc0b, rc0c, rc0n, rc1, rc1a, rc1b, rc1c, rc1n]; done)) (by first | exact c0_2f | (simp [go_sem, World.cell?_alloc_past, c0_0f, c0_1f, c0_2f, c0_3f, c0_0, c0_1, c0_2, c0_3, c1_2f, c1_3f, c1_0, c1_1, c1_2, c1_3, ne_c0_c1, ne_c1_c0, rc0, rc0a, rc0b, rc0c, rc0n, rc1, rc1a, rc1b, rc1c, rc1n]; done))
  replace c0_3f : w4.frozen? ⟨w.heap.size, 3, none⟩ = false := hx4.froz (by show ¬ _ = _; first | assumption | omega) (v := .int .i64 0) (by first | exact c0_3 | (simp [go_sem, World.cell?_alloc_past, c0_0f, c0_1f, c0_2f, c0_3f, c0_0, c0_1, c0_2, c0_3, c1_2f, c1_3f, c1_0, c1_1, c1_2, c1_3, ne_c0_c1, ne_c1_c0, rc0, rc0a, rc0b, rc0c, rc0n, rc1, rc1a, rc1b, rc1c, rc1n]; done)) (by first | exact c0_3f | (simp [go_sem, World.cell?_alloc_past, c0_0f, c0_1f, c0_2f, c0_3f, c0_0, c0_1, c0_2, c0_3, c1_2f, c1_3f, c1_0, c1_1, c1_2, c1_3, ne_c0_c1, ne_c1_c0, rc0, rc0a, rc0b, rc0c, rc0n, rc1, rc1a, rc1b, rc1c, rc1n]; done))
  replace c0_0 : w4.cell? ⟨w.heap.size, 0, none⟩ = some (.int .i64 0) := hx4.has (by show ¬ _ = _; first | assumption | omega) (by first | exact c0_0 | (simp [go_sem, World.cell?_alloc_past, c0_0f, c0_1f, c0_2f, c0_3f, c0_0, c0_1, c0_2, c0_3, c1_2f, c1_3f, c1_0, c1_1, c1_2, c1_3, ne_c0_c1, ne_c1_c0, rc0, rc0a, rc0b, rc0c, rc0n, rc1, rc1a, rc1b, rc1c, rc1n]; done))
  replace c0_1 : w4.cell? ⟨w.heap.size, 1, none⟩ = some (.int .i64 0) := hx4.has (by show ¬ _ = _; first | assumption | omega) (by first | exact c0_1 | (simp [go_sem, World.cell?_alloc_past, c0_0f, c0_1f, c0_2f, c0_3f, c0_0, c0_1, c0_2, c0_3, c1_2f, c1_3f, c1_0, c1_1, c1_2, c1_3, ne_c0_c1, ne_c1_c0, rc0, rc0a, rc0b, rc0c, rc0n, rc1, rc1a, rc1b, rc1c, rc1n]; done))
  replace c0_2 : w4.cell? ⟨w.heap.size, 2, none⟩ = some (.int .i64 0) := hx4.has (by show ¬ _ = _; first | assumption | omega) (by first | exact c0_2 | (simp [go_sem, World.cell?_alloc_past, c0_0f, c0_1f, c0_2f, c0_3f, c0_0, c0_1, c0_2, c0_3, c1_2f, c1_3f, c1_0, c1_1, c1_2, c1_3, ne_c0_c1, ne_c1_c0, rc0, rc0a, rc0b, rc0c, rc0n, rc1, rc1a, rc1b, rc1c, rc1n]; done))
  replace c0_3 : w4.cell? ⟨w.heap.size, 3, none⟩ = some (.int .i64 0) := hx4.has (by show ¬ _ = _; first | assumption | omega) (by first | exact c0_3 | (simp [go_sem, World.cell?_alloc_past, c0_0f, c0_1f, c0_2f, c0_3f, c0_0, c0_1, c0_2, c0_3, c1_2f, c1_3f, c1_0, c1_1, c1_2, c1_3, ne_c0_c1, ne_c1_c0, rc0, rc0a, rc0b, rc0c, rc0n, rc1, rc1a, rc1b, rc1c, rc1n]; done))
  replace c1_3f : w4.frozen? ⟨w.heap.size + 1, 3, none⟩ = false := hx4.froz (by show ¬ _ = _; first | assumption | omega) (v := .int .i64 0) (by first | exact c1_3 | (simp [go_sem, World.cell?_alloc_past, c0_0f, c0_1f, c0_2f, c0_3f, c0_0, c0_1, c0_2, c0_3, c1_2f, c1_3f, c1_0, c1_1, c1_2, c1_3, ne_c0_c1, ne_c1_c0, rc0, rc0a, rc0b, rc0c, rc0n, rc1, rc1a, rc1b, rc1c, rc1n]; done)) (by first | exact c1_3f | (simp [go_sem, World.cell?_alloc_past, c0_0f, c0_1f, c0_2f, c0_3f, c0_0, c0_1, c0_2, c0_3, c1_2f, c1_3f, c1_0, c1_1, c1_2, c1_3, ne_c0_c1, ne_c1_c0, rc0, rc0a, rc0b, rc0c, rc0n, rc1, rc1a, rc1b, rc1c, rc1n]; done))
  replace c1_0 : w4.cell? ⟨w.heap.size + 1, 0, none⟩ = some (.int .i64 V) := hx4.has (by show ¬ _ = _; first | assumption | omega) (by first | exact c1_0 | (simp [go_sem, World.cell?_alloc_past, c0_0f, c0_1f, c0_2f, c0_3f, c0_0, c0_1, c0_2, c0_3, c1_2f, c1_3f, c1_0, c1_1, c1_2, c1_3, ne_c0_c1, ne_c1_c0, rc0, rc0a, rc0b, rc0c, rc0n, rc1, rc1a, rc1b, rc1c, rc1n]; done))
  replace c1_1 : w4.cell? ⟨w.heap.size + 1, 1, none⟩ = some (.int .i64 S) := hx4.has (by show ¬ _ = _; first | assumption | omega) (by first | exact c1_1 | (simp [go_sem, World.cell?_alloc_past, c0_0f, c0_1f, c0_2f, c0_3f, c0_0, c0_1, c0_2, c0_3, c1_2f, c1_3f, c1_0, c1_1, c1_2, c1_3, ne_c0_c1, ne_c1_c0, rc0, rc0a, rc0b, rc0c, rc0n, rc1, rc1a, rc1b, rc1c, rc1n]; done))
  replace c1_2 : w4.cell? ⟨w.heap.size + 1, 2, none⟩ = some (.int .i64 (Q - 1)) := hx4.has (by show ¬ _ = _; first | assumption | omega) (by first | exact c1_2 | (simp [go_sem, World.cell?_alloc_past, c0_0f, c0_1f, c0_2f, c0_3f, c0_0, c0_1, c0_2, c0_3, c1_2f, c1_3f, c1_0, c1_1, c1_2, c1_3, ne_c0_c1, ne_c1_c0, rc0, rc0a, rc0b, rc0c, rc0n, rc1, rc1a, rc1b, rc1c, rc1n]; done))
  replace c1_3 : w4.cell? ⟨w.heap.size + 1, 3, none⟩ = some (.int .i64 0) := hx4.has (by show ¬ _ = _; first | assumption | omega) (by first | exact c1_3 | (simp [go_sem, World.cell?_alloc_past, c0_0f, c0_1f, c0_2f, c0_3f, c0_0, c0_1, c0_2, c0_3, c1_2f, c1_3f, c1_0, c1_1, c1_2, c1_3, ne_c0_c1, ne_c1_c0, rc0, rc0a, rc0b, rc0c, rc0n, rc1, rc1a, rc1b, rc1c, rc1n]; done))
  have z4 := hx4.size
  try simp at z4
  replace rc0 : w.heap.size < w4.heap.size := by omega
  replace rc0a : w.heap.size < w4.heap.size + 1 := by omega
  replace rc0b : w.heap.size < w4.heap.size + 1 + 1 := by omega
  replace rc0c : w.heap.size < w4.heap.size + 1 + 1 + 1 := by omega
  replace rc0n : ¬ w.heap.size = w4.heap.size := by omega
  replace rc1 : w.heap.size + 1 < w4.heap.size := by omega
  replace rc1a : w.heap.size + 1 < w4.heap.size + 1 := by omega
  replace rc1b : w.heap.size + 1 < w4.heap.size + 1 + 1 := by omega
  replace rc1c : w.heap.size + 1 < w4.heap.size + 1 + 1 + 1 := by omega
  replace rc1n : ¬ w.heap.size + 1 = w4.heap.size := by omega
  have X4 : Hid (But (· = g) w w4) := Lib.hid (But.trans (by repeat (first | with_reducible exact X3.out | with_reducible refine But.drew ?_ | with_reducible refine But.drewN ?_ _ | with_reducible refine But.alloc ?_ _ | with_reducible refine But.setG ?_ _ | with_reducible refine But.setNew ?_ (by first | omega | (simp; done) | (simp; omega)) _)) hx4)
  clear HR
  have HR := Lib.hid hr
  clear c1_2f hsz4 X3 hx4 z4 hr
  have g_2 := HR.out.c2
  change _ = some (Value.int .i64 0) at g_2
  go_wp2_with fail
  (with_reducible refine (CK.out _).mono ?_)
  rintro e w5 ⟨rfl, hx5⟩
  replace c0_0f : w5.frozen? ⟨w.heap.size, 0, none⟩ = false := hx5.froz (v := .int .i64 0) (by first | exact c0_0 | (simp [go_sem, World.cell?_alloc_past, c0_0f, c0_1f, c0_2f, c0_3f, c0_0, c0_1, c0_2, c0_3, c1_3f, c1_0, c1_1, c1_2, c1_3, ne_c0_c1, ne_c1_c0, rc0, rc0a, rc0b, rc0c, rc0n, rc1, rc1a, rc1b, rc1c, rc1n]; done)) (by first | exact c0_0f | (simp [go_sem, World.cell?_alloc_past, c0_0f, c0_1f, c0_2f, c0_3f, c0_0, c0_1, c0_2, c0_3, c1_3f, c1_0, c1_1, c1_2, c1_3, ne_c0_c1, ne_c1_c0, rc0, rc0a, rc0b, rc0c, rc0n, rc1, rc1a, rc1b, rc1c, rc1n]; done))
  replace c0_1f : w5.frozen? ⟨w.heap.size, 1, none⟩ = false := hx5.froz (v := .int .i64 0) (by first | exact c0_1 | (simp [go_sem, World.cell?_alloc_past, c0_0f, c0_1f, c0_2f, c0_3f, c0_0, c0_1, c0_2, c0_3, c1_3f, c1_0, c1_1, c1_2, c1_3, ne_c0_c1, ne_c1_c0, rc0, rc0a, rc0b, rc0c, rc0n, rc1, rc1a, rc1b, rc1c, rc1n]; done)) (by first | exact c0_1f | (simp [go_sem, World.cell?_alloc_past, c0_0f, c0_1f, c0_2f, c0_3f, c0_0, c0_1, c0_2, c0_3, c1_3f, c1_0, c1_1, c1_2, c1_3, ne_c0_c1, ne_c1_c0, rc0, rc0a, rc0b, rc0c, rc0n, rc1, rc1a, rc1b, rc1c, rc1n]; done))
  replace c0_2f : w5.frozen? ⟨w.heap.size, 2, none⟩ = false := hx5.froz (v := .int .i64 0) (by first | exact c0_2 | (simp [go_sem, World.cell?_alloc_past, c0_0f, c0_1f, c0_2f, c0_3f, c0_0, c0_1, c0_2, c0_3, c1_3f, c1_0, c1_1, c1_2, c1_3, ne_c0_c1, ne_c1_c0, rc0, rc0a, rc0b, rc0c, rc0n, rc1, rc1a, rc1b, rc1c, rc1n]; done)) (by first | exact c0_2f | (simp [go_sem, World.cell?_alloc_past, c0_0f, c0_1f, c0_2f, c0_3f, c0_0, c0_1, c0_2, c0_3, c1_3f, c1_0, c1_1, c1_2, c1_3, ne_c0_c1, ne_c1_c0, rc0, rc0a, rc0b, rc0c, rc0n, rc1, rc1a, rc1b, rc1c, rc1n]; done))
  replace c0_3f : w5.frozen? ⟨w.heap.size, 3, none⟩ = false := hx5.froz (v := .int .i64 0) (by first | exact c0_3 | (simp [go_sem, World.cell?_alloc_past, c0_0f, c0_1f, c0_2f, c0_3f, c0_0, c0_1, c0_2, c0_3, c1_3f, c1_0, c1_1, c1_2, c1_3, ne_c0_c1, ne_c1_c0, rc0, rc0a, rc0b, rc0c, rc0n, rc1, rc1a, rc1b, rc1c, rc1n]; done)) (by first | exact c0_3f | (simp [go_sem, World.cell?_alloc_past, c0_0f, c0_1f, c0_2f, c0_3f, c0_0, c0_1, c0_2, c0_3, c1_3f, c1_0, c1_1, c1_2, c1_3, ne_c0_c1, ne_c1_c0, rc0, rc0a, rc0b, rc0c, rc0n, rc1, rc1a, rc1b, rc1c, rc1n]; done))
  replace c0_0 : w5.cell? ⟨w.heap.size, 0, none⟩ = some (.int .i64 0) := hx5.has (by first | exact c0_0 | (simp [go_sem, World.cell?_alloc_past, c0_0f, c0_1f, c0_2f, c0_3f, c0_0, c0_1, c0_2, c0_3, c1_3f, c1_0, c1_1, c1_2, c1_3, ne_c0_c1, ne_c1_c0, rc0, rc0a, rc0b, rc0c, rc0n, rc1, rc1a, rc1b, rc1c, rc1n]; done))
  replace c0_1 : w5.cell? ⟨w.heap.size, 1, none⟩ = some (.int .i64 0) := hx5.has (by first | exact c0_1 | (simp [go_sem, World.cell?_alloc_past, c0_0f, c0_1f, c0_2f, c0_3f, c0_0, c0_1, c0_2, c0_3, c1_3f, c1_0, c1_1, c1_2, c1_3, ne_c0_c1, ne_c1_c0, rc0, rc0a, rc0b, rc0c, rc0n, rc1, rc1a, rc1b, rc1c, rc1n]; done))
  replace c0_2 : w5.cell? ⟨w.heap.size, 2, none⟩ = some (.int .i64 0) := hx5.has (by first | exact c0_2 | (simp [go_sem, World.cell?_alloc_past, c0_0f, c0_1f, c0_2f, c0_3f, c0_0, c0_1, c0_2, c0_3, c1_3f, c1_0, c1_1, c1_2, c1_3, ne_c0_c1, ne_c1_c0, rc0, rc0a, rc0b, rc0c, rc0n, rc1, rc1a, rc1b, rc1c, rc1n]; done))
  replace c0_3 : w5.cell? ⟨w.heap.size, 3, none⟩ = some (.int .i64 0) := hx5.has (by first | exact c0_3 | (simp [go_sem, World.cell?_alloc_past, c0_0f, c0_1f, c0_2f, c0_3f, c0_0, c0_1, c0_2, c0_3, c1_3f, c1_0, c1_1, c1_2, c1_3, ne_c0_c1, ne_c1_c0, rc0, rc0a, rc0b, rc0c, rc0n, rc1, rc1a, rc1b, rc1c, rc1n]; done))
  have z5 := hx5.size
  try simp at z5
  replace rc0 : w.heap.size < w5.heap.size := by omega
  replace rc0a : w.heap.size < w5.heap.size + 1 := by omega
  replace rc0b : w.heap.size < w5.heap.size + 1 + 1 := by omega
  replace rc0c : w.heap.size < w5.heap.size + 1 + 1 + 1 := by omega
  replace rc0n : ¬ w.heap.size = w5.heap.size := by omega
  have X5 : Hid (But (· = g) w w5) := Lib.hid (But.trans (by repeat (first | with_reducible exact X4.out | with_reducible refine But.drew ?_ | with_reducible refine But.drewN ?_ _ | with_reducible refine But.alloc ?_ _ | with_reducible refine But.setG ?_ _ | with_reducible refine But.setNew ?_ (by first | omega | (simp; done) | (simp; omega)) _)) (But.ofExt hx5))
  replace HR := Lib.hid (RRd.ext (g := g) (k := k4) (L := L) (flt := none) (by repeat (first | with_reducible exact HR.out | with_reducible refine RRd.set ?_ (by omega) _ | with_reducible refine RRd.ext ?_ (Ext.alloc (Ext.refl _) _) | with_reducible refine RRd.ext ?_ (Ext.drew (Ext.refl _)) | with_reducible refine RRd.drewN ?_ _)) hx5)
  clear c1_0 c1_3 c1_1 c1_3f c1_2 rc1 rc1a rc1b rc1c rc1n X4 hx5 z5
  go_wp2_with fail
  (with_reducible refine ((rFail_any g k4 L none E at_ _ (by repeat (first | with_reducible exact HR.out | with_reducible refine RRd.set ?_ (by omega) _ | with_reducible refine RRd.ext ?_ (Ext.alloc (Ext.refl _) _) | with_reducible refine RRd.ext ?_ (Ext.drew (Ext.refl _)) | with_reducible refine RRd.drewN ?_ _)))).mono ?_)
  rintro e w6 ⟨⟨v, rfl⟩, hr, hx6⟩
  have hsz6 := hx6.size
  try simp at hsz6
  replace c0_0f : w6.frozen? ⟨w.heap.size, 0, none⟩ = false := hx6.froz (by show ¬ _ = _; first | assumption | omega) (v := .int .i64 0) (by first | exact c0_0 | (simp [go_sem, World.cell?_alloc_past, c0_0f, c0_1f, c0_2f, c0_3f, c0_0, c0_1, c0_2, c0_3, rc0, rc0a, rc0b, rc0c, rc0n]; done)) (by first | exact c0_0f | (simp [go_sem, World.cell?_alloc_past, c0_0f, c0_1f, c0_2f, c0_3f, c0_0, c0_1, c0_2, c0_3, rc0, rc0a, rc0b, rc0c, rc0n]; done))
  replace c0_1f : w6.frozen? ⟨w.heap.size, 1, none⟩ = false := hx6.froz (by show ¬ _ = _; first | assumption | omega) (v := .int .i64 0) (by first | exact c0_1 | (simp [go_sem, World.cell?_alloc_past, c0_0f, c0_1f, c0_2f, c0_3f, c0_0, c0_1, c0_2, c0_3, rc0, rc0a, rc0b, rc0c, rc0n]; done)) (by first | exact c0_1f | (simp [go_sem, World.cell?_alloc_past, c0_0f, c0_1f, c0_2f, c0_3f, c0_0, c0_1, c0_2, c0_3, rc0, rc0a, rc0b, rc0c, rc0n]; done))
  replace c0_2f : w6.frozen? ⟨w.heap.size, 2, none⟩ = false := hx6.froz (by show ¬ _ = _; first | assumption | omega) (v := .int .i64 0) (by first | exact c0_2 | (simp [go_sem, World.cell?_alloc_past, c0_0f, c0_1f, c0_2f, c0_3f, c0_0, c0_1, c0_2, c0_3, rc0, rc0a, rc0b, rc0c, rc0n]; done)) (by first | exact c0_2f | (simp [go_sem, World.cell?_alloc_past, c0_0f, c0_1f, c0_2f, c0_3f, c0_0, c0_1, c0_2, c0_3, rc0, rc0a, rc0b, rc0c, rc0n]; done))
  replace c0_3f : w6.frozen? ⟨w.heap.size, 3, none⟩ = false := hx6.froz (by show ¬ _ = _; first | assumption | omega) (v := .int .i64 0) (by first | exact c0_3 | (simp [go_sem, World.cell?_alloc_past, c0_0f, c0_1f, c0_2f, c0_3f, c0_0, c0_1, c0_2, c0_3, rc0, rc0a, rc0b, rc0c, rc0n]; done)) (by first | exact c0_3f | (simp [go_sem, World.cell?_alloc_past, c0_0f, c0_1f, c0_2f, c0_3f, c0_0, c0_1, c0_2, c0_3, rc0, rc0a, rc0b, rc0c, rc0n]; done))
  replace c0_0 : w6.cell? ⟨w.heap.size, 0, none⟩ = some (.int .i64 0) := hx6.has (by show ¬ _ = _; first | assumption | omega) (by first | exact c0_0 | (simp [go_sem, World.cell?_alloc_past, c0_0f, c0_1f, c0_2f, c0_3f, c0_0, c0_1, c0_2, c0_3, rc0, rc0a, rc0b, rc0c, rc0n]; done))
  replace c0_1 : w6.cell? ⟨w.heap.size, 1, none⟩ = some (.int .i64 0) := hx6.has (by show ¬ _ = _; first | assumption | omega) (by first | exact c0_1 | (simp [go_sem, World.cell?_alloc_past, c0_0f, c0_1f, c0_2f, c0_3f, c0_0, c0_1, c0_2, c0_3, rc0, rc0a, rc0b, rc0c, rc0n]; done))
  replace c0_2 : w6.cell? ⟨w.heap.size, 2, none⟩ = some (.int .i64 0) := hx6.has (by show ¬ _ = _; first | assumption | omega) (by first | exact c0_2 | (simp [go_sem, World.cell?_alloc_past, c0_0f, c0_1f, c0_2f, c0_3f, c0_0, c0_1, c0_2, c0_3, rc0, rc0a, rc0b, rc0c, rc0n]; done))
  replace c0_3 : w6.cell? ⟨w.heap.size, 3, none⟩ = some (.int .i64 0) := hx6.has (by show ¬ _ = _; first | assumption | omega) (by first | exact c0_3 | (simp [go_sem, World.cell?_alloc_past, c0_0f, c0_1f, c0_2f, c0_3f, c0_0, c0_1, c0_2, c0_3, rc0, rc0a, rc0b, rc0c, rc0n]; done))
  have z6 := hx6.size
  try simp at z6
  replace rc0 : w.heap.size < w6.heap.size := by omega
  replace rc0a : w.heap.size < w6.heap.size + 1 := by omega
  replace rc0b : w.heap.size < w6.heap.size + 1 + 1 := by omega
  replace rc0c : w.heap.size < w6.heap.size + 1 + 1 + 1 := by omega
  replace rc0n : ¬ w.heap.size = w6.heap.size := by omega
  have X6 : Hid (But (· = g) w w6) := Lib.hid (But.trans (by repeat (first | with_reducible exact X5.out | with_reducible refine But.drew ?_ | with_reducible refine But.drewN ?_ _ | with_reducible refine But.alloc ?_ _ | with_reducible refine But.setG ?_ _ | with_reducible refine But.setNew ?_ (by first | omega | (simp; done) | (simp; omega)) _)) hx6)
  clear HR
  have HR := Lib.hid hr
  clear hsz6 X5 hx6 z6 hr
  clear g_2
  have hff : failF none E at_ = some (E, at_) := by unfold failF; simp [hE.out]
  rw [hff] at HR
  have g_2 := HR.out.c2
  change _ = some (Value.int .i64 E) at g_2
  have hz : (E == 0) = false := beq_false_of_ne hE.out
  have hz2 : (E != 0) = true := by simpa using hE.out
  go_wp2_with fail
  refine bodyPost_ret (v := .agg #[.int .i64 0, .int .i64 0, .int .i64 0, .int .i64 0]) (by simp [results, Try.results24, go_sem, World.cell?_alloc_past, c0_0f, c0_1f, c0_2f, c0_3f, c0_0, c0_1, c0_2, c0_3, rc0, rc0a, rc0b, rc0c, rc0n]; try rfl) rfl ⟨rfl, ?_, (by repeat (first | with_reducible exact X6.out | with_reducible refine But.drew ?_ | with_reducible refine But.drewN ?_ _ | with_reducible refine But.alloc ?_ _ | with_reducible refine But.setG ?_ _ | with_reducible refine But.setNew ?_ (by first | omega | (simp; done) | (simp; omega)) _))⟩
  have hr := HR.out
  repeat (first | with_reducible exact hr | with_reducible refine RRd.set ?_ (by omega) _ | (with_reducible refine RRd.ext ?_ (Ext.alloc (Ext.refl _) _)))
theorem fltB_some {x : Int × Int} {k n : Nat} (h : ¬ x.1 = 0) : fltB (some x) k n = true := by
  unfold fltB leftF endF
  simp [h]
theorem fltB_none {k n : Nat} : fltB none k n = false := by
  unfold fltB leftF endF
  simp only
  by_cases h : k < n
  · rw [if_pos h]; simp; omega
  · rw [if_neg h]; simp
theorem rTake12_any (g k : Nat) (L : List Nat) (f : Option (Int × Int)) (hL : L.length < 1099511627776) (w : World) (h : RRd w g L k f) :
    Calls Try.prog 24 #[.pointer (some ⟨g, 0, none⟩)] w fun r w' => r = .returned (.agg #[.int .i64 (if tkZ L (k, f) = true then 0 else tkA L (k, f)), .int .i64 (if tkZ L (k, f) = true then 0 else tkB L (k, f)), .int .i64 (if tkZ L (k, f) = true then 0 else tkC L (k, f) - 1), .int .i64 (if tkZ L (k, f) = true then 0 else tkD L (k, f))]) ∧
      RRd w' g L (tk4 L (k, f)).1 (tkF L (k, f)) ∧ But (· = g) w w' := by
  have hq := rnV_bound L (tk2 L (k, f)).1 (tk2 L (k, f)).2 0 32 (by decide)
  have CA := Lib.hid fun w h => rAt_any g k L f w h
  have C1 := Lib.hid fun w h => rN_any g k L f 0 31 (by decide) (by decide) (by decide) (by decide) hL w h
  have C2 := Lib.hid fun w h => rN_any g (tk1 L (k, f)).1 L (tk1 L (k, f)).2 1 4294967296 (by decide) (by decide) (by decide) (by decide) hL w h
  have C3 := Lib.hid fun w h => rN_any g (tk2 L (k, f)).1 L (tk2 L (k, f)).2 0 32 (by decide) (by decide) (by decide) (by decide) hL w h
  have C4 := fun w h => rN_any g (tk3 L (k, f)).1 L (tk3 L (k, f)).2 0 4294967296 (by decide) (by decide) (by decide) (by decide) hL w h
  change ∀ w h, Calls _ _ _ _ (fun r w' => _ ∧ RRd w' g L (tk4 L (k, f)).1 (tk4 L (k, f)).2 ∧ _) at C4
  have z4 : FltNz (tk4 L (k, f)).2 := (((h.nz.rn L _ _ _).rn L _ _ _).rn L _ _ _).rn L _ _ _
  have CK := fun w => rCheck12_any (tkA L (k, f)) (tkB L (k, f)) (tkC L (k, f) - 1) (tkD L (k, f)) w
  unfold tkZ tkF
  cases hf : (tk4 L (k, f)).2 with
  | some x =>
    rw [hf] at C4
    have hx := z4 x hf
    rw [fltB_some hx]
    simp only [if_true]
    rw [fltB_some hx]
    simp only [if_true]
    exact rTake12_some g k (tk1 L (k, f)).1 (tk2 L (k, f)).1 (tk3 L (k, f)).1 (tk4 L (k, f)).1 L f (tk1 L (k, f)).2 (tk2 L (k, f)).2 (tk3 L (k, f)).2 (atF f k) _ _ _ _ x hq.1 hq.2 CA C1 C2 C3 (Lib.hid C4) w h
  | none =>
    rw [hf] at C4
    rw [fltB_none]
    simp only [Bool.false_eq_true, if_false]
    by_cases he : chkS (tkA L (k, f)) (tkB L (k, f)) (tkC L (k, f) - 1) (tkD L (k, f)) = 0
    · rw [he] at CK ⊢
      rw [failF_ok, fltB_none]
      simp only [Bool.false_eq_true, if_false]
      exact rTake12_ok g k (tk1 L (k, f)).1 (tk2 L (k, f)).1 (tk3 L (k, f)).1 (tk4 L (k, f)).1 L f (tk1 L (k, f)).2 (tk2 L (k, f)).2 (tk3 L (k, f)).2 (atF f k) _ _ _ _ hq.1 hq.2 CA C1 C2 C3 (Lib.hid C4) (Lib.hid CK) w h
    · generalize chkS (tkA L (k, f)) (tkB L (k, f)) (tkC L (k, f) - 1) (tkD L (k, f)) = E at *
      have e1 : failF none E (atF f k) = some (E, atF f k) := by unfold failF; simp [he]
      rw [e1, fltB_some he]
      simp only [if_true]
      exact rTake12_bad g k (tk1 L (k, f)).1 (tk2 L (k, f)).1 (tk3 L (k, f)).1 (tk4 L (k, f)).1 L f (tk1 L (k, f)).2 (tk2 L (k, f)).2 (tk3 L (k, f)).2 (atF f k) _ _ _ _ E (Lib.hid he) hq.1 hq.2 CA C1 C2 C3 (Lib.hid C4) (Lib.hid CK) w h
set_option maxRecDepth 100000 in
set_option maxHeartbeats 4000000 in
theorem rRead12_ok (A : Option Addr) (c n k : Nat) (L : List Nat) (V S P F : Int) (f : Option (Int × Int)) (w : World) (hs : Sl w 1 A n c (by_ L))
    (CN : Hid (∀ w, Sl w 1 A n c (by_ L) → Calls Try.prog 22 #[.slice A n c] w fun r w' => ∃ g, r = .returned (.pointer (some ⟨g, 0, none⟩)) ∧ w.heap.size ≤ g ∧ RRd w' g L 0 none ∧ Ext w w'))
    (CT : Hid (∀ g w, RRd w g L 0 none → Calls Try.prog 24 #[.pointer (some ⟨g, 0, none⟩)] w fun r w' => r = .returned (.agg #[.int .i64 V, .int .i64 S, .int .i64 P, .int .i64 F]) ∧ RRd w' g L k f ∧ But (· = g) w w'))
    (CE : Hid (∀ g w, RRd w g L k f → Calls Try.prog 30 #[.pointer (some ⟨g, 0, none⟩)] w fun r w' => r = .returned (.agg #[.int .i64 0, .int .i64 0]) ∧ Ext w w')) :
    Calls Try.prog 36 #[.slice A n c] w fun r w' => r = .returned (.tuple #[.agg #[.int .i64 V, .int .i64 S, .int .i64 P, .int .i64 F], .agg #[.int .i64 0, .int .i64 0]]) ∧ Ext w w' := by
  have HS := Lib.hid hs
  clear hs
  go_enter Try.func36, Try.ntmps36
  go_wp2_with fail
  (with_reducible refine (CN.out _ (HS.out.ext (by repeat (first | with_reducible exact Ext.refl _ | with_reducible refine Ext.drew ?_ | with_reducible refine Ext.drewN ?_ _ | with_reducible refine Ext.alloc ?_ _ | with_reducible refine Ext.setCell ?_ (by first | omega | (simp; done) | (simp; omega)) _)))).mono ?_)
  rintro e w1 ⟨g, rfl, hg, hr, hx1⟩
  have c0_0f : w1.frozen? ⟨w.heap.size, 0, none⟩ = false := hx1.froz (v := .int .i64 0) (by first | fail | (simp [go_sem, World.cell?_alloc_past]; done)) (by first | fail | (simp [go_sem, World.cell?_alloc_past]; done))
  have c0_1f : w1.frozen? ⟨w.heap.size, 1, none⟩ = false := hx1.froz (v := .int .i64 0) (by first | fail | (simp [go_sem, World.cell?_alloc_past]; done)) (by first | fail | (simp [go_sem, World.cell?_alloc_past]; done))
  have c0_2f : w1.frozen? ⟨w.heap.size, 2, none⟩ = false := hx1.froz (v := .int .i64 0) (by first | fail | (simp [go_sem, World.cell?_alloc_past]; done)) (by first | fail | (simp [go_sem, World.cell?_alloc_past]; done))
  have c0_3f : w1.frozen? ⟨w.heap.size, 3, none⟩ = false := hx1.froz (v := .int .i64 0) (by first | fail | (simp [go_sem, World.cell?_alloc_past]; done)) (by first | fail | (simp [go_sem, World.cell?_alloc_past]; done))
  have c0_0 : w1.cell? ⟨w.heap.size, 0, none⟩ = some (.int .i64 0) := hx1.has (by first | fail | (simp [go_sem, World.cell?_alloc_past]; done))
  have c0_1 : w1.cell? ⟨w.heap.size, 1, none⟩ = some (.int .i64 0) := hx1.has (by first | fail | (simp [go_sem, World.cell?_alloc_past]; done))
  have c0_2 : w1.cell? ⟨w.heap.size, 2, none⟩ = some (.int .i64 0) := hx1.has (by first | fail | (simp [go_sem, World.cell?_alloc_past]; done))
  have c0_3 : w1.cell? ⟨w.heap.size, 3, none⟩ = some (.int .i64 0) := hx1.has (by first | fail | (simp [go_sem, World.cell?_alloc_past]; done))
  have c1_0f : w1.frozen? ⟨w.heap.size + 1, 0, none⟩ = false := hx1.froz (v := .int .i64 0) (by first | fail | (simp [go_sem, World.cell?_alloc_past]; done)) (by first | fail | (simp [go_sem, World.cell?_alloc_past]; done))
  have c1_1f : w1.frozen? ⟨w.heap.size + 1, 1, none⟩ = false := hx1.froz (v := .int .i64 0) (by first | fail | (simp [go_sem, World.cell?_alloc_past]; done)) (by first | fail | (simp [go_sem, World.cell?_alloc_past]; done))
  have c1_0 : w1.cell? ⟨w.heap.size + 1, 0, none⟩ = some (.int .i64 0) := hx1.has (by first | fail | (simp [go_sem, World.cell?_alloc_past]; done))
  have c1_1 : w1.cell? ⟨w.heap.size + 1, 1, none⟩ = some (.int .i64 0) := hx1.has (by first | fail | (simp [go_sem, World.cell?_alloc_past]; done))
  have z1 := hx1.size
  try simp at z1
  have lt_c0_c1 : w.heap.size < w.heap.size + 1 := by omega
  have ne_c0_c1 : ¬ w.heap.size = w.heap.size + 1 := by omega
  have ne_c1_c0 : ¬ w.heap.size + 1 = w.heap.size := by omega
  have rc0 : w.heap.size < w1.heap.size := by omega
  have rc0a : w.heap.size < w1.heap.size + 1 := by omega
  have rc0b : w.heap.size < w1.heap.size + 1 + 1 := by omega
  have rc0c : w.heap.size < w1.heap.size + 1 + 1 + 1 := by omega
  have rc0n : ¬ w.heap.size = w1.heap.size := by omega
  have rc1 : w.heap.size + 1 < w1.heap.size := by omega
  have rc1a : w.heap.size + 1 < w1.heap.size + 1 := by omega
  have rc1b : w.heap.size + 1 < w1.heap.size + 1 + 1 := by omega
  have rc1c : w.heap.size + 1 < w1.heap.size + 1 + 1 + 1 := by omega
  have rc1n : ¬ w.heap.size + 1 = w1.heap.size := by omega
  have X1 : Hid (Ext w w1) := Lib.hid (Ext.trans (by repeat (first | with_reducible exact Ext.refl w | with_reducible refine Ext.drew ?_ | with_reducible refine Ext.drewN ?_ _ | with_reducible refine Ext.alloc ?_ _ | with_reducible refine Ext.setCell ?_ (by first | omega | (simp; done) | (simp; omega)) _)) hx1)
  have HR := Lib.hid hr
  clear HS hx1 z1 hr
  simp at hg
  go_wp2_with fail
  (with_reducible refine (CT.out _ _ (by repeat (first | with_reducible exact HR.out | with_reducible refine RRd.set ?_ (by omega) _ | with_reducible refine RRd.ext ?_ (Ext.alloc (Ext.refl _) _) | with_reducible refine RRd.ext ?_ (Ext.drew (Ext.refl _)) | with_reducible refine RRd.drewN ?_ _))).mono ?_)
  rintro e w2 ⟨rfl, hr, hx2⟩
  have hsz2 := hx2.size
  try simp at hsz2
  replace c0_0f : w2.frozen? ⟨w.heap.size, 0, none⟩ = false := hx2.froz (by show ¬ _ = _; first | assumption | omega) (v := .int .i64 0) (by first | exact c0_0 | (simp [go_sem, World.cell?_alloc_past, c0_0f, c0_1f, c0_2f, c0_3f, c0_0, c0_1, c0_2, c0_3, c1_0f, c1_1f, c1_0, c1_1, ne_c0_c1, ne_c1_c0, rc0, rc0a, rc0b, rc0c, rc0n, rc1, rc1a, rc1b, rc1c, rc1n]; done)) (by first | exact c0_0f | (simp [go_sem, World.cell?_alloc_past, c0_0f, c0_1f, c0_2f, c0_3f, c0_0, c0_1, c0_2, c0_3, c1_0f, c1_1f, c1_0, c1_1, ne_c0_c1, ne_c1_c0, rc0, rc0a, rc0b, rc0c, rc0n, rc1, rc1a, rc1b, rc1c, rc1n]; done))
  replace c0_1f : w2.frozen? ⟨w.heap.size, 1, none⟩ = false := hx2.froz (by show ¬ _ = _; first | assumption | omega) (v := .int .i64 0) (by first | exact c0_1 | (simp [go_sem, World.cell?_alloc_past, c0_0f, c0_1f, c0_2f, c0_3f, c0_0, c0_1, c0_2, c0_3, c1_0f, c1_1f, c1_0, c1_1, ne_c0_c1, ne_c1_c0, rc0, rc0a, rc0b, rc0c, rc0n, rc1, rc1a, rc1b, rc1c, rc1n]; done)) (by first | exact c0_1f | (simp [go_sem, World.cell?_alloc_past, c0_0f, c0_1f, c0_2f, c0_3f, c0_0, c0_1, c0_2, c0_3, c1_0f, c1_1f, c1_0, c1_1, ne_c0_c1, ne_c1_c0, rc0, rc0a, rc0b, rc0c, rc0n, rc1, rc1a, rc1b, rc1c, rc1n]; done))
  replace c0_2f : w2.frozen? ⟨w.heap.size, 2, none⟩ = false := hx2.froz (by show ¬ _ = _; first | assumption | omega) (v := .int .i64 0) (by first | exact c0_2 | (simp [go_sem, World.cell?_alloc_past, c0_0f, c0_1f, c0_2f, c0_3f, c0_0, c0_1, c0_2, c0_3, c1_0f, c1_1f, c1_0, c1_1, ne_c0_c1, ne_c1_c0, rc0, rc0a, rc0b, rc0c, rc0n, rc1, rc1a, rc1b, rc1c, rc1n]; done)) (by first | exact c0_2f | (simp [go_sem, World.cell?_alloc_past, c0_0f, c0_1f, c0_2f, c0_3f, c0_0, c0_1, c0_2, c0_3, c1_0f, c1_1f, c1_0, c1_1, ne_c0_c1, ne_c1_c0, rc0, rc0a, rc0b, rc0c, rc0n, rc1, rc1a, rc1b, rc1c, rc1n]; done))
  replace c0_3f : w2.frozen? ⟨w.heap.size, 3, none⟩ = false := hx2.froz (by show ¬ _ = _; first | assumption | omega) (v := .int .i64 0) (by first | exact c0_3 | (simp [go_sem, World.cell?_alloc_past, c0_0f, c0_1f, c0_2f, c0_3f, c0_0, c0_1, c0_2, c0_3, c1_0f, c1_1f, c1_0, c1_1, ne_c0_c1, ne_c1_c0, rc0, rc0a, rc0b, rc0c, rc0n, rc1, rc1a, rc1b, rc1c, rc1n]; done)) (by first | exact c0_3f | (simp [go_sem, World.cell?_alloc_past, c0_0f, c0_1f, c0_2f, c0_3f, c0_0, c0_1, c0_2, c0_3, c1_0f, c1_1f, c1_0, c1_1, ne_c0_c1, ne_c1_c0, rc0, rc0a, rc0b, rc0c, rc0n, rc1, rc1a, rc1b, rc1c, rc1n]; done))
  replace c0_0 : w2.cell? ⟨w.heap.size, 0, none⟩ = some (.int .i64 0) := hx2.has (by show ¬ _ = _; first | assumption | omega) (by first | exact c0_0 | (simp [go_sem, World.cell?_alloc_past, c0_0f, c0_1f, c0_2f, c0_3f, c0_0, c0_1, c0_2, c0_3, c1_0f, c1_1f, c1_0, c1_1, ne_c0_c1, ne_c1_c0, rc0, rc0a, rc0b, rc0c, rc0n, rc1, rc1a, rc1b, rc1c, rc1n]; done))
  replace c0_1 : w2.cell? ⟨w.heap.size, 1, none⟩ = some (.int .i64 0) := hx2.has (by show ¬ _ = _; first | assumption | omega) (by first | exact c0_1 | (simp [go_sem, World.cell?_alloc_past, c0_0f, c0_1f, c0_2f, c0_3f, c0_0, c0_1, c0_2, c0_3, c1_0f, c1_1f, c1_0, c1_1, ne_c0_c1, ne_c1_c0, rc0, rc0a, rc0b, rc0c, rc0n, rc1, rc1a, rc1b, rc1c, rc1n]; done))
  replace c0_2 : w2.cell? ⟨w.heap.size, 2, none⟩ = some (.int .i64 0) := hx2.has (by show ¬ _ = _; first | assumption | omega) (by first | exact c0_2 | (simp [go_sem, World.cell?_alloc_past, c0_0f, c0_1f, c0_2f, c0_3f, c0_0, c0_1, c0_2, c0_3, c1_0f, c1_1f, c1_0, c1_1, ne_c0_c1, ne_c1_c0, rc0, rc0a, rc0b, rc0c, rc0n, rc1, rc1a, rc1b, rc1c, rc1n]; done))
  replace c0_3 : w2.cell? ⟨w.heap.size, 3, none⟩ = some (.int .i64 0) := hx2.has (by show ¬ _ = _; first | assumption | omega) (by first | exact c0_3 | (simp [go_sem, World.cell?_alloc_past, c0_0f, c0_1f, c0_2f, c0_3f, c0_0, c0_1, c0_2, c0_3, c1_0f, c1_1f, c1_0, c1_1, ne_c0_c1, ne_c1_c0, rc0, rc0a, rc0b, rc0c, rc0n, rc1, rc1a, rc1b, rc1c, rc1n]; done))
  replace c1_0f : w2.frozen? ⟨w.heap.size + 1, 0, none⟩ = false := hx2.froz (by show ¬ _ = _; first | assumption | omega) (v := .int .i64 0) (by first | exact c1_0 | (simp [go_sem, World.cell?_alloc_past, c0_0f, c0_1f, c0_2f, c0_3f, c0_0, c0_1, c0_2, c0_3, c1_0f, c1_1f, c1_0, c1_1, ne_c0_c1, ne_c1_c0, rc0, rc0a, rc0b, rc0c, rc0n, rc1, rc1a, rc1b, rc1c, rc1n]; done)) (by first | exact c1_0f | (simp [go_sem, World.cell?_alloc_past, c0_0f, c0_1f, c0_2f, c0_3f, c0_0, c0_1, c0_2, c0_3, c1_0f, c1_1f, c1_0, c1_1, ne_c0_c1, ne_c1_c0, rc0, rc0a, rc0b, rc0c, rc0n, rc1, rc1a, rc1b, rc1c, rc1n]; done))
  replace c1_1f : w2.frozen? ⟨w.heap.size + 1, 1, none⟩ = false := hx2.froz (by show ¬ _ = _; first | assumption | omega) (v := .int .i64 0) (by first | exact c1_1 | (simp [go_sem, World.cell?_alloc_past, c0_0f, c0_1f, c0_2f, c0_3f, c0_0, c0_1, c0_2, c0_3, c1_0f, c1_1f, c1_0, c1_1, ne_c0_c1, ne_c1_c0, rc0, rc0a, rc0b, rc0c, rc0n, rc1, rc1a, rc1b, rc1c, rc1n]; done)) (by first | exact c1_1f | (simp [go_sem, World.cell?_alloc_past, c0_0f, c0_1f, c0_2f, c0_3f, c0_0, c0_1, c0_2, c0_3, c1_0f, c1_1f, c1_0, c1_1, ne_c0_c1, ne_c1_c0, rc0, rc0a, rc0b, rc0c, rc0n, rc1, rc1a, rc1b, rc1c, rc1n]; done))
  replace c1_0 : w2.cell? ⟨w.heap.size + 1, 0, none⟩ = some (.int .i64 0) := hx2.has (by show ¬ _ = _; first | assumption | omega) (by first | exact c1_0 | (simp [go_sem, World.cell?_alloc_past, c0_0f, c0_1f, c0_2f, c0_3f, c0_0, c0_1, c0_2, c0_3, c1_0f, c1_1f, c1_0, c1_1, ne_c0_c1, ne_c1_c0, rc0, rc0a, rc0b, rc0c, rc0n, rc1, rc1a, rc1b, rc1c, rc1n]; done))
  replace c1_1 : w2.cell? ⟨w.heap.size + 1, 1, none⟩ = some (.int .i64 0) := hx2.has (by show ¬ _ = _; first | assumption | omega) (by first | exact c1_1 | (simp [go_sem, World.cell?_alloc_past, c0_0f, c0_1f, c0_2f, c0_3f, c0_0, c0_1, c0_2, c0_3, c1_0f, c1_1f, c1_0, c1_1, ne_c0_c1, ne_c1_c0, rc0, rc0a, rc0b, rc0c, rc0n, rc1, rc1a, rc1b, rc1c, rc1n]; done))
  have z2 := hx2.size
  try simp at z2
  replace rc0 : w.heap.size < w2.heap.size := by omega
  replace rc0a : w.heap.size < w2.heap.size + 1 := by omega
  replace rc0b : w.heap.size < w2.heap.size + 1 + 1 := by omega
  replace rc0c : w.heap.size < w2.heap.size + 1 + 1 + 1 := by omega
  replace rc0n : ¬ w.heap.size = w2.heap.size := by omega
  replace rc1 : w.heap.size + 1 < w2.heap.size := by omega
  replace rc1a : w.heap.size + 1 < w2.heap.size + 1 := by omega
  replace rc1b : w.heap.size + 1 < w2.heap.size + 1 + 1 := by omega
  replace rc1c : w.heap.size + 1 < w2.heap.size + 1 + 1 + 1 := by omega
  replace rc1n : ¬ w.heap.size + 1 = w2.heap.size := by omega
  have X2 : Hid (Ext w w2) := Lib.hid (have hX := (show Ext w _ from (by repeat (first | with_reducible exact X1.out | with_reducible refine Ext.drew ?_ | with_reducible refine Ext.drewN ?_ _ | with_reducible refine Ext.alloc ?_ _ | with_reducible refine Ext.setCell ?_ (by first | omega | (simp; done) | (simp; omega)) _))); Below.trans hX (hx2.below (Ext.size hX) (fun k hk hh => by have hh2 : k = g := hh; omega)))
  clear HR
  have HR := Lib.hid hr
  clear hsz2 X1 hx2 z2 hr
  go_wp2_with fail
  (with_reducible refine (CE.out _ _ (by repeat (first | with_reducible exact HR.out | with_reducible refine RRd.set ?_ (by omega) _ | with_reducible refine RRd.ext ?_ (Ext.alloc (Ext.refl _) _) | with_reducible refine RRd.ext ?_ (Ext.drew (Ext.refl _)) | with_reducible refine RRd.drewN ?_ _))).mono ?_)
  rintro e w3 ⟨rfl, hx3⟩
  replace c0_0f : w3.frozen? ⟨w.heap.size, 0, none⟩ = false := hx3.froz (v := .int .i64 0) (by first | exact c0_0 | (simp [go_sem, World.cell?_alloc_past, c0_0f, c0_1f, c0_2f, c0_3f, c0_0, c0_1, c0_2, c0_3, c1_0f, c1_1f, c1_0, c1_1, ne_c0_c1, ne_c1_c0, rc0, rc0a, rc0b, rc0c, rc0n, rc1, rc1a, rc1b, rc1c, rc1n]; done)) (by first | exact c0_0f | (simp [go_sem, World.cell?_alloc_past, c0_0f, c0_1f, c0_2f, c0_3f, c0_0, c0_1, c0_2, c0_3, c1_0f, c1_1f, c1_0, c1_1, ne_c0_c1, ne_c1_c0, rc0, rc0a, rc0b, rc0c, rc0n, rc1, rc1a, rc1b, rc1c, rc1n]; done))
  replace c0_1f : w3.frozen? ⟨w.heap.size, 1, none⟩ = false := hx3.froz (v := .int .i64 0) (by first | exact c0_1 | (simp [go_sem, World.cell?_alloc_past, c0_0f, c0_1f, c0_2f, c0_3f, c0_0, c0_1, c0_2, c0_3, c1_0f, c1_1f, c1_0, c1_1, ne_c0_c1, ne_c1_c0, rc0, rc0a, rc0b, rc0c, rc0n, rc1, rc1a, rc1b, rc1c, rc1n]; done)) (by first | exact c0_1f | (simp [go_sem, World.cell?_alloc_past, c0_0f, c0_1f, c0_2f, c0_3f, c0_0, c0_1, c0_2, c0_3, c1_0f, c1_1f, c1_0, c1_1, ne_c0_c1, ne_c1_c0, rc0, rc0a, rc0b, rc0c, rc0n, rc1, rc1a, rc1b, rc1c, rc1n]; done))
  replace c0_2f : w3.frozen? ⟨w.heap.size, 2, none⟩ = false := hx3.froz (v := .int .i64 0) (by first | exact c0_2 | (simp [go_sem, World.cell?_alloc_past, c0_0f, c0_1f, c0_2f, c0_3f, c0_0, c0_1, c0_2, c0_3, c1_0f, c1_1f, c1_0, c1_1, ne_c0_c1, ne_c1_c0, rc0, rc0a, rc0b, rc0c, rc0n, rc1, rc1a, rc1b, rc1c, rc1n]; done)) (by first | exact c0_2f | (simp [go_sem, World.cell?_alloc_past, c0_0f, c0_1f, c0_2f, c0_3f, c0_0, c0_1, c0_2, c0_3, c1_0f, c1_1f, c1_0, c1_1, ne_c0_c1, ne_c1_c0, rc0, rc0a, rc0b, rc0c, rc0n, rc1, rc1a, rc1b, rc1c, rc1n]; done))
  replace c0_3f : w3.frozen? ⟨w.heap.size, 3, none⟩ = false := hx3.froz (v := .int .i64 0) (by first | exact c0_3 | (simp [go_sem, World.cell?_alloc_past, c0_0f, c0_1f, c0_2f, c0_3f, c0_0, c0_1, c0_2, c0_3, c1_0f, c1_1f, c1_0, c1_1, ne_c0_c1, ne_c1_c0, rc0, rc0a, rc0b, rc0c, rc0n, rc1, rc1a, rc1b, rc1c, rc1n]; done)) (by first | exact c0_3f | (simp [go_sem, World.cell?_alloc_past, c0_0f, c0_1f, c0_2f, c0_3f, c0_0, c0_1, c0_2, c0_3, c1_0f, c1_1f, c1_0, c1_1, ne_c0_c1, ne_c1_c0, rc0, rc0a, rc0b, rc0c, rc0n, rc1, rc1a, rc1b, rc1c, rc1n]; done))
  replace c0_0 : w3.cell? ⟨w.heap.size, 0, none⟩ = some (.int .i64 0) := hx3.has (by first | exact c0_0 | (simp [go_sem, World.cell?_alloc_past, c0_0f, c0_1f, c0_2f, c0_3f, c0_0, c0_1, c0_2, c0_3, c1_0f, c1_1f, c1_0, c1_1, ne_c0_c1, ne_c1_c0, rc0, rc0a, rc0b, rc0c, rc0n, rc1, rc1a, rc1b, rc1c, rc1n]; done))
  replace c0_1 : w3.cell? ⟨w.heap.size, 1, none⟩ = some (.int .i64 0) := hx3.has (by first | exact c0_1 | (simp [go_sem, World.cell?_alloc_past, c0_0f, c0_1f, c0_2f, c0_3f, c0_0, c0_1, c0_2, c0_3, c1_0f, c1_1f, c1_0, c1_1, ne_c0_c1, ne_c1_c0, rc0, rc0a, rc0b, rc0c, rc0n, rc1, rc1a, rc1b, rc1c, rc1n]; done))
  replace c0_2 : w3.cell? ⟨w.heap.size, 2, none⟩ = some (.int .i64 0) := hx3.has (by first | exact c0_2 | (simp [go_sem, World.cell?_alloc_past, c0_0f, c0_1f, c0_2f, c0_3f, c0_0, c0_1, c0_2, c0_3, c1_0f, c1_1f, c1_0, c1_1, ne_c0_c1, ne_c1_c0, rc0, rc0a, rc0b, rc0c, rc0n, rc1, rc1a, rc1b, rc1c, rc1n]; done))
  replace c0_3 : w3.cell? ⟨w.heap.size, 3, none⟩ = some (.int .i64 0) := hx3.has (by first | exact c0_3 | (simp [go_sem, World.cell?_alloc_past, c0_0f, c0_1f, c0_2f, c0_3f, c0_0, c0_1, c0_2, c0_3, c1_0f, c1_1f, c1_0, c1_1, ne_c0_c1, ne_c1_c0, rc0, rc0a, rc0b, rc0c, rc0n, rc1, rc1a, rc1b, rc1c, rc1n]; done))
  replace c1_0f : w3.frozen? ⟨w.heap.size + 1, 0, none⟩ = false := hx3.froz (v := .int .i64 0) (by first | exact c1_0 | (simp [go_sem, World.cell?_alloc_past, c0_0f, c0_1f, c0_2f, c0_3f, c0_0, c0_1, c0_2, c0_3, c1_0f, c1_1f, c1_0, c1_1, ne_c0_c1, ne_c1_c0, rc0, rc0a, rc0b, rc0c, rc0n, rc1, rc1a, rc1b, rc1c, rc1n]; done)) (by first | exact c1_0f | (simp [go_sem, World.cell?_alloc_past, c0_0f, c0_1f, c0_2f, c0_3f, c0_0, c0_1, c0_2, c0_3, c1_0f, c1_1f, c1_0, c1_1, ne_c0_c1, ne_c1_c0, rc0, rc0a, rc0b, rc0c, rc0n, rc1, rc1a, rc1b, rc1c, rc1n]; done))
  replace c1_1f : w3.frozen? ⟨w.heap.size + 1, 1, none⟩ = false := hx3.froz (v := .int .i64 0) (by first | exact c1_1 | (simp [go_sem, World.cell?_alloc_past, c0_0f, c0_1f, c0_2f, c0_3f, c0_0, c0_1, c0_2, c0_3, c1_0f, c1_1f, c1_0, c1_1, ne_c0_c1, ne_c1_c0, rc0, rc0a, rc0b, rc0c, rc0n, rc1, rc1a, rc1b, rc1c, rc1n]; done)) (by first | exact c1_1f | (simp [go_sem, World.cell?_alloc_past, c0_0f, c0_1f, c0_2f, c0_3f, c0_0, c0_1, c0_2, c0_3, c1_0f, c1_1f, c1_0, c1_1, ne_c0_c1, ne_c1_c0, rc0, rc0a, rc0b, rc0c, rc0n, rc1, rc1a, rc1b, rc1c, rc1n]; done))
  replace c1_0 : w3.cell? ⟨w.heap.size + 1, 0, none⟩ = some (.int .i64 0) := hx3.has (by first | exact c1_0 | (simp [go_sem, World.cell?_alloc_past, c0_0f, c0_1f, c0_2f, c0_3f, c0_0, c0_1, c0_2, c0_3, c1_0f, c1_1f, c1_0, c1_1, ne_c0_c1, ne_c1_c0, rc0, rc0a, rc0b, rc0c, rc0n, rc1, rc1a, rc1b, rc1c, rc1n]; done))
  replace c1_1 : w3.cell? ⟨w.heap.size + 1, 1, none⟩ = some (.int .i64 0) := hx3.has (by first | exact c1_1 | (simp [go_sem, World.cell?_alloc_past, c0_0f, c0_1f, c0_2f, c0_3f, c0_0, c0_1, c0_2, c0_3, c1_0f, c1_1f, c1_0, c1_1, ne_c0_c1, ne_c1_c0, rc0, rc0a, rc0b, rc0c, rc0n, rc1, rc1a, rc1b, rc1c, rc1n]; done))
  have c2_0 : w3.cell? ⟨w2.heap.size, 0, none⟩ = some (.int .i64 V) := hx3.has (by first | fail | (simp [go_sem, World.cell?_alloc_past, c0_0f, c0_1f, c0_2f, c0_3f, c0_0, c0_1, c0_2, c0_3, c1_0f, c1_1f, c1_0, c1_1, ne_c0_c1, ne_c1_c0, rc0, rc0a, rc0b, rc0c, rc0n, rc1, rc1a, rc1b, rc1c, rc1n]; done))
  have c2_1 : w3.cell? ⟨w2.heap.size, 1, none⟩ = some (.int .i64 S) := hx3.has (by first | fail | (simp [go_sem, World.cell?_alloc_past, c0_0f, c0_1f, c0_2f, c0_3f, c0_0, c0_1, c0_2, c0_3, c1_0f, c1_1f, c1_0, c1_1, ne_c0_c1, ne_c1_c0, rc0, rc0a, rc0b, rc0c, rc0n, rc1, rc1a, rc1b, rc1c, rc1n]; done))
  have c2_2 : w3.cell? ⟨w2.heap.size, 2, none⟩ = some (.int .i64 P) := hx3.has (by first | fail | (simp [go_sem, World.cell?_alloc_past, c0_0f, c0_1f, c0_2f, c0_3f, c0_0, c0_1, c0_2, c0_3, c1_0f, c1_1f, c1_0, c1_1, ne_c0_c1, ne_c1_c0, rc0, rc0a, rc0b, rc0c, rc0n, rc1, rc1a, rc1b, rc1c, rc1n]; done))
  have c2_3 : w3.cell? ⟨w2.heap.size, 3, none⟩ = some (.int .i64 F) := hx3.has (by first | fail | (simp [go_sem, World.cell?_alloc_past, c0_0f, c0_1f, c0_2f, c0_3f, c0_0, c0_1, c0_2, c0_3, c1_0f, c1_1f, c1_0, c1_1, ne_c0_c1, ne_c1_c0, rc0, rc0a, rc0b, rc0c, rc0n, rc1, rc1a, rc1b, rc1c, rc1n]; done))
  have z3 := hx3.size
  try simp at z3
  have lt_c0_c2 : w.heap.size < w2.heap.size := by omega
  have ne_c0_c2 : ¬ w.heap.size = w2.heap.size := by omega
  have lt_c1_c2 : w.heap.size + 1 < w2.heap.size := by omega
  have ne_c1_c2 : ¬ w.heap.size + 1 = w2.heap.size := by omega
  have ne_c2_c0 : ¬ w2.heap.size = w.heap.size := by omega
  have ne_c2_c1 : ¬ w2.heap.size = w.heap.size + 1 := by omega
  replace rc0 : w.heap.size < w3.heap.size := by omega
  replace rc0a : w.heap.size < w3.heap.size + 1 := by omega
  replace rc0b : w.heap.size < w3.heap.size + 1 + 1 := by omega
  replace rc0c : w.heap.size < w3.heap.size + 1 + 1 + 1 := by omega
  replace rc0n : ¬ w.heap.size = w3.heap.size := by omega
  replace rc1 : w.heap.size + 1 < w3.heap.size := by omega
  replace rc1a : w.heap.size + 1 < w3.heap.size + 1 := by omega
  replace rc1b : w.heap.size + 1 < w3.heap.size + 1 + 1 := by omega
  replace rc1c : w.heap.size + 1 < w3.heap.size + 1 + 1 + 1 := by omega
  replace rc1n : ¬ w.heap.size + 1 = w3.heap.size := by omega
  have rc2 : w2.heap.size < w3.heap.size := by omega
  have rc2a : w2.heap.size < w3.heap.size + 1 := by omega
  have rc2b : w2.heap.size < w3.heap.size + 1 + 1 := by omega
  have rc2c : w2.heap.size < w3.heap.size + 1 + 1 + 1 := by omega
  have rc2n : ¬ w2.heap.size = w3.heap.size := by omega
  have X3 : Hid (Ext w w3) := Lib.hid (Ext.trans (by repeat (first | with_reducible exact X2.out | with_reducible refine Ext.drew ?_ | with_reducible refine Ext.drewN ?_ _ | with_reducible refine Ext.alloc ?_ _ | with_reducible refine Ext.setCell ?_ (by first | omega | (simp; done) | (simp; omega)) _)) hx3)
  clear HR X2 hx3 z3
  go_wp2_with fail
  refine bodyPost_ret (v := .tuple #[.agg #[.int .i64 V, .int .i64 S, .int .i64 P, .int .i64 F], .agg #[.int .i64 0, .int .i64 0]]) (by simp [results, Try.results36, go_sem, World.cell?_alloc_past, c0_0f, c0_1f, c0_2f, c0_3f, c0_0, c0_1, c0_2, c0_3, c1_0f, c1_1f, c1_0, c1_1, c2_0, c2_1, c2_2, c2_3, ne_c0_c1, ne_c0_c2, ne_c1_c0, ne_c1_c2, ne_c2_c0, ne_c2_c1, rc0, rc0a, rc0b, rc0c, rc0n, rc1, rc1a, rc1b, rc1c, rc1n, rc2, rc2a, rc2b, rc2c, rc2n]; try rfl) rfl ⟨rfl, ?_⟩
  exact (by repeat (first | with_reducible exact X3.out | with_reducible refine Ext.drew ?_ | with_reducible refine Ext.drewN ?_ _ | with_reducible refine Ext.alloc ?_ _ | with_reducible refine Ext.setCell ?_ (by first | omega | (simp; done) | (simp; omega)) _))
set_option maxRecDepth 100000 in
set_option maxHeartbeats 4000000 in
theorem rRead12_bad (A : Option Addr) (c n k : Nat) (L : List Nat) (V S P F E a : Int) (f : Option (Int × Int)) (hE : (E == 0) = false) (hE2 : (E != 0) = true) (w : World) (hs : Sl w 1 A n c (by_ L))
    (CN : Hid (∀ w, Sl w 1 A n c (by_ L) → Calls Try.prog 22 #[.slice A n c] w fun r w' => ∃ g, r = .returned (.pointer (some ⟨g, 0, none⟩)) ∧ w.heap.size ≤ g ∧ RRd w' g L 0 none ∧ Ext w w'))
    (CT : Hid (∀ g w, RRd w g L 0 none → Calls Try.prog 24 #[.pointer (some ⟨g, 0, none⟩)] w fun r w' => r = .returned (.agg #[.int .i64 V, .int .i64 S, .int .i64 P, .int .i64 F]) ∧ RRd w' g L k f ∧ But (· = g) w w'))
    (CE : Hid (∀ g w, RRd w g L k f → Calls Try.prog 30 #[.pointer (some ⟨g, 0, none⟩)] w fun r w' => r = .returned (.agg #[.int .i64 E, .int .i64 a]) ∧ Ext w w')) :
    Calls Try.prog 36 #[.slice A n c] w fun r w' => r = .returned (.tuple #[.agg #[.int .i64 0, .int .i64 0, .int .i64 0, .int .i64 0], .agg #[.int .i64 E, .int .i64 a]]) ∧ Ext w w' := by
  have HS := Lib.hid hs
  clear hs
  go_enter Try.func36, Try.ntmps36
  go_wp2_with fail
  (with_reducible refine (CN.out _ (HS.out.ext (by repeat (first | with_reducible exact Ext.refl _ | with_reducible refine Ext.drew ?_ | with_reducible refine Ext.drewN ?_ _ | with_reducible refine Ext.alloc ?_ _ | with_reducible refine Ext.setCell ?_ (by first | omega | (simp; done) | (simp; omega)) _)))).mono ?_)
  rintro e w1 ⟨g, rfl, hg, hr, hx1⟩
  have c0_0f : w1.frozen? ⟨w.heap.size, 0, none⟩ = false := hx1.froz (v := .int .i64 0) (by first | fail | (simp [go_sem, World.cell?_alloc_past]; done)) (by first | fail | (simp [go_sem, World.cell?_alloc_past]; done))
  have c0_1f : w1.frozen? ⟨w.heap.size, 1, none⟩ = false := hx1.froz (v := .int .i64 0) (by first | fail | (simp [go_sem, World.cell?_alloc_past]; done)) (by first | fail | (simp [go_sem, World.cell?_alloc_past]; done))
  have c0_2f : w1.frozen? ⟨w.heap.size, 2, none⟩ = false := hx1.froz (v := .int .i64 0) (by first | fail | (simp [go_sem, World.cell?_alloc_past]; done)) (by first | fail | (simp [go_sem, World.cell?_alloc_past]; done))
  have c0_3f : w1.frozen? ⟨w.heap.size, 3, none⟩ = false := hx1.froz (v := .int .i64 0) (by first | fail | (simp [go_sem, World.cell?_alloc_past]; done)) (by first | fail | (simp [go_sem, World.cell?_alloc_past]; done))
  have c0_0 : w1.cell? ⟨w.heap.size, 0, none⟩ = some (.int .i64 0) := hx1.has (by first | fail | (simp [go_sem, World.cell?_alloc_past]; done))
  have c0_1 : w1.cell? ⟨w.heap.size, 1, none⟩ = some (.int .i64 0) := hx1.has (by first | fail | (simp [go_sem, World.cell?_alloc_past]; done))
  have c0_2 : w1.cell? ⟨w.heap.size, 2, none⟩ = some (.int .i64 0) := hx1.has (by first | fail | (simp [go_sem, World.cell?_alloc_past]; done))
  have c0_3 : w1.cell? ⟨w.heap.size, 3, none⟩ = some (.int .i64 0) := hx1.has (by first | fail | (simp [go_sem, World.cell?_alloc_past]; done))
  have c1_0f : w1.frozen? ⟨w.heap.size + 1, 0, none⟩ = false := hx1.froz (v := .int .i64 0) (by first | fail | (simp [go_sem, World.cell?_alloc_past]; done)) (by first | fail | (simp [go_sem, World.cell?_alloc_past]; done))
  have c1_1f : w1.frozen? ⟨w.heap.size + 1, 1, none⟩ = false := hx1.froz (v := .int .i64 0) (by first | fail | (simp [go_sem, World.cell?_alloc_past]; done)) (by first | fail | (simp [go_sem, World.cell?_alloc_past]; done))
  have c1_0 : w1.cell? ⟨w.heap.size + 1, 0, none⟩ = some (.int .i64 0) := hx1.has (by first | fail | (simp [go_sem, World.cell?_alloc_past]; done))
  have c1_1 : w1.cell? ⟨w.heap.size + 1, 1, none⟩ = some (.int .i64 0) := hx1.has (by first | fail | (simp [go_sem, World.cell?_alloc_past]; done))
  have z1 := hx1.size
  try simp at z1
  have lt_c0_c1 : w.heap.size < w.heap.size + 1 := by omega
  have ne_c0_c1 : ¬ w.heap.size = w.heap.size + 1 := by omega
  have ne_c1_c0 : ¬ w.heap.size + 1 = w.heap.size := by omega
  have rc0 : w.heap.size < w1.heap.size := by omega
  have rc0a : w.heap.size < w1.heap.size + 1 := by omega
  have rc0b : w.heap.size < w1.heap.size + 1 + 1 := by omega
  have rc0c : w.heap.size < w1.heap.size + 1 + 1 + 1 := by omega
  have rc0n : ¬ w.heap.size = w1.heap.size := by omega
  have rc1 : w.heap.size + 1 < w1.heap.size := by omega
  have rc1a : w.heap.size + 1 < w1.heap.size + 1 := by omega
  have rc1b : w.heap.size + 1 < w1.heap.size + 1 + 1 := by omega
  have rc1c : w.heap.size + 1 < w1.heap.size + 1 + 1 + 1 := by omega
  have rc1n : ¬ w.heap.size + 1 = w1.heap.size := by omega
  have X1 : Hid (Ext w w1) := Lib.hid (Ext.trans (by repeat (first | with_reducible exact Ext.refl w | with_reducible refine Ext.drew ?_ | with_reducible refine Ext.drewN ?_ _ | with_reducible refine Ext.alloc ?_ _ | with_reducible refine Ext.setCell ?_ (by first | omega | (simp; done) | (simp; omega)) _)) hx1)
  have HR := Lib.hid hr
  clear HS hx1 z1 hr
  simp at hg
  go_wp2_with fail
  (with_reducible refine (CT.out _ _ (by repeat (first | with_reducible exact HR.out | with_reducible refine RRd.set ?_ (by omega) _ | with_reducible refine RRd.ext ?_ (Ext.alloc (Ext.refl _) _) | with_reducible refine RRd.ext ?_ (Ext.drew (Ext.refl _)) | with_reducible refine RRd.drewN ?_ _))).mono ?_)
  rintro e w2 ⟨rfl, hr, hx2⟩
  have hsz2 := hx2.size
  try simp at hsz2
  replace c0_0f : w2.frozen? ⟨w.heap.size, 0, none⟩ = false := hx2.froz (by show ¬ _ = _; first | assumption | omega) (v := .int .i64 0) (by first | exact c0_0 | (simp [go_sem, World.cell?_alloc_past, c0_0f, c0_1f, c0_2f, c0_3f, c0_0, c0_1, c0_2, c0_3, c1_0f, c1_1f, c1_0, c1_1, ne_c0_c1, ne_c1_c0, rc0, rc0a, rc0b, rc0c, rc0n, rc1, rc1a, rc1b, rc1c, rc1n]; done)) (by first | exact c0_0f | (simp [go_sem, World.cell?_alloc_past, c0_0f, c0_1f, c0_2f, c0_3f, c0_0, c0_1, c0_2, c0_3, c1_0f, c1_1f, c1_0, c1_1, ne_c0_c1, ne_c1_c0, rc0, rc0a, rc0b, rc0c, rc0n, rc1, rc1a, rc1b, rc1c, rc1n]; done))
  replace c0_1f : w2.frozen? ⟨w.heap.size, 1, none⟩ = false := hx2.froz (by show ¬ _ = _; first | assumption | omega) (v := .int .i64 0) (by first | exact c0_1 | (simp [go_sem, World.cell?_alloc_past, c0_0f, c0_1f, c0_2f, c0_3f, c0_0, c0_1, c0_2, c0_3, c1_0f, c1_1f, c1_0, c1_1, ne_c0_c1, ne_c1_c0, rc0, rc0a, rc0b, rc0c, rc0n, rc1, rc1a, rc1b, rc1c, rc1n]; done)) (by first | exact c0_1f | (simp [go_sem, World.cell?_alloc_past, c0_0f, c0_1f, c0_2f, c0_3f, c0_0, c0_1, c0_2, c0_3, c1_0f, c1_1f, c1_0, c1_1, ne_c0_c1, ne_c1_c0, rc0, rc0a, rc0b, rc0c, rc0n, rc1, rc1a, rc1b, rc1c, rc1n]; done))
  replace c0_2f : w2.frozen? ⟨w.heap.size, 2, none⟩ = false := hx2.froz (by show ¬ _ = _; first | assumption | omega) (v := .int .i64 0) (by first | exact c0_2 | (simp [go_sem, World.cell?_alloc_past, c0_0f, c0_1f, c0_2f, c0_3f, c0_0, c0_1, c0_2, c0_3, c1_0f, c1_1f, c1_0, c1_1, ne_c0_c1, ne_c1_c0, rc0, rc0a, rc0b, rc0c, rc0n, rc1, rc1a, rc1b, rc1c, rc1n]; done)) (by first | exact c0_2f | (simp [go_sem, World.cell?_alloc_past, c0_0f, c0_1f, c0_2f, c0_3f, c0_0, c0_1, c0_2, c0_3, c1_0f, c1_1f, c1_0, c1_1, ne_c0_c1, ne_c1_c0, rc0, rc0a, rc0b, rc0c, rc0n, rc1, rc1a, rc1b, rc1c, rc1n]; done))
  replace c0_3f : w2.frozen? ⟨w.heap.size, 3, none⟩ = false := hx2.froz (by show ¬ _ = _; first | assumption | omega) (v := .int .i64 0) (by first | exact c0_3 | (simp [go_sem, World.cell?_alloc_past, c0_0f, c0_1f, c0_2f, c0_3f, c0_0, c0_1, c0_2, c0_3, c1_0f, c1_1f, c1_0, c1_1, ne_c0_c1, ne_c1_c0, rc0, rc0a, rc0b, rc0c, rc0n, rc1, rc1a, rc1b, rc1c, rc1n]; done)) (by first | exact c0_3f | (simp [go_sem, World.cell?_alloc_past, c0_0f, c0_1f, c0_2f, c0_3f, c0_0, c0_1, c0_2, c0_3, c1_0f, c1_1f, c1_0, c1_1, ne_c0_c1, ne_c1_c0, rc0, rc0a, rc0b, rc0c, rc0n, rc1, rc1a, rc1b, rc1c, rc1n]; done))
  replace c0_0 : w2.cell? ⟨w.heap.size, 0, none⟩ = some (.int .i64 0) := hx2.has (by show ¬ _ = _; first | assumption | omega) (by first | exact c0_0 | (simp [go_sem, World.cell?_alloc_past, c0_0f, c0_1f, c0_2f, c0_3f, c0_0, c0_1, c0_2, c0_3, c1_0f, c1_1f, c1_0, c1_1, ne_c0_c1, ne_c1_c0, rc0, rc0a, rc0b, rc0c, rc0n, rc1, rc1a, rc1b, rc1c, rc1n]; done))
  replace c0_1 : w2.cell? ⟨w.heap.size, 1, none⟩ = some (.int .i64 0) := hx2.has (by show ¬ _ = _; first | assumption | omega) (by first | exact c0_1 | (simp [go_sem, World.cell?_alloc_past, c0_0f, c0_1f, c0_2f, c0_3f, c0_0, c0_1, c0_2, c0_3, c1_0f, c1_1f, c1_0, c1_1, ne_c0_c1, ne_c1_c0, rc0, rc0a, rc0b, rc0c, rc0n, rc1, rc1a, rc1b, rc1c, rc1n]; done))
  replace c0_2 : w2.cell? ⟨w.heap.size, 2, none⟩ = some (.int .i64 0) := hx2.has (by show ¬ _ = _; first | assumption | omega) (by first | exact c0_2 | (simp [go_sem, World.cell?_alloc_past, c0_0f, c0_1f, c0_2f, c0_3f, c0_0, c0_1, c0_2, c0_3, c1_0f, c1_1f, c1_0, c1_1, ne_c0_c1, ne_c1_c0, rc0, rc0a, rc0b, rc0c, rc0n, rc1, rc1a, rc1b, rc1c, rc1n]; done))
  replace c0_3 : w2.cell? ⟨w.heap.size, 3, none⟩ = some (.int .i64 0) := hx2.has (by show ¬ _ = _; first | assumption | omega) (by first | exact c0_3 | (simp [go_sem, World.cell?_alloc_past, c0_0f, c0_1f, c0_2f, c0_3f, c0_0, c0_1, c0_2, c0_3, c1_0f, c1_1f, c1_0, c1_1, ne_c0_c1, ne_c1_c0, rc0, rc0a, rc0b, rc0c, rc0n, rc1, rc1a, rc1b, rc1c, rc1n]; done))
  replace c1_0f : w2.frozen? ⟨w.heap.size + 1, 0, none⟩ = false := hx2.froz (by show ¬ _ = _; first | assumption | omega) (v := .int .i64 0) (by first | exact c1_0 | (simp [go_sem, World.cell?_alloc_past, c0_0f, c0_1f, c0_2f, c0_3f, c0_0, c0_1, c0_2, c0_3, c1_0f, c1_1f, c1_0, c1_1, ne_c0_c1, ne_c1_c0, rc0, rc0a, rc0b, rc0c, rc0n, rc1, rc1a, rc1b, rc1c, rc1n]; done)) (by first | exact c1_0f | (simp [go_sem, World.cell?_alloc_past, c0_0f, c0_1f, c0_2f, c0_3f, c0_0, c0_1, c0_2, c0_3, c1_0f, c1_1f, c1_0, c1_1, ne_c0_c1, ne_c1_c0, rc0, rc0a, rc0b, rc0c, rc0n, rc1, rc1a, rc1b, rc1c, rc1n]; done))
  replace c1_1f : w2.frozen? ⟨w.heap.size + 1, 1, none⟩ = false := hx2.froz (by show ¬ _ = _; first | assumption | omega) (v := .int .i64 0) (by first | exact c1_1 | (simp [go_sem, World.cell?_alloc_past, c0_0f, c0_1f, c0_2f, c0_3f, c0_0, c0_1, c0_2, c0_3, c1_0f, c1_1f, c1_0, c1_1, ne_c0_c1, ne_c1_c0, rc0, rc0a, rc0b, rc0c, rc0n, rc1, rc1a, rc1b, rc1c, rc1n]; done)) (by first | exact c1_1f | (simp [go_sem, World.cell?_alloc_past, c0_0f, c0_1f, c0_2f, c0_3f, c0_0, c0_1, c0_2, c0_3, c1_0f, c1_1f, c1_0, c1_1, ne_c0_c1, ne_c1_c0, rc0, rc0a, rc0b, rc0c, rc0n, rc1, rc1a, rc1b, rc1c, rc1n]; done))
  replace c1_0 : w2.cell? ⟨w.heap.size + 1, 0, none⟩ = some (.int .i64 0) := hx2.has (by show ¬ _ = _; first | assumption | omega) (by first | exact c1_0 | (simp [go_sem, World.cell?_alloc_past, c0_0f, c0_1f, c0_2f, c0_3f, c0_0, c0_1, c0_2, c0_3, c1_0f, c1_1f, c1_0, c1_1, ne_c0_c1, ne_c1_c0, rc0, rc0a, rc0b, rc0c, rc0n, rc1, rc1a, rc1b, rc1c, rc1n]; done))
  replace c1_1 : w2.cell? ⟨w.heap.size + 1, 1, none⟩ = some (.int .i64 0) := hx2.has (by show ¬ _ = _; first | assumption | omega) (by first | exact c1_1 | (simp [go_sem, World.cell?_alloc_past, c0_0f, c0_1f, c0_2f, c0_3f, c0_0, c0_1, c0_2, c0_3, c1_0f, c1_1f, c1_0, c1_1, ne_c0_c1, ne_c1_c0, rc0, rc0a, rc0b, rc0c, rc0n, rc1, rc1a, rc1b, rc1c, rc1n]; done))
  have z2 := hx2.size
  try simp at z2
  replace rc0 : w.heap.size < w2.heap.size := by omega
  replace rc0a : w.heap.size < w2.heap.size + 1 := by omega
  replace rc0b : w.heap.size < w2.heap.size + 1 + 1 := by omega
  replace rc0c : w.heap.size < w2.heap.size + 1 + 1 + 1 := by omega
  replace rc0n : ¬ w.heap.size = w2.heap.size := by omega
  replace rc1 : w.heap.size + 1 < w2.heap.size := by omega
  replace rc1a : w.heap.size + 1 < w2.heap.size + 1 := by omega
  replace rc1b : w.heap.size + 1 < w2.heap.size + 1 + 1 := by omega
  replace rc1c : w.heap.size + 1 < w2.heap.size + 1 + 1 + 1 := by omega
  replace rc1n : ¬ w.heap.size + 1 = w2.heap.size := by omega
  have X2 : Hid (Ext w w2) := Lib.hid (have hX := (show Ext w _ from (by repeat (first | with_reducible exact X1.out | with_reducible refine Ext.drew ?_ | with_reducible refine Ext.drewN ?_ _ | with_reducible refine Ext.alloc ?_ _ | with_reducible refine Ext.setCell ?_ (by first | omega | (simp; done) | (simp; omega)) _))); Below.trans hX (hx2.below (Ext.size hX) (fun k hk hh => by have hh2 : k = g := hh; omega)))
  clear HR
  have HR := Lib.hid hr
  clear hsz2 X1 hx2 z2 hr
  go_wp2_with fail
  (with_reducible refine (CE.out _ _ (by repeat (first | with_reducible exact HR.out | with_reducible refine RRd.set ?_ (by omega) _ | with_reducible refine RRd.ext ?_ (Ext.alloc (Ext.refl _) _) | with_reducible refine RRd.ext ?_ (Ext.drew (Ext.refl _)) | with_reducible refine RRd.drewN ?_ _))).mono ?_)
  rintro e w3 ⟨rfl, hx3⟩
  replace c0_0f : w3.frozen? ⟨w.heap.size, 0, none⟩ = false := hx3.froz (v := .int .i64 0) (by first | exact c0_0 | (simp [go_sem, World.cell?_alloc_past, c0_0f, c0_1f, c0_2f, c0_3f, c0_0, c0_1, c0_2, c0_3, c1_0f, c1_1f, c1_0, c1_1, ne_c0_c1, ne_c1_c0, rc0, rc0a, rc0b, rc0c, rc0n, rc1, rc1a, rc1b, rc1c, rc1n]; done)) (by first | exact c0_0f | (simp [go_sem, World.cell?_alloc_past, c0_0f, c0_1f, c0_2f, c0_3f, c0_0, c0_1, c0_2, c0_3, c1_0f, c1_1f, c1_0, c1_1, ne_c0_c1, ne_c1_c0, rc0, rc0a, rc0b, rc0c, rc0n, rc1, rc1a, rc1b, rc1c, rc1n]; done))
  replace c0_1f : w3.frozen? ⟨w.heap.size, 1, none⟩ = false := hx3.froz (v := .int .i64 0) (by first | exact c0_1 | (simp [go_sem, World.cell?_alloc_past, c0_0f, c0_1f, c0_2f, c0_3f, c0_0, c0_1, c0_2, c0_3, c1_0f, c1_1f, c1_0, c1_1, ne_c0_c1, ne_c1_c0, rc0, rc0a, rc0b, rc0c, rc0n, rc1, rc1a, rc1b, rc1c, rc1n]; done)) (by first | exact c0_1f | (simp [go_sem, World.cell?_alloc_past, c0_0f, c0_1f, c0_2f, c0_3f, c0_0, c0_1, c0_2, c0_3, c1_0f, c1_1f, c1_0, c1_1, ne_c0_c1, ne_c1_c0, rc0, rc0a, rc0b, rc0c, rc0n, rc1, rc1a, rc1b, rc1c, rc1n]; done))
  replace c0_2f : w3.frozen? ⟨w.heap.size, 2, none⟩ = false := hx3.froz (v := .int .i64 0) (by first | exact c0_2 | (simp [go_sem, World.cell?_alloc_past, c0_0f, c0_1f, c0_2f, c0_3f, c0_0, c0_1, c0_2, c0_3, c1_0f, c1_1f, c1_0, c1_1, ne_c0_c1, ne_c1_c0, rc0, rc0a, rc0b, rc0c, rc0n, rc1, rc1a, rc1b, rc1c, rc1n]; done)) (by first | exact c0_2f | (simp [go_sem, World.cell?_alloc_past, c0_0f, c0_1f, c0_2f, c0_3f, c0_0, c0_1, c0_2, c0_3, c1_0f, c1_1f, c1_0, c1_1, ne_c0_c1, ne_c1_c0, rc0, rc0a, rc0b, rc0c, rc0n, rc1, rc1a, rc1b, rc1c, rc1n]; done))
  replace c0_3f : w3.frozen? ⟨w.heap.size, 3, none⟩ = false := hx3.froz (v := .int .i64 0) (by first | exact c0_3 | (simp [go_sem, World.cell?_alloc_past, c0_0f, c0_1f, c0_2f, c0_3f, c0_0, c0_1, c0_2, c0_3, c1_0f, c1_1f, c1_0, c1_1, ne_c0_c1, ne_c1_c0, rc0, rc0a, rc0b, rc0c, rc0n, rc1, rc1a, rc1b, rc1c, rc1n]; done)) (by first | exact c0_3f | (simp [go_sem, World.cell?_alloc_past, c0_0f, c0_1f, c0_2f, c0_3f, c0_0, c0_1, c0_2, c0_3, c1_0f, c1_1f, c1_0, c1_1, ne_c0_c1, ne_c1_c0, rc0, rc0a, rc0b, rc0c, rc0n, rc1, rc1a, rc1b, rc1c, rc1n]; done))
  replace c0_0 : w3.cell? ⟨w.heap.size, 0, none⟩ = some (.int .i64 0) := hx3.has (by first | exact c0_0 | (simp [go_sem, World.cell?_alloc_past, c0_0f, c0_1f, c0_2f, c0_3f, c0_0, c0_1, c0_2, c0_3, c1_0f, c1_1f, c1_0, c1_1, ne_c0_c1, ne_c1_c0, rc0, rc0a, rc0b, rc0c, rc0n, rc1, rc1a, rc1b, rc1c, rc1n]; done))
  replace c0_1 : w3.cell? ⟨w.heap.size, 1, none⟩ = some (.int .i64 0) := hx3.has (by first | exact c0_1 | (simp [go_sem, World.cell?_alloc_past, c0_0f, c0_1f, c0_2f, c0_3f, c0_0, c0_1, c0_2, c0_3, c1_0f, c1_1f, c1_0, c1_1, ne_c0_c1, ne_c1_c0, rc0, rc0a, rc0b, rc0c, rc0n, rc1, rc1a, rc1b, rc1c, rc1n]; done))
  replace c0_2 : w3.cell? ⟨w.heap.size, 2, none⟩ = some (.int .i64 0) := hx3.has (by first | exact c0_2 | (simp [go_sem, World.cell?_alloc_past, c0_0f, c0_1f, c0_2f, c0_3f, c0_0, c0_1, c0_2, c0_3, c1_0f, c1_1f, c1_0, c1_1, ne_c0_c1, ne_c1_c0, rc0, rc0a, rc0b, rc0c, rc0n, rc1, rc1a, rc1b, rc1c, rc1n]; done))
  replace c0_3 : w3.cell? ⟨w.heap.size, 3, none⟩ = some (.int .i64 0) := hx3.has (by first | exact c0_3 | (simp [go_sem, World.cell?_alloc_past, c0_0f, c0_1f, c0_2f, c0_3f, c0_0, c0_1, c0_2, c0_3, c1_0f, c1_1f, c1_0, c1_1, ne_c0_c1, ne_c1_c0, rc0, rc0a, rc0b, rc0c, rc0n, rc1, rc1a, rc1b, rc1c, rc1n]; done))
  replace c1_0f : w3.frozen? ⟨w.heap.size + 1, 0, none⟩ = false := hx3.froz (v := .int .i64 0) (by first | exact c1_0 | (simp [go_sem, World.cell?_alloc_past, c0_0f, c0_1f, c0_2f, c0_3f, c0_0, c0_1, c0_2, c0_3, c1_0f, c1_1f, c1_0, c1_1, ne_c0_c1, ne_c1_c0, rc0, rc0a, rc0b, rc0c, rc0n, rc1, rc1a, rc1b, rc1c, rc1n]; done)) (by first | exact c1_0f | (simp [go_sem, World.cell?_alloc_past, c0_0f, c0_1f, c0_2f, c0_3f, c0_0, c0_1, c0_2, c0_3, c1_0f, c1_1f, c1_0, c1_1, ne_c0_c1, ne_c1_c0, rc0, rc0a, rc0b, rc0c, rc0n, rc1, rc1a, rc1b, rc1c, rc1n]; done))
  replace c1_1f : w3.frozen? ⟨w.heap.size + 1, 1, none⟩ = false := hx3.froz (v := .int .i64 0) (by first | exact c1_1 | (simp [go_sem, World.cell?_alloc_past, c0_0f, c0_1f, c0_2f, c0_3f, c0_0, c0_1, c0_2, c0_3, c1_0f, c1_1f, c1_0, c1_1, ne_c0_c1, ne_c1_c0, rc0, rc0a, rc0b, rc0c, rc0n, rc1, rc1a, rc1b, rc1c, rc1n]; done)) (by first | exact c1_1f | (simp [go_sem, World.cell?_alloc_past, c0_0f, c0_1f, c0_2f, c0_3f, c0_0, c0_1, c0_2, c0_3, c1_0f, c1_1f, c1_0, c1_1, ne_c0_c1, ne_c1_c0, rc0, rc0a, rc0b, rc0c, rc0n, rc1, rc1a, rc1b, rc1c, rc1n]; done))
  replace c1_0 : w3.cell? ⟨w.heap.size + 1, 0, none⟩ = some (.int .i64 0) := hx3.has (by first | exact c1_0 | (simp [go_sem, World.cell?_alloc_past, c0_0f, c0_1f, c0_2f, c0_3f, c0_0, c0_1, c0_2, c0_3, c1_0f, c1_1f, c1_0, c1_1, ne_c0_c1, ne_c1_c0, rc0, rc0a, rc0b, rc0c, rc0n, rc1, rc1a, rc1b, rc1c, rc1n]; done))
  replace c1_1 : w3.cell? ⟨w.heap.size + 1, 1, none⟩ = some (.int .i64 0) := hx3.has (by first | exact c1_1 | (simp [go_sem, World.cell?_alloc_past, c0_0f, c0_1f, c0_2f, c0_3f, c0_0, c0_1, c0_2, c0_3, c1_0f, c1_1f, c1_0, c1_1, ne_c0_c1, ne_c1_c0, rc0, rc0a, rc0b, rc0c, rc0n, rc1, rc1a, rc1b, rc1c, rc1n]; done))
  have z3 := hx3.size
  try simp at z3
  replace rc0 : w.heap.size < w3.heap.size := by omega
  replace rc0a : w.heap.size < w3.heap.size + 1 := by omega
  replace rc0b : w.heap.size < w3.heap.size + 1 + 1 := by omega
  replace rc0c : w.heap.size < w3.heap.size + 1 + 1 + 1 := by omega
  replace rc0n : ¬ w.heap.size = w3.heap.size := by omega
  replace rc1 : w.heap.size + 1 < w3.heap.size := by omega
  replace rc1a : w.heap.size + 1 < w3.heap.size + 1 := by omega
  replace rc1b : w.heap.size + 1 < w3.heap.size + 1 + 1 := by omega
  replace rc1c : w.heap.size + 1 < w3.heap.size + 1 + 1 + 1 := by omega
  replace rc1n : ¬ w.heap.size + 1 = w3.heap.size := by omega
  have X3 : Hid (Ext w w3) := Lib.hid (Ext.trans (by repeat (first | with_reducible exact X2.out | with_reducible refine Ext.drew ?_ | with_reducible refine Ext.drewN ?_ _ | with_reducible refine Ext.alloc ?_ _ | with_reducible refine Ext.setCell ?_ (by first | omega | (simp; done) | (simp; omega)) _)) hx3)
  clear HR X2 hx3 z3
  go_wp2_with fail
  refine wp_region_held_drew (S := fun w' => w'.cell? ⟨w3.heap.size, 0, none⟩ = some (.int .i64 E) ∧ w'.cell? ⟨w3.heap.size, 1, none⟩ = some (.int .i64 a)) (by kernel_rfl) (by first | exact ⟨c3_0, c3_1⟩ | (simp [go_sem, World.cell?_alloc_past, c0_0f, c0_1f, c0_2f, c0_3f, c0_0, c0_1, c0_2, c0_3, c1_0f, c1_1f, c1_0, c1_1, ne_c0_c1, ne_c1_c0, rc0, rc0a, rc0b, rc0c, rc0n, rc1, rc1a, rc1b, rc1c, rc1n]; done)) (fun hHeld => ?_)
  (refine' take_in 0 rfl (by kernel_rfl) (by kernel_rfl) (by kernel_rfl) (fun _ _ _ h => h) (by rfl) (by assumption) ?_ ?_; rotate_left; focus (intro w hSw; (try dsimp only at hSw); go_simp; try with_reducible rfl)); try simp only [Act.put, List.setIfInBounds_toArray, List.set_cons_zero, List.set_cons_succ]
  (refine' take_in 1 rfl (by kernel_rfl) (by kernel_rfl) (by kernel_rfl) (fun _ _ _ h => h) (by rfl) (by assumption) ?_ ?_; rotate_left; focus (intro w hSw; (try dsimp only at hSw); go_simp; try with_reducible rfl)); try simp only [Act.put, List.setIfInBounds_toArray, List.set_cons_zero, List.set_cons_succ]
  refine' next_in 2 rfl (by kernel_rfl) (by rfl) (fun K hK => ?_)
  go_simp
  refine hK.out _ _ (by (first | exact ⟨c3_0, c3_1⟩ | (simp [go_sem, World.cell?_alloc_past, c0_0f, c0_1f, c0_2f, c0_3f, c0_0, c0_1, c0_2, c0_3, c1_0f, c1_1f, c1_0, c1_1, ne_c0_c1, ne_c1_c0, rc0, rc0a, rc0b, rc0c, rc0n, rc1, rc1a, rc1b, rc1c, rc1n]; done))) (fun hHeld => ?_); clear hK K; try simp only [Act.put, List.setIfInBounds_toArray, List.set_cons_zero, List.set_cons_succ]
  refine' next_in 3 rfl (by kernel_rfl) (by rfl) (fun K hK => ?_)
  go_simp
  refine hK.out _ _ (by (first | exact ⟨c3_0, c3_1⟩ | (simp [go_sem, World.cell?_alloc_past, c0_0f, c0_1f, c0_2f, c0_3f, c0_0, c0_1, c0_2, c0_3, c1_0f, c1_1f, c1_0, c1_1, ne_c0_c1, ne_c1_c0, rc0, rc0a, rc0b, rc0c, rc0n, rc1, rc1a, rc1b, rc1c, rc1n]; done))) (fun hHeld => ?_); clear hK K; try simp only [Act.put, List.setIfInBounds_toArray, List.set_cons_zero, List.set_cons_succ]
  refine wpAnyH_done (by kernel_rfl) ?_ _
  go_wp2_with fail
  refine bodyPost_ret (v := .tuple #[.agg #[.int .i64 0, .int .i64 0, .int .i64 0, .int .i64 0], .agg #[.int .i64 E, .int .i64 a]]) (by simp [results, Try.results36, go_sem, World.cell?_alloc_past, c0_0f, c0_1f, c0_2f, c0_3f, c0_0, c0_1, c0_2, c0_3, c1_0f, c1_1f, c1_0, c1_1, ne_c0_c1, ne_c1_c0, rc0, rc0a, rc0b, rc0c, rc0n, rc1, rc1a, rc1b, rc1c, rc1n]; try rfl) rfl ⟨rfl, ?_⟩
  exact (by repeat (first | with_reducible exact X3.out | with_reducible refine Ext.drew ?_ | with_reducible refine Ext.drewN ?_ _ | with_reducible refine Ext.alloc ?_ _ | with_reducible refine Ext.setCell ?_ (by first | omega | (simp; done) | (simp; omega)) _))
theorem rRead12_any (A : Option Addr) (c : Nat) (L : List Nat) (hB : Byt L) (hL : L.length < 1099511627776) (w : World) (hs : Sl w 1 A L.length c (by_ L)) :
    Calls Try.prog 36 #[.slice A L.length c] w fun r w' => r = .returned (.tuple #[.agg #[.int .i64 (rdZ L (tkA L (0, none))), .int .i64 (rdZ L (tkB L (0, none))), .int .i64 (rdZ L (tkC L (0, none) - 1)), .int .i64 (rdZ L (tkD L (0, none)))],
      .agg #[.int .i64 (rdS L).1, .int .i64 (if (rdS L).1 = 0 then 0 else (rdS L).2)]]) ∧ Ext w w' := by
  have CN := Lib.hid (fun (w : World) (h : Sl w 1 A L.length c (by_ L)) => rNewReader_any A c L hB w h hL)
  have CT := fun (g : Nat) (w : World) (h : RRd w g L 0 none) => rTake12_any g 0 L none hL w h
  have CE := fun (g : Nat) (w : World) (h : RRd w g L (tk4 L (0, none)).1 (tkF L (0, none))) => rEnd_any g _ L _ w h hL
  unfold rdZ
  by_cases he : (rdS L).1 = 0
  · have hz : tkZ L (0, none) = false := by
      cases h : tkZ L (0, none)
      · rfl
      · exact (rdS_zero he h).elim
    rw [if_pos he, if_pos he, if_pos he, if_pos he, if_pos he, he]
    simp only [hz, Bool.false_eq_true, if_false] at CT
    have h2 : (rdS L).2 = 0 := by
      have zF : FltNz (tkF L (0, none)) := by
        have z4 : FltNz (tk4 L (0, none)).2 := (((FltNz.none.rn L _ _ _).rn L _ _ _).rn L _ _ _).rn L _ _ _
        unfold tkF
        split
        · exact z4
        · exact z4.fail _ _
      obtain ⟨h3, h4⟩ := endF_zero zF (show (endF (tkF L (0, none)) (tk4 L (0, none)).1 L.length).1 = 0 from he)
      unfold rdS endF
      rw [h3]
      simp only
      rw [if_neg (by omega)]
    change ∀ g w, _ → Calls _ _ _ _ (fun r w' => r = .returned (.agg #[.int .i64 (rdS L).1, .int .i64 (rdS L).2]) ∧ Ext w w') at CE
    rw [he, h2] at CE
    exact rRead12_ok A c L.length _ L _ _ _ _ _ w hs CN (Lib.hid CT) (Lib.hid CE)
  · rw [if_neg he, if_neg he, if_neg he, if_neg he, if_neg he]
    exact rRead12_bad A c L.length _ L _ _ _ _ (rdS L).1 (rdS L).2 _ (beq_false_of_ne he) (by simpa using he) w hs CN (Lib.hid CT) (Lib.hid CE)
end Go.Proofs.Ythaknigljjnnaaa
