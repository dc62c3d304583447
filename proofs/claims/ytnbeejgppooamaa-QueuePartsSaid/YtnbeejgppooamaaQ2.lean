/- distraintref12's Backed; distraintref14's One and last. Conditions stand in each lemma. -/
import Derived.Test.YtnbeejgppooamaaQ1
import Derived.Test.YtnbeejgppooamaaRef12C
import Derived.Test.YtnbeejgppooamaaStampE
set_option linter.unusedVariables false
set_option linter.unusedSimpArgs false
namespace Go.Proofs.Ytnbeejgppooamaa
open Go.RowKit Go.ChangeShapes Go.WideShapes Go.Deep Go.Joins

def bkR (E V S P F v h u : Int) : Bool := if E ≠ 0 then false else if v < 0 then false else if v = V then (decide (S ≤ h) && (decide (u < 1) || decide (h ≤ u))) else (decide (v = P) && (decide (F ≤ h) && decide (h ≤ S)))
theorem bkR_eq {V S P F v h u : Int} (hh : h ≤ 9223372036854775807) : bkR (chkS V S P F) V S P F v h u = bkdB V S P F v h u := by
  unfold bkR bkdB
  by_cases he : chkS V S P F = 0
  · obtain ⟨q1, q2, q3, q4, q5, q6, q7, q8, q9, _⟩ := chkS_ok he
    rw [if_neg (by simpa using he), if_pos he]
    unfold hasB
    by_cases hv : v < 0
    · rw [if_pos hv]
      have e1 : (V == v) = false := by simp; omega
      have e2 : (P < 0) ∨ (P == v) = false := by
        by_cases hP : P < 0
        · exact .inl hP
        · right; simp; omega
      rcases e2 with e2 | e2 <;> simp [e1, e2]
    · rw [if_neg hv]
      by_cases hV : v = V
      · rw [if_pos hV]
        have e1 : (V == v) = true := by simp [hV]
        have e2 : (P == v) = false := by simp; omega
        rw [e1, e2]
        by_cases hu : u < 1
        · simp [hu, hh]
        · simp [hu]
      · rw [if_neg hV]
        have e1 : (V == v) = false := by simp; omega
        rw [e1]
        by_cases hP : P < 0
        · have : ¬ v = P := by omega
          simp [hP, this]
        · by_cases hvP : v = P
          · simp [hP, hvP]
          · have : ¬ P = v := fun e => hvP e.symm
            simp [hP, hvP, this]
  · rw [if_pos (by simpa using he), if_neg he]
set_option maxRecDepth 100000 in
set_option maxHeartbeats 4000000 in
theorem rBacked12_any (V S P F v h u : Int) (hh : h ≤ 9223372036854775807) (w : World) :
    Calls Try.prog 50 #[.agg #[.int .i64 V, .int .i64 S, .int .i64 P, .int .i64 F], .int .i64 v, .int .i64 h, .int .i64 u] w fun r w' => r = .returned (.bool (bkdB V S P F v h u)) ∧ Ext w w' := by
  rw [← bkR_eq hh]
  have CE := Lib.hid (fun w => rCheck12_any V S P F w)
  obtain ⟨E, hE⟩ : ∃ E, E = chkS V S P F := ⟨_, rfl⟩
  rw [← hE] at CE ⊢
  obtain ⟨b, hb⟩ : ∃ b, b = (decide (F ≤ h) && decide (h ≤ S)) := ⟨_, rfl⟩
  have CW := Lib.hid (fun w => rwithin_any h F S b (by rw [hb]; unfold outB; by_cases h1 : F ≤ h <;> by_cases h2 : h ≤ S <;> simp [h1, h2] <;> omega) w)
  have HB := Lib.hid hb
  clear hE hb
  go_enter Try.func50, Try.ntmps50
  by_cases q1 : ¬ E = 0
  · have q1b : (E != 0) = true := by simp [q1]
    go_wp2_with fail
    (with_reducible refine (CE.out _).mono ?_)
    rintro e w1 ⟨rfl, hx1⟩
    have c0_0 : w1.cell? ⟨w.heap.size, 0, none⟩ = some (.int .i64 V) := hx1.has (by first | fail | (simp [go_sem, World.cell?_alloc_past]; done))
    have c0_1 : w1.cell? ⟨w.heap.size, 1, none⟩ = some (.int .i64 S) := hx1.has (by first | fail | (simp [go_sem, World.cell?_alloc_past]; done))
    have c0_2 : w1.cell? ⟨w.heap.size, 2, none⟩ = some (.int .i64 P) := hx1.has (by first | fail | (simp [go_sem, World.cell?_alloc_past]; done))
    have c0_3 : w1.cell? ⟨w.heap.size, 3, none⟩ = some (.int .i64 F) := hx1.has (by first | fail | (simp [go_sem, World.cell?_alloc_past]; done))
    have z1 := hx1.size
    try simp at z1
    have rc0 : w.heap.size < w1.heap.size := by omega
    have rc0a : w.heap.size < w1.heap.size + 1 := by omega
    have rc0b : w.heap.size < w1.heap.size + 1 + 1 := by omega
    have rc0c : w.heap.size < w1.heap.size + 1 + 1 + 1 := by omega
    have rc0n : ¬ w.heap.size = w1.heap.size := by omega
    have X1 : Hid (Ext w w1) := Lib.hid (Ext.trans (by repeat (first | with_reducible exact Ext.refl w | with_reducible refine Ext.drew ?_ | with_reducible refine Ext.drewN ?_ _ | with_reducible refine Ext.alloc ?_ _ | with_reducible refine Ext.setCell ?_ (by first | omega | (simp; done) | (simp; omega)) _)) hx1)
    clear hx1 z1
    go_wp2_with fail
    go_ret
    exact ⟨ret_bool (by unfold bkR; rw [if_pos (by omega)]), (by repeat (first | with_reducible exact X1.out | with_reducible refine Ext.drew ?_ | with_reducible refine Ext.drewN ?_ _ | with_reducible refine Ext.alloc ?_ _ | with_reducible refine Ext.setCell ?_ (by first | omega | (simp; done) | (simp; omega)) _))⟩
  · have q1b : (E != 0) = false := by simpa using q1
    go_wp2_with fail
    (with_reducible refine (CE.out _).mono ?_)
    rintro e w1 ⟨rfl, hx1⟩
    have c0_0 : w1.cell? ⟨w.heap.size, 0, none⟩ = some (.int .i64 V) := hx1.has (by first | fail | (simp [go_sem, World.cell?_alloc_past]; done))
    have c0_1 : w1.cell? ⟨w.heap.size, 1, none⟩ = some (.int .i64 S) := hx1.has (by first | fail | (simp [go_sem, World.cell?_alloc_past]; done))
    have c0_2 : w1.cell? ⟨w.heap.size, 2, none⟩ = some (.int .i64 P) := hx1.has (by first | fail | (simp [go_sem, World.cell?_alloc_past]; done))
    have c0_3 : w1.cell? ⟨w.heap.size, 3, none⟩ = some (.int .i64 F) := hx1.has (by first | fail | (simp [go_sem, World.cell?_alloc_past]; done))
    have z1 := hx1.size
    try simp at z1
    have rc0 : w.heap.size < w1.heap.size := by omega
    have rc0a : w.heap.size < w1.heap.size + 1 := by omega
    have rc0b : w.heap.size < w1.heap.size + 1 + 1 := by omega
    have rc0c : w.heap.size < w1.heap.size + 1 + 1 + 1 := by omega
    have rc0n : ¬ w.heap.size = w1.heap.size := by omega
    have X1 : Hid (Ext w w1) := Lib.hid (Ext.trans (by repeat (first | with_reducible exact Ext.refl w | with_reducible refine Ext.drew ?_ | with_reducible refine Ext.drewN ?_ _ | with_reducible refine Ext.alloc ?_ _ | with_reducible refine Ext.setCell ?_ (by first | omega | (simp; done) | (simp; omega)) _)) hx1)
    clear hx1 z1
    by_cases q2 : v < 0
    · go_wp2_with fail
      go_ret
      exact ⟨ret_bool (by unfold bkR; rw [if_neg (by omega)]; rw [if_pos (by omega)]), (by repeat (first | with_reducible exact X1.out | with_reducible refine Ext.drew ?_ | with_reducible refine Ext.drewN ?_ _ | with_reducible refine Ext.alloc ?_ _ | with_reducible refine Ext.setCell ?_ (by first | omega | (simp; done) | (simp; omega)) _))⟩
    · by_cases q3 : v = V
      · have q3b : (v == V) = true := by simpa using q3
        clear q3
        have q3 := Lib.hid q3b
        by_cases q4 : S ≤ h
        · by_cases q5 : u < 1
          · go_wp2_with fail
            go_ret
            have q3' : v = V := by simpa using q3.out
            exact ⟨ret_bool (by unfold bkR; rw [if_neg (by omega)]; rw [if_neg (by omega)]; rw [if_pos q3']; rw [decide_eq_true (show S ≤ h by omega), Bool.true_and]; rw [decide_eq_true (show u < 1 by omega), Bool.true_or]), (by repeat (first | with_reducible exact X1.out | with_reducible refine Ext.drew ?_ | with_reducible refine Ext.drewN ?_ _ | with_reducible refine Ext.alloc ?_ _ | with_reducible refine Ext.setCell ?_ (by first | omega | (simp; done) | (simp; omega)) _))⟩
          · go_wp2_with fail
            go_ret
            have q3' : v = V := by simpa using q3.out
            exact ⟨ret_bool (by unfold bkR; rw [if_neg (by omega)]; rw [if_neg (by omega)]; rw [if_pos q3']; rw [decide_eq_true (show S ≤ h by omega), Bool.true_and]; try rw [decide_eq_false (show ¬ u < 1 by omega), Bool.false_or]), (by repeat (first | with_reducible exact X1.out | with_reducible refine Ext.drew ?_ | with_reducible refine Ext.drewN ?_ _ | with_reducible refine Ext.alloc ?_ _ | with_reducible refine Ext.setCell ?_ (by first | omega | (simp; done) | (simp; omega)) _))⟩
        · go_wp2_with fail
          go_ret
          have q3' : v = V := by simpa using q3.out
          exact ⟨ret_bool (by unfold bkR; rw [if_neg (by omega)]; rw [if_neg (by omega)]; rw [if_pos q3']; rw [decide_eq_false (show ¬ S ≤ h by omega), Bool.false_and]), (by repeat (first | with_reducible exact X1.out | with_reducible refine Ext.drew ?_ | with_reducible refine Ext.drewN ?_ _ | with_reducible refine Ext.alloc ?_ _ | with_reducible refine Ext.setCell ?_ (by first | omega | (simp; done) | (simp; omega)) _))⟩
      · have q3b : (v == V) = false := by simpa using q3
        by_cases q6 : v = P
        · have q6b : (v == P) = true := by simpa using q6
          clear q6
          have q6 := Lib.hid q6b
          go_wp2_with fail
          (with_reducible refine (CW.out _).mono ?_)
          rintro e w_1 ⟨rfl, rfl⟩
          go_wp2_with fail
          go_ret
          have q6' : v = P := by simpa using q6.out
          exact ⟨ret_bool (by unfold bkR; rw [if_neg (by omega)]; rw [if_neg (by omega)]; rw [if_neg (by simpa using q3b)]; rw [HB.out, decide_eq_true q6', Bool.true_and]), (by repeat (first | with_reducible exact X1.out | with_reducible refine Ext.drew ?_ | with_reducible refine Ext.drewN ?_ _ | with_reducible refine Ext.alloc ?_ _ | with_reducible refine Ext.setCell ?_ (by first | omega | (simp; done) | (simp; omega)) _))⟩
        · have q6b : (v == P) = false := by simpa using q6
          go_wp2_with fail
          go_ret
          exact ⟨ret_bool (by unfold bkR; rw [if_neg (by omega)]; rw [if_neg (by omega)]; rw [if_neg (by simpa using q3b)]; rw [decide_eq_false (by simpa using q6b), Bool.false_and]), (by repeat (first | with_reducible exact X1.out | with_reducible refine Ext.drew ?_ | with_reducible refine Ext.drewN ?_ _ | with_reducible refine Ext.alloc ?_ _ | with_reducible refine Ext.setCell ?_ (by first | omega | (simp; done) | (simp; omega)) _))⟩
set_option maxRecDepth 100000 in
set_option maxHeartbeats 4000000 in
theorem rOne_any (xo xv xs xp xf xc xi xb E a : Int) (w : World) (hE : chkS xv xs xp xf = E) :
    Calls Try.prog 45 #[.agg #[.int .i64 xo, .int .i64 xv, .int .i64 xs, .int .i64 xp, .int .i64 xf, .int .i64 xc, .int .u64 xi, .int .u64 xb], .int .i64 a] w fun e w' => e = .returned (.int .i64 (oneG xo E xc xs a xi xb)) ∧ Ext w w' := by
  have CE := Lib.hid (fun w => rCheck12_any xv xs xp xf w)
  rw [hE] at CE
  have CH := Lib.hid (fun w => r14height_any xc _ rfl w)
  clear hE
  by_cases hc : 1 ≤ xc ∧ xc ≤ 4294967296
  · rw [show (decide (1 ≤ xc) && decide (xc ≤ 4294967296)) = true from by simp; omega] at CH
    go_enter Try.func45, Try.ntmps45
    by_cases q1 : xo < 0
    · go_wp2_with fail
      go_ret
      exact ⟨ret_int (by unfold oneG; (repeat' split) <;> omega), (by repeat (first | with_reducible exact Ext.refl w | with_reducible refine Ext.drew ?_ | with_reducible refine Ext.drewN ?_ _ | with_reducible refine Ext.alloc ?_ _ | with_reducible refine Ext.setCell ?_ (by first | omega | (simp; done) | (simp; omega)) _))⟩
    · by_cases q2 : 64 ≤ xo
      · go_wp2_with fail
        go_ret
        exact ⟨ret_int (by unfold oneG; (repeat' split) <;> omega), (by repeat (first | with_reducible exact Ext.refl w | with_reducible refine Ext.drew ?_ | with_reducible refine Ext.drewN ?_ _ | with_reducible refine Ext.alloc ?_ _ | with_reducible refine Ext.setCell ?_ (by first | omega | (simp; done) | (simp; omega)) _))⟩
      · by_cases q3 : ¬ E = 0
        · have q3b : (E != 0) = true := by simp [q3]
          go_wp2_with fail
          (with_reducible refine (CE.out _).mono ?_)
          rintro e w1 ⟨rfl, hx1⟩
          have c0_2 : w1.cell? ⟨w.heap.size, 2, none⟩ = some (.int .i64 xs) := hx1.has (by first | fail | (simp [go_sem, World.cell?_alloc_past]; done))
          have c0_5 : w1.cell? ⟨w.heap.size, 5, none⟩ = some (.int .i64 xc) := hx1.has (by first | fail | (simp [go_sem, World.cell?_alloc_past]; done))
          have c0_6 : w1.cell? ⟨w.heap.size, 6, none⟩ = some (.int .u64 xi) := hx1.has (by first | fail | (simp [go_sem, World.cell?_alloc_past]; done))
          have c0_7 : w1.cell? ⟨w.heap.size, 7, none⟩ = some (.int .u64 xb) := hx1.has (by first | fail | (simp [go_sem, World.cell?_alloc_past]; done))
          have z1 := hx1.size
          try simp at z1
          have rc0 : w.heap.size < w1.heap.size := by omega
          have rc0a : w.heap.size < w1.heap.size + 1 := by omega
          have rc0b : w.heap.size < w1.heap.size + 1 + 1 := by omega
          have rc0c : w.heap.size < w1.heap.size + 1 + 1 + 1 := by omega
          have rc0n : ¬ w.heap.size = w1.heap.size := by omega
          have X1 : Hid (Ext w w1) := Lib.hid (Ext.trans (by repeat (first | with_reducible exact Ext.refl w | with_reducible refine Ext.drew ?_ | with_reducible refine Ext.drewN ?_ _ | with_reducible refine Ext.alloc ?_ _ | with_reducible refine Ext.setCell ?_ (by first | omega | (simp; done) | (simp; omega)) _)) hx1)
          clear hx1 z1
          go_wp2_with fail
          go_ret
          exact ⟨ret_int (by unfold oneG; (repeat' split) <;> omega), (by repeat (first | with_reducible exact X1.out | with_reducible refine Ext.drew ?_ | with_reducible refine Ext.drewN ?_ _ | with_reducible refine Ext.alloc ?_ _ | with_reducible refine Ext.setCell ?_ (by first | omega | (simp; done) | (simp; omega)) _))⟩
        · have q3b : (E != 0) = false := by simpa using q3
          go_wp2_with fail
          (with_reducible refine (CE.out _).mono ?_)
          rintro e w1 ⟨rfl, hx1⟩
          have c0_2 : w1.cell? ⟨w.heap.size, 2, none⟩ = some (.int .i64 xs) := hx1.has (by first | fail | (simp [go_sem, World.cell?_alloc_past]; done))
          have c0_5 : w1.cell? ⟨w.heap.size, 5, none⟩ = some (.int .i64 xc) := hx1.has (by first | fail | (simp [go_sem, World.cell?_alloc_past]; done))
          have c0_6 : w1.cell? ⟨w.heap.size, 6, none⟩ = some (.int .u64 xi) := hx1.has (by first | fail | (simp [go_sem, World.cell?_alloc_past]; done))
          have c0_7 : w1.cell? ⟨w.heap.size, 7, none⟩ = some (.int .u64 xb) := hx1.has (by first | fail | (simp [go_sem, World.cell?_alloc_past]; done))
          have z1 := hx1.size
          try simp at z1
          have rc0 : w.heap.size < w1.heap.size := by omega
          have rc0a : w.heap.size < w1.heap.size + 1 := by omega
          have rc0b : w.heap.size < w1.heap.size + 1 + 1 := by omega
          have rc0c : w.heap.size < w1.heap.size + 1 + 1 + 1 := by omega
          have rc0n : ¬ w.heap.size = w1.heap.size := by omega
          have X1 : Hid (Ext w w1) := Lib.hid (Ext.trans (by repeat (first | with_reducible exact Ext.refl w | with_reducible refine Ext.drew ?_ | with_reducible refine Ext.drewN ?_ _ | with_reducible refine Ext.alloc ?_ _ | with_reducible refine Ext.setCell ?_ (by first | omega | (simp; done) | (simp; omega)) _)) hx1)
          clear hx1 z1
          go_wp2_with fail
          (with_reducible refine (CH.out _).mono ?_)
          rintro e w_1 ⟨rfl, rfl⟩
          by_cases q5 : xc < xs
          · have d5 : decide (xc < xs) = true := decide_eq_true q5
            go_wp2_with fail
            go_ret
            exact ⟨ret_int (by unfold oneG; (repeat' split) <;> omega), (by repeat (first | with_reducible exact X1.out | with_reducible refine Ext.drew ?_ | with_reducible refine Ext.drewN ?_ _ | with_reducible refine Ext.alloc ?_ _ | with_reducible refine Ext.setCell ?_ (by first | omega | (simp; done) | (simp; omega)) _))⟩
          · have d5 : decide (xc < xs) = false := decide_eq_false q5
            by_cases q6 : xc < a
            · go_wp2_with fail
              go_ret
              exact ⟨ret_int (by unfold oneG; (repeat' split) <;> omega), (by repeat (first | with_reducible exact X1.out | with_reducible refine Ext.drew ?_ | with_reducible refine Ext.drewN ?_ _ | with_reducible refine Ext.alloc ?_ _ | with_reducible refine Ext.setCell ?_ (by first | omega | (simp; done) | (simp; omega)) _))⟩
            · by_cases q7 : xi = 0
              · have q7b : (xi == 0) = true := by simpa using q7
                go_wp2_with fail
                go_ret
                exact ⟨ret_int (by unfold oneG; (repeat' split) <;> omega), (by repeat (first | with_reducible exact X1.out | with_reducible refine Ext.drew ?_ | with_reducible refine Ext.drewN ?_ _ | with_reducible refine Ext.alloc ?_ _ | with_reducible refine Ext.setCell ?_ (by first | omega | (simp; done) | (simp; omega)) _))⟩
              · have q7b : (xi == 0) = false := by simpa using q7
                by_cases q8 : xi < xb
                · go_wp2_with fail
                  go_ret
                  exact ⟨ret_int (by unfold oneG; (repeat' split) <;> omega), (by repeat (first | with_reducible exact X1.out | with_reducible refine Ext.drew ?_ | with_reducible refine Ext.drewN ?_ _ | with_reducible refine Ext.alloc ?_ _ | with_reducible refine Ext.setCell ?_ (by first | omega | (simp; done) | (simp; omega)) _))⟩
                · go_wp2_with fail
                  go_ret
                  exact ⟨ret_int (by unfold oneG; (repeat' split) <;> omega), (by repeat (first | with_reducible exact X1.out | with_reducible refine Ext.drew ?_ | with_reducible refine Ext.drewN ?_ _ | with_reducible refine Ext.alloc ?_ _ | with_reducible refine Ext.setCell ?_ (by first | omega | (simp; done) | (simp; omega)) _))⟩
  · rw [show (decide (1 ≤ xc) && decide (xc ≤ 4294967296)) = false from by simp; omega] at CH
    go_enter Try.func45, Try.ntmps45
    by_cases q1 : xo < 0
    · go_wp2_with fail
      go_ret
      exact ⟨ret_int (by unfold oneG; (repeat' split) <;> omega), (by repeat (first | with_reducible exact Ext.refl w | with_reducible refine Ext.drew ?_ | with_reducible refine Ext.drewN ?_ _ | with_reducible refine Ext.alloc ?_ _ | with_reducible refine Ext.setCell ?_ (by first | omega | (simp; done) | (simp; omega)) _))⟩
    · by_cases q2 : 64 ≤ xo
      · go_wp2_with fail
        go_ret
        exact ⟨ret_int (by unfold oneG; (repeat' split) <;> omega), (by repeat (first | with_reducible exact Ext.refl w | with_reducible refine Ext.drew ?_ | with_reducible refine Ext.drewN ?_ _ | with_reducible refine Ext.alloc ?_ _ | with_reducible refine Ext.setCell ?_ (by first | omega | (simp; done) | (simp; omega)) _))⟩
      · by_cases q3 : ¬ E = 0
        · have q3b : (E != 0) = true := by simp [q3]
          go_wp2_with fail
          (with_reducible refine (CE.out _).mono ?_)
          rintro e w1 ⟨rfl, hx1⟩
          have c0_5 : w1.cell? ⟨w.heap.size, 5, none⟩ = some (.int .i64 xc) := hx1.has (by first | fail | (simp [go_sem, World.cell?_alloc_past]; done))
          have z1 := hx1.size
          try simp at z1
          have rc0 : w.heap.size < w1.heap.size := by omega
          have rc0a : w.heap.size < w1.heap.size + 1 := by omega
          have rc0b : w.heap.size < w1.heap.size + 1 + 1 := by omega
          have rc0c : w.heap.size < w1.heap.size + 1 + 1 + 1 := by omega
          have rc0n : ¬ w.heap.size = w1.heap.size := by omega
          have X1 : Hid (Ext w w1) := Lib.hid (Ext.trans (by repeat (first | with_reducible exact Ext.refl w | with_reducible refine Ext.drew ?_ | with_reducible refine Ext.drewN ?_ _ | with_reducible refine Ext.alloc ?_ _ | with_reducible refine Ext.setCell ?_ (by first | omega | (simp; done) | (simp; omega)) _)) hx1)
          clear hx1 z1
          go_wp2_with fail
          go_ret
          exact ⟨ret_int (by unfold oneG; (repeat' split) <;> omega), (by repeat (first | with_reducible exact X1.out | with_reducible refine Ext.drew ?_ | with_reducible refine Ext.drewN ?_ _ | with_reducible refine Ext.alloc ?_ _ | with_reducible refine Ext.setCell ?_ (by first | omega | (simp; done) | (simp; omega)) _))⟩
        · have q3b : (E != 0) = false := by simpa using q3
          go_wp2_with fail
          (with_reducible refine (CE.out _).mono ?_)
          rintro e w1 ⟨rfl, hx1⟩
          have c0_5 : w1.cell? ⟨w.heap.size, 5, none⟩ = some (.int .i64 xc) := hx1.has (by first | fail | (simp [go_sem, World.cell?_alloc_past]; done))
          have z1 := hx1.size
          try simp at z1
          have rc0 : w.heap.size < w1.heap.size := by omega
          have rc0a : w.heap.size < w1.heap.size + 1 := by omega
          have rc0b : w.heap.size < w1.heap.size + 1 + 1 := by omega
          have rc0c : w.heap.size < w1.heap.size + 1 + 1 + 1 := by omega
          have rc0n : ¬ w.heap.size = w1.heap.size := by omega
          have X1 : Hid (Ext w w1) := Lib.hid (Ext.trans (by repeat (first | with_reducible exact Ext.refl w | with_reducible refine Ext.drew ?_ | with_reducible refine Ext.drewN ?_ _ | with_reducible refine Ext.alloc ?_ _ | with_reducible refine Ext.setCell ?_ (by first | omega | (simp; done) | (simp; omega)) _)) hx1)
          clear hx1 z1
          go_wp2_with fail
          (with_reducible refine (CH.out _).mono ?_)
          rintro e w_1 ⟨rfl, rfl⟩
          go_wp2_with fail
          go_ret
          exact ⟨ret_int (by unfold oneG; (repeat' split) <;> omega), (by repeat (first | with_reducible exact X1.out | with_reducible refine Ext.drew ?_ | with_reducible refine Ext.drewN ?_ _ | with_reducible refine Ext.alloc ?_ _ | with_reducible refine Ext.setCell ?_ (by first | omega | (simp; done) | (simp; omega)) _))⟩
set_option maxRecDepth 100000 in
set_option maxHeartbeats 4000000 in
theorem rLast_any (A : Option Addr) (n c : Nat) (l : List (Int × Int × Int × Int × Int × Int × Int × Int)) (w : World) (hs : Sl w 8 A n c (l.flatMap entC)) :
    Calls Try.prog 46 #[.slice A n c] w fun e w' => e = .returned (.int .i64 (lastQ l)) ∧ w = w' := by
  have hll := hs.rlen entC_len (by decide)
  have hsm := hs.small
  by_cases hz : n = 0
  · subst hz
    rw [show lastQ l = 0 from by rw [List.eq_nil_of_length_eq_zero hll]; rfl]
    clear hs hll
    go_enter Try.func46, Try.ntmps46
    go_wp2
    go_ret
    exact ⟨rfl, rfl⟩
  · obtain ⟨N, rfl⟩ : ∃ N, n = N + 1 := ⟨n - 1, by omega⟩
    obtain ⟨b1, o1, rfl, hb1, hc_x⟩ := hs.rec_ entC_len (show 0 < N + 1 from by omega)
    obtain ⟨y, hy⟩ : ∃ x, l[N]? = some x := ⟨_, List.getElem?_eq_getElem (by omega)⟩
    have y_5 := hc_x N y hy 5 _ rfl
    rw [← Nat.add_assoc] at y_5
    obtain ⟨a, ha⟩ : ∃ a, a = lastQ l := ⟨_, rfl⟩
    rw [show y.2.2.2.2.2.1 = a from by rw [ha]; exact (lastQ_at hll hy).symm] at y_5
    rw [← ha]
    have hN1 : (N : Int) + 1 - 1 = (N : Int) := by omega
    have hNl : (N : Int) < (N : Int) + 1 := by omega
    have hNe : (((N : Int) + 1) == 0) = false := by simp; omega
    clear hs hll hc_x hy ha
    go_enter Try.func46, Try.ntmps46
    go_wp2
    go_ret
    exact ⟨rfl, rfl⟩
end Go.Proofs.Ytnbeejgppooamaa
