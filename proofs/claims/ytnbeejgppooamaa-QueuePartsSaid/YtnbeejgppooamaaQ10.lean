/- law14: cuts and awake. Conditions stand in each lemma. -/
import Derived.Test.YtnbeejgppooamaaQ9
set_option linter.unusedVariables false
set_option linter.unusedSimpArgs false
namespace Go.Proofs.Ytnbeejgppooamaa
open Go.RowKit Go.ChangeShapes Go.WideShapes Go.Deep Go.Joins

theorem word_d {x : Int} (h0 : 0 ≤ x) (h1 : x < 18446744073709551616) : Word x := ⟨h0, h1⟩
theorem shaveC_same (x0 x1 : Int) (w : World) : (binOp .neq 68 (.agg #[.int .i64 x0, .int .u64 x1]) (.agg #[.int .i64 x0, .int .u64 x1])).run Try.prog w = .ok (.bool false) w := by
  have hS : Try.prog.underlying 68 = some (.struct (Try.prog.fieldsOf 68)) := by kernel_rfl
  have hp : Try.prog.stoodInHeld 68 = false := by kernel_rfl
  rw [run_neq_struct, show (10000 : Nat) = 9999 + 1 from rfl, run_equalIn_agg w 9999 68 _ _ hS hp]
  simp only [Program.fieldsOf, Try.underlying68]
  go_simp
theorem qtotal_ev (A : Option Addr) (n c : Nat) (l : List (Int × Int × Int × Int × Int × Int × Int × Int)) (u e : Int) (w : World) (h : Sl w 8 A n c (l.flatMap entC)) (hf : ∀ x ∈ l, FitsQ x) (he : e = (chkQ l).1) (hu : u = if e = 0 then totB l else 0) :
    Calls Try.prog 20 #[.slice A n c] w fun r w' => r = .returned (.tuple #[.int .u64 u, .int .i64 e]) ∧ Ext w w' := by
  subst he
  exact qtotal_any A n c l (chkQ l).1 (chkQ l).2 w h hf rfl u hu
set_option maxRecDepth 100000 in
set_option maxHeartbeats 4000000 in
theorem cuts14_t (v h p all : Int) (B : Option Addr) (m d : Nat) (W : List Int) (R : List (Int × Int × Int × Int × Int × Int × Int × Int)) (S : List (Int × Int)) (w : World) (hw : Sl w 1 B m d (iv .u64 W)) (hm : m ≤ 100) (hh : h ≤ 9223372036854775807) (hp : Word p) (hv : (R, S, all, 0) = cutV chapQ v h p) (hS : S = W.mapIdx fun i x => ((i : Int), x)) :
    Calls Try.prog 31 #[.int .i64 v, .int .i64 h, .int .u64 p, .int .u64 all, .slice B m d] w fun e w' => e = .returned (.bool true) ∧ Ext w w' := by
  have hWl := hw.ilen
  have hSl : S.length = m := by rw [hS, List.length_mapIdx, hWl]
  have e0 : ((S.length : Int) != (m : Int)) = false := by rw [hSl]; simp
  have HW := Lib.hid hw
  have HH := Lib.hid hh
  have HPP := Lib.hid hp
  have HV := Lib.hid hv
  have HSE := Lib.hid hS
  have HSL := Lib.hid hSl
  have HWL := Lib.hid hWl
  have q1 := shaveC_same
  have q2 := shaveC_eqg
  clear hw hh hp hv hS hSl hWl
  go_enter Try.func31, Try.ntmps31
  go_wp2_with fail
  (with_reducible refine (chapter14_any _).mono ?_)
  rintro e w1 ⟨A1, c1, rfl, hn1, hO1, hx1⟩
  have z1 := hx1.size
  try simp at z1
  replace HW := Lib.hid (HW.out.ext (Ext.trans (by repeat (first | with_reducible exact Ext.refl _ | with_reducible refine Ext.drew ?_ | with_reducible refine Ext.drewN ?_ _ | with_reducible refine Ext.alloc ?_ _ | with_reducible refine Ext.setCell ?_ (by first | omega | (simp; done) | (simp; omega)) _)) hx1))
  have X1 : Hid (Ext w w1) := Lib.hid (Ext.trans (by repeat (first | with_reducible exact Ext.refl w | with_reducible refine Ext.drew ?_ | with_reducible refine Ext.drewN ?_ _ | with_reducible refine Ext.alloc ?_ _ | with_reducible refine Ext.setCell ?_ (by first | omega | (simp; done) | (simp; omega)) _)) hx1)
  have HO := Lib.hid hO1
  clear hx1 z1 hO1
  have HN1 := Lib.hid hn1
  clear hn1
  go_wp2_with fail
  (with_reducible refine (qcut_ev A1 3 c1 chapQ R S v h p all 0 _ (HO.out.ext (by repeat (first | with_reducible exact Ext.refl _ | with_reducible refine Ext.drew ?_ | with_reducible refine Ext.drewN ?_ _ | with_reducible refine Ext.alloc ?_ _ | with_reducible refine Ext.setCell ?_ (by first | omega | (simp; done) | (simp; omega)) _))).sl (by decide) chapQ_fits HN1.out HH.out HPP.out HV.out).mono ?_)
  rintro e w2 ⟨A2, c2, A3, c3, rfl, _, _, _, hO3, _, hx2⟩
  have z2 := hx2.size
  try simp at z2
  replace HW := Lib.hid (HW.out.ext (Ext.trans (by repeat (first | with_reducible exact Ext.refl _ | with_reducible refine Ext.drew ?_ | with_reducible refine Ext.drewN ?_ _ | with_reducible refine Ext.alloc ?_ _ | with_reducible refine Ext.setCell ?_ (by first | omega | (simp; done) | (simp; omega)) _)) hx2))
  have X2 : Hid (Ext w w2) := Lib.hid (Ext.trans (by repeat (first | with_reducible exact X1.out | with_reducible refine Ext.drew ?_ | with_reducible refine Ext.drewN ?_ _ | with_reducible refine Ext.alloc ?_ _ | with_reducible refine Ext.setCell ?_ (by first | omega | (simp; done) | (simp; omega)) _)) hx2)
  have HS3 := Lib.hid (OwnShave.sl hO3)
  clear HO X1 hx2 z2
  clear hO3
  have HX2 : Hid (Ext w _) := Lib.hid (by repeat (first | with_reducible exact X2.out | with_reducible refine Ext.drew ?_ | with_reducible refine Ext.drewN ?_ _ | with_reducible refine Ext.alloc ?_ _ | with_reducible refine Ext.setCell ?_ (by first | omega | (simp; done) | (simp; omega)) _))
  have HW0 : Hid (Sl w2 1 B m d (iv .u64 W)) := Lib.hid (HW.out.ext (by repeat (first | with_reducible exact Ext.refl _ | with_reducible refine Ext.drew ?_ | with_reducible refine Ext.drewN ?_ _ | with_reducible refine Ext.alloc ?_ _ | with_reducible refine Ext.setCell ?_ (by first | omega | (simp; done) | (simp; omega)) _)))
  have HS0 : Hid (Sl w2 2 A3 S.length c3 (S.flatMap shaveC)) := Lib.hid (HS3.out.ext (by repeat (first | with_reducible exact Ext.refl _ | with_reducible refine Ext.drew ?_ | with_reducible refine Ext.drewN ?_ _ | with_reducible refine Ext.alloc ?_ _ | with_reducible refine Ext.setCell ?_ (by first | omega | (simp; done) | (simp; omega)) _)))
  clear HW HS3 X2
  go_wp2_with fail
  go_loopg [15] m (fun gh i wx => gh ≤ m ∧ i = .int .i64 ((m - gh : Nat) : Int) ∧ Hid (Sl wx 1 B m d (iv .u64 W)) ∧ Hid (Sl wx 2 A3 S.length c3 (S.flatMap shaveC)) ∧ Hid (Ext w wx))
  case atStart => exact ⟨Nat.le_refl _, by simp, HW0, HS0, HX2⟩
  case round =>
    obtain ⟨hg, hi, HW1, HS1, XR⟩ := hrel
    obtain ⟨k, hk⟩ : ∃ k, k = m - gk := ⟨_, rfl⟩
    rw [← hk] at hi
    subst hi
    clear HX2 HW0 HS0
    by_cases hz : gk = 0
    · have hkn : ¬ (k : Int) < (S.length : Int) := by have := HSL.out; omega
      clear hg hz hk
      go_wp2_with fail
      go_ret
      exact ⟨rfl, XR.out⟩
    · have hsl := HSL.out
      have hkn : (k : Int) < (S.length : Int) := by omega
      have hkm : k < m := by omega
      obtain ⟨b2, o2, rfl, hb2, hc2⟩ := HW1.out.cell hkm
      obtain ⟨b1, o1, rfl, hb1, hc_x⟩ := HS1.out.rec_ shaveC_len (show 0 < S.length from by omega)
      have y_0 := hc2 k hkm
      obtain ⟨x1, hx1⟩ : ∃ x, x = W.getD k 0 := ⟨_, rfl⟩
      rw [← hx1] at y_0
      have hl_x : S[k]? = some ((k : Int), x1) := by
        rw [HSE.out, List.getElem?_mapIdx, hx1, List.getD_eq_getElem?_getD, List.getElem?_eq_getElem (by have := HWL.out; omega)]
        simp
      have x_0 := hc_x k _ hl_x 0 _ rfl
      have x_1 := hc_x k _ hl_x 1 _ rfl
      simp only at x_0 x_1
      rw [Nat.add_zero] at x_0
      rw [← Nat.add_assoc] at x_1
      have HK := Lib.hid (And.intro hk (And.intro hg hz))
      clear hk hg hz hl_x hc_x hc2 hx1 hsl
      go_wp2_with fail
      refine wp_region_held_drew (S := fun w' => w'.cell? ⟨b1, o1 + k * 2, none⟩ = some (.int .i64 (k : Int)) ∧ w'.cell? ⟨b1, o1 + k * 2 + 1, none⟩ = some (.int .u64 x1) ∧ w'.cell? ⟨b2, o2 + k, none⟩ = some (.int .u64 x1)) (by kernel_rfl) (by first | exact ⟨x_0, x_1, y_0⟩ | (simp [go_sem, World.cell?_alloc_past, x_0, x_1, y_0]; done)) (fun hHeld => ?_)
      (refine' take_in 0 rfl (by kernel_rfl) (by kernel_rfl) (by kernel_rfl) (fun _ _ _ h => h) (by rfl) (by assumption) ?_ ?_; rotate_left; focus (intro w hSw; (try dsimp only at hSw); go_simp; try with_reducible rfl)); try simp only [Act.put, List.setIfInBounds_toArray, List.set_cons_zero, List.set_cons_succ]
      (refine' take_in 1 rfl (by kernel_rfl) (by kernel_rfl) (by kernel_rfl) (fun _ _ _ h => h) (by rfl) (by assumption) ?_ ?_; rotate_left; focus (intro w hSw; (try dsimp only at hSw); go_simp; try with_reducible rfl)); try simp only [Act.put, List.setIfInBounds_toArray, List.set_cons_zero, List.set_cons_succ]
      (refine' take_in 2 rfl (by kernel_rfl) (by kernel_rfl) (by kernel_rfl) (fun _ _ _ h => h) (by rfl) (by assumption) ?_ ?_; rotate_left; focus (intro w hSw; (try dsimp only at hSw); go_simp; try with_reducible rfl)); try simp only [Act.put, List.setIfInBounds_toArray, List.set_cons_zero, List.set_cons_succ]
      (refine' take_in 3 rfl (by kernel_rfl) (by kernel_rfl) (by kernel_rfl) (fun _ _ _ h => h) (by rfl) (by assumption) ?_ ?_; rotate_left; focus (intro w hSw; (try dsimp only at hSw); go_simp; try with_reducible rfl)); try simp only [Act.put, List.setIfInBounds_toArray, List.set_cons_zero, List.set_cons_succ]
      (refine' take_in 4 rfl (by kernel_rfl) (by kernel_rfl) (by kernel_rfl) (fun _ _ _ h => h) (by rfl) (by assumption) ?_ ?_; rotate_left; focus (intro w hSw; (try dsimp only at hSw); go_simp; try with_reducible rfl)); try simp only [Act.put, List.setIfInBounds_toArray, List.set_cons_zero, List.set_cons_succ]
      (refine' take_in 5 rfl (by kernel_rfl) (by kernel_rfl) (by kernel_rfl) (fun _ _ _ h => h) (by rfl) (by assumption) ?_ ?_; rotate_left; focus (intro w hSw; (try dsimp only at hSw); go_simp; try with_reducible rfl)); try simp only [Act.put, List.setIfInBounds_toArray, List.set_cons_zero, List.set_cons_succ]
      (refine' take_in 6 rfl (by kernel_rfl) (by kernel_rfl) (by kernel_rfl) (fun _ _ _ h => h) (by rfl) (by assumption) ?_ ?_; rotate_left; focus (intro w hSw; (try dsimp only at hSw); go_simp; try with_reducible rfl)); try simp only [Act.put, List.setIfInBounds_toArray, List.set_cons_zero, List.set_cons_succ]
      (refine' take_in 7 rfl (by kernel_rfl) (by kernel_rfl) (by kernel_rfl) (fun _ _ _ h => h) (by rfl) (by assumption) ?_ ?_; rotate_left; focus (intro w hSw; (try dsimp only at hSw); go_simp; try with_reducible rfl)); try simp only [Act.put, List.setIfInBounds_toArray, List.set_cons_zero, List.set_cons_succ]
      (refine' take_in 8 rfl (by kernel_rfl) (by kernel_rfl) (by kernel_rfl) (fun _ _ _ h => h) (by rfl) (by assumption) ?_ ?_; rotate_left; focus (intro w hSw; (try dsimp only at hSw); go_simp; try with_reducible rfl)); try simp only [Act.put, List.setIfInBounds_toArray, List.set_cons_zero, List.set_cons_succ]
      (refine' take_in 9 rfl (by kernel_rfl) (by kernel_rfl) (by kernel_rfl) (fun _ _ _ h => h) (by rfl) (by assumption) ?_ ?_; rotate_left; focus (intro w hSw; (try dsimp only at hSw); go_simp; try with_reducible rfl)); try simp only [Act.put, List.setIfInBounds_toArray, List.set_cons_zero, List.set_cons_succ]
      (refine' take_in 10 rfl (by kernel_rfl) (by kernel_rfl) (by kernel_rfl) (fun _ _ _ h => h) (by rfl) (by assumption) ?_ ?_; rotate_left; focus (intro w hSw; (try dsimp only at hSw); go_simp; try with_reducible rfl)); try simp only [Act.put, List.setIfInBounds_toArray, List.set_cons_zero, List.set_cons_succ]
      refine wpAnyH_done (by kernel_rfl) ?_ _
      go_wp2_with fail
      go_roundg (gk - 1)
      case measure => have := HK.out; omega
      case rel => exact ⟨by have := HK.out; omega, num_eq (by have := HK.out; omega), Lib.hid (HW1.out.ext (by repeat (first | with_reducible exact Ext.refl _ | with_reducible refine Ext.drew ?_ | with_reducible refine Ext.drewN ?_ _ | with_reducible refine Ext.alloc ?_ _ | with_reducible refine Ext.setCell ?_ (by first | omega | (simp; done) | (simp; omega)) _))), Lib.hid (HS1.out.ext (by repeat (first | with_reducible exact Ext.refl _ | with_reducible refine Ext.drew ?_ | with_reducible refine Ext.drewN ?_ _ | with_reducible refine Ext.alloc ?_ _ | with_reducible refine Ext.setCell ?_ (by first | omega | (simp; done) | (simp; omega)) _))), Lib.hid (by repeat (first | with_reducible exact XR.out | with_reducible refine Ext.drew ?_ | with_reducible refine Ext.drewN ?_ _ | with_reducible refine Ext.alloc ?_ _ | with_reducible refine Ext.setCell ?_ (by first | omega | (simp; done) | (simp; omega)) _))⟩
set_option maxRecDepth 100000 in
set_option maxHeartbeats 4000000 in
theorem qlive_n (A : Option Addr) (n c : Nat) (l : List (Int × Int × Int × Int × Int × Int × Int × Int)) (ow v k : Int) (w : World) (h : Sl w 8 A n c (l.flatMap entC)) (hn : n ≤ 100000) (hf : ∀ x ∈ l, FitsQ x) (hk : ((liveQ l ow v : Nat) : Int) = k) : Calls Try.prog 25 #[.slice A n c, .int .i64 ow, .int .i64 v] w fun e w' => e = .returned (.int .i64 k) ∧ Ext w w' := by
  have := qlive_any A n c l ow v w h hn hf
  rw [hk] at this
  exact this
theorem cut_a : ([(0, 2, 5, -1, 0, 9, 10, 5), (1, 2, 5, -1, 0, 9, 20, 10), (0, 3, 6, 2, 5, 12, 30, 15)], [(0, 5), (1, 10), (2, 15)], 30, 0) = cutV chapQ 2 6 500000000 := by decide
theorem cut_b : ([(0, 2, 5, -1, 0, 9, 10, 5), (1, 2, 5, -1, 0, 9, 20, 10), (0, 3, 6, 2, 5, 12, 30, 30)], [(0, 5), (1, 10)], 15, 0) = cutV chapQ 2 9 500000000 := by decide
set_option maxRecDepth 100000 in
set_option maxHeartbeats 4000000 in
theorem awake14_any (w : World) : Calls Try.prog 10 #[] w fun e w' => e = .returned (.bool true) ∧ Ext w w' := by
  go_enter Try.func10, Try.ntmps10
  go_wp2_with fail
  (with_reducible refine (chapter14_any _).mono ?_)
  rintro e w1 ⟨A1, c1, rfl, hn1, hO1, hx1⟩
  have z1 := hx1.size
  try simp at z1
  have X1 : Hid (Ext w w1) := Lib.hid (Ext.trans (by repeat (first | with_reducible exact Ext.refl w | with_reducible refine Ext.drew ?_ | with_reducible refine Ext.drewN ?_ _ | with_reducible refine Ext.alloc ?_ _ | with_reducible refine Ext.setCell ?_ (by first | omega | (simp; done) | (simp; omega)) _)) hx1)
  have HO := Lib.hid hO1
  clear hx1 z1 hO1
  have HN1 := Lib.hid hn1
  clear hn1
  go_wp2_with fail
  (with_reducible refine (qtotal_ev A1 3 c1 chapQ 60 0 _ (HO.out.ext (by repeat (first | with_reducible exact Ext.refl _ | with_reducible refine Ext.drew ?_ | with_reducible refine Ext.drewN ?_ _ | with_reducible refine Ext.alloc ?_ _ | with_reducible refine Ext.setCell ?_ (by first | omega | (simp; done) | (simp; omega)) _))).sl chapQ_fits (by decide) (by decide)).mono ?_)
  rintro e w2 ⟨rfl, hx2⟩
  have z2 := hx2.size
  try simp at z2
  replace HO := Lib.hid (HO.out.ext (Ext.trans (by repeat (first | with_reducible exact Ext.refl _ | with_reducible refine Ext.drew ?_ | with_reducible refine Ext.drewN ?_ _ | with_reducible refine Ext.alloc ?_ _ | with_reducible refine Ext.setCell ?_ (by first | omega | (simp; done) | (simp; omega)) _)) hx2))
  have X2 : Hid (Ext w w2) := Lib.hid (Ext.trans (by repeat (first | with_reducible exact X1.out | with_reducible refine Ext.drew ?_ | with_reducible refine Ext.drewN ?_ _ | with_reducible refine Ext.alloc ?_ _ | with_reducible refine Ext.setCell ?_ (by first | omega | (simp; done) | (simp; omega)) _)) hx2)
  clear X1 hx2 z2
  go_wp2_with fail
  (with_reducible refine (qlive_n A1 3 c1 chapQ 0 2 1 _ (HO.out.ext (by repeat (first | with_reducible exact Ext.refl _ | with_reducible refine Ext.drew ?_ | with_reducible refine Ext.drewN ?_ _ | with_reducible refine Ext.alloc ?_ _ | with_reducible refine Ext.setCell ?_ (by first | omega | (simp; done) | (simp; omega)) _))).sl (by decide) chapQ_fits (by decide)).mono ?_)
  rintro e w3 ⟨rfl, hx3⟩
  have z3 := hx3.size
  try simp at z3
  replace HO := Lib.hid (HO.out.ext (Ext.trans (by repeat (first | with_reducible exact Ext.refl _ | with_reducible refine Ext.drew ?_ | with_reducible refine Ext.drewN ?_ _ | with_reducible refine Ext.alloc ?_ _ | with_reducible refine Ext.setCell ?_ (by first | omega | (simp; done) | (simp; omega)) _)) hx3))
  have X3 : Hid (Ext w w3) := Lib.hid (Ext.trans (by repeat (first | with_reducible exact X2.out | with_reducible refine Ext.drew ?_ | with_reducible refine Ext.drewN ?_ _ | with_reducible refine Ext.alloc ?_ _ | with_reducible refine Ext.setCell ?_ (by first | omega | (simp; done) | (simp; omega)) _)) hx3)
  clear X2 hx3 z3
  go_wp2_with fail
  (with_reducible refine (cuts14_t 2 6 500000000 30 _ 3 3 [5, 10, 15] _ [(0, 5), (1, 10), (2, 15)] _ (sl_new _ 25 1 #[.int .u64 5, .int .u64 10, .int .u64 15] 3 rfl (by decide)) (by decide) (by decide) (word_d (by decide) (by decide)) cut_a rfl).mono ?_)
  rintro e w4 ⟨rfl, hx4⟩
  have z4 := hx4.size
  try simp at z4
  replace HO := Lib.hid (HO.out.ext (Ext.trans (by repeat (first | with_reducible exact Ext.refl _ | with_reducible refine Ext.drew ?_ | with_reducible refine Ext.drewN ?_ _ | with_reducible refine Ext.alloc ?_ _ | with_reducible refine Ext.setCell ?_ (by first | omega | (simp; done) | (simp; omega)) _)) hx4))
  have X4 : Hid (Ext w w4) := Lib.hid (Ext.trans (by repeat (first | with_reducible exact X3.out | with_reducible refine Ext.drew ?_ | with_reducible refine Ext.drewN ?_ _ | with_reducible refine Ext.alloc ?_ _ | with_reducible refine Ext.setCell ?_ (by first | omega | (simp; done) | (simp; omega)) _)) hx4)
  clear X3 hx4 z4
  go_wp2_with fail
  (with_reducible refine (cuts14_t 2 9 500000000 15 _ 2 2 [5, 10] _ [(0, 5), (1, 10)] _ (sl_new _ 25 1 #[.int .u64 5, .int .u64 10] 2 rfl (by decide)) (by decide) (by decide) (word_d (by decide) (by decide)) cut_b rfl).mono ?_)
  rintro e w5 ⟨rfl, hx5⟩
  have z5 := hx5.size
  try simp at z5
  replace HO := Lib.hid (HO.out.ext (Ext.trans (by repeat (first | with_reducible exact Ext.refl _ | with_reducible refine Ext.drew ?_ | with_reducible refine Ext.drewN ?_ _ | with_reducible refine Ext.alloc ?_ _ | with_reducible refine Ext.setCell ?_ (by first | omega | (simp; done) | (simp; omega)) _)) hx5))
  have X5 : Hid (Ext w w5) := Lib.hid (Ext.trans (by repeat (first | with_reducible exact X4.out | with_reducible refine Ext.drew ?_ | with_reducible refine Ext.drewN ?_ _ | with_reducible refine Ext.alloc ?_ _ | with_reducible refine Ext.setCell ?_ (by first | omega | (simp; done) | (simp; omega)) _)) hx5)
  clear X4 hx5 z5
  go_wp2_with fail
  go_ret
  exact ⟨rfl, (by repeat (first | with_reducible exact X5.out | with_reducible refine Ext.drew ?_ | with_reducible refine Ext.drewN ?_ _ | with_reducible refine Ext.alloc ?_ _ | with_reducible refine Ext.setCell ?_ (by first | omega | (simp; done) | (simp; omega)) _))⟩
end Go.Proofs.Ytnbeejgppooamaa
