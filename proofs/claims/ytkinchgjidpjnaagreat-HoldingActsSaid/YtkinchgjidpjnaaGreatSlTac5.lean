/- Tac, part 5. Conditions stand in each lemma. -/
import Derived.Test.YtkinchgjidpjnaaGreatSlTac4
set_option linter.unusedVariables false
set_option linter.unusedSimpArgs false
set_option maxRecDepth 100000
set_option maxHeartbeats 64000000
namespace Go.Proofs.YtkinchgjidpjnaaGreat
section
open Go.RowKit Go.ChangeShapes Go.WideShapes Go.Deep Go.Joins
theorem zSlTac5_0 {P : Prop} (h : P := by (first | exact ⟨c0_0, c0_1, c1_0, c1_1, c1_2, c1_3, c4_0, c4_1⟩ | (simp [go_sem, World.cell?_alloc_past, *]; done))) : P := h
theorem zSlTac5_1 {P : Prop} (h : P := by unfold OwnPos; repeat (first | exact HP4w | refine own_set_ne ?_ (fun j hj hh => by have h9 := RP4.out j hj; (try simp only [World.size_alloc] at h9); first | omega | (simp at h9; omega) | (simp [go_sem] at h9; omega)) | with_reducible refine World.ownsRow.drew ?_ | refine own_keep ?_ (Ext.alloc (Ext.refl _) _))) : P := h
theorem zSlTac5_2 {P : Prop} (h : P := by unfold OwnCls; repeat (first | exact HO3w | refine own_set_ne ?_ (fun j hj hh => by have h9 := RO3.out j hj; (try simp only [World.size_alloc] at h9); first | omega | (simp at h9; omega) | (simp [go_sem] at h9; omega)) | with_reducible refine World.ownsRow.drew ?_ | refine own_keep ?_ (Ext.alloc (Ext.refl _) _))) : P := h
theorem zSlTac5_3 {P : Prop} (h : P := by simp [results, Tryz.results69, go_sem, World.cell?_alloc_past, *]; try rfl) : P := h
theorem zSlTac5_4 {P : Prop} (h : P := by first | exact Nat.le_refl _ | omega | (simp; done) | (simp; omega)) : P := h
theorem clsSet_len {cl : List I6} (hs : SortK kC cl) (V S P Q t h : Int) : (clsSet cl V S P Q t h).length ≤ cl.length + 1 := by
 have := len_lay kC_len (show [V, S, P, Q].length = 4 from rfl) (optC V S P Q t h) hs
 unfold clsSet
 have h2 : (optC V S P Q t h).toList.length ≤ 1 := by cases optC V S P Q t h <;> simp
 omega
theorem posSet_len {ps : List I6} (hs : SortK kP ps) (O V S P Q n : Int) : (posSet ps O V S P Q n).length ≤ ps.length + 1 := by
 have := len_lay kP_len (show [O, V, S, P, Q].length = 5 from rfl) (optP O V S P Q n) hs
 unfold posSet
 have h2 : (optP O V S P Q n).toList.length ≤ 1 := by cases optP O V S P Q n <;> simp
 omega
theorem capT_ok {cl ps : List I6} (h : HOk cl ps) : capT cl = totC cl := by
 unfold capT
 rw [if_pos (by have := h.tot; omega)]
theorem r13Leave_any (c c2 : Nat) (A A2 : Option Addr) (cl ps : List I6) (O V S P Q a : Int) (w : World) (h : Sl w 6 A cl.length c (cl.flatMap clsC)) (h2 : Sl w 6 A2 ps.length c2 (ps.flatMap posC)) (hn2 : ps.length < 1099511000) (hw : ∀ x ∈ cl, WdC x) (hw2 : ∀ x ∈ ps, WdP x) (ha : Word a) :
  Calls Tryz.prog 69 #[.agg #[.slice A cl.length c, .slice A2 ps.length c2], .int .i64 O, .agg #[.int .i64 V, .int .i64 S, .int .i64 P, .int .i64 Q], .int .u64 a] w (RetJ (hleaV cl ps O V S P Q a) w) := by
 have C1 := Lib.hid (fun (w' : World) (hx : Ext w w') => r13Check_any cl.length c ps.length c2 A A2 cl ps w' (h.ext hx) (h2.ext hx) hw hw2)
 obtain ⟨R, hR⟩ : ∃ R, R = hleaV cl ps O V S P Q a := ⟨_, rfl⟩
 rw [← hR]
 have HR := Lib.hid hR
 obtain ⟨E, hE⟩ : ∃ E, E = chkH cl ps := ⟨_, rfl⟩
 by_cases he : ¬ E = 0
 ·obtain rfl : R = ([], [], 0, E) := hR.trans (hleaV_err (by unfold hleaE; rw [if_pos (by rw [← hE]; exact he), hE]) he)
  rw [← hE] at C1
  have heb : (E != 0) = true := by simpa using he
  clear h h2 hw hw2 hE hR HR ha hn2
  go_enter Tryz.func69, Tryz.ntmps69
  go_wp2_with fail
  (with_reducible refine (C1.out _ zxt).mono ?_)
  rintro e w1 ⟨rfl, hx1⟩
  have c2_0f : w1.frozen? ⟨w.heap.size + 1 + 1, 0, none⟩ = false := hx1.froz (v := .slice none 0 0) zcv zcv
  have c2_1f : w1.frozen? ⟨w.heap.size + 1 + 1, 1, none⟩ = false := hx1.froz (v := .slice none 0 0) zcv zcv
  have c2_0 : w1.cell? ⟨w.heap.size + 1 + 1, 0, none⟩ = some (.slice none 0 0) := hx1.has zcv
  have c2_1 : w1.cell? ⟨w.heap.size + 1 + 1, 1, none⟩ = some (.slice none 0 0) := hx1.has zcv
  have z1 := hx1.size
  try simp at z1
  have rc2 := zr (w.heap.size + 1 + 1) w1
  have X1 : Hid (Ext w w1) := Lib.hid (Ext.trans zxt hx1)
  clear hx1 z1
  go_wp2_with fail
  refine bodyPost_ret (v := .tuple #[.agg #[.slice none 0 0, .slice none 0 0], .int .u64 0, .int .i64 E]) zSlTac5_3 rfl (RetJ.nil ?_)
  exact zxt
 replace he : E = 0 := by omega
 have hk := (chkH_iff cl ps).1 (hE.symm.trans he)
 have hn : cl.length < 1099511627 := by have := hk.len; omega
 have C5 := Lib.hid (fun (w' : World) (hx : Ext w w') => r13Find_any cl.length c ps.length c2 A A2 cl V S P Q w' (h.ext hx))
 have hfw := fnd_word hw [V, S, P, Q]
 obtain ⟨T, hT⟩ : ∃ T, T = fndT cl [V, S, P, Q] := ⟨_, rfl⟩
 obtain ⟨U, hU⟩ : ∃ U, U = fndS cl [V, S, P, Q] := ⟨_, rfl⟩
 obtain ⟨BB, hBB⟩ : ∃ B, B = (getK kC cl [V, S, P, Q]).isSome := ⟨_, rfl⟩
 rw [← hT, ← hU, ← hBB] at C5
 rw [← hT, ← hU] at hfw
 have CP := Lib.hid (fun (w' : World) (hx : Ext w w') => r13position_any cl.length c ps.length c2 A A2 ps O V S P Q w' (h2.ext hx))
 obtain ⟨JT, hJT⟩ : ∃ J, J = leaT T U a := ⟨_, rfl⟩
 obtain ⟨JS, hJS⟩ : ∃ J, J = leaS T U a := ⟨_, rfl⟩
 obtain ⟨JN, hJN⟩ : ∃ J, J = leaN T U a := ⟨_, rfl⟩
 obtain ⟨JE, hJE⟩ : ∃ J, J = leaE T U a := ⟨_, rfl⟩
 have C6 := Lib.hid (fun w => pLeave_any T U a hfw.1 hfw.2 ha w)
 rw [← hJT, ← hJS, ← hJN, ← hJE] at C6
 have hE0 := hleaV_ok (cl := cl) (ps := ps) (o := O) (V := V) (S := S) (P := P) (Q := Q) (a := a)
 rw [← hT, ← hU] at hE0
 obtain ⟨H0, hH0⟩ : ∃ H, H = hasV ps [O, V, S, P, Q] := ⟨_, rfl⟩
 have hHw : 0 ≤ H0 ∧ H0 < 18446744073709551616 := by
  obtain ⟨h6, h7⟩ := hasV_le hw2 O V S P Q
  rw [hk.fnd, ← hU, ← hH0] at h7
  rw [← hH0] at h6
  have := hfw.2.2
  exact ⟨h6, by omega⟩
 rw [← hJT, ← hJS, ← hJN, ← hH0] at hE0
 obtain ⟨L3, hL3⟩ : ∃ L, L = clsSet cl V S P Q JT JS := ⟨_, rfl⟩
 obtain ⟨L4, hL4⟩ : ∃ L, L = posSet ps O V S P Q (H0 - a) := ⟨_, rfl⟩
 rw [← hL3, ← hL4] at hE0
 have hl3 : L3.length ≤ cl.length + 1 := by rw [hL3]; exact clsSet_len hk.sc ..
 have hl4 : L4.length ≤ ps.length + 1 := by rw [hL4]; exact posSet_len hk.sp ..
 have C8 := Lib.hid (fun (w' : World) (hx : Ext w w') => r13setClass_any cl.length c ps.length c2 A A2 cl V S P Q JT JS w' (h.ext hx) hn hk.sc)
 have C9 := Lib.hid (fun (w' : World) (hx : Ext w w') => r13has_any cl.length c ps.length c2 A A2 ps O V S P Q w' (h2.ext hx))
 have C10 := Lib.hid (fun (w' : World) (n1 c1 : Nat) (A1 : Option Addr) (hx : Ext w w') => r13setPosition_any n1 c1 ps.length c2 A1 A2 ps O V S P Q (H0 - a) w' (h2.ext hx) (by omega) hk.sp)
 rw [← hL3] at C8
 rw [← hH0] at C9
 rw [← hL4] at C10
 have HX := Lib.hid (show (getK kP ps [O, V, S, P, Q] = none → hleaE cl ps O V S P Q a = 10) ∧ (∀ x, getK kP ps [O, V, S, P, Q] = some x → H0 < a → hleaE cl ps O V S P Q a = 13) ∧ (∀ x, getK kP ps [O, V, S, P, Q] = some x → ¬ H0 < a → hleaE cl ps O V S P Q a = JE) from by
  have hz : ∀ x, getK kP ps [O, V, S, P, Q] = some x → H0 ≠ 0 := fun x hx => by
   rw [hH0]; unfold hasV; rw [hx]
   exact (hk.pos x (getK_mem hx).1).2.1
  unfold hleaE
  rw [if_neg (by rw [← hE]; simpa using he), ← hT, ← hU, ← hJE, ← hH0]
  refine ⟨fun h1 => ?_, fun x h1 h2 => ?_, fun x h1 h2 => ?_⟩
  ·rw [if_pos (by rw [hH0]; unfold hasV; rw [h1]; rfl)]
  ·rw [if_neg (hz x h1), if_pos h2]
  rw [if_neg (hz x h1), if_neg h2])
 have HE0 := Lib.hid hE0
 have a0 := ha.1
 rw [← hE] at C1
 subst he
 clear h h2 hw hw2 hE hR ha hk hfw hT hU hBB hE0 hJT hJS hJN hJE hH0 hL3 hL4
 go_enter Tryz.func69, Tryz.ntmps69
 go_wp2_with fail
 (with_reducible refine (C1.out _ zxt).mono ?_)
 rintro e w1 ⟨rfl, hx1⟩
 have c0_0 : w1.cell? ⟨w.heap.size, 0, none⟩ = some (.slice A cl.length c) := hx1.has zcv
 have c0_1 : w1.cell? ⟨w.heap.size, 1, none⟩ = some (.slice A2 ps.length c2) := hx1.has zcv
 have c1_0 : w1.cell? ⟨w.heap.size + 1, 0, none⟩ = some (.int .i64 V) := hx1.has zcv
 have c1_1 : w1.cell? ⟨w.heap.size + 1, 1, none⟩ = some (.int .i64 S) := hx1.has zcv
 have c1_2 : w1.cell? ⟨w.heap.size + 1, 2, none⟩ = some (.int .i64 P) := hx1.has zcv
 have c1_3 : w1.cell? ⟨w.heap.size + 1, 3, none⟩ = some (.int .i64 Q) := hx1.has zcv
 have c2_0f : w1.frozen? ⟨w.heap.size + 1 + 1, 0, none⟩ = false := hx1.froz (v := .slice none 0 0) zcv zcv
 have c2_1f : w1.frozen? ⟨w.heap.size + 1 + 1, 1, none⟩ = false := hx1.froz (v := .slice none 0 0) zcv zcv
 have c2_0 : w1.cell? ⟨w.heap.size + 1 + 1, 0, none⟩ = some (.slice none 0 0) := hx1.has zcv
 have c2_1 : w1.cell? ⟨w.heap.size + 1 + 1, 1, none⟩ = some (.slice none 0 0) := hx1.has zcv
 have z1 := hx1.size
 try simp at z1
 have lt_c0_c1 := zl w.heap.size (w.heap.size + 1)
 have lt_c0_c2 := zl w.heap.size (w.heap.size + 1 + 1)
 have lt_c1_c2 := zl (w.heap.size + 1) (w.heap.size + 1 + 1)
 have rc0 := zr w.heap.size w1
 have rc1 := zr (w.heap.size + 1) w1
 have rc2 := zr (w.heap.size + 1 + 1) w1
 have X1 : Hid (Ext w w1) := Lib.hid (Ext.trans zxt hx1)
 clear hx1
 go_wp2_with fail
 (with_reducible refine (CP.out _ zxt).mono ?_)
 rintro e w2 ⟨ci, rfl, hfi, hx2⟩
 replace c0_0 := zh hx2 c0_0
 replace c0_1 := zh hx2 c0_1
 replace c1_0 := zh hx2 c1_0
 replace c1_1 := zh hx2 c1_1
 replace c1_2 := zh hx2 c1_2
 replace c1_3 := zh hx2 c1_3
 replace c2_0f := zf hx2 c2_0 c2_0f
 replace c2_1f := zf hx2 c2_1 c2_1f
 replace c2_0 := zh hx2 c2_0
 replace c2_1 := zh hx2 c2_1
 have z2 := hx2.size
 try simp at z2
 replace rc0 := zr w.heap.size w2
 replace rc1 := zr (w.heap.size + 1) w2
 replace rc2 := zr (w.heap.size + 1 + 1) w2
 have X2 : Hid (Ext w w2) := Lib.hid (Ext.trans zxt hx2)
 clear X1 hx2
 have HFI := Lib.hid hfi
 clear hfi
 rcases HFI.out with ⟨rfl, hN⟩ | ⟨m, xw, rfl, hM, hG⟩
 ·obtain rfl : R = ([], [], 0, 10) := HR.out.trans (hleaV_err (HX.out.1 hN) (by first | decide | assumption))
  clear hN HFI
  go_wp2_with fail
  refine bodyPost_ret (v := .tuple #[.agg #[.slice none 0 0, .slice none 0 0], .int .u64 0, .int .i64 10]) zSlTac5_3 rfl (RetJ.nil ?_)
  exact zxt
 have hm0 : ¬ (m : Int) < 0 := by omega
 have HG := Lib.hid hG
 clear hM hG HFI
 go_wp2_with fail
 (with_reducible refine (C9.out _ zxt).mono ?_)
 rintro e w3 ⟨rfl, hx3⟩
 replace c0_0 := zh hx3 c0_0
 replace c0_1 := zh hx3 c0_1
 replace c1_0 := zh hx3 c1_0
 replace c1_1 := zh hx3 c1_1
 replace c1_2 := zh hx3 c1_2
 replace c1_3 := zh hx3 c1_3
 replace c2_0f := zf hx3 c2_0 c2_0f
 replace c2_1f := zf hx3 c2_1 c2_1f
 replace c2_0 := zh hx3 c2_0
 replace c2_1 := zh hx3 c2_1
 have z3 := hx3.size
 try simp at z3
 replace rc0 := zr w.heap.size w3
 replace rc1 := zr (w.heap.size + 1) w3
 replace rc2 := zr (w.heap.size + 1 + 1) w3
 have X3 : Hid (Ext w w3) := Lib.hid (Ext.trans zxt hx3)
 clear X2 hx3
 by_cases q4 : H0 < a
 ·have q4b : decide (H0 < a) = true := decide_eq_true q4
  obtain rfl : R = ([], [], 0, 13) := HR.out.trans (hleaV_err (HX.out.2.1 _ HG.out q4) (by first | decide | assumption))
  go_wp2_with fail
  refine bodyPost_ret (v := .tuple #[.agg #[.slice none 0 0, .slice none 0 0], .int .u64 0, .int .i64 13]) zSlTac5_3 rfl (RetJ.nil ?_)
  exact zxt
 have q4b : decide (H0 < a) = false := decide_eq_false q4
 have hwa : IntKind.u64.wrap (H0 - a) = H0 - a := IntWalk.u64_in _ (by omega)
 have Q4 := Lib.hid q4
 go_wp2_with fail
 (with_reducible refine (C5.out _ zxt).mono ?_)
 rintro e w4 ⟨rfl, hx4⟩
 replace c0_0 := zh hx4 c0_0
 replace c0_1 := zh hx4 c0_1
 replace c1_0 := zh hx4 c1_0
 replace c1_1 := zh hx4 c1_1
 replace c1_2 := zh hx4 c1_2
 replace c1_3 := zh hx4 c1_3
 replace c2_0f := zf hx4 c2_0 c2_0f
 replace c2_1f := zf hx4 c2_1 c2_1f
 replace c2_0 := zh hx4 c2_0
 replace c2_1 := zh hx4 c2_1
 have z4 := hx4.size
 try simp at z4
 replace rc0 := zr w.heap.size w4
 replace rc1 := zr (w.heap.size + 1) w4
 replace rc2 := zr (w.heap.size + 1 + 1) w4
 have X4 : Hid (Ext w w4) := Lib.hid (Ext.trans zxt hx4)
 clear X3 hx4
 go_wp2_with fail
 (with_reducible refine (C6.out _).mono ?_)
 rintro e w5 ⟨rfl, hx5⟩
 replace c0_0 := zh hx5 c0_0
 replace c0_1 := zh hx5 c0_1
 replace c1_0 := zh hx5 c1_0
 replace c1_1 := zh hx5 c1_1
 replace c1_2 := zh hx5 c1_2
 replace c1_3 := zh hx5 c1_3
 replace c2_0f := zf hx5 c2_0 c2_0f
 replace c2_1f := zf hx5 c2_1 c2_1f
 replace c2_0 := zh hx5 c2_0
 replace c2_1 := zh hx5 c2_1
 have z5 := hx5.size
 try simp at z5
 replace rc0 := zr w.heap.size w5
 replace rc1 := zr (w.heap.size + 1) w5
 replace rc2 := zr (w.heap.size + 1 + 1) w5
 have X5 : Hid (Ext w w5) := Lib.hid (Ext.trans zxt hx5)
 clear X4 hx5
 by_cases q5 : ¬ JE = 0
 ·have q5b : (JE != 0) = true := by simp [q5]
  obtain rfl : R = ([], [], 0, JE) := HR.out.trans (hleaV_err (HX.out.2.2 _ HG.out Q4.out) (by first | decide | assumption))
  go_wp2_with fail
  refine bodyPost_ret (v := .tuple #[.agg #[.slice none 0 0, .slice none 0 0], .int .u64 0, .int .i64 JE]) zSlTac5_3 rfl (RetJ.nil ?_)
  exact zxt
 have q5b : (JE != 0) = false := by simpa using q5
 have q5c : JE = 0 := by omega
 have HX0 := Lib.hid ((HX.out.2.2 _ HG.out Q4.out).trans q5c)
 go_wp2_with fail
 refine wp_region_held_drew (S := fun w' => w'.cell? ⟨w.heap.size, 0, none⟩ = some (.slice A cl.length c) ∧ w'.cell? ⟨w.heap.size, 1, none⟩ = some (.slice A2 ps.length c2) ∧ w'.cell? ⟨w.heap.size + 1, 0, none⟩ = some (.int .i64 V) ∧ w'.cell? ⟨w.heap.size + 1, 1, none⟩ = some (.int .i64 S) ∧ w'.cell? ⟨w.heap.size + 1, 2, none⟩ = some (.int .i64 P) ∧ w'.cell? ⟨w.heap.size + 1, 3, none⟩ = some (.int .i64 Q) ∧ w'.cell? ⟨w5.heap.size, 0, none⟩ = some (.int .u64 JT) ∧ w'.cell? ⟨w5.heap.size, 1, none⟩ = some (.int .u64 JS)) (by kernel_rfl) (by first | with_reducible exact ⟨c0_0, c0_1, c1_0, c1_1, c1_2, c1_3, c4_0, c4_1⟩ | (simp [go_sem, World.cell?_alloc_past, *]; done)) (fun hHeld => ?_)
 refine' zt 0 ?_
 refine' zt 1 ?_
 refine' zt 2 ?_
 refine' zt 4 ?_
 refine' zt 5 ?_
 refine' zt 6 ?_
 refine' zt 7 ?_
 refine' zt 8 ?_
 refine' zt 10 ?_
 refine' next2_in 3 14 rfl rfl (by kernel_rfl) (by rfl) (by rfl) (fun K hK => ?_) (fun K hK => ?_)
 ·go_simp
  (with_reducible refine (C8.out _ zxt).mono ?_)
  rintro e w6 ⟨B3, d3, rfl, hB3, hO3, hx6⟩
  replace c0_0 := zh hx6 c0_0
  replace c0_1 := zh hx6 c0_1
  replace c1_0 := zh hx6 c1_0
  replace c1_1 := zh hx6 c1_1
  replace c1_2 := zh hx6 c1_2
  replace c1_3 := zh hx6 c1_3
  replace c2_0f := zf hx6 c2_0 c2_0f
  replace c2_1f := zf hx6 c2_1 c2_1f
  replace c2_0 := zh hx6 c2_0
  replace c2_1 := zh hx6 c2_1
  have c4_0 : w6.cell? ⟨w5.heap.size, 0, none⟩ = some (.int .u64 JT) := hx6.has zcv
  have c4_1 : w6.cell? ⟨w5.heap.size, 1, none⟩ = some (.int .u64 JS) := hx6.has zcv
  have z6 := hx6.size
  try simp at z6
  have lt_c0_c4 := zl w.heap.size w5.heap.size
  have lt_c1_c4 := zl (w.heap.size + 1) w5.heap.size
  have lt_c2_c4 := zl (w.heap.size + 1 + 1) w5.heap.size
  replace rc0 := zr w.heap.size w6
  replace rc1 := zr (w.heap.size + 1) w6
  replace rc2 := zr (w.heap.size + 1 + 1) w6
  have rc4 := zr w5.heap.size w6
  have X6 : Hid (Ext w w6) := Lib.hid (Ext.trans zxt hx6)
  have HO3 := Lib.hid (show OwnCls _ w.heap.size _ _ _ from own_lower hO3 (by first | omega | (simp; done) | (simp; omega)))
  clear X5 hx6
  have RO3 := Lib.hid (own_rng hO3)
  clear hO3 hB3
  refine' zk hK zSlTac5_0 (fun hHeld => ?_); clear hK K
  refine' next2_in 9 14 rfl rfl (by kernel_rfl) (by rfl) (by rfl) (fun K hK => ?_) (fun K hK => ?_)
  ·go_simp
   (with_reducible refine (C9.out _ zxt).mono ?_)
   rintro e w7 ⟨rfl, hx7⟩
   replace c0_0 := zh hx7 c0_0
   replace c0_1 := zh hx7 c0_1
   replace c1_0 := zh hx7 c1_0
   replace c1_1 := zh hx7 c1_1
   replace c1_2 := zh hx7 c1_2
   replace c1_3 := zh hx7 c1_3
   replace c2_0f := zf hx7 c2_0 c2_0f
   replace c2_1f := zf hx7 c2_1 c2_1f
   replace c2_0 := zh hx7 c2_0
   replace c2_1 := zh hx7 c2_1
   replace c4_0 := zh hx7 c4_0
   replace c4_1 := zh hx7 c4_1
   have z7 := hx7.size
   try simp at z7
   replace rc0 := zr w.heap.size w7
   replace rc1 := zr (w.heap.size + 1) w7
   replace rc2 := zr (w.heap.size + 1 + 1) w7
   replace rc4 := zr w5.heap.size w7
   replace HO3 := Lib.hid (HO3.out.ext (Ext.trans zxt hx7))
   have X7 : Hid (Ext w w7) := Lib.hid (Ext.trans zxt hx7)
   clear X6 hx7
   refine' zk hK zSlTac5_0 (fun hHeld => ?_); clear hK K
   refine' zt 11 ?_
   refine' zt 12 ?_
   refine' next2_in 13 14 rfl rfl (by kernel_rfl) (by rfl) (by rfl) (fun K hK => ?_) (fun K hK => ?_)
   ·go_simp
    (with_reducible refine (C10.out _ L3.length d3 B3 zxt).mono ?_)
    rintro e w8 ⟨B4, d4, rfl, hB4, hO4, hx8⟩
    replace c0_0 := zh hx8 c0_0
    replace c0_1 := zh hx8 c0_1
    replace c1_0 := zh hx8 c1_0
    replace c1_1 := zh hx8 c1_1
    replace c1_2 := zh hx8 c1_2
    replace c1_3 := zh hx8 c1_3
    replace c2_0f := zf hx8 c2_0 c2_0f
    replace c2_1f := zf hx8 c2_1 c2_1f
    replace c2_0 := zh hx8 c2_0
    replace c2_1 := zh hx8 c2_1
    replace c4_0 := zh hx8 c4_0
    replace c4_1 := zh hx8 c4_1
    have z8 := hx8.size
    try simp at z8
    replace rc0 := zr w.heap.size w8
    replace rc1 := zr (w.heap.size + 1) w8
    replace rc2 := zr (w.heap.size + 1 + 1) w8
    replace rc4 := zr w5.heap.size w8
    replace HO3 := Lib.hid (HO3.out.ext (Ext.trans zxt hx8))
    have X8 : Hid (Ext w w8) := Lib.hid (Ext.trans zxt hx8)
    have HP4 := Lib.hid (show OwnPos _ w.heap.size _ _ _ from own_lower hO4 (by first | omega | (simp; done) | (simp; omega)))
    clear X7 hx8
    have RP4 := Lib.hid (own_rng hO4)
    clear hO4 hB4
    refine' zk hK zSlTac5_0 (fun hHeld => ?_); clear hK K
    refine' zn 14 (fun K hK => ?_)
    go_simp
    refine' zk hK zSlTac5_0 (fun hHeld => ?_); clear hK K
    refine' zn 15 (fun K hK => ?_)
    go_simp
    refine' zk hK zSlTac5_0 (fun hHeld => ?_); clear hK K
    refine wpAnyH_done (by kernel_rfl) ?_ _
    go_wp2_with fail
    have HO3w : World.ownsRow _ w.heap.size 79 6 _ _ _ := HO3.out
    have HP4w : World.ownsRow _ w.heap.size 82 6 _ _ _ := HP4.out
    (refine (kCopyHolding_any d3 d4 B3 B4 L3 L4 _ (OwnCls.sl (base := w.heap.size) zSlTac5_2) (OwnPos.sl (base := w.heap.size) zSlTac5_1) (by omega) (by omega)).mono ?_)
    rintro e w9 ⟨v5, rfl, B5, d5, B6, d6, rfl, _, _, hO5, hO6, hx9⟩
    replace c0_0 := zh hx9 c0_0
    replace c0_1 := zh hx9 c0_1
    replace c1_0 := zh hx9 c1_0
    replace c1_1 := zh hx9 c1_1
    replace c1_2 := zh hx9 c1_2
    replace c1_3 := zh hx9 c1_3
    replace c2_0f := zf hx9 c2_0 c2_0f
    replace c2_1f := zf hx9 c2_1 c2_1f
    replace c2_0 := zh hx9 c2_0
    replace c2_1 := zh hx9 c2_1
    replace c4_0 := zh hx9 c4_0
    replace c4_1 := zh hx9 c4_1
    have z9 := hx9.size
    try simp at z9
    replace rc0 := zr w.heap.size w9
    replace rc1 := zr (w.heap.size + 1) w9
    replace rc2 := zr (w.heap.size + 1 + 1) w9
    replace rc4 := zr w5.heap.size w9
    have X9 : Hid (Ext w w9) := Lib.hid (Ext.trans zxt hx9)
    have HO5 := Lib.hid (show OwnCls _ (w8.heap.size) _ _ _ from own_lower hO5 zSlTac5_4)
    have HP6 := Lib.hid (show OwnPos _ (w8.heap.size) _ _ _ from own_lower hO6 zSlTac5_4)
    clear HO3 HP4 X8 hx9
    clear hO5 hO6
    obtain rfl : R = (L3, L4, JN, 0) := HR.out.trans (HE0.out HX0.out)
    go_wp2_with fail
    refine bodyPost_ret (v := .tuple #[.agg #[.slice B5 L3.length d5, .slice B6 L4.length d6], .int .u64 JN, .int .i64 0]) zSlTac5_3 rfl ⟨_, rfl, holdS_of (b := w8.heap.size) (by omega) (show World.ownsRow _ (w8.heap.size) _ _ _ _ _ from by repeat (first | with_reducible refine own_box ?_ (by omega) | with_reducible refine World.ownsRow.drew ?_ | exact HO5.out)) (show World.ownsRow _ (w8.heap.size) _ _ _ _ _ from by repeat (first | with_reducible refine own_box ?_ (by omega) | with_reducible refine World.ownsRow.drew ?_ | exact HP6.out)) zxt⟩
   go_simp
   refine' zk hK zSlTac5_0 (fun hHeld => ?_); clear hK K
   refine' zn 13 (fun K hK => ?_)
   go_simp
   (with_reducible refine (C10.out _ L3.length d3 B3 zxt).mono ?_)
   rintro e w8 ⟨B4, d4, rfl, hB4, hO4, hx8⟩
   replace c0_0 := zh hx8 c0_0
   replace c0_1 := zh hx8 c0_1
   replace c1_0 := zh hx8 c1_0
   replace c1_1 := zh hx8 c1_1
   replace c1_2 := zh hx8 c1_2
   replace c1_3 := zh hx8 c1_3
   replace c2_0f := zf hx8 c2_0 c2_0f
   replace c2_1f := zf hx8 c2_1 c2_1f
   replace c2_0 := zh hx8 c2_0
   replace c2_1 := zh hx8 c2_1
   replace c4_0 := zh hx8 c4_0
   replace c4_1 := zh hx8 c4_1
   have c5_0f : w8.frozen? ⟨w7.heap.size, 0, none⟩ = false := hx8.froz (v := .slice none 0 0) zcv zcv
   have c5_1f : w8.frozen? ⟨w7.heap.size, 1, none⟩ = false := hx8.froz (v := .slice none 0 0) zcv zcv
   have c5_0 : w8.cell? ⟨w7.heap.size, 0, none⟩ = some (.slice none 0 0) := hx8.has zcv
   have c5_1 : w8.cell? ⟨w7.heap.size, 1, none⟩ = some (.slice none 0 0) := hx8.has zcv
   have z8 := hx8.size
   try simp at z8
   have lt_c0_c5 := zl w.heap.size w7.heap.size
   have lt_c1_c5 := zl (w.heap.size + 1) w7.heap.size
   have lt_c2_c5 := zl (w.heap.size + 1 + 1) w7.heap.size
   have lt_c4_c5 := zl w5.heap.size w7.heap.size
   replace rc0 := zr w.heap.size w8
   replace rc1 := zr (w.heap.size + 1) w8
   replace rc2 := zr (w.heap.size + 1 + 1) w8
   replace rc4 := zr w5.heap.size w8
   have rc5 := zr w7.heap.size w8
   replace HO3 := Lib.hid (HO3.out.ext (Ext.trans zxt hx8))
   have X8 : Hid (Ext w w8) := Lib.hid (Ext.trans zxt hx8)
   have HP4 := Lib.hid (show OwnPos _ w.heap.size _ _ _ from own_lower hO4 (by first | omega | (simp; done) | (simp; omega)))
   clear X7 hx8
   have RP4 := Lib.hid (own_rng hO4)
   clear hO4 hB4
   refine' zk hK zSlTac5_0 (fun hHeld => ?_); clear hK K
   refine' zn 15 (fun K hK => ?_)
   go_simp
   refine' zk hK zSlTac5_0 (fun hHeld => ?_); clear hK K
   refine wpAnyH_done (by kernel_rfl) ?_ _
   go_wp2_with fail
   have HO3w : World.ownsRow _ w.heap.size 79 6 _ _ _ := HO3.out
   have HP4w : World.ownsRow _ w.heap.size 82 6 _ _ _ := HP4.out
   (refine (kCopyHolding_any d3 d4 B3 B4 L3 L4 _ (OwnCls.sl (base := w.heap.size) zSlTac5_2) (OwnPos.sl (base := w.heap.size) zSlTac5_1) (by omega) (by omega)).mono ?_)
   rintro e w9 ⟨v5, rfl, B5, d5, B6, d6, rfl, _, _, hO5, hO6, hx9⟩
   replace c0_0 := zh hx9 c0_0
   replace c0_1 := zh hx9 c0_1
   replace c1_0 := zh hx9 c1_0
   replace c1_1 := zh hx9 c1_1
   replace c1_2 := zh hx9 c1_2
   replace c1_3 := zh hx9 c1_3
   replace c2_0f := zf hx9 c2_0 c2_0f
   replace c2_1f := zf hx9 c2_1 c2_1f
   replace c2_0 := zh hx9 c2_0
   replace c2_1 := zh hx9 c2_1
   replace c4_0 := zh hx9 c4_0
   replace c4_1 := zh hx9 c4_1
   have z9 := hx9.size
   try simp at z9
   replace rc0 := zr w.heap.size w9
   replace rc1 := zr (w.heap.size + 1) w9
   replace rc2 := zr (w.heap.size + 1 + 1) w9
   replace rc4 := zr w5.heap.size w9
   have X9 : Hid (Ext w w9) := Lib.hid (Ext.trans zxt hx9)
   have HO5 := Lib.hid (show OwnCls _ (w8.heap.size) _ _ _ from own_lower hO5 zSlTac5_4)
   have HP6 := Lib.hid (show OwnPos _ (w8.heap.size) _ _ _ from own_lower hO6 zSlTac5_4)
   clear c5_0f c5_0 c5_1 c5_1f rc5 HO3 HP4 X8 hx9
   clear hO5 hO6
   obtain rfl : R = (L3, L4, JN, 0) := HR.out.trans (HE0.out HX0.out)
   go_wp2_with fail
   refine bodyPost_ret (v := .tuple #[.agg #[.slice B5 L3.length d5, .slice B6 L4.length d6], .int .u64 JN, .int .i64 0]) zSlTac5_3 rfl ⟨_, rfl, holdS_of (b := w8.heap.size) (by omega) (show World.ownsRow _ (w8.heap.size) _ _ _ _ _ from by repeat (first | with_reducible refine own_box ?_ (by omega) | with_reducible refine World.ownsRow.drew ?_ | exact HO5.out)) (show World.ownsRow _ (w8.heap.size) _ _ _ _ _ from by repeat (first | with_reducible refine own_box ?_ (by omega) | with_reducible refine World.ownsRow.drew ?_ | exact HP6.out)) zxt⟩
  go_simp
  refine' zk hK zSlTac5_0 (fun hHeld => ?_); clear hK K
  refine' zn 9 (fun K hK => ?_)
  go_simp
  (with_reducible refine (C9.out _ zxt).mono ?_)
  rintro e w7 ⟨rfl, hx7⟩
  replace c0_0 := zh hx7 c0_0
  replace c0_1 := zh hx7 c0_1
  replace c1_0 := zh hx7 c1_0
  replace c1_1 := zh hx7 c1_1
  replace c1_2 := zh hx7 c1_2
  replace c1_3 := zh hx7 c1_3
  replace c2_0f := zf hx7 c2_0 c2_0f
  replace c2_1f := zf hx7 c2_1 c2_1f
  replace c2_0 := zh hx7 c2_0
  replace c2_1 := zh hx7 c2_1
  replace c4_0 := zh hx7 c4_0
  replace c4_1 := zh hx7 c4_1
  have c5_0f : w7.frozen? ⟨w6.heap.size, 0, none⟩ = false := hx7.froz (v := .slice none 0 0) zcv zcv
  have c5_1f : w7.frozen? ⟨w6.heap.size, 1, none⟩ = false := hx7.froz (v := .slice none 0 0) zcv zcv
  have c5_0 : w7.cell? ⟨w6.heap.size, 0, none⟩ = some (.slice none 0 0) := hx7.has zcv
  have c5_1 : w7.cell? ⟨w6.heap.size, 1, none⟩ = some (.slice none 0 0) := hx7.has zcv
  have z7 := hx7.size
  try simp at z7
  have lt_c0_c5 := zl w.heap.size w6.heap.size
  have lt_c1_c5 := zl (w.heap.size + 1) w6.heap.size
  have lt_c2_c5 := zl (w.heap.size + 1 + 1) w6.heap.size
  have lt_c4_c5 := zl w5.heap.size w6.heap.size
  replace rc0 := zr w.heap.size w7
  replace rc1 := zr (w.heap.size + 1) w7
  replace rc2 := zr (w.heap.size + 1 + 1) w7
  replace rc4 := zr w5.heap.size w7
  have rc5 := zr w6.heap.size w7
  replace HO3 := Lib.hid (HO3.out.ext (Ext.trans zxt hx7))
  have X7 : Hid (Ext w w7) := Lib.hid (Ext.trans zxt hx7)
  clear X6 hx7
  refine' zk hK zSlTac5_0 (fun hHeld => ?_); clear hK K
  refine' zt 11 ?_
  refine' zt 12 ?_
  refine' zn 13 (fun K hK => ?_)
  go_simp
  (with_reducible refine (C10.out _ L3.length d3 B3 zxt).mono ?_)
  rintro e w8 ⟨B4, d4, rfl, hB4, hO4, hx8⟩
  replace c0_0 := zh hx8 c0_0
  replace c0_1 := zh hx8 c0_1
  replace c1_0 := zh hx8 c1_0
  replace c1_1 := zh hx8 c1_1
  replace c1_2 := zh hx8 c1_2
  replace c1_3 := zh hx8 c1_3
  replace c2_0f := zf hx8 c2_0 c2_0f
  replace c2_1f := zf hx8 c2_1 c2_1f
  replace c2_0 := zh hx8 c2_0
  replace c2_1 := zh hx8 c2_1
  replace c4_0 := zh hx8 c4_0
  replace c4_1 := zh hx8 c4_1
  replace c5_0f := zf hx8 c5_0 c5_0f
  replace c5_1f := zf hx8 c5_1 c5_1f
  replace c5_0 := zh hx8 c5_0
  replace c5_1 := zh hx8 c5_1
  have z8 := hx8.size
  try simp at z8
  replace rc0 := zr w.heap.size w8
  replace rc1 := zr (w.heap.size + 1) w8
  replace rc2 := zr (w.heap.size + 1 + 1) w8
  replace rc4 := zr w5.heap.size w8
  replace rc5 := zr w6.heap.size w8
  replace HO3 := Lib.hid (HO3.out.ext (Ext.trans zxt hx8))
  have X8 : Hid (Ext w w8) := Lib.hid (Ext.trans zxt hx8)
  have HP4 := Lib.hid (show OwnPos _ w.heap.size _ _ _ from own_lower hO4 (by first | omega | (simp; done) | (simp; omega)))
  clear X7 hx8
  have RP4 := Lib.hid (own_rng hO4)
  clear hO4 hB4
  refine' zk hK zSlTac5_0 (fun hHeld => ?_); clear hK K
  refine' zn 15 (fun K hK => ?_)
  go_simp
  refine' zk hK zSlTac5_0 (fun hHeld => ?_); clear hK K
  refine wpAnyH_done (by kernel_rfl) ?_ _
  go_wp2_with fail
  have HO3w : World.ownsRow _ w.heap.size 79 6 _ _ _ := HO3.out
  have HP4w : World.ownsRow _ w.heap.size 82 6 _ _ _ := HP4.out
  (refine (kCopyHolding_any d3 d4 B3 B4 L3 L4 _ (OwnCls.sl (base := w.heap.size) zSlTac5_2) (OwnPos.sl (base := w.heap.size) zSlTac5_1) (by omega) (by omega)).mono ?_)
  rintro e w9 ⟨v5, rfl, B5, d5, B6, d6, rfl, _, _, hO5, hO6, hx9⟩
  replace c0_0 := zh hx9 c0_0
  replace c0_1 := zh hx9 c0_1
  replace c1_0 := zh hx9 c1_0
  replace c1_1 := zh hx9 c1_1
  replace c1_2 := zh hx9 c1_2
  replace c1_3 := zh hx9 c1_3
  replace c2_0f := zf hx9 c2_0 c2_0f
  replace c2_1f := zf hx9 c2_1 c2_1f
  replace c2_0 := zh hx9 c2_0
  replace c2_1 := zh hx9 c2_1
  replace c4_0 := zh hx9 c4_0
  replace c4_1 := zh hx9 c4_1
  have z9 := hx9.size
  try simp at z9
  replace rc0 := zr w.heap.size w9
  replace rc1 := zr (w.heap.size + 1) w9
  replace rc2 := zr (w.heap.size + 1 + 1) w9
  replace rc4 := zr w5.heap.size w9
  have X9 : Hid (Ext w w9) := Lib.hid (Ext.trans zxt hx9)
  have HO5 := Lib.hid (show OwnCls _ (w8.heap.size) _ _ _ from own_lower hO5 zSlTac5_4)
  have HP6 := Lib.hid (show OwnPos _ (w8.heap.size) _ _ _ from own_lower hO6 zSlTac5_4)
  clear c5_0f c5_0 c5_1 c5_1f rc5 HO3 HP4 X8 hx9
  clear hO5 hO6
  obtain rfl : R = (L3, L4, JN, 0) := HR.out.trans (HE0.out HX0.out)
  go_wp2_with fail
  refine bodyPost_ret (v := .tuple #[.agg #[.slice B5 L3.length d5, .slice B6 L4.length d6], .int .u64 JN, .int .i64 0]) zSlTac5_3 rfl ⟨_, rfl, holdS_of (b := w8.heap.size) (by omega) (show World.ownsRow _ (w8.heap.size) _ _ _ _ _ from by repeat (first | with_reducible refine own_box ?_ (by omega) | with_reducible refine World.ownsRow.drew ?_ | exact HO5.out)) (show World.ownsRow _ (w8.heap.size) _ _ _ _ _ from by repeat (first | with_reducible refine own_box ?_ (by omega) | with_reducible refine World.ownsRow.drew ?_ | exact HP6.out)) zxt⟩
 go_simp
 refine' zk hK zSlTac5_0 (fun hHeld => ?_); clear hK K
 refine' zn 3 (fun K hK => ?_)
 go_simp
 (with_reducible refine (C8.out _ zxt).mono ?_)
 rintro e w6 ⟨B3, d3, rfl, hB3, hO3, hx6⟩
 replace c0_0 := zh hx6 c0_0
 replace c0_1 := zh hx6 c0_1
 replace c1_0 := zh hx6 c1_0
 replace c1_1 := zh hx6 c1_1
 replace c1_2 := zh hx6 c1_2
 replace c1_3 := zh hx6 c1_3
 replace c2_0f := zf hx6 c2_0 c2_0f
 replace c2_1f := zf hx6 c2_1 c2_1f
 replace c2_0 := zh hx6 c2_0
 replace c2_1 := zh hx6 c2_1
 have c4_0 : w6.cell? ⟨w5.heap.size, 0, none⟩ = some (.int .u64 JT) := hx6.has zcv
 have c4_1 : w6.cell? ⟨w5.heap.size, 1, none⟩ = some (.int .u64 JS) := hx6.has zcv
 have c5_0f : w6.frozen? ⟨w5.heap.size + 1, 0, none⟩ = false := hx6.froz (v := .slice none 0 0) zcv zcv
 have c5_1f : w6.frozen? ⟨w5.heap.size + 1, 1, none⟩ = false := hx6.froz (v := .slice none 0 0) zcv zcv
 have c5_0 : w6.cell? ⟨w5.heap.size + 1, 0, none⟩ = some (.slice none 0 0) := hx6.has zcv
 have c5_1 : w6.cell? ⟨w5.heap.size + 1, 1, none⟩ = some (.slice none 0 0) := hx6.has zcv
 have z6 := hx6.size
 try simp at z6
 have lt_c0_c4 := zl w.heap.size w5.heap.size
 have lt_c0_c5 := zl w.heap.size (w5.heap.size + 1)
 have lt_c1_c4 := zl (w.heap.size + 1) w5.heap.size
 have lt_c1_c5 := zl (w.heap.size + 1) (w5.heap.size + 1)
 have lt_c2_c4 := zl (w.heap.size + 1 + 1) w5.heap.size
 have lt_c2_c5 := zl (w.heap.size + 1 + 1) (w5.heap.size + 1)
 have lt_c4_c5 := zl w5.heap.size (w5.heap.size + 1)
 replace rc0 := zr w.heap.size w6
 replace rc1 := zr (w.heap.size + 1) w6
 replace rc2 := zr (w.heap.size + 1 + 1) w6
 have rc4 := zr w5.heap.size w6
 have rc5 := zr (w5.heap.size + 1) w6
 have X6 : Hid (Ext w w6) := Lib.hid (Ext.trans zxt hx6)
 have HO3 := Lib.hid (show OwnCls _ w.heap.size _ _ _ from own_lower hO3 (by first | omega | (simp; done) | (simp; omega)))
 clear X5 hx6
 have RO3 := Lib.hid (own_rng hO3)
 clear hO3 hB3
 refine' zk hK zSlTac5_0 (fun hHeld => ?_); clear hK K
 refine' zn 9 (fun K hK => ?_)
 go_simp
 (with_reducible refine (C9.out _ zxt).mono ?_)
 rintro e w7 ⟨rfl, hx7⟩
 replace c0_0 := zh hx7 c0_0
 replace c0_1 := zh hx7 c0_1
 replace c1_0 := zh hx7 c1_0
 replace c1_1 := zh hx7 c1_1
 replace c1_2 := zh hx7 c1_2
 replace c1_3 := zh hx7 c1_3
 replace c2_0f := zf hx7 c2_0 c2_0f
 replace c2_1f := zf hx7 c2_1 c2_1f
 replace c2_0 := zh hx7 c2_0
 replace c2_1 := zh hx7 c2_1
 replace c4_0 := zh hx7 c4_0
 replace c4_1 := zh hx7 c4_1
 replace c5_0f := zf hx7 c5_0 c5_0f
 replace c5_1f := zf hx7 c5_1 c5_1f
 replace c5_0 := zh hx7 c5_0
 replace c5_1 := zh hx7 c5_1
 have z7 := hx7.size
 try simp at z7
 replace rc0 := zr w.heap.size w7
 replace rc1 := zr (w.heap.size + 1) w7
 replace rc2 := zr (w.heap.size + 1 + 1) w7
 replace rc4 := zr w5.heap.size w7
 replace rc5 := zr (w5.heap.size + 1) w7
 replace HO3 := Lib.hid (HO3.out.ext (Ext.trans zxt hx7))
 have X7 : Hid (Ext w w7) := Lib.hid (Ext.trans zxt hx7)
 clear X6 hx7
 refine' zk hK zSlTac5_0 (fun hHeld => ?_); clear hK K
 refine' zt 11 ?_
 refine' zt 12 ?_
 refine' zn 13 (fun K hK => ?_)
 go_simp
 (with_reducible refine (C10.out _ L3.length d3 B3 zxt).mono ?_)
 rintro e w8 ⟨B4, d4, rfl, hB4, hO4, hx8⟩
 replace c0_0 := zh hx8 c0_0
 replace c0_1 := zh hx8 c0_1
 replace c1_0 := zh hx8 c1_0
 replace c1_1 := zh hx8 c1_1
 replace c1_2 := zh hx8 c1_2
 replace c1_3 := zh hx8 c1_3
 replace c2_0f := zf hx8 c2_0 c2_0f
 replace c2_1f := zf hx8 c2_1 c2_1f
 replace c2_0 := zh hx8 c2_0
 replace c2_1 := zh hx8 c2_1
 replace c4_0 := zh hx8 c4_0
 replace c4_1 := zh hx8 c4_1
 replace c5_0f := zf hx8 c5_0 c5_0f
 replace c5_1f := zf hx8 c5_1 c5_1f
 replace c5_0 := zh hx8 c5_0
 replace c5_1 := zh hx8 c5_1
 have z8 := hx8.size
 try simp at z8
 replace rc0 := zr w.heap.size w8
 replace rc1 := zr (w.heap.size + 1) w8
 replace rc2 := zr (w.heap.size + 1 + 1) w8
 replace rc4 := zr w5.heap.size w8
 replace rc5 := zr (w5.heap.size + 1) w8
 replace HO3 := Lib.hid (HO3.out.ext (Ext.trans zxt hx8))
 have X8 : Hid (Ext w w8) := Lib.hid (Ext.trans zxt hx8)
 have HP4 := Lib.hid (show OwnPos _ w.heap.size _ _ _ from own_lower hO4 (by first | omega | (simp; done) | (simp; omega)))
 clear X7 hx8
 have RP4 := Lib.hid (own_rng hO4)
 clear hO4 hB4
 refine' zk hK zSlTac5_0 (fun hHeld => ?_); clear hK K
 refine' zn 15 (fun K hK => ?_)
 go_simp
 refine' zk hK zSlTac5_0 (fun hHeld => ?_); clear hK K
 refine wpAnyH_done (by kernel_rfl) ?_ _
 go_wp2_with fail
 have HO3w : World.ownsRow _ w.heap.size 79 6 _ _ _ := HO3.out
 have HP4w : World.ownsRow _ w.heap.size 82 6 _ _ _ := HP4.out
 (refine (kCopyHolding_any d3 d4 B3 B4 L3 L4 _ (OwnCls.sl (base := w.heap.size) zSlTac5_2) (OwnPos.sl (base := w.heap.size) zSlTac5_1) (by omega) (by omega)).mono ?_)
 rintro e w9 ⟨v5, rfl, B5, d5, B6, d6, rfl, _, _, hO5, hO6, hx9⟩
 replace c0_0 := zh hx9 c0_0
 replace c0_1 := zh hx9 c0_1
 replace c1_0 := zh hx9 c1_0
 replace c1_1 := zh hx9 c1_1
 replace c1_2 := zh hx9 c1_2
 replace c1_3 := zh hx9 c1_3
 replace c2_0f := zf hx9 c2_0 c2_0f
 replace c2_1f := zf hx9 c2_1 c2_1f
 replace c2_0 := zh hx9 c2_0
 replace c2_1 := zh hx9 c2_1
 replace c4_0 := zh hx9 c4_0
 replace c4_1 := zh hx9 c4_1
 have z9 := hx9.size
 try simp at z9
 replace rc0 := zr w.heap.size w9
 replace rc1 := zr (w.heap.size + 1) w9
 replace rc2 := zr (w.heap.size + 1 + 1) w9
 replace rc4 := zr w5.heap.size w9
 have X9 : Hid (Ext w w9) := Lib.hid (Ext.trans zxt hx9)
 have HO5 := Lib.hid (show OwnCls _ (w8.heap.size) _ _ _ from own_lower hO5 zSlTac5_4)
 have HP6 := Lib.hid (show OwnPos _ (w8.heap.size) _ _ _ from own_lower hO6 zSlTac5_4)
 clear c5_0f c5_0 c5_1 c5_1f rc5 HO3 HP4 X8 hx9
 clear hO5 hO6
 obtain rfl : R = (L3, L4, JN, 0) := HR.out.trans (HE0.out HX0.out)
 go_wp2_with fail
 refine bodyPost_ret (v := .tuple #[.agg #[.slice B5 L3.length d5, .slice B6 L4.length d6], .int .u64 JN, .int .i64 0]) zSlTac5_3 rfl ⟨_, rfl, holdS_of (b := w8.heap.size) (by omega) (show World.ownsRow _ (w8.heap.size) _ _ _ _ _ from by repeat (first | with_reducible refine own_box ?_ (by omega) | with_reducible refine World.ownsRow.drew ?_ | exact HO5.out)) (show World.ownsRow _ (w8.heap.size) _ _ _ _ _ from by repeat (first | with_reducible refine own_box ?_ (by omega) | with_reducible refine World.ownsRow.drew ?_ | exact HP6.out)) zxt⟩
end
end Go.Proofs.YtkinchgjidpjnaaGreat
