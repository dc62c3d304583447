/- Tne, part 2. Conditions stand in each lemma. -/
import Derived.Test.YtkinchgjidpjnaaGreatSlTne1
set_option linter.unusedVariables false
set_option linter.unusedSimpArgs false
set_option maxRecDepth 100000
set_option maxHeartbeats 64000000
namespace Go.Proofs.YtkinchgjidpjnaaGreat
section
open Go.RowKit Go.ChangeShapes Go.WideShapes Go.Deep Go.Joins
theorem zSlTne2_0 {P : Prop} (h : P := by (first | with_reducible exact x_4 | (simp [go_sem, World.cell?_alloc_past, h_0, h_1, x_0, x_1, x_2, x_3, x_4, x_5, x_6, x_7, x_8, r_0f, r_1f, r_2f, r_3f, r_4f, r_5f, r_6f, r_7f, r_8f, r_0, r_1, r_2, r_3, r_4, r_5, r_6, r_7, r_8, y_0f, y_1f, y_2f, y_3f, y_4f, y_5f, y_6f, y_7f, y_8f, y_0, y_1, y_2, y_3, y_4, y_5, y_6, y_7, y_8, ne_h_x, ne_h_r, ne_h_y, ne_x_h, ne_x_r, ne_x_y, ne_r_h, ne_r_x, ne_r_y, ne_y_h, ne_y_x, ne_y_r, rh, rx, rr, ry, hlh, hlx, hlr, hqw, hqb]; done) | exact x_4)) : P := h
theorem zSlTne2_1 {P : Prop} (h : P := by (first | with_reducible exact ⟨c1_0, c1_1, c1_6, c1_7, c1_8⟩ | (simp [go_sem, World.cell?_alloc_past]; done) | exact ⟨c1_0, c1_1, c1_6, c1_7, c1_8⟩)) : P := h
theorem zSlTne2_2 {P : Prop} (h : P := by (first | with_reducible exact ⟨x_2, x_5⟩ | (simp [go_sem, World.cell?_alloc_past, h_0, h_1, x_0, x_1, x_2, x_3, x_4, x_5, x_6, x_7, x_8, r_0f, r_1f, r_2f, r_3f, r_4f, r_5f, r_6f, r_7f, r_8f, r_0, r_1, r_2, r_3, r_4, r_5, r_6, r_7, r_8, y_0f, y_1f, y_2f, y_3f, y_4f, y_5f, y_6f, y_7f, y_8f, y_0, y_1, y_2, y_3, y_4, y_5, y_6, y_7, y_8, ne_h_x, ne_h_r, ne_h_y, ne_x_h, ne_x_r, ne_x_y, ne_r_h, ne_r_x, ne_r_y, ne_y_h, ne_y_x, ne_y_r, rh, rx, rr, ry, hlh, hlx, hlr, hqw, hqb]; done) | exact ⟨x_2, x_5⟩)) : P := h
theorem zSlTne2_3 {P : Prop} (h : P := by (first | with_reducible exact ⟨x_2, x_5⟩ | (simp [go_sem, World.cell?_alloc_past, h_0, h_1, x_0, x_1, x_2, x_3, x_4, x_5, x_6, x_7, x_8, r_0, r_0f, r_1, r_1f, r_2, r_2f, r_3, r_3f, r_4, r_4f, r_5, r_5f, r_6, r_6f, r_7, r_7f, r_8, r_8f, y_0, y_0f, y_1, y_1f, y_2, y_2f, y_3, y_3f, y_4, y_4f, y_5, y_5f, y_6, y_6f, y_7, y_7f, y_8, y_8f, hlh, hlx, hlr, hqw, hqb]; done) | exact ⟨x_2, x_5⟩)) : P := h
structure NearA (yk yo yV yS yP yQ yv yh yn : Int) : Prop where
 k0 : 0 ≤ yk
 k2 : yk ≤ 2
 o0 : 0 ≤ yo
 o1 : yo < 4
 st : chkS yV yS yP yQ = 0
 v0 : 0 ≤ yv
 v1 : yv < 4
 h0 : 1 ≤ yh
 h1 : yh ≤ 20
 wn : Word yn
 cut : yk = 2 → yn ≤ 1000000000
def NearD (w wc : World) (A A2 : Option Addr) (n c n2 c2 : Nat) (xk xo xV xS xP xQ xv xh xn a0 a1 V S P Q a2 a3 m : Int) (qb : Nat) : Prop :=
 wc.cell? ⟨w.heap.size, 0, none⟩ = some (.slice A n c) ∧ wc.cell? ⟨w.heap.size, 1, none⟩ = some (.slice A2 n2 c2) ∧ wc.cell? ⟨w.heap.size + 1, 0, none⟩ = some (.int .i64 xk) ∧ wc.cell? ⟨w.heap.size + 1, 1, none⟩ = some (.int .i64 xo) ∧ wc.cell? ⟨w.heap.size + 1, 2, none⟩ = some (.int .i64 xV) ∧ wc.cell? ⟨w.heap.size + 1, 3, none⟩ = some (.int .i64 xS) ∧ wc.cell? ⟨w.heap.size + 1, 4, none⟩ = some (.int .i64 xP) ∧ wc.cell? ⟨w.heap.size + 1, 5, none⟩ = some (.int .i64 xQ) ∧ wc.cell? ⟨w.heap.size + 1, 6, none⟩ = some (.int .i64 xv) ∧ wc.cell? ⟨w.heap.size + 1, 7, none⟩ = some (.int .i64 xh) ∧ wc.cell? ⟨w.heap.size + 1, 8, none⟩ = some (.int .u64 xn) ∧ wc.cell? ⟨w.heap.size + 2, 0, none⟩ = some (.int .i64 0) ∧ wc.cell? ⟨w.heap.size + 2, 1, none⟩ = some (.int .i64 0) ∧ wc.cell? ⟨w.heap.size + 2, 2, none⟩ = some (.int .i64 0) ∧ wc.cell? ⟨w.heap.size + 2, 3, none⟩ = some (.int .i64 0) ∧ wc.cell? ⟨w.heap.size + 2, 4, none⟩ = some (.int .i64 0) ∧ wc.cell? ⟨w.heap.size + 2, 5, none⟩ = some (.int .i64 0) ∧ wc.cell? ⟨w.heap.size + 2, 6, none⟩ = some (.int .i64 0) ∧ wc.cell? ⟨w.heap.size + 2, 7, none⟩ = some (.int .i64 0) ∧ wc.cell? ⟨w.heap.size + 2, 8, none⟩ = some (.int .u64 0) ∧ wc.frozen? ⟨w.heap.size + 2, 0, none⟩ = false ∧ wc.frozen? ⟨w.heap.size + 2, 1, none⟩ = false ∧ wc.frozen? ⟨w.heap.size + 2, 2, none⟩ = false ∧ wc.frozen? ⟨w.heap.size + 2, 3, none⟩ = false ∧ wc.frozen? ⟨w.heap.size + 2, 4, none⟩ = false ∧ wc.frozen? ⟨w.heap.size + 2, 5, none⟩ = false ∧ wc.frozen? ⟨w.heap.size + 2, 6, none⟩ = false ∧ wc.frozen? ⟨w.heap.size + 2, 7, none⟩ = false ∧ wc.frozen? ⟨w.heap.size + 2, 8, none⟩ = false ∧
 wc.cell? ⟨qb, 0, none⟩ = some (.int .i64 a0) ∧ wc.cell? ⟨qb, 1, none⟩ = some (.int .i64 a1) ∧ wc.cell? ⟨qb, 2, none⟩ = some (.int .i64 V) ∧ wc.cell? ⟨qb, 3, none⟩ = some (.int .i64 S) ∧ wc.cell? ⟨qb, 4, none⟩ = some (.int .i64 P) ∧ wc.cell? ⟨qb, 5, none⟩ = some (.int .i64 Q) ∧ wc.cell? ⟨qb, 6, none⟩ = some (.int .i64 a2) ∧ wc.cell? ⟨qb, 7, none⟩ = some (.int .i64 a3) ∧ wc.cell? ⟨qb, 8, none⟩ = some (.int .u64 m) ∧ wc.frozen? ⟨qb, 0, none⟩ = false ∧ wc.frozen? ⟨qb, 1, none⟩ = false ∧ wc.frozen? ⟨qb, 2, none⟩ = false ∧ wc.frozen? ⟨qb, 3, none⟩ = false ∧ wc.frozen? ⟨qb, 4, none⟩ = false ∧ wc.frozen? ⟨qb, 5, none⟩ = false ∧ wc.frozen? ⟨qb, 6, none⟩ = false ∧ wc.frozen? ⟨qb, 7, none⟩ = false ∧ wc.frozen? ⟨qb, 8, none⟩ = false ∧ w.heap.size + 3 ≤ qb ∧ qb < wc.heap.size ∧ Ext w wc
theorem near13_any (n c n2 c2 : Nat) (A A2 : Option Addr) (cl ps : List I6) (xk xo xV xS xP xQ xv xh xn : Int) (w : World) (fx : FitsA (xk, xo, xV, xS, xP, xQ, xv, xh, xn)) (h : Sl w 6 A n c (cl.flatMap clsC)) (h2 : Sl w 6 A2 n2 c2 (ps.flatMap posC)) (hn : n < 1099511627776) (hn2 : n2 < 1099511000) (hw : ∀ x ∈ cl, WdC x) (hw2 : ∀ x ∈ ps, WdP x) (hk : HOk cl ps) :
  Calls Tryz.prog 45 #[.agg #[.slice A n c, .slice A2 n2 c2], .agg #[.int .i64 xk, .int .i64 xo, .int .i64 xV, .int .i64 xS, .int .i64 xP, .int .i64 xQ, .int .i64 xv, .int .i64 xh, .int .u64 xn]] w fun r w' => (∃ yk yo yV yS yP yQ yv yh yn, r = .returned (.agg #[.int .i64 yk, .int .i64 yo, .int .i64 yV, .int .i64 yS, .int .i64 yP, .int .i64 yQ, .int .i64 yv, .int .i64 yh, .int .u64 yn]) ∧ NearA yk yo yV yS yP yQ yv yh yn) ∧ Ext w w' := by
 obtain ⟨f0, f1, f2, f3, f4, f5, f6, f7, f8⟩ := fx
 have a01 := Int.emod_nonneg xk (show (3 : Int) ≠ 0 by omega)
 have a02 := Int.emod_lt_of_pos xk (show (0 : Int) < 3 by omega)
 obtain ⟨a0, ha0⟩ : ∃ z, z = xk % 3 := ⟨_, rfl⟩
 rw [← ha0] at a01 a02
 have Pa0 : Hid (∀ w, Calls Tryz.prog 48 #[.int .i64 xk, .int .i64 3] w fun e w' => e = .returned (.int .i64 a0) ∧ w = w') := Lib.hid (fun w => by rw [ha0]; exact kPick_any xk 3 f0.i64.1 f0.i64.2 (by omega) (by omega) w)
 have a11 := Int.emod_nonneg xo (show (4 : Int) ≠ 0 by omega)
 have a12 := Int.emod_lt_of_pos xo (show (0 : Int) < 4 by omega)
 obtain ⟨a1, ha1⟩ : ∃ z, z = xo % 4 := ⟨_, rfl⟩
 rw [← ha1] at a11 a12
 have Pa1 : Hid (∀ w, Calls Tryz.prog 48 #[.int .i64 xo, .int .i64 4] w fun e w' => e = .returned (.int .i64 a1) ∧ w = w') := Lib.hid (fun w => by rw [ha1]; exact kPick_any xo 4 f1.i64.1 f1.i64.2 (by omega) (by omega) w)
 have a21 := Int.emod_nonneg xv (show (4 : Int) ≠ 0 by omega)
 have a22 := Int.emod_lt_of_pos xv (show (0 : Int) < 4 by omega)
 obtain ⟨a2, ha2⟩ : ∃ z, z = xv % 4 := ⟨_, rfl⟩
 rw [← ha2] at a21 a22
 have Pa2 : Hid (∀ w, Calls Tryz.prog 48 #[.int .i64 xv, .int .i64 4] w fun e w' => e = .returned (.int .i64 a2) ∧ w = w') := Lib.hid (fun w => by rw [ha2]; exact kPick_any xv 4 f6.i64.1 f6.i64.2 (by omega) (by omega) w)
 have a41 := Int.emod_nonneg xh (show (20 : Int) ≠ 0 by omega)
 have a42 := Int.emod_lt_of_pos xh (show (0 : Int) < 20 by omega)
 obtain ⟨a4, ha4⟩ : ∃ z, z = xh % 20 := ⟨_, rfl⟩
 rw [← ha4] at a41 a42
 have Pa4 : Hid (∀ w, Calls Tryz.prog 48 #[.int .i64 xh, .int .i64 20] w fun e w' => e = .returned (.int .i64 a4) ∧ w = w') := Lib.hid (fun w => by rw [ha4]; exact kPick_any xh 20 f7.i64.1 f7.i64.2 (by omega) (by omega) w)
 have a51 := Int.emod_nonneg xS (show (20 : Int) ≠ 0 by omega)
 have a52 := Int.emod_lt_of_pos xS (show (0 : Int) < 20 by omega)
 obtain ⟨a5, ha5⟩ : ∃ z, z = xS % 20 := ⟨_, rfl⟩
 rw [← ha5] at a51 a52
 have Pa5 : Hid (∀ w, Calls Tryz.prog 48 #[.int .i64 xS, .int .i64 20] w fun e w' => e = .returned (.int .i64 a5) ∧ w = w') := Lib.hid (fun w => by rw [ha5]; exact kPick_any xS 20 f3.i64.1 f3.i64.2 (by omega) (by omega) w)
 have a61 := Int.emod_nonneg xV (show (4 : Int) ≠ 0 by omega)
 have a62 := Int.emod_lt_of_pos xV (show (0 : Int) < 4 by omega)
 obtain ⟨a6, ha6⟩ : ∃ z, z = xV % 4 := ⟨_, rfl⟩
 rw [← ha6] at a61 a62
 have Pa6 : Hid (∀ w, Calls Tryz.prog 48 #[.int .i64 xV, .int .i64 4] w fun e w' => e = .returned (.int .i64 a6) ∧ w = w') := Lib.hid (fun w => by rw [ha6]; exact kPick_any xV 4 f2.i64.1 f2.i64.2 (by omega) (by omega) w)
 have a81 := Int.emod_nonneg xP (show (3 : Int) ≠ 0 by omega)
 have a82 := Int.emod_lt_of_pos xP (show (0 : Int) < 3 by omega)
 obtain ⟨a8, ha8⟩ : ∃ z, z = xP % 3 := ⟨_, rfl⟩
 rw [← ha8] at a81 a82
 have Pa8 : Hid (∀ w, Calls Tryz.prog 48 #[.int .i64 xP, .int .i64 3] w fun e w' => e = .returned (.int .i64 a8) ∧ w = w') := Lib.hid (fun w => by rw [ha8]; exact kPick_any xP 3 f4.i64.1 f4.i64.2 (by omega) (by omega) w)
 obtain ⟨a3, ha3⟩ : ∃ z, z = 1 + a4 := ⟨_, rfl⟩
 obtain ⟨sn, hsn⟩ : ∃ z, z = 1 + a5 := ⟨_, rfl⟩
 have a71 := Int.emod_nonneg xQ (show (sn : Int) ≠ 0 by omega)
 have a72 := Int.emod_lt_of_pos xQ (show (0 : Int) < sn by omega)
 obtain ⟨a7, ha7⟩ : ∃ z, z = xQ % sn := ⟨_, rfl⟩
 rw [← ha7] at a71 a72
 have Pa7 : Hid (∀ w, Calls Tryz.prog 48 #[.int .i64 xQ, .int .i64 sn] w fun e w' => e = .returned (.int .i64 a7) ∧ w = w') := Lib.hid (fun w => by rw [ha7]; exact kPick_any xQ sn f5.i64.1 f5.i64.2 (by omega) (by omega) w)
 obtain ⟨fr, hfr⟩ : ∃ z, z = 1 + a7 := ⟨_, rfl⟩
 have m01 := Int.emod_nonneg xn (show (1099511627776 : Int) ≠ 0 by omega)
 have m02 := Int.emod_lt_of_pos xn (show (0 : Int) < 1099511627776 by omega)
 have m03 : xn.tmod 1099511627776 = xn % 1099511627776 := Int.tmod_eq_emod_of_nonneg f8.1
 obtain ⟨m0, hm0⟩ : ∃ z, z = xn % 1099511627776 := ⟨_, rfl⟩
 rw [← hm0] at m01 m02 m03
 have m04 : xn % 1099511627776 = m0 := hm0.symm
 have b01 := Int.emod_nonneg xn (show (1000000001 : Int) ≠ 0 by omega)
 have b02 := Int.emod_lt_of_pos xn (show (0 : Int) < 1000000001 by omega)
 have b03 : xn.tmod 1000000001 = xn % 1000000001 := Int.tmod_eq_emod_of_nonneg f8.1
 obtain ⟨b0, hb0⟩ : ∃ z, z = xn % 1000000001 := ⟨_, rfl⟩
 rw [← hb0] at b01 b02 b03
 have b04 : xn % 1000000001 = b0 := hb0.symm
 have W3 : IntKind.i64.wrap (1 + a4) = a3 := by rw [ha3]; exact IntWalk.i64_in _ (by omega)
 have Wsn : IntKind.i64.wrap (1 + a5) = sn := by rw [hsn]; exact IntWalk.i64_in _ (by omega)
 have Wfr : IntKind.i64.wrap (1 + a7) = fr := by rw [hfr]; exact IntWalk.i64_in _ (by omega)
 have CN := Lib.hid (fun w => tNew_any a6 fr false false (by unfold outB; simp; omega) (by unfold outB; simp; omega) w)
 obtain ⟨c0, hc0⟩ : ∃ z, z = a6 + 1 + a8 := ⟨_, rfl⟩
 have Wc1 : IntKind.i64.wrap (a6 + 1) = a6 + 1 := IntWalk.i64_in _ (by omega)
 have Wc2 : IntKind.i64.wrap (a6 + 1 + a8) = c0 := by rw [← hc0]; exact IntWalk.i64_in _ (by omega)
 have d01 := Int.emod_nonneg c0 (show (4 : Int) ≠ 0 by omega)
 have d02 := Int.emod_lt_of_pos c0 (show (0 : Int) < 4 by omega)
 have d03 : c0.tmod 4 = c0 % 4 := Int.tmod_eq_emod_of_nonneg (by omega)
 have d05 : c0 % 4 ≠ a6 := by omega
 obtain ⟨d0, hd0⟩ : ∃ z, z = c0 % 4 := ⟨_, rfl⟩
 rw [← hd0] at d01 d02 d03 d05
 have d04 : c0 % 4 = d0 := hd0.symm
 have kn : chkS a6 fr (-1) 0 = 0 := chkS_of ⟨by omega, by omega, by omega, by omega, by omega, by omega, by omega, by omega, by omega, by omega, by omega⟩
 have kh : chkS d0 sn a6 fr = 0 := chkS_of ⟨by omega, by omega, by omega, by omega, by omega, by omega, by omega, by omega, by omega, by omega, by omega⟩
 have hr0 : hopR a6 fr (-1) 0 d0 sn = 0 := by
  unfold hopR
  rw [kn]
  have q1 : outB d0 0 31 = false := by unfold outB; simp; omega
  have q2 : outB sn 1 4294967296 = false := by unfold outB; simp; omega
  have q3 : (d0 == a6) = false := by simpa using d05
  have q4 : decide (sn < fr) = false := decide_eq_false (by omega)
  rw [q1, q2, q3, q4]
  rfl
 have CH := Lib.hid (fun w => tHop_any a6 fr (-1) 0 d0 sn w)
 unfold hopZ at CH
 rw [hr0] at CH
 have KN := Lib.hid (show chkS a6 fr (-1) 0 = 0 ∧ chkS d0 sn a6 fr = 0 ∧ (0 ≤ a0 ∧ a0 < 3) ∧ (0 ≤ a1 ∧ a1 < 4) ∧ (0 ≤ a2 ∧ a2 < 4) ∧ (1 ≤ a3 ∧ a3 ≤ 20) ∧ (0 ≤ m0 ∧ m0 < 1099511627776) ∧ (0 ≤ b0 ∧ b0 < 1000000001) from ⟨kn, kh, ⟨a01, a02⟩, ⟨a11, a12⟩, ⟨a21, a22⟩, by omega, ⟨m01, m02⟩, ⟨b01, b02⟩⟩)
 have CF := Lib.hid (fun (w' : World) (hx : Ext w w') => hOf_any n c n2 c2 A A2 cl ps a1 w' (h.ext hx) (h2.ext hx) hn hn2 hw hw2)
 rw [(chkH_iff cl ps).2 hk] at CF
 simp only [ne_eq, not_true_eq_false, if_false] at CF
 obtain ⟨LO, hLO⟩ : ∃ l, l = ofF a1 ps := ⟨_, rfl⟩
 have hlo : LO.length ≤ n2 := by rw [hLO]; exact Nat.le_trans (List.length_filter_le ..) (by rw [h2.rlen posC_len (by decide)]; exact Nat.le_refl _)
 have HLO := Lib.hid (show ∀ x ∈ LO, chkS x.2.1 x.2.2.1 x.2.2.2.1 x.2.2.2.2.1 = 0 ∧ Word x.2.2.2.2.2 ∧ x.2.2.2.2.2 ≠ 0 from fun x hx => by
  rw [hLO] at hx
  have hm := (List.mem_filter.1 hx).1
  obtain ⟨y, hy⟩ := Option.isSome_iff_exists.1 (hk.pos x hm).2.2
  obtain ⟨ym, yk⟩ := getK_mem hy
  have hs := (hk.cls y ym).1
  unfold kC stP at yk
  simp only [List.cons.injEq, and_true] at yk
  rw [yk.1, yk.2.1, yk.2.2.1, yk.2.2.2] at hs
  exact ⟨hs, hw2 x hm, (hk.pos x hm).2.1⟩)
 have HF7 := Lib.hid f7
 rw [← hLO] at CF
 have HW3 := Lib.hid (And.intro W3 (And.intro m03 m04))
 have HWs := Lib.hid Wsn
 have HWf := Lib.hid Wfr
 have HWc := Lib.hid (And.intro Wc1 (And.intro Wc2 (And.intro d03 d04)))
 have HWb := Lib.hid (And.intro b03 b04)
 clear W3 m03 m04 Wsn Wfr Wc1 Wc2 d03 d04 b03 b04
 clear h h2 hn hw hw2 hk hLO f0 f1 f2 f3 f4 f5 f6 f7 hb0 hd0 hc0 hm0 hfr hsn ha3 ha0 ha1 ha2 ha4 ha5 ha6 ha7 ha8 kn kh hr0 a01 a02 a11 a12 a21 a22 a41 a42 a51 a52 a61 a62 a71 a72 a81 a82 m01 m02 b01 b02 d01 d02 d05
 go_enter Tryz.func45, Tryz.ntmps45
 go_upto_region 1 with (fail)
 go_cut [5] (fun q wc => ∃ qb : Nat, q = .pointer (some ⟨qb, 0, none⟩) ∧ NearD w wc A A2 n c n2 c2 xk xo xV xS xP xQ xv xh xn a0 a1 0 0 0 0 a2 a3 m0 qb)
 case first =>
  obtain ⟨W3, m03, m04⟩ := HW3.out
  go_wp2_with fail
  refine wp_region_held_drew (S := fun w' => w'.cell? ⟨w.heap.size + 1, 0, none⟩ = some (.int .i64 xk) ∧ w'.cell? ⟨w.heap.size + 1, 1, none⟩ = some (.int .i64 xo) ∧ w'.cell? ⟨w.heap.size + 1, 6, none⟩ = some (.int .i64 xv) ∧ w'.cell? ⟨w.heap.size + 1, 7, none⟩ = some (.int .i64 xh) ∧ w'.cell? ⟨w.heap.size + 1, 8, none⟩ = some (.int .u64 xn)) (by kernel_rfl) (by first | with_reducible exact ⟨c1_0, c1_1, c1_6, c1_7, c1_8⟩ | (simp [go_sem, World.cell?_alloc_past]; done)) (fun hHeld => ?_)
  refine' zt 0 ?_
  refine' zt 1 ?_
  refine' zt 3 ?_
  refine' zt 4 ?_
  refine' zt 6 ?_
  refine' zt 7 ?_
  refine' zt 9 ?_
  refine' zt 10 ?_
  refine' zt 13 ?_
  refine' zt 14 ?_
  refine' zt 15 ?_
  refine' next2_in 2 17 rfl rfl (by kernel_rfl) (by rfl) (by rfl) (fun K hK => ?_) (fun K hK => ?_)
  ·go_simp
   (with_reducible refine (Pa0.out _).mono ?_)
   rintro e w_1 ⟨rfl, rfl⟩
   refine' zk hK zSlTne2_1 (fun hHeld => ?_); clear hK K
   refine' next2_in 5 17 rfl rfl (by kernel_rfl) (by rfl) (by rfl) (fun K hK => ?_) (fun K hK => ?_)
   ·go_simp
    (with_reducible refine (Pa1.out _).mono ?_)
    rintro e w_2 ⟨rfl, rfl⟩
    refine' zk hK zSlTne2_1 (fun hHeld => ?_); clear hK K
    refine' next2_in 8 17 rfl rfl (by kernel_rfl) (by rfl) (by rfl) (fun K hK => ?_) (fun K hK => ?_)
    ·go_simp
     (with_reducible refine (Pa2.out _).mono ?_)
     rintro e w_3 ⟨rfl, rfl⟩
     refine' zk hK zSlTne2_1 (fun hHeld => ?_); clear hK K
     refine' next2_in 11 17 rfl rfl (by kernel_rfl) (by rfl) (by rfl) (fun K hK => ?_) (fun K hK => ?_)
     ·go_simp
      (with_reducible refine (Pa4.out _).mono ?_)
      rintro e w_4 ⟨rfl, rfl⟩
      refine' zk hK zSlTne2_1 (fun hHeld => ?_); clear hK K
      refine' zt 12 ?_
      refine' zt 16 ?_
      refine' zn 17 (fun K hK => ?_)
      go_simp
      refine' zk hK zSlTne2_1 (fun hHeld => ?_); clear hK K
      refine' zn 18 (fun K hK => ?_)
      go_simp
      refine' zk hK zSlTne2_1 (fun hHeld => ?_); clear hK K
      refine wpAnyH_done (by kernel_rfl) ?_ _
      go_wp2_with fail
      go_meet
      exact ⟨_, rfl, zcv, zcv, zcv, zcv, zcv, zcv, zcv, zcv, zcv, zcv, zcv, zcv, zcv, zcv, zcv, zcv, zcv, zcv, zcv, zcv, zcv, zcv, zcv, zcv, zcv, zcv, zcv, zcv, zcv, zcv, zcv, zcv, zcv, zcv, zcv, zcv, zcv, zcv, zcv, zcv, zcv, zcv, zcv, zcv, zcv, zcv, zcv, by first | omega | (simp; done) | (simp; omega), by first | omega | (simp; done) | (simp; omega), zxt⟩
     go_simp
     refine' zk hK zSlTne2_1 (fun hHeld => ?_); clear hK K
     refine' zn 11 (fun K hK => ?_)
     go_simp
     (with_reducible refine (Pa4.out _).mono ?_)
     rintro e w_4 ⟨rfl, rfl⟩
     refine' zk hK zSlTne2_1 (fun hHeld => ?_); clear hK K
     refine' zt 12 ?_
     refine' zt 16 ?_
     refine' zn 18 (fun K hK => ?_)
     go_simp
     refine' zk hK zSlTne2_1 (fun hHeld => ?_); clear hK K
     refine wpAnyH_done (by kernel_rfl) ?_ _
     go_wp2_with fail
     go_meet
     exact ⟨_, rfl, zcv, zcv, zcv, zcv, zcv, zcv, zcv, zcv, zcv, zcv, zcv, zcv, zcv, zcv, zcv, zcv, zcv, zcv, zcv, zcv, zcv, zcv, zcv, zcv, zcv, zcv, zcv, zcv, zcv, zcv, zcv, zcv, zcv, zcv, zcv, zcv, zcv, zcv, zcv, zcv, zcv, zcv, zcv, zcv, zcv, zcv, zcv, by first | omega | (simp; done) | (simp; omega), by first | omega | (simp; done) | (simp; omega), zxt⟩
    go_simp
    refine' zk hK zSlTne2_1 (fun hHeld => ?_); clear hK K
    refine' zn 8 (fun K hK => ?_)
    go_simp
    (with_reducible refine (Pa2.out _).mono ?_)
    rintro e w_3 ⟨rfl, rfl⟩
    refine' zk hK zSlTne2_1 (fun hHeld => ?_); clear hK K
    refine' zn 11 (fun K hK => ?_)
    go_simp
    (with_reducible refine (Pa4.out _).mono ?_)
    rintro e w_4 ⟨rfl, rfl⟩
    refine' zk hK zSlTne2_1 (fun hHeld => ?_); clear hK K
    refine' zt 12 ?_
    refine' zt 16 ?_
    refine' zn 18 (fun K hK => ?_)
    go_simp
    refine' zk hK zSlTne2_1 (fun hHeld => ?_); clear hK K
    refine wpAnyH_done (by kernel_rfl) ?_ _
    go_wp2_with fail
    go_meet
    exact ⟨_, rfl, zcv, zcv, zcv, zcv, zcv, zcv, zcv, zcv, zcv, zcv, zcv, zcv, zcv, zcv, zcv, zcv, zcv, zcv, zcv, zcv, zcv, zcv, zcv, zcv, zcv, zcv, zcv, zcv, zcv, zcv, zcv, zcv, zcv, zcv, zcv, zcv, zcv, zcv, zcv, zcv, zcv, zcv, zcv, zcv, zcv, zcv, zcv, by first | omega | (simp; done) | (simp; omega), by first | omega | (simp; done) | (simp; omega), zxt⟩
   go_simp
   refine' zk hK zSlTne2_1 (fun hHeld => ?_); clear hK K
   refine' zn 5 (fun K hK => ?_)
   go_simp
   (with_reducible refine (Pa1.out _).mono ?_)
   rintro e w_2 ⟨rfl, rfl⟩
   refine' zk hK zSlTne2_1 (fun hHeld => ?_); clear hK K
   refine' zn 8 (fun K hK => ?_)
   go_simp
   (with_reducible refine (Pa2.out _).mono ?_)
   rintro e w_3 ⟨rfl, rfl⟩
   refine' zk hK zSlTne2_1 (fun hHeld => ?_); clear hK K
   refine' zn 11 (fun K hK => ?_)
   go_simp
   (with_reducible refine (Pa4.out _).mono ?_)
   rintro e w_4 ⟨rfl, rfl⟩
   refine' zk hK zSlTne2_1 (fun hHeld => ?_); clear hK K
   refine' zt 12 ?_
   refine' zt 16 ?_
   refine' zn 18 (fun K hK => ?_)
   go_simp
   refine' zk hK zSlTne2_1 (fun hHeld => ?_); clear hK K
   refine wpAnyH_done (by kernel_rfl) ?_ _
   go_wp2_with fail
   go_meet
   exact ⟨_, rfl, zcv, zcv, zcv, zcv, zcv, zcv, zcv, zcv, zcv, zcv, zcv, zcv, zcv, zcv, zcv, zcv, zcv, zcv, zcv, zcv, zcv, zcv, zcv, zcv, zcv, zcv, zcv, zcv, zcv, zcv, zcv, zcv, zcv, zcv, zcv, zcv, zcv, zcv, zcv, zcv, zcv, zcv, zcv, zcv, zcv, zcv, zcv, by first | omega | (simp; done) | (simp; omega), by first | omega | (simp; done) | (simp; omega), zxt⟩
  go_simp
  refine' zk hK zSlTne2_1 (fun hHeld => ?_); clear hK K
  refine' zn 2 (fun K hK => ?_)
  go_simp
  (with_reducible refine (Pa0.out _).mono ?_)
  rintro e w_1 ⟨rfl, rfl⟩
  refine' zk hK zSlTne2_1 (fun hHeld => ?_); clear hK K
  refine' zn 5 (fun K hK => ?_)
  go_simp
  (with_reducible refine (Pa1.out _).mono ?_)
  rintro e w_2 ⟨rfl, rfl⟩
  refine' zk hK zSlTne2_1 (fun hHeld => ?_); clear hK K
  refine' zn 8 (fun K hK => ?_)
  go_simp
  (with_reducible refine (Pa2.out _).mono ?_)
  rintro e w_3 ⟨rfl, rfl⟩
  refine' zk hK zSlTne2_1 (fun hHeld => ?_); clear hK K
  refine' zn 11 (fun K hK => ?_)
  go_simp
  (with_reducible refine (Pa4.out _).mono ?_)
  rintro e w_4 ⟨rfl, rfl⟩
  refine' zk hK zSlTne2_1 (fun hHeld => ?_); clear hK K
  refine' zt 12 ?_
  refine' zt 16 ?_
  refine' zn 18 (fun K hK => ?_)
  go_simp
  refine' zk hK zSlTne2_1 (fun hHeld => ?_); clear hK K
  refine wpAnyH_done (by kernel_rfl) ?_ _
  go_wp2_with fail
  go_meet
  exact ⟨_, rfl, zcv, zcv, zcv, zcv, zcv, zcv, zcv, zcv, zcv, zcv, zcv, zcv, zcv, zcv, zcv, zcv, zcv, zcv, zcv, zcv, zcv, zcv, zcv, zcv, zcv, zcv, zcv, zcv, zcv, zcv, zcv, zcv, zcv, zcv, zcv, zcv, zcv, zcv, zcv, zcv, zcv, zcv, zcv, zcv, zcv, zcv, zcv, by first | omega | (simp; done) | (simp; omega), by first | omega | (simp; done) | (simp; omega), zxt⟩
 obtain ⟨qb, rfl, h_0, h_1, x_0, x_1, x_2, x_3, x_4, x_5, x_6, x_7, x_8, r_0, r_1, r_2, r_3, r_4, r_5, r_6, r_7, r_8, r_0f, r_1f, r_2f, r_3f, r_4f, r_5f, r_6f, r_7f, r_8f, y_0, y_1, y_2, y_3, y_4, y_5, y_6, y_7, y_8, y_0f, y_1f, y_2f, y_3f, y_4f, y_5f, y_6f, y_7f, y_8f, hqb, hqw, X⟩ := hcut
 have XC := Lib.hid X
 clear X
 have hlh := cell_lt h_0
 have hlx := cell_lt x_0
 have hlr := cell_lt r_0
 clear HW3 Pa0 Pa1 Pa2 Pa4
 have Wsn := HWs.out
 go_wp2_with fail
 (with_reducible refine (Pa5.out _).mono ?_)
 rintro e w_1 ⟨rfl, rfl⟩
 have Wfr := HWf.out
 go_wp2_with fail
 refine wp_region_held_drew (S := fun w' => w'.cell? ⟨w.heap.size + 1, 2, none⟩ = some (.int .i64 xV) ∧ w'.cell? ⟨w.heap.size + 1, 5, none⟩ = some (.int .i64 xQ)) (by kernel_rfl) (by first | with_reducible exact ⟨x_2, x_5⟩ | (simp [go_sem, World.cell?_alloc_past, x_2, x_5, hlh, hlx, hlr, hqw, hqb]; done)) (fun hHeld => ?_)
 refine' zt 0 ?_
 refine' zt 1 ?_
 refine' zt 2 ?_
 refine' zt 4 ?_
 refine' zt 5 ?_
 refine' zt 6 ?_
 refine' zt 7 ?_
 refine' zn 3 (fun K hK => ?_)
 go_simp
 (with_reducible refine (Pa6.out _).mono ?_)
 rintro e w_2 ⟨rfl, rfl⟩
 refine' zk hK zSlTne2_3 (fun hHeld => ?_); clear hK K
 refine' zn 8 (fun K hK => ?_)
 go_simp
 (with_reducible refine (Pa7.out _).mono ?_)
 rintro e w_3 ⟨rfl, rfl⟩
 refine' zk hK zSlTne2_3 (fun hHeld => ?_); clear hK K
 refine' zt 9 ?_
 refine' zn 10 (fun K hK => ?_)
 go_simp
 (with_reducible refine (CN.out _).mono ?_)
 rintro e w11 ⟨rfl, hx11⟩
 replace h_0 := zh hx11 h_0
 replace h_1 := zh hx11 h_1
 replace x_0 := zh hx11 x_0
 replace x_1 := zh hx11 x_1
 replace x_2 := zh hx11 x_2
 replace x_3 := zh hx11 x_3
 replace x_4 := zh hx11 x_4
 replace x_5 := zh hx11 x_5
 replace x_6 := zh hx11 x_6
 replace x_7 := zh hx11 x_7
 replace x_8 := zh hx11 x_8
 replace r_0f := zf hx11 r_0 r_0f
 replace r_1f := zf hx11 r_1 r_1f
 replace r_2f := zf hx11 r_2 r_2f
 replace r_3f := zf hx11 r_3 r_3f
 replace r_4f := zf hx11 r_4 r_4f
 replace r_5f := zf hx11 r_5 r_5f
 replace r_6f := zf hx11 r_6 r_6f
 replace r_7f := zf hx11 r_7 r_7f
 replace r_8f := zf hx11 r_8 r_8f
 replace r_0 := zh hx11 r_0
 replace r_1 := zh hx11 r_1
 replace r_2 := zh hx11 r_2
 replace r_3 := zh hx11 r_3
 replace r_4 := zh hx11 r_4
 replace r_5 := zh hx11 r_5
 replace r_6 := zh hx11 r_6
 replace r_7 := zh hx11 r_7
 replace r_8 := zh hx11 r_8
 replace y_0f := zf hx11 y_0 y_0f
 replace y_1f := zf hx11 y_1 y_1f
 replace y_2f := zf hx11 y_2 y_2f
 replace y_3f := zf hx11 y_3 y_3f
 replace y_4f := zf hx11 y_4 y_4f
 replace y_5f := zf hx11 y_5 y_5f
 replace y_6f := zf hx11 y_6 y_6f
 replace y_7f := zf hx11 y_7 y_7f
 replace y_8f := zf hx11 y_8 y_8f
 replace y_0 := zh hx11 y_0
 replace y_1 := zh hx11 y_1
 replace y_2 := zh hx11 y_2
 replace y_3 := zh hx11 y_3
 replace y_4 := zh hx11 y_4
 replace y_5 := zh hx11 y_5
 replace y_6 := zh hx11 y_6
 replace y_7 := zh hx11 y_7
 replace y_8 := zh hx11 y_8
 have z11 := hx11.size
 try simp at z11
 have ne_h_x : ¬ w.heap.size = w.heap.size + 1 := by omega
 have ne_h_r : ¬ w.heap.size = w.heap.size + 2 := by omega
 have ne_h_y : ¬ w.heap.size = qb := by omega
 have ne_x_h : ¬ w.heap.size + 1 = w.heap.size := by omega
 have ne_x_r : ¬ w.heap.size + 1 = w.heap.size + 2 := by omega
 have ne_x_y : ¬ w.heap.size + 1 = qb := by omega
 have ne_r_h : ¬ w.heap.size + 2 = w.heap.size := by omega
 have ne_r_x : ¬ w.heap.size + 2 = w.heap.size + 1 := by omega
 have ne_r_y : ¬ w.heap.size + 2 = qb := by omega
 have ne_y_h : ¬ qb = w.heap.size := by omega
 have ne_y_x : ¬ qb = w.heap.size + 1 := by omega
 have ne_y_r : ¬ qb = w.heap.size + 2 := by omega
 have rh := zr w.heap.size w11
 have rx := zr (w.heap.size + 1) w11
 have rr := zr (w.heap.size + 2) w11
 have ry := zr qb w11
 have X11 : Hid (Ext w w11) := Lib.hid (Ext.trans zxt hx11)
 clear XC hx11
 refine' zk hK zSlTne2_2 (fun hHeld => ?_); clear hK K
 refine' zt 11 ?_
 refine' zt 12 ?_
 refine' zt 13 ?_
 refine' zt 14 ?_
 refine' zn 15 (fun K hK => ?_)
 go_simp
 refine' zk hK zSlTne2_2 (fun hHeld => ?_); clear hK K
 refine wpAnyH_done (by kernel_rfl) ?_ _
 clear Wsn Wfr
 go_upto_if 51 with (fail)
 go_cut [] (fun wc => ∃ V S P Q : Int, chkS V S P Q = 0 ∧ NearD w wc A A2 n c n2 c2 xk xo xV xS xP xQ xv xh xn a0 a1 V S P Q a2 a3 m0 qb)
 case first =>
  by_cases q51 : ¬ xP.tmod 2 = 0
  ·have q51b : (xP.tmod 2 != 0) = true := by simp [q51]
   obtain ⟨Wc1, Wc2, d03, d04⟩ := HWc.out
   go_wp2_with fail
   refine wp_region_held_drew (S := fun w' => w'.cell? ⟨w.heap.size + 1, 4, none⟩ = some (.int .i64 xP)) (by kernel_rfl) zcv (fun hHeld => ?_)
   refine' zt 0 ?_
   refine' zt 2 ?_
   refine' zt 3 ?_
   refine' zt 6 ?_
   refine' zt 7 ?_
   refine' zt 8 ?_
   refine' zt 12 ?_
   refine' next3_in 1 4 9 rfl rfl rfl (by kernel_rfl) (by rfl) (by rfl) (by rfl) (fun K hK => ?_) (fun K hK => ?_) (fun K hK => ?_)
   ·go_simp
    refine' zk hK zSlTne2_0 (fun hHeld => ?_); clear hK K
    refine' next2_in 4 9 rfl rfl (by kernel_rfl) (by rfl) (by rfl) (fun K hK => ?_) (fun K hK => ?_)
    ·go_simp
     refine' zk hK zSlTne2_0 (fun hHeld => ?_); clear hK K
     refine' zt 5 ?_
     refine' zn 9 (fun K hK => ?_)
     go_simp
     (with_reducible refine (Pa8.out _).mono ?_)
     rintro e w_4 ⟨rfl, rfl⟩
     refine' zk hK zSlTne2_0 (fun hHeld => ?_); clear hK K
     refine' zt 10 ?_
     refine' zt 11 ?_
     refine' zn 13 (fun K hK => ?_)
     go_simp
     (with_reducible refine (CH.out _).mono ?_)
     rintro e w12 ⟨rfl, hx12⟩
     replace h_0 := zh hx12 h_0
     replace h_1 := zh hx12 h_1
     replace x_0 := zh hx12 x_0
     replace x_1 := zh hx12 x_1
     replace x_2 := zh hx12 x_2
     replace x_3 := zh hx12 x_3
     replace x_4 := zh hx12 x_4
     replace x_5 := zh hx12 x_5
     replace x_6 := zh hx12 x_6
     replace x_7 := zh hx12 x_7
     replace x_8 := zh hx12 x_8
     replace r_0f := zf hx12 r_0 r_0f
     replace r_1f := zf hx12 r_1 r_1f
     replace r_2f := zf hx12 r_2 r_2f
     replace r_3f := zf hx12 r_3 r_3f
     replace r_4f := zf hx12 r_4 r_4f
     replace r_5f := zf hx12 r_5 r_5f
     replace r_6f := zf hx12 r_6 r_6f
     replace r_7f := zf hx12 r_7 r_7f
     replace r_8f := zf hx12 r_8 r_8f
     replace r_0 := zh hx12 r_0
     replace r_1 := zh hx12 r_1
     replace r_2 := zh hx12 r_2
     replace r_3 := zh hx12 r_3
     replace r_4 := zh hx12 r_4
     replace r_5 := zh hx12 r_5
     replace r_6 := zh hx12 r_6
     replace r_7 := zh hx12 r_7
     replace r_8 := zh hx12 r_8
     replace y_0f := zf hx12 y_0 y_0f
     replace y_1f := zf hx12 y_1 y_1f
     replace y_2f : w12.frozen? ⟨qb, 2, none⟩ = false := hx12.froz (v := .int .i64 a6) zcv zcv
     replace y_3f : w12.frozen? ⟨qb, 3, none⟩ = false := hx12.froz (v := .int .i64 fr) zcv zcv
     replace y_4f : w12.frozen? ⟨qb, 4, none⟩ = false := hx12.froz (v := .int .i64 (-1)) zcv zcv
     replace y_5f := zf hx12 y_5 y_5f
     replace y_6f := zf hx12 y_6 y_6f
     replace y_7f := zf hx12 y_7 y_7f
     replace y_8f := zf hx12 y_8 y_8f
     replace y_0 := zh hx12 y_0
     replace y_1 := zh hx12 y_1
     replace y_2 : w12.cell? ⟨qb, 2, none⟩ = some (.int .i64 a6) := hx12.has zcv
     replace y_3 : w12.cell? ⟨qb, 3, none⟩ = some (.int .i64 fr) := hx12.has zcv
     replace y_4 : w12.cell? ⟨qb, 4, none⟩ = some (.int .i64 (-1)) := hx12.has zcv
     replace y_5 := zh hx12 y_5
     replace y_6 := zh hx12 y_6
     replace y_7 := zh hx12 y_7
     replace y_8 := zh hx12 y_8
     have z12 := hx12.size
     try simp at z12
     replace rh := zr w.heap.size w12
     replace rx := zr (w.heap.size + 1) w12
     replace rr := zr (w.heap.size + 2) w12
     replace ry := zr qb w12
     have X12 : Hid (Ext w w12) := Lib.hid (Ext.trans zxt hx12)
     clear X11 hx12
     refine' zk hK zSlTne2_0 (fun hHeld => ?_); clear hK K
     refine' zt 14 ?_
     refine' zt 15 ?_
     refine' zt 16 ?_
     refine' zt 17 ?_
     refine' zn 18 (fun K hK => ?_)
     go_simp
     refine' zk hK zSlTne2_0 (fun hHeld => ?_); clear hK K
     refine wpAnyH_done (by kernel_rfl) ?_ _
     go_wp2_with fail
     go_meet
     exact ⟨d0, sn, a6, fr, KN.out.2.1, zcv, zcv, zcv, zcv, zcv, zcv, zcv, zcv, zcv, zcv, zcv, zcv, zcv, zcv, zcv, zcv, zcv, zcv, zcv, zcv, zcv, zcv, zcv, zcv, zcv, zcv, zcv, zcv, zcv, zcv, zcv, zcv, zcv, zcv, zcv, zcv, zcv, zcv, zcv, zcv, zcv, zcv, zcv, zcv, zcv, zcv, zcv, by first | omega | (simp; done) | (simp; omega), by first | omega | (simp; done) | (simp; omega), zxt⟩
    go_simp
    (with_reducible refine (Pa8.out _).mono ?_)
    rintro e w_4 ⟨rfl, rfl⟩
    refine' zk hK zSlTne2_0 (fun hHeld => ?_); clear hK K
    refine' zn 4 (fun K hK => ?_)
    go_simp
    refine' zk hK zSlTne2_0 (fun hHeld => ?_); clear hK K
    refine' zt 5 ?_
    refine' zt 10 ?_
    refine' zt 11 ?_
    refine' zn 13 (fun K hK => ?_)
    go_simp
    (with_reducible refine (CH.out _).mono ?_)
    rintro e w12 ⟨rfl, hx12⟩
    replace h_0 := zh hx12 h_0
    replace h_1 := zh hx12 h_1
    replace x_0 := zh hx12 x_0
    replace x_1 := zh hx12 x_1
    replace x_2 := zh hx12 x_2
    replace x_3 := zh hx12 x_3
    replace x_4 := zh hx12 x_4
    replace x_5 := zh hx12 x_5
    replace x_6 := zh hx12 x_6
    replace x_7 := zh hx12 x_7
    replace x_8 := zh hx12 x_8
    replace r_0f := zf hx12 r_0 r_0f
    replace r_1f := zf hx12 r_1 r_1f
    replace r_2f := zf hx12 r_2 r_2f
    replace r_3f := zf hx12 r_3 r_3f
    replace r_4f := zf hx12 r_4 r_4f
    replace r_5f := zf hx12 r_5 r_5f
    replace r_6f := zf hx12 r_6 r_6f
    replace r_7f := zf hx12 r_7 r_7f
    replace r_8f := zf hx12 r_8 r_8f
    replace r_0 := zh hx12 r_0
    replace r_1 := zh hx12 r_1
    replace r_2 := zh hx12 r_2
    replace r_3 := zh hx12 r_3
    replace r_4 := zh hx12 r_4
    replace r_5 := zh hx12 r_5
    replace r_6 := zh hx12 r_6
    replace r_7 := zh hx12 r_7
    replace r_8 := zh hx12 r_8
    replace y_0f := zf hx12 y_0 y_0f
    replace y_1f := zf hx12 y_1 y_1f
    replace y_2f : w12.frozen? ⟨qb, 2, none⟩ = false := hx12.froz (v := .int .i64 a6) zcv zcv
    replace y_3f : w12.frozen? ⟨qb, 3, none⟩ = false := hx12.froz (v := .int .i64 fr) zcv zcv
    replace y_4f : w12.frozen? ⟨qb, 4, none⟩ = false := hx12.froz (v := .int .i64 (-1)) zcv zcv
    replace y_5f := zf hx12 y_5 y_5f
    replace y_6f := zf hx12 y_6 y_6f
    replace y_7f := zf hx12 y_7 y_7f
    replace y_8f := zf hx12 y_8 y_8f
    replace y_0 := zh hx12 y_0
    replace y_1 := zh hx12 y_1
    replace y_2 : w12.cell? ⟨qb, 2, none⟩ = some (.int .i64 a6) := hx12.has zcv
    replace y_3 : w12.cell? ⟨qb, 3, none⟩ = some (.int .i64 fr) := hx12.has zcv
    replace y_4 : w12.cell? ⟨qb, 4, none⟩ = some (.int .i64 (-1)) := hx12.has zcv
    replace y_5 := zh hx12 y_5
    replace y_6 := zh hx12 y_6
    replace y_7 := zh hx12 y_7
    replace y_8 := zh hx12 y_8
    have z12 := hx12.size
    try simp at z12
    replace rh := zr w.heap.size w12
    replace rx := zr (w.heap.size + 1) w12
    replace rr := zr (w.heap.size + 2) w12
    replace ry := zr qb w12
    have X12 : Hid (Ext w w12) := Lib.hid (Ext.trans zxt hx12)
    clear X11 hx12
    refine' zk hK zSlTne2_0 (fun hHeld => ?_); clear hK K
    refine' zt 14 ?_
    refine' zt 15 ?_
    refine' zt 16 ?_
    refine' zt 17 ?_
    refine' zn 18 (fun K hK => ?_)
    go_simp
    refine' zk hK zSlTne2_0 (fun hHeld => ?_); clear hK K
    refine wpAnyH_done (by kernel_rfl) ?_ _
    go_wp2_with fail
    go_meet
    exact ⟨d0, sn, a6, fr, KN.out.2.1, zcv, zcv, zcv, zcv, zcv, zcv, zcv, zcv, zcv, zcv, zcv, zcv, zcv, zcv, zcv, zcv, zcv, zcv, zcv, zcv, zcv, zcv, zcv, zcv, zcv, zcv, zcv, zcv, zcv, zcv, zcv, zcv, zcv, zcv, zcv, zcv, zcv, zcv, zcv, zcv, zcv, zcv, zcv, zcv, zcv, zcv, zcv, by first | omega | (simp; done) | (simp; omega), by first | omega | (simp; done) | (simp; omega), zxt⟩
   ·go_simp
    refine' zk hK zSlTne2_0 (fun hHeld => ?_); clear hK K
    refine' zt 5 ?_
    refine' next2_in 1 9 rfl rfl (by kernel_rfl) (by rfl) (by rfl) (fun K hK => ?_) (fun K hK => ?_)
    ·go_simp
     refine' zk hK zSlTne2_0 (fun hHeld => ?_); clear hK K
     refine' zn 9 (fun K hK => ?_)
     go_simp
     (with_reducible refine (Pa8.out _).mono ?_)
     rintro e w_4 ⟨rfl, rfl⟩
     refine' zk hK zSlTne2_0 (fun hHeld => ?_); clear hK K
     refine' zt 10 ?_
     refine' zt 11 ?_
     refine' zn 13 (fun K hK => ?_)
     go_simp
     (with_reducible refine (CH.out _).mono ?_)
     rintro e w12 ⟨rfl, hx12⟩
     replace h_0 := zh hx12 h_0
     replace h_1 := zh hx12 h_1
     replace x_0 := zh hx12 x_0
     replace x_1 := zh hx12 x_1
     replace x_2 := zh hx12 x_2
     replace x_3 := zh hx12 x_3
     replace x_4 := zh hx12 x_4
     replace x_5 := zh hx12 x_5
     replace x_6 := zh hx12 x_6
     replace x_7 := zh hx12 x_7
     replace x_8 := zh hx12 x_8
     replace r_0f := zf hx12 r_0 r_0f
     replace r_1f := zf hx12 r_1 r_1f
     replace r_2f := zf hx12 r_2 r_2f
     replace r_3f := zf hx12 r_3 r_3f
     replace r_4f := zf hx12 r_4 r_4f
     replace r_5f := zf hx12 r_5 r_5f
     replace r_6f := zf hx12 r_6 r_6f
     replace r_7f := zf hx12 r_7 r_7f
     replace r_8f := zf hx12 r_8 r_8f
     replace r_0 := zh hx12 r_0
     replace r_1 := zh hx12 r_1
     replace r_2 := zh hx12 r_2
     replace r_3 := zh hx12 r_3
     replace r_4 := zh hx12 r_4
     replace r_5 := zh hx12 r_5
     replace r_6 := zh hx12 r_6
     replace r_7 := zh hx12 r_7
     replace r_8 := zh hx12 r_8
     replace y_0f := zf hx12 y_0 y_0f
     replace y_1f := zf hx12 y_1 y_1f
     replace y_2f : w12.frozen? ⟨qb, 2, none⟩ = false := hx12.froz (v := .int .i64 a6) zcv zcv
     replace y_3f : w12.frozen? ⟨qb, 3, none⟩ = false := hx12.froz (v := .int .i64 fr) zcv zcv
     replace y_4f : w12.frozen? ⟨qb, 4, none⟩ = false := hx12.froz (v := .int .i64 (-1)) zcv zcv
     replace y_5f := zf hx12 y_5 y_5f
     replace y_6f := zf hx12 y_6 y_6f
     replace y_7f := zf hx12 y_7 y_7f
     replace y_8f := zf hx12 y_8 y_8f
     replace y_0 := zh hx12 y_0
     replace y_1 := zh hx12 y_1
     replace y_2 : w12.cell? ⟨qb, 2, none⟩ = some (.int .i64 a6) := hx12.has zcv
     replace y_3 : w12.cell? ⟨qb, 3, none⟩ = some (.int .i64 fr) := hx12.has zcv
     replace y_4 : w12.cell? ⟨qb, 4, none⟩ = some (.int .i64 (-1)) := hx12.has zcv
     replace y_5 := zh hx12 y_5
     replace y_6 := zh hx12 y_6
     replace y_7 := zh hx12 y_7
     replace y_8 := zh hx12 y_8
     have z12 := hx12.size
     try simp at z12
     replace rh := zr w.heap.size w12
     replace rx := zr (w.heap.size + 1) w12
     replace rr := zr (w.heap.size + 2) w12
     replace ry := zr qb w12
     have X12 : Hid (Ext w w12) := Lib.hid (Ext.trans zxt hx12)
     clear X11 hx12
     refine' zk hK zSlTne2_0 (fun hHeld => ?_); clear hK K
     refine' zt 14 ?_
     refine' zt 15 ?_
     refine' zt 16 ?_
     refine' zt 17 ?_
     refine' zn 18 (fun K hK => ?_)
     go_simp
     refine' zk hK zSlTne2_0 (fun hHeld => ?_); clear hK K
     refine wpAnyH_done (by kernel_rfl) ?_ _
     go_wp2_with fail
     go_meet
     exact ⟨d0, sn, a6, fr, KN.out.2.1, zcv, zcv, zcv, zcv, zcv, zcv, zcv, zcv, zcv, zcv, zcv, zcv, zcv, zcv, zcv, zcv, zcv, zcv, zcv, zcv, zcv, zcv, zcv, zcv, zcv, zcv, zcv, zcv, zcv, zcv, zcv, zcv, zcv, zcv, zcv, zcv, zcv, zcv, zcv, zcv, zcv, zcv, zcv, zcv, zcv, zcv, zcv, by first | omega | (simp; done) | (simp; omega), by first | omega | (simp; done) | (simp; omega), zxt⟩
    go_simp
    (with_reducible refine (Pa8.out _).mono ?_)
    rintro e w_4 ⟨rfl, rfl⟩
    refine' zk hK zSlTne2_0 (fun hHeld => ?_); clear hK K
    refine' zt 10 ?_
    refine' zt 11 ?_
    refine' zn 1 (fun K hK => ?_)
    go_simp
    refine' zk hK zSlTne2_0 (fun hHeld => ?_); clear hK K
    refine' zn 13 (fun K hK => ?_)
    go_simp
    (with_reducible refine (CH.out _).mono ?_)
    rintro e w12 ⟨rfl, hx12⟩
    replace h_0 := zh hx12 h_0
    replace h_1 := zh hx12 h_1
    replace x_0 := zh hx12 x_0
    replace x_1 := zh hx12 x_1
    replace x_2 := zh hx12 x_2
    replace x_3 := zh hx12 x_3
    replace x_4 := zh hx12 x_4
    replace x_5 := zh hx12 x_5
    replace x_6 := zh hx12 x_6
    replace x_7 := zh hx12 x_7
    replace x_8 := zh hx12 x_8
    replace r_0f := zf hx12 r_0 r_0f
    replace r_1f := zf hx12 r_1 r_1f
    replace r_2f := zf hx12 r_2 r_2f
    replace r_3f := zf hx12 r_3 r_3f
    replace r_4f := zf hx12 r_4 r_4f
    replace r_5f := zf hx12 r_5 r_5f
    replace r_6f := zf hx12 r_6 r_6f
    replace r_7f := zf hx12 r_7 r_7f
    replace r_8f := zf hx12 r_8 r_8f
    replace r_0 := zh hx12 r_0
    replace r_1 := zh hx12 r_1
    replace r_2 := zh hx12 r_2
    replace r_3 := zh hx12 r_3
    replace r_4 := zh hx12 r_4
    replace r_5 := zh hx12 r_5
    replace r_6 := zh hx12 r_6
    replace r_7 := zh hx12 r_7
    replace r_8 := zh hx12 r_8
    replace y_0f := zf hx12 y_0 y_0f
    replace y_1f := zf hx12 y_1 y_1f
    replace y_2f : w12.frozen? ⟨qb, 2, none⟩ = false := hx12.froz (v := .int .i64 a6) zcv zcv
    replace y_3f : w12.frozen? ⟨qb, 3, none⟩ = false := hx12.froz (v := .int .i64 fr) zcv zcv
    replace y_4f : w12.frozen? ⟨qb, 4, none⟩ = false := hx12.froz (v := .int .i64 (-1)) zcv zcv
    replace y_5f := zf hx12 y_5 y_5f
    replace y_6f := zf hx12 y_6 y_6f
    replace y_7f := zf hx12 y_7 y_7f
    replace y_8f := zf hx12 y_8 y_8f
    replace y_0 := zh hx12 y_0
    replace y_1 := zh hx12 y_1
    replace y_2 : w12.cell? ⟨qb, 2, none⟩ = some (.int .i64 a6) := hx12.has zcv
    replace y_3 : w12.cell? ⟨qb, 3, none⟩ = some (.int .i64 fr) := hx12.has zcv
    replace y_4 : w12.cell? ⟨qb, 4, none⟩ = some (.int .i64 (-1)) := hx12.has zcv
    replace y_5 := zh hx12 y_5
    replace y_6 := zh hx12 y_6
    replace y_7 := zh hx12 y_7
    replace y_8 := zh hx12 y_8
    have z12 := hx12.size
    try simp at z12
    replace rh := zr w.heap.size w12
    replace rx := zr (w.heap.size + 1) w12
    replace rr := zr (w.heap.size + 2) w12
    replace ry := zr qb w12
    have X12 : Hid (Ext w w12) := Lib.hid (Ext.trans zxt hx12)
    clear X11 hx12
    refine' zk hK zSlTne2_0 (fun hHeld => ?_); clear hK K
    refine' zt 14 ?_
    refine' zt 15 ?_
    refine' zt 16 ?_
    refine' zt 17 ?_
    refine' zn 18 (fun K hK => ?_)
    go_simp
    refine' zk hK zSlTne2_0 (fun hHeld => ?_); clear hK K
    refine wpAnyH_done (by kernel_rfl) ?_ _
    go_wp2_with fail
    go_meet
    exact ⟨d0, sn, a6, fr, KN.out.2.1, zcv, zcv, zcv, zcv, zcv, zcv, zcv, zcv, zcv, zcv, zcv, zcv, zcv, zcv, zcv, zcv, zcv, zcv, zcv, zcv, zcv, zcv, zcv, zcv, zcv, zcv, zcv, zcv, zcv, zcv, zcv, zcv, zcv, zcv, zcv, zcv, zcv, zcv, zcv, zcv, zcv, zcv, zcv, zcv, zcv, zcv, zcv, by first | omega | (simp; done) | (simp; omega), by first | omega | (simp; done) | (simp; omega), zxt⟩
   go_simp
   (with_reducible refine (Pa8.out _).mono ?_)
   rintro e w_4 ⟨rfl, rfl⟩
   refine' zk hK zSlTne2_0 (fun hHeld => ?_); clear hK K
   refine' next2_in 1 4 rfl rfl (by kernel_rfl) (by rfl) (by rfl) (fun K hK => ?_) (fun K hK => ?_)
   ·go_simp
    refine' zk hK zSlTne2_0 (fun hHeld => ?_); clear hK K
    refine' zn 4 (fun K hK => ?_)
    go_simp
    refine' zk hK zSlTne2_0 (fun hHeld => ?_); clear hK K
    refine' zt 5 ?_
    refine' zt 10 ?_
    refine' zt 11 ?_
    refine' zn 13 (fun K hK => ?_)
    go_simp
    (with_reducible refine (CH.out _).mono ?_)
    rintro e w12 ⟨rfl, hx12⟩
    replace h_0 := zh hx12 h_0
    replace h_1 := zh hx12 h_1
    replace x_0 := zh hx12 x_0
    replace x_1 := zh hx12 x_1
    replace x_2 := zh hx12 x_2
    replace x_3 := zh hx12 x_3
    replace x_4 := zh hx12 x_4
    replace x_5 := zh hx12 x_5
    replace x_6 := zh hx12 x_6
    replace x_7 := zh hx12 x_7
    replace x_8 := zh hx12 x_8
    replace r_0f := zf hx12 r_0 r_0f
    replace r_1f := zf hx12 r_1 r_1f
    replace r_2f := zf hx12 r_2 r_2f
    replace r_3f := zf hx12 r_3 r_3f
    replace r_4f := zf hx12 r_4 r_4f
    replace r_5f := zf hx12 r_5 r_5f
    replace r_6f := zf hx12 r_6 r_6f
    replace r_7f := zf hx12 r_7 r_7f
    replace r_8f := zf hx12 r_8 r_8f
    replace r_0 := zh hx12 r_0
    replace r_1 := zh hx12 r_1
    replace r_2 := zh hx12 r_2
    replace r_3 := zh hx12 r_3
    replace r_4 := zh hx12 r_4
    replace r_5 := zh hx12 r_5
    replace r_6 := zh hx12 r_6
    replace r_7 := zh hx12 r_7
    replace r_8 := zh hx12 r_8
    replace y_0f := zf hx12 y_0 y_0f
    replace y_1f := zf hx12 y_1 y_1f
    replace y_2f : w12.frozen? ⟨qb, 2, none⟩ = false := hx12.froz (v := .int .i64 a6) zcv zcv
    replace y_3f : w12.frozen? ⟨qb, 3, none⟩ = false := hx12.froz (v := .int .i64 fr) zcv zcv
    replace y_4f : w12.frozen? ⟨qb, 4, none⟩ = false := hx12.froz (v := .int .i64 (-1)) zcv zcv
    replace y_5f := zf hx12 y_5 y_5f
    replace y_6f := zf hx12 y_6 y_6f
    replace y_7f := zf hx12 y_7 y_7f
    replace y_8f := zf hx12 y_8 y_8f
    replace y_0 := zh hx12 y_0
    replace y_1 := zh hx12 y_1
    replace y_2 : w12.cell? ⟨qb, 2, none⟩ = some (.int .i64 a6) := hx12.has zcv
    replace y_3 : w12.cell? ⟨qb, 3, none⟩ = some (.int .i64 fr) := hx12.has zcv
    replace y_4 : w12.cell? ⟨qb, 4, none⟩ = some (.int .i64 (-1)) := hx12.has zcv
    replace y_5 := zh hx12 y_5
    replace y_6 := zh hx12 y_6
    replace y_7 := zh hx12 y_7
    replace y_8 := zh hx12 y_8
    have z12 := hx12.size
    try simp at z12
    replace rh := zr w.heap.size w12
    replace rx := zr (w.heap.size + 1) w12
    replace rr := zr (w.heap.size + 2) w12
    replace ry := zr qb w12
    have X12 : Hid (Ext w w12) := Lib.hid (Ext.trans zxt hx12)
    clear X11 hx12
    refine' zk hK zSlTne2_0 (fun hHeld => ?_); clear hK K
    refine' zt 14 ?_
    refine' zt 15 ?_
    refine' zt 16 ?_
    refine' zt 17 ?_
    refine' zn 18 (fun K hK => ?_)
    go_simp
    refine' zk hK zSlTne2_0 (fun hHeld => ?_); clear hK K
    refine wpAnyH_done (by kernel_rfl) ?_ _
    go_wp2_with fail
    go_meet
    exact ⟨d0, sn, a6, fr, KN.out.2.1, zcv, zcv, zcv, zcv, zcv, zcv, zcv, zcv, zcv, zcv, zcv, zcv, zcv, zcv, zcv, zcv, zcv, zcv, zcv, zcv, zcv, zcv, zcv, zcv, zcv, zcv, zcv, zcv, zcv, zcv, zcv, zcv, zcv, zcv, zcv, zcv, zcv, zcv, zcv, zcv, zcv, zcv, zcv, zcv, zcv, zcv, zcv, by first | omega | (simp; done) | (simp; omega), by first | omega | (simp; done) | (simp; omega), zxt⟩
   go_simp
   refine' zk hK zSlTne2_0 (fun hHeld => ?_); clear hK K
   refine' zt 5 ?_
   refine' zt 10 ?_
   refine' zt 11 ?_
   refine' zn 1 (fun K hK => ?_)
   go_simp
   refine' zk hK zSlTne2_0 (fun hHeld => ?_); clear hK K
   refine' zn 13 (fun K hK => ?_)
   go_simp
   (with_reducible refine (CH.out _).mono ?_)
   rintro e w12 ⟨rfl, hx12⟩
   replace h_0 := zh hx12 h_0
   replace h_1 := zh hx12 h_1
   replace x_0 := zh hx12 x_0
   replace x_1 := zh hx12 x_1
   replace x_2 := zh hx12 x_2
   replace x_3 := zh hx12 x_3
   replace x_4 := zh hx12 x_4
   replace x_5 := zh hx12 x_5
   replace x_6 := zh hx12 x_6
   replace x_7 := zh hx12 x_7
   replace x_8 := zh hx12 x_8
   replace r_0f := zf hx12 r_0 r_0f
   replace r_1f := zf hx12 r_1 r_1f
   replace r_2f := zf hx12 r_2 r_2f
   replace r_3f := zf hx12 r_3 r_3f
   replace r_4f := zf hx12 r_4 r_4f
   replace r_5f := zf hx12 r_5 r_5f
   replace r_6f := zf hx12 r_6 r_6f
   replace r_7f := zf hx12 r_7 r_7f
   replace r_8f := zf hx12 r_8 r_8f
   replace r_0 := zh hx12 r_0
   replace r_1 := zh hx12 r_1
   replace r_2 := zh hx12 r_2
   replace r_3 := zh hx12 r_3
   replace r_4 := zh hx12 r_4
   replace r_5 := zh hx12 r_5
   replace r_6 := zh hx12 r_6
   replace r_7 := zh hx12 r_7
   replace r_8 := zh hx12 r_8
   replace y_0f := zf hx12 y_0 y_0f
   replace y_1f := zf hx12 y_1 y_1f
   replace y_2f : w12.frozen? ⟨qb, 2, none⟩ = false := hx12.froz (v := .int .i64 a6) zcv zcv
   replace y_3f : w12.frozen? ⟨qb, 3, none⟩ = false := hx12.froz (v := .int .i64 fr) zcv zcv
   replace y_4f : w12.frozen? ⟨qb, 4, none⟩ = false := hx12.froz (v := .int .i64 (-1)) zcv zcv
   replace y_5f := zf hx12 y_5 y_5f
   replace y_6f := zf hx12 y_6 y_6f
   replace y_7f := zf hx12 y_7 y_7f
   replace y_8f := zf hx12 y_8 y_8f
   replace y_0 := zh hx12 y_0
   replace y_1 := zh hx12 y_1
   replace y_2 : w12.cell? ⟨qb, 2, none⟩ = some (.int .i64 a6) := hx12.has zcv
   replace y_3 : w12.cell? ⟨qb, 3, none⟩ = some (.int .i64 fr) := hx12.has zcv
   replace y_4 : w12.cell? ⟨qb, 4, none⟩ = some (.int .i64 (-1)) := hx12.has zcv
   replace y_5 := zh hx12 y_5
   replace y_6 := zh hx12 y_6
   replace y_7 := zh hx12 y_7
   replace y_8 := zh hx12 y_8
   have z12 := hx12.size
   try simp at z12
   replace rh := zr w.heap.size w12
   replace rx := zr (w.heap.size + 1) w12
   replace rr := zr (w.heap.size + 2) w12
   replace ry := zr qb w12
   have X12 : Hid (Ext w w12) := Lib.hid (Ext.trans zxt hx12)
   clear X11 hx12
   refine' zk hK zSlTne2_0 (fun hHeld => ?_); clear hK K
   refine' zt 14 ?_
   refine' zt 15 ?_
   refine' zt 16 ?_
   refine' zt 17 ?_
   refine' zn 18 (fun K hK => ?_)
   go_simp
   refine' zk hK zSlTne2_0 (fun hHeld => ?_); clear hK K
   refine wpAnyH_done (by kernel_rfl) ?_ _
   go_wp2_with fail
   go_meet
   exact ⟨d0, sn, a6, fr, KN.out.2.1, zcv, zcv, zcv, zcv, zcv, zcv, zcv, zcv, zcv, zcv, zcv, zcv, zcv, zcv, zcv, zcv, zcv, zcv, zcv, zcv, zcv, zcv, zcv, zcv, zcv, zcv, zcv, zcv, zcv, zcv, zcv, zcv, zcv, zcv, zcv, zcv, zcv, zcv, zcv, zcv, zcv, zcv, zcv, zcv, zcv, zcv, zcv, by first | omega | (simp; done) | (simp; omega), by first | omega | (simp; done) | (simp; omega), zxt⟩
  have q51b : (xP.tmod 2 != 0) = false := by simpa using q51
  replace q51 : xP.tmod 2 = 0 := by omega
  go_wp2_with fail
  go_meet
  exact ⟨a6, fr, (-1), 0, KN.out.1, zcv, zcv, zcv, zcv, zcv, zcv, zcv, zcv, zcv, zcv, zcv, zcv, zcv, zcv, zcv, zcv, zcv, zcv, zcv, zcv, zcv, zcv, zcv, zcv, zcv, zcv, zcv, zcv, zcv, zcv, zcv, zcv, zcv, zcv, zcv, zcv, zcv, zcv, zcv, zcv, zcv, zcv, zcv, zcv, zcv, zcv, zcv, by first | omega | (simp; done) | (simp; omega), by first | omega | (simp; done) | (simp; omega), zxt⟩
 clear h_0 h_1 ne_h_r ne_h_x ne_h_y ne_r_h ne_r_x ne_r_y ne_x_h ne_x_r ne_x_y ne_y_h ne_y_r ne_y_x r_0 r_0f r_1 r_1f r_2 r_2f r_3 r_3f r_4 r_4f r_5 r_5f r_6 r_6f r_7 r_7f r_8 r_8f rh rr rx ry x_0 x_1 x_2 x_3 x_4 x_5 x_6 x_7 x_8 y_0 y_0f y_1 y_1f y_2 y_2f y_3 y_3f y_4 y_4f y_5 y_5f y_6 y_6f y_7 y_7f y_8 y_8f X11 hlh hlx hlr hqb hqw
 obtain ⟨V, S, P, Q, hst, h_0, h_1, x_0, x_1, x_2, x_3, x_4, x_5, x_6, x_7, x_8, r_0, r_1, r_2, r_3, r_4, r_5, r_6, r_7, r_8, r_0f, r_1f, r_2f, r_3f, r_4f, r_5f, r_6f, r_7f, r_8f, y_0, y_1, y_2, y_3, y_4, y_5, y_6, y_7, y_8, y_0f, y_1f, y_2f, y_3f, y_4f, y_5f, y_6f, y_7f, y_8f, hqb, hqw, X⟩ := hcut
 have XC := Lib.hid X
 clear X
 have hlh := cell_lt h_0
 have hlx := cell_lt x_0
 have hlr := cell_lt r_0
 have HST := Lib.hid hst
 clear hst HWs HWf HWc Pa5 Pa6 Pa7 Pa8 CN CH
 go_upto_if 72 with (fail)
 go_cut [] (fun wc => ∃ V S P Q m : Int, chkS V S P Q = 0 ∧ Word m ∧ NearD w wc A A2 n c n2 c2 xk xo xV xS xP xQ xv xh xn a0 a1 V S P Q a2 a3 m qb)
 case first =>
  by_cases q72 : a0 = 1
  ·have q72b : (a0 == 1) = true := by simp [q72]
   go_wp2_with fail
   (with_reducible refine (CF.out _ zxt).mono ?_)
   rintro e w31 ⟨A5, c5, rfl, hn5, hO5, hx31⟩
   replace h_0 := zh hx31 h_0
   replace h_1 := zh hx31 h_1
   replace x_0 := zh hx31 x_0
   replace x_1 := zh hx31 x_1
   replace x_2 := zh hx31 x_2
   replace x_3 := zh hx31 x_3
   replace x_4 := zh hx31 x_4
   replace x_5 := zh hx31 x_5
   replace x_6 := zh hx31 x_6
   replace x_7 := zh hx31 x_7
   replace x_8 := zh hx31 x_8
   replace r_0f := zf hx31 r_0 r_0f
   replace r_1f := zf hx31 r_1 r_1f
   replace r_2f := zf hx31 r_2 r_2f
   replace r_3f := zf hx31 r_3 r_3f
   replace r_4f := zf hx31 r_4 r_4f
   replace r_5f := zf hx31 r_5 r_5f
   replace r_6f := zf hx31 r_6 r_6f
   replace r_7f := zf hx31 r_7 r_7f
   replace r_8f := zf hx31 r_8 r_8f
   replace r_0 := zh hx31 r_0
   replace r_1 := zh hx31 r_1
   replace r_2 := zh hx31 r_2
   replace r_3 := zh hx31 r_3
   replace r_4 := zh hx31 r_4
   replace r_5 := zh hx31 r_5
   replace r_6 := zh hx31 r_6
   replace r_7 := zh hx31 r_7
   replace r_8 := zh hx31 r_8
   replace y_0f := zf hx31 y_0 y_0f
   replace y_1f := zf hx31 y_1 y_1f
   replace y_2f := zf hx31 y_2 y_2f
   replace y_3f := zf hx31 y_3 y_3f
   replace y_4f := zf hx31 y_4 y_4f
   replace y_5f := zf hx31 y_5 y_5f
   replace y_6f := zf hx31 y_6 y_6f
   replace y_7f := zf hx31 y_7 y_7f
   replace y_8f := zf hx31 y_8 y_8f
   replace y_0 := zh hx31 y_0
   replace y_1 := zh hx31 y_1
   replace y_2 := zh hx31 y_2
   replace y_3 := zh hx31 y_3
   replace y_4 := zh hx31 y_4
   replace y_5 := zh hx31 y_5
   replace y_6 := zh hx31 y_6
   replace y_7 := zh hx31 y_7
   replace y_8 := zh hx31 y_8
   have z31 := hx31.size
   try simp at z31
   have ne_h_x : ¬ w.heap.size = w.heap.size + 1 := by omega
   have ne_h_r : ¬ w.heap.size = w.heap.size + 2 := by omega
   have ne_h_y : ¬ w.heap.size = qb := by omega
   have ne_x_h : ¬ w.heap.size + 1 = w.heap.size := by omega
   have ne_x_r : ¬ w.heap.size + 1 = w.heap.size + 2 := by omega
   have ne_x_y : ¬ w.heap.size + 1 = qb := by omega
   have ne_r_h : ¬ w.heap.size + 2 = w.heap.size := by omega
   have ne_r_x : ¬ w.heap.size + 2 = w.heap.size + 1 := by omega
   have ne_r_y : ¬ w.heap.size + 2 = qb := by omega
   have ne_y_h : ¬ qb = w.heap.size := by omega
   have ne_y_x : ¬ qb = w.heap.size + 1 := by omega
   have ne_y_r : ¬ qb = w.heap.size + 2 := by omega
   have rh := zr w.heap.size w31
   have rx := zr (w.heap.size + 1) w31
   have rr := zr (w.heap.size + 2) w31
   have ry := zr qb w31
   have X31 : Hid (Ext w w31) := Lib.hid (Ext.trans zxt hx31)
   have HL := Lib.hid hO5
   clear XC hx31 hO5
   clear hn5
   by_cases q82 : 0 < (LO.length : Int)
   ·have q82b : decide (0 < (LO.length : Int)) = true := decide_eq_true q82
    obtain ⟨j9, hj9⟩ : ∃ j : Nat, (j : Int) = xh % (LO.length : Int) := ⟨(xh % (LO.length : Int)).toNat, by rw [Int.toNat_of_nonneg (Int.emod_nonneg _ (by omega))]⟩
    have hj8 : (j9 : Int) < (LO.length : Int) := by rw [hj9]; exact Int.emod_lt_of_pos _ (by omega)
    have hj7 : j9 < LO.length := by omega
    have P9 : Hid (∀ w, Calls Tryz.prog 48 #[.int .i64 xh, .int .i64 (LO.length : Int)] w fun e w' => e = .returned (.int .i64 (j9 : Int)) ∧ w = w') := Lib.hid (fun w => by rw [hj9]; exact kPick_any xh _ HF7.out.i64.1 HF7.out.i64.2 (by omega) (by omega) w)
    have hsl := OwnPos.sl (HL.out.ext zxt)
    obtain ⟨b1, o1, rfl, hb1, hc1⟩ := hsl.rec_ posC_len (show 0 < LO.length from by omega)
    obtain ⟨pw, hl_p⟩ : ∃ x, LO[j9]? = some x := ⟨_, List.getElem?_eq_getElem hj7⟩
    have hpp := HLO.out pw (List.mem_of_getElem? hl_p)
    have p_0 := hc1 j9 pw hl_p 0 _ rfl
    have p_1 := hc1 j9 pw hl_p 1 _ rfl
    have p_2 := hc1 j9 pw hl_p 2 _ rfl
    have p_3 := hc1 j9 pw hl_p 3 _ rfl
    have p_4 := hc1 j9 pw hl_p 4 _ rfl
    have p_5 := hc1 j9 pw hl_p 5 _ rfl
    obtain ⟨po, pv, ps_, pp, pf, ph⟩ := pw
    simp only at p_0 p_1 p_2 p_3 p_4 p_5 hpp
    rw [Nat.add_zero] at p_0
    rw [← Nat.add_assoc] at p_1 p_2 p_3 p_4 p_5
    have HPP := Lib.hid hpp
    have hph : 0 < ph := by have := hpp.2.1.1; have := hpp.2.2; omega
    have e01 := Int.emod_nonneg xn (show ph ≠ 0 by omega)
    have e02 := Int.emod_lt_of_pos xn hph
    have e03 : xn.tmod ph = xn % ph := Int.tmod_eq_emod_of_nonneg f8.1
    obtain ⟨e0, he0⟩ : ∃ z, z = xn % ph := ⟨_, rfl⟩
    rw [← he0] at e01 e02 e03
    have e04 : xn % ph = e0 := he0.symm
    have hpw := hpp.2.1.2
    have W9 : IntKind.u64.wrap (1 + e0) = 1 + e0 := IntWalk.u64_in _ (by omega)
    have E9 := Lib.hid (show Word (1 + e0) from ⟨by omega, by omega⟩)
    have hphz : ¬ ph = 0 := by omega
    clear hj9 hl_p hpp hc1 hsl hj7 he0 e01 e02 hpw
    go_wp2_with fail
    (with_reducible refine (P9.out _).mono ?_)
    rintro e w_1 ⟨rfl, rfl⟩
    go_wp2_with fail
    go_meet
    exact ⟨pv, ps_, pp, pf, (1 + e0), HPP.out.1, E9.out, zcv, zcv, zcv, zcv, zcv, zcv, zcv, zcv, zcv, zcv, zcv, zcv, zcv, zcv, zcv, zcv, zcv, zcv, zcv, zcv, zcv, zcv, zcv, zcv, zcv, zcv, zcv, zcv, zcv, zcv, zcv, zcv, zcv, zcv, zcv, zcv, zcv, zcv, zcv, zcv, zcv, zcv, zcv, zcv, zcv, zcv, zcv, by first | omega | (simp; done) | (simp; omega), by first | omega | (simp; done) | (simp; omega), zxt⟩
   have q82b : decide (0 < (LO.length : Int)) = false := decide_eq_false q82
   go_wp2_with fail
   go_meet
   exact ⟨V, S, P, Q, m0, HST.out, ⟨KN.out.2.2.2.2.2.2.1.1, by have := KN.out.2.2.2.2.2.2.1.2; omega⟩, zcv, zcv, zcv, zcv, zcv, zcv, zcv, zcv, zcv, zcv, zcv, zcv, zcv, zcv, zcv, zcv, zcv, zcv, zcv, zcv, zcv, zcv, zcv, zcv, zcv, zcv, zcv, zcv, zcv, zcv, zcv, zcv, zcv, zcv, zcv, zcv, zcv, zcv, zcv, zcv, zcv, zcv, zcv, zcv, zcv, zcv, zcv, by first | omega | (simp; done) | (simp; omega), by first | omega | (simp; done) | (simp; omega), zxt⟩
  have q72b : (a0 == 1) = false := by simpa using q72
  go_wp2_with fail
  go_meet
  exact ⟨V, S, P, Q, m0, HST.out, ⟨KN.out.2.2.2.2.2.2.1.1, by have := KN.out.2.2.2.2.2.2.1.2; omega⟩, zcv, zcv, zcv, zcv, zcv, zcv, zcv, zcv, zcv, zcv, zcv, zcv, zcv, zcv, zcv, zcv, zcv, zcv, zcv, zcv, zcv, zcv, zcv, zcv, zcv, zcv, zcv, zcv, zcv, zcv, zcv, zcv, zcv, zcv, zcv, zcv, zcv, zcv, zcv, zcv, zcv, zcv, zcv, zcv, zcv, zcv, zcv, by first | omega | (simp; done) | (simp; omega), by first | omega | (simp; done) | (simp; omega), zxt⟩
 clear h_0 h_1 r_0 r_0f r_1 r_1f r_2 r_2f r_3 r_3f r_4 r_4f r_5 r_5f r_6 r_6f r_7 r_7f r_8 r_8f x_0 x_1 x_2 x_3 x_4 x_5 x_6 x_7 x_8 y_0 y_0f y_1 y_1f y_2 y_2f y_3 y_3f y_4 y_4f y_5 y_5f y_6 y_6f y_7 y_7f y_8 y_8f XC hlh hlx hlr hqb hqw
 obtain ⟨V2, S2, P2, Q2, m2, hst2, hwm, h_0, h_1, x_0, x_1, x_2, x_3, x_4, x_5, x_6, x_7, x_8, r_0, r_1, r_2, r_3, r_4, r_5, r_6, r_7, r_8, r_0f, r_1f, r_2f, r_3f, r_4f, r_5f, r_6f, r_7f, r_8f, y_0, y_1, y_2, y_3, y_4, y_5, y_6, y_7, y_8, y_0f, y_1f, y_2f, y_3f, y_4f, y_5f, y_6f, y_7f, y_8f, hqb, hqw, X⟩ := hcut
 have XC := Lib.hid X
 clear X
 have hlh := cell_lt h_0
 have hlx := cell_lt x_0
 have hlr := cell_lt r_0
 have HST2 := Lib.hid hst2
 have HWM := Lib.hid hwm
 clear hst2 hwm CF HLO HF7 HST
 by_cases q106 : a0 = 2
 ·have q106b : (a0 == 2) = true := by simp [q106]
  clear q106
  obtain ⟨b03, b04⟩ := HWb.out
  go_upto_region 15 with (fail)
  go_cut [] (fun wc => wc.cell? ⟨w.heap.size + 2, 0, none⟩ = some (.int .i64 a0) ∧ wc.cell? ⟨w.heap.size + 2, 1, none⟩ = some (.int .i64 a1) ∧ wc.cell? ⟨w.heap.size + 2, 2, none⟩ = some (.int .i64 V2) ∧ wc.cell? ⟨w.heap.size + 2, 3, none⟩ = some (.int .i64 S2) ∧ wc.cell? ⟨w.heap.size + 2, 4, none⟩ = some (.int .i64 P2) ∧ wc.cell? ⟨w.heap.size + 2, 5, none⟩ = some (.int .i64 Q2) ∧ wc.cell? ⟨w.heap.size + 2, 6, none⟩ = some (.int .i64 a2) ∧ wc.cell? ⟨w.heap.size + 2, 7, none⟩ = some (.int .i64 a3) ∧ wc.cell? ⟨w.heap.size + 2, 8, none⟩ = some (.int .u64 b0) ∧ Ext w wc)
  case first =>
   go_wp2_with fail
   go_meet
   exact ⟨(by first | with_reducible exact r_0 | (simp [go_sem, World.cell?_alloc_past, r_0, r_0f, r_1, r_1f, r_2, r_2f, r_3, r_3f, r_4, r_4f, r_5, r_5f, r_6, r_6f, r_7, r_7f, r_8, r_8f, hlh, hlx, hlr, hqw, hqb]; done)), (by first | with_reducible exact r_1 | (simp [go_sem, World.cell?_alloc_past, r_0, r_0f, r_1, r_1f, r_2, r_2f, r_3, r_3f, r_4, r_4f, r_5, r_5f, r_6, r_6f, r_7, r_7f, r_8, r_8f, hlh, hlx, hlr, hqw, hqb]; done)), (by first | with_reducible exact r_2 | (simp [go_sem, World.cell?_alloc_past, r_0, r_0f, r_1, r_1f, r_2, r_2f, r_3, r_3f, r_4, r_4f, r_5, r_5f, r_6, r_6f, r_7, r_7f, r_8, r_8f, hlh, hlx, hlr, hqw, hqb]; done)), (by first | with_reducible exact r_3 | (simp [go_sem, World.cell?_alloc_past, r_0, r_0f, r_1, r_1f, r_2, r_2f, r_3, r_3f, r_4, r_4f, r_5, r_5f, r_6, r_6f, r_7, r_7f, r_8, r_8f, hlh, hlx, hlr, hqw, hqb]; done)), (by first | with_reducible exact r_4 | (simp [go_sem, World.cell?_alloc_past, r_0, r_0f, r_1, r_1f, r_2, r_2f, r_3, r_3f, r_4, r_4f, r_5, r_5f, r_6, r_6f, r_7, r_7f, r_8, r_8f, hlh, hlx, hlr, hqw, hqb]; done)), (by first | with_reducible exact r_5 | (simp [go_sem, World.cell?_alloc_past, r_0, r_0f, r_1, r_1f, r_2, r_2f, r_3, r_3f, r_4, r_4f, r_5, r_5f, r_6, r_6f, r_7, r_7f, r_8, r_8f, hlh, hlx, hlr, hqw, hqb]; done)), (by first | with_reducible exact r_6 | (simp [go_sem, World.cell?_alloc_past, r_0, r_0f, r_1, r_1f, r_2, r_2f, r_3, r_3f, r_4, r_4f, r_5, r_5f, r_6, r_6f, r_7, r_7f, r_8, r_8f, hlh, hlx, hlr, hqw, hqb]; done)), (by first | with_reducible exact r_7 | (simp [go_sem, World.cell?_alloc_past, r_0, r_0f, r_1, r_1f, r_2, r_2f, r_3, r_3f, r_4, r_4f, r_5, r_5f, r_6, r_6f, r_7, r_7f, r_8, r_8f, hlh, hlx, hlr, hqw, hqb]; done)), (by first | with_reducible exact r_8 | (simp [go_sem, World.cell?_alloc_past, r_0, r_0f, r_1, r_1f, r_2, r_2f, r_3, r_3f, r_4, r_4f, r_5, r_5f, r_6, r_6f, r_7, r_7f, r_8, r_8f, hlh, hlx, hlr, hqw, hqb]; done)), zxt⟩
  obtain ⟨s_0, s_1, s_2, s_3, s_4, s_5, s_6, s_7, s_8, hX9⟩ := hcut
  clear h_0 h_1 r_0 r_0f r_1 r_1f r_2 r_2f r_3 r_3f r_4 r_4f r_5 r_5f r_6 r_6f r_7 r_7f r_8 r_8f x_0 x_1 x_2 x_3 x_4 x_5 x_6 x_7 x_8 y_0 y_0f y_1 y_1f y_2 y_2f y_3 y_3f y_4 y_4f y_5 y_5f y_6 y_6f y_7 y_7f y_8 y_8f XC
  rename_i q_
  refine q_ _ _ ?_
  refine wp_ret ?_
  refine bodyPost_ret (v := .agg #[.int .i64 a0, .int .i64 a1, .int .i64 V2, .int .i64 S2, .int .i64 P2, .int .i64 Q2, .int .i64 a2, .int .i64 a3, .int .u64 b0]) (by simp [results, Tryz.results45, go_sem, s_0, s_1, s_2, s_3, s_4, s_5, s_6, s_7, s_8]; try rfl) rfl ⟨⟨_, _, _, _, _, _, _, _, _, rfl, by have := KN.out.2.2.1; omega, by have := KN.out.2.2.1; omega, KN.out.2.2.2.1.1, KN.out.2.2.2.1.2, HST2.out, KN.out.2.2.2.2.1.1, KN.out.2.2.2.2.1.2, KN.out.2.2.2.2.2.1.1, KN.out.2.2.2.2.2.1.2, ⟨KN.out.2.2.2.2.2.2.2.1, by have := KN.out.2.2.2.2.2.2.2.2; omega⟩, fun _ => by have := KN.out.2.2.2.2.2.2.2.2; omega⟩, hX9⟩
 have q106b : (a0 == 2) = false := by simpa using q106
 go_upto_region 15 with (fail)
 go_cut [] (fun wc => wc.cell? ⟨w.heap.size + 2, 0, none⟩ = some (.int .i64 a0) ∧ wc.cell? ⟨w.heap.size + 2, 1, none⟩ = some (.int .i64 a1) ∧ wc.cell? ⟨w.heap.size + 2, 2, none⟩ = some (.int .i64 V2) ∧ wc.cell? ⟨w.heap.size + 2, 3, none⟩ = some (.int .i64 S2) ∧ wc.cell? ⟨w.heap.size + 2, 4, none⟩ = some (.int .i64 P2) ∧ wc.cell? ⟨w.heap.size + 2, 5, none⟩ = some (.int .i64 Q2) ∧ wc.cell? ⟨w.heap.size + 2, 6, none⟩ = some (.int .i64 a2) ∧ wc.cell? ⟨w.heap.size + 2, 7, none⟩ = some (.int .i64 a3) ∧ wc.cell? ⟨w.heap.size + 2, 8, none⟩ = some (.int .u64 m2) ∧ Ext w wc)
 case first =>
  go_wp2_with fail
  go_meet
  exact ⟨(by first | with_reducible exact r_0 | (simp [go_sem, World.cell?_alloc_past, r_0, r_0f, r_1, r_1f, r_2, r_2f, r_3, r_3f, r_4, r_4f, r_5, r_5f, r_6, r_6f, r_7, r_7f, r_8, r_8f, hlh, hlx, hlr, hqw, hqb]; done)), (by first | with_reducible exact r_1 | (simp [go_sem, World.cell?_alloc_past, r_0, r_0f, r_1, r_1f, r_2, r_2f, r_3, r_3f, r_4, r_4f, r_5, r_5f, r_6, r_6f, r_7, r_7f, r_8, r_8f, hlh, hlx, hlr, hqw, hqb]; done)), (by first | with_reducible exact r_2 | (simp [go_sem, World.cell?_alloc_past, r_0, r_0f, r_1, r_1f, r_2, r_2f, r_3, r_3f, r_4, r_4f, r_5, r_5f, r_6, r_6f, r_7, r_7f, r_8, r_8f, hlh, hlx, hlr, hqw, hqb]; done)), (by first | with_reducible exact r_3 | (simp [go_sem, World.cell?_alloc_past, r_0, r_0f, r_1, r_1f, r_2, r_2f, r_3, r_3f, r_4, r_4f, r_5, r_5f, r_6, r_6f, r_7, r_7f, r_8, r_8f, hlh, hlx, hlr, hqw, hqb]; done)), (by first | with_reducible exact r_4 | (simp [go_sem, World.cell?_alloc_past, r_0, r_0f, r_1, r_1f, r_2, r_2f, r_3, r_3f, r_4, r_4f, r_5, r_5f, r_6, r_6f, r_7, r_7f, r_8, r_8f, hlh, hlx, hlr, hqw, hqb]; done)), (by first | with_reducible exact r_5 | (simp [go_sem, World.cell?_alloc_past, r_0, r_0f, r_1, r_1f, r_2, r_2f, r_3, r_3f, r_4, r_4f, r_5, r_5f, r_6, r_6f, r_7, r_7f, r_8, r_8f, hlh, hlx, hlr, hqw, hqb]; done)), (by first | with_reducible exact r_6 | (simp [go_sem, World.cell?_alloc_past, r_0, r_0f, r_1, r_1f, r_2, r_2f, r_3, r_3f, r_4, r_4f, r_5, r_5f, r_6, r_6f, r_7, r_7f, r_8, r_8f, hlh, hlx, hlr, hqw, hqb]; done)), (by first | with_reducible exact r_7 | (simp [go_sem, World.cell?_alloc_past, r_0, r_0f, r_1, r_1f, r_2, r_2f, r_3, r_3f, r_4, r_4f, r_5, r_5f, r_6, r_6f, r_7, r_7f, r_8, r_8f, hlh, hlx, hlr, hqw, hqb]; done)), (by first | with_reducible exact r_8 | (simp [go_sem, World.cell?_alloc_past, r_0, r_0f, r_1, r_1f, r_2, r_2f, r_3, r_3f, r_4, r_4f, r_5, r_5f, r_6, r_6f, r_7, r_7f, r_8, r_8f, hlh, hlx, hlr, hqw, hqb]; done)), zxt⟩
 obtain ⟨s_0, s_1, s_2, s_3, s_4, s_5, s_6, s_7, s_8, hX9⟩ := hcut
 clear h_0 h_1 r_0 r_0f r_1 r_1f r_2 r_2f r_3 r_3f r_4 r_4f r_5 r_5f r_6 r_6f r_7 r_7f r_8 r_8f x_0 x_1 x_2 x_3 x_4 x_5 x_6 x_7 x_8 y_0 y_0f y_1 y_1f y_2 y_2f y_3 y_3f y_4 y_4f y_5 y_5f y_6 y_6f y_7 y_7f y_8 y_8f XC
 rename_i q_
 refine q_ _ _ ?_
 refine wp_ret ?_
 refine bodyPost_ret (v := .agg #[.int .i64 a0, .int .i64 a1, .int .i64 V2, .int .i64 S2, .int .i64 P2, .int .i64 Q2, .int .i64 a2, .int .i64 a3, .int .u64 m2]) (by simp [results, Tryz.results45, go_sem, s_0, s_1, s_2, s_3, s_4, s_5, s_6, s_7, s_8]; try rfl) rfl ⟨⟨_, _, _, _, _, _, _, _, _, rfl, by have := KN.out.2.2.1; omega, by have := KN.out.2.2.1; omega, KN.out.2.2.2.1.1, KN.out.2.2.2.1.2, HST2.out, KN.out.2.2.2.2.1.1, KN.out.2.2.2.2.1.2, KN.out.2.2.2.2.2.1.1, KN.out.2.2.2.2.2.1.2, HWM.out, fun hh => absurd hh q106⟩, hX9⟩
end
end Go.Proofs.YtkinchgjidpjnaaGreat
