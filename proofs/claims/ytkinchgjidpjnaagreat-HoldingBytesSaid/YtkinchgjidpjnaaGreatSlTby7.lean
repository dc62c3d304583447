/- Tby, part 7. Conditions stand in each lemma. -/
import Derived.Test.YtkinchgjidpjnaaGreatSlTby6
set_option linter.unusedVariables false
set_option linter.unusedSimpArgs false
set_option maxRecDepth 100000
set_option maxHeartbeats 64000000
namespace Go.Proofs.YtkinchgjidpjnaaGreat
section
open Go.RowKit Go.ChangeShapes Go.WideShapes Go.Deep Go.Joins
theorem zSlTby7_0 {P : Prop} (h : P := by intro hh; obtain ⟨o, s, e⟩ := hh; have := HRi.out _ o s e; omega) : P := h
theorem kCopyBytes_hb (A : Option Addr) (c : Nat) (L : List Nat) (w : World) (h : Sl w 1 A L.length c (by_ L)) (hn : L.length < 1099511627776) :
  Calls Tryz.prog 55 #[.slice A L.length c] w fun r w' => ∃ A c, r = .returned (.slice A L.length c) ∧ (A = none → c = 0) ∧ OwnN w' w.heap.size (.slice A L.length c) L.length L ∧ Ext w w' := by
 refine (kCopyBytes_any A c L w h hn).mono ?_
 rintro r w' ⟨v, rfl, ho, hx⟩
 obtain ⟨A1, c1, rfl, n1, _⟩ := own_parts2 ho
 exact ⟨A1, c1, rfl, n1, ho, hx⟩
theorem rBytes13_z (n c n2 c2 : Nat) (A A2 : Option Addr) (cl ps : List I6) (BL : List Nat) (be : Int) (w : World) (h : Sl w 6 A n c (cl.flatMap clsC)) (h2 : Sl w 6 A2 n2 c2 (ps.flatMap posC)) (hn : n = cl.length) (hn2 : n2 = ps.length) (hm : n ≤ 1024) (hm2 : n2 ≤ 1024) (hw : ∀ x ∈ cl, WdC x) (hw2 : ∀ x ∈ ps, WdP x) (hF : (BL, be) = (hldB cl ps, chkH cl ps)) :
  Calls Tryz.prog 57 #[.agg #[.slice A n c, .slice A2 n2 c2]] w fun r w' => ∃ A c, r = .returned (.tuple #[.slice A BL.length c, .int .i64 be]) ∧ (A = none → c = 0) ∧ OwnN w' w.heap.size (.slice A BL.length c) BL.length BL ∧ Ext w w' := by
 obtain ⟨h1, h3⟩ := Prod.mk.inj hF
 rw [h1, h3]
 exact (r13Bytes_any n c n2 c2 A A2 cl ps w h h2 hn hn2 hm hm2 hw hw2).mono fun r w' h => own_out h
theorem kCopyHolding_z (c c2 : Nat) (A A2 : Option Addr) (cl ps : List I6) (w : World) (h : Sl w 6 A cl.length c (cl.flatMap clsC)) (h2 : Sl w 6 A2 ps.length c2 (ps.flatMap posC)) (hn : cl.length < 1099511627776) (hn2 : ps.length < 1099511627776) :
  Calls Tryz.prog 13 #[.agg #[.slice A cl.length c, .slice A2 ps.length c2]] w fun r w' => ∃ B d B2 d2, r = .returned (.agg #[.slice B cl.length d, .slice B2 ps.length d2]) ∧ OwnCls w' w.heap.size (.slice B cl.length d) cl.length cl ∧ OwnPos w' w.heap.size (.slice B2 ps.length d2) ps.length ps ∧ Ext w w' :=
 (kCopyHolding_any c c2 A A2 cl ps w h h2 hn hn2).mono fun r w' hh => by
  obtain ⟨v, rfl, B, d, B2, d2, rfl, _, _, h5, h6, hx⟩ := hh
  exact ⟨B, d, B2, d2, rfl, h5, h6, hx⟩
theorem OwnN.but {S : Nat → Prop} {w w' : World} {base n : Nat} {v : Value} {l : List Nat} (h : OwnN w base v n l) (hx : But S w w') (hS : ∀ j, v.ownBlock = some j → ¬ S j) : OwnN w' base v n l := own_but h hx hS
theorem HoldingBytes_long (n c n2 c2 : Nat) (A A2 : Option Addr) (A1 : Option Addr) (c1 n1 : Nat) (w : World) (hl : (decide (60 < (n : Int)) || decide (80 < (n2 : Int))) = true ∨ ¬ n1 ≤ 1500) (hs1 : n1 ≤ 9223372036854775807) :
  Calls Tryz.prog 9 #[.agg #[.slice A n c, .slice A2 n2 c2], .slice A1 n1 c1] w fun r w' => r = .returned (.bool true) ∧ Ext w w' := by
 obtain ⟨LB, hLB⟩ : ∃ b, b = (decide (60 < (n : Int)) || decide (80 < (n2 : Int))) := ⟨_, rfl⟩
 have CL := Lib.hid (fun w => large13_any n c n2 c2 A A2 w)
 rw [← hLB] at CL hl
 clear hLB
 go_enter Tryz.func9, Tryz.ntmps9
 rcases Bool.eq_false_or_eq_true LB with rfl | rfl
 ·skip
  go_wp2_with fail
  (with_reducible refine (CL.out _).mono ?_)
  rintro e w1 ⟨rfl, hx1⟩
  have z1 := hx1.size
  try simp at z1
  have X1 : Hid (Ext w w1) := Lib.hid (Ext.trans zxt hx1)
  clear hx1
  go_wp2_with fail
  (with_reducible refine (awake13_any _).mono ?_)
  rintro e w2 ⟨rfl, hx2⟩
  have z2 := hx2.size
  try simp at z2
  have X2 : Hid (Ext w w2) := Lib.hid (Ext.trans zxt hx2)
  clear X1 hx2
  go_wp2_with fail
  go_ret
  exact ⟨rfl, zxt⟩
 have h1 : (1500 : Int) < (n1 : Int) := by rcases hl with hl | hl; (exact absurd hl (by decide)); omega
 go_wp2_with fail
 (with_reducible refine (CL.out _).mono ?_)
 rintro e w1 ⟨rfl, hx1⟩
 have z1 := hx1.size
 try simp at z1
 have X1 : Hid (Ext w w1) := Lib.hid (Ext.trans zxt hx1)
 clear hx1
 go_wp2_with fail
 (with_reducible refine (awake13_any _).mono ?_)
 rintro e w2 ⟨rfl, hx2⟩
 have z2 := hx2.size
 try simp at z2
 have X2 : Hid (Ext w w2) := Lib.hid (Ext.trans zxt hx2)
 clear X1 hx2
 go_wp2_with fail
 go_ret
 exact ⟨rfl, zxt⟩
theorem HoldingBytes_main (c c2 : Nat) (A A2 : Option Addr) (cl ps : List I6) (A0 : Option Addr) (c0 : Nat) (M : List Nat) (w : World) (h : Sl w 6 A cl.length c (cl.flatMap clsC)) (h2 : Sl w 6 A2 ps.length c2 (ps.flatMap posC)) (hw : ∀ x ∈ cl, WdC x) (hw2 : ∀ x ∈ ps, WdP x) (hb : Sl w 1 A0 M.length c0 (by_ M)) (hM : Byt M) (hl : cl.length ≤ 60) (hl2 : ps.length ≤ 80) (hl0 : M.length ≤ 1500) :
  Calls Tryz.prog 9 #[.agg #[.slice A cl.length c, .slice A2 ps.length c2], .slice A0 M.length c0] w fun r w' => r = .returned (.bool true) ∧ Ext w w' := by
 have hMe : ¬ (1500 : Int) < (M.length : Int) := by omega
 have CL := Lib.hid (fun w => large13_any cl.length c ps.length c2 A A2 w)
 rw [show (decide (60 < (cl.length : Int)) || decide (80 < (ps.length : Int))) = false from by rw [decide_eq_false (by omega), decide_eq_false (by omega)]; rfl] at CL
 have HS := Lib.hid h.low
 have HT := Lib.hid h2.low
 have HB := Lib.hid hb.low
 have HW := Lib.hid (And.intro hw hw2)
 have HM := Lib.hid hM
 obtain ⟨⟨BL, be⟩, hF⟩ : ∃ z, z = (hldB cl ps, chkH cl ps) := ⟨_, rfl⟩
 have F1 := Lib.hid hF
 have HBB := Lib.hid (show Byt BL from by rw [(Prod.mk.inj hF).1]; exact hldB_byt cl ps)
 obtain ⟨⟨P1, P2, pe, pa⟩, hP⟩ : ∃ z, z = hldRV M := ⟨_, rfl⟩
 have HP0 := Lib.hid hP
 have qn := flt_eql
 have qg := flt_eqg
 clear h h2 hb hw hw2 hM hF hP
 go_enter Tryz.func9, Tryz.ntmps9
 go_wp2_with fail
 (with_reducible refine (CL.out _).mono ?_)
 rintro e w1 ⟨rfl, hx1⟩
 have c0_0 : w1.cell? ⟨w.heap.size, 0, none⟩ = some (.slice A cl.length c) := hx1.has zcv
 have c0_1 : w1.cell? ⟨w.heap.size, 1, none⟩ = some (.slice A2 ps.length c2) := hx1.has zcv
 have z1 := hx1.size
 try simp at z1
 have rc0 := zr w.heap.size w1
 replace HS := Lib.hid (HS.out.ext (Ext.trans zxt hx1))
 replace HT := Lib.hid (HT.out.ext (Ext.trans zxt hx1))
 replace HB := Lib.hid (HB.out.ext (Ext.trans zxt hx1))
 have X1 : Hid (Ext w w1) := Lib.hid (Ext.trans zxt hx1)
 clear hx1
 go_wp2_with fail
 (with_reducible refine (kCopyHolding_z c c2 A A2 cl ps _ (HS.out.ext zxt).sl (HT.out.ext zxt).sl (by omega) (by omega)).mono ?_)
 rintro e w2 ⟨B, d, B2, d2, rfl, hO, hP, hx2⟩
 replace c0_0 := zh hx2 c0_0
 replace c0_1 := zh hx2 c0_1
 have z2 := hx2.size
 try simp at z2
 replace rc0 := zr w.heap.size w2
 replace HS := Lib.hid (HS.out.ext (Ext.trans zxt hx2))
 replace HT := Lib.hid (HT.out.ext (Ext.trans zxt hx2))
 replace HB := Lib.hid (HB.out.ext (Ext.trans zxt hx2))
 have X2 : Hid (Ext w w2) := Lib.hid (Ext.trans zxt hx2)
 have HI := Lib.hid hO
 have HJ := Lib.hid hP
 clear X1 hx2 hO hP
 have HIb := Lib.hid (fun j hj => (own_rng HI.out j hj).2)
 have HJb := Lib.hid (fun j hj => (own_rng HJ.out j hj).2)
 go_wp2_with fail
 (with_reducible refine (kCopyBytes_hb A0 c0 M _ (HB.out.ext zxt).sl (by omega)).mono ?_)
 rintro e w3 ⟨A6, c6, rfl, nA6, hO, hx3⟩
 replace c0_0 := zh hx3 c0_0
 replace c0_1 := zh hx3 c0_1
 have z3 := hx3.size
 try simp at z3
 replace rc0 := zr w.heap.size w3
 replace HS := Lib.hid (HS.out.ext (Ext.trans zxt hx3))
 replace HT := Lib.hid (HT.out.ext (Ext.trans zxt hx3))
 replace HB := Lib.hid (HB.out.ext (Ext.trans zxt hx3))
 replace HI := Lib.hid (HI.out.ext (Ext.trans zxt hx3))
 replace HJ := Lib.hid (HJ.out.ext (Ext.trans zxt hx3))
 have X3 : Hid (Ext w w3) := Lib.hid (Ext.trans zxt hx3)
 have HR := Lib.hid hO
 clear X2 hx3 hO
 have HRi : Hid (∀ k o s, A6 = some ⟨k, o, s⟩ → w2.heap.size ≤ k ∧ k < w3.heap.size) := Lib.hid (fun k o s e => by have h := own_rng HR.out k (by rw [e]; rfl); (try simp at h); omega)
 go_wp2_with fail
 (with_reducible refine (hBytes_z cl.length d ps.length d2 B B2 cl ps BL be _ (OwnCls.sl (HI.out.ext zxt)) (OwnPos.sl (HJ.out.ext zxt)) rfl rfl (by omega) (by omega) HW.out.1 HW.out.2 F1.out).mono ?_)
 rintro e w4 ⟨A1, c1, rfl, _, hO, hx4⟩
 replace c0_0 := zh hx4 c0_0
 replace c0_1 := zh hx4 c0_1
 have c1_0 : w4.cell? ⟨w3.heap.size, 0, none⟩ = some (.slice B cl.length d) := hx4.has zcv
 have c1_1 : w4.cell? ⟨w3.heap.size, 1, none⟩ = some (.slice B2 ps.length d2) := hx4.has zcv
 have z4 := hx4.size
 try simp at z4
 have lt_c0_c1 := zl w.heap.size w3.heap.size
 replace rc0 := zr w.heap.size w4
 have rc1 := zr w3.heap.size w4
 replace HS := Lib.hid (HS.out.ext (Ext.trans zxt hx4))
 replace HT := Lib.hid (HT.out.ext (Ext.trans zxt hx4))
 replace HB := Lib.hid (HB.out.ext (Ext.trans zxt hx4))
 replace HI := Lib.hid (HI.out.ext (Ext.trans zxt hx4))
 replace HJ := Lib.hid (HJ.out.ext (Ext.trans zxt hx4))
 replace HR := Lib.hid (HR.out.ext (Ext.trans zxt hx4))
 have X4 : Hid (Ext w w4) := Lib.hid (Ext.trans zxt hx4)
 have HX := Lib.hid hO
 clear X3 hx4 hO
 go_wp2_with fail
 (with_reducible refine (rBytes13_z cl.length c ps.length c2 A A2 cl ps BL be _ (HS.out.ext zxt).sl (HT.out.ext zxt).sl rfl rfl (by omega) (by omega) HW.out.1 HW.out.2 F1.out).mono ?_)
 rintro e w5 ⟨A7, c7, rfl, _, hO, hx5⟩
 replace c0_0 := zh hx5 c0_0
 replace c0_1 := zh hx5 c0_1
 replace c1_0 := zh hx5 c1_0
 replace c1_1 := zh hx5 c1_1
 have z5 := hx5.size
 try simp at z5
 replace rc0 := zr w.heap.size w5
 replace rc1 := zr w3.heap.size w5
 replace HS := Lib.hid (HS.out.ext (Ext.trans zxt hx5))
 replace HT := Lib.hid (HT.out.ext (Ext.trans zxt hx5))
 replace HB := Lib.hid (HB.out.ext (Ext.trans zxt hx5))
 replace HI := Lib.hid (HI.out.ext (Ext.trans zxt hx5))
 replace HJ := Lib.hid (HJ.out.ext (Ext.trans zxt hx5))
 replace HR := Lib.hid (HR.out.ext (Ext.trans zxt hx5))
 replace HX := Lib.hid (HX.out.ext (Ext.trans zxt hx5))
 have X5 : Hid (Ext w w5) := Lib.hid (Ext.trans zxt hx5)
 have HY := Lib.hid hO
 clear X4 hx5 hO
 go_wp2_with fail
 (with_reducible refine (hRead_any A6 c6 M HM.out (by omega) nA6 P1 P2 pe pa HP0.out _ ((HR.out.ext zxt)).sl).mono ?_)
 rintro e w6 ⟨B3, d3, B4, d4, rfl, _, _, hO3, hO4, hx6⟩
 replace c0_0 := zh hx6 c0_0
 replace c0_1 := zh hx6 c0_1
 replace c1_0 := zh hx6 c1_0
 replace c1_1 := zh hx6 c1_1
 have z6 := hx6.size
 try simp at z6
 replace rc0 := zr w.heap.size w6
 replace rc1 := zr w3.heap.size w6
 replace HS := Lib.hid (HS.out.ext (Ext.trans zxt hx6))
 replace HT := Lib.hid (HT.out.ext (Ext.trans zxt hx6))
 replace HB := Lib.hid (HB.out.ext (Ext.trans zxt hx6))
 replace HI := Lib.hid (HI.out.ext (Ext.trans zxt hx6))
 replace HJ := Lib.hid (HJ.out.ext (Ext.trans zxt hx6))
 replace HR := Lib.hid (HR.out.ext (Ext.trans zxt hx6))
 replace HX := Lib.hid (HX.out.ext (Ext.trans zxt hx6))
 replace HY := Lib.hid (HY.out.ext (Ext.trans zxt hx6))
 have X6 : Hid (Ext w w6) := Lib.hid (Ext.trans zxt hx6)
 have HP1 := Lib.hid hO3
 have HP2 := Lib.hid hO4
 clear X5 hx6 hO3 hO4
 go_wp2_with fail
 (with_reducible refine (r13Read_any A0 c0 M HM.out (by omega) P1 P2 pe pa HP0.out _ (HB.out.ext zxt).sl).mono ?_)
 rintro e w7 ⟨B5, d5, B6, d6, rfl, _, _, hO5, hO6, hx7⟩
 replace c0_0 := zh hx7 c0_0
 replace c0_1 := zh hx7 c0_1
 replace c1_0 := zh hx7 c1_0
 replace c1_1 := zh hx7 c1_1
 have c2_0 : w7.cell? ⟨w6.heap.size, 0, none⟩ = some (.slice B3 P1.length d3) := hx7.has zcv
 have c2_1 : w7.cell? ⟨w6.heap.size, 1, none⟩ = some (.slice B4 P2.length d4) := hx7.has zcv
 have c3_0 : w7.cell? ⟨w6.heap.size + 1, 0, none⟩ = some (.int .i64 pe) := hx7.has zcv
 have c3_1 : w7.cell? ⟨w6.heap.size + 1, 1, none⟩ = some (.int .i64 pa) := hx7.has zcv
 have z7 := hx7.size
 try simp at z7
 have lt_c0_c2 := zl w.heap.size w6.heap.size
 have lt_c0_c3 := zl w.heap.size (w6.heap.size + 1)
 have lt_c1_c2 := zl w3.heap.size w6.heap.size
 have lt_c1_c3 := zl w3.heap.size (w6.heap.size + 1)
 have lt_c2_c3 := zl w6.heap.size (w6.heap.size + 1)
 replace rc0 := zr w.heap.size w7
 replace rc1 := zr w3.heap.size w7
 have rc2 := zr w6.heap.size w7
 have rc3 := zr (w6.heap.size + 1) w7
 replace HS := Lib.hid (HS.out.ext (Ext.trans zxt hx7))
 replace HT := Lib.hid (HT.out.ext (Ext.trans zxt hx7))
 replace HB := Lib.hid (HB.out.ext (Ext.trans zxt hx7))
 replace HI := Lib.hid (HI.out.ext (Ext.trans zxt hx7))
 replace HJ := Lib.hid (HJ.out.ext (Ext.trans zxt hx7))
 replace HR := Lib.hid (HR.out.ext (Ext.trans zxt hx7))
 replace HX := Lib.hid (HX.out.ext (Ext.trans zxt hx7))
 replace HY := Lib.hid (HY.out.ext (Ext.trans zxt hx7))
 replace HP1 := Lib.hid (HP1.out.ext (Ext.trans zxt hx7))
 replace HP2 := Lib.hid (HP2.out.ext (Ext.trans zxt hx7))
 have X7 : Hid (Ext w w7) := Lib.hid (Ext.trans zxt hx7)
 have HQ1 := Lib.hid hO5
 have HQ2 := Lib.hid hO6
 clear X6 hx7 hO5 hO6
 go_wp2_with fail
 (with_reducible refine (kSameBytes_eq A6 A0 _ c6 _ c0 M HM.out _ ((HR.out.ext zxt)).sl (HB.out.ext zxt).sl).mono ?_)
 rintro e w_1 ⟨rfl, rfl⟩
 go_wp2_with fail
 (with_reducible refine (kOverBytes_own A6 c6 M HM.out _ _ (HR.out.ext zxt)).mono ?_)
 rintro e w8 ⟨⟨vv, rfl⟩, hx8⟩
 have hsz8 := hx8.size
 try simp at hsz8
 replace c0_0 := zhb hx8 c0_0 (ne := zSlTby7_0)
 replace c0_1 := zhb hx8 c0_1 (ne := zSlTby7_0)
 replace c1_0 := zhb hx8 c1_0 (ne := zSlTby7_0)
 replace c1_1 := zhb hx8 c1_1 (ne := zSlTby7_0)
 replace c2_0 := zhb hx8 c2_0 (ne := zSlTby7_0)
 replace c2_1 := zhb hx8 c2_1 (ne := zSlTby7_0)
 replace c3_0 := zhb hx8 c3_0 (ne := zSlTby7_0)
 replace c3_1 := zhb hx8 c3_1 (ne := zSlTby7_0)
 have c4_0 : w8.cell? ⟨w7.heap.size, 0, none⟩ = some (.slice B5 P1.length d5) := hx8.has zSlTby7_0 zcv
 have c4_1 : w8.cell? ⟨w7.heap.size, 1, none⟩ = some (.slice B6 P2.length d6) := hx8.has zSlTby7_0 zcv
 have c5_0 : w8.cell? ⟨w7.heap.size + 1, 0, none⟩ = some (.int .i64 pe) := hx8.has zSlTby7_0 zcv
 have c5_1 : w8.cell? ⟨w7.heap.size + 1, 1, none⟩ = some (.int .i64 pa) := hx8.has zSlTby7_0 zcv
 have z8 := hx8.size
 try simp at z8
 have lt_c0_c4 := zl w.heap.size w7.heap.size
 have lt_c0_c5 := zl w.heap.size (w7.heap.size + 1)
 have lt_c1_c4 := zl w3.heap.size w7.heap.size
 have lt_c1_c5 := zl w3.heap.size (w7.heap.size + 1)
 have lt_c2_c4 := zl w6.heap.size w7.heap.size
 have lt_c2_c5 := zl w6.heap.size (w7.heap.size + 1)
 have lt_c3_c4 := zl (w6.heap.size + 1) w7.heap.size
 have lt_c3_c5 := zl (w6.heap.size + 1) (w7.heap.size + 1)
 have lt_c4_c5 := zl w7.heap.size (w7.heap.size + 1)
 replace rc0 := zr w.heap.size w8
 replace rc1 := zr w3.heap.size w8
 replace rc2 := zr w6.heap.size w8
 replace rc3 := zr (w6.heap.size + 1) w8
 have rc4 := zr w7.heap.size w8
 have rc5 := zr (w7.heap.size + 1) w8
 have X8 : Hid (Ext w w8) := Lib.hid (have hX := (show Ext w _ from zxt); Below.trans hX (hx8.below (Ext.size hX) (fun k hk hh => by obtain ⟨o, s, e⟩ := hh; have := HRi.out k o s e; omega)))
 replace HS := Lib.hid ((HS.out.ext zxt).but hx8 (fun k hk => by obtain ⟨o, s, e⟩ := hk; have := HRi.out k o s e; omega))
 replace HT := Lib.hid ((HT.out.ext zxt).but hx8 (fun k hk => by obtain ⟨o, s, e⟩ := hk; have := HRi.out k o s e; omega))
 replace HB := Lib.hid ((HB.out.ext zxt).but hx8 (fun k hk => by obtain ⟨o, s, e⟩ := hk; have := HRi.out k o s e; omega))
 replace HI := Lib.hid ((HI.out.ext zxt).but hx8 (fun j hj hk => by obtain ⟨o, s, e⟩ := hk; have h1 := HRi.out j o s e; have h2 := HIb.out j hj; omega))
 replace HJ := Lib.hid ((HJ.out.ext zxt).but hx8 (fun j hj hk => by obtain ⟨o, s, e⟩ := hk; have h1 := HRi.out j o s e; have h2 := HJb.out j hj; omega))
 replace HX := Lib.hid ((HX.out.ext zxt).but hx8 (fun j hj hk => by obtain ⟨o, s, e⟩ := hk; have h1 := HRi.out j o s e; have h2 := (own_rng HX.out j hj).1; first | omega | (simp at h2; omega) | (simp [go_sem] at h2; omega)))
 replace HY := Lib.hid ((HY.out.ext zxt).but hx8 (fun j hj hk => by obtain ⟨o, s, e⟩ := hk; have h1 := HRi.out j o s e; have h2 := (own_rng HY.out j hj).1; first | omega | (simp at h2; omega) | (simp [go_sem] at h2; omega)))
 replace HP1 := Lib.hid ((HP1.out.ext zxt).but hx8 (fun j hj hk => by obtain ⟨o, s, e⟩ := hk; have h1 := HRi.out j o s e; have h2 := (own_rng HP1.out j hj).1; first | omega | (simp at h2; omega) | (simp [go_sem] at h2; omega)))
 replace HP2 := Lib.hid ((HP2.out.ext zxt).but hx8 (fun j hj hk => by obtain ⟨o, s, e⟩ := hk; have h1 := HRi.out j o s e; have h2 := (own_rng HP2.out j hj).1; first | omega | (simp at h2; omega) | (simp [go_sem] at h2; omega)))
 replace HQ1 := Lib.hid ((HQ1.out.ext zxt).but hx8 (fun j hj hk => by obtain ⟨o, s, e⟩ := hk; have h1 := HRi.out j o s e; have h2 := (own_rng HQ1.out j hj).1; first | omega | (simp at h2; omega) | (simp [go_sem] at h2; omega)))
 replace HQ2 := Lib.hid ((HQ2.out.ext zxt).but hx8 (fun j hj hk => by obtain ⟨o, s, e⟩ := hk; have h1 := HRi.out j o s e; have h2 := (own_rng HQ2.out j hj).1; first | omega | (simp at h2; omega) | (simp [go_sem] at h2; omega)))
 clear HR hsz8 X7 hx8
 go_wp2_with fail
 (with_reducible refine (kSameBytes_eq A1 A7 _ c1 _ c7 BL HBB.out _ ((HX.out.ext zxt)).sl ((HY.out.ext zxt)).sl).mono ?_)
 rintro e w_2 ⟨rfl, rfl⟩
 go_wp2_with fail
 (with_reducible refine (kSameHolding_eq P1.length d3 P2.length d4 P1.length d5 P2.length d6 B3 B4 B5 B6 P1 P2 P1 P2 _ (OwnCls.sl (HP1.out.ext zxt)) (OwnPos.sl (HP2.out.ext zxt)) (OwnCls.sl (HQ1.out.ext zxt)) (OwnPos.sl (HQ2.out.ext zxt)) rfl rfl).mono ?_)
 rintro e w9 ⟨rfl, hx9⟩
 replace c0_0 := zh hx9 c0_0
 replace c0_1 := zh hx9 c0_1
 replace c1_0 := zh hx9 c1_0
 replace c1_1 := zh hx9 c1_1
 replace c3_0 := zh hx9 c3_0
 replace c3_1 := zh hx9 c3_1
 replace c5_0 := zh hx9 c5_0
 replace c5_1 := zh hx9 c5_1
 have z9 := hx9.size
 try simp at z9
 replace rc0 := zr w.heap.size w9
 replace rc1 := zr w3.heap.size w9
 replace rc3 := zr (w6.heap.size + 1) w9
 replace rc5 := zr (w7.heap.size + 1) w9
 replace HS := Lib.hid (HS.out.ext (Ext.trans zxt hx9))
 replace HT := Lib.hid (HT.out.ext (Ext.trans zxt hx9))
 replace HB := Lib.hid (HB.out.ext (Ext.trans zxt hx9))
 replace HI := Lib.hid (HI.out.ext (Ext.trans zxt hx9))
 replace HJ := Lib.hid (HJ.out.ext (Ext.trans zxt hx9))
 replace HX := Lib.hid (HX.out.ext (Ext.trans zxt hx9))
 replace HY := Lib.hid (HY.out.ext (Ext.trans zxt hx9))
 replace HP1 := Lib.hid (HP1.out.ext (Ext.trans zxt hx9))
 replace HP2 := Lib.hid (HP2.out.ext (Ext.trans zxt hx9))
 replace HQ1 := Lib.hid (HQ1.out.ext (Ext.trans zxt hx9))
 replace HQ2 := Lib.hid (HQ2.out.ext (Ext.trans zxt hx9))
 have X9 : Hid (Ext w w9) := Lib.hid (Ext.trans zxt hx9)
 clear c2_1 c2_0 c4_0 c4_1 rc4 rc2 X8 hx9
 go_wp2_with fail
 (with_reducible refine (kSameHolding_eq cl.length d ps.length d2 cl.length c ps.length c2 B B2 A A2 cl ps cl ps _ (OwnCls.sl (HI.out.ext zxt)) (OwnPos.sl (HJ.out.ext zxt)) (HS.out.ext zxt).sl (HT.out.ext zxt).sl rfl rfl).mono ?_)
 rintro e w10 ⟨rfl, hx10⟩
 have z10 := hx10.size
 try simp at z10
 replace HS := Lib.hid (HS.out.ext (Ext.trans zxt hx10))
 replace HT := Lib.hid (HT.out.ext (Ext.trans zxt hx10))
 replace HB := Lib.hid (HB.out.ext (Ext.trans zxt hx10))
 replace HI := Lib.hid (HI.out.ext (Ext.trans zxt hx10))
 replace HJ := Lib.hid (HJ.out.ext (Ext.trans zxt hx10))
 replace HX := Lib.hid (HX.out.ext (Ext.trans zxt hx10))
 replace HY := Lib.hid (HY.out.ext (Ext.trans zxt hx10))
 have X10 : Hid (Ext w w10) := Lib.hid (Ext.trans zxt hx10)
 clear c0_1 c0_0 c1_1 c1_0 c3_0 c3_1 c5_1 c5_0 rc3 rc0 rc5 rc1 HP1 HP2 HQ1 HQ2 X9 hx10
 go_wp2_with fail
 (with_reducible refine (awake13_any _).mono ?_)
 rintro e w11 ⟨rfl, hx11⟩
 have z11 := hx11.size
 try simp at z11
 replace HS := Lib.hid (HS.out.ext (Ext.trans zxt hx11))
 replace HT := Lib.hid (HT.out.ext (Ext.trans zxt hx11))
 replace HB := Lib.hid (HB.out.ext (Ext.trans zxt hx11))
 replace HI := Lib.hid (HI.out.ext (Ext.trans zxt hx11))
 replace HJ := Lib.hid (HJ.out.ext (Ext.trans zxt hx11))
 replace HX := Lib.hid (HX.out.ext (Ext.trans zxt hx11))
 replace HY := Lib.hid (HY.out.ext (Ext.trans zxt hx11))
 have X11 : Hid (Ext w w11) := Lib.hid (Ext.trans zxt hx11)
 clear X10 hx11
 go_wp2_with fail
 go_ret
 exact ⟨rfl, zxt⟩
theorem HoldingBytes_any (A : Option Addr) (c : Nat) (A2 : Option Addr) (c2 : Nat) (cl ps : List I6) (A0 : Option Addr) (c0 : Nat) (M : List Nat) (w : World) (h : Sl w 6 A cl.length c (cl.flatMap clsC)) (h2 : Sl w 6 A2 ps.length c2 (ps.flatMap posC)) (hw : ∀ x ∈ cl, WdC x) (hw2 : ∀ x ∈ ps, WdP x) (hA : A = none → c = 0) (hA2 : A2 = none → c2 = 0) (hb : Sl w 1 A0 M.length c0 (by_ M)) (hM : Byt M) (hnil : A0 = none → c0 = 0) :
  Calls Tryz.prog 9 #[.agg #[.slice A cl.length c, .slice A2 ps.length c2], .slice A0 M.length c0] w fun r w' => r = .returned (.bool true) ∧ Ext w w' := by
 by_cases hl : (cl.length ≤ 60 ∧ ps.length ≤ 80) ∧ M.length ≤ 1500
 ·exact HoldingBytes_main c c2 A A2 cl ps A0 c0 M w h h2 hw hw2 hb hM hl.1.1 hl.1.2 hl.2
 refine HoldingBytes_long cl.length c ps.length c2 A A2 A0 c0 M.length w ?_ hb.small
 by_cases h9 : cl.length ≤ 60 ∧ ps.length ≤ 80
 ·exact .inr (fun hh => hl ⟨h9, hh⟩)
 left
 simp only [Bool.or_eq_true, decide_eq_true_eq]
 omega
end
end Go.Proofs.YtkinchgjidpjnaaGreat
