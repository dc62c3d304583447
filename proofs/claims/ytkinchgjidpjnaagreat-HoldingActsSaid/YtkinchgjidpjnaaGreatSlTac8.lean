/- Tac, part 8. Conditions stand in each lemma. -/
import Derived.Test.YtkinchgjidpjnaaGreatSlTac7
set_option linter.unusedVariables false
set_option linter.unusedSimpArgs false
set_option maxRecDepth 100000
set_option maxHeartbeats 64000000
namespace Go.Proofs.YtkinchgjidpjnaaGreat
section
open Go.RowKit Go.ChangeShapes Go.WideShapes Go.Deep Go.Joins
theorem zSlTac8_0 {P : Prop} (h : P := by unfold OwnPos; repeat (first | exact HB.out | refine own_set_ne ?_ (fun j hj hh => by have h9 := RB.out j hj; (try simp only [World.size_alloc] at h9); first | omega | (simp at h9; omega) | (simp [go_sem] at h9; omega)) | refine own_keep (base := w12.heap.size) ?_ (Ext.alloc (Ext.refl _) _) | with_reducible refine World.ownsRow.drew ?_)) : P := h
theorem zSlTac8_1 {P : Prop} (h : P := by unfold OwnCls; repeat (first | exact HA.out | refine own_set_ne ?_ (fun j hj hh => by have h9 := RA.out j hj; (try simp only [World.size_alloc] at h9); first | omega | (simp at h9; omega) | (simp [go_sem] at h9; omega)) | refine own_keep (base := w12.heap.size) ?_ (Ext.alloc (Ext.refl _) _) | with_reducible refine World.ownsRow.drew ?_)) : P := h
theorem zSlTac8_2 {P : Prop} (h : P := by unfold OwnLoss; repeat (first | exact HL.out | refine own_set_ne ?_ (fun j hj hh => by have h9 := RL.out j hj; (try simp only [World.size_alloc] at h9); first | omega | (simp at h9; omega) | (simp [go_sem] at h9; omega)) | refine own_keep (base := w12.heap.size) ?_ (Ext.alloc (Ext.refl _) _) | with_reducible refine World.ownsRow.drew ?_)) : P := h
theorem zSlTac8_3 {P : Prop} (h : P := by unfold OwnPos; repeat (first | exact HD.out | refine own_set_ne ?_ (fun j hj hh => by have h9 := RD.out j hj; (try simp only [World.size_alloc] at h9); first | omega | (simp at h9; omega) | (simp [go_sem] at h9; omega)) | refine own_keep (base := wd.heap.size) ?_ (Ext.alloc (Ext.refl _) _) | with_reducible refine World.ownsRow.drew ?_)) : P := h
theorem zSlTac8_4 {P : Prop} (h : P := by unfold OwnCls; repeat (first | exact HC.out | refine own_set_ne ?_ (fun j hj hh => by have h9 := RC.out j hj; (try simp only [World.size_alloc] at h9); first | omega | (simp at h9; omega) | (simp [go_sem] at h9; omega)) | refine own_keep (base := wd.heap.size) ?_ (Ext.alloc (Ext.refl _) _) | with_reducible refine World.ownsRow.drew ?_)) : P := h
theorem zSlTac8_5 {P : Prop} (h : P := by (first | exact ⟨a_0, a_1, a_2, a_3, a_4, a_5, a_6, a_7, a_8, h_0, h_1⟩ | (simp [go_sem, World.cell?_alloc_past, *]; done))) : P := h
theorem zSlTac8_6 {P : Prop} (h : P := by (first | exact ⟨a_0, a_1, a_2, a_3, a_4, a_5, a_6, a_7, a_8, i_0, i_1⟩ | (simp [go_sem, World.cell?_alloc_past, *]; done))) : P := h
theorem zSlTac8_7 {P : Prop} (h : P := by first | exact Nat.le_refl _ | omega | (simp; done) | (simp; omega)) : P := h
theorem zSlTac8_8 {P : Prop} (h : P := by (first | exact ⟨h_0, h_1, i_0, i_1⟩ | (simp [go_sem, World.cell?_alloc_past, *]; done))) : P := h
theorem zSlTac8_9 {P : Prop} (h : P := by unfold OwnLoss; repeat (first | exact HM.out | refine own_set_ne ?_ (fun j hj hh => by have h9 := RM.out j hj; (try simp only [World.size_alloc] at h9); first | omega | (simp at h9; omega) | (simp [go_sem] at h9; omega)) | refine own_keep (base := wd.heap.size) ?_ (Ext.alloc (Ext.refl _) _) | with_reducible refine World.ownsRow.drew ?_)) : P := h
theorem zSlTac8_10 {P : Prop} (h : P := by unfold OwnLoss; repeat (first | exact HL.out | refine own_set_ne ?_ (fun j hj hh => by have h9 := RL.out j hj; (try simp only [World.size_alloc] at h9); first | omega | (simp at h9; omega) | (simp [go_sem] at h9; omega)) | refine own_keep (base := wd.heap.size) ?_ (Ext.alloc (Ext.refl _) _) | with_reducible refine World.ownsRow.drew ?_)) : P := h
theorem zSlTac8_11 {P : Prop} (h : P := by unfold OwnPos; repeat (first | exact HB.out | refine own_set_ne ?_ (fun j hj hh => by have h9 := RB.out j hj; (try simp only [World.size_alloc] at h9); first | omega | (simp at h9; omega) | (simp [go_sem] at h9; omega)) | refine own_keep (base := wd.heap.size) ?_ (Ext.alloc (Ext.refl _) _) | with_reducible refine World.ownsRow.drew ?_)) : P := h
theorem zSlTac8_12 {P : Prop} (h : P := by unfold OwnCls; repeat (first | exact HA.out | refine own_set_ne ?_ (fun j hj hh => by have h9 := RA.out j hj; (try simp only [World.size_alloc] at h9); first | omega | (simp at h9; omega) | (simp [go_sem] at h9; omega)) | refine own_keep (base := wd.heap.size) ?_ (Ext.alloc (Ext.refl _) _) | with_reducible refine World.ownsRow.drew ?_)) : P := h
theorem zSlTac8_13 {P : Prop} (h : P := by first | with_reducible exact ⟨a_0, a_1, a_2, a_3, a_4, a_5, a_6, a_7, a_8, h_0, h_1⟩ | (simp [go_sem, World.cell?_alloc_past, *]; done)) : P := h
def ActsCut (w0 wc : World) (CN PN : List I6) (LL : List I5) (NN EE : Int) (q v1 v2 v3 : Value) : Prop := ∃ (qa : Nat) (B3 B4 A9 : Option Addr) (d3 d4 c9 : Nat), q = .pointer (some ⟨qa, 0, none⟩) ∧ v1 = .int .u64 NN ∧ v2 = .slice A9 LL.length c9 ∧ v3 = .int .i64 EE ∧ (B3 = none → d3 = 0) ∧ (B4 = none → d4 = 0) ∧ wc.cell? ⟨qa, 0, none⟩ = some (.slice B3 CN.length d3) ∧ wc.cell? ⟨qa, 1, none⟩ = some (.slice B4 PN.length d4) ∧ Hid (OwnCls wc w0.heap.size (.slice B3 CN.length d3) CN.length CN) ∧ Hid (OwnPos wc w0.heap.size (.slice B4 PN.length d4) PN.length PN) ∧ Hid (OwnLoss wc w0.heap.size (.slice A9 LL.length c9) LL.length LL) ∧ Hid (∀ j, (Value.slice A9 LL.length c9).ownBlock = some j → ¬ j = qa) ∧ w0.heap.size ≤ qa ∧ qa < wc.heap.size ∧ Ext w0 wc
theorem HoldingActs_any (A : Option Addr) (c : Nat) (A2 : Option Addr) (c2 : Nat) (cl ps : List I6) (AL : Option Addr) (cL : Nat) (acts : List I9) (w : World) (h : Sl w 6 A cl.length c (cl.flatMap clsC)) (h2 : Sl w 6 A2 ps.length c2 (ps.flatMap posC)) (hw : ∀ x ∈ cl, WdC x) (hw2 : ∀ x ∈ ps, WdP x) (hA : A = none → c = 0) (hA2 : A2 = none → c2 = 0) (hL : Sl w 9 AL acts.length cL (acts.flatMap actC)) (fA : ∀ x ∈ acts, FitsA x) (gA : AL = none → cL = 0) :
  Calls Tryz.prog 3 #[.agg #[.slice A cl.length c, .slice A2 ps.length c2], .slice AL acts.length cL] w fun r w' => r = .returned (.bool true) ∧ Ext w w' := by
 obtain ⟨LB, hLB⟩ : ∃ b, b = (decide (60 < (cl.length : Int)) || decide (80 < (ps.length : Int))) := ⟨_, rfl⟩
 have CL := Lib.hid (fun w => large13_any cl.length c ps.length c2 A A2 w)
 rw [← hLB] at CL
 have HB := Lib.hid hLB
 have H1 := Lib.hid h
 have H2 := Lib.hid h2
 have HW := Lib.hid (And.intro hw hw2)
 have HA_ := Lib.hid hA
 have HA2_ := Lib.hid hA2
 have HL_ := Lib.hid hL
 have HF := Lib.hid fA
 clear h h2 hw hw2 hA hA2 hL fA gA hLB
 go_enter Tryz.func3, Tryz.ntmps3
 rcases (show LB = true ∨ LB = false from by cases LB <;> simp) with rfl | rfl
 ·go_wp2_with fail
  (with_reducible refine (CL.out _).mono ?_)
  rintro e w1 ⟨rfl, hx1⟩
  have c0_0f : w1.frozen? ⟨w.heap.size, 0, none⟩ = false := hx1.froz (v := .slice A cl.length c) zcv zcv
  have c0_1f : w1.frozen? ⟨w.heap.size, 1, none⟩ = false := hx1.froz (v := .slice A2 ps.length c2) zcv zcv
  have c0_0 : w1.cell? ⟨w.heap.size, 0, none⟩ = some (.slice A cl.length c) := hx1.has zcv
  have c0_1 : w1.cell? ⟨w.heap.size, 1, none⟩ = some (.slice A2 ps.length c2) := hx1.has zcv
  have z1 := hx1.size
  try simp at z1
  have rc0 := zr w.heap.size w1
  have X1 : Hid (Ext w w1) := Lib.hid (Ext.trans zxt hx1)
  clear hx1
  go_wp2_with fail
  (with_reducible refine (awake13_any _).mono ?_)
  rintro e w2 ⟨rfl, hx2⟩
  replace c0_0f := zf hx2 c0_0 c0_0f
  replace c0_1f := zf hx2 c0_1 c0_1f
  replace c0_0 := zh hx2 c0_0
  replace c0_1 := zh hx2 c0_1
  have z2 := hx2.size
  try simp at z2
  replace rc0 := zr w.heap.size w2
  have X2 : Hid (Ext w w2) := Lib.hid (Ext.trans zxt hx2)
  clear X1 hx2
  go_wp2_with fail
  refine bodyPost_ret (v := .bool true) (by simp [results, Tryz.results3, go_sem, World.cell?_alloc_past, *]; try rfl) rfl ⟨rfl, ?_⟩
  exact zxt
 go_wp2_with fail
 (with_reducible refine (CL.out _).mono ?_)
 rintro e w1 ⟨rfl, hx1⟩
 have c0_0f : w1.frozen? ⟨w.heap.size, 0, none⟩ = false := hx1.froz (v := .slice A cl.length c) zcv zcv
 have c0_1f : w1.frozen? ⟨w.heap.size, 1, none⟩ = false := hx1.froz (v := .slice A2 ps.length c2) zcv zcv
 have c0_0 : w1.cell? ⟨w.heap.size, 0, none⟩ = some (.slice A cl.length c) := hx1.has zcv
 have c0_1 : w1.cell? ⟨w.heap.size, 1, none⟩ = some (.slice A2 ps.length c2) := hx1.has zcv
 have z1 := hx1.size
 try simp at z1
 have rc0 := zr w.heap.size w1
 have X1 : Hid (Ext w w1) := Lib.hid (Ext.trans zxt hx1)
 clear hx1
 by_cases q20 : 20 < ((acts.length : Nat) : Int)
 ·have q20b : decide (20 < ((acts.length : Nat) : Int)) = true := decide_eq_true q20
  go_wp2_with fail
  (with_reducible refine (awake13_any _).mono ?_)
  rintro e w2 ⟨rfl, hx2⟩
  replace c0_0f := zf hx2 c0_0 c0_0f
  replace c0_1f := zf hx2 c0_1 c0_1f
  replace c0_0 := zh hx2 c0_0
  replace c0_1 := zh hx2 c0_1
  have z2 := hx2.size
  try simp at z2
  replace rc0 := zr w.heap.size w2
  have X2 : Hid (Ext w w2) := Lib.hid (Ext.trans zxt hx2)
  clear X1 hx2
  go_wp2_with fail
  refine bodyPost_ret (v := .bool true) (by simp [results, Tryz.results3, go_sem, World.cell?_alloc_past, *]; try rfl) rfl ⟨rfl, ?_⟩
  exact zxt
 have q20b : decide (20 < ((acts.length : Nat) : Int)) = false := decide_eq_false q20
 have hl : cl.length ≤ 60 ∧ ps.length ≤ 80 := by have h9 := HB.out.symm; rw [Bool.or_eq_false_iff] at h9; have h8 := of_decide_eq_false h9.1; have h7 := of_decide_eq_false h9.2; omega
 go_wp2_with fail
 (with_reducible refine (kCopyHolding_any c c2 A A2 cl ps _ (H1.out.ext zxt) (H2.out.ext zxt) (by omega) (by omega)).mono ?_)
 rintro e w2 ⟨_, rfl, B, d, B2, d2, rfl, hB, hB2, hO, hO2, hx2⟩
 replace c0_0f := zf hx2 c0_0 c0_0f
 replace c0_1f := zf hx2 c0_1 c0_1f
 replace c0_0 := zh hx2 c0_0
 replace c0_1 := zh hx2 c0_1
 have z2 := hx2.size
 try simp at z2
 replace rc0 := zr w.heap.size w2
 have X2 : Hid (Ext w w2) := Lib.hid (Ext.trans zxt hx2)
 have HO := Lib.hid (show OwnCls _ (w.heap.size + 1) _ _ _ from own_lower hO zSlTac8_7)
 have HP := Lib.hid (show OwnPos _ (w.heap.size + 1) _ _ _ from own_lower hO2 zSlTac8_7)
 clear X1 hx2
 have RO := Lib.hid (own_rng hO)
 have RP := Lib.hid (own_rng hO2)
 clear hO hO2
 go_wp2_with fail
 obtain ⟨QI, hQ⟩ : ∃ q, q = w2.heap.size := ⟨_, rfl⟩
 rw [← hQ]
 have hQw : w.heap.size + 1 ≤ QI := by omega
 go_loopg [6] acts.length (fun gh i wx => gh ≤ acts.length ∧ i = .int .i64 ((acts.length - gh : Nat) : Int) ∧ ∃ (CC PP : List I6) (Ah Ap B B2 : Option Addr) (ch cp d d2 : Nat), Hid (Bk wx w.heap.size (.slice Ah CC.length ch) (.slice Ap PP.length cp)) ∧ Hid (Bk wx QI (.slice B CC.length d) (.slice B2 PP.length d2)) ∧ (Ah = none → ch = 0) ∧ (Ap = none → cp = 0) ∧ (B = none → d = 0) ∧ (B2 = none → d2 = 0) ∧ Hid (Sl wx 6 Ah CC.length ch (CC.flatMap clsC)) ∧ Hid (Sl wx 6 Ap PP.length cp (PP.flatMap posC)) ∧ Hid (OwnCls wx (w.heap.size + 1) (.slice B CC.length d) CC.length CC) ∧ Hid (OwnPos wx (w.heap.size + 1) (.slice B2 PP.length d2) PP.length PP) ∧ Hid ((∀ x ∈ CC, WdC x) ∧ (∀ x ∈ PP, WdP x)) ∧ CC.length ≤ 60 + (acts.length - gh) ∧ PP.length ≤ 80 + (acts.length - gh) ∧ Hid (∀ j, (Value.slice B CC.length d).ownBlock = some j → ¬ j = QI) ∧ Hid (∀ j, (Value.slice B2 PP.length d2).ownBlock = some j → ¬ j = QI) ∧ Hid (Ext w wx))
 case atStart =>
  subst hQ
  exact ⟨Nat.le_refl _, by simp, cl, ps, A, A2, B, B2, c, c2, d, d2, Lib.hid ⟨zcv, zcv, zcv, zcv⟩, Lib.hid (show Bk _ _ (.slice B cl.length d) (.slice B2 ps.length d2) from ⟨zcv, zcv, zcv, zcv⟩), HA_.out, HA2_.out, hB, hB2, Lib.hid (H1.out.ext zxt), Lib.hid (H2.out.ext zxt), Lib.hid (show OwnCls _ (w.heap.size + 1) _ _ _ from (by repeat (first | exact HO.out | refine own_set_ne ?_ (fun j hj hh => by have h9 := RO.out j hj; (try simp only [World.size_alloc] at h9); first | omega | (simp at h9; omega) | (simp [go_sem] at h9; omega)) | refine own_keep ?_ (Ext.alloc (Ext.refl _) _)))), Lib.hid (show OwnPos _ (w.heap.size + 1) _ _ _ from (by repeat (first | exact HP.out | refine own_set_ne ?_ (fun j hj hh => by have h9 := RP.out j hj; (try simp only [World.size_alloc] at h9); first | omega | (simp at h9; omega) | (simp [go_sem] at h9; omega)) | refine own_keep ?_ (Ext.alloc (Ext.refl _) _)))), HW, by omega, by omega, Lib.hid (fun j hj hh => by have h9 := RO.out j hj; omega), Lib.hid (fun j hj hh => by have h9 := RP.out j hj; omega), Lib.hid zxt⟩
 subst hQ
 obtain ⟨hg, hi, CC, PP, Ah, Ap, B, B2, ch, cp, d, d2, BH, BI, nA, nA2, nB, nB2, H1, H2, HO, HP, HW, hlC, hlP, NQ, NQ2, XW⟩ := hrel
 have h_0 := BH.out.c0
 have h_1 := BH.out.c1
 have h_0f := BH.out.f0
 have h_1f := BH.out.f1
 have i_0 := BI.out.c0
 have i_1 := BI.out.c1
 have i_0f := BI.out.f0
 have i_1f := BI.out.f1
 have hlh := cell_lt h_0
 have hli := cell_lt i_0
 have hzw := XW.out.size
 have hnh : ¬ w.heap.size = wr.heap.size := by omega
 have hni : ¬ w2.heap.size = wr.heap.size := by omega
 have hhi : ¬ w.heap.size = w2.heap.size := by omega
 have hih : ¬ w2.heap.size = w.heap.size := by omega
 have RI := Lib.hid (own_rng HO.out)
 have RJ := Lib.hid (own_rng HP.out)
 obtain ⟨ix, hix⟩ : ∃ k, k = acts.length - gk := ⟨_, rfl⟩
 rw [← hix] at hi hlC hlP
 subst hi
 obtain ⟨KK, hKK⟩ : ∃ e, e = chkH CC PP := ⟨_, rfl⟩
 have CK1 := Lib.hid (fun (w' : World) (hx : Ext wr w') => hCheck_any CC.length d PP.length d2 B B2 CC PP w' ((OwnCls.sl HO.out).ext hx) ((OwnPos.sl HP.out).ext hx) (by omega) (by omega) HW.out.1 HW.out.2)
 have CK2 := Lib.hid (fun (w' : World) (hx : Ext wr w') => r13Check_any CC.length ch PP.length cp Ah Ap CC PP w' (H1.out.ext hx) (H2.out.ext hx) HW.out.1 HW.out.2)
 rw [← hKK] at CK1 CK2
 clear hKK BH BI
 by_cases hz : gk = 0
 ·have hkn : ¬ (ix : Int) < ((acts.length : Nat) : Int) := by omega
  clear hg hix hz
  go_wp2_with fail
  refine wp_region_held_drew (S := fun w' => w'.cell? ⟨w.heap.size, 0, none⟩ = some (.slice Ah CC.length ch) ∧ w'.cell? ⟨w.heap.size, 1, none⟩ = some (.slice Ap PP.length cp) ∧ w'.cell? ⟨w2.heap.size, 0, none⟩ = some (.slice B CC.length d) ∧ w'.cell? ⟨w2.heap.size, 1, none⟩ = some (.slice B2 PP.length d2)) (by kernel_rfl) (by first | with_reducible exact ⟨h_0, h_1, i_0, i_1⟩ | (simp [go_sem, World.cell?_alloc_past, *]; done)) (fun hHeld => ?_)
  refine' zt 0 ?_
  refine' zt 2 ?_
  refine' zn 1 (fun K hK => ?_)
  go_simp
  (with_reducible refine (CK1.out _ zxt).mono ?_)
  rintro e w11 ⟨rfl, hx11⟩
  replace h_0 := zh hx11 h_0
  replace h_1 := zh hx11 h_1
  replace i_0 := zh hx11 i_0
  replace i_1 := zh hx11 i_1
  have z11 := hx11.size
  try simp at z11
  have ne_h_i : ¬ w.heap.size = w2.heap.size := by omega
  have ne_i_h : ¬ w2.heap.size = w.heap.size := by omega
  have rh := zr w.heap.size w11
  have ri := zr w2.heap.size w11
  have X11 : Hid (Ext wr w11) := Lib.hid (Ext.trans zxt hx11)
  clear h_0f h_1f i_1f i_0f hx11
  refine' zk hK zSlTac8_8 (fun hHeld => ?_); clear hK K
  refine' zn 3 (fun K hK => ?_)
  go_simp
  (with_reducible refine (CK2.out _ zxt).mono ?_)
  rintro e w12 ⟨rfl, hx12⟩
  replace h_0 := zh hx12 h_0
  replace h_1 := zh hx12 h_1
  replace i_0 := zh hx12 i_0
  replace i_1 := zh hx12 i_1
  have z12 := hx12.size
  try simp at z12
  replace rh := zr w.heap.size w12
  replace ri := zr w2.heap.size w12
  have X12 : Hid (Ext wr w12) := Lib.hid (Ext.trans zxt hx12)
  clear X11 hx12
  refine' zk hK zSlTac8_8 (fun hHeld => ?_); clear hK K
  refine' zt 4 ?_
  refine' zt 5 ?_
  refine' zn 6 (fun K hK => ?_)
  go_simp
  (with_reducible refine (awake13_any _).mono ?_)
  rintro e w13 ⟨rfl, hx13⟩
  replace h_0 := zh hx13 h_0
  replace h_1 := zh hx13 h_1
  replace i_0 := zh hx13 i_0
  replace i_1 := zh hx13 i_1
  have z13 := hx13.size
  try simp at z13
  replace rh := zr w.heap.size w13
  replace ri := zr w2.heap.size w13
  have X13 : Hid (Ext wr w13) := Lib.hid (Ext.trans zxt hx13)
  clear X12 hx13
  refine' zk hK zSlTac8_8 (fun hHeld => ?_); clear hK K
  refine' zt 7 ?_
  refine' zt 8 ?_
  refine wpAnyH_done (by kernel_rfl) ?_ _
  go_wp2_with fail
  refine bodyPost_ret (v := .bool true) (by simp [results, Tryz.results3, go_sem, World.cell?_alloc_past, *]; try rfl) rfl ⟨rfl, ?_⟩
  exact Ext.trans XW.out zxt
 have hkn : (ix : Int) < ((acts.length : Nat) : Int) := by omega
 have hkl : ix < acts.length := by omega
 obtain ⟨b9, o9, rfl, hb9, hc9⟩ := HL_.out.rec_ actC_len (show 0 < acts.length from by omega)
 obtain ⟨y9, hy9⟩ : ∃ x, acts[ix]? = some x := ⟨_, List.getElem?_eq_getElem hkl⟩
 have a_0 := XW.out.has (hc9 ix y9 hy9 0 _ rfl)
 have a_1 := XW.out.has (hc9 ix y9 hy9 1 _ rfl)
 have a_2 := XW.out.has (hc9 ix y9 hy9 2 _ rfl)
 have a_3 := XW.out.has (hc9 ix y9 hy9 3 _ rfl)
 have a_4 := XW.out.has (hc9 ix y9 hy9 4 _ rfl)
 have a_5 := XW.out.has (hc9 ix y9 hy9 5 _ rfl)
 have a_6 := XW.out.has (hc9 ix y9 hy9 6 _ rfl)
 have a_7 := XW.out.has (hc9 ix y9 hy9 7 _ rfl)
 have a_8 := XW.out.has (hc9 ix y9 hy9 8 _ rfl)
 have hf9 := HF.out y9 (List.mem_of_getElem? hy9)
 obtain ⟨aw, ao, aV, aS, aP, aQ, av, ah, an⟩ := y9
 simp only at a_0 a_1 a_2 a_3 a_4 a_5 a_6 a_7 a_8
 rw [Nat.add_zero] at a_0
 rw [← Nat.add_assoc] at a_1 a_2 a_3 a_4 a_5 a_6 a_7 a_8
 have hwn : Word an := hf9.2.2.2.2.2.2.2.2
 have hb9s : ¬ b9 = wr.heap.size := by omega
 have hb9w : b9 < wr.heap.size := by omega
 clear hf9 hc9
 have CSI := Lib.hid (fun (w' : World) (hx : Ext wr w') => (kSameHolding_any CC.length d PP.length d2 CC.length ch PP.length cp B B2 Ah Ap CC PP CC PP w' ((OwnCls.sl HO.out).ext hx) ((OwnPos.sl HP.out).ext hx) (H1.out.ext hx) (H2.out.ext hx)).mono (fun e w'' h => (⟨h.1.trans (by simp), h.2⟩ : e = .returned (.bool true) ∧ Ext w' w'')))
 have HK := Lib.hid (And.intro hix (And.intro hg hz))
 by_cases hr : 0 ≤ aw ∧ aw ≤ 2
 ·obtain ⟨k0, k2⟩ := hr
  obtain ⟨⟨CN, PN, NN, LL, EE⟩, hD⟩ : ∃ z, z = doeV CC PP aw ao aV aS aP aQ av ah an := ⟨_, rfl⟩
  have HD9 := Lib.hid (fun hE => doeV_ok HW.out.1 HW.out.2 hwn k0 k2 hD hE)
  have CD := Lib.hid (fun (w' : World) (hx : Ext wr w') => does13_in d d2 B B2 CC PP aw ao aV aS aP aQ av ah an CN PN NN EE LL w' ((OwnCls.sl HO.out).ext hx) ((OwnPos.sl HP.out).ext hx) (by omega) (by omega) nB nB2 HW.out.1 HW.out.2 hwn k0 k2 hD)
  have CS := Lib.hid (fun (w' : World) (hx : Ext wr w') => should13_in ch cp Ah Ap CC PP aw ao aV aS aP aQ av ah an CN PN NN EE LL w' (H1.out.ext hx) (H2.out.ext hx) (by omega) (by omega) HW.out.1 HW.out.2 hwn k0 k2 hD)
  clear hD hwn hkl hy9 hix hg hz
  go_wp2_with fail
  refine wp_region_held_drew (S := fun w' => w'.cell? ⟨w.heap.size, 0, none⟩ = some (.slice Ah CC.length ch) ∧ w'.cell? ⟨w.heap.size, 1, none⟩ = some (.slice Ap PP.length cp) ∧ w'.cell? ⟨w2.heap.size, 0, none⟩ = some (.slice B CC.length d) ∧ w'.cell? ⟨w2.heap.size, 1, none⟩ = some (.slice B2 PP.length d2)) (by kernel_rfl) (by first | with_reducible exact ⟨h_0, h_1, i_0, i_1⟩ | (simp [go_sem, World.cell?_alloc_past, *]; done)) (fun hHeld => ?_)
  refine' zt 0 ?_
  refine' zt 2 ?_
  refine' zn 1 (fun K hK => ?_)
  go_simp
  (with_reducible refine (CK1.out _ zxt).mono ?_)
  rintro e w11 ⟨rfl, hx11⟩
  replace h_0f := zf hx11 h_0 h_0f
  replace h_1f := zf hx11 h_1 h_1f
  replace h_0 := zh hx11 h_0
  replace h_1 := zh hx11 h_1
  replace i_0f := zf hx11 i_0 i_0f
  replace i_1f := zf hx11 i_1 i_1f
  replace i_0 := zh hx11 i_0
  replace i_1 := zh hx11 i_1
  replace a_0 := zh hx11 a_0
  replace a_1 := zh hx11 a_1
  replace a_2 := zh hx11 a_2
  replace a_3 := zh hx11 a_3
  replace a_4 := zh hx11 a_4
  replace a_5 := zh hx11 a_5
  replace a_6 := zh hx11 a_6
  replace a_7 := zh hx11 a_7
  replace a_8 := zh hx11 a_8
  have z11 := hx11.size
  try simp at z11
  have ne_h_i : ¬ w.heap.size = w2.heap.size := by omega
  have ne_h_a : ¬ w.heap.size = b9 := by omega
  have ne_i_h : ¬ w2.heap.size = w.heap.size := by omega
  have ne_i_a : ¬ w2.heap.size = b9 := by omega
  have ne_a_h : ¬ b9 = w.heap.size := by omega
  have ne_a_i : ¬ b9 = w2.heap.size := by omega
  have rh := zr w.heap.size w11
  have ri := zr w2.heap.size w11
  have ra := zr b9 w11
  have X11 : Hid (Ext wr w11) := Lib.hid (Ext.trans zxt hx11)
  clear hx11
  refine' zk hK zSlTac8_8 (fun hHeld => ?_); clear hK K
  refine' zn 3 (fun K hK => ?_)
  go_simp
  (with_reducible refine (CK2.out _ zxt).mono ?_)
  rintro e w12 ⟨rfl, hx12⟩
  replace h_0f := zf hx12 h_0 h_0f
  replace h_1f := zf hx12 h_1 h_1f
  replace h_0 := zh hx12 h_0
  replace h_1 := zh hx12 h_1
  replace i_0f := zf hx12 i_0 i_0f
  replace i_1f := zf hx12 i_1 i_1f
  replace i_0 := zh hx12 i_0
  replace i_1 := zh hx12 i_1
  replace a_0 := zh hx12 a_0
  replace a_1 := zh hx12 a_1
  replace a_2 := zh hx12 a_2
  replace a_3 := zh hx12 a_3
  replace a_4 := zh hx12 a_4
  replace a_5 := zh hx12 a_5
  replace a_6 := zh hx12 a_6
  replace a_7 := zh hx12 a_7
  replace a_8 := zh hx12 a_8
  have z12 := hx12.size
  try simp at z12
  replace rh := zr w.heap.size w12
  replace ri := zr w2.heap.size w12
  replace ra := zr b9 w12
  have X12 : Hid (Ext wr w12) := Lib.hid (Ext.trans zxt hx12)
  clear X11 hx12
  refine' zk hK zSlTac8_8 (fun hHeld => ?_); clear hK K
  refine' zt 4 ?_
  refine wpAnyH_done (by kernel_rfl) ?_ _
  have hnhx : ¬ w.heap.size = w12.heap.size := by omega
  have hnix : ¬ w2.heap.size = w12.heap.size := by omega
  have hlhx : w.heap.size < w12.heap.size := by omega
  have hlix : w2.heap.size < w12.heap.size := by omega
  have hb9x : ¬ b9 = w12.heap.size := by omega
  have hb9y : b9 < w12.heap.size := by omega
  go_wp2_with fail
  go_cut [7, 8, 9, 10] (fun q7 v8 v9 v10 wx => ActsCut w12 wx CN PN LL NN EE q7 v8 v9 v10)
  case first =>
   go_wp2_with fail
   refine wp_region_held_drew (S := fun w' => w'.cell? ⟨b9, o9 + ix * 9, none⟩ = some (.int .i64 aw) ∧ w'.cell? ⟨b9, o9 + ix * 9 + 1, none⟩ = some (.int .i64 ao) ∧ w'.cell? ⟨b9, o9 + ix * 9 + 2, none⟩ = some (.int .i64 aV) ∧ w'.cell? ⟨b9, o9 + ix * 9 + 3, none⟩ = some (.int .i64 aS) ∧ w'.cell? ⟨b9, o9 + ix * 9 + 4, none⟩ = some (.int .i64 aP) ∧ w'.cell? ⟨b9, o9 + ix * 9 + 5, none⟩ = some (.int .i64 aQ) ∧ w'.cell? ⟨b9, o9 + ix * 9 + 6, none⟩ = some (.int .i64 av) ∧ w'.cell? ⟨b9, o9 + ix * 9 + 7, none⟩ = some (.int .i64 ah) ∧ w'.cell? ⟨b9, o9 + ix * 9 + 8, none⟩ = some (.int .u64 an) ∧ w'.cell? ⟨w2.heap.size, 0, none⟩ = some (.slice B CC.length d) ∧ w'.cell? ⟨w2.heap.size, 1, none⟩ = some (.slice B2 PP.length d2)) (by kernel_rfl) (by first | with_reducible exact ⟨a_0, a_1, a_2, a_3, a_4, a_5, a_6, a_7, a_8, i_0, i_1⟩ | (simp [go_sem, World.cell?_alloc_past, *]; done)) (fun hHeld => ?_)
   refine' zt 0 ?_
   refine' zt 1 ?_
   refine' zt 2 ?_
   refine' zt 3 ?_
   refine' zt 4 ?_
   refine' next2_in 5 11 rfl rfl (by kernel_rfl) (by rfl) (by rfl) (fun K hK => ?_) (fun K hK => ?_)
   ·go_simp
    (with_reducible refine (CD.out _ (Ext.trans X12.out zxt)).mono ?_)
    rintro e w13 ⟨B3, d3, B4, d4, A9, c9, rfl, nB3, nB4, hO3, hO4, hO9, hx13⟩
    replace i_0 := zh hx13 i_0
    replace i_1 := zh hx13 i_1
    replace a_0 := zh hx13 a_0
    replace a_1 := zh hx13 a_1
    replace a_2 := zh hx13 a_2
    replace a_3 := zh hx13 a_3
    replace a_4 := zh hx13 a_4
    replace a_5 := zh hx13 a_5
    replace a_6 := zh hx13 a_6
    replace a_7 := zh hx13 a_7
    replace a_8 := zh hx13 a_8
    have z13 := hx13.size
    try simp at z13
    have ne_i_a : ¬ w2.heap.size = b9 := by omega
    have ne_a_i : ¬ b9 = w2.heap.size := by omega
    have ri := zr w2.heap.size w13
    have ra := zr b9 w13
    have X13 : Hid (Ext w12 w13) := Lib.hid (Ext.trans zxt hx13)
    have HA := Lib.hid (show OwnCls _ w12.heap.size _ _ _ from own_lower hO3 zSlTac8_7)
    have HB := Lib.hid (show OwnPos _ w12.heap.size _ _ _ from own_lower hO4 zSlTac8_7)
    have HL := Lib.hid (show OwnLoss _ w12.heap.size _ _ _ from own_lower hO9 zSlTac8_7)
    clear h_1 h_0 h_0f h_1f i_1f i_0f hx13
    have RA := Lib.hid (own_rng hO3)
    have RB := Lib.hid (own_rng hO4)
    have RL := Lib.hid (own_rng hO9)
    clear hO3 hO4 hO9
    refine' zk hK zSlTac8_6 (fun hHeld => ?_); clear hK K
    refine' zt 6 ?_
    refine' zt 7 ?_
    refine' zt 8 ?_
    refine' zt 9 ?_
    refine' zt 10 ?_
    refine' zn 11 (fun K hK => ?_)
    go_simp
    refine' zk hK zSlTac8_6 (fun hHeld => ?_); clear hK K
    refine' zn 12 (fun K hK => ?_)
    go_simp
    refine' zk hK zSlTac8_6 (fun hHeld => ?_); clear hK K
    refine' zt 13 ?_
    refine' zt 14 ?_
    refine' zt 15 ?_
    refine wpAnyH_done (by kernel_rfl) ?_ _
    go_wp2_with fail
    go_meet
    exact ⟨_, B3, B4, A9, d3, d4, c9, rfl, rfl, rfl, rfl, nB3, nB4, zcv, zcv, Lib.hid (show OwnCls _ (w12.heap.size) (.slice B3 CN.length d3) CN.length CN from zSlTac8_1), Lib.hid (show OwnPos _ (w12.heap.size) (.slice B4 PN.length d4) PN.length PN from zSlTac8_0), Lib.hid (show OwnLoss _ (w12.heap.size) (.slice A9 LL.length c9) LL.length LL from zSlTac8_2), Lib.hid (fun j hj => by have h9 := RL.out j hj; (try simp only [World.size_alloc] at h9); first | omega | (simp at h9; omega) | (simp [go_sem] at h9; omega)), by first | omega | (simp; done) | (simp; omega), by first | omega | (simp; done) | (simp; omega), zxt⟩
   go_simp
   refine' zk hK zSlTac8_6 (fun hHeld => ?_); clear hK K
   refine' zn 5 (fun K hK => ?_)
   go_simp
   (with_reducible refine (CD.out _ (Ext.trans X12.out zxt)).mono ?_)
   rintro e w13 ⟨B3, d3, B4, d4, A9, c9, rfl, nB3, nB4, hO3, hO4, hO9, hx13⟩
   replace i_0 := zh hx13 i_0
   replace i_1 := zh hx13 i_1
   replace a_0 := zh hx13 a_0
   replace a_1 := zh hx13 a_1
   replace a_2 := zh hx13 a_2
   replace a_3 := zh hx13 a_3
   replace a_4 := zh hx13 a_4
   replace a_5 := zh hx13 a_5
   replace a_6 := zh hx13 a_6
   replace a_7 := zh hx13 a_7
   replace a_8 := zh hx13 a_8
   have c0_0f : w13.frozen? ⟨w12.heap.size, 0, none⟩ = false := hx13.froz (v := .slice none 0 0) zcv zcv
   have c0_1f : w13.frozen? ⟨w12.heap.size, 1, none⟩ = false := hx13.froz (v := .slice none 0 0) zcv zcv
   have c0_0 : w13.cell? ⟨w12.heap.size, 0, none⟩ = some (.slice none 0 0) := hx13.has zcv
   have c0_1 : w13.cell? ⟨w12.heap.size, 1, none⟩ = some (.slice none 0 0) := hx13.has zcv
   have z13 := hx13.size
   try simp at z13
   have ne_i_a : ¬ w2.heap.size = b9 := by omega
   have lt_i_c0 := zl w2.heap.size w12.heap.size
   have ne_a_i : ¬ b9 = w2.heap.size := by omega
   have lt_a_c0 := zl b9 w12.heap.size
   have ri := zr w2.heap.size w13
   have ra := zr b9 w13
   have rc0 := zr w12.heap.size w13
   have X13 : Hid (Ext w12 w13) := Lib.hid (Ext.trans zxt hx13)
   have HA := Lib.hid (show OwnCls _ w12.heap.size _ _ _ from own_lower hO3 zSlTac8_7)
   have HB := Lib.hid (show OwnPos _ w12.heap.size _ _ _ from own_lower hO4 zSlTac8_7)
   have HL := Lib.hid (show OwnLoss _ w12.heap.size _ _ _ from own_lower hO9 zSlTac8_7)
   clear h_1 h_0 h_0f h_1f i_1f i_0f hx13
   have RA := Lib.hid (own_rng hO3)
   have RB := Lib.hid (own_rng hO4)
   have RL := Lib.hid (own_rng hO9)
   clear hO3 hO4 hO9
   refine' zk hK zSlTac8_6 (fun hHeld => ?_); clear hK K
   refine' zt 6 ?_
   refine' zt 7 ?_
   refine' zt 8 ?_
   refine' zt 9 ?_
   refine' zt 10 ?_
   refine' zn 12 (fun K hK => ?_)
   go_simp
   refine' zk hK zSlTac8_6 (fun hHeld => ?_); clear hK K
   refine' zt 13 ?_
   refine' zt 14 ?_
   refine' zt 15 ?_
   refine wpAnyH_done (by kernel_rfl) ?_ _
   go_wp2_with fail
   go_meet
   exact ⟨_, B3, B4, A9, d3, d4, c9, rfl, rfl, rfl, rfl, nB3, nB4, zcv, zcv, Lib.hid (show OwnCls _ (w12.heap.size) (.slice B3 CN.length d3) CN.length CN from zSlTac8_1), Lib.hid (show OwnPos _ (w12.heap.size) (.slice B4 PN.length d4) PN.length PN from zSlTac8_0), Lib.hid (show OwnLoss _ (w12.heap.size) (.slice A9 LL.length c9) LL.length LL from zSlTac8_2), Lib.hid (fun j hj => by have h9 := RL.out j hj; (try simp only [World.size_alloc] at h9); first | omega | (simp at h9; omega) | (simp [go_sem] at h9; omega)), by first | omega | (simp; done) | (simp; omega), by first | omega | (simp; done) | (simp; omega), zxt⟩
  clear CD hnhx hnix hlhx hlix hb9x hb9y
  obtain ⟨qa, B3, B4, A9, d3, d4, c9, rfl, rfl, rfl, rfl, nB3, nB4, p_0, p_1, HA, HB, HL, NL, hqa, hqw, hX⟩ := hcut
  obtain ⟨wd, hwn⟩ : ∃ x, x = wc := ⟨_, rfl⟩
  subst hwn
  have X80 := Lib.hid (Ext.trans X12.out hX)
  have hzwd := hX.size
  replace h_0f := hX.froz h_0 h_0f
  replace h_0 := hX.has h_0
  replace h_1f := hX.froz h_1 h_1f
  replace h_1 := hX.has h_1
  replace i_0f := hX.froz i_0 i_0f
  replace i_0 := hX.has i_0
  replace i_1f := hX.froz i_1 i_1f
  replace i_1 := hX.has i_1
  replace a_0 := hX.has a_0
  replace a_1 := hX.has a_1
  replace a_2 := hX.has a_2
  replace a_3 := hX.has a_3
  replace a_4 := hX.has a_4
  replace a_5 := hX.has a_5
  replace a_6 := hX.has a_6
  replace a_7 := hX.has a_7
  replace a_8 := hX.has a_8
  clear hX X12
  have RA := Lib.hid (own_rng HA.out)
  have RB := Lib.hid (own_rng HB.out)
  have RL := Lib.hid (own_rng HL.out)
  have hnhx : ¬ w.heap.size = wd.heap.size := by omega
  have hnix : ¬ w2.heap.size = wd.heap.size := by omega
  have hlhx : w.heap.size < wd.heap.size := by omega
  have hlix : w2.heap.size < wd.heap.size := by omega
  have hb9x : ¬ b9 = wd.heap.size := by omega
  have hb9y : b9 < wd.heap.size := by omega
  go_wp2_with fail
  go_cut [11, 12, 13, 14] (fun q7 v8 v9 v10 wx => ActsCut wd wx CN PN LL NN EE q7 v8 v9 v10)
  case first =>
   go_wp2_with fail
   refine wp_region_held_drew (S := fun w' => w'.cell? ⟨b9, o9 + ix * 9, none⟩ = some (.int .i64 aw) ∧ w'.cell? ⟨b9, o9 + ix * 9 + 1, none⟩ = some (.int .i64 ao) ∧ w'.cell? ⟨b9, o9 + ix * 9 + 2, none⟩ = some (.int .i64 aV) ∧ w'.cell? ⟨b9, o9 + ix * 9 + 3, none⟩ = some (.int .i64 aS) ∧ w'.cell? ⟨b9, o9 + ix * 9 + 4, none⟩ = some (.int .i64 aP) ∧ w'.cell? ⟨b9, o9 + ix * 9 + 5, none⟩ = some (.int .i64 aQ) ∧ w'.cell? ⟨b9, o9 + ix * 9 + 6, none⟩ = some (.int .i64 av) ∧ w'.cell? ⟨b9, o9 + ix * 9 + 7, none⟩ = some (.int .i64 ah) ∧ w'.cell? ⟨b9, o9 + ix * 9 + 8, none⟩ = some (.int .u64 an) ∧ w'.cell? ⟨w.heap.size, 0, none⟩ = some (.slice Ah CC.length ch) ∧ w'.cell? ⟨w.heap.size, 1, none⟩ = some (.slice Ap PP.length cp)) (by kernel_rfl) zSlTac8_13 (fun hHeld => ?_)
   refine' zt 0 ?_
   refine' zt 1 ?_
   refine' zt 2 ?_
   refine' zt 3 ?_
   refine' zt 4 ?_
   refine' next2_in 5 11 rfl rfl (by kernel_rfl) (by rfl) (by rfl) (fun K hK => ?_) (fun K hK => ?_)
   ·go_simp
    (with_reducible refine (CS.out _ (Ext.trans X80.out zxt)).mono ?_)
    rintro e w33 ⟨B3, d3, B4, d4, A9, c9, rfl, nB3, nB4, hO3, hO4, hO9, hx33⟩
    replace h_0 := zh hx33 h_0
    replace h_1 := zh hx33 h_1
    replace a_0 := zh hx33 a_0
    replace a_1 := zh hx33 a_1
    replace a_2 := zh hx33 a_2
    replace a_3 := zh hx33 a_3
    replace a_4 := zh hx33 a_4
    replace a_5 := zh hx33 a_5
    replace a_6 := zh hx33 a_6
    replace a_7 := zh hx33 a_7
    replace a_8 := zh hx33 a_8
    have z33 := hx33.size
    try simp at z33
    have ne_h_a : ¬ w.heap.size = b9 := by omega
    have ne_a_h : ¬ b9 = w.heap.size := by omega
    have rh := zr w.heap.size w33
    have ra := zr b9 w33
    have X33 : Hid (Ext wd w33) := Lib.hid (Ext.trans zxt hx33)
    have HA := Lib.hid (show OwnCls _ wd.heap.size _ _ _ from own_lower hO3 zSlTac8_7)
    have HB := Lib.hid (show OwnPos _ wd.heap.size _ _ _ from own_lower hO4 zSlTac8_7)
    have HL := Lib.hid (show OwnLoss _ wd.heap.size _ _ _ from own_lower hO9 zSlTac8_7)
    clear h_0f h_1f i_1f i_0f i_0 i_1 hx33
    have RA := Lib.hid (own_rng hO3)
    have RB := Lib.hid (own_rng hO4)
    have RL := Lib.hid (own_rng hO9)
    clear hO3 hO4 hO9
    refine' zk hK zSlTac8_5 (fun hHeld => ?_); clear hK K
    refine' zt 6 ?_
    refine' zt 7 ?_
    refine' zt 8 ?_
    refine' zt 9 ?_
    refine' zt 10 ?_
    refine' zn 11 (fun K hK => ?_)
    go_simp
    refine' zk hK zSlTac8_5 (fun hHeld => ?_); clear hK K
    refine' zn 12 (fun K hK => ?_)
    go_simp
    refine' zk hK zSlTac8_5 (fun hHeld => ?_); clear hK K
    refine' zt 13 ?_
    refine' zt 14 ?_
    refine' zt 15 ?_
    refine wpAnyH_done (by kernel_rfl) ?_ _
    go_wp2_with fail
    go_meet
    exact ⟨_, B3, B4, A9, d3, d4, c9, rfl, rfl, rfl, rfl, nB3, nB4, zcv, zcv, Lib.hid (show OwnCls _ (wd.heap.size) (.slice B3 CN.length d3) CN.length CN from zSlTac8_12), Lib.hid (show OwnPos _ (wd.heap.size) (.slice B4 PN.length d4) PN.length PN from zSlTac8_11), Lib.hid (show OwnLoss _ (wd.heap.size) (.slice A9 LL.length c9) LL.length LL from zSlTac8_10), Lib.hid (fun j hj => by have h9 := RL.out j hj; (try simp only [World.size_alloc] at h9); first | omega | (simp at h9; omega) | (simp [go_sem] at h9; omega)), by first | omega | (simp; done) | (simp; omega), by first | omega | (simp; done) | (simp; omega), zxt⟩
   go_simp
   refine' zk hK zSlTac8_5 (fun hHeld => ?_); clear hK K
   refine' zn 5 (fun K hK => ?_)
   go_simp
   (with_reducible refine (CS.out _ (Ext.trans X80.out zxt)).mono ?_)
   rintro e w33 ⟨B3, d3, B4, d4, A9, c9, rfl, nB3, nB4, hO3, hO4, hO9, hx33⟩
   replace h_0 := zh hx33 h_0
   replace h_1 := zh hx33 h_1
   replace a_0 := zh hx33 a_0
   replace a_1 := zh hx33 a_1
   replace a_2 := zh hx33 a_2
   replace a_3 := zh hx33 a_3
   replace a_4 := zh hx33 a_4
   replace a_5 := zh hx33 a_5
   replace a_6 := zh hx33 a_6
   replace a_7 := zh hx33 a_7
   replace a_8 := zh hx33 a_8
   have c0_0f : w33.frozen? ⟨wd.heap.size, 0, none⟩ = false := hx33.froz (v := .slice none 0 0) zcv zcv
   have c0_1f : w33.frozen? ⟨wd.heap.size, 1, none⟩ = false := hx33.froz (v := .slice none 0 0) zcv zcv
   have c0_0 : w33.cell? ⟨wd.heap.size, 0, none⟩ = some (.slice none 0 0) := hx33.has zcv
   have c0_1 : w33.cell? ⟨wd.heap.size, 1, none⟩ = some (.slice none 0 0) := hx33.has zcv
   have z33 := hx33.size
   try simp at z33
   have ne_h_a : ¬ w.heap.size = b9 := by omega
   have lt_h_c0 := zl w.heap.size wd.heap.size
   have ne_a_h : ¬ b9 = w.heap.size := by omega
   have lt_a_c0 := zl b9 wd.heap.size
   have rh := zr w.heap.size w33
   have ra := zr b9 w33
   have rc0 := zr wd.heap.size w33
   have X33 : Hid (Ext wd w33) := Lib.hid (Ext.trans zxt hx33)
   have HA := Lib.hid (show OwnCls _ wd.heap.size _ _ _ from own_lower hO3 zSlTac8_7)
   have HB := Lib.hid (show OwnPos _ wd.heap.size _ _ _ from own_lower hO4 zSlTac8_7)
   have HL := Lib.hid (show OwnLoss _ wd.heap.size _ _ _ from own_lower hO9 zSlTac8_7)
   clear h_0f h_1f i_1f i_0f i_0 i_1 hx33
   have RA := Lib.hid (own_rng hO3)
   have RB := Lib.hid (own_rng hO4)
   have RL := Lib.hid (own_rng hO9)
   clear hO3 hO4 hO9
   refine' zk hK zSlTac8_5 (fun hHeld => ?_); clear hK K
   refine' zt 6 ?_
   refine' zt 7 ?_
   refine' zt 8 ?_
   refine' zt 9 ?_
   refine' zt 10 ?_
   refine' zn 12 (fun K hK => ?_)
   go_simp
   refine' zk hK zSlTac8_5 (fun hHeld => ?_); clear hK K
   refine' zt 13 ?_
   refine' zt 14 ?_
   refine' zt 15 ?_
   refine wpAnyH_done (by kernel_rfl) ?_ _
   go_wp2_with fail
   go_meet
   exact ⟨_, B3, B4, A9, d3, d4, c9, rfl, rfl, rfl, rfl, nB3, nB4, zcv, zcv, Lib.hid (show OwnCls _ (wd.heap.size) (.slice B3 CN.length d3) CN.length CN from zSlTac8_12), Lib.hid (show OwnPos _ (wd.heap.size) (.slice B4 PN.length d4) PN.length PN from zSlTac8_11), Lib.hid (show OwnLoss _ (wd.heap.size) (.slice A9 LL.length c9) LL.length LL from zSlTac8_10), Lib.hid (fun j hj => by have h9 := RL.out j hj; (try simp only [World.size_alloc] at h9); first | omega | (simp at h9; omega) | (simp [go_sem] at h9; omega)), by first | omega | (simp; done) | (simp; omega), by first | omega | (simp; done) | (simp; omega), zxt⟩
  clear CS hnhx hnix hlhx hlix hb9x hb9y
  obtain ⟨qb, B5, B6, A10, d5, d6, c10, rfl, rfl, rfl, rfl, nB5, nB6, q_0, q_1, HC, HD, HM, NM, hqb, hqbw, hX⟩ := hcut
  obtain ⟨we, hwn⟩ : ∃ x, x = wc := ⟨_, rfl⟩
  subst hwn
  have X81 := Lib.hid (Ext.trans X80.out hX)
  have hzwe := hX.size
  replace h_0f := hX.froz h_0 h_0f
  replace h_0 := hX.has h_0
  replace h_1f := hX.froz h_1 h_1f
  replace h_1 := hX.has h_1
  replace i_0f := hX.froz i_0 i_0f
  replace i_0 := hX.has i_0
  replace i_1f := hX.froz i_1 i_1f
  replace i_1 := hX.has i_1
  replace a_0 := hX.has a_0
  replace a_1 := hX.has a_1
  replace a_2 := hX.has a_2
  replace a_3 := hX.has a_3
  replace a_4 := hX.has a_4
  replace a_5 := hX.has a_5
  replace a_6 := hX.has a_6
  replace a_7 := hX.has a_7
  replace a_8 := hX.has a_8
  replace p_0 := hX.has p_0
  replace p_1 := hX.has p_1
  replace HA := Lib.hid (OwnCls.ext HA.out hX)
  replace HB := Lib.hid (OwnPos.ext HB.out hX)
  replace HL := Lib.hid (OwnLoss.ext HL.out hX)
  clear hX X80
  have RC := Lib.hid (own_rng HC.out)
  have RD := Lib.hid (own_rng HD.out)
  have RM := Lib.hid (own_rng HM.out)
  have hnhx : ¬ w.heap.size = we.heap.size := by omega
  have hnix : ¬ w2.heap.size = we.heap.size := by omega
  have hlhx : w.heap.size < we.heap.size := by omega
  have hlix : w2.heap.size < we.heap.size := by omega
  have hb9x : ¬ b9 = we.heap.size := by omega
  have hb9y : b9 < we.heap.size := by omega
  have hpw : ¬ qa = we.heap.size := by omega
  have hqw2 : ¬ qb = we.heap.size := by omega
  go_wp2_with fail
  (refine (((kSameHolding_any CN.length d3 PN.length d4 CN.length d5 PN.length d6 B3 B4 B5 B6 CN PN CN PN _ (OwnCls.sl (show OwnCls _ (w12.heap.size) (.slice B3 CN.length d3) CN.length CN from zSlTac8_1)) (OwnPos.sl (show OwnPos _ (w12.heap.size) (.slice B4 PN.length d4) PN.length PN from zSlTac8_0)) (OwnCls.sl (show OwnCls _ (wd.heap.size) (.slice B5 CN.length d5) CN.length CN from zSlTac8_4)) (OwnPos.sl (show OwnPos _ (wd.heap.size) (.slice B6 PN.length d6) PN.length PN from zSlTac8_3))).mono (fun e w' h => (⟨h.1.trans (by simp), h.2⟩ : e = .returned (.bool true) ∧ Ext _ w')))).mono ?_)
  rintro e w53 ⟨rfl, hx53⟩
  replace h_0f := zf hx53 h_0 h_0f
  replace h_1f := zf hx53 h_1 h_1f
  replace h_0 := zh hx53 h_0
  replace h_1 := zh hx53 h_1
  replace i_0f := zf hx53 i_0 i_0f
  replace i_1f := zf hx53 i_1 i_1f
  replace i_0 := zh hx53 i_0
  replace i_1 := zh hx53 i_1
  replace a_0 := zh hx53 a_0
  replace p_0 := zh hx53 p_0
  replace p_1 := zh hx53 p_1
  replace q_0 := zh hx53 q_0
  replace q_1 := zh hx53 q_1
  have z53 := hx53.size
  try simp at z53
  have ne_h_i : ¬ w.heap.size = w2.heap.size := by omega
  have ne_h_a : ¬ w.heap.size = b9 := by omega
  have ne_h_p : ¬ w.heap.size = qa := by omega
  have ne_h_q : ¬ w.heap.size = qb := by omega
  have ne_i_h : ¬ w2.heap.size = w.heap.size := by omega
  have ne_i_a : ¬ w2.heap.size = b9 := by omega
  have ne_i_p : ¬ w2.heap.size = qa := by omega
  have ne_i_q : ¬ w2.heap.size = qb := by omega
  have ne_a_h : ¬ b9 = w.heap.size := by omega
  have ne_a_i : ¬ b9 = w2.heap.size := by omega
  have ne_a_p : ¬ b9 = qa := by omega
  have ne_a_q : ¬ b9 = qb := by omega
  have ne_p_h : ¬ qa = w.heap.size := by omega
  have ne_p_i : ¬ qa = w2.heap.size := by omega
  have ne_p_a : ¬ qa = b9 := by omega
  have ne_p_q : ¬ qa = qb := by omega
  have ne_q_h : ¬ qb = w.heap.size := by omega
  have ne_q_i : ¬ qb = w2.heap.size := by omega
  have ne_q_a : ¬ qb = b9 := by omega
  have ne_q_p : ¬ qb = qa := by omega
  have rh := zr w.heap.size w53
  have ri := zr w2.heap.size w53
  have ra := zr b9 w53
  have rp := zr qa w53
  have rq := zr qb w53
  replace HA := Lib.hid ((show OwnCls _ (w12.heap.size) (.slice B3 CN.length d3) CN.length CN from zSlTac8_1).ext hx53)
  replace HB := Lib.hid ((show OwnPos _ (w12.heap.size) (.slice B4 PN.length d4) PN.length PN from zSlTac8_0).ext hx53)
  replace HL := Lib.hid ((show OwnLoss _ (w12.heap.size) (.slice A9 LL.length c9) LL.length LL from zSlTac8_2).ext hx53)
  replace HC := Lib.hid ((show OwnCls _ (wd.heap.size) (.slice B5 CN.length d5) CN.length CN from zSlTac8_4).ext hx53)
  replace HD := Lib.hid ((show OwnPos _ (wd.heap.size) (.slice B6 PN.length d6) PN.length PN from zSlTac8_3).ext hx53)
  replace HM := Lib.hid ((show OwnLoss _ (wd.heap.size) (.slice A10 LL.length c10) LL.length LL from zSlTac8_9).ext hx53)
  have X53 : Hid (Ext wr w53) := Lib.hid (Ext.trans zxt hx53)
  clear a_1 a_4 a_5 a_8 a_7 a_3 a_6 a_2 X81 hx53
  go_wp2_with fail
  (refine (((kSameLosses_any A9 A10 LL.length c9 LL.length c10 LL LL _ (OwnLoss.sl (show OwnLoss _ (w12.heap.size) (.slice A9 LL.length c9) LL.length LL from zSlTac8_2)) (OwnLoss.sl (show OwnLoss _ (wd.heap.size) (.slice A10 LL.length c10) LL.length LL from zSlTac8_9))).mono (fun e w' h => (⟨h.1.trans (by simp), h.2⟩ : e = .returned (.bool true) ∧ Ext _ w')))).mono ?_)
  rintro e w54 ⟨rfl, hx54⟩
  replace h_0f := zf hx54 h_0 h_0f
  replace h_1f := zf hx54 h_1 h_1f
  replace h_0 := zh hx54 h_0
  replace h_1 := zh hx54 h_1
  replace i_0f := zf hx54 i_0 i_0f
  replace i_1f := zf hx54 i_1 i_1f
  replace i_0 := zh hx54 i_0
  replace i_1 := zh hx54 i_1
  replace a_0 := zh hx54 a_0
  replace p_0 := zh hx54 p_0
  replace p_1 := zh hx54 p_1
  replace q_0 := zh hx54 q_0
  replace q_1 := zh hx54 q_1
  have z54 := hx54.size
  try simp at z54
  replace rh := zr w.heap.size w54
  replace ri := zr w2.heap.size w54
  replace ra := zr b9 w54
  replace rp := zr qa w54
  replace rq := zr qb w54
  replace HA := Lib.hid ((show OwnCls _ (w12.heap.size) (.slice B3 CN.length d3) CN.length CN from zSlTac8_1).ext hx54)
  replace HB := Lib.hid ((show OwnPos _ (w12.heap.size) (.slice B4 PN.length d4) PN.length PN from zSlTac8_0).ext hx54)
  replace HL := Lib.hid ((show OwnLoss _ (w12.heap.size) (.slice A9 LL.length c9) LL.length LL from zSlTac8_2).ext hx54)
  replace HC := Lib.hid ((show OwnCls _ (wd.heap.size) (.slice B5 CN.length d5) CN.length CN from zSlTac8_4).ext hx54)
  replace HD := Lib.hid ((show OwnPos _ (wd.heap.size) (.slice B6 PN.length d6) PN.length PN from zSlTac8_3).ext hx54)
  have X54 : Hid (Ext wr w54) := Lib.hid (Ext.trans zxt hx54)
  clear HM X53 hx54
  go_wp2_with fail
  (with_reducible refine (CSI.out _ zxt).mono ?_)
  rintro e w55 ⟨rfl, hx55⟩
  replace h_0f := zf hx55 h_0 h_0f
  replace h_1f := zf hx55 h_1 h_1f
  replace h_0 := zh hx55 h_0
  replace h_1 := zh hx55 h_1
  replace i_0f := zf hx55 i_0 i_0f
  replace i_1f := zf hx55 i_1 i_1f
  replace i_0 := zh hx55 i_0
  replace i_1 := zh hx55 i_1
  replace a_0 := zh hx55 a_0
  replace p_0 := zh hx55 p_0
  replace p_1 := zh hx55 p_1
  replace q_0 := zh hx55 q_0
  replace q_1 := zh hx55 q_1
  have z55 := hx55.size
  try simp at z55
  replace rh := zr w.heap.size w55
  replace ri := zr w2.heap.size w55
  replace ra := zr b9 w55
  replace rp := zr qa w55
  replace rq := zr qb w55
  replace HA := Lib.hid ((show OwnCls _ (w12.heap.size) (.slice B3 CN.length d3) CN.length CN from zSlTac8_1).ext hx55)
  replace HB := Lib.hid ((show OwnPos _ (w12.heap.size) (.slice B4 PN.length d4) PN.length PN from zSlTac8_0).ext hx55)
  replace HL := Lib.hid ((show OwnLoss _ (w12.heap.size) (.slice A9 LL.length c9) LL.length LL from zSlTac8_2).ext hx55)
  replace HC := Lib.hid ((show OwnCls _ (wd.heap.size) (.slice B5 CN.length d5) CN.length CN from zSlTac8_4).ext hx55)
  replace HD := Lib.hid ((show OwnPos _ (wd.heap.size) (.slice B6 PN.length d6) PN.length PN from zSlTac8_3).ext hx55)
  have X55 : Hid (Ext wr w55) := Lib.hid (Ext.trans zxt hx55)
  clear X54 hx55
  go_wp2_with fail
  (refine (kOverLosses_own A9 c9 LL w12.heap.size _ (show OwnLoss _ (w12.heap.size) (.slice A9 LL.length c9) LL.length LL from zSlTac8_2)).mono ?_)
  rintro e w56 ⟨⟨vv, rfl⟩, hx56⟩
  have hsz56 := hx56.size
  try simp at hsz56
  replace h_0f : w56.frozen? ⟨w.heap.size, 0, none⟩ = false := hx56.froz (fun ⟨o, s, e⟩ => by have h9 := RL.out _ (by rw [e]; rfl); (try dsimp only at h9); first | omega | exact NL.out _ (by rw [e]; rfl) rfl) (v := .slice Ah CC.length ch) zcv zcv
  replace h_1f : w56.frozen? ⟨w.heap.size, 1, none⟩ = false := hx56.froz (fun ⟨o, s, e⟩ => by have h9 := RL.out _ (by rw [e]; rfl); (try dsimp only at h9); first | omega | exact NL.out _ (by rw [e]; rfl) rfl) (v := .slice Ap PP.length cp) zcv zcv
  replace h_0 := zhb hx56 h_0 (ne := (fun ⟨o, s, e⟩ => by have h9 := RL.out _ (by rw [e]; rfl); (try dsimp only at h9); first | omega | exact NL.out _ (by rw [e]; rfl) rfl))
  replace h_1 := zhb hx56 h_1 (ne := (fun ⟨o, s, e⟩ => by have h9 := RL.out _ (by rw [e]; rfl); (try dsimp only at h9); first | omega | exact NL.out _ (by rw [e]; rfl) rfl))
  replace i_0f : w56.frozen? ⟨w2.heap.size, 0, none⟩ = false := hx56.froz (fun ⟨o, s, e⟩ => by have h9 := RL.out _ (by rw [e]; rfl); (try dsimp only at h9); first | omega | exact NL.out _ (by rw [e]; rfl) rfl) (v := .slice B CC.length d) zcv zcv
  replace i_1f : w56.frozen? ⟨w2.heap.size, 1, none⟩ = false := hx56.froz (fun ⟨o, s, e⟩ => by have h9 := RL.out _ (by rw [e]; rfl); (try dsimp only at h9); first | omega | exact NL.out _ (by rw [e]; rfl) rfl) (v := .slice B2 PP.length d2) zcv zcv
  replace i_0 := zhb hx56 i_0 (ne := (fun ⟨o, s, e⟩ => by have h9 := RL.out _ (by rw [e]; rfl); (try dsimp only at h9); first | omega | exact NL.out _ (by rw [e]; rfl) rfl))
  replace i_1 := zhb hx56 i_1 (ne := (fun ⟨o, s, e⟩ => by have h9 := RL.out _ (by rw [e]; rfl); (try dsimp only at h9); first | omega | exact NL.out _ (by rw [e]; rfl) rfl))
  replace a_0 := zhb hx56 a_0 (ne := (fun ⟨o, s, e⟩ => by have h9 := RL.out _ (by rw [e]; rfl); (try dsimp only at h9); first | omega | exact NL.out _ (by rw [e]; rfl) rfl))
  replace p_0 := zhb hx56 p_0 (ne := (fun ⟨o, s, e⟩ => by have h9 := RL.out _ (by rw [e]; rfl); (try dsimp only at h9); first | omega | exact NL.out _ (by rw [e]; rfl) rfl))
  replace p_1 := zhb hx56 p_1 (ne := (fun ⟨o, s, e⟩ => by have h9 := RL.out _ (by rw [e]; rfl); (try dsimp only at h9); first | omega | exact NL.out _ (by rw [e]; rfl) rfl))
  replace q_0 := zhb hx56 q_0 (ne := (fun ⟨o, s, e⟩ => by have h9 := RL.out _ (by rw [e]; rfl); (try dsimp only at h9); first | omega | exact NL.out _ (by rw [e]; rfl) rfl))
  replace q_1 := zhb hx56 q_1 (ne := (fun ⟨o, s, e⟩ => by have h9 := RL.out _ (by rw [e]; rfl); (try dsimp only at h9); first | omega | exact NL.out _ (by rw [e]; rfl) rfl))
  have z56 := hx56.size
  try simp at z56
  replace rh := zr w.heap.size w56
  replace ri := zr w2.heap.size w56
  replace ra := zr b9 w56
  replace rp := zr qa w56
  replace rq := zr qb w56
  have X56 : Hid (Ext wr w56) := Lib.hid (have hX := (show Ext wr _ from zxt); Below.trans hX (hx56.below (Ext.size hX) (fun k hk ⟨o, s, e⟩ => by have h9 := RL.out _ (by rw [e]; rfl); (try dsimp only at h9); omega)))
  replace HA := Lib.hid ((HA.out.ext zxt).but hx56 (fun j hj ⟨o, s, e⟩ => own_apart HA.out HL.out (fun e9 => loss_cls e9.symm) j hj (by rw [e]; rfl)))
  replace HB := Lib.hid ((HB.out.ext zxt).but hx56 (fun j hj ⟨o, s, e⟩ => own_apart HB.out HL.out (fun e9 => loss_pos e9.symm) j hj (by rw [e]; rfl)))
  replace HC := Lib.hid ((HC.out.ext zxt).but hx56 (fun j hj ⟨o, s, e⟩ => own_apart HC.out HL.out (fun e9 => loss_cls e9.symm) j hj (by rw [e]; rfl)))
  replace HD := Lib.hid ((HD.out.ext zxt).but hx56 (fun j hj ⟨o, s, e⟩ => own_apart HD.out HL.out (fun e9 => loss_pos e9.symm) j hj (by rw [e]; rfl)))
  clear HL hsz56 X55 hx56
  by_cases hE : EE = 0
  ·subst hE
   go_wp2_with fail
   have XV := Lib.hid (Ext.trans XW.out zxt)
   (refine (kOverHolding_own CC.length d PP.length d2 B B2 CC PP (w.heap.size + 1) _ (OwnCls.ext HO.out zxt) (OwnPos.ext HP.out zxt)).mono ?_)
   rintro e w57 ⟨⟨vv, rfl⟩, hx57⟩
   have hsz57 := hx57.size
   try simp at hsz57
   replace h_0f : w57.frozen? ⟨w.heap.size, 0, none⟩ = false := hx57.froz (fun hh => by rcases hh with ⟨o, s, e⟩ | ⟨o, s, e⟩ <;> first | (have h9 := RI.out _ (by rw [e]; rfl); (try dsimp only at h9); omega) | (have h9 := RJ.out _ (by rw [e]; rfl); (try dsimp only at h9); omega) | exact NQ.out _ (by rw [e]; rfl) rfl | exact NQ2.out _ (by rw [e]; rfl) rfl) (v := .slice Ah CC.length ch) zcv zcv
   replace h_1f : w57.frozen? ⟨w.heap.size, 1, none⟩ = false := hx57.froz (fun hh => by rcases hh with ⟨o, s, e⟩ | ⟨o, s, e⟩ <;> first | (have h9 := RI.out _ (by rw [e]; rfl); (try dsimp only at h9); omega) | (have h9 := RJ.out _ (by rw [e]; rfl); (try dsimp only at h9); omega) | exact NQ.out _ (by rw [e]; rfl) rfl | exact NQ2.out _ (by rw [e]; rfl) rfl) (v := .slice Ap PP.length cp) zcv zcv
   replace h_0 := zhb hx57 h_0 (ne := (fun hh => by rcases hh with ⟨o, s, e⟩ | ⟨o, s, e⟩ <;> first | (have h9 := RI.out _ (by rw [e]; rfl); (try dsimp only at h9); omega) | (have h9 := RJ.out _ (by rw [e]; rfl); (try dsimp only at h9); omega) | exact NQ.out _ (by rw [e]; rfl) rfl | exact NQ2.out _ (by rw [e]; rfl) rfl))
   replace h_1 := zhb hx57 h_1 (ne := (fun hh => by rcases hh with ⟨o, s, e⟩ | ⟨o, s, e⟩ <;> first | (have h9 := RI.out _ (by rw [e]; rfl); (try dsimp only at h9); omega) | (have h9 := RJ.out _ (by rw [e]; rfl); (try dsimp only at h9); omega) | exact NQ.out _ (by rw [e]; rfl) rfl | exact NQ2.out _ (by rw [e]; rfl) rfl))
   replace i_0f : w57.frozen? ⟨w2.heap.size, 0, none⟩ = false := hx57.froz (fun hh => by rcases hh with ⟨o, s, e⟩ | ⟨o, s, e⟩ <;> first | (have h9 := RI.out _ (by rw [e]; rfl); (try dsimp only at h9); omega) | (have h9 := RJ.out _ (by rw [e]; rfl); (try dsimp only at h9); omega) | exact NQ.out _ (by rw [e]; rfl) rfl | exact NQ2.out _ (by rw [e]; rfl) rfl) (v := .slice B CC.length d) zcv zcv
   replace i_1f : w57.frozen? ⟨w2.heap.size, 1, none⟩ = false := hx57.froz (fun hh => by rcases hh with ⟨o, s, e⟩ | ⟨o, s, e⟩ <;> first | (have h9 := RI.out _ (by rw [e]; rfl); (try dsimp only at h9); omega) | (have h9 := RJ.out _ (by rw [e]; rfl); (try dsimp only at h9); omega) | exact NQ.out _ (by rw [e]; rfl) rfl | exact NQ2.out _ (by rw [e]; rfl) rfl) (v := .slice B2 PP.length d2) zcv zcv
   replace i_0 := zhb hx57 i_0 (ne := (fun hh => by rcases hh with ⟨o, s, e⟩ | ⟨o, s, e⟩ <;> first | (have h9 := RI.out _ (by rw [e]; rfl); (try dsimp only at h9); omega) | (have h9 := RJ.out _ (by rw [e]; rfl); (try dsimp only at h9); omega) | exact NQ.out _ (by rw [e]; rfl) rfl | exact NQ2.out _ (by rw [e]; rfl) rfl))
   replace i_1 := zhb hx57 i_1 (ne := (fun hh => by rcases hh with ⟨o, s, e⟩ | ⟨o, s, e⟩ <;> first | (have h9 := RI.out _ (by rw [e]; rfl); (try dsimp only at h9); omega) | (have h9 := RJ.out _ (by rw [e]; rfl); (try dsimp only at h9); omega) | exact NQ.out _ (by rw [e]; rfl) rfl | exact NQ2.out _ (by rw [e]; rfl) rfl))
   replace p_0 := zhb hx57 p_0 (ne := (fun hh => by rcases hh with ⟨o, s, e⟩ | ⟨o, s, e⟩ <;> first | (have h9 := RI.out _ (by rw [e]; rfl); (try dsimp only at h9); omega) | (have h9 := RJ.out _ (by rw [e]; rfl); (try dsimp only at h9); omega) | exact NQ.out _ (by rw [e]; rfl) rfl | exact NQ2.out _ (by rw [e]; rfl) rfl))
   replace p_1 := zhb hx57 p_1 (ne := (fun hh => by rcases hh with ⟨o, s, e⟩ | ⟨o, s, e⟩ <;> first | (have h9 := RI.out _ (by rw [e]; rfl); (try dsimp only at h9); omega) | (have h9 := RJ.out _ (by rw [e]; rfl); (try dsimp only at h9); omega) | exact NQ.out _ (by rw [e]; rfl) rfl | exact NQ2.out _ (by rw [e]; rfl) rfl))
   replace q_0 := zhb hx57 q_0 (ne := (fun hh => by rcases hh with ⟨o, s, e⟩ | ⟨o, s, e⟩ <;> first | (have h9 := RI.out _ (by rw [e]; rfl); (try dsimp only at h9); omega) | (have h9 := RJ.out _ (by rw [e]; rfl); (try dsimp only at h9); omega) | exact NQ.out _ (by rw [e]; rfl) rfl | exact NQ2.out _ (by rw [e]; rfl) rfl))
   replace q_1 := zhb hx57 q_1 (ne := (fun hh => by rcases hh with ⟨o, s, e⟩ | ⟨o, s, e⟩ <;> first | (have h9 := RI.out _ (by rw [e]; rfl); (try dsimp only at h9); omega) | (have h9 := RJ.out _ (by rw [e]; rfl); (try dsimp only at h9); omega) | exact NQ.out _ (by rw [e]; rfl) rfl | exact NQ2.out _ (by rw [e]; rfl) rfl))
   have z57 := hx57.size
   try simp at z57
   replace rh := zr w.heap.size w57
   replace ri := zr w2.heap.size w57
   replace rp := zr qa w57
   replace rq := zr qb w57
   have X57 : Hid (Ext w w57) := Lib.hid (have hX := (show Ext w _ from zxt); Below.trans hX (hx57.below (Ext.size hX) (fun k hk hh => by rcases hh with ⟨o, s, e⟩ | ⟨o, s, e⟩ <;> first | (have h9 := RI.out _ (by rw [e]; rfl); (try dsimp only at h9); omega) | (have h9 := RJ.out _ (by rw [e]; rfl); (try dsimp only at h9); omega))))
   replace HA := Lib.hid ((HA.out.ext zxt).but hx57 (fun j hj hh => by have h7 := own_rng HA.out j hj; rcases hh with ⟨o, s, e⟩ | ⟨o, s, e⟩ <;> first | (have h9 := RI.out _ (by rw [e]; rfl); (try dsimp only at h9); omega) | (have h9 := RJ.out _ (by rw [e]; rfl); (try dsimp only at h9); omega)))
   replace HB := Lib.hid ((HB.out.ext zxt).but hx57 (fun j hj hh => by have h7 := own_rng HB.out j hj; rcases hh with ⟨o, s, e⟩ | ⟨o, s, e⟩ <;> first | (have h9 := RI.out _ (by rw [e]; rfl); (try dsimp only at h9); omega) | (have h9 := RJ.out _ (by rw [e]; rfl); (try dsimp only at h9); omega)))
   replace HC := Lib.hid ((HC.out.ext zxt).but hx57 (fun j hj hh => by have h7 := own_rng HC.out j hj; rcases hh with ⟨o, s, e⟩ | ⟨o, s, e⟩ <;> first | (have h9 := RI.out _ (by rw [e]; rfl); (try dsimp only at h9); omega) | (have h9 := RJ.out _ (by rw [e]; rfl); (try dsimp only at h9); omega)))
   replace HD := Lib.hid ((HD.out.ext zxt).but hx57 (fun j hj hh => by have h7 := own_rng HD.out j hj; rcases hh with ⟨o, s, e⟩ | ⟨o, s, e⟩ <;> first | (have h9 := RI.out _ (by rw [e]; rfl); (try dsimp only at h9); omega) | (have h9 := RJ.out _ (by rw [e]; rfl); (try dsimp only at h9); omega)))
   clear a_0 ra hsz57 XV hx57
   go_wp2_with fail
   (refine (((kSameHolding_any CN.length d3 PN.length d4 CN.length d5 PN.length d6 B3 B4 B5 B6 CN PN CN PN _ (OwnCls.sl (show OwnCls _ (w12.heap.size) (.slice B3 CN.length d3) CN.length CN from zSlTac8_1)) (OwnPos.sl (show OwnPos _ (w12.heap.size) (.slice B4 PN.length d4) PN.length PN from zSlTac8_0)) (OwnCls.sl (show OwnCls _ (wd.heap.size) (.slice B5 CN.length d5) CN.length CN from zSlTac8_4)) (OwnPos.sl (show OwnPos _ (wd.heap.size) (.slice B6 PN.length d6) PN.length PN from zSlTac8_3))).mono (fun e w' h => (⟨h.1.trans (by simp), h.2⟩ : e = .returned (.bool true) ∧ Ext _ w')))).mono ?_)
   rintro e w58 ⟨rfl, hx58⟩
   replace h_0f := zf hx58 h_0 h_0f
   replace h_1f := zf hx58 h_1 h_1f
   replace h_0 := zh hx58 h_0
   replace h_1 := zh hx58 h_1
   replace i_0f := zf hx58 i_0 i_0f
   replace i_1f := zf hx58 i_1 i_1f
   replace i_0 := zh hx58 i_0
   replace i_1 := zh hx58 i_1
   replace p_0 := zh hx58 p_0
   replace p_1 := zh hx58 p_1
   replace q_0 := zh hx58 q_0
   replace q_1 := zh hx58 q_1
   have z58 := hx58.size
   try simp at z58
   replace rh := zr w.heap.size w58
   replace ri := zr w2.heap.size w58
   replace rp := zr qa w58
   replace rq := zr qb w58
   replace HA := Lib.hid ((show OwnCls _ (w12.heap.size) (.slice B3 CN.length d3) CN.length CN from zSlTac8_1).ext hx58)
   replace HB := Lib.hid ((show OwnPos _ (w12.heap.size) (.slice B4 PN.length d4) PN.length PN from zSlTac8_0).ext hx58)
   replace HC := Lib.hid ((show OwnCls _ (wd.heap.size) (.slice B5 CN.length d5) CN.length CN from zSlTac8_4).ext hx58)
   replace HD := Lib.hid ((show OwnPos _ (wd.heap.size) (.slice B6 PN.length d6) PN.length PN from zSlTac8_3).ext hx58)
   have X58 : Hid (Ext w w58) := Lib.hid (Ext.trans zxt hx58)
   clear X57 hx58
   go_wp2_with fail
   refine wp_region_held_drew (S := fun w' => w'.cell? ⟨qa, 0, none⟩ = some (.slice B3 CN.length d3) ∧ w'.cell? ⟨qa, 1, none⟩ = some (.slice B4 PN.length d4) ∧ w'.cell? ⟨qb, 0, none⟩ = some (.slice B5 CN.length d5) ∧ w'.cell? ⟨qb, 1, none⟩ = some (.slice B6 PN.length d6)) (by kernel_rfl) (by first | with_reducible exact ⟨p_0, p_1, q_0, q_1⟩ | (simp [go_sem, World.cell?_alloc_past, *]; done)) (fun hHeld => ?_)
   refine' zt 0 ?_
   refine' zt 1 ?_
   refine' zn 2 (fun K hK => ?_)
   go_simp
   refine' zk hK (by (first | exact ⟨p_0, p_1, q_0, q_1⟩ | (simp [go_sem, World.cell?_alloc_past, *]; done))) (fun hHeld => ?_); clear hK K
   refine' zn 3 (fun K hK => ?_)
   go_simp
   refine' zk hK (by (first | exact ⟨p_0, p_1, q_0, q_1⟩ | (simp [go_sem, World.cell?_alloc_past, *]; done))) (fun hHeld => ?_); clear hK K
   refine wpAnyH_done (by kernel_rfl) ?_ _
   go_wp2_with fail
   go_roundg (gk - 1)
   case measure => have := HK.out; omega
   obtain ⟨_, _, wd1, wd2, ln1, ln2, _⟩ := HD9.out (by trivial)
   exact ⟨by have := HK.out; omega, num_eq (by have := HK.out; omega), CN, PN, B5, B6, B3, B4, d5, d6, d3, d4, Lib.hid (show Bk _ _ (.slice B5 CN.length d5) (.slice B6 PN.length d6) from ⟨zcv, zcv, zcv, zcv⟩), Lib.hid (show Bk _ _ (.slice B3 CN.length d3) (.slice B4 PN.length d4) from ⟨zcv, zcv, zcv, zcv⟩), nB5, nB6, nB3, nB4, Lib.hid (OwnCls.sl (show OwnCls _ (wd.heap.size) (.slice B5 CN.length d5) CN.length CN from zSlTac8_4)), Lib.hid (OwnPos.sl (show OwnPos _ (wd.heap.size) (.slice B6 PN.length d6) PN.length PN from zSlTac8_3)), Lib.hid (show OwnCls _ (w.heap.size + 1) _ _ _ from own_lower (show OwnCls _ (w12.heap.size) (.slice B3 CN.length d3) CN.length CN from zSlTac8_1) (by omega)), Lib.hid (show OwnPos _ (w.heap.size + 1) _ _ _ from own_lower (show OwnPos _ (w12.heap.size) (.slice B4 PN.length d4) PN.length PN from zSlTac8_0) (by omega)), Lib.hid ⟨wd1, wd2⟩, by have := HK.out; omega, by have := HK.out; omega, Lib.hid (fun j hj hh => by have h9 := RA.out j hj; omega), Lib.hid (fun j hj hh => by have h9 := RB.out j hj; omega), Lib.hid zxt⟩
  have hEb : (EE == 0) = false := beq_false_of_ne hE
  go_wp2_with fail
  go_roundg (gk - 1)
  case measure => have := HK.out; omega
  exact ⟨by have := HK.out; omega, num_eq (by have := HK.out; omega), CC, PP, Ah, Ap, B, B2, ch, cp, d, d2, Lib.hid ⟨zcv, zcv, zcv, zcv⟩, Lib.hid ⟨zcv, zcv, zcv, zcv⟩, nA, nA2, nB, nB2, Lib.hid (H1.out.ext zxt), Lib.hid (H2.out.ext zxt), Lib.hid (OwnCls.ext HO.out zxt), Lib.hid (OwnPos.ext HP.out zxt), HW, by have := HK.out; omega, by have := HK.out; omega, NQ, NQ2, Lib.hid (Ext.trans XW.out zxt)⟩
 have CD0 := Lib.hid (fun (w' : World) (hx : Ext wr w') => does13_none d d2 B B2 CC PP aw ao aV aS aP aQ av ah an [] [] 0 0 [] w' ((OwnCls.sl HO.out).ext hx) ((OwnPos.sl HP.out).ext hx) (by omega) (by omega) nB nB2 HW.out.1 HW.out.2 hwn (by omega))
 have CS0 := Lib.hid (fun (w' : World) (hx : Ext wr w') => should13_none ch cp Ah Ap CC PP aw ao aV aS aP aQ av ah an [] [] 0 0 [] w' (H1.out.ext hx) (H2.out.ext hx) (by omega) (by omega) HW.out.1 HW.out.2 hwn (by omega))
 have COL := Lib.hid (fun (w' : World) => show Calls Tryz.prog 20 #[.slice none 0 0] w' _ from kOverLosses_own none 0 [] 0 w' (OwnLoss.nil _ _))
 have CSL := Lib.hid (fun (w' : World) => show Calls Tryz.prog 19 #[.slice none 0 0, .slice none 0 0] w' (fun e w'' => e = .returned (.bool true) ∧ Ext w' w'') from (kSameLosses_any none none 0 0 0 0 [] [] w' (OwnLoss.sl (OwnLoss.nil _ 0)) (OwnLoss.sl (OwnLoss.nil _ 0))).mono (fun e w'' h => ⟨h.1.trans (by simp), h.2⟩))
 have hr2 : 0 ≤ aw → ¬ aw ≤ 2 := fun h1 h2 => hr ⟨h1, h2⟩
 have HR2 := Lib.hid hr2
 clear hwn hkl hy9 hix hg hz hr hr2
 go_wp2_with fail
 refine wp_region_held_drew (S := fun w' => w'.cell? ⟨w.heap.size, 0, none⟩ = some (.slice Ah CC.length ch) ∧ w'.cell? ⟨w.heap.size, 1, none⟩ = some (.slice Ap PP.length cp) ∧ w'.cell? ⟨w2.heap.size, 0, none⟩ = some (.slice B CC.length d) ∧ w'.cell? ⟨w2.heap.size, 1, none⟩ = some (.slice B2 PP.length d2)) (by kernel_rfl) (by first | with_reducible exact ⟨h_0, h_1, i_0, i_1⟩ | (simp [go_sem, World.cell?_alloc_past, *]; done)) (fun hHeld => ?_)
 refine' zt 0 ?_
 refine' zt 2 ?_
 refine' zn 1 (fun K hK => ?_)
 go_simp
 (with_reducible refine (CK1.out _ zxt).mono ?_)
 rintro e w11 ⟨rfl, hx11⟩
 replace h_0f := zf hx11 h_0 h_0f
 replace h_1f := zf hx11 h_1 h_1f
 replace h_0 := zh hx11 h_0
 replace h_1 := zh hx11 h_1
 replace i_0f := zf hx11 i_0 i_0f
 replace i_1f := zf hx11 i_1 i_1f
 replace i_0 := zh hx11 i_0
 replace i_1 := zh hx11 i_1
 replace a_0 := zh hx11 a_0
 replace a_1 := zh hx11 a_1
 replace a_2 := zh hx11 a_2
 replace a_3 := zh hx11 a_3
 replace a_4 := zh hx11 a_4
 replace a_5 := zh hx11 a_5
 replace a_6 := zh hx11 a_6
 replace a_7 := zh hx11 a_7
 replace a_8 := zh hx11 a_8
 have z11 := hx11.size
 try simp at z11
 have ne_h_i : ¬ w.heap.size = w2.heap.size := by omega
 have ne_h_a : ¬ w.heap.size = b9 := by omega
 have ne_i_h : ¬ w2.heap.size = w.heap.size := by omega
 have ne_i_a : ¬ w2.heap.size = b9 := by omega
 have ne_a_h : ¬ b9 = w.heap.size := by omega
 have ne_a_i : ¬ b9 = w2.heap.size := by omega
 have rh := zr w.heap.size w11
 have ri := zr w2.heap.size w11
 have ra := zr b9 w11
 have X11 : Hid (Ext wr w11) := Lib.hid (Ext.trans zxt hx11)
 clear hx11
 refine' zk hK zSlTac8_8 (fun hHeld => ?_); clear hK K
 refine' zn 3 (fun K hK => ?_)
 go_simp
 (with_reducible refine (CK2.out _ zxt).mono ?_)
 rintro e w12 ⟨rfl, hx12⟩
 replace h_0f := zf hx12 h_0 h_0f
 replace h_1f := zf hx12 h_1 h_1f
 replace h_0 := zh hx12 h_0
 replace h_1 := zh hx12 h_1
 replace i_0f := zf hx12 i_0 i_0f
 replace i_1f := zf hx12 i_1 i_1f
 replace i_0 := zh hx12 i_0
 replace i_1 := zh hx12 i_1
 replace a_0 := zh hx12 a_0
 replace a_1 := zh hx12 a_1
 replace a_2 := zh hx12 a_2
 replace a_3 := zh hx12 a_3
 replace a_4 := zh hx12 a_4
 replace a_5 := zh hx12 a_5
 replace a_6 := zh hx12 a_6
 replace a_7 := zh hx12 a_7
 replace a_8 := zh hx12 a_8
 have z12 := hx12.size
 try simp at z12
 replace rh := zr w.heap.size w12
 replace ri := zr w2.heap.size w12
 replace ra := zr b9 w12
 have X12 : Hid (Ext wr w12) := Lib.hid (Ext.trans zxt hx12)
 clear X11 hx12
 refine' zk hK zSlTac8_8 (fun hHeld => ?_); clear hK K
 refine' zt 4 ?_
 refine wpAnyH_done (by kernel_rfl) ?_ _
 go_wp2_with fail
 refine wp_region_held_drew (S := fun w' => w'.cell? ⟨b9, o9 + ix * 9, none⟩ = some (.int .i64 aw) ∧ w'.cell? ⟨b9, o9 + ix * 9 + 1, none⟩ = some (.int .i64 ao) ∧ w'.cell? ⟨b9, o9 + ix * 9 + 2, none⟩ = some (.int .i64 aV) ∧ w'.cell? ⟨b9, o9 + ix * 9 + 3, none⟩ = some (.int .i64 aS) ∧ w'.cell? ⟨b9, o9 + ix * 9 + 4, none⟩ = some (.int .i64 aP) ∧ w'.cell? ⟨b9, o9 + ix * 9 + 5, none⟩ = some (.int .i64 aQ) ∧ w'.cell? ⟨b9, o9 + ix * 9 + 6, none⟩ = some (.int .i64 av) ∧ w'.cell? ⟨b9, o9 + ix * 9 + 7, none⟩ = some (.int .i64 ah) ∧ w'.cell? ⟨b9, o9 + ix * 9 + 8, none⟩ = some (.int .u64 an) ∧ w'.cell? ⟨w2.heap.size, 0, none⟩ = some (.slice B CC.length d) ∧ w'.cell? ⟨w2.heap.size, 1, none⟩ = some (.slice B2 PP.length d2)) (by kernel_rfl) (by first | with_reducible exact ⟨a_0, a_1, a_2, a_3, a_4, a_5, a_6, a_7, a_8, i_0, i_1⟩ | (simp [go_sem, World.cell?_alloc_past, *]; done)) (fun hHeld => ?_)
 refine' zt 0 ?_
 refine' zt 1 ?_
 refine' zt 2 ?_
 refine' zt 3 ?_
 refine' zt 4 ?_
 refine' next2_in 5 11 rfl rfl (by kernel_rfl) (by rfl) (by rfl) (fun K hK => ?_) (fun K hK => ?_)
 ·go_simp
  (with_reducible refine (CD0.out _ zxt).mono ?_)
  rintro e w13 ⟨rfl, hx13⟩
  replace h_0f := zf hx13 h_0 h_0f
  replace h_1f := zf hx13 h_1 h_1f
  replace h_0 := zh hx13 h_0
  replace h_1 := zh hx13 h_1
  replace i_0f := zf hx13 i_0 i_0f
  replace i_1f := zf hx13 i_1 i_1f
  replace i_0 := zh hx13 i_0
  replace i_1 := zh hx13 i_1
  replace a_0 := zh hx13 a_0
  replace a_1 := zh hx13 a_1
  replace a_2 := zh hx13 a_2
  replace a_3 := zh hx13 a_3
  replace a_4 := zh hx13 a_4
  replace a_5 := zh hx13 a_5
  replace a_6 := zh hx13 a_6
  replace a_7 := zh hx13 a_7
  replace a_8 := zh hx13 a_8
  have z13 := hx13.size
  try simp at z13
  replace rh := zr w.heap.size w13
  replace ri := zr w2.heap.size w13
  replace ra := zr b9 w13
  have X13 : Hid (Ext wr w13) := Lib.hid (Ext.trans zxt hx13)
  clear X12 hx13
  refine' zk hK zSlTac8_6 (fun hHeld => ?_); clear hK K
  refine' zt 6 ?_
  refine' zt 7 ?_
  refine' zt 8 ?_
  refine' zt 9 ?_
  refine' zt 10 ?_
  refine' zn 11 (fun K hK => ?_)
  go_simp
  refine' zk hK zSlTac8_6 (fun hHeld => ?_); clear hK K
  refine' zn 12 (fun K hK => ?_)
  go_simp
  refine' zk hK zSlTac8_6 (fun hHeld => ?_); clear hK K
  refine' zt 13 ?_
  refine' zt 14 ?_
  refine' zt 15 ?_
  refine wpAnyH_done (by kernel_rfl) ?_ _
  go_wp2_with fail
  refine wp_region_held_drew (S := fun w' => w'.cell? ⟨b9, o9 + ix * 9, none⟩ = some (.int .i64 aw) ∧ w'.cell? ⟨b9, o9 + ix * 9 + 1, none⟩ = some (.int .i64 ao) ∧ w'.cell? ⟨b9, o9 + ix * 9 + 2, none⟩ = some (.int .i64 aV) ∧ w'.cell? ⟨b9, o9 + ix * 9 + 3, none⟩ = some (.int .i64 aS) ∧ w'.cell? ⟨b9, o9 + ix * 9 + 4, none⟩ = some (.int .i64 aP) ∧ w'.cell? ⟨b9, o9 + ix * 9 + 5, none⟩ = some (.int .i64 aQ) ∧ w'.cell? ⟨b9, o9 + ix * 9 + 6, none⟩ = some (.int .i64 av) ∧ w'.cell? ⟨b9, o9 + ix * 9 + 7, none⟩ = some (.int .i64 ah) ∧ w'.cell? ⟨b9, o9 + ix * 9 + 8, none⟩ = some (.int .u64 an) ∧ w'.cell? ⟨w.heap.size, 0, none⟩ = some (.slice Ah CC.length ch) ∧ w'.cell? ⟨w.heap.size, 1, none⟩ = some (.slice Ap PP.length cp)) (by kernel_rfl) zSlTac8_13 (fun hHeld => ?_)
  refine' zt 0 ?_
  refine' zt 1 ?_
  refine' zt 2 ?_
  refine' zt 3 ?_
  refine' zt 4 ?_
  refine' next2_in 5 11 rfl rfl (by kernel_rfl) (by rfl) (by rfl) (fun K hK => ?_) (fun K hK => ?_)
  ·go_simp
   (with_reducible refine (CS0.out _ zxt).mono ?_)
   rintro e w14 ⟨rfl, hx14⟩
   replace h_0f := zf hx14 h_0 h_0f
   replace h_1f := zf hx14 h_1 h_1f
   replace h_0 := zh hx14 h_0
   replace h_1 := zh hx14 h_1
   replace i_0f := zf hx14 i_0 i_0f
   replace i_1f := zf hx14 i_1 i_1f
   replace i_0 := zh hx14 i_0
   replace i_1 := zh hx14 i_1
   replace a_0 := zh hx14 a_0
   replace a_1 := zh hx14 a_1
   replace a_2 := zh hx14 a_2
   replace a_3 := zh hx14 a_3
   replace a_4 := zh hx14 a_4
   replace a_5 := zh hx14 a_5
   replace a_6 := zh hx14 a_6
   replace a_7 := zh hx14 a_7
   replace a_8 := zh hx14 a_8
   have c0_0 : w14.cell? ⟨w13.heap.size, 0, none⟩ = some (.slice B CC.length d) := hx14.has zcv
   have c0_1 : w14.cell? ⟨w13.heap.size, 1, none⟩ = some (.slice B2 PP.length d2) := hx14.has zcv
   have z14 := hx14.size
   try simp at z14
   have lt_h_c0 := zl w.heap.size w13.heap.size
   have lt_i_c0 := zl w2.heap.size w13.heap.size
   have lt_a_c0 := zl b9 w13.heap.size
   replace rh := zr w.heap.size w14
   replace ri := zr w2.heap.size w14
   replace ra := zr b9 w14
   have rc0 := zr w13.heap.size w14
   have X14 : Hid (Ext wr w14) := Lib.hid (Ext.trans zxt hx14)
   clear X13 hx14
   refine' zk hK zSlTac8_5 (fun hHeld => ?_); clear hK K
   refine' zt 6 ?_
   refine' zt 7 ?_
   refine' zt 8 ?_
   refine' zt 9 ?_
   refine' zt 10 ?_
   refine' zn 11 (fun K hK => ?_)
   go_simp
   refine' zk hK zSlTac8_5 (fun hHeld => ?_); clear hK K
   refine' zn 12 (fun K hK => ?_)
   go_simp
   refine' zk hK zSlTac8_5 (fun hHeld => ?_); clear hK K
   refine' zt 13 ?_
   refine' zt 14 ?_
   refine' zt 15 ?_
   refine wpAnyH_done (by kernel_rfl) ?_ _
   go_wp2_with fail
   (with_reducible refine (CSI.out _ zxt).mono ?_)
   rintro e w15 ⟨rfl, hx15⟩
   replace h_0f := zf hx15 h_0 h_0f
   replace h_1f := zf hx15 h_1 h_1f
   replace h_0 := zh hx15 h_0
   replace h_1 := zh hx15 h_1
   replace i_0f := zf hx15 i_0 i_0f
   replace i_1f := zf hx15 i_1 i_1f
   replace i_0 := zh hx15 i_0
   replace i_1 := zh hx15 i_1
   replace a_0 := zh hx15 a_0
   replace a_1 := zh hx15 a_1
   replace a_2 := zh hx15 a_2
   replace a_3 := zh hx15 a_3
   replace a_4 := zh hx15 a_4
   replace a_5 := zh hx15 a_5
   replace a_6 := zh hx15 a_6
   replace a_7 := zh hx15 a_7
   replace a_8 := zh hx15 a_8
   have z15 := hx15.size
   try simp at z15
   replace rh := zr w.heap.size w15
   replace ri := zr w2.heap.size w15
   replace ra := zr b9 w15
   have X15 : Hid (Ext wr w15) := Lib.hid (Ext.trans zxt hx15)
   clear c0_1 c0_0 rc0 X14 hx15
   go_wp2_with fail
   (with_reducible refine (CSL.out _).mono ?_)
   rintro e w16 ⟨rfl, hx16⟩
   replace h_0f := zf hx16 h_0 h_0f
   replace h_1f := zf hx16 h_1 h_1f
   replace h_0 := zh hx16 h_0
   replace h_1 := zh hx16 h_1
   replace i_0f := zf hx16 i_0 i_0f
   replace i_1f := zf hx16 i_1 i_1f
   replace i_0 := zh hx16 i_0
   replace i_1 := zh hx16 i_1
   replace a_0 := zh hx16 a_0
   have z16 := hx16.size
   try simp at z16
   replace rh := zr w.heap.size w16
   replace ri := zr w2.heap.size w16
   replace ra := zr b9 w16
   have X16 : Hid (Ext wr w16) := Lib.hid (Ext.trans zxt hx16)
   clear a_1 a_4 a_5 a_8 a_7 a_3 a_6 a_2 X15 hx16
   go_wp2_with fail
   (with_reducible refine (CSI.out _ zxt).mono ?_)
   rintro e w17 ⟨rfl, hx17⟩
   replace h_0f := zf hx17 h_0 h_0f
   replace h_1f := zf hx17 h_1 h_1f
   replace h_0 := zh hx17 h_0
   replace h_1 := zh hx17 h_1
   replace i_0f := zf hx17 i_0 i_0f
   replace i_1f := zf hx17 i_1 i_1f
   replace i_0 := zh hx17 i_0
   replace i_1 := zh hx17 i_1
   replace a_0 := zh hx17 a_0
   have z17 := hx17.size
   try simp at z17
   replace rh := zr w.heap.size w17
   replace ri := zr w2.heap.size w17
   replace ra := zr b9 w17
   have X17 : Hid (Ext wr w17) := Lib.hid (Ext.trans zxt hx17)
   clear X16 hx17
   go_wp2_with fail
   (refine (COL.out _).mono ?_)
   rintro e w18 ⟨⟨vv, rfl⟩, hx18⟩
   have hsz18 := hx18.size
   try simp at hsz18
   replace h_0f : w18.frozen? ⟨w.heap.size, 0, none⟩ = false := hx18.froz (fun ⟨o, s, e⟩ => by cases e) (v := .slice Ah CC.length ch) zcv zcv
   replace h_1f : w18.frozen? ⟨w.heap.size, 1, none⟩ = false := hx18.froz (fun ⟨o, s, e⟩ => by cases e) (v := .slice Ap PP.length cp) zcv zcv
   replace h_0 := zhb hx18 h_0 (ne := (fun ⟨o, s, e⟩ => by cases e))
   replace h_1 := zhb hx18 h_1 (ne := (fun ⟨o, s, e⟩ => by cases e))
   replace i_0f : w18.frozen? ⟨w2.heap.size, 0, none⟩ = false := hx18.froz (fun ⟨o, s, e⟩ => by cases e) (v := .slice B CC.length d) zcv zcv
   replace i_1f : w18.frozen? ⟨w2.heap.size, 1, none⟩ = false := hx18.froz (fun ⟨o, s, e⟩ => by cases e) (v := .slice B2 PP.length d2) zcv zcv
   replace i_0 := zhb hx18 i_0 (ne := (fun ⟨o, s, e⟩ => by cases e))
   replace i_1 := zhb hx18 i_1 (ne := (fun ⟨o, s, e⟩ => by cases e))
   replace a_0 := zhb hx18 a_0 (ne := (fun ⟨o, s, e⟩ => by cases e))
   have z18 := hx18.size
   try simp at z18
   replace rh := zr w.heap.size w18
   replace ri := zr w2.heap.size w18
   replace ra := zr b9 w18
   have X18 : Hid (Ext wr w18) := Lib.hid (have hX := (show Ext wr _ from zxt); Below.trans hX (hx18.below (Ext.size hX) (fun k hk ⟨o, s, e⟩ => by cases e)))
   clear hsz18 X17 hx18
   by_cases q94 : 0 ≤ aw
   ·have q102 := HR2.out q94
    go_wp2_with fail
    go_roundg (gk - 1)
    case measure => have := HK.out; omega
    exact ⟨by have := HK.out; omega, num_eq (by have := HK.out; omega), CC, PP, Ah, Ap, B, B2, ch, cp, d, d2, Lib.hid ⟨zcv, zcv, zcv, zcv⟩, Lib.hid ⟨zcv, zcv, zcv, zcv⟩, nA, nA2, nB, nB2, Lib.hid (H1.out.ext zxt), Lib.hid (H2.out.ext zxt), Lib.hid (OwnCls.ext HO.out zxt), Lib.hid (OwnPos.ext HP.out zxt), HW, by have := HK.out; omega, by have := HK.out; omega, NQ, NQ2, Lib.hid (Ext.trans XW.out zxt)⟩
   go_wp2_with fail
   go_roundg (gk - 1)
   case measure => have := HK.out; omega
   exact ⟨by have := HK.out; omega, num_eq (by have := HK.out; omega), CC, PP, Ah, Ap, B, B2, ch, cp, d, d2, Lib.hid ⟨zcv, zcv, zcv, zcv⟩, Lib.hid ⟨zcv, zcv, zcv, zcv⟩, nA, nA2, nB, nB2, Lib.hid (H1.out.ext zxt), Lib.hid (H2.out.ext zxt), Lib.hid (OwnCls.ext HO.out zxt), Lib.hid (OwnPos.ext HP.out zxt), HW, by have := HK.out; omega, by have := HK.out; omega, NQ, NQ2, Lib.hid (Ext.trans XW.out zxt)⟩
  go_simp
  refine' zk hK zSlTac8_5 (fun hHeld => ?_); clear hK K
  refine' zn 5 (fun K hK => ?_)
  go_simp
  (with_reducible refine (CS0.out _ zxt).mono ?_)
  rintro e w14 ⟨rfl, hx14⟩
  replace h_0f := zf hx14 h_0 h_0f
  replace h_1f := zf hx14 h_1 h_1f
  replace h_0 := zh hx14 h_0
  replace h_1 := zh hx14 h_1
  replace i_0f := zf hx14 i_0 i_0f
  replace i_1f := zf hx14 i_1 i_1f
  replace i_0 := zh hx14 i_0
  replace i_1 := zh hx14 i_1
  replace a_0 := zh hx14 a_0
  replace a_1 := zh hx14 a_1
  replace a_2 := zh hx14 a_2
  replace a_3 := zh hx14 a_3
  replace a_4 := zh hx14 a_4
  replace a_5 := zh hx14 a_5
  replace a_6 := zh hx14 a_6
  replace a_7 := zh hx14 a_7
  replace a_8 := zh hx14 a_8
  have c0_0 : w14.cell? ⟨w13.heap.size, 0, none⟩ = some (.slice B CC.length d) := hx14.has zcv
  have c0_1 : w14.cell? ⟨w13.heap.size, 1, none⟩ = some (.slice B2 PP.length d2) := hx14.has zcv
  have c1_0f : w14.frozen? ⟨w13.heap.size + 1, 0, none⟩ = false := hx14.froz (v := .slice none 0 0) zcv zcv
  have c1_1f : w14.frozen? ⟨w13.heap.size + 1, 1, none⟩ = false := hx14.froz (v := .slice none 0 0) zcv zcv
  have c1_0 : w14.cell? ⟨w13.heap.size + 1, 0, none⟩ = some (.slice none 0 0) := hx14.has zcv
  have c1_1 : w14.cell? ⟨w13.heap.size + 1, 1, none⟩ = some (.slice none 0 0) := hx14.has zcv
  have z14 := hx14.size
  try simp at z14
  have lt_h_c0 := zl w.heap.size w13.heap.size
  have lt_h_c1 := zl w.heap.size (w13.heap.size + 1)
  have lt_i_c0 := zl w2.heap.size w13.heap.size
  have lt_i_c1 := zl w2.heap.size (w13.heap.size + 1)
  have lt_a_c0 := zl b9 w13.heap.size
  have lt_a_c1 := zl b9 (w13.heap.size + 1)
  have lt_c0_c1 := zl w13.heap.size (w13.heap.size + 1)
  replace rh := zr w.heap.size w14
  replace ri := zr w2.heap.size w14
  replace ra := zr b9 w14
  have rc0 := zr w13.heap.size w14
  have rc1 := zr (w13.heap.size + 1) w14
  have X14 : Hid (Ext wr w14) := Lib.hid (Ext.trans zxt hx14)
  clear X13 hx14
  refine' zk hK zSlTac8_5 (fun hHeld => ?_); clear hK K
  refine' zt 6 ?_
  refine' zt 7 ?_
  refine' zt 8 ?_
  refine' zt 9 ?_
  refine' zt 10 ?_
  refine' zn 12 (fun K hK => ?_)
  go_simp
  refine' zk hK zSlTac8_5 (fun hHeld => ?_); clear hK K
  refine' zt 13 ?_
  refine' zt 14 ?_
  refine' zt 15 ?_
  refine wpAnyH_done (by kernel_rfl) ?_ _
  go_wp2_with fail
  (with_reducible refine (CSI.out _ zxt).mono ?_)
  rintro e w15 ⟨rfl, hx15⟩
  replace h_0f := zf hx15 h_0 h_0f
  replace h_1f := zf hx15 h_1 h_1f
  replace h_0 := zh hx15 h_0
  replace h_1 := zh hx15 h_1
  replace i_0f := zf hx15 i_0 i_0f
  replace i_1f := zf hx15 i_1 i_1f
  replace i_0 := zh hx15 i_0
  replace i_1 := zh hx15 i_1
  replace a_0 := zh hx15 a_0
  replace a_1 := zh hx15 a_1
  replace a_2 := zh hx15 a_2
  replace a_3 := zh hx15 a_3
  replace a_4 := zh hx15 a_4
  replace a_5 := zh hx15 a_5
  replace a_6 := zh hx15 a_6
  replace a_7 := zh hx15 a_7
  replace a_8 := zh hx15 a_8
  have z15 := hx15.size
  try simp at z15
  replace rh := zr w.heap.size w15
  replace ri := zr w2.heap.size w15
  replace ra := zr b9 w15
  have X15 : Hid (Ext wr w15) := Lib.hid (Ext.trans zxt hx15)
  clear c0_1 c0_0 c1_0 c1_1f c1_0f c1_1 rc0 rc1 X14 hx15
  go_wp2_with fail
  (with_reducible refine (CSL.out _).mono ?_)
  rintro e w16 ⟨rfl, hx16⟩
  replace h_0f := zf hx16 h_0 h_0f
  replace h_1f := zf hx16 h_1 h_1f
  replace h_0 := zh hx16 h_0
  replace h_1 := zh hx16 h_1
  replace i_0f := zf hx16 i_0 i_0f
  replace i_1f := zf hx16 i_1 i_1f
  replace i_0 := zh hx16 i_0
  replace i_1 := zh hx16 i_1
  replace a_0 := zh hx16 a_0
  have z16 := hx16.size
  try simp at z16
  replace rh := zr w.heap.size w16
  replace ri := zr w2.heap.size w16
  replace ra := zr b9 w16
  have X16 : Hid (Ext wr w16) := Lib.hid (Ext.trans zxt hx16)
  clear a_1 a_4 a_2 a_5 a_8 a_7 a_3 a_6 X15 hx16
  go_wp2_with fail
  (with_reducible refine (CSI.out _ zxt).mono ?_)
  rintro e w17 ⟨rfl, hx17⟩
  replace h_0f := zf hx17 h_0 h_0f
  replace h_1f := zf hx17 h_1 h_1f
  replace h_0 := zh hx17 h_0
  replace h_1 := zh hx17 h_1
  replace i_0f := zf hx17 i_0 i_0f
  replace i_1f := zf hx17 i_1 i_1f
  replace i_0 := zh hx17 i_0
  replace i_1 := zh hx17 i_1
  replace a_0 := zh hx17 a_0
  have z17 := hx17.size
  try simp at z17
  replace rh := zr w.heap.size w17
  replace ri := zr w2.heap.size w17
  replace ra := zr b9 w17
  have X17 : Hid (Ext wr w17) := Lib.hid (Ext.trans zxt hx17)
  clear X16 hx17
  go_wp2_with fail
  (refine (COL.out _).mono ?_)
  rintro e w18 ⟨⟨vv, rfl⟩, hx18⟩
  have hsz18 := hx18.size
  try simp at hsz18
  replace h_0f : w18.frozen? ⟨w.heap.size, 0, none⟩ = false := hx18.froz (fun ⟨o, s, e⟩ => by cases e) (v := .slice Ah CC.length ch) zcv zcv
  replace h_1f : w18.frozen? ⟨w.heap.size, 1, none⟩ = false := hx18.froz (fun ⟨o, s, e⟩ => by cases e) (v := .slice Ap PP.length cp) zcv zcv
  replace h_0 := zhb hx18 h_0 (ne := (fun ⟨o, s, e⟩ => by cases e))
  replace h_1 := zhb hx18 h_1 (ne := (fun ⟨o, s, e⟩ => by cases e))
  replace i_0f : w18.frozen? ⟨w2.heap.size, 0, none⟩ = false := hx18.froz (fun ⟨o, s, e⟩ => by cases e) (v := .slice B CC.length d) zcv zcv
  replace i_1f : w18.frozen? ⟨w2.heap.size, 1, none⟩ = false := hx18.froz (fun ⟨o, s, e⟩ => by cases e) (v := .slice B2 PP.length d2) zcv zcv
  replace i_0 := zhb hx18 i_0 (ne := (fun ⟨o, s, e⟩ => by cases e))
  replace i_1 := zhb hx18 i_1 (ne := (fun ⟨o, s, e⟩ => by cases e))
  replace a_0 := zhb hx18 a_0 (ne := (fun ⟨o, s, e⟩ => by cases e))
  have z18 := hx18.size
  try simp at z18
  replace rh := zr w.heap.size w18
  replace ri := zr w2.heap.size w18
  replace ra := zr b9 w18
  have X18 : Hid (Ext wr w18) := Lib.hid (have hX := (show Ext wr _ from zxt); Below.trans hX (hx18.below (Ext.size hX) (fun k hk ⟨o, s, e⟩ => by cases e)))
  clear hsz18 X17 hx18
  by_cases q94 : 0 ≤ aw
  ·have q102 := HR2.out q94
   go_wp2_with fail
   go_roundg (gk - 1)
   case measure => have := HK.out; omega
   exact ⟨by have := HK.out; omega, num_eq (by have := HK.out; omega), CC, PP, Ah, Ap, B, B2, ch, cp, d, d2, Lib.hid ⟨zcv, zcv, zcv, zcv⟩, Lib.hid ⟨zcv, zcv, zcv, zcv⟩, nA, nA2, nB, nB2, Lib.hid (H1.out.ext zxt), Lib.hid (H2.out.ext zxt), Lib.hid (OwnCls.ext HO.out zxt), Lib.hid (OwnPos.ext HP.out zxt), HW, by have := HK.out; omega, by have := HK.out; omega, NQ, NQ2, Lib.hid (Ext.trans XW.out zxt)⟩
  go_wp2_with fail
  go_roundg (gk - 1)
  case measure => have := HK.out; omega
  exact ⟨by have := HK.out; omega, num_eq (by have := HK.out; omega), CC, PP, Ah, Ap, B, B2, ch, cp, d, d2, Lib.hid ⟨zcv, zcv, zcv, zcv⟩, Lib.hid ⟨zcv, zcv, zcv, zcv⟩, nA, nA2, nB, nB2, Lib.hid (H1.out.ext zxt), Lib.hid (H2.out.ext zxt), Lib.hid (OwnCls.ext HO.out zxt), Lib.hid (OwnPos.ext HP.out zxt), HW, by have := HK.out; omega, by have := HK.out; omega, NQ, NQ2, Lib.hid (Ext.trans XW.out zxt)⟩
 go_simp
 refine' zk hK zSlTac8_6 (fun hHeld => ?_); clear hK K
 refine' zn 5 (fun K hK => ?_)
 go_simp
 (with_reducible refine (CD0.out _ zxt).mono ?_)
 rintro e w13 ⟨rfl, hx13⟩
 replace h_0f := zf hx13 h_0 h_0f
 replace h_1f := zf hx13 h_1 h_1f
 replace h_0 := zh hx13 h_0
 replace h_1 := zh hx13 h_1
 replace i_0f := zf hx13 i_0 i_0f
 replace i_1f := zf hx13 i_1 i_1f
 replace i_0 := zh hx13 i_0
 replace i_1 := zh hx13 i_1
 replace a_0 := zh hx13 a_0
 replace a_1 := zh hx13 a_1
 replace a_2 := zh hx13 a_2
 replace a_3 := zh hx13 a_3
 replace a_4 := zh hx13 a_4
 replace a_5 := zh hx13 a_5
 replace a_6 := zh hx13 a_6
 replace a_7 := zh hx13 a_7
 replace a_8 := zh hx13 a_8
 have c0_0f : w13.frozen? ⟨w12.heap.size, 0, none⟩ = false := hx13.froz (v := .slice none 0 0) zcv zcv
 have c0_1f : w13.frozen? ⟨w12.heap.size, 1, none⟩ = false := hx13.froz (v := .slice none 0 0) zcv zcv
 have c0_0 : w13.cell? ⟨w12.heap.size, 0, none⟩ = some (.slice none 0 0) := hx13.has zcv
 have c0_1 : w13.cell? ⟨w12.heap.size, 1, none⟩ = some (.slice none 0 0) := hx13.has zcv
 have z13 := hx13.size
 try simp at z13
 have lt_h_c0 := zl w.heap.size w12.heap.size
 have lt_i_c0 := zl w2.heap.size w12.heap.size
 have lt_a_c0 := zl b9 w12.heap.size
 replace rh := zr w.heap.size w13
 replace ri := zr w2.heap.size w13
 replace ra := zr b9 w13
 have rc0 := zr w12.heap.size w13
 have X13 : Hid (Ext wr w13) := Lib.hid (Ext.trans zxt hx13)
 clear X12 hx13
 refine' zk hK zSlTac8_6 (fun hHeld => ?_); clear hK K
 refine' zt 6 ?_
 refine' zt 7 ?_
 refine' zt 8 ?_
 refine' zt 9 ?_
 refine' zt 10 ?_
 refine' zn 12 (fun K hK => ?_)
 go_simp
 refine' zk hK zSlTac8_6 (fun hHeld => ?_); clear hK K
 refine' zt 13 ?_
 refine' zt 14 ?_
 refine' zt 15 ?_
 refine wpAnyH_done (by kernel_rfl) ?_ _
 go_wp2_with fail
 refine wp_region_held_drew (S := fun w' => w'.cell? ⟨b9, o9 + ix * 9, none⟩ = some (.int .i64 aw) ∧ w'.cell? ⟨b9, o9 + ix * 9 + 1, none⟩ = some (.int .i64 ao) ∧ w'.cell? ⟨b9, o9 + ix * 9 + 2, none⟩ = some (.int .i64 aV) ∧ w'.cell? ⟨b9, o9 + ix * 9 + 3, none⟩ = some (.int .i64 aS) ∧ w'.cell? ⟨b9, o9 + ix * 9 + 4, none⟩ = some (.int .i64 aP) ∧ w'.cell? ⟨b9, o9 + ix * 9 + 5, none⟩ = some (.int .i64 aQ) ∧ w'.cell? ⟨b9, o9 + ix * 9 + 6, none⟩ = some (.int .i64 av) ∧ w'.cell? ⟨b9, o9 + ix * 9 + 7, none⟩ = some (.int .i64 ah) ∧ w'.cell? ⟨b9, o9 + ix * 9 + 8, none⟩ = some (.int .u64 an) ∧ w'.cell? ⟨w.heap.size, 0, none⟩ = some (.slice Ah CC.length ch) ∧ w'.cell? ⟨w.heap.size, 1, none⟩ = some (.slice Ap PP.length cp)) (by kernel_rfl) zSlTac8_13 (fun hHeld => ?_)
 refine' zt 0 ?_
 refine' zt 1 ?_
 refine' zt 2 ?_
 refine' zt 3 ?_
 refine' zt 4 ?_
 refine' next2_in 5 11 rfl rfl (by kernel_rfl) (by rfl) (by rfl) (fun K hK => ?_) (fun K hK => ?_)
 ·go_simp
  (with_reducible refine (CS0.out _ zxt).mono ?_)
  rintro e w14 ⟨rfl, hx14⟩
  replace h_0f := zf hx14 h_0 h_0f
  replace h_1f := zf hx14 h_1 h_1f
  replace h_0 := zh hx14 h_0
  replace h_1 := zh hx14 h_1
  replace i_0f := zf hx14 i_0 i_0f
  replace i_1f := zf hx14 i_1 i_1f
  replace i_0 := zh hx14 i_0
  replace i_1 := zh hx14 i_1
  replace a_0 := zh hx14 a_0
  replace a_1 := zh hx14 a_1
  replace a_2 := zh hx14 a_2
  replace a_3 := zh hx14 a_3
  replace a_4 := zh hx14 a_4
  replace a_5 := zh hx14 a_5
  replace a_6 := zh hx14 a_6
  replace a_7 := zh hx14 a_7
  replace a_8 := zh hx14 a_8
  replace c0_0 : w14.cell? ⟨w12.heap.size, 0, none⟩ = some (.slice B CC.length d) := hx14.has zcv
  replace c0_1 : w14.cell? ⟨w12.heap.size, 1, none⟩ = some (.slice B2 PP.length d2) := hx14.has zcv
  have z14 := hx14.size
  try simp at z14
  replace rh := zr w.heap.size w14
  replace ri := zr w2.heap.size w14
  replace ra := zr b9 w14
  replace rc0 := zr w12.heap.size w14
  have X14 : Hid (Ext wr w14) := Lib.hid (Ext.trans zxt hx14)
  clear c0_0f c0_1f X13 hx14
  refine' zk hK zSlTac8_5 (fun hHeld => ?_); clear hK K
  refine' zt 6 ?_
  refine' zt 7 ?_
  refine' zt 8 ?_
  refine' zt 9 ?_
  refine' zt 10 ?_
  refine' zn 11 (fun K hK => ?_)
  go_simp
  refine' zk hK zSlTac8_5 (fun hHeld => ?_); clear hK K
  refine' zn 12 (fun K hK => ?_)
  go_simp
  refine' zk hK zSlTac8_5 (fun hHeld => ?_); clear hK K
  refine' zt 13 ?_
  refine' zt 14 ?_
  refine' zt 15 ?_
  refine wpAnyH_done (by kernel_rfl) ?_ _
  go_wp2_with fail
  (with_reducible refine (CSI.out _ zxt).mono ?_)
  rintro e w15 ⟨rfl, hx15⟩
  replace h_0f := zf hx15 h_0 h_0f
  replace h_1f := zf hx15 h_1 h_1f
  replace h_0 := zh hx15 h_0
  replace h_1 := zh hx15 h_1
  replace i_0f := zf hx15 i_0 i_0f
  replace i_1f := zf hx15 i_1 i_1f
  replace i_0 := zh hx15 i_0
  replace i_1 := zh hx15 i_1
  replace a_0 := zh hx15 a_0
  replace a_1 := zh hx15 a_1
  replace a_2 := zh hx15 a_2
  replace a_3 := zh hx15 a_3
  replace a_4 := zh hx15 a_4
  replace a_5 := zh hx15 a_5
  replace a_6 := zh hx15 a_6
  replace a_7 := zh hx15 a_7
  replace a_8 := zh hx15 a_8
  have z15 := hx15.size
  try simp at z15
  replace rh := zr w.heap.size w15
  replace ri := zr w2.heap.size w15
  replace ra := zr b9 w15
  have X15 : Hid (Ext wr w15) := Lib.hid (Ext.trans zxt hx15)
  clear c0_1 c0_0 rc0 X14 hx15
  go_wp2_with fail
  (with_reducible refine (CSL.out _).mono ?_)
  rintro e w16 ⟨rfl, hx16⟩
  replace h_0f := zf hx16 h_0 h_0f
  replace h_1f := zf hx16 h_1 h_1f
  replace h_0 := zh hx16 h_0
  replace h_1 := zh hx16 h_1
  replace i_0f := zf hx16 i_0 i_0f
  replace i_1f := zf hx16 i_1 i_1f
  replace i_0 := zh hx16 i_0
  replace i_1 := zh hx16 i_1
  replace a_0 := zh hx16 a_0
  have z16 := hx16.size
  try simp at z16
  replace rh := zr w.heap.size w16
  replace ri := zr w2.heap.size w16
  replace ra := zr b9 w16
  have X16 : Hid (Ext wr w16) := Lib.hid (Ext.trans zxt hx16)
  clear a_1 a_4 a_2 a_5 a_8 a_7 a_3 a_6 X15 hx16
  go_wp2_with fail
  (with_reducible refine (CSI.out _ zxt).mono ?_)
  rintro e w17 ⟨rfl, hx17⟩
  replace h_0f := zf hx17 h_0 h_0f
  replace h_1f := zf hx17 h_1 h_1f
  replace h_0 := zh hx17 h_0
  replace h_1 := zh hx17 h_1
  replace i_0f := zf hx17 i_0 i_0f
  replace i_1f := zf hx17 i_1 i_1f
  replace i_0 := zh hx17 i_0
  replace i_1 := zh hx17 i_1
  replace a_0 := zh hx17 a_0
  have z17 := hx17.size
  try simp at z17
  replace rh := zr w.heap.size w17
  replace ri := zr w2.heap.size w17
  replace ra := zr b9 w17
  have X17 : Hid (Ext wr w17) := Lib.hid (Ext.trans zxt hx17)
  clear X16 hx17
  go_wp2_with fail
  (refine (COL.out _).mono ?_)
  rintro e w18 ⟨⟨vv, rfl⟩, hx18⟩
  have hsz18 := hx18.size
  try simp at hsz18
  replace h_0f : w18.frozen? ⟨w.heap.size, 0, none⟩ = false := hx18.froz (fun ⟨o, s, e⟩ => by cases e) (v := .slice Ah CC.length ch) zcv zcv
  replace h_1f : w18.frozen? ⟨w.heap.size, 1, none⟩ = false := hx18.froz (fun ⟨o, s, e⟩ => by cases e) (v := .slice Ap PP.length cp) zcv zcv
  replace h_0 := zhb hx18 h_0 (ne := (fun ⟨o, s, e⟩ => by cases e))
  replace h_1 := zhb hx18 h_1 (ne := (fun ⟨o, s, e⟩ => by cases e))
  replace i_0f : w18.frozen? ⟨w2.heap.size, 0, none⟩ = false := hx18.froz (fun ⟨o, s, e⟩ => by cases e) (v := .slice B CC.length d) zcv zcv
  replace i_1f : w18.frozen? ⟨w2.heap.size, 1, none⟩ = false := hx18.froz (fun ⟨o, s, e⟩ => by cases e) (v := .slice B2 PP.length d2) zcv zcv
  replace i_0 := zhb hx18 i_0 (ne := (fun ⟨o, s, e⟩ => by cases e))
  replace i_1 := zhb hx18 i_1 (ne := (fun ⟨o, s, e⟩ => by cases e))
  replace a_0 := zhb hx18 a_0 (ne := (fun ⟨o, s, e⟩ => by cases e))
  have z18 := hx18.size
  try simp at z18
  replace rh := zr w.heap.size w18
  replace ri := zr w2.heap.size w18
  replace ra := zr b9 w18
  have X18 : Hid (Ext wr w18) := Lib.hid (have hX := (show Ext wr _ from zxt); Below.trans hX (hx18.below (Ext.size hX) (fun k hk ⟨o, s, e⟩ => by cases e)))
  clear hsz18 X17 hx18
  by_cases q94 : 0 ≤ aw
  ·have q102 := HR2.out q94
   go_wp2_with fail
   go_roundg (gk - 1)
   case measure => have := HK.out; omega
   exact ⟨by have := HK.out; omega, num_eq (by have := HK.out; omega), CC, PP, Ah, Ap, B, B2, ch, cp, d, d2, Lib.hid ⟨zcv, zcv, zcv, zcv⟩, Lib.hid ⟨zcv, zcv, zcv, zcv⟩, nA, nA2, nB, nB2, Lib.hid (H1.out.ext zxt), Lib.hid (H2.out.ext zxt), Lib.hid (OwnCls.ext HO.out zxt), Lib.hid (OwnPos.ext HP.out zxt), HW, by have := HK.out; omega, by have := HK.out; omega, NQ, NQ2, Lib.hid (Ext.trans XW.out zxt)⟩
  go_wp2_with fail
  go_roundg (gk - 1)
  case measure => have := HK.out; omega
  exact ⟨by have := HK.out; omega, num_eq (by have := HK.out; omega), CC, PP, Ah, Ap, B, B2, ch, cp, d, d2, Lib.hid ⟨zcv, zcv, zcv, zcv⟩, Lib.hid ⟨zcv, zcv, zcv, zcv⟩, nA, nA2, nB, nB2, Lib.hid (H1.out.ext zxt), Lib.hid (H2.out.ext zxt), Lib.hid (OwnCls.ext HO.out zxt), Lib.hid (OwnPos.ext HP.out zxt), HW, by have := HK.out; omega, by have := HK.out; omega, NQ, NQ2, Lib.hid (Ext.trans XW.out zxt)⟩
 go_simp
 refine' zk hK zSlTac8_5 (fun hHeld => ?_); clear hK K
 refine' zn 5 (fun K hK => ?_)
 go_simp
 (with_reducible refine (CS0.out _ zxt).mono ?_)
 rintro e w14 ⟨rfl, hx14⟩
 replace h_0f := zf hx14 h_0 h_0f
 replace h_1f := zf hx14 h_1 h_1f
 replace h_0 := zh hx14 h_0
 replace h_1 := zh hx14 h_1
 replace i_0f := zf hx14 i_0 i_0f
 replace i_1f := zf hx14 i_1 i_1f
 replace i_0 := zh hx14 i_0
 replace i_1 := zh hx14 i_1
 replace a_0 := zh hx14 a_0
 replace a_1 := zh hx14 a_1
 replace a_2 := zh hx14 a_2
 replace a_3 := zh hx14 a_3
 replace a_4 := zh hx14 a_4
 replace a_5 := zh hx14 a_5
 replace a_6 := zh hx14 a_6
 replace a_7 := zh hx14 a_7
 replace a_8 := zh hx14 a_8
 replace c0_0 : w14.cell? ⟨w12.heap.size, 0, none⟩ = some (.slice B CC.length d) := hx14.has zcv
 replace c0_1 : w14.cell? ⟨w12.heap.size, 1, none⟩ = some (.slice B2 PP.length d2) := hx14.has zcv
 have c1_0f : w14.frozen? ⟨w13.heap.size, 0, none⟩ = false := hx14.froz (v := .slice none 0 0) zcv zcv
 have c1_1f : w14.frozen? ⟨w13.heap.size, 1, none⟩ = false := hx14.froz (v := .slice none 0 0) zcv zcv
 have c1_0 : w14.cell? ⟨w13.heap.size, 0, none⟩ = some (.slice none 0 0) := hx14.has zcv
 have c1_1 : w14.cell? ⟨w13.heap.size, 1, none⟩ = some (.slice none 0 0) := hx14.has zcv
 have z14 := hx14.size
 try simp at z14
 have lt_h_c1 := zl w.heap.size w13.heap.size
 have lt_i_c1 := zl w2.heap.size w13.heap.size
 have lt_a_c1 := zl b9 w13.heap.size
 have lt_c0_c1 := zl w12.heap.size w13.heap.size
 replace rh := zr w.heap.size w14
 replace ri := zr w2.heap.size w14
 replace ra := zr b9 w14
 replace rc0 := zr w12.heap.size w14
 have rc1 := zr w13.heap.size w14
 have X14 : Hid (Ext wr w14) := Lib.hid (Ext.trans zxt hx14)
 clear c0_0f c0_1f X13 hx14
 refine' zk hK zSlTac8_5 (fun hHeld => ?_); clear hK K
 refine' zt 6 ?_
 refine' zt 7 ?_
 refine' zt 8 ?_
 refine' zt 9 ?_
 refine' zt 10 ?_
 refine' zn 12 (fun K hK => ?_)
 go_simp
 refine' zk hK zSlTac8_5 (fun hHeld => ?_); clear hK K
 refine' zt 13 ?_
 refine' zt 14 ?_
 refine' zt 15 ?_
 refine wpAnyH_done (by kernel_rfl) ?_ _
 go_wp2_with fail
 (with_reducible refine (CSI.out _ zxt).mono ?_)
 rintro e w15 ⟨rfl, hx15⟩
 replace h_0f := zf hx15 h_0 h_0f
 replace h_1f := zf hx15 h_1 h_1f
 replace h_0 := zh hx15 h_0
 replace h_1 := zh hx15 h_1
 replace i_0f := zf hx15 i_0 i_0f
 replace i_1f := zf hx15 i_1 i_1f
 replace i_0 := zh hx15 i_0
 replace i_1 := zh hx15 i_1
 replace a_0 := zh hx15 a_0
 replace a_1 := zh hx15 a_1
 replace a_2 := zh hx15 a_2
 replace a_3 := zh hx15 a_3
 replace a_4 := zh hx15 a_4
 replace a_5 := zh hx15 a_5
 replace a_6 := zh hx15 a_6
 replace a_7 := zh hx15 a_7
 replace a_8 := zh hx15 a_8
 have z15 := hx15.size
 try simp at z15
 replace rh := zr w.heap.size w15
 replace ri := zr w2.heap.size w15
 replace ra := zr b9 w15
 have X15 : Hid (Ext wr w15) := Lib.hid (Ext.trans zxt hx15)
 clear c0_1 c0_0 c1_0 c1_1f c1_0f c1_1 rc0 rc1 X14 hx15
 go_wp2_with fail
 (with_reducible refine (CSL.out _).mono ?_)
 rintro e w16 ⟨rfl, hx16⟩
 replace h_0f := zf hx16 h_0 h_0f
 replace h_1f := zf hx16 h_1 h_1f
 replace h_0 := zh hx16 h_0
 replace h_1 := zh hx16 h_1
 replace i_0f := zf hx16 i_0 i_0f
 replace i_1f := zf hx16 i_1 i_1f
 replace i_0 := zh hx16 i_0
 replace i_1 := zh hx16 i_1
 replace a_0 := zh hx16 a_0
 have z16 := hx16.size
 try simp at z16
 replace rh := zr w.heap.size w16
 replace ri := zr w2.heap.size w16
 replace ra := zr b9 w16
 have X16 : Hid (Ext wr w16) := Lib.hid (Ext.trans zxt hx16)
 clear a_1 a_4 a_5 a_8 a_7 a_3 a_6 a_2 X15 hx16
 go_wp2_with fail
 (with_reducible refine (CSI.out _ zxt).mono ?_)
 rintro e w17 ⟨rfl, hx17⟩
 replace h_0f := zf hx17 h_0 h_0f
 replace h_1f := zf hx17 h_1 h_1f
 replace h_0 := zh hx17 h_0
 replace h_1 := zh hx17 h_1
 replace i_0f := zf hx17 i_0 i_0f
 replace i_1f := zf hx17 i_1 i_1f
 replace i_0 := zh hx17 i_0
 replace i_1 := zh hx17 i_1
 replace a_0 := zh hx17 a_0
 have z17 := hx17.size
 try simp at z17
 replace rh := zr w.heap.size w17
 replace ri := zr w2.heap.size w17
 replace ra := zr b9 w17
 have X17 : Hid (Ext wr w17) := Lib.hid (Ext.trans zxt hx17)
 clear X16 hx17
 go_wp2_with fail
 (refine (COL.out _).mono ?_)
 rintro e w18 ⟨⟨vv, rfl⟩, hx18⟩
 have hsz18 := hx18.size
 try simp at hsz18
 replace h_0f : w18.frozen? ⟨w.heap.size, 0, none⟩ = false := hx18.froz (fun ⟨o, s, e⟩ => by cases e) (v := .slice Ah CC.length ch) zcv zcv
 replace h_1f : w18.frozen? ⟨w.heap.size, 1, none⟩ = false := hx18.froz (fun ⟨o, s, e⟩ => by cases e) (v := .slice Ap PP.length cp) zcv zcv
 replace h_0 := zhb hx18 h_0 (ne := (fun ⟨o, s, e⟩ => by cases e))
 replace h_1 := zhb hx18 h_1 (ne := (fun ⟨o, s, e⟩ => by cases e))
 replace i_0f : w18.frozen? ⟨w2.heap.size, 0, none⟩ = false := hx18.froz (fun ⟨o, s, e⟩ => by cases e) (v := .slice B CC.length d) zcv zcv
 replace i_1f : w18.frozen? ⟨w2.heap.size, 1, none⟩ = false := hx18.froz (fun ⟨o, s, e⟩ => by cases e) (v := .slice B2 PP.length d2) zcv zcv
 replace i_0 := zhb hx18 i_0 (ne := (fun ⟨o, s, e⟩ => by cases e))
 replace i_1 := zhb hx18 i_1 (ne := (fun ⟨o, s, e⟩ => by cases e))
 replace a_0 := zhb hx18 a_0 (ne := (fun ⟨o, s, e⟩ => by cases e))
 have z18 := hx18.size
 try simp at z18
 replace rh := zr w.heap.size w18
 replace ri := zr w2.heap.size w18
 replace ra := zr b9 w18
 have X18 : Hid (Ext wr w18) := Lib.hid (have hX := (show Ext wr _ from zxt); Below.trans hX (hx18.below (Ext.size hX) (fun k hk ⟨o, s, e⟩ => by cases e)))
 clear hsz18 X17 hx18
 by_cases q94 : 0 ≤ aw
 ·have q102 := HR2.out q94
  go_wp2_with fail
  go_roundg (gk - 1)
  case measure => have := HK.out; omega
  exact ⟨by have := HK.out; omega, num_eq (by have := HK.out; omega), CC, PP, Ah, Ap, B, B2, ch, cp, d, d2, Lib.hid ⟨zcv, zcv, zcv, zcv⟩, Lib.hid ⟨zcv, zcv, zcv, zcv⟩, nA, nA2, nB, nB2, Lib.hid (H1.out.ext zxt), Lib.hid (H2.out.ext zxt), Lib.hid (OwnCls.ext HO.out zxt), Lib.hid (OwnPos.ext HP.out zxt), HW, by have := HK.out; omega, by have := HK.out; omega, NQ, NQ2, Lib.hid (Ext.trans XW.out zxt)⟩
 go_wp2_with fail
 go_roundg (gk - 1)
 case measure => have := HK.out; omega
 exact ⟨by have := HK.out; omega, num_eq (by have := HK.out; omega), CC, PP, Ah, Ap, B, B2, ch, cp, d, d2, Lib.hid ⟨zcv, zcv, zcv, zcv⟩, Lib.hid ⟨zcv, zcv, zcv, zcv⟩, nA, nA2, nB, nB2, Lib.hid (H1.out.ext zxt), Lib.hid (H2.out.ext zxt), Lib.hid (OwnCls.ext HO.out zxt), Lib.hid (OwnPos.ext HP.out zxt), HW, by have := HK.out; omega, by have := HK.out; omega, NQ, NQ2, Lib.hid (Ext.trans XW.out zxt)⟩
end
end Go.Proofs.YtkinchgjidpjnaaGreat
