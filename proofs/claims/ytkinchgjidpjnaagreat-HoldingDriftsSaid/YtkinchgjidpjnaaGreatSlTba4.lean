/- Tba, part 4 of 5: Hd23, Hw1, Hr1, Hr5, Hw3, Hr8, SeqStop, Ht1. Conditions stand in each lemma. -/
import Derived.Test.YtkinchgjidpjnaaGreatSlTba3
set_option linter.unusedVariables false
set_option linter.unusedSimpArgs false
set_option maxRecDepth 100000
set_option maxHeartbeats 64000000
namespace Go.Proofs.YtkinchgjidpjnaaGreat
section
open Go.RowKit Go.ChangeShapes Go.WideShapes Go.Deep Go.Joins
theorem zSlTba4_0 {P : Prop} (h : P := by (first | exact ⟨a_0, a_1, a_2, a_3, a_4, a_5, a_6, a_7, a_8, h_0, h_1⟩ | (simp [go_sem, World.cell?_alloc_past, *]; done))) : P := h
theorem zSlTba4_1 {P : Prop} (h : P := by intro hh; have hh2 := own_rng HL.out _ hh; have hh3 := hap0 _ hh; omega) : P := h
theorem zSlTba4_2 {P : Prop} (h : P := by first | omega | (simp; done) | (simp; omega)) : P := h
theorem zSlTba4_3 {P : Prop} (h : P := by intro hh; have h9 := HPO.out _ hh; have h8 := NP.out _ hh; omega) : P := h
def RetK (R : List I6 × List I6 × List I5 × Int × Int) (w : World) (e : Ending) (w' : World) : Prop := ∃ v A c, e = .returned (.tuple #[v, .slice A R.2.2.1.length c, .int .u64 R.2.2.2.1, .int .i64 R.2.2.2.2]) ∧ (A = none → c = 0) ∧ HoldR R.1 R.2.1 w v w' ∧ OwnLoss w' w.heap.size (.slice A R.2.2.1.length c) R.2.2.1.length R.2.2.1
theorem RetK.nil {e : Int} {w w' : World} (hx : Ext w w') : RetK ([], [], [], 0, e) w (.returned (.tuple #[.agg #[.slice none 0 0, .slice none 0 0], .slice none 0 0, .int .u64 0, .int .i64 e])) w' := ⟨_, none, 0, rfl, fun _ => rfl, HoldR.nil hx, OwnLoss.nil _ _⟩
theorem hcutV_err {cl ps : List I6} {v h p e : Int} (H : hcutE cl ps v h p = e) (he : e ≠ 0) : hcutV cl ps v h p = ([], [], [], 0, e) := by
 unfold hcutV
 rw [if_neg (by rw [H]; exact he), H]
theorem hcutV_ok {cl ps : List I6} {v h p : Int} (H : hcutE cl ps v h p = 0) : hcutV cl ps v h p = (cutCs v h p cl, keepP (cutCs v h p cl) ps, losCs v h p cl, losN (losCs v h p cl), 0) := if_pos H
theorem RetK.mk {cl ps : List I6} {ls : List I5} {N : Int} {w w' : World} {b : Nat} {v v2 : Value} {A : Option Addr} {c : Nat} (hb : w.heap.size ≤ b) (h : w'.ownsRow b 79 6 v cl.length (cl.flatMap clsC)) (h2 : w'.ownsRow b 82 6 v2 ps.length (ps.flatMap posC)) (h3 : w'.ownsRow b 73 5 (.slice A ls.length c) ls.length (ls.flatMap lossC)) (hx : Ext w w') : RetK (cl, ps, ls, N, 0) w (.returned (.tuple #[.agg #[v, v2], .slice A ls.length c, .int .u64 N, .int .i64 0])) w' := by
 obtain ⟨A', c', e, h4, _⟩ := own_parts2 h3
 obtain ⟨rfl, rfl⟩ : A = A' ∧ c = c' := by simpa using e
 exact ⟨_, A, c, rfl, h4, holdS_of hb h h2 hx, own_lower h3 hb⟩
theorem OwnLoss.but {S : Nat → Prop} {w w' : World} {base n : Nat} {v : Value} {l : List I5} (h : OwnLoss w base v n l) (hx : But S w w') (hS : ∀ j, v.ownBlock = some j → ¬ S j) : OwnLoss w' base v n l := own_but1Word h hx hS
theorem OwnCls.but {S : Nat → Prop} {w w' : World} {base n : Nat} {v : Value} {l : List I6} (h : OwnCls w base v n l) (hx : But S w w') (hS : ∀ j, v.ownBlock = some j → ¬ S j) : OwnCls w' base v n l := own_but1Word h hx hS
theorem OwnPos.but {S : Nat → Prop} {w w' : World} {base n : Nat} {v : Value} {l : List I6} (h : OwnPos w base v n l) (hx : But S w w') (hS : ∀ j, v.ownBlock = some j → ¬ S j) : OwnPos w' base v n l := own_but1Word h hx hS
theorem hDelF_ps (fg : Nat) (bd cp : Array Value) (q : I6 → Bool) (base n : Nat) (v : Value) (l L : List I6) (w : World) (eg : ∀ args w, (callFunc fg args).run Tryz.prog w = .ok (.enter fg args) w) (h : OwnPos w base v n l) (hn : n = l.length) (hn2 : n < 1099511627776) (hL : L = l.filter (fun x => !q x))
  (hf : ∀ (wx : World) (x : I6), x ∈ l → But (fun k => v.ownBlock = some k) w wx → Calls Tryz.prog fg (bd ++ #[.agg #[.int .i64 x.1, .int .i64 x.2.1, .int .i64 x.2.2.1, .int .i64 x.2.2.2.1, .int .i64 x.2.2.2.2.1, .int .u64 x.2.2.2.2.2]] ++ cp) wx fun e w' => e = .returned (.bool (q x)) ∧ Ext wx w') :
  Calls Tryz.prog 76 #[v, .func (.func fg) bd cp] w fun r w' => ∃ B d, r = .returned (.slice B L.length d) ∧ OwnPos w' base (.slice B L.length d) L.length L ∧ (∀ j, (Value.slice B L.length d).ownBlock = some j → v.ownBlock = some j ∨ w.heap.size ≤ j) ∧ But (fun k => v.ownBlock = some k) w w' := by
 subst hL
 refine (hDelF_own fg bd cp q base n v l w eg h hn hn2 hf).mono ?_
 rintro r w' ⟨v', rfl, ho, hb, hx⟩
 obtain ⟨B, d, rfl, _, _⟩ := own_parts2 ho
 exact ⟨B, d, rfl, ho, hb, hx⟩
theorem loss_cls : 73 ≠ 79 := by decide
theorem loss_pos : 73 ≠ 82 := by decide
theorem hCut_any (c c2 : Nat) (A A2 : Option Addr) (cl ps : List I6) (v h p : Int) (w : World) (hs : Sl w 6 A cl.length c (cl.flatMap clsC)) (hs2 : Sl w 6 A2 ps.length c2 (ps.flatMap posC)) (hn : cl.length < 1099511627776) (hn2 : ps.length < 1099511627776) (hA : A = none → c = 0) (hA2 : A2 = none → c2 = 0) (hw : ∀ x ∈ cl, WdC x) (hw2 : ∀ x ∈ ps, WdP x) (hp : Word p) :
  Calls Tryz.prog 23 #[.agg #[.slice A cl.length c, .slice A2 ps.length c2], .int .i64 v, .int .i64 h, .int .u64 p] w (RetK (hcutV cl ps v h p) w) := by
 obtain ⟨iLoss, iLoss_0, iLoss_1, iLoss_2, iLoss_3⟩ := info_parts loss_info
 have C1 := Lib.hid (fun (w' : World) (hx : Ext w w') => hCheck_any cl.length c ps.length c2 A A2 cl ps w' (hs.ext hx) (hs2.ext hx) hn hn2 hw hw2)
 obtain ⟨R, hR⟩ : ∃ R, R = hcutV cl ps v h p := ⟨_, rfl⟩
 rw [← hR]
 have HR := Lib.hid hR
 obtain ⟨E, hE⟩ : ∃ E, E = chkH cl ps := ⟨_, rfl⟩
 by_cases he : ¬ E = 0
 ·obtain rfl : R = ([], [], [], 0, E) := hR.trans (hcutV_err (by unfold hcutE; rw [if_pos (by rw [← hE]; exact he), hE]) he)
  rw [← hE] at C1
  have heb : (E != 0) = true := by simpa using he
  clear hs hs2 hw hw2 hE hR HR hp hn hn2
  go_enter Tryz.func23, Tryz.ntmps23
  go_wp2_with fail
  (with_reducible refine (C1.out _ zxt).mono ?_)
  rintro e w1 ⟨rfl, hx1⟩
  have c1_0f : w1.frozen? ⟨w.heap.size + 1, 0, none⟩ = false := hx1.froz (v := .slice none 0 0) zcv zcv
  have c1_1f : w1.frozen? ⟨w.heap.size + 1, 1, none⟩ = false := hx1.froz (v := .slice none 0 0) zcv zcv
  have c1_0 : w1.cell? ⟨w.heap.size + 1, 0, none⟩ = some (.slice none 0 0) := hx1.has zcv
  have c1_1 : w1.cell? ⟨w.heap.size + 1, 1, none⟩ = some (.slice none 0 0) := hx1.has zcv
  have z1 := hx1.size
  try simp at z1
  have rc1 := zr (w.heap.size + 1) w1
  have X1 : Hid (Ext w w1) := Lib.hid (Ext.trans zxt hx1)
  clear hx1
  go_wp2_with fail
  refine bodyPost_ret (v := .tuple #[.agg #[.slice none 0 0, .slice none 0 0], .slice none 0 0, .int .u64 0, .int .i64 E]) (by simp [results, Tryz.results23, go_sem, World.cell?_alloc_past, *]; try rfl) rfl (RetK.nil ?_)
  exact zxt
 replace he : E = 0 := by omega
 have hk := (chkH_iff cl ps).1 (hE.symm.trans he)
 have C2 := Lib.hid (fun w => hvalidator_any v w)
 obtain ⟨VB, hVB⟩ : ∃ B, B = decide (0 ≤ v ∧ v < 32) := ⟨_, rfl⟩
 rw [← hVB] at C2
 have C3 := Lib.hid (fun w => hheight_any h w)
 obtain ⟨HB, hHB⟩ : ∃ B, B = decide (1 ≤ h ∧ h ≤ 4294967296) := ⟨_, rfl⟩
 rw [← hHB] at C3
 have C4 := Lib.hid (fun (w' : World) (hx : Ext w w') => hcopied_any c c2 A A2 cl ps w' (hs.ext hx) (hs2.ext hx) hn hn2 hA hA2)
 have HX := Lib.hid (show (VB = false → hcutE cl ps v h p = 3) ∧ (VB = true → HB = false → hcutE cl ps v h p = 3) ∧ (VB = true → HB = true → 1000000000 < p → hcutE cl ps v h p = 3) ∧ (VB = true → HB = true → ¬ 1000000000 < p → hcutE cl ps v h p = 0) from by
  have hVt : VB = true → ¬ (v < 0 ∨ 32 ≤ v) := fun hh => by have := of_decide_eq_true (hVB.symm.trans hh); omega
  have hVf : VB = false → (v < 0 ∨ 32 ≤ v) := fun hh => by have := of_decide_eq_false (hVB.symm.trans hh); omega
  have hHt : HB = true → ¬ (h < 1 ∨ 4294967296 < h) := fun hh => by have := of_decide_eq_true (hHB.symm.trans hh); omega
  have hHf : HB = false → (h < 1 ∨ 4294967296 < h) := fun hh => by have := of_decide_eq_false (hHB.symm.trans hh); omega
  unfold hcutE
  rw [if_neg (by rw [← hE]; simpa using he)]
  refine ⟨fun h1 => ?_, fun h1 h2 => ?_, fun h1 h2 h3 => ?_, fun h1 h2 h3 => ?_⟩
  ·rw [if_pos (.inl (hVf h1))]
  ·rw [if_pos (.inr (.inl (hHf h2)))]
  ·rw [if_pos (.inr (.inr h3))]
  ·rw [if_neg (by intro hh; rcases hh with hh | hh | hh; exact hVt h1 hh; exact hHt h2 hh; exact h3 hh)])
 have eg : ∀ args w, (callFunc 77 args).run Tryz.prog w = .ok (.enter 77 args) w := enters_of Tryz.func77 (by kernel_rfl) rfl
 have HS := Lib.hid hs.low
 have HK := Lib.hid (And.intro hk (And.intro hw (And.intro hp.1 hp.2)))
 have hlen := hk.len
 have hsm := hs.small
 rw [← hE] at C1
 subst he
 clear hs hs2 hw hw2 hE hR hp hk hVB hHB hA hA2
 go_enter Tryz.func23, Tryz.ntmps23
 go_wp2_with fail
 (with_reducible refine (C1.out _ zxt).mono ?_)
 rintro e w1 ⟨rfl, hx1⟩
 have c0_0 : w1.cell? ⟨w.heap.size, 0, none⟩ = some (.slice A cl.length c) := hx1.has zcv
 have c0_1 : w1.cell? ⟨w.heap.size, 1, none⟩ = some (.slice A2 ps.length c2) := hx1.has zcv
 have c1_0f : w1.frozen? ⟨w.heap.size + 1, 0, none⟩ = false := hx1.froz (v := .slice none 0 0) zcv zcv
 have c1_1f : w1.frozen? ⟨w.heap.size + 1, 1, none⟩ = false := hx1.froz (v := .slice none 0 0) zcv zcv
 have c1_0 : w1.cell? ⟨w.heap.size + 1, 0, none⟩ = some (.slice none 0 0) := hx1.has zcv
 have c1_1 : w1.cell? ⟨w.heap.size + 1, 1, none⟩ = some (.slice none 0 0) := hx1.has zcv
 have z1 := hx1.size
 try simp at z1
 have lt_c0_c1 : w.heap.size < w.heap.size + 1 := by omega
 have ne_c0_c1 : ¬ w.heap.size = w.heap.size + 1 := by omega
 have ne_c1_c0 : ¬ w.heap.size + 1 = w.heap.size := by omega
 have rc0 := zr w.heap.size w1
 have rc1 := zr (w.heap.size + 1) w1
 replace HS := Lib.hid (HS.out.ext (Ext.trans zxt hx1))
 have X1 : Hid (Ext w w1) := Lib.hid (Ext.trans zxt hx1)
 clear hx1
 rcases (show VB = false ∨ VB = true from by cases VB <;> simp) with rfl | rfl
 ·obtain rfl : R = ([], [], [], 0, 3) := HR.out.trans (hcutV_err (HX.out.1 (by trivial)) (by decide))
  go_wp2_with fail
  (with_reducible refine (C2.out _).mono ?_)
  rintro e w_1 ⟨rfl, rfl⟩
  go_wp2_with fail
  refine bodyPost_ret (v := .tuple #[.agg #[.slice none 0 0, .slice none 0 0], .slice none 0 0, .int .u64 0, .int .i64 3]) (by simp [results, Tryz.results23, go_sem, World.cell?_alloc_past, *]; try rfl) rfl (RetK.nil ?_)
  exact zxt
 ·rcases (show HB = false ∨ HB = true from by cases HB <;> simp) with rfl | rfl
  ·obtain rfl : R = ([], [], [], 0, 3) := HR.out.trans (hcutV_err (HX.out.2.1 (by trivial) (by trivial)) (by decide))
   go_wp2_with fail
   (with_reducible refine (C2.out _).mono ?_)
   rintro e w_1 ⟨rfl, rfl⟩
   go_wp2_with fail
   (with_reducible refine (C3.out _).mono ?_)
   rintro e w_2 ⟨rfl, rfl⟩
   go_wp2_with fail
   refine bodyPost_ret (v := .tuple #[.agg #[.slice none 0 0, .slice none 0 0], .slice none 0 0, .int .u64 0, .int .i64 3]) (by simp [results, Tryz.results23, go_sem, World.cell?_alloc_past, *]; try rfl) rfl (RetK.nil ?_)
   exact zxt
  ·go_wp2_with fail
   (with_reducible refine (C2.out _).mono ?_)
   rintro e w_1 ⟨rfl, rfl⟩
   go_wp2_with fail
   (with_reducible refine (C3.out _).mono ?_)
   rintro e w_2 ⟨rfl, rfl⟩
   by_cases q3 : 1000000000 < p
   ·have q3d : decide (1000000000 < p) = true := decide_eq_true q3
    obtain rfl : R = ([], [], [], 0, 3) := HR.out.trans (hcutV_err (HX.out.2.2.1 (by trivial) (by trivial) q3) (by decide))
    go_wp2_with fail
    refine bodyPost_ret (v := .tuple #[.agg #[.slice none 0 0, .slice none 0 0], .slice none 0 0, .int .u64 0, .int .i64 3]) (by simp [results, Tryz.results23, go_sem, World.cell?_alloc_past, *]; try rfl) rfl (RetK.nil ?_)
    exact zxt
   ·have q3d : decide (1000000000 < p) = false := decide_eq_false q3
    have HX0 := Lib.hid (HX.out.2.2.2 (by trivial) (by trivial) (by first | exact q3 | omega))
    have p1 : p ≤ 1000000000 := by omega
    clear q3
    go_wp2_with fail
    (with_reducible refine (C4.out _ zxt).mono ?_)
    rintro e w2 ⟨v0, rfl, B, d, B2, d2, rfl, hB, hB2, hO, hP, hx2⟩
    replace c0_0 := zh hx2 c0_0
    replace c1_0f := zf hx2 c1_0 c1_0f
    replace c1_1f := zf hx2 c1_1 c1_1f
    replace c1_0 := zh hx2 c1_0
    replace c1_1 := zh hx2 c1_1
    have z2 := hx2.size
    try simp at z2
    replace rc0 := zr w.heap.size w2
    replace rc1 := zr (w.heap.size + 1) w2
    replace HS := Lib.hid (HS.out.ext (Ext.trans zxt hx2))
    have X2 : Hid (Ext w w2) := Lib.hid (Ext.trans zxt hx2)
    have HO := Lib.hid (show OwnCls _ (w.heap.size + 2) _ _ _ from own_lower hO zSlTba4_2)
    have HP := Lib.hid (show OwnPos _ (w.heap.size + 2) _ _ _ from own_lower hP zSlTba4_2)
    clear c0_1 X1 hx2
    have HQ := Lib.hid (And.intro (own_rng HO.out) (own_rng HP.out))
    clear hO hP hB hB2
    go_wp2_with fail
    have hQw : w.heap.size + 2 ≤ w2.heap.size := by omega
    have hQ1 := HQ.out.1
    have hQ2 := HQ.out.2
    go_loopg [14, 15, 45] cl.length (fun gh s14 s15 i wx => gh ≤ cl.length ∧ i = .int .i64 ((cl.length - gh : Nat) : Int) ∧ ∃ (B3 B4 A7 : Option Addr) (d3 d4 c7 : Nat) (CL PS : List I6) (LS : List I5) (N : Int), s14 = .slice A7 LS.length c7 ∧ s15 = .int .u64 N ∧ Hid (CutI cl ps v h p (cl.length - gh) CL PS LS N) ∧ Hid (Bk wx w2.heap.size (.slice B3 (List.length (α := I6) CL) d3) (.slice B4 (List.length (α := I6) PS) d4)) ∧ Hid (Bk wx (w.heap.size + 1) (.slice none 0 0) (.slice none 0 0)) ∧ Hid (OwnCls wx (w.heap.size + 2) (.slice B3 CL.length d3) CL.length CL) ∧ Hid (OwnPos wx (w.heap.size + 2) (.slice B4 PS.length d4) PS.length PS) ∧ Hid (OwnLoss wx (w.heap.size + 2) (.slice A7 LS.length c7) LS.length LS) ∧ Hid (∀ j, (Value.slice B3 CL.length d3).ownBlock = some j → ¬ j = w2.heap.size) ∧ Hid (∀ j, (Value.slice B4 PS.length d4).ownBlock = some j → ¬ j = w2.heap.size) ∧ Hid (∀ j, (Value.slice A7 LS.length c7).ownBlock = some j → ¬ j = w2.heap.size) ∧ Hid (SlB w.heap.size wx 6 A cl.length c (cl.flatMap clsC)) ∧ w2.heap.size < wx.heap.size ∧ Hid (Ext w wx))
    case atStart => exact ⟨Nat.le_refl _, by simp, B, B2, none, d, d2, 0, cl, ps, [], 0, rfl, rfl, by rw [Nat.sub_self]; exact Lib.hid (CutI.start ..), Lib.hid ⟨by simp [go_sem, World.cell?_alloc_past, *], by simp [go_sem, World.cell?_alloc_past, *], by simp [go_sem, World.cell?_alloc_past, *], by simp [go_sem, World.cell?_alloc_past, *]⟩, Lib.hid ⟨by simp [go_sem, World.cell?_alloc_past, *], by simp [go_sem, World.cell?_alloc_past, *], by simp [go_sem, World.cell?_alloc_past, *], by simp [go_sem, World.cell?_alloc_past, *]⟩, Lib.hid (HO.out.ext zxt), Lib.hid (HP.out.ext zxt), Lib.hid (OwnLoss.nil _ _), Lib.hid (fun j hj hh => by have := (hQ1 j hj).2; omega), Lib.hid (fun j hj hh => by have := (hQ2 j hj).2; omega), Lib.hid (fun j hj => by cases hj), Lib.hid (HS.out.ext zxt), by first | omega | (simp; done) | (simp; omega), Lib.hid zxt⟩
    case round =>
     clear HQ hQ1 hQ2 HO HP HS
     obtain ⟨hg, hi, B3, B4, A7, d3, d4, c7, CL, PS, LS, N, rfl, rfl, HI, BQ, BR, HO, HP, HL, NC, NP, NL, HS, hQr, XR⟩ := hrel
     obtain ⟨k, hkk⟩ : ∃ k, k = cl.length - gk := ⟨_, rfl⟩
     rw [← hkk] at hi HI
     subst hi
     by_cases hz : gk = 0
     ·have hkn : ¬ (k : Int) < (cl.length : Int) := by omega
      obtain ⟨e1, e2, e3, e4⟩ := HI.out.done HK.out.1 (by omega)
      obtain rfl : R = (CL, PS, LS, N, 0) := by rw [HR.out, hcutV_ok HX0.out, e1, e2, e3, e4]
      have q_0 := BQ.out.c0
      have q_1 := BQ.out.c1
      have r_0 := BR.out.c0
      have r_1 := BR.out.c1
      have r_0f := BR.out.f0
      have r_1f := BR.out.f1
      clear e1 e2 e3 e4 hkk hg hz HI HR
      go_wp2
      refine bodyPost_ret (v := .tuple #[.agg #[.slice B3 CL.length d3, .slice B4 PS.length d4], .slice A7 LS.length c7, .int .u64 N, .int .i64 0]) (by simp [results, Tryz.results23, go_sem, World.cell?_alloc_past, r_0, r_1, r_0f, r_1f]; try rfl) rfl (RetK.mk (b := w.heap.size + 2) (by omega) (show World.ownsRow _ (w.heap.size + 2) _ _ _ _ _ from by repeat (first | with_reducible refine own_box ?_ (by omega) | exact HO.out)) (show World.ownsRow _ (w.heap.size + 2) _ _ _ _ _ from by repeat (first | with_reducible refine own_box ?_ (by omega) | exact HP.out)) (show World.ownsRow _ (w.heap.size + 2) _ _ _ _ _ from by repeat (first | with_reducible refine own_box ?_ (by omega) | exact HL.out)) (by repeat (first | with_reducible exact XR.out | with_reducible refine Ext.setCell ?_ zSlTba4_2 _)))
     ·have hkn : (k : Int) < (cl.length : Int) := by omega
      have hkl : k < cl.length := by omega
      obtain ⟨b1, o1, rfl, hb1, hc_x⟩ := HS.out.sl.rec_ clsC_len (show 0 < cl.length from by omega)
      obtain ⟨xw, hl_x⟩ : ∃ x, cl[k]? = some x := ⟨_, List.getElem?_eq_getElem (by omega)⟩
      have x_0 := hc_x (k) xw hl_x 0 _ rfl
      have x_1 := hc_x (k) xw hl_x 1 _ rfl
      have x_2 := hc_x (k) xw hl_x 2 _ rfl
      have x_3 := hc_x (k) xw hl_x 3 _ rfl
      have x_4 := hc_x (k) xw hl_x 4 _ rfl
      have x_5 := hc_x (k) xw hl_x 5 _ rfl
      obtain ⟨xv, xs, xp, xf, xt, xh⟩ := xw
      simp only at x_0 x_1 x_2 x_3 x_4 x_5
      rw [Nat.add_zero] at x_0
      rw [← Nat.add_assoc] at x_1 x_2 x_3 x_4 x_5
      have HC := Lib.hid hl_x
      have hsum := HI.out.sum HK.out.1 HK.out.2.1 HK.out.2.2.1 p1 hl_x
      have hgood := good_pool (HK.out.1.cls _ (List.mem_of_getElem? hl_x)) (HK.out.2.1 _ (List.mem_of_getElem? hl_x))
      have CT := Lib.hid (fun w => tBacked_any xv xs xp xf v h 0 w)
      obtain ⟨BB, hBB⟩ : ∃ B, B = bkdB xv xs xp xf v h 0 := ⟨_, rfl⟩
      rw [← hBB] at CT
      have CU := Lib.hid (fun w => SCut_any xt xh p hgood.wt hgood.ws HK.out.2.2 w)
      obtain ⟨cT, hcT⟩ : ∃ z, z = cutT xt xh p := ⟨_, rfl⟩
      obtain ⟨cS, hcS⟩ : ∃ z, z = cutS xt xh p := ⟨_, rfl⟩
      obtain ⟨cN, hcN⟩ : ∃ z, z = cutN xt xh p := ⟨_, rfl⟩
      obtain ⟨cE, hcE⟩ : ∃ z, z = cutE xt xh p := ⟨_, rfl⟩
      have HU := Lib.hid (And.intro hBB (And.intro hcT (And.intro hcS hcN)))
      rw [← hcT, ← hcS, ← hcN, ← hcE] at CU
      have hnw : IntKind.u64.wrap (N + cN) = N + cN := by rw [hcN]; exact IntWalk.u64_in _ (by omega)
      have hCL := HI.out.clen
      have hPL := HI.out.plen
      have hLL := HI.out.llen
      have HKK := Lib.hid (And.intro hkk (And.intro hg hz))
      have hbw := HS.out.2 (by omega) b1 o1 none rfl
      have hb1s : ¬ b1 = wr.heap.size := by omega
      have q_0 := BQ.out.c0
      have q_1 := BQ.out.c1
      have q_0f := BQ.out.f0
      have q_1f := BQ.out.f1
      have r_0 := BR.out.c0
      have r_1 := BR.out.c1
      have r_0f := BR.out.f0
      have r_1f := BR.out.f1
      have hqr := cell_lt q_0
      have hqn : ¬ w2.heap.size = wr.heap.size := by omega
      have hrr := cell_lt r_0
      have hrn : ¬ w.heap.size + 1 = wr.heap.size := by omega
      have HPO := Lib.hid (own_rng HP.out)
      have HCO := Lib.hid (own_rng HO.out)
      clear hl_x hc_x hsum hgood hBB hcT hcS hcN hcE hkk hg hz hkl BQ BR
      go_wp2_with fail
      (with_reducible refine (CT.out _).mono ?_)
      rintro e w11 ⟨rfl, hx11⟩
      replace q_0f := zf hx11 q_0 q_0f
      replace q_1f := zf hx11 q_1 q_1f
      replace q_0 := zh hx11 q_0
      replace q_1 := zh hx11 q_1
      replace r_0f := zf hx11 r_0 r_0f
      replace r_1f := zf hx11 r_1 r_1f
      replace r_0 := zh hx11 r_0
      replace r_1 := zh hx11 r_1
      have c0_0 : w11.cell? ⟨wr.heap.size, 0, none⟩ = some (.int .i64 xv) := hx11.has zcv
      have c0_1 : w11.cell? ⟨wr.heap.size, 1, none⟩ = some (.int .i64 xs) := hx11.has zcv
      have c0_2 : w11.cell? ⟨wr.heap.size, 2, none⟩ = some (.int .i64 xp) := hx11.has zcv
      have c0_3 : w11.cell? ⟨wr.heap.size, 3, none⟩ = some (.int .i64 xf) := hx11.has zcv
      have c0_4 : w11.cell? ⟨wr.heap.size, 4, none⟩ = some (.int .u64 xt) := hx11.has zcv
      have c0_5 : w11.cell? ⟨wr.heap.size, 5, none⟩ = some (.int .u64 xh) := hx11.has zcv
      have z11 := hx11.size
      try simp at z11
      have lt_q_c0 : w2.heap.size < wr.heap.size := by omega
      have ne_q_c0 : ¬ w2.heap.size = wr.heap.size := by omega
      have lt_r_c0 : w.heap.size + 1 < wr.heap.size := by omega
      have ne_r_c0 : ¬ w.heap.size + 1 = wr.heap.size := by omega
      have ne_c0_q : ¬ wr.heap.size = w2.heap.size := by omega
      have ne_c0_r : ¬ wr.heap.size = w.heap.size + 1 := by omega
      have rq := zr w2.heap.size w11
      have rr := zr (w.heap.size + 1) w11
      have rc0 := zr wr.heap.size w11
      replace HO := Lib.hid (HO.out.ext (Ext.trans zxt hx11))
      replace HP := Lib.hid (HP.out.ext (Ext.trans zxt hx11))
      replace HL := Lib.hid (HL.out.ext (Ext.trans zxt hx11))
      replace HS := Lib.hid (HS.out.ext (Ext.trans zxt hx11))
      have X11 : Hid (Ext w w11) := Lib.hid (Ext.trans zxt hx11)
      clear x_3 x_5 x_4 x_2 x_1 x_0 XR hx11
      rcases (show BB = false ∨ BB = true from by cases BB <;> simp) with rfl | rfl
      ·have HN := Lib.hid (HI.out.skip HC.out (by first | exact HU.out.1.symm | exact HU.out.1))
       go_wp2_with fail
       go_roundg (gk - 1)
       case measure => have := HKK.out; omega
       case rel => exact ⟨by have := HKK.out; omega, num_eq (by have := HKK.out; omega), B3, B4, A7, d3, d4, c7, CL, PS, LS, N, rfl, rfl, by rw [show cl.length - (gk - 1) = k + 1 from by have := HKK.out; omega]; exact HN, Lib.hid ⟨by first | exact q_0 | (simp [go_sem, World.cell?_alloc_past, *]; done), by first | exact q_0f | (simp [go_sem, World.cell?_alloc_past, *]; done), by first | exact q_1 | (simp [go_sem, World.cell?_alloc_past, *]; done), by first | exact q_1f | (simp [go_sem, World.cell?_alloc_past, *]; done)⟩, Lib.hid ⟨by first | exact r_0 | (simp [go_sem, World.cell?_alloc_past, *]; done), by first | exact r_0f | (simp [go_sem, World.cell?_alloc_past, *]; done), by first | exact r_1 | (simp [go_sem, World.cell?_alloc_past, *]; done), by first | exact r_1f | (simp [go_sem, World.cell?_alloc_past, *]; done)⟩, Lib.hid (HO.out.ext zxt), Lib.hid (HP.out.ext zxt), Lib.hid (HL.out.ext zxt), NC, NP, NL, Lib.hid (HS.out.ext zxt), by first | omega | (simp; done) | (simp; omega), Lib.hid zxt⟩
      ·have HCC := Lib.hid (HI.out.cut HK.out.1.sc HC.out (by first | exact HU.out.1.symm | exact HU.out.1))
       go_wp2_with fail
       (with_reducible refine (CU.out _).mono ?_)
       rintro e w12 ⟨rfl, hx12⟩
       replace q_0f := zf hx12 q_0 q_0f
       replace q_1f := zf hx12 q_1 q_1f
       replace q_0 := zh hx12 q_0
       replace q_1 := zh hx12 q_1
       replace r_0f := zf hx12 r_0 r_0f
       replace r_1f := zf hx12 r_1 r_1f
       replace r_0 := zh hx12 r_0
       replace r_1 := zh hx12 r_1
       replace c0_0 := zh hx12 c0_0
       replace c0_1 := zh hx12 c0_1
       replace c0_2 := zh hx12 c0_2
       replace c0_3 := zh hx12 c0_3
       replace c0_4 := zh hx12 c0_4
       replace c0_5 := zh hx12 c0_5
       have z12 := hx12.size
       try simp at z12
       replace rq := zr w2.heap.size w12
       replace rr := zr (w.heap.size + 1) w12
       replace rc0 := zr wr.heap.size w12
       replace HO := Lib.hid (HO.out.ext (Ext.trans zxt hx12))
       replace HP := Lib.hid (HP.out.ext (Ext.trans zxt hx12))
       replace HL := Lib.hid (HL.out.ext (Ext.trans zxt hx12))
       replace HS := Lib.hid (HS.out.ext (Ext.trans zxt hx12))
       have X12 : Hid (Ext w w12) := Lib.hid (Ext.trans zxt hx12)
       clear X11 hx12
       go_wp2_with fail
       generalize hw6 : w12.alloc (.cells #[.int .u64 cT, .int .u64 cS] 61) = w6
       have hx6 : Ext w12 w6 := by rw [← hw6]; exact (Ext.refl _).alloc _
       have p_0 : w6.cell? ⟨w12.heap.size, 0, none⟩ = some (.int .u64 cT) := by rw [← hw6]; simp [go_sem, World.cell?_alloc_past]
       have p_1 : w6.cell? ⟨w12.heap.size, 1, none⟩ = some (.int .u64 cS) := by rw [← hw6]; simp [go_sem, World.cell?_alloc_past]
       clear hw6
       have hz6 := Ext.size hx6
       replace c0_0 := hx6.has c0_0
       replace c0_1 := hx6.has c0_1
       replace c0_2 := hx6.has c0_2
       replace c0_3 := hx6.has c0_3
       replace c0_4 := hx6.has c0_4
       replace c0_5 := hx6.has c0_5
       replace q_0f := hx6.froz q_0 q_0f
       replace q_0 := hx6.has q_0
       replace q_1f := hx6.froz q_1 q_1f
       replace q_1 := hx6.has q_1
       replace r_0f := hx6.froz r_0 r_0f
       replace r_0 := hx6.has r_0
       replace r_1f := hx6.froz r_1 r_1f
       replace r_1 := hx6.has r_1
       replace HO := Lib.hid (OwnCls.ext HO.out hx6)
       replace HP := Lib.hid (OwnPos.ext HP.out hx6)
       replace HL := Lib.hid (OwnLoss.ext HL.out hx6)
       replace HS := Lib.hid (SlB.ext HS.out hx6)
       have XK := Lib.hid (Ext.trans X12.out hx6)
       have hpw := cell_lt p_0
       clear hx6 X12
       have np := own_apart HP.out HO.out (fun e => cls_pos e.symm)
       have nl := own_apart HL.out HO.out loss_cls
       have nb : ∀ j, (j < w.heap.size + 2 ∨ j = wr.heap.size ∨ j = w12.heap.size) → ¬ (j = w2.heap.size ∨ (Value.slice B3 CL.length d3).ownBlock = some j) := fun j hj hh => by rcases hh with hh | hh; (rcases hj with hj | hj | hj <;> omega); have := HCO.out j hh; (rcases hj with hj | hj | hj <;> omega)
       (with_reducible refine (hbpools_any (w.heap.size + 2) (w2.heap.size) CL.length d3 B3 (.slice B4 PS.length d4) CL xv xs xp xf cT cS w6 ⟨q_0, q_0f, q_1, q_1f⟩ HO.out (by omega) (HI.out.sort HK.out.1.sc) NC.out (by omega)).mono ?_)
       rintro e v7 ⟨rfl, u3, hB3, ho3, hk3, hx7⟩
       obtain ⟨CL2, hCL2⟩ : ∃ l, l = setK kC CL [xv, xs, xp, xf] (optC xv xs xp xf cT cS) := ⟨_, rfl⟩
       rw [← hCL2] at ho3
       obtain ⟨B5, d5, rfl, _, _⟩ := own_parts2 ho3
       have hz7 := hx7.size
       replace c0_0 := hx7.has (nb _ (by omega)) c0_0
       replace c0_1 := hx7.has (nb _ (by omega)) c0_1
       replace c0_2 := hx7.has (nb _ (by omega)) c0_2
       replace c0_3 := hx7.has (nb _ (by omega)) c0_3
       replace c0_4 := hx7.has (nb _ (by omega)) c0_4
       replace c0_5 := hx7.has (nb _ (by omega)) c0_5
       replace r_0f := hx7.froz (nb _ (by omega)) r_0 r_0f
       replace r_0 := hx7.has (nb _ (by omega)) r_0
       replace p_0 := hx7.has (nb _ (by omega)) p_0
       replace r_1f := hx7.froz (nb _ (by omega)) r_1 r_1f
       replace r_1 := hx7.has (nb _ (by omega)) r_1
       replace p_1 := hx7.has (nb _ (by omega)) p_1
       replace HP : Hid (OwnPos v7 (w.heap.size + 2) _ _ _) := Lib.hid (own_but_set HP.out hx7 NP.out np)
       replace HL : Hid (OwnLoss v7 (w.heap.size + 2) _ _ _) := Lib.hid (own_but_set HL.out hx7 NL.out nl)
       have hxe := ext_but XK.out hx7 (fun j hj => by rcases hj with hj | hj; omega; have := HCO.out j hj; omega)
       replace HS : Hid (SlB w.heap.size v7 6 (some ⟨b1, o1, none⟩) cl.length c (cl.flatMap clsC)) := Lib.hid (SlB.but HS.out hx7 (fun j hj => by rcases hj with hj | hj; omega; have := HCO.out j hj; omega))
       have XV := Lib.hid hxe
       have NC2 := Lib.hid (show ∀ j, (Value.slice B5 CL2.length d5).ownBlock = some j → ¬ j = w2.heap.size from fun j hj => by rcases hk3 j hj with hh | hh; exact NC.out j hh; omega)
       replace HO : Hid (OwnCls v7 (w.heap.size + 2) (.slice B5 CL2.length d5) CL2.length CL2) := Lib.hid ho3
       replace q_0 := hB3.c0
       replace q_0f := hB3.f0
       replace q_1 := hB3.c1
       replace q_1f := hB3.f1
       clear ho3 hk3 hx7 hB3 hxe nb np nl XK NC HCO
       by_cases hzz : cT = 0 ∧ cS = 0
       ·have hqr7 := cell_lt q_0
        have hrr7 := cell_lt r_0
        have hkr7 := cell_lt c0_0
        have hpr7 := cell_lt p_0
        have pq1 := pol_eq
        have pq2 := pol_eqg
        obtain ⟨hzt, hzs⟩ := hzz
        have hzb := two_true (a := cT) (b := cS) (a' := 0) (b' := 0) ⟨hzt, hzs⟩
        have HN1 := Lib.hid (HCC.out.1 ⟨HU.out.2.1.symm.trans hzt, HU.out.2.2.1.symm.trans hzs⟩)
        clear hzt hzs
        rw [← HU.out.2.1, ← HU.out.2.2.1, ← HU.out.2.2.2, ← hCL2] at HN1
        obtain ⟨PS2, hPS2⟩ : ∃ l, l = PS.filter (fun x => !decide (stP x = [xv, xs, xp, xf])) := ⟨_, rfl⟩
        rw [← hPS2] at HN1
        have HP2 := Lib.hid hPS2
        have hPL2 : PS2.length ≤ PS.length := by rw [hPS2]; exact List.length_filter_le ..
        clear hPS2
        have hap := NL.out
        go_wp2_with fail
        (with_reducible refine (hDelF_ps 77 #[] #[.pointer (some ⟨wr.heap.size, 0, none⟩)] (fun x => decide (stP x = [xv, xs, xp, xf])) (w.heap.size + 2) PS.length (.slice B4 PS.length d4) PS PS2 _ eg (HP.out.ext zxt) rfl (by omega) HP2.out (fun wx x hx hX => hCut1_call wr.heap.size x xv xs xp xf wx (hX.has (fun hh => by have h9 := HPO.out _ hh; have h8 := NP.out _ hh; omega) c0_0) (hX.has (fun hh => by have h9 := HPO.out _ hh; have h8 := NP.out _ hh; omega) c0_1) (hX.has (fun hh => by have h9 := HPO.out _ hh; have h8 := NP.out _ hh; omega) c0_2) (hX.has (fun hh => by have h9 := HPO.out _ hh; have h8 := NP.out _ hh; omega) c0_3))).mono ?_)
        rintro e w61 ⟨B6, d6, rfl, ho6, hn6, hx61⟩
        have hsz61 := hx61.size
        try simp at hsz61
        replace q_0f := zfb hx61 q_0 q_0f (ne := zSlTba4_3)
        replace q_1f := zfb hx61 q_1 q_1f (ne := zSlTba4_3)
        replace q_0 := zhb hx61 q_0 (ne := zSlTba4_3)
        replace q_1 := zhb hx61 q_1 (ne := zSlTba4_3)
        replace r_0f := zfb hx61 r_0 r_0f (ne := zSlTba4_3)
        replace r_1f := zfb hx61 r_1 r_1f (ne := zSlTba4_3)
        replace r_0 := zhb hx61 r_0 (ne := zSlTba4_3)
        replace r_1 := zhb hx61 r_1 (ne := zSlTba4_3)
        replace c0_0 := zhb hx61 c0_0 (ne := zSlTba4_3)
        replace c0_1 := zhb hx61 c0_1 (ne := zSlTba4_3)
        replace c0_2 := zhb hx61 c0_2 (ne := zSlTba4_3)
        replace c0_3 := zhb hx61 c0_3 (ne := zSlTba4_3)
        have z61 := hx61.size
        try simp at z61
        have lt_q_c0 : w2.heap.size < wr.heap.size := by omega
        have ne_q_c0 : ¬ w2.heap.size = wr.heap.size := by omega
        have lt_r_c0 : w.heap.size + 1 < wr.heap.size := by omega
        have ne_r_c0 : ¬ w.heap.size + 1 = wr.heap.size := by omega
        have ne_c0_q : ¬ wr.heap.size = w2.heap.size := by omega
        have ne_c0_r : ¬ wr.heap.size = w.heap.size + 1 := by omega
        have rq := zr w2.heap.size w61
        have rr := zr (w.heap.size + 1) w61
        have rc0 := zr wr.heap.size w61
        have X61 : Hid (Ext w w61) := Lib.hid (have hX := (show Ext w _ from zxt); Below.trans hX (hx61.below (Ext.size hX) (fun k hk hh => by have h9 := HPO.out _ hh; omega)))
        replace HO := Lib.hid ((HO.out.ext zxt).but hx61 (own_apart HO.out HP.out cls_pos))
        replace HL := Lib.hid ((HL.out.ext zxt).but hx61 (own_apart HL.out HP.out loss_pos))
        replace HS := Lib.hid ((HS.out.ext zxt).but hx61 (fun k hk => by have h9 := HPO.out _ hk; omega))
        clear HP
        have HP := Lib.hid (show OwnPos _ (w.heap.size + 2) _ _ _ from ho6)
        clear c0_4 c0_5 p_1 p_0 hsz61 XV hx61
        have NP2 := Lib.hid (show ∀ j, (Value.slice B6 PS2.length d6).ownBlock = some j → ¬ j = w2.heap.size from fun j hj => by rcases hn6 j hj with hh | hh; exact NP.out j hh; (try simp at hh); omega)
        clear ho6 hn6
        have hap0 := hap
        go_wp2_with (
         at_builtin
         generalize hw8 : w61.setCell ⟨w2.heap.size, 1, none⟩ (.slice B6 PS2.length d6) = v8
         have hb8 : But (· = w2.heap.size) w61 v8 := by rw [← hw8]; exact But.setG (But.refl _ _) _
         have q_1' : v8.cell? ⟨w2.heap.size, 1, none⟩ = some (.slice B6 PS2.length d6) := by rw [← hw8]; simp [go_sem, q_1]
         have q_0' : v8.cell? ⟨w2.heap.size, 0, none⟩ = some (.slice B5 CL2.length d5) := by rw [← hw8]; simp [go_sem, q_0]
         have q_1f' : v8.frozen? ⟨w2.heap.size, 1, none⟩ = false := by rw [← hw8]; simp [go_sem, q_1f]
         have q_0f' : v8.frozen? ⟨w2.heap.size, 0, none⟩ = false := by rw [← hw8]; simp [go_sem, q_0f]
         replace q_0 := q_0'
         replace q_1 := q_1'
         replace q_0f := q_0f'
         replace q_1f := q_1f'
         clear q_0' q_1' q_0f' q_1f'
         replace r_0f := hb8.froz (by show ¬ _ = _; omega) r_0 r_0f
         replace r_1f := hb8.froz (by show ¬ _ = _; omega) r_1 r_1f
         replace r_0 := hb8.has (by show ¬ _ = _; omega) r_0
         replace r_1 := hb8.has (by show ¬ _ = _; omega) r_1
         replace HO := Lib.hid (OwnCls.but HO.out hb8 NC2.out)
         replace HP := Lib.hid (OwnPos.but HP.out hb8 NP2.out)
         replace HL := Lib.hid (OwnLoss.but HL.out hb8 NL.out)
         replace HS := Lib.hid (SlB.but HS.out hb8 (fun j hj => by have h9 : j = w2.heap.size := hj; omega))
         have X8 : Hid (Ext w v8) := Lib.hid (Below.trans X61.out (hb8.below (Ext.size X61.out) (fun k hk hh => by have h9 : k = w2.heap.size := hh; omega)))
         have hz8 := hb8.size
         have HS8 := Lib.hid (show w61.heap.size = v8.heap.size from by rw [← hw8]; simp)
         clear hw8 hb8 X61
         have rq8 : w2.heap.size < v8.heap.size := by omega
         have rqa8 : w2.heap.size < v8.heap.size + 1 := by omega
         have rqb8 : w2.heap.size < v8.heap.size + 1 + 1 := by omega
         have rqc8 : w2.heap.size < v8.heap.size + 1 + 1 + 1 := by omega
         have rqn8 : ¬ w2.heap.size = v8.heap.size := by omega
         have rr8 : w.heap.size + 1 < v8.heap.size := by omega
         have rra8 : w.heap.size + 1 < v8.heap.size + 1 := by omega
         have rrb8 : w.heap.size + 1 < v8.heap.size + 1 + 1 := by omega
         have rrc8 : w.heap.size + 1 < v8.heap.size + 1 + 1 + 1 := by omega
         have rrn8 : ¬ w.heap.size + 1 = v8.heap.size := by omega
         refine wpList_append_slB _ rfl _ _ 33 rfl (w.heap.size + 2) 73 iLoss (.agg #[.int .i64 0, .int .i64 0, .int .i64 0, .int .i64 0, .int .u64 0]) 5 40 Tryz.underlying33 iLoss_0 iLoss_1 iLoss_2 iLoss_3 rfl (by decide) (.slice A7 LS.length c7) LS.length (LS.flatMap lossC) (by rfl) ((HL.out.ext zxt)) _ 1 _ (#[.int .i64 xv, .int .i64 xs, .int .i64 xp, .int .i64 xf, .int .u64 cN].toList) (by first | rfl | (simp [Act.eval, go_sem]; done) | (simp [Act.eval, go_sem]; exact HS8.out)) (sl_new _ 73 5 #[.int .i64 xv, .int .i64 xs, .int .i64 xp, .int .i64 xf, .int .u64 cN] 1 rfl (by decide)) (by intro u hu; simp at hu; rcases hu with rfl | rfl | rfl | rfl | rfl <;> rfl) (by omega) (by decide) (by (try simp); omega) ?_
         intro v62 w62 hown62 hx62 hn62
         refine Hid.out ?_)
        refine Lib.hid ?_
        obtain ⟨A62, c62, rfl, hnil62, hO62⟩ := own_app (f := lossC) (xv, xs, xp, xf, cN) hown62 rfl rfl
        have hap2 : ∀ j, (Value.slice A62 (LS ++ [(xv, xs, xp, xf, cN)]).length c62).ownBlock = some j → ¬ j = w2.heap.size := fun j hj => by rcases hn62 j hj with h9 | h9; exact hap j h9; (try simp at h9); omega
        obtain ⟨L62, hL62⟩ : ∃ l, l = LS ++ [(xv, xs, xp, xf, cN)] := ⟨_, rfl⟩
        rw [← hL62] at hO62 hap2 ⊢
        replace hap := hap2
        clear hap2
        have HL62 := Lib.hid hL62
        have hNL62 : L62.length = LS.length + 1 := by rw [hL62, List.length_append]; rfl
        clear hown62 hn62 hnil62 hL62
        have hsz62 := hx62.size
        try simp at hsz62
        replace q_0f := zfb hx62 q_0 q_0f (ne := zSlTba4_1)
        replace q_1f : w62.frozen? ⟨w2.heap.size, 1, none⟩ = false := hx62.froz zSlTba4_1 (v := .slice B6 PS2.length d6) zcv zcv
        replace q_0 := zhb hx62 q_0 (ne := zSlTba4_1)
        replace q_1 : w62.cell? ⟨w2.heap.size, 1, none⟩ = some (.slice B6 PS2.length d6) := hx62.has zSlTba4_1 zcv
        replace r_0f := zfb hx62 r_0 r_0f (ne := zSlTba4_1)
        replace r_1f := zfb hx62 r_1 r_1f (ne := zSlTba4_1)
        replace r_0 := zhb hx62 r_0 (ne := zSlTba4_1)
        replace r_1 := zhb hx62 r_1 (ne := zSlTba4_1)
        have z62 := hx62.size
        try simp at z62
        replace rq := zr w2.heap.size w62
        replace rr := zr (w.heap.size + 1) w62
        have X62 : Hid (Ext w w62) := Lib.hid (have hX := (show Ext w _ from zxt); Below.trans hX (hx62.below (Ext.size hX) (fun k hk hh => by have hh2 := own_rng HL.out _ hh; omega)))
        replace HO := Lib.hid ((HO.out.ext zxt).but hx62 (own_apart HO.out HL.out (fun e => loss_cls e.symm)))
        replace HS := Lib.hid ((HS.out.ext zxt).but hx62 (fun k hk => by have hh2 := own_rng HL.out _ hk; omega))
        replace HP := Lib.hid ((HP.out.ext zxt).but hx62 (own_apart HP.out HL.out (fun e => loss_pos e.symm)))
        clear HL
        have HL := Lib.hid (show OwnLoss _ (w.heap.size + 2) _ _ _ from hO62)
        clear c0_0 c0_2 c0_3 c0_1 rc0 hsz62 X8 hx62
        clear hap0
        clear hO62
        go_wp2_with fail
        go_roundg (gk - 1)
        case measure => have := HKK.out; omega
        case rel => exact ⟨by have := HKK.out; omega, num_eq (by have := HKK.out; omega), B5, B6, A62, d5, d6, c62, CL2, PS2, L62, (N + cN), rfl, rfl, by rw [show cl.length - (gk - 1) = k + 1 from by have := HKK.out; omega]; exact (by rw [HL62.out]; exact HN1), Lib.hid ⟨by first | exact q_0 | (simp [go_sem, World.cell?_alloc_past, *]; done), by first | exact q_0f | (simp [go_sem, World.cell?_alloc_past, *]; done), by first | exact q_1 | (simp [go_sem, World.cell?_alloc_past, *]; done), by first | exact q_1f | (simp [go_sem, World.cell?_alloc_past, *]; done)⟩, Lib.hid ⟨by first | exact r_0 | (simp [go_sem, World.cell?_alloc_past, *]; done), by first | exact r_0f | (simp [go_sem, World.cell?_alloc_past, *]; done), by first | exact r_1 | (simp [go_sem, World.cell?_alloc_past, *]; done), by first | exact r_1f | (simp [go_sem, World.cell?_alloc_past, *]; done)⟩, Lib.hid (HO.out.ext zxt), Lib.hid (HP.out.ext zxt), Lib.hid (HL.out.ext zxt), NC2, NP2, Lib.hid hap, Lib.hid (HS.out.ext zxt), by first | omega | (simp; done) | (simp; omega), Lib.hid zxt⟩
       ·have hqr7 := cell_lt q_0
        have hrr7 := cell_lt r_0
        have hkr7 := cell_lt c0_0
        have hpr7 := cell_lt p_0
        have pq1 := pol_eq
        have pq2 := pol_eqg
        have hzb := two_false hzz
        have HN1 := Lib.hid (HCC.out.2 (by rw [← HU.out.2.1, ← HU.out.2.2.1]; exact hzz))
        clear hzz
        rw [← HU.out.2.1, ← HU.out.2.2.1, ← HU.out.2.2.2, ← hCL2] at HN1
        have hap := NL.out
        have hap0 := hap
        go_wp2_with (at_builtin; refine wpList_append_slB _ rfl _ _ 33 rfl (w.heap.size + 2) 73 iLoss (.agg #[.int .i64 0, .int .i64 0, .int .i64 0, .int .i64 0, .int .u64 0]) 5 40 Tryz.underlying33 iLoss_0 iLoss_1 iLoss_2 iLoss_3 rfl (by decide) (.slice A7 LS.length c7) LS.length (LS.flatMap lossC) (by rfl) ((HL.out.ext zxt)) _ 1 _ (#[.int .i64 xv, .int .i64 xs, .int .i64 xp, .int .i64 xf, .int .u64 cN].toList) (by first | rfl | (simp [Act.eval, go_sem]; done)) (sl_new _ 73 5 #[.int .i64 xv, .int .i64 xs, .int .i64 xp, .int .i64 xf, .int .u64 cN] 1 rfl (by decide)) (by intro u hu; simp at hu; rcases hu with rfl | rfl | rfl | rfl | rfl <;> rfl) (by omega) (by decide) (by (try simp); omega) ?_; intro v61 w61 hown61 hx61 hn61; refine Hid.out ?_)
        refine Lib.hid ?_
        obtain ⟨A61, c61, rfl, hnil61, hO61⟩ := own_app (f := lossC) (xv, xs, xp, xf, cN) hown61 rfl rfl
        have hap2 : ∀ j, (Value.slice A61 (LS ++ [(xv, xs, xp, xf, cN)]).length c61).ownBlock = some j → ¬ j = w2.heap.size := fun j hj => by rcases hn61 j hj with h9 | h9; exact hap j h9; (try simp at h9); omega
        obtain ⟨L61, hL61⟩ : ∃ l, l = LS ++ [(xv, xs, xp, xf, cN)] := ⟨_, rfl⟩
        rw [← hL61] at hO61 hap2 ⊢
        replace hap := hap2
        clear hap2
        have HL61 := Lib.hid hL61
        have hNL61 : L61.length = LS.length + 1 := by rw [hL61, List.length_append]; rfl
        clear hown61 hn61 hnil61 hL61
        have hsz61 := hx61.size
        try simp at hsz61
        replace q_0f := zfb hx61 q_0 q_0f (ne := zSlTba4_1)
        replace q_1f := zfb hx61 q_1 q_1f (ne := zSlTba4_1)
        replace q_0 := zhb hx61 q_0 (ne := zSlTba4_1)
        replace q_1 := zhb hx61 q_1 (ne := zSlTba4_1)
        replace r_0f := zfb hx61 r_0 r_0f (ne := zSlTba4_1)
        replace r_1f := zfb hx61 r_1 r_1f (ne := zSlTba4_1)
        replace r_0 := zhb hx61 r_0 (ne := zSlTba4_1)
        replace r_1 := zhb hx61 r_1 (ne := zSlTba4_1)
        have z61 := hx61.size
        try simp at z61
        have rq := zr w2.heap.size w61
        have rr := zr (w.heap.size + 1) w61
        have X61 : Hid (Ext w w61) := Lib.hid (have hX := (show Ext w _ from zxt); Below.trans hX (hx61.below (Ext.size hX) (fun k hk hh => by have hh2 := own_rng HL.out _ hh; omega)))
        replace HO := Lib.hid ((HO.out.ext zxt).but hx61 (own_apart HO.out HL.out (fun e => loss_cls e.symm)))
        replace HP := Lib.hid ((HP.out.ext zxt).but hx61 (own_apart HP.out HL.out (fun e => loss_pos e.symm)))
        replace HS := Lib.hid ((HS.out.ext zxt).but hx61 (fun k hk => by have hh2 := own_rng HL.out _ hk; omega))
        clear HL
        have HL := Lib.hid (show OwnLoss _ (w.heap.size + 2) _ _ _ from hO61)
        clear c0_4 c0_0 c0_2 c0_3 c0_5 c0_1 p_1 p_0 hsz61 XV hx61
        clear hap0
        clear hO61
        go_wp2_with fail
        go_roundg (gk - 1)
        case measure => have := HKK.out; omega
        case rel => exact ⟨by have := HKK.out; omega, num_eq (by have := HKK.out; omega), B5, B4, A61, d5, d4, c61, CL2, PS, L61, (N + cN), rfl, rfl, by rw [show cl.length - (gk - 1) = k + 1 from by have := HKK.out; omega]; exact (by rw [HL61.out]; exact HN1), Lib.hid ⟨by first | exact q_0 | (simp [go_sem, World.cell?_alloc_past, *]; done), by first | exact q_0f | (simp [go_sem, World.cell?_alloc_past, *]; done), by first | exact q_1 | (simp [go_sem, World.cell?_alloc_past, *]; done), by first | exact q_1f | (simp [go_sem, World.cell?_alloc_past, *]; done)⟩, Lib.hid ⟨by first | exact r_0 | (simp [go_sem, World.cell?_alloc_past, *]; done), by first | exact r_0f | (simp [go_sem, World.cell?_alloc_past, *]; done), by first | exact r_1 | (simp [go_sem, World.cell?_alloc_past, *]; done), by first | exact r_1f | (simp [go_sem, World.cell?_alloc_past, *]; done)⟩, Lib.hid (HO.out.ext zxt), Lib.hid (HP.out.ext zxt), Lib.hid (HL.out.ext zxt), NC2, NP, Lib.hid hap, Lib.hid (HS.out.ext zxt), by first | omega | (simp; done) | (simp; omega), Lib.hid zxt⟩
end
section
open Go.RowKit Go.ChangeShapes Go.WideShapes Go.Deep Go.Joins
theorem RetJ.ex {C P : List I6} {N E : Int} {w w' : World} {e : Ending} (h : RetJ (C, P, N, E) w e w') : ∃ B d B2 d2, e = .returned (.tuple #[.agg #[.slice B C.length d, .slice B2 P.length d2], .int .u64 N, .int .i64 E]) ∧ OwnCls w' w.heap.size (.slice B C.length d) C.length C ∧ OwnPos w' w.heap.size (.slice B2 P.length d2) P.length P ∧ Ext w w' := by
 obtain ⟨v, h1, B, d, B2, d2, rfl, h2, h3, h4, h5, h6⟩ := h
 exact ⟨B, d, B2, d2, h1, h4, h5, h6⟩
theorem RetK.ex {C P : List I6} {L : List I5} {N E : Int} {w w' : World} {e : Ending} (h : RetK (C, P, L, N, E) w e w') : ∃ B d B2 d2 A c, e = .returned (.tuple #[.agg #[.slice B C.length d, .slice B2 P.length d2], .slice A L.length c, .int .u64 N, .int .i64 E]) ∧ OwnCls w' w.heap.size (.slice B C.length d) C.length C ∧ OwnPos w' w.heap.size (.slice B2 P.length d2) P.length P ∧ OwnLoss w' w.heap.size (.slice A L.length c) L.length L ∧ Ext w w' := by
 obtain ⟨v, A, c, h1, h0, ⟨B, d, B2, d2, rfl, h2, h3, h4, h5, h6⟩, h7⟩ := h
 exact ⟨B, d, B2, d2, A, c, h1, h4, h5, h7, h6⟩
def RetD (C P : List I6) (N : Int) (L : List I5) (E : Int) (w : World) (e : Ending) (w' : World) : Prop := ∃ B d B2 d2 A c, e = .returned (.tuple #[.agg #[.slice B C.length d, .slice B2 P.length d2], .int .u64 N, .slice A L.length c, .int .i64 E]) ∧ (B = none → d = 0) ∧ (B2 = none → d2 = 0) ∧ OwnCls w' w.heap.size (.slice B C.length d) C.length C ∧ OwnPos w' w.heap.size (.slice B2 P.length d2) P.length P ∧ OwnLoss w' w.heap.size (.slice A L.length c) L.length L ∧ Ext w w'
theorem RetD.mk {C P : List I6} {N E : Int} {L : List I5} {w w' : World} {b d d2 c : Nat} {B B2 A : Option Addr} (hb : w.heap.size ≤ b) (h : w'.ownsRow b 79 6 (.slice B C.length d) C.length (C.flatMap clsC)) (h2 : w'.ownsRow b 82 6 (.slice B2 P.length d2) P.length (P.flatMap posC)) (h3 : w'.ownsRow b 73 5 (.slice A L.length c) L.length (L.flatMap lossC)) (hx : Ext w w') : RetD C P N L E w (.returned (.tuple #[.agg #[.slice B C.length d, .slice B2 P.length d2], .int .u64 N, .slice A L.length c, .int .i64 E])) w' := by
 obtain ⟨A', c', e, h4, _⟩ := own_parts2 h
 obtain ⟨rfl, rfl⟩ : B = A' ∧ d = c' := by simpa using e
 obtain ⟨A'', c'', e2, h5, _⟩ := own_parts2 h2
 obtain ⟨rfl, rfl⟩ : B2 = A'' ∧ d2 = c'' := by simpa using e2
 exact ⟨_, _, _, _, _, _, rfl, h4, h5, own_lower h hb, own_lower h2 hb, own_lower h3 hb, hx⟩
theorem large13_any (n c n2 c2 : Nat) (A A2 : Option Addr) (w : World) :
  Calls Tryz.prog 11 #[.agg #[.slice A n c, .slice A2 n2 c2]] w fun r w' => r = .returned (.bool (decide (60 < (n : Int)) || decide (80 < (n2 : Int)))) ∧ Ext w w' := by
 by_cases h1 : 60 < (n : Int)
 ·have h1d : decide (60 < (n : Int)) = true := decide_eq_true h1
  rw [h1d, Bool.true_or]
  go_enter Tryz.func11, Tryz.ntmps11
  go_wp2
  go_ret
  exact ⟨rfl, zxt⟩
 ·have h1d : decide (60 < (n : Int)) = false := decide_eq_false h1
  rw [h1d, Bool.false_or]
  go_enter Tryz.func11, Tryz.ntmps11
  go_wp2
  go_ret
  exact ⟨rfl, zxt⟩
theorem does13_join (c c2 : Nat) (A A2 : Option Addr) (cl ps : List I6) (k o V S P Q v h n : Int) (C P' : List I6) (N E : Int) (L : List I5) (w : World) (hs : Sl w 6 A cl.length c (cl.flatMap clsC)) (hs2 : Sl w 6 A2 ps.length c2 (ps.flatMap posC)) (hn : cl.length < 1099511627776) (hn2 : ps.length < 1099511000) (hA : A = none → c = 0) (hA2 : A2 = none → c2 = 0) (hw : ∀ x ∈ cl, WdC x) (hw2 : ∀ x ∈ ps, WdP x) (hwn : Word n) (hk : k = 0) (hR : (C, P', N, E) = hjoiV cl ps o V S P Q n) (hL : L = []) :
  Calls Tryz.prog 16 #[.agg #[.slice A cl.length c, .slice A2 ps.length c2], .agg #[.int .i64 k, .int .i64 o, .int .i64 V, .int .i64 S, .int .i64 P, .int .i64 Q, .int .i64 v, .int .i64 h, .int .u64 n]] w (RetD C P' N L E w) := by
 have C1 := Lib.hid (fun (w' : World) (hx : Ext w w') => (hJoin_any c c2 A A2 cl ps o V S P Q n w' (hs.ext hx) (hs2.ext hx) hn (by omega) hA hA2 hw hw2 hwn).mono (fun e w'' H => RetJ.ex (C := C) (P := P') (N := N) (E := E) (by rw [hR]; exact H)))
 subst hk
 subst hL
 clear hs hs2 hw hw2 hwn hR
 go_enter Tryz.func16, Tryz.ntmps16
 go_wp2_with fail
 (with_reducible refine (C1.out _ zxt).mono ?_)
 rintro e w1 ⟨B, d, B2, d2, rfl, hO, hP, hx1⟩
 have c2_0f : w1.frozen? ⟨w.heap.size + 1 + 1, 0, none⟩ = false := hx1.froz (v := .slice none 0 0) zcv zcv
 have c2_1f : w1.frozen? ⟨w.heap.size + 1 + 1, 1, none⟩ = false := hx1.froz (v := .slice none 0 0) zcv zcv
 have c2_0 : w1.cell? ⟨w.heap.size + 1 + 1, 0, none⟩ = some (.slice none 0 0) := hx1.has zcv
 have c2_1 : w1.cell? ⟨w.heap.size + 1 + 1, 1, none⟩ = some (.slice none 0 0) := hx1.has zcv
 have z1 := hx1.size
 try simp at z1
 have rc2 := zr (w.heap.size + 1 + 1) w1
 have X1 : Hid (Ext w w1) := Lib.hid (Ext.trans zxt hx1)
 have HO := Lib.hid (show OwnCls _ w.heap.size _ _ _ from own_lower hO zSlTba4_2)
 have HP := Lib.hid (show OwnPos _ w.heap.size _ _ _ from own_lower hP zSlTba4_2)
 clear hx1
 have HOw := Lib.hid (own_lower hO (show w.heap.size + 3 ≤ _ from zSlTba4_2))
 have HPw := Lib.hid (own_lower hP (show w.heap.size + 3 ≤ _ from zSlTba4_2))
 clear hO hP
 go_wp2_with fail
 refine bodyPost_ret (v := .tuple #[.agg #[.slice B C.length d, .slice B2 P'.length d2], .int .u64 N, .slice none 0 0, .int .i64 E]) (by simp [results, Tryz.results16, go_sem, World.cell?_alloc_past, *]; try rfl) rfl (RetD.mk (L := []) (b := w.heap.size + 3) (by omega) (show World.ownsRow _ (w.heap.size + 3) _ _ _ _ _ from by repeat (first | exact HOw.out | with_reducible refine own_box ?_ (by omega) | refine own_keep ?_ (Ext.alloc (Ext.refl _) _))) (show World.ownsRow _ (w.heap.size + 3) _ _ _ _ _ from by repeat (first | exact HPw.out | with_reducible refine own_box ?_ (by omega) | refine own_keep ?_ (Ext.alloc (Ext.refl _) _))) (OwnLoss.nil _ _) zxt)
end
section
open Go.RowKit Go.ChangeShapes Go.WideShapes Go.Deep Go.Joins
theorem kP_eq {o a b c d t O V S P Q : Int} (h0 : o = O) (h : a = V ∧ b = S ∧ c = P ∧ d = Q) : kP (o, a, b, c, d, t) = [O, V, S, P, Q] := by simp [kP, h, h0]
theorem kP_ne {o a b c d t O V S P Q : Int} (h : ¬ (o = O ∧ a = V ∧ b = S ∧ c = P ∧ d = Q)) : kP (o, a, b, c, d, t) ≠ [O, V, S, P, Q] := by simp [kP]; intro h0 h1 h2 h3 h4; exact h ⟨h0, h1, h2, h3, h4⟩
end
section
open Go.RowKit Go.ChangeShapes Go.WideShapes Go.Deep Go.Joins
theorem own_set_ne {w : World} {base n sz q o : Nat} {e : TypeId} {v u : Value} {xs : List Value} (h : w.ownsRow base e sz v n xs) (hq : ∀ j, v.ownBlock = some j → ¬ j = q) : (w.setCell ⟨q, o, none⟩ u).ownsRow base e sz v n xs := own_but1Word h (But.setG (g := q) (But.refl _ _) u) (fun j hj hh => hq j hj hh)
theorem SlB.set {B : Nat} {w : World} {sz n c q o : Nat} {A : Option Addr} {xs : List Value} {u : Value} (h : SlB B w sz A n c xs) (hq : B ≤ q) : SlB B (w.setCell ⟨q, o, none⟩ u) sz A n c xs := SlB.but h (But.setG (g := q) (But.refl _ _) u) (fun j hj => by have h9 : j = q := hj; omega)
theorem kSameHolding_any (n c n2 c2 m d m2 d2 : Nat) (A A2 B B2 : Option Addr) (cl ps cl' ps' : List I6) (w : World) (h : Sl w 6 A n c (cl.flatMap clsC)) (h2 : Sl w 6 A2 n2 c2 (ps.flatMap posC)) (h3 : Sl w 6 B m d (cl'.flatMap clsC)) (h4 : Sl w 6 B2 m2 d2 (ps'.flatMap posC)) :
  Calls Tryz.prog 18 #[.agg #[.slice A n c, .slice A2 n2 c2], .agg #[.slice B m d, .slice B2 m2 d2]] w fun r w' => r = .returned (.bool (decide (cl = cl') && decide (ps = ps'))) ∧ Ext w w' := by
 have C1 := Lib.hid (fun (w' : World) (hx : Ext w w') => kSameClasses_any A B n c m d cl cl' w' (h.ext hx) (h3.ext hx))
 have C2 := Lib.hid (fun (w' : World) (hx : Ext w w') => kSamePositions_any A2 B2 n2 c2 m2 d2 ps ps' w' (h2.ext hx) (h4.ext hx))
 obtain ⟨b1, hb1⟩ : ∃ b, b = decide (cl = cl') := ⟨_, rfl⟩
 obtain ⟨b2, hb2⟩ : ∃ b, b = decide (ps = ps') := ⟨_, rfl⟩
 rw [← hb1] at C1
 rw [← hb2] at C2
 rw [← hb1, ← hb2]
 clear h h2 h3 h4 hb1 hb2
 go_enter Tryz.func18, Tryz.ntmps18
 rcases Bool.eq_false_or_eq_true b1 with h | h <;> subst h
 ·go_wp2_with fail
  (with_reducible refine (C1.out _ zxt).mono ?_)
  rintro e w1 ⟨rfl, hx1⟩
  have c0_1 : w1.cell? ⟨w.heap.size, 1, none⟩ = some (.slice A2 n2 c2) := hx1.has zcv
  have c1_1 : w1.cell? ⟨w.heap.size + 1, 1, none⟩ = some (.slice B2 m2 d2) := hx1.has zcv
  have z1 := hx1.size
  try simp at z1
  have lt_c0_c1 : w.heap.size < w.heap.size + 1 := by omega
  have ne_c0_c1 : ¬ w.heap.size = w.heap.size + 1 := by omega
  have ne_c1_c0 : ¬ w.heap.size + 1 = w.heap.size := by omega
  have rc0 := zr w.heap.size w1
  have rc1 := zr (w.heap.size + 1) w1
  have X1 : Hid (Ext w w1) := Lib.hid (Ext.trans zxt hx1)
  clear hx1 z1
  go_wp2_with fail
  (with_reducible refine (C2.out _ zxt).mono ?_)
  rintro e w2 ⟨rfl, hx2⟩
  have z2 := hx2.size
  try simp at z2
  have X2 : Hid (Ext w w2) := Lib.hid (Ext.trans zxt hx2)
  clear c0_1 c1_1 rc0 rc1 X1 hx2 z2
  go_wp2_with fail
  go_ret
  exact ⟨by simp, zxt⟩
 ·go_wp2_with fail
  (with_reducible refine (C1.out _ zxt).mono ?_)
  rintro e w1 ⟨rfl, hx1⟩
  have c0_1 : w1.cell? ⟨w.heap.size, 1, none⟩ = some (.slice A2 n2 c2) := hx1.has zcv
  have c1_1 : w1.cell? ⟨w.heap.size + 1, 1, none⟩ = some (.slice B2 m2 d2) := hx1.has zcv
  have z1 := hx1.size
  try simp at z1
  have lt_c0_c1 : w.heap.size < w.heap.size + 1 := by omega
  have ne_c0_c1 : ¬ w.heap.size = w.heap.size + 1 := by omega
  have ne_c1_c0 : ¬ w.heap.size + 1 = w.heap.size := by omega
  have rc0 := zr w.heap.size w1
  have rc1 := zr (w.heap.size + 1) w1
  have X1 : Hid (Ext w w1) := Lib.hid (Ext.trans zxt hx1)
  clear hx1 z1
  go_wp2_with fail
  go_ret
  exact ⟨by simp, zxt⟩
end
section
open Go.RowKit Go.ChangeShapes Go.WideShapes Go.Deep Go.Joins
def chC : Nat → List I6
 | 0 => []
 | 1 => [(2, 5, -1, 0, 10, 10)]
 | 2 => [(2, 5, -1, 0, 20, 20)]
 | _ => [(2, 5, -1, 0, 20, 20), (3, 6, -1, 0, 7, 7)]
def chP : Nat → List I6
 | 0 => []
 | 1 => [(0, 2, 5, -1, 0, 10)]
 | 2 => [(0, 2, 5, -1, 0, 10), (1, 2, 5, -1, 0, 10)]
 | _ => [(0, 2, 5, -1, 0, 10), (1, 2, 5, -1, 0, 10), (1, 3, 6, -1, 0, 7)]
def chA : List Value := [.int .i64 0, .int .i64 0, .int .i64 2, .int .i64 5, .int .i64 (-1), .int .i64 0, .int .i64 0, .int .i64 0, .int .u64 10, .int .i64 0, .int .i64 1, .int .i64 2, .int .i64 5, .int .i64 (-1), .int .i64 0, .int .i64 0, .int .i64 0, .int .u64 10, .int .i64 0, .int .i64 1, .int .i64 3, .int .i64 6, .int .i64 (-1), .int .i64 0, .int .i64 0, .int .i64 0, .int .u64 7]
def ArrA (W : World) (q : Nat) : Prop := ∀ (j : Nat) (v : Value), chA[j]? = some v → W.cell? ⟨q, j, none⟩ = some v
theorem ArrA.ext {W W' : World} {q : Nat} (h : ArrA W q) (hx : Ext W W') : ArrA W' q := fun j v hv => hx.has (h j v hv)
theorem ArrA.set {W : World} {q b o : Nat} {u : Value} (h : ArrA W q) (hb : ¬ q = b) : ArrA (W.setCell ⟨b, o, none⟩ u) q := fun j v hv => (But.setG (g := b) (But.refl (· = b) W) u).has (fun e => hb e) (h j v hv)
theorem cho13_0 : (chC 1, chP 1, (10 : Int), (0 : Int)) = hjoiV (chC 0) (chP 0) 0 2 5 (-1) 0 10 := by first | kernel_rfl | rfl
theorem cho13_1 : (chC 2, chP 2, (10 : Int), (0 : Int)) = hjoiV (chC 1) (chP 1) 1 2 5 (-1) 0 10 := by first | kernel_rfl | rfl
theorem cho13_2 : (chC 3, chP 3, (7 : Int), (0 : Int)) = hjoiV (chC 2) (chP 2) 1 3 6 (-1) 0 7 := by first | kernel_rfl | rfl
theorem ch_wd (k : Nat) (hk : k ≤ 3) : (∀ x ∈ chC k, WdC x) ∧ (∀ x ∈ chP k, WdP x) ∧ (chC k).length ≤ 2 ∧ (chP k).length ≤ 3 := by
 have hcase : k = 0 ∨ k = 1 ∨ k = 2 ∨ k = 3 := by omega
 unfold WdC WdP Word
 rcases hcase with rfl | rfl | rfl | rfl <;> decide
theorem at13_any (v h : Int) (w : World) : Calls Tryz.prog 26 #[.int .i64 v, .int .i64 h] w fun r w' => r = .returned (.agg #[.int .i64 v, .int .i64 h, .int .i64 (-1), .int .i64 0]) ∧ Ext w w' := by
 go_enter Tryz.func26, Tryz.ntmps26
 go_wp2_with fail
 refine bodyPost_ret (v := .agg #[.int .i64 v, .int .i64 h, .int .i64 (-1), .int .i64 0]) (by simp [results, Tryz.results26, go_sem, World.cell?_alloc_past]; try rfl) rfl ⟨rfl, ?_⟩
 exact zxt
theorem chapter13_any (w : World) : Calls Tryz.prog 22 #[] w fun r w' => ∃ B d B2 d2, r = .returned (.tuple #[.agg #[.slice B 2 d, .slice B2 3 d2], .bool true]) ∧ (B = none → d = 0) ∧ (B2 = none → d2 = 0) ∧ OwnCls w' w.heap.size (.slice B 2 d) 2 (chC 3) ∧ OwnPos w' w.heap.size (.slice B2 3 d2) 3 (chP 3) ∧ Ext w w' := by
 go_enter Tryz.func22, Tryz.ntmps22
 go_wp2_with fail
 (with_reducible refine (at13_any 2 5 _).mono ?_)
 rintro e w1 ⟨rfl, hx1⟩
 have c0_0f : w1.frozen? ⟨w.heap.size, 0, none⟩ = false := hx1.froz (v := .slice none 0 0) zcv zcv
 have c0_1f : w1.frozen? ⟨w.heap.size, 1, none⟩ = false := hx1.froz (v := .slice none 0 0) zcv zcv
 have c0_0 : w1.cell? ⟨w.heap.size, 0, none⟩ = some (.slice none 0 0) := hx1.has zcv
 have c0_1 : w1.cell? ⟨w.heap.size, 1, none⟩ = some (.slice none 0 0) := hx1.has zcv
 have c1_0f : w1.frozen? ⟨w.heap.size + 1, 0, none⟩ = false := hx1.froz (v := .slice none 0 0) zcv zcv
 have c1_1f : w1.frozen? ⟨w.heap.size + 1, 1, none⟩ = false := hx1.froz (v := .slice none 0 0) zcv zcv
 have c1_0 : w1.cell? ⟨w.heap.size + 1, 0, none⟩ = some (.slice none 0 0) := hx1.has zcv
 have c1_1 : w1.cell? ⟨w.heap.size + 1, 1, none⟩ = some (.slice none 0 0) := hx1.has zcv
 have z1 := hx1.size
 try simp at z1
 have lt_c0_c1 : w.heap.size < w.heap.size + 1 := by omega
 have ne_c0_c1 : ¬ w.heap.size = w.heap.size + 1 := by omega
 have ne_c1_c0 : ¬ w.heap.size + 1 = w.heap.size := by omega
 have rc0 := zr w.heap.size w1
 have rc1 := zr (w.heap.size + 1) w1
 have X1 : Hid (Ext w w1) := Lib.hid (Ext.trans zxt hx1)
 clear hx1
 go_wp2_with fail
 (with_reducible refine (at13_any 2 5 _).mono ?_)
 rintro e w2 ⟨rfl, hx2⟩
 replace c0_0f := zf hx2 c0_0 c0_0f
 replace c0_1f := zf hx2 c0_1 c0_1f
 replace c0_0 := zh hx2 c0_0
 replace c0_1 := zh hx2 c0_1
 replace c1_0f := zf hx2 c1_0 c1_0f
 replace c1_1f := zf hx2 c1_1 c1_1f
 replace c1_0 := zh hx2 c1_0
 replace c1_1 := zh hx2 c1_1
 have z2 := hx2.size
 try simp at z2
 replace rc0 := zr w.heap.size w2
 replace rc1 := zr (w.heap.size + 1) w2
 have X2 : Hid (Ext w w2) := Lib.hid (Ext.trans zxt hx2)
 clear X1 hx2
 go_wp2_with fail
 (with_reducible refine (at13_any 3 6 _).mono ?_)
 rintro e w3 ⟨rfl, hx3⟩
 replace c0_0f := zf hx3 c0_0 c0_0f
 replace c0_1f := zf hx3 c0_1 c0_1f
 replace c0_0 := zh hx3 c0_0
 replace c0_1 := zh hx3 c0_1
 replace c1_0f := zf hx3 c1_0 c1_0f
 replace c1_1f := zf hx3 c1_1 c1_1f
 replace c1_0 := zh hx3 c1_0
 replace c1_1 := zh hx3 c1_1
 have z3 := hx3.size
 try simp at z3
 replace rc0 := zr w.heap.size w3
 replace rc1 := zr (w.heap.size + 1) w3
 have X3 : Hid (Ext w w3) := Lib.hid (Ext.trans zxt hx3)
 clear X2 hx3
 go_wp2_with fail
 obtain ⟨QQ, hQ⟩ : ∃ q, q = w3.heap.size := ⟨_, rfl⟩
 have hQw : w.heap.size + 2 ≤ QQ := by omega
 rw [← hQ]
 go_loopg [4] 3 (fun gh i wx => gh ≤ 3 ∧ i = .int .i64 ((3 - gh : Nat) : Int) ∧ ∃ (B B2 : Option Addr) (d d2 : Nat), Hid (Bk wx (w.heap.size) (.slice none 0 0) (.slice none 0 0)) ∧ Hid (Bk wx (w.heap.size + 1) (.slice B (chC (3 - gh)).length d) (.slice B2 (chP (3 - gh)).length d2)) ∧ (B = none → d = 0) ∧ (B2 = none → d2 = 0) ∧ Hid (OwnCls wx (w.heap.size + 2) (.slice B (chC (3 - gh)).length d) (chC (3 - gh)).length (chC (3 - gh))) ∧ Hid (OwnPos wx (w.heap.size + 2) (.slice B2 (chP (3 - gh)).length d2) (chP (3 - gh)).length (chP (3 - gh))) ∧ Hid (∀ j v, chA[j]? = some v → wx.cell? ⟨QQ, j, none⟩ = some v) ∧ QQ < wx.heap.size ∧ Hid (Ext w wx))
 case atStart => exact ⟨Nat.le_refl _, by simp, none, none, 0, 0, Lib.hid ⟨zcv, zcv, zcv, zcv⟩, Lib.hid (show Bk _ _ (.slice none 0 0) (.slice none 0 0) from (Lib.hid ⟨zcv, zcv, zcv, zcv⟩).out), fun _ => rfl, fun _ => rfl, Lib.hid (OwnCls.nil _ _), Lib.hid (OwnPos.nil _ _), Lib.hid (by subst hQ; intro j v hv; have := sl_new w3 39 9 chA.toArray 3 rfl (by decide); obtain ⟨b9, o9, e9, _, h9⟩ := this.at_ (by decide); obtain ⟨rfl, rfl⟩ : w3.heap.size = b9 ∧ 0 = o9 := (by simpa using e9); have h8 := h9 j v hv; rw [Nat.zero_add] at h8; exact h8), by subst hQ; simp, Lib.hid zxt⟩
 case round =>
  subst hQ
  obtain ⟨hg, hi, B, B2, d, d2, BR, BH, hB, hB2, HO, HP, HA, hQr, XR⟩ := hrel
  have r_0 := BR.out.c0
  have r_1 := BR.out.c1
  have r_0f := BR.out.f0
  have r_1f := BR.out.f1
  have h_0 := BH.out.c0
  have h_1 := BH.out.c1
  have h_0f := BH.out.f0
  have h_1f := BH.out.f1
  have hlr := cell_lt r_0
  have hlh := cell_lt h_0
  have hnr : ¬ w.heap.size = wr.heap.size := by omega
  have hnh : ¬ w.heap.size + 1 = wr.heap.size := by omega
  have hnq : ¬ w3.heap.size = wr.heap.size := by omega
  have hcase : gk = 0 ∨ gk = 3 ∨ gk = 2 ∨ gk = 1 := by omega
  clear BR BH
  rcases hcase with rfl | rfl | rfl | rfl
  ·change _ = Value.int .i64 3 at hi
   obtain rfl := hi
   change Hid (OwnCls _ _ (.slice B (chC 3).length d) _ (chC 3)) at HO
   change Hid (OwnPos _ _ (.slice B2 (chP 3).length d2) _ (chP 3)) at HP
   change wr.cell? _ = some (.slice B (chC 3).length d) at h_0
   change wr.cell? _ = some (.slice B2 (chP 3).length d2) at h_1
   go_wp2_with fail
   (with_reducible refine (at13_any 2 5 _).mono ?_)
   rintro e w11 ⟨rfl, hx11⟩
   replace r_0f := zf hx11 r_0 r_0f
   replace r_1f := zf hx11 r_1 r_1f
   replace r_0 := zh hx11 r_0
   replace r_1 := zh hx11 r_1
   replace h_0f := zf hx11 h_0 h_0f
   replace h_1f := zf hx11 h_1 h_1f
   replace h_0 := zh hx11 h_0
   replace h_1 := zh hx11 h_1
   have z11 := hx11.size
   try simp at z11
   have rr := zr w.heap.size w11
   have rh := zr (w.heap.size + 1) w11
   replace HO := Lib.hid (HO.out.ext (Ext.trans zxt hx11))
   replace HP := Lib.hid (HP.out.ext (Ext.trans zxt hx11))
   have X11 : Hid (Ext w w11) := Lib.hid (Ext.trans zxt hx11)
   clear XR hx11
   go_wp2_with fail
   (with_reducible refine (at13_any 3 6 _).mono ?_)
   rintro e w12 ⟨rfl, hx12⟩
   replace r_0f := zf hx12 r_0 r_0f
   replace r_1f := zf hx12 r_1 r_1f
   replace r_0 := zh hx12 r_0
   replace r_1 := zh hx12 r_1
   replace h_0f := zf hx12 h_0 h_0f
   replace h_1f := zf hx12 h_1 h_1f
   replace h_0 := zh hx12 h_0
   replace h_1 := zh hx12 h_1
   have z12 := hx12.size
   try simp at z12
   replace rr := zr w.heap.size w12
   replace rh := zr (w.heap.size + 1) w12
   replace HO := Lib.hid (HO.out.ext (Ext.trans zxt hx12))
   replace HP := Lib.hid (HP.out.ext (Ext.trans zxt hx12))
   have X12 : Hid (Ext w w12) := Lib.hid (Ext.trans zxt hx12)
   clear X11 hx12
   go_wp2_with fail
   (with_reducible refine (at13_any 2 5 _).mono ?_)
   rintro e w13 ⟨rfl, hx13⟩
   replace r_0f := zf hx13 r_0 r_0f
   replace r_1f := zf hx13 r_1 r_1f
   replace r_0 := zh hx13 r_0
   replace r_1 := zh hx13 r_1
   replace h_0f := zf hx13 h_0 h_0f
   replace h_1f := zf hx13 h_1 h_1f
   replace h_0 := zh hx13 h_0
   replace h_1 := zh hx13 h_1
   have z13 := hx13.size
   try simp at z13
   replace rr := zr w.heap.size w13
   replace rh := zr (w.heap.size + 1) w13
   replace HO := Lib.hid (HO.out.ext (Ext.trans zxt hx13))
   replace HP := Lib.hid (HP.out.ext (Ext.trans zxt hx13))
   have X13 : Hid (Ext w w13) := Lib.hid (Ext.trans zxt hx13)
   have HQC := Lib.hid (Sl.ext (show Sl _ 6 (some ⟨w12.heap.size, 0, none⟩) 2 2 ((chC 3).flatMap clsC) from sl_new w12 79 6 #[.int .i64 2, .int .i64 5, .int .i64 (-1), .int .i64 0, .int .u64 20, .int .u64 20, .int .i64 3, .int .i64 6, .int .i64 (-1), .int .i64 0, .int .u64 7, .int .u64 7] 2 rfl (by decide)) hx13)
   clear X12 hx13
   go_wp2_with fail
   (with_reducible refine (at13_any 2 5 _).mono ?_)
   rintro e w14 ⟨rfl, hx14⟩
   replace r_0f := zf hx14 r_0 r_0f
   replace r_1f := zf hx14 r_1 r_1f
   replace r_0 := zh hx14 r_0
   replace r_1 := zh hx14 r_1
   replace h_0f := zf hx14 h_0 h_0f
   replace h_1f := zf hx14 h_1 h_1f
   replace h_0 := zh hx14 h_0
   replace h_1 := zh hx14 h_1
   have z14 := hx14.size
   try simp at z14
   replace rr := zr w.heap.size w14
   replace rh := zr (w.heap.size + 1) w14
   replace HO := Lib.hid (HO.out.ext (Ext.trans zxt hx14))
   replace HP := Lib.hid (HP.out.ext (Ext.trans zxt hx14))
   replace HQC := Lib.hid (HQC.out.ext (Ext.trans zxt hx14))
   have X14 : Hid (Ext w w14) := Lib.hid (Ext.trans zxt hx14)
   clear X13 hx14
   go_wp2_with fail
   (with_reducible refine (at13_any 3 6 _).mono ?_)
   rintro e w15 ⟨rfl, hx15⟩
   replace r_0f := zf hx15 r_0 r_0f
   replace r_1f := zf hx15 r_1 r_1f
   replace r_0 := zh hx15 r_0
   replace r_1 := zh hx15 r_1
   replace h_0f := zf hx15 h_0 h_0f
   replace h_1f := zf hx15 h_1 h_1f
   replace h_0 := zh hx15 h_0
   replace h_1 := zh hx15 h_1
   have z15 := hx15.size
   try simp at z15
   replace rr := zr w.heap.size w15
   replace rh := zr (w.heap.size + 1) w15
   replace HO := Lib.hid (HO.out.ext (Ext.trans zxt hx15))
   replace HP := Lib.hid (HP.out.ext (Ext.trans zxt hx15))
   replace HQC := Lib.hid (HQC.out.ext (Ext.trans zxt hx15))
   have X15 : Hid (Ext w w15) := Lib.hid (Ext.trans zxt hx15)
   clear X14 hx15
   go_wp2_with fail
   refine wp_region_held_drew (S := fun w' => w'.cell? ⟨w.heap.size + 1, 0, none⟩ = some (.slice B (chC 3).length d) ∧ w'.cell? ⟨w.heap.size + 1, 1, none⟩ = some (.slice B2 (chP 3).length d2)) (by kernel_rfl) (by first | exact ⟨h_0, h_1⟩ | (simp [go_sem, World.cell?_alloc_past, *]; done)) (fun hHeld => ?_)
   refine' zt 0 ?_
   refine' zt 1 ?_
   refine' zt 2 ?_
   refine' zt 3 ?_
   refine' zt 4 ?_
   refine' zn 5 (fun K hK => ?_)
   go_simp
   (refine (((kSameHolding_any 2 d 3 d2 2 2 3 3 B B2 (some ⟨w12.heap.size, 0, none⟩) (some ⟨w15.heap.size, 0, none⟩) (chC 3) (chP 3) (chC 3) (chP 3) (w15.alloc (.cells #[.int .i64 0, .int .i64 2, .int .i64 5, .int .i64 (-1), .int .i64 0, .int .u64 10, .int .i64 1, .int .i64 2, .int .i64 5, .int .i64 (-1), .int .i64 0, .int .u64 10, .int .i64 1, .int .i64 3, .int .i64 6, .int .i64 (-1), .int .i64 0, .int .u64 7] 82)).drew (OwnCls.sl (HO.out.ext zxt)) (OwnPos.sl (HP.out.ext zxt)) (Sl.ext HQC.out (by repeat (first | with_reducible exact Ext.refl _ | with_reducible refine Ext.drew ?_ | exact Ext.refl _ | with_reducible refine Ext.alloc ?_ _))) (Sl.ext (show Sl _ 6 (some ⟨w15.heap.size, 0, none⟩) 3 3 ((chP 3).flatMap posC) from sl_new w15 82 6 #[.int .i64 0, .int .i64 2, .int .i64 5, .int .i64 (-1), .int .i64 0, .int .u64 10, .int .i64 1, .int .i64 2, .int .i64 5, .int .i64 (-1), .int .i64 0, .int .u64 10, .int .i64 1, .int .i64 3, .int .i64 6, .int .i64 (-1), .int .i64 0, .int .u64 7] 3 rfl (by decide)) (by repeat (first | with_reducible exact Ext.refl _ | with_reducible refine Ext.drew ?_ | exact Ext.refl _ | with_reducible refine Ext.alloc ?_ _)))).mono (fun e w' h => (⟨h.1.trans (by simp), h.2⟩ : e = .returned (.bool true) ∧ Ext _ w')))).mono ?_)
   rintro e w16 ⟨rfl, hx16⟩
   replace r_0f := zf hx16 r_0 r_0f
   replace r_1f := zf hx16 r_1 r_1f
   replace r_0 := zh hx16 r_0
   replace r_1 := zh hx16 r_1
   replace h_0f := zf hx16 h_0 h_0f
   replace h_1f := zf hx16 h_1 h_1f
   replace h_0 := zh hx16 h_0
   replace h_1 := zh hx16 h_1
   have z16 := hx16.size
   try simp at z16
   replace rr := zr w.heap.size w16
   replace rh := zr (w.heap.size + 1) w16
   replace HO := Lib.hid (HO.out.ext (Ext.trans zxt hx16))
   replace HP := Lib.hid (HP.out.ext (Ext.trans zxt hx16))
   replace HQC := Lib.hid (HQC.out.ext (Ext.trans zxt hx16))
   have X16 : Hid (Ext w w16) := Lib.hid (Ext.trans zxt hx16)
   clear X15 hx16
   refine' zk hK (by (first | exact ⟨h_0, h_1⟩ | (simp [go_sem, World.cell?_alloc_past, *]; done))) (fun hHeld => ?_); clear hK K
   refine' zn 6 (fun K hK => ?_)
   go_simp
   refine' zk hK (by (first | exact ⟨h_0, h_1⟩ | (simp [go_sem, World.cell?_alloc_past, *]; done))) (fun hHeld => ?_); clear hK K
   refine' zt 7 ?_
   refine wpAnyH_done (by kernel_rfl) ?_ _
   go_wp2_with fail
   refine bodyPost_ret (v := .tuple #[.agg #[.slice B 2 d, .slice B2 3 d2], .bool true]) (by simp [results, Tryz.results22, go_sem, World.cell?_alloc_past, chC, chP, *]; try rfl) rfl ⟨B, d, B2, d2, rfl, hB, hB2, own_lower (show World.ownsRow _ (w.heap.size + 2) _ _ _ _ _ from by repeat (first | exact HO.out | with_reducible refine own_box ?_ (by omega) | with_reducible refine World.ownsRow.drew ?_)) (show w.heap.size ≤ w.heap.size + 2 from by omega), own_lower (show World.ownsRow _ (w.heap.size + 2) _ _ _ _ _ from by repeat (first | exact HP.out | with_reducible refine own_box ?_ (by omega) | with_reducible refine World.ownsRow.drew ?_)) (show w.heap.size ≤ w.heap.size + 2 from by omega), zxt⟩
  ·change _ = Value.int .i64 0 at hi
   obtain rfl := hi
   change Hid (OwnCls _ _ (.slice B (chC 0).length d) _ (chC 0)) at HO
   change Hid (OwnPos _ _ (.slice B2 (chP 0).length d2) _ (chP 0)) at HP
   change wr.cell? _ = some (.slice B (chC 0).length d) at h_0
   change wr.cell? _ = some (.slice B2 (chP 0).length d2) at h_1
   have a_0 := HA.out 0 _ rfl
   have a_1 := HA.out 1 _ rfl
   have a_2 := HA.out 2 _ rfl
   have a_3 := HA.out 3 _ rfl
   have a_4 := HA.out 4 _ rfl
   have a_5 := HA.out 5 _ rfl
   have a_6 := HA.out 6 _ rfl
   have a_7 := HA.out 7 _ rfl
   have a_8 := HA.out 8 _ rfl
   obtain ⟨wd1, wd2, wl1, wl2⟩ := ch_wd 0 (by decide)
   have CD := Lib.hid (fun (w' : World) (h1 : Sl w' 6 B (chC 0).length d ((chC 0).flatMap clsC)) (h2 : Sl w' 6 B2 (chP 0).length d2 ((chP 0).flatMap posC)) => does13_join d d2 B B2 (chC 0) (chP 0) 0 0 2 5 (-1) 0 0 0 10 (chC 1) (chP 1) 10 0 [] w' h1 h2 (by omega) (by omega) hB hB2 wd1 wd2 ⟨by decide, by decide⟩ rfl cho13_0 rfl)
   clear wd1 wd2 wl1 wl2
   go_wp2_with fail
   refine wp_region_held_drew (S := fun w' => w'.cell? ⟨w3.heap.size, 0, none⟩ = some (.int .i64 0) ∧ w'.cell? ⟨w3.heap.size, 1, none⟩ = some (.int .i64 0) ∧ w'.cell? ⟨w3.heap.size, 2, none⟩ = some (.int .i64 2) ∧ w'.cell? ⟨w3.heap.size, 3, none⟩ = some (.int .i64 5) ∧ w'.cell? ⟨w3.heap.size, 4, none⟩ = some (.int .i64 (-1)) ∧ w'.cell? ⟨w3.heap.size, 5, none⟩ = some (.int .i64 0) ∧ w'.cell? ⟨w3.heap.size, 6, none⟩ = some (.int .i64 0) ∧ w'.cell? ⟨w3.heap.size, 7, none⟩ = some (.int .i64 0) ∧ w'.cell? ⟨w3.heap.size, 8, none⟩ = some (.int .u64 10) ∧ w'.cell? ⟨w.heap.size + 1, 0, none⟩ = some (.slice B (chC 0).length d) ∧ w'.cell? ⟨w.heap.size + 1, 1, none⟩ = some (.slice B2 (chP 0).length d2)) (by kernel_rfl) (by first | exact ⟨a_0, a_1, a_2, a_3, a_4, a_5, a_6, a_7, a_8, h_0, h_1⟩ | (simp [go_sem, World.cell?_alloc_past, *]; done)) (fun hHeld => ?_)
   refine' zt 0 ?_
   refine' zt 1 ?_
   refine' zt 2 ?_
   refine' zt 3 ?_
   refine' zt 4 ?_
   refine' next2_in 5 11 rfl rfl (by kernel_rfl) (by rfl) (by rfl) (fun K hK => ?_) (fun K hK => ?_)
   ·go_simp
    (with_reducible refine (CD.out _ (OwnCls.sl (HO.out.ext zxt)) (OwnPos.sl (HP.out.ext zxt))).mono ?_)
    rintro e w11 ⟨B3, d3, B4, d4, A9, c9, rfl, hB3, hB4, hO3, hO4, hL9, hx11⟩
    replace r_0f := zf hx11 r_0 r_0f
    replace r_1f := zf hx11 r_1 r_1f
    replace r_0 := zh hx11 r_0
    replace r_1 := zh hx11 r_1
    replace h_0f := zf hx11 h_0 h_0f
    replace h_1f := zf hx11 h_1 h_1f
    replace h_0 := zh hx11 h_0
    replace h_1 := zh hx11 h_1
    replace a_0 := zh hx11 a_0
    replace a_1 := zh hx11 a_1
    replace a_2 := zh hx11 a_2
    replace a_3 := zh hx11 a_3
    replace a_4 := zh hx11 a_4
    replace a_5 := zh hx11 a_5
    replace a_6 := zh hx11 a_6
    replace a_7 := zh hx11 a_7
    replace a_8 := zh hx11 a_8
    have z11 := hx11.size
    try simp at z11
    have rr := zr w.heap.size w11
    have rh := zr (w.heap.size + 1) w11
    have ra := zr w3.heap.size w11
    replace HA := Lib.hid ((show ArrA _ (w3.heap.size) from by repeat (first | exact HA.out | refine ArrA.set ?_ (by omega) | refine ArrA.ext ?_ (Ext.alloc (Ext.refl _) _) | refine ArrA.ext ?_ (Ext.drew (Ext.refl _)))).ext hx11)
    have X11 : Hid (Ext w w11) := Lib.hid (Ext.trans zxt hx11)
    clear HO HP
    have HO := Lib.hid (show OwnCls _ (w.heap.size + 2) _ _ _ from own_lower hO3 zSlTba4_2)
    have HP := Lib.hid (show OwnPos _ (w.heap.size + 2) _ _ _ from own_lower hO4 zSlTba4_2)
    clear XR hx11
    have RO3 := Lib.hid (own_rng hO3)
    have RO4 := Lib.hid (own_rng hO4)
    clear hO3 hO4 hL9
    refine' zk hK zSlTba4_0 (fun hHeld => ?_); clear hK K
    refine' zt 6 ?_
    refine' zt 7 ?_
    refine' zt 8 ?_
    refine' zt 9 ?_
    refine' zt 10 ?_
    refine' zn 11 (fun K hK => ?_)
    go_simp
    refine' zk hK zSlTba4_0 (fun hHeld => ?_); clear hK K
    refine' zn 12 (fun K hK => ?_)
    go_simp
    refine' zk hK zSlTba4_0 (fun hHeld => ?_); clear hK K
    refine' zt 13 ?_
    refine' zt 14 ?_
    refine' zt 15 ?_
    refine wpAnyH_done (by kernel_rfl) ?_ _
    go_wp2_with fail
    go_roundg 2
    case measure => decide
    case rel => exact ⟨by decide, rfl, B3, B4, d3, d4, Lib.hid ⟨zcv, zcv, zcv, zcv⟩, Lib.hid (show Bk _ _ (.slice B3 (chC 1).length d3) (.slice B4 (chP 1).length d4) from (Lib.hid ⟨zcv, zcv, zcv, zcv⟩).out), hB3, hB4, Lib.hid (show OwnCls _ (w.heap.size + 2) _ _ _ from (show World.ownsRow _ (w.heap.size + 2) _ _ _ _ _ from by repeat (first | exact HO.out | refine own_set_ne ?_ (fun j hj hh => by have h9 := RO3.out j hj; first | omega | (simp at h9; omega) | (simp [go_sem] at h9; omega)) | with_reducible refine own_box ?_ (by omega) | refine own_keep ?_ (Ext.alloc (Ext.refl _) _) | with_reducible refine World.ownsRow.drew ?_))), Lib.hid (show OwnPos _ (w.heap.size + 2) _ _ _ from (show World.ownsRow _ (w.heap.size + 2) _ _ _ _ _ from by repeat (first | exact HP.out | refine own_set_ne ?_ (fun j hj hh => by have h9 := RO4.out j hj; first | omega | (simp at h9; omega) | (simp [go_sem] at h9; omega)) | with_reducible refine own_box ?_ (by omega) | refine own_keep ?_ (Ext.alloc (Ext.refl _) _) | with_reducible refine World.ownsRow.drew ?_))), Lib.hid (show ArrA _ (w3.heap.size) from by repeat (first | exact HA.out | refine ArrA.set ?_ (by omega) | refine ArrA.ext ?_ (Ext.alloc (Ext.refl _) _) | refine ArrA.ext ?_ (Ext.drew (Ext.refl _)))), by first | omega | (simp; done) | (simp; omega), Lib.hid zxt⟩
   ·go_simp
    refine' zk hK zSlTba4_0 (fun hHeld => ?_); clear hK K
    refine' zn 5 (fun K hK => ?_)
    go_simp
    (with_reducible refine (CD.out _ (OwnCls.sl (HO.out.ext zxt)) (OwnPos.sl (HP.out.ext zxt))).mono ?_)
    rintro e w11 ⟨B3, d3, B4, d4, A9, c9, rfl, hB3, hB4, hO3, hO4, hL9, hx11⟩
    replace r_0f := zf hx11 r_0 r_0f
    replace r_1f := zf hx11 r_1 r_1f
    replace r_0 := zh hx11 r_0
    replace r_1 := zh hx11 r_1
    replace h_0f := zf hx11 h_0 h_0f
    replace h_1f := zf hx11 h_1 h_1f
    replace h_0 := zh hx11 h_0
    replace h_1 := zh hx11 h_1
    replace a_0 := zh hx11 a_0
    replace a_1 := zh hx11 a_1
    replace a_2 := zh hx11 a_2
    replace a_3 := zh hx11 a_3
    replace a_4 := zh hx11 a_4
    replace a_5 := zh hx11 a_5
    replace a_6 := zh hx11 a_6
    replace a_7 := zh hx11 a_7
    replace a_8 := zh hx11 a_8
    have c0_0f : w11.frozen? ⟨wr.heap.size, 0, none⟩ = false := hx11.froz (v := .slice none 0 0) zcv zcv
    have c0_1f : w11.frozen? ⟨wr.heap.size, 1, none⟩ = false := hx11.froz (v := .slice none 0 0) zcv zcv
    have c0_0 : w11.cell? ⟨wr.heap.size, 0, none⟩ = some (.slice none 0 0) := hx11.has zcv
    have c0_1 : w11.cell? ⟨wr.heap.size, 1, none⟩ = some (.slice none 0 0) := hx11.has zcv
    have z11 := hx11.size
    try simp at z11
    have lt_r_c0 : w.heap.size < wr.heap.size := by omega
    have ne_r_c0 : ¬ w.heap.size = wr.heap.size := by omega
    have lt_h_c0 : w.heap.size + 1 < wr.heap.size := by omega
    have ne_h_c0 : ¬ w.heap.size + 1 = wr.heap.size := by omega
    have lt_a_c0 : w3.heap.size < wr.heap.size := by omega
    have ne_a_c0 : ¬ w3.heap.size = wr.heap.size := by omega
    have ne_c0_r : ¬ wr.heap.size = w.heap.size := by omega
    have ne_c0_h : ¬ wr.heap.size = w.heap.size + 1 := by omega
    have ne_c0_a : ¬ wr.heap.size = w3.heap.size := by omega
    have rr := zr w.heap.size w11
    have rh := zr (w.heap.size + 1) w11
    have ra := zr w3.heap.size w11
    have rc0 := zr wr.heap.size w11
    replace HA := Lib.hid ((show ArrA _ (w3.heap.size) from by repeat (first | exact HA.out | refine ArrA.set ?_ (by omega) | refine ArrA.ext ?_ (Ext.alloc (Ext.refl _) _) | refine ArrA.ext ?_ (Ext.drew (Ext.refl _)))).ext hx11)
    have X11 : Hid (Ext w w11) := Lib.hid (Ext.trans zxt hx11)
    clear HO HP
    have HO := Lib.hid (show OwnCls _ (w.heap.size + 2) _ _ _ from own_lower hO3 zSlTba4_2)
    have HP := Lib.hid (show OwnPos _ (w.heap.size + 2) _ _ _ from own_lower hO4 zSlTba4_2)
    clear XR hx11
    have RO3 := Lib.hid (own_rng hO3)
    have RO4 := Lib.hid (own_rng hO4)
    clear hO3 hO4 hL9
    refine' zk hK zSlTba4_0 (fun hHeld => ?_); clear hK K
    refine' zt 6 ?_
    refine' zt 7 ?_
    refine' zt 8 ?_
    refine' zt 9 ?_
    refine' zt 10 ?_
    refine' zn 12 (fun K hK => ?_)
    go_simp
    refine' zk hK zSlTba4_0 (fun hHeld => ?_); clear hK K
    refine' zt 13 ?_
    refine' zt 14 ?_
    refine' zt 15 ?_
    refine wpAnyH_done (by kernel_rfl) ?_ _
    go_wp2_with fail
    go_roundg 2
    case measure => decide
    case rel => exact ⟨by decide, rfl, B3, B4, d3, d4, Lib.hid ⟨zcv, zcv, zcv, zcv⟩, Lib.hid (show Bk _ _ (.slice B3 (chC 1).length d3) (.slice B4 (chP 1).length d4) from (Lib.hid ⟨zcv, zcv, zcv, zcv⟩).out), hB3, hB4, Lib.hid (show OwnCls _ (w.heap.size + 2) _ _ _ from (show World.ownsRow _ (w.heap.size + 2) _ _ _ _ _ from by repeat (first | exact HO.out | refine own_set_ne ?_ (fun j hj hh => by have h9 := RO3.out j hj; first | omega | (simp at h9; omega) | (simp [go_sem] at h9; omega)) | with_reducible refine own_box ?_ (by omega) | refine own_keep ?_ (Ext.alloc (Ext.refl _) _) | with_reducible refine World.ownsRow.drew ?_))), Lib.hid (show OwnPos _ (w.heap.size + 2) _ _ _ from (show World.ownsRow _ (w.heap.size + 2) _ _ _ _ _ from by repeat (first | exact HP.out | refine own_set_ne ?_ (fun j hj hh => by have h9 := RO4.out j hj; first | omega | (simp at h9; omega) | (simp [go_sem] at h9; omega)) | with_reducible refine own_box ?_ (by omega) | refine own_keep ?_ (Ext.alloc (Ext.refl _) _) | with_reducible refine World.ownsRow.drew ?_))), Lib.hid (show ArrA _ (w3.heap.size) from by repeat (first | exact HA.out | refine ArrA.set ?_ (by omega) | refine ArrA.ext ?_ (Ext.alloc (Ext.refl _) _) | refine ArrA.ext ?_ (Ext.drew (Ext.refl _)))), by first | omega | (simp; done) | (simp; omega), Lib.hid zxt⟩
  ·change _ = Value.int .i64 1 at hi
   obtain rfl := hi
   change Hid (OwnCls _ _ (.slice B (chC 1).length d) _ (chC 1)) at HO
   change Hid (OwnPos _ _ (.slice B2 (chP 1).length d2) _ (chP 1)) at HP
   change wr.cell? _ = some (.slice B (chC 1).length d) at h_0
   change wr.cell? _ = some (.slice B2 (chP 1).length d2) at h_1
   have a_0 := HA.out 9 _ rfl
   have a_1 := HA.out 10 _ rfl
   have a_2 := HA.out 11 _ rfl
   have a_3 := HA.out 12 _ rfl
   have a_4 := HA.out 13 _ rfl
   have a_5 := HA.out 14 _ rfl
   have a_6 := HA.out 15 _ rfl
   have a_7 := HA.out 16 _ rfl
   have a_8 := HA.out 17 _ rfl
   obtain ⟨wd1, wd2, wl1, wl2⟩ := ch_wd 1 (by decide)
   have CD := Lib.hid (fun (w' : World) (h1 : Sl w' 6 B (chC 1).length d ((chC 1).flatMap clsC)) (h2 : Sl w' 6 B2 (chP 1).length d2 ((chP 1).flatMap posC)) => does13_join d d2 B B2 (chC 1) (chP 1) 0 1 2 5 (-1) 0 0 0 10 (chC 2) (chP 2) 10 0 [] w' h1 h2 (by omega) (by omega) hB hB2 wd1 wd2 ⟨by decide, by decide⟩ rfl cho13_1 rfl)
   clear wd1 wd2 wl1 wl2
   go_wp2_with fail
   refine wp_region_held_drew (S := fun w' => w'.cell? ⟨w3.heap.size, 9, none⟩ = some (.int .i64 0) ∧ w'.cell? ⟨w3.heap.size, 9 + 1, none⟩ = some (.int .i64 1) ∧ w'.cell? ⟨w3.heap.size, 9 + 2, none⟩ = some (.int .i64 2) ∧ w'.cell? ⟨w3.heap.size, 9 + 3, none⟩ = some (.int .i64 5) ∧ w'.cell? ⟨w3.heap.size, 9 + 4, none⟩ = some (.int .i64 (-1)) ∧ w'.cell? ⟨w3.heap.size, 9 + 5, none⟩ = some (.int .i64 0) ∧ w'.cell? ⟨w3.heap.size, 9 + 6, none⟩ = some (.int .i64 0) ∧ w'.cell? ⟨w3.heap.size, 9 + 7, none⟩ = some (.int .i64 0) ∧ w'.cell? ⟨w3.heap.size, 9 + 8, none⟩ = some (.int .u64 10) ∧ w'.cell? ⟨w.heap.size + 1, 0, none⟩ = some (.slice B (chC 1).length d) ∧ w'.cell? ⟨w.heap.size + 1, 1, none⟩ = some (.slice B2 (chP 1).length d2)) (by kernel_rfl) (by first | exact ⟨a_0, a_1, a_2, a_3, a_4, a_5, a_6, a_7, a_8, h_0, h_1⟩ | (simp [go_sem, World.cell?_alloc_past, *]; done)) (fun hHeld => ?_)
   refine' zt 0 ?_
   refine' zt 1 ?_
   refine' zt 2 ?_
   refine' zt 3 ?_
   refine' zt 4 ?_
   refine' next2_in 5 11 rfl rfl (by kernel_rfl) (by rfl) (by rfl) (fun K hK => ?_) (fun K hK => ?_)
   ·go_simp
    (with_reducible refine (CD.out _ (OwnCls.sl (HO.out.ext zxt)) (OwnPos.sl (HP.out.ext zxt))).mono ?_)
    rintro e w11 ⟨B3, d3, B4, d4, A9, c9, rfl, hB3, hB4, hO3, hO4, hL9, hx11⟩
    replace r_0f := zf hx11 r_0 r_0f
    replace r_1f := zf hx11 r_1 r_1f
    replace r_0 := zh hx11 r_0
    replace r_1 := zh hx11 r_1
    replace h_0f := zf hx11 h_0 h_0f
    replace h_1f := zf hx11 h_1 h_1f
    replace h_0 := zh hx11 h_0
    replace h_1 := zh hx11 h_1
    replace a_0 := zh hx11 a_0
    replace a_1 := zh hx11 a_1
    replace a_2 := zh hx11 a_2
    replace a_3 := zh hx11 a_3
    replace a_4 := zh hx11 a_4
    replace a_5 := zh hx11 a_5
    replace a_6 := zh hx11 a_6
    replace a_7 := zh hx11 a_7
    replace a_8 := zh hx11 a_8
    have z11 := hx11.size
    try simp at z11
    have rr := zr w.heap.size w11
    have rh := zr (w.heap.size + 1) w11
    have ra := zr w3.heap.size w11
    replace HA := Lib.hid ((show ArrA _ (w3.heap.size) from by repeat (first | exact HA.out | refine ArrA.set ?_ (by omega) | refine ArrA.ext ?_ (Ext.alloc (Ext.refl _) _) | refine ArrA.ext ?_ (Ext.drew (Ext.refl _)))).ext hx11)
    have X11 : Hid (Ext w w11) := Lib.hid (Ext.trans zxt hx11)
    clear HO HP
    have HO := Lib.hid (show OwnCls _ (w.heap.size + 2) _ _ _ from own_lower hO3 zSlTba4_2)
    have HP := Lib.hid (show OwnPos _ (w.heap.size + 2) _ _ _ from own_lower hO4 zSlTba4_2)
    clear XR hx11
    have RO3 := Lib.hid (own_rng hO3)
    have RO4 := Lib.hid (own_rng hO4)
    clear hO3 hO4 hL9
    refine' zk hK zSlTba4_0 (fun hHeld => ?_); clear hK K
    refine' zt 6 ?_
    refine' zt 7 ?_
    refine' zt 8 ?_
    refine' zt 9 ?_
    refine' zt 10 ?_
    refine' zn 11 (fun K hK => ?_)
    go_simp
    refine' zk hK zSlTba4_0 (fun hHeld => ?_); clear hK K
    refine' zn 12 (fun K hK => ?_)
    go_simp
    refine' zk hK zSlTba4_0 (fun hHeld => ?_); clear hK K
    refine' zt 13 ?_
    refine' zt 14 ?_
    refine' zt 15 ?_
    refine wpAnyH_done (by kernel_rfl) ?_ _
    go_wp2_with fail
    go_roundg 1
    case measure => decide
    case rel => exact ⟨by decide, rfl, B3, B4, d3, d4, Lib.hid ⟨zcv, zcv, zcv, zcv⟩, Lib.hid (show Bk _ _ (.slice B3 (chC 2).length d3) (.slice B4 (chP 2).length d4) from (Lib.hid ⟨zcv, zcv, zcv, zcv⟩).out), hB3, hB4, Lib.hid (show OwnCls _ (w.heap.size + 2) _ _ _ from (show World.ownsRow _ (w.heap.size + 2) _ _ _ _ _ from by repeat (first | exact HO.out | refine own_set_ne ?_ (fun j hj hh => by have h9 := RO3.out j hj; first | omega | (simp at h9; omega) | (simp [go_sem] at h9; omega)) | with_reducible refine own_box ?_ (by omega) | refine own_keep ?_ (Ext.alloc (Ext.refl _) _) | with_reducible refine World.ownsRow.drew ?_))), Lib.hid (show OwnPos _ (w.heap.size + 2) _ _ _ from (show World.ownsRow _ (w.heap.size + 2) _ _ _ _ _ from by repeat (first | exact HP.out | refine own_set_ne ?_ (fun j hj hh => by have h9 := RO4.out j hj; first | omega | (simp at h9; omega) | (simp [go_sem] at h9; omega)) | with_reducible refine own_box ?_ (by omega) | refine own_keep ?_ (Ext.alloc (Ext.refl _) _) | with_reducible refine World.ownsRow.drew ?_))), Lib.hid (show ArrA _ (w3.heap.size) from by repeat (first | exact HA.out | refine ArrA.set ?_ (by omega) | refine ArrA.ext ?_ (Ext.alloc (Ext.refl _) _) | refine ArrA.ext ?_ (Ext.drew (Ext.refl _)))), by first | omega | (simp; done) | (simp; omega), Lib.hid zxt⟩
   ·go_simp
    refine' zk hK zSlTba4_0 (fun hHeld => ?_); clear hK K
    refine' zn 5 (fun K hK => ?_)
    go_simp
    (with_reducible refine (CD.out _ (OwnCls.sl (HO.out.ext zxt)) (OwnPos.sl (HP.out.ext zxt))).mono ?_)
    rintro e w11 ⟨B3, d3, B4, d4, A9, c9, rfl, hB3, hB4, hO3, hO4, hL9, hx11⟩
    replace r_0f := zf hx11 r_0 r_0f
    replace r_1f := zf hx11 r_1 r_1f
    replace r_0 := zh hx11 r_0
    replace r_1 := zh hx11 r_1
    replace h_0f := zf hx11 h_0 h_0f
    replace h_1f := zf hx11 h_1 h_1f
    replace h_0 := zh hx11 h_0
    replace h_1 := zh hx11 h_1
    replace a_0 := zh hx11 a_0
    replace a_1 := zh hx11 a_1
    replace a_2 := zh hx11 a_2
    replace a_3 := zh hx11 a_3
    replace a_4 := zh hx11 a_4
    replace a_5 := zh hx11 a_5
    replace a_6 := zh hx11 a_6
    replace a_7 := zh hx11 a_7
    replace a_8 := zh hx11 a_8
    have c0_0f : w11.frozen? ⟨wr.heap.size, 0, none⟩ = false := hx11.froz (v := .slice none 0 0) zcv zcv
    have c0_1f : w11.frozen? ⟨wr.heap.size, 1, none⟩ = false := hx11.froz (v := .slice none 0 0) zcv zcv
    have c0_0 : w11.cell? ⟨wr.heap.size, 0, none⟩ = some (.slice none 0 0) := hx11.has zcv
    have c0_1 : w11.cell? ⟨wr.heap.size, 1, none⟩ = some (.slice none 0 0) := hx11.has zcv
    have z11 := hx11.size
    try simp at z11
    have lt_r_c0 : w.heap.size < wr.heap.size := by omega
    have ne_r_c0 : ¬ w.heap.size = wr.heap.size := by omega
    have lt_h_c0 : w.heap.size + 1 < wr.heap.size := by omega
    have ne_h_c0 : ¬ w.heap.size + 1 = wr.heap.size := by omega
    have lt_a_c0 : w3.heap.size < wr.heap.size := by omega
    have ne_a_c0 : ¬ w3.heap.size = wr.heap.size := by omega
    have ne_c0_r : ¬ wr.heap.size = w.heap.size := by omega
    have ne_c0_h : ¬ wr.heap.size = w.heap.size + 1 := by omega
    have ne_c0_a : ¬ wr.heap.size = w3.heap.size := by omega
    have rr := zr w.heap.size w11
    have rh := zr (w.heap.size + 1) w11
    have ra := zr w3.heap.size w11
    have rc0 := zr wr.heap.size w11
    replace HA := Lib.hid ((show ArrA _ (w3.heap.size) from by repeat (first | exact HA.out | refine ArrA.set ?_ (by omega) | refine ArrA.ext ?_ (Ext.alloc (Ext.refl _) _) | refine ArrA.ext ?_ (Ext.drew (Ext.refl _)))).ext hx11)
    have X11 : Hid (Ext w w11) := Lib.hid (Ext.trans zxt hx11)
    clear HO HP
    have HO := Lib.hid (show OwnCls _ (w.heap.size + 2) _ _ _ from own_lower hO3 zSlTba4_2)
    have HP := Lib.hid (show OwnPos _ (w.heap.size + 2) _ _ _ from own_lower hO4 zSlTba4_2)
    clear XR hx11
    have RO3 := Lib.hid (own_rng hO3)
    have RO4 := Lib.hid (own_rng hO4)
    clear hO3 hO4 hL9
    refine' zk hK zSlTba4_0 (fun hHeld => ?_); clear hK K
    refine' zt 6 ?_
    refine' zt 7 ?_
    refine' zt 8 ?_
    refine' zt 9 ?_
    refine' zt 10 ?_
    refine' zn 12 (fun K hK => ?_)
    go_simp
    refine' zk hK zSlTba4_0 (fun hHeld => ?_); clear hK K
    refine' zt 13 ?_
    refine' zt 14 ?_
    refine' zt 15 ?_
    refine wpAnyH_done (by kernel_rfl) ?_ _
    go_wp2_with fail
    go_roundg 1
    case measure => decide
    case rel => exact ⟨by decide, rfl, B3, B4, d3, d4, Lib.hid ⟨zcv, zcv, zcv, zcv⟩, Lib.hid (show Bk _ _ (.slice B3 (chC 2).length d3) (.slice B4 (chP 2).length d4) from (Lib.hid ⟨zcv, zcv, zcv, zcv⟩).out), hB3, hB4, Lib.hid (show OwnCls _ (w.heap.size + 2) _ _ _ from (show World.ownsRow _ (w.heap.size + 2) _ _ _ _ _ from by repeat (first | exact HO.out | refine own_set_ne ?_ (fun j hj hh => by have h9 := RO3.out j hj; first | omega | (simp at h9; omega) | (simp [go_sem] at h9; omega)) | with_reducible refine own_box ?_ (by omega) | refine own_keep ?_ (Ext.alloc (Ext.refl _) _) | with_reducible refine World.ownsRow.drew ?_))), Lib.hid (show OwnPos _ (w.heap.size + 2) _ _ _ from (show World.ownsRow _ (w.heap.size + 2) _ _ _ _ _ from by repeat (first | exact HP.out | refine own_set_ne ?_ (fun j hj hh => by have h9 := RO4.out j hj; first | omega | (simp at h9; omega) | (simp [go_sem] at h9; omega)) | with_reducible refine own_box ?_ (by omega) | refine own_keep ?_ (Ext.alloc (Ext.refl _) _) | with_reducible refine World.ownsRow.drew ?_))), Lib.hid (show ArrA _ (w3.heap.size) from by repeat (first | exact HA.out | refine ArrA.set ?_ (by omega) | refine ArrA.ext ?_ (Ext.alloc (Ext.refl _) _) | refine ArrA.ext ?_ (Ext.drew (Ext.refl _)))), by first | omega | (simp; done) | (simp; omega), Lib.hid zxt⟩
  ·change _ = Value.int .i64 2 at hi
   obtain rfl := hi
   change Hid (OwnCls _ _ (.slice B (chC 2).length d) _ (chC 2)) at HO
   change Hid (OwnPos _ _ (.slice B2 (chP 2).length d2) _ (chP 2)) at HP
   change wr.cell? _ = some (.slice B (chC 2).length d) at h_0
   change wr.cell? _ = some (.slice B2 (chP 2).length d2) at h_1
   have a_0 := HA.out 18 _ rfl
   have a_1 := HA.out 19 _ rfl
   have a_2 := HA.out 20 _ rfl
   have a_3 := HA.out 21 _ rfl
   have a_4 := HA.out 22 _ rfl
   have a_5 := HA.out 23 _ rfl
   have a_6 := HA.out 24 _ rfl
   have a_7 := HA.out 25 _ rfl
   have a_8 := HA.out 26 _ rfl
   obtain ⟨wd1, wd2, wl1, wl2⟩ := ch_wd 2 (by decide)
   have CD := Lib.hid (fun (w' : World) (h1 : Sl w' 6 B (chC 2).length d ((chC 2).flatMap clsC)) (h2 : Sl w' 6 B2 (chP 2).length d2 ((chP 2).flatMap posC)) => does13_join d d2 B B2 (chC 2) (chP 2) 0 1 3 6 (-1) 0 0 0 7 (chC 3) (chP 3) 7 0 [] w' h1 h2 (by omega) (by omega) hB hB2 wd1 wd2 ⟨by decide, by decide⟩ rfl cho13_2 rfl)
   clear wd1 wd2 wl1 wl2
   go_wp2_with fail
   refine wp_region_held_drew (S := fun w' => w'.cell? ⟨w3.heap.size, 18, none⟩ = some (.int .i64 0) ∧ w'.cell? ⟨w3.heap.size, 18 + 1, none⟩ = some (.int .i64 1) ∧ w'.cell? ⟨w3.heap.size, 18 + 2, none⟩ = some (.int .i64 3) ∧ w'.cell? ⟨w3.heap.size, 18 + 3, none⟩ = some (.int .i64 6) ∧ w'.cell? ⟨w3.heap.size, 18 + 4, none⟩ = some (.int .i64 (-1)) ∧ w'.cell? ⟨w3.heap.size, 18 + 5, none⟩ = some (.int .i64 0) ∧ w'.cell? ⟨w3.heap.size, 18 + 6, none⟩ = some (.int .i64 0) ∧ w'.cell? ⟨w3.heap.size, 18 + 7, none⟩ = some (.int .i64 0) ∧ w'.cell? ⟨w3.heap.size, 18 + 8, none⟩ = some (.int .u64 7) ∧ w'.cell? ⟨w.heap.size + 1, 0, none⟩ = some (.slice B (chC 2).length d) ∧ w'.cell? ⟨w.heap.size + 1, 1, none⟩ = some (.slice B2 (chP 2).length d2)) (by kernel_rfl) (by first | exact ⟨a_0, a_1, a_2, a_3, a_4, a_5, a_6, a_7, a_8, h_0, h_1⟩ | (simp [go_sem, World.cell?_alloc_past, *]; done)) (fun hHeld => ?_)
   refine' zt 0 ?_
   refine' zt 1 ?_
   refine' zt 2 ?_
   refine' zt 3 ?_
   refine' zt 4 ?_
   refine' next2_in 5 11 rfl rfl (by kernel_rfl) (by rfl) (by rfl) (fun K hK => ?_) (fun K hK => ?_)
   ·go_simp
    (with_reducible refine (CD.out _ (OwnCls.sl (HO.out.ext zxt)) (OwnPos.sl (HP.out.ext zxt))).mono ?_)
    rintro e w11 ⟨B3, d3, B4, d4, A9, c9, rfl, hB3, hB4, hO3, hO4, hL9, hx11⟩
    replace r_0f := zf hx11 r_0 r_0f
    replace r_1f := zf hx11 r_1 r_1f
    replace r_0 := zh hx11 r_0
    replace r_1 := zh hx11 r_1
    replace h_0f := zf hx11 h_0 h_0f
    replace h_1f := zf hx11 h_1 h_1f
    replace h_0 := zh hx11 h_0
    replace h_1 := zh hx11 h_1
    replace a_0 := zh hx11 a_0
    replace a_1 := zh hx11 a_1
    replace a_2 := zh hx11 a_2
    replace a_3 := zh hx11 a_3
    replace a_4 := zh hx11 a_4
    replace a_5 := zh hx11 a_5
    replace a_6 := zh hx11 a_6
    replace a_7 := zh hx11 a_7
    replace a_8 := zh hx11 a_8
    have z11 := hx11.size
    try simp at z11
    have rr := zr w.heap.size w11
    have rh := zr (w.heap.size + 1) w11
    have ra := zr w3.heap.size w11
    replace HA := Lib.hid ((show ArrA _ (w3.heap.size) from by repeat (first | exact HA.out | refine ArrA.set ?_ (by omega) | refine ArrA.ext ?_ (Ext.alloc (Ext.refl _) _) | refine ArrA.ext ?_ (Ext.drew (Ext.refl _)))).ext hx11)
    have X11 : Hid (Ext w w11) := Lib.hid (Ext.trans zxt hx11)
    clear HO HP
    have HO := Lib.hid (show OwnCls _ (w.heap.size + 2) _ _ _ from own_lower hO3 zSlTba4_2)
    have HP := Lib.hid (show OwnPos _ (w.heap.size + 2) _ _ _ from own_lower hO4 zSlTba4_2)
    clear XR hx11
    have RO3 := Lib.hid (own_rng hO3)
    have RO4 := Lib.hid (own_rng hO4)
    clear hO3 hO4 hL9
    refine' zk hK zSlTba4_0 (fun hHeld => ?_); clear hK K
    refine' zt 6 ?_
    refine' zt 7 ?_
    refine' zt 8 ?_
    refine' zt 9 ?_
    refine' zt 10 ?_
    refine' zn 11 (fun K hK => ?_)
    go_simp
    refine' zk hK zSlTba4_0 (fun hHeld => ?_); clear hK K
    refine' zn 12 (fun K hK => ?_)
    go_simp
    refine' zk hK zSlTba4_0 (fun hHeld => ?_); clear hK K
    refine' zt 13 ?_
    refine' zt 14 ?_
    refine' zt 15 ?_
    refine wpAnyH_done (by kernel_rfl) ?_ _
    go_wp2_with fail
    go_roundg 0
    case measure => decide
    case rel => exact ⟨by decide, rfl, B3, B4, d3, d4, Lib.hid ⟨zcv, zcv, zcv, zcv⟩, Lib.hid (show Bk _ _ (.slice B3 (chC 3).length d3) (.slice B4 (chP 3).length d4) from (Lib.hid ⟨zcv, zcv, zcv, zcv⟩).out), hB3, hB4, Lib.hid (show OwnCls _ (w.heap.size + 2) _ _ _ from (show World.ownsRow _ (w.heap.size + 2) _ _ _ _ _ from by repeat (first | exact HO.out | refine own_set_ne ?_ (fun j hj hh => by have h9 := RO3.out j hj; first | omega | (simp at h9; omega) | (simp [go_sem] at h9; omega)) | with_reducible refine own_box ?_ (by omega) | refine own_keep ?_ (Ext.alloc (Ext.refl _) _) | with_reducible refine World.ownsRow.drew ?_))), Lib.hid (show OwnPos _ (w.heap.size + 2) _ _ _ from (show World.ownsRow _ (w.heap.size + 2) _ _ _ _ _ from by repeat (first | exact HP.out | refine own_set_ne ?_ (fun j hj hh => by have h9 := RO4.out j hj; first | omega | (simp at h9; omega) | (simp [go_sem] at h9; omega)) | with_reducible refine own_box ?_ (by omega) | refine own_keep ?_ (Ext.alloc (Ext.refl _) _) | with_reducible refine World.ownsRow.drew ?_))), Lib.hid (show ArrA _ (w3.heap.size) from by repeat (first | exact HA.out | refine ArrA.set ?_ (by omega) | refine ArrA.ext ?_ (Ext.alloc (Ext.refl _) _) | refine ArrA.ext ?_ (Ext.drew (Ext.refl _)))), by first | omega | (simp; done) | (simp; omega), Lib.hid zxt⟩
   ·go_simp
    refine' zk hK zSlTba4_0 (fun hHeld => ?_); clear hK K
    refine' zn 5 (fun K hK => ?_)
    go_simp
    (with_reducible refine (CD.out _ (OwnCls.sl (HO.out.ext zxt)) (OwnPos.sl (HP.out.ext zxt))).mono ?_)
    rintro e w11 ⟨B3, d3, B4, d4, A9, c9, rfl, hB3, hB4, hO3, hO4, hL9, hx11⟩
    replace r_0f := zf hx11 r_0 r_0f
    replace r_1f := zf hx11 r_1 r_1f
    replace r_0 := zh hx11 r_0
    replace r_1 := zh hx11 r_1
    replace h_0f := zf hx11 h_0 h_0f
    replace h_1f := zf hx11 h_1 h_1f
    replace h_0 := zh hx11 h_0
    replace h_1 := zh hx11 h_1
    replace a_0 := zh hx11 a_0
    replace a_1 := zh hx11 a_1
    replace a_2 := zh hx11 a_2
    replace a_3 := zh hx11 a_3
    replace a_4 := zh hx11 a_4
    replace a_5 := zh hx11 a_5
    replace a_6 := zh hx11 a_6
    replace a_7 := zh hx11 a_7
    replace a_8 := zh hx11 a_8
    have c0_0f : w11.frozen? ⟨wr.heap.size, 0, none⟩ = false := hx11.froz (v := .slice none 0 0) zcv zcv
    have c0_1f : w11.frozen? ⟨wr.heap.size, 1, none⟩ = false := hx11.froz (v := .slice none 0 0) zcv zcv
    have c0_0 : w11.cell? ⟨wr.heap.size, 0, none⟩ = some (.slice none 0 0) := hx11.has zcv
    have c0_1 : w11.cell? ⟨wr.heap.size, 1, none⟩ = some (.slice none 0 0) := hx11.has zcv
    have z11 := hx11.size
    try simp at z11
    have lt_r_c0 : w.heap.size < wr.heap.size := by omega
    have ne_r_c0 : ¬ w.heap.size = wr.heap.size := by omega
    have lt_h_c0 : w.heap.size + 1 < wr.heap.size := by omega
    have ne_h_c0 : ¬ w.heap.size + 1 = wr.heap.size := by omega
    have lt_a_c0 : w3.heap.size < wr.heap.size := by omega
    have ne_a_c0 : ¬ w3.heap.size = wr.heap.size := by omega
    have ne_c0_r : ¬ wr.heap.size = w.heap.size := by omega
    have ne_c0_h : ¬ wr.heap.size = w.heap.size + 1 := by omega
    have ne_c0_a : ¬ wr.heap.size = w3.heap.size := by omega
    have rr := zr w.heap.size w11
    have rh := zr (w.heap.size + 1) w11
    have ra := zr w3.heap.size w11
    have rc0 := zr wr.heap.size w11
    replace HA := Lib.hid ((show ArrA _ (w3.heap.size) from by repeat (first | exact HA.out | refine ArrA.set ?_ (by omega) | refine ArrA.ext ?_ (Ext.alloc (Ext.refl _) _) | refine ArrA.ext ?_ (Ext.drew (Ext.refl _)))).ext hx11)
    have X11 : Hid (Ext w w11) := Lib.hid (Ext.trans zxt hx11)
    clear HO HP
    have HO := Lib.hid (show OwnCls _ (w.heap.size + 2) _ _ _ from own_lower hO3 zSlTba4_2)
    have HP := Lib.hid (show OwnPos _ (w.heap.size + 2) _ _ _ from own_lower hO4 zSlTba4_2)
    clear XR hx11
    have RO3 := Lib.hid (own_rng hO3)
    have RO4 := Lib.hid (own_rng hO4)
    clear hO3 hO4 hL9
    refine' zk hK zSlTba4_0 (fun hHeld => ?_); clear hK K
    refine' zt 6 ?_
    refine' zt 7 ?_
    refine' zt 8 ?_
    refine' zt 9 ?_
    refine' zt 10 ?_
    refine' zn 12 (fun K hK => ?_)
    go_simp
    refine' zk hK zSlTba4_0 (fun hHeld => ?_); clear hK K
    refine' zt 13 ?_
    refine' zt 14 ?_
    refine' zt 15 ?_
    refine wpAnyH_done (by kernel_rfl) ?_ _
    go_wp2_with fail
    go_roundg 0
    case measure => decide
    case rel => exact ⟨by decide, rfl, B3, B4, d3, d4, Lib.hid ⟨zcv, zcv, zcv, zcv⟩, Lib.hid (show Bk _ _ (.slice B3 (chC 3).length d3) (.slice B4 (chP 3).length d4) from (Lib.hid ⟨zcv, zcv, zcv, zcv⟩).out), hB3, hB4, Lib.hid (show OwnCls _ (w.heap.size + 2) _ _ _ from (show World.ownsRow _ (w.heap.size + 2) _ _ _ _ _ from by repeat (first | exact HO.out | refine own_set_ne ?_ (fun j hj hh => by have h9 := RO3.out j hj; first | omega | (simp at h9; omega) | (simp [go_sem] at h9; omega)) | with_reducible refine own_box ?_ (by omega) | refine own_keep ?_ (Ext.alloc (Ext.refl _) _) | with_reducible refine World.ownsRow.drew ?_))), Lib.hid (show OwnPos _ (w.heap.size + 2) _ _ _ from (show World.ownsRow _ (w.heap.size + 2) _ _ _ _ _ from by repeat (first | exact HP.out | refine own_set_ne ?_ (fun j hj hh => by have h9 := RO4.out j hj; first | omega | (simp at h9; omega) | (simp [go_sem] at h9; omega)) | with_reducible refine own_box ?_ (by omega) | refine own_keep ?_ (Ext.alloc (Ext.refl _) _) | with_reducible refine World.ownsRow.drew ?_))), Lib.hid (show ArrA _ (w3.heap.size) from by repeat (first | exact HA.out | refine ArrA.set ?_ (by omega) | refine ArrA.ext ?_ (Ext.alloc (Ext.refl _) _) | refine ArrA.ext ?_ (Ext.drew (Ext.refl _)))), by first | omega | (simp; done) | (simp; omega), Lib.hid zxt⟩
end
section
open Go.RowKit Go.ChangeShapes Go.WideShapes Go.Deep Go.Joins
structure CutJ (cl : List I6) (v h p : Int) (k : Nat) (CL : List I6) (LS : List I5) (N : Int) : Prop where
 ecl : CL = cutCs v h p (cl.take k)
 els : LS = losCs v h p (cl.take k)
 en : N = losN LS
theorem CutJ.done {cl CL : List I6} {v h p N : Int} {k : Nat} {LS : List I5} (H : CutJ cl v h p k CL LS N) (hl : cl.length ≤ k) : CL = cutCs v h p cl ∧ LS = losCs v h p cl ∧ N = losN (losCs v h p cl) := by
 have e1 := List.take_of_length_le hl
 exact ⟨by rw [H.ecl, e1], by rw [H.els, e1], by rw [H.en, H.els, e1]⟩
end
section
open Go.RowKit Go.Shelf
attribute [local go_sem] Oper.semAt_some

theorem but_putObj {S : Nat → Prop} (W : World) (l : Nat) (o : Obj) (h : S l) : But S W (W.putObj l o) := (But.grown (grownBy_putObj' W l o)).mono (fun k _ hk => by injection hk with hk; subst hk; exact h)
def stopPost (S : Nat → Prop) (J Jx : World → Prop) (W : World) : Exit → Act → World → Prop
 | .normal, _, W' => KeepsOthers W W' ∧ But S W W' ∧ J W'
 | .ret, _, W' => KeepsOthers W W' ∧ Jx W'
 | _, _, _ => False
theorem rangeFunc_stop {α : Type} {F : Fence} {n : Nat} {P : Program} {g : Operand} {ps : Array Tmp} {assign body : Code} {Q : Exit → Act → World → Prop} {a : Act} {w : World}
  (hro : F.round = none) (h1 : 1 ≤ n) {gf : Nat} {lb : Array Value} (hg : a.eval g = .func (.func gf) #[] lb) (hFg : F.fn gf) (eg : ∀ args w, (callFunc gf args).run P w = .ok (.enter gf args) w)
  {enc : α → Array Value} {xs : List α} {S : Nat → Prop} (hS : ∀ k, w.heap.size ≤ k → S k)
  (hseq : ∀ (l : Nat) (J Jx : List α → World → Prop) (W : World), Below w.heap.size w W → (∀ s A A', J s A → Ext A A' → J s A') → (∀ s A A', Jx s A → Ext A A' → Jx s A') →
   (∀ pre x A, J pre A → pre ++ [x] <+: xs → YieldAt F (n - 1 - 1) P l (enc x) A fun e A' => (e = .returned (.bool true) ∧ J (pre ++ [x]) A' ∧ But S A A') ∨ (e = .returned (.bool false) ∧ Jx (pre ++ [x]) A')) →
   J [] W → CallsIn F (n - 1) P gf (#[.func (.yield l) #[] #[]] ++ lb) W fun e W' => (∃ v, e = .returned v) ∧ (J xs W' ∨ ∃ pre, pre <+: xs ∧ Jx pre W'))
  (hps : ∀ x, ps.size = (enc x).size) (I Ix : List α → World → Prop) (hXext : ∀ s A A', Ix s A → Ext A A' → Ix s A') (hIext : ∀ s A A', I s A → Ext A A' → I s A')
  (hIput : ∀ s A l o o', I s A → w.heap.size ≤ l → A.heap[l]? = some o → o.isCells = false → I s (A.putObj l o')) (hXput : ∀ s A l o o', Ix s A → w.heap.size ≤ l → A.heap[l]? = some o → o.isCells = false → Ix s (A.putObj l o')) (h0 : I [] w) (I1 : List α → α → Act → World → Prop) (hI1put : ∀ s x a A l o o', I1 s x a A → w.heap.size ≤ l → A.heap[l]? = some o → o.isCells = false → I1 s x a (A.putObj l o'))
  (hassign : ∀ (l : Nat) (pre : List α) (x : α) (W : World) (K : Act → World → Prop), I pre W → pre ++ [x] <+: xs → w.heap.size ≤ W.heap.size → (∀ a' W', KeepsOthers W W' → But S W W' → I1 pre x a' W' → K a' W') →
   assign.wpIn (F.inRound l) (n - 1 - 1) P (Exit.then K (fun _ _ _ => False)) { tmps := (ps.zip (enc x)).foldl (fun t (p, v) => t.setIfInBounds p v) a.tmps, defers := [] } W)
  (hbody : ∀ (l : Nat) (pre : List α) (x : α) (a' : Act) (W : World), I1 pre x a' W → pre ++ [x] <+: xs → w.heap.size ≤ W.heap.size → body.wpIn (F.inRound l) (n - 1 - 1) P
   (stopPost S (I (pre ++ [x])) (Ix (pre ++ [x])) W) a' W)
  (hdone : ∀ (D : Nat) (W : World), w.heap.size ≤ D → I xs W → W.heap[D]? = some (.deferred (some [])) → Q .normal { a with defers := { target := .collected D, args := #[] } :: a.defers } W)
  (hstop : ∀ (D : Nat) (pre : List α) (W : World), w.heap.size ≤ D → pre <+: xs → Ix pre W → W.heap[D]? = some (.deferred (some [])) → Code.ret.wpIn F n P Q { a with defers := { target := .collected D, args := #[] } :: a.defers } W) :
  (Code.rangeFunc g ps assign body).wpIn F n P Q a w := by
 refine wpIn_rangeFunc ?_
 intro fn hfn
 rw [hro]
 obtain ⟨rec, hrec⟩ : ∃ rec : LoopState → Option Code → Loop, rec = fun st pe => { state := st, pending := pe, fn, tmps := a.tmps, params := ps, assign, body, defers := w.heap.size } := ⟨_, rfl⟩
 obtain ⟨W1, hW1⟩ : ∃ W1, (w.alloc (.deferred (some []))).alloc (.loop (rec .ready none)) = W1 := ⟨_, rfl⟩
 have hL1 : W1.heap[w.heap.size + 1]? = some (.loop (rec .ready none)) := by
  rw [← hW1]; have := World.alloc_heap_new (w.alloc (.deferred (some []))) (.loop (rec .ready none)); rwa [World.size_alloc] at this
 have hK1 : W1.heap[w.heap.size]? = some (.deferred (some [])) := by
  rw [← hW1]; exact (Below.heap_alloc _ _ _ (by simp)).trans (World.alloc_heap_new w _)
 have hI1 : I [] W1 := by rw [← hW1]; exact hIext _ _ _ h0 (Ext.alloc (Ext.alloc (Ext.refl _) _) _)
 have hb1 : Below w.heap.size w W1 := by
  rw [← hW1]; exact ((Below.refl _ w).alloc (Nat.le_refl _) _).alloc (by simp) _
 have hother : ∀ (A A' : World) (k : Nat) (o : Obj), Ext A A' → A.heap[k]? = some o → A'.heap[k]? = some o := fun A A' k o hx hk => (Below.block hx k (Array.getElem?_eq_some_iff.1 hk).1).trans hk
 refine ⟨w.heap.size + 1, [{ target := .collected w.heap.size, args := #[] }], W1, { target := .fn (.func gf) lb, args := #[.func (.yield (w.heap.size + 1)) #[] #[]] }, W1, gf,
  #[.func (.yield (w.heap.size + 1)) #[] #[]] ++ lb, W1, ?_, ?_, ?_, ?_, fun _ => h1, ?_⟩
 ·rw [← hW1, hrec]; exact run_enterLoop_outer _ _ _ _ _
 ·simp only [resolve, hg]
  simp [go_sem]
 ·intro f' hf'; simp [Target.leads] at hf'; subst hf'; exact hFg
 ·simp [invoke, go_sem, eg]
 ·refine (hseq (w.heap.size + 1)
   (fun pre W => I pre W ∧ W.heap[w.heap.size + 1]? = some (.loop (rec .ready none)) ∧ W.heap[w.heap.size]? = some (.deferred (some [])))
   (fun pre W => Ix pre W ∧ W.heap[w.heap.size + 1]? = some (.loop (rec .done (some .ret))) ∧ W.heap[w.heap.size]? = some (.deferred (some [])))
   W1 hb1 (fun s A A' hs hx => ⟨hIext s A A' hs.1 hx, hother A A' _ _ hx hs.2.1, hother A A' _ _ hx hs.2.2⟩) (fun s A A' hs hx => ⟨hXext s A A' hs.1 hx, hother A A' _ _ hx hs.2.1, hother A A' _ _ hx hs.2.2⟩) ?_ ⟨hI1, hL1, hK1⟩).mono ?_
  ·rintro pre x W0 ⟨hi, hl, hk⟩ hlen
   have hlt : w.heap.size + 1 < W0.heap.size := (Array.getElem?_eq_some_iff.1 hl).1
   have hy := run_yield (P := P) (args := enc x) hl (by rw [hrec]; simp [hps x])
   rw [hrec] at hy
   refine ⟨fn, _, assign, body, hy, roundIn_of_wpIn hfn (hassign _ pre x W0 _ hi hlen (by omega) fun a' W hka hba hi1 => ⟨_, run_beginRound (hka.same _ _ hl rfl) (by rw [hrec]), ?_⟩)⟩
   have hl := hka.same _ _ hl rfl
   have hk := hka.same _ _ hk rfl
   have hlt : w.heap.size + 1 < W.heap.size := (Array.getElem?_eq_some_iff.1 hl).1
   have hl2 : (W.putObj (w.heap.size + 1) (.loop { rec .ready none with state := .busy })).heap[w.heap.size + 1]? = some (.loop { rec .ready none with state := .busy }) := World.putObj_heap_same hlt
   have hk2 : (W.putObj (w.heap.size + 1) (.loop { rec .ready none with state := .busy })).heap[w.heap.size]? = some (.deferred (some [])) := (World.putObj_heap_other (by omega)).trans hk
   have hb2 : But S W0 (W.putObj (w.heap.size + 1) (.loop { rec .ready none with state := .busy })) := hba.trans (but_putObj W _ _ (hS _ (by omega)))
   refine wpIn_mono (hbody _ pre x a' _ (hI1put _ _ _ _ _ _ _ hi1 (by omega) hl rfl) hlen (by simp; omega)) ?_
   rintro e a3 W3 hp
   cases e with
   | normal =>
    obtain ⟨hk3, hb3, hi3⟩ := hp
    have hl3 := hk3.same _ _ hl2 rfl
    have hend := run_endRound (P := P) none hl3
    refine ⟨_, _, hend, .inl ⟨rfl, ⟨hIput _ _ _ _ _ hi3 (by omega) hl3 rfl, ?_, ?_⟩, (hb2.trans hb3).trans (but_putObj W3 _ _ (hS _ (by omega)))⟩⟩
    ·rw [hrec] at hl3 ⊢
     exact World.putObj_heap_same (Array.getElem?_eq_some_iff.1 hl3).1
    ·exact (World.putObj_heap_other (by omega)).trans (hk3.same _ _ hk2 rfl)
   | ret =>
    obtain ⟨hk3, hi3⟩ := hp
    have hl3 := hk3.same _ _ hl2 rfl
    have hend := run_endRound (P := P) (some .ret) hl3
    refine ⟨_, _, hend, .inr ⟨rfl, hXput _ _ _ _ _ hi3 (by omega) hl3 rfl, ?_, ?_⟩⟩
    ·rw [hrec] at hl3 ⊢
     exact World.putObj_heap_same (Array.getElem?_eq_some_iff.1 hl3).1
    ·exact (World.putObj_heap_other (by omega)).trans (hk3.same _ _ hk2 rfl)
   | exit id => exact hp.elim
   | goto t => exact hp.elim
   | panic ch => exact hp.elim
   | outgrown => exact hp.elim
  ·rintro e W2 ⟨⟨v, rfl⟩, (⟨hi, hl, hk⟩ | ⟨pre, hpre, hi, hl, hk⟩)⟩
   rotate_left
   ·exact ⟨some .ret, _, by have := run_endLoop (P := P) hl (by rw [hrec]; simp); rw [hrec] at this; exact this, hstop _ _ _ (Nat.le_refl _) hpre (hXput _ _ _ _ _ hi (by omega) hl rfl) ((World.putObj_heap_other (by omega)).trans hk)⟩
   exact ⟨none, _, by have := run_endLoop (P := P) hl (by rw [hrec]; simp); rw [hrec] at this; exact this, hdone _ _ (Nat.le_refl _) (hIput _ _ _ _ _ hi (by omega) hl rfl) ((World.putObj_heap_other (by omega)).trans hk)⟩
end
section
open Go.RowKit Go.Shelf Go.ChangeShapes Go.WideShapes Go.Deep Go.Joins
attribute [local go_sem] Oper.semAt_some

def wvl (cl : List I6) (x : I6) : Int := valN (fndT cl (stP x)) (fndS cl (stP x)) (shP x)
theorem hworths_in (F : Fence) (k : Nat) (hF : F.fn 81) (hro : F.round = none) (A A2 : Option Addr) (n c n2 c2 : Nat) (w : World) :
  CallsIn F k Tryz.prog 81 #[.agg #[.slice A n c, .slice A2 n2 c2]] w fun e w' => e = .returned (.func (.func 149) #[] #[.pointer (some ⟨w.heap.size, 0, none⟩)]) ∧ w' = w.alloc (.cells #[.slice A n c, .slice A2 n2 c2] 25) := by
 have hmf : ∀ (fn : Fn) (first cap : Array Value) (w : World), (Instr.makeFunc fn first cap).run Tryz.prog w = .ok (.func fn first cap) w := fun _ _ _ _ => rfl
 refine callsIn_of_wp Tryz.func81 rfl hF ?_ hro
 simp only [Tryz.ntmps81, List.size_toArray, List.length_cons, List.length_nil, Nat.reduceAdd, Nat.reduceSub, Array.replicate_succ, Array.replicate_zero, List.push_toArray, List.append_toArray, List.nil_append, List.cons_append]
 gi_wp2
 go_ret
 exact ⟨rfl, rfl⟩
theorem hworths1_in (n : Nat) (hn : 2 ≤ n) (l nb m c n2 c2 B : Nat) (S : Nat → Prop) (A A2 : Option Addr) (cl ps : List I6) (J Jx : List I6 → World → Prop) (W : World) (hw : ∀ x ∈ cl, WdC x) (hw2 : ∀ x ∈ ps, WdP x)
  (hJ : ∀ (s : List I6) (A A' : World), J s A → Ext A A' → J s A')
  (hY : ∀ (pre : List I6) (x : I6) (A : World), J pre A → pre ++ [x] <+: ps → YieldAt Fence.wide (n - 1) Tryz.prog l #[.agg #[.int .i64 x.1, .int .i64 x.2.1, .int .i64 x.2.2.1, .int .i64 x.2.2.2.1, .int .i64 x.2.2.2.2.1, .int .u64 x.2.2.2.2.2], .int .u64 (wvl cl x)] A fun e A' => (e = .returned (.bool true) ∧ J (pre ++ [x]) A' ∧ But S A A') ∨ (e = .returned (.bool false) ∧ Jx (pre ++ [x]) A'))
  (hSB : ∀ k, S k → B ≤ k) (hnb : ¬ S nb) (hc0 : W.cell? ⟨nb, 0, none⟩ = some (.slice A m c)) (hc1 : W.cell? ⟨nb, 1, none⟩ = some (.slice A2 n2 c2)) (hS1 : SlB B W 6 A m c (cl.flatMap clsC)) (hS2 : SlB B W 6 A2 n2 c2 (ps.flatMap posC)) (h0 : J [] W) :
  CallsIn Fence.wide n Tryz.prog 149 (#[.func (.yield l) #[] #[]] ++ #[.pointer (some ⟨nb, 0, none⟩)]) W fun e W' => (∃ v, e = .returned v) ∧ (J ps W' ∨ ∃ pre, pre <+: ps ∧ Jx pre W') := by
 have HJ := Lib.hid hJ
 have HY := Lib.hid hY
 have hl := hS2.sl.rlen posC_len (by decide)
 have s1 := hS2.sl.small
 have HL := Lib.hid hl
 have H1 := Lib.hid hS1
 have H2 := Lib.hid hS2
 have HJ0 := Lib.hid h0
 have HW := Lib.hid (And.intro hw hw2)
 have HSB := Lib.hid (And.intro hSB hnb)
 clear hJ hY hl hS1 hS2 h0 hw hw2 hSB hnb
 refine callsIn_of_wp Tryz.func149 rfl trivial ?_ rfl
 simp only [Tryz.ntmps149, List.size_toArray, List.length_cons, List.length_nil, Nat.reduceAdd, Nat.reduceSub, Array.replicate_succ, Array.replicate_zero, List.push_toArray, List.append_toArray, List.nil_append, List.cons_append]
 gi_wp2
 gi_loopw [12] (fun i wr => ∃ (k : Nat), i = .int .i64 (k : Int) ∧ k ≤ n2 ∧ Hid (SlB B wr 6 A m c (cl.flatMap clsC)) ∧ Hid (SlB B wr 6 A2 n2 c2 (ps.flatMap posC)) ∧ wr.cell? ⟨nb, 0, none⟩ = some (.slice A m c) ∧ wr.cell? ⟨nb, 1, none⟩ = some (.slice A2 n2 c2) ∧ Hid (J (ps.take k) wr))
  (fun i _ => match i with | .int _ k => n2 - k.toNat | _ => 0)
 case atStart => exact ⟨0, rfl, Nat.zero_le _, H1, H2, hc0, hc1, HJ0⟩
 case round =>
  clear hc0 hc1 H1 H2 HJ0
  obtain ⟨k, rfl, hkm, H1, H2, b_0, b_1, HJ0⟩ := hrel
  have hbr := cell_lt b_0
  have hbn : ¬ nb = wr.heap.size := by omega
  by_cases hk : k < n2
  ·have hkn : (k : Int) < (n2 : Int) := by omega
   have hkl : k < ps.length := by have := HL.out; omega
   obtain ⟨b1, o1, rfl, hb1, hc_x⟩ := H2.out.sl.rec_ posC_len (show 0 < n2 from by omega)
   obtain ⟨xw, hl_x⟩ : ∃ x, ps[k]? = some x := ⟨_, List.getElem?_eq_getElem (by omega)⟩
   have x_0 := hc_x (k) xw hl_x 0 _ rfl
   have x_1 := hc_x (k) xw hl_x 1 _ rfl
   have x_2 := hc_x (k) xw hl_x 2 _ rfl
   have x_3 := hc_x (k) xw hl_x 3 _ rfl
   have x_4 := hc_x (k) xw hl_x 4 _ rfl
   have x_5 := hc_x (k) xw hl_x 5 _ rfl
   obtain ⟨po, pv, ps_, pp, pf, ph⟩ := xw
   simp only at x_0 x_1 x_2 x_3 x_4 x_5
   rw [Nat.add_zero] at x_0
   rw [← Nat.add_assoc] at x_1 x_2 x_3 x_4 x_5
   have HX := Lib.hid hl_x
   have hpw := HW.out.2 _ (List.mem_of_getElem? hl_x)
   change 0 ≤ ph ∧ ph < 18446744073709551616 at hpw
   have hfw := fnd_word HW.out.1 [pv, ps_, pp, pf]
   obtain ⟨T, hT⟩ : ∃ T, T = fndT cl [pv, ps_, pp, pf] := ⟨_, rfl⟩
   obtain ⟨U, hU⟩ : ∃ T, T = fndS cl [pv, ps_, pp, pf] := ⟨_, rfl⟩
   obtain ⟨BB, hBB⟩ : ∃ T, T = (getK kC cl [pv, ps_, pp, pf]).isSome := ⟨_, rfl⟩
   rw [← hT, ← hU] at hfw
   have CF := Lib.hid (fun (w' : World) (hx : Sl w' 6 A m c (cl.flatMap clsC)) => hFind_any m c n2 c2 A (some ⟨b1, o1, none⟩) cl pv ps_ pp pf w' hx)
   rw [← hT, ← hU, ← hBB] at CF
   have CV := Lib.hid (fun w => SValue_any T U ph hfw.1 hfw.2 hpw w)
   obtain ⟨N, hN⟩ : ∃ z, z = valN T U ph := ⟨_, rfl⟩
   obtain ⟨E, hE⟩ : ∃ z, z = valE T U ph := ⟨_, rfl⟩
   rw [← hN, ← hE] at CV
   have HN := Lib.hid (show wvl cl (po, pv, ps_, pp, pf, ph) = N from by rw [hN, hT, hU]; rfl)
   have hb1s : ¬ b1 = wr.heap.size := by omega
   clear hl_x hc_x hT hU hBB hfw hpw hN hE hkl
   gi_wp2_with fail
   refine ⟨trivial, fun _ => by omega, ?_⟩
   (with_reducible refine (callsIn_wide.2 (CF.out _ (H1.out.ext zxt).sl)).mono ?_)
   rintro e w1 ⟨rfl, hx1⟩
   replace b_0 := zh hx1 b_0
   replace b_1 := zh hx1 b_1
   have c0_0 : w1.cell? ⟨wr.heap.size, 0, none⟩ = some (.int .i64 po) := hx1.has zcv
   have c0_1 : w1.cell? ⟨wr.heap.size, 1, none⟩ = some (.int .i64 pv) := hx1.has zcv
   have c0_2 : w1.cell? ⟨wr.heap.size, 2, none⟩ = some (.int .i64 ps_) := hx1.has zcv
   have c0_3 : w1.cell? ⟨wr.heap.size, 3, none⟩ = some (.int .i64 pp) := hx1.has zcv
   have c0_4 : w1.cell? ⟨wr.heap.size, 4, none⟩ = some (.int .i64 pf) := hx1.has zcv
   have c0_5 : w1.cell? ⟨wr.heap.size, 5, none⟩ = some (.int .u64 ph) := hx1.has zcv
   have z1 := hx1.size
   try simp at z1
   have lt_b_c0 : nb < wr.heap.size := by omega
   have ne_b_c0 : ¬ nb = wr.heap.size := by omega
   have ne_c0_b : ¬ wr.heap.size = nb := by omega
   have rb := zr nb w1
   have rc0 := zr wr.heap.size w1
   replace H1 := Lib.hid (H1.out.ext (Ext.trans zxt hx1))
   replace H2 := Lib.hid (H2.out.ext (Ext.trans zxt hx1))
   have X1 : Hid (Ext wr w1) := Lib.hid (Ext.trans zxt hx1)
   clear x_0 x_5 x_1 x_4 x_2 x_3 hx1
   gi_wp2_with fail
   refine ⟨trivial, fun _ => by omega, ?_⟩
   (with_reducible refine (callsIn_wide.2 (CV.out _)).mono ?_)
   rintro e w2 ⟨rfl, hx2⟩
   replace b_0 := zh hx2 b_0
   replace b_1 := zh hx2 b_1
   replace c0_0 := zh hx2 c0_0
   replace c0_1 := zh hx2 c0_1
   replace c0_2 := zh hx2 c0_2
   replace c0_3 := zh hx2 c0_3
   replace c0_4 := zh hx2 c0_4
   replace c0_5 := zh hx2 c0_5
   have z2 := hx2.size
   try simp at z2
   replace rb := zr nb w2
   replace rc0 := zr wr.heap.size w2
   replace H1 := Lib.hid (H1.out.ext (Ext.trans zxt hx2))
   replace H2 := Lib.hid (H2.out.ext (Ext.trans zxt hx2))
   have X2 : Hid (Ext wr w2) := Lib.hid (Ext.trans zxt hx2)
   clear X1 hx2
   have hjw := HJ.out _ _ _ HJ0.out zxt
   have H1w := Lib.hid (SlB.ext H1.out (Ext.refl _))
   obtain ⟨fn, tmps, assign, body, hy, hR⟩ := HY.out (ps.take k) (po, pv, ps_, pp, pf, ph) _ hjw (by rw [← take_one HX.out]; exact List.take_prefix _ _)
   rw [HN.out] at hy
   simp only at hy
   have HR := Lib.hid hR
   clear hR hjw
   gi_wp2_with fail
   refine ⟨fun _ => by omega, HR.out.mono ?_⟩
   rintro e W3 (⟨rfl, hj3, hk3⟩ | ⟨rfl, hj3⟩)
   ·have hSB := HSB.out.1
    replace b_0 := hk3.has HSB.out.2 b_0
    replace b_1 := hk3.has HSB.out.2 b_1
    replace H1 := Lib.hid (SlB.but H1.out hk3 hSB)
    replace H2 := Lib.hid (SlB.but H2.out hk3 hSB)
    have HJ3 := Lib.hid (show J (ps.take (k + 1)) W3 from by rw [take_one HX.out]; exact hj3)
    clear hj3 hk3 HR hSB H1w
    gi_wp2_with fail
    go_roundw
    case rel => exact ⟨k + 1, by simp, by omega, H1, H2, b_0, b_1, HJ3⟩
    case measure => simp; omega
   ·have HJ3 := Lib.hid (show Jx (ps.take (k + 1)) W3 from by rw [take_one HX.out]; exact hj3)
    clear hj3 HR H1w
    gi_wp2_with fail
    exact bodyPost_ret (v := .tuple #[]) (by simp [results, Tryz.results149]; try rfl) rfl ⟨⟨_, rfl⟩, .inr ⟨_, List.take_prefix _ _, HJ3.out⟩⟩
  ·have hkn : ¬ (k : Int) < (n2 : Int) := by omega
   have hp : ps.take k = ps := List.take_of_length_le (by have := HL.out; omega)
   have hjr := HJ0.out
   rw [hp] at hjr
   have HJR := Lib.hid hjr
   clear hjr hp
   gi_wp2_with fail
   go_end0
   exact ⟨⟨_, rfl⟩, .inl HJR.out⟩
end
end Go.Proofs.YtkinchgjidpjnaaGreat
