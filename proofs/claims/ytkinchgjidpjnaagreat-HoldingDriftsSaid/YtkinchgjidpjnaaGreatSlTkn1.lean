/- Tkn, part 1. Conditions stand in each lemma. -/
import Derived.WalkKit
import Derived.Deep.QuietTactic
import Derived.Deep.Draws
import Derived.Lib.Hide
import Derived.Laws.OwnMore
import Derived.Laws.AppendOwn
import Derived.OwnWalk
import Derived.Maps.AppendAt
import Derived.Deep.RegionHeld3
import Derived.RangeFuncBox
import Derived.RangeFuncLeaves
import Derived.Shelf.Abstract
import Derived.OwnWalkIn
import Derived.TacticsInMore
import Derived.LoopNIn
import Derived.LoopIn
import Derived.Test.YtkinchgjidpjnaaGreatRows
import Derived.Deep.Onto
import Derived.ProofKit
import Derived.ChangeOld
import Derived.OpenShut
import Derived.Deep.Slices
import Derived.BigQuiet
import Derived.IntWalk
import Derived.Lib.SliceRun
import Derived.Deep.LoopGhost
import Derived.WalkSpells
import Derived.WalkLawsBesides
import Derived.Lib.SmallJoins
import Derived.Test.YtkinchgjidpjnaaGreatShelf
import Derived.Test.YtkinchgjidpjnaaGreatDivNorm
import Derived.Deep.DeepCutAuto
import Derived.Deep.CutBlock
import Derived.Shelf.Spec.BitsCarry
import Derived.Test.YtkinchgjidpjnaaGreatFixRefMath
import Derived.Test.YtkinchgjidpjnaaGreatFixDivideMath
import Derived.Handy
import Derived.ArgAppend
import Derived.Laws.CopyRow
import Derived.Lib.AppendZerosOnto
import Derived.Laws.Externs
import Derived.Lib.Overlaps
import Derived.Shelf.RegionOpenPlain
import Derived.Lib.AppendZeros
import Derived.WalkMore
import Derived.Laws.IdiomCopy
import Derived.Laws.StructEq
import Derived.RangeFuncNested
import Derived.Test.YtkinchgjidpjnaaGreatSlTba5
set_option linter.unusedVariables false
set_option linter.unusedSimpArgs false
set_option maxRecDepth 100000
set_option maxHeartbeats 64000000
namespace Go.Proofs.YtkinchgjidpjnaaGreat
section
open Go.RowKit
theorem zSlTkn1_0 {P : Prop} (h : P := by repeat (first | exact HS.out | with_reducible refine SlB.ext ?_ (Ext.alloc (Ext.refl _) _) | refine SlB.set ?_ (by omega))) : P := h
theorem zSlTkn1_1 {P : Prop} (h : P := by first | omega | (simp; done) | (simp; omega)) : P := h
theorem zl (a b : Nat) (h : a < b := by omega) : a < b ∧ ¬ a = b ∧ ¬ b = a := by omega
end
section
open Go.RowKit Go.ChangeShapes Go.WideShapes Go.Deep Go.Joins
theorem does13_leave (c c2 : Nat) (A A2 : Option Addr) (cl ps : List I6) (k o V S P Q v h n : Int) (C P' : List I6) (N E : Int) (L : List I5) (w : World) (hs : Sl w 6 A cl.length c (cl.flatMap clsC)) (hs2 : Sl w 6 A2 ps.length c2 (ps.flatMap posC)) (hn : cl.length < 1099511627776) (hn2 : ps.length < 1099511000) (hA : A = none → c = 0) (hA2 : A2 = none → c2 = 0) (hw : ∀ x ∈ cl, WdC x) (hw2 : ∀ x ∈ ps, WdP x) (hwn : Word n) (hk : k = 1) (hR : (C, P', N, E) = hleaV cl ps o V S P Q n) (hL : L = []) :
  Calls Tryz.prog 16 #[.agg #[.slice A cl.length c, .slice A2 ps.length c2], .agg #[.int .i64 k, .int .i64 o, .int .i64 V, .int .i64 S, .int .i64 P, .int .i64 Q, .int .i64 v, .int .i64 h, .int .u64 n]] w (RetD C P' N L E w) := by
 have C1 := Lib.hid (fun (w' : World) (hx : Ext w w') => (hLeave_any c c2 A A2 cl ps o V S P Q n w' (hs.ext hx) (hs2.ext hx) hn (by omega) hA hA2 hw hw2 hwn).mono (fun e w'' H => RetJ.ex (C := C) (P := P') (N := N) (E := E) (by rw [hR]; exact H)))
 subst hk
 subst hL
 clear hs hs2 hw hw2 hwn hR
 go_enter Tryz.func16, Tryz.ntmps16
 go_wp2_with fail
 (with_reducible refine (C1.out _ zxt).mono ?_)
 rintro e w1 ⟨B, d, B2, d2, rfl, hO, hP, hx1⟩
 have c2_0f : w1.frozen? ⟨w.heap.size + 1 + 1, 0, none⟩ = false := hx1.froz (v := .slice none 0 0) zcv zcv
 have c2_1f : w1.frozen? ⟨w.heap.size + 1 + 1, 1, none⟩ = false := hx1.froz (v := .slice none 0 0) zcv zcv
 have c2_0 : w1.cell? ⟨w.heap.size + 1 + 1, 0, none⟩ = some (.slice none 0 0) := hx1.has zcv
 have c2_1 : w1.cell? ⟨w.heap.size + 1 + 1, 1, none⟩ = some (.slice none 0 0) := hx1.has zcv
 have z1 := hx1.size
 try simp at z1
 have rc2 := zr (w.heap.size + 1 + 1) w1
 have X1 : Hid (Ext w w1) := Lib.hid (Ext.trans zxt hx1)
 have HO := Lib.hid (show OwnCls _ w.heap.size _ _ _ from own_lower hO zSlTkn1_1)
 have HP := Lib.hid (show OwnPos _ w.heap.size _ _ _ from own_lower hP zSlTkn1_1)
 clear hx1
 have HOw := Lib.hid (own_lower hO (show w.heap.size + 3 ≤ _ from zSlTkn1_1))
 have HPw := Lib.hid (own_lower hP (show w.heap.size + 3 ≤ _ from zSlTkn1_1))
 clear hO hP
 go_wp2_with fail
 refine bodyPost_ret (v := .tuple #[.agg #[.slice B C.length d, .slice B2 P'.length d2], .int .u64 N, .slice none 0 0, .int .i64 E]) (by simp [results, Tryz.results16, go_sem, World.cell?_alloc_past, *]; try rfl) rfl (RetD.mk (L := []) (b := w.heap.size + 3) (by omega) (show World.ownsRow _ (w.heap.size + 3) _ _ _ _ _ from by repeat (first | exact HOw.out | with_reducible refine own_box ?_ (by omega) | refine own_keep ?_ (Ext.alloc (Ext.refl _) _))) (show World.ownsRow _ (w.heap.size + 3) _ _ _ _ _ from by repeat (first | exact HPw.out | with_reducible refine own_box ?_ (by omega) | refine own_keep ?_ (Ext.alloc (Ext.refl _) _))) (OwnLoss.nil _ _) zxt)
theorem does13_cut (c c2 : Nat) (A A2 : Option Addr) (cl ps : List I6) (k o V S P Q v h n : Int) (C P' : List I6) (N E : Int) (L : List I5) (w : World) (hs : Sl w 6 A cl.length c (cl.flatMap clsC)) (hs2 : Sl w 6 A2 ps.length c2 (ps.flatMap posC)) (hn : cl.length < 1099511627776) (hn2 : ps.length < 1099511000) (hA : A = none → c = 0) (hA2 : A2 = none → c2 = 0) (hw : ∀ x ∈ cl, WdC x) (hw2 : ∀ x ∈ ps, WdP x) (hwn : Word n) (hk : k = 2) (hR : (C, P', L, N, E) = hcutV cl ps v h n) :
  Calls Tryz.prog 16 #[.agg #[.slice A cl.length c, .slice A2 ps.length c2], .agg #[.int .i64 k, .int .i64 o, .int .i64 V, .int .i64 S, .int .i64 P, .int .i64 Q, .int .i64 v, .int .i64 h, .int .u64 n]] w (RetD C P' N L E w) := by
 have C1 := Lib.hid (fun (w' : World) (hx : Ext w w') => (hCut_any c c2 A A2 cl ps v h n w' (hs.ext hx) (hs2.ext hx) hn (by omega) hA hA2 hw hw2 hwn).mono (fun e w'' H => RetK.ex (C := C) (P := P') (N := N) (E := E) (by rw [hR]; exact H)))
 subst hk

 clear hs hs2 hw hw2 hwn hR
 go_enter Tryz.func16, Tryz.ntmps16
 go_wp2_with fail
 (with_reducible refine (C1.out _ zxt).mono ?_)
 rintro e w1 ⟨B, d, B2, d2, A9, c9, rfl, hO, hP, hL, hx1⟩
 have c2_0f : w1.frozen? ⟨w.heap.size + 1 + 1, 0, none⟩ = false := hx1.froz (v := .slice none 0 0) zcv zcv
 have c2_1f : w1.frozen? ⟨w.heap.size + 1 + 1, 1, none⟩ = false := hx1.froz (v := .slice none 0 0) zcv zcv
 have c2_0 : w1.cell? ⟨w.heap.size + 1 + 1, 0, none⟩ = some (.slice none 0 0) := hx1.has zcv
 have c2_1 : w1.cell? ⟨w.heap.size + 1 + 1, 1, none⟩ = some (.slice none 0 0) := hx1.has zcv
 have z1 := hx1.size
 try simp at z1
 have rc2 := zr (w.heap.size + 1 + 1) w1
 have X1 : Hid (Ext w w1) := Lib.hid (Ext.trans zxt hx1)
 have HO := Lib.hid (show OwnCls _ w.heap.size _ _ _ from own_lower hO zSlTkn1_1)
 have HP := Lib.hid (show OwnPos _ w.heap.size _ _ _ from own_lower hP zSlTkn1_1)
 have HL := Lib.hid (show OwnLoss _ w.heap.size _ _ _ from own_lower hL zSlTkn1_1)
 clear hx1
 have HOw := Lib.hid (own_lower hO (show w.heap.size + 3 ≤ _ from zSlTkn1_1))
 have HPw := Lib.hid (own_lower hP (show w.heap.size + 3 ≤ _ from zSlTkn1_1))
 have HLw := Lib.hid (own_lower hL (show w.heap.size + 3 ≤ _ from zSlTkn1_1))
 clear hO hP hL
 go_wp2_with fail
 refine bodyPost_ret (v := .tuple #[.agg #[.slice B C.length d, .slice B2 P'.length d2], .int .u64 N, .slice A9 L.length c9, .int .i64 E]) (by simp [results, Tryz.results16, go_sem, World.cell?_alloc_past, *]; try rfl) rfl (RetD.mk (L := L) (b := w.heap.size + 3) (by omega) (show World.ownsRow _ (w.heap.size + 3) _ _ _ _ _ from by repeat (first | exact HOw.out | with_reducible refine own_box ?_ (by omega) | refine own_keep ?_ (Ext.alloc (Ext.refl _) _))) (show World.ownsRow _ (w.heap.size + 3) _ _ _ _ _ from by repeat (first | exact HPw.out | with_reducible refine own_box ?_ (by omega) | refine own_keep ?_ (Ext.alloc (Ext.refl _) _))) (show World.ownsRow _ (w.heap.size + 3) _ _ _ _ _ from by repeat (first | exact HLw.out | with_reducible refine own_box ?_ (by omega) | refine own_keep ?_ (Ext.alloc (Ext.refl _) _))) zxt)
theorem addF_mono {α : Type} {f g : α → Int} : ∀ {l : List α}, (∀ x ∈ l, f x ≤ g x) → addF f l ≤ addF g l
 | [], _ => Int.le_refl _
 | x :: l, h => by
  rw [addF_cons, addF_cons]
  have h1 := h x (List.mem_cons_self ..)
  have h2 := addF_mono (l := l) (fun y hy => h y (List.mem_cons_of_mem _ hy))
  omega
def tokF (v : Int) (c : I6) : Int := if c.1 = v then toC c else 0
def tokT (cl : List I6) (v : Int) : Int := addF (tokF v) cl
def tokH (cl ps : List I6) (v : Int) : Int := if chkH cl ps = 0 then tokT cl v else 0
theorem tokF_nn {cl : List I6} (hw : ∀ x ∈ cl, WdC x) (v : Int) : ∀ x ∈ cl, 0 ≤ tokF v x := by
 intro x hx
 have := (hw x hx).1.1
 unfold tokF
 split
 ·exact this
 exact Int.le_refl 0
theorem tokF_le {cl : List I6} (hw : ∀ x ∈ cl, WdC x) (v : Int) : ∀ x ∈ cl, tokF v x ≤ toC x := by
 intro x hx
 have : 0 ≤ toC x := (hw x hx).1.1
 unfold tokF
 split
 ·exact Int.le_refl _
 exact this
theorem hTokens_any (n c n2 c2 : Nat) (A A2 : Option Addr) (cl ps : List I6) (v : Int) (w : World) (h : Sl w 6 A n c (cl.flatMap clsC)) (h2 : Sl w 6 A2 n2 c2 (ps.flatMap posC)) (hn : n < 1099511627776) (hn2 : n2 < 1099511627776) (hw : ∀ x ∈ cl, WdC x) (hw2 : ∀ x ∈ ps, WdP x) :
  Calls Tryz.prog 29 #[.agg #[.slice A n c, .slice A2 n2 c2], .int .i64 v] w fun r w' => r = .returned (.tuple #[.int .u64 (tokH cl ps v), .int .i64 (chkH cl ps)]) ∧ Ext w w' := by
 have hll := h.rlen clsC_len (by decide)
 have C1 := Lib.hid (fun (w' : World) (hx : Ext w w') => hCheck_any n c n2 c2 A A2 cl ps w' (h.ext hx) (h2.ext hx) hn hn2 hw hw2)
 have HS := Lib.hid h
 have HLL := Lib.hid hll
 obtain ⟨R, hR⟩ : ∃ R, R = tokH cl ps v := ⟨_, rfl⟩
 obtain ⟨E, hE⟩ : ∃ E, E = chkH cl ps := ⟨_, rfl⟩
 unfold tokH at hR
 rw [← hE] at C1 hR
 unfold tokH
 rw [← hE, ← hR]
 by_cases he : E = 0
 ·rw [if_pos he] at hR
  have hM : R ≤ 4611686018427387904 := by rw [hR]; exact Int.le_trans (addF_mono (tokF_le hw v)) (chkH_tot (hE.symm.trans he)).2.2
  have HR := Lib.hid hR
  subst he
  have HM := Lib.hid (show ∀ k, 0 ≤ tokT (cl.take k) v ∧ tokT (cl.take k) v ≤ 4611686018427387904 from fun k => ⟨addF_nn (fun y hy => tokF_nn hw v y (List.mem_of_mem_take hy)), Int.le_trans (addF_le (tokF_nn hw v) k) (by rw [show addF (tokF v) cl = R from hR.symm]; exact hM)⟩)
  have HW := Lib.hid hw
  clear h h2 hw hw2 hE hR hM hll
  go_enter Tryz.func29, Tryz.ntmps29
  go_wp2_with fail
  (with_reducible refine (C1.out _ zxt).mono ?_)
  rintro e w1 ⟨rfl, hx1⟩
  have c0_0 : w1.cell? ⟨w.heap.size, 0, none⟩ = some (.slice A n c) := hx1.has zcv
  have z1 := hx1.size
  try simp at z1
  have rc0 := zr w.heap.size w1
  have X1 : Hid (Ext w w1) := Lib.hid (Ext.trans zxt hx1)
  clear hx1 z1
  go_wp2_with fail
  go_loopg [7, 18] n (fun gh a i wx => gh ≤ n ∧ i = .int .i64 ((n - gh : Nat) : Int) ∧ a = .int .u64 (tokT (cl.take (n - gh)) v) ∧ Hid (Ext w wx))
  case atStart => exact ⟨Nat.le_refl _, by simp, by rw [Nat.sub_self]; rfl, Lib.hid zxt⟩
  obtain ⟨hg, hi, ha, XR⟩ := hrel
  obtain ⟨k, hk⟩ : ∃ k, k = n - gk := ⟨_, rfl⟩
  rw [← hk] at hi ha
  subst hi
  obtain ⟨t, ht⟩ : ∃ t, t = tokT (cl.take k) v := ⟨_, rfl⟩
  rw [← ht] at ha
  subst ha
  by_cases hz : gk = 0
  ·have hkn : ¬ (k : Int) < (n : Int) := by omega
   have hTR : t = R := by rw [ht, HR.out, List.take_of_length_le (by have := HLL.out; omega)]
   have HT := Lib.hid hTR
   clear hk hg hz ht hTR
   go_wp2
   go_ret2
   exact ⟨by first | rfl | (simp; done) | (rw [HT.out]; rfl) | (simp [HT.out]; done), XR.out⟩
  have hkn : (k : Int) < (n : Int) := by omega
  have hkl : k < cl.length := by have := HLL.out; omega
  have HSr := Lib.hid (HS.out.ext XR.out)
  obtain ⟨b1, o1, rfl, hb1, hc_x⟩ := HSr.out.rec_ clsC_len (show 0 < n from by omega)
  obtain ⟨xw, hl_x⟩ : ∃ x, cl[k]? = some x := ⟨_, List.getElem?_eq_getElem (by omega)⟩
  have x_0 := hc_x (k) xw hl_x 0 _ rfl
  have x_1 := hc_x (k) xw hl_x 1 _ rfl
  have x_2 := hc_x (k) xw hl_x 2 _ rfl
  have x_3 := hc_x (k) xw hl_x 3 _ rfl
  have x_4 := hc_x (k) xw hl_x 4 _ rfl
  have x_5 := hc_x (k) xw hl_x 5 _ rfl
  obtain ⟨xv, xs, xp, xf, xt, xh⟩ := xw
  simp only at x_0 x_1 x_2 x_3 x_4 x_5
  rw [Nat.add_zero] at x_0
  rw [← Nat.add_assoc] at x_1 x_2 x_3 x_4 x_5
  have hb0 := (HM.out k).1
  have hb2 := (HM.out (k + 1)).2
  have hxt : 0 ≤ xt := (HW.out _ (List.mem_of_getElem? hl_x)).1.1
  have hst : tokT (cl.take (k + 1)) v = t + tokF v (xv, xs, xp, xf, xt, xh) := by rw [ht]; exact addF_take (tokF v) hl_x
  rw [hst] at hb2
  rw [← ht] at hb0
  have HK := Lib.hid (And.intro hk (And.intro hg hz))
  have hb1s : ¬ b1 = wr.heap.size := by omega
  clear hk hg hz hkl hl_x hc_x HSr ht
  by_cases hq : xv = v
  ·have hqb : decide (xv = v) = true := decide_eq_true hq
   have hqc : (xv == v) = true := by simpa using hq
   have hsq : tokF v (xv, xs, xp, xf, xt, xh) = xt := if_pos hq
   rw [hsq] at hst hb2
   have hwr : IntKind.u64.wrap (t + xt) = t + xt := IntWalk.u64_in _ (by omega)
   have HT := Lib.hid hst
   clear hst hsq hq
   go_wp2_with fail
   go_roundg (gk - 1)
   case measure => have := HK.out; omega
   exact ⟨by have := HK.out; omega, num_eq (by have := HK.out; omega), num_eq (by rw [show n - (gk - 1) = k + 1 from by have := HK.out; omega]; exact HT.out.symm), Lib.hid zxt⟩
  have hqb : decide (xv = v) = false := decide_eq_false hq
  have hqc : (xv == v) = false := by simpa using hq
  have hsq : tokF v (xv, xs, xp, xf, xt, xh) = 0 := if_neg hq
  rw [hsq, Int.add_zero] at hst
  have HT := Lib.hid hst
  clear hst hsq hq hb2
  go_wp2_with fail
  go_roundg (gk - 1)
  case measure => have := HK.out; omega
  exact ⟨by have := HK.out; omega, num_eq (by have := HK.out; omega), num_eq (by rw [show n - (gk - 1) = k + 1 from by have := HK.out; omega]; exact HT.out.symm), Lib.hid zxt⟩
 rw [if_neg he] at hR
 subst hR
 have heb : (E != 0) = true := by simpa using he
 clear h h2 hw hw2 hE hll
 go_enter Tryz.func29, Tryz.ntmps29
 go_wp2_with fail
 (with_reducible refine (C1.out _ zxt).mono ?_)
 rintro e w1 ⟨rfl, hx1⟩
 have z1 := hx1.size
 try simp at z1
 have X1 : Hid (Ext w w1) := Lib.hid (Ext.trans zxt hx1)
 clear hx1 z1
 go_wp2_with fail
 go_ret2
 exact ⟨rfl, zxt⟩
def expF (cl : List I6) (v a : Int) : List I6 := cl.filter (fun c => decide (1 ≤ a ∧ a ≤ 4294967296) && (decide (0 ≤ v ∧ v < 32) && bkC c v a))
def expH (cl ps : List I6) (v a : Int) : List I6 := if chkH cl ps ≠ 0 then [] else expF cl v a
theorem expF_step {cl : List I6} {v a : Int} {k : Nat} {c : I6} (h : cl[k]? = some c) : expF (cl.take (k + 1)) v a = expF (cl.take k) v a ++ if (decide (1 ≤ a ∧ a ≤ 4294967296) && (decide (0 ≤ v ∧ v < 32) && bkC c v a)) = true then [c] else [] := by
 unfold expF
 rw [take_one h, List.filter_append]
 congr 1
 cases hb : (decide (1 ≤ a ∧ a ≤ 4294967296) && (decide (0 ≤ v ∧ v < 32) && bkC c v a))
 ·simp only [List.filter_cons, List.filter_nil, hb]
 simp only [List.filter_cons, List.filter_nil, hb]
def RetE (L : List I6) (E : Int) (w : World) (e : Ending) (w' : World) : Prop := ∃ A c, e = .returned (.tuple #[.slice A L.length c, .int .i64 E]) ∧ OwnCls w' w.heap.size (.slice A L.length c) L.length L ∧ Ext w w'
theorem expF_len (cl : List I6) (v a : Int) : (expF cl v a).length ≤ cl.length := List.length_filter_le ..
theorem hExposed_any (n c n2 c2 : Nat) (A A2 : Option Addr) (cl ps : List I6) (v a : Int) (w : World) (h : Sl w 6 A n c (cl.flatMap clsC)) (h2 : Sl w 6 A2 n2 c2 (ps.flatMap posC)) (hn : n < 1099511000) (hn2 : n2 < 1099511627776) (hw : ∀ x ∈ cl, WdC x) (hw2 : ∀ x ∈ ps, WdP x) :
  Calls Tryz.prog 31 #[.agg #[.slice A n c, .slice A2 n2 c2], .int .i64 v, .int .i64 a] w (RetE (expH cl ps v a) (chkH cl ps) w) := by
 obtain ⟨iCls, iCls_0, iCls_1, iCls_2, iCls_3⟩ := info_parts cls_info
 have hll := h.rlen clsC_len (by decide)
 have C1 := Lib.hid (fun (w' : World) (hx : Ext w w') => hCheck_any n c n2 c2 A A2 cl ps w' (h.ext hx) (h2.ext hx) (by omega) hn2 hw hw2)
 have HLL := Lib.hid hll
 obtain ⟨R, hR⟩ : ∃ R, R = expH cl ps v a := ⟨_, rfl⟩
 rw [← hR]
 unfold expH at hR
 obtain ⟨E, hE⟩ : ∃ E, E = chkH cl ps := ⟨_, rfl⟩
 rw [← hE] at C1 hR ⊢
 by_cases he : ¬ E = 0
 ·rw [if_pos he] at hR
  subst hR
  have heb : (E != 0) = true := by simpa using he
  clear h h2 hw hw2 hE hn hn2 hll HLL
  go_enter Tryz.func31, Tryz.ntmps31
  go_wp2_with fail
  (with_reducible refine (C1.out _ zxt).mono ?_)
  rintro e w1 ⟨rfl, hx1⟩
  have z1 := hx1.size
  try simp at z1
  have X1 : Hid (Ext w w1) := Lib.hid (Ext.trans zxt hx1)
  clear hx1
  go_wp2_with fail
  refine bodyPost_ret (v := .tuple #[.slice none 0 0, .int .i64 E]) (by simp [results, Tryz.results31, go_sem, World.cell?_alloc_past]; try rfl) rfl ⟨none, 0, rfl, OwnCls.nil _ _, ?_⟩
  exact zxt
 replace he : E = 0 := by omega
 rw [if_neg (by omega)] at hR
 have HR := Lib.hid hR
 subst he
 have C2 := Lib.hid (fun w => hheight_any a w)
 have C3 := Lib.hid (fun w => hvalidator_any v w)
 have HEX := Lib.hid (fun (k : Nat) (x : I6) (hx : cl[k]? = some x) => expF_step (v := v) (a := a) hx)
 obtain ⟨HB, hHB⟩ : ∃ B, B = decide (1 ≤ a ∧ a ≤ 4294967296) := ⟨_, rfl⟩
 obtain ⟨VB, hVB⟩ : ∃ B, B = decide (0 ≤ v ∧ v < 32) := ⟨_, rfl⟩
 rw [← hHB] at C2 HEX
 rw [← hVB] at C3 HEX
 have HS := Lib.hid h.low
 have hsm := h.small
 clear h h2 hw hw2 hE hR hHB hVB hn2 hll
 go_enter Tryz.func31, Tryz.ntmps31
 go_wp2_with fail
 (with_reducible refine (C1.out _ zxt).mono ?_)
 rintro e w1 ⟨rfl, hx1⟩
 have c0_0 : w1.cell? ⟨w.heap.size, 0, none⟩ = some (.slice A n c) := hx1.has zcv
 have z1 := hx1.size
 try simp at z1
 have rc0 := zr w.heap.size w1
 replace HS := Lib.hid (HS.out.ext (Ext.trans zxt hx1))
 have X1 : Hid (Ext w w1) := Lib.hid (Ext.trans zxt hx1)
 clear hx1
 go_wp2_with fail
 go_loopg [9, 20] n (fun gh out i wx => gh ≤ n ∧ i = .int .i64 ((n - gh : Nat) : Int) ∧ ∃ (B3 : Option Addr) (d3 : Nat) (CL : List I6), out = .slice B3 CL.length d3 ∧ Hid (CL = expF (cl.take (n - gh)) v a) ∧ Hid (OwnCls wx w.heap.size (.slice B3 CL.length d3) CL.length CL) ∧ Hid (SlB w.heap.size wx 6 A n c (cl.flatMap clsC)) ∧ w.heap.size ≤ wx.heap.size ∧ Hid (Ext w wx))
 case atStart => exact ⟨Nat.le_refl _, by simp, none, 0, [], rfl, by rw [Nat.sub_self]; exact Lib.hid (by simp [expF]), Lib.hid (OwnCls.nil _ _), Lib.hid (HS.out.ext zxt), by first | omega | (simp; done) | (simp; omega), Lib.hid zxt⟩
 clear HS
 obtain ⟨hg, hi, B3, d3, CL, rfl, HI, HO, HS, hBr, XR⟩ := hrel
 obtain ⟨k, hkk⟩ : ∃ k, k = n - gk := ⟨_, rfl⟩
 rw [← hkk] at hi HI
 subst hi
 by_cases hz : gk = 0
 ·have hkn : ¬ (k : Int) < (n : Int) := by omega
  obtain rfl : R = CL := by rw [HR.out, HI.out, List.take_of_length_le (by have := HLL.out; omega)]
  clear hkk hg hz HI HR
  go_wp2
  refine bodyPost_ret (v := .tuple #[.slice B3 R.length d3, .int .i64 0]) (by simp [results, Tryz.results31, go_sem]; try rfl) rfl ⟨B3, d3, rfl, HO.out, XR.out⟩
 have hkn : (k : Int) < (n : Int) := by omega
 have hkl : k < cl.length := by have := HLL.out; omega
 obtain ⟨b1, o1, rfl, hb1, hc_x⟩ := HS.out.sl.rec_ clsC_len (show 0 < n from by omega)
 obtain ⟨xw, hl_x⟩ : ∃ x, cl[k]? = some x := ⟨_, List.getElem?_eq_getElem (by omega)⟩
 have x_0 := hc_x (k) xw hl_x 0 _ rfl
 have x_1 := hc_x (k) xw hl_x 1 _ rfl
 have x_2 := hc_x (k) xw hl_x 2 _ rfl
 have x_3 := hc_x (k) xw hl_x 3 _ rfl
 have x_4 := hc_x (k) xw hl_x 4 _ rfl
 have x_5 := hc_x (k) xw hl_x 5 _ rfl
 obtain ⟨xv, xs, xp, xf, xt, xh⟩ := xw
 simp only at x_0 x_1 x_2 x_3 x_4 x_5
 rw [Nat.add_zero] at x_0
 rw [← Nat.add_assoc] at x_1 x_2 x_3 x_4 x_5
 have HE := Lib.hid (HEX.out k _ hl_x)
 have CT := Lib.hid (fun w => tBacked_any xv xs xp xf v a 0 w)
 obtain ⟨BB, hBB⟩ : ∃ B, B = bkdB xv xs xp xf v a 0 := ⟨_, rfl⟩
 rw [← hBB] at CT
 rw [show bkC (xv, xs, xp, xf, xt, xh) v a = BB from hBB.symm] at HE
 have hLL : CL.length ≤ k := by rw [HI.out]; exact Nat.le_trans (expF_len ..) (by rw [List.length_take]; omega)
 have HKK := Lib.hid (And.intro hkk (And.intro hg hz))
 have hbw := HS.out.2 (by omega) b1 o1 none rfl
 have hb1s : ¬ b1 = wr.heap.size := by omega
 have NO : Hid (∀ j, (Value.slice B3 CL.length d3).ownBlock = some j → ¬ j = wr.heap.size) := Lib.hid (fun j hj => by have h9 := own_rng HO.out j hj; omega)
 clear hl_x hc_x hBB hkk hg hz hkl
 rcases (show HB = false ∨ (HB = true ∧ VB = false) ∨ (HB = true ∧ VB = true ∧ BB = false) ∨ (HB = true ∧ VB = true ∧ BB = true) from by cases HB <;> cases VB <;> cases BB <;> simp) with rfl | ⟨rfl, rfl⟩ | ⟨rfl, rfl, rfl⟩ | ⟨rfl, rfl, rfl⟩
 ·go_wp2_with fail
  (with_reducible refine (C2.out _).mono ?_)
  rintro e w_1 ⟨rfl, hs0⟩
  have hs1 := hs0.symm
  clear hs0
  subst hs1
  go_wp2_with fail
  go_roundg (gk - 1)
  case measure => have := HKK.out; omega
  exact ⟨by have := HKK.out; omega, num_eq (by have := HKK.out; omega), B3, d3, CL, rfl, by rw [show n - (gk - 1) = k + 1 from by have := HKK.out; omega]; exact Lib.hid (by rw [HI.out, HE.out]; simp), Lib.hid (show OwnCls _ (w.heap.size) _ _ _ from (show World.ownsRow _ (w.heap.size) _ _ _ _ _ from by repeat (first | exact HO.out | with_reducible refine own_box ?_ (by omega) | refine own_keep ?_ (Ext.alloc (Ext.refl _) _) | refine own_set_ne ?_ (fun j hj hh => NO.out j hj hh)))), Lib.hid zSlTkn1_0, by first | omega | (simp; done) | (simp; omega), Lib.hid zxt⟩
 ·go_wp2_with fail
  (with_reducible refine (C2.out _).mono ?_)
  rintro e w_1 ⟨rfl, hs0⟩
  have hs1 := hs0.symm
  clear hs0
  subst hs1
  go_wp2_with fail
  (with_reducible refine (C3.out _).mono ?_)
  rintro e w_2 ⟨rfl, hs0⟩
  have hs1 := hs0.symm
  clear hs0
  subst hs1
  go_wp2_with fail
  go_roundg (gk - 1)
  case measure => have := HKK.out; omega
  exact ⟨by have := HKK.out; omega, num_eq (by have := HKK.out; omega), B3, d3, CL, rfl, by rw [show n - (gk - 1) = k + 1 from by have := HKK.out; omega]; exact Lib.hid (by rw [HI.out, HE.out]; simp), Lib.hid (show OwnCls _ (w.heap.size) _ _ _ from (show World.ownsRow _ (w.heap.size) _ _ _ _ _ from by repeat (first | exact HO.out | with_reducible refine own_box ?_ (by omega) | refine own_keep ?_ (Ext.alloc (Ext.refl _) _) | refine own_set_ne ?_ (fun j hj hh => NO.out j hj hh)))), Lib.hid zSlTkn1_0, by first | omega | (simp; done) | (simp; omega), Lib.hid zxt⟩
 ·go_wp2_with fail
  (with_reducible refine (C2.out _).mono ?_)
  rintro e w_1 ⟨rfl, hs0⟩
  have hs1 := hs0.symm
  clear hs0
  subst hs1
  go_wp2_with fail
  (with_reducible refine (C3.out _).mono ?_)
  rintro e w_2 ⟨rfl, hs0⟩
  have hs1 := hs0.symm
  clear hs0
  subst hs1
  go_wp2_with fail
  (with_reducible refine (CT.out _).mono ?_)
  rintro e w51 ⟨rfl, hx51⟩
  have z51 := hx51.size
  try simp at z51
  replace HO := Lib.hid (HO.out.ext (Ext.trans zxt hx51))
  replace HS := Lib.hid (HS.out.ext (Ext.trans zxt hx51))
  have X51 : Hid (Ext w w51) := Lib.hid (Ext.trans zxt hx51)
  clear x_4 x_0 x_3 x_5 x_2 x_1 XR hx51
  go_wp2_with fail
  go_roundg (gk - 1)
  case measure => have := HKK.out; omega
  exact ⟨by have := HKK.out; omega, num_eq (by have := HKK.out; omega), B3, d3, CL, rfl, by rw [show n - (gk - 1) = k + 1 from by have := HKK.out; omega]; exact Lib.hid (by rw [HI.out, HE.out]; simp), Lib.hid (show OwnCls _ (w.heap.size) _ _ _ from (show World.ownsRow _ (w.heap.size) _ _ _ _ _ from by repeat (first | exact HO.out | with_reducible refine own_box ?_ (by omega) | refine own_keep ?_ (Ext.alloc (Ext.refl _) _) | refine own_set_ne ?_ (fun j hj hh => NO.out j hj hh)))), Lib.hid zSlTkn1_0, by first | omega | (simp; done) | (simp; omega), Lib.hid zxt⟩
 go_wp2_with fail
 (with_reducible refine (C2.out _).mono ?_)
 rintro e w_1 ⟨rfl, hs0⟩
 have hs1 := hs0.symm
 clear hs0
 subst hs1
 go_wp2_with fail
 (with_reducible refine (C3.out _).mono ?_)
 rintro e w_2 ⟨rfl, hs0⟩
 have hs1 := hs0.symm
 clear hs0
 subst hs1
 go_wp2_with fail
 (with_reducible refine (CT.out _).mono ?_)
 rintro e w71 ⟨rfl, hx71⟩
 have c0_0 : w71.cell? ⟨wr.heap.size, 0, none⟩ = some (.int .i64 xv) := hx71.has zcv
 have c0_1 : w71.cell? ⟨wr.heap.size, 1, none⟩ = some (.int .i64 xs) := hx71.has zcv
 have c0_2 : w71.cell? ⟨wr.heap.size, 2, none⟩ = some (.int .i64 xp) := hx71.has zcv
 have c0_3 : w71.cell? ⟨wr.heap.size, 3, none⟩ = some (.int .i64 xf) := hx71.has zcv
 have c0_4 : w71.cell? ⟨wr.heap.size, 4, none⟩ = some (.int .u64 xt) := hx71.has zcv
 have c0_5 : w71.cell? ⟨wr.heap.size, 5, none⟩ = some (.int .u64 xh) := hx71.has zcv
 have z71 := hx71.size
 try simp at z71
 have rc0 := zr wr.heap.size w71
 replace HO := Lib.hid (HO.out.ext (Ext.trans zxt hx71))
 replace HS := Lib.hid (HS.out.ext (Ext.trans zxt hx71))
 have X71 : Hid (Ext w w71) := Lib.hid (Ext.trans zxt hx71)
 clear x_4 x_0 x_3 x_5 x_2 x_1 XR hx71
 go_wp2_with (at_builtin; refine wpList_append_slB _ rfl _ _ 22 rfl (w.heap.size) 79 iCls (.agg #[.int .i64 0, .int .i64 0, .int .i64 0, .int .i64 0, .int .u64 0, .int .u64 0]) 6 48 Tryz.underlying22 iCls_0 iCls_1 iCls_2 iCls_3 rfl (by decide) (.slice B3 CL.length d3) CL.length (CL.flatMap clsC) (by rfl) ((HO.out.ext zxt)) _ 1 _ (#[.int .i64 xv, .int .i64 xs, .int .i64 xp, .int .i64 xf, .int .u64 xt, .int .u64 xh].toList) (by first | rfl | (simp [Act.eval, go_sem]; done)) (sl_new _ 79 6 #[.int .i64 xv, .int .i64 xs, .int .i64 xp, .int .i64 xf, .int .u64 xt, .int .u64 xh] 1 rfl (by decide)) (by intro u hu; simp at hu; rcases hu with rfl | rfl | rfl | rfl | rfl | rfl <;> rfl) (by omega) (by decide) (by (try simp); omega) ?_; intro v72 w72 hown72 hx72 hn72; refine Hid.out ?_)
 refine Lib.hid ?_
 obtain ⟨A72, c72, rfl, hnil72, hO72⟩ := own_app (f := clsC) (xv, xs, xp, xf, xt, xh) hown72 rfl rfl
 obtain ⟨L72, hL72⟩ : ∃ l, l = CL ++ [(xv, xs, xp, xf, xt, xh)] := ⟨_, rfl⟩
 rw [← hL72] at hO72 ⊢
 have HL72 := Lib.hid hL72
 have hNL72 : L72.length = CL.length + 1 := by rw [hL72, List.length_append]; rfl
 clear hown72 hn72 hnil72 hL72
 have hsz72 := hx72.size
 try simp at hsz72
 have z72 := hx72.size
 try simp at z72
 have X72 : Hid (Ext w w72) := Lib.hid (have hX := (show Ext w _ from zxt); Below.trans hX (hx72.below (Ext.size hX) (fun k hk hh => by have hh2 := own_rng HO.out _ hh; omega)))
 replace HS := Lib.hid ((HS.out.ext zxt).but hx72 (fun k hk => by have hh2 := own_rng HO.out _ hk; omega))
 clear HO
 have HO := Lib.hid (show OwnCls _ (w.heap.size) _ _ _ from hO72)
 clear c0_0 c0_2 c0_3 c0_4 c0_5 c0_1 rc0 hsz72 X71 hx72
 clear hO72
 go_wp2_with fail
 go_roundg (gk - 1)
 case measure => have := HKK.out; omega
 exact ⟨by have := HKK.out; omega, num_eq (by have := HKK.out; omega), A72, c72, L72, rfl, by rw [show n - (gk - 1) = k + 1 from by have := HKK.out; omega]; exact Lib.hid (by rw [HL72.out, HI.out, HE.out]; simp), Lib.hid (show OwnCls _ (w.heap.size) _ _ _ from (show World.ownsRow _ (w.heap.size) _ _ _ _ _ from by repeat (first | exact HO.out | with_reducible refine own_box ?_ (by omega) | refine own_keep ?_ (Ext.alloc (Ext.refl _) _) | refine own_set_ne ?_ (fun j hj hh => NO.out j hj hh)))), Lib.hid zSlTkn1_0, by first | omega | (simp; done) | (simp; omega), Lib.hid zxt⟩
theorem RetD.zero {E : Int} {w w' : World} {e : Ending} (h : RetD [] [] 0 [] E w e w') : ∃ B d B2 d2 A c, e = .returned (.tuple #[.agg #[.slice B 0 d, .slice B2 0 d2], .int .u64 0, .slice A 0 c, .int .i64 E]) ∧ OwnCls w' w.heap.size (.slice B 0 d) 0 [] ∧ OwnPos w' w.heap.size (.slice B2 0 d2) 0 [] ∧ Ext w w' := by
 obtain ⟨B, d, B2, d2, A, c, h1, _, _, h2, h3, _, h4⟩ := h
 exact ⟨B, d, B2, d2, A, c, h1, h2, h3, h4⟩
theorem errs13_any (n c n2 c2 : Nat) (A A2 : Option Addr) (k o V S P Q v h m e : Int) (w : World) (CD : Hid (∀ w', Ext w w' → Calls Tryz.prog 16 #[.agg #[.slice A n c, .slice A2 n2 c2], .agg #[.int .i64 k, .int .i64 o, .int .i64 V, .int .i64 S, .int .i64 P, .int .i64 Q, .int .i64 v, .int .i64 h, .int .u64 m]] w' (RetD [] [] 0 [] e w'))) :
  Calls Tryz.prog 25 #[.agg #[.slice A n c, .slice A2 n2 c2], .agg #[.int .i64 k, .int .i64 o, .int .i64 V, .int .i64 S, .int .i64 P, .int .i64 Q, .int .i64 v, .int .i64 h, .int .u64 m], .int .i64 e] w fun r w' => r = .returned (.bool true) ∧ Ext w w' := by
 have hee : (e == e) = true := by simp
 go_enter Tryz.func25, Tryz.ntmps25
 go_wp2_with fail
 (with_reducible refine (((CD.out _ zxt).mono (fun e w' h => RetD.zero h))).mono ?_)
 rintro e w1 ⟨B, d, B2, d2, A9, c9, rfl, hO, hO2, hx1⟩
 have z1 := hx1.size
 try simp at z1
 have X1 : Hid (Ext w w1) := Lib.hid (Ext.trans zxt hx1)
 have HO := Lib.hid (show OwnCls _ w.heap.size _ _ _ from own_lower hO (by first | exact Nat.le_refl _ | omega | (simp; done) | (simp; omega)))
 have HP := Lib.hid (show OwnPos _ w.heap.size _ _ _ from own_lower hO2 (by first | exact Nat.le_refl _ | omega | (simp; done) | (simp; omega)))
 clear hx1
 clear hO hO2
 go_wp2_with fail
 (refine (((kSameHolding_any 0 d 0 d2 0 0 0 0 B B2 none none [] [] [] [] _ (OwnCls.sl (HO.out.ext zxt)) (OwnPos.sl (HP.out.ext zxt)) (OwnCls.nil _ 0).sl (OwnPos.nil _ 0).sl).mono (fun e w' h => (⟨h.1.trans (by simp), h.2⟩ : e = .returned (.bool true) ∧ Ext _ w')))).mono ?_)
 rintro e w2 ⟨rfl, hx2⟩
 have z2 := hx2.size
 try simp at z2
 have X2 : Hid (Ext w w2) := Lib.hid (Ext.trans zxt hx2)
 clear HO HP X1 hx2
 go_wp2_with fail
 refine bodyPost_ret (v := .bool true) (by simp [results, Tryz.results25, go_sem, World.cell?_alloc_past, hee]; try rfl) rfl ⟨rfl, ?_⟩
 exact zxt
def knC : List I6 := [(2, 5, -1, 0, 20, 20)]
def knP : List I6 := [(0, 2, 5, -1, 0, 10), (1, 2, 5, -1, 0, 10)]
theorem kncut : hcutV (chC 3) (chP 3) 2 4 1000000000 = (chC 3, chP 3, [], 0, 0) := by first | kernel_rfl | rfl
theorem kncut2 : hcutV (chC 3) (chP 3) 3 9 1000000000 = (knC, knP, [(3, 6, -1, 0, 7)], 7, 0) := by first | kernel_rfl | rfl
theorem knlea : hleaV (chC 3) (chP 3) 1 3 6 (-1) 0 7 = (knC, knP, 7, 0) := by first | kernel_rfl | rfl
theorem kntok : tokH (chC 3) (chP 3) 2 = 20 := by first | kernel_rfl | rfl
theorem knall : allT (chC 3) (chP 3) = 27 := by first | kernel_rfl | rfl
theorem knexp : expH (chC 3) (chP 3) 2 5 = knC := by first | kernel_rfl | rfl
theorem knchk : chkH (chC 3) (chP 3) = 0 := by first | kernel_rfl | rfl
theorem kn_e0 : (([] : List I6), ([] : List I6), ([] : List I5), (0 : Int), (3 : Int)) = hcutV (chC 3) (chP 3) 32 1 0 := by first | kernel_rfl | rfl
theorem knErr0_any (d d2 : Nat) (B B2 : Option Addr) (w : World) (h1 : Sl w 6 B 2 d ((chC 3).flatMap clsC)) (h2 : Sl w 6 B2 3 d2 ((chP 3).flatMap posC)) (hB : B = none → d = 0) (hB2 : B2 = none → d2 = 0) :
  Calls Tryz.prog 25 #[.agg #[.slice B 2 d, .slice B2 3 d2], .agg #[.int .i64 2, .int .i64 0, .int .i64 0, .int .i64 0, .int .i64 0, .int .i64 0, .int .i64 32, .int .i64 1, .int .u64 0], .int .i64 3] w fun r w' => r = .returned (.bool true) ∧ Ext w w' := by
 obtain ⟨wd1, wd2, _, _⟩ := ch_wd 3 (by decide)
 exact errs13_any 2 d 3 d2 B B2 2 0 0 0 0 0 32 1 0 3 w (Lib.hid (fun w' hx => does13_cut d d2 B B2 (chC 3) (chP 3) 2 0 0 0 0 0 32 1 0 [] [] 0 3 [] w' (h1.ext hx) (h2.ext hx) (by decide) (by decide) hB hB2 wd1 wd2 ⟨by decide, by decide⟩ rfl kn_e0))
theorem kn_e1 : (([] : List I6), ([] : List I6), (0 : Int), (10 : Int)) = hleaV (chC 3) (chP 3) 0 3 6 (-1) 0 1 := by first | kernel_rfl | rfl
theorem knErr1_any (d d2 : Nat) (B B2 : Option Addr) (w : World) (h1 : Sl w 6 B 2 d ((chC 3).flatMap clsC)) (h2 : Sl w 6 B2 3 d2 ((chP 3).flatMap posC)) (hB : B = none → d = 0) (hB2 : B2 = none → d2 = 0) :
  Calls Tryz.prog 25 #[.agg #[.slice B 2 d, .slice B2 3 d2], .agg #[.int .i64 1, .int .i64 0, .int .i64 3, .int .i64 6, .int .i64 (-1), .int .i64 0, .int .i64 0, .int .i64 0, .int .u64 1], .int .i64 10] w fun r w' => r = .returned (.bool true) ∧ Ext w w' := by
 obtain ⟨wd1, wd2, _, _⟩ := ch_wd 3 (by decide)
 exact errs13_any 2 d 3 d2 B B2 1 0 3 6 (-1) 0 0 0 1 10 w (Lib.hid (fun w' hx => does13_leave d d2 B B2 (chC 3) (chP 3) 1 0 3 6 (-1) 0 0 0 1 [] [] 0 10 [] w' (h1.ext hx) (h2.ext hx) (by decide) (by decide) hB hB2 wd1 wd2 ⟨by decide, by decide⟩ rfl kn_e1 rfl))
theorem kn_e2 : (([] : List I6), ([] : List I6), (0 : Int), (13 : Int)) = hleaV (chC 3) (chP 3) 0 2 5 (-1) 0 11 := by first | kernel_rfl | rfl
theorem knErr2_any (d d2 : Nat) (B B2 : Option Addr) (w : World) (h1 : Sl w 6 B 2 d ((chC 3).flatMap clsC)) (h2 : Sl w 6 B2 3 d2 ((chP 3).flatMap posC)) (hB : B = none → d = 0) (hB2 : B2 = none → d2 = 0) :
  Calls Tryz.prog 25 #[.agg #[.slice B 2 d, .slice B2 3 d2], .agg #[.int .i64 1, .int .i64 0, .int .i64 2, .int .i64 5, .int .i64 (-1), .int .i64 0, .int .i64 0, .int .i64 0, .int .u64 11], .int .i64 13] w fun r w' => r = .returned (.bool true) ∧ Ext w w' := by
 obtain ⟨wd1, wd2, _, _⟩ := ch_wd 3 (by decide)
 exact errs13_any 2 d 3 d2 B B2 1 0 2 5 (-1) 0 0 0 11 13 w (Lib.hid (fun w' hx => does13_leave d d2 B B2 (chC 3) (chP 3) 1 0 2 5 (-1) 0 0 0 11 [] [] 0 13 [] w' (h1.ext hx) (h2.ext hx) (by decide) (by decide) hB hB2 wd1 wd2 ⟨by decide, by decide⟩ rfl kn_e2 rfl))
theorem kn_e3 : (([] : List I6), ([] : List I6), (0 : Int), (14 : Int)) = hleaV (chC 3) (chP 3) 0 2 5 (-1) 0 0 := by first | kernel_rfl | rfl
theorem knErr3_any (d d2 : Nat) (B B2 : Option Addr) (w : World) (h1 : Sl w 6 B 2 d ((chC 3).flatMap clsC)) (h2 : Sl w 6 B2 3 d2 ((chP 3).flatMap posC)) (hB : B = none → d = 0) (hB2 : B2 = none → d2 = 0) :
  Calls Tryz.prog 25 #[.agg #[.slice B 2 d, .slice B2 3 d2], .agg #[.int .i64 1, .int .i64 0, .int .i64 2, .int .i64 5, .int .i64 (-1), .int .i64 0, .int .i64 0, .int .i64 0, .int .u64 0], .int .i64 14] w fun r w' => r = .returned (.bool true) ∧ Ext w w' := by
 obtain ⟨wd1, wd2, _, _⟩ := ch_wd 3 (by decide)
 exact errs13_any 2 d 3 d2 B B2 1 0 2 5 (-1) 0 0 0 0 14 w (Lib.hid (fun w' hx => does13_leave d d2 B B2 (chC 3) (chP 3) 1 0 2 5 (-1) 0 0 0 0 [] [] 0 14 [] w' (h1.ext hx) (h2.ext hx) (by decide) (by decide) hB hB2 wd1 wd2 ⟨by decide, by decide⟩ rfl kn_e3 rfl))
theorem kn_e4 : (([] : List I6), ([] : List I6), (0 : Int), (3 : Int)) = hjoiV (chC 3) (chP 3) 64 2 5 (-1) 0 1 := by first | kernel_rfl | rfl
theorem knErr4_any (d d2 : Nat) (B B2 : Option Addr) (w : World) (h1 : Sl w 6 B 2 d ((chC 3).flatMap clsC)) (h2 : Sl w 6 B2 3 d2 ((chP 3).flatMap posC)) (hB : B = none → d = 0) (hB2 : B2 = none → d2 = 0) :
  Calls Tryz.prog 25 #[.agg #[.slice B 2 d, .slice B2 3 d2], .agg #[.int .i64 0, .int .i64 64, .int .i64 2, .int .i64 5, .int .i64 (-1), .int .i64 0, .int .i64 0, .int .i64 0, .int .u64 1], .int .i64 3] w fun r w' => r = .returned (.bool true) ∧ Ext w w' := by
 obtain ⟨wd1, wd2, _, _⟩ := ch_wd 3 (by decide)
 exact errs13_any 2 d 3 d2 B B2 0 64 2 5 (-1) 0 0 0 1 3 w (Lib.hid (fun w' hx => does13_join d d2 B B2 (chC 3) (chP 3) 0 64 2 5 (-1) 0 0 0 1 [] [] 0 3 [] w' (h1.ext hx) (h2.ext hx) (by decide) (by decide) hB hB2 wd1 wd2 ⟨by decide, by decide⟩ rfl kn_e4 rfl))
theorem kn_e5 : (([] : List I6), ([] : List I6), (0 : Int), (14 : Int)) = hjoiV (chC 3) (chP 3) 0 2 5 (-1) 0 0 := by first | kernel_rfl | rfl
theorem knErr5_any (d d2 : Nat) (B B2 : Option Addr) (w : World) (h1 : Sl w 6 B 2 d ((chC 3).flatMap clsC)) (h2 : Sl w 6 B2 3 d2 ((chP 3).flatMap posC)) (hB : B = none → d = 0) (hB2 : B2 = none → d2 = 0) :
  Calls Tryz.prog 25 #[.agg #[.slice B 2 d, .slice B2 3 d2], .agg #[.int .i64 0, .int .i64 0, .int .i64 2, .int .i64 5, .int .i64 (-1), .int .i64 0, .int .i64 0, .int .i64 0, .int .u64 0], .int .i64 14] w fun r w' => r = .returned (.bool true) ∧ Ext w w' := by
 obtain ⟨wd1, wd2, _, _⟩ := ch_wd 3 (by decide)
 exact errs13_any 2 d 3 d2 B B2 0 0 2 5 (-1) 0 0 0 0 14 w (Lib.hid (fun w' hx => does13_join d d2 B B2 (chC 3) (chP 3) 0 0 2 5 (-1) 0 0 0 0 [] [] 0 14 [] w' (h1.ext hx) (h2.ext hx) (by decide) (by decide) hB hB2 wd1 wd2 ⟨by decide, by decide⟩ rfl kn_e5 rfl))
theorem kn_e6 : (([] : List I6), ([] : List I6), (0 : Int), (12 : Int)) = hjoiV (chC 3) (chP 3) 0 2 5 (-1) 0 4611686018427387904 := by first | kernel_rfl | rfl
theorem knErr6_any (d d2 : Nat) (B B2 : Option Addr) (w : World) (h1 : Sl w 6 B 2 d ((chC 3).flatMap clsC)) (h2 : Sl w 6 B2 3 d2 ((chP 3).flatMap posC)) (hB : B = none → d = 0) (hB2 : B2 = none → d2 = 0) :
  Calls Tryz.prog 25 #[.agg #[.slice B 2 d, .slice B2 3 d2], .agg #[.int .i64 0, .int .i64 0, .int .i64 2, .int .i64 5, .int .i64 (-1), .int .i64 0, .int .i64 0, .int .i64 0, .int .u64 4611686018427387904], .int .i64 12] w fun r w' => r = .returned (.bool true) ∧ Ext w w' := by
 obtain ⟨wd1, wd2, _, _⟩ := ch_wd 3 (by decide)
 exact errs13_any 2 d 3 d2 B B2 0 0 2 5 (-1) 0 0 0 4611686018427387904 12 w (Lib.hid (fun w' hx => does13_join d d2 B B2 (chC 3) (chP 3) 0 0 2 5 (-1) 0 0 0 4611686018427387904 [] [] 0 12 [] w' (h1.ext hx) (h2.ext hx) (by decide) (by decide) hB hB2 wd1 wd2 ⟨by decide, by decide⟩ rfl kn_e6 rfl))
theorem knCutA_any (d d2 : Nat) (B B2 : Option Addr) (w : World) (h1 : Sl w 6 B 2 d ((chC 3).flatMap clsC)) (h2 : Sl w 6 B2 3 d2 ((chP 3).flatMap posC)) (hB : B = none → d = 0) (hB2 : B2 = none → d2 = 0) :
  Calls Tryz.prog 23 #[.agg #[.slice B 2 d, .slice B2 3 d2], .int .i64 2, .int .i64 4, .int .u64 1000000000] w fun e w' => ∃ G dg G2 dg2 A c, e = .returned (.tuple #[.agg #[.slice G 2 dg, .slice G2 3 dg2], .slice A 0 c, .int .u64 0, .int .i64 0]) ∧ OwnPos w' w.heap.size (.slice G2 3 dg2) 3 (chP 3) ∧ Ext w w' := by
 obtain ⟨wd1, wd2, _, _⟩ := ch_wd 3 (by decide)
 refine (hCut_any d d2 B B2 (chC 3) (chP 3) 2 4 1000000000 w h1 h2 (by decide) (by decide) hB hB2 wd1 wd2 ⟨by decide, by decide⟩).mono ?_
 intro e w' h
 rw [kncut] at h
 obtain ⟨v, A, c, h1, _, ⟨B, d, B2, d2, rfl, h2, h3, h4, h5, h6⟩, h7⟩ := h
 exact ⟨B, d, B2, d2, A, c, h1, h5, h6⟩
theorem knCutB_any (d d2 : Nat) (B B2 : Option Addr) (w : World) (h1 : Sl w 6 B 2 d ((chC 3).flatMap clsC)) (h2 : Sl w 6 B2 3 d2 ((chP 3).flatMap posC)) (hB : B = none → d = 0) (hB2 : B2 = none → d2 = 0) :
  Calls Tryz.prog 23 #[.agg #[.slice B 2 d, .slice B2 3 d2], .int .i64 3, .int .i64 9, .int .u64 1000000000] w fun e w' => ∃ G dg G2 dg2 A c, e = .returned (.tuple #[.agg #[.slice G 1 dg, .slice G2 2 dg2], .slice A 1 c, .int .u64 7, .int .i64 0]) ∧ OwnPos w' w.heap.size (.slice G2 2 dg2) 2 knP ∧ Ext w w' := by
 obtain ⟨wd1, wd2, _, _⟩ := ch_wd 3 (by decide)
 refine (hCut_any d d2 B B2 (chC 3) (chP 3) 3 9 1000000000 w h1 h2 (by decide) (by decide) hB hB2 wd1 wd2 ⟨by decide, by decide⟩).mono ?_
 intro e w' h
 rw [kncut2] at h
 obtain ⟨v, A, c, h1, _, ⟨B, d, B2, d2, rfl, h2, h3, h4, h5, h6⟩, h7⟩ := h
 exact ⟨B, d, B2, d2, A, c, h1, h5, h6⟩
theorem knLeave_any (d d2 : Nat) (B B2 : Option Addr) (w : World) (h1 : Sl w 6 B 2 d ((chC 3).flatMap clsC)) (h2 : Sl w 6 B2 3 d2 ((chP 3).flatMap posC)) (hB : B = none → d = 0) (hB2 : B2 = none → d2 = 0) :
  Calls Tryz.prog 27 #[.agg #[.slice B 2 d, .slice B2 3 d2], .int .i64 1, .agg #[.int .i64 3, .int .i64 6, .int .i64 (-1), .int .i64 0], .int .u64 7] w fun e w' => ∃ G dg G2 dg2, e = .returned (.tuple #[.agg #[.slice G 1 dg, .slice G2 2 dg2], .int .u64 7, .int .i64 0]) ∧ OwnCls w' w.heap.size (.slice G 1 dg) 1 knC ∧ Ext w w' := by
 obtain ⟨wd1, wd2, _, _⟩ := ch_wd 3 (by decide)
 refine (hLeave_any d d2 B B2 (chC 3) (chP 3) 1 3 6 (-1) 0 7 w h1 h2 (by decide) (by decide) hB hB2 wd1 wd2 ⟨by decide, by decide⟩).mono ?_
 intro e w' h
 rw [knlea] at h
 obtain ⟨v, h1, ⟨B, d, B2, d2, rfl, h2, h3, h4, h5, h6⟩⟩ := h
 exact ⟨B, d, B2, d2, h1, h4, h6⟩
theorem knTok_any (d d2 : Nat) (B B2 : Option Addr) (w : World) (h1 : Sl w 6 B 2 d ((chC 3).flatMap clsC)) (h2 : Sl w 6 B2 3 d2 ((chP 3).flatMap posC)) :
  Calls Tryz.prog 29 #[.agg #[.slice B 2 d, .slice B2 3 d2], .int .i64 2] w fun e w' => e = .returned (.tuple #[.int .u64 20, .int .i64 0]) ∧ Ext w w' := by
 obtain ⟨wd1, wd2, _, _⟩ := ch_wd 3 (by decide)
 have C := hTokens_any 2 d 3 d2 B B2 (chC 3) (chP 3) 2 w h1 h2 (by decide) (by decide) wd1 wd2
 rw [kntok, knchk] at C
 exact C
theorem knAll_any (d d2 : Nat) (B B2 : Option Addr) (w : World) (h1 : Sl w 6 B 2 d ((chC 3).flatMap clsC)) (h2 : Sl w 6 B2 3 d2 ((chP 3).flatMap posC)) :
  Calls Tryz.prog 30 #[.agg #[.slice B 2 d, .slice B2 3 d2]] w fun e w' => e = .returned (.tuple #[.int .u64 27, .int .i64 0]) ∧ Ext w w' := by
 obtain ⟨wd1, wd2, _, _⟩ := ch_wd 3 (by decide)
 have C := hAll_any 2 d 3 d2 B B2 (chC 3) (chP 3) w h1 h2 (by decide) (by decide) wd1 wd2
 rw [knall, knchk] at C
 exact C
theorem knExp_any (d d2 : Nat) (B B2 : Option Addr) (w : World) (h1 : Sl w 6 B 2 d ((chC 3).flatMap clsC)) (h2 : Sl w 6 B2 3 d2 ((chP 3).flatMap posC)) :
  Calls Tryz.prog 31 #[.agg #[.slice B 2 d, .slice B2 3 d2], .int .i64 2, .int .i64 5] w fun e w' => ∃ A c, e = .returned (.tuple #[.slice A 1 c, .int .i64 0]) ∧ Ext w w' := by
 obtain ⟨wd1, wd2, _, _⟩ := ch_wd 3 (by decide)
 refine (hExposed_any 2 d 3 d2 B B2 (chC 3) (chP 3) 2 5 w h1 h2 (by decide) (by decide) wd1 wd2).mono ?_
 intro e w' h
 rw [knexp, knchk] at h
 obtain ⟨A, c, h1, _, h3⟩ := h
 exact ⟨A, c, h1, h3⟩
end
end Go.Proofs.YtkinchgjidpjnaaGreat
