/- Tne, part 3. Conditions stand in each lemma. -/
import Derived.Test.YtkinchgjidpjnaaGreatSlTne2
set_option linter.unusedVariables false
set_option linter.unusedSimpArgs false
set_option maxRecDepth 100000
set_option maxHeartbeats 64000000
namespace Go.Proofs.YtkinchgjidpjnaaGreat
section
open Go.RowKit Go.ChangeShapes Go.WideShapes Go.Deep Go.Joins
theorem zSlTne3_0 {P : Prop} (h : P := by unfold OwnPos; repeat (first | exact HP.out | refine own_set_ne ?_ (fun j hj hh => by have h9 := RJ.out j hj; (try simp only [World.size_alloc] at h9); first | omega | (simp at h9; omega) | (simp [go_sem] at h9; omega)) | refine own_keep (base := w.heap.size + 2) ?_ (Ext.alloc (Ext.refl _) _) | with_reducible refine World.ownsRow.drew ?_)) : P := h
theorem zSlTne3_1 {P : Prop} (h : P := by unfold OwnCls; repeat (first | exact HO.out | refine own_set_ne ?_ (fun j hj hh => by have h9 := RI.out j hj; (try simp only [World.size_alloc] at h9); first | omega | (simp at h9; omega) | (simp [go_sem] at h9; omega)) | refine own_keep (base := w.heap.size + 2) ?_ (Ext.alloc (Ext.refl _) _) | with_reducible refine World.ownsRow.drew ?_)) : P := h
theorem zSlTne3_2 {P : Prop} (h : P := by (first | exact ⟨a_0, a_1, a_2, a_3, a_4, a_5, a_6, a_7, a_8, h_0, h_1⟩ | (simp [go_sem, World.cell?_alloc_past, *]; done))) : P := h
theorem zSlTne3_3 {P : Prop} (h : P := by unfold OwnPos; repeat (first | exact HB.out | refine own_set_ne ?_ (fun j hj hh => by have h9 := RB.out j hj; (try simp only [World.size_alloc] at h9); first | omega | (simp at h9; omega) | (simp [go_sem] at h9; omega)) | refine own_keep (base := w.heap.size + 2) ?_ (Ext.alloc (Ext.refl _) _) | with_reducible refine World.ownsRow.drew ?_)) : P := h
theorem zSlTne3_4 {P : Prop} (h : P := by unfold OwnCls; repeat (first | exact HA.out | refine own_set_ne ?_ (fun j hj hh => by have h9 := RA.out j hj; (try simp only [World.size_alloc] at h9); first | omega | (simp at h9; omega) | (simp [go_sem] at h9; omega)) | refine own_keep (base := w.heap.size + 2) ?_ (Ext.alloc (Ext.refl _) _) | with_reducible refine World.ownsRow.drew ?_)) : P := h
theorem zSlTne3_5 {P : Prop} (h : P := by first | exact Nat.le_refl _ | omega | (simp; done) | (simp; omega)) : P := h
def doeV (cl ps : List I6) (k o V S P Q v h n : Int) : List I6 × List I6 × Int × List I5 × Int :=
 if k = 0 then ((hjoiV cl ps o V S P Q n).1, (hjoiV cl ps o V S P Q n).2.1, (hjoiV cl ps o V S P Q n).2.2.1, [], (hjoiV cl ps o V S P Q n).2.2.2)
 else if k = 1 then ((hleaV cl ps o V S P Q n).1, (hleaV cl ps o V S P Q n).2.1, (hleaV cl ps o V S P Q n).2.2.1, [], (hleaV cl ps o V S P Q n).2.2.2)
 else if k = 2 then ((hcutV cl ps v h n).1, (hcutV cl ps v h n).2.1, (hcutV cl ps v h n).2.2.2.1, (hcutV cl ps v h n).2.2.1, (hcutV cl ps v h n).2.2.2.2)
 else (cl, ps, 0, [], 0)
theorem does13_in (c c2 : Nat) (A A2 : Option Addr) (cl ps : List I6) (k o V S P Q v h n : Int) (C P' : List I6) (N E : Int) (L : List I5) (w : World) (hs : Sl w 6 A cl.length c (cl.flatMap clsC)) (hs2 : Sl w 6 A2 ps.length c2 (ps.flatMap posC)) (hn : cl.length < 1099511627776) (hn2 : ps.length < 1099511000) (hA : A = none → c = 0) (hA2 : A2 = none → c2 = 0) (hw : ∀ x ∈ cl, WdC x) (hw2 : ∀ x ∈ ps, WdP x) (hwn : Word n) (k0 : 0 ≤ k) (k2 : k ≤ 2) (hD : (C, P', N, L, E) = doeV cl ps k o V S P Q v h n) :
  Calls Tryz.prog 16 #[.agg #[.slice A cl.length c, .slice A2 ps.length c2], .agg #[.int .i64 k, .int .i64 o, .int .i64 V, .int .i64 S, .int .i64 P, .int .i64 Q, .int .i64 v, .int .i64 h, .int .u64 n]] w (RetD C P' N L E w) := by
 have hk : k = 0 ∨ k = 1 ∨ k = 2 := by omega
 rcases hk with hk | hk | hk
 ·have e : doeV cl ps k o V S P Q v h n = _ := if_pos hk
  rw [e] at hD
  simp only [Prod.mk.injEq] at hD
  obtain ⟨e1, e2, e3, e4, e5⟩ := hD
  exact does13_join c c2 A A2 cl ps k o V S P Q v h n C P' N E L w hs hs2 hn hn2 hA hA2 hw hw2 hwn hk (by rw [e1, e2, e3, e5]) e4
 ·have e : doeV cl ps k o V S P Q v h n = _ := (if_neg (by omega)).trans (if_pos hk)
  rw [e] at hD
  simp only [Prod.mk.injEq] at hD
  obtain ⟨e1, e2, e3, e4, e5⟩ := hD
  exact does13_leave c c2 A A2 cl ps k o V S P Q v h n C P' N E L w hs hs2 hn hn2 hA hA2 hw hw2 hwn hk (by rw [e1, e2, e3, e5]) e4
 have e : doeV cl ps k o V S P Q v h n = _ := (if_neg (by omega)).trans ((if_neg (by omega)).trans (if_pos hk))
 rw [e] at hD
 simp only [Prod.mk.injEq] at hD
 obtain ⟨e1, e2, e3, e4, e5⟩ := hD
 exact does13_cut c c2 A A2 cl ps k o V S P Q v h n C P' N E L w hs hs2 hn hn2 hA hA2 hw hw2 hwn hk (by rw [e1, e2, e3, e4, e5])
theorem doeV_ok {cl ps C P' : List I6} {k o V S P Q v h n N E : Int} {L : List I5} (hw : ∀ x ∈ cl, WdC x) (hw2 : ∀ x ∈ ps, WdP x) (hwn : Word n) (k0 : 0 ≤ k) (k2 : k ≤ 2) (hD : (C, P', N, L, E) = doeV cl ps k o V S P Q v h n) (hE : E = 0) :
  HOk cl ps ∧ HOk C P' ∧ (∀ x ∈ C, WdC x) ∧ (∀ x ∈ P', WdP x) ∧ C.length ≤ cl.length + 1 ∧ P'.length ≤ ps.length + 1 ∧ (k = 0 → totC C = totC cl + n) ∧ (k ≠ 0 → totC C + N = totC cl ∧ 0 ≤ N) ∧ (k = 2 → N = losN L) := by
 have hk : k = 0 ∨ k = 1 ∨ k = 2 := by omega
 rcases hk with hk | hk | hk
 ·have e : doeV cl ps k o V S P Q v h n = _ := if_pos hk
  rw [e] at hD
  simp only [Prod.mk.injEq] at hD
  obtain ⟨e1, e2, e3, e4, e5⟩ := hD
  have hz : hjoiE cl ps o V S P Q n = 0 := by
   by_cases hz : hjoiE cl ps o V S P Q n = 0
   ·exact hz
   rw [hjoiV_err rfl hz] at e5
   exact e5.symm.trans hE
  obtain ⟨a1, a2, a3, a4, a5, a6, a7⟩ := join_HOk hw hw2 hwn hz
  rw [← e1, ← e2] at a2
  rw [← e1] at a3 a5 a7
  rw [← e2] at a4 a6
  exact ⟨a1, a2, a3, a4, a5, a6, fun _ => a7, fun hh => absurd hk hh, fun hh => by omega⟩
 ·have e : doeV cl ps k o V S P Q v h n = _ := (if_neg (by omega)).trans (if_pos hk)
  rw [e] at hD
  simp only [Prod.mk.injEq] at hD
  obtain ⟨e1, e2, e3, e4, e5⟩ := hD
  have hz : hleaE cl ps o V S P Q n = 0 := by
   by_cases hz : hleaE cl ps o V S P Q n = 0
   ·exact hz
   rw [hleaV_err rfl hz] at e5
   exact e5.symm.trans hE
  obtain ⟨a1, a2, a3, a4, a5, a6, a7, a8⟩ := leave_HOk hw hw2 hwn hz
  rw [← e1, ← e2] at a2
  rw [← e1] at a3 a5
  rw [← e1, ← e3] at a7
  rw [← e2] at a4 a6
  rw [← e3] at a8
  exact ⟨a1, a2, a3, a4, a5, a6, fun hh => by omega, fun _ => ⟨a7, a8⟩, fun hh => by omega⟩
 have e : doeV cl ps k o V S P Q v h n = _ := (if_neg (by omega)).trans ((if_neg (by omega)).trans (if_pos hk))
 rw [e] at hD
 simp only [Prod.mk.injEq] at hD
 obtain ⟨e1, e2, e3, e4, e5⟩ := hD
 have hz : hcutE cl ps v h n = 0 := by
  by_cases hz : hcutE cl ps v h n = 0
  ·exact hz
  rw [hcutV_err rfl hz] at e5
  exact e5.symm.trans hE
 obtain ⟨a1, a2, a3, a4, a5, a6, a7, a8, a9⟩ := cut_HOk hw hw2 hwn hz
 rw [← e1, ← e2] at a2
 rw [← e1] at a3 a5
 rw [← e1, ← e3] at a7
 rw [← e2] at a4 a6
 rw [← e3] at a8
 rw [← e3, ← e4] at a9
 exact ⟨a1, a2, a3, a4, a5, a6, fun hh => by omega, fun _ => ⟨a7, a8⟩, fun _ => a9⟩
theorem firstE_two {a b : Int} : firstE [a, b] = if a = 0 then (if b = 0 then 0 else b) else a := rfl
theorem doeV_near {cl ps C P' : List I6} {yk yo yV yS yP yQ yv yh yn N E : Int} {L : List I5} (hk : HOk cl ps) (hw : ∀ x ∈ cl, WdC x) (H : NearA yk yo yV yS yP yQ yv yh yn) (hD : (C, P', N, L, E) = doeV cl ps yk yo yV yS yP yQ yv yh yn) : ¬ E = 3 ∧ ¬ E = 9 ∧ ¬ E = 4 := by
 have hc := (chkH_iff cl ps).2 hk
 have hP := hk.pool hw [yV, yS, yP, yQ]
 have hcase : yk = 0 ∨ yk = 1 ∨ yk = 2 := by have := H.k0; have := H.k2; omega
 rcases hcase with hq | hq | hq
 ·have e : doeV cl ps yk yo yV yS yP yQ yv yh yn = _ := if_pos hq
  rw [e] at hD
  simp only [Prod.mk.injEq] at hD
  have hE : E = hjoiE cl ps yo yV yS yP yQ yn := by
   rw [hD.2.2.2.2]
   by_cases hz : hjoiE cl ps yo yV yS yP yQ yn = 0
   ·rw [hjoiV_ok hz, hz]
   rw [hjoiV_err rfl hz]
  have hj : joiE (fndT cl [yV, yS, yP, yQ]) (fndS cl [yV, yS, yP, yQ]) yn = 0 ∨ joiE (fndT cl [yV, yS, yP, yQ]) (fndS cl [yV, yS, yP, yQ]) yn = 12 ∨ joiE (fndT cl [yV, yS, yP, yQ]) (fndS cl [yV, yS, yP, yQ]) yn = 14 := by
   unfold joiE
   rw [if_pos hP.chk]
   unfold joE
   rw [firstE_two]
   generalize joB (fndT cl [yV, yS, yP, yQ]) (fndS cl [yV, yS, yP, yQ]) yn = b9
   cases b9 <;> by_cases q9 : yn = 0 <;> simp [q9]
  rw [hE]
  unfold hjoiE
  rw [if_neg (by simpa using hc), if_neg (by intro hh; rcases hh with hh | hh; (have := H.o0; have := H.o1; omega); exact hh H.st)]
  split
  ·decide
  split
  ·rcases hj with hj | hj | hj <;> rw [hj] <;> decide
  split <;> decide
 ·have e : doeV cl ps yk yo yV yS yP yQ yv yh yn = _ := (if_neg (by omega)).trans (if_pos hq)
  rw [e] at hD
  simp only [Prod.mk.injEq] at hD
  have hE : E = hleaE cl ps yo yV yS yP yQ yn := by
   rw [hD.2.2.2.2]
   by_cases hz : hleaE cl ps yo yV yS yP yQ yn = 0
   ·rw [hleaV_ok hz, hz]
   rw [hleaV_err rfl hz]
  have hj : leaE (fndT cl [yV, yS, yP, yQ]) (fndS cl [yV, yS, yP, yQ]) yn = 0 ∨ leaE (fndT cl [yV, yS, yP, yQ]) (fndS cl [yV, yS, yP, yQ]) yn = 13 ∨ leaE (fndT cl [yV, yS, yP, yQ]) (fndS cl [yV, yS, yP, yQ]) yn = 14 := by
   unfold leaE
   rw [if_pos hP.chk]
   split
   ·exact .inr (.inl rfl)
   split
   ·exact .inr (.inr rfl)
   exact .inl rfl
  rw [hE]
  unfold hleaE
  rw [if_neg (by simpa using hc)]
  split
  ·decide
  split
  ·decide
  rcases hj with hj | hj | hj <;> rw [hj] <;> decide
 have e : doeV cl ps yk yo yV yS yP yQ yv yh yn = _ := (if_neg (by omega)).trans ((if_neg (by omega)).trans (if_pos hq))
 rw [e] at hD
 simp only [Prod.mk.injEq] at hD
 have hE : E = hcutE cl ps yv yh yn := by
  rw [hD.2.2.2.2]
  by_cases hz : hcutE cl ps yv yh yn = 0
  ·rw [hcutV_ok hz, hz]
  rw [hcutV_err rfl hz]
 rw [hE]
 unfold hcutE
 rw [if_neg (by simpa using hc), if_neg (by have := H.v0; have := H.v1; have := H.h0; have := H.h1; have := H.cut hq; omega)]
 decide
theorem HOk.nil : HOk [] [] := ⟨List.Pairwise.nil, List.Pairwise.nil, by simp, by simp [totC, addF], fun c hc => (by cases hc), fun c hc => (by cases hc), fun c hc => (by cases hc)⟩
def RetM (m : Nat) (w : World) (r : Ending) (w' : World) : Prop := ∃ (cl ps : List I6) (B B2 : Option Addr) (d d2 : Nat), r = .returned (.tuple #[.agg #[.slice B cl.length d, .slice B2 ps.length d2], .bool true]) ∧ (HOk cl ps ∧ (∀ x ∈ cl, WdC x) ∧ (∀ x ∈ ps, WdP x)) ∧ cl.length ≤ m ∧ ps.length ≤ m ∧ (B = none → d = 0) ∧ (B2 = none → d2 = 0) ∧ OwnCls w' w.heap.size (.slice B cl.length d) cl.length cl ∧ OwnPos w' w.heap.size (.slice B2 ps.length d2) ps.length ps ∧ Ext w w'
theorem made13_any (AL : Option Addr) (cL : Nat) (acts : List I9) (w : World) (hL : Sl w 9 AL acts.length cL (acts.flatMap actC)) (fA : ∀ x ∈ acts, FitsA x) (hm : acts.length ≤ 100) :
  Calls Tryz.prog 47 #[.slice AL acts.length cL] w (RetM acts.length w) := by
 have HL_ := Lib.hid hL
 have HF := Lib.hid fA
 clear hL fA
 go_enter Tryz.func47, Tryz.ntmps47
 go_wp2_with fail
 go_loopg [5] acts.length (fun gh i wx => gh ≤ acts.length ∧ i = .int .i64 ((acts.length - gh : Nat) : Int) ∧ ∃ (CC PP : List I6) (B B2 : Option Addr) (d d2 : Nat), Hid (Bk wx (w.heap.size) (.slice none 0 0) (.slice none 0 0)) ∧ Hid (Bk wx (w.heap.size + 1) (.slice B CC.length d) (.slice B2 PP.length d2)) ∧ (B = none → d = 0) ∧ (B2 = none → d2 = 0) ∧ Hid (OwnCls wx (w.heap.size + 2) (.slice B CC.length d) CC.length CC) ∧ Hid (OwnPos wx (w.heap.size + 2) (.slice B2 PP.length d2) PP.length PP) ∧ Hid (HOk CC PP ∧ (∀ x ∈ CC, WdC x) ∧ (∀ x ∈ PP, WdP x)) ∧ CC.length ≤ (acts.length - gh) ∧ PP.length ≤ (acts.length - gh) ∧ w.heap.size + 2 ≤ wx.heap.size ∧ Hid (Ext w wx))
 case atStart => exact ⟨Nat.le_refl _, by simp, [], [], none, none, 0, 0, Lib.hid ⟨zcv, zcv, zcv, zcv⟩, Lib.hid (show Bk _ _ (.slice none 0 0) (.slice none 0 0) from ⟨zcv, zcv, zcv, zcv⟩), fun _ => rfl, fun _ => rfl, Lib.hid (OwnCls.nil _ _), Lib.hid (OwnPos.nil _ _), Lib.hid ⟨HOk.nil, fun x hx => (by cases hx), fun x hx => (by cases hx)⟩, Nat.zero_le _, Nat.zero_le _, by first | omega | (simp; done) | (simp; omega), Lib.hid zxt⟩
 obtain ⟨hg, hi, CC, PP, B, B2, d, d2, BR, BH, nB, nB2, HO, HP, HK_, hlC, hlP, hBr, XR⟩ := hrel
 have r_0 := BR.out.c0
 have r_1 := BR.out.c1
 have r_0f := BR.out.f0
 have r_1f := BR.out.f1
 have h_0 := BH.out.c0
 have h_1 := BH.out.c1
 have h_0f := BH.out.f0
 have h_1f := BH.out.f1
 have hlr := cell_lt r_0
 have hlh := cell_lt h_0
 have hnr : ¬ w.heap.size = wr.heap.size := by omega
 have hnh : ¬ w.heap.size + 1 = wr.heap.size := by omega
 have RI := Lib.hid (own_rng HO.out)
 have RJ := Lib.hid (own_rng HP.out)
 obtain ⟨ix, hix⟩ : ∃ k, k = acts.length - gk := ⟨_, rfl⟩
 rw [← hix] at hi hlC hlP
 subst hi
 clear BR BH
 by_cases hz : gk = 0
 ·have hkn : ¬ (ix : Int) < ((acts.length : Nat) : Int) := by omega
  have hm1 : CC.length ≤ acts.length := by omega
  have hm2 : PP.length ≤ acts.length := by omega
  clear hg hix hz
  go_wp2_with fail
  refine bodyPost_ret (v := .tuple #[.agg #[.slice B CC.length d, .slice B2 PP.length d2], .bool true]) (by simp [results, Tryz.results47, go_sem, World.cell?_alloc_past, *]; try rfl) rfl ⟨CC, PP, B, B2, d, d2, rfl, HK_.out, hm1, hm2, nB, nB2, own_lower (show OwnCls _ (w.heap.size + 2) _ _ _ from (show World.ownsRow _ (w.heap.size + 2) _ _ _ _ _ from by repeat (first | exact HO.out | with_reducible refine own_box ?_ (by omega) | with_reducible refine World.ownsRow.drew ?_ | refine own_keep ?_ (Ext.alloc (Ext.refl _) _)))) (show w.heap.size ≤ w.heap.size + 2 from by omega), own_lower (show OwnPos _ (w.heap.size + 2) _ _ _ from (show World.ownsRow _ (w.heap.size + 2) _ _ _ _ _ from by repeat (first | exact HP.out | with_reducible refine own_box ?_ (by omega) | with_reducible refine World.ownsRow.drew ?_ | refine own_keep ?_ (Ext.alloc (Ext.refl _) _)))) (show w.heap.size ≤ w.heap.size + 2 from by omega), zxt⟩
 have hkn : (ix : Int) < ((acts.length : Nat) : Int) := by omega
 have hkl : ix < acts.length := by omega
 obtain ⟨b9, o9, rfl, hb9, hc9⟩ := HL_.out.rec_ actC_len (show 0 < acts.length from by omega)
 obtain ⟨y9, hy9⟩ : ∃ x, acts[ix]? = some x := ⟨_, List.getElem?_eq_getElem hkl⟩
 have a_0 := XR.out.has (hc9 ix y9 hy9 0 _ rfl)
 have a_1 := XR.out.has (hc9 ix y9 hy9 1 _ rfl)
 have a_2 := XR.out.has (hc9 ix y9 hy9 2 _ rfl)
 have a_3 := XR.out.has (hc9 ix y9 hy9 3 _ rfl)
 have a_4 := XR.out.has (hc9 ix y9 hy9 4 _ rfl)
 have a_5 := XR.out.has (hc9 ix y9 hy9 5 _ rfl)
 have a_6 := XR.out.has (hc9 ix y9 hy9 6 _ rfl)
 have a_7 := XR.out.has (hc9 ix y9 hy9 7 _ rfl)
 have a_8 := XR.out.has (hc9 ix y9 hy9 8 _ rfl)
 have hf9 := HF.out y9 (List.mem_of_getElem? hy9)
 obtain ⟨aw, ao, aV, aS, aP, aQ, av, ah, an⟩ := y9
 simp only at a_0 a_1 a_2 a_3 a_4 a_5 a_6 a_7 a_8
 rw [Nat.add_zero] at a_0
 rw [← Nat.add_assoc] at a_1 a_2 a_3 a_4 a_5 a_6 a_7 a_8
 have hb9s : ¬ b9 = wr.heap.size := by omega
 have hb9w : b9 < wr.heap.size := by omega
 have CNA := Lib.hid (fun (w' : World) (h1 : Sl w' 6 B CC.length d (CC.flatMap clsC)) (h2 : Sl w' 6 B2 PP.length d2 (PP.flatMap posC)) => near13_any CC.length d PP.length d2 B B2 CC PP aw ao aV aS aP aQ av ah an w' hf9 h1 h2 (by omega) (by omega) HK_.out.2.1 HK_.out.2.2 HK_.out.1)
 have HK := Lib.hid (And.intro hix (And.intro hg hz))
 have hl1 : CC.length < 1000 := by omega
 have hl2 : PP.length < 1000 := by omega
 clear hf9 hc9 hkl hy9 hix hg hz
 go_wp2_with fail
 refine wp_region_held_drew (S := fun w' => w'.cell? ⟨b9, o9 + ix * 9, none⟩ = some (.int .i64 aw) ∧ w'.cell? ⟨b9, o9 + ix * 9 + 1, none⟩ = some (.int .i64 ao) ∧ w'.cell? ⟨b9, o9 + ix * 9 + 2, none⟩ = some (.int .i64 aV) ∧ w'.cell? ⟨b9, o9 + ix * 9 + 3, none⟩ = some (.int .i64 aS) ∧ w'.cell? ⟨b9, o9 + ix * 9 + 4, none⟩ = some (.int .i64 aP) ∧ w'.cell? ⟨b9, o9 + ix * 9 + 5, none⟩ = some (.int .i64 aQ) ∧ w'.cell? ⟨b9, o9 + ix * 9 + 6, none⟩ = some (.int .i64 av) ∧ w'.cell? ⟨b9, o9 + ix * 9 + 7, none⟩ = some (.int .i64 ah) ∧ w'.cell? ⟨b9, o9 + ix * 9 + 8, none⟩ = some (.int .u64 an) ∧ w'.cell? ⟨w.heap.size + 1, 0, none⟩ = some (.slice B CC.length d) ∧ w'.cell? ⟨w.heap.size + 1, 1, none⟩ = some (.slice B2 PP.length d2)) (by kernel_rfl) (by first | with_reducible exact ⟨a_0, a_1, a_2, a_3, a_4, a_5, a_6, a_7, a_8, h_0, h_1⟩ | (simp [go_sem, World.cell?_alloc_past, *]; done)) (fun hHeld => ?_)
 refine' zt 0 ?_
 refine' zt 1 ?_
 refine' zt 2 ?_
 refine' zt 3 ?_
 refine' zt 4 ?_
 refine' zt 5 ?_
 refine' next2_in 6 13 rfl rfl (by kernel_rfl) (by rfl) (by rfl) (fun K hK => ?_) (fun K hK => ?_)
 ·go_simp
  (refine (CNA.out _ (OwnCls.sl (show OwnCls _ (w.heap.size + 2) (.slice B CC.length d) CC.length CC from zSlTne3_1)) (OwnPos.sl (show OwnPos _ (w.heap.size + 2) (.slice B2 PP.length d2) PP.length PP from zSlTne3_0))).mono ?_)
  rintro e w11 ⟨⟨yk, yo, yV, yS, yP, yQ, yv, yh, yn, rfl, hN⟩, hx11⟩
  replace r_0f := zf hx11 r_0 r_0f
  replace r_1f := zf hx11 r_1 r_1f
  replace r_0 := zh hx11 r_0
  replace r_1 := zh hx11 r_1
  replace h_0f := zf hx11 h_0 h_0f
  replace h_1f := zf hx11 h_1 h_1f
  replace h_0 := zh hx11 h_0
  replace h_1 := zh hx11 h_1
  replace a_0 := zh hx11 a_0
  replace a_1 := zh hx11 a_1
  replace a_2 := zh hx11 a_2
  replace a_3 := zh hx11 a_3
  replace a_4 := zh hx11 a_4
  replace a_5 := zh hx11 a_5
  replace a_6 := zh hx11 a_6
  replace a_7 := zh hx11 a_7
  replace a_8 := zh hx11 a_8
  have z11 := hx11.size
  try simp at z11
  have ne_r_h : ¬ w.heap.size = w.heap.size + 1 := by omega
  have ne_r_a : ¬ w.heap.size = b9 := by omega
  have ne_h_r : ¬ w.heap.size + 1 = w.heap.size := by omega
  have ne_h_a : ¬ w.heap.size + 1 = b9 := by omega
  have ne_a_r : ¬ b9 = w.heap.size := by omega
  have ne_a_h : ¬ b9 = w.heap.size + 1 := by omega
  have rr := zr w.heap.size w11
  have rh := zr (w.heap.size + 1) w11
  have ra := zr b9 w11
  replace HO := Lib.hid ((show OwnCls _ (w.heap.size + 2) (.slice B CC.length d) CC.length CC from zSlTne3_1).ext hx11)
  replace HP := Lib.hid ((show OwnPos _ (w.heap.size + 2) (.slice B2 PP.length d2) PP.length PP from zSlTne3_0).ext hx11)
  have X11 : Hid (Ext w w11) := Lib.hid (Ext.trans zxt hx11)
  clear XR hx11
  refine' zk hK zSlTne3_2 (fun hHeld => ?_); clear hK K
  refine' next2_in 7 13 rfl rfl (by kernel_rfl) (by rfl) (by rfl) (fun K hK => ?_) (fun K hK => ?_)
  ·go_simp
   obtain ⟨⟨CN, PN, NN, LL, EE⟩, hD⟩ : ∃ z, z = doeV CC PP yk yo yV yS yP yQ yv yh yn := ⟨_, rfl⟩
   have HD9 := Lib.hid (fun hE => doeV_ok HK_.out.2.1 HK_.out.2.2 hN.wn hN.k0 hN.k2 hD hE)
   have HNE := doeV_near HK_.out.1 HK_.out.2.1 hN hD
   have CD := Lib.hid (fun (w' : World) (h1 : Sl w' 6 B CC.length d (CC.flatMap clsC)) (h2 : Sl w' 6 B2 PP.length d2 (PP.flatMap posC)) => does13_in d d2 B B2 CC PP yk yo yV yS yP yQ yv yh yn CN PN NN EE LL w' h1 h2 (by omega) (by omega) nB nB2 HK_.out.2.1 HK_.out.2.2 hN.wn hN.k0 hN.k2 hD)
   clear hD hN
   (refine (CD.out _ (OwnCls.sl (show OwnCls _ (w.heap.size + 2) (.slice B CC.length d) CC.length CC from zSlTne3_1)) (OwnPos.sl (show OwnPos _ (w.heap.size + 2) (.slice B2 PP.length d2) PP.length PP from zSlTne3_0))).mono ?_)
   rintro e w12 ⟨B3, d3, B4, d4, A9, c9, rfl, nB3, nB4, hO3, hO4, hO9, hx12⟩
   replace r_0f := zf hx12 r_0 r_0f
   replace r_1f := zf hx12 r_1 r_1f
   replace r_0 := zh hx12 r_0
   replace r_1 := zh hx12 r_1
   replace h_0f := zf hx12 h_0 h_0f
   replace h_1f := zf hx12 h_1 h_1f
   replace h_0 := zh hx12 h_0
   replace h_1 := zh hx12 h_1
   replace a_0 := zh hx12 a_0
   replace a_1 := zh hx12 a_1
   replace a_2 := zh hx12 a_2
   replace a_3 := zh hx12 a_3
   replace a_4 := zh hx12 a_4
   replace a_5 := zh hx12 a_5
   replace a_6 := zh hx12 a_6
   replace a_7 := zh hx12 a_7
   replace a_8 := zh hx12 a_8
   have z12 := hx12.size
   try simp at z12
   replace rr := zr w.heap.size w12
   replace rh := zr (w.heap.size + 1) w12
   replace ra := zr b9 w12
   replace HO := Lib.hid ((show OwnCls _ (w.heap.size + 2) (.slice B CC.length d) CC.length CC from zSlTne3_1).ext hx12)
   replace HP := Lib.hid ((show OwnPos _ (w.heap.size + 2) (.slice B2 PP.length d2) PP.length PP from zSlTne3_0).ext hx12)
   have X12 : Hid (Ext w w12) := Lib.hid (Ext.trans zxt hx12)
   have HA := Lib.hid (show OwnCls _ (w.heap.size + 2) _ _ _ from own_lower hO3 zSlTne3_5)
   have HB := Lib.hid (show OwnPos _ (w.heap.size + 2) _ _ _ from own_lower hO4 zSlTne3_5)
   clear X11 hx12
   have RA := Lib.hid (own_rng hO3)
   have RB := Lib.hid (own_rng hO4)
   clear hO3 hO4 hO9
   refine' zk hK zSlTne3_2 (fun hHeld => ?_); clear hK K
   refine' zt 8 ?_
   refine' zt 9 ?_
   refine' zt 10 ?_
   refine' zt 11 ?_
   refine' zt 12 ?_
   refine' zn 13 (fun K hK => ?_)
   go_simp
   refine' zk hK zSlTne3_2 (fun hHeld => ?_); clear hK K
   refine' zn 14 (fun K hK => ?_)
   go_simp
   refine' zk hK zSlTne3_2 (fun hHeld => ?_); clear hK K
   refine' zt 15 ?_
   refine' zt 16 ?_
   refine' zt 17 ?_
   refine wpAnyH_done (by kernel_rfl) ?_ _
   by_cases hE : EE = 0
   ·subst hE
    go_wp2_with fail
    go_roundg (gk - 1)
    case measure => have := HK.out; omega
    obtain ⟨_, ok2, wd1, wd2, ln1, ln2, _⟩ := HD9.out (by trivial)
    exact ⟨by have := HK.out; omega, num_eq (by have := HK.out; omega), CN, PN, B3, B4, d3, d4, Lib.hid ⟨zcv, zcv, zcv, zcv⟩, Lib.hid (show Bk _ _ (.slice B3 CN.length d3) (.slice B4 PN.length d4) from ⟨zcv, zcv, zcv, zcv⟩), nB3, nB4, Lib.hid (show OwnCls _ (w.heap.size + 2) (.slice B3 CN.length d3) CN.length CN from zSlTne3_4), Lib.hid (show OwnPos _ (w.heap.size + 2) (.slice B4 PN.length d4) PN.length PN from zSlTne3_3), Lib.hid ⟨ok2, wd1, wd2⟩, by have := HK.out; omega, by have := HK.out; omega, by first | omega | (simp; done) | (simp; omega), Lib.hid zxt⟩
   have hEb : (EE == 0) = false := beq_false_of_ne hE
   have hE3 : (EE == 3) = false := beq_false_of_ne HNE.1
   have hE9 : (EE == 9) = false := beq_false_of_ne HNE.2.1
   have hE4 : (EE == 4) = false := beq_false_of_ne HNE.2.2
   go_wp2_with fail
   go_roundg (gk - 1)
   case measure => have := HK.out; omega
   exact ⟨by have := HK.out; omega, num_eq (by have := HK.out; omega), CC, PP, B, B2, d, d2, Lib.hid ⟨zcv, zcv, zcv, zcv⟩, Lib.hid ⟨zcv, zcv, zcv, zcv⟩, nB, nB2, Lib.hid (show OwnCls _ (w.heap.size + 2) (.slice B CC.length d) CC.length CC from zSlTne3_1), Lib.hid (show OwnPos _ (w.heap.size + 2) (.slice B2 PP.length d2) PP.length PP from zSlTne3_0), HK_, by have := HK.out; omega, by have := HK.out; omega, by first | omega | (simp; done) | (simp; omega), Lib.hid zxt⟩
  go_simp
  refine' zk hK zSlTne3_2 (fun hHeld => ?_); clear hK K
  refine' zn 7 (fun K hK => ?_)
  go_simp
  obtain ⟨⟨CN, PN, NN, LL, EE⟩, hD⟩ : ∃ z, z = doeV CC PP yk yo yV yS yP yQ yv yh yn := ⟨_, rfl⟩
  have HD9 := Lib.hid (fun hE => doeV_ok HK_.out.2.1 HK_.out.2.2 hN.wn hN.k0 hN.k2 hD hE)
  have HNE := doeV_near HK_.out.1 HK_.out.2.1 hN hD
  have CD := Lib.hid (fun (w' : World) (h1 : Sl w' 6 B CC.length d (CC.flatMap clsC)) (h2 : Sl w' 6 B2 PP.length d2 (PP.flatMap posC)) => does13_in d d2 B B2 CC PP yk yo yV yS yP yQ yv yh yn CN PN NN EE LL w' h1 h2 (by omega) (by omega) nB nB2 HK_.out.2.1 HK_.out.2.2 hN.wn hN.k0 hN.k2 hD)
  clear hD hN
  (refine (CD.out _ (OwnCls.sl (show OwnCls _ (w.heap.size + 2) (.slice B CC.length d) CC.length CC from zSlTne3_1)) (OwnPos.sl (show OwnPos _ (w.heap.size + 2) (.slice B2 PP.length d2) PP.length PP from zSlTne3_0))).mono ?_)
  rintro e w12 ⟨B3, d3, B4, d4, A9, c9, rfl, nB3, nB4, hO3, hO4, hO9, hx12⟩
  replace r_0f := zf hx12 r_0 r_0f
  replace r_1f := zf hx12 r_1 r_1f
  replace r_0 := zh hx12 r_0
  replace r_1 := zh hx12 r_1
  replace h_0f := zf hx12 h_0 h_0f
  replace h_1f := zf hx12 h_1 h_1f
  replace h_0 := zh hx12 h_0
  replace h_1 := zh hx12 h_1
  replace a_0 := zh hx12 a_0
  replace a_1 := zh hx12 a_1
  replace a_2 := zh hx12 a_2
  replace a_3 := zh hx12 a_3
  replace a_4 := zh hx12 a_4
  replace a_5 := zh hx12 a_5
  replace a_6 := zh hx12 a_6
  replace a_7 := zh hx12 a_7
  replace a_8 := zh hx12 a_8
  have c0_0f : w12.frozen? ⟨w11.heap.size, 0, none⟩ = false := hx12.froz (v := .slice none 0 0) zcv zcv
  have c0_1f : w12.frozen? ⟨w11.heap.size, 1, none⟩ = false := hx12.froz (v := .slice none 0 0) zcv zcv
  have c0_0 : w12.cell? ⟨w11.heap.size, 0, none⟩ = some (.slice none 0 0) := hx12.has zcv
  have c0_1 : w12.cell? ⟨w11.heap.size, 1, none⟩ = some (.slice none 0 0) := hx12.has zcv
  have z12 := hx12.size
  try simp at z12
  have lt_r_c0 := zl w.heap.size w11.heap.size
  have lt_h_c0 := zl (w.heap.size + 1) w11.heap.size
  have lt_a_c0 := zl b9 w11.heap.size
  replace rr := zr w.heap.size w12
  replace rh := zr (w.heap.size + 1) w12
  replace ra := zr b9 w12
  have rc0 := zr w11.heap.size w12
  replace HO := Lib.hid ((show OwnCls _ (w.heap.size + 2) (.slice B CC.length d) CC.length CC from zSlTne3_1).ext hx12)
  replace HP := Lib.hid ((show OwnPos _ (w.heap.size + 2) (.slice B2 PP.length d2) PP.length PP from zSlTne3_0).ext hx12)
  have X12 : Hid (Ext w w12) := Lib.hid (Ext.trans zxt hx12)
  have HA := Lib.hid (show OwnCls _ (w.heap.size + 2) _ _ _ from own_lower hO3 zSlTne3_5)
  have HB := Lib.hid (show OwnPos _ (w.heap.size + 2) _ _ _ from own_lower hO4 zSlTne3_5)
  clear X11 hx12
  have RA := Lib.hid (own_rng hO3)
  have RB := Lib.hid (own_rng hO4)
  clear hO3 hO4 hO9
  refine' zk hK zSlTne3_2 (fun hHeld => ?_); clear hK K
  refine' zt 8 ?_
  refine' zt 9 ?_
  refine' zt 10 ?_
  refine' zt 11 ?_
  refine' zt 12 ?_
  refine' zn 14 (fun K hK => ?_)
  go_simp
  refine' zk hK zSlTne3_2 (fun hHeld => ?_); clear hK K
  refine' zt 15 ?_
  refine' zt 16 ?_
  refine' zt 17 ?_
  refine wpAnyH_done (by kernel_rfl) ?_ _
  by_cases hE : EE = 0
  ·subst hE
   go_wp2_with fail
   go_roundg (gk - 1)
   case measure => have := HK.out; omega
   obtain ⟨_, ok2, wd1, wd2, ln1, ln2, _⟩ := HD9.out (by trivial)
   exact ⟨by have := HK.out; omega, num_eq (by have := HK.out; omega), CN, PN, B3, B4, d3, d4, Lib.hid ⟨zcv, zcv, zcv, zcv⟩, Lib.hid (show Bk _ _ (.slice B3 CN.length d3) (.slice B4 PN.length d4) from ⟨zcv, zcv, zcv, zcv⟩), nB3, nB4, Lib.hid (show OwnCls _ (w.heap.size + 2) (.slice B3 CN.length d3) CN.length CN from zSlTne3_4), Lib.hid (show OwnPos _ (w.heap.size + 2) (.slice B4 PN.length d4) PN.length PN from zSlTne3_3), Lib.hid ⟨ok2, wd1, wd2⟩, by have := HK.out; omega, by have := HK.out; omega, by first | omega | (simp; done) | (simp; omega), Lib.hid zxt⟩
  have hEb : (EE == 0) = false := beq_false_of_ne hE
  have hE3 : (EE == 3) = false := beq_false_of_ne HNE.1
  have hE9 : (EE == 9) = false := beq_false_of_ne HNE.2.1
  have hE4 : (EE == 4) = false := beq_false_of_ne HNE.2.2
  go_wp2_with fail
  go_roundg (gk - 1)
  case measure => have := HK.out; omega
  exact ⟨by have := HK.out; omega, num_eq (by have := HK.out; omega), CC, PP, B, B2, d, d2, Lib.hid ⟨zcv, zcv, zcv, zcv⟩, Lib.hid ⟨zcv, zcv, zcv, zcv⟩, nB, nB2, Lib.hid (show OwnCls _ (w.heap.size + 2) (.slice B CC.length d) CC.length CC from zSlTne3_1), Lib.hid (show OwnPos _ (w.heap.size + 2) (.slice B2 PP.length d2) PP.length PP from zSlTne3_0), HK_, by have := HK.out; omega, by have := HK.out; omega, by first | omega | (simp; done) | (simp; omega), Lib.hid zxt⟩
 go_simp
 refine' zk hK zSlTne3_2 (fun hHeld => ?_); clear hK K
 refine' zn 6 (fun K hK => ?_)
 go_simp
 (refine (CNA.out _ (OwnCls.sl (show OwnCls _ (w.heap.size + 2) (.slice B CC.length d) CC.length CC from zSlTne3_1)) (OwnPos.sl (show OwnPos _ (w.heap.size + 2) (.slice B2 PP.length d2) PP.length PP from zSlTne3_0))).mono ?_)
 rintro e w11 ⟨⟨yk, yo, yV, yS, yP, yQ, yv, yh, yn, rfl, hN⟩, hx11⟩
 replace r_0f := zf hx11 r_0 r_0f
 replace r_1f := zf hx11 r_1 r_1f
 replace r_0 := zh hx11 r_0
 replace r_1 := zh hx11 r_1
 replace h_0f := zf hx11 h_0 h_0f
 replace h_1f := zf hx11 h_1 h_1f
 replace h_0 := zh hx11 h_0
 replace h_1 := zh hx11 h_1
 replace a_0 := zh hx11 a_0
 replace a_1 := zh hx11 a_1
 replace a_2 := zh hx11 a_2
 replace a_3 := zh hx11 a_3
 replace a_4 := zh hx11 a_4
 replace a_5 := zh hx11 a_5
 replace a_6 := zh hx11 a_6
 replace a_7 := zh hx11 a_7
 replace a_8 := zh hx11 a_8
 have c0_0f : w11.frozen? ⟨wr.heap.size, 0, none⟩ = false := hx11.froz (v := .slice none 0 0) zcv zcv
 have c0_1f : w11.frozen? ⟨wr.heap.size, 1, none⟩ = false := hx11.froz (v := .slice none 0 0) zcv zcv
 have c0_0 : w11.cell? ⟨wr.heap.size, 0, none⟩ = some (.slice none 0 0) := hx11.has zcv
 have c0_1 : w11.cell? ⟨wr.heap.size, 1, none⟩ = some (.slice none 0 0) := hx11.has zcv
 have z11 := hx11.size
 try simp at z11
 have ne_r_h : ¬ w.heap.size = w.heap.size + 1 := by omega
 have ne_r_a : ¬ w.heap.size = b9 := by omega
 have lt_r_c0 := zl w.heap.size wr.heap.size
 have ne_h_r : ¬ w.heap.size + 1 = w.heap.size := by omega
 have ne_h_a : ¬ w.heap.size + 1 = b9 := by omega
 have lt_h_c0 := zl (w.heap.size + 1) wr.heap.size
 have ne_a_r : ¬ b9 = w.heap.size := by omega
 have ne_a_h : ¬ b9 = w.heap.size + 1 := by omega
 have lt_a_c0 := zl b9 wr.heap.size
 have rr := zr w.heap.size w11
 have rh := zr (w.heap.size + 1) w11
 have ra := zr b9 w11
 have rc0 := zr wr.heap.size w11
 replace HO := Lib.hid ((show OwnCls _ (w.heap.size + 2) (.slice B CC.length d) CC.length CC from zSlTne3_1).ext hx11)
 replace HP := Lib.hid ((show OwnPos _ (w.heap.size + 2) (.slice B2 PP.length d2) PP.length PP from zSlTne3_0).ext hx11)
 have X11 : Hid (Ext w w11) := Lib.hid (Ext.trans zxt hx11)
 clear XR hx11
 refine' zk hK zSlTne3_2 (fun hHeld => ?_); clear hK K
 refine' zn 7 (fun K hK => ?_)
 go_simp
 obtain ⟨⟨CN, PN, NN, LL, EE⟩, hD⟩ : ∃ z, z = doeV CC PP yk yo yV yS yP yQ yv yh yn := ⟨_, rfl⟩
 have HD9 := Lib.hid (fun hE => doeV_ok HK_.out.2.1 HK_.out.2.2 hN.wn hN.k0 hN.k2 hD hE)
 have HNE := doeV_near HK_.out.1 HK_.out.2.1 hN hD
 have CD := Lib.hid (fun (w' : World) (h1 : Sl w' 6 B CC.length d (CC.flatMap clsC)) (h2 : Sl w' 6 B2 PP.length d2 (PP.flatMap posC)) => does13_in d d2 B B2 CC PP yk yo yV yS yP yQ yv yh yn CN PN NN EE LL w' h1 h2 (by omega) (by omega) nB nB2 HK_.out.2.1 HK_.out.2.2 hN.wn hN.k0 hN.k2 hD)
 clear hD hN
 (refine (CD.out _ (OwnCls.sl (show OwnCls _ (w.heap.size + 2) (.slice B CC.length d) CC.length CC from zSlTne3_1)) (OwnPos.sl (show OwnPos _ (w.heap.size + 2) (.slice B2 PP.length d2) PP.length PP from zSlTne3_0))).mono ?_)
 rintro e w12 ⟨B3, d3, B4, d4, A9, c9, rfl, nB3, nB4, hO3, hO4, hO9, hx12⟩
 replace r_0f := zf hx12 r_0 r_0f
 replace r_1f := zf hx12 r_1 r_1f
 replace r_0 := zh hx12 r_0
 replace r_1 := zh hx12 r_1
 replace h_0f := zf hx12 h_0 h_0f
 replace h_1f := zf hx12 h_1 h_1f
 replace h_0 := zh hx12 h_0
 replace h_1 := zh hx12 h_1
 replace a_0 := zh hx12 a_0
 replace a_1 := zh hx12 a_1
 replace a_2 := zh hx12 a_2
 replace a_3 := zh hx12 a_3
 replace a_4 := zh hx12 a_4
 replace a_5 := zh hx12 a_5
 replace a_6 := zh hx12 a_6
 replace a_7 := zh hx12 a_7
 replace a_8 := zh hx12 a_8
 replace c0_0f := zf hx12 c0_0 c0_0f
 replace c0_1f := zf hx12 c0_1 c0_1f
 replace c0_0 := zh hx12 c0_0
 replace c0_1 := zh hx12 c0_1
 have z12 := hx12.size
 try simp at z12
 replace rr := zr w.heap.size w12
 replace rh := zr (w.heap.size + 1) w12
 replace ra := zr b9 w12
 replace rc0 := zr wr.heap.size w12
 replace HO := Lib.hid ((show OwnCls _ (w.heap.size + 2) (.slice B CC.length d) CC.length CC from zSlTne3_1).ext hx12)
 replace HP := Lib.hid ((show OwnPos _ (w.heap.size + 2) (.slice B2 PP.length d2) PP.length PP from zSlTne3_0).ext hx12)
 have X12 : Hid (Ext w w12) := Lib.hid (Ext.trans zxt hx12)
 have HA := Lib.hid (show OwnCls _ (w.heap.size + 2) _ _ _ from own_lower hO3 zSlTne3_5)
 have HB := Lib.hid (show OwnPos _ (w.heap.size + 2) _ _ _ from own_lower hO4 zSlTne3_5)
 clear X11 hx12
 have RA := Lib.hid (own_rng hO3)
 have RB := Lib.hid (own_rng hO4)
 clear hO3 hO4 hO9
 refine' zk hK zSlTne3_2 (fun hHeld => ?_); clear hK K
 refine' zt 8 ?_
 refine' zt 9 ?_
 refine' zt 10 ?_
 refine' zt 11 ?_
 refine' zt 12 ?_
 refine' zn 14 (fun K hK => ?_)
 go_simp
 refine' zk hK zSlTne3_2 (fun hHeld => ?_); clear hK K
 refine' zt 15 ?_
 refine' zt 16 ?_
 refine' zt 17 ?_
 refine wpAnyH_done (by kernel_rfl) ?_ _
 by_cases hE : EE = 0
 ·subst hE
  go_wp2_with fail
  go_roundg (gk - 1)
  case measure => have := HK.out; omega
  obtain ⟨_, ok2, wd1, wd2, ln1, ln2, _⟩ := HD9.out (by trivial)
  exact ⟨by have := HK.out; omega, num_eq (by have := HK.out; omega), CN, PN, B3, B4, d3, d4, Lib.hid ⟨zcv, zcv, zcv, zcv⟩, Lib.hid (show Bk _ _ (.slice B3 CN.length d3) (.slice B4 PN.length d4) from ⟨zcv, zcv, zcv, zcv⟩), nB3, nB4, Lib.hid (show OwnCls _ (w.heap.size + 2) (.slice B3 CN.length d3) CN.length CN from zSlTne3_4), Lib.hid (show OwnPos _ (w.heap.size + 2) (.slice B4 PN.length d4) PN.length PN from zSlTne3_3), Lib.hid ⟨ok2, wd1, wd2⟩, by have := HK.out; omega, by have := HK.out; omega, by first | omega | (simp; done) | (simp; omega), Lib.hid zxt⟩
 have hEb : (EE == 0) = false := beq_false_of_ne hE
 have hE3 : (EE == 3) = false := beq_false_of_ne HNE.1
 have hE9 : (EE == 9) = false := beq_false_of_ne HNE.2.1
 have hE4 : (EE == 4) = false := beq_false_of_ne HNE.2.2
 go_wp2_with fail
 go_roundg (gk - 1)
 case measure => have := HK.out; omega
 exact ⟨by have := HK.out; omega, num_eq (by have := HK.out; omega), CC, PP, B, B2, d, d2, Lib.hid ⟨zcv, zcv, zcv, zcv⟩, Lib.hid ⟨zcv, zcv, zcv, zcv⟩, nB, nB2, Lib.hid (show OwnCls _ (w.heap.size + 2) (.slice B CC.length d) CC.length CC from zSlTne3_1), Lib.hid (show OwnPos _ (w.heap.size + 2) (.slice B2 PP.length d2) PP.length PP from zSlTne3_0), HK_, by have := HK.out; omega, by have := HK.out; omega, by first | omega | (simp; done) | (simp; omega), Lib.hid zxt⟩
end
end Go.Proofs.YtkinchgjidpjnaaGreat
