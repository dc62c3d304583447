/- Tby, part 6. Conditions stand in each lemma. -/
import Derived.Test.YtkinchgjidpjnaaGreatSlTby5
set_option linter.unusedVariables false
set_option linter.unusedSimpArgs false
set_option maxRecDepth 100000
set_option maxHeartbeats 64000000
namespace Go.Proofs.YtkinchgjidpjnaaGreat
section
open Go.RowKit Go.ChangeShapes Go.WideShapes Go.Deep Go.Joins
theorem zSlTby6_0 {P : Prop} (h : P := by repeat (first | with_reducible exact But.refl _ _ | with_reducible refine But.drew ?_ | with_reducible refine But.drewN ?_ _ | with_reducible refine But.alloc ?_ _ | with_reducible refine But.setCell ?_ (by first | exact Nat.le_refl _ | (dsimp only; omega)) _ | with_reducible refine But.setNew ?_ (by first | omega | (simp; done) | (simp; omega)) _)) : P := h
theorem zSlTby6_1 {P : Prop} (h : P := by show ¬ _ = _; first | assumption | omega) : P := h
theorem zSlTby6_2 {P : Prop} (h : P := by repeat (first | with_reducible exact But.refl _ _ | with_reducible refine But.drew ?_ | with_reducible refine But.drewN ?_ _ | with_reducible refine But.setCell ?_ (by first | rfl | (show _ = _; rfl)) _)) : P := h
theorem zSlTby6_3 {P : Prop} (h : P := by intro hh; have hh2 := own_rng HP.out _ hh; omega) : P := h
theorem zSlTby6_4 {P : Prop} (h : P := by intro hh; have hh2 := own_rng HO.out _ hh; omega) : P := h
theorem zSlTby6_5 {P : Prop} (h : P := by intro j h1 h2 hh; have h3 : j = g := hh; omega) : P := h
theorem zSlTby6_6 {P : Prop} (h : P := by (first | with_reducible exact ⟨b_0, b_1, c0_0, c0_1⟩ | (simp [go_sem, World.cell?_alloc_past, r_0f, r_1f, r_0, r_1, y_0f, y_1f, y_0, y_1, b_0f, b_1f, b_0, b_1, c0_0f, c0_0, c0_1, rr, ry, rb, rc0, hlr, hly, hlb, hnr, hny, hnb, hgn]; done) | exact ⟨b_0, b_1, c0_0, c0_1⟩)) : P := h
theorem zSlTby6_7 {P : Prop} (h : P := by (first | with_reducible exact ⟨c0_0, c0_1⟩ | (simp [go_sem, World.cell?_alloc_past, r_0f, r_1f, r_0, r_1, y_0f, y_1f, y_0, y_1, b_0f, b_1f, b_0, b_1, c0_0f, c0_0, c0_1, rr, ry, rb, rc0, hlr, hly, hlb, hnr, hny, hnb, hgn]; done) | exact ⟨c0_0, c0_1⟩)) : P := h
theorem zSlTby6_8 {P : Prop} (h : P := by repeat (first | with_reducible exact But.refl _ _ | with_reducible exact HXC.out | with_reducible refine But.drew ?_ | with_reducible refine But.drewN ?_ _ | with_reducible refine But.setCell ?_ (by first | rfl | (show _ = _; rfl)) _)) : P := h
theorem RRd.but {S : Nat → Prop} {w w' : World} {g k : Nat} {L : List Nat} {flt : Flt} (h : RRd w g L k flt) (hx : But S w w') (hS : ∀ j, j < w.heap.size → S j → g < j) : RRd w' g L k flt := h.butT hx hS
theorem RI.any {rd : Nat → Flt → Nat × Flt × I6} {one : Option (List Int) → I6 → Int} {key : I6 → List Int} {Wd : I6 → Prop} {s : Nat × Flt × List I6} {j k N : Nat} {f : Flt} {out : List I6} (h : RI rd one key Wd s j k f out) (hj : j ≤ N) (hf : f = none → j = N) : RI rd one key Wd s N k f out := by
 by_cases hn : f = none
 ·obtain rfl := hf hn
  exact h
 exact h.late hn hj
theorem r13Read_any (A0 : Option Addr) (c0 : Nat) (L : List Nat) (hB : Byt L) (hL : L.length < 1099511627776) (R1 R2 : List I6) (re ra : Int) (hR : (R1, R2, re, ra) = hldRV L) (w : World) (hs : Sl w 1 A0 L.length c0 (by_ L)) :
  Calls Tryz.prog 59 #[.slice A0 L.length c0] w (RetH R1 R2 re ra w) := by
 have s1 := hs.small
 obtain ⟨iCls, iCls_0, iCls_1, iCls_2, iCls_3⟩ := info_parts cls_info
 obtain ⟨iPos, iPos_0, iPos_1, iPos_2, iPos_3⟩ := info_parts pos_info
 obtain ⟨nn, hnn⟩ : ∃ v, v = rnV L 0 none 0 1024 := ⟨_, rfl⟩
 obtain ⟨hn0, hn1⟩ : 0 ≤ nn ∧ nn ≤ 1024 := by rw [hnn]; exact rnV_in L 0 none 0 1024 (by decide)
 obtain ⟨N, rfl⟩ : ∃ N : Nat, nn = (N : Int) := ⟨nn.toNat, by omega⟩
 have HR0 := Lib.hid hR
 have HNN := Lib.hid hnn
 have HBy := Lib.hid hB
 have HS := Lib.hid hs
 have pq1 := pol_eq
 have pq2 := pol_eqg
 clear hs hR hnn hB
 go_enter Tryz.func59, Tryz.ntmps59
 go_wp2_with fail
 (with_reducible refine (rNewReader_any A0 c0 L HBy.out _ (HS.out.ext zxt) hL).mono ?_)
 rintro e w1 ⟨g, rfl, hg, hRd, hx1⟩
 have c0_0f : w1.frozen? ⟨w.heap.size, 0, none⟩ = false := hx1.froz (v := .slice none 0 0) zcv zcv
 have c0_1f : w1.frozen? ⟨w.heap.size, 1, none⟩ = false := hx1.froz (v := .slice none 0 0) zcv zcv
 have c0_0 : w1.cell? ⟨w.heap.size, 0, none⟩ = some (.slice none 0 0) := hx1.has zcv
 have c0_1 : w1.cell? ⟨w.heap.size, 1, none⟩ = some (.slice none 0 0) := hx1.has zcv
 have c1_0f : w1.frozen? ⟨w.heap.size + 1, 0, none⟩ = false := hx1.froz (v := .int .i64 0) zcv zcv
 have c1_1f : w1.frozen? ⟨w.heap.size + 1, 1, none⟩ = false := hx1.froz (v := .int .i64 0) zcv zcv
 have c1_0 : w1.cell? ⟨w.heap.size + 1, 0, none⟩ = some (.int .i64 0) := hx1.has zcv
 have c1_1 : w1.cell? ⟨w.heap.size + 1, 1, none⟩ = some (.int .i64 0) := hx1.has zcv
 have z1 := hx1.size
 try simp at z1
 have lt_c0_c1 := zl w.heap.size (w.heap.size + 1)
 have rc0 := zr w.heap.size w1
 have rc1 := zr (w.heap.size + 1) w1
 have X1 : Hid (Ext w w1) := Lib.hid (Ext.trans zxt hx1)
 have HR := Lib.hid hRd
 clear HS hx1 hRd
 have hgw : w.heap.size + 1 < g := by (try simp at hg); omega
 have hgl := HR.out.lt
 clear hg
 go_wp2_with fail
 (with_reducible refine (rN_e g 0 (hS0 L).1 L none (hS0 L).2.1 0 1024 (N : Int) (by decide) (by decide) (by decide) (by decide) hL HNN.out rfl rfl _ (HR.out.ext zxt)).mono ?_)
 rintro e w2 ⟨rfl, hRd, hx2⟩
 have hsz2 := hx2.size
 try simp at hsz2
 replace c0_0f := zfb hx2 c0_0 c0_0f
 replace c0_1f := zfb hx2 c0_1 c0_1f
 replace c0_0 := zhb hx2 c0_0
 replace c0_1 := zhb hx2 c0_1
 replace c1_0f := zfb hx2 c1_0 c1_0f
 replace c1_1f := zfb hx2 c1_1 c1_1f
 replace c1_0 := zhb hx2 c1_0
 replace c1_1 := zhb hx2 c1_1
 have c2_0f : w2.frozen? ⟨w1.heap.size, 0, none⟩ = false := hx2.froz zSlTby6_1 (v := .slice none 0 0) zcv zcv
 have c2_1f : w2.frozen? ⟨w1.heap.size, 1, none⟩ = false := hx2.froz zSlTby6_1 (v := .slice none 0 0) zcv zcv
 have c2_0 : w2.cell? ⟨w1.heap.size, 0, none⟩ = some (.slice none 0 0) := hx2.has zSlTby6_1 zcv
 have c2_1 : w2.cell? ⟨w1.heap.size, 1, none⟩ = some (.slice none 0 0) := hx2.has zSlTby6_1 zcv
 have z2 := hx2.size
 try simp at z2
 have lt_c0_c2 := zl w.heap.size w1.heap.size
 have lt_c1_c2 := zl (w.heap.size + 1) w1.heap.size
 replace rc0 := zr w.heap.size w2
 replace rc1 := zr (w.heap.size + 1) w2
 have rc2 := zr w1.heap.size w2
 have X2 : Hid (Ext w w2) := Lib.hid (have hX := (show Ext w _ from zxt); Below.trans hX (hx2.below (Ext.size hX) (fun k hk hh => by have hh2 : k = g := hh; omega)))
 clear HR
 have HR := Lib.hid hRd
 clear hsz2 X1 hx2 hRd
 have hgl2 := HR.out.lt
 go_upto_block 0 with (fail)
 go_cut [] (fun wc => ∃ (k : Nat) (f : Flt) (cl : List I6) (A : Option Addr) (c : Nat), Hid (RRd wc g L k f) ∧ Hid (OwnCls wc (w1.heap.size + 1) (.slice A cl.length c) cl.length cl) ∧ Hid (CEnd L k f cl) ∧ Hid (∀ x ∈ cl, WdC x) ∧ cl.length ≤ 1024 ∧ Hid (Bk wc w.heap.size (.slice none 0 0) (.slice none 0 0)) ∧ Hid (Bk wc (w.heap.size + 1) (.int .i64 0) (.int .i64 0)) ∧ Hid (Bk wc (w1.heap.size) (.slice A cl.length c) (.slice none 0 0)) ∧ Hid (Ext w wc))
 case first =>
  go_wp2_with fail
  go_loopg [7] N (fun gh i wx => gh ≤ N ∧ i = .int .i64 ((N - gh : Nat) : Int) ∧ ∃ (k : Nat) (f : Flt) (out : List I6) (A : Option Addr) (c : Nat), Hid (RRd wx g L k f) ∧ Hid (OwnCls wx (w1.heap.size + 1) (.slice A out.length c) out.length out) ∧ Hid (RIC L (N - gh) k f out) ∧ out.length = (N - gh) ∧ Hid (Bk wx w.heap.size (.slice none 0 0) (.slice none 0 0)) ∧ Hid (Bk wx (w.heap.size + 1) (.int .i64 0) (.int .i64 0)) ∧ Hid (Bk wx (w1.heap.size) (.slice A out.length c) (.slice none 0 0)) ∧ Hid (Ext w wx))
  case atStart => exact ⟨Nat.le_refl _, by simp, _, _, [], none, 0, Lib.hid (HR.out.ext zxt), Lib.hid (OwnCls.nil _ _), by rw [Nat.sub_self]; exact Lib.hid (RIC.start L), by simp, Lib.hid ⟨zcv, zcv, zcv, zcv⟩, Lib.hid ⟨zcv, zcv, zcv, zcv⟩, Lib.hid (show Bk _ _ (.slice none 0 0) (.slice none 0 0) from (Lib.hid ⟨zcv, zcv, zcv, zcv⟩).out), Lib.hid zxt⟩
  clear HR c0_0 c0_0f c0_1 c0_1f c1_0 c1_0f c1_1 c1_1f c2_0 c2_0f c2_1 c2_1f lt_c0_c1 lt_c0_c2 lt_c1_c2 rc0 rc1 rc2 X2
  obtain ⟨hg, hi, k, f, out, A, c, HR, HO, HI, hlen, BR, BF, BB, XR⟩ := hrel
  obtain ⟨j, hj⟩ : ∃ j, j = N - gk := ⟨_, rfl⟩
  rw [← hj] at hi HI hlen
  subst hi
  have r_0 := BR.out.c0
  have r_1 := BR.out.c1
  have r_0f := BR.out.f0
  have r_1f := BR.out.f1
  have hlr := cell_lt r_0
  have hnr : ¬ w.heap.size = wr.heap.size := by omega
  have y_0 := BF.out.c0
  have y_1 := BF.out.c1
  have y_0f := BF.out.f0
  have y_1f := BF.out.f1
  have hly := cell_lt y_0
  have hny : ¬ w.heap.size + 1 = wr.heap.size := by omega
  have b_0 := BB.out.c0
  have b_1 := BB.out.c1
  have b_0f := BB.out.f0
  have b_1f := BB.out.f1
  have hlb := cell_lt b_0
  have hnb : ¬ w1.heap.size = wr.heap.size := by omega
  have hgs : g < wr.heap.size := HR.out.lt
  have hgn : ¬ g = wr.heap.size := by omega
  clear BR BF BB
  have hjN : j ≤ N := by omega
  have gg_2 := HR.out.c2
  obtain ⟨E0, hE0⟩ : ∃ v, v = fltE f := ⟨_, rfl⟩
  rw [← hE0] at gg_2
  by_cases hz : gk = 0
  ·have hkn : ¬ (j : Int) < (N : Int) := by omega
   have HC := Lib.hid (RI.cend (RI.any HI.out hjN (fun _ => by omega)) HNN.out)
   have HWC := Lib.hid HI.out.2.2.2.1
   have hlc : out.length ≤ 1024 := by omega
   clear HI hg hj hz
   go_wp2_with fail
   go_meet
   exact ⟨_, _, _, _, _, Lib.hid (HR.out.ext zxt), Lib.hid (HO.out.ext zxt), HC, HWC, hlc, Lib.hid ⟨zcv, zcv, zcv, zcv⟩, Lib.hid ⟨zcv, zcv, zcv, zcv⟩, Lib.hid ⟨zcv, zcv, zcv, zcv⟩, Lib.hid zxt⟩
  have hkn : (j : Int) < (N : Int) := by omega
  by_cases hfn : ¬ f = none
  ·have hE00 : ¬ E0 = 0 := by rw [hE0]; exact fltE_nz HI.out.2.2.2.2 hfn
   have e25 : (E0 == 0) = false := by simpa using hE00
   have HC := Lib.hid (RI.cend (RI.any HI.out hjN (fun hh => absurd hh hfn)) HNN.out)
   have HWC := Lib.hid HI.out.2.2.2.1
   have hlc : out.length ≤ 1024 := by omega
   clear HI hg hj hz
   go_wp2_with fail
   go_meet
   exact ⟨_, _, _, _, _, Lib.hid (HR.out.ext zxt), Lib.hid (HO.out.ext zxt), HC, HWC, hlc, Lib.hid ⟨zcv, zcv, zcv, zcv⟩, Lib.hid ⟨zcv, zcv, zcv, zcv⟩, Lib.hid ⟨zcv, zcv, zcv, zcv⟩, Lib.hid zxt⟩
  replace hfn : f = none := Classical.not_not.1 hfn
  subst hfn
  have hE00 : E0 = 0 := by rw [hE0]; rfl
  subst hE00
  obtain ⟨t9, gg_1, _, ht9⟩ := HR.out.c1
  rw [ht9 rfl] at gg_1
  clear ht9
  have hjs : (j : Int) ≤ 1024 := by omega
  clear hE0
  obtain ⟨xv, hxv⟩ : ∃ v, v = if tkZ L (k, none) = true then 0 else tkA L (k, none) := ⟨_, rfl⟩
  obtain ⟨xs, hxs⟩ : ∃ v, v = if tkZ L (k, none) = true then 0 else tkB L (k, none) := ⟨_, rfl⟩
  obtain ⟨xp, hxp⟩ : ∃ v, v = if tkZ L (k, none) = true then 0 else tkC L (k, none) - 1 := ⟨_, rfl⟩
  obtain ⟨xf, hxf⟩ : ∃ v, v = if tkZ L (k, none) = true then 0 else tkD L (k, none) := ⟨_, rfl⟩
  obtain ⟨k01, hk01⟩ : ∃ v, v = (tk4 L (k, none)).1 := ⟨_, rfl⟩
  obtain ⟨f01, hf01⟩ : ∃ v, v = tkF L (k, none) := ⟨_, rfl⟩
  obtain ⟨xt, hxt⟩ : ∃ v, v = ruV L k01 f01 := ⟨_, rfl⟩
  obtain ⟨k02, hk02⟩ : ∃ v, v = ruK L k01 f01 := ⟨_, rfl⟩
  obtain ⟨f02, hf02⟩ : ∃ v, v = ruF L k01 f01 := ⟨_, rfl⟩
  obtain ⟨xh, hxh⟩ : ∃ v, v = ruV L k02 f02 := ⟨_, rfl⟩
  obtain ⟨k05, hk05⟩ : ∃ v, v = ruK L k02 f02 := ⟨_, rfl⟩
  obtain ⟨f05, hf05⟩ : ∃ v, v = ruF L k02 f02 := ⟨_, rfl⟩
  have hstep := hRdC_eq hxv hxs hxp hxf hk01 hf01 hxt hk02 hf02 hxh hk05 hf05
  obtain ⟨PB, hPB⟩ : ∃ B, B = prevGe (lstK kC out) (kC (xv, xs, xp, xf, xt, xh)) := ⟨_, rfl⟩
  obtain ⟨F1, hF1⟩ : ∃ v, v = failF f05 (if PB = true then 9 else 0) ((k : Nat) : Int) := ⟨_, rfl⟩
  obtain ⟨e2, he2⟩ : ∃ v, v = chkE xt xh := ⟨_, rfl⟩
  obtain ⟨F2, hF2⟩ : ∃ v, v = failF F1 e2 ((k : Nat) : Int) := ⟨_, rfl⟩
  obtain ⟨F3, hF3⟩ : ∃ v, v = failF F2 (if xt = 0 ∧ xh = 0 then 11 else 0) ((k : Nat) : Int) := ⟨_, rfl⟩
  obtain ⟨ZB, hZB⟩ : ∃ B, (xt == 0 && xh == 0) = B := ⟨_, rfl⟩
  have GZ := Lib.hid (show (ZB = true → xt = 0 ∧ xh = 0) ∧ (ZB = false → ¬ (xt = 0 ∧ xh = 0)) from ⟨fun h => by rw [← hZB] at h; simpa using h, fun h hh => by rw [← hZB, two_true hh] at h; cases h⟩)
  have CS := Lib.hid (fun w => pCheck_any xt xh w)
  rw [← he2] at CS
  have GN := Lib.hid (show RIC L (j + 1) k05 F3 (out ++ [(xv, xs, xp, xf, xt, xh)]) from by
   have h := RI.step (hRdC_rdr L) HI.out hstep (ev := clsRd (lstK kC out) (xv, xs, xp, xf, xt, xh)) rfl
   rw [show atF none k = ((k : Nat) : Int) from rfl, clsRd_parts (lstK kC out) (xv, xs, xp, xf, xt, xh) (e1 := if PB = true then 9 else 0) (e2 := e2) (e3 := if xt = 0 ∧ xh = 0 then 11 else 0) (by rw [hPB]) he2 rfl, ← failF_two, ← failF_two, ← hF1, ← hF2, ← hF3] at h
   exact h)
  have G2 := Lib.hid hF2
  have G3 := Lib.hid hF3
  clear he2 hF2 hF3
  have G1 := Lib.hid hF1
  have GP := Lib.hid hPB
  have HK := Lib.hid (And.intro hj (And.intro hg hz))
  have HLN := Lib.hid hlen
  have hll : out.length ≤ 65536 := by omega
  have HOr := HO
  have Gxv := Lib.hid hxv
  have Gxs := Lib.hid hxs
  have Gxp := Lib.hid hxp
  have Gxf := Lib.hid hxf
  have Gk01 := Lib.hid hk01
  have Gf01 := Lib.hid hf01
  have Gxt := Lib.hid hxt
  have Gk02 := Lib.hid hk02
  have Gf02 := Lib.hid hf02
  have Gxh := Lib.hid hxh
  have Gk05 := Lib.hid hk05
  have Gf05 := Lib.hid hf05
  replace HO := Lib.hid (OwnR.mk (show World.ownsRow _ _ 79 6 _ _ _ from HOr.out))
  clear HOr
  clear hj hg hz hstep hF1 hPB HI hlen hxv hxs hxp hxf hk01 hf01 hxt hk02 hf02 hxh hk05 hf05
  go_wp2_with fail
  clear gg_1 gg_2
  (with_reducible refine (rTake12_e g k k01 L none f01 xv xs xp xf hL Gxv.out Gxs.out Gxp.out Gxf.out Gk01.out Gf01.out _ (RRd.butN HR.out zSlTby6_0)).mono ?_)
  rintro e w61 ⟨rfl, hRd, hx61⟩
  have hsz61 := hx61.size
  try simp at hsz61
  replace r_0f := zfb hx61 r_0 r_0f
  replace r_1f := zfb hx61 r_1 r_1f
  replace r_0 := zhb hx61 r_0
  replace r_1 := zhb hx61 r_1
  replace y_0f := zfb hx61 y_0 y_0f
  replace y_1f := zfb hx61 y_1 y_1f
  replace y_0 := zhb hx61 y_0
  replace y_1 := zhb hx61 y_1
  replace b_0f := zfb hx61 b_0 b_0f
  replace b_1f := zfb hx61 b_1 b_1f
  replace b_0 := zhb hx61 b_0
  replace b_1 := zhb hx61 b_1
  have c0_0f : w61.frozen? ⟨wr.heap.size, 0, none⟩ = false := hx61.froz zSlTby6_1 (v := .int .i64 0) zcv zcv
  have c0_1f : w61.frozen? ⟨wr.heap.size, 1, none⟩ = false := hx61.froz zSlTby6_1 (v := .int .i64 0) zcv zcv
  have c0_2f : w61.frozen? ⟨wr.heap.size, 2, none⟩ = false := hx61.froz zSlTby6_1 (v := .int .i64 0) zcv zcv
  have c0_3f : w61.frozen? ⟨wr.heap.size, 3, none⟩ = false := hx61.froz zSlTby6_1 (v := .int .i64 0) zcv zcv
  have c0_4f : w61.frozen? ⟨wr.heap.size, 4, none⟩ = false := hx61.froz zSlTby6_1 (v := .int .u64 0) zcv zcv
  have c0_5f : w61.frozen? ⟨wr.heap.size, 5, none⟩ = false := hx61.froz zSlTby6_1 (v := .int .u64 0) zcv zcv
  have c0_0 : w61.cell? ⟨wr.heap.size, 0, none⟩ = some (.int .i64 0) := hx61.has zSlTby6_1 zcv
  have c0_1 : w61.cell? ⟨wr.heap.size, 1, none⟩ = some (.int .i64 0) := hx61.has zSlTby6_1 zcv
  have c0_2 : w61.cell? ⟨wr.heap.size, 2, none⟩ = some (.int .i64 0) := hx61.has zSlTby6_1 zcv
  have c0_3 : w61.cell? ⟨wr.heap.size, 3, none⟩ = some (.int .i64 0) := hx61.has zSlTby6_1 zcv
  have c0_4 : w61.cell? ⟨wr.heap.size, 4, none⟩ = some (.int .u64 0) := hx61.has zSlTby6_1 zcv
  have c0_5 : w61.cell? ⟨wr.heap.size, 5, none⟩ = some (.int .u64 0) := hx61.has zSlTby6_1 zcv
  have z61 := hx61.size
  try simp at z61
  have lt_r_c0 := zl w.heap.size wr.heap.size
  have lt_y_c0 := zl (w.heap.size + 1) wr.heap.size
  have lt_b_c0 := zl w1.heap.size wr.heap.size
  have rr := zr w.heap.size w61
  have ry := zr (w.heap.size + 1) w61
  have rb := zr w1.heap.size w61
  have rc0 := zr wr.heap.size w61
  have X61 : Hid (Ext w w61) := Lib.hid (have hX := (show Ext w _ from zxt); Below.trans hX (hx61.below (Ext.size hX) (fun k hk hh => by have hh2 : k = g := hh; omega)))
  replace HO := Lib.hid (OwnR.but (OwnR.butN HO.out zSlTby6_0) hx61 zSlTby6_5)
  clear HR
  have HR := Lib.hid hRd
  clear hsz61 XR hx61 hRd
  go_wp2_with fail
  (with_reducible refine (rU_e g k01 k02 L f01 f02 xt hL Gxt.out Gk02.out Gf02.out _ (RRd.butN HR.out zSlTby6_0)).mono ?_)
  rintro e w62 ⟨rfl, hRd, hx62⟩
  have hsz62 := hx62.size
  try simp at hsz62
  replace r_0f := zfb hx62 r_0 r_0f
  replace r_1f := zfb hx62 r_1 r_1f
  replace r_0 := zhb hx62 r_0
  replace r_1 := zhb hx62 r_1
  replace y_0f := zfb hx62 y_0 y_0f
  replace y_1f := zfb hx62 y_1 y_1f
  replace y_0 := zhb hx62 y_0
  replace y_1 := zhb hx62 y_1
  replace b_0f := zfb hx62 b_0 b_0f
  replace b_1f := zfb hx62 b_1 b_1f
  replace b_0 := zhb hx62 b_0
  replace b_1 := zhb hx62 b_1
  replace c0_4f := zfb hx62 c0_4 c0_4f
  replace c0_5f := zfb hx62 c0_5 c0_5f
  replace c0_0 : w62.cell? ⟨wr.heap.size, 0, none⟩ = some (.int .i64 xv) := hx62.has zSlTby6_1 zcv
  replace c0_1 : w62.cell? ⟨wr.heap.size, 1, none⟩ = some (.int .i64 xs) := hx62.has zSlTby6_1 zcv
  replace c0_2 : w62.cell? ⟨wr.heap.size, 2, none⟩ = some (.int .i64 xp) := hx62.has zSlTby6_1 zcv
  replace c0_3 : w62.cell? ⟨wr.heap.size, 3, none⟩ = some (.int .i64 xf) := hx62.has zSlTby6_1 zcv
  replace c0_4 := zhb hx62 c0_4
  replace c0_5 := zhb hx62 c0_5
  have z62 := hx62.size
  try simp at z62
  replace rr := zr w.heap.size w62
  replace ry := zr (w.heap.size + 1) w62
  replace rb := zr w1.heap.size w62
  replace rc0 := zr wr.heap.size w62
  have X62 : Hid (Ext w w62) := Lib.hid (have hX := (show Ext w _ from zxt); Below.trans hX (hx62.below (Ext.size hX) (fun k hk hh => by have hh2 : k = g := hh; omega)))
  replace HO := Lib.hid (OwnR.but (OwnR.butN HO.out zSlTby6_0) hx62 zSlTby6_5)
  clear HR
  have HR := Lib.hid hRd
  clear c0_3f c0_0f c0_1f c0_2f hsz62 X61 hx62 hRd
  go_wp2_with fail
  (with_reducible refine (rU_e g k02 k05 L f02 f05 xh hL Gxh.out Gk05.out Gf05.out _ (RRd.butN HR.out zSlTby6_0)).mono ?_)
  rintro e w63 ⟨rfl, hRd, hx63⟩
  have hsz63 := hx63.size
  try simp at hsz63
  replace r_0f := zfb hx63 r_0 r_0f
  replace r_1f := zfb hx63 r_1 r_1f
  replace r_0 := zhb hx63 r_0
  replace r_1 := zhb hx63 r_1
  replace y_0f := zfb hx63 y_0 y_0f
  replace y_1f := zfb hx63 y_1 y_1f
  replace y_0 := zhb hx63 y_0
  replace y_1 := zhb hx63 y_1
  replace b_0f := zfb hx63 b_0 b_0f
  replace b_1f := zfb hx63 b_1 b_1f
  replace b_0 := zhb hx63 b_0
  replace b_1 := zhb hx63 b_1
  replace c0_5f := zfb hx63 c0_5 c0_5f
  replace c0_0 := zhb hx63 c0_0
  replace c0_1 := zhb hx63 c0_1
  replace c0_2 := zhb hx63 c0_2
  replace c0_3 := zhb hx63 c0_3
  replace c0_4 : w63.cell? ⟨wr.heap.size, 4, none⟩ = some (.int .u64 xt) := hx63.has zSlTby6_1 zcv
  replace c0_5 := zhb hx63 c0_5
  have z63 := hx63.size
  try simp at z63
  replace rr := zr w.heap.size w63
  replace ry := zr (w.heap.size + 1) w63
  replace rb := zr w1.heap.size w63
  replace rc0 := zr wr.heap.size w63
  have X63 : Hid (Ext w w63) := Lib.hid (have hX := (show Ext w _ from zxt); Below.trans hX (hx63.below (Ext.size hX) (fun k hk hh => by have hh2 : k = g := hh; omega)))
  replace HO := Lib.hid (OwnR.but (OwnR.butN HO.out zSlTby6_0) hx63 zSlTby6_5)
  clear HR
  have HR := Lib.hid hRd
  clear c0_4f hsz63 X62 hx63 hRd
  go_upto_region 12 with (fail)
  go_cut [60] (fun q wc => q = .bool PB ∧ wc.cell? ⟨wr.heap.size, 0, none⟩ = some (.int .i64 xv) ∧ wc.cell? ⟨wr.heap.size, 1, none⟩ = some (.int .i64 xs) ∧ wc.cell? ⟨wr.heap.size, 2, none⟩ = some (.int .i64 xp) ∧ wc.cell? ⟨wr.heap.size, 3, none⟩ = some (.int .i64 xf) ∧ wc.cell? ⟨wr.heap.size, 4, none⟩ = some (.int .u64 xt) ∧ wc.cell? ⟨wr.heap.size, 5, none⟩ = some (.int .u64 xh) ∧ But (fun j => j = wr.heap.size) w63 wc)
  case first =>
   by_cases hq0 : ¬ out.length = 0
   ·obtain ⟨m, hm⟩ : ∃ m, out.length = m + 1 := ⟨out.length - 1, by omega⟩
    have hjm : (j : Int) = (m : Int) + 1 := by have := HLN.out; omega
    have hz0 : (0 : Int) < (j : Int) := by omega
    have hzd : decide ((0 : Int) < (j : Int)) = true := decide_eq_true hz0
    have hz1 : 0 < j := by omega
    have hze : decide (0 < j) = true := decide_eq_true hz1
    have hsl := OwnCls.sl (show OwnCls _ (w1.heap.size + 1) _ _ _ from HO.out.own)
    obtain ⟨b1, o1, rfl, hb1, hc1⟩ := hsl.rec_ clsC_len (show 0 < out.length from by omega)
    obtain ⟨yw, hl_y⟩ : ∃ x, out[m]? = some x := ⟨_, List.getElem?_eq_getElem (by omega)⟩
    have hb1g := own_rng HO.out.own b1 rfl
    have hb1h := HO.out.2 b1 rfl
    have v_0 := hc1 m yw hl_y 0 _ rfl
    have v_1 := hc1 m yw hl_y 1 _ rfl
    have v_2 := hc1 m yw hl_y 2 _ rfl
    have v_3 := hc1 m yw hl_y 3 _ rfl
    have v_4 := hc1 m yw hl_y 4 _ rfl
    have v_5 := hc1 m yw hl_y 5 _ rfl
    obtain ⟨yv, ys, yp, yf, yt, yh⟩ := yw
    simp only at v_0 v_1 v_2 v_3 v_4 v_5
    rw [Nat.add_zero] at v_0
    rw [← Nat.add_assoc] at v_1 v_2 v_3 v_4 v_5
    obtain ⟨G, hG⟩ : ∃ G, G = cmpK (kC (yv, ys, yp, yf, yt, yh)) (kC (xv, xs, xp, xf, xt, xh)) := ⟨_, rfl⟩
    have HG := Lib.hid (show G = cmpL [(yv, xv), (ys, xs), (yp, xp), (yf, xf)] from hG)
    have HPB := Lib.hid (show decide (0 ≤ G) = PB from by rw [GP.out, lstK_at hm hl_y, hG]; rfl)
    have hmw : IntKind.i64.wrap ((j : Int) - 1) = (m : Int) := by rw [hjm, Int.add_sub_cancel]; exact IntWalk.i64_in _ (by omega)
    have hml : (m : Int) < (out.length : Int) := by omega
    have hms : m ≤ 9223372036854775806 := by omega
    have hml2 : m < out.length := by omega
    have hb1q : ¬ b1 = w1.heap.size := by omega
    have hb1r : ¬ b1 = wr.heap.size := by omega
    clear hl_y hc1 hsl hG hm hjm
    go_wp2_with fail
    refine wp_region_held_drew (S := fun w' => w'.cell? ⟨w1.heap.size, 0, none⟩ = some (.slice (some ⟨b1, o1, none⟩) out.length c) ∧ w'.cell? ⟨wr.heap.size, 0, none⟩ = some (.int .i64 xv) ∧ w'.cell? ⟨wr.heap.size, 1, none⟩ = some (.int .i64 xs) ∧ w'.cell? ⟨wr.heap.size, 2, none⟩ = some (.int .i64 xp) ∧ w'.cell? ⟨wr.heap.size, 3, none⟩ = some (.int .i64 xf) ∧ w'.cell? ⟨b1, o1 + m * 6, none⟩ = some (.int .i64 yv) ∧ w'.cell? ⟨b1, o1 + m * 6 + 1, none⟩ = some (.int .i64 ys) ∧ w'.cell? ⟨b1, o1 + m * 6 + 2, none⟩ = some (.int .i64 yp) ∧ w'.cell? ⟨b1, o1 + m * 6 + 3, none⟩ = some (.int .i64 yf)) (by kernel_rfl) (by first | with_reducible exact ⟨b_0, c0_0, c0_1, c0_2, c0_3, v_0, v_1, v_2, v_3⟩ | (simp [go_sem, World.cell?_alloc_past, b_0, c0_0, c0_1, c0_2, c0_3, rr, ry, rb, rc0, v_0, v_1, v_2, v_3, hlr, hly, hlb, hnr, hny, hnb, hgn, hb1q, hb1, hb1r]; done)) (fun hHeld => ?_)
    refine' zt 0 ?_
    refine' zt 1 ?_
    refine' zt 2 ?_
    refine' zt 3 ?_
    refine' zt 4 ?_
    refine' zt 5 ?_
    refine' zt 6 ?_
    refine' zt 7 ?_
    refine' zt 8 ?_
    refine' zt 9 ?_
    refine' zt 10 ?_
    refine' zt 11 ?_
    refine' zn 12 (fun K hK => ?_)
    go_simp
    (with_reducible refine (rCompare12_at yv ys yp yf xv xs xp xf G _ HG.out).mono ?_)
    rintro e w64 ⟨rfl, hx64⟩
    replace r_0f := zf hx64 r_0 r_0f
    replace r_1f := zf hx64 r_1 r_1f
    replace r_0 := zh hx64 r_0
    replace r_1 := zh hx64 r_1
    replace y_0f := zf hx64 y_0 y_0f
    replace y_1f := zf hx64 y_1 y_1f
    replace y_0 := zh hx64 y_0
    replace y_1 := zh hx64 y_1
    replace b_0f := zf hx64 b_0 b_0f
    replace b_1f := zf hx64 b_1 b_1f
    replace b_0 := zh hx64 b_0
    replace b_1 := zh hx64 b_1
    replace c0_0 := zh hx64 c0_0
    replace c0_1 := zh hx64 c0_1
    replace c0_2 := zh hx64 c0_2
    replace c0_3 := zh hx64 c0_3
    replace c0_4 := zh hx64 c0_4
    replace c0_5 : w64.cell? ⟨wr.heap.size, 5, none⟩ = some (.int .u64 xh) := hx64.has zcv
    replace v_0 := zh hx64 v_0
    replace v_1 := zh hx64 v_1
    replace v_2 := zh hx64 v_2
    replace v_3 := zh hx64 v_3
    have z64 := hx64.size
    try simp at z64
    have ne_r_v : ¬ w.heap.size = b1 := by omega
    have ne_y_v : ¬ w.heap.size + 1 = b1 := by omega
    have ne_b_v : ¬ w1.heap.size = b1 := by omega
    have ne_c0_v : ¬ wr.heap.size = b1 := by omega
    have ne_v_r : ¬ b1 = w.heap.size := by omega
    have ne_v_y : ¬ b1 = w.heap.size + 1 := by omega
    have ne_v_b : ¬ b1 = w1.heap.size := by omega
    have ne_v_c0 : ¬ b1 = wr.heap.size := by omega
    replace rr := zr w.heap.size w64
    replace ry := zr (w.heap.size + 1) w64
    replace rb := zr w1.heap.size w64
    replace rc0 := zr wr.heap.size w64
    have rv := zr b1 w64
    replace HO := Lib.hid ((OwnR.butN HO.out zSlTby6_0).ext hx64)
    replace HR := Lib.hid ((RRd.butN HR.out zSlTby6_0).ext hx64)
    have X64 : Hid (Ext w w64) := Lib.hid (Ext.trans zxt hx64)
    have HXC := Lib.hid (show But (fun j => j = wr.heap.size) w63 _ from But.trans zSlTby6_2 (But.ofExt hx64))
    clear c0_5f v_5 v_4 X63 hx64
    refine' zk hK (by (first | with_reducible exact ⟨b_0, c0_0, c0_1, c0_2, c0_3, v_0, v_1, v_2, v_3⟩ | (simp [go_sem, World.cell?_alloc_past, r_0f, r_1f, r_0, r_1, y_0f, y_1f, y_0, y_1, b_0f, b_1f, b_0, b_1, c0_0, c0_1, c0_2, c0_3, c0_4, c0_5, v_0, v_1, v_2, v_3, ne_r_v, ne_y_v, ne_b_v, ne_c0_v, ne_v_r, ne_v_y, ne_v_b, ne_v_c0, rr, ry, rb, rc0, rv, hlr, hly, hlb, hnr, hny, hnb, hgn, hb1q, hb1, hb1r]; done) | exact ⟨b_0, c0_0, c0_1, c0_2, c0_3, v_0, v_1, v_2, v_3⟩)) (fun hHeld => ?_); clear hK K
    refine' zt 13 ?_
    refine' zt 14 ?_
    refine wpAnyH_done (by kernel_rfl) ?_ _
    go_wp2_with fail
    go_meet
    exact ⟨congrArg Value.bool HPB.out, zcv, zcv, zcv, zcv, zcv, zcv, zSlTby6_8⟩
   have hz0 : ¬ (0 : Int) < (j : Int) := by have := HLN.out; omega
   have hzd : decide ((0 : Int) < (j : Int)) = false := decide_eq_false hz0
   have hz1 : ¬ 0 < j := by omega
   have hze : decide (0 < j) = false := decide_eq_false hz1
   have HPB := Lib.hid (show false = PB from by rw [GP.out, lstK_nil (by omega)]; rfl)
   go_wp2_with fail
   refine wp_region_held_drew (S := fun w' => w'.cell? ⟨w1.heap.size, 0, none⟩ = some (.slice A out.length c) ∧ w'.cell? ⟨wr.heap.size, 0, none⟩ = some (.int .i64 xv) ∧ w'.cell? ⟨wr.heap.size, 1, none⟩ = some (.int .i64 xs) ∧ w'.cell? ⟨wr.heap.size, 2, none⟩ = some (.int .i64 xp) ∧ w'.cell? ⟨wr.heap.size, 3, none⟩ = some (.int .i64 xf)) (by kernel_rfl) (by first | with_reducible exact ⟨b_0, c0_0, c0_1, c0_2, c0_3⟩ | (simp [go_sem, World.cell?_alloc_past, b_0, c0_0, c0_1, c0_2, c0_3, rr, ry, rb, rc0, hlr, hly, hlb, hnr, hny, hnb, hgn]; done)) (fun hHeld => ?_)
   refine' zt 0 ?_
   refine' zt 1 ?_
   refine' zt 2 ?_
   refine' zs 3 ?_
   refine' zs 4 ?_
   refine' zs 5 ?_
   refine' zs 6 ?_
   refine' zs 7 ?_
   refine' zs 8 ?_
   refine' zs 9 ?_
   refine' zs 10 ?_
   refine' zs 11 ?_
   refine' zs 12 ?_
   refine' zs 13 ?_
   refine' zt 14 ?_
   refine wpAnyH_done (by kernel_rfl) ?_ _
   go_wp2_with fail
   go_meet
   exact ⟨congrArg Value.bool HPB.out, zcv, zcv, zcv, zcv, zcv, zcv, zSlTby6_2⟩
  obtain ⟨rfl, q_0, q_1, q_2, q_3, q_4, q_5, hx64⟩ := hcut
  obtain ⟨w64, hw64⟩ : ∃ x, x = wc := ⟨_, rfl⟩
  subst hw64
  try clear c0_1 c0_5f lt_b_c0 c0_2 c0_0 c0_4 lt_r_c0 lt_y_c0 c0_3 c0_5
  clear rc0
  replace HO := Lib.hid (HO.out.but hx64 (by intro j h1 h2 hh; have h3 : j = wr.heap.size := hh; omega))
  replace HR := Lib.hid (HR.out.but hx64 (fun j hlt hh => by have h3 : j = wr.heap.size := hh; omega))
  have hsz64 := hx64.size
  try simp at hsz64
  replace r_0f := zfb hx64 r_0 r_0f
  replace r_1f := zfb hx64 r_1 r_1f
  replace r_0 := zhb hx64 r_0
  replace r_1 := zhb hx64 r_1
  replace y_0f := zfb hx64 y_0 y_0f
  replace y_1f := zfb hx64 y_1 y_1f
  replace y_0 := zhb hx64 y_0
  replace y_1 := zhb hx64 y_1
  replace b_0f := zfb hx64 b_0 b_0f
  replace b_1f := zfb hx64 b_1 b_1f
  replace b_0 := zhb hx64 b_0
  replace b_1 := zhb hx64 b_1
  have z64 := hx64.size
  try simp at z64
  replace rr := zr w.heap.size w64
  replace ry := zr (w.heap.size + 1) w64
  replace rb := zr w1.heap.size w64
  have X64 : Hid (Ext w w64) := Lib.hid (have hX := (show Ext w _ from zxt); Below.trans hX (hx64.below (Ext.size hX) (fun k hk hh => by have h2 : k = wr.heap.size := hh; omega)))
  clear hsz64 X63 hx64
  replace HO := Lib.hid (show OwnCls w64 (w1.heap.size + 1) _ _ _ from HO.out.own)
  have hlq := cell_lt q_0
  have hnq : ¬ wr.heap.size = w64.heap.size := by omega
  have hgk : ¬ wr.heap.size = g := by omega
  go_upto_if 60 with (fail)
  go_cut [] (fun wc => RRd wc g L k05 F1 ∧ But (· = g) w64 wc)
  case first =>
   rcases Bool.eq_false_or_eq_true PB with rfl | rfl
   ·have GF := Lib.hid (show F1 = failF f05 9 ((k : Nat) : Int) from by rw [G1.out]; rfl)
    go_wp2_with fail
    (with_reducible refine ((show Calls Tryz.prog 120 #[.pointer (some ⟨g, 0, none⟩), .int .i64 9, .int .i64 (k : Int)] _ fun r w' => (∃ v, r = .returned v) ∧ RRd w' g L k05 (F1) ∧ But (· = g) _ w' from GF.out ▸ rFail_any g k05 L f05 9 (k : Int) _ (HR.out.ext zxt))).mono ?_)
    rintro e w65 ⟨⟨vv, rfl⟩, hRd, hx65⟩
    have hsz65 := hx65.size
    try simp at hsz65
    replace r_0f := zfb hx65 r_0 r_0f
    replace r_1f := zfb hx65 r_1 r_1f
    replace r_0 := zhb hx65 r_0
    replace r_1 := zhb hx65 r_1
    replace y_0f := zfb hx65 y_0 y_0f
    replace y_1f := zfb hx65 y_1 y_1f
    replace y_0 := zhb hx65 y_0
    replace y_1 := zhb hx65 y_1
    replace b_0f := zfb hx65 b_0 b_0f
    replace b_1f := zfb hx65 b_1 b_1f
    replace b_0 := zhb hx65 b_0
    replace b_1 := zhb hx65 b_1
    replace q_0 := zhb hx65 q_0
    replace q_1 := zhb hx65 q_1
    replace q_2 := zhb hx65 q_2
    replace q_3 := zhb hx65 q_3
    replace q_4 := zhb hx65 q_4
    replace q_5 := zhb hx65 q_5
    have z65 := hx65.size
    try simp at z65
    replace rr := zr w.heap.size w65
    replace ry := zr (w.heap.size + 1) w65
    replace rb := zr w1.heap.size w65
    have rq := zr wr.heap.size w65
    have X65 : Hid (Ext w w65) := Lib.hid (have hX := (show Ext w _ from zxt); Below.trans hX (hx65.below (Ext.size hX) (fun k hk hh => by have hh2 : k = g := hh; omega)))
    replace HO := Lib.hid ((HO.out.ext zxt).but hx65 (fun j hj hh => by have h9 := own_rng HO.out j hj; have h8 : j = g := hh; omega))
    clear HR
    have HR := Lib.hid hRd
    have HBU := Lib.hid hx65
    clear hsz65 X64 hx65 hRd
    go_wp2_with fail
    go_meet
    exact ⟨HR.out, HBU.out⟩
   have GF : F1 = f05 := by rw [G1.out]; exact failF_0 _ _
   replace HR := Lib.hid (show RRd _ g L k05 F1 from GF ▸ HR.out)
   go_wp2_with fail
   go_meet
   exact ⟨HR.out, But.refl _ _⟩
  obtain ⟨hRd, hx65⟩ := hcut
  obtain ⟨w65, hw65⟩ : ∃ x, x = wc := ⟨_, rfl⟩
  subst hw65
  have hsz65 := hx65.size
  try simp at hsz65
  replace r_0f := zfb hx65 r_0 r_0f
  replace r_1f := zfb hx65 r_1 r_1f
  replace r_0 := zhb hx65 r_0
  replace r_1 := zhb hx65 r_1
  replace y_0f := zfb hx65 y_0 y_0f
  replace y_1f := zfb hx65 y_1 y_1f
  replace y_0 := zhb hx65 y_0
  replace y_1 := zhb hx65 y_1
  replace b_0f := zfb hx65 b_0 b_0f
  replace b_1f := zfb hx65 b_1 b_1f
  replace b_0 := zhb hx65 b_0
  replace b_1 := zhb hx65 b_1
  replace q_0 := zhb hx65 q_0
  replace q_1 := zhb hx65 q_1
  replace q_2 := zhb hx65 q_2
  replace q_3 := zhb hx65 q_3
  replace q_4 := zhb hx65 q_4
  replace q_5 := zhb hx65 q_5
  have z65 := hx65.size
  try simp at z65
  replace rr := zr w.heap.size w65
  replace ry := zr (w.heap.size + 1) w65
  replace rb := zr w1.heap.size w65
  have rq := zr wr.heap.size w65
  have X65 : Hid (Ext w w65) := Lib.hid (have hX := (show Ext w _ from zxt); Below.trans hX (hx65.below (Ext.size hX) (fun k hk hh => by have hh2 : k = g := hh; omega)))
  replace HO := Lib.hid ((HO.out.ext zxt).but hx65 (fun j hj hh => by have h9 := own_rng HO.out j hj; have h8 : j = g := hh; omega))
  clear HR
  have HR := Lib.hid hRd
  clear hsz65 X64 hx65 hRd
  go_wp2_with fail
  (with_reducible refine (CS.out _).mono ?_)
  rintro e w66 ⟨rfl, hx66⟩
  replace r_0f := zf hx66 r_0 r_0f
  replace r_1f := zf hx66 r_1 r_1f
  replace r_0 := zh hx66 r_0
  replace r_1 := zh hx66 r_1
  replace y_0f := zf hx66 y_0 y_0f
  replace y_1f := zf hx66 y_1 y_1f
  replace y_0 := zh hx66 y_0
  replace y_1 := zh hx66 y_1
  replace b_0f := zf hx66 b_0 b_0f
  replace b_1f := zf hx66 b_1 b_1f
  replace b_0 := zh hx66 b_0
  replace b_1 := zh hx66 b_1
  replace q_0 := zh hx66 q_0
  replace q_1 := zh hx66 q_1
  replace q_2 := zh hx66 q_2
  replace q_3 := zh hx66 q_3
  replace q_4 := zh hx66 q_4
  replace q_5 := zh hx66 q_5
  have z66 := hx66.size
  try simp at z66
  replace rr := zr w.heap.size w66
  replace ry := zr (w.heap.size + 1) w66
  replace rb := zr w1.heap.size w66
  replace rq := zr wr.heap.size w66
  replace HO := Lib.hid (HO.out.ext (Ext.trans zxt hx66))
  replace HR := Lib.hid (HR.out.ext (Ext.trans zxt hx66))
  have X66 : Hid (Ext w w66) := Lib.hid (Ext.trans zxt hx66)
  clear X65 hx66
  go_wp2_with fail
  (with_reducible refine ((show Calls Tryz.prog 120 #[.pointer (some ⟨g, 0, none⟩), .int .i64 e2, .int .i64 (k : Int)] _ fun r w' => (∃ v, r = .returned v) ∧ RRd w' g L k05 (F2) ∧ But (· = g) _ w' from G2.out ▸ rFail_any g k05 L F1 e2 (k : Int) _ (HR.out.ext zxt))).mono ?_)
  rintro e w67 ⟨⟨vv, rfl⟩, hRd, hx67⟩
  have hsz67 := hx67.size
  try simp at hsz67
  replace r_0f := zfb hx67 r_0 r_0f
  replace r_1f := zfb hx67 r_1 r_1f
  replace r_0 := zhb hx67 r_0
  replace r_1 := zhb hx67 r_1
  replace y_0f := zfb hx67 y_0 y_0f
  replace y_1f := zfb hx67 y_1 y_1f
  replace y_0 := zhb hx67 y_0
  replace y_1 := zhb hx67 y_1
  replace b_0f := zfb hx67 b_0 b_0f
  replace b_1f := zfb hx67 b_1 b_1f
  replace b_0 := zhb hx67 b_0
  replace b_1 := zhb hx67 b_1
  replace q_0 := zhb hx67 q_0
  replace q_1 := zhb hx67 q_1
  replace q_2 := zhb hx67 q_2
  replace q_3 := zhb hx67 q_3
  replace q_4 := zhb hx67 q_4
  replace q_5 := zhb hx67 q_5
  have z67 := hx67.size
  try simp at z67
  replace rr := zr w.heap.size w67
  replace ry := zr (w.heap.size + 1) w67
  replace rb := zr w1.heap.size w67
  replace rq := zr wr.heap.size w67
  have X67 : Hid (Ext w w67) := Lib.hid (have hX := (show Ext w _ from zxt); Below.trans hX (hx67.below (Ext.size hX) (fun k hk hh => by have hh2 : k = g := hh; omega)))
  replace HO := Lib.hid ((HO.out.ext zxt).but hx67 (fun j hj hh => by have h9 := own_rng HO.out j hj; have h8 : j = g := hh; omega))
  clear HR
  have HR := Lib.hid hRd
  clear hsz67 X66 hx67 hRd
  go_upto_if 73 with (fail)
  go_cut [] (fun wc => RRd wc g L k05 F3 ∧ But (· = g) w67 wc)
  case first =>
   rcases Bool.eq_false_or_eq_true ZB with rfl | rfl
   ·have GF := Lib.hid (show F3 = failF F2 11 ((k : Nat) : Int) from by rw [G3.out, if_pos (GZ.out.1 rfl)])
    go_wp2_with fail
    (with_reducible refine ((show Calls Tryz.prog 120 #[.pointer (some ⟨g, 0, none⟩), .int .i64 11, .int .i64 (k : Int)] _ fun r w' => (∃ v, r = .returned v) ∧ RRd w' g L k05 (F3) ∧ But (· = g) _ w' from GF.out ▸ rFail_any g k05 L F2 11 (k : Int) _ (HR.out.ext zxt))).mono ?_)
    rintro e w68 ⟨⟨vv, rfl⟩, hRd, hx68⟩
    have hsz68 := hx68.size
    try simp at hsz68
    replace r_0f := zfb hx68 r_0 r_0f
    replace r_1f := zfb hx68 r_1 r_1f
    replace r_0 := zhb hx68 r_0
    replace r_1 := zhb hx68 r_1
    replace y_0f := zfb hx68 y_0 y_0f
    replace y_1f := zfb hx68 y_1 y_1f
    replace y_0 := zhb hx68 y_0
    replace y_1 := zhb hx68 y_1
    replace b_0f := zfb hx68 b_0 b_0f
    replace b_1f := zfb hx68 b_1 b_1f
    replace b_0 := zhb hx68 b_0
    replace b_1 := zhb hx68 b_1
    replace q_0 := zhb hx68 q_0
    replace q_1 := zhb hx68 q_1
    replace q_2 := zhb hx68 q_2
    replace q_3 := zhb hx68 q_3
    replace q_4 := zhb hx68 q_4
    replace q_5 := zhb hx68 q_5
    have z68 := hx68.size
    try simp at z68
    replace rr := zr w.heap.size w68
    replace ry := zr (w.heap.size + 1) w68
    replace rb := zr w1.heap.size w68
    replace rq := zr wr.heap.size w68
    have X68 : Hid (Ext w w68) := Lib.hid (have hX := (show Ext w _ from zxt); Below.trans hX (hx68.below (Ext.size hX) (fun k hk hh => by have hh2 : k = g := hh; omega)))
    replace HO := Lib.hid ((HO.out.ext zxt).but hx68 (fun j hj hh => by have h9 := own_rng HO.out j hj; have h8 : j = g := hh; omega))
    clear HR
    have HR := Lib.hid hRd
    have HBU := Lib.hid hx68
    clear hsz68 X67 hx68 hRd
    go_wp2_with fail
    go_meet
    exact ⟨HR.out, HBU.out⟩
   have GF : F3 = F2 := by rw [G3.out, if_neg (GZ.out.2 rfl)]; exact failF_0 _ _
   replace HR := Lib.hid (show RRd _ g L k05 F3 from GF ▸ HR.out)
   go_wp2_with fail
   go_meet
   exact ⟨HR.out, But.refl _ _⟩
  obtain ⟨hRd, hx68⟩ := hcut
  obtain ⟨w68, hw68⟩ : ∃ x, x = wc := ⟨_, rfl⟩
  subst hw68
  have hsz68 := hx68.size
  try simp at hsz68
  replace r_0f := zfb hx68 r_0 r_0f
  replace r_1f := zfb hx68 r_1 r_1f
  replace r_0 := zhb hx68 r_0
  replace r_1 := zhb hx68 r_1
  replace y_0f := zfb hx68 y_0 y_0f
  replace y_1f := zfb hx68 y_1 y_1f
  replace y_0 := zhb hx68 y_0
  replace y_1 := zhb hx68 y_1
  replace b_0f := zfb hx68 b_0 b_0f
  replace b_1f := zfb hx68 b_1 b_1f
  replace b_0 := zhb hx68 b_0
  replace b_1 := zhb hx68 b_1
  replace q_0 := zhb hx68 q_0
  replace q_1 := zhb hx68 q_1
  replace q_2 := zhb hx68 q_2
  replace q_3 := zhb hx68 q_3
  replace q_4 := zhb hx68 q_4
  replace q_5 := zhb hx68 q_5
  have z68 := hx68.size
  try simp at z68
  replace rr := zr w.heap.size w68
  replace ry := zr (w.heap.size + 1) w68
  replace rb := zr w1.heap.size w68
  replace rq := zr wr.heap.size w68
  have X68 : Hid (Ext w w68) := Lib.hid (have hX := (show Ext w _ from zxt); Below.trans hX (hx68.below (Ext.size hX) (fun k hk hh => by have hh2 : k = g := hh; omega)))
  replace HO := Lib.hid ((HO.out.ext zxt).but hx68 (fun j hj hh => by have h9 := own_rng HO.out j hj; have h8 : j = g := hh; omega))
  clear HR
  have HR := Lib.hid hRd
  clear hsz68 X67 hx68 hRd
  go_wp2_with (at_builtin; refine wpList_append_slB _ rfl _ _ 22 rfl (w1.heap.size + 1) 79 iCls (.agg #[.int .i64 0, .int .i64 0, .int .i64 0, .int .i64 0, .int .u64 0, .int .u64 0]) 6 48 Tryz.underlying22 iCls_0 iCls_1 iCls_2 iCls_3 rfl (by decide) (.slice A out.length c) out.length (out.flatMap clsC) (by rfl) ((HO.out.ext zxt)) _ 1 _ (#[.int .i64 xv, .int .i64 xs, .int .i64 xp, .int .i64 xf, .int .u64 xt, .int .u64 xh].toList) (by first | rfl | (simp [Act.eval, go_sem]; done)) (sl_new _ 79 6 #[.int .i64 xv, .int .i64 xs, .int .i64 xp, .int .i64 xf, .int .u64 xt, .int .u64 xh] 1 rfl (by decide)) (by intro u hu; simp at hu; rcases hu with rfl | rfl | rfl | rfl | rfl | rfl <;> rfl) (by omega) (by decide) (by (try simp); omega) ?_; intro v69 w69 hown69 hx69 hn69; refine Hid.out ?_)
  refine Lib.hid ?_
  obtain ⟨A69, c69, rfl, hnil69, hO69⟩ := own_app (f := clsC) (xv, xs, xp, xf, xt, xh) hown69 rfl rfl
  obtain ⟨L69, hL69⟩ : ∃ l, l = out ++ [(xv, xs, xp, xf, xt, xh)] := ⟨_, rfl⟩
  rw [← hL69] at hO69 ⊢
  have HL69 := Lib.hid hL69
  have hNL69 : L69.length = out.length + 1 := by rw [hL69, List.length_append]; rfl
  clear hown69 hn69 hnil69 hL69
  have hsz69 := hx69.size
  try simp at hsz69
  replace r_0f := zfb hx69 r_0 r_0f (ne := zSlTby6_4)
  replace r_1f := zfb hx69 r_1 r_1f (ne := zSlTby6_4)
  replace r_0 := zhb hx69 r_0 (ne := zSlTby6_4)
  replace r_1 := zhb hx69 r_1 (ne := zSlTby6_4)
  replace y_0f := zfb hx69 y_0 y_0f (ne := zSlTby6_4)
  replace y_1f := zfb hx69 y_1 y_1f (ne := zSlTby6_4)
  replace y_0 := zhb hx69 y_0 (ne := zSlTby6_4)
  replace y_1 := zhb hx69 y_1 (ne := zSlTby6_4)
  replace b_0f := zfb hx69 b_0 b_0f (ne := zSlTby6_4)
  replace b_1f := zfb hx69 b_1 b_1f (ne := zSlTby6_4)
  replace b_0 := zhb hx69 b_0 (ne := zSlTby6_4)
  replace b_1 := zhb hx69 b_1 (ne := zSlTby6_4)
  have z69 := hx69.size
  try simp at z69
  replace rr := zr w.heap.size w69
  replace ry := zr (w.heap.size + 1) w69
  replace rb := zr w1.heap.size w69
  have X69 : Hid (Ext w w69) := Lib.hid (have hX := (show Ext w _ from zxt); Below.trans hX (hx69.below (Ext.size hX) (fun k hk hh => by have hh2 := own_rng HO.out _ hh; omega)))
  replace HR := Lib.hid ((HR.out.ext zxt).but hx69 (fun j hlt hk => by have := own_rng HO.out j hk; omega))
  clear HO
  have HO := Lib.hid (show OwnCls _ (w1.heap.size + 1) _ _ _ from hO69)
  clear q_0 q_4 q_1 q_2 q_3 q_5 rq hsz69 X68 hx69
  clear hO69
  go_wp2_with fail
  go_roundg (gk - 1)
  case measure => have := HK.out; omega
  exact ⟨by have := HK.out; omega, num_eq (by have := HK.out; omega), _, _, _, A69, c69, Lib.hid (by first | exact RRd.butN HR.out (But.setCell (But.refl _ _) (by show g < _; omega) _) | exact RRd.butN (HR.out.ext zxt) (But.setCell (But.refl _ _) (by show g < _; omega) _)), Lib.hid (show OwnCls _ (w1.heap.size + 1) _ _ _ from (show World.ownsRow _ (w1.heap.size + 1) _ _ _ _ _ from by repeat (first | exact HO.out | with_reducible refine own_box ?_ (by omega) | with_reducible refine World.ownsRow.drew ?_ | refine own_keep ?_ (Ext.alloc (Ext.refl _) _) | refine own_keep ?_ (Ext.drewN (Ext.refl _) _)))), by rw [show N - (gk - 1) = j + 1 from by have := HK.out; omega]; exact Lib.hid (by rw [HL69.out]; exact GN.out), by have := HK.out; have := HLN.out; omega, Lib.hid ⟨zcv, zcv, zcv, zcv⟩, Lib.hid ⟨zcv, zcv, zcv, zcv⟩, Lib.hid ⟨zcv, zcv, zcv, zcv⟩, Lib.hid zxt⟩
 clear HR c0_0 c0_0f c0_1 c0_1f c1_0 c1_0f c1_1 c1_1f c2_0 c2_0f c2_1 c2_1f lt_c0_c1 lt_c0_c2 lt_c1_c2 rc0 rc1 rc2 X2
 obtain ⟨k, f, cl, A, c, HR, HO, HC, HWC, hlc, BR, BF, BB, XR⟩ := hcut
 obtain ⟨wd, hwd⟩ : ∃ x, x = wc := ⟨_, rfl⟩
 subst hwd
 have r_0 := BR.out.c0
 have r_1 := BR.out.c1
 have r_0f := BR.out.f0
 have r_1f := BR.out.f1
 have hlr := cell_lt r_0
 have hnr : ¬ w.heap.size = wd.heap.size := by omega
 have y_0 := BF.out.c0
 have y_1 := BF.out.c1
 have y_0f := BF.out.f0
 have y_1f := BF.out.f1
 have hly := cell_lt y_0
 have hny : ¬ w.heap.size + 1 = wd.heap.size := by omega
 have b_0 := BB.out.c0
 have b_1 := BB.out.c1
 have b_0f := BB.out.f0
 have b_1f := BB.out.f1
 have hlb := cell_lt b_0
 have hnb : ¬ w1.heap.size = wd.heap.size := by omega
 have hgs : g < wd.heap.size := HR.out.lt
 have hgn : ¬ g = wd.heap.size := by omega
 clear BR BF BB
 obtain ⟨nm, hnm⟩ : ∃ v, v = rnV L k f 0 65536 := ⟨_, rfl⟩
 obtain ⟨hm0, hm1⟩ : 0 ≤ nm ∧ nm ≤ 65536 := by rw [hnm]; exact rnV_in L k f 0 65536 (by decide)
 obtain ⟨M, rfl⟩ : ∃ M : Nat, nm = (M : Int) := ⟨nm.toNat, by omega⟩
 have HNM := Lib.hid hnm
 have HNM2 := Lib.hid (hnm.trans HC.out.cnt)
 clear hnm
 go_wp2_with fail
 (with_reducible refine (rN_e g k (rnK L k f 0 65536) L f (rnF L k f 0 65536) 0 65536 (M : Int) (by decide) (by decide) (by decide) (by decide) hL HNM.out rfl rfl _ (HR.out.ext zxt)).mono ?_)
 rintro e w31 ⟨rfl, hRd, hx31⟩
 have hsz31 := hx31.size
 try simp at hsz31
 replace r_0f := zfb hx31 r_0 r_0f
 replace r_1f := zfb hx31 r_1 r_1f
 replace r_0 := zhb hx31 r_0
 replace r_1 := zhb hx31 r_1
 replace y_0f := zfb hx31 y_0 y_0f
 replace y_1f := zfb hx31 y_1 y_1f
 replace y_0 := zhb hx31 y_0
 replace y_1 := zhb hx31 y_1
 replace b_0f := zfb hx31 b_0 b_0f
 replace b_1f := zfb hx31 b_1 b_1f
 replace b_0 := zhb hx31 b_0
 replace b_1 := zhb hx31 b_1
 have z31 := hx31.size
 try simp at z31
 have rr := zr w.heap.size w31
 have ry := zr (w.heap.size + 1) w31
 have rb := zr w1.heap.size w31
 have X31 : Hid (Ext w w31) := Lib.hid (have hX := (show Ext w _ from zxt); Below.trans hX (hx31.below (Ext.size hX) (fun k hk hh => by have hh2 : k = g := hh; omega)))
 replace HO := Lib.hid ((HO.out.ext zxt).but hx31 (fun j hj hh => by have h9 := own_rng HO.out j hj; have h8 : j = g := hh; omega))
 clear HR
 have HR := Lib.hid hRd
 clear hsz31 XR hx31 hRd
 go_upto_block 2 with (fail)
 go_cut [] (fun wc => ∃ (k2 : Nat) (f2 : Flt) (ps : List I6) (A2 : Option Addr) (c2 : Nat), Hid (RRd wc g L k2 f2) ∧ Hid (OwnCls wc (w1.heap.size + 1) (.slice A cl.length c) cl.length cl) ∧ Hid (OwnPos wc (w1.heap.size + 1) (.slice A2 ps.length c2) ps.length ps) ∧ Hid (RIP L M k2 f2 ps) ∧ ps.length ≤ 65536 ∧ Hid (Bk wc w.heap.size (.slice none 0 0) (.slice none 0 0)) ∧ Hid (Bk wc (w.heap.size + 1) (.int .i64 0) (.int .i64 0)) ∧ Hid (Bk wc (w1.heap.size) (.slice A cl.length c) (.slice A2 ps.length c2)) ∧ Hid (Ext w wc))
 case first =>
  go_wp2_with fail
  go_loopg [10] M (fun gh i wx => gh ≤ M ∧ i = .int .i64 ((M - gh : Nat) : Int) ∧ ∃ (k2 : Nat) (f2 : Flt) (ps : List I6) (A2 : Option Addr) (c2 : Nat), Hid (RRd wx g L k2 f2) ∧ Hid (OwnCls wx (w1.heap.size + 1) (.slice A cl.length c) cl.length cl) ∧ Hid (OwnPos wx (w1.heap.size + 1) (.slice A2 ps.length c2) ps.length ps) ∧ Hid (RIP L (M - gh) k2 f2 ps) ∧ ps.length = (M - gh) ∧ Hid (Bk wx w.heap.size (.slice none 0 0) (.slice none 0 0)) ∧ Hid (Bk wx (w.heap.size + 1) (.int .i64 0) (.int .i64 0)) ∧ Hid (Bk wx (w1.heap.size) (.slice A cl.length c) (.slice A2 ps.length c2)) ∧ Hid (Ext w wx))
  case atStart => exact ⟨Nat.le_refl _, by simp, _, _, [], none, 0, Lib.hid (HR.out.ext zxt), Lib.hid (HO.out.ext zxt), Lib.hid (OwnPos.nil _ _), by rw [Nat.sub_self]; exact Lib.hid HC.out.start, by simp, Lib.hid ⟨zcv, zcv, zcv, zcv⟩, Lib.hid ⟨zcv, zcv, zcv, zcv⟩, Lib.hid (show Bk _ _ (.slice A cl.length c) (.slice none 0 0) from (Lib.hid ⟨zcv, zcv, zcv, zcv⟩).out), Lib.hid zxt⟩
  clear HR HO b_0 b_0f b_1 b_1f r_0 r_0f r_1 r_1f rb rr ry y_0 y_0f y_1 y_1f X31 hlr hly hlb hnr hny hnb hgn hgs
  obtain ⟨hg, hi, k2, f2, ps, A2, c2, HR, HO, HP, HI, hlen, BR, BF, BB, XR⟩ := hrel
  obtain ⟨j, hj⟩ : ∃ j, j = M - gk := ⟨_, rfl⟩
  rw [← hj] at hi HI hlen
  subst hi
  have r_0 := BR.out.c0
  have r_1 := BR.out.c1
  have r_0f := BR.out.f0
  have r_1f := BR.out.f1
  have hlr := cell_lt r_0
  have hnr : ¬ w.heap.size = wr.heap.size := by omega
  have y_0 := BF.out.c0
  have y_1 := BF.out.c1
  have y_0f := BF.out.f0
  have y_1f := BF.out.f1
  have hly := cell_lt y_0
  have hny : ¬ w.heap.size + 1 = wr.heap.size := by omega
  have b_0 := BB.out.c0
  have b_1 := BB.out.c1
  have b_0f := BB.out.f0
  have b_1f := BB.out.f1
  have hlb := cell_lt b_0
  have hnb : ¬ w1.heap.size = wr.heap.size := by omega
  have hgs : g < wr.heap.size := HR.out.lt
  have hgn : ¬ g = wr.heap.size := by omega
  clear BR BF BB
  have hjN : j ≤ M := by omega
  have gg_2 := HR.out.c2
  obtain ⟨E0, hE0⟩ : ∃ v, v = fltE f2 := ⟨_, rfl⟩
  rw [← hE0] at gg_2
  by_cases hz : gk = 0
  ·have hkn : ¬ (j : Int) < (M : Int) := by omega
   have HQ := Lib.hid (RI.any HI.out hjN (fun _ => by omega))
   have hlc2 : ps.length ≤ 65536 := by omega
   clear HI hg hj hz
   go_wp2_with fail
   go_meet
   exact ⟨_, _, _, _, _, Lib.hid (HR.out.ext zxt), Lib.hid (HO.out.ext zxt), Lib.hid (HP.out.ext zxt), HQ, hlc2, Lib.hid ⟨zcv, zcv, zcv, zcv⟩, Lib.hid ⟨zcv, zcv, zcv, zcv⟩, Lib.hid ⟨zcv, zcv, zcv, zcv⟩, Lib.hid zxt⟩
  have hkn : (j : Int) < (M : Int) := by omega
  by_cases hfn : ¬ f2 = none
  ·have hE00 : ¬ E0 = 0 := by rw [hE0]; exact fltE_nz HI.out.2.2.2.2 hfn
   have e25 : (E0 == 0) = false := by simpa using hE00
   have HQ := Lib.hid (RI.any HI.out hjN (fun hh => absurd hh hfn))
   have hlc2 : ps.length ≤ 65536 := by omega
   clear HI hg hj hz
   go_wp2_with fail
   go_meet
   exact ⟨_, _, _, _, _, Lib.hid (HR.out.ext zxt), Lib.hid (HO.out.ext zxt), Lib.hid (HP.out.ext zxt), HQ, hlc2, Lib.hid ⟨zcv, zcv, zcv, zcv⟩, Lib.hid ⟨zcv, zcv, zcv, zcv⟩, Lib.hid ⟨zcv, zcv, zcv, zcv⟩, Lib.hid zxt⟩
  replace hfn : f2 = none := Classical.not_not.1 hfn
  subst hfn
  have hE00 : E0 = 0 := by rw [hE0]; rfl
  subst hE00
  obtain ⟨t9, gg_1, _, ht9⟩ := HR.out.c1
  rw [ht9 rfl] at gg_1
  clear ht9
  have hjs : (j : Int) ≤ 65536 := by omega
  clear hE0
  obtain ⟨xo, hxo⟩ : ∃ v, v = rnV L k2 none 0 63 := ⟨_, rfl⟩
  obtain ⟨k01, hk01⟩ : ∃ v, v = rnK L k2 none 0 63 := ⟨_, rfl⟩
  obtain ⟨f01, hf01⟩ : ∃ v, v = rnF L k2 none 0 63 := ⟨_, rfl⟩
  obtain ⟨xv, hxv⟩ : ∃ v, v = if tkZ L (k01, f01) = true then 0 else tkA L (k01, f01) := ⟨_, rfl⟩
  obtain ⟨xs, hxs⟩ : ∃ v, v = if tkZ L (k01, f01) = true then 0 else tkB L (k01, f01) := ⟨_, rfl⟩
  obtain ⟨xp, hxp⟩ : ∃ v, v = if tkZ L (k01, f01) = true then 0 else tkC L (k01, f01) - 1 := ⟨_, rfl⟩
  obtain ⟨xf, hxf⟩ : ∃ v, v = if tkZ L (k01, f01) = true then 0 else tkD L (k01, f01) := ⟨_, rfl⟩
  obtain ⟨k02, hk02⟩ : ∃ v, v = (tk4 L (k01, f01)).1 := ⟨_, rfl⟩
  obtain ⟨f02, hf02⟩ : ∃ v, v = tkF L (k01, f01) := ⟨_, rfl⟩
  obtain ⟨xh, hxh⟩ : ∃ v, v = ruV L k02 f02 := ⟨_, rfl⟩
  obtain ⟨k05, hk05⟩ : ∃ v, v = ruK L k02 f02 := ⟨_, rfl⟩
  obtain ⟨f05, hf05⟩ : ∃ v, v = ruF L k02 f02 := ⟨_, rfl⟩
  have hstep := hRdP_eq hxo hk01 hf01 hxv hxs hxp hxf hk02 hf02 hxh hk05 hf05
  obtain ⟨PB, hPB⟩ : ∃ B, B = prevGe (lstK kP ps) (kP (xo, xv, xs, xp, xf, xh)) := ⟨_, rfl⟩
  obtain ⟨F1, hF1⟩ : ∃ v, v = failF f05 (if PB = true then 9 else 0) ((k2 : Nat) : Int) := ⟨_, rfl⟩
  have GN := Lib.hid (show RIP L (j + 1) k05 F1 (ps ++ [(xo, xv, xs, xp, xf, xh)]) from by
   have h := RI.step (hRdP_rdr L) HI.out hstep (ev := posRd (lstK kP ps) (xo, xv, xs, xp, xf, xh)) rfl
   rw [show atF none k2 = ((k2 : Nat) : Int) from rfl] at h
   unfold posRd at h
   rw [← hPB, ← hF1] at h
   exact h)
  have G1 := Lib.hid hF1
  have GP := Lib.hid hPB
  have HK := Lib.hid (And.intro hj (And.intro hg hz))
  have HLN := Lib.hid hlen
  have hll : ps.length ≤ 65536 := by omega
  have HOr := HO
  have Gxo := Lib.hid hxo
  have Gk01 := Lib.hid hk01
  have Gf01 := Lib.hid hf01
  have Gxv := Lib.hid hxv
  have Gxs := Lib.hid hxs
  have Gxp := Lib.hid hxp
  have Gxf := Lib.hid hxf
  have Gk02 := Lib.hid hk02
  have Gf02 := Lib.hid hf02
  have Gxh := Lib.hid hxh
  have Gk05 := Lib.hid hk05
  have Gf05 := Lib.hid hf05
  replace HO := Lib.hid (OwnR.mk (show World.ownsRow _ _ 79 6 _ _ _ from HOr.out))
  clear HOr
  have HPr := HP
  replace HP := Lib.hid (OwnR.mk (show World.ownsRow _ _ 82 6 _ _ _ from HPr.out))
  clear HPr
  clear hj hg hz hstep hF1 hPB HI hlen hxo hk01 hf01 hxv hxs hxp hxf hk02 hf02 hxh hk05 hf05
  go_wp2_with fail
  clear gg_1 gg_2
  (with_reducible refine (rN_e g k2 k01 L none f01 0 63 xo (by decide) (by decide) (by decide) (by decide) hL Gxo.out Gk01.out Gf01.out _ (RRd.butN HR.out zSlTby6_0)).mono ?_)
  rintro e w91 ⟨rfl, hRd, hx91⟩
  have hsz91 := hx91.size
  try simp at hsz91
  replace r_0f := zfb hx91 r_0 r_0f
  replace r_1f := zfb hx91 r_1 r_1f
  replace r_0 := zhb hx91 r_0
  replace r_1 := zhb hx91 r_1
  replace y_0f := zfb hx91 y_0 y_0f
  replace y_1f := zfb hx91 y_1 y_1f
  replace y_0 := zhb hx91 y_0
  replace y_1 := zhb hx91 y_1
  replace b_0f := zfb hx91 b_0 b_0f
  replace b_1f := zfb hx91 b_1 b_1f
  replace b_0 := zhb hx91 b_0
  replace b_1 := zhb hx91 b_1
  have c0_0f : w91.frozen? ⟨wr.heap.size, 0, none⟩ = false := hx91.froz zSlTby6_1 (v := .int .i64 0) zcv zcv
  have c0_1f : w91.frozen? ⟨wr.heap.size, 1, none⟩ = false := hx91.froz zSlTby6_1 (v := .int .i64 0) zcv zcv
  have c0_2f : w91.frozen? ⟨wr.heap.size, 2, none⟩ = false := hx91.froz zSlTby6_1 (v := .int .i64 0) zcv zcv
  have c0_3f : w91.frozen? ⟨wr.heap.size, 3, none⟩ = false := hx91.froz zSlTby6_1 (v := .int .i64 0) zcv zcv
  have c0_4f : w91.frozen? ⟨wr.heap.size, 4, none⟩ = false := hx91.froz zSlTby6_1 (v := .int .i64 0) zcv zcv
  have c0_5f : w91.frozen? ⟨wr.heap.size, 5, none⟩ = false := hx91.froz zSlTby6_1 (v := .int .u64 0) zcv zcv
  have c0_0 : w91.cell? ⟨wr.heap.size, 0, none⟩ = some (.int .i64 0) := hx91.has zSlTby6_1 zcv
  have c0_1 : w91.cell? ⟨wr.heap.size, 1, none⟩ = some (.int .i64 0) := hx91.has zSlTby6_1 zcv
  have c0_2 : w91.cell? ⟨wr.heap.size, 2, none⟩ = some (.int .i64 0) := hx91.has zSlTby6_1 zcv
  have c0_3 : w91.cell? ⟨wr.heap.size, 3, none⟩ = some (.int .i64 0) := hx91.has zSlTby6_1 zcv
  have c0_4 : w91.cell? ⟨wr.heap.size, 4, none⟩ = some (.int .i64 0) := hx91.has zSlTby6_1 zcv
  have c0_5 : w91.cell? ⟨wr.heap.size, 5, none⟩ = some (.int .u64 0) := hx91.has zSlTby6_1 zcv
  have z91 := hx91.size
  try simp at z91
  have lt_r_c0 := zl w.heap.size wr.heap.size
  have lt_y_c0 := zl (w.heap.size + 1) wr.heap.size
  have lt_b_c0 := zl w1.heap.size wr.heap.size
  have rr := zr w.heap.size w91
  have ry := zr (w.heap.size + 1) w91
  have rb := zr w1.heap.size w91
  have rc0 := zr wr.heap.size w91
  have X91 : Hid (Ext w w91) := Lib.hid (have hX := (show Ext w _ from zxt); Below.trans hX (hx91.below (Ext.size hX) (fun k hk hh => by have hh2 : k = g := hh; omega)))
  replace HO := Lib.hid (OwnR.but (OwnR.butN HO.out zSlTby6_0) hx91 zSlTby6_5)
  replace HP := Lib.hid (OwnR.but (OwnR.butN HP.out zSlTby6_0) hx91 zSlTby6_5)
  clear HR
  have HR := Lib.hid hRd
  clear hsz91 XR hx91 hRd
  go_wp2_with fail
  (with_reducible refine (rTake12_e g k01 k02 L f01 f02 xv xs xp xf hL Gxv.out Gxs.out Gxp.out Gxf.out Gk02.out Gf02.out _ (RRd.butN HR.out zSlTby6_0)).mono ?_)
  rintro e w92 ⟨rfl, hRd, hx92⟩
  have hsz92 := hx92.size
  try simp at hsz92
  replace r_0f := zfb hx92 r_0 r_0f
  replace r_1f := zfb hx92 r_1 r_1f
  replace r_0 := zhb hx92 r_0
  replace r_1 := zhb hx92 r_1
  replace y_0f := zfb hx92 y_0 y_0f
  replace y_1f := zfb hx92 y_1 y_1f
  replace y_0 := zhb hx92 y_0
  replace y_1 := zhb hx92 y_1
  replace b_0f := zfb hx92 b_0 b_0f
  replace b_1f := zfb hx92 b_1 b_1f
  replace b_0 := zhb hx92 b_0
  replace b_1 := zhb hx92 b_1
  replace c0_1f := zfb hx92 c0_1 c0_1f
  replace c0_2f := zfb hx92 c0_2 c0_2f
  replace c0_3f := zfb hx92 c0_3 c0_3f
  replace c0_4f := zfb hx92 c0_4 c0_4f
  replace c0_5f := zfb hx92 c0_5 c0_5f
  replace c0_0 : w92.cell? ⟨wr.heap.size, 0, none⟩ = some (.int .i64 xo) := hx92.has zSlTby6_1 zcv
  replace c0_1 := zhb hx92 c0_1
  replace c0_2 := zhb hx92 c0_2
  replace c0_3 := zhb hx92 c0_3
  replace c0_4 := zhb hx92 c0_4
  replace c0_5 := zhb hx92 c0_5
  have z92 := hx92.size
  try simp at z92
  replace rr := zr w.heap.size w92
  replace ry := zr (w.heap.size + 1) w92
  replace rb := zr w1.heap.size w92
  replace rc0 := zr wr.heap.size w92
  have X92 : Hid (Ext w w92) := Lib.hid (have hX := (show Ext w _ from zxt); Below.trans hX (hx92.below (Ext.size hX) (fun k hk hh => by have hh2 : k = g := hh; omega)))
  replace HO := Lib.hid (OwnR.but (OwnR.butN HO.out zSlTby6_0) hx92 zSlTby6_5)
  replace HP := Lib.hid (OwnR.but (OwnR.butN HP.out zSlTby6_0) hx92 zSlTby6_5)
  clear HR
  have HR := Lib.hid hRd
  clear c0_0f hsz92 X91 hx92 hRd
  go_wp2_with fail
  (with_reducible refine (rU_e g k02 k05 L f02 f05 xh hL Gxh.out Gk05.out Gf05.out _ (RRd.butN HR.out zSlTby6_0)).mono ?_)
  rintro e w93 ⟨rfl, hRd, hx93⟩
  have hsz93 := hx93.size
  try simp at hsz93
  replace r_0f := zfb hx93 r_0 r_0f
  replace r_1f := zfb hx93 r_1 r_1f
  replace r_0 := zhb hx93 r_0
  replace r_1 := zhb hx93 r_1
  replace y_0f := zfb hx93 y_0 y_0f
  replace y_1f := zfb hx93 y_1 y_1f
  replace y_0 := zhb hx93 y_0
  replace y_1 := zhb hx93 y_1
  replace b_0f := zfb hx93 b_0 b_0f
  replace b_1f := zfb hx93 b_1 b_1f
  replace b_0 := zhb hx93 b_0
  replace b_1 := zhb hx93 b_1
  replace c0_5f := zfb hx93 c0_5 c0_5f
  replace c0_0 := zhb hx93 c0_0
  replace c0_1 : w93.cell? ⟨wr.heap.size, 1, none⟩ = some (.int .i64 xv) := hx93.has zSlTby6_1 zcv
  replace c0_2 : w93.cell? ⟨wr.heap.size, 2, none⟩ = some (.int .i64 xs) := hx93.has zSlTby6_1 zcv
  replace c0_3 : w93.cell? ⟨wr.heap.size, 3, none⟩ = some (.int .i64 xp) := hx93.has zSlTby6_1 zcv
  replace c0_4 : w93.cell? ⟨wr.heap.size, 4, none⟩ = some (.int .i64 xf) := hx93.has zSlTby6_1 zcv
  replace c0_5 := zhb hx93 c0_5
  have z93 := hx93.size
  try simp at z93
  replace rr := zr w.heap.size w93
  replace ry := zr (w.heap.size + 1) w93
  replace rb := zr w1.heap.size w93
  replace rc0 := zr wr.heap.size w93
  have X93 : Hid (Ext w w93) := Lib.hid (have hX := (show Ext w _ from zxt); Below.trans hX (hx93.below (Ext.size hX) (fun k hk hh => by have hh2 : k = g := hh; omega)))
  replace HO := Lib.hid (OwnR.but (OwnR.butN HO.out zSlTby6_0) hx93 zSlTby6_5)
  replace HP := Lib.hid (OwnR.but (OwnR.butN HP.out zSlTby6_0) hx93 zSlTby6_5)
  clear HR
  have HR := Lib.hid hRd
  clear c0_3f c0_4f c0_1f c0_2f hsz93 X92 hx93 hRd
  go_upto_region 27 with (fail)
  go_cut [123] (fun q wc => q = .bool PB ∧ wc.cell? ⟨wr.heap.size, 0, none⟩ = some (.int .i64 xo) ∧ wc.cell? ⟨wr.heap.size, 1, none⟩ = some (.int .i64 xv) ∧ wc.cell? ⟨wr.heap.size, 2, none⟩ = some (.int .i64 xs) ∧ wc.cell? ⟨wr.heap.size, 3, none⟩ = some (.int .i64 xp) ∧ wc.cell? ⟨wr.heap.size, 4, none⟩ = some (.int .i64 xf) ∧ wc.cell? ⟨wr.heap.size, 5, none⟩ = some (.int .u64 xh) ∧ But (fun j => j = wr.heap.size) w93 wc)
  case first =>
   by_cases hq0 : ¬ ps.length = 0
   ·obtain ⟨m, hm⟩ : ∃ m, ps.length = m + 1 := ⟨ps.length - 1, by omega⟩
    have hjm : (j : Int) = (m : Int) + 1 := by have := HLN.out; omega
    have hz0 : (0 : Int) < (j : Int) := by omega
    have hzd : decide ((0 : Int) < (j : Int)) = true := decide_eq_true hz0
    have hz1 : 0 < j := by omega
    have hze : decide (0 < j) = true := decide_eq_true hz1
    have hsl := OwnPos.sl (show OwnPos _ (w1.heap.size + 1) _ _ _ from HP.out.own)
    obtain ⟨b1, o1, rfl, hb1, hc1⟩ := hsl.rec_ posC_len (show 0 < ps.length from by omega)
    obtain ⟨yw, hl_y⟩ : ∃ x, ps[m]? = some x := ⟨_, List.getElem?_eq_getElem (by omega)⟩
    have hb1g := own_rng HP.out.own b1 rfl
    have hb1h := HP.out.2 b1 rfl
    have v_0 := hc1 m yw hl_y 0 _ rfl
    have v_1 := hc1 m yw hl_y 1 _ rfl
    have v_2 := hc1 m yw hl_y 2 _ rfl
    have v_3 := hc1 m yw hl_y 3 _ rfl
    have v_4 := hc1 m yw hl_y 4 _ rfl
    have v_5 := hc1 m yw hl_y 5 _ rfl
    obtain ⟨yo, yv, ys, yp, yf, yh⟩ := yw
    simp only at v_0 v_1 v_2 v_3 v_4 v_5
    rw [Nat.add_zero] at v_0
    rw [← Nat.add_assoc] at v_1 v_2 v_3 v_4 v_5
    obtain ⟨G, hG⟩ : ∃ G, G = cmpK (kP (yo, yv, ys, yp, yf, yh)) (kP (xo, xv, xs, xp, xf, xh)) := ⟨_, rfl⟩
    have HG := Lib.hid (show G = cmpK [yo, yv, ys, yp, yf] [xo, xv, xs, xp, xf] from hG)
    have HPB := Lib.hid (show decide (0 ≤ G) = PB from by rw [GP.out, lstK_at hm hl_y, hG]; rfl)
    obtain ⟨DB, hDB⟩ : ∃ B, B = decide (0 ≤ G) := ⟨_, rfl⟩
    have HDB := Lib.hid (show (decide (cmpK [yo, yv, ys, yp, yf] [xo, xv, xs, xp, xf] < 0)) = !DB from by rw [hDB, ← HG.out]; by_cases h9 : 0 ≤ G <;> simp [h9] <;> omega)
    rw [← hDB] at HPB
    clear hDB
    have hmw : IntKind.i64.wrap ((j : Int) - 1) = (m : Int) := by rw [hjm, Int.add_sub_cancel]; exact IntWalk.i64_in _ (by omega)
    have hml : (m : Int) < (ps.length : Int) := by omega
    have hms : m ≤ 9223372036854775806 := by omega
    have hml2 : m < ps.length := by omega
    have hb1q : ¬ b1 = w1.heap.size := by omega
    have hb1r : ¬ b1 = wr.heap.size := by omega
    clear hl_y hc1 hsl hG hm hjm
    go_wp2_with fail
    refine wp_region_held_drew (S := fun w' => w'.cell? ⟨w1.heap.size, 1, none⟩ = some (.slice (some ⟨b1, o1, none⟩) ps.length c2) ∧ w'.cell? ⟨wr.heap.size, 0, none⟩ = some (.int .i64 xo) ∧ w'.cell? ⟨wr.heap.size, 1, none⟩ = some (.int .i64 xv) ∧ w'.cell? ⟨wr.heap.size, 2, none⟩ = some (.int .i64 xs) ∧ w'.cell? ⟨wr.heap.size, 3, none⟩ = some (.int .i64 xp) ∧ w'.cell? ⟨wr.heap.size, 4, none⟩ = some (.int .i64 xf) ∧ w'.cell? ⟨wr.heap.size, 5, none⟩ = some (.int .u64 xh) ∧ w'.cell? ⟨b1, o1 + m * 6, none⟩ = some (.int .i64 yo) ∧ w'.cell? ⟨b1, o1 + m * 6 + 1, none⟩ = some (.int .i64 yv) ∧ w'.cell? ⟨b1, o1 + m * 6 + 2, none⟩ = some (.int .i64 ys) ∧ w'.cell? ⟨b1, o1 + m * 6 + 3, none⟩ = some (.int .i64 yp) ∧ w'.cell? ⟨b1, o1 + m * 6 + 4, none⟩ = some (.int .i64 yf) ∧ w'.cell? ⟨b1, o1 + m * 6 + 5, none⟩ = some (.int .u64 yh)) (by kernel_rfl) (by first | with_reducible exact ⟨b_1, c0_0, c0_1, c0_2, c0_3, c0_4, c0_5, v_0, v_1, v_2, v_3, v_4, v_5⟩ | (simp [go_sem, World.cell?_alloc_past, b_1, c0_0, c0_1, c0_2, c0_3, c0_4, c0_5, rr, ry, rb, rc0, v_0, v_1, v_2, v_3, v_4, v_5, hlr, hly, hlb, hnr, hny, hnb, hgn, hb1q, hb1, hb1r]; done)) (fun hHeld => ?_)
    refine' zt 0 ?_
    refine' zt 1 ?_
    refine' zt 2 ?_
    refine' zt 3 ?_
    refine' zt 4 ?_
    refine' zt 5 ?_
    refine' zt 6 ?_
    refine' zt 7 ?_
    refine' zt 8 ?_
    refine' zt 9 ?_
    refine' zn 10 (fun K hK => ?_)
    go_simp
    (with_reducible refine ((show Calls Tryz.prog 65 _ _ fun r w' => r = .returned (.bool (!DB)) ∧ Ext _ w' from HDB.out ▸ r13below_any yo yv ys yp yf yh xo xv xs xp xf xh _)).mono ?_)
    rintro e w94 ⟨rfl, hx94⟩
    replace r_0f := zf hx94 r_0 r_0f
    replace r_1f := zf hx94 r_1 r_1f
    replace r_0 := zh hx94 r_0
    replace r_1 := zh hx94 r_1
    replace y_0f := zf hx94 y_0 y_0f
    replace y_1f := zf hx94 y_1 y_1f
    replace y_0 := zh hx94 y_0
    replace y_1 := zh hx94 y_1
    replace b_0f := zf hx94 b_0 b_0f
    replace b_1f := zf hx94 b_1 b_1f
    replace b_0 := zh hx94 b_0
    replace b_1 := zh hx94 b_1
    replace c0_0 := zh hx94 c0_0
    replace c0_1 := zh hx94 c0_1
    replace c0_2 := zh hx94 c0_2
    replace c0_3 := zh hx94 c0_3
    replace c0_4 := zh hx94 c0_4
    replace c0_5 : w94.cell? ⟨wr.heap.size, 5, none⟩ = some (.int .u64 xh) := hx94.has zcv
    replace v_0 := zh hx94 v_0
    replace v_1 := zh hx94 v_1
    replace v_2 := zh hx94 v_2
    replace v_3 := zh hx94 v_3
    replace v_4 := zh hx94 v_4
    replace v_5 := zh hx94 v_5
    have z94 := hx94.size
    try simp at z94
    have ne_r_v : ¬ w.heap.size = b1 := by omega
    have ne_y_v : ¬ w.heap.size + 1 = b1 := by omega
    have ne_b_v : ¬ w1.heap.size = b1 := by omega
    have ne_c0_v : ¬ wr.heap.size = b1 := by omega
    have ne_v_r : ¬ b1 = w.heap.size := by omega
    have ne_v_y : ¬ b1 = w.heap.size + 1 := by omega
    have ne_v_b : ¬ b1 = w1.heap.size := by omega
    have ne_v_c0 : ¬ b1 = wr.heap.size := by omega
    replace rr := zr w.heap.size w94
    replace ry := zr (w.heap.size + 1) w94
    replace rb := zr w1.heap.size w94
    replace rc0 := zr wr.heap.size w94
    have rv := zr b1 w94
    replace HO := Lib.hid ((OwnR.butN HO.out zSlTby6_0).ext hx94)
    replace HP := Lib.hid ((OwnR.butN HP.out zSlTby6_0).ext hx94)
    replace HR := Lib.hid ((RRd.butN HR.out zSlTby6_0).ext hx94)
    have X94 : Hid (Ext w w94) := Lib.hid (Ext.trans zxt hx94)
    have HXC := Lib.hid (show But (fun j => j = wr.heap.size) w93 _ from But.trans zSlTby6_2 (But.ofExt hx94))
    clear c0_5f X93 hx94
    refine' zk hK (by (first | with_reducible exact ⟨b_1, c0_0, c0_1, c0_2, c0_3, c0_4, c0_5, v_0, v_1, v_2, v_3, v_4, v_5⟩ | (simp [go_sem, World.cell?_alloc_past, r_0f, r_1f, r_0, r_1, y_0f, y_1f, y_0, y_1, b_0f, b_1f, b_0, b_1, c0_0, c0_1, c0_2, c0_3, c0_4, c0_5, v_0, v_1, v_2, v_3, v_4, v_5, ne_r_v, ne_y_v, ne_b_v, ne_c0_v, ne_v_r, ne_v_y, ne_v_b, ne_v_c0, rr, ry, rb, rc0, rv, hlr, hly, hlb, hnr, hny, hnb, hgn, hb1q, hb1, hb1r]; done) | exact ⟨b_1, c0_0, c0_1, c0_2, c0_3, c0_4, c0_5, v_0, v_1, v_2, v_3, v_4, v_5⟩)) (fun hHeld => ?_); clear hK K
    refine' zt 11 ?_
    refine' zt 12 ?_
    refine wpAnyH_done (by kernel_rfl) ?_ _
    go_wp2_with fail
    go_meet
    exact ⟨congrArg Value.bool HPB.out, zcv, zcv, zcv, zcv, zcv, zcv, zSlTby6_8⟩
   have hz0 : ¬ (0 : Int) < (j : Int) := by have := HLN.out; omega
   have hzd : decide ((0 : Int) < (j : Int)) = false := decide_eq_false hz0
   have hz1 : ¬ 0 < j := by omega
   have hze : decide (0 < j) = false := decide_eq_false hz1
   have HPB := Lib.hid (show false = PB from by rw [GP.out, lstK_nil (by omega)]; rfl)
   go_wp2_with fail
   refine wp_region_held_drew (S := fun w' => w'.cell? ⟨w1.heap.size, 1, none⟩ = some (.slice A2 ps.length c2) ∧ w'.cell? ⟨wr.heap.size, 0, none⟩ = some (.int .i64 xo) ∧ w'.cell? ⟨wr.heap.size, 1, none⟩ = some (.int .i64 xv) ∧ w'.cell? ⟨wr.heap.size, 2, none⟩ = some (.int .i64 xs) ∧ w'.cell? ⟨wr.heap.size, 3, none⟩ = some (.int .i64 xp) ∧ w'.cell? ⟨wr.heap.size, 4, none⟩ = some (.int .i64 xf) ∧ w'.cell? ⟨wr.heap.size, 5, none⟩ = some (.int .u64 xh)) (by kernel_rfl) (by first | with_reducible exact ⟨b_1, c0_0, c0_1, c0_2, c0_3, c0_4, c0_5⟩ | (simp [go_sem, World.cell?_alloc_past, b_1, c0_0, c0_1, c0_2, c0_3, c0_4, c0_5, rr, ry, rb, rc0, hlr, hly, hlb, hnr, hny, hnb, hgn]; done)) (fun hHeld => ?_)
   refine' zt 0 ?_
   refine' zt 1 ?_
   refine' zt 2 ?_
   refine' zs 3 ?_
   refine' zs 4 ?_
   refine' zs 5 ?_
   refine' zs 6 ?_
   refine' zs 7 ?_
   refine' zs 8 ?_
   refine' zs 9 ?_
   refine' zs 10 ?_
   refine' zs 11 ?_
   refine' zt 12 ?_
   refine wpAnyH_done (by kernel_rfl) ?_ _
   go_wp2_with fail
   go_meet
   exact ⟨congrArg Value.bool HPB.out, zcv, zcv, zcv, zcv, zcv, zcv, zSlTby6_2⟩
  obtain ⟨rfl, q_0, q_1, q_2, q_3, q_4, q_5, hx94⟩ := hcut
  obtain ⟨w94, hw94⟩ : ∃ x, x = wc := ⟨_, rfl⟩
  subst hw94
  try clear c0_1 c0_5f lt_b_c0 c0_2 c0_0 c0_4 lt_r_c0 lt_y_c0 c0_3 c0_5
  clear rc0
  replace HO := Lib.hid (HO.out.but hx94 (by intro j h1 h2 hh; have h3 : j = wr.heap.size := hh; omega))
  replace HP := Lib.hid (HP.out.but hx94 (by intro j h1 h2 hh; have h3 : j = wr.heap.size := hh; omega))
  replace HR := Lib.hid (HR.out.but hx94 (fun j hlt hh => by have h3 : j = wr.heap.size := hh; omega))
  have hsz94 := hx94.size
  try simp at hsz94
  replace r_0f := zfb hx94 r_0 r_0f
  replace r_1f := zfb hx94 r_1 r_1f
  replace r_0 := zhb hx94 r_0
  replace r_1 := zhb hx94 r_1
  replace y_0f := zfb hx94 y_0 y_0f
  replace y_1f := zfb hx94 y_1 y_1f
  replace y_0 := zhb hx94 y_0
  replace y_1 := zhb hx94 y_1
  replace b_0f := zfb hx94 b_0 b_0f
  replace b_1f := zfb hx94 b_1 b_1f
  replace b_0 := zhb hx94 b_0
  replace b_1 := zhb hx94 b_1
  have z94 := hx94.size
  try simp at z94
  replace rr := zr w.heap.size w94
  replace ry := zr (w.heap.size + 1) w94
  replace rb := zr w1.heap.size w94
  have X94 : Hid (Ext w w94) := Lib.hid (have hX := (show Ext w _ from zxt); Below.trans hX (hx94.below (Ext.size hX) (fun k hk hh => by have h2 : k = wr.heap.size := hh; omega)))
  clear hsz94 X93 hx94
  replace HO := Lib.hid (show OwnCls w94 (w1.heap.size + 1) _ _ _ from HO.out.own)
  replace HP := Lib.hid (show OwnPos w94 (w1.heap.size + 1) _ _ _ from HP.out.own)
  have hlq := cell_lt q_0
  have hnq : ¬ wr.heap.size = w94.heap.size := by omega
  have hgk : ¬ wr.heap.size = g := by omega
  go_upto_if 123 with (fail)
  go_cut [] (fun wc => RRd wc g L k05 F1 ∧ But (· = g) w94 wc)
  case first =>
   rcases Bool.eq_false_or_eq_true PB with rfl | rfl
   ·have GF := Lib.hid (show F1 = failF f05 9 ((k2 : Nat) : Int) from by rw [G1.out]; rfl)
    go_wp2_with fail
    (with_reducible refine ((show Calls Tryz.prog 120 #[.pointer (some ⟨g, 0, none⟩), .int .i64 9, .int .i64 (k2 : Int)] _ fun r w' => (∃ v, r = .returned v) ∧ RRd w' g L k05 (F1) ∧ But (· = g) _ w' from GF.out ▸ rFail_any g k05 L f05 9 (k2 : Int) _ (HR.out.ext zxt))).mono ?_)
    rintro e w95 ⟨⟨vv, rfl⟩, hRd, hx95⟩
    have hsz95 := hx95.size
    try simp at hsz95
    replace r_0f := zfb hx95 r_0 r_0f
    replace r_1f := zfb hx95 r_1 r_1f
    replace r_0 := zhb hx95 r_0
    replace r_1 := zhb hx95 r_1
    replace y_0f := zfb hx95 y_0 y_0f
    replace y_1f := zfb hx95 y_1 y_1f
    replace y_0 := zhb hx95 y_0
    replace y_1 := zhb hx95 y_1
    replace b_0f := zfb hx95 b_0 b_0f
    replace b_1f := zfb hx95 b_1 b_1f
    replace b_0 := zhb hx95 b_0
    replace b_1 := zhb hx95 b_1
    replace q_0 := zhb hx95 q_0
    replace q_1 := zhb hx95 q_1
    replace q_2 := zhb hx95 q_2
    replace q_3 := zhb hx95 q_3
    replace q_4 := zhb hx95 q_4
    replace q_5 := zhb hx95 q_5
    have z95 := hx95.size
    try simp at z95
    replace rr := zr w.heap.size w95
    replace ry := zr (w.heap.size + 1) w95
    replace rb := zr w1.heap.size w95
    have rq := zr wr.heap.size w95
    have X95 : Hid (Ext w w95) := Lib.hid (have hX := (show Ext w _ from zxt); Below.trans hX (hx95.below (Ext.size hX) (fun k hk hh => by have hh2 : k = g := hh; omega)))
    replace HO := Lib.hid ((HO.out.ext zxt).but hx95 (fun j hj hh => by have h9 := own_rng HO.out j hj; have h8 : j = g := hh; omega))
    replace HP := Lib.hid ((HP.out.ext zxt).but hx95 (fun j hj hh => by have h9 := own_rng HP.out j hj; have h8 : j = g := hh; omega))
    clear HR
    have HR := Lib.hid hRd
    have HBU := Lib.hid hx95
    clear hsz95 X94 hx95 hRd
    go_wp2_with fail
    go_meet
    exact ⟨HR.out, HBU.out⟩
   have GF : F1 = f05 := by rw [G1.out]; exact failF_0 _ _
   replace HR := Lib.hid (show RRd _ g L k05 F1 from GF ▸ HR.out)
   go_wp2_with fail
   go_meet
   exact ⟨HR.out, But.refl _ _⟩
  obtain ⟨hRd, hx95⟩ := hcut
  obtain ⟨w95, hw95⟩ : ∃ x, x = wc := ⟨_, rfl⟩
  subst hw95
  have hsz95 := hx95.size
  try simp at hsz95
  replace r_0f := zfb hx95 r_0 r_0f
  replace r_1f := zfb hx95 r_1 r_1f
  replace r_0 := zhb hx95 r_0
  replace r_1 := zhb hx95 r_1
  replace y_0f := zfb hx95 y_0 y_0f
  replace y_1f := zfb hx95 y_1 y_1f
  replace y_0 := zhb hx95 y_0
  replace y_1 := zhb hx95 y_1
  replace b_0f := zfb hx95 b_0 b_0f
  replace b_1f := zfb hx95 b_1 b_1f
  replace b_0 := zhb hx95 b_0
  replace b_1 := zhb hx95 b_1
  replace q_0 := zhb hx95 q_0
  replace q_1 := zhb hx95 q_1
  replace q_2 := zhb hx95 q_2
  replace q_3 := zhb hx95 q_3
  replace q_4 := zhb hx95 q_4
  replace q_5 := zhb hx95 q_5
  have z95 := hx95.size
  try simp at z95
  replace rr := zr w.heap.size w95
  replace ry := zr (w.heap.size + 1) w95
  replace rb := zr w1.heap.size w95
  have rq := zr wr.heap.size w95
  have X95 : Hid (Ext w w95) := Lib.hid (have hX := (show Ext w _ from zxt); Below.trans hX (hx95.below (Ext.size hX) (fun k hk hh => by have hh2 : k = g := hh; omega)))
  replace HO := Lib.hid ((HO.out.ext zxt).but hx95 (fun j hj hh => by have h9 := own_rng HO.out j hj; have h8 : j = g := hh; omega))
  replace HP := Lib.hid ((HP.out.ext zxt).but hx95 (fun j hj hh => by have h9 := own_rng HP.out j hj; have h8 : j = g := hh; omega))
  clear HR
  have HR := Lib.hid hRd
  clear hsz95 X94 hx95 hRd
  go_wp2_with (at_builtin; refine wpList_append_slB _ rfl _ _ 23 rfl (w1.heap.size + 1) 82 iPos (.agg #[.int .i64 0, .int .i64 0, .int .i64 0, .int .i64 0, .int .i64 0, .int .u64 0]) 6 48 Tryz.underlying23 iPos_0 iPos_1 iPos_2 iPos_3 rfl (by decide) (.slice A2 ps.length c2) ps.length (ps.flatMap posC) (by rfl) ((HP.out.ext zxt)) _ 1 _ (#[.int .i64 xo, .int .i64 xv, .int .i64 xs, .int .i64 xp, .int .i64 xf, .int .u64 xh].toList) (by first | rfl | (simp [Act.eval, go_sem]; done)) (sl_new _ 82 6 #[.int .i64 xo, .int .i64 xv, .int .i64 xs, .int .i64 xp, .int .i64 xf, .int .u64 xh] 1 rfl (by decide)) (by intro u hu; simp at hu; rcases hu with rfl | rfl | rfl | rfl | rfl | rfl <;> rfl) (by omega) (by decide) (by (try simp); omega) ?_; intro v96 w96 hown96 hx96 hn96; refine Hid.out ?_)
  refine Lib.hid ?_
  obtain ⟨A96, c96, rfl, hnil96, hO96⟩ := own_app (f := posC) (xo, xv, xs, xp, xf, xh) hown96 rfl rfl
  obtain ⟨L96, hL96⟩ : ∃ l, l = ps ++ [(xo, xv, xs, xp, xf, xh)] := ⟨_, rfl⟩
  rw [← hL96] at hO96 ⊢
  have HL96 := Lib.hid hL96
  have hNL96 : L96.length = ps.length + 1 := by rw [hL96, List.length_append]; rfl
  clear hown96 hn96 hnil96 hL96
  have hsz96 := hx96.size
  try simp at hsz96
  replace r_0f := zfb hx96 r_0 r_0f (ne := zSlTby6_3)
  replace r_1f := zfb hx96 r_1 r_1f (ne := zSlTby6_3)
  replace r_0 := zhb hx96 r_0 (ne := zSlTby6_3)
  replace r_1 := zhb hx96 r_1 (ne := zSlTby6_3)
  replace y_0f := zfb hx96 y_0 y_0f (ne := zSlTby6_3)
  replace y_1f := zfb hx96 y_1 y_1f (ne := zSlTby6_3)
  replace y_0 := zhb hx96 y_0 (ne := zSlTby6_3)
  replace y_1 := zhb hx96 y_1 (ne := zSlTby6_3)
  replace b_0f := zfb hx96 b_0 b_0f (ne := zSlTby6_3)
  replace b_1f := zfb hx96 b_1 b_1f (ne := zSlTby6_3)
  replace b_0 := zhb hx96 b_0 (ne := zSlTby6_3)
  replace b_1 := zhb hx96 b_1 (ne := zSlTby6_3)
  have z96 := hx96.size
  try simp at z96
  replace rr := zr w.heap.size w96
  replace ry := zr (w.heap.size + 1) w96
  replace rb := zr w1.heap.size w96
  have X96 : Hid (Ext w w96) := Lib.hid (have hX := (show Ext w _ from zxt); Below.trans hX (hx96.below (Ext.size hX) (fun k hk hh => by have hh2 := own_rng HP.out _ hh; omega)))
  replace HO := Lib.hid ((HO.out.ext zxt).but hx96 (own_apart HO.out HP.out cls_pos))
  replace HR := Lib.hid ((HR.out.ext zxt).but hx96 (fun j hlt hk => by have := own_rng HP.out j hk; omega))
  clear HP
  have HP := Lib.hid (show OwnPos _ (w1.heap.size + 1) _ _ _ from hO96)
  clear q_0 q_4 q_1 q_2 q_3 q_5 rq hsz96 X95 hx96
  clear hO96
  go_wp2_with fail
  go_roundg (gk - 1)
  case measure => have := HK.out; omega
  exact ⟨by have := HK.out; omega, num_eq (by have := HK.out; omega), _, _, _, A96, c96, Lib.hid (by first | exact RRd.butN HR.out (But.setCell (But.refl _ _) (by show g < _; omega) _) | exact RRd.butN (HR.out.ext zxt) (But.setCell (But.refl _ _) (by show g < _; omega) _)), Lib.hid (show OwnCls _ (w1.heap.size + 1) _ _ _ from (show World.ownsRow _ (w1.heap.size + 1) _ _ _ _ _ from by repeat (first | exact HO.out | with_reducible refine own_box ?_ (by omega) | with_reducible refine World.ownsRow.drew ?_ | refine own_keep ?_ (Ext.alloc (Ext.refl _) _) | refine own_keep ?_ (Ext.drewN (Ext.refl _) _)))), Lib.hid (show OwnPos _ (w1.heap.size + 1) _ _ _ from (show World.ownsRow _ (w1.heap.size + 1) _ _ _ _ _ from by repeat (first | exact HP.out | with_reducible refine own_box ?_ (by omega) | with_reducible refine World.ownsRow.drew ?_ | refine own_keep ?_ (Ext.alloc (Ext.refl _) _) | refine own_keep ?_ (Ext.drewN (Ext.refl _) _)))), by rw [show M - (gk - 1) = j + 1 from by have := HK.out; omega]; exact Lib.hid (by rw [HL96.out]; exact GN.out), by have := HK.out; have := HLN.out; omega, Lib.hid ⟨zcv, zcv, zcv, zcv⟩, Lib.hid ⟨zcv, zcv, zcv, zcv⟩, Lib.hid ⟨zcv, zcv, zcv, zcv⟩, Lib.hid zxt⟩
 clear HR HO b_0 b_0f b_1 b_1f r_0 r_0f r_1 r_1f rb rr ry y_0 y_0f y_1 y_1f X31 hlr hly hlb hnr hny hnb hgn hgs
 obtain ⟨k2, f2, ps, A2, c2, HR, HO, HP, HQ, hlc2, BR, BF, BB, XR⟩ := hcut
 obtain ⟨we, hwe⟩ : ∃ x, x = wc := ⟨_, rfl⟩
 subst hwe
 have r_0 := BR.out.c0
 have r_1 := BR.out.c1
 have r_0f := BR.out.f0
 have r_1f := BR.out.f1
 have hlr := cell_lt r_0
 have hnr : ¬ w.heap.size = we.heap.size := by omega
 have y_0 := BF.out.c0
 have y_1 := BF.out.c1
 have y_0f := BF.out.f0
 have y_1f := BF.out.f1
 have hly := cell_lt y_0
 have hny : ¬ w.heap.size + 1 = we.heap.size := by omega
 have b_0 := BB.out.c0
 have b_1 := BB.out.c1
 have b_0f := BB.out.f0
 have b_1f := BB.out.f1
 have hlb := cell_lt b_0
 have hnb : ¬ w1.heap.size = we.heap.size := by omega
 have hgs : g < we.heap.size := HR.out.lt
 have hgn : ¬ g = we.heap.size := by omega
 clear BR BF BB
 obtain ⟨⟨e, a⟩, hea⟩ : ∃ E, E = endF f2 k2 L.length := ⟨_, rfl⟩
 have HE := Lib.hid (RI.pend HC.out HQ.out HNM2.out hea HR0.out)
 have HEA := Lib.hid hea
 have HWP := Lib.hid HQ.out.2.2.2.1
 have HOb := Lib.hid (fun j hj => (own_rng HO.out j hj).2)
 have HPb := Lib.hid (fun j hj => (own_rng HP.out j hj).2)
 obtain ⟨E2, hE2⟩ : ∃ E, E = chkH cl ps := ⟨_, rfl⟩
 have HE2 := Lib.hid hE2
 clear hea hE2 HQ
 go_wp2_with fail
 (with_reducible refine (rEnd_q g k2 L f2 e a _ (HR.out.ext zxt) hL HEA.out).mono ?_)
 rintro e w201 ⟨rfl, hx201⟩
 replace r_0f := zf hx201 r_0 r_0f
 replace r_1f := zf hx201 r_1 r_1f
 replace r_0 := zh hx201 r_0
 replace r_1 := zh hx201 r_1
 replace y_0f := zf hx201 y_0 y_0f
 replace y_1f := zf hx201 y_1 y_1f
 replace y_0 := zh hx201 y_0
 replace y_1 := zh hx201 y_1
 replace b_0f := zf hx201 b_0 b_0f
 replace b_1f := zf hx201 b_1 b_1f
 replace b_0 := zh hx201 b_0
 replace b_1 := zh hx201 b_1
 have z201 := hx201.size
 try simp at z201
 have rr := zr w.heap.size w201
 have ry := zr (w.heap.size + 1) w201
 have rb := zr w1.heap.size w201
 replace HR := Lib.hid (HR.out.ext (Ext.trans zxt hx201))
 replace HO := Lib.hid (HO.out.ext (Ext.trans zxt hx201))
 replace HP := Lib.hid (HP.out.ext (Ext.trans zxt hx201))
 have X201 : Hid (Ext w w201) := Lib.hid (Ext.trans zxt hx201)
 clear XR hx201
 by_cases he : e = 0
 ·obtain ⟨ha2, _, _, hk1, hk2⟩ := HE.out.2 he
  have HK1 := Lib.hid hk1
  have HK2 := Lib.hid hk2
  clear hk1 hk2 HE
  subst he; subst ha2
  go_wp2_with fail
  (with_reducible refine ((show Calls Tryz.prog 15 #[.agg #[.slice A cl.length c, .slice A2 ps.length c2]] _ fun r w' => r = .returned (.int .i64 E2) ∧ Ext _ w' from HE2.out ▸ r13Check_any cl.length c ps.length c2 A A2 cl ps _ (OwnCls.sl (HO.out.ext zxt)) (OwnPos.sl (HP.out.ext zxt)) HWC.out HWP.out)).mono ?_)
  rintro e w202 ⟨rfl, hx202⟩
  replace r_0f := zf hx202 r_0 r_0f
  replace r_1f := zf hx202 r_1 r_1f
  replace r_0 := zh hx202 r_0
  replace r_1 := zh hx202 r_1
  replace y_0f := zf hx202 y_0 y_0f
  replace y_1f := zf hx202 y_1 y_1f
  replace y_0 := zh hx202 y_0
  replace y_1 := zh hx202 y_1
  replace b_0f := zf hx202 b_0 b_0f
  replace b_1f := zf hx202 b_1 b_1f
  replace b_0 := zh hx202 b_0
  replace b_1 := zh hx202 b_1
  have c0_0f : w202.frozen? ⟨w201.heap.size, 0, none⟩ = false := hx202.froz (v := .int .i64 0) zcv zcv
  have c0_0 : w202.cell? ⟨w201.heap.size, 0, none⟩ = some (.int .i64 0) := hx202.has zcv
  have c0_1 : w202.cell? ⟨w201.heap.size, 1, none⟩ = some (.int .i64 0) := hx202.has zcv
  have z202 := hx202.size
  try simp at z202
  have lt_r_c0 := zl w.heap.size w201.heap.size
  have lt_y_c0 := zl (w.heap.size + 1) w201.heap.size
  have lt_b_c0 := zl w1.heap.size w201.heap.size
  replace rr := zr w.heap.size w202
  replace ry := zr (w.heap.size + 1) w202
  replace rb := zr w1.heap.size w202
  have rc0 := zr w201.heap.size w202
  replace HR := Lib.hid (HR.out.ext (Ext.trans zxt hx202))
  replace HO := Lib.hid (HO.out.ext (Ext.trans zxt hx202))
  replace HP := Lib.hid (HP.out.ext (Ext.trans zxt hx202))
  have X202 : Hid (Ext w w202) := Lib.hid (Ext.trans zxt hx202)
  clear X201 hx202
  by_cases he2 : ¬ E2 = 0
  ·have e8 : (E2 != 0) = true := by simpa using he2
   have HEQ := Lib.hid (HK2.out (by rw [← HE2.out]; exact he2))
   go_upto_region 34 with (fail)
   go_cut [] (fun wc => wc.cell? ⟨w.heap.size, 0, none⟩ = some (.slice none 0 0) ∧ wc.cell? ⟨w.heap.size, 1, none⟩ = some (.slice none 0 0) ∧ wc.cell? ⟨w.heap.size + 1, 0, none⟩ = some (.int .i64 E2) ∧ wc.cell? ⟨w.heap.size + 1, 1, none⟩ = some (.int .i64 0) ∧ Ext w wc)
   case first =>
    go_wp2_with fail
    refine wp_region_held_drew (S := fun w' => w'.cell? ⟨w201.heap.size, 0, none⟩ = some (.int .i64 E2) ∧ w'.cell? ⟨w201.heap.size, 1, none⟩ = some (.int .i64 0)) (by kernel_rfl) (by first | with_reducible exact ⟨c0_0, c0_1⟩ | (simp [go_sem, World.cell?_alloc_past, c0_0, c0_1, rr, ry, rb, rc0, hlr, hly, hlb, hnr, hny, hnb, hgn]; done)) (fun hHeld => ?_)
    refine' zt 0 ?_
    refine' zt 1 ?_
    refine' zn 2 (fun K hK => ?_)
    go_simp
    refine' zk hK zSlTby6_7 (fun hHeld => ?_); clear hK K
    refine' zn 3 (fun K hK => ?_)
    go_simp
    refine' zk hK zSlTby6_7 (fun hHeld => ?_); clear hK K
    refine wpAnyH_done (by kernel_rfl) ?_ _
    go_wp2_with fail
    go_meet
    exact ⟨(by first | with_reducible exact r_0 | (simp [go_sem, World.cell?_alloc_past, r_0f, r_1f, r_0, r_1, rr, ry, rb, rc0, hlr, hly, hlb, hnr, hny, hnb, hgn]; done)), (by first | with_reducible exact r_1 | (simp [go_sem, World.cell?_alloc_past, r_0f, r_1f, r_0, r_1, rr, ry, rb, rc0, hlr, hly, hlb, hnr, hny, hnb, hgn]; done)), (by first | with_reducible exact y_0 | (simp [go_sem, World.cell?_alloc_past, y_0f, y_1f, y_0, y_1, rr, ry, rb, rc0, hlr, hly, hlb, hnr, hny, hnb, hgn]; done)), (by first | with_reducible exact y_1 | (simp [go_sem, World.cell?_alloc_past, y_0f, y_1f, y_0, y_1, rr, ry, rb, rc0, hlr, hly, hlb, hnr, hny, hnb, hgn]; done)), zxt⟩
   obtain ⟨s_0, s_1, s_2, s_3, hX9⟩ := hcut
   clear b_0 b_0f b_1 b_1f c0_0 c0_0f c0_1 lt_b_c0 lt_r_c0 lt_y_c0 r_0 r_0f r_1 r_1f rb rc0 rr ry y_0 y_0f y_1 y_1f X202
   rename_i q_
   refine q_ _ _ ?_
   refine wp_ret ?_
   refine bodyPost_ret (v := .tuple #[.agg #[.slice none 0 0, .slice none 0 0], .agg #[.int .i64 E2, .int .i64 0]]) (by simp [results, Tryz.results59, go_sem, s_0, s_1, s_2, s_3]; try rfl) rfl (RetH.nil HEQ.out.1 HEQ.out.2.1 (HEQ.out.2.2.1.trans HE2.out.symm) HEQ.out.2.2.2 hX9)
  replace he2 : E2 = 0 := by omega
  have HEQ := Lib.hid (HK1.out (by rw [← HE2.out]; exact he2))
  subst he2
  go_upto_region 35 with (fail)
  go_cut [] (fun wc => wc.cell? ⟨w.heap.size, 0, none⟩ = some (.slice A cl.length c) ∧ wc.cell? ⟨w.heap.size, 1, none⟩ = some (.slice A2 ps.length c2) ∧ wc.cell? ⟨w.heap.size + 1, 0, none⟩ = some (.int .i64 0) ∧ wc.cell? ⟨w.heap.size + 1, 1, none⟩ = some (.int .i64 0) ∧ OwnCls wc (w1.heap.size + 1) (.slice A cl.length c) cl.length cl ∧ OwnPos wc (w1.heap.size + 1) (.slice A2 ps.length c2) ps.length ps ∧ Ext w wc)
  case first =>
   go_wp2_with fail
   refine wp_region_held_drew (S := fun w' => w'.cell? ⟨w1.heap.size, 0, none⟩ = some (.slice A cl.length c) ∧ w'.cell? ⟨w1.heap.size, 1, none⟩ = some (.slice A2 ps.length c2) ∧ w'.cell? ⟨w201.heap.size, 0, none⟩ = some (.int .i64 0) ∧ w'.cell? ⟨w201.heap.size, 1, none⟩ = some (.int .i64 0)) (by kernel_rfl) (by first | with_reducible exact ⟨b_0, b_1, c0_0, c0_1⟩ | (simp [go_sem, World.cell?_alloc_past, b_0, b_1, c0_0, c0_1, rr, ry, rb, rc0, hlr, hly, hlb, hnr, hny, hnb, hgn]; done)) (fun hHeld => ?_)
   refine' zt 0 ?_
   refine' zt 1 ?_
   refine' zn 2 (fun K hK => ?_)
   go_simp
   refine' zk hK zSlTby6_6 (fun hHeld => ?_); clear hK K
   refine' zn 3 (fun K hK => ?_)
   go_simp
   refine' zk hK zSlTby6_6 (fun hHeld => ?_); clear hK K
   refine wpAnyH_done (by kernel_rfl) ?_ _
   go_wp2_with fail
   go_meet
   have HOw := (show World.ownsRow _ _ _ _ _ _ _ from HO.out)
   have HPw := (show World.ownsRow _ _ _ _ _ _ _ from HP.out)
   exact ⟨(by first | with_reducible exact r_0 | (simp [go_sem, World.cell?_alloc_past, r_0f, r_1f, r_0, r_1, rr, ry, rb, rc0, hlr, hly, hlb, hnr, hny, hnb, hgn]; done)), (by first | with_reducible exact r_1 | (simp [go_sem, World.cell?_alloc_past, r_0f, r_1f, r_0, r_1, rr, ry, rb, rc0, hlr, hly, hlb, hnr, hny, hnb, hgn]; done)), (by first | with_reducible exact y_0 | (simp [go_sem, World.cell?_alloc_past, y_0f, y_1f, y_0, y_1, rr, ry, rb, rc0, hlr, hly, hlb, hnr, hny, hnb, hgn]; done)), (by first | with_reducible exact y_1 | (simp [go_sem, World.cell?_alloc_past, y_0f, y_1f, y_0, y_1, rr, ry, rb, rc0, hlr, hly, hlb, hnr, hny, hnb, hgn]; done)), (show OwnCls _ (w1.heap.size + 1) _ _ _ from (show World.ownsRow _ (w1.heap.size + 1) _ _ _ _ _ from by repeat (first | with_reducible exact HOw | with_reducible refine own_box ?_ (by omega) | with_reducible refine World.ownsRow.drew ?_ | with_reducible refine own_keep ?_ (Ext.alloc (Ext.refl _) _) | with_reducible refine own_keep ?_ (Ext.drewN (Ext.refl _) _) | refine own_set_ne ?_ (fun j hj hh => by have h9 := HOb.out j hj; omega)))), (show OwnPos _ (w1.heap.size + 1) _ _ _ from (show World.ownsRow _ (w1.heap.size + 1) _ _ _ _ _ from by repeat (first | with_reducible exact HPw | with_reducible refine own_box ?_ (by omega) | with_reducible refine World.ownsRow.drew ?_ | with_reducible refine own_keep ?_ (Ext.alloc (Ext.refl _) _) | with_reducible refine own_keep ?_ (Ext.drewN (Ext.refl _) _) | refine own_set_ne ?_ (fun j hj hh => by have h9 := HPb.out j hj; omega)))), zxt⟩
  obtain ⟨s_0, s_1, s_2, s_3, HO9, HP9, hX9⟩ := hcut
  clear b_0 b_0f b_1 b_1f c0_0 c0_0f c0_1 lt_b_c0 lt_r_c0 lt_y_c0 r_0 r_0f r_1 r_1f rb rc0 rr ry y_0 y_0f y_1 y_1f X202
  rename_i q_
  refine q_ _ _ ?_
  refine wp_ret ?_
  refine bodyPost_ret (v := .tuple #[.agg #[.slice A cl.length c, .slice A2 ps.length c2], .agg #[.int .i64 0, .int .i64 0]]) (by simp [results, Tryz.results59, go_sem, s_0, s_1, s_2, s_3]; try rfl) rfl (RetH.mk (base := w1.heap.size + 1) HEQ.out.1 HEQ.out.2.1 HEQ.out.2.2.1 HEQ.out.2.2.2 (by omega) HO9 HP9 hX9)
 have e7 : (e == 0) = false := by simpa using he
 have e8 : (e != 0) = true := by simpa using he
 have HEQ := Lib.hid (HE.out.1 he)
 go_upto_region 34 with (fail)
 go_cut [] (fun wc => wc.cell? ⟨w.heap.size, 0, none⟩ = some (.slice none 0 0) ∧ wc.cell? ⟨w.heap.size, 1, none⟩ = some (.slice none 0 0) ∧ wc.cell? ⟨w.heap.size + 1, 0, none⟩ = some (.int .i64 e) ∧ wc.cell? ⟨w.heap.size + 1, 1, none⟩ = some (.int .i64 a) ∧ Ext w wc)
 case first =>
  go_wp2_with fail
  refine wp_region_held_drew (S := fun w' => w'.cell? ⟨w201.heap.size, 0, none⟩ = some (.int .i64 e) ∧ w'.cell? ⟨w201.heap.size, 1, none⟩ = some (.int .i64 a)) (by kernel_rfl) (by first | with_reducible exact ⟨c0_0, c0_1⟩ | (simp [go_sem, World.cell?_alloc_past, rr, ry, rb, hlr, hly, hlb, hnr, hny, hnb, hgn]; done)) (fun hHeld => ?_)
  refine' zt 0 ?_
  refine' zt 1 ?_
  refine' zn 2 (fun K hK => ?_)
  go_simp
  refine' zk hK (by (first | with_reducible exact ⟨c0_0, c0_1⟩ | (simp [go_sem, World.cell?_alloc_past, r_0f, r_1f, r_0, r_1, y_0f, y_1f, y_0, y_1, b_0f, b_1f, b_0, b_1, rr, ry, rb, hlr, hly, hlb, hnr, hny, hnb, hgn]; done) | exact ⟨c0_0, c0_1⟩)) (fun hHeld => ?_); clear hK K
  refine' zn 3 (fun K hK => ?_)
  go_simp
  refine' zk hK (by (first | with_reducible exact ⟨c0_0, c0_1⟩ | (simp [go_sem, World.cell?_alloc_past, r_0f, r_1f, r_0, r_1, y_0f, y_1f, y_0, y_1, b_0f, b_1f, b_0, b_1, rr, ry, rb, hlr, hly, hlb, hnr, hny, hnb, hgn]; done) | exact ⟨c0_0, c0_1⟩)) (fun hHeld => ?_); clear hK K
  refine wpAnyH_done (by kernel_rfl) ?_ _
  go_wp2_with fail
  go_meet
  exact ⟨(by first | with_reducible exact r_0 | (simp [go_sem, World.cell?_alloc_past, r_0f, r_1f, r_0, r_1, rr, ry, rb, hlr, hly, hlb, hnr, hny, hnb, hgn]; done)), (by first | with_reducible exact r_1 | (simp [go_sem, World.cell?_alloc_past, r_0f, r_1f, r_0, r_1, rr, ry, rb, hlr, hly, hlb, hnr, hny, hnb, hgn]; done)), (by first | with_reducible exact y_0 | (simp [go_sem, World.cell?_alloc_past, y_0f, y_1f, y_0, y_1, rr, ry, rb, hlr, hly, hlb, hnr, hny, hnb, hgn]; done)), (by first | with_reducible exact y_1 | (simp [go_sem, World.cell?_alloc_past, y_0f, y_1f, y_0, y_1, rr, ry, rb, hlr, hly, hlb, hnr, hny, hnb, hgn]; done)), zxt⟩
 obtain ⟨s_0, s_1, s_2, s_3, hX9⟩ := hcut
 clear b_0 b_0f b_1 b_1f r_0 r_0f r_1 r_1f rb rr ry y_0 y_0f y_1 y_1f X201
 rename_i q_
 refine q_ _ _ ?_
 refine wp_ret ?_
 refine bodyPost_ret (v := .tuple #[.agg #[.slice none 0 0, .slice none 0 0], .agg #[.int .i64 e, .int .i64 a]]) (by simp [results, Tryz.results59, go_sem, s_0, s_1, s_2, s_3]; try rfl) rfl (RetH.nil HEQ.out.1 HEQ.out.2.1 HEQ.out.2.2.1 HEQ.out.2.2.2 hX9)
end
end Go.Proofs.YtkinchgjidpjnaaGreat
