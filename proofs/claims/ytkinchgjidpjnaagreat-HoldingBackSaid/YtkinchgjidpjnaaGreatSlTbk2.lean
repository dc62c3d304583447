/- Tbk, part 2. Conditions stand in each lemma. -/
import Derived.Test.YtkinchgjidpjnaaGreatSlTbk1
set_option linter.unusedVariables false
set_option linter.unusedSimpArgs false
set_option maxRecDepth 100000
set_option maxHeartbeats 64000000
namespace Go.Proofs.YtkinchgjidpjnaaGreat
section
open Go.RowKit Go.ChangeShapes Go.WideShapes Go.Deep Go.Joins
theorem zSlTbk2_0 {P : Prop} (h : P := by intro hh; have hh2 := own_rng HP.out _ hh; omega) : P := h
theorem zSlTbk2_1 {P : Prop} (h : P := by intro hh; have hh2 := own_rng HO.out _ hh; omega) : P := h
theorem cU_Te (q g k k' : Nat) (L : List Nat) (flt flt' : Option (Int × Int)) (v : Int) (hL : L.length < 1099511627776) (hv : v = ruV L k flt) (hk : k' = ruK L k flt) (hf : flt' = ruF L k flt) (w : World) (h : RdT q w g L k flt) :
  Calls Tryz.prog 109 #[.pointer (some ⟨g, 0, none⟩)] w fun r w' => r = .returned (.int .u64 v) ∧ RdT q w' g L k' flt' ∧ But (· = g) w w' := by
 subst hv hk hf
 exact (cU_any g k L flt hL w h.1).mono fun r w' hh => ⟨hh.1, h.to hh.2.1 hh.2.2, hh.2.2⟩
theorem tTake_Te (q g k k' : Nat) (L : List Nat) (f f' : Flt) (a b c d : Int) (hL : L.length < 1099511627776) (ha : a = if tkZ L (k, f) = true then 0 else tkA L (k, f)) (hb : b = if tkZ L (k, f) = true then 0 else tkB L (k, f)) (hc : c = if tkZ L (k, f) = true then 0 else tkC L (k, f) - 1) (hd : d = if tkZ L (k, f) = true then 0 else tkD L (k, f)) (hk : k' = (tk4 L (k, f)).1) (hf : f' = tkF L (k, f)) (w : World) (h : RdT q w g L k f) :
  Calls Tryz.prog 108 #[.pointer (some ⟨g, 0, none⟩)] w fun r w' => r = .returned (.agg #[.int .i64 a, .int .i64 b, .int .i64 c, .int .i64 d]) ∧ RdT q w' g L k' f' ∧ But (· = g) w w' :=
 (tTake_e g k k' L f f' a b c d hL ha hb hc hd hk hf w h.1).mono fun r w' hh => ⟨hh.1, h.to hh.2.1 hh.2.2, hh.2.2⟩
theorem RdT.but {S : Nat → Prop} {w w' : World} {q g k : Nat} {L : List Nat} {flt : Flt} (h : RdT q w g L k flt) (hx : But S w w') (hS : ∀ j, j < w.heap.size → S j → (g < j ∧ ∀ cs z, w.heap[j]? ≠ some (.cells cs 95 z)) ∧ j ≠ q) : RdT q w' g L k flt :=
 ⟨h.1.butT hx (fun j hj hs => (hS j hj hs).1), h.2.1, by have := hx.size; have := h.2.2.1; omega, fun cs z => by
  rw [hx.block q h.2.2.1 (fun hs => (hS q h.2.2.1 hs).2 rfl)]
  exact h.2.2.2 cs z⟩
def RetH (R1 R2 : List I6) (e a : Int) (w : World) (r : Ending) (w' : World) : Prop := ∃ B d B2 d2, r = .returned (.tuple #[.agg #[.slice B R1.length d, .slice B2 R2.length d2], .agg #[.int .i64 e, .int .i64 a]]) ∧ (B = none → d = 0) ∧ (B2 = none → d2 = 0) ∧ OwnCls w' w.heap.size (.slice B R1.length d) R1.length R1 ∧ OwnPos w' w.heap.size (.slice B2 R2.length d2) R2.length R2 ∧ Ext w w'
theorem RetH.nil {w w' : World} {R1 R2 : List I6} {e a e' a' : Int} (h1 : R1 = []) (h2 : R2 = []) (h3 : e = e') (h4 : a = a') (hx : Ext w w') : RetH R1 R2 e a w (.returned (.tuple #[.agg #[.slice none 0 0, .slice none 0 0], .agg #[.int .i64 e', .int .i64 a']])) w' := by
 subst h1; subst h2; subst h3; subst h4
 exact ⟨none, 0, none, 0, rfl, fun _ => rfl, fun _ => rfl, OwnCls.nil _ _, OwnPos.nil _ _, hx⟩
theorem RetH.mk {w w' : World} {R1 R2 cl ps : List I6} {e a e' a' : Int} {B B2 : Option Addr} {d d2 base : Nat} (h1 : R1 = cl) (h2 : R2 = ps) (h3 : e = e') (h4 : a = a') (hb : w.heap.size ≤ base) (h5 : OwnCls w' base (.slice B cl.length d) cl.length cl) (h6 : OwnPos w' base (.slice B2 ps.length d2) ps.length ps) (hx : Ext w w') : RetH R1 R2 e a w (.returned (.tuple #[.agg #[.slice B cl.length d, .slice B2 ps.length d2], .agg #[.int .i64 e', .int .i64 a']])) w' := by
 subst h1; subst h2; subst h3; subst h4
 obtain ⟨A1, c1, e1, n1, _⟩ := own_parts2 h5
 obtain ⟨A2, c2, e2, n2, _⟩ := own_parts2 h6
 injection e1 with q1 q2 q3
 injection e2 with q4 q5 q6
 subst q1; subst q3; subst q4; subst q6
 exact ⟨_, _, _, _, rfl, n1, n2, own_lower h5 hb, own_lower h6 hb, hx⟩
theorem lstK_nil {key : I6 → List Int} {l : List I6} (h : l.length = 0) : lstK key l = none := by
 obtain rfl := List.length_eq_zero_iff.1 h
 rfl
theorem lstK_at {key : I6 → List Int} {l : List I6} {m : Nat} {y : I6} (h : l.length = m + 1) (hy : l[m]? = some y) : lstK key l = some (key y) := by
 unfold lstK
 rw [List.getLast?_eq_getElem?, h, Nat.add_sub_cancel, hy]
 rfl
theorem failF_0 (f : Flt) (p : Int) : failF f 0 p = f := by cases f <;> simp [failF]
theorem hRead_any (A0 : Option Addr) (c0 : Nat) (L : List Nat) (hB : Byt L) (hL : L.length < 1099511627776) (hnil : A0 = none → c0 = 0) (R1 R2 : List I6) (re ra : Int) (hR : (R1, R2, re, ra) = hldRV L) (w : World) (hs : Sl w 1 A0 L.length c0 (by_ L)) :
  Calls Tryz.prog 58 #[.slice A0 L.length c0] w (RetH R1 R2 re ra w) := by
 have s1 := hs.small
 obtain ⟨iCls, iCls_0, iCls_1, iCls_2, iCls_3⟩ := info_parts cls_info
 obtain ⟨iPos, iPos_0, iPos_1, iPos_2, iPos_3⟩ := info_parts pos_info
 obtain ⟨nn, hnn⟩ : ∃ v, v = rnV L 0 none 0 1024 := ⟨_, rfl⟩
 obtain ⟨hn0, hn1⟩ : 0 ≤ nn ∧ nn ≤ 1024 := by rw [hnn]; exact rnV_in L 0 none 0 1024 (by decide)
 obtain ⟨N, rfl⟩ : ∃ N : Nat, nn = (N : Int) := ⟨nn.toNat, by omega⟩
 have HR0 := Lib.hid hR
 have HNN := Lib.hid hnn
 have HBy := Lib.hid hB
 have HS := Lib.hid hs
 have HNIL := Lib.hid hnil
 have pq1 := pol_eq
 have pq2 := pol_eqg
 clear hs hR hnn hB hnil
 go_enter Tryz.func58, Tryz.ntmps58
 go_wp2_with fail
 (with_reducible refine (cNewReader_any A0 c0 L HBy.out _ (HS.out.ext zxt) hL HNIL.out).mono ?_)
 rintro e w1 ⟨g, rfl, hg, hRd, hx1⟩
 have c0_0f : w1.frozen? ⟨w.heap.size, 0, none⟩ = false := hx1.froz (v := .slice none 0 0) zcv zcv
 have c0_1f : w1.frozen? ⟨w.heap.size, 1, none⟩ = false := hx1.froz (v := .slice none 0 0) zcv zcv
 have c0_0 : w1.cell? ⟨w.heap.size, 0, none⟩ = some (.slice none 0 0) := hx1.has zcv
 have c0_1 : w1.cell? ⟨w.heap.size, 1, none⟩ = some (.slice none 0 0) := hx1.has zcv
 have c1_0f : w1.frozen? ⟨w.heap.size + 1, 0, none⟩ = false := hx1.froz (v := .int .i64 0) zcv zcv
 have c1_1f : w1.frozen? ⟨w.heap.size + 1, 1, none⟩ = false := hx1.froz (v := .int .i64 0) zcv zcv
 have c1_0 : w1.cell? ⟨w.heap.size + 1, 0, none⟩ = some (.int .i64 0) := hx1.has zcv
 have c1_1 : w1.cell? ⟨w.heap.size + 1, 1, none⟩ = some (.int .i64 0) := hx1.has zcv
 have z1 := hx1.size
 try simp at z1
 have lt_c0_c1 := zl w.heap.size (w.heap.size + 1)
 have rc0 := zr w.heap.size w1
 have rc1 := zr (w.heap.size + 1) w1
 have X1 : Hid (Ext w w1) := Lib.hid (Ext.trans zxt hx1)
 have HR := Lib.hid hRd
 clear HS hx1 hRd
 have hgw : w.heap.size + 1 < g := by (try simp at hg); omega
 have hgl := HR.out.lt
 go_wp2_with fail
 (with_reducible refine (cRN_Te (w1.heap.size) g 0 (hS0 L).1 L none (hS0 L).2.1 0 1024 (N : Int) (by decide) (by decide) (by decide) (by decide) hL HNN.out rfl rfl _ (RdT.new HR.out _ _ (by decide))).mono ?_)
 rintro e w2 ⟨rfl, hRd, hx2⟩
 have hsz2 := hx2.size
 try simp at hsz2
 replace c0_0f := zfb hx2 c0_0 c0_0f
 replace c0_1f := zfb hx2 c0_1 c0_1f
 replace c0_0 := zhb hx2 c0_0
 replace c0_1 := zhb hx2 c0_1
 replace c1_0f := zfb hx2 c1_0 c1_0f
 replace c1_1f := zfb hx2 c1_1 c1_1f
 replace c1_0 := zhb hx2 c1_0
 replace c1_1 := zhb hx2 c1_1
 have c2_0f : w2.frozen? ⟨w1.heap.size, 0, none⟩ = false := hx2.froz (by show ¬ _ = _; first | assumption | omega) (v := .slice none 0 0) zcv zcv
 have c2_1f : w2.frozen? ⟨w1.heap.size, 1, none⟩ = false := hx2.froz (by show ¬ _ = _; first | assumption | omega) (v := .slice none 0 0) zcv zcv
 have c2_0 : w2.cell? ⟨w1.heap.size, 0, none⟩ = some (.slice none 0 0) := hx2.has (by show ¬ _ = _; first | assumption | omega) zcv
 have c2_1 : w2.cell? ⟨w1.heap.size, 1, none⟩ = some (.slice none 0 0) := hx2.has (by show ¬ _ = _; first | assumption | omega) zcv
 have z2 := hx2.size
 try simp at z2
 have lt_c0_c2 := zl w.heap.size w1.heap.size
 have lt_c1_c2 := zl (w.heap.size + 1) w1.heap.size
 replace rc0 := zr w.heap.size w2
 replace rc1 := zr (w.heap.size + 1) w2
 have rc2 := zr w1.heap.size w2
 have X2 : Hid (Ext w w2) := Lib.hid (have hX := (show Ext w _ from zxt); Below.trans hX (hx2.below (Ext.size hX) (fun k hk hh => by have hh2 : k = g := hh; omega)))
 have HT := Lib.hid hRd
 clear HR hsz2 X1 hx2 hRd
 have hgl2 := HT.out.2.2.1
 go_wp2_with fail
 go_loopg [18] N (fun gh i wx => gh ≤ N ∧ i = .int .i64 ((N - gh : Nat) : Int) ∧ ∃ (k : Nat) (f : Flt) (out : List I6) (A : Option Addr) (c : Nat), Hid (RdT w1.heap.size wx g L k f) ∧ Hid (OwnCls wx (w1.heap.size + 1) (.slice A out.length c) out.length out) ∧ Hid (RIC L (N - gh) k f out) ∧ Hid (Bk wx w.heap.size (.slice none 0 0) (.slice none 0 0)) ∧ Hid (Bk wx (w.heap.size + 1) (.int .i64 0) (.int .i64 0)) ∧ Hid (Bk wx (w1.heap.size) (.slice A out.length c) (.slice none 0 0)) ∧ Hid (Ext w wx))
 case atStart => exact ⟨Nat.le_refl _, by simp, _, _, [], none, 0, Lib.hid (HT.out.ext zxt), Lib.hid (OwnCls.nil _ _), by rw [Nat.sub_self]; exact Lib.hid (RIC.start L), Lib.hid ⟨by first | exact c0_0 | (simp [go_sem, World.cell?_alloc_past, c0_0f, c0_1f, c0_0, c0_1, c1_0f, c1_1f, c1_0, c1_1, c2_0f, c2_1f, c2_0, c2_1, rc0, rc1, rc2]; done), by first | exact c0_0f | (simp [go_sem, World.cell?_alloc_past, c0_0f, c0_1f, c0_0, c0_1, c1_0f, c1_1f, c1_0, c1_1, c2_0f, c2_1f, c2_0, c2_1, rc0, rc1, rc2]; done), by first | exact c0_1 | (simp [go_sem, World.cell?_alloc_past, c0_0f, c0_1f, c0_0, c0_1, c1_0f, c1_1f, c1_0, c1_1, c2_0f, c2_1f, c2_0, c2_1, rc0, rc1, rc2]; done), by first | exact c0_1f | (simp [go_sem, World.cell?_alloc_past, c0_0f, c0_1f, c0_0, c0_1, c1_0f, c1_1f, c1_0, c1_1, c2_0f, c2_1f, c2_0, c2_1, rc0, rc1, rc2]; done)⟩, Lib.hid ⟨by first | exact c1_0 | (simp [go_sem, World.cell?_alloc_past, c0_0f, c0_1f, c0_0, c0_1, c1_0f, c1_1f, c1_0, c1_1, c2_0f, c2_1f, c2_0, c2_1, rc0, rc1, rc2]; done), by first | exact c1_0f | (simp [go_sem, World.cell?_alloc_past, c0_0f, c0_1f, c0_0, c0_1, c1_0f, c1_1f, c1_0, c1_1, c2_0f, c2_1f, c2_0, c2_1, rc0, rc1, rc2]; done), by first | exact c1_1 | (simp [go_sem, World.cell?_alloc_past, c0_0f, c0_1f, c0_0, c0_1, c1_0f, c1_1f, c1_0, c1_1, c2_0f, c2_1f, c2_0, c2_1, rc0, rc1, rc2]; done), by first | exact c1_1f | (simp [go_sem, World.cell?_alloc_past, c0_0f, c0_1f, c0_0, c0_1, c1_0f, c1_1f, c1_0, c1_1, c2_0f, c2_1f, c2_0, c2_1, rc0, rc1, rc2]; done)⟩, Lib.hid (show Bk _ _ (.slice none 0 0) (.slice none 0 0) from (Lib.hid ⟨by first | exact c2_0 | (simp [go_sem, World.cell?_alloc_past, c0_0f, c0_1f, c0_0, c0_1, c1_0f, c1_1f, c1_0, c1_1, c2_0f, c2_1f, c2_0, c2_1, rc0, rc1, rc2]; done), by first | exact c2_0f | (simp [go_sem, World.cell?_alloc_past, c0_0f, c0_1f, c0_0, c0_1, c1_0f, c1_1f, c1_0, c1_1, c2_0f, c2_1f, c2_0, c2_1, rc0, rc1, rc2]; done), by first | exact c2_1 | (simp [go_sem, World.cell?_alloc_past, c0_0f, c0_1f, c0_0, c0_1, c1_0f, c1_1f, c1_0, c1_1, c2_0f, c2_1f, c2_0, c2_1, rc0, rc1, rc2]; done), by first | exact c2_1f | (simp [go_sem, World.cell?_alloc_past, c0_0f, c0_1f, c0_0, c0_1, c1_0f, c1_1f, c1_0, c1_1, c2_0f, c2_1f, c2_0, c2_1, rc0, rc1, rc2]; done)⟩).out), Lib.hid zxt⟩
 clear HT c0_0 c0_0f c0_1 c0_1f c1_0 c1_0f c1_1 c1_1f c2_0 c2_0f c2_1 c2_1f lt_c0_c1 lt_c0_c2 lt_c1_c2 rc0 rc1 rc2 X2
 obtain ⟨hg, hi, k, f, out, A, c, HT, HO, HI, BR, BF, BB, XR⟩ := hrel
 obtain ⟨j, hj⟩ : ∃ j, j = N - gk := ⟨_, rfl⟩
 rw [← hj] at hi HI
 subst hi
 have r_0 := BR.out.c0
 have r_1 := BR.out.c1
 have r_0f := BR.out.f0
 have r_1f := BR.out.f1
 have hlr := cell_lt r_0
 have hnr : ¬ w.heap.size = wr.heap.size := by omega
 have y_0 := BF.out.c0
 have y_1 := BF.out.c1
 have y_0f := BF.out.f0
 have y_1f := BF.out.f1
 have hly := cell_lt y_0
 have hny : ¬ w.heap.size + 1 = wr.heap.size := by omega
 have b_0 := BB.out.c0
 have b_1 := BB.out.c1
 have b_0f := BB.out.f0
 have b_1f := BB.out.f1
 have hlb := cell_lt b_0
 have hnb : ¬ w1.heap.size = wr.heap.size := by omega
 have hgq := HT.out.2.1
 have hgs : g < wr.heap.size := by have := HT.out.2.2.1; omega
 have hgn : ¬ g = wr.heap.size := by omega
 clear BR BF BB
 have hln := HI.out.2.2.1
 by_cases hz : gk = 0
 ·have hkn : ¬ (j : Int) < (N : Int) := by omega
  have hjN : j = N := by omega
  have hlc : out.length < 1099511627776 := by omega
  obtain ⟨cl, hcl⟩ : ∃ l, l = out := ⟨_, rfl⟩
  subst hcl
  have HC := Lib.hid (RI.cend HI.out (by rw [hjN]; exact HNN.out))
  have HWC := Lib.hid HI.out.2.2.2.1
  obtain ⟨nm, hnm⟩ : ∃ v, v = rnV L k f 0 65536 := ⟨_, rfl⟩
  obtain ⟨hm0, hm1⟩ : 0 ≤ nm ∧ nm ≤ 65536 := by rw [hnm]; exact rnV_in L k f 0 65536 (by decide)
  obtain ⟨M, rfl⟩ : ∃ M : Nat, nm = (M : Int) := ⟨nm.toNat, by omega⟩
  have HNM := Lib.hid hnm
  have HNM2 := Lib.hid (hnm.trans HC.out.cnt)
  clear hnm hjN hj hg hz HI
  go_wp2_with fail
  (with_reducible refine (cRN_Te (w1.heap.size) g k (rnK L k f 0 65536) L f (rnF L k f 0 65536) 0 65536 (M : Int) (by decide) (by decide) (by decide) (by decide) hL HNM.out rfl rfl _ (HT.out.ext zxt)).mono ?_)
  rintro e w21 ⟨rfl, hRd, hx21⟩
  have hsz21 := hx21.size
  try simp at hsz21
  replace r_0f := zfb hx21 r_0 r_0f
  replace r_1f := zfb hx21 r_1 r_1f
  replace r_0 := zhb hx21 r_0
  replace r_1 := zhb hx21 r_1
  replace y_0f := zfb hx21 y_0 y_0f
  replace y_1f := zfb hx21 y_1 y_1f
  replace y_0 := zhb hx21 y_0
  replace y_1 := zhb hx21 y_1
  replace b_0f := zfb hx21 b_0 b_0f
  replace b_1f := zfb hx21 b_1 b_1f
  replace b_0 := zhb hx21 b_0
  replace b_1 := zhb hx21 b_1
  have z21 := hx21.size
  try simp at z21
  have rr := zr w.heap.size w21
  have ry := zr (w.heap.size + 1) w21
  have rb := zr w1.heap.size w21
  have X21 : Hid (Ext w w21) := Lib.hid (have hX := (show Ext w _ from zxt); Below.trans hX (hx21.below (Ext.size hX) (fun k hk hh => by have hh2 : k = g := hh; omega)))
  replace HO := Lib.hid ((HO.out.ext zxt).but hx21 (fun j hj hh => by have h9 := own_rng HO.out j hj; have h8 : j = g := hh; omega))
  clear HT
  have HT := Lib.hid hRd
  clear hsz21 XR hx21 hRd
  go_wp2_with fail
  go_loopg [77] M (fun gh i wx => gh ≤ M ∧ i = .int .i64 ((M - gh : Nat) : Int) ∧ ∃ (k : Nat) (f : Flt) (ps : List I6) (A2 : Option Addr) (c2 : Nat), Hid (RdT w1.heap.size wx g L k f) ∧ Hid (OwnCls wx (w1.heap.size + 1) (.slice A cl.length c) cl.length cl) ∧ Hid (OwnPos wx (w1.heap.size + 1) (.slice A2 ps.length c2) ps.length ps) ∧ Hid (RIP L (M - gh) k f ps) ∧ Hid (Bk wx w.heap.size (.slice none 0 0) (.slice none 0 0)) ∧ Hid (Bk wx (w.heap.size + 1) (.int .i64 0) (.int .i64 0)) ∧ Hid (Bk wx (w1.heap.size) (.slice A cl.length c) (.slice A2 ps.length c2)) ∧ Hid (Ext w wx))
  case atStart => exact ⟨Nat.le_refl _, by simp, _, _, [], none, 0, Lib.hid (HT.out.ext zxt), Lib.hid (HO.out.ext zxt), Lib.hid (OwnPos.nil _ _), by rw [Nat.sub_self]; exact Lib.hid HC.out.start, Lib.hid ⟨by first | exact r_0 | (simp [go_sem, World.cell?_alloc_past, r_0f, r_1f, r_0, r_1, y_0f, y_1f, y_0, y_1, b_0f, b_1f, b_0, b_1, rr, ry, rb, hlr, hly, hlb, hnr, hny, hnb, hgn]; done), by first | exact r_0f | (simp [go_sem, World.cell?_alloc_past, r_0f, r_1f, r_0, r_1, y_0f, y_1f, y_0, y_1, b_0f, b_1f, b_0, b_1, rr, ry, rb, hlr, hly, hlb, hnr, hny, hnb, hgn]; done), by first | exact r_1 | (simp [go_sem, World.cell?_alloc_past, r_0f, r_1f, r_0, r_1, y_0f, y_1f, y_0, y_1, b_0f, b_1f, b_0, b_1, rr, ry, rb, hlr, hly, hlb, hnr, hny, hnb, hgn]; done), by first | exact r_1f | (simp [go_sem, World.cell?_alloc_past, r_0f, r_1f, r_0, r_1, y_0f, y_1f, y_0, y_1, b_0f, b_1f, b_0, b_1, rr, ry, rb, hlr, hly, hlb, hnr, hny, hnb, hgn]; done)⟩, Lib.hid ⟨by first | exact y_0 | (simp [go_sem, World.cell?_alloc_past, r_0f, r_1f, r_0, r_1, y_0f, y_1f, y_0, y_1, b_0f, b_1f, b_0, b_1, rr, ry, rb, hlr, hly, hlb, hnr, hny, hnb, hgn]; done), by first | exact y_0f | (simp [go_sem, World.cell?_alloc_past, r_0f, r_1f, r_0, r_1, y_0f, y_1f, y_0, y_1, b_0f, b_1f, b_0, b_1, rr, ry, rb, hlr, hly, hlb, hnr, hny, hnb, hgn]; done), by first | exact y_1 | (simp [go_sem, World.cell?_alloc_past, r_0f, r_1f, r_0, r_1, y_0f, y_1f, y_0, y_1, b_0f, b_1f, b_0, b_1, rr, ry, rb, hlr, hly, hlb, hnr, hny, hnb, hgn]; done), by first | exact y_1f | (simp [go_sem, World.cell?_alloc_past, r_0f, r_1f, r_0, r_1, y_0f, y_1f, y_0, y_1, b_0f, b_1f, b_0, b_1, rr, ry, rb, hlr, hly, hlb, hnr, hny, hnb, hgn]; done)⟩, Lib.hid (show Bk _ _ (.slice A cl.length c) (.slice none 0 0) from (Lib.hid ⟨by first | exact b_0 | (simp [go_sem, World.cell?_alloc_past, r_0f, r_1f, r_0, r_1, y_0f, y_1f, y_0, y_1, b_0f, b_1f, b_0, b_1, rr, ry, rb, hlr, hly, hlb, hnr, hny, hnb, hgn]; done), by first | exact b_0f | (simp [go_sem, World.cell?_alloc_past, r_0f, r_1f, r_0, r_1, y_0f, y_1f, y_0, y_1, b_0f, b_1f, b_0, b_1, rr, ry, rb, hlr, hly, hlb, hnr, hny, hnb, hgn]; done), by first | exact b_1 | (simp [go_sem, World.cell?_alloc_past, r_0f, r_1f, r_0, r_1, y_0f, y_1f, y_0, y_1, b_0f, b_1f, b_0, b_1, rr, ry, rb, hlr, hly, hlb, hnr, hny, hnb, hgn]; done), by first | exact b_1f | (simp [go_sem, World.cell?_alloc_past, r_0f, r_1f, r_0, r_1, y_0f, y_1f, y_0, y_1, b_0f, b_1f, b_0, b_1, rr, ry, rb, hlr, hly, hlb, hnr, hny, hnb, hgn]; done)⟩).out), Lib.hid zxt⟩
  clear HT HO b_0 b_0f b_1 b_1f r_0 r_0f r_1 r_1f rb rr ry y_0 y_0f y_1 y_1f X21 hlr hly hlb hnr hny hnb hgn hgq hgs
  obtain ⟨hg, hi, k2, f2, ps, A2, c2, HT, HO, HP, HI, BR, BF, BB, XR⟩ := hrel
  obtain ⟨wo, hwo⟩ : ∃ x, x = wr := ⟨_, rfl⟩
  subst hwo
  obtain ⟨j2, hj2⟩ : ∃ j, j = M - gk := ⟨_, rfl⟩
  rw [← hj2] at hi HI
  subst hi
  have r_0 := BR.out.c0
  have r_1 := BR.out.c1
  have r_0f := BR.out.f0
  have r_1f := BR.out.f1
  have hlr := cell_lt r_0
  have hnr : ¬ w.heap.size = wo.heap.size := by omega
  have y_0 := BF.out.c0
  have y_1 := BF.out.c1
  have y_0f := BF.out.f0
  have y_1f := BF.out.f1
  have hly := cell_lt y_0
  have hny : ¬ w.heap.size + 1 = wo.heap.size := by omega
  have b_0 := BB.out.c0
  have b_1 := BB.out.c1
  have b_0f := BB.out.f0
  have b_1f := BB.out.f1
  have hlb := cell_lt b_0
  have hnb : ¬ w1.heap.size = wo.heap.size := by omega
  have hgq := HT.out.2.1
  have hgs : g < wo.heap.size := by have := HT.out.2.2.1; omega
  have hgn : ¬ g = wo.heap.size := by omega
  clear BR BF BB
  have hln2 := HI.out.2.2.1
  by_cases hz : gk = 0
  ·have hkn2 : ¬ (j2 : Int) < (M : Int) := by omega
   have hjM : j2 = M := by omega
   obtain ⟨⟨e, a⟩, hea⟩ : ∃ E, E = endF f2 k2 L.length := ⟨_, rfl⟩
   have HE := Lib.hid (RI.pend HC.out HI.out (by rw [hjM]; exact HNM2.out) hea HR0.out)
   have HEA := Lib.hid hea
   have HWP := Lib.hid HI.out.2.2.2.1
   obtain ⟨E2, hE2⟩ : ∃ E, E = chkH cl ps := ⟨_, rfl⟩
   have HE2 := Lib.hid hE2
   have hlp : ps.length < 1099511627776 := by omega
   clear hea hE2 hjM hj2 hg hz HI
   go_wp2_with fail
   (with_reducible refine (cEnd_q g k2 L f2 e a _ ((HT.out.ext zxt)).rd hL HEA.out).mono ?_)
   rintro e w41 ⟨rfl, hx41⟩
   replace r_0f := zf hx41 r_0 r_0f
   replace r_1f := zf hx41 r_1 r_1f
   replace r_0 := zh hx41 r_0
   replace r_1 := zh hx41 r_1
   replace y_0f := zf hx41 y_0 y_0f
   replace y_1f := zf hx41 y_1 y_1f
   replace y_0 := zh hx41 y_0
   replace y_1 := zh hx41 y_1
   replace b_0f := zf hx41 b_0 b_0f
   replace b_1f := zf hx41 b_1 b_1f
   replace b_0 := zh hx41 b_0
   replace b_1 := zh hx41 b_1
   have z41 := hx41.size
   try simp at z41
   have rr := zr w.heap.size w41
   have ry := zr (w.heap.size + 1) w41
   have rb := zr w1.heap.size w41
   replace HT := Lib.hid (HT.out.ext (Ext.trans zxt hx41))
   replace HO := Lib.hid (HO.out.ext (Ext.trans zxt hx41))
   replace HP := Lib.hid (HP.out.ext (Ext.trans zxt hx41))
   have X41 : Hid (Ext w w41) := Lib.hid (Ext.trans zxt hx41)
   clear XR hx41
   by_cases he : ¬ e = 0
   ·have e7 : (e != 0) = true := by simpa using he
    have HEQ := Lib.hid (HE.out.1 he)
    go_upto_region 26 with (fail)
    go_cut [] (fun wc => wc.cell? ⟨w.heap.size, 0, none⟩ = some (.slice none 0 0) ∧ wc.cell? ⟨w.heap.size, 1, none⟩ = some (.slice none 0 0) ∧ wc.cell? ⟨w.heap.size + 1, 0, none⟩ = some (.int .i64 e) ∧ wc.cell? ⟨w.heap.size + 1, 1, none⟩ = some (.int .i64 a) ∧ Ext w wc)
    case first =>
     go_wp2_with fail
     refine wp_region_held_drew (S := fun w' => w'.cell? ⟨w41.heap.size, 0, none⟩ = some (.int .i64 e) ∧ w'.cell? ⟨w41.heap.size, 1, none⟩ = some (.int .i64 a)) (by kernel_rfl) (by first | with_reducible exact ⟨c0_0, c0_1⟩ | (simp [go_sem, World.cell?_alloc_past, rr, ry, rb, hlr, hly, hlb, hnr, hny, hnb, hgn]; done)) (fun hHeld => ?_)
     refine' zt 0 ?_
     refine' zt 1 ?_
     refine' zn 2 (fun K hK => ?_)
     go_simp
     refine' zk hK (by (first | with_reducible exact ⟨c0_0, c0_1⟩ | (simp [go_sem, World.cell?_alloc_past, r_0f, r_1f, r_0, r_1, y_0f, y_1f, y_0, y_1, b_0f, b_1f, b_0, b_1, rr, ry, rb, hlr, hly, hlb, hnr, hny, hnb, hgn]; done) | exact ⟨c0_0, c0_1⟩)) (fun hHeld => ?_); clear hK K
     refine' zn 3 (fun K hK => ?_)
     go_simp
     refine' zk hK (by (first | with_reducible exact ⟨c0_0, c0_1⟩ | (simp [go_sem, World.cell?_alloc_past, r_0f, r_1f, r_0, r_1, y_0f, y_1f, y_0, y_1, b_0f, b_1f, b_0, b_1, rr, ry, rb, hlr, hly, hlb, hnr, hny, hnb, hgn]; done) | exact ⟨c0_0, c0_1⟩)) (fun hHeld => ?_); clear hK K
     refine wpAnyH_done (by kernel_rfl) ?_ _
     go_wp2_with fail
     go_meet
     exact ⟨(by first | with_reducible exact r_0 | (simp [go_sem, World.cell?_alloc_past, r_0f, r_1f, r_0, r_1, rr, ry, rb, hlr, hly, hlb, hnr, hny, hnb, hgn]; done)), (by first | with_reducible exact r_1 | (simp [go_sem, World.cell?_alloc_past, r_0f, r_1f, r_0, r_1, rr, ry, rb, hlr, hly, hlb, hnr, hny, hnb, hgn]; done)), (by first | with_reducible exact y_0 | (simp [go_sem, World.cell?_alloc_past, y_0f, y_1f, y_0, y_1, rr, ry, rb, hlr, hly, hlb, hnr, hny, hnb, hgn]; done)), (by first | with_reducible exact y_1 | (simp [go_sem, World.cell?_alloc_past, y_0f, y_1f, y_0, y_1, rr, ry, rb, hlr, hly, hlb, hnr, hny, hnb, hgn]; done)), zxt⟩
    obtain ⟨s_0, s_1, s_2, s_3, hX9⟩ := hcut
    clear b_0 b_0f b_1 b_1f r_0 r_0f r_1 r_1f rb rr ry y_0 y_0f y_1 y_1f X41
    rename_i q_
    refine q_ _ _ ?_
    refine wp_ret ?_
    refine bodyPost_ret (v := .tuple #[.agg #[.slice none 0 0, .slice none 0 0], .agg #[.int .i64 e, .int .i64 a]]) (by simp [results, Tryz.results58, go_sem, s_0, s_1, s_2, s_3]; try rfl) rfl (RetH.nil HEQ.out.1 HEQ.out.2.1 HEQ.out.2.2.1 HEQ.out.2.2.2 hX9)
   have e7 : (e != 0) = false := by simpa using he
   replace he : e = 0 := by omega
   obtain ⟨ha2, _, _, hk1, hk2⟩ := HE.out.2 he
   have HK1 := Lib.hid hk1
   have HK2 := Lib.hid hk2
   clear hk1 hk2 HE
   subst he; subst ha2
   clear e7
   go_wp2_with fail
   (with_reducible refine ((show Calls Tryz.prog 62 #[.pointer (some ⟨w1.heap.size, 0, none⟩)] _ fun r w' => r = .returned (.int .i64 E2) ∧ Ext _ w' from HE2.out ▸ hbcheck_any (w1.heap.size) cl.length c ps.length c2 A A2 cl ps _ (OwnCls.sl (HO.out.ext zxt)) (OwnPos.sl (HP.out.ext zxt)) hlc hlp HWC.out HWP.out zcv zcv)).mono ?_)
   rintro e w42 ⟨rfl, hx42⟩
   replace r_0f := zf hx42 r_0 r_0f
   replace r_1f := zf hx42 r_1 r_1f
   replace r_0 := zh hx42 r_0
   replace r_1 := zh hx42 r_1
   replace y_0f := zf hx42 y_0 y_0f
   replace y_1f := zf hx42 y_1 y_1f
   replace y_0 := zh hx42 y_0
   replace y_1 := zh hx42 y_1
   replace b_0f := zf hx42 b_0 b_0f
   replace b_1f := zf hx42 b_1 b_1f
   replace b_0 := zh hx42 b_0
   replace b_1 := zh hx42 b_1
   have c0_0 : w42.cell? ⟨w41.heap.size, 0, none⟩ = some (.int .i64 0) := hx42.has zcv
   have c0_1 : w42.cell? ⟨w41.heap.size, 1, none⟩ = some (.int .i64 0) := hx42.has zcv
   have z42 := hx42.size
   try simp at z42
   have lt_r_c0 := zl w.heap.size w41.heap.size
   have lt_y_c0 := zl (w.heap.size + 1) w41.heap.size
   have lt_b_c0 := zl w1.heap.size w41.heap.size
   replace rr := zr w.heap.size w42
   replace ry := zr (w.heap.size + 1) w42
   replace rb := zr w1.heap.size w42
   have rc0 := zr w41.heap.size w42
   replace HT := Lib.hid (HT.out.ext (Ext.trans zxt hx42))
   replace HO := Lib.hid (HO.out.ext (Ext.trans zxt hx42))
   replace HP := Lib.hid (HP.out.ext (Ext.trans zxt hx42))
   have X42 : Hid (Ext w w42) := Lib.hid (Ext.trans zxt hx42)
   clear X41 hx42
   by_cases he2 : ¬ E2 = 0
   ·have e8 : (E2 != 0) = true := by simpa using he2
    have HEQ := Lib.hid (HK2.out (by rw [← HE2.out]; exact he2))
    go_upto_region 29 with (fail)
    go_cut [] (fun wc => wc.cell? ⟨w.heap.size, 0, none⟩ = some (.slice none 0 0) ∧ wc.cell? ⟨w.heap.size, 1, none⟩ = some (.slice none 0 0) ∧ wc.cell? ⟨w.heap.size + 1, 0, none⟩ = some (.int .i64 E2) ∧ wc.cell? ⟨w.heap.size + 1, 1, none⟩ = some (.int .i64 0) ∧ Ext w wc)
    case first =>
     go_wp2_with fail
     go_meet
     exact ⟨(by first | with_reducible exact r_0 | (simp [go_sem, World.cell?_alloc_past, r_0f, r_1f, r_0, r_1, rr, ry, rb, rc0, hlr, hly, hlb, hnr, hny, hnb, hgn]; done)), (by first | with_reducible exact r_1 | (simp [go_sem, World.cell?_alloc_past, r_0f, r_1f, r_0, r_1, rr, ry, rb, rc0, hlr, hly, hlb, hnr, hny, hnb, hgn]; done)), (by first | with_reducible exact y_0 | (simp [go_sem, World.cell?_alloc_past, y_0f, y_1f, y_0, y_1, rr, ry, rb, rc0, hlr, hly, hlb, hnr, hny, hnb, hgn]; done)), (by first | with_reducible exact y_1 | (simp [go_sem, World.cell?_alloc_past, y_0f, y_1f, y_0, y_1, rr, ry, rb, rc0, hlr, hly, hlb, hnr, hny, hnb, hgn]; done)), zxt⟩
    obtain ⟨s_0, s_1, s_2, s_3, hX9⟩ := hcut
    clear b_0 b_0f b_1 b_1f c0_0 c0_1 lt_b_c0 lt_r_c0 lt_y_c0 r_0 r_0f r_1 r_1f rb rc0 rr ry y_0 y_0f y_1 y_1f X42
    rename_i q_
    refine q_ _ _ ?_
    refine wp_ret ?_
    refine bodyPost_ret (v := .tuple #[.agg #[.slice none 0 0, .slice none 0 0], .agg #[.int .i64 E2, .int .i64 0]]) (by simp [results, Tryz.results58, go_sem, s_0, s_1, s_2, s_3]; try rfl) rfl (RetH.nil HEQ.out.1 HEQ.out.2.1 (HEQ.out.2.2.1.trans HE2.out.symm) HEQ.out.2.2.2 hX9)
   have e8 : (E2 != 0) = false := by simpa using he2
   replace he2 : E2 = 0 := by omega
   have HEQ := Lib.hid (HK1.out (by rw [← HE2.out]; exact he2))
   clear he2
   go_upto_region 30 with (fail)
   go_cut [] (fun wc => wc.cell? ⟨w.heap.size, 0, none⟩ = some (.slice A cl.length c) ∧ wc.cell? ⟨w.heap.size, 1, none⟩ = some (.slice A2 ps.length c2) ∧ wc.cell? ⟨w.heap.size + 1, 0, none⟩ = some (.int .i64 0) ∧ wc.cell? ⟨w.heap.size + 1, 1, none⟩ = some (.int .i64 0) ∧ OwnCls wc (w1.heap.size + 1) (.slice A cl.length c) cl.length cl ∧ OwnPos wc (w1.heap.size + 1) (.slice A2 ps.length c2) ps.length ps ∧ Ext w wc)
   case first =>
    go_wp2_with fail
    go_meet
    exact ⟨(by first | with_reducible exact r_0 | (simp [go_sem, World.cell?_alloc_past, r_0f, r_1f, r_0, r_1, rr, ry, rb, rc0, hlr, hly, hlb, hnr, hny, hnb, hgn]; done)), (by first | with_reducible exact r_1 | (simp [go_sem, World.cell?_alloc_past, r_0f, r_1f, r_0, r_1, rr, ry, rb, rc0, hlr, hly, hlb, hnr, hny, hnb, hgn]; done)), (by first | with_reducible exact y_0 | (simp [go_sem, World.cell?_alloc_past, y_0f, y_1f, y_0, y_1, rr, ry, rb, rc0, hlr, hly, hlb, hnr, hny, hnb, hgn]; done)), (by first | with_reducible exact y_1 | (simp [go_sem, World.cell?_alloc_past, y_0f, y_1f, y_0, y_1, rr, ry, rb, rc0, hlr, hly, hlb, hnr, hny, hnb, hgn]; done)), (show OwnCls _ (w1.heap.size + 1) _ _ _ from (show World.ownsRow _ (w1.heap.size + 1) _ _ _ _ _ from by repeat (first | exact HO.out | with_reducible refine own_box ?_ (by omega) | with_reducible refine World.ownsRow.drew ?_ | refine own_keep ?_ (Ext.alloc (Ext.refl _) _) | refine own_keep ?_ (Ext.drewN (Ext.refl _) _)))), (show OwnPos _ (w1.heap.size + 1) _ _ _ from (show World.ownsRow _ (w1.heap.size + 1) _ _ _ _ _ from by repeat (first | exact HP.out | with_reducible refine own_box ?_ (by omega) | with_reducible refine World.ownsRow.drew ?_ | refine own_keep ?_ (Ext.alloc (Ext.refl _) _) | refine own_keep ?_ (Ext.drewN (Ext.refl _) _)))), zxt⟩
   obtain ⟨s_0, s_1, s_2, s_3, HO9, HP9, hX9⟩ := hcut
   clear b_0 b_0f b_1 b_1f c0_0 c0_1 lt_b_c0 lt_r_c0 lt_y_c0 r_0 r_0f r_1 r_1f rb rc0 rr ry y_0 y_0f y_1 y_1f X42
   rename_i q_
   refine q_ _ _ ?_
   refine wp_ret ?_
   refine bodyPost_ret (v := .tuple #[.agg #[.slice A cl.length c, .slice A2 ps.length c2], .agg #[.int .i64 0, .int .i64 0]]) (by simp [results, Tryz.results58, go_sem, s_0, s_1, s_2, s_3]; try rfl) rfl (RetH.mk (base := w1.heap.size + 1) HEQ.out.1 HEQ.out.2.1 HEQ.out.2.2.1 HEQ.out.2.2.2 (by omega) HO9 HP9 hX9)
  have hkn : (j2 : Int) < (M : Int) := by omega
  obtain ⟨xo, hxo⟩ : ∃ v, v = rnV L k2 f2 0 63 := ⟨_, rfl⟩
  obtain ⟨k01, hk01⟩ : ∃ v, v = rnK L k2 f2 0 63 := ⟨_, rfl⟩
  obtain ⟨f01, hf01⟩ : ∃ v, v = rnF L k2 f2 0 63 := ⟨_, rfl⟩
  obtain ⟨xv, hxv⟩ : ∃ v, v = if tkZ L (k01, f01) = true then 0 else tkA L (k01, f01) := ⟨_, rfl⟩
  obtain ⟨xs, hxs⟩ : ∃ v, v = if tkZ L (k01, f01) = true then 0 else tkB L (k01, f01) := ⟨_, rfl⟩
  obtain ⟨xp, hxp⟩ : ∃ v, v = if tkZ L (k01, f01) = true then 0 else tkC L (k01, f01) - 1 := ⟨_, rfl⟩
  obtain ⟨xf, hxf⟩ : ∃ v, v = if tkZ L (k01, f01) = true then 0 else tkD L (k01, f01) := ⟨_, rfl⟩
  obtain ⟨k02, hk02⟩ : ∃ v, v = (tk4 L (k01, f01)).1 := ⟨_, rfl⟩
  obtain ⟨f02, hf02⟩ : ∃ v, v = tkF L (k01, f01) := ⟨_, rfl⟩
  obtain ⟨xh, hxh⟩ : ∃ v, v = ruV L k02 f02 := ⟨_, rfl⟩
  obtain ⟨k05, hk05⟩ : ∃ v, v = ruK L k02 f02 := ⟨_, rfl⟩
  obtain ⟨f05, hf05⟩ : ∃ v, v = ruF L k02 f02 := ⟨_, rfl⟩
  have hstep := hRdP_eq hxo hk01 hf01 hxv hxs hxp hxf hk02 hf02 hxh hk05 hf05
  obtain ⟨PB, hPB⟩ : ∃ B, B = prevGe (lstK kP ps) (kP (xo, xv, xs, xp, xf, xh)) := ⟨_, rfl⟩
  obtain ⟨F1, hF1⟩ : ∃ v, v = failF f05 (if PB = true then 9 else 0) (atF f2 k2) := ⟨_, rfl⟩
  have GN := Lib.hid (show RIP L (j2 + 1) k05 F1 (ps ++ [(xo, xv, xs, xp, xf, xh)]) from by
   have h := RI.step (hRdP_rdr L) HI.out hstep (ev := posRd (lstK kP ps) (xo, xv, xs, xp, xf, xh)) rfl
   unfold posRd at h
   rw [← hPB, ← hF1] at h
   exact h)
  have G1 := Lib.hid hF1
  have GP := Lib.hid hPB
  have HK := Lib.hid (And.intro hj2 (And.intro hg hz))
  have hll : ps.length ≤ 65536 := by omega
  have hlw : ps.length ≤ 9223372036854775806 := by omega
  have Gxo := Lib.hid hxo
  have Gk01 := Lib.hid hk01
  have Gf01 := Lib.hid hf01
  have Gxv := Lib.hid hxv
  have Gxs := Lib.hid hxs
  have Gxp := Lib.hid hxp
  have Gxf := Lib.hid hxf
  have Gk02 := Lib.hid hk02
  have Gf02 := Lib.hid hf02
  have Gxh := Lib.hid hxh
  have Gk05 := Lib.hid hk05
  have Gf05 := Lib.hid hf05
  clear hj2 hg hz hstep hF1 hPB hln2 HI hxo hk01 hf01 hxv hxs hxp hxf hk02 hf02 hxh hk05 hf05
  go_wp2_with fail
  (with_reducible refine (cAt_any g k2 L f2 _ ((HT.out.ext zxt)).rd).mono ?_)
  rintro e w_1 ⟨rfl, rfl⟩
  go_wp2_with fail
  (with_reducible refine (cRN_Te (w1.heap.size) g k2 k01 L f2 f01 0 63 xo (by decide) (by decide) (by decide) (by decide) hL Gxo.out Gk01.out Gf01.out _ (HT.out.ext zxt)).mono ?_)
  rintro e w81 ⟨rfl, hRd, hx81⟩
  have hsz81 := hx81.size
  try simp at hsz81
  replace r_0f := zfb hx81 r_0 r_0f
  replace r_1f := zfb hx81 r_1 r_1f
  replace r_0 := zhb hx81 r_0
  replace r_1 := zhb hx81 r_1
  replace y_0f := zfb hx81 y_0 y_0f
  replace y_1f := zfb hx81 y_1 y_1f
  replace y_0 := zhb hx81 y_0
  replace y_1 := zhb hx81 y_1
  replace b_0f := zfb hx81 b_0 b_0f
  replace b_1f := zfb hx81 b_1 b_1f
  replace b_0 := zhb hx81 b_0
  replace b_1 := zhb hx81 b_1
  have z81 := hx81.size
  try simp at z81
  have rr := zr w.heap.size w81
  have ry := zr (w.heap.size + 1) w81
  have rb := zr w1.heap.size w81
  have X81 : Hid (Ext w w81) := Lib.hid (have hX := (show Ext w _ from zxt); Below.trans hX (hx81.below (Ext.size hX) (fun k hk hh => by have hh2 : k = g := hh; omega)))
  replace HO := Lib.hid ((HO.out.ext zxt).but hx81 (fun j hj hh => by have h9 := own_rng HO.out j hj; have h8 : j = g := hh; omega))
  replace HP := Lib.hid ((HP.out.ext zxt).but hx81 (fun j hj hh => by have h9 := own_rng HP.out j hj; have h8 : j = g := hh; omega))
  clear HT
  have HT := Lib.hid hRd
  clear hsz81 XR hx81 hRd
  go_wp2_with fail
  (with_reducible refine (tTake_Te (w1.heap.size) g k01 k02 L f01 f02 xv xs xp xf hL Gxv.out Gxs.out Gxp.out Gxf.out Gk02.out Gf02.out _ (HT.out.ext zxt)).mono ?_)
  rintro e w82 ⟨rfl, hRd, hx82⟩
  have hsz82 := hx82.size
  try simp at hsz82
  replace r_0f := zfb hx82 r_0 r_0f
  replace r_1f := zfb hx82 r_1 r_1f
  replace r_0 := zhb hx82 r_0
  replace r_1 := zhb hx82 r_1
  replace y_0f := zfb hx82 y_0 y_0f
  replace y_1f := zfb hx82 y_1 y_1f
  replace y_0 := zhb hx82 y_0
  replace y_1 := zhb hx82 y_1
  replace b_0f := zfb hx82 b_0 b_0f
  replace b_1f := zfb hx82 b_1 b_1f
  replace b_0 := zhb hx82 b_0
  replace b_1 := zhb hx82 b_1
  have z82 := hx82.size
  try simp at z82
  replace rr := zr w.heap.size w82
  replace ry := zr (w.heap.size + 1) w82
  replace rb := zr w1.heap.size w82
  have X82 : Hid (Ext w w82) := Lib.hid (have hX := (show Ext w _ from zxt); Below.trans hX (hx82.below (Ext.size hX) (fun k hk hh => by have hh2 : k = g := hh; omega)))
  replace HO := Lib.hid ((HO.out.ext zxt).but hx82 (fun j hj hh => by have h9 := own_rng HO.out j hj; have h8 : j = g := hh; omega))
  replace HP := Lib.hid ((HP.out.ext zxt).but hx82 (fun j hj hh => by have h9 := own_rng HP.out j hj; have h8 : j = g := hh; omega))
  clear HT
  have HT := Lib.hid hRd
  clear hsz82 X81 hx82 hRd
  go_wp2_with fail
  (with_reducible refine (cU_Te (w1.heap.size) g k02 k05 L f02 f05 xh hL Gxh.out Gk05.out Gf05.out _ (HT.out.ext zxt)).mono ?_)
  rintro e w83 ⟨rfl, hRd, hx83⟩
  have hsz83 := hx83.size
  try simp at hsz83
  replace r_0f := zfb hx83 r_0 r_0f
  replace r_1f := zfb hx83 r_1 r_1f
  replace r_0 := zhb hx83 r_0
  replace r_1 := zhb hx83 r_1
  replace y_0f := zfb hx83 y_0 y_0f
  replace y_1f := zfb hx83 y_1 y_1f
  replace y_0 := zhb hx83 y_0
  replace y_1 := zhb hx83 y_1
  replace b_0f := zfb hx83 b_0 b_0f
  replace b_1f := zfb hx83 b_1 b_1f
  replace b_0 := zhb hx83 b_0
  replace b_1 := zhb hx83 b_1
  have z83 := hx83.size
  try simp at z83
  replace rr := zr w.heap.size w83
  replace ry := zr (w.heap.size + 1) w83
  replace rb := zr w1.heap.size w83
  have X83 : Hid (Ext w w83) := Lib.hid (have hX := (show Ext w _ from zxt); Below.trans hX (hx83.below (Ext.size hX) (fun k hk hh => by have hh2 : k = g := hh; omega)))
  replace HO := Lib.hid ((HO.out.ext zxt).but hx83 (fun j hj hh => by have h9 := own_rng HO.out j hj; have h8 : j = g := hh; omega))
  replace HP := Lib.hid ((HP.out.ext zxt).but hx83 (fun j hj hh => by have h9 := own_rng HP.out j hj; have h8 : j = g := hh; omega))
  clear HT
  have HT := Lib.hid hRd
  clear hsz83 X82 hx83 hRd
  go_upto_region 20 with (fail)
  go_cut [105] (fun q wc => q = .bool PB ∧ wc.cell? ⟨w83.heap.size, 0, none⟩ = some (.int .i64 xo) ∧ wc.cell? ⟨w83.heap.size, 1, none⟩ = some (.int .i64 xv) ∧ wc.cell? ⟨w83.heap.size, 2, none⟩ = some (.int .i64 xs) ∧ wc.cell? ⟨w83.heap.size, 3, none⟩ = some (.int .i64 xp) ∧ wc.cell? ⟨w83.heap.size, 4, none⟩ = some (.int .i64 xf) ∧ wc.cell? ⟨w83.heap.size, 5, none⟩ = some (.int .u64 xh) ∧ Ext w83 wc)
  case first =>
   by_cases hq0 : ¬ ps.length = 0
   ·obtain ⟨m, hm⟩ : ∃ m, ps.length = m + 1 := ⟨ps.length - 1, by omega⟩
    have hz0 : (0 : Int) < (ps.length : Int) := by omega
    have hzd : decide ((0 : Int) < (ps.length : Int)) = true := decide_eq_true hz0
    have hz1 : 0 < ps.length := by omega
    have hze : decide (0 < ps.length) = true := decide_eq_true hz1
    have hsl := OwnPos.sl HP.out
    obtain ⟨b1, o1, rfl, hb1, hc1⟩ := hsl.rec_ posC_len (show 0 < ps.length from by omega)
    obtain ⟨yw, hl_y⟩ : ∃ x, ps[m]? = some x := ⟨_, List.getElem?_eq_getElem (by omega)⟩
    have hb1g := own_rng HP.out b1 rfl
    have v_0 := hc1 m yw hl_y 0 _ rfl
    have v_1 := hc1 m yw hl_y 1 _ rfl
    have v_2 := hc1 m yw hl_y 2 _ rfl
    have v_3 := hc1 m yw hl_y 3 _ rfl
    have v_4 := hc1 m yw hl_y 4 _ rfl
    have v_5 := hc1 m yw hl_y 5 _ rfl
    obtain ⟨yo, yv, ys, yp, yf, yh⟩ := yw
    simp only at v_0 v_1 v_2 v_3 v_4 v_5
    rw [Nat.add_zero] at v_0
    rw [← Nat.add_assoc] at v_1 v_2 v_3 v_4 v_5
    obtain ⟨G, hG⟩ : ∃ G, G = cmpK (kP (yo, yv, ys, yp, yf, yh)) (kP (xo, xv, xs, xp, xf, xh)) := ⟨_, rfl⟩
    have HG := Lib.hid (show G = cmpK [yo, yv, ys, yp, yf] [xo, xv, xs, xp, xf] from hG)
    have HPB := Lib.hid (show decide (0 ≤ G) = PB from by rw [GP.out, lstK_at hm hl_y, hG]; rfl)
    have hm1 : (ps.length : Int) - 1 = (m : Int) := by omega
    have hmw : IntKind.i64.wrap ((ps.length : Int) - 1) = (m : Int) := by rw [hm1]; exact IntWalk.i64_in _ (by omega)
    have hml : (m : Int) < (ps.length : Int) := by omega
    have hms : m ≤ 9223372036854775806 := by omega
    have hml2 : m < ps.length := by omega
    have hb1q : ¬ b1 = w1.heap.size := by omega
    clear hl_y hc1 hsl hG hm1 hm
    go_wp2_with fail
    refine wp_region_held_drew (S := fun w' => w'.cell? ⟨w1.heap.size, 1, none⟩ = some (.slice (some ⟨b1, o1, none⟩) ps.length c2) ∧ w'.cell? ⟨w83.heap.size, 0, none⟩ = some (.int .i64 xo) ∧ w'.cell? ⟨w83.heap.size, 1, none⟩ = some (.int .i64 xv) ∧ w'.cell? ⟨w83.heap.size, 2, none⟩ = some (.int .i64 xs) ∧ w'.cell? ⟨w83.heap.size, 3, none⟩ = some (.int .i64 xp) ∧ w'.cell? ⟨w83.heap.size, 4, none⟩ = some (.int .i64 xf) ∧ w'.cell? ⟨w83.heap.size, 5, none⟩ = some (.int .u64 xh) ∧ w'.cell? ⟨b1, o1 + m * 6, none⟩ = some (.int .i64 yo) ∧ w'.cell? ⟨b1, o1 + m * 6 + 1, none⟩ = some (.int .i64 yv) ∧ w'.cell? ⟨b1, o1 + m * 6 + 2, none⟩ = some (.int .i64 ys) ∧ w'.cell? ⟨b1, o1 + m * 6 + 3, none⟩ = some (.int .i64 yp) ∧ w'.cell? ⟨b1, o1 + m * 6 + 4, none⟩ = some (.int .i64 yf) ∧ w'.cell? ⟨b1, o1 + m * 6 + 5, none⟩ = some (.int .u64 yh)) (by kernel_rfl) (by first | with_reducible exact ⟨b_1, c0_0, c0_1, c0_2, c0_3, c0_4, c0_5, v_0, v_1, v_2, v_3, v_4, v_5⟩ | (simp [go_sem, World.cell?_alloc_past, b_1, rr, ry, rb, v_0, v_1, v_2, v_3, v_4, v_5, hlr, hly, hlb, hnr, hny, hnb, hgn, hb1q, hb1]; done)) (fun hHeld => ?_)
    refine' zt 0 ?_
    refine' zt 1 ?_
    refine' zt 2 ?_
    refine' zt 3 ?_
    refine' zt 4 ?_
    refine' zt 5 ?_
    refine' zt 6 ?_
    refine' zt 7 ?_
    refine' zt 8 ?_
    refine' zt 9 ?_
    refine' zt 10 ?_
    refine' zn 11 (fun K hK => ?_)
    go_simp
    (with_reducible refine (horder_at yo yv ys yp yf yh xo xv xs xp xf xh G _ HG.out).mono ?_)
    rintro e w84 ⟨rfl, hx84⟩
    replace r_0f := zf hx84 r_0 r_0f
    replace r_1f := zf hx84 r_1 r_1f
    replace r_0 := zh hx84 r_0
    replace r_1 := zh hx84 r_1
    replace y_0f := zf hx84 y_0 y_0f
    replace y_1f := zf hx84 y_1 y_1f
    replace y_0 := zh hx84 y_0
    replace y_1 := zh hx84 y_1
    replace b_0f := zf hx84 b_0 b_0f
    replace b_1f := zf hx84 b_1 b_1f
    replace b_0 := zh hx84 b_0
    replace b_1 := zh hx84 b_1
    have c0_0 : w84.cell? ⟨w83.heap.size, 0, none⟩ = some (.int .i64 xo) := hx84.has zcv
    have c0_1 : w84.cell? ⟨w83.heap.size, 1, none⟩ = some (.int .i64 xv) := hx84.has zcv
    have c0_2 : w84.cell? ⟨w83.heap.size, 2, none⟩ = some (.int .i64 xs) := hx84.has zcv
    have c0_3 : w84.cell? ⟨w83.heap.size, 3, none⟩ = some (.int .i64 xp) := hx84.has zcv
    have c0_4 : w84.cell? ⟨w83.heap.size, 4, none⟩ = some (.int .i64 xf) := hx84.has zcv
    have c0_5 : w84.cell? ⟨w83.heap.size, 5, none⟩ = some (.int .u64 xh) := hx84.has zcv
    replace v_0 := zh hx84 v_0
    replace v_1 := zh hx84 v_1
    replace v_2 := zh hx84 v_2
    replace v_3 := zh hx84 v_3
    replace v_4 := zh hx84 v_4
    replace v_5 := zh hx84 v_5
    have z84 := hx84.size
    try simp at z84
    have lt_r_c0 := zl w.heap.size w83.heap.size
    have ne_r_v : ¬ w.heap.size = b1 := by omega
    have lt_y_c0 := zl (w.heap.size + 1) w83.heap.size
    have ne_y_v : ¬ w.heap.size + 1 = b1 := by omega
    have lt_b_c0 := zl w1.heap.size w83.heap.size
    have ne_b_v : ¬ w1.heap.size = b1 := by omega
    have ne_c0_v : ¬ w83.heap.size = b1 := by omega
    have ne_v_r : ¬ b1 = w.heap.size := by omega
    have ne_v_y : ¬ b1 = w.heap.size + 1 := by omega
    have ne_v_b : ¬ b1 = w1.heap.size := by omega
    have ne_v_c0 : ¬ b1 = w83.heap.size := by omega
    replace rr := zr w.heap.size w84
    replace ry := zr (w.heap.size + 1) w84
    replace rb := zr w1.heap.size w84
    have rc0 := zr w83.heap.size w84
    have rv := zr b1 w84
    replace HO := Lib.hid (HO.out.ext (Ext.trans zxt hx84))
    replace HP := Lib.hid (HP.out.ext (Ext.trans zxt hx84))
    replace HT := Lib.hid (HT.out.ext (Ext.trans zxt hx84))
    have X84 : Hid (Ext w w84) := Lib.hid (Ext.trans zxt hx84)
    have HXC := Lib.hid (show Ext w83 _ from Ext.trans zxt hx84)
    clear X83 hx84
    refine' zk hK (by (first | with_reducible exact ⟨b_1, c0_0, c0_1, c0_2, c0_3, c0_4, c0_5, v_0, v_1, v_2, v_3, v_4, v_5⟩ | (simp [go_sem, World.cell?_alloc_past, r_0f, r_1f, r_0, r_1, y_0f, y_1f, y_0, y_1, b_0f, b_1f, b_0, b_1, c0_0, c0_1, c0_2, c0_3, c0_4, c0_5, v_0, v_1, v_2, v_3, v_4, v_5, ne_r_v, ne_y_v, ne_b_v, ne_c0_v, ne_v_r, ne_v_y, ne_v_b, ne_v_c0, rr, ry, rb, rc0, rv, hlr, hly, hlb, hnr, hny, hnb, hgn, hb1q, hb1]; done) | exact ⟨b_1, c0_0, c0_1, c0_2, c0_3, c0_4, c0_5, v_0, v_1, v_2, v_3, v_4, v_5⟩)) (fun hHeld => ?_); clear hK K
    refine' zt 12 ?_
    refine' zt 13 ?_
    refine wpAnyH_done (by kernel_rfl) ?_ _
    go_wp2_with fail
    go_meet
    exact ⟨(congrArg Value.bool HPB.out), zcv, zcv, zcv, zcv, zcv, zcv, zxt⟩
   have hz0 : ¬ (0 : Int) < (ps.length : Int) := by omega
   have hzd : decide ((0 : Int) < (ps.length : Int)) = false := decide_eq_false hz0
   have hz1 : ¬ 0 < ps.length := by omega
   have hze : decide (0 < ps.length) = false := decide_eq_false hz1
   have HPB := Lib.hid (show false = PB from by rw [GP.out, lstK_nil (by omega)]; rfl)
   go_wp2_with fail
   refine wp_region_held_drew (S := fun w' => w'.cell? ⟨w1.heap.size, 1, none⟩ = some (.slice A2 ps.length c2) ∧ w'.cell? ⟨w83.heap.size, 0, none⟩ = some (.int .i64 xo) ∧ w'.cell? ⟨w83.heap.size, 1, none⟩ = some (.int .i64 xv) ∧ w'.cell? ⟨w83.heap.size, 2, none⟩ = some (.int .i64 xs) ∧ w'.cell? ⟨w83.heap.size, 3, none⟩ = some (.int .i64 xp) ∧ w'.cell? ⟨w83.heap.size, 4, none⟩ = some (.int .i64 xf) ∧ w'.cell? ⟨w83.heap.size, 5, none⟩ = some (.int .u64 xh)) (by kernel_rfl) (by first | with_reducible exact ⟨b_1, c0_0, c0_1, c0_2, c0_3, c0_4, c0_5⟩ | (simp [go_sem, World.cell?_alloc_past, b_1, rr, ry, rb, hlr, hly, hlb, hnr, hny, hnb, hgn]; done)) (fun hHeld => ?_)
   refine' zt 0 ?_
   refine' zt 1 ?_
   refine' zt 2 ?_
   refine' zs 3 ?_
   refine' zs 4 ?_
   refine' zs 5 ?_
   refine' zs 6 ?_
   refine' zs 7 ?_
   refine' zs 8 ?_
   refine' zs 9 ?_
   refine' zs 10 ?_
   refine' zs 11 ?_
   refine' zs 12 ?_
   refine' zt 13 ?_
   refine wpAnyH_done (by kernel_rfl) ?_ _
   go_wp2_with fail
   go_meet
   exact ⟨(congrArg Value.bool HPB.out), zcv, zcv, zcv, zcv, zcv, zcv, zxt⟩
  obtain ⟨rfl, q_0, q_1, q_2, q_3, q_4, q_5, hx84⟩ := hcut
  obtain ⟨w84, hw84⟩ : ∃ x, x = wc := ⟨_, rfl⟩
  subst hw84
  replace r_0f := zf hx84 r_0 r_0f
  replace r_1f := zf hx84 r_1 r_1f
  replace r_0 := zh hx84 r_0
  replace r_1 := zh hx84 r_1
  replace y_0f := zf hx84 y_0 y_0f
  replace y_1f := zf hx84 y_1 y_1f
  replace y_0 := zh hx84 y_0
  replace y_1 := zh hx84 y_1
  replace b_0f := zf hx84 b_0 b_0f
  replace b_1f := zf hx84 b_1 b_1f
  replace b_0 := zh hx84 b_0
  replace b_1 := zh hx84 b_1
  have z84 := hx84.size
  try simp at z84
  replace rr := zr w.heap.size w84
  replace ry := zr (w.heap.size + 1) w84
  replace rb := zr w1.heap.size w84
  replace HO := Lib.hid (HO.out.ext (Ext.trans zxt hx84))
  replace HP := Lib.hid (HP.out.ext (Ext.trans zxt hx84))
  replace HT := Lib.hid (HT.out.ext (Ext.trans zxt hx84))
  have X84 : Hid (Ext w w84) := Lib.hid (Ext.trans zxt hx84)
  clear X83 hx84
  have hlq := cell_lt q_0
  have hnq : ¬ w83.heap.size = w84.heap.size := by omega
  have hgk : ¬ w83.heap.size = g := by have := HT.out.2.1; have := HT.out.2.2.1; omega
  go_upto_if 105 with (fail)
  go_cut [] (fun wc => RdT (w1.heap.size) wc g L k05 F1 ∧ But (· = g) w84 wc)
  case first =>
   rcases Bool.eq_false_or_eq_true PB with rfl | rfl
   ·have GF := Lib.hid (show F1 = failF f05 9 (atF f2 k2) from by rw [G1.out]; rfl)
    go_wp2_with fail
    (with_reducible refine ((show Calls Tryz.prog 111 #[.pointer (some ⟨g, 0, none⟩), .int .i64 9, .int .i64 (atF f2 k2)] _ fun r w' => (∃ v, r = .returned v) ∧ RdT (w1.heap.size) w' g L k05 (F1) ∧ But (· = g) _ w' from GF.out ▸ cFail_T (w1.heap.size) g k05 L f05 9 (atF f2 k2) _ (HT.out.ext zxt))).mono ?_)
    rintro e w85 ⟨⟨vv, rfl⟩, hRd, hx85⟩
    have hsz85 := hx85.size
    try simp at hsz85
    replace r_0f := zfb hx85 r_0 r_0f
    replace r_1f := zfb hx85 r_1 r_1f
    replace r_0 := zhb hx85 r_0
    replace r_1 := zhb hx85 r_1
    replace y_0f := zfb hx85 y_0 y_0f
    replace y_1f := zfb hx85 y_1 y_1f
    replace y_0 := zhb hx85 y_0
    replace y_1 := zhb hx85 y_1
    replace b_0f := zfb hx85 b_0 b_0f
    replace b_1f := zfb hx85 b_1 b_1f
    replace b_0 := zhb hx85 b_0
    replace b_1 := zhb hx85 b_1
    replace q_0 := zhb hx85 q_0
    replace q_1 := zhb hx85 q_1
    replace q_2 := zhb hx85 q_2
    replace q_3 := zhb hx85 q_3
    replace q_4 := zhb hx85 q_4
    replace q_5 := zhb hx85 q_5
    have z85 := hx85.size
    try simp at z85
    replace rr := zr w.heap.size w85
    replace ry := zr (w.heap.size + 1) w85
    replace rb := zr w1.heap.size w85
    have rq := zr w83.heap.size w85
    have X85 : Hid (Ext w w85) := Lib.hid (have hX := (show Ext w _ from zxt); Below.trans hX (hx85.below (Ext.size hX) (fun k hk hh => by have hh2 : k = g := hh; omega)))
    replace HO := Lib.hid ((HO.out.ext zxt).but hx85 (fun j hj hh => by have h9 := own_rng HO.out j hj; have h8 : j = g := hh; omega))
    replace HP := Lib.hid ((HP.out.ext zxt).but hx85 (fun j hj hh => by have h9 := own_rng HP.out j hj; have h8 : j = g := hh; omega))
    clear HT
    have HT := Lib.hid hRd
    have HBU := Lib.hid hx85
    clear hsz85 X84 hx85 hRd
    go_wp2_with fail
    go_meet
    exact ⟨HT.out, HBU.out⟩
   have GF : F1 = f05 := by rw [G1.out]; exact failF_0 _ _
   replace HT := Lib.hid (show RdT (w1.heap.size) _ g L k05 F1 from GF ▸ HT.out)
   go_wp2_with fail
   go_meet
   exact ⟨HT.out, But.refl _ _⟩
  obtain ⟨hRd, hx85⟩ := hcut
  obtain ⟨w85, hw85⟩ : ∃ x, x = wc := ⟨_, rfl⟩
  subst hw85
  have hsz85 := hx85.size
  try simp at hsz85
  replace r_0f := zfb hx85 r_0 r_0f
  replace r_1f := zfb hx85 r_1 r_1f
  replace r_0 := zhb hx85 r_0
  replace r_1 := zhb hx85 r_1
  replace y_0f := zfb hx85 y_0 y_0f
  replace y_1f := zfb hx85 y_1 y_1f
  replace y_0 := zhb hx85 y_0
  replace y_1 := zhb hx85 y_1
  replace b_0f := zfb hx85 b_0 b_0f
  replace b_1f := zfb hx85 b_1 b_1f
  replace b_0 := zhb hx85 b_0
  replace b_1 := zhb hx85 b_1
  replace q_0 := zhb hx85 q_0
  replace q_1 := zhb hx85 q_1
  replace q_2 := zhb hx85 q_2
  replace q_3 := zhb hx85 q_3
  replace q_4 := zhb hx85 q_4
  replace q_5 := zhb hx85 q_5
  have z85 := hx85.size
  try simp at z85
  replace rr := zr w.heap.size w85
  replace ry := zr (w.heap.size + 1) w85
  replace rb := zr w1.heap.size w85
  have rq := zr w83.heap.size w85
  have X85 : Hid (Ext w w85) := Lib.hid (have hX := (show Ext w _ from zxt); Below.trans hX (hx85.below (Ext.size hX) (fun k hk hh => by have hh2 : k = g := hh; omega)))
  replace HO := Lib.hid ((HO.out.ext zxt).but hx85 (fun j hj hh => by have h9 := own_rng HO.out j hj; have h8 : j = g := hh; omega))
  replace HP := Lib.hid ((HP.out.ext zxt).but hx85 (fun j hj hh => by have h9 := own_rng HP.out j hj; have h8 : j = g := hh; omega))
  clear HT
  have HT := Lib.hid hRd
  clear hsz85 X84 hx85 hRd
  go_wp2_with (at_builtin; refine wpList_append_slB _ rfl _ _ 23 rfl (w1.heap.size + 1) 82 iPos (.agg #[.int .i64 0, .int .i64 0, .int .i64 0, .int .i64 0, .int .i64 0, .int .u64 0]) 6 48 Tryz.underlying23 iPos_0 iPos_1 iPos_2 iPos_3 rfl (by decide) (.slice A2 ps.length c2) ps.length (ps.flatMap posC) (by rfl) ((HP.out.ext zxt)) _ 1 _ (#[.int .i64 xo, .int .i64 xv, .int .i64 xs, .int .i64 xp, .int .i64 xf, .int .u64 xh].toList) (by first | rfl | (simp [Act.eval, go_sem]; done)) (sl_new _ 82 6 #[.int .i64 xo, .int .i64 xv, .int .i64 xs, .int .i64 xp, .int .i64 xf, .int .u64 xh] 1 rfl (by decide)) (by intro u hu; simp at hu; rcases hu with rfl | rfl | rfl | rfl | rfl | rfl <;> rfl) (by omega) (by decide) (by (try simp); omega) ?_; intro v86 w86 hown86 hx86 hn86; refine Hid.out ?_)
  refine Lib.hid ?_
  obtain ⟨A86, c86, rfl, hnil86, hO86⟩ := own_app (f := posC) (xo, xv, xs, xp, xf, xh) hown86 rfl rfl
  obtain ⟨L86, hL86⟩ : ∃ l, l = ps ++ [(xo, xv, xs, xp, xf, xh)] := ⟨_, rfl⟩
  rw [← hL86] at hO86 ⊢
  have HL86 := Lib.hid hL86
  have hNL86 : L86.length = ps.length + 1 := by rw [hL86, List.length_append]; rfl
  clear hown86 hn86 hnil86 hL86
  have hsz86 := hx86.size
  try simp at hsz86
  replace r_0f := zfb hx86 r_0 r_0f (ne := zSlTbk2_0)
  replace r_1f := zfb hx86 r_1 r_1f (ne := zSlTbk2_0)
  replace r_0 := zhb hx86 r_0 (ne := zSlTbk2_0)
  replace r_1 := zhb hx86 r_1 (ne := zSlTbk2_0)
  replace y_0f := zfb hx86 y_0 y_0f (ne := zSlTbk2_0)
  replace y_1f := zfb hx86 y_1 y_1f (ne := zSlTbk2_0)
  replace y_0 := zhb hx86 y_0 (ne := zSlTbk2_0)
  replace y_1 := zhb hx86 y_1 (ne := zSlTbk2_0)
  replace b_0f := zfb hx86 b_0 b_0f (ne := zSlTbk2_0)
  replace b_1f := zfb hx86 b_1 b_1f (ne := zSlTbk2_0)
  replace b_0 := zhb hx86 b_0 (ne := zSlTbk2_0)
  replace b_1 := zhb hx86 b_1 (ne := zSlTbk2_0)
  have z86 := hx86.size
  try simp at z86
  replace rr := zr w.heap.size w86
  replace ry := zr (w.heap.size + 1) w86
  replace rb := zr w1.heap.size w86
  have X86 : Hid (Ext w w86) := Lib.hid (have hX := (show Ext w _ from zxt); Below.trans hX (hx86.below (Ext.size hX) (fun k hk hh => by have hh2 := own_rng HP.out _ hh; omega)))
  replace HO := Lib.hid ((HO.out.ext zxt).but hx86 (own_apart HO.out HP.out cls_pos))
  replace HT := Lib.hid ((HT.out.ext zxt).but hx86 (fun j hlt hk => ⟨own_ne_fault (HP.out.ext zxt) (by have := HT.out.2.1; omega) (by decide) j hlt hk, fun e => by have := own_rng HP.out j hk; omega⟩))
  clear HP
  have HP := Lib.hid (show OwnPos _ (w1.heap.size + 1) _ _ _ from hO86)
  clear q_0 q_1 q_3 q_5 q_4 q_2 rq hsz86 X85 hx86
  clear hO86
  go_wp2_with fail
  go_roundg (gk - 1)
  case measure => have := HK.out; omega
  exact ⟨by have := HK.out; omega, num_eq (by have := HK.out; omega), _, _, _, A86, c86, Lib.hid (by first | exact RdT.set HT.out rfl _ | exact RdT.set (HT.out.ext zxt) rfl _), Lib.hid (show OwnCls _ (w1.heap.size + 1) _ _ _ from (show World.ownsRow _ (w1.heap.size + 1) _ _ _ _ _ from by repeat (first | exact HO.out | with_reducible refine own_box ?_ (by omega) | with_reducible refine World.ownsRow.drew ?_ | refine own_keep ?_ (Ext.alloc (Ext.refl _) _) | refine own_keep ?_ (Ext.drewN (Ext.refl _) _)))), Lib.hid (show OwnPos _ (w1.heap.size + 1) _ _ _ from (show World.ownsRow _ (w1.heap.size + 1) _ _ _ _ _ from by repeat (first | exact HP.out | with_reducible refine own_box ?_ (by omega) | with_reducible refine World.ownsRow.drew ?_ | refine own_keep ?_ (Ext.alloc (Ext.refl _) _) | refine own_keep ?_ (Ext.drewN (Ext.refl _) _)))), by rw [show M - (gk - 1) = j2 + 1 from by have := HK.out; omega]; exact Lib.hid (by rw [HL86.out]; exact GN.out), Lib.hid ⟨by first | exact r_0 | (simp [go_sem, World.cell?_alloc_past, r_0f, r_1f, r_0, r_1, y_0f, y_1f, y_0, y_1, b_0f, b_1f, b_0, b_1, rr, ry, rb, hlr, hly, hlb, hnr, hny, hnb, hgn, hlq, hnq]; done), by first | exact r_0f | (simp [go_sem, World.cell?_alloc_past, r_0f, r_1f, r_0, r_1, y_0f, y_1f, y_0, y_1, b_0f, b_1f, b_0, b_1, rr, ry, rb, hlr, hly, hlb, hnr, hny, hnb, hgn, hlq, hnq]; done), by first | exact r_1 | (simp [go_sem, World.cell?_alloc_past, r_0f, r_1f, r_0, r_1, y_0f, y_1f, y_0, y_1, b_0f, b_1f, b_0, b_1, rr, ry, rb, hlr, hly, hlb, hnr, hny, hnb, hgn, hlq, hnq]; done), by first | exact r_1f | (simp [go_sem, World.cell?_alloc_past, r_0f, r_1f, r_0, r_1, y_0f, y_1f, y_0, y_1, b_0f, b_1f, b_0, b_1, rr, ry, rb, hlr, hly, hlb, hnr, hny, hnb, hgn, hlq, hnq]; done)⟩, Lib.hid ⟨by first | exact y_0 | (simp [go_sem, World.cell?_alloc_past, r_0f, r_1f, r_0, r_1, y_0f, y_1f, y_0, y_1, b_0f, b_1f, b_0, b_1, rr, ry, rb, hlr, hly, hlb, hnr, hny, hnb, hgn, hlq, hnq]; done), by first | exact y_0f | (simp [go_sem, World.cell?_alloc_past, r_0f, r_1f, r_0, r_1, y_0f, y_1f, y_0, y_1, b_0f, b_1f, b_0, b_1, rr, ry, rb, hlr, hly, hlb, hnr, hny, hnb, hgn, hlq, hnq]; done), by first | exact y_1 | (simp [go_sem, World.cell?_alloc_past, r_0f, r_1f, r_0, r_1, y_0f, y_1f, y_0, y_1, b_0f, b_1f, b_0, b_1, rr, ry, rb, hlr, hly, hlb, hnr, hny, hnb, hgn, hlq, hnq]; done), by first | exact y_1f | (simp [go_sem, World.cell?_alloc_past, r_0f, r_1f, r_0, r_1, y_0f, y_1f, y_0, y_1, b_0f, b_1f, b_0, b_1, rr, ry, rb, hlr, hly, hlb, hnr, hny, hnb, hgn, hlq, hnq]; done)⟩, Lib.hid ⟨by first | exact b_0 | (simp [go_sem, World.cell?_alloc_past, r_0f, r_1f, r_0, r_1, y_0f, y_1f, y_0, y_1, b_0f, b_1f, b_0, b_1, rr, ry, rb, hlr, hly, hlb, hnr, hny, hnb, hgn, hlq, hnq, hNL86]; done), by first | exact b_0f | (simp [go_sem, World.cell?_alloc_past, r_0f, r_1f, r_0, r_1, y_0f, y_1f, y_0, y_1, b_0f, b_1f, b_0, b_1, rr, ry, rb, hlr, hly, hlb, hnr, hny, hnb, hgn, hlq, hnq, hNL86]; done), by first | exact b_1 | (simp [go_sem, World.cell?_alloc_past, r_0f, r_1f, r_0, r_1, y_0f, y_1f, y_0, y_1, b_0f, b_1f, b_0, b_1, rr, ry, rb, hlr, hly, hlb, hnr, hny, hnb, hgn, hlq, hnq, hNL86]; done), by first | exact b_1f | (simp [go_sem, World.cell?_alloc_past, r_0f, r_1f, r_0, r_1, y_0f, y_1f, y_0, y_1, b_0f, b_1f, b_0, b_1, rr, ry, rb, hlr, hly, hlb, hnr, hny, hnb, hgn, hlq, hnq, hNL86]; done)⟩, Lib.hid zxt⟩
 have hkn : (j : Int) < (N : Int) := by omega
 obtain ⟨xv, hxv⟩ : ∃ v, v = if tkZ L (k, f) = true then 0 else tkA L (k, f) := ⟨_, rfl⟩
 obtain ⟨xs, hxs⟩ : ∃ v, v = if tkZ L (k, f) = true then 0 else tkB L (k, f) := ⟨_, rfl⟩
 obtain ⟨xp, hxp⟩ : ∃ v, v = if tkZ L (k, f) = true then 0 else tkC L (k, f) - 1 := ⟨_, rfl⟩
 obtain ⟨xf, hxf⟩ : ∃ v, v = if tkZ L (k, f) = true then 0 else tkD L (k, f) := ⟨_, rfl⟩
 obtain ⟨k01, hk01⟩ : ∃ v, v = (tk4 L (k, f)).1 := ⟨_, rfl⟩
 obtain ⟨f01, hf01⟩ : ∃ v, v = tkF L (k, f) := ⟨_, rfl⟩
 obtain ⟨xt, hxt⟩ : ∃ v, v = ruV L k01 f01 := ⟨_, rfl⟩
 obtain ⟨k02, hk02⟩ : ∃ v, v = ruK L k01 f01 := ⟨_, rfl⟩
 obtain ⟨f02, hf02⟩ : ∃ v, v = ruF L k01 f01 := ⟨_, rfl⟩
 obtain ⟨xh, hxh⟩ : ∃ v, v = ruV L k02 f02 := ⟨_, rfl⟩
 obtain ⟨k05, hk05⟩ : ∃ v, v = ruK L k02 f02 := ⟨_, rfl⟩
 obtain ⟨f05, hf05⟩ : ∃ v, v = ruF L k02 f02 := ⟨_, rfl⟩
 have hstep := hRdC_eq hxv hxs hxp hxf hk01 hf01 hxt hk02 hf02 hxh hk05 hf05
 obtain ⟨PB, hPB⟩ : ∃ B, B = prevGe (lstK kC out) (kC (xv, xs, xp, xf, xt, xh)) := ⟨_, rfl⟩
 obtain ⟨F1, hF1⟩ : ∃ v, v = failF f05 (if PB = true then 9 else 0) (atF f k) := ⟨_, rfl⟩
 obtain ⟨e2, he2⟩ : ∃ v, v = chkE xt xh := ⟨_, rfl⟩
 obtain ⟨F2, hF2⟩ : ∃ v, v = failF F1 e2 (atF f k) := ⟨_, rfl⟩
 obtain ⟨F3, hF3⟩ : ∃ v, v = failF F2 (if xt = 0 ∧ xh = 0 then 11 else 0) (atF f k) := ⟨_, rfl⟩
 obtain ⟨ZB, hZB⟩ : ∃ B, (xt == 0 && xh == 0) = B := ⟨_, rfl⟩
 have GZ := Lib.hid (show (ZB = true → xt = 0 ∧ xh = 0) ∧ (ZB = false → ¬ (xt = 0 ∧ xh = 0)) from ⟨fun h => by rw [← hZB] at h; simpa using h, fun h hh => by rw [← hZB, two_true hh] at h; cases h⟩)
 have hwt : Word xt := by rw [hxt]; exact ru_w _ _ _
 have hwh : Word xh := by rw [hxh]; exact ru_w _ _ _
 have CS := Lib.hid (fun w => SCheck_any xt xh hwt hwh w)
 rw [← he2] at CS
 have GN := Lib.hid (show RIC L (j + 1) k05 F3 (out ++ [(xv, xs, xp, xf, xt, xh)]) from by
  have h := RI.step (hRdC_rdr L) HI.out hstep (ev := clsRd (lstK kC out) (xv, xs, xp, xf, xt, xh)) rfl
  rw [clsRd_parts (lstK kC out) (xv, xs, xp, xf, xt, xh) (e1 := if PB = true then 9 else 0) (e2 := e2) (e3 := if xt = 0 ∧ xh = 0 then 11 else 0) (by rw [hPB]) he2 rfl, ← failF_two, ← failF_two, ← hF1, ← hF2, ← hF3] at h
  exact h)
 have G2 := Lib.hid hF2
 have G3 := Lib.hid hF3
 clear hwt hwh he2 hF2 hF3
 have G1 := Lib.hid hF1
 have GP := Lib.hid hPB
 have HK := Lib.hid (And.intro hj (And.intro hg hz))
 have hll : out.length ≤ 65536 := by omega
 have hlw : out.length ≤ 9223372036854775806 := by omega
 have Gxv := Lib.hid hxv
 have Gxs := Lib.hid hxs
 have Gxp := Lib.hid hxp
 have Gxf := Lib.hid hxf
 have Gk01 := Lib.hid hk01
 have Gf01 := Lib.hid hf01
 have Gxt := Lib.hid hxt
 have Gk02 := Lib.hid hk02
 have Gf02 := Lib.hid hf02
 have Gxh := Lib.hid hxh
 have Gk05 := Lib.hid hk05
 have Gf05 := Lib.hid hf05
 clear hj hg hz hstep hF1 hPB hln HI hxv hxs hxp hxf hk01 hf01 hxt hk02 hf02 hxh hk05 hf05
 go_wp2_with fail
 (with_reducible refine (cAt_any g k L f _ ((HT.out.ext zxt)).rd).mono ?_)
 rintro e w_1 ⟨rfl, rfl⟩
 go_wp2_with fail
 (with_reducible refine (tTake_Te (w1.heap.size) g k k01 L f f01 xv xs xp xf hL Gxv.out Gxs.out Gxp.out Gxf.out Gk01.out Gf01.out _ (HT.out.ext zxt)).mono ?_)
 rintro e w61 ⟨rfl, hRd, hx61⟩
 have hsz61 := hx61.size
 try simp at hsz61
 replace r_0f := zfb hx61 r_0 r_0f
 replace r_1f := zfb hx61 r_1 r_1f
 replace r_0 := zhb hx61 r_0
 replace r_1 := zhb hx61 r_1
 replace y_0f := zfb hx61 y_0 y_0f
 replace y_1f := zfb hx61 y_1 y_1f
 replace y_0 := zhb hx61 y_0
 replace y_1 := zhb hx61 y_1
 replace b_0f := zfb hx61 b_0 b_0f
 replace b_1f := zfb hx61 b_1 b_1f
 replace b_0 := zhb hx61 b_0
 replace b_1 := zhb hx61 b_1
 have z61 := hx61.size
 try simp at z61
 have rr := zr w.heap.size w61
 have ry := zr (w.heap.size + 1) w61
 have rb := zr w1.heap.size w61
 have X61 : Hid (Ext w w61) := Lib.hid (have hX := (show Ext w _ from zxt); Below.trans hX (hx61.below (Ext.size hX) (fun k hk hh => by have hh2 : k = g := hh; omega)))
 replace HO := Lib.hid ((HO.out.ext zxt).but hx61 (fun j hj hh => by have h9 := own_rng HO.out j hj; have h8 : j = g := hh; omega))
 clear HT
 have HT := Lib.hid hRd
 clear hsz61 XR hx61 hRd
 go_wp2_with fail
 (with_reducible refine (cU_Te (w1.heap.size) g k01 k02 L f01 f02 xt hL Gxt.out Gk02.out Gf02.out _ (HT.out.ext zxt)).mono ?_)
 rintro e w62 ⟨rfl, hRd, hx62⟩
 have hsz62 := hx62.size
 try simp at hsz62
 replace r_0f := zfb hx62 r_0 r_0f
 replace r_1f := zfb hx62 r_1 r_1f
 replace r_0 := zhb hx62 r_0
 replace r_1 := zhb hx62 r_1
 replace y_0f := zfb hx62 y_0 y_0f
 replace y_1f := zfb hx62 y_1 y_1f
 replace y_0 := zhb hx62 y_0
 replace y_1 := zhb hx62 y_1
 replace b_0f := zfb hx62 b_0 b_0f
 replace b_1f := zfb hx62 b_1 b_1f
 replace b_0 := zhb hx62 b_0
 replace b_1 := zhb hx62 b_1
 have z62 := hx62.size
 try simp at z62
 replace rr := zr w.heap.size w62
 replace ry := zr (w.heap.size + 1) w62
 replace rb := zr w1.heap.size w62
 have X62 : Hid (Ext w w62) := Lib.hid (have hX := (show Ext w _ from zxt); Below.trans hX (hx62.below (Ext.size hX) (fun k hk hh => by have hh2 : k = g := hh; omega)))
 replace HO := Lib.hid ((HO.out.ext zxt).but hx62 (fun j hj hh => by have h9 := own_rng HO.out j hj; have h8 : j = g := hh; omega))
 clear HT
 have HT := Lib.hid hRd
 clear hsz62 X61 hx62 hRd
 go_wp2_with fail
 (with_reducible refine (cU_Te (w1.heap.size) g k02 k05 L f02 f05 xh hL Gxh.out Gk05.out Gf05.out _ (HT.out.ext zxt)).mono ?_)
 rintro e w63 ⟨rfl, hRd, hx63⟩
 have hsz63 := hx63.size
 try simp at hsz63
 replace r_0f := zfb hx63 r_0 r_0f
 replace r_1f := zfb hx63 r_1 r_1f
 replace r_0 := zhb hx63 r_0
 replace r_1 := zhb hx63 r_1
 replace y_0f := zfb hx63 y_0 y_0f
 replace y_1f := zfb hx63 y_1 y_1f
 replace y_0 := zhb hx63 y_0
 replace y_1 := zhb hx63 y_1
 replace b_0f := zfb hx63 b_0 b_0f
 replace b_1f := zfb hx63 b_1 b_1f
 replace b_0 := zhb hx63 b_0
 replace b_1 := zhb hx63 b_1
 have z63 := hx63.size
 try simp at z63
 replace rr := zr w.heap.size w63
 replace ry := zr (w.heap.size + 1) w63
 replace rb := zr w1.heap.size w63
 have X63 : Hid (Ext w w63) := Lib.hid (have hX := (show Ext w _ from zxt); Below.trans hX (hx63.below (Ext.size hX) (fun k hk hh => by have hh2 : k = g := hh; omega)))
 replace HO := Lib.hid ((HO.out.ext zxt).but hx63 (fun j hj hh => by have h9 := own_rng HO.out j hj; have h8 : j = g := hh; omega))
 clear HT
 have HT := Lib.hid hRd
 clear hsz63 X62 hx63 hRd
 go_upto_region 8 with (fail)
 go_cut [49] (fun q wc => q = .bool PB ∧ wc.cell? ⟨w63.heap.size, 0, none⟩ = some (.int .i64 xv) ∧ wc.cell? ⟨w63.heap.size, 1, none⟩ = some (.int .i64 xs) ∧ wc.cell? ⟨w63.heap.size, 2, none⟩ = some (.int .i64 xp) ∧ wc.cell? ⟨w63.heap.size, 3, none⟩ = some (.int .i64 xf) ∧ wc.cell? ⟨w63.heap.size, 4, none⟩ = some (.int .u64 xt) ∧ wc.cell? ⟨w63.heap.size, 5, none⟩ = some (.int .u64 xh) ∧ Ext w63 wc)
 case first =>
  by_cases hq0 : ¬ out.length = 0
  ·obtain ⟨m, hm⟩ : ∃ m, out.length = m + 1 := ⟨out.length - 1, by omega⟩
   have hz0 : (0 : Int) < (out.length : Int) := by omega
   have hzd : decide ((0 : Int) < (out.length : Int)) = true := decide_eq_true hz0
   have hz1 : 0 < out.length := by omega
   have hze : decide (0 < out.length) = true := decide_eq_true hz1
   have hsl := OwnCls.sl HO.out
   obtain ⟨b1, o1, rfl, hb1, hc1⟩ := hsl.rec_ clsC_len (show 0 < out.length from by omega)
   obtain ⟨yw, hl_y⟩ : ∃ x, out[m]? = some x := ⟨_, List.getElem?_eq_getElem (by omega)⟩
   have hb1g := own_rng HO.out b1 rfl
   have v_0 := hc1 m yw hl_y 0 _ rfl
   have v_1 := hc1 m yw hl_y 1 _ rfl
   have v_2 := hc1 m yw hl_y 2 _ rfl
   have v_3 := hc1 m yw hl_y 3 _ rfl
   have v_4 := hc1 m yw hl_y 4 _ rfl
   have v_5 := hc1 m yw hl_y 5 _ rfl
   obtain ⟨yv, ys, yp, yf, yt, yh⟩ := yw
   simp only at v_0 v_1 v_2 v_3 v_4 v_5
   rw [Nat.add_zero] at v_0
   rw [← Nat.add_assoc] at v_1 v_2 v_3 v_4 v_5
   obtain ⟨G, hG⟩ : ∃ G, G = cmpK (kC (yv, ys, yp, yf, yt, yh)) (kC (xv, xs, xp, xf, xt, xh)) := ⟨_, rfl⟩
   have HG := Lib.hid (show G = cmpL [(yv, xv), (ys, xs), (yp, xp), (yf, xf)] from hG)
   have HPB := Lib.hid (show decide (0 ≤ G) = PB from by rw [GP.out, lstK_at hm hl_y, hG]; rfl)
   have hm1 : (out.length : Int) - 1 = (m : Int) := by omega
   have hmw : IntKind.i64.wrap ((out.length : Int) - 1) = (m : Int) := by rw [hm1]; exact IntWalk.i64_in _ (by omega)
   have hml : (m : Int) < (out.length : Int) := by omega
   have hms : m ≤ 9223372036854775806 := by omega
   have hml2 : m < out.length := by omega
   have hb1q : ¬ b1 = w1.heap.size := by omega
   clear hl_y hc1 hsl hG hm1 hm
   go_wp2_with fail
   refine wp_region_held_drew (S := fun w' => w'.cell? ⟨w1.heap.size, 0, none⟩ = some (.slice (some ⟨b1, o1, none⟩) out.length c) ∧ w'.cell? ⟨w63.heap.size, 0, none⟩ = some (.int .i64 xv) ∧ w'.cell? ⟨w63.heap.size, 1, none⟩ = some (.int .i64 xs) ∧ w'.cell? ⟨w63.heap.size, 2, none⟩ = some (.int .i64 xp) ∧ w'.cell? ⟨w63.heap.size, 3, none⟩ = some (.int .i64 xf) ∧ w'.cell? ⟨b1, o1 + m * 6, none⟩ = some (.int .i64 yv) ∧ w'.cell? ⟨b1, o1 + m * 6 + 1, none⟩ = some (.int .i64 ys) ∧ w'.cell? ⟨b1, o1 + m * 6 + 2, none⟩ = some (.int .i64 yp) ∧ w'.cell? ⟨b1, o1 + m * 6 + 3, none⟩ = some (.int .i64 yf)) (by kernel_rfl) (by first | with_reducible exact ⟨b_0, c0_0, c0_1, c0_2, c0_3, v_0, v_1, v_2, v_3⟩ | (simp [go_sem, World.cell?_alloc_past, b_0, rr, ry, rb, v_0, v_1, v_2, v_3, hlr, hly, hlb, hnr, hny, hnb, hgn, hb1q, hb1]; done)) (fun hHeld => ?_)
   refine' zt 0 ?_
   refine' zt 1 ?_
   refine' zt 2 ?_
   refine' zt 3 ?_
   refine' zt 4 ?_
   refine' zt 5 ?_
   refine' zt 6 ?_
   refine' zt 7 ?_
   refine' zt 8 ?_
   refine' zt 9 ?_
   refine' zt 10 ?_
   refine' zt 11 ?_
   refine' zt 12 ?_
   refine' zn 13 (fun K hK => ?_)
   go_simp
   (with_reducible refine (tCompare_at yv ys yp yf xv xs xp xf G _ HG.out).mono ?_)
   rintro e w64 ⟨rfl, hx64⟩
   replace r_0f := zf hx64 r_0 r_0f
   replace r_1f := zf hx64 r_1 r_1f
   replace r_0 := zh hx64 r_0
   replace r_1 := zh hx64 r_1
   replace y_0f := zf hx64 y_0 y_0f
   replace y_1f := zf hx64 y_1 y_1f
   replace y_0 := zh hx64 y_0
   replace y_1 := zh hx64 y_1
   replace b_0f := zf hx64 b_0 b_0f
   replace b_1f := zf hx64 b_1 b_1f
   replace b_0 := zh hx64 b_0
   replace b_1 := zh hx64 b_1
   have c0_0 : w64.cell? ⟨w63.heap.size, 0, none⟩ = some (.int .i64 xv) := hx64.has zcv
   have c0_1 : w64.cell? ⟨w63.heap.size, 1, none⟩ = some (.int .i64 xs) := hx64.has zcv
   have c0_2 : w64.cell? ⟨w63.heap.size, 2, none⟩ = some (.int .i64 xp) := hx64.has zcv
   have c0_3 : w64.cell? ⟨w63.heap.size, 3, none⟩ = some (.int .i64 xf) := hx64.has zcv
   have c0_4 : w64.cell? ⟨w63.heap.size, 4, none⟩ = some (.int .u64 xt) := hx64.has zcv
   have c0_5 : w64.cell? ⟨w63.heap.size, 5, none⟩ = some (.int .u64 xh) := hx64.has zcv
   replace v_0 := zh hx64 v_0
   replace v_1 := zh hx64 v_1
   replace v_2 := zh hx64 v_2
   replace v_3 := zh hx64 v_3
   have z64 := hx64.size
   try simp at z64
   have lt_r_c0 := zl w.heap.size w63.heap.size
   have ne_r_v : ¬ w.heap.size = b1 := by omega
   have lt_y_c0 := zl (w.heap.size + 1) w63.heap.size
   have ne_y_v : ¬ w.heap.size + 1 = b1 := by omega
   have lt_b_c0 := zl w1.heap.size w63.heap.size
   have ne_b_v : ¬ w1.heap.size = b1 := by omega
   have ne_c0_v : ¬ w63.heap.size = b1 := by omega
   have ne_v_r : ¬ b1 = w.heap.size := by omega
   have ne_v_y : ¬ b1 = w.heap.size + 1 := by omega
   have ne_v_b : ¬ b1 = w1.heap.size := by omega
   have ne_v_c0 : ¬ b1 = w63.heap.size := by omega
   replace rr := zr w.heap.size w64
   replace ry := zr (w.heap.size + 1) w64
   replace rb := zr w1.heap.size w64
   have rc0 := zr w63.heap.size w64
   have rv := zr b1 w64
   replace HO := Lib.hid (HO.out.ext (Ext.trans zxt hx64))
   replace HT := Lib.hid (HT.out.ext (Ext.trans zxt hx64))
   have X64 : Hid (Ext w w64) := Lib.hid (Ext.trans zxt hx64)
   have HXC := Lib.hid (show Ext w63 _ from Ext.trans zxt hx64)
   clear v_4 v_5 X63 hx64
   refine' zk hK (by (first | with_reducible exact ⟨b_0, c0_0, c0_1, c0_2, c0_3, v_0, v_1, v_2, v_3⟩ | (simp [go_sem, World.cell?_alloc_past, r_0f, r_1f, r_0, r_1, y_0f, y_1f, y_0, y_1, b_0f, b_1f, b_0, b_1, c0_0, c0_1, c0_2, c0_3, c0_4, c0_5, v_0, v_1, v_2, v_3, ne_r_v, ne_y_v, ne_b_v, ne_c0_v, ne_v_r, ne_v_y, ne_v_b, ne_v_c0, rr, ry, rb, rc0, rv, hlr, hly, hlb, hnr, hny, hnb, hgn, hb1q, hb1]; done) | exact ⟨b_0, c0_0, c0_1, c0_2, c0_3, v_0, v_1, v_2, v_3⟩)) (fun hHeld => ?_); clear hK K
   refine' zt 14 ?_
   refine' zt 15 ?_
   refine wpAnyH_done (by kernel_rfl) ?_ _
   go_wp2_with fail
   go_meet
   exact ⟨(congrArg Value.bool HPB.out), zcv, zcv, zcv, zcv, zcv, zcv, zxt⟩
  have hz0 : ¬ (0 : Int) < (out.length : Int) := by omega
  have hzd : decide ((0 : Int) < (out.length : Int)) = false := decide_eq_false hz0
  have hz1 : ¬ 0 < out.length := by omega
  have hze : decide (0 < out.length) = false := decide_eq_false hz1
  have HPB := Lib.hid (show false = PB from by rw [GP.out, lstK_nil (by omega)]; rfl)
  go_wp2_with fail
  refine wp_region_held_drew (S := fun w' => w'.cell? ⟨w1.heap.size, 0, none⟩ = some (.slice A out.length c) ∧ w'.cell? ⟨w63.heap.size, 0, none⟩ = some (.int .i64 xv) ∧ w'.cell? ⟨w63.heap.size, 1, none⟩ = some (.int .i64 xs) ∧ w'.cell? ⟨w63.heap.size, 2, none⟩ = some (.int .i64 xp) ∧ w'.cell? ⟨w63.heap.size, 3, none⟩ = some (.int .i64 xf)) (by kernel_rfl) (by first | with_reducible exact ⟨b_0, c0_0, c0_1, c0_2, c0_3⟩ | (simp [go_sem, World.cell?_alloc_past, b_0, rr, ry, rb, hlr, hly, hlb, hnr, hny, hnb, hgn]; done)) (fun hHeld => ?_)
  refine' zt 0 ?_
  refine' zt 1 ?_
  refine' zt 2 ?_
  refine' zs 3 ?_
  refine' zs 4 ?_
  refine' zs 5 ?_
  refine' zs 6 ?_
  refine' zs 7 ?_
  refine' zs 8 ?_
  refine' zs 9 ?_
  refine' zs 10 ?_
  refine' zs 11 ?_
  refine' zs 12 ?_
  refine' zs 13 ?_
  refine' zs 14 ?_
  refine' zt 15 ?_
  refine wpAnyH_done (by kernel_rfl) ?_ _
  go_wp2_with fail
  go_meet
  exact ⟨(congrArg Value.bool HPB.out), zcv, zcv, zcv, zcv, zcv, zcv, zxt⟩
 obtain ⟨rfl, q_0, q_1, q_2, q_3, q_4, q_5, hx64⟩ := hcut
 obtain ⟨w64, hw64⟩ : ∃ x, x = wc := ⟨_, rfl⟩
 subst hw64
 replace r_0f := zf hx64 r_0 r_0f
 replace r_1f := zf hx64 r_1 r_1f
 replace r_0 := zh hx64 r_0
 replace r_1 := zh hx64 r_1
 replace y_0f := zf hx64 y_0 y_0f
 replace y_1f := zf hx64 y_1 y_1f
 replace y_0 := zh hx64 y_0
 replace y_1 := zh hx64 y_1
 replace b_0f := zf hx64 b_0 b_0f
 replace b_1f := zf hx64 b_1 b_1f
 replace b_0 := zh hx64 b_0
 replace b_1 := zh hx64 b_1
 have z64 := hx64.size
 try simp at z64
 replace rr := zr w.heap.size w64
 replace ry := zr (w.heap.size + 1) w64
 replace rb := zr w1.heap.size w64
 replace HO := Lib.hid (HO.out.ext (Ext.trans zxt hx64))
 replace HT := Lib.hid (HT.out.ext (Ext.trans zxt hx64))
 have X64 : Hid (Ext w w64) := Lib.hid (Ext.trans zxt hx64)
 clear X63 hx64
 have hlq := cell_lt q_0
 have hnq : ¬ w63.heap.size = w64.heap.size := by omega
 have hgk : ¬ w63.heap.size = g := by have := HT.out.2.1; have := HT.out.2.2.1; omega
 go_upto_if 49 with (fail)
 go_cut [] (fun wc => RdT (w1.heap.size) wc g L k05 F1 ∧ But (· = g) w64 wc)
 case first =>
  rcases Bool.eq_false_or_eq_true PB with rfl | rfl
  ·have GF := Lib.hid (show F1 = failF f05 9 (atF f k) from by rw [G1.out]; rfl)
   go_wp2_with fail
   (with_reducible refine ((show Calls Tryz.prog 111 #[.pointer (some ⟨g, 0, none⟩), .int .i64 9, .int .i64 (atF f k)] _ fun r w' => (∃ v, r = .returned v) ∧ RdT (w1.heap.size) w' g L k05 (F1) ∧ But (· = g) _ w' from GF.out ▸ cFail_T (w1.heap.size) g k05 L f05 9 (atF f k) _ (HT.out.ext zxt))).mono ?_)
   rintro e w65 ⟨⟨vv, rfl⟩, hRd, hx65⟩
   have hsz65 := hx65.size
   try simp at hsz65
   replace r_0f := zfb hx65 r_0 r_0f
   replace r_1f := zfb hx65 r_1 r_1f
   replace r_0 := zhb hx65 r_0
   replace r_1 := zhb hx65 r_1
   replace y_0f := zfb hx65 y_0 y_0f
   replace y_1f := zfb hx65 y_1 y_1f
   replace y_0 := zhb hx65 y_0
   replace y_1 := zhb hx65 y_1
   replace b_0f := zfb hx65 b_0 b_0f
   replace b_1f := zfb hx65 b_1 b_1f
   replace b_0 := zhb hx65 b_0
   replace b_1 := zhb hx65 b_1
   replace q_0 := zhb hx65 q_0
   replace q_1 := zhb hx65 q_1
   replace q_2 := zhb hx65 q_2
   replace q_3 := zhb hx65 q_3
   replace q_4 := zhb hx65 q_4
   replace q_5 := zhb hx65 q_5
   have z65 := hx65.size
   try simp at z65
   replace rr := zr w.heap.size w65
   replace ry := zr (w.heap.size + 1) w65
   replace rb := zr w1.heap.size w65
   have rq := zr w63.heap.size w65
   have X65 : Hid (Ext w w65) := Lib.hid (have hX := (show Ext w _ from zxt); Below.trans hX (hx65.below (Ext.size hX) (fun k hk hh => by have hh2 : k = g := hh; omega)))
   replace HO := Lib.hid ((HO.out.ext zxt).but hx65 (fun j hj hh => by have h9 := own_rng HO.out j hj; have h8 : j = g := hh; omega))
   clear HT
   have HT := Lib.hid hRd
   have HBU := Lib.hid hx65
   clear hsz65 X64 hx65 hRd
   go_wp2_with fail
   go_meet
   exact ⟨HT.out, HBU.out⟩
  have GF : F1 = f05 := by rw [G1.out]; exact failF_0 _ _
  replace HT := Lib.hid (show RdT (w1.heap.size) _ g L k05 F1 from GF ▸ HT.out)
  go_wp2_with fail
  go_meet
  exact ⟨HT.out, But.refl _ _⟩
 obtain ⟨hRd, hx65⟩ := hcut
 obtain ⟨w65, hw65⟩ : ∃ x, x = wc := ⟨_, rfl⟩
 subst hw65
 have hsz65 := hx65.size
 try simp at hsz65
 replace r_0f := zfb hx65 r_0 r_0f
 replace r_1f := zfb hx65 r_1 r_1f
 replace r_0 := zhb hx65 r_0
 replace r_1 := zhb hx65 r_1
 replace y_0f := zfb hx65 y_0 y_0f
 replace y_1f := zfb hx65 y_1 y_1f
 replace y_0 := zhb hx65 y_0
 replace y_1 := zhb hx65 y_1
 replace b_0f := zfb hx65 b_0 b_0f
 replace b_1f := zfb hx65 b_1 b_1f
 replace b_0 := zhb hx65 b_0
 replace b_1 := zhb hx65 b_1
 replace q_0 := zhb hx65 q_0
 replace q_1 := zhb hx65 q_1
 replace q_2 := zhb hx65 q_2
 replace q_3 := zhb hx65 q_3
 replace q_4 := zhb hx65 q_4
 replace q_5 := zhb hx65 q_5
 have z65 := hx65.size
 try simp at z65
 replace rr := zr w.heap.size w65
 replace ry := zr (w.heap.size + 1) w65
 replace rb := zr w1.heap.size w65
 have rq := zr w63.heap.size w65
 have X65 : Hid (Ext w w65) := Lib.hid (have hX := (show Ext w _ from zxt); Below.trans hX (hx65.below (Ext.size hX) (fun k hk hh => by have hh2 : k = g := hh; omega)))
 replace HO := Lib.hid ((HO.out.ext zxt).but hx65 (fun j hj hh => by have h9 := own_rng HO.out j hj; have h8 : j = g := hh; omega))
 clear HT
 have HT := Lib.hid hRd
 clear hsz65 X64 hx65 hRd
 go_wp2_with fail
 (with_reducible refine (CS.out _).mono ?_)
 rintro e w66 ⟨rfl, hx66⟩
 replace r_0f := zf hx66 r_0 r_0f
 replace r_1f := zf hx66 r_1 r_1f
 replace r_0 := zh hx66 r_0
 replace r_1 := zh hx66 r_1
 replace y_0f := zf hx66 y_0 y_0f
 replace y_1f := zf hx66 y_1 y_1f
 replace y_0 := zh hx66 y_0
 replace y_1 := zh hx66 y_1
 replace b_0f := zf hx66 b_0 b_0f
 replace b_1f := zf hx66 b_1 b_1f
 replace b_0 := zh hx66 b_0
 replace b_1 := zh hx66 b_1
 replace q_0 := zh hx66 q_0
 replace q_1 := zh hx66 q_1
 replace q_2 := zh hx66 q_2
 replace q_3 := zh hx66 q_3
 replace q_4 := zh hx66 q_4
 replace q_5 := zh hx66 q_5
 have z66 := hx66.size
 try simp at z66
 replace rr := zr w.heap.size w66
 replace ry := zr (w.heap.size + 1) w66
 replace rb := zr w1.heap.size w66
 replace rq := zr w63.heap.size w66
 replace HO := Lib.hid (HO.out.ext (Ext.trans zxt hx66))
 replace HT := Lib.hid (HT.out.ext (Ext.trans zxt hx66))
 have X66 : Hid (Ext w w66) := Lib.hid (Ext.trans zxt hx66)
 clear X65 hx66
 go_wp2_with fail
 (with_reducible refine ((show Calls Tryz.prog 111 #[.pointer (some ⟨g, 0, none⟩), .int .i64 e2, .int .i64 (atF f k)] _ fun r w' => (∃ v, r = .returned v) ∧ RdT (w1.heap.size) w' g L k05 (F2) ∧ But (· = g) _ w' from G2.out ▸ cFail_T (w1.heap.size) g k05 L F1 e2 (atF f k) _ (HT.out.ext zxt))).mono ?_)
 rintro e w67 ⟨⟨vv, rfl⟩, hRd, hx67⟩
 have hsz67 := hx67.size
 try simp at hsz67
 replace r_0f := zfb hx67 r_0 r_0f
 replace r_1f := zfb hx67 r_1 r_1f
 replace r_0 := zhb hx67 r_0
 replace r_1 := zhb hx67 r_1
 replace y_0f := zfb hx67 y_0 y_0f
 replace y_1f := zfb hx67 y_1 y_1f
 replace y_0 := zhb hx67 y_0
 replace y_1 := zhb hx67 y_1
 replace b_0f := zfb hx67 b_0 b_0f
 replace b_1f := zfb hx67 b_1 b_1f
 replace b_0 := zhb hx67 b_0
 replace b_1 := zhb hx67 b_1
 replace q_0 := zhb hx67 q_0
 replace q_1 := zhb hx67 q_1
 replace q_2 := zhb hx67 q_2
 replace q_3 := zhb hx67 q_3
 replace q_4 := zhb hx67 q_4
 replace q_5 := zhb hx67 q_5
 have z67 := hx67.size
 try simp at z67
 replace rr := zr w.heap.size w67
 replace ry := zr (w.heap.size + 1) w67
 replace rb := zr w1.heap.size w67
 replace rq := zr w63.heap.size w67
 have X67 : Hid (Ext w w67) := Lib.hid (have hX := (show Ext w _ from zxt); Below.trans hX (hx67.below (Ext.size hX) (fun k hk hh => by have hh2 : k = g := hh; omega)))
 replace HO := Lib.hid ((HO.out.ext zxt).but hx67 (fun j hj hh => by have h9 := own_rng HO.out j hj; have h8 : j = g := hh; omega))
 clear HT
 have HT := Lib.hid hRd
 clear hsz67 X66 hx67 hRd
 go_upto_if 62 with (fail)
 go_cut [] (fun wc => RdT (w1.heap.size) wc g L k05 F3 ∧ But (· = g) w67 wc)
 case first =>
  rcases Bool.eq_false_or_eq_true ZB with rfl | rfl
  ·have GF := Lib.hid (show F3 = failF F2 11 (atF f k) from by rw [G3.out, if_pos (GZ.out.1 rfl)])
   go_wp2_with fail
   (with_reducible refine ((show Calls Tryz.prog 111 #[.pointer (some ⟨g, 0, none⟩), .int .i64 11, .int .i64 (atF f k)] _ fun r w' => (∃ v, r = .returned v) ∧ RdT (w1.heap.size) w' g L k05 (F3) ∧ But (· = g) _ w' from GF.out ▸ cFail_T (w1.heap.size) g k05 L F2 11 (atF f k) _ (HT.out.ext zxt))).mono ?_)
   rintro e w68 ⟨⟨vv, rfl⟩, hRd, hx68⟩
   have hsz68 := hx68.size
   try simp at hsz68
   replace r_0f := zfb hx68 r_0 r_0f
   replace r_1f := zfb hx68 r_1 r_1f
   replace r_0 := zhb hx68 r_0
   replace r_1 := zhb hx68 r_1
   replace y_0f := zfb hx68 y_0 y_0f
   replace y_1f := zfb hx68 y_1 y_1f
   replace y_0 := zhb hx68 y_0
   replace y_1 := zhb hx68 y_1
   replace b_0f := zfb hx68 b_0 b_0f
   replace b_1f := zfb hx68 b_1 b_1f
   replace b_0 := zhb hx68 b_0
   replace b_1 := zhb hx68 b_1
   replace q_0 := zhb hx68 q_0
   replace q_1 := zhb hx68 q_1
   replace q_2 := zhb hx68 q_2
   replace q_3 := zhb hx68 q_3
   replace q_4 := zhb hx68 q_4
   replace q_5 := zhb hx68 q_5
   have z68 := hx68.size
   try simp at z68
   replace rr := zr w.heap.size w68
   replace ry := zr (w.heap.size + 1) w68
   replace rb := zr w1.heap.size w68
   replace rq := zr w63.heap.size w68
   have X68 : Hid (Ext w w68) := Lib.hid (have hX := (show Ext w _ from zxt); Below.trans hX (hx68.below (Ext.size hX) (fun k hk hh => by have hh2 : k = g := hh; omega)))
   replace HO := Lib.hid ((HO.out.ext zxt).but hx68 (fun j hj hh => by have h9 := own_rng HO.out j hj; have h8 : j = g := hh; omega))
   clear HT
   have HT := Lib.hid hRd
   have HBU := Lib.hid hx68
   clear hsz68 X67 hx68 hRd
   go_wp2_with fail
   go_meet
   exact ⟨HT.out, HBU.out⟩
  have GF : F3 = F2 := by rw [G3.out, if_neg (GZ.out.2 rfl)]; exact failF_0 _ _
  replace HT := Lib.hid (show RdT (w1.heap.size) _ g L k05 F3 from GF ▸ HT.out)
  go_wp2_with fail
  go_meet
  exact ⟨HT.out, But.refl _ _⟩
 obtain ⟨hRd, hx68⟩ := hcut
 obtain ⟨w68, hw68⟩ : ∃ x, x = wc := ⟨_, rfl⟩
 subst hw68
 have hsz68 := hx68.size
 try simp at hsz68
 replace r_0f := zfb hx68 r_0 r_0f
 replace r_1f := zfb hx68 r_1 r_1f
 replace r_0 := zhb hx68 r_0
 replace r_1 := zhb hx68 r_1
 replace y_0f := zfb hx68 y_0 y_0f
 replace y_1f := zfb hx68 y_1 y_1f
 replace y_0 := zhb hx68 y_0
 replace y_1 := zhb hx68 y_1
 replace b_0f := zfb hx68 b_0 b_0f
 replace b_1f := zfb hx68 b_1 b_1f
 replace b_0 := zhb hx68 b_0
 replace b_1 := zhb hx68 b_1
 replace q_0 := zhb hx68 q_0
 replace q_1 := zhb hx68 q_1
 replace q_2 := zhb hx68 q_2
 replace q_3 := zhb hx68 q_3
 replace q_4 := zhb hx68 q_4
 replace q_5 := zhb hx68 q_5
 have z68 := hx68.size
 try simp at z68
 replace rr := zr w.heap.size w68
 replace ry := zr (w.heap.size + 1) w68
 replace rb := zr w1.heap.size w68
 replace rq := zr w63.heap.size w68
 have X68 : Hid (Ext w w68) := Lib.hid (have hX := (show Ext w _ from zxt); Below.trans hX (hx68.below (Ext.size hX) (fun k hk hh => by have hh2 : k = g := hh; omega)))
 replace HO := Lib.hid ((HO.out.ext zxt).but hx68 (fun j hj hh => by have h9 := own_rng HO.out j hj; have h8 : j = g := hh; omega))
 clear HT
 have HT := Lib.hid hRd
 clear hsz68 X67 hx68 hRd
 go_wp2_with (at_builtin; refine wpList_append_slB _ rfl _ _ 22 rfl (w1.heap.size + 1) 79 iCls (.agg #[.int .i64 0, .int .i64 0, .int .i64 0, .int .i64 0, .int .u64 0, .int .u64 0]) 6 48 Tryz.underlying22 iCls_0 iCls_1 iCls_2 iCls_3 rfl (by decide) (.slice A out.length c) out.length (out.flatMap clsC) (by rfl) ((HO.out.ext zxt)) _ 1 _ (#[.int .i64 xv, .int .i64 xs, .int .i64 xp, .int .i64 xf, .int .u64 xt, .int .u64 xh].toList) (by first | rfl | (simp [Act.eval, go_sem]; done)) (sl_new _ 79 6 #[.int .i64 xv, .int .i64 xs, .int .i64 xp, .int .i64 xf, .int .u64 xt, .int .u64 xh] 1 rfl (by decide)) (by intro u hu; simp at hu; rcases hu with rfl | rfl | rfl | rfl | rfl | rfl <;> rfl) (by omega) (by decide) (by (try simp); omega) ?_; intro v69 w69 hown69 hx69 hn69; refine Hid.out ?_)
 refine Lib.hid ?_
 obtain ⟨A69, c69, rfl, hnil69, hO69⟩ := own_app (f := clsC) (xv, xs, xp, xf, xt, xh) hown69 rfl rfl
 obtain ⟨L69, hL69⟩ : ∃ l, l = out ++ [(xv, xs, xp, xf, xt, xh)] := ⟨_, rfl⟩
 rw [← hL69] at hO69 ⊢
 have HL69 := Lib.hid hL69
 have hNL69 : L69.length = out.length + 1 := by rw [hL69, List.length_append]; rfl
 clear hown69 hn69 hnil69 hL69
 have hsz69 := hx69.size
 try simp at hsz69
 replace r_0f := zfb hx69 r_0 r_0f (ne := zSlTbk2_1)
 replace r_1f := zfb hx69 r_1 r_1f (ne := zSlTbk2_1)
 replace r_0 := zhb hx69 r_0 (ne := zSlTbk2_1)
 replace r_1 := zhb hx69 r_1 (ne := zSlTbk2_1)
 replace y_0f := zfb hx69 y_0 y_0f (ne := zSlTbk2_1)
 replace y_1f := zfb hx69 y_1 y_1f (ne := zSlTbk2_1)
 replace y_0 := zhb hx69 y_0 (ne := zSlTbk2_1)
 replace y_1 := zhb hx69 y_1 (ne := zSlTbk2_1)
 replace b_0f := zfb hx69 b_0 b_0f (ne := zSlTbk2_1)
 replace b_1f := zfb hx69 b_1 b_1f (ne := zSlTbk2_1)
 replace b_0 := zhb hx69 b_0 (ne := zSlTbk2_1)
 replace b_1 := zhb hx69 b_1 (ne := zSlTbk2_1)
 have z69 := hx69.size
 try simp at z69
 replace rr := zr w.heap.size w69
 replace ry := zr (w.heap.size + 1) w69
 replace rb := zr w1.heap.size w69
 have X69 : Hid (Ext w w69) := Lib.hid (have hX := (show Ext w _ from zxt); Below.trans hX (hx69.below (Ext.size hX) (fun k hk hh => by have hh2 := own_rng HO.out _ hh; omega)))
 replace HT := Lib.hid ((HT.out.ext zxt).but hx69 (fun j hlt hk => ⟨own_ne_fault (HO.out.ext zxt) (by have := HT.out.2.1; omega) (by decide) j hlt hk, fun e => by have := own_rng HO.out j hk; omega⟩))
 clear HO
 have HO := Lib.hid (show OwnCls _ (w1.heap.size + 1) _ _ _ from hO69)
 clear q_0 q_1 q_3 q_5 q_4 q_2 rq hsz69 X68 hx69
 clear hO69
 go_wp2_with fail
 go_roundg (gk - 1)
 case measure => have := HK.out; omega
 exact ⟨by have := HK.out; omega, num_eq (by have := HK.out; omega), _, _, _, A69, c69, Lib.hid (by first | exact RdT.set HT.out rfl _ | exact RdT.set (HT.out.ext zxt) rfl _), Lib.hid (show OwnCls _ (w1.heap.size + 1) _ _ _ from (show World.ownsRow _ (w1.heap.size + 1) _ _ _ _ _ from by repeat (first | exact HO.out | with_reducible refine own_box ?_ (by omega) | with_reducible refine World.ownsRow.drew ?_ | refine own_keep ?_ (Ext.alloc (Ext.refl _) _) | refine own_keep ?_ (Ext.drewN (Ext.refl _) _)))), by rw [show N - (gk - 1) = j + 1 from by have := HK.out; omega]; exact Lib.hid (by rw [HL69.out]; exact GN.out), Lib.hid ⟨by first | exact r_0 | (simp [go_sem, World.cell?_alloc_past, r_0f, r_1f, r_0, r_1, y_0f, y_1f, y_0, y_1, b_0f, b_1f, b_0, b_1, rr, ry, rb, hlr, hly, hlb, hnr, hny, hnb, hgn, hlq, hnq]; done), by first | exact r_0f | (simp [go_sem, World.cell?_alloc_past, r_0f, r_1f, r_0, r_1, y_0f, y_1f, y_0, y_1, b_0f, b_1f, b_0, b_1, rr, ry, rb, hlr, hly, hlb, hnr, hny, hnb, hgn, hlq, hnq]; done), by first | exact r_1 | (simp [go_sem, World.cell?_alloc_past, r_0f, r_1f, r_0, r_1, y_0f, y_1f, y_0, y_1, b_0f, b_1f, b_0, b_1, rr, ry, rb, hlr, hly, hlb, hnr, hny, hnb, hgn, hlq, hnq]; done), by first | exact r_1f | (simp [go_sem, World.cell?_alloc_past, r_0f, r_1f, r_0, r_1, y_0f, y_1f, y_0, y_1, b_0f, b_1f, b_0, b_1, rr, ry, rb, hlr, hly, hlb, hnr, hny, hnb, hgn, hlq, hnq]; done)⟩, Lib.hid ⟨by first | exact y_0 | (simp [go_sem, World.cell?_alloc_past, r_0f, r_1f, r_0, r_1, y_0f, y_1f, y_0, y_1, b_0f, b_1f, b_0, b_1, rr, ry, rb, hlr, hly, hlb, hnr, hny, hnb, hgn, hlq, hnq]; done), by first | exact y_0f | (simp [go_sem, World.cell?_alloc_past, r_0f, r_1f, r_0, r_1, y_0f, y_1f, y_0, y_1, b_0f, b_1f, b_0, b_1, rr, ry, rb, hlr, hly, hlb, hnr, hny, hnb, hgn, hlq, hnq]; done), by first | exact y_1 | (simp [go_sem, World.cell?_alloc_past, r_0f, r_1f, r_0, r_1, y_0f, y_1f, y_0, y_1, b_0f, b_1f, b_0, b_1, rr, ry, rb, hlr, hly, hlb, hnr, hny, hnb, hgn, hlq, hnq]; done), by first | exact y_1f | (simp [go_sem, World.cell?_alloc_past, r_0f, r_1f, r_0, r_1, y_0f, y_1f, y_0, y_1, b_0f, b_1f, b_0, b_1, rr, ry, rb, hlr, hly, hlb, hnr, hny, hnb, hgn, hlq, hnq]; done)⟩, Lib.hid ⟨by first | exact b_0 | (simp [go_sem, World.cell?_alloc_past, r_0f, r_1f, r_0, r_1, y_0f, y_1f, y_0, y_1, b_0f, b_1f, b_0, b_1, rr, ry, rb, hlr, hly, hlb, hnr, hny, hnb, hgn, hlq, hnq, hNL69]; done), by first | exact b_0f | (simp [go_sem, World.cell?_alloc_past, r_0f, r_1f, r_0, r_1, y_0f, y_1f, y_0, y_1, b_0f, b_1f, b_0, b_1, rr, ry, rb, hlr, hly, hlb, hnr, hny, hnb, hgn, hlq, hnq, hNL69]; done), by first | exact b_1 | (simp [go_sem, World.cell?_alloc_past, r_0f, r_1f, r_0, r_1, y_0f, y_1f, y_0, y_1, b_0f, b_1f, b_0, b_1, rr, ry, rb, hlr, hly, hlb, hnr, hny, hnb, hgn, hlq, hnq, hNL69]; done), by first | exact b_1f | (simp [go_sem, World.cell?_alloc_past, r_0f, r_1f, r_0, r_1, y_0f, y_1f, y_0, y_1, b_0f, b_1f, b_0, b_1, rr, ry, rb, hlr, hly, hlb, hnr, hny, hnb, hgn, hlq, hnq, hNL69]; done)⟩, Lib.hid zxt⟩
end
end Go.Proofs.YtkinchgjidpjnaaGreat
