/- Tac, part 2. Conditions stand in each lemma. -/
import Derived.Test.YtkinchgjidpjnaaGreatSlTac1
set_option linter.unusedVariables false
set_option linter.unusedSimpArgs false
set_option maxRecDepth 100000
set_option maxHeartbeats 64000000
namespace Go.Proofs.YtkinchgjidpjnaaGreat
section
open Go.RowKit Go.ChangeShapes Go.WideShapes Go.Deep Go.Joins
theorem zSlTac2_0 {P : Prop} (h : P := by first | with_reducible exact ⟨b_0, c0_1, c0_2, c0_3, c0_4, x_0, x_1, x_2, x_3⟩ | (simp [go_sem, World.cell?_alloc_past, *]; done)) : P := h
theorem posGo_at {cl ps : List I6} {k : Nat} {x : I6} {v : Int} (h : posGo cl none ps = posGo cl (prK kP ps k) (ps.drop k)) (hx : ps[k]? = some x) (h1 : posOne cl (prK kP ps k) x = v) (hv : v ≠ 0) : posGo cl none ps = v := by
 rw [h, drop_at hx]
 show (if posOne cl (prK kP ps k) x ≠ 0 then _ else _) = _
 rw [h1, if_pos hv]
theorem posGo_next {cl ps : List I6} {k : Nat} {x : I6} (h : posGo cl none ps = posGo cl (prK kP ps k) (ps.drop k)) (hx : ps[k]? = some x) (h1 : posOne cl (prK kP ps k) x = 0) : posGo cl none ps = posGo cl (prK kP ps (k + 1)) (ps.drop (k + 1)) := by
 rw [h, drop_at hx, prK_succ hx]
 show (if posOne cl (prK kP ps k) x ≠ 0 then _ else _) = _
 rw [if_neg (by simpa using h1)]
theorem posGo_end {cl ps : List I6} {k : Nat} (h : posGo cl none ps = posGo cl (prK kP ps k) (ps.drop k)) (hk : ps.length ≤ k) : posGo cl none ps = 0 := by
 rw [h, List.drop_of_length_le hk]
 rfl
theorem posV_go {cl ps : List I6} {v : Int} (h : posGo cl none ps = v) (hv : v ≠ 0) : posV cl ps = v := by unfold posV; rw [h, if_pos hv]
theorem posV_ne {cl ps : List I6} {c : I6} (h : posGo cl none ps = 0) (hc : c ∈ cl) (hn : shO ps (kC c) ≠ shC c) : posV cl ps = 11 := by
 unfold posV
 rw [if_neg (by simpa using h), if_neg]
 intro ha
 rw [List.all_eq_true] at ha
 exact hn (by simpa using ha c hc)
theorem posV_eq {cl ps : List I6} (h : posGo cl none ps = 0) (ha : ∀ c ∈ cl, shO ps (kC c) = shC c) : posV cl ps = 0 := by
 unfold posV
 rw [if_neg (by simpa using h), if_pos]
 rw [List.all_eq_true]
 intro c hc
 simpa using ha c hc
theorem posOne_unknown' {cl : List I6} {pr : Option (List Int)} {p : I6} (h : 0 ≤ p.1 ∧ p.1 < 64) (h2 : prevGe pr (kP p) = false) (h3 : shP p ≠ 0) (h4 : getK kC cl (stP p) = none) : posOne cl pr p = 10 := by
 unfold posOne
 rw [if_neg (by omega), if_neg (by simp [h2]), if_neg h3, if_pos (by rw [h4]; rfl)]
theorem posOne_fine {cl : List I6} {pr : Option (List Int)} {p c : I6} (h : 0 ≤ p.1 ∧ p.1 < 64) (h2 : prevGe pr (kP p) = false) (h3 : shP p ≠ 0) (h4 : getK kC cl (stP p) = some c) : posOne cl pr p = 0 := by
 unfold posOne
 rw [if_neg (by omega), if_neg (by simp [h2]), if_neg h3, if_neg (by rw [h4]; simp)]
theorem u64_eq {a b : Int} (h : a = b) : Value.int .u64 a = Value.int .u64 b := by rw [h]
theorem shO_nn {ps : List I6} (hw : ∀ x ∈ ps, WdP x) (q : List Int) : 0 ≤ shO ps q := addF_nn (fun y hy => (hw y (List.mem_filter.1 hy).1).1)
theorem shO_le {ps : List I6} (hw : ∀ x ∈ ps, WdP x) (q : List Int) (k : Nat) : shO (ps.take k) q ≤ shO ps q := by
 have h : shO ps q = shO (ps.take k) q + shO (ps.drop k) q := by
  unfold shO
  conv => lhs; rw [← List.take_append_drop k ps, List.filter_append, addF_app]
 have := shO_nn (ps := ps.drop k) (fun x hx => hw x (List.mem_of_mem_drop hx)) q
 omega
theorem r13Check_any (n c n2 c2 : Nat) (A A2 : Option Addr) (cl ps : List I6) (w : World) (h : Sl w 6 A n c (cl.flatMap clsC)) (h2 : Sl w 6 A2 n2 c2 (ps.flatMap posC)) (hw : ∀ x ∈ cl, WdC x) (hw2 : ∀ x ∈ ps, WdP x) :
  Calls Tryz.prog 15 #[.agg #[.slice A n c, .slice A2 n2 c2]] w fun r w' => r = .returned (.int .i64 (chkH cl ps)) ∧ Ext w w' := by
 have hll := h.rlen clsC_len (by decide)
 have hll2 := h2.rlen posC_len (by decide)
 have hsm := h.small
 have hsm2 := h2.small
 have C1 := Lib.hid (fun (w' : World) (hx : Ext w w') => r13classes_any n c n2 c2 A A2 cl w' (h.ext hx) hw)
 obtain ⟨E, hE⟩ : ∃ E, E = clsV cl := ⟨_, rfl⟩
 obtain ⟨V, hV⟩ : ∃ V, V = chkH cl ps := ⟨_, rfl⟩
 rw [← hE] at C1
 rw [← hV]
 by_cases he : ¬ E = 0
 ·obtain rfl : V = E := by rw [hV, hE]; unfold chkH; rw [if_pos (by rw [← hE]; exact he)]
  have heb : (V != 0) = true := by simpa using he
  clear h h2 hw hw2 hE hV hll hll2
  go_enter Tryz.func15, Tryz.ntmps15
  go_wp2_with fail
  (with_reducible refine (C1.out _ zxt).mono ?_)
  rintro e w1 ⟨rfl, hx1⟩
  have z1 := hx1.size
  try simp at z1
  have X1 : Hid (Ext w w1) := Lib.hid (Ext.trans zxt hx1)
  clear hx1 z1
  go_wp2_with fail
  go_ret
  exact ⟨rfl, zxt⟩
 replace he : E = 0 := by omega
 have HV := Lib.hid (show V = posV cl ps from by rw [hV]; unfold chkH; rw [if_neg (by rw [← hE]; simpa using he)])
 have CC := Lib.hid (fun (V S P Q : Int) (w' : World) (hx : Ext w w') => r13class_any n c n2 c2 A A2 cl V S P Q w' (h.ext hx))
 have HS := Lib.hid h
 have HT := Lib.hid h2
 have HW := Lib.hid hw
 have HU := Lib.hid hw2
 have HLL := Lib.hid (And.intro hll hll2)
 have pq1 := stm_eq
 have pq2 := stm_eqg
 subst he
 clear h h2 hw hw2 hE hV hll hll2
 go_enter Tryz.func15, Tryz.ntmps15
 go_wp2_with fail
 (with_reducible refine (C1.out _ zxt).mono ?_)
 rintro e w1 ⟨rfl, hx1⟩
 have c0_0 : w1.cell? ⟨w.heap.size, 0, none⟩ = some (.slice A n c) := hx1.has zcv
 have c0_1 : w1.cell? ⟨w.heap.size, 1, none⟩ = some (.slice A2 n2 c2) := hx1.has zcv
 have z1 := hx1.size
 try simp at z1
 have rc0 := zr w.heap.size w1
 have X1 : Hid (Ext w w1) := Lib.hid (Ext.trans zxt hx1)
 clear hx1 z1
 go_wp2_with fail
 go_loopg [4] n2 (fun gh i wx => gh ≤ n2 ∧ i = .int .i64 ((n2 - gh : Nat) : Int) ∧ Hid (posGo cl none ps = posGo cl (prK kP ps (n2 - gh)) (ps.drop (n2 - gh))) ∧ (wx.cell? ⟨w.heap.size, 0, none⟩ = some (.slice A n c) ∧ wx.cell? ⟨w.heap.size, 1, none⟩ = some (.slice A2 n2 c2)) ∧ Hid (Ext w wx))
 case atStart => exact ⟨Nat.le_refl _, by simp, by rw [Nat.sub_self]; exact Lib.hid rfl, ⟨c0_0, c0_1⟩, Lib.hid zxt⟩
 obtain ⟨hg, hi, HI, ⟨b_0, b_1⟩, XR⟩ := hrel
 obtain ⟨k, hk⟩ : ∃ k, k = n2 - gk := ⟨_, rfl⟩
 rw [← hk] at hi HI
 subst hi
 have hqr := cell_lt b_0
 by_cases hz : gk = 0
 ·have hkn : ¬ (k : Int) < (n2 : Int) := by omega
  have hG := posGo_end HI.out (by have := HLL.out.2; omega)
  have HG := Lib.hid hG
  clear hk hg hz HI hG
  go_wp2_with fail
  go_loopg [6] n (fun gh i wx => gh ≤ n ∧ i = .int .i64 ((n - gh : Nat) : Int) ∧ Hid (∀ c ∈ cl.take (n - gh), shO ps (kC c) = shC c) ∧ (wx.cell? ⟨w.heap.size, 0, none⟩ = some (.slice A n c) ∧ wx.cell? ⟨w.heap.size, 1, none⟩ = some (.slice A2 n2 c2)) ∧ Hid (Ext w wx))
  case atStart => exact ⟨Nat.le_refl _, by simp, by rw [Nat.sub_self]; exact Lib.hid (fun c h => by cases h), ⟨b_0, b_1⟩, XR⟩
  clear XR b_0 b_1 hqr
  obtain ⟨hg, hi, HA, ⟨b_0, b_1⟩, XR⟩ := hrel
  obtain ⟨g1, hg1⟩ : ∃ g, g = gk := ⟨_, rfl⟩
  rw [← hg1] at hg hi HA
  obtain ⟨k1, hk1⟩ : ∃ k, k = n - g1 := ⟨_, rfl⟩
  rw [← hk1] at hi HA
  subst hi
  have hqr := cell_lt b_0
  by_cases hz : g1 = 0
  ·have hkn1 : ¬ (k1 : Int) < (n : Int) := by omega
   obtain rfl : V = 0 := HV.out.trans (posV_eq HG.out (by have hh := HA.out; rwa [List.take_of_length_le (by have := HLL.out.1; omega)] at hh))
   clear hk1 hg hz HA HG
   go_wp2
   go_ret
   exact ⟨rfl, XR.out⟩
  have hkn1 : (k1 : Int) < (n : Int) := by omega
  have hkl1 : k1 < cl.length := by have := HLL.out.1; omega
  have HSr := Lib.hid (HS.out.ext XR.out)
  obtain ⟨b1, o1, rfl, hb1, hc_x⟩ := HSr.out.rec_ clsC_len (show 0 < n from by omega)
  obtain ⟨xw, hl_x⟩ : ∃ x, cl[k1]? = some x := ⟨_, List.getElem?_eq_getElem (by omega)⟩
  have x_0 := hc_x (k1) xw hl_x 0 _ rfl
  have x_1 := hc_x (k1) xw hl_x 1 _ rfl
  have x_2 := hc_x (k1) xw hl_x 2 _ rfl
  have x_3 := hc_x (k1) xw hl_x 3 _ rfl
  have x_4 := hc_x (k1) xw hl_x 4 _ rfl
  have x_5 := hc_x (k1) xw hl_x 5 _ rfl
  obtain ⟨xv, xs, xp, xf, xt, xh⟩ := xw
  simp only at x_0 x_1 x_2 x_3 x_4 x_5
  rw [Nat.add_zero] at x_0
  rw [← Nat.add_assoc] at x_1 x_2 x_3 x_4 x_5
  have HX1 := Lib.hid (And.intro hl_x (And.intro hk1 (And.intro hg hz)))
  have hxm := List.mem_of_getElem? hl_x
  have hxw : 0 ≤ xh := (HW.out _ hxm).2.1
  have HXM := Lib.hid hxm
  clear hc_x HSr hl_x hk1 hg hz hkl1 hxm
  go_wp2_with fail
  go_loopg [7, 8] n2 (fun gh a j wx => gh ≤ n2 ∧ j = .int .i64 ((n2 - gh : Nat) : Int) ∧ a = .int .u64 (xh - shO (ps.take (n2 - gh)) [xv, xs, xp, xf]) ∧ Hid (0 ≤ xh - shO (ps.take (n2 - gh)) [xv, xs, xp, xf]) ∧ (wx.cell? ⟨w.heap.size, 0, none⟩ = some (.slice (some ⟨b1, o1, none⟩) n c) ∧ wx.cell? ⟨w.heap.size, 1, none⟩ = some (.slice A2 n2 c2)) ∧ Hid (Ext w wx))
  case atStart => exact ⟨Nat.le_refl _, by simp, by rw [Nat.sub_self]; exact u64_eq (by simp [shO, addF]), by rw [Nat.sub_self]; exact Lib.hid (by simpa [shO, addF] using hxw), ⟨b_0, b_1⟩, XR⟩
  clear XR b_0 b_1 hqr
  obtain ⟨hg, hj, ha, HB, ⟨b_0, b_1⟩, XR⟩ := hrel
  obtain ⟨k, hk⟩ : ∃ k, k = n2 - gk := ⟨_, rfl⟩
  rw [← hk] at hj ha HB
  subst hj
  obtain ⟨t, ht⟩ : ∃ t, t = xh - shO (ps.take k) [xv, xs, xp, xf] := ⟨_, rfl⟩
  rw [← ht] at ha HB
  subst ha
  have hqr := cell_lt b_0
  by_cases hz : gk = 0
  ·have hkn : ¬ (k : Int) < (n2 : Int) := by omega
   have hT : t = xh - shO ps [xv, xs, xp, xf] := by rw [ht, List.take_of_length_le (by have := HLL.out.2; omega)]
   have HT0 := Lib.hid hT
   have HBX := HB
   clear hk hg hz ht HB hT x_0 x_1 x_2 x_3 x_4 x_5
   by_cases q : 0 < t
   ·have qd : decide (0 < t) = true := decide_eq_true q
    obtain rfl : V = 11 := HV.out.trans (posV_ne HG.out HXM.out (by show shO ps [xv, xs, xp, xf] ≠ xh; have := HT0.out; omega))
    go_wp2_with fail
    go_ret
    exact ⟨rfl, zxt⟩
   have qd : decide (0 < t) = false := decide_eq_false q
   have HN := Lib.hid (show ∀ c ∈ cl.take (k1 + 1), shO ps (kC c) = shC c from by
    intro c hc
    rw [List.take_add_one, HX1.out.1] at hc
    rcases List.mem_append.1 hc with hc | hc
    ·exact HA.out c hc
    obtain rfl : c = (xv, xs, xp, xf, xt, xh) := by simpa using hc
    show shO ps [xv, xs, xp, xf] = xh
    have := HT0.out
    have := HBX.out
    omega)
   go_wp2_with fail
   go_roundg (g1 - 1)
   case measure => have := HX1.out; omega
   exact ⟨by have := HX1.out; omega, num_eq (by have := HX1.out; omega), by rw [show n - (g1 - 1) = k1 + 1 from by have := HX1.out; omega]; exact HN, ⟨b_0, b_1⟩, Lib.hid zxt⟩
  have hkn : (k : Int) < (n2 : Int) := by omega
  have hkl : k < ps.length := by have := HLL.out.2; omega
  have HTr := Lib.hid (HT.out.ext XR.out)
  obtain ⟨b2, o2, rfl, hb2, hc_p⟩ := HTr.out.rec_ posC_len (show 0 < n2 from by omega)
  have hSx := HS.out.ext XR.out
  obtain ⟨bq, oq, hbq, hb1, hc_x⟩ := hSx.rec_ clsC_len (show 0 < n from by omega)
  obtain ⟨rfl, rfl⟩ : b1 = bq ∧ o1 = oq := by simpa using hbq
  replace x_0 := hc_x k1 _ HX1.out.1 0 _ rfl
  replace x_1 := hc_x k1 _ HX1.out.1 1 _ rfl
  replace x_2 := hc_x k1 _ HX1.out.1 2 _ rfl
  replace x_3 := hc_x k1 _ HX1.out.1 3 _ rfl
  simp only at x_0 x_1 x_2 x_3
  rw [Nat.add_zero] at x_0
  rw [← Nat.add_assoc] at x_1 x_2 x_3
  obtain ⟨pw, hl_p⟩ : ∃ x, ps[k]? = some x := ⟨_, List.getElem?_eq_getElem (by omega)⟩
  have p_0 := hc_p (k) pw hl_p 0 _ rfl
  have p_1 := hc_p (k) pw hl_p 1 _ rfl
  have p_2 := hc_p (k) pw hl_p 2 _ rfl
  have p_3 := hc_p (k) pw hl_p 3 _ rfl
  have p_4 := hc_p (k) pw hl_p 4 _ rfl
  have p_5 := hc_p (k) pw hl_p 5 _ rfl
  obtain ⟨po, pv, ps_, pp, pf, ph⟩ := pw
  simp only at p_0 p_1 p_2 p_3 p_4 p_5
  rw [Nat.add_zero] at p_0
  rw [← Nat.add_assoc] at p_1 p_2 p_3 p_4 p_5
  have hpw := (HU.out _ (List.mem_of_getElem? hl_p))
  change 0 ≤ ph ∧ ph < 18446744073709551616 at hpw
  have hto := shO_take hl_p [xv, xs, xp, xf]
  change shO (ps.take (k + 1)) [xv, xs, xp, xf] = shO (ps.take k) [xv, xs, xp, xf] + (if [pv, ps_, pp, pf] = [xv, xs, xp, xf] then ph else 0) at hto
  have hle := shO_le HU.out [xv, xs, xp, xf] (k + 1)
  have HQ := Lib.hid (And.intro hto (And.intro hle ht))
  have HK := Lib.hid (And.intro hk (And.intro hg hz))
  have hb1s : ¬ b1 = wr.heap.size := by omega
  have hb2s : ¬ b2 = wr.heap.size := by omega
  have hqs : ¬ w.heap.size = wr.heap.size := by omega
  clear hk hg hz hkl hl_p hc_p hc_x hSx HTr hto hle ht hbq x_4 x_5
  by_cases hq : pv = xv ∧ ps_ = xs ∧ pp = xp ∧ pf = xf
  ·have hto2 : shO (ps.take (k + 1)) [xv, xs, xp, xf] = shO (ps.take k) [xv, xs, xp, xf] + ph := by rw [HQ.out.1, if_pos (by simp [hq])]
   have HQ2 := Lib.hid hto2
   have hqb := four_true hq
   clear hto2 hq
   by_cases qo : t < ph
   ·have qod : decide (t < ph) = true := decide_eq_true qo
    obtain rfl : V = 11 := HV.out.trans (posV_ne HG.out HXM.out (by show shO ps [xv, xs, xp, xf] ≠ xh; have := HQ.out; have := HQ2.out; omega))
    go_wp2_with fail
    refine wp_region_held_drew (S := fun w' => w'.cell? ⟨w.heap.size, 0, none⟩ = some (.slice (some ⟨b1, o1, none⟩) n c) ∧ w'.cell? ⟨wr.heap.size, 1, none⟩ = some (.int .i64 pv) ∧ w'.cell? ⟨wr.heap.size, 2, none⟩ = some (.int .i64 ps_) ∧ w'.cell? ⟨wr.heap.size, 3, none⟩ = some (.int .i64 pp) ∧ w'.cell? ⟨wr.heap.size, 4, none⟩ = some (.int .i64 pf) ∧ w'.cell? ⟨b1, o1 + k1 * 6, none⟩ = some (.int .i64 xv) ∧ w'.cell? ⟨b1, o1 + k1 * 6 + 1, none⟩ = some (.int .i64 xs) ∧ w'.cell? ⟨b1, o1 + k1 * 6 + 2, none⟩ = some (.int .i64 xp) ∧ w'.cell? ⟨b1, o1 + k1 * 6 + 3, none⟩ = some (.int .i64 xf)) (by kernel_rfl) zSlTac2_0 (fun hHeld => ?_)
    refine' zt 0 ?_
    refine' zt 1 ?_
    refine' zt 2 ?_
    refine' zt 3 ?_
    refine' zt 4 ?_
    refine' zt 5 ?_
    refine' zt 6 ?_
    refine' zt 7 ?_
    refine' zt 8 ?_
    refine wpAnyH_done (by kernel_rfl) ?_ _
    go_wp2_with fail
    go_ret
    exact ⟨rfl, zxt⟩
   have qod : decide (t < ph) = false := decide_eq_false qo
   have hwt : IntKind.u64.wrap (t - ph) = t - ph := IntWalk.u64_in _ (by have := HB.out; have h4 := HQ.out.2.2; have h6 := (HW.out _ HXM.out).2.2; change xh < _ at h6; have := shO_nn (ps := ps.take k) (fun x hx => HU.out x (List.mem_of_mem_take hx)) [xv, xs, xp, xf]; omega)
   have HNT := Lib.hid (show t - ph = xh - shO (ps.take (k + 1)) [xv, xs, xp, xf] ∧ 0 ≤ t - ph from by have := HQ.out; have := HQ2.out; omega)
   go_wp2_with fail
   refine wp_region_held_drew (S := fun w' => w'.cell? ⟨w.heap.size, 0, none⟩ = some (.slice (some ⟨b1, o1, none⟩) n c) ∧ w'.cell? ⟨wr.heap.size, 1, none⟩ = some (.int .i64 pv) ∧ w'.cell? ⟨wr.heap.size, 2, none⟩ = some (.int .i64 ps_) ∧ w'.cell? ⟨wr.heap.size, 3, none⟩ = some (.int .i64 pp) ∧ w'.cell? ⟨wr.heap.size, 4, none⟩ = some (.int .i64 pf) ∧ w'.cell? ⟨b1, o1 + k1 * 6, none⟩ = some (.int .i64 xv) ∧ w'.cell? ⟨b1, o1 + k1 * 6 + 1, none⟩ = some (.int .i64 xs) ∧ w'.cell? ⟨b1, o1 + k1 * 6 + 2, none⟩ = some (.int .i64 xp) ∧ w'.cell? ⟨b1, o1 + k1 * 6 + 3, none⟩ = some (.int .i64 xf)) (by kernel_rfl) zSlTac2_0 (fun hHeld => ?_)
   refine' zt 0 ?_
   refine' zt 1 ?_
   refine' zt 2 ?_
   refine' zt 3 ?_
   refine' zt 4 ?_
   refine' zt 5 ?_
   refine' zt 6 ?_
   refine' zt 7 ?_
   refine' zt 8 ?_
   refine wpAnyH_done (by kernel_rfl) ?_ _
   go_wp2_with fail
   go_roundg (gk - 1)
   case measure => have := HK.out; omega
   exact ⟨by have := HK.out; omega, num_eq (by have := HK.out; omega), by rw [show n2 - (gk - 1) = k + 1 from by have := HK.out; omega]; exact u64_eq (by have := HNT.out; omega), by rw [show n2 - (gk - 1) = k + 1 from by have := HK.out; omega]; exact Lib.hid (by have := HNT.out; have := HB.out; omega), ⟨by simp [go_sem, World.cell?_alloc_past, *], by simp [go_sem, World.cell?_alloc_past, *]⟩, Lib.hid zxt⟩
  have HNT := Lib.hid (show t = xh - shO (ps.take (k + 1)) [xv, xs, xp, xf] from by have h1 := HQ.out.1; rw [if_neg (by simpa using hq)] at h1; have := HQ.out; omega)
  have hqb := four_false hq
  clear hq
  go_wp2_with fail
  refine wp_region_held_drew (S := fun w' => w'.cell? ⟨w.heap.size, 0, none⟩ = some (.slice (some ⟨b1, o1, none⟩) n c) ∧ w'.cell? ⟨wr.heap.size, 1, none⟩ = some (.int .i64 pv) ∧ w'.cell? ⟨wr.heap.size, 2, none⟩ = some (.int .i64 ps_) ∧ w'.cell? ⟨wr.heap.size, 3, none⟩ = some (.int .i64 pp) ∧ w'.cell? ⟨wr.heap.size, 4, none⟩ = some (.int .i64 pf) ∧ w'.cell? ⟨b1, o1 + k1 * 6, none⟩ = some (.int .i64 xv) ∧ w'.cell? ⟨b1, o1 + k1 * 6 + 1, none⟩ = some (.int .i64 xs) ∧ w'.cell? ⟨b1, o1 + k1 * 6 + 2, none⟩ = some (.int .i64 xp) ∧ w'.cell? ⟨b1, o1 + k1 * 6 + 3, none⟩ = some (.int .i64 xf)) (by kernel_rfl) zSlTac2_0 (fun hHeld => ?_)
  refine' zt 0 ?_
  refine' zt 1 ?_
  refine' zt 2 ?_
  refine' zt 3 ?_
  refine' zt 4 ?_
  refine' zt 5 ?_
  refine' zt 6 ?_
  refine' zt 7 ?_
  refine' zt 8 ?_
  refine wpAnyH_done (by kernel_rfl) ?_ _
  go_wp2_with fail
  go_roundg (gk - 1)
  case measure => have := HK.out; omega
  exact ⟨by have := HK.out; omega, num_eq (by have := HK.out; omega), by rw [show n2 - (gk - 1) = k + 1 from by have := HK.out; omega]; exact u64_eq (by have := HNT.out; omega), by rw [show n2 - (gk - 1) = k + 1 from by have := HK.out; omega]; exact Lib.hid (by have := HNT.out; have := HB.out; omega), ⟨by simp [go_sem, World.cell?_alloc_past, *], by simp [go_sem, World.cell?_alloc_past, *]⟩, Lib.hid zxt⟩
 have hkn : (k : Int) < (n2 : Int) := by omega
 have hkl : k < ps.length := by have := HLL.out.2; omega
 have HTr := Lib.hid (HT.out.ext XR.out)
 obtain ⟨b2, o2, rfl, hb2, hc_p⟩ := HTr.out.rec_ posC_len (show 0 < n2 from by omega)
 obtain ⟨pw, hl_p⟩ : ∃ x, ps[k]? = some x := ⟨_, List.getElem?_eq_getElem (by omega)⟩
 have p_0 := hc_p (k) pw hl_p 0 _ rfl
 have p_1 := hc_p (k) pw hl_p 1 _ rfl
 have p_2 := hc_p (k) pw hl_p 2 _ rfl
 have p_3 := hc_p (k) pw hl_p 3 _ rfl
 have p_4 := hc_p (k) pw hl_p 4 _ rfl
 have p_5 := hc_p (k) pw hl_p 5 _ rfl
 obtain ⟨po, pv, ps_, pp, pf, ph⟩ := pw
 simp only at p_0 p_1 p_2 p_3 p_4 p_5
 rw [Nat.add_zero] at p_0
 rw [← Nat.add_assoc] at p_1 p_2 p_3 p_4 p_5
 have C2 := Lib.hid (fun w => r13owner_any po w)
 obtain ⟨OB, hOB⟩ : ∃ OB, OB = decide (0 ≤ po ∧ po < 64) := ⟨_, rfl⟩
 rw [← hOB] at C2
 have CCk := Lib.hid (CC.out pv ps_ pp pf)
 have HK := Lib.hid (And.intro hk (And.intro hg hz))
 have HX := Lib.hid (And.intro hl_p hOB)
 have hb2s : ¬ b2 = wr.heap.size := by omega
 have hqs : ¬ w.heap.size = wr.heap.size := by omega
 by_cases hk0 : k = 0
 ·subst hk0
  have HP := Lib.hid (show prevGe (prK kP ps 0) [po, pv, ps_, pp, pf] = false from rfl)
  clear hk hg hz hkl hl_p hOB hc_p HTr
  simp only [Nat.zero_mul, Nat.add_zero] at p_0 p_1 p_2 p_3 p_4 p_5
  simp only [Int.cast_ofNat_Int] at hkn ⊢
  go_wp2_with fail
  (with_reducible refine (C2.out _).mono ?_)
  rintro e w_1 ⟨rfl, rfl⟩
  rcases (show OB = false ∨ OB = true from by cases OB <;> simp) with rfl | rfl
  ·obtain rfl : V = 3 := HV.out.trans (posV_go (posGo_at HI.out HX.out.1 (posOne_range (of_decide_eq_false HX.out.2.symm)) (by decide)) (by decide))
   go_wp2_with fail
   go_ret
   exact ⟨rfl, zxt⟩
  go_wp2_with fail
  refine wp_region_held_drew (S := fun w' => True) (by kernel_rfl) (by first | exact trivial | (simp [go_sem, World.cell?_alloc_past, *]; done)) (fun hHeld => ?_)
  refine' zt 0 ?_
  refine' zt 1 ?_
  refine' zt 2 ?_
  refine' zs 3 ?_
  refine' zs 4 ?_
  refine' zs 5 ?_
  refine' zs 6 ?_
  refine' zs 7 ?_
  refine' zs 8 ?_
  refine' zs 9 ?_
  refine' zs 10 ?_
  refine' zs 11 ?_
  refine' zt 12 ?_
  refine' zt 13 ?_
  refine wpAnyH_done (by kernel_rfl) ?_ _
  by_cases q6 : ph = 0
  ·have q6c : (ph == 0) = true := by simp [q6]
   obtain rfl : V = 14 := HV.out.trans (posV_go (posGo_at HI.out HX.out.1 (posOne_dust (show 0 ≤ po ∧ po < 64 from of_decide_eq_true HX.out.2.symm) HP.out q6) (by decide)) (by decide))
   go_wp2_with fail
   go_ret
   exact ⟨rfl, zxt⟩
  have q6c : (ph == 0) = false := by simpa using q6
  go_wp2_with fail
  (with_reducible refine (CCk.out _ zxt).mono ?_)
  rintro e w11 ⟨ci, rfl, hfi, hx11⟩
  replace b_0 := zh hx11 b_0
  replace b_1 := zh hx11 b_1
  have z11 := hx11.size
  try simp at z11
  have rb := zr w.heap.size w11
  have X11 : Hid (Ext w w11) := Lib.hid (Ext.trans zxt hx11)
  clear p_2 p_5 p_4 p_3 p_1 p_0 XR hx11 z11
  have HFI := Lib.hid hfi
  clear hfi
  rcases HFI.out with ⟨rfl, hN⟩ | ⟨mm, xw, rfl, hM, hG9⟩
  ·obtain rfl : V = 10 := HV.out.trans (posV_go (posGo_at HI.out HX.out.1 (posOne_unknown' (show 0 ≤ po ∧ po < 64 from of_decide_eq_true HX.out.2.symm) HP.out q6 hN) (by decide)) (by decide))
   go_wp2_with fail
   go_ret
   exact ⟨rfl, zxt⟩
  have hmm0 : ¬ (mm : Int) < 0 := by omega
  have HN := Lib.hid (posGo_next HI.out HX.out.1 (posOne_fine (show 0 ≤ po ∧ po < 64 from of_decide_eq_true HX.out.2.symm) HP.out q6 hG9))
  clear hM hG9
  go_wp2_with fail
  go_roundg (gk - 1)
  case measure => have := HK.out; omega
  exact ⟨by have := HK.out; omega, num_eq (by have := HK.out; omega), by rw [show n2 - (gk - 1) = 0 + 1 from by have := HK.out; omega]; exact HN, ⟨b_0, b_1⟩, Lib.hid zxt⟩
 obtain ⟨m, rfl⟩ : ∃ m, k = m + 1 := ⟨k - 1, by omega⟩
 obtain ⟨yw, hl_y⟩ : ∃ x, ps[m]? = some x := ⟨_, List.getElem?_eq_getElem (by omega)⟩
 have y_0 := hc_p m yw hl_y 0 _ rfl
 have y_1 := hc_p m yw hl_y 1 _ rfl
 have y_2 := hc_p m yw hl_y 2 _ rfl
 have y_3 := hc_p m yw hl_y 3 _ rfl
 have y_4 := hc_p m yw hl_y 4 _ rfl
 have y_5 := hc_p m yw hl_y 5 _ rfl
 obtain ⟨qo, qv, qs, qp, qf, qh⟩ := yw
 simp only at y_0 y_1 y_2 y_3 y_4 y_5
 rw [Nat.add_zero] at y_0
 rw [← Nat.add_assoc] at y_1 y_2 y_3 y_4 y_5
 obtain ⟨G, hG⟩ : ∃ G, G = decide (cmpK [qo, qv, qs, qp, qf] [po, pv, ps_, pp, pf] < 0) := ⟨_, rfl⟩
 have CG := Lib.hid (fun w => r13below_any qo qv qs qp qf qh po pv ps_ pp pf ph w)
 rw [← hG] at CG
 have HP := Lib.hid (show prevGe (prK kP ps (m + 1)) [po, pv, ps_, pp, pf] = !G from by rw [prK_succ hl_y, hG]; show decide (0 ≤ _) = _; by_cases hh : cmpK [qo, qv, qs, qp, qf] [po, pv, ps_, pp, pf] < 0; rw [decide_eq_true hh]; exact decide_eq_false (by show ¬ 0 ≤ cmpK [qo, qv, qs, qp, qf] _; omega); rw [decide_eq_false hh]; exact decide_eq_true (by show 0 ≤ cmpK [qo, qv, qs, qp, qf] _; omega))
 have hm1 : (m : Int) + 1 - 1 = (m : Int) := by omega
 have hmd : decide ((0 : Int) < (m : Int) + 1) = true := decide_eq_true (by omega)
 have hmp : (0 : Int) < (m : Int) + 1 := by omega
 have hml : (m : Int) < (n2 : Int) := by omega
 have hmw : IntKind.i64.wrap (m : Int) = (m : Int) := IntWalk.i64_in _ (by omega)
 have hmw2 : IntKind.i64.wrap ((m : Int) + 1 - 1) = (m : Int) := by rw [hm1]; exact hmw
 have hms : m ≤ 9223372036854775806 := by omega
 clear hk hg hz hkl hl_p hl_y hOB hG hc_p HTr
 go_wp2_with fail
 (with_reducible refine (C2.out _).mono ?_)
 rintro e w_1 ⟨rfl, rfl⟩
 rcases (show OB = false ∨ OB = true from by cases OB <;> simp) with rfl | rfl
 ·obtain rfl : V = 3 := HV.out.trans (posV_go (posGo_at HI.out HX.out.1 (posOne_range (of_decide_eq_false HX.out.2.symm)) (by decide)) (by decide))
  go_wp2_with fail
  go_ret
  exact ⟨rfl, zxt⟩
 go_wp2_with fail
 refine wp_region_held_drew (S := fun w' => w'.cell? ⟨w.heap.size, 1, none⟩ = some (.slice (some ⟨b2, o2, none⟩) n2 c2) ∧ w'.cell? ⟨wr.heap.size, 0, none⟩ = some (.int .i64 po) ∧ w'.cell? ⟨wr.heap.size, 1, none⟩ = some (.int .i64 pv) ∧ w'.cell? ⟨wr.heap.size, 2, none⟩ = some (.int .i64 ps_) ∧ w'.cell? ⟨wr.heap.size, 3, none⟩ = some (.int .i64 pp) ∧ w'.cell? ⟨wr.heap.size, 4, none⟩ = some (.int .i64 pf) ∧ w'.cell? ⟨wr.heap.size, 5, none⟩ = some (.int .u64 ph) ∧ w'.cell? ⟨b2, o2 + m * 6, none⟩ = some (.int .i64 qo) ∧ w'.cell? ⟨b2, o2 + m * 6 + 1, none⟩ = some (.int .i64 qv) ∧ w'.cell? ⟨b2, o2 + m * 6 + 2, none⟩ = some (.int .i64 qs) ∧ w'.cell? ⟨b2, o2 + m * 6 + 3, none⟩ = some (.int .i64 qp) ∧ w'.cell? ⟨b2, o2 + m * 6 + 4, none⟩ = some (.int .i64 qf) ∧ w'.cell? ⟨b2, o2 + m * 6 + 5, none⟩ = some (.int .u64 qh)) (by kernel_rfl) (by first | with_reducible exact ⟨b_1, c0_0, c0_1, c0_2, c0_3, c0_4, c0_5, y_0, y_1, y_2, y_3, y_4, y_5⟩ | (simp [go_sem, World.cell?_alloc_past, *]; done)) (fun hHeld => ?_)
 refine' zt 0 ?_
 refine' zt 1 ?_
 refine' zt 2 ?_
 refine' zt 3 ?_
 refine' zt 4 ?_
 refine' zt 5 ?_
 refine' zt 6 ?_
 refine' zt 7 ?_
 refine' zt 8 ?_
 refine' zt 9 ?_
 refine' zn 10 (fun K hK => ?_)
 go_simp
 (with_reducible refine (CG.out _).mono ?_)
 rintro e w11 ⟨rfl, hx11⟩
 replace y_0 := zh hx11 y_0
 replace y_1 := zh hx11 y_1
 replace y_2 := zh hx11 y_2
 replace y_3 := zh hx11 y_3
 replace y_4 := zh hx11 y_4
 replace y_5 := zh hx11 y_5
 replace b_0 := zh hx11 b_0
 replace b_1 := zh hx11 b_1
 have c0_0 : w11.cell? ⟨wr.heap.size, 0, none⟩ = some (.int .i64 po) := hx11.has zcv
 have c0_1 : w11.cell? ⟨wr.heap.size, 1, none⟩ = some (.int .i64 pv) := hx11.has zcv
 have c0_2 : w11.cell? ⟨wr.heap.size, 2, none⟩ = some (.int .i64 ps_) := hx11.has zcv
 have c0_3 : w11.cell? ⟨wr.heap.size, 3, none⟩ = some (.int .i64 pp) := hx11.has zcv
 have c0_4 : w11.cell? ⟨wr.heap.size, 4, none⟩ = some (.int .i64 pf) := hx11.has zcv
 have c0_5 : w11.cell? ⟨wr.heap.size, 5, none⟩ = some (.int .u64 ph) := hx11.has zcv
 have z11 := hx11.size
 try simp at z11
 have lt_y_c0 := zl b2 wr.heap.size
 have lt_b_c0 := zl w.heap.size wr.heap.size
 have ry := zr b2 w11
 have rb := zr w.heap.size w11
 have rc0 := zr wr.heap.size w11
 have X11 : Hid (Ext w w11) := Lib.hid (Ext.trans zxt hx11)
 clear p_2 p_5 p_4 p_3 p_1 p_0 XR hx11 z11
 refine' zk hK (by (first | exact ⟨b_1, c0_0, c0_1, c0_2, c0_3, c0_4, c0_5, y_0, y_1, y_2, y_3, y_4, y_5⟩ | (simp [go_sem, World.cell?_alloc_past, *]; done))) (fun hHeld => ?_); clear hK K
 refine' zt 11 ?_
 refine' zt 12 ?_
 refine' zt 13 ?_
 refine wpAnyH_done (by kernel_rfl) ?_ _
 rcases (show G = false ∨ G = true from by cases G <;> simp) with rfl | rfl
 ·obtain rfl : V = 9 := HV.out.trans (posV_go (posGo_at HI.out HX.out.1 (posOne_order (show 0 ≤ po ∧ po < 64 from of_decide_eq_true HX.out.2.symm) HP.out) (by decide)) (by decide))
  go_wp2_with fail
  go_ret
  exact ⟨rfl, zxt⟩
 replace HP := Lib.hid HP.out
 by_cases q6 : ph = 0
 ·have q6c : (ph == 0) = true := by simp [q6]
  obtain rfl : V = 14 := HV.out.trans (posV_go (posGo_at HI.out HX.out.1 (posOne_dust (show 0 ≤ po ∧ po < 64 from of_decide_eq_true HX.out.2.symm) HP.out q6) (by decide)) (by decide))
  go_wp2_with fail
  go_ret
  exact ⟨rfl, zxt⟩
 have q6c : (ph == 0) = false := by simpa using q6
 go_wp2_with fail
 (with_reducible refine (CCk.out _ zxt).mono ?_)
 rintro e w12 ⟨ci, rfl, hfi, hx12⟩
 replace y_0 := zh hx12 y_0
 replace y_1 := zh hx12 y_1
 replace y_2 := zh hx12 y_2
 replace y_3 := zh hx12 y_3
 replace y_4 := zh hx12 y_4
 replace y_5 := zh hx12 y_5
 replace b_0 := zh hx12 b_0
 replace b_1 := zh hx12 b_1
 replace c0_0 := zh hx12 c0_0
 replace c0_1 := zh hx12 c0_1
 replace c0_2 := zh hx12 c0_2
 replace c0_3 := zh hx12 c0_3
 replace c0_4 := zh hx12 c0_4
 replace c0_5 := zh hx12 c0_5
 have z12 := hx12.size
 try simp at z12
 replace ry := zr b2 w12
 replace rb := zr w.heap.size w12
 replace rc0 := zr wr.heap.size w12
 have X12 : Hid (Ext w w12) := Lib.hid (Ext.trans zxt hx12)
 clear X11 hx12 z12
 have HFI := Lib.hid hfi
 clear hfi
 rcases HFI.out with ⟨rfl, hN⟩ | ⟨mm, xw, rfl, hM, hG9⟩
 ·obtain rfl : V = 10 := HV.out.trans (posV_go (posGo_at HI.out HX.out.1 (posOne_unknown' (show 0 ≤ po ∧ po < 64 from of_decide_eq_true HX.out.2.symm) HP.out q6 hN) (by decide)) (by decide))
  go_wp2_with fail
  go_ret
  exact ⟨rfl, zxt⟩
 have hmm0 : ¬ (mm : Int) < 0 := by omega
 have HN := Lib.hid (posGo_next HI.out HX.out.1 (posOne_fine (show 0 ≤ po ∧ po < 64 from of_decide_eq_true HX.out.2.symm) HP.out q6 hG9))
 clear hM hG9
 go_wp2_with fail
 go_roundg (gk - 1)
 case measure => have := HK.out; omega
 exact ⟨by have := HK.out; omega, num_eq (by have := HK.out; omega), by rw [show n2 - (gk - 1) = (m + 1) + 1 from by have := HK.out; omega]; exact HN, ⟨b_0, b_1⟩, Lib.hid zxt⟩
end
end Go.Proofs.YtkinchgjidpjnaaGreat
