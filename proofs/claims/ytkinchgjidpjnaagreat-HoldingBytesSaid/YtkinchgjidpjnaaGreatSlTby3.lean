/- Tby, part 3. Conditions stand in each lemma. -/
import Derived.Test.YtkinchgjidpjnaaGreatSlTby2
set_option linter.unusedVariables false
set_option linter.unusedSimpArgs false
set_option maxRecDepth 100000
set_option maxHeartbeats 64000000
namespace Go.Proofs.YtkinchgjidpjnaaGreat
section
open Go.RowKit Go.ChangeShapes Go.WideShapes Go.Deep Go.Joins
theorem zSlTby3_0 {P : Prop} (h : P := by first | exact (fun hh => hh.1 rfl) | (intro hh; have h9 := hh.2; omega)) : P := h
theorem zSlTby3_1 {P : Prop} (h : P := by have := HQ0.out; (try simp only [List.length_append]); omega) : P := h
theorem zSlTby3_2 {P : Prop} (h : P := by first | with_reducible exact ⟨b_0, c0_1, c0_2, c0_3, c0_4, x_0, x_1, x_2, x_3⟩ | (simp [go_sem, World.cell?_alloc_past, *]; done)) : P := h
theorem posGo_at {cl ps : List I6} {k : Nat} {x : I6} {v : Int} (h : posGo cl none ps = posGo cl (prK kP ps k) (ps.drop k)) (hx : ps[k]? = some x) (h1 : posOne cl (prK kP ps k) x = v) (hv : v ≠ 0) : posGo cl none ps = v := by
 rw [h, drop_at hx]
 show (if posOne cl (prK kP ps k) x ≠ 0 then _ else _) = _
 rw [h1, if_pos hv]
theorem posGo_next {cl ps : List I6} {k : Nat} {x : I6} (h : posGo cl none ps = posGo cl (prK kP ps k) (ps.drop k)) (hx : ps[k]? = some x) (h1 : posOne cl (prK kP ps k) x = 0) : posGo cl none ps = posGo cl (prK kP ps (k + 1)) (ps.drop (k + 1)) := by
 rw [h, drop_at hx, prK_succ hx]
 show (if posOne cl (prK kP ps k) x ≠ 0 then _ else _) = _
 rw [if_neg (by simpa using h1)]
theorem posGo_end {cl ps : List I6} {k : Nat} (h : posGo cl none ps = posGo cl (prK kP ps k) (ps.drop k)) (hk : ps.length ≤ k) : posGo cl none ps = 0 := by
 rw [h, List.drop_of_length_le hk]
 rfl
theorem posV_go {cl ps : List I6} {v : Int} (h : posGo cl none ps = v) (hv : v ≠ 0) : posV cl ps = v := by unfold posV; rw [h, if_pos hv]
theorem posV_ne {cl ps : List I6} {c : I6} (h : posGo cl none ps = 0) (hc : c ∈ cl) (hn : shO ps (kC c) ≠ shC c) : posV cl ps = 11 := by
 unfold posV
 rw [if_neg (by simpa using h), if_neg]
 intro ha
 rw [List.all_eq_true] at ha
 exact hn (by simpa using ha c hc)
theorem posV_eq {cl ps : List I6} (h : posGo cl none ps = 0) (ha : ∀ c ∈ cl, shO ps (kC c) = shC c) : posV cl ps = 0 := by
 unfold posV
 rw [if_neg (by simpa using h), if_pos]
 rw [List.all_eq_true]
 intro c hc
 simpa using ha c hc
theorem posOne_unknown' {cl : List I6} {pr : Option (List Int)} {p : I6} (h : 0 ≤ p.1 ∧ p.1 < 64) (h2 : prevGe pr (kP p) = false) (h3 : shP p ≠ 0) (h4 : getK kC cl (stP p) = none) : posOne cl pr p = 10 := by
 unfold posOne
 rw [if_neg (by omega), if_neg (by simp [h2]), if_neg h3, if_pos (by rw [h4]; rfl)]
theorem posOne_fine {cl : List I6} {pr : Option (List Int)} {p c : I6} (h : 0 ≤ p.1 ∧ p.1 < 64) (h2 : prevGe pr (kP p) = false) (h3 : shP p ≠ 0) (h4 : getK kC cl (stP p) = some c) : posOne cl pr p = 0 := by
 unfold posOne
 rw [if_neg (by omega), if_neg (by simp [h2]), if_neg h3, if_neg (by rw [h4]; simp)]
theorem u64_eq {a b : Int} (h : a = b) : Value.int .u64 a = Value.int .u64 b := by rw [h]
theorem shO_nn {ps : List I6} (hw : ∀ x ∈ ps, WdP x) (q : List Int) : 0 ≤ shO ps q := addF_nn (fun y hy => (hw y (List.mem_filter.1 hy).1).1)
theorem shO_le {ps : List I6} (hw : ∀ x ∈ ps, WdP x) (q : List Int) (k : Nat) : shO (ps.take k) q ≤ shO ps q := by
 have h : shO ps q = shO (ps.take k) q + shO (ps.drop k) q := by
  unfold shO
  conv => lhs; rw [← List.take_append_drop k ps, List.filter_append, addF_app]
 have := shO_nn (ps := ps.drop k) (fun x hx => hw x (List.mem_of_mem_drop hx)) q
 omega
theorem r13Check_any (n c n2 c2 : Nat) (A A2 : Option Addr) (cl ps : List I6) (w : World) (h : Sl w 6 A n c (cl.flatMap clsC)) (h2 : Sl w 6 A2 n2 c2 (ps.flatMap posC)) (hw : ∀ x ∈ cl, WdC x) (hw2 : ∀ x ∈ ps, WdP x) :
  Calls Tryz.prog 15 #[.agg #[.slice A n c, .slice A2 n2 c2]] w fun r w' => r = .returned (.int .i64 (chkH cl ps)) ∧ Ext w w' := by
 have hll := h.rlen clsC_len (by decide)
 have hll2 := h2.rlen posC_len (by decide)
 have hsm := h.small
 have hsm2 := h2.small
 have C1 := Lib.hid (fun (w' : World) (hx : Ext w w') => r13classes_any n c n2 c2 A A2 cl w' (h.ext hx) hw)
 obtain ⟨E, hE⟩ : ∃ E, E = clsV cl := ⟨_, rfl⟩
 obtain ⟨V, hV⟩ : ∃ V, V = chkH cl ps := ⟨_, rfl⟩
 rw [← hE] at C1
 rw [← hV]
 by_cases he : ¬ E = 0
 ·obtain rfl : V = E := by rw [hV, hE]; unfold chkH; rw [if_pos (by rw [← hE]; exact he)]
  have heb : (V != 0) = true := by simpa using he
  clear h h2 hw hw2 hE hV hll hll2
  go_enter Tryz.func15, Tryz.ntmps15
  go_wp2_with fail
  (with_reducible refine (C1.out _ zxt).mono ?_)
  rintro e w1 ⟨rfl, hx1⟩
  have z1 := hx1.size
  try simp at z1
  have X1 : Hid (Ext w w1) := Lib.hid (Ext.trans zxt hx1)
  clear hx1 z1
  go_wp2_with fail
  go_ret
  exact ⟨rfl, zxt⟩
 replace he : E = 0 := by omega
 have HV := Lib.hid (show V = posV cl ps from by rw [hV]; unfold chkH; rw [if_neg (by rw [← hE]; simpa using he)])
 have CC := Lib.hid (fun (V S P Q : Int) (w' : World) (hx : Ext w w') => r13class_any n c n2 c2 A A2 cl V S P Q w' (h.ext hx))
 have HS := Lib.hid h
 have HT := Lib.hid h2
 have HW := Lib.hid hw
 have HU := Lib.hid hw2
 have HLL := Lib.hid (And.intro hll hll2)
 have pq1 := stm_eq
 have pq2 := stm_eqg
 subst he
 clear h h2 hw hw2 hE hV hll hll2
 go_enter Tryz.func15, Tryz.ntmps15
 go_wp2_with fail
 (with_reducible refine (C1.out _ zxt).mono ?_)
 rintro e w1 ⟨rfl, hx1⟩
 have c0_0 : w1.cell? ⟨w.heap.size, 0, none⟩ = some (.slice A n c) := hx1.has zcv
 have c0_1 : w1.cell? ⟨w.heap.size, 1, none⟩ = some (.slice A2 n2 c2) := hx1.has zcv
 have z1 := hx1.size
 try simp at z1
 have rc0 := zr w.heap.size w1
 have X1 : Hid (Ext w w1) := Lib.hid (Ext.trans zxt hx1)
 clear hx1 z1
 go_wp2_with fail
 go_loopg [4] n2 (fun gh i wx => gh ≤ n2 ∧ i = .int .i64 ((n2 - gh : Nat) : Int) ∧ Hid (posGo cl none ps = posGo cl (prK kP ps (n2 - gh)) (ps.drop (n2 - gh))) ∧ (wx.cell? ⟨w.heap.size, 0, none⟩ = some (.slice A n c) ∧ wx.cell? ⟨w.heap.size, 1, none⟩ = some (.slice A2 n2 c2)) ∧ Hid (Ext w wx))
 case atStart => exact ⟨Nat.le_refl _, by simp, by rw [Nat.sub_self]; exact Lib.hid rfl, ⟨c0_0, c0_1⟩, Lib.hid zxt⟩
 obtain ⟨hg, hi, HI, ⟨b_0, b_1⟩, XR⟩ := hrel
 obtain ⟨k, hk⟩ : ∃ k, k = n2 - gk := ⟨_, rfl⟩
 rw [← hk] at hi HI
 subst hi
 have hqr := cell_lt b_0
 by_cases hz : gk = 0
 ·have hkn : ¬ (k : Int) < (n2 : Int) := by omega
  have hG := posGo_end HI.out (by have := HLL.out.2; omega)
  have HG := Lib.hid hG
  clear hk hg hz HI hG
  go_wp2_with fail
  go_loopg [6] n (fun gh i wx => gh ≤ n ∧ i = .int .i64 ((n - gh : Nat) : Int) ∧ Hid (∀ c ∈ cl.take (n - gh), shO ps (kC c) = shC c) ∧ (wx.cell? ⟨w.heap.size, 0, none⟩ = some (.slice A n c) ∧ wx.cell? ⟨w.heap.size, 1, none⟩ = some (.slice A2 n2 c2)) ∧ Hid (Ext w wx))
  case atStart => exact ⟨Nat.le_refl _, by simp, by rw [Nat.sub_self]; exact Lib.hid (fun c h => by cases h), ⟨b_0, b_1⟩, XR⟩
  clear XR b_0 b_1 hqr
  obtain ⟨hg, hi, HA, ⟨b_0, b_1⟩, XR⟩ := hrel
  obtain ⟨g1, hg1⟩ : ∃ g, g = gk := ⟨_, rfl⟩
  rw [← hg1] at hg hi HA
  obtain ⟨k1, hk1⟩ : ∃ k, k = n - g1 := ⟨_, rfl⟩
  rw [← hk1] at hi HA
  subst hi
  have hqr := cell_lt b_0
  by_cases hz : g1 = 0
  ·have hkn1 : ¬ (k1 : Int) < (n : Int) := by omega
   obtain rfl : V = 0 := HV.out.trans (posV_eq HG.out (by have hh := HA.out; rwa [List.take_of_length_le (by have := HLL.out.1; omega)] at hh))
   clear hk1 hg hz HA HG
   go_wp2
   go_ret
   exact ⟨rfl, XR.out⟩
  have hkn1 : (k1 : Int) < (n : Int) := by omega
  have hkl1 : k1 < cl.length := by have := HLL.out.1; omega
  have HSr := Lib.hid (HS.out.ext XR.out)
  obtain ⟨b1, o1, rfl, hb1, hc_x⟩ := HSr.out.rec_ clsC_len (show 0 < n from by omega)
  obtain ⟨xw, hl_x⟩ : ∃ x, cl[k1]? = some x := ⟨_, List.getElem?_eq_getElem (by omega)⟩
  have x_0 := hc_x (k1) xw hl_x 0 _ rfl
  have x_1 := hc_x (k1) xw hl_x 1 _ rfl
  have x_2 := hc_x (k1) xw hl_x 2 _ rfl
  have x_3 := hc_x (k1) xw hl_x 3 _ rfl
  have x_4 := hc_x (k1) xw hl_x 4 _ rfl
  have x_5 := hc_x (k1) xw hl_x 5 _ rfl
  obtain ⟨xv, xs, xp, xf, xt, xh⟩ := xw
  simp only at x_0 x_1 x_2 x_3 x_4 x_5
  rw [Nat.add_zero] at x_0
  rw [← Nat.add_assoc] at x_1 x_2 x_3 x_4 x_5
  have HX1 := Lib.hid (And.intro hl_x (And.intro hk1 (And.intro hg hz)))
  have hxm := List.mem_of_getElem? hl_x
  have hxw : 0 ≤ xh := (HW.out _ hxm).2.1
  have HXM := Lib.hid hxm
  clear hc_x HSr hl_x hk1 hg hz hkl1 hxm
  go_wp2_with fail
  go_loopg [7, 8] n2 (fun gh a j wx => gh ≤ n2 ∧ j = .int .i64 ((n2 - gh : Nat) : Int) ∧ a = .int .u64 (xh - shO (ps.take (n2 - gh)) [xv, xs, xp, xf]) ∧ Hid (0 ≤ xh - shO (ps.take (n2 - gh)) [xv, xs, xp, xf]) ∧ (wx.cell? ⟨w.heap.size, 0, none⟩ = some (.slice (some ⟨b1, o1, none⟩) n c) ∧ wx.cell? ⟨w.heap.size, 1, none⟩ = some (.slice A2 n2 c2)) ∧ Hid (Ext w wx))
  case atStart => exact ⟨Nat.le_refl _, by simp, by rw [Nat.sub_self]; exact u64_eq (by simp [shO, addF]), by rw [Nat.sub_self]; exact Lib.hid (by simpa [shO, addF] using hxw), ⟨b_0, b_1⟩, XR⟩
  clear XR b_0 b_1 hqr
  obtain ⟨hg, hj, ha, HB, ⟨b_0, b_1⟩, XR⟩ := hrel
  obtain ⟨k, hk⟩ : ∃ k, k = n2 - gk := ⟨_, rfl⟩
  rw [← hk] at hj ha HB
  subst hj
  obtain ⟨t, ht⟩ : ∃ t, t = xh - shO (ps.take k) [xv, xs, xp, xf] := ⟨_, rfl⟩
  rw [← ht] at ha HB
  subst ha
  have hqr := cell_lt b_0
  by_cases hz : gk = 0
  ·have hkn : ¬ (k : Int) < (n2 : Int) := by omega
   have hT : t = xh - shO ps [xv, xs, xp, xf] := by rw [ht, List.take_of_length_le (by have := HLL.out.2; omega)]
   have HT0 := Lib.hid hT
   have HBX := HB
   clear hk hg hz ht HB hT x_0 x_1 x_2 x_3 x_4 x_5
   by_cases q : 0 < t
   ·have qd : decide (0 < t) = true := decide_eq_true q
    obtain rfl : V = 11 := HV.out.trans (posV_ne HG.out HXM.out (by show shO ps [xv, xs, xp, xf] ≠ xh; have := HT0.out; omega))
    go_wp2_with fail
    go_ret
    exact ⟨rfl, zxt⟩
   have qd : decide (0 < t) = false := decide_eq_false q
   have HN := Lib.hid (show ∀ c ∈ cl.take (k1 + 1), shO ps (kC c) = shC c from by
    intro c hc
    rw [List.take_add_one, HX1.out.1] at hc
    rcases List.mem_append.1 hc with hc | hc
    ·exact HA.out c hc
    obtain rfl : c = (xv, xs, xp, xf, xt, xh) := by simpa using hc
    show shO ps [xv, xs, xp, xf] = xh
    have := HT0.out
    have := HBX.out
    omega)
   go_wp2_with fail
   go_roundg (g1 - 1)
   case measure => have := HX1.out; omega
   exact ⟨by have := HX1.out; omega, num_eq (by have := HX1.out; omega), by rw [show n - (g1 - 1) = k1 + 1 from by have := HX1.out; omega]; exact HN, ⟨b_0, b_1⟩, Lib.hid zxt⟩
  have hkn : (k : Int) < (n2 : Int) := by omega
  have hkl : k < ps.length := by have := HLL.out.2; omega
  have HTr := Lib.hid (HT.out.ext XR.out)
  obtain ⟨b2, o2, rfl, hb2, hc_p⟩ := HTr.out.rec_ posC_len (show 0 < n2 from by omega)
  have hSx := HS.out.ext XR.out
  obtain ⟨bq, oq, hbq, hb1, hc_x⟩ := hSx.rec_ clsC_len (show 0 < n from by omega)
  obtain ⟨rfl, rfl⟩ : b1 = bq ∧ o1 = oq := by simpa using hbq
  replace x_0 := hc_x k1 _ HX1.out.1 0 _ rfl
  replace x_1 := hc_x k1 _ HX1.out.1 1 _ rfl
  replace x_2 := hc_x k1 _ HX1.out.1 2 _ rfl
  replace x_3 := hc_x k1 _ HX1.out.1 3 _ rfl
  simp only at x_0 x_1 x_2 x_3
  rw [Nat.add_zero] at x_0
  rw [← Nat.add_assoc] at x_1 x_2 x_3
  obtain ⟨pw, hl_p⟩ : ∃ x, ps[k]? = some x := ⟨_, List.getElem?_eq_getElem (by omega)⟩
  have p_0 := hc_p (k) pw hl_p 0 _ rfl
  have p_1 := hc_p (k) pw hl_p 1 _ rfl
  have p_2 := hc_p (k) pw hl_p 2 _ rfl
  have p_3 := hc_p (k) pw hl_p 3 _ rfl
  have p_4 := hc_p (k) pw hl_p 4 _ rfl
  have p_5 := hc_p (k) pw hl_p 5 _ rfl
  obtain ⟨po, pv, ps_, pp, pf, ph⟩ := pw
  simp only at p_0 p_1 p_2 p_3 p_4 p_5
  rw [Nat.add_zero] at p_0
  rw [← Nat.add_assoc] at p_1 p_2 p_3 p_4 p_5
  have hpw := (HU.out _ (List.mem_of_getElem? hl_p))
  change 0 ≤ ph ∧ ph < 18446744073709551616 at hpw
  have hto := shO_take hl_p [xv, xs, xp, xf]
  change shO (ps.take (k + 1)) [xv, xs, xp, xf] = shO (ps.take k) [xv, xs, xp, xf] + (if [pv, ps_, pp, pf] = [xv, xs, xp, xf] then ph else 0) at hto
  have hle := shO_le HU.out [xv, xs, xp, xf] (k + 1)
  have HQ := Lib.hid (And.intro hto (And.intro hle ht))
  have HK := Lib.hid (And.intro hk (And.intro hg hz))
  have hb1s : ¬ b1 = wr.heap.size := by omega
  have hb2s : ¬ b2 = wr.heap.size := by omega
  have hqs : ¬ w.heap.size = wr.heap.size := by omega
  clear hk hg hz hkl hl_p hc_p hc_x hSx HTr hto hle ht hbq x_4 x_5
  by_cases hq : pv = xv ∧ ps_ = xs ∧ pp = xp ∧ pf = xf
  ·have hto2 : shO (ps.take (k + 1)) [xv, xs, xp, xf] = shO (ps.take k) [xv, xs, xp, xf] + ph := by rw [HQ.out.1, if_pos (by simp [hq])]
   have HQ2 := Lib.hid hto2
   have hqb := four_true hq
   clear hto2 hq
   by_cases qo : t < ph
   ·have qod : decide (t < ph) = true := decide_eq_true qo
    obtain rfl : V = 11 := HV.out.trans (posV_ne HG.out HXM.out (by show shO ps [xv, xs, xp, xf] ≠ xh; have := HQ.out; have := HQ2.out; omega))
    go_wp2_with fail
    refine wp_region_held_drew (S := fun w' => w'.cell? ⟨w.heap.size, 0, none⟩ = some (.slice (some ⟨b1, o1, none⟩) n c) ∧ w'.cell? ⟨wr.heap.size, 1, none⟩ = some (.int .i64 pv) ∧ w'.cell? ⟨wr.heap.size, 2, none⟩ = some (.int .i64 ps_) ∧ w'.cell? ⟨wr.heap.size, 3, none⟩ = some (.int .i64 pp) ∧ w'.cell? ⟨wr.heap.size, 4, none⟩ = some (.int .i64 pf) ∧ w'.cell? ⟨b1, o1 + k1 * 6, none⟩ = some (.int .i64 xv) ∧ w'.cell? ⟨b1, o1 + k1 * 6 + 1, none⟩ = some (.int .i64 xs) ∧ w'.cell? ⟨b1, o1 + k1 * 6 + 2, none⟩ = some (.int .i64 xp) ∧ w'.cell? ⟨b1, o1 + k1 * 6 + 3, none⟩ = some (.int .i64 xf)) (by kernel_rfl) zSlTby3_2 (fun hHeld => ?_)
    refine' zt 0 ?_
    refine' zt 1 ?_
    refine' zt 2 ?_
    refine' zt 3 ?_
    refine' zt 4 ?_
    refine' zt 5 ?_
    refine' zt 6 ?_
    refine' zt 7 ?_
    refine' zt 8 ?_
    refine wpAnyH_done (by kernel_rfl) ?_ _
    go_wp2_with fail
    go_ret
    exact ⟨rfl, zxt⟩
   have qod : decide (t < ph) = false := decide_eq_false qo
   have hwt : IntKind.u64.wrap (t - ph) = t - ph := IntWalk.u64_in _ (by have := HB.out; have h4 := HQ.out.2.2; have h6 := (HW.out _ HXM.out).2.2; change xh < _ at h6; have := shO_nn (ps := ps.take k) (fun x hx => HU.out x (List.mem_of_mem_take hx)) [xv, xs, xp, xf]; omega)
   have HNT := Lib.hid (show t - ph = xh - shO (ps.take (k + 1)) [xv, xs, xp, xf] ∧ 0 ≤ t - ph from by have := HQ.out; have := HQ2.out; omega)
   go_wp2_with fail
   refine wp_region_held_drew (S := fun w' => w'.cell? ⟨w.heap.size, 0, none⟩ = some (.slice (some ⟨b1, o1, none⟩) n c) ∧ w'.cell? ⟨wr.heap.size, 1, none⟩ = some (.int .i64 pv) ∧ w'.cell? ⟨wr.heap.size, 2, none⟩ = some (.int .i64 ps_) ∧ w'.cell? ⟨wr.heap.size, 3, none⟩ = some (.int .i64 pp) ∧ w'.cell? ⟨wr.heap.size, 4, none⟩ = some (.int .i64 pf) ∧ w'.cell? ⟨b1, o1 + k1 * 6, none⟩ = some (.int .i64 xv) ∧ w'.cell? ⟨b1, o1 + k1 * 6 + 1, none⟩ = some (.int .i64 xs) ∧ w'.cell? ⟨b1, o1 + k1 * 6 + 2, none⟩ = some (.int .i64 xp) ∧ w'.cell? ⟨b1, o1 + k1 * 6 + 3, none⟩ = some (.int .i64 xf)) (by kernel_rfl) zSlTby3_2 (fun hHeld => ?_)
   refine' zt 0 ?_
   refine' zt 1 ?_
   refine' zt 2 ?_
   refine' zt 3 ?_
   refine' zt 4 ?_
   refine' zt 5 ?_
   refine' zt 6 ?_
   refine' zt 7 ?_
   refine' zt 8 ?_
   refine wpAnyH_done (by kernel_rfl) ?_ _
   go_wp2_with fail
   go_roundg (gk - 1)
   case measure => have := HK.out; omega
   exact ⟨by have := HK.out; omega, num_eq (by have := HK.out; omega), by rw [show n2 - (gk - 1) = k + 1 from by have := HK.out; omega]; exact u64_eq (by have := HNT.out; omega), by rw [show n2 - (gk - 1) = k + 1 from by have := HK.out; omega]; exact Lib.hid (by have := HNT.out; have := HB.out; omega), ⟨by simp [go_sem, World.cell?_alloc_past, *], by simp [go_sem, World.cell?_alloc_past, *]⟩, Lib.hid zxt⟩
  have HNT := Lib.hid (show t = xh - shO (ps.take (k + 1)) [xv, xs, xp, xf] from by have h1 := HQ.out.1; rw [if_neg (by simpa using hq)] at h1; have := HQ.out; omega)
  have hqb := four_false hq
  clear hq
  go_wp2_with fail
  refine wp_region_held_drew (S := fun w' => w'.cell? ⟨w.heap.size, 0, none⟩ = some (.slice (some ⟨b1, o1, none⟩) n c) ∧ w'.cell? ⟨wr.heap.size, 1, none⟩ = some (.int .i64 pv) ∧ w'.cell? ⟨wr.heap.size, 2, none⟩ = some (.int .i64 ps_) ∧ w'.cell? ⟨wr.heap.size, 3, none⟩ = some (.int .i64 pp) ∧ w'.cell? ⟨wr.heap.size, 4, none⟩ = some (.int .i64 pf) ∧ w'.cell? ⟨b1, o1 + k1 * 6, none⟩ = some (.int .i64 xv) ∧ w'.cell? ⟨b1, o1 + k1 * 6 + 1, none⟩ = some (.int .i64 xs) ∧ w'.cell? ⟨b1, o1 + k1 * 6 + 2, none⟩ = some (.int .i64 xp) ∧ w'.cell? ⟨b1, o1 + k1 * 6 + 3, none⟩ = some (.int .i64 xf)) (by kernel_rfl) zSlTby3_2 (fun hHeld => ?_)
  refine' zt 0 ?_
  refine' zt 1 ?_
  refine' zt 2 ?_
  refine' zt 3 ?_
  refine' zt 4 ?_
  refine' zt 5 ?_
  refine' zt 6 ?_
  refine' zt 7 ?_
  refine' zt 8 ?_
  refine wpAnyH_done (by kernel_rfl) ?_ _
  go_wp2_with fail
  go_roundg (gk - 1)
  case measure => have := HK.out; omega
  exact ⟨by have := HK.out; omega, num_eq (by have := HK.out; omega), by rw [show n2 - (gk - 1) = k + 1 from by have := HK.out; omega]; exact u64_eq (by have := HNT.out; omega), by rw [show n2 - (gk - 1) = k + 1 from by have := HK.out; omega]; exact Lib.hid (by have := HNT.out; have := HB.out; omega), ⟨by simp [go_sem, World.cell?_alloc_past, *], by simp [go_sem, World.cell?_alloc_past, *]⟩, Lib.hid zxt⟩
 have hkn : (k : Int) < (n2 : Int) := by omega
 have hkl : k < ps.length := by have := HLL.out.2; omega
 have HTr := Lib.hid (HT.out.ext XR.out)
 obtain ⟨b2, o2, rfl, hb2, hc_p⟩ := HTr.out.rec_ posC_len (show 0 < n2 from by omega)
 obtain ⟨pw, hl_p⟩ : ∃ x, ps[k]? = some x := ⟨_, List.getElem?_eq_getElem (by omega)⟩
 have p_0 := hc_p (k) pw hl_p 0 _ rfl
 have p_1 := hc_p (k) pw hl_p 1 _ rfl
 have p_2 := hc_p (k) pw hl_p 2 _ rfl
 have p_3 := hc_p (k) pw hl_p 3 _ rfl
 have p_4 := hc_p (k) pw hl_p 4 _ rfl
 have p_5 := hc_p (k) pw hl_p 5 _ rfl
 obtain ⟨po, pv, ps_, pp, pf, ph⟩ := pw
 simp only at p_0 p_1 p_2 p_3 p_4 p_5
 rw [Nat.add_zero] at p_0
 rw [← Nat.add_assoc] at p_1 p_2 p_3 p_4 p_5
 have C2 := Lib.hid (fun w => r13owner_any po w)
 obtain ⟨OB, hOB⟩ : ∃ OB, OB = decide (0 ≤ po ∧ po < 64) := ⟨_, rfl⟩
 rw [← hOB] at C2
 have CCk := Lib.hid (CC.out pv ps_ pp pf)
 have HK := Lib.hid (And.intro hk (And.intro hg hz))
 have HX := Lib.hid (And.intro hl_p hOB)
 have hb2s : ¬ b2 = wr.heap.size := by omega
 have hqs : ¬ w.heap.size = wr.heap.size := by omega
 by_cases hk0 : k = 0
 ·subst hk0
  have HP := Lib.hid (show prevGe (prK kP ps 0) [po, pv, ps_, pp, pf] = false from rfl)
  clear hk hg hz hkl hl_p hOB hc_p HTr
  simp only [Nat.zero_mul, Nat.add_zero] at p_0 p_1 p_2 p_3 p_4 p_5
  simp only [Int.cast_ofNat_Int] at hkn ⊢
  go_wp2_with fail
  (with_reducible refine (C2.out _).mono ?_)
  rintro e w_1 ⟨rfl, rfl⟩
  rcases (show OB = false ∨ OB = true from by cases OB <;> simp) with rfl | rfl
  ·obtain rfl : V = 3 := HV.out.trans (posV_go (posGo_at HI.out HX.out.1 (posOne_range (of_decide_eq_false HX.out.2.symm)) (by decide)) (by decide))
   go_wp2_with fail
   go_ret
   exact ⟨rfl, zxt⟩
  go_wp2_with fail
  refine wp_region_held_drew (S := fun w' => True) (by kernel_rfl) (by first | exact trivial | (simp [go_sem, World.cell?_alloc_past, *]; done)) (fun hHeld => ?_)
  refine' zt 0 ?_
  refine' zt 1 ?_
  refine' zt 2 ?_
  refine' zs 3 ?_
  refine' zs 4 ?_
  refine' zs 5 ?_
  refine' zs 6 ?_
  refine' zs 7 ?_
  refine' zs 8 ?_
  refine' zs 9 ?_
  refine' zs 10 ?_
  refine' zs 11 ?_
  refine' zt 12 ?_
  refine' zt 13 ?_
  refine wpAnyH_done (by kernel_rfl) ?_ _
  by_cases q6 : ph = 0
  ·have q6c : (ph == 0) = true := by simp [q6]
   obtain rfl : V = 14 := HV.out.trans (posV_go (posGo_at HI.out HX.out.1 (posOne_dust (show 0 ≤ po ∧ po < 64 from of_decide_eq_true HX.out.2.symm) HP.out q6) (by decide)) (by decide))
   go_wp2_with fail
   go_ret
   exact ⟨rfl, zxt⟩
  have q6c : (ph == 0) = false := by simpa using q6
  go_wp2_with fail
  (with_reducible refine (CCk.out _ zxt).mono ?_)
  rintro e w11 ⟨ci, rfl, hfi, hx11⟩
  replace b_0 := zh hx11 b_0
  replace b_1 := zh hx11 b_1
  have z11 := hx11.size
  try simp at z11
  have rb := zr w.heap.size w11
  have X11 : Hid (Ext w w11) := Lib.hid (Ext.trans zxt hx11)
  clear p_2 p_5 p_4 p_3 p_1 p_0 XR hx11 z11
  have HFI := Lib.hid hfi
  clear hfi
  rcases HFI.out with ⟨rfl, hN⟩ | ⟨mm, xw, rfl, hM, hG9⟩
  ·obtain rfl : V = 10 := HV.out.trans (posV_go (posGo_at HI.out HX.out.1 (posOne_unknown' (show 0 ≤ po ∧ po < 64 from of_decide_eq_true HX.out.2.symm) HP.out q6 hN) (by decide)) (by decide))
   go_wp2_with fail
   go_ret
   exact ⟨rfl, zxt⟩
  have hmm0 : ¬ (mm : Int) < 0 := by omega
  have HN := Lib.hid (posGo_next HI.out HX.out.1 (posOne_fine (show 0 ≤ po ∧ po < 64 from of_decide_eq_true HX.out.2.symm) HP.out q6 hG9))
  clear hM hG9
  go_wp2_with fail
  go_roundg (gk - 1)
  case measure => have := HK.out; omega
  exact ⟨by have := HK.out; omega, num_eq (by have := HK.out; omega), by rw [show n2 - (gk - 1) = 0 + 1 from by have := HK.out; omega]; exact HN, ⟨b_0, b_1⟩, Lib.hid zxt⟩
 obtain ⟨m, rfl⟩ : ∃ m, k = m + 1 := ⟨k - 1, by omega⟩
 obtain ⟨yw, hl_y⟩ : ∃ x, ps[m]? = some x := ⟨_, List.getElem?_eq_getElem (by omega)⟩
 have y_0 := hc_p m yw hl_y 0 _ rfl
 have y_1 := hc_p m yw hl_y 1 _ rfl
 have y_2 := hc_p m yw hl_y 2 _ rfl
 have y_3 := hc_p m yw hl_y 3 _ rfl
 have y_4 := hc_p m yw hl_y 4 _ rfl
 have y_5 := hc_p m yw hl_y 5 _ rfl
 obtain ⟨qo, qv, qs, qp, qf, qh⟩ := yw
 simp only at y_0 y_1 y_2 y_3 y_4 y_5
 rw [Nat.add_zero] at y_0
 rw [← Nat.add_assoc] at y_1 y_2 y_3 y_4 y_5
 obtain ⟨G, hG⟩ : ∃ G, G = decide (cmpK [qo, qv, qs, qp, qf] [po, pv, ps_, pp, pf] < 0) := ⟨_, rfl⟩
 have CG := Lib.hid (fun w => r13below_any qo qv qs qp qf qh po pv ps_ pp pf ph w)
 rw [← hG] at CG
 have HP := Lib.hid (show prevGe (prK kP ps (m + 1)) [po, pv, ps_, pp, pf] = !G from by rw [prK_succ hl_y, hG]; show decide (0 ≤ _) = _; by_cases hh : cmpK [qo, qv, qs, qp, qf] [po, pv, ps_, pp, pf] < 0; rw [decide_eq_true hh]; exact decide_eq_false (by show ¬ 0 ≤ cmpK [qo, qv, qs, qp, qf] _; omega); rw [decide_eq_false hh]; exact decide_eq_true (by show 0 ≤ cmpK [qo, qv, qs, qp, qf] _; omega))
 have hm1 : (m : Int) + 1 - 1 = (m : Int) := by omega
 have hmd : decide ((0 : Int) < (m : Int) + 1) = true := decide_eq_true (by omega)
 have hmp : (0 : Int) < (m : Int) + 1 := by omega
 have hml : (m : Int) < (n2 : Int) := by omega
 have hmw : IntKind.i64.wrap (m : Int) = (m : Int) := IntWalk.i64_in _ (by omega)
 have hmw2 : IntKind.i64.wrap ((m : Int) + 1 - 1) = (m : Int) := by rw [hm1]; exact hmw
 have hms : m ≤ 9223372036854775806 := by omega
 clear hk hg hz hkl hl_p hl_y hOB hG hc_p HTr
 go_wp2_with fail
 (with_reducible refine (C2.out _).mono ?_)
 rintro e w_1 ⟨rfl, rfl⟩
 rcases (show OB = false ∨ OB = true from by cases OB <;> simp) with rfl | rfl
 ·obtain rfl : V = 3 := HV.out.trans (posV_go (posGo_at HI.out HX.out.1 (posOne_range (of_decide_eq_false HX.out.2.symm)) (by decide)) (by decide))
  go_wp2_with fail
  go_ret
  exact ⟨rfl, zxt⟩
 go_wp2_with fail
 refine wp_region_held_drew (S := fun w' => w'.cell? ⟨w.heap.size, 1, none⟩ = some (.slice (some ⟨b2, o2, none⟩) n2 c2) ∧ w'.cell? ⟨wr.heap.size, 0, none⟩ = some (.int .i64 po) ∧ w'.cell? ⟨wr.heap.size, 1, none⟩ = some (.int .i64 pv) ∧ w'.cell? ⟨wr.heap.size, 2, none⟩ = some (.int .i64 ps_) ∧ w'.cell? ⟨wr.heap.size, 3, none⟩ = some (.int .i64 pp) ∧ w'.cell? ⟨wr.heap.size, 4, none⟩ = some (.int .i64 pf) ∧ w'.cell? ⟨wr.heap.size, 5, none⟩ = some (.int .u64 ph) ∧ w'.cell? ⟨b2, o2 + m * 6, none⟩ = some (.int .i64 qo) ∧ w'.cell? ⟨b2, o2 + m * 6 + 1, none⟩ = some (.int .i64 qv) ∧ w'.cell? ⟨b2, o2 + m * 6 + 2, none⟩ = some (.int .i64 qs) ∧ w'.cell? ⟨b2, o2 + m * 6 + 3, none⟩ = some (.int .i64 qp) ∧ w'.cell? ⟨b2, o2 + m * 6 + 4, none⟩ = some (.int .i64 qf) ∧ w'.cell? ⟨b2, o2 + m * 6 + 5, none⟩ = some (.int .u64 qh)) (by kernel_rfl) (by first | with_reducible exact ⟨b_1, c0_0, c0_1, c0_2, c0_3, c0_4, c0_5, y_0, y_1, y_2, y_3, y_4, y_5⟩ | (simp [go_sem, World.cell?_alloc_past, *]; done)) (fun hHeld => ?_)
 refine' zt 0 ?_
 refine' zt 1 ?_
 refine' zt 2 ?_
 refine' zt 3 ?_
 refine' zt 4 ?_
 refine' zt 5 ?_
 refine' zt 6 ?_
 refine' zt 7 ?_
 refine' zt 8 ?_
 refine' zt 9 ?_
 refine' zn 10 (fun K hK => ?_)
 go_simp
 (with_reducible refine (CG.out _).mono ?_)
 rintro e w11 ⟨rfl, hx11⟩
 replace y_0 := zh hx11 y_0
 replace y_1 := zh hx11 y_1
 replace y_2 := zh hx11 y_2
 replace y_3 := zh hx11 y_3
 replace y_4 := zh hx11 y_4
 replace y_5 := zh hx11 y_5
 replace b_0 := zh hx11 b_0
 replace b_1 := zh hx11 b_1
 have c0_0 : w11.cell? ⟨wr.heap.size, 0, none⟩ = some (.int .i64 po) := hx11.has zcv
 have c0_1 : w11.cell? ⟨wr.heap.size, 1, none⟩ = some (.int .i64 pv) := hx11.has zcv
 have c0_2 : w11.cell? ⟨wr.heap.size, 2, none⟩ = some (.int .i64 ps_) := hx11.has zcv
 have c0_3 : w11.cell? ⟨wr.heap.size, 3, none⟩ = some (.int .i64 pp) := hx11.has zcv
 have c0_4 : w11.cell? ⟨wr.heap.size, 4, none⟩ = some (.int .i64 pf) := hx11.has zcv
 have c0_5 : w11.cell? ⟨wr.heap.size, 5, none⟩ = some (.int .u64 ph) := hx11.has zcv
 have z11 := hx11.size
 try simp at z11
 have lt_y_c0 := zl b2 wr.heap.size
 have lt_b_c0 := zl w.heap.size wr.heap.size
 have ry := zr b2 w11
 have rb := zr w.heap.size w11
 have rc0 := zr wr.heap.size w11
 have X11 : Hid (Ext w w11) := Lib.hid (Ext.trans zxt hx11)
 clear p_2 p_5 p_4 p_3 p_1 p_0 XR hx11 z11
 refine' zk hK (by (first | exact ⟨b_1, c0_0, c0_1, c0_2, c0_3, c0_4, c0_5, y_0, y_1, y_2, y_3, y_4, y_5⟩ | (simp [go_sem, World.cell?_alloc_past, *]; done))) (fun hHeld => ?_); clear hK K
 refine' zt 11 ?_
 refine' zt 12 ?_
 refine' zt 13 ?_
 refine wpAnyH_done (by kernel_rfl) ?_ _
 rcases (show G = false ∨ G = true from by cases G <;> simp) with rfl | rfl
 ·obtain rfl : V = 9 := HV.out.trans (posV_go (posGo_at HI.out HX.out.1 (posOne_order (show 0 ≤ po ∧ po < 64 from of_decide_eq_true HX.out.2.symm) HP.out) (by decide)) (by decide))
  go_wp2_with fail
  go_ret
  exact ⟨rfl, zxt⟩
 replace HP := Lib.hid HP.out
 by_cases q6 : ph = 0
 ·have q6c : (ph == 0) = true := by simp [q6]
  obtain rfl : V = 14 := HV.out.trans (posV_go (posGo_at HI.out HX.out.1 (posOne_dust (show 0 ≤ po ∧ po < 64 from of_decide_eq_true HX.out.2.symm) HP.out q6) (by decide)) (by decide))
  go_wp2_with fail
  go_ret
  exact ⟨rfl, zxt⟩
 have q6c : (ph == 0) = false := by simpa using q6
 go_wp2_with fail
 (with_reducible refine (CCk.out _ zxt).mono ?_)
 rintro e w12 ⟨ci, rfl, hfi, hx12⟩
 replace y_0 := zh hx12 y_0
 replace y_1 := zh hx12 y_1
 replace y_2 := zh hx12 y_2
 replace y_3 := zh hx12 y_3
 replace y_4 := zh hx12 y_4
 replace y_5 := zh hx12 y_5
 replace b_0 := zh hx12 b_0
 replace b_1 := zh hx12 b_1
 replace c0_0 := zh hx12 c0_0
 replace c0_1 := zh hx12 c0_1
 replace c0_2 := zh hx12 c0_2
 replace c0_3 := zh hx12 c0_3
 replace c0_4 := zh hx12 c0_4
 replace c0_5 := zh hx12 c0_5
 have z12 := hx12.size
 try simp at z12
 replace ry := zr b2 w12
 replace rb := zr w.heap.size w12
 replace rc0 := zr wr.heap.size w12
 have X12 : Hid (Ext w w12) := Lib.hid (Ext.trans zxt hx12)
 clear X11 hx12 z12
 have HFI := Lib.hid hfi
 clear hfi
 rcases HFI.out with ⟨rfl, hN⟩ | ⟨mm, xw, rfl, hM, hG9⟩
 ·obtain rfl : V = 10 := HV.out.trans (posV_go (posGo_at HI.out HX.out.1 (posOne_unknown' (show 0 ≤ po ∧ po < 64 from of_decide_eq_true HX.out.2.symm) HP.out q6 hN) (by decide)) (by decide))
  go_wp2_with fail
  go_ret
  exact ⟨rfl, zxt⟩
 have hmm0 : ¬ (mm : Int) < 0 := by omega
 have HN := Lib.hid (posGo_next HI.out HX.out.1 (posOne_fine (show 0 ≤ po ∧ po < 64 from of_decide_eq_true HX.out.2.symm) HP.out q6 hG9))
 clear hM hG9
 go_wp2_with fail
 go_roundg (gk - 1)
 case measure => have := HK.out; omega
 exact ⟨by have := HK.out; omega, num_eq (by have := HK.out; omega), by rw [show n2 - (gk - 1) = (m + 1) + 1 from by have := HK.out; omega]; exact HN, ⟨b_0, b_1⟩, Lib.hid zxt⟩
def clN (x : I6) : List Int := [x.1, x.2.1, x.2.2.1 + 1, x.2.2.2.1, x.2.2.2.2.1, x.2.2.2.2.2]
def poN (x : I6) : List Int := [x.1, x.2.1, x.2.2.1, x.2.2.2.1 + 1, x.2.2.2.2.1, x.2.2.2.2.2]
def clB (x : I6) : List Nat := nuB (clN x)
def poB (x : I6) : List Nat := nuB (poN x)
def hldB (cl ps : List I6) : List Nat := if chkH cl ps = 0 then putL cl.length ++ cl.flatMap clB ++ (putL ps.length ++ ps.flatMap poB) else []
theorem nuF_take {α : Type} {f : α → List Nat} {l : List α} {k : Nat} {x : α} (h : l[k]? = some x) : (l.take (k + 1)).flatMap f = (l.take k).flatMap f ++ f x := by
 obtain ⟨hk, e⟩ := List.getElem?_eq_some_iff.1 h
 rw [List.take_succ_eq_append_getElem hk, List.flatMap_append, e]
 simp
theorem nuF_len {α : Type} {f : α → List Int} {l : List α} (h : ∀ x ∈ l, (f x).length = 6 ∧ ∀ y ∈ f x, y < 18446744073709551616) : (l.flatMap fun x => nuB (f x)).length ≤ 60 * l.length := by
 induction l with
 | nil => simp
 | cons x l ih =>
  obtain ⟨h1, h2⟩ := h x (List.mem_cons_self ..)
  have h3 := nuB_len h2
  have h4 := ih (fun y hy => h y (List.mem_cons_of_mem _ hy))
  rw [List.flatMap_cons, List.length_append, List.length_cons]
  omega
theorem clN_fit {x : I6} (h : GoodC x) (hw : WdC x) : (clN x).length = 6 ∧ ∀ y ∈ clN x, y < 18446744073709551616 := by
 refine ⟨rfl, fun y hy => ?_⟩
 have hs := stL_in h.1
 obtain ⟨w1, w2⟩ := hw
 unfold toC shC Word at *
 simp only [clN, List.mem_cons, List.not_mem_nil, or_false] at hy
 simp only [stL, List.mem_cons, List.not_mem_nil, or_false] at hs
 rcases hy with hy | hy | hy | hy | hy | hy
 ·exact (hs y (.inl hy)).2
 ·exact (hs y (.inr (.inl hy))).2
 ·exact (hs y (.inr (.inr (.inl hy)))).2
 ·exact (hs y (.inr (.inr (.inr hy)))).2
 ·rw [hy]; exact w1.2
 rw [hy]; exact w2.2
theorem poN_fit {x : I6} (h : chkS x.2.1 x.2.2.1 x.2.2.2.1 x.2.2.2.2.1 = 0) (ho : x.1 < 64) (hw : WdP x) : (poN x).length = 6 ∧ ∀ y ∈ poN x, y < 18446744073709551616 := by
 refine ⟨rfl, fun y hy => ?_⟩
 have hs := stL_in h
 have w2 : Word x.2.2.2.2.2 := hw
 unfold Word at w2
 simp only [poN, List.mem_cons, List.not_mem_nil, or_false] at hy
 simp only [stL, List.mem_cons, List.not_mem_nil, or_false] at hs
 rcases hy with hy | hy | hy | hy | hy | hy
 ·omega
 ·exact (hs y (.inl hy)).2
 ·exact (hs y (.inr (.inl hy))).2
 ·exact (hs y (.inr (.inr (.inl hy)))).2
 ·exact (hs y (.inr (.inr (.inr hy)))).2
 rw [hy]; exact w2.2
theorem HOk.posS {cl ps : List I6} (h : HOk cl ps) {x : I6} (hx : x ∈ ps) : chkS x.2.1 x.2.2.1 x.2.2.2.1 x.2.2.2.2.1 = 0 := by
 obtain ⟨y, hy⟩ := Option.isSome_iff_exists.1 (h.pos x hx).2.2
 obtain ⟨ym, yk⟩ := getK_mem hy
 have hs := (h.cls y ym).1
 unfold kC stP at yk
 simp only [List.cons.injEq, and_true] at yk
 rw [yk.1, yk.2.1, yk.2.2.1, yk.2.2.2] at hs
 exact hs
theorem hld_fit {cl ps : List I6} (h : HOk cl ps) (hw : ∀ x ∈ cl, WdC x) (hw2 : ∀ x ∈ ps, WdP x) (h1 : cl.length ≤ 1024) (h2 : ps.length ≤ 1024) (j k : Nat) : (putL cl.length ++ (cl.take j).flatMap clB).length ≤ 61450 ∧ (putL cl.length ++ cl.flatMap clB ++ (putL ps.length ++ (ps.take k).flatMap poB)).length ≤ 122900 := by
 have a1 := nuF_len (l := cl.take j) (f := clN) (fun x hx => clN_fit (h.cls x (List.mem_of_mem_take hx)) (hw x (List.mem_of_mem_take hx)))
 have a2 := nuF_len (l := cl) (f := clN) (fun x hx => clN_fit (h.cls x hx) (hw x hx))
 have a3 := nuF_len (l := ps.take k) (f := poN) (fun x hx => poN_fit (h.posS (List.mem_of_mem_take hx)) (h.pos x (List.mem_of_mem_take hx)).1.2 (hw2 x (List.mem_of_mem_take hx)))
 have b1 : (cl.take j).length ≤ cl.length := by rw [List.length_take]; omega
 have b2 : (ps.take k).length ≤ ps.length := by rw [List.length_take]; omega
 have c1 := putL_ten (N := cl.length) (by omega)
 have c2 := putL_ten (N := ps.length) (by omega)
 unfold clB poB
 simp only [List.length_append]
 constructor <;> omega
theorem hBytes_chk (n c n2 c2 : Nat) (A A2 : Option Addr) (cl ps : List I6) (w : World) (h : Sl w 6 A n c (cl.flatMap clsC)) (h2 : Sl w 6 A2 n2 c2 (ps.flatMap posC)) (hn : n = cl.length) (hn2 : n2 = ps.length) (hm : n ≤ 1024) (hm2 : n2 ≤ 1024) (hw : ∀ x ∈ cl, WdC x) (hw2 : ∀ x ∈ ps, WdP x) (f : Int) (hf : chkH cl ps = f) (hc : ¬ f = 0) :
  Calls Tryz.prog 56 #[.agg #[.slice A n c, .slice A2 n2 c2]] w (ByErr (hldB cl ps) f w) := by
 have e7 : (f != 0) = true := by simpa using hc
 have hB : hldB cl ps = [] := by unfold hldB; rw [hf]; exact if_neg hc
 rw [hB]
 have HF := Lib.hid hf
 have HS := Lib.hid h.low
 have HT := Lib.hid h2.low
 have HW := Lib.hid hw
 have HW2 := Lib.hid hw2
 clear h h2 hn hn2 hw hw2 hf hB
 go_enter Tryz.func56, Tryz.ntmps56
 go_wp2_with fail
 (with_reducible refine ((show Calls Tryz.prog 14 #[.agg #[.slice A n c, .slice A2 n2 c2]] _ fun r w' => r = .returned (.int .i64 f) ∧ Ext _ w' from HF.out ▸ hCheck_any n c n2 c2 A A2 cl ps _ (HS.out.ext zxt).sl (HT.out.ext zxt).sl (by omega) (by omega) HW.out HW2.out)).mono ?_)
 rintro e w1 ⟨rfl, hx1⟩
 have z1 := hx1.size
 try simp at z1
 replace HS := Lib.hid (HS.out.ext (Ext.trans zxt hx1))
 replace HT := Lib.hid (HT.out.ext (Ext.trans zxt hx1))
 have X1 : Hid (Ext w w1) := Lib.hid (Ext.trans zxt hx1)
 clear hx1
 go_wp2_with fail
 refine bodyPost_ret (v := .tuple #[.slice none 0 0, .int .i64 f]) (by simp [results, Tryz.results56, go_sem, World.cell?_alloc_past]; try rfl) rfl ⟨_, rfl, World.ownsRow_nil _ _ _ _, ?_⟩
 exact zxt
theorem hBytes_ok (n c n2 c2 : Nat) (A A2 : Option Addr) (cl ps : List I6) (w : World) (h : Sl w 6 A n c (cl.flatMap clsC)) (h2 : Sl w 6 A2 n2 c2 (ps.flatMap posC)) (hn : n = cl.length) (hn2 : n2 = ps.length) (hm : n ≤ 1024) (hm2 : n2 ≤ 1024) (hw : ∀ x ∈ cl, WdC x) (hw2 : ∀ x ∈ ps, WdP x) (hk : HOk cl ps) :
  Calls Tryz.prog 56 #[.agg #[.slice A n c, .slice A2 n2 c2]] w (ByErr (hldB cl ps) 0 w) := by
 have hf : chkH cl ps = 0 := (chkH_iff cl ps).2 hk
 have hB : hldB cl ps = putL cl.length ++ cl.flatMap clB ++ (putL ps.length ++ ps.flatMap poB) := by unfold hldB; exact if_pos hf
 rw [hB, ← hn, ← hn2]
 have HF := Lib.hid hf
 have HKK := Lib.hid hk
 have HFIT := Lib.hid (fun j k => hld_fit hk hw hw2 (by omega) (by omega) j k)
 rw [← hn, ← hn2] at HFIT
 obtain ⟨M1, hM1⟩ : ∃ M, M = putL n ++ cl.flatMap clB := ⟨_, rfl⟩
 have hmd : ¬ (65536 : Int) < (n2 : Int) := by omega
 have HM1 := Lib.hid hM1
 have HNN := Lib.hid (And.intro hn hn2)
 have HS := Lib.hid h.low
 have HT := Lib.hid h2.low
 have HW := Lib.hid hw
 have HW2 := Lib.hid hw2
 rw [← hM1] at HFIT ⊢
 clear h h2 hn hn2 hw hw2 hf hB hM1 hk
 go_enter Tryz.func56, Tryz.ntmps56
 go_wp2_with fail
 (with_reducible refine ((show Calls Tryz.prog 14 #[.agg #[.slice A n c, .slice A2 n2 c2]] _ fun r w' => r = .returned (.int .i64 0) ∧ Ext _ w' from HF.out ▸ hCheck_any n c n2 c2 A A2 cl ps _ (HS.out.ext zxt).sl (HT.out.ext zxt).sl (by omega) (by omega) HW.out HW2.out)).mono ?_)
 rintro e w1 ⟨rfl, hx1⟩
 have c0_0 : w1.cell? ⟨w.heap.size, 0, none⟩ = some (.slice A n c) := hx1.has zcv
 have c0_1 : w1.cell? ⟨w.heap.size, 1, none⟩ = some (.slice A2 n2 c2) := hx1.has zcv
 have z1 := hx1.size
 try simp at z1
 have rc0 := zr w.heap.size w1
 replace HS := Lib.hid (HS.out.ext (Ext.trans zxt hx1))
 replace HT := Lib.hid (HT.out.ext (Ext.trans zxt hx1))
 have X1 : Hid (Ext w w1) := Lib.hid (Ext.trans zxt hx1)
 clear hx1
 go_wp2_with fail
 have hx0 : w.heap.size < w1.heap.size := by have := Ext.size X1.out; omega
 (with_reducible refine (cNewWriter_ex 1048576 (by decide) (by decide) _).mono ?_)
 rintro e w2 ⟨g, rfl, hg, hW, hx2⟩
 replace c0_0 := zh hx2 c0_0
 replace c0_1 := zh hx2 c0_1
 have z2 := hx2.size
 try simp at z2
 replace rc0 := zr w.heap.size w2
 replace HS := Lib.hid (HS.out.ext (Ext.trans zxt hx2))
 replace HT := Lib.hid (HT.out.ext (Ext.trans zxt hx2))
 have X2 : Hid (Ext w w2) := Lib.hid (Ext.trans zxt hx2)
 have HWr := Lib.hid hW
 clear X1 hx2 hW
 have hgw : w.heap.size < g := by have := hx0; (try simp at hg); omega
 clear hg hx0
 go_wp2_with fail
 (with_reducible refine (cWN_fit g 1048576 [] (n : Int) (by omega) (by omega) (by simp) _ (HWr.out.ext zxt)).mono ?_)
 rintro e w3 ⟨rfl, hW, hx3⟩
 have hsz3 := hx3.size
 try simp at hsz3
 replace c0_0 := zhb hx3 c0_0 (ne := (by show ¬ g ≤ _; omega))
 replace c0_1 := zhb hx3 c0_1 (ne := (by show ¬ g ≤ _; omega))
 have z3 := hx3.size
 try simp at z3
 replace rc0 := zr w.heap.size w3
 have X3 : Hid (Ext w w3) := Lib.hid (have hX := (show Ext w _ from zxt); Below.trans hX (hx3.below (Ext.size hX) (fun k hk hh => by have h2 : g ≤ k := hh; omega)))
 replace HS := Lib.hid ((HS.out.ext zxt).but hx3 (fun k hk => by have h2 : g ≤ k := hk; omega))
 replace HT := Lib.hid ((HT.out.ext zxt).but hx3 (fun k hk => by have h2 : g ≤ k := hk; omega))
 clear HWr
 have HWr := Lib.hid (show Wr _ g 1048576 0 (putL n) from by simpa using hW)
 clear hsz3 X2 hx3
 have HW0 : Hid (Wr _ g 1048576 0 (putL n ++ (cl.take 0).flatMap clB)) := Lib.hid (by simpa using (HWr.out.ext zxt))
 go_wp2_with fail
 go_loopg [35] n (fun gh i wx => gh ≤ n ∧ i = .int .i64 ((n - gh : Nat) : Int) ∧ Hid (Wr wx g 1048576 0 (putL n ++ (cl.take (n - gh)).flatMap clB)) ∧ Hid (SlB w.heap.size wx 6 A n c (cl.flatMap clsC)) ∧ Hid (SlB w.heap.size wx 6 A2 n2 c2 (ps.flatMap posC)) ∧ Hid (wx.cell? ⟨w.heap.size, 0, none⟩ = some (.slice A n c) ∧ wx.cell? ⟨w.heap.size, 1, none⟩ = some (.slice A2 n2 c2)) ∧ Ext w wx)
 case atStart => exact ⟨Nat.le_refl _, by simp, by rw [Nat.sub_self]; exact HW0, Lib.hid (HS.out.ext zxt), Lib.hid (HT.out.ext zxt), Lib.hid ⟨zcv, zcv⟩, zxt⟩
 obtain ⟨hg, hi, hw, hs, hs2, hcc, hx⟩ := hrel
 obtain ⟨a_0, a_1⟩ := hcc.out
 obtain ⟨k, hk⟩ : ∃ k, k = n - gk := ⟨_, rfl⟩
 rw [← hk] at hi hw
 subst hi
 have XR := Lib.hid hx
 have HWk := hw
 have HSk := hs
 have HTk := hs2
 have hla := cell_lt a_0
 by_cases hz : gk = 0
 ·have hkn : ¬ (k : Int) < (n : Int) := by omega
  have hkl : k = n := by omega
  have HWE : Hid (Wr wr g 1048576 0 M1) := Lib.hid (by have h := hw.out; rw [hkl, show n = cl.length from HNN.out.1, List.take_length, ← HNN.out.1, ← HM1.out] at h; exact h)
  clear hx hk hg hz hw hs hs2 hkl HWk HSk hcc
  go_wp2_with fail
  (with_reducible refine (cWN_fit g 1048576 M1 (n2 : Int) (by omega) (by omega) (by have h := (HFIT.out 0 0).2; simp only [List.length_append] at h; omega) _ (HWE.out.ext zxt)).mono ?_)
  rintro e w41 ⟨rfl, hW, hx41⟩
  have hsz41 := hx41.size
  try simp at hsz41
  replace a_0 := zhb hx41 a_0 (ne := (by show ¬ g ≤ _; omega))
  replace a_1 := zhb hx41 a_1 (ne := (by show ¬ g ≤ _; omega))
  have z41 := hx41.size
  try simp at z41
  have ra := zr w.heap.size w41
  have X41 : Hid (Ext w w41) := Lib.hid (have hX := (show Ext w _ from zxt); Below.trans hX (hx41.below (Ext.size hX) (fun k hk hh => by have h2 : g ≤ k := hh; omega)))
  replace HTk := Lib.hid ((HTk.out.ext zxt).but hx41 (fun k hk => by have h2 : g ≤ k := hk; omega))
  clear HWE
  have HWE := Lib.hid (show Wr _ g 1048576 0 (M1 ++ putL n2) from by simpa using hW)
  clear hsz41 XR hx41
  have HW0 : Hid (Wr _ g 1048576 0 (M1 ++ (putL n2 ++ (ps.take 0).flatMap poB))) := Lib.hid (by simpa using (HWE.out.ext zxt))
  go_wp2_with fail
  go_loopg [62] n2 (fun gh i wx => gh ≤ n2 ∧ i = .int .i64 ((n2 - gh : Nat) : Int) ∧ Hid (Wr wx g 1048576 0 (M1 ++ (putL n2 ++ (ps.take (n2 - gh)).flatMap poB))) ∧ Hid (SlB w.heap.size wx 6 A2 n2 c2 (ps.flatMap posC)) ∧ Hid (wx.cell? ⟨w.heap.size, 0, none⟩ = some (.slice A n c) ∧ wx.cell? ⟨w.heap.size, 1, none⟩ = some (.slice A2 n2 c2)) ∧ Ext w wx)
  case atStart => exact ⟨Nat.le_refl _, by simp, by rw [Nat.sub_self]; exact HW0, Lib.hid (HTk.out.ext zxt), Lib.hid ⟨zcv, zcv⟩, zxt⟩
  obtain ⟨hg2, hi2, hw2_, hs2_, hcc2, hx2⟩ := hrel
  obtain ⟨wo, hwo⟩ : ∃ x, x = wr := ⟨_, rfl⟩
  subst hwo
  obtain ⟨b_0, b_1⟩ := hcc2.out
  obtain ⟨j, hj⟩ : ∃ k, k = n2 - gk := ⟨_, rfl⟩
  rw [← hj] at hi2 hw2_
  subst hi2
  have XS := Lib.hid hx2
  have HWj := hw2_
  have HTj := hs2_
  have hlb := cell_lt b_0
  by_cases hz2 : gk = 0
  ·have hjn : ¬ (j : Int) < (n2 : Int) := by omega
   have hjl : j = n2 := by omega
   have HWF : Hid (Wr wo g 1048576 0 (M1 ++ (putL n2 ++ ps.flatMap poB))) := Lib.hid (by have h := hw2_.out; rw [hjl, show n2 = ps.length from HNN.out.2, List.take_length, ← HNN.out.2] at h; exact h)
   clear hx2 hj hg2 hz2 hw2_ hs2_ hjl HWj HTj hcc2
   go_wp2_with fail
   have hrm := Ext.size XS.out
   (with_reducible refine ((show _ from cDone_ok g 1048576 _ _ (HWF.out.ext zxt))).mono ?_)
   rintro e w61 ⟨v, rfl, hV, hx61⟩
   have z61 := hx61.size
   try simp at z61
   replace HWF := Lib.hid (HWF.out.ext (Ext.trans zxt hx61))
   have X61 : Hid (Ext w w61) := Lib.hid (Ext.trans zxt hx61)
   have HV := Lib.hid hV
   clear b_0 b_1 XS hx61 hV
   go_wp2_with fail
   refine bodyPost_ret (v := .tuple #[v, .int .i64 0]) (by simp [results, Tryz.results56]; try rfl) rfl ⟨v, rfl, own_lower HV.out ?_, zxt⟩
   have h := hrm
   (try simp at h)
   omega
  have hkn : (j : Int) < (n2 : Int) := by omega
  have hk1 : j < ps.length := by have := HNN.out; omega
  obtain ⟨b1, o1, rfl, hb1, hc1⟩ := hs2_.out.sl.rec_ posC_len (show 0 < n2 from by omega)
  have hb1w := hs2_.out.2 (by omega) b1 o1 none rfl
  have x_0 := hc1 j _ (List.getElem?_eq_getElem hk1) 0 _ rfl
  have x_1 := hc1 j _ (List.getElem?_eq_getElem hk1) 1 _ rfl
  have x_2 := hc1 j _ (List.getElem?_eq_getElem hk1) 2 _ rfl
  have x_3 := hc1 j _ (List.getElem?_eq_getElem hk1) 3 _ rfl
  have x_4 := hc1 j _ (List.getElem?_eq_getElem hk1) 4 _ rfl
  have x_5 := hc1 j _ (List.getElem?_eq_getElem hk1) 5 _ rfl
  obtain ⟨x, hxx⟩ : ∃ x, x = ps[j] := ⟨_, rfl⟩
  have hlk : ps[j]? = some x := by rw [hxx]; exact List.getElem?_eq_getElem hk1
  rw [← hxx] at x_0 x_1 x_2 x_3 x_4 x_5
  have hr3 := HKK.out.posS (List.mem_of_getElem? hlk)
  have hro := (HKK.out.pos x (List.mem_of_getElem? hlk)).1
  have hu := HW2.out x (List.mem_of_getElem? hlk)
  have hM := (HFIT.out 0 j).2
  have ht := nuF_take (f := poB) hlk
  obtain ⟨M0, hM0⟩ : ∃ M0, M0 = M1 ++ (putL n2 ++ (ps.take j).flatMap poB) := ⟨_, rfl⟩
  rw [← hM0] at hM HWj
  have hnext : M1 ++ (putL n2 ++ (ps.take (j + 1)).flatMap poB) = M0 ++ poB x := by rw [ht, hM0]; simp only [List.append_assoc]
  obtain ⟨po, pv, ps_, pp, pf, ph⟩ := x
  have u1 : Word ph := hu
  have u2 := hro
  change 0 ≤ ph ∧ ph < 18446744073709551616 at u1
  change 0 ≤ po ∧ po < 64 at u2
  change chkS pv ps_ pp pf = 0 at hr3
  simp only at x_0 x_1 x_2 x_3 x_4 x_5
  rw [Nat.add_zero] at x_0
  rw [← Nat.add_assoc] at x_1 x_2 x_3 x_4 x_5
  have c1' := nuB_len (l := stL pv ps_ pp pf) (fun y hy => (stL_in hr3 y hy).2)
  have c2' := putL_ten (N := po.toNat) (by omega)
  have c3' := putL_ten (N := ph.toNat) (by omega)
  have c5' : (stL pv ps_ pp pf).length = 4 := rfl
  have HQ0 := Lib.hid (And.intro u1 (And.intro u2 (And.intro hM (And.intro c1' (And.intro c2' (And.intro c3' c5'))))))
  have HR3 := Lib.hid hr3
  have HNX := Lib.hid hnext
  have HK := Lib.hid (And.intro hj (And.intro hg2 hz2))
  clear hx2 hj hg2 hz2 hc1 hxx hlk hu hM ht hnext c1' c2' c3' c5' hw2_ hs2_ hM0 hr3 u1 u2 hro hcc2
  go_wp2_with fail
  (with_reducible refine (cWN_box g wo.heap.size 1048576 M0 po (by have := HQ0.out; omega) (by have := HQ0.out; omega) zSlTby3_1 _ (HWj.out.ext zxt) (Off.new HWj.out (Nat.le_refl _) zxt (by simp))).mono ?_)
  rintro e w81 ⟨rfl, hW, hQ, hx81⟩
  have hsz81 := hx81.size
  try simp at hsz81
  replace b_0 := zhb hx81 b_0 (ne := zSlTby3_0)
  replace b_1 := zhb hx81 b_1 (ne := zSlTby3_0)
  have c0_1 : w81.cell? ⟨wo.heap.size, 1, none⟩ = some (.int .i64 pv) := hx81.has zSlTby3_0 zcv
  have c0_2 : w81.cell? ⟨wo.heap.size, 2, none⟩ = some (.int .i64 ps_) := hx81.has zSlTby3_0 zcv
  have c0_3 : w81.cell? ⟨wo.heap.size, 3, none⟩ = some (.int .i64 pp) := hx81.has zSlTby3_0 zcv
  have c0_4 : w81.cell? ⟨wo.heap.size, 4, none⟩ = some (.int .i64 pf) := hx81.has zSlTby3_0 zcv
  have c0_5 : w81.cell? ⟨wo.heap.size, 5, none⟩ = some (.int .u64 ph) := hx81.has zSlTby3_0 zcv
  have z81 := hx81.size
  try simp at z81
  have lt_b_c0 := zl w.heap.size wo.heap.size
  have rb := zr w.heap.size w81
  have rc0 := zr wo.heap.size w81
  have X81 : Hid (Ext w w81) := Lib.hid (have hX := (show Ext w _ from zxt); Below.trans hX (hx81.below (Ext.size hX) (fun k hk hh => by have h2 : g ≤ k := hh.2; omega)))
  replace HTj := Lib.hid ((HTj.out.ext zxt).but hx81 (fun k hk => by have h2 : g ≤ k := hk.2; omega))
  clear HWj
  have HWj := Lib.hid hW
  have HQ := Lib.hid hQ
  clear x_1 x_2 x_3 x_4 x_0 x_5 hsz81 XS hx81 hW hQ
  go_wp2_with fail
  (with_reducible refine (tPut_box g wo.heap.size 1048576 (M0 ++ putL po.toNat) pv ps_ pp pf HR3.out zSlTby3_1 _ (HWj.out.ext zxt) (HQ.out.ext zxt)).mono ?_)
  rintro e w82 ⟨rfl, hW, hQ, hx82⟩
  have hsz82 := hx82.size
  try simp at hsz82
  replace b_0 := zhb hx82 b_0 (ne := zSlTby3_0)
  replace b_1 := zhb hx82 b_1 (ne := zSlTby3_0)
  replace c0_5 := zhb hx82 c0_5 (ne := zSlTby3_0)
  have z82 := hx82.size
  try simp at z82
  replace rb := zr w.heap.size w82
  replace rc0 := zr wo.heap.size w82
  have X82 : Hid (Ext w w82) := Lib.hid (have hX := (show Ext w _ from zxt); Below.trans hX (hx82.below (Ext.size hX) (fun k hk hh => by have h2 : g ≤ k := hh.2; omega)))
  replace HTj := Lib.hid ((HTj.out.ext zxt).but hx82 (fun k hk => by have h2 : g ≤ k := hk.2; omega))
  clear HWj HQ
  have HWj := Lib.hid hW
  have HQ := Lib.hid hQ
  clear c0_3 c0_4 c0_2 c0_1 hsz82 X81 hx82 hW hQ
  go_wp2_with fail
  (with_reducible refine (cWU_box g wo.heap.size 1048576 ((M0 ++ putL po.toNat) ++ nuB (stL pv ps_ pp pf)) ph (by have := HQ0.out; omega) (by have := HQ0.out; omega) zSlTby3_1 _ (HWj.out.ext zxt) (HQ.out.ext zxt)).mono ?_)
  rintro e w83 ⟨rfl, hW, hQ, hx83⟩
  have hsz83 := hx83.size
  try simp at hsz83
  replace b_0 := zhb hx83 b_0 (ne := zSlTby3_0)
  replace b_1 := zhb hx83 b_1 (ne := zSlTby3_0)
  have z83 := hx83.size
  try simp at z83
  replace rb := zr w.heap.size w83
  have X83 : Hid (Ext w w83) := Lib.hid (have hX := (show Ext w _ from zxt); Below.trans hX (hx83.below (Ext.size hX) (fun k hk hh => by have h2 : g ≤ k := hh.2; omega)))
  replace HTj := Lib.hid ((HTj.out.ext zxt).but hx83 (fun k hk => by have h2 : g ≤ k := hk.2; omega))
  clear HWj HQ
  have HWj := Lib.hid hW
  have HQ := Lib.hid hQ
  clear c0_5 rc0 hsz83 X82 hx83 hW hQ
  go_wp2_with fail
  go_roundg (gk - 1)
  case measure => have := HK.out; omega
  refine ⟨by have := HK.out; omega, num_eq (by have := HK.out; omega), Lib.hid ?_, Lib.hid (HTj.out.ext zxt), Lib.hid ⟨zcv, zcv⟩, zxt⟩
  rw [show n2 - (gk - 1) = j + 1 from by have := HK.out; omega, HNX.out]
  have h := (HWj.out.ext zxt)
  simpa [poB, poN, nuB, stL, List.append_assoc] using h
 have hkn : (k : Int) < (n : Int) := by omega
 have hk1 : k < cl.length := by have := HNN.out; omega
 obtain ⟨b1, o1, rfl, hb1, hc1⟩ := hs.out.sl.rec_ clsC_len (show 0 < n from by omega)
 have hb1w := hs.out.2 (by omega) b1 o1 none rfl
 have x_0 := hc1 k _ (List.getElem?_eq_getElem hk1) 0 _ rfl
 have x_1 := hc1 k _ (List.getElem?_eq_getElem hk1) 1 _ rfl
 have x_2 := hc1 k _ (List.getElem?_eq_getElem hk1) 2 _ rfl
 have x_3 := hc1 k _ (List.getElem?_eq_getElem hk1) 3 _ rfl
 have x_4 := hc1 k _ (List.getElem?_eq_getElem hk1) 4 _ rfl
 have x_5 := hc1 k _ (List.getElem?_eq_getElem hk1) 5 _ rfl
 obtain ⟨x, hxx⟩ : ∃ x, x = cl[k] := ⟨_, rfl⟩
 have hlk : cl[k]? = some x := by rw [hxx]; exact List.getElem?_eq_getElem hk1
 rw [← hxx] at x_0 x_1 x_2 x_3 x_4 x_5
 have hr3 := (HKK.out.cls x (List.mem_of_getElem? hlk)).1
 have hu := HW.out x (List.mem_of_getElem? hlk)
 have hM := (HFIT.out k 0).1
 have ht := nuF_take (f := clB) hlk
 obtain ⟨M0, hM0⟩ : ∃ M0, M0 = putL n ++ (cl.take k).flatMap clB := ⟨_, rfl⟩
 rw [← hM0] at hM HWk
 have hnext : putL n ++ (cl.take (k + 1)).flatMap clB = M0 ++ clB x := by rw [ht, hM0]; simp only [List.append_assoc]
 obtain ⟨xv, xs, xp, xf, xt, xh⟩ := x
 have u1 := hu.1
 have u2 := hu.2
 change 0 ≤ xt ∧ xt < 18446744073709551616 at u1
 change 0 ≤ xh ∧ xh < 18446744073709551616 at u2
 change chkS xv xs xp xf = 0 at hr3
 simp only at x_0 x_1 x_2 x_3 x_4 x_5
 rw [Nat.add_zero] at x_0
 rw [← Nat.add_assoc] at x_1 x_2 x_3 x_4 x_5
 have c1' := nuB_len (l := stL xv xs xp xf) (fun y hy => (stL_in hr3 y hy).2)
 have c2' := putL_ten (N := xt.toNat) (by omega)
 have c3' := putL_ten (N := xh.toNat) (by omega)
 have c5' : (stL xv xs xp xf).length = 4 := rfl
 have HQ0 := Lib.hid (And.intro u1 (And.intro u2 (And.intro hM (And.intro c1' (And.intro c2' (And.intro c3' c5'))))))
 have HR3 := Lib.hid hr3
 have HNX := Lib.hid hnext
 have HK := Lib.hid (And.intro hk (And.intro hg hz))
 clear hx hk hg hz hc1 hxx hlk hu hM ht hnext c1' c2' c3' c5' hw hs hs2 hM0 hr3 u1 u2 hcc
 go_wp2_with fail
 (with_reducible refine (tPut_box g wr.heap.size 1048576 M0 xv xs xp xf HR3.out zSlTby3_1 _ (HWk.out.ext zxt) (Off.new HWk.out (Nat.le_refl _) zxt (by simp))).mono ?_)
 rintro e w51 ⟨rfl, hW, hQ, hx51⟩
 have hsz51 := hx51.size
 try simp at hsz51
 replace a_0 := zhb hx51 a_0 (ne := zSlTby3_0)
 replace a_1 := zhb hx51 a_1 (ne := zSlTby3_0)
 have c0_4 : w51.cell? ⟨wr.heap.size, 4, none⟩ = some (.int .u64 xt) := hx51.has zSlTby3_0 zcv
 have c0_5 : w51.cell? ⟨wr.heap.size, 5, none⟩ = some (.int .u64 xh) := hx51.has zSlTby3_0 zcv
 have z51 := hx51.size
 try simp at z51
 have lt_a_c0 := zl w.heap.size wr.heap.size
 have ra := zr w.heap.size w51
 have rc0 := zr wr.heap.size w51
 have X51 : Hid (Ext w w51) := Lib.hid (have hX := (show Ext w _ from zxt); Below.trans hX (hx51.below (Ext.size hX) (fun k hk hh => by have h2 : g ≤ k := hh.2; omega)))
 replace HSk := Lib.hid ((HSk.out.ext zxt).but hx51 (fun k hk => by have h2 : g ≤ k := hk.2; omega))
 replace HTk := Lib.hid ((HTk.out.ext zxt).but hx51 (fun k hk => by have h2 : g ≤ k := hk.2; omega))
 clear HWk
 have HWk := Lib.hid hW
 have HQ := Lib.hid hQ
 clear x_1 x_2 x_3 x_4 x_0 x_5 hsz51 XR hx51 hW hQ
 go_wp2_with fail
 (with_reducible refine (cWU_box g wr.heap.size 1048576 (M0 ++ nuB (stL xv xs xp xf)) xt (by have := HQ0.out; omega) (by have := HQ0.out; omega) zSlTby3_1 _ (HWk.out.ext zxt) (HQ.out.ext zxt)).mono ?_)
 rintro e w52 ⟨rfl, hW, hQ, hx52⟩
 have hsz52 := hx52.size
 try simp at hsz52
 replace a_0 := zhb hx52 a_0 (ne := zSlTby3_0)
 replace a_1 := zhb hx52 a_1 (ne := zSlTby3_0)
 replace c0_5 := zhb hx52 c0_5 (ne := zSlTby3_0)
 have z52 := hx52.size
 try simp at z52
 replace ra := zr w.heap.size w52
 replace rc0 := zr wr.heap.size w52
 have X52 : Hid (Ext w w52) := Lib.hid (have hX := (show Ext w _ from zxt); Below.trans hX (hx52.below (Ext.size hX) (fun k hk hh => by have h2 : g ≤ k := hh.2; omega)))
 replace HSk := Lib.hid ((HSk.out.ext zxt).but hx52 (fun k hk => by have h2 : g ≤ k := hk.2; omega))
 replace HTk := Lib.hid ((HTk.out.ext zxt).but hx52 (fun k hk => by have h2 : g ≤ k := hk.2; omega))
 clear HWk HQ
 have HWk := Lib.hid hW
 have HQ := Lib.hid hQ
 clear c0_4 hsz52 X51 hx52 hW hQ
 go_wp2_with fail
 (with_reducible refine (cWU_box g wr.heap.size 1048576 ((M0 ++ nuB (stL xv xs xp xf)) ++ putL xt.toNat) xh (by have := HQ0.out; omega) (by have := HQ0.out; omega) zSlTby3_1 _ (HWk.out.ext zxt) (HQ.out.ext zxt)).mono ?_)
 rintro e w53 ⟨rfl, hW, hQ, hx53⟩
 have hsz53 := hx53.size
 try simp at hsz53
 replace a_0 := zhb hx53 a_0 (ne := zSlTby3_0)
 replace a_1 := zhb hx53 a_1 (ne := zSlTby3_0)
 have z53 := hx53.size
 try simp at z53
 replace ra := zr w.heap.size w53
 have X53 : Hid (Ext w w53) := Lib.hid (have hX := (show Ext w _ from zxt); Below.trans hX (hx53.below (Ext.size hX) (fun k hk hh => by have h2 : g ≤ k := hh.2; omega)))
 replace HSk := Lib.hid ((HSk.out.ext zxt).but hx53 (fun k hk => by have h2 : g ≤ k := hk.2; omega))
 replace HTk := Lib.hid ((HTk.out.ext zxt).but hx53 (fun k hk => by have h2 : g ≤ k := hk.2; omega))
 clear HWk HQ
 have HWk := Lib.hid hW
 have HQ := Lib.hid hQ
 clear c0_5 rc0 hsz53 X52 hx53 hW hQ
 go_wp2_with fail
 go_roundg (gk - 1)
 case measure => have := HK.out; omega
 refine ⟨by have := HK.out; omega, num_eq (by have := HK.out; omega), Lib.hid ?_, Lib.hid (HSk.out.ext zxt), Lib.hid (HTk.out.ext zxt), Lib.hid ⟨zcv, zcv⟩, zxt⟩
 rw [show n - (gk - 1) = k + 1 from by have := HK.out; omega, HNX.out]
 have h := (HWk.out.ext zxt)
 simpa [clB, clN, nuB, stL, List.append_assoc] using h
theorem hBytes_any (n c n2 c2 : Nat) (A A2 : Option Addr) (cl ps : List I6) (w : World) (h : Sl w 6 A n c (cl.flatMap clsC)) (h2 : Sl w 6 A2 n2 c2 (ps.flatMap posC)) (hn : n = cl.length) (hn2 : n2 = ps.length) (hm : n ≤ 1024) (hm2 : n2 ≤ 1024) (hw : ∀ x ∈ cl, WdC x) (hw2 : ∀ x ∈ ps, WdP x) :
  Calls Tryz.prog 56 #[.agg #[.slice A n c, .slice A2 n2 c2]] w (ByErr (hldB cl ps) (chkH cl ps) w) := by
 by_cases hc : chkH cl ps = 0
 ·rw [hc]; exact hBytes_ok n c n2 c2 A A2 cl ps w h h2 hn hn2 hm hm2 hw hw2 ((chkH_iff cl ps).1 hc)
 exact hBytes_chk n c n2 c2 A A2 cl ps w h h2 hn hn2 hm hm2 hw hw2 _ rfl hc
theorem r13Bytes_chk (n c n2 c2 : Nat) (A A2 : Option Addr) (cl ps : List I6) (w : World) (h : Sl w 6 A n c (cl.flatMap clsC)) (h2 : Sl w 6 A2 n2 c2 (ps.flatMap posC)) (hn : n = cl.length) (hn2 : n2 = ps.length) (hm : n ≤ 1024) (hm2 : n2 ≤ 1024) (hw : ∀ x ∈ cl, WdC x) (hw2 : ∀ x ∈ ps, WdP x) (f : Int) (hf : chkH cl ps = f) (hc : ¬ f = 0) :
  Calls Tryz.prog 57 #[.agg #[.slice A n c, .slice A2 n2 c2]] w (ByErr (hldB cl ps) f w) := by
 have e7 : (f != 0) = true := by simpa using hc
 have hB : hldB cl ps = [] := by unfold hldB; rw [hf]; exact if_neg hc
 rw [hB]
 have HF := Lib.hid hf
 have HS := Lib.hid h.low
 have HT := Lib.hid h2.low
 have HW := Lib.hid hw
 have HW2 := Lib.hid hw2
 clear h h2 hn hn2 hw hw2 hf hB
 go_enter Tryz.func57, Tryz.ntmps57
 go_wp2_with fail
 (with_reducible refine ((show Calls Tryz.prog 15 #[.agg #[.slice A n c, .slice A2 n2 c2]] _ fun r w' => r = .returned (.int .i64 f) ∧ Ext _ w' from HF.out ▸ r13Check_any n c n2 c2 A A2 cl ps _ (HS.out.ext zxt).sl (HT.out.ext zxt).sl HW.out HW2.out)).mono ?_)
 rintro e w1 ⟨rfl, hx1⟩
 have z1 := hx1.size
 try simp at z1
 replace HS := Lib.hid (HS.out.ext (Ext.trans zxt hx1))
 replace HT := Lib.hid (HT.out.ext (Ext.trans zxt hx1))
 have X1 : Hid (Ext w w1) := Lib.hid (Ext.trans zxt hx1)
 clear hx1
 go_wp2_with fail
 refine bodyPost_ret (v := .tuple #[.slice none 0 0, .int .i64 f]) (by simp [results, Tryz.results57, go_sem, World.cell?_alloc_past]; try rfl) rfl ⟨_, rfl, World.ownsRow_nil _ _ _ _, ?_⟩
 exact zxt
theorem r13Bytes_ok (n c n2 c2 : Nat) (A A2 : Option Addr) (cl ps : List I6) (w : World) (h : Sl w 6 A n c (cl.flatMap clsC)) (h2 : Sl w 6 A2 n2 c2 (ps.flatMap posC)) (hn : n = cl.length) (hn2 : n2 = ps.length) (hm : n ≤ 1024) (hm2 : n2 ≤ 1024) (hw : ∀ x ∈ cl, WdC x) (hw2 : ∀ x ∈ ps, WdP x) (hk : HOk cl ps) :
  Calls Tryz.prog 57 #[.agg #[.slice A n c, .slice A2 n2 c2]] w (ByErr (hldB cl ps) 0 w) := by
 have hf : chkH cl ps = 0 := (chkH_iff cl ps).2 hk
 have hB : hldB cl ps = putL cl.length ++ cl.flatMap clB ++ (putL ps.length ++ ps.flatMap poB) := by unfold hldB; exact if_pos hf
 rw [hB, ← hn, ← hn2]
 have HF := Lib.hid hf
 have HKK := Lib.hid hk
 have HFIT := Lib.hid (fun j k => hld_fit hk hw hw2 (by omega) (by omega) j k)
 rw [← hn, ← hn2] at HFIT
 obtain ⟨M1, hM1⟩ : ∃ M, M = putL n ++ cl.flatMap clB := ⟨_, rfl⟩
 have hmd : ¬ (65536 : Int) < (n2 : Int) := by omega
 have HM1 := Lib.hid hM1
 have HNN := Lib.hid (And.intro hn hn2)
 have HS := Lib.hid h.low
 have HT := Lib.hid h2.low
 have HW := Lib.hid hw
 have HW2 := Lib.hid hw2
 rw [← hM1] at HFIT ⊢
 clear h h2 hn hn2 hw hw2 hf hB hM1 hk
 go_enter Tryz.func57, Tryz.ntmps57
 go_wp2_with fail
 (with_reducible refine ((show Calls Tryz.prog 15 #[.agg #[.slice A n c, .slice A2 n2 c2]] _ fun r w' => r = .returned (.int .i64 0) ∧ Ext _ w' from HF.out ▸ r13Check_any n c n2 c2 A A2 cl ps _ (HS.out.ext zxt).sl (HT.out.ext zxt).sl HW.out HW2.out)).mono ?_)
 rintro e w1 ⟨rfl, hx1⟩
 have c0_0 : w1.cell? ⟨w.heap.size, 0, none⟩ = some (.slice A n c) := hx1.has zcv
 have c0_1 : w1.cell? ⟨w.heap.size, 1, none⟩ = some (.slice A2 n2 c2) := hx1.has zcv
 have z1 := hx1.size
 try simp at z1
 have rc0 := zr w.heap.size w1
 replace HS := Lib.hid (HS.out.ext (Ext.trans zxt hx1))
 replace HT := Lib.hid (HT.out.ext (Ext.trans zxt hx1))
 have X1 : Hid (Ext w w1) := Lib.hid (Ext.trans zxt hx1)
 clear hx1
 go_wp2_with fail
 have hx0 : w.heap.size < w1.heap.size := by have := Ext.size X1.out; omega
 (with_reducible refine (rNewWriter_ex 1048576 (by decide) (by decide) _).mono ?_)
 rintro e w2 ⟨g, rfl, hg, hW, hx2⟩
 replace c0_0 := zh hx2 c0_0
 replace c0_1 := zh hx2 c0_1
 have z2 := hx2.size
 try simp at z2
 replace rc0 := zr w.heap.size w2
 replace HS := Lib.hid (HS.out.ext (Ext.trans zxt hx2))
 replace HT := Lib.hid (HT.out.ext (Ext.trans zxt hx2))
 have X2 : Hid (Ext w w2) := Lib.hid (Ext.trans zxt hx2)
 have HWr := Lib.hid hW
 clear X1 hx2 hW
 have hgw : w.heap.size < g := by have := hx0; (try simp at hg); omega
 clear hg hx0
 go_wp2_with fail
 (with_reducible refine (rWN_fit g 1048576 [] (n : Int) (by omega) (by omega) (by simp) _ (HWr.out.ext zxt)).mono ?_)
 rintro e w3 ⟨rfl, hW, hx3⟩
 have hsz3 := hx3.size
 try simp at hsz3
 replace c0_0 := zhb hx3 c0_0 (ne := (by show ¬ g ≤ _; omega))
 replace c0_1 := zhb hx3 c0_1 (ne := (by show ¬ g ≤ _; omega))
 have z3 := hx3.size
 try simp at z3
 replace rc0 := zr w.heap.size w3
 have X3 : Hid (Ext w w3) := Lib.hid (have hX := (show Ext w _ from zxt); Below.trans hX (hx3.below (Ext.size hX) (fun k hk hh => by have h2 : g ≤ k := hh; omega)))
 replace HS := Lib.hid ((HS.out.ext zxt).but hx3 (fun k hk => by have h2 : g ≤ k := hk; omega))
 replace HT := Lib.hid ((HT.out.ext zxt).but hx3 (fun k hk => by have h2 : g ≤ k := hk; omega))
 clear HWr
 have HWr := Lib.hid (show RWr _ g 1048576 0 (putL n) from by simpa using hW)
 clear hsz3 X2 hx3
 have HW0 : Hid (RWr _ g 1048576 0 (putL n ++ (cl.take 0).flatMap clB)) := Lib.hid (by simpa using (HWr.out.ext zxt))
 go_wp2_with fail
 go_loopg [7] n (fun gh i wx => gh ≤ n ∧ i = .int .i64 ((n - gh : Nat) : Int) ∧ Hid (RWr wx g 1048576 0 (putL n ++ (cl.take (n - gh)).flatMap clB)) ∧ Hid (SlB w.heap.size wx 6 A n c (cl.flatMap clsC)) ∧ Hid (SlB w.heap.size wx 6 A2 n2 c2 (ps.flatMap posC)) ∧ Hid (wx.cell? ⟨w.heap.size, 0, none⟩ = some (.slice A n c) ∧ wx.cell? ⟨w.heap.size, 1, none⟩ = some (.slice A2 n2 c2)) ∧ Ext w wx)
 case atStart => exact ⟨Nat.le_refl _, by simp, by rw [Nat.sub_self]; exact HW0, Lib.hid (HS.out.ext zxt), Lib.hid (HT.out.ext zxt), Lib.hid ⟨zcv, zcv⟩, zxt⟩
 obtain ⟨hg, hi, hw, hs, hs2, hcc, hx⟩ := hrel
 obtain ⟨a_0, a_1⟩ := hcc.out
 obtain ⟨k, hk⟩ : ∃ k, k = n - gk := ⟨_, rfl⟩
 rw [← hk] at hi hw
 subst hi
 have XR := Lib.hid hx
 have HWk := hw
 have HSk := hs
 have HTk := hs2
 have hla := cell_lt a_0
 by_cases hz : gk = 0
 ·have hkn : ¬ (k : Int) < (n : Int) := by omega
  have hkl : k = n := by omega
  have HWE : Hid (RWr wr g 1048576 0 M1) := Lib.hid (by have h := hw.out; rw [hkl, show n = cl.length from HNN.out.1, List.take_length, ← HNN.out.1, ← HM1.out] at h; exact h)
  clear hx hk hg hz hw hs hs2 hkl HWk HSk hcc
  go_wp2_with fail
  (with_reducible refine (rWN_fit g 1048576 M1 (n2 : Int) (by omega) (by omega) (by have h := (HFIT.out 0 0).2; simp only [List.length_append] at h; omega) _ (HWE.out.ext zxt)).mono ?_)
  rintro e w41 ⟨rfl, hW, hx41⟩
  have hsz41 := hx41.size
  try simp at hsz41
  replace a_0 := zhb hx41 a_0 (ne := (by show ¬ g ≤ _; omega))
  replace a_1 := zhb hx41 a_1 (ne := (by show ¬ g ≤ _; omega))
  have z41 := hx41.size
  try simp at z41
  have ra := zr w.heap.size w41
  have X41 : Hid (Ext w w41) := Lib.hid (have hX := (show Ext w _ from zxt); Below.trans hX (hx41.below (Ext.size hX) (fun k hk hh => by have h2 : g ≤ k := hh; omega)))
  replace HTk := Lib.hid ((HTk.out.ext zxt).but hx41 (fun k hk => by have h2 : g ≤ k := hk; omega))
  clear HWE
  have HWE := Lib.hid (show RWr _ g 1048576 0 (M1 ++ putL n2) from by simpa using hW)
  clear hsz41 XR hx41
  have HW0 : Hid (RWr _ g 1048576 0 (M1 ++ (putL n2 ++ (ps.take 0).flatMap poB))) := Lib.hid (by simpa using (HWE.out.ext zxt))
  go_wp2_with fail
  go_loopg [9] n2 (fun gh i wx => gh ≤ n2 ∧ i = .int .i64 ((n2 - gh : Nat) : Int) ∧ Hid (RWr wx g 1048576 0 (M1 ++ (putL n2 ++ (ps.take (n2 - gh)).flatMap poB))) ∧ Hid (SlB w.heap.size wx 6 A2 n2 c2 (ps.flatMap posC)) ∧ Hid (wx.cell? ⟨w.heap.size, 0, none⟩ = some (.slice A n c) ∧ wx.cell? ⟨w.heap.size, 1, none⟩ = some (.slice A2 n2 c2)) ∧ Ext w wx)
  case atStart => exact ⟨Nat.le_refl _, by simp, by rw [Nat.sub_self]; exact HW0, Lib.hid (HTk.out.ext zxt), Lib.hid ⟨zcv, zcv⟩, zxt⟩
  obtain ⟨hg2, hi2, hw2_, hs2_, hcc2, hx2⟩ := hrel
  obtain ⟨wo, hwo⟩ : ∃ x, x = wr := ⟨_, rfl⟩
  subst hwo
  obtain ⟨b_0, b_1⟩ := hcc2.out
  obtain ⟨j, hj⟩ : ∃ k, k = n2 - gk := ⟨_, rfl⟩
  rw [← hj] at hi2 hw2_
  subst hi2
  have XS := Lib.hid hx2
  have HWj := hw2_
  have HTj := hs2_
  have hlb := cell_lt b_0
  by_cases hz2 : gk = 0
  ·have hjn : ¬ (j : Int) < (n2 : Int) := by omega
   have hjl : j = n2 := by omega
   have HWF : Hid (RWr wo g 1048576 0 (M1 ++ (putL n2 ++ ps.flatMap poB))) := Lib.hid (by have h := hw2_.out; rw [hjl, show n2 = ps.length from HNN.out.2, List.take_length, ← HNN.out.2] at h; exact h)
   clear hx2 hj hg2 hz2 hw2_ hs2_ hjl HWj HTj hcc2
   go_wp2_with fail
   have hrm := Ext.size XS.out
   (with_reducible refine ((show _ from rDone_ok g 1048576 _ _ (HWF.out.ext zxt))).mono ?_)
   rintro e w61 ⟨v, rfl, hV, hx61⟩
   have z61 := hx61.size
   try simp at z61
   replace HWF := Lib.hid (HWF.out.ext (Ext.trans zxt hx61))
   have X61 : Hid (Ext w w61) := Lib.hid (Ext.trans zxt hx61)
   have HV := Lib.hid hV
   clear b_0 b_1 XS hx61 hV
   go_wp2_with fail
   refine bodyPost_ret (v := .tuple #[v, .int .i64 0]) (by simp [results, Tryz.results57]; try rfl) rfl ⟨v, rfl, own_lower HV.out ?_, zxt⟩
   have h := hrm
   (try simp at h)
   omega
  have hkn : (j : Int) < (n2 : Int) := by omega
  have hk1 : j < ps.length := by have := HNN.out; omega
  obtain ⟨b1, o1, rfl, hb1, hc1⟩ := hs2_.out.sl.rec_ posC_len (show 0 < n2 from by omega)
  have hb1w := hs2_.out.2 (by omega) b1 o1 none rfl
  have x_0 := hc1 j _ (List.getElem?_eq_getElem hk1) 0 _ rfl
  have x_1 := hc1 j _ (List.getElem?_eq_getElem hk1) 1 _ rfl
  have x_2 := hc1 j _ (List.getElem?_eq_getElem hk1) 2 _ rfl
  have x_3 := hc1 j _ (List.getElem?_eq_getElem hk1) 3 _ rfl
  have x_4 := hc1 j _ (List.getElem?_eq_getElem hk1) 4 _ rfl
  have x_5 := hc1 j _ (List.getElem?_eq_getElem hk1) 5 _ rfl
  obtain ⟨x, hxx⟩ : ∃ x, x = ps[j] := ⟨_, rfl⟩
  have hlk : ps[j]? = some x := by rw [hxx]; exact List.getElem?_eq_getElem hk1
  rw [← hxx] at x_0 x_1 x_2 x_3 x_4 x_5
  have hr3 := HKK.out.posS (List.mem_of_getElem? hlk)
  have hro := (HKK.out.pos x (List.mem_of_getElem? hlk)).1
  have hu := HW2.out x (List.mem_of_getElem? hlk)
  have hM := (HFIT.out 0 j).2
  have ht := nuF_take (f := poB) hlk
  obtain ⟨M0, hM0⟩ : ∃ M0, M0 = M1 ++ (putL n2 ++ (ps.take j).flatMap poB) := ⟨_, rfl⟩
  rw [← hM0] at hM HWj
  have hnext : M1 ++ (putL n2 ++ (ps.take (j + 1)).flatMap poB) = M0 ++ poB x := by rw [ht, hM0]; simp only [List.append_assoc]
  obtain ⟨po, pv, ps_, pp, pf, ph⟩ := x
  have u1 : Word ph := hu
  have u2 := hro
  change 0 ≤ ph ∧ ph < 18446744073709551616 at u1
  change 0 ≤ po ∧ po < 64 at u2
  change chkS pv ps_ pp pf = 0 at hr3
  simp only at x_0 x_1 x_2 x_3 x_4 x_5
  rw [Nat.add_zero] at x_0
  rw [← Nat.add_assoc] at x_1 x_2 x_3 x_4 x_5
  have c1' := nuB_len (l := stL pv ps_ pp pf) (fun y hy => (stL_in hr3 y hy).2)
  have c2' := putL_ten (N := po.toNat) (by omega)
  have c3' := putL_ten (N := ph.toNat) (by omega)
  have c5' : (stL pv ps_ pp pf).length = 4 := rfl
  have HQ0 := Lib.hid (And.intro u1 (And.intro u2 (And.intro hM (And.intro c1' (And.intro c2' (And.intro c3' c5'))))))
  have HR3 := Lib.hid hr3
  have HNX := Lib.hid hnext
  have HK := Lib.hid (And.intro hj (And.intro hg2 hz2))
  clear hx2 hj hg2 hz2 hc1 hxx hlk hu hM ht hnext c1' c2' c3' c5' hw2_ hs2_ hM0 hr3 u1 u2 hro hcc2
  go_wp2_with fail
  (with_reducible refine (rWN_box g wo.heap.size 1048576 M0 po (by have := HQ0.out; omega) (by have := HQ0.out; omega) zSlTby3_1 _ (HWj.out.ext zxt) (Off.newR HWj.out (Nat.le_refl _) zxt (by simp))).mono ?_)
  rintro e w81 ⟨rfl, hW, hQ, hx81⟩
  have hsz81 := hx81.size
  try simp at hsz81
  replace b_0 := zhb hx81 b_0 (ne := zSlTby3_0)
  replace b_1 := zhb hx81 b_1 (ne := zSlTby3_0)
  have c0_1 : w81.cell? ⟨wo.heap.size, 1, none⟩ = some (.int .i64 pv) := hx81.has zSlTby3_0 zcv
  have c0_2 : w81.cell? ⟨wo.heap.size, 2, none⟩ = some (.int .i64 ps_) := hx81.has zSlTby3_0 zcv
  have c0_3 : w81.cell? ⟨wo.heap.size, 3, none⟩ = some (.int .i64 pp) := hx81.has zSlTby3_0 zcv
  have c0_4 : w81.cell? ⟨wo.heap.size, 4, none⟩ = some (.int .i64 pf) := hx81.has zSlTby3_0 zcv
  have c0_5 : w81.cell? ⟨wo.heap.size, 5, none⟩ = some (.int .u64 ph) := hx81.has zSlTby3_0 zcv
  have z81 := hx81.size
  try simp at z81
  have lt_b_c0 := zl w.heap.size wo.heap.size
  have rb := zr w.heap.size w81
  have rc0 := zr wo.heap.size w81
  have X81 : Hid (Ext w w81) := Lib.hid (have hX := (show Ext w _ from zxt); Below.trans hX (hx81.below (Ext.size hX) (fun k hk hh => by have h2 : g ≤ k := hh.2; omega)))
  replace HTj := Lib.hid ((HTj.out.ext zxt).but hx81 (fun k hk => by have h2 : g ≤ k := hk.2; omega))
  clear HWj
  have HWj := Lib.hid hW
  have HQ := Lib.hid hQ
  clear x_1 x_2 x_3 x_4 x_0 x_5 hsz81 XS hx81 hW hQ
  go_wp2_with fail
  (with_reducible refine (rPut12_box g wo.heap.size 1048576 (M0 ++ putL po.toNat) pv ps_ pp pf HR3.out zSlTby3_1 _ (HWj.out.ext zxt) (HQ.out.ext zxt)).mono ?_)
  rintro e w82 ⟨rfl, hW, hQ, hx82⟩
  have hsz82 := hx82.size
  try simp at hsz82
  replace b_0 := zhb hx82 b_0 (ne := zSlTby3_0)
  replace b_1 := zhb hx82 b_1 (ne := zSlTby3_0)
  replace c0_5 := zhb hx82 c0_5 (ne := zSlTby3_0)
  have z82 := hx82.size
  try simp at z82
  replace rb := zr w.heap.size w82
  replace rc0 := zr wo.heap.size w82
  have X82 : Hid (Ext w w82) := Lib.hid (have hX := (show Ext w _ from zxt); Below.trans hX (hx82.below (Ext.size hX) (fun k hk hh => by have h2 : g ≤ k := hh.2; omega)))
  replace HTj := Lib.hid ((HTj.out.ext zxt).but hx82 (fun k hk => by have h2 : g ≤ k := hk.2; omega))
  clear HWj HQ
  have HWj := Lib.hid hW
  have HQ := Lib.hid hQ
  clear c0_3 c0_4 c0_2 c0_1 hsz82 X81 hx82 hW hQ
  go_wp2_with fail
  (with_reducible refine (rWU_box g wo.heap.size 1048576 ((M0 ++ putL po.toNat) ++ nuB (stL pv ps_ pp pf)) ph (by have := HQ0.out; omega) (by have := HQ0.out; omega) zSlTby3_1 _ (HWj.out.ext zxt) (HQ.out.ext zxt)).mono ?_)
  rintro e w83 ⟨rfl, hW, hQ, hx83⟩
  have hsz83 := hx83.size
  try simp at hsz83
  replace b_0 := zhb hx83 b_0 (ne := zSlTby3_0)
  replace b_1 := zhb hx83 b_1 (ne := zSlTby3_0)
  have z83 := hx83.size
  try simp at z83
  replace rb := zr w.heap.size w83
  have X83 : Hid (Ext w w83) := Lib.hid (have hX := (show Ext w _ from zxt); Below.trans hX (hx83.below (Ext.size hX) (fun k hk hh => by have h2 : g ≤ k := hh.2; omega)))
  replace HTj := Lib.hid ((HTj.out.ext zxt).but hx83 (fun k hk => by have h2 : g ≤ k := hk.2; omega))
  clear HWj HQ
  have HWj := Lib.hid hW
  have HQ := Lib.hid hQ
  clear c0_5 rc0 hsz83 X82 hx83 hW hQ
  go_wp2_with fail
  go_roundg (gk - 1)
  case measure => have := HK.out; omega
  refine ⟨by have := HK.out; omega, num_eq (by have := HK.out; omega), Lib.hid ?_, Lib.hid (HTj.out.ext zxt), Lib.hid ⟨zcv, zcv⟩, zxt⟩
  rw [show n2 - (gk - 1) = j + 1 from by have := HK.out; omega, HNX.out]
  have h := (HWj.out.ext zxt)
  simpa [poB, poN, nuB, stL, List.append_assoc] using h
 have hkn : (k : Int) < (n : Int) := by omega
 have hk1 : k < cl.length := by have := HNN.out; omega
 obtain ⟨b1, o1, rfl, hb1, hc1⟩ := hs.out.sl.rec_ clsC_len (show 0 < n from by omega)
 have hb1w := hs.out.2 (by omega) b1 o1 none rfl
 have x_0 := hc1 k _ (List.getElem?_eq_getElem hk1) 0 _ rfl
 have x_1 := hc1 k _ (List.getElem?_eq_getElem hk1) 1 _ rfl
 have x_2 := hc1 k _ (List.getElem?_eq_getElem hk1) 2 _ rfl
 have x_3 := hc1 k _ (List.getElem?_eq_getElem hk1) 3 _ rfl
 have x_4 := hc1 k _ (List.getElem?_eq_getElem hk1) 4 _ rfl
 have x_5 := hc1 k _ (List.getElem?_eq_getElem hk1) 5 _ rfl
 obtain ⟨x, hxx⟩ : ∃ x, x = cl[k] := ⟨_, rfl⟩
 have hlk : cl[k]? = some x := by rw [hxx]; exact List.getElem?_eq_getElem hk1
 rw [← hxx] at x_0 x_1 x_2 x_3 x_4 x_5
 have hr3 := (HKK.out.cls x (List.mem_of_getElem? hlk)).1
 have hu := HW.out x (List.mem_of_getElem? hlk)
 have hM := (HFIT.out k 0).1
 have ht := nuF_take (f := clB) hlk
 obtain ⟨M0, hM0⟩ : ∃ M0, M0 = putL n ++ (cl.take k).flatMap clB := ⟨_, rfl⟩
 rw [← hM0] at hM HWk
 have hnext : putL n ++ (cl.take (k + 1)).flatMap clB = M0 ++ clB x := by rw [ht, hM0]; simp only [List.append_assoc]
 obtain ⟨xv, xs, xp, xf, xt, xh⟩ := x
 have u1 := hu.1
 have u2 := hu.2
 change 0 ≤ xt ∧ xt < 18446744073709551616 at u1
 change 0 ≤ xh ∧ xh < 18446744073709551616 at u2
 change chkS xv xs xp xf = 0 at hr3
 simp only at x_0 x_1 x_2 x_3 x_4 x_5
 rw [Nat.add_zero] at x_0
 rw [← Nat.add_assoc] at x_1 x_2 x_3 x_4 x_5
 have c1' := nuB_len (l := stL xv xs xp xf) (fun y hy => (stL_in hr3 y hy).2)
 have c2' := putL_ten (N := xt.toNat) (by omega)
 have c3' := putL_ten (N := xh.toNat) (by omega)
 have c5' : (stL xv xs xp xf).length = 4 := rfl
 have HQ0 := Lib.hid (And.intro u1 (And.intro u2 (And.intro hM (And.intro c1' (And.intro c2' (And.intro c3' c5'))))))
 have HR3 := Lib.hid hr3
 have HNX := Lib.hid hnext
 have HK := Lib.hid (And.intro hk (And.intro hg hz))
 clear hx hk hg hz hc1 hxx hlk hu hM ht hnext c1' c2' c3' c5' hw hs hs2 hM0 hr3 u1 u2 hcc
 go_wp2_with fail
 (with_reducible refine (rPut12_box g wr.heap.size 1048576 M0 xv xs xp xf HR3.out zSlTby3_1 _ (HWk.out.ext zxt) (Off.newR HWk.out (Nat.le_refl _) zxt (by simp))).mono ?_)
 rintro e w51 ⟨rfl, hW, hQ, hx51⟩
 have hsz51 := hx51.size
 try simp at hsz51
 replace a_0 := zhb hx51 a_0 (ne := zSlTby3_0)
 replace a_1 := zhb hx51 a_1 (ne := zSlTby3_0)
 have c0_4 : w51.cell? ⟨wr.heap.size, 4, none⟩ = some (.int .u64 xt) := hx51.has zSlTby3_0 zcv
 have c0_5 : w51.cell? ⟨wr.heap.size, 5, none⟩ = some (.int .u64 xh) := hx51.has zSlTby3_0 zcv
 have z51 := hx51.size
 try simp at z51
 have lt_a_c0 := zl w.heap.size wr.heap.size
 have ra := zr w.heap.size w51
 have rc0 := zr wr.heap.size w51
 have X51 : Hid (Ext w w51) := Lib.hid (have hX := (show Ext w _ from zxt); Below.trans hX (hx51.below (Ext.size hX) (fun k hk hh => by have h2 : g ≤ k := hh.2; omega)))
 replace HSk := Lib.hid ((HSk.out.ext zxt).but hx51 (fun k hk => by have h2 : g ≤ k := hk.2; omega))
 replace HTk := Lib.hid ((HTk.out.ext zxt).but hx51 (fun k hk => by have h2 : g ≤ k := hk.2; omega))
 clear HWk
 have HWk := Lib.hid hW
 have HQ := Lib.hid hQ
 clear x_1 x_2 x_3 x_4 x_0 x_5 hsz51 XR hx51 hW hQ
 go_wp2_with fail
 (with_reducible refine (rWU_box g wr.heap.size 1048576 (M0 ++ nuB (stL xv xs xp xf)) xt (by have := HQ0.out; omega) (by have := HQ0.out; omega) zSlTby3_1 _ (HWk.out.ext zxt) (HQ.out.ext zxt)).mono ?_)
 rintro e w52 ⟨rfl, hW, hQ, hx52⟩
 have hsz52 := hx52.size
 try simp at hsz52
 replace a_0 := zhb hx52 a_0 (ne := zSlTby3_0)
 replace a_1 := zhb hx52 a_1 (ne := zSlTby3_0)
 replace c0_5 := zhb hx52 c0_5 (ne := zSlTby3_0)
 have z52 := hx52.size
 try simp at z52
 replace ra := zr w.heap.size w52
 replace rc0 := zr wr.heap.size w52
 have X52 : Hid (Ext w w52) := Lib.hid (have hX := (show Ext w _ from zxt); Below.trans hX (hx52.below (Ext.size hX) (fun k hk hh => by have h2 : g ≤ k := hh.2; omega)))
 replace HSk := Lib.hid ((HSk.out.ext zxt).but hx52 (fun k hk => by have h2 : g ≤ k := hk.2; omega))
 replace HTk := Lib.hid ((HTk.out.ext zxt).but hx52 (fun k hk => by have h2 : g ≤ k := hk.2; omega))
 clear HWk HQ
 have HWk := Lib.hid hW
 have HQ := Lib.hid hQ
 clear c0_4 hsz52 X51 hx52 hW hQ
 go_wp2_with fail
 (with_reducible refine (rWU_box g wr.heap.size 1048576 ((M0 ++ nuB (stL xv xs xp xf)) ++ putL xt.toNat) xh (by have := HQ0.out; omega) (by have := HQ0.out; omega) zSlTby3_1 _ (HWk.out.ext zxt) (HQ.out.ext zxt)).mono ?_)
 rintro e w53 ⟨rfl, hW, hQ, hx53⟩
 have hsz53 := hx53.size
 try simp at hsz53
 replace a_0 := zhb hx53 a_0 (ne := zSlTby3_0)
 replace a_1 := zhb hx53 a_1 (ne := zSlTby3_0)
 have z53 := hx53.size
 try simp at z53
 replace ra := zr w.heap.size w53
 have X53 : Hid (Ext w w53) := Lib.hid (have hX := (show Ext w _ from zxt); Below.trans hX (hx53.below (Ext.size hX) (fun k hk hh => by have h2 : g ≤ k := hh.2; omega)))
 replace HSk := Lib.hid ((HSk.out.ext zxt).but hx53 (fun k hk => by have h2 : g ≤ k := hk.2; omega))
 replace HTk := Lib.hid ((HTk.out.ext zxt).but hx53 (fun k hk => by have h2 : g ≤ k := hk.2; omega))
 clear HWk HQ
 have HWk := Lib.hid hW
 have HQ := Lib.hid hQ
 clear c0_5 rc0 hsz53 X52 hx53 hW hQ
 go_wp2_with fail
 go_roundg (gk - 1)
 case measure => have := HK.out; omega
 refine ⟨by have := HK.out; omega, num_eq (by have := HK.out; omega), Lib.hid ?_, Lib.hid (HSk.out.ext zxt), Lib.hid (HTk.out.ext zxt), Lib.hid ⟨zcv, zcv⟩, zxt⟩
 rw [show n - (gk - 1) = k + 1 from by have := HK.out; omega, HNX.out]
 have h := (HWk.out.ext zxt)
 simpa [clB, clN, nuB, stL, List.append_assoc] using h
theorem r13Bytes_any (n c n2 c2 : Nat) (A A2 : Option Addr) (cl ps : List I6) (w : World) (h : Sl w 6 A n c (cl.flatMap clsC)) (h2 : Sl w 6 A2 n2 c2 (ps.flatMap posC)) (hn : n = cl.length) (hn2 : n2 = ps.length) (hm : n ≤ 1024) (hm2 : n2 ≤ 1024) (hw : ∀ x ∈ cl, WdC x) (hw2 : ∀ x ∈ ps, WdP x) :
  Calls Tryz.prog 57 #[.agg #[.slice A n c, .slice A2 n2 c2]] w (ByErr (hldB cl ps) (chkH cl ps) w) := by
 by_cases hc : chkH cl ps = 0
 ·rw [hc]; exact r13Bytes_ok n c n2 c2 A A2 cl ps w h h2 hn hn2 hm hm2 hw hw2 ((chkH_iff cl ps).1 hc)
 exact r13Bytes_chk n c n2 c2 A A2 cl ps w h h2 hn hn2 hm hm2 hw hw2 _ rfl hc
end
section
open Go.RowKit
theorem tkS_nz {L : List Nat} {s : Nat × Option (Int × Int)} {lo hi : Int} (h : FltNz s.2) : FltNz (tkS L s lo hi).2 := h.rn _ _ _ _
end
section
open Go.RowKit
section
variable {S : Nat → Prop} {w w' : World} {g k n q B : Nat} {L : List Nat} {flt : Option (Int × Int)} {base sz : Nat} {e : TypeId} {v : Value} {xs : List Value}
theorem RdT.rd (h : RdT q w g L k flt) : Rd w g L k flt := h.1
theorem RdT.new (h : Rd w g L k flt) (cs : Array Value) (t : TypeId) (ht : t ≠ 95) : RdT w.heap.size (w.alloc (.cells cs t)) g L k flt := by
 refine ⟨h.ext ((Ext.refl w).alloc _), h.lt, by simp, fun cs' z hh => ?_⟩
 rw [World.alloc_heap_new] at hh
 injection hh with hh
 injection hh with _ hh
 exact ht hh
theorem OwnR.butN (h : OwnR q w base e sz v n xs) (hx : But (fun j => q ≤ j) w w') : OwnR q w' base e sz v n xs := h.but hx (fun j _ h2 hh => by have h3 : q ≤ j := hh; omega)
theorem RdT.to {k' : Nat} {flt' : Option (Int × Int)} (h : RdT q w g L k flt) (hr : Rd w' g L k' flt') (hx : But (· = g) w w') : RdT q w' g L k' flt' :=
 ⟨hr, h.2.1, by have := h.2.2.1; have := hx.size; omega, fun cs z hh => h.2.2.2 cs z (by rw [← hh]; exact (hx.block q h.2.2.1 (fun e => by have := h.2.1; have e2 : q = g := e; omega)).symm)⟩
end
theorem cRN_T (q g k : Nat) (L : List Nat) (flt : Option (Int × Int)) (least most : Int) (h0 : 0 ≤ least) (h1 : least ≤ 9223372036854775807) (h2 : 0 ≤ most) (h3 : most ≤ 9223372036854775807) (hL : L.length < 1099511627776) (w : World) (h : RdT q w g L k flt) :
  Calls Tryz.prog 106 #[.pointer (some ⟨g, 0, none⟩), .int .i64 least, .int .i64 most] w fun r w' => r = .returned (.int .i64 (rnV L k flt least most)) ∧ RdT q w' g L (rnK L k flt least most) (rnF L k flt least most) ∧ But (· = g) w w' :=
 (cRN_any g k L flt least most h0 h1 h2 h3 hL w h.1).mono fun r w' hh => ⟨hh.1, h.to hh.2.1 hh.2.2, hh.2.2⟩
theorem cFail_T (q g k : Nat) (L : List Nat) (flt : Option (Int × Int)) (e a : Int) (w : World) (h : RdT q w g L k flt) :
  Calls Tryz.prog 111 #[.pointer (some ⟨g, 0, none⟩), .int .i64 e, .int .i64 a] w fun r w' => (∃ v, r = .returned v) ∧ RdT q w' g L k (failF flt e a) ∧ But (· = g) w w' :=
 (cFail_any g k L flt e a w h.1).mono fun r w' hh => ⟨hh.1, h.to hh.2.1 hh.2.2, hh.2.2⟩
theorem RRd.butN {w w' : World} {g k : Nat} {L : List Nat} {flt : Option (Int × Int)} (h : RRd w g L k flt) (hx : But (fun j => g < j) w w') : RRd w' g L k flt := h.butT hx (fun j _ hj => hj)
theorem flt_eql (e a e' a' : Int) (w : World) : (binOp .eql 95 (.agg #[.int .i64 e, .int .i64 a]) (.agg #[.int .i64 e', .int .i64 a'])).run Tryz.prog w = .ok (.bool (e == e' && a == a')) w := by
 have hS : Tryz.prog.underlying 95 = some (.struct (Tryz.prog.fieldsOf 95)) := by kernel_rfl
 have hp : Tryz.prog.stoodInHeld 95 = false := by kernel_rfl
 rw [run_eql_struct, show (10000 : Nat) = 9999 + 1 from rfl, run_equalIn_agg w 9999 95 _ _ hS hp]
 simp only [Program.fieldsOf, Tryz.underlying95]
 go_simp
 by_cases h0 : e = e' <;> by_cases h1 : a = a' <;> simp [h0, h1]
theorem flt_eqg (op : BinOp) (x y : Operand) (xs ys : Array Value) (w : World) : (eqGuard op 95 x y (.agg xs) (.agg ys)).run Tryz.prog w = .ok () w := run_eqGuard_agg w op 95 x y xs ys (by kernel_rfl)
theorem own_ne_fault {w : World} {base sz n g : Nat} {e : TypeId} {v : Value} {xs : List Value} (h : w.ownsRow base e sz v n xs) (hg : g < base) (ht : e ≠ 95) : ∀ j, j < w.heap.size → v.ownBlock = some j → g < j ∧ ∀ cs z, w.heap[j]? ≠ some (.cells cs 95 z) := by
 intro j _ hj
 obtain ⟨h1, _, cs0, h3⟩ := own_block h hj
 refine ⟨by omega, fun cs z hh => ?_⟩
 rw [h3] at hh
 injection hh with hh
 injection hh with _ hh
 exact ht hh
theorem rnV_in (L : List Nat) (k : Nat) (flt : Option (Int × Int)) (least most : Int) (h2 : 0 ≤ most) : 0 ≤ rnV L k flt least most ∧ rnV L k flt least most ≤ most := by
 unfold rnV
 split
 ·rename_i h
  have := rnE_zero h.2
  omega
 omega
theorem cRN_Te (q g k k' : Nat) (L : List Nat) (flt flt' : Option (Int × Int)) (least most v : Int) (h0 : 0 ≤ least) (h1 : least ≤ 9223372036854775807) (h2 : 0 ≤ most) (h3 : most ≤ 9223372036854775807) (hL : L.length < 1099511627776) (hv : v = rnV L k flt least most) (hk : k' = rnK L k flt least most) (hf : flt' = rnF L k flt least most) (w : World) (h : RdT q w g L k flt) :
  Calls Tryz.prog 106 #[.pointer (some ⟨g, 0, none⟩), .int .i64 least, .int .i64 most] w fun r w' => r = .returned (.int .i64 v) ∧ RdT q w' g L k' flt' ∧ But (· = g) w w' := by
 subst hv hk hf
 exact cRN_T q g k L flt least most h0 h1 h2 h3 hL w h
theorem rN_e (g k k' : Nat) (L : List Nat) (flt flt' : Option (Int × Int)) (least most v : Int) (h0 : 0 ≤ least) (h1 : least ≤ 9223372036854775807) (h2 : 0 ≤ most) (h3 : most ≤ 9223372036854775807) (hL : L.length < 1099511627776) (hv : v = rnV L k flt least most) (hk : k' = rnK L k flt least most) (hf : flt' = rnF L k flt least most) (w : World) (h : RRd w g L k flt) :
  Calls Tryz.prog 116 #[.pointer (some ⟨g, 0, none⟩), .int .i64 least, .int .i64 most] w fun r w' => r = .returned (.int .i64 v) ∧ RRd w' g L k' flt' ∧ But (· = g) w w' := by
 subst hv hk hf
 exact rN_any g k L flt least most h0 h1 h2 h3 hL w h
theorem rU_e (g k k' : Nat) (L : List Nat) (flt flt' : Option (Int × Int)) (v : Int) (hL : L.length < 1099511627776) (hv : v = ruV L k flt) (hk : k' = ruK L k flt) (hf : flt' = ruF L k flt) (w : World) (h : RRd w g L k flt) :
  Calls Tryz.prog 118 #[.pointer (some ⟨g, 0, none⟩)] w fun r w' => r = .returned (.int .u64 v) ∧ RRd w' g L k' flt' ∧ But (· = g) w w' := by
 subst hv hk hf
 exact rU_any g k L flt hL w h
end
section
open Go.RowKit Go.ChangeShapes Go.WideShapes Go.Deep Go.Joins
abbrev Flt := Option (Int × Int)
theorem tTake_e (g k k' : Nat) (L : List Nat) (f f' : Option (Int × Int)) (a b c d : Int) (hL : L.length < 1099511627776) (ha : a = if tkZ L (k, f) = true then 0 else tkA L (k, f)) (hb : b = if tkZ L (k, f) = true then 0 else tkB L (k, f)) (hc : c = if tkZ L (k, f) = true then 0 else tkC L (k, f) - 1) (hd : d = if tkZ L (k, f) = true then 0 else tkD L (k, f)) (hk : k' = (tk4 L (k, f)).1) (hf : f' = tkF L (k, f)) (w : World) (h : Rd w g L k f) :
  Calls Tryz.prog 108 #[.pointer (some ⟨g, 0, none⟩)] w fun r w' => r = .returned (.agg #[.int .i64 a, .int .i64 b, .int .i64 c, .int .i64 d]) ∧ Rd w' g L k' f' ∧ But (· = g) w w' := by
 subst ha; subst hb; subst hc; subst hd; subst hk; subst hf
 exact tTake_any g k L f hL w h
theorem rTake12_e (g k k' : Nat) (L : List Nat) (f f' : Option (Int × Int)) (a b c d : Int) (hL : L.length < 1099511627776) (ha : a = if tkZ L (k, f) = true then 0 else tkA L (k, f)) (hb : b = if tkZ L (k, f) = true then 0 else tkB L (k, f)) (hc : c = if tkZ L (k, f) = true then 0 else tkC L (k, f) - 1) (hd : d = if tkZ L (k, f) = true then 0 else tkD L (k, f)) (hk : k' = (tk4 L (k, f)).1) (hf : f' = tkF L (k, f)) (w : World) (h : RRd w g L k f) :
  Calls Tryz.prog 117 #[.pointer (some ⟨g, 0, none⟩)] w fun r w' => r = .returned (.agg #[.int .i64 a, .int .i64 b, .int .i64 c, .int .i64 d]) ∧ RRd w' g L k' f' ∧ But (· = g) w w' := by
 subst ha; subst hb; subst hc; subst hd; subst hk; subst hf
 exact rTake12_any g k L f hL w h
theorem cEnd_q (g k : Nat) (L : List Nat) (flt : Option (Int × Int)) (e a : Int) (w : World) (h : Rd w g L k flt) (hL : L.length < 1099511627776) (he : (e, a) = endF flt k L.length) :
  Calls Tryz.prog 114 #[.pointer (some ⟨g, 0, none⟩)] w fun r w' => r = .returned (.agg #[.int .i64 e, .int .i64 a]) ∧ Ext w w' := by
 have h := cEnd_any g k L flt w h hL
 rw [← he] at h
 exact h
theorem rEnd_q (g k : Nat) (L : List Nat) (flt : Option (Int × Int)) (e a : Int) (w : World) (h : RRd w g L k flt) (hL : L.length < 1099511627776) (he : (e, a) = endF flt k L.length) :
  Calls Tryz.prog 122 #[.pointer (some ⟨g, 0, none⟩)] w fun r w' => r = .returned (.agg #[.int .i64 e, .int .i64 a]) ∧ Ext w w' := by
 have h := rEnd_any g k L flt w h hL
 rw [← he] at h
 exact h
theorem ruF_s (L : List Nat) (k : Nat) (x : Int × Int) : ruF L k (some x) = some x := by unfold ruF; rw [if_neg (by simp)]
theorem rnF_s (L : List Nat) (k : Nat) (x : Int × Int) (lo hi : Int) : rnF L k (some x) lo hi = some x := by unfold rnF; rw [if_neg (by simp)]
theorem tk4_s (L : List Nat) (k : Nat) (x : Int × Int) : (tk4 L (k, some x)).2 = some x := by
 have e : ∀ (s : Nat × Option (Int × Int)) lo hi, s.2 = some x → (tkS L s lo hi).2 = some x := fun s lo hi h => by
  obtain ⟨k, f⟩ := s
  subst h
  exact rnF_s L k x lo hi
 exact e _ _ _ (e _ _ _ (e _ _ _ (e _ _ _ rfl)))
theorem tkF_s (L : List Nat) (k : Nat) (x : Int × Int) : tkF L (k, some x) = some x := by
 unfold tkF
 rw [tk4_s]
 split
 ·rfl
 rfl
theorem ru_w (L : List Nat) (k : Nat) (f : Option (Int × Int)) : Word (ruV L k f) := by
 unfold ruV
 split
 ·have hn := numGo_lt (L.drop k) 0 0 (by decide) (by decide)
  exact ⟨by omega, by omega⟩
 exact ⟨by omega, by omega⟩
theorem ruq_nz {L : List Nat} {k : Nat} {f : Option (Int × Int)} (h : FltNz f) : FltNz (ruF L k f) := by
 unfold ruF
 split
 ·exact FltNz.none.fail _ _
 exact h
theorem tkF_nz {L : List Nat} {k : Nat} {f : Option (Int × Int)} (h : FltNz f) : FltNz (tkF L (k, f)) := by
 have h4 : FltNz (tk4 L (k, f)).2 := tkS_nz (tkS_nz (tkS_nz (tkS_nz h)))
 unfold tkF
 split
 ·exact h4
 exact h4.fail _ _
theorem rnV_s (L : List Nat) (k : Nat) (x : Int × Int) (lo hi : Int) : rnV L k (some x) lo hi = 0 := by unfold rnV; rw [if_neg (by simp)]
def hRdC (L : List Nat) (k : Nat) (f : Flt) : Nat × Flt × I6 :=
 let k1 := (tk4 L (k, f)).1; let f1 := tkF L (k, f)
 let k2 := ruK L k1 f1; let f2 := ruF L k1 f1
 (ruK L k2 f2, ruF L k2 f2, (if tkZ L (k, f) = true then 0 else tkA L (k, f), if tkZ L (k, f) = true then 0 else tkB L (k, f), if tkZ L (k, f) = true then 0 else tkC L (k, f) - 1, if tkZ L (k, f) = true then 0 else tkD L (k, f), ruV L k1 f1, ruV L k2 f2))
def hRdP (L : List Nat) (k : Nat) (f : Flt) : Nat × Flt × I6 :=
 let k1 := rnK L k f 0 63; let f1 := rnF L k f 0 63
 let k2 := (tk4 L (k1, f1)).1; let f2 := tkF L (k1, f1)
 (ruK L k2 f2, ruF L k2 f2, (rnV L k f 0 63, if tkZ L (k1, f1) = true then 0 else tkA L (k1, f1), if tkZ L (k1, f1) = true then 0 else tkB L (k1, f1), if tkZ L (k1, f1) = true then 0 else tkC L (k1, f1) - 1, if tkZ L (k1, f1) = true then 0 else tkD L (k1, f1), ruV L k2 f2))
theorem hRdC_eq {L : List Nat} {k k1 k2 k3 : Nat} {f f1 f2 f3 : Flt} {xv xs xp xf xt xh : Int}
  (b1 : xv = if tkZ L (k, f) = true then 0 else tkA L (k, f)) (b2 : xs = if tkZ L (k, f) = true then 0 else tkB L (k, f)) (b3 : xp = if tkZ L (k, f) = true then 0 else tkC L (k, f) - 1) (b4 : xf = if tkZ L (k, f) = true then 0 else tkD L (k, f)) (b5 : k1 = (tk4 L (k, f)).1) (b6 : f1 = tkF L (k, f))
  (d1 : xt = ruV L k1 f1) (d2 : k2 = ruK L k1 f1) (d3 : f2 = ruF L k1 f1) (e1 : xh = ruV L k2 f2) (e2 : k3 = ruK L k2 f2) (e3 : f3 = ruF L k2 f2) :
  hRdC L k f = (k3, f3, (xv, xs, xp, xf, xt, xh)) := by
 subst b1; subst b2; subst b3; subst b4; subst b5; subst b6; subst d1; subst d2; subst d3; subst e1; subst e2; subst e3
 rfl
theorem hRdP_eq {L : List Nat} {k k1 k2 k3 : Nat} {f f1 f2 f3 : Flt} {xo xv xs xp xf xh : Int}
  (a1 : xo = rnV L k f 0 63) (a2 : k1 = rnK L k f 0 63) (a3 : f1 = rnF L k f 0 63) (b1 : xv = if tkZ L (k1, f1) = true then 0 else tkA L (k1, f1)) (b2 : xs = if tkZ L (k1, f1) = true then 0 else tkB L (k1, f1)) (b3 : xp = if tkZ L (k1, f1) = true then 0 else tkC L (k1, f1) - 1) (b4 : xf = if tkZ L (k1, f1) = true then 0 else tkD L (k1, f1)) (b5 : k2 = (tk4 L (k1, f1)).1) (b6 : f2 = tkF L (k1, f1))
  (d1 : xh = ruV L k2 f2) (d2 : k3 = ruK L k2 f2) (d3 : f3 = ruF L k2 f2) :
  hRdP L k f = (k3, f3, (xo, xv, xs, xp, xf, xh)) := by
 subst a1; subst a2; subst a3; subst b1; subst b2; subst b3; subst b4; subst b5; subst b6; subst d1; subst d2; subst d3
 rfl
structure Rdr (rd : Nat → Flt → Nat × Flt × I6) (Wd : I6 → Prop) : Prop where
 some_ : ∀ k x, (rd k (some x)).2.1 = some x
 nz : ∀ k f, FltNz f → FltNz (rd k f).2.1
 wd : ∀ k f, Wd (rd k f).2.2
theorem hRdC_rdr (L : List Nat) : Rdr (hRdC L) WdC := by
 refine ⟨fun k x => ?_, fun k f h => ruq_nz (ruq_nz (tkF_nz h)), fun k f => ⟨ru_w _ _ _, ru_w _ _ _⟩⟩
 show ruF L _ (ruF L _ (tkF L (k, some x))) = _
 rw [tkF_s, ruF_s, ruF_s]
theorem hRdP_rdr (L : List Nat) : Rdr (hRdP L) WdP := by
 refine ⟨fun k x => ?_, fun k f h => ruq_nz (tkF_nz (h.rn _ _ _ _)), fun k f => ru_w _ _ _⟩
 show ruF L _ (tkF L (_, rnF L k (some x) 0 63)) = _
 rw [rnF_s, tkF_s, ruF_s]
def lstK (key : I6 → List Int) (l : List I6) : Option (List Int) := l.getLast?.map key
def rwS1 (rd : Nat → Flt → Nat × Flt × I6) (one : Option (List Int) → I6 → Int) (key : I6 → List Int) (s : Nat × Flt × List I6) : Nat × Flt × List I6 :=
 match s.2.1 with
 | some _ => s
 | none => if (rd s.1 none).2.1 = none then ((rd s.1 none).1, failF none (one (lstK key s.2.2) (rd s.1 none).2.2) (s.1 : Int), s.2.2 ++ [(rd s.1 none).2.2]) else ((rd s.1 none).1, (rd s.1 none).2.1, s.2.2)
def rwS (rd : Nat → Flt → Nat × Flt × I6) (one : Option (List Int) → I6 → Int) (key : I6 → List Int) (s : Nat × Flt × List I6) : Nat → Nat × Flt × List I6
 | 0 => s
 | j + 1 => rwS1 rd one key (rwS rd one key s j)
section
variable {rd : Nat → Flt → Nat × Flt × I6} {one : Option (List Int) → I6 → Int} {key : I6 → List Int} {Wd : I6 → Prop} {s : Nat × Flt × List I6}
theorem rwS1_some {x : Int × Int} (h : s.2.1 = some x) : rwS1 rd one key s = s := by unfold rwS1; rw [h]
theorem rwS_stay {x : Int × Int} {j : Nat} (h : (rwS rd one key s j).2.1 = some x) : ∀ m, rwS rd one key s (j + m) = rwS rd one key s j
 | 0 => rfl
 | m + 1 => by
  have ih := rwS_stay h m
  show rwS1 rd one key (rwS rd one key s (j + m)) = _
  rw [ih]
  exact rwS1_some h
theorem rwS_some {x : Int × Int} {j n : Nat} (h : (rwS rd one key s j).2.1 = some x) (hn : j ≤ n) : (rwS rd one key s n).2.1 = some x := by
 have := rwS_stay h (n - j)
 rw [show j + (n - j) = n from by omega] at this
 rw [this, h]
def RI (rd : Nat → Flt → Nat × Flt × I6) (one : Option (List Int) → I6 → Int) (key : I6 → List Int) (Wd : I6 → Prop) (s : Nat × Flt × List I6) (j k : Nat) (f : Flt) (out : List I6) : Prop :=
 (rwS rd one key s j).2.1 = f ∧ (f = none → rwS rd one key s j = (k, none, out)) ∧ out.length ≤ j ∧ (∀ x ∈ out, Wd x) ∧ FltNz f
theorem RI.start {k : Nat} {f : Flt} (hf : s.2.1 = f) (hs : f = none → s = (k, none, [])) (hz : FltNz f) : RI rd one key Wd s 0 k f [] := ⟨hf, hs, Nat.le_refl _, (fun x h => by cases h), hz⟩
theorem RI.step (hr : Rdr rd Wd) {j k k5 : Nat} {f f5 : Flt} {y : I6} {ev : Int} {out : List I6} (h : RI rd one key Wd s j k f out) (hx : rd k f = (k5, f5, y)) (he : ev = one (lstK key out) y) : RI rd one key Wd s (j + 1) k5 (failF f5 ev (atF f k)) (out ++ [y]) := by
 obtain ⟨h1, h2, h3, h4, h5⟩ := h
 have hw : ∀ z ∈ out ++ [y], Wd z := fun z hz => by
  rcases List.mem_append.1 hz with hz | hz
  ·exact h4 z hz
  rw [List.mem_singleton.1 hz]
  have := hr.wd k f
  rw [hx] at this
  exact this
 have hl : (out ++ [y]).length ≤ j + 1 := by rw [List.length_append]; simpa using h3
 have hn : FltNz f5 := by have := hr.nz k f h5; rw [hx] at this; exact this
 cases f with
 | some x =>
  have e := hr.some_ k x
  rw [hx] at e
  change f5 = some x at e
  subst e
  exact ⟨rwS_some h1 (by omega), (fun h => by cases h), hl, hw, hn⟩
 | none =>
  have e := h2 rfl
  have e1 : rwS rd one key s (j + 1) = if f5 = none then (k5, failF none ev (k : Int), out ++ [y]) else (k5, f5, out) := by
   show rwS1 rd one key (rwS rd one key s j) = _
   rw [e]
   unfold rwS1
   simp only [hx, ← he]
  cases f5 with
  | some x =>
   rw [if_neg (by simp)] at e1
   exact ⟨by rw [e1]; rfl, (fun h => by cases h), hl, hw, hn⟩
  | none =>
   rw [if_pos rfl] at e1
   refine ⟨by rw [e1]; rfl, fun hq => ?_, hl, hw, FltNz.none.fail _ _⟩
   rw [e1]
   show (k5, failF none ev (k : Int), out ++ [y]) = _
   rw [show failF none ev (k : Int) = none from hq]
theorem RI.late {j k N : Nat} {f : Flt} {out : List I6} (h : RI rd one key Wd s j k f out) (hf : ¬ f = none) (hN : j ≤ N) : RI rd one key Wd s N k f out := by
 obtain ⟨h1, h2, h3, h4, h5⟩ := h
 cases f with
 | none => exact absurd rfl hf
 | some x => exact ⟨rwS_some h1 hN, (fun h => by cases h), by omega, h4, h5⟩
theorem rwS_none {j : Nat} (h : (rwS rd one key s j).2.1 = none) : s.2.1 = none := by
 cases hs : s.2.1 with
 | none => rfl
 | some x => have := rwS_some (rd := rd) (one := one) (key := key) (s := s) (j := 0) hs (Nat.zero_le j); rw [this] at h; cases h
end
def clsRd (pr : Option (List Int)) (c : I6) : Int := if prevGe pr (kC c) = true then 9 else if chkE (toC c) (shC c) ≠ 0 then chkE (toC c) (shC c) else if toC c = 0 ∧ shC c = 0 then 11 else 0
def posRd (pr : Option (List Int)) (p : I6) : Int := if prevGe pr (kP p) = true then 9 else 0
def hS0 (L : List Nat) : Nat × Flt × List I6 := (rnK L 0 none 0 1024, rnF L 0 none 0 1024, [])
def hS1 (L : List Nat) : Nat × Flt × List I6 := rwS (hRdC L) clsRd kC (hS0 L) (rnV L 0 none 0 1024).toNat
def hT0 (L : List Nat) : Nat × Flt × List I6 := (rnK L (hS1 L).1 (hS1 L).2.1 0 65536, rnF L (hS1 L).1 (hS1 L).2.1 0 65536, [])
def hT1 (L : List Nat) : Nat × Flt × List I6 := rwS (hRdP L) posRd kP (hT0 L) (rnV L (hS1 L).1 (hS1 L).2.1 0 65536).toNat
def hldRV (L : List Nat) : List I6 × List I6 × Int × Int :=
 if (endF (hT1 L).2.1 (hT1 L).1 L.length).1 ≠ 0 then ([], [], endF (hT1 L).2.1 (hT1 L).1 L.length) else if chkH (hS1 L).2.2 (hT1 L).2.2 = 0 then ((hS1 L).2.2, (hT1 L).2.2, 0, 0) else ([], [], chkH (hS1 L).2.2 (hT1 L).2.2, 0)
abbrev RIC (L : List Nat) := RI (hRdC L) clsRd kC WdC (hS0 L)
abbrev RIP (L : List Nat) := RI (hRdP L) posRd kP WdP (hT0 L)
theorem RIC.start (L : List Nat) : RIC L 0 (hS0 L).1 (hS0 L).2.1 [] := RI.start rfl (fun h => by unfold hS0 at h ⊢; simp only at h; rw [h]) (FltNz.none.rn _ _ _ _)
def CEnd (L : List Nat) (k : Nat) (f : Flt) (out : List I6) : Prop := (hS1 L).2.1 = f ∧ (f = none → hS1 L = (k, none, out)) ∧ FltNz f
theorem RI.cend {L : List Nat} {N k : Nat} {f : Flt} {out : List I6} (h : RIC L N k f out) (hN : (N : Int) = rnV L 0 none 0 1024) : CEnd L k f out := by
 have e : hS1 L = rwS (hRdC L) clsRd kC (hS0 L) N := by unfold hS1; rw [← hN]; simp
 exact ⟨by rw [e]; exact h.1, fun hf => by rw [e]; exact h.2.1 hf, h.2.2.2.2⟩
theorem CEnd.cnt {L : List Nat} {k : Nat} {f : Flt} {out : List I6} (h : CEnd L k f out) : rnV L k f 0 65536 = rnV L (hS1 L).1 (hS1 L).2.1 0 65536 := by
 obtain ⟨h1, h2, _⟩ := h
 cases f with
 | none => rw [h2 rfl]
 | some x => rw [h1, rnV_s, rnV_s]
theorem CEnd.start {L : List Nat} {k : Nat} {f : Flt} {out : List I6} (h : CEnd L k f out) : RIP L 0 (rnK L k f 0 65536) (rnF L k f 0 65536) [] := by
 obtain ⟨h1, h2, h3⟩ := h
 refine RI.start ?_ (fun hf => ?_) (h3.rn _ _ _ _)
 ·cases f with
  | none => unfold hT0; rw [h2 rfl]
  | some x => unfold hT0; rw [h1, rnF_s, rnF_s]
 have hn := rnF_none hf
 subst hn
 unfold hT0
 rw [h2 rfl]
 simp only
 rw [hf]
theorem RI.pend {L : List Nat} {N k k0 : Nat} {f f0 : Flt} {e a : Int} {cl ps R1 R2 : List I6} {re ra : Int} (h0 : CEnd L k0 f0 cl) (h : RIP L N k f ps) (hN : (N : Int) = rnV L (hS1 L).1 (hS1 L).2.1 0 65536) (he : (e, a) = endF f k L.length) (hR : (R1, R2, re, ra) = hldRV L) :
  (e ≠ 0 → R1 = [] ∧ R2 = [] ∧ re = e ∧ ra = a) ∧ (e = 0 → a = 0 ∧ f = none ∧ f0 = none ∧ (chkH cl ps = 0 → R1 = cl ∧ R2 = ps ∧ re = 0 ∧ ra = 0) ∧ (chkH cl ps ≠ 0 → R1 = [] ∧ R2 = [] ∧ re = chkH cl ps ∧ ra = 0)) := by
 have eT : hT1 L = rwS (hRdP L) posRd kP (hT0 L) N := by unfold hT1; rw [← hN]; simp
 obtain ⟨h1, h2, h3, h4, h5⟩ := h
 rw [← eT] at h1 h2
 cases f with
 | some x =>
  have ex : (e, a) = x := he
  have hx0 : e ≠ 0 := by have := h5 x rfl; rw [← ex] at this; exact this
  refine ⟨fun _ => ?_, fun h0 => absurd h0 hx0⟩
  unfold hldRV at hR
  rw [h1] at hR
  rw [show endF (some x) (hT1 L).1 L.length = x from rfl, ← ex, if_pos hx0] at hR
  simp only [Prod.mk.injEq] at hR
  exact hR
 | none =>
  have hq := h2 rfl
  have hf0 : f0 = none := by
   have := rwS_none (show (rwS (hRdP L) posRd kP (hT0 L) N).2.1 = none from by rw [← eT]; exact h1)
   have := rnF_none (show rnF L (hS1 L).1 (hS1 L).2.1 0 65536 = none from this)
   rw [h0.1] at this
   exact this
  have hc := h0.2.1 hf0
  unfold hldRV at hR
  rw [hq, hc] at hR
  simp only at hR
  rw [← he] at hR
  refine ⟨fun hh => by rw [if_pos hh] at hR; simp only [Prod.mk.injEq] at hR; exact hR, fun hh => ?_⟩
  rw [if_neg (by simpa using hh)] at hR
  have ha : a = 0 := by
   unfold endF at he
   simp only at he
   split at he
   ·injection he with q1 q2; omega
   injection he
  refine ⟨ha, rfl, hf0, fun hk => ?_, fun hk => ?_⟩
  ·rw [if_pos hk] at hR; simp only [Prod.mk.injEq] at hR; exact hR
  rw [if_neg hk] at hR; simp only [Prod.mk.injEq] at hR; exact hR
theorem failF_two (f : Flt) (a b p : Int) : failF (failF f a p) b p = failF f (if a = 0 then b else a) p := by
 cases f with
 | some x => rfl
 | none => by_cases h : a = 0 <;> simp [failF, h]
theorem clsRd_parts (pr : Option (List Int)) (c : I6) {e1 e2 e3 : Int} (h1 : e1 = if prevGe pr (kC c) = true then 9 else 0) (h2 : e2 = chkE (toC c) (shC c)) (h3 : e3 = if toC c = 0 ∧ shC c = 0 then 11 else 0) : clsRd pr c = if (if e1 = 0 then e2 else e1) = 0 then e3 else (if e1 = 0 then e2 else e1) := by
 subst h1; subst h2; subst h3
 unfold clsRd
 by_cases a : prevGe pr (kC c) = true
 ·simp [a]
 by_cases b : chkE (toC c) (shC c) = 0 <;> simp [a, b]
end
section
open Go.RowKit
theorem run_app_sl {P : Program} (w : World) (base : Nat) (t ty e : TypeId) (i : TypeInfo) (z : Value) (size bytes : Nat) (ht : P.underlying t = some (.slice e)) (hi : P.info? e = some i) (hz : i.zero = some z)
  (hsize : i.size = size) (hby : i.bytes = bytes) (hzs : z.cells.size = size) (hsz : 0 < size)
  (v : Value) (n : Nat) (xs : List Value) (hown : w.ownsRow base e size v n xs) (A : Option Addr) (m c : Nat) (news : List Value) (hS : Sl w size A m c news) (h1 : ∀ u ∈ news, u.oneCell' = true)
  (hn : n + m < 1099511627776) (hb128 : bytes ≤ 127) (hbase : base ≤ w.heap.size) :
  ∃ v' w', (Builtin.append_ #[t, t] ty #[v, .slice A m c]).run P w = .ok v' w' ∧ w'.ownsRow base e size v' (n + m) (xs ++ news) ∧ But (fun k => v.ownBlock = some k) w w' ∧ (∀ k, v'.ownBlock = some k → v.ownBlock = some k ∨ w.heap.size ≤ k) := by
 have hby2 : (n + m) * bytes ≤ 140737488355328 := by
  have : (n + m) * bytes ≤ 1099511627776 * 127 := Nat.mul_le_mul (by omega) hb128
  omega
 have h63 : n + m ≤ maxLen := by simp [maxLen]; omega
 rcases A with _ | ad
 ·have hm : m = 0 := by
   rcases Nat.eq_zero_or_pos m with h0 | h0
   ·exact h0
   obtain ⟨_, _, hh, _⟩ := hS.at_ h0
   cases hh
  subst hm
  have hnw : news = [] := hS.drop0
  subst hnw
  exact ⟨v, w, run_append_none (P := P) w base t ty e i size ht hi v n xs hown c, by simpa using hown, But.refl _ _, fun k hk => .inl hk⟩
 have hcells : ∀ j u, news[j]? = some u → w.cell? (ad.add j) = some u := by
  intro j u hu
  rcases Nat.eq_zero_or_pos m with h0 | h0
  ·subst h0
   rw [hS.drop0] at hu
   simp at hu
  obtain ⟨b, o', hh, _, hc⟩ := hS.at_ h0
  injection hh with hh
  subst hh
  rw [addr_add]
  exact hc j u hu
 obtain ⟨v', w', hr, g2, g3, _, g5⟩ := run_append_own_at (P := P) w base t ty e i z size bytes ht hi hz hsize hby hzs hsz v n xs hown ad m c news hS.len hcells h1 h63 hby2 hbase
 refine ⟨v', w', hr, g2, But.ofGrown g3, fun k hk => ?_⟩
 rcases g5 with g5 | g5
 ·left; rw [← g5]; exact hk
 right; rw [g5] at hk; injection hk with hk; omega
theorem oper_app {P : Program} {o : Oper} {a : Act} (w : World) {K : Act → World → Prop} {Q : Exit → Act → World → Prop} (s x : Operand) (t : TypeId) (ho : o.op = .call { callee := .builtin .append, args := #[s, x], argTypes := #[t, t] })
  (base : Nat) (e : TypeId) (i : TypeInfo) (z : Value) (size bytes : Nat) (ht : P.underlying t = some (.slice e)) (hi : P.info? e = some i) (hz : i.zero = some z)
  (hsize : i.size = size) (hby : i.bytes = bytes) (hzs : z.cells.size = size) (hsz : 0 < size)
  (v : Value) (n : Nat) (xs : List Value) (hs : a.eval s = v) (hown : w.ownsRow base e size v n xs) (A : Option Addr) (m c : Nat) (news : List Value) (hx : a.eval x = .slice A m c) (hS : Sl w size A m c news) (h1 : ∀ u ∈ news, u.oneCell' = true)
  (hn : n + m < 1099511627776) (hb128 : bytes ≤ 127) (hbase : base ≤ w.heap.size)
  (h : ∀ v' w', w'.ownsRow base e size v' (n + m) (xs ++ news) → But (fun k => v.ownBlock = some k) w w' → (∀ k, v'.ownBlock = some k → v.ownBlock = some k ∨ w.heap.size ≤ k) → K (a.put o.dst v') w') : Oper.wp P o a w K Q := by
 obtain ⟨v', w', hr, h2, h3, h4⟩ := run_app_sl (P := P) w base t o.type e i z size bytes ht hi hz hsize hby hzs hsz v n xs hown A m c news hS h1 hn hb128 hbase
 unfold Oper.wp execOp
 simp only [ho, resolve, invoke, builtin, Sem.run_bind, Sem.run_pure, Result.andThen_ok, List.map_toArray, List.map_cons, List.map_nil, hs, hx, hr]
 exact h v' w' h2 h3 h4
end
end Go.Proofs.YtkinchgjidpjnaaGreat
