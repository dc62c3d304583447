/- Tac, part 3. Conditions stand in each lemma. -/
import Derived.Test.YtkinchgjidpjnaaGreatSlTac2
set_option linter.unusedVariables false
set_option linter.unusedSimpArgs false
set_option maxRecDepth 100000
set_option maxHeartbeats 64000000
namespace Go.Proofs.YtkinchgjidpjnaaGreat
section
open Go.RowKit Go.ChangeShapes Go.WideShapes Go.Deep Go.Joins
theorem zSlTac3_0 {P : Prop} (h : P := by intro hh; have hh2 := own_rng HO.out _ hh; have hh3 := hap0 _ hh; omega) : P := h
theorem zSlTac3_1 {P : Prop} (h : P := by intro u hu; simp at hu; rcases hu with rfl | rfl | rfl | rfl | rfl | rfl <;> rfl) : P := h
theorem zSlTac3_2 {P : Prop} (h : P := by intro hh; have hh2 := own_rng HO.out _ hh; omega) : P := h
theorem zSlTac3_3 {P : Prop} (h : P := by first | rfl | (simp [Act.eval, go_sem]; done)) : P := h
theorem zSlTac3_4 {P : Prop} (h : P := by have := HLL.out; have := HK.out; omega) : P := h
theorem stm_ne (x0 x1 x2 x3 y0 y1 y2 y3 : Int) (w : World) : (binOp .neq 37 (.agg #[.int .i64 x0, .int .i64 x1, .int .i64 x2, .int .i64 x3]) (.agg #[.int .i64 y0, .int .i64 y1, .int .i64 y2, .int .i64 y3])).run Tryz.prog w = .ok (.bool (!(x0 == y0 && x1 == y1 && x2 == y2 && x3 == y3))) w := by
 have hS : Tryz.prog.underlying 37 = some (.struct (Tryz.prog.fieldsOf 37)) := by kernel_rfl
 have hp : Tryz.prog.stoodInHeld 37 = false := by kernel_rfl
 rw [run_neq_struct, show (10000 : Nat) = 9999 + 1 from rfl, run_equalIn_agg w 9999 37 _ _ hS hp]
 simp only [Program.fieldsOf, Tryz.underlying37]
 go_simp
 by_cases h0 : x0 = y0 <;> by_cases h1 : x1 = y1 <;> by_cases h2 : x2 = y2 <;> by_cases h3 : x3 = y3 <;> simp [h0, h1, h2, h3]
theorem four_not_true {a b c d a' b' c' d' : Int} (h : a = a' ∧ b = b' ∧ c = c' ∧ d = d') : (!(a == a' && b == b' && c == c' && d == d')) = false := by simp [h]
theorem four_not_false {a b c d a' b' c' d' : Int} (h : ¬ (a = a' ∧ b = b' ∧ c = c' ∧ d = d')) : (!(a == a' && b == b' && c == c' && d == d')) = true := by rw [four_false h]; rfl
theorem refK_ds {α : Type} {key : α → List Int} {q : List Int} {y x : α} {cl pre : List α} {k : Nat} {d0 : Bool} (h : refK key q y d0 cl = pre ++ refK key q y true (cl.drop k)) (hx : cl[k]? = some x) (he : key x = q) : refK key q y d0 cl = pre ++ refK key q y true (cl.drop (k + 1)) := by
 rw [h, drop_at hx]
 conv => lhs; unfold refK
 simp [he]
theorem refK_do {α : Type} {key : α → List Int} {q : List Int} {y x : α} {cl pre : List α} {k : Nat} {d0 : Bool} (h : refK key q y d0 cl = pre ++ refK key q y true (cl.drop k)) (hx : cl[k]? = some x) (he : ¬ key x = q) : refK key q y d0 cl = (pre ++ [x]) ++ refK key q y true (cl.drop (k + 1)) := by
 rw [h, drop_at hx]
 conv => lhs; unfold refK
 simp [he]
theorem refK_ls {α : Type} {key : α → List Int} {q : List Int} {y x : α} {cl pre : List α} {k : Nat} {d0 : Bool} (h : refK key q y d0 cl = pre ++ refK key q y false (cl.drop k)) (hx : cl[k]? = some x) (hl : cmpK q (key x) ≤ 0) (he : key x = q) : refK key q y d0 cl = (pre ++ [y]) ++ refK key q y true (cl.drop (k + 1)) := by
 rw [h, drop_at hx]
 conv => lhs; unfold refK
 rw [if_pos ⟨rfl, hl⟩, if_pos he, decide_eq_true hl]
 simp
theorem refK_lo {α : Type} {key : α → List Int} {q : List Int} {y x : α} {cl pre : List α} {k : Nat} {d0 : Bool} (h : refK key q y d0 cl = pre ++ refK key q y false (cl.drop k)) (hx : cl[k]? = some x) (hl : cmpK q (key x) ≤ 0) (he : ¬ key x = q) : refK key q y d0 cl = ((pre ++ [y]) ++ [x]) ++ refK key q y true (cl.drop (k + 1)) := by
 rw [h, drop_at hx]
 conv => lhs; unfold refK
 rw [if_pos ⟨rfl, hl⟩, if_neg he, decide_eq_true hl]
 simp
theorem refK_gs {α : Type} {key : α → List Int} {q : List Int} {y x : α} {cl pre : List α} {k : Nat} {d0 : Bool} (h : refK key q y d0 cl = pre ++ refK key q y false (cl.drop k)) (hx : cl[k]? = some x) (hl : ¬ cmpK q (key x) ≤ 0) (he : key x = q) : refK key q y d0 cl = pre ++ refK key q y false (cl.drop (k + 1)) := by
 rw [h, drop_at hx]
 conv => lhs; unfold refK
 rw [if_neg (fun hh => hl hh.2), if_pos he, decide_eq_false hl]
 simp
theorem refK_go {α : Type} {key : α → List Int} {q : List Int} {y x : α} {cl pre : List α} {k : Nat} {d0 : Bool} (h : refK key q y d0 cl = pre ++ refK key q y false (cl.drop k)) (hx : cl[k]? = some x) (hl : ¬ cmpK q (key x) ≤ 0) (he : ¬ key x = q) : refK key q y d0 cl = (pre ++ [x]) ++ refK key q y false (cl.drop (k + 1)) := by
 rw [h, drop_at hx]
 conv => lhs; unfold refK
 rw [if_neg (fun hh => hl hh.2), if_neg he, decide_eq_false hl]
 simp
theorem refK_last {α : Type} {key : α → List Int} {q : List Int} {y : α} {d d0 : Bool} {cl pre : List α} {k : Nat} (h : refK key q y d0 cl = pre ++ refK key q y d (cl.drop k)) (hk : cl.length ≤ k) : refK key q y d0 cl = if d = true then pre else pre ++ [y] := by
 rw [h, List.drop_of_length_le hk]
 cases d <;> simp [refK]
def RetC1 (L : List I6) (v2 : Value) (w : World) (e : Ending) (w' : World) : Prop := ∃ B d, e = .returned (.agg #[.slice B L.length d, v2]) ∧ (B = none → d = 0) ∧ OwnCls w' w.heap.size (.slice B L.length d) L.length L ∧ Ext w w'
def RetP1 (L : List I6) (v1 : Value) (w : World) (e : Ending) (w' : World) : Prop := ∃ B d, e = .returned (.agg #[v1, .slice B L.length d]) ∧ (B = none → d = 0) ∧ OwnPos w' w.heap.size (.slice B L.length d) L.length L ∧ Ext w w'
theorem RetC1.mk {L : List I6} {v2 : Value} {b d : Nat} {B : Option Addr} {w w' : World} (hb : w.heap.size ≤ b) (h : w'.ownsRow b 79 6 (.slice B L.length d) L.length (L.flatMap clsC)) (hx : Ext w w') : RetC1 L v2 w (.returned (.agg #[.slice B L.length d, v2])) w' := by
 obtain ⟨B', d', e, h1, _⟩ := own_parts2 h
 obtain ⟨rfl, rfl⟩ : B = B' ∧ d = d' := by simpa using e
 exact ⟨B, d, rfl, h1, own_lower h hb, hx⟩
theorem RetP1.mk {L : List I6} {v1 : Value} {b d : Nat} {B : Option Addr} {w w' : World} (hb : w.heap.size ≤ b) (h : w'.ownsRow b 82 6 (.slice B L.length d) L.length (L.flatMap posC)) (hx : Ext w w') : RetP1 L v1 w (.returned (.agg #[v1, .slice B L.length d])) w' := by
 obtain ⟨B', d', e, h1, _⟩ := own_parts2 h
 obtain ⟨rfl, rfl⟩ : B = B' ∧ d = d' := by simpa using e
 exact ⟨B, d, rfl, h1, own_lower h hb, hx⟩
theorem refK_cls {cl : List I6} (hs : SortK kC cl) (V S P Q t h : Int) : refK kC [V, S, P, Q] (V, S, P, Q, t, h) (t == 0 && h == 0) cl = clsSet cl V S P Q t h := by
 unfold clsSet optC
 by_cases hz : t = 0 ∧ h = 0
 ·rw [if_pos hz, show (t == 0 && h == 0) = true from by simp [hz], ref_done, ref_strike kC_len rfl hs]
 rw [if_neg hz, show (t == 0 && h == 0) = false from two_false hz, ref_lay kC_len rfl _ hs]
theorem refK_pos {ps : List I6} (hs : SortK kP ps) (O V S P Q n : Int) : refK kP [O, V, S, P, Q] (O, V, S, P, Q, n) (n == 0) ps = posSet ps O V S P Q n := by
 unfold posSet optP
 by_cases hz : n = 0
 ·rw [if_pos hz, show (n == 0) = true from by simp [hz], ref_done, ref_strike kP_len rfl hs]
 rw [if_neg hz, show (n == 0) = false from by simpa using hz, ref_lay kP_len rfl _ hs]
theorem r13setClass_any (n c n2 c2 : Nat) (A A2 : Option Addr) (cl : List I6) (V S P Q t u : Int) (w : World) (h : Sl w 6 A n c (cl.flatMap clsC)) (hn : n < 1099511627) (hs : SortK kC cl) :
  Calls Tryz.prog 131 #[.agg #[.slice A n c, .slice A2 n2 c2], .agg #[.int .i64 V, .int .i64 S, .int .i64 P, .int .i64 Q], .agg #[.int .u64 t, .int .u64 u]] w (RetC1 (clsSet cl V S P Q t u) (.slice A2 n2 c2) w) := by
 obtain ⟨iCls, iCls_0, iCls_1, iCls_2, iCls_3⟩ := info_parts cls_info
 have hll := h.rlen clsC_len (by decide)
 have hsm := h.small
 have HS := Lib.hid h.low
 have HLL := Lib.hid hll
 have pq1 := stm_eq
 have pq2 := stm_eqg
 have pq3 := pol_eq
 have pq4 := pol_eqg
 have pq5 := stm_ne
 obtain ⟨R, hR⟩ : ∃ R, R = clsSet cl V S P Q t u := ⟨_, rfl⟩
 rw [← hR]
 obtain ⟨d0, hd0⟩ : ∃ d, d = (t == 0 && u == 0) := ⟨_, rfl⟩
 have HR := Lib.hid (show R = refK kC [V, S, P, Q] (V, S, P, Q, t, u) d0 cl from by rw [hR, hd0]; exact (refK_cls hs V S P Q t u).symm)
 have hd1 := hd0.symm
 clear h hll hR hs hd0
 go_enter Tryz.func131, Tryz.ntmps131
 go_wp2
 go_loopg [7, 8, 9] n (fun gh s7 s8 i wx => gh ≤ n ∧ i = .int .i64 ((n - gh : Nat) : Int) ∧ (∃ A7 c7 pre d, s7 = .slice A7 (List.length (α := I6) pre) c7 ∧ s8 = .bool d ∧ Hid (OwnCls wx (w.heap.size + 4) (.slice A7 pre.length c7) pre.length pre) ∧ Hid (refK kC [V, S, P, Q] (V, S, P, Q, t, u) d0 cl = pre ++ refK kC [V, S, P, Q] (V, S, P, Q, t, u) d (cl.drop (n - gh))) ∧ pre.length ≤ 2 * (n - gh)) ∧ Hid (SlB w.heap.size wx 6 A n c (cl.flatMap clsC)) ∧ (wx.cell? ⟨w.heap.size, 0, none⟩ = some (.slice A n c) ∧ wx.cell? ⟨w.heap.size, 1, none⟩ = some (.slice A2 n2 c2) ∧ wx.cell? ⟨w.heap.size + 1, 0, none⟩ = some (.int .i64 V) ∧ wx.cell? ⟨w.heap.size + 1, 1, none⟩ = some (.int .i64 S) ∧ wx.cell? ⟨w.heap.size + 1, 2, none⟩ = some (.int .i64 P) ∧ wx.cell? ⟨w.heap.size + 1, 3, none⟩ = some (.int .i64 Q) ∧ wx.cell? ⟨w.heap.size + 1 + 1, 0, none⟩ = some (.int .u64 t) ∧ wx.cell? ⟨w.heap.size + 1 + 1, 1, none⟩ = some (.int .u64 u) ∧ wx.cell? ⟨w.heap.size + 1 + 1 + 1, 0, none⟩ = some (.slice none 0 0) ∧ wx.cell? ⟨w.heap.size + 1 + 1 + 1, 1, none⟩ = some (.slice none 0 0) ∧ wx.frozen? ⟨w.heap.size + 1 + 1 + 1, 0, none⟩ = false ∧ wx.frozen? ⟨w.heap.size + 1 + 1 + 1, 1, none⟩ = false) ∧ Hid (Ext w wx))
 case atStart => exact ⟨Nat.le_refl _, by simp, ⟨none, 0, [], d0, rfl, by first | rfl | (rw [hd1]; done) | simp [hd1], Lib.hid (OwnCls.nil _ _), by rw [Nat.sub_self]; exact Lib.hid rfl, Nat.zero_le _⟩, Lib.hid (HS.out.ext zxt), ⟨by simp [go_sem, World.cell?_alloc_past], by simp [go_sem, World.cell?_alloc_past], by simp [go_sem, World.cell?_alloc_past], by simp [go_sem, World.cell?_alloc_past], by simp [go_sem, World.cell?_alloc_past], by simp [go_sem, World.cell?_alloc_past], by simp [go_sem, World.cell?_alloc_past], by simp [go_sem, World.cell?_alloc_past], by simp [go_sem, World.cell?_alloc_past], by simp [go_sem, World.cell?_alloc_past], by simp [go_sem, World.cell?_alloc_past], by simp [go_sem, World.cell?_alloc_past]⟩, Lib.hid zxt⟩
 obtain ⟨hg, hi, ⟨A7, c7, pre, d, rfl, rfl, HO, HF, hpl⟩, HSk, ⟨b_0, b_1, s_0, s_1, s_2, s_3, p_0, p_1, r_0, r_1, r_0f, r_1f⟩, XR⟩ := hrel
 obtain ⟨k, hk⟩ : ∃ k, k = n - gk := ⟨_, rfl⟩
 rw [← hk] at hi HF hpl
 subst hi
 have hl_b := cell_lt b_0
 have hn_b : ¬ w.heap.size = wr.heap.size := by omega
 have hl_s := cell_lt s_0
 have hn_s : ¬ w.heap.size + 1 = wr.heap.size := by omega
 have hl_p := cell_lt p_0
 have hn_p : ¬ w.heap.size + 1 + 1 = wr.heap.size := by omega
 have hl_r := cell_lt r_0
 have hn_r : ¬ w.heap.size + 1 + 1 + 1 = wr.heap.size := by omega
 have hw0 : w.heap.size ≤ wr.heap.size := Ext.size XR.out
 clear HS
 by_cases hz : gk = 0
 ·have hkn : ¬ (k : Int) < (n : Int) := by omega
  have hkb : k ≤ n := by omega
  have hL := HR.out.trans (refK_last HF.out (by have := HLL.out; omega))
  clear hk hg hz HF HR
  rcases Bool.eq_false_or_eq_true d with hd | hd <;> subst hd
  ·simp only [if_true, Bool.false_eq_true, if_false] at hL
   subst hL
   go_wp2_with fail
   refine bodyPost_ret (v := .agg #[.slice A7 R.length c7, .slice A2 n2 c2]) (by simp [results, Tryz.results131, go_sem, World.cell?_alloc_past, *]; try rfl) rfl (RetC1.mk (b := w.heap.size + 4) (by omega) (show World.ownsRow _ (w.heap.size + 4) _ _ _ _ _ from by repeat (first | with_reducible refine own_box ?_ (by omega) | with_reducible refine World.ownsRow.drew ?_ | exact HO.out)) zxt)
  simp only [if_true, Bool.false_eq_true, if_false] at hL
  go_wp2_with (at_builtin; refine wpList_append_slB _ rfl _ _ 22 rfl (w.heap.size + 4) 79 iCls (.agg #[.int .i64 0, .int .i64 0, .int .i64 0, .int .i64 0, .int .u64 0, .int .u64 0]) 6 48 Tryz.underlying22 iCls_0 iCls_1 iCls_2 iCls_3 rfl (by decide) (.slice A7 pre.length c7) pre.length (pre.flatMap clsC) (by rfl) ((HO.out.ext zxt)) _ 1 _ (#[.int .i64 V, .int .i64 S, .int .i64 P, .int .i64 Q, .int .u64 t, .int .u64 u].toList) zSlTac3_3 (sl_new _ 79 6 #[.int .i64 V, .int .i64 S, .int .i64 P, .int .i64 Q, .int .u64 t, .int .u64 u] 1 rfl (by decide)) zSlTac3_1 (by have := HLL.out; omega) (by decide) (by (try simp); omega) ?_; intro v41 w41 hown41 hx41 hn41; refine Hid.out ?_)
  refine Lib.hid ?_
  obtain ⟨A41, c41, rfl, hnil41, hO41⟩ := own_app (f := clsC) (V, S, P, Q, t, u) hown41 rfl rfl
  obtain ⟨L41, hL41⟩ : ∃ l, l = pre ++ [(V, S, P, Q, t, u)] := ⟨_, rfl⟩
  rw [← hL41] at hO41 ⊢
  have HL41 := Lib.hid hL41
  have hNL41 : L41.length = pre.length + 1 := by rw [hL41, List.length_append]; rfl
  clear hown41 hn41 hnil41 hL41
  have hsz41 := hx41.size
  try simp at hsz41
  replace b_0 := zhb hx41 b_0 (ne := zSlTac3_2)
  replace b_1 := zhb hx41 b_1 (ne := zSlTac3_2)
  replace s_0 := zhb hx41 s_0 (ne := zSlTac3_2)
  replace s_1 := zhb hx41 s_1 (ne := zSlTac3_2)
  replace s_2 := zhb hx41 s_2 (ne := zSlTac3_2)
  replace s_3 := zhb hx41 s_3 (ne := zSlTac3_2)
  replace p_0 := zhb hx41 p_0 (ne := zSlTac3_2)
  replace p_1 := zhb hx41 p_1 (ne := zSlTac3_2)
  replace r_0f := zfb hx41 r_0 r_0f (ne := zSlTac3_2)
  replace r_1f := zfb hx41 r_1 r_1f (ne := zSlTac3_2)
  replace r_0 := zhb hx41 r_0 (ne := zSlTac3_2)
  replace r_1 := zhb hx41 r_1 (ne := zSlTac3_2)
  have z41 := hx41.size
  try simp at z41
  have rb := zr w.heap.size w41
  have rs := zr (w.heap.size + 1) w41
  have rp := zr (w.heap.size + 1 + 1) w41
  have rr := zr (w.heap.size + 1 + 1 + 1) w41
  have X41 : Hid (Ext w w41) := Lib.hid (have hX := (show Ext w _ from zxt); Below.trans hX (hx41.below (Ext.size hX) (fun k hk hh => by have hh2 := own_rng HO.out _ hh; omega)))
  clear HO
  have HO := Lib.hid (show OwnCls _ (w.heap.size + 4) _ _ _ from hO41)
  clear hsz41 XR hx41
  clear hO41
  obtain rfl : R = L41 := hL.trans HL41.out.symm
  go_wp2_with fail
  refine bodyPost_ret (v := .agg #[.slice A41 R.length c41, .slice A2 n2 c2]) (by simp [results, Tryz.results131, go_sem, World.cell?_alloc_past, *]; try rfl) rfl (RetC1.mk (b := w.heap.size + 4) (by omega) (show World.ownsRow _ (w.heap.size + 4) _ _ _ _ _ from by repeat (first | with_reducible refine own_box ?_ (by omega) | with_reducible refine World.ownsRow.drew ?_ | exact HO.out)) zxt)
 have hkn : (k : Int) < (n : Int) := by omega
 have hkl : k < cl.length := by have := HLL.out; omega
 obtain ⟨b1, o1, rfl, hb1, hc_x⟩ := HSk.out.sl.rec_ clsC_len (show 0 < n from by omega)
 obtain ⟨xw, hl_x⟩ : ∃ x, cl[k]? = some x := ⟨_, List.getElem?_eq_getElem (by omega)⟩
 have x_0 := hc_x (k) xw hl_x 0 _ rfl
 have x_1 := hc_x (k) xw hl_x 1 _ rfl
 have x_2 := hc_x (k) xw hl_x 2 _ rfl
 have x_3 := hc_x (k) xw hl_x 3 _ rfl
 have x_4 := hc_x (k) xw hl_x 4 _ rfl
 have x_5 := hc_x (k) xw hl_x 5 _ rfl
 obtain ⟨xv, xs, xp, xf, xt, xh⟩ := xw
 simp only at x_0 x_1 x_2 x_3 x_4 x_5
 rw [Nat.add_zero] at x_0
 rw [← Nat.add_assoc] at x_1 x_2 x_3 x_4 x_5
 obtain ⟨G, hG⟩ : ∃ G, G = cmpL [(V, xv), (S, xs), (P, xp), (Q, xf)] := ⟨_, rfl⟩
 have HX := Lib.hid (And.intro hl_x hG)
 have HK := Lib.hid (And.intro hk (And.intro hg hz))
 have hb1s : ¬ b1 = wr.heap.size := by omega
 have hap : ∀ j, (Value.slice A7 pre.length c7).ownBlock = some j → ¬ j = wr.heap.size := fun j hj => by have h9 := own_rng HO.out j hj; omega
 have hbw := HSk.out.2 (by omega) b1 o1 none rfl
 clear hk hg hz hkl hl_x hc_x hG HR
 rcases Bool.eq_false_or_eq_true d with hd | hd <;> subst hd
 ·by_cases hq : xv = V ∧ xs = S ∧ xp = P ∧ xf = Q
  ·have HE := Lib.hid (show kC (xv, xs, xp, xf, xt, xh) = [V, S, P, Q] from kC_eq hq)
   have hqb := four_true hq
   have hqn := four_not_true hq
   have HN := Lib.hid (refK_ds HF.out HX.out.1 HE.out)
   clear hq
   go_wp2_with fail
   go_roundg (gk - 1)
   case measure => have := HK.out; omega
   have hE : n - (gk - 1) = k + 1 := by have := HK.out; omega
   exact ⟨by have := HK.out; omega, num_eq (by have := HK.out; omega), ⟨_, _, pre, true, rfl, rfl, Lib.hid (HO.out.ext zxt), by rw [hE]; exact HN, by omega⟩, Lib.hid (HSk.out.ext zxt), ⟨by first | exact b_0 | (simp [go_sem, World.cell?_alloc_past, *]; done), by first | exact b_1 | (simp [go_sem, World.cell?_alloc_past, *]; done), by first | exact s_0 | (simp [go_sem, World.cell?_alloc_past, *]; done), by first | exact s_1 | (simp [go_sem, World.cell?_alloc_past, *]; done), by first | exact s_2 | (simp [go_sem, World.cell?_alloc_past, *]; done), by first | exact s_3 | (simp [go_sem, World.cell?_alloc_past, *]; done), by first | exact p_0 | (simp [go_sem, World.cell?_alloc_past, *]; done), by first | exact p_1 | (simp [go_sem, World.cell?_alloc_past, *]; done), by first | exact r_0 | (simp [go_sem, World.cell?_alloc_past, *]; done), by first | exact r_1 | (simp [go_sem, World.cell?_alloc_past, *]; done), by first | exact r_0f | (simp [go_sem, World.cell?_alloc_past, *]; done), by first | exact r_1f | (simp [go_sem, World.cell?_alloc_past, *]; done)⟩, Lib.hid zxt⟩
  have HE := Lib.hid (show ¬ kC (xv, xs, xp, xf, xt, xh) = [V, S, P, Q] from kC_ne (t := xt) (s := xh) hq)
  have hqb := four_false hq
  have hqn := four_not_false hq
  have HN := Lib.hid (refK_do HF.out HX.out.1 HE.out)
  clear hq
  have hap0 := hap
  go_wp2_with (at_builtin; refine wpList_append_slB _ rfl _ _ 22 rfl (w.heap.size + 4) 79 iCls (.agg #[.int .i64 0, .int .i64 0, .int .i64 0, .int .i64 0, .int .u64 0, .int .u64 0]) 6 48 Tryz.underlying22 iCls_0 iCls_1 iCls_2 iCls_3 rfl (by decide) (.slice A7 pre.length c7) pre.length (pre.flatMap clsC) (by rfl) ((HO.out.ext zxt)) _ 1 _ (#[.int .i64 xv, .int .i64 xs, .int .i64 xp, .int .i64 xf, .int .u64 xt, .int .u64 xh].toList) zSlTac3_3 (sl_new _ 79 6 #[.int .i64 xv, .int .i64 xs, .int .i64 xp, .int .i64 xf, .int .u64 xt, .int .u64 xh] 1 rfl (by decide)) zSlTac3_1 zSlTac3_4 (by decide) (by (try simp); omega) ?_; intro v11 w11 hown11 hx11 hn11; refine Hid.out ?_)
  refine Lib.hid ?_
  obtain ⟨A11, c11, rfl, hnil11, hO11⟩ := own_app (f := clsC) (xv, xs, xp, xf, xt, xh) hown11 rfl rfl
  have hap2 : ∀ j, (Value.slice A11 (pre ++ [(xv, xs, xp, xf, xt, xh)]).length c11).ownBlock = some j → ¬ j = wr.heap.size := fun j hj => by rcases hn11 j hj with h9 | h9; exact hap j h9; (try simp at h9); omega
  obtain ⟨L11, hL11⟩ : ∃ l, l = pre ++ [(xv, xs, xp, xf, xt, xh)] := ⟨_, rfl⟩
  rw [← hL11] at hO11 hap2 ⊢
  replace hap := hap2
  clear hap2
  have HL11 := Lib.hid hL11
  have hNL11 : L11.length = pre.length + 1 := by rw [hL11, List.length_append]; rfl
  clear hown11 hn11 hnil11 hL11
  have hsz11 := hx11.size
  try simp at hsz11
  replace b_0 := zhb hx11 b_0 (ne := zSlTac3_0)
  replace b_1 := zhb hx11 b_1 (ne := zSlTac3_0)
  replace s_0 := zhb hx11 s_0 (ne := zSlTac3_0)
  replace s_1 := zhb hx11 s_1 (ne := zSlTac3_0)
  replace s_2 := zhb hx11 s_2 (ne := zSlTac3_0)
  replace s_3 := zhb hx11 s_3 (ne := zSlTac3_0)
  replace p_0 := zhb hx11 p_0 (ne := zSlTac3_0)
  replace p_1 := zhb hx11 p_1 (ne := zSlTac3_0)
  replace r_0f := zfb hx11 r_0 r_0f (ne := zSlTac3_0)
  replace r_1f := zfb hx11 r_1 r_1f (ne := zSlTac3_0)
  replace r_0 := zhb hx11 r_0 (ne := zSlTac3_0)
  replace r_1 := zhb hx11 r_1 (ne := zSlTac3_0)
  have z11 := hx11.size
  try simp at z11
  have rb := zr w.heap.size w11
  have rs := zr (w.heap.size + 1) w11
  have rp := zr (w.heap.size + 1 + 1) w11
  have rr := zr (w.heap.size + 1 + 1 + 1) w11
  have X11 : Hid (Ext w w11) := Lib.hid (have hX := (show Ext w _ from zxt); Below.trans hX (hx11.below (Ext.size hX) (fun k hk hh => by have hh2 := own_rng HO.out _ hh; omega)))
  replace HSk := Lib.hid ((HSk.out.ext zxt).but hx11 (fun k hk => by have hh2 := own_rng HO.out _ hk; omega))
  clear HO
  have HO := Lib.hid (show OwnCls _ (w.heap.size + 4) _ _ _ from hO11)
  clear x_2 x_1 x_4 x_3 x_5 x_0 hsz11 XR hx11
  clear hap0
  clear hO11
  go_wp2_with fail
  go_roundg (gk - 1)
  case measure => have := HK.out; omega
  have hE : n - (gk - 1) = k + 1 := by have := HK.out; omega
  exact ⟨by have := HK.out; omega, num_eq (by have := HK.out; omega), ⟨_, _, L11, true, rfl, rfl, Lib.hid (HO.out.ext zxt), by rw [hE, HL11.out]; exact HN, by omega⟩, Lib.hid (HSk.out.ext zxt), ⟨by first | exact b_0 | (simp [go_sem, World.cell?_alloc_past, *]; done), by first | exact b_1 | (simp [go_sem, World.cell?_alloc_past, *]; done), by first | exact s_0 | (simp [go_sem, World.cell?_alloc_past, *]; done), by first | exact s_1 | (simp [go_sem, World.cell?_alloc_past, *]; done), by first | exact s_2 | (simp [go_sem, World.cell?_alloc_past, *]; done), by first | exact s_3 | (simp [go_sem, World.cell?_alloc_past, *]; done), by first | exact p_0 | (simp [go_sem, World.cell?_alloc_past, *]; done), by first | exact p_1 | (simp [go_sem, World.cell?_alloc_past, *]; done), by first | exact r_0 | (simp [go_sem, World.cell?_alloc_past, *]; done), by first | exact r_1 | (simp [go_sem, World.cell?_alloc_past, *]; done), by first | exact r_0f | (simp [go_sem, World.cell?_alloc_past, *]; done), by first | exact r_1f | (simp [go_sem, World.cell?_alloc_past, *]; done)⟩, Lib.hid zxt⟩
 by_cases hq1 : G ≤ 0
 ·by_cases hq : xv = V ∧ xs = S ∧ xp = P ∧ xf = Q
  ·have HE := Lib.hid (show kC (xv, xs, xp, xf, xt, xh) = [V, S, P, Q] from kC_eq hq)
   have hqb := four_true hq
   have hqn := four_not_true hq
   have HN := Lib.hid (refK_ls HF.out HX.out.1 (show cmpK [V, S, P, Q] (kC (xv, xs, xp, xf, xt, xh)) ≤ 0 from by rw [show cmpK [V, S, P, Q] (kC (xv, xs, xp, xf, xt, xh)) = G from HX.out.2.symm]; exact hq1) HE.out)
   have hq1d : decide (G ≤ 0) = true := decide_eq_true hq1
   clear hq hq1
   go_wp2_with fail
   (with_reducible refine (rCompare12_at V S P Q xv xs xp xf G _ HX.out.2).mono ?_)
   rintro e w11 ⟨rfl, hx11⟩
   replace b_0 := zh hx11 b_0
   replace b_1 := zh hx11 b_1
   replace s_0 := zh hx11 s_0
   replace s_1 := zh hx11 s_1
   replace s_2 := zh hx11 s_2
   replace s_3 := zh hx11 s_3
   replace p_0 := zh hx11 p_0
   replace p_1 := zh hx11 p_1
   replace r_0f := zf hx11 r_0 r_0f
   replace r_1f := zf hx11 r_1 r_1f
   replace r_0 := zh hx11 r_0
   replace r_1 := zh hx11 r_1
   have c0_0 : w11.cell? ⟨wr.heap.size, 0, none⟩ = some (.int .i64 xv) := hx11.has zcv
   have c0_1 : w11.cell? ⟨wr.heap.size, 1, none⟩ = some (.int .i64 xs) := hx11.has zcv
   have c0_2 : w11.cell? ⟨wr.heap.size, 2, none⟩ = some (.int .i64 xp) := hx11.has zcv
   have c0_3 : w11.cell? ⟨wr.heap.size, 3, none⟩ = some (.int .i64 xf) := hx11.has zcv
   have z11 := hx11.size
   try simp at z11
   have lt_b_c0 := zl w.heap.size wr.heap.size
   have lt_s_c0 := zl (w.heap.size + 1) wr.heap.size
   have lt_p_c0 := zl (w.heap.size + 1 + 1) wr.heap.size
   have lt_r_c0 := zl (w.heap.size + 1 + 1 + 1) wr.heap.size
   have rb := zr w.heap.size w11
   have rs := zr (w.heap.size + 1) w11
   have rp := zr (w.heap.size + 1 + 1) w11
   have rr := zr (w.heap.size + 1 + 1 + 1) w11
   have rc0 := zr wr.heap.size w11
   replace HO := Lib.hid (HO.out.ext (Ext.trans zxt hx11))
   replace HSk := Lib.hid (HSk.out.ext (Ext.trans zxt hx11))
   have X11 : Hid (Ext w w11) := Lib.hid (Ext.trans zxt hx11)
   clear x_2 x_1 x_4 x_3 x_5 x_0 XR hx11
   have hap0 := hap
   go_wp2_with (at_builtin; refine wpList_append_slB _ rfl _ _ 22 rfl (w.heap.size + 4) 79 iCls (.agg #[.int .i64 0, .int .i64 0, .int .i64 0, .int .i64 0, .int .u64 0, .int .u64 0]) 6 48 Tryz.underlying22 iCls_0 iCls_1 iCls_2 iCls_3 rfl (by decide) (.slice A7 pre.length c7) pre.length (pre.flatMap clsC) (by rfl) ((HO.out.ext zxt)) _ 1 _ (#[.int .i64 V, .int .i64 S, .int .i64 P, .int .i64 Q, .int .u64 t, .int .u64 u].toList) zSlTac3_3 (sl_new _ 79 6 #[.int .i64 V, .int .i64 S, .int .i64 P, .int .i64 Q, .int .u64 t, .int .u64 u] 1 rfl (by decide)) zSlTac3_1 zSlTac3_4 (by decide) (by (try simp); omega) ?_; intro v12 w12 hown12 hx12 hn12; refine Hid.out ?_)
   refine Lib.hid ?_
   obtain ⟨A12, c12, rfl, hnil12, hO12⟩ := own_app (f := clsC) (V, S, P, Q, t, u) hown12 rfl rfl
   have hap2 : ∀ j, (Value.slice A12 (pre ++ [(V, S, P, Q, t, u)]).length c12).ownBlock = some j → ¬ j = wr.heap.size := fun j hj => by rcases hn12 j hj with h9 | h9; exact hap j h9; (try simp at h9); omega
   obtain ⟨L12, hL12⟩ : ∃ l, l = pre ++ [(V, S, P, Q, t, u)] := ⟨_, rfl⟩
   rw [← hL12] at hO12 hap2 ⊢
   replace hap := hap2
   clear hap2
   have HL12 := Lib.hid hL12
   have hNL12 : L12.length = pre.length + 1 := by rw [hL12, List.length_append]; rfl
   clear hown12 hn12 hnil12 hL12
   have hsz12 := hx12.size
   try simp at hsz12
   replace b_0 := zhb hx12 b_0 (ne := zSlTac3_0)
   replace b_1 := zhb hx12 b_1 (ne := zSlTac3_0)
   replace s_0 := zhb hx12 s_0 (ne := zSlTac3_0)
   replace s_1 := zhb hx12 s_1 (ne := zSlTac3_0)
   replace s_2 := zhb hx12 s_2 (ne := zSlTac3_0)
   replace s_3 := zhb hx12 s_3 (ne := zSlTac3_0)
   replace p_0 := zhb hx12 p_0 (ne := zSlTac3_0)
   replace p_1 := zhb hx12 p_1 (ne := zSlTac3_0)
   replace r_0f := zfb hx12 r_0 r_0f (ne := zSlTac3_0)
   replace r_1f := zfb hx12 r_1 r_1f (ne := zSlTac3_0)
   replace r_0 := zhb hx12 r_0 (ne := zSlTac3_0)
   replace r_1 := zhb hx12 r_1 (ne := zSlTac3_0)
   replace c0_0 := zhb hx12 c0_0 (ne := zSlTac3_0)
   replace c0_1 := zhb hx12 c0_1 (ne := zSlTac3_0)
   replace c0_2 := zhb hx12 c0_2 (ne := zSlTac3_0)
   replace c0_3 := zhb hx12 c0_3 (ne := zSlTac3_0)
   have z12 := hx12.size
   try simp at z12
   replace rb := zr w.heap.size w12
   replace rs := zr (w.heap.size + 1) w12
   replace rp := zr (w.heap.size + 1 + 1) w12
   replace rr := zr (w.heap.size + 1 + 1 + 1) w12
   replace rc0 := zr wr.heap.size w12
   have X12 : Hid (Ext w w12) := Lib.hid (have hX := (show Ext w _ from zxt); Below.trans hX (hx12.below (Ext.size hX) (fun k hk hh => by have hh2 := own_rng HO.out _ hh; omega)))
   replace HSk := Lib.hid ((HSk.out.ext zxt).but hx12 (fun k hk => by have hh2 := own_rng HO.out _ hk; omega))
   clear HO
   have HO := Lib.hid (show OwnCls _ (w.heap.size + 4) _ _ _ from hO12)
   clear hsz12 X11 hx12
   clear hap0
   clear hO12
   go_wp2_with fail
   go_roundg (gk - 1)
   case measure => have := HK.out; omega
   have hE : n - (gk - 1) = k + 1 := by have := HK.out; omega
   exact ⟨by have := HK.out; omega, num_eq (by have := HK.out; omega), ⟨_, _, L12, true, rfl, rfl, Lib.hid (HO.out.ext zxt), by rw [hE, HL12.out]; exact HN, by omega⟩, Lib.hid (HSk.out.ext zxt), ⟨by first | exact b_0 | (simp [go_sem, World.cell?_alloc_past, *]; done), by first | exact b_1 | (simp [go_sem, World.cell?_alloc_past, *]; done), by first | exact s_0 | (simp [go_sem, World.cell?_alloc_past, *]; done), by first | exact s_1 | (simp [go_sem, World.cell?_alloc_past, *]; done), by first | exact s_2 | (simp [go_sem, World.cell?_alloc_past, *]; done), by first | exact s_3 | (simp [go_sem, World.cell?_alloc_past, *]; done), by first | exact p_0 | (simp [go_sem, World.cell?_alloc_past, *]; done), by first | exact p_1 | (simp [go_sem, World.cell?_alloc_past, *]; done), by first | exact r_0 | (simp [go_sem, World.cell?_alloc_past, *]; done), by first | exact r_1 | (simp [go_sem, World.cell?_alloc_past, *]; done), by first | exact r_0f | (simp [go_sem, World.cell?_alloc_past, *]; done), by first | exact r_1f | (simp [go_sem, World.cell?_alloc_past, *]; done)⟩, Lib.hid zxt⟩
  have HE := Lib.hid (show ¬ kC (xv, xs, xp, xf, xt, xh) = [V, S, P, Q] from kC_ne (t := xt) (s := xh) hq)
  have hqb := four_false hq
  have hqn := four_not_false hq
  have HN := Lib.hid (refK_lo HF.out HX.out.1 (show cmpK [V, S, P, Q] (kC (xv, xs, xp, xf, xt, xh)) ≤ 0 from by rw [show cmpK [V, S, P, Q] (kC (xv, xs, xp, xf, xt, xh)) = G from HX.out.2.symm]; exact hq1) HE.out)
  have hq1d : decide (G ≤ 0) = true := decide_eq_true hq1
  clear hq hq1
  go_wp2_with fail
  (with_reducible refine (rCompare12_at V S P Q xv xs xp xf G _ HX.out.2).mono ?_)
  rintro e w11 ⟨rfl, hx11⟩
  replace b_0 := zh hx11 b_0
  replace b_1 := zh hx11 b_1
  replace s_0 := zh hx11 s_0
  replace s_1 := zh hx11 s_1
  replace s_2 := zh hx11 s_2
  replace s_3 := zh hx11 s_3
  replace p_0 := zh hx11 p_0
  replace p_1 := zh hx11 p_1
  replace r_0f := zf hx11 r_0 r_0f
  replace r_1f := zf hx11 r_1 r_1f
  replace r_0 := zh hx11 r_0
  replace r_1 := zh hx11 r_1
  have c0_0 : w11.cell? ⟨wr.heap.size, 0, none⟩ = some (.int .i64 xv) := hx11.has zcv
  have c0_1 : w11.cell? ⟨wr.heap.size, 1, none⟩ = some (.int .i64 xs) := hx11.has zcv
  have c0_2 : w11.cell? ⟨wr.heap.size, 2, none⟩ = some (.int .i64 xp) := hx11.has zcv
  have c0_3 : w11.cell? ⟨wr.heap.size, 3, none⟩ = some (.int .i64 xf) := hx11.has zcv
  have c0_4 : w11.cell? ⟨wr.heap.size, 4, none⟩ = some (.int .u64 xt) := hx11.has zcv
  have c0_5 : w11.cell? ⟨wr.heap.size, 5, none⟩ = some (.int .u64 xh) := hx11.has zcv
  have z11 := hx11.size
  try simp at z11
  have lt_b_c0 := zl w.heap.size wr.heap.size
  have lt_s_c0 := zl (w.heap.size + 1) wr.heap.size
  have lt_p_c0 := zl (w.heap.size + 1 + 1) wr.heap.size
  have lt_r_c0 := zl (w.heap.size + 1 + 1 + 1) wr.heap.size
  have rb := zr w.heap.size w11
  have rs := zr (w.heap.size + 1) w11
  have rp := zr (w.heap.size + 1 + 1) w11
  have rr := zr (w.heap.size + 1 + 1 + 1) w11
  have rc0 := zr wr.heap.size w11
  replace HO := Lib.hid (HO.out.ext (Ext.trans zxt hx11))
  replace HSk := Lib.hid (HSk.out.ext (Ext.trans zxt hx11))
  have X11 : Hid (Ext w w11) := Lib.hid (Ext.trans zxt hx11)
  clear x_2 x_1 x_4 x_3 x_5 x_0 XR hx11
  have hap0 := hap
  go_wp2_with (at_builtin; refine wpList_append_slB _ rfl _ _ 22 rfl (w.heap.size + 4) 79 iCls (.agg #[.int .i64 0, .int .i64 0, .int .i64 0, .int .i64 0, .int .u64 0, .int .u64 0]) 6 48 Tryz.underlying22 iCls_0 iCls_1 iCls_2 iCls_3 rfl (by decide) (.slice A7 pre.length c7) pre.length (pre.flatMap clsC) (by rfl) ((HO.out.ext zxt)) _ 1 _ (#[.int .i64 V, .int .i64 S, .int .i64 P, .int .i64 Q, .int .u64 t, .int .u64 u].toList) zSlTac3_3 (sl_new _ 79 6 #[.int .i64 V, .int .i64 S, .int .i64 P, .int .i64 Q, .int .u64 t, .int .u64 u] 1 rfl (by decide)) zSlTac3_1 zSlTac3_4 (by decide) (by (try simp); omega) ?_; intro v12 w12 hown12 hx12 hn12; refine Hid.out ?_)
  refine Lib.hid ?_
  obtain ⟨A12, c12, rfl, hnil12, hO12⟩ := own_app (f := clsC) (V, S, P, Q, t, u) hown12 rfl rfl
  have hap2 : ∀ j, (Value.slice A12 (pre ++ [(V, S, P, Q, t, u)]).length c12).ownBlock = some j → ¬ j = wr.heap.size := fun j hj => by rcases hn12 j hj with h9 | h9; exact hap j h9; (try simp at h9); omega
  obtain ⟨L12, hL12⟩ : ∃ l, l = pre ++ [(V, S, P, Q, t, u)] := ⟨_, rfl⟩
  rw [← hL12] at hO12 hap2 ⊢
  replace hap := hap2
  clear hap2
  have HL12 := Lib.hid hL12
  have hNL12 : L12.length = pre.length + 1 := by rw [hL12, List.length_append]; rfl
  clear hown12 hn12 hnil12 hL12
  have hsz12 := hx12.size
  try simp at hsz12
  replace b_0 := zhb hx12 b_0 (ne := zSlTac3_0)
  replace b_1 := zhb hx12 b_1 (ne := zSlTac3_0)
  replace s_0 := zhb hx12 s_0 (ne := zSlTac3_0)
  replace s_1 := zhb hx12 s_1 (ne := zSlTac3_0)
  replace s_2 := zhb hx12 s_2 (ne := zSlTac3_0)
  replace s_3 := zhb hx12 s_3 (ne := zSlTac3_0)
  replace p_0 := zhb hx12 p_0 (ne := zSlTac3_0)
  replace p_1 := zhb hx12 p_1 (ne := zSlTac3_0)
  replace r_0f := zfb hx12 r_0 r_0f (ne := zSlTac3_0)
  replace r_1f := zfb hx12 r_1 r_1f (ne := zSlTac3_0)
  replace r_0 := zhb hx12 r_0 (ne := zSlTac3_0)
  replace r_1 := zhb hx12 r_1 (ne := zSlTac3_0)
  replace c0_0 := zhb hx12 c0_0 (ne := zSlTac3_0)
  replace c0_1 := zhb hx12 c0_1 (ne := zSlTac3_0)
  replace c0_2 := zhb hx12 c0_2 (ne := zSlTac3_0)
  replace c0_3 := zhb hx12 c0_3 (ne := zSlTac3_0)
  replace c0_4 := zhb hx12 c0_4 (ne := zSlTac3_0)
  replace c0_5 := zhb hx12 c0_5 (ne := zSlTac3_0)
  have z12 := hx12.size
  try simp at z12
  replace rb := zr w.heap.size w12
  replace rs := zr (w.heap.size + 1) w12
  replace rp := zr (w.heap.size + 1 + 1) w12
  replace rr := zr (w.heap.size + 1 + 1 + 1) w12
  replace rc0 := zr wr.heap.size w12
  have X12 : Hid (Ext w w12) := Lib.hid (have hX := (show Ext w _ from zxt); Below.trans hX (hx12.below (Ext.size hX) (fun k hk hh => by have hh2 := own_rng HO.out _ hh; omega)))
  replace HSk := Lib.hid ((HSk.out.ext zxt).but hx12 (fun k hk => by have hh2 := own_rng HO.out _ hk; omega))
  clear HO
  have HO := Lib.hid (show OwnCls _ (w.heap.size + 4) _ _ _ from hO12)
  clear hsz12 X11 hx12
  clear hap0
  clear hO12
  have hap0 := hap
  go_wp2_with (at_builtin; refine wpList_append_slB _ rfl _ _ 22 rfl (w.heap.size + 4) 79 iCls (.agg #[.int .i64 0, .int .i64 0, .int .i64 0, .int .i64 0, .int .u64 0, .int .u64 0]) 6 48 Tryz.underlying22 iCls_0 iCls_1 iCls_2 iCls_3 rfl (by decide) (.slice A12 L12.length c12) L12.length (L12.flatMap clsC) (by rfl) ((HO.out.ext zxt)) _ 1 _ (#[.int .i64 xv, .int .i64 xs, .int .i64 xp, .int .i64 xf, .int .u64 xt, .int .u64 xh].toList) zSlTac3_3 (sl_new _ 79 6 #[.int .i64 xv, .int .i64 xs, .int .i64 xp, .int .i64 xf, .int .u64 xt, .int .u64 xh] 1 rfl (by decide)) zSlTac3_1 zSlTac3_4 (by decide) (by (try simp); omega) ?_; intro v13 w13 hown13 hx13 hn13; refine Hid.out ?_)
  refine Lib.hid ?_
  obtain ⟨A13, c13, rfl, hnil13, hO13⟩ := own_app (f := clsC) (xv, xs, xp, xf, xt, xh) hown13 rfl rfl
  have hap2 : ∀ j, (Value.slice A13 (L12 ++ [(xv, xs, xp, xf, xt, xh)]).length c13).ownBlock = some j → ¬ j = wr.heap.size := fun j hj => by rcases hn13 j hj with h9 | h9; exact hap j h9; (try simp at h9); omega
  obtain ⟨L13, hL13⟩ : ∃ l, l = L12 ++ [(xv, xs, xp, xf, xt, xh)] := ⟨_, rfl⟩
  rw [← hL13] at hO13 hap2 ⊢
  replace hap := hap2
  clear hap2
  have HL13 := Lib.hid hL13
  have hNL13 : L13.length = L12.length + 1 := by rw [hL13, List.length_append]; rfl
  clear hown13 hn13 hnil13 hL13
  have hsz13 := hx13.size
  try simp at hsz13
  replace b_0 := zhb hx13 b_0 (ne := zSlTac3_0)
  replace b_1 := zhb hx13 b_1 (ne := zSlTac3_0)
  replace s_0 := zhb hx13 s_0 (ne := zSlTac3_0)
  replace s_1 := zhb hx13 s_1 (ne := zSlTac3_0)
  replace s_2 := zhb hx13 s_2 (ne := zSlTac3_0)
  replace s_3 := zhb hx13 s_3 (ne := zSlTac3_0)
  replace p_0 := zhb hx13 p_0 (ne := zSlTac3_0)
  replace p_1 := zhb hx13 p_1 (ne := zSlTac3_0)
  replace r_0f := zfb hx13 r_0 r_0f (ne := zSlTac3_0)
  replace r_1f := zfb hx13 r_1 r_1f (ne := zSlTac3_0)
  replace r_0 := zhb hx13 r_0 (ne := zSlTac3_0)
  replace r_1 := zhb hx13 r_1 (ne := zSlTac3_0)
  have z13 := hx13.size
  try simp at z13
  replace rb := zr w.heap.size w13
  replace rs := zr (w.heap.size + 1) w13
  replace rp := zr (w.heap.size + 1 + 1) w13
  replace rr := zr (w.heap.size + 1 + 1 + 1) w13
  have X13 : Hid (Ext w w13) := Lib.hid (have hX := (show Ext w _ from zxt); Below.trans hX (hx13.below (Ext.size hX) (fun k hk hh => by have hh2 := own_rng HO.out _ hh; omega)))
  replace HSk := Lib.hid ((HSk.out.ext zxt).but hx13 (fun k hk => by have hh2 := own_rng HO.out _ hk; omega))
  clear HO
  have HO := Lib.hid (show OwnCls _ (w.heap.size + 4) _ _ _ from hO13)
  clear c0_1 c0_0 c0_5 c0_2 c0_3 c0_4 rc0 hsz13 X12 hx13
  clear hap0
  clear hO13
  go_wp2_with fail
  go_roundg (gk - 1)
  case measure => have := HK.out; omega
  have hE : n - (gk - 1) = k + 1 := by have := HK.out; omega
  exact ⟨by have := HK.out; omega, num_eq (by have := HK.out; omega), ⟨_, _, L13, true, rfl, rfl, Lib.hid (HO.out.ext zxt), by rw [hE, HL13.out, HL12.out]; exact HN, by omega⟩, Lib.hid (HSk.out.ext zxt), ⟨by first | exact b_0 | (simp [go_sem, World.cell?_alloc_past, *]; done), by first | exact b_1 | (simp [go_sem, World.cell?_alloc_past, *]; done), by first | exact s_0 | (simp [go_sem, World.cell?_alloc_past, *]; done), by first | exact s_1 | (simp [go_sem, World.cell?_alloc_past, *]; done), by first | exact s_2 | (simp [go_sem, World.cell?_alloc_past, *]; done), by first | exact s_3 | (simp [go_sem, World.cell?_alloc_past, *]; done), by first | exact p_0 | (simp [go_sem, World.cell?_alloc_past, *]; done), by first | exact p_1 | (simp [go_sem, World.cell?_alloc_past, *]; done), by first | exact r_0 | (simp [go_sem, World.cell?_alloc_past, *]; done), by first | exact r_1 | (simp [go_sem, World.cell?_alloc_past, *]; done), by first | exact r_0f | (simp [go_sem, World.cell?_alloc_past, *]; done), by first | exact r_1f | (simp [go_sem, World.cell?_alloc_past, *]; done)⟩, Lib.hid zxt⟩
 by_cases hq : xv = V ∧ xs = S ∧ xp = P ∧ xf = Q
 ·have HE := Lib.hid (show kC (xv, xs, xp, xf, xt, xh) = [V, S, P, Q] from kC_eq hq)
  have hqb := four_true hq
  have hqn := four_not_true hq
  have HN := Lib.hid (refK_gs HF.out HX.out.1 (show ¬ cmpK [V, S, P, Q] (kC (xv, xs, xp, xf, xt, xh)) ≤ 0 from by rw [show cmpK [V, S, P, Q] (kC (xv, xs, xp, xf, xt, xh)) = G from HX.out.2.symm]; exact hq1) HE.out)
  have hq1d : decide (G ≤ 0) = false := decide_eq_false hq1
  clear hq hq1
  go_wp2_with fail
  (with_reducible refine (rCompare12_at V S P Q xv xs xp xf G _ HX.out.2).mono ?_)
  rintro e w11 ⟨rfl, hx11⟩
  replace b_0 := zh hx11 b_0
  replace b_1 := zh hx11 b_1
  replace s_0 := zh hx11 s_0
  replace s_1 := zh hx11 s_1
  replace s_2 := zh hx11 s_2
  replace s_3 := zh hx11 s_3
  replace p_0 := zh hx11 p_0
  replace p_1 := zh hx11 p_1
  replace r_0f := zf hx11 r_0 r_0f
  replace r_1f := zf hx11 r_1 r_1f
  replace r_0 := zh hx11 r_0
  replace r_1 := zh hx11 r_1
  have c0_0 : w11.cell? ⟨wr.heap.size, 0, none⟩ = some (.int .i64 xv) := hx11.has zcv
  have c0_1 : w11.cell? ⟨wr.heap.size, 1, none⟩ = some (.int .i64 xs) := hx11.has zcv
  have c0_2 : w11.cell? ⟨wr.heap.size, 2, none⟩ = some (.int .i64 xp) := hx11.has zcv
  have c0_3 : w11.cell? ⟨wr.heap.size, 3, none⟩ = some (.int .i64 xf) := hx11.has zcv
  have z11 := hx11.size
  try simp at z11
  have lt_b_c0 := zl w.heap.size wr.heap.size
  have lt_s_c0 := zl (w.heap.size + 1) wr.heap.size
  have lt_p_c0 := zl (w.heap.size + 1 + 1) wr.heap.size
  have lt_r_c0 := zl (w.heap.size + 1 + 1 + 1) wr.heap.size
  have rb := zr w.heap.size w11
  have rs := zr (w.heap.size + 1) w11
  have rp := zr (w.heap.size + 1 + 1) w11
  have rr := zr (w.heap.size + 1 + 1 + 1) w11
  have rc0 := zr wr.heap.size w11
  replace HO := Lib.hid (HO.out.ext (Ext.trans zxt hx11))
  replace HSk := Lib.hid (HSk.out.ext (Ext.trans zxt hx11))
  have X11 : Hid (Ext w w11) := Lib.hid (Ext.trans zxt hx11)
  clear x_2 x_1 x_4 x_3 x_5 x_0 XR hx11
  go_wp2_with fail
  go_roundg (gk - 1)
  case measure => have := HK.out; omega
  have hE : n - (gk - 1) = k + 1 := by have := HK.out; omega
  exact ⟨by have := HK.out; omega, num_eq (by have := HK.out; omega), ⟨_, _, pre, false, rfl, rfl, Lib.hid (HO.out.ext zxt), by rw [hE]; exact HN, by omega⟩, Lib.hid (HSk.out.ext zxt), ⟨by first | exact b_0 | (simp [go_sem, World.cell?_alloc_past, *]; done), by first | exact b_1 | (simp [go_sem, World.cell?_alloc_past, *]; done), by first | exact s_0 | (simp [go_sem, World.cell?_alloc_past, *]; done), by first | exact s_1 | (simp [go_sem, World.cell?_alloc_past, *]; done), by first | exact s_2 | (simp [go_sem, World.cell?_alloc_past, *]; done), by first | exact s_3 | (simp [go_sem, World.cell?_alloc_past, *]; done), by first | exact p_0 | (simp [go_sem, World.cell?_alloc_past, *]; done), by first | exact p_1 | (simp [go_sem, World.cell?_alloc_past, *]; done), by first | exact r_0 | (simp [go_sem, World.cell?_alloc_past, *]; done), by first | exact r_1 | (simp [go_sem, World.cell?_alloc_past, *]; done), by first | exact r_0f | (simp [go_sem, World.cell?_alloc_past, *]; done), by first | exact r_1f | (simp [go_sem, World.cell?_alloc_past, *]; done)⟩, Lib.hid zxt⟩
 have HE := Lib.hid (show ¬ kC (xv, xs, xp, xf, xt, xh) = [V, S, P, Q] from kC_ne (t := xt) (s := xh) hq)
 have hqb := four_false hq
 have hqn := four_not_false hq
 have HN := Lib.hid (refK_go HF.out HX.out.1 (show ¬ cmpK [V, S, P, Q] (kC (xv, xs, xp, xf, xt, xh)) ≤ 0 from by rw [show cmpK [V, S, P, Q] (kC (xv, xs, xp, xf, xt, xh)) = G from HX.out.2.symm]; exact hq1) HE.out)
 have hq1d : decide (G ≤ 0) = false := decide_eq_false hq1
 clear hq hq1
 go_wp2_with fail
 (with_reducible refine (rCompare12_at V S P Q xv xs xp xf G _ HX.out.2).mono ?_)
 rintro e w11 ⟨rfl, hx11⟩
 replace b_0 := zh hx11 b_0
 replace b_1 := zh hx11 b_1
 replace s_0 := zh hx11 s_0
 replace s_1 := zh hx11 s_1
 replace s_2 := zh hx11 s_2
 replace s_3 := zh hx11 s_3
 replace p_0 := zh hx11 p_0
 replace p_1 := zh hx11 p_1
 replace r_0f := zf hx11 r_0 r_0f
 replace r_1f := zf hx11 r_1 r_1f
 replace r_0 := zh hx11 r_0
 replace r_1 := zh hx11 r_1
 have c0_0 : w11.cell? ⟨wr.heap.size, 0, none⟩ = some (.int .i64 xv) := hx11.has zcv
 have c0_1 : w11.cell? ⟨wr.heap.size, 1, none⟩ = some (.int .i64 xs) := hx11.has zcv
 have c0_2 : w11.cell? ⟨wr.heap.size, 2, none⟩ = some (.int .i64 xp) := hx11.has zcv
 have c0_3 : w11.cell? ⟨wr.heap.size, 3, none⟩ = some (.int .i64 xf) := hx11.has zcv
 have c0_4 : w11.cell? ⟨wr.heap.size, 4, none⟩ = some (.int .u64 xt) := hx11.has zcv
 have c0_5 : w11.cell? ⟨wr.heap.size, 5, none⟩ = some (.int .u64 xh) := hx11.has zcv
 have z11 := hx11.size
 try simp at z11
 have lt_b_c0 := zl w.heap.size wr.heap.size
 have lt_s_c0 := zl (w.heap.size + 1) wr.heap.size
 have lt_p_c0 := zl (w.heap.size + 1 + 1) wr.heap.size
 have lt_r_c0 := zl (w.heap.size + 1 + 1 + 1) wr.heap.size
 have rb := zr w.heap.size w11
 have rs := zr (w.heap.size + 1) w11
 have rp := zr (w.heap.size + 1 + 1) w11
 have rr := zr (w.heap.size + 1 + 1 + 1) w11
 have rc0 := zr wr.heap.size w11
 replace HO := Lib.hid (HO.out.ext (Ext.trans zxt hx11))
 replace HSk := Lib.hid (HSk.out.ext (Ext.trans zxt hx11))
 have X11 : Hid (Ext w w11) := Lib.hid (Ext.trans zxt hx11)
 clear x_2 x_1 x_4 x_3 x_5 x_0 XR hx11
 have hap0 := hap
 go_wp2_with (at_builtin; refine wpList_append_slB _ rfl _ _ 22 rfl (w.heap.size + 4) 79 iCls (.agg #[.int .i64 0, .int .i64 0, .int .i64 0, .int .i64 0, .int .u64 0, .int .u64 0]) 6 48 Tryz.underlying22 iCls_0 iCls_1 iCls_2 iCls_3 rfl (by decide) (.slice A7 pre.length c7) pre.length (pre.flatMap clsC) (by rfl) ((HO.out.ext zxt)) _ 1 _ (#[.int .i64 xv, .int .i64 xs, .int .i64 xp, .int .i64 xf, .int .u64 xt, .int .u64 xh].toList) zSlTac3_3 (sl_new _ 79 6 #[.int .i64 xv, .int .i64 xs, .int .i64 xp, .int .i64 xf, .int .u64 xt, .int .u64 xh] 1 rfl (by decide)) zSlTac3_1 zSlTac3_4 (by decide) (by (try simp); omega) ?_; intro v12 w12 hown12 hx12 hn12; refine Hid.out ?_)
 refine Lib.hid ?_
 obtain ⟨A12, c12, rfl, hnil12, hO12⟩ := own_app (f := clsC) (xv, xs, xp, xf, xt, xh) hown12 rfl rfl
 have hap2 : ∀ j, (Value.slice A12 (pre ++ [(xv, xs, xp, xf, xt, xh)]).length c12).ownBlock = some j → ¬ j = wr.heap.size := fun j hj => by rcases hn12 j hj with h9 | h9; exact hap j h9; (try simp at h9); omega
 obtain ⟨L12, hL12⟩ : ∃ l, l = pre ++ [(xv, xs, xp, xf, xt, xh)] := ⟨_, rfl⟩
 rw [← hL12] at hO12 hap2 ⊢
 replace hap := hap2
 clear hap2
 have HL12 := Lib.hid hL12
 have hNL12 : L12.length = pre.length + 1 := by rw [hL12, List.length_append]; rfl
 clear hown12 hn12 hnil12 hL12
 have hsz12 := hx12.size
 try simp at hsz12
 replace b_0 := zhb hx12 b_0 (ne := zSlTac3_0)
 replace b_1 := zhb hx12 b_1 (ne := zSlTac3_0)
 replace s_0 := zhb hx12 s_0 (ne := zSlTac3_0)
 replace s_1 := zhb hx12 s_1 (ne := zSlTac3_0)
 replace s_2 := zhb hx12 s_2 (ne := zSlTac3_0)
 replace s_3 := zhb hx12 s_3 (ne := zSlTac3_0)
 replace p_0 := zhb hx12 p_0 (ne := zSlTac3_0)
 replace p_1 := zhb hx12 p_1 (ne := zSlTac3_0)
 replace r_0f := zfb hx12 r_0 r_0f (ne := zSlTac3_0)
 replace r_1f := zfb hx12 r_1 r_1f (ne := zSlTac3_0)
 replace r_0 := zhb hx12 r_0 (ne := zSlTac3_0)
 replace r_1 := zhb hx12 r_1 (ne := zSlTac3_0)
 have z12 := hx12.size
 try simp at z12
 replace rb := zr w.heap.size w12
 replace rs := zr (w.heap.size + 1) w12
 replace rp := zr (w.heap.size + 1 + 1) w12
 replace rr := zr (w.heap.size + 1 + 1 + 1) w12
 have X12 : Hid (Ext w w12) := Lib.hid (have hX := (show Ext w _ from zxt); Below.trans hX (hx12.below (Ext.size hX) (fun k hk hh => by have hh2 := own_rng HO.out _ hh; omega)))
 replace HSk := Lib.hid ((HSk.out.ext zxt).but hx12 (fun k hk => by have hh2 := own_rng HO.out _ hk; omega))
 clear HO
 have HO := Lib.hid (show OwnCls _ (w.heap.size + 4) _ _ _ from hO12)
 clear c0_1 c0_0 c0_5 c0_2 c0_3 c0_4 rc0 hsz12 X11 hx12
 clear hap0
 clear hO12
 go_wp2_with fail
 go_roundg (gk - 1)
 case measure => have := HK.out; omega
 have hE : n - (gk - 1) = k + 1 := by have := HK.out; omega
 exact ⟨by have := HK.out; omega, num_eq (by have := HK.out; omega), ⟨_, _, L12, false, rfl, rfl, Lib.hid (HO.out.ext zxt), by rw [hE, HL12.out]; exact HN, by omega⟩, Lib.hid (HSk.out.ext zxt), ⟨by first | exact b_0 | (simp [go_sem, World.cell?_alloc_past, *]; done), by first | exact b_1 | (simp [go_sem, World.cell?_alloc_past, *]; done), by first | exact s_0 | (simp [go_sem, World.cell?_alloc_past, *]; done), by first | exact s_1 | (simp [go_sem, World.cell?_alloc_past, *]; done), by first | exact s_2 | (simp [go_sem, World.cell?_alloc_past, *]; done), by first | exact s_3 | (simp [go_sem, World.cell?_alloc_past, *]; done), by first | exact p_0 | (simp [go_sem, World.cell?_alloc_past, *]; done), by first | exact p_1 | (simp [go_sem, World.cell?_alloc_past, *]; done), by first | exact r_0 | (simp [go_sem, World.cell?_alloc_past, *]; done), by first | exact r_1 | (simp [go_sem, World.cell?_alloc_past, *]; done), by first | exact r_0f | (simp [go_sem, World.cell?_alloc_past, *]; done), by first | exact r_1f | (simp [go_sem, World.cell?_alloc_past, *]; done)⟩, Lib.hid zxt⟩
theorem r13setPosition_any (n c n2 c2 : Nat) (A A2 : Option Addr) (ps : List I6) (O V S P Q a : Int) (w : World) (h2 : Sl w 6 A2 n2 c2 (ps.flatMap posC)) (hn : n2 < 1099511627) (hs : SortK kP ps) :
  Calls Tryz.prog 130 #[.agg #[.slice A n c, .slice A2 n2 c2], .agg #[.int .i64 O, .int .i64 V, .int .i64 S, .int .i64 P, .int .i64 Q, .int .u64 a]] w (RetP1 (posSet ps O V S P Q a) (.slice A n c) w) := by
 obtain ⟨iPos, iPos_0, iPos_1, iPos_2, iPos_3⟩ := info_parts pos_info
 have hll := h2.rlen posC_len (by decide)
 have hsm := h2.small
 have HS := Lib.hid h2.low
 have HLL := Lib.hid hll
 have pq1 := stm_eq
 have pq2 := stm_eqg
 have pq3 := pol_eq
 have pq4 := pol_eqg
 have pq5 := stm_ne
 obtain ⟨R, hR⟩ : ∃ R, R = posSet ps O V S P Q a := ⟨_, rfl⟩
 rw [← hR]
 obtain ⟨d0, hd0⟩ : ∃ d, d = (a == 0) := ⟨_, rfl⟩
 have HR := Lib.hid (show R = refK kP [O, V, S, P, Q] (O, V, S, P, Q, a) d0 ps from by rw [hR, hd0]; exact (refK_pos hs O V S P Q a).symm)
 have hd1 := hd0.symm
 clear h2 hll hR hs hd0
 go_enter Tryz.func130, Tryz.ntmps130
 go_wp2
 go_loopg [5, 6, 7] n2 (fun gh s7 s8 i wx => gh ≤ n2 ∧ i = .int .i64 ((n2 - gh : Nat) : Int) ∧ (∃ A7 c7 pre d, s7 = .slice A7 (List.length (α := I6) pre) c7 ∧ s8 = .bool d ∧ Hid (OwnPos wx (w.heap.size + 3) (.slice A7 pre.length c7) pre.length pre) ∧ Hid (refK kP [O, V, S, P, Q] (O, V, S, P, Q, a) d0 ps = pre ++ refK kP [O, V, S, P, Q] (O, V, S, P, Q, a) d (ps.drop (n2 - gh))) ∧ pre.length ≤ 2 * (n2 - gh)) ∧ Hid (SlB w.heap.size wx 6 A2 n2 c2 (ps.flatMap posC)) ∧ (wx.cell? ⟨w.heap.size, 0, none⟩ = some (.slice A n c) ∧ wx.cell? ⟨w.heap.size, 1, none⟩ = some (.slice A2 n2 c2) ∧ wx.cell? ⟨w.heap.size + 1, 0, none⟩ = some (.int .i64 O) ∧ wx.cell? ⟨w.heap.size + 1, 1, none⟩ = some (.int .i64 V) ∧ wx.cell? ⟨w.heap.size + 1, 2, none⟩ = some (.int .i64 S) ∧ wx.cell? ⟨w.heap.size + 1, 3, none⟩ = some (.int .i64 P) ∧ wx.cell? ⟨w.heap.size + 1, 4, none⟩ = some (.int .i64 Q) ∧ wx.cell? ⟨w.heap.size + 1, 5, none⟩ = some (.int .u64 a) ∧ wx.cell? ⟨w.heap.size + 1 + 1, 0, none⟩ = some (.slice none 0 0) ∧ wx.cell? ⟨w.heap.size + 1 + 1, 1, none⟩ = some (.slice none 0 0) ∧ wx.frozen? ⟨w.heap.size + 1 + 1, 0, none⟩ = false ∧ wx.frozen? ⟨w.heap.size + 1 + 1, 1, none⟩ = false) ∧ Hid (Ext w wx))
 case atStart => exact ⟨Nat.le_refl _, by simp, ⟨none, 0, [], d0, rfl, by first | rfl | (rw [hd1]; done) | simp [hd1], Lib.hid (OwnPos.nil _ _), by rw [Nat.sub_self]; exact Lib.hid rfl, Nat.zero_le _⟩, Lib.hid (HS.out.ext zxt), ⟨by simp [go_sem, World.cell?_alloc_past], by simp [go_sem, World.cell?_alloc_past], by simp [go_sem, World.cell?_alloc_past], by simp [go_sem, World.cell?_alloc_past], by simp [go_sem, World.cell?_alloc_past], by simp [go_sem, World.cell?_alloc_past], by simp [go_sem, World.cell?_alloc_past], by simp [go_sem, World.cell?_alloc_past], by simp [go_sem, World.cell?_alloc_past], by simp [go_sem, World.cell?_alloc_past], by simp [go_sem, World.cell?_alloc_past], by simp [go_sem, World.cell?_alloc_past]⟩, Lib.hid zxt⟩
 obtain ⟨hg, hi, ⟨A7, c7, pre, d, rfl, rfl, HO, HF, hpl⟩, HSk, ⟨b_0, b_1, s_0, s_1, s_2, s_3, s_4, s_5, r_0, r_1, r_0f, r_1f⟩, XR⟩ := hrel
 obtain ⟨k, hk⟩ : ∃ k, k = n2 - gk := ⟨_, rfl⟩
 rw [← hk] at hi HF hpl
 subst hi
 have hl_b := cell_lt b_0
 have hn_b : ¬ w.heap.size = wr.heap.size := by omega
 have hl_s := cell_lt s_0
 have hn_s : ¬ w.heap.size + 1 = wr.heap.size := by omega
 have hl_r := cell_lt r_0
 have hn_r : ¬ w.heap.size + 1 + 1 = wr.heap.size := by omega
 have hw0 : w.heap.size ≤ wr.heap.size := Ext.size XR.out
 clear HS
 by_cases hz : gk = 0
 ·have hkn : ¬ (k : Int) < (n2 : Int) := by omega
  have hkb : k ≤ n2 := by omega
  have hL := HR.out.trans (refK_last HF.out (by have := HLL.out; omega))
  clear hk hg hz HF HR
  rcases Bool.eq_false_or_eq_true d with hd | hd <;> subst hd
  ·simp only [if_true, Bool.false_eq_true, if_false] at hL
   subst hL
   go_wp2_with fail
   refine bodyPost_ret (v := .agg #[.slice A n c, .slice A7 R.length c7]) (by simp [results, Tryz.results130, go_sem, World.cell?_alloc_past, *]; try rfl) rfl (RetP1.mk (b := w.heap.size + 3) (by omega) (show World.ownsRow _ (w.heap.size + 3) _ _ _ _ _ from by repeat (first | with_reducible refine own_box ?_ (by omega) | with_reducible refine World.ownsRow.drew ?_ | exact HO.out)) zxt)
  simp only [if_true, Bool.false_eq_true, if_false] at hL
  go_wp2_with (at_builtin; refine wpList_append_slB _ rfl _ _ 23 rfl (w.heap.size + 3) 82 iPos (.agg #[.int .i64 0, .int .i64 0, .int .i64 0, .int .i64 0, .int .i64 0, .int .u64 0]) 6 48 Tryz.underlying23 iPos_0 iPos_1 iPos_2 iPos_3 rfl (by decide) (.slice A7 pre.length c7) pre.length (pre.flatMap posC) (by rfl) ((HO.out.ext zxt)) _ 1 _ (#[.int .i64 O, .int .i64 V, .int .i64 S, .int .i64 P, .int .i64 Q, .int .u64 a].toList) zSlTac3_3 (sl_new _ 82 6 #[.int .i64 O, .int .i64 V, .int .i64 S, .int .i64 P, .int .i64 Q, .int .u64 a] 1 rfl (by decide)) zSlTac3_1 (by have := HLL.out; omega) (by decide) (by (try simp); omega) ?_; intro v41 w41 hown41 hx41 hn41; refine Hid.out ?_)
  refine Lib.hid ?_
  obtain ⟨A41, c41, rfl, hnil41, hO41⟩ := own_app (f := posC) (O, V, S, P, Q, a) hown41 rfl rfl
  obtain ⟨L41, hL41⟩ : ∃ l, l = pre ++ [(O, V, S, P, Q, a)] := ⟨_, rfl⟩
  rw [← hL41] at hO41 ⊢
  have HL41 := Lib.hid hL41
  have hNL41 : L41.length = pre.length + 1 := by rw [hL41, List.length_append]; rfl
  clear hown41 hn41 hnil41 hL41
  have hsz41 := hx41.size
  try simp at hsz41
  replace b_0 := zhb hx41 b_0 (ne := zSlTac3_2)
  replace b_1 := zhb hx41 b_1 (ne := zSlTac3_2)
  replace s_0 := zhb hx41 s_0 (ne := zSlTac3_2)
  replace s_1 := zhb hx41 s_1 (ne := zSlTac3_2)
  replace s_2 := zhb hx41 s_2 (ne := zSlTac3_2)
  replace s_3 := zhb hx41 s_3 (ne := zSlTac3_2)
  replace s_4 := zhb hx41 s_4 (ne := zSlTac3_2)
  replace s_5 := zhb hx41 s_5 (ne := zSlTac3_2)
  replace r_0f := zfb hx41 r_0 r_0f (ne := zSlTac3_2)
  replace r_1f := zfb hx41 r_1 r_1f (ne := zSlTac3_2)
  replace r_0 := zhb hx41 r_0 (ne := zSlTac3_2)
  replace r_1 := zhb hx41 r_1 (ne := zSlTac3_2)
  have z41 := hx41.size
  try simp at z41
  have rb := zr w.heap.size w41
  have rs := zr (w.heap.size + 1) w41
  have rr := zr (w.heap.size + 1 + 1) w41
  have X41 : Hid (Ext w w41) := Lib.hid (have hX := (show Ext w _ from zxt); Below.trans hX (hx41.below (Ext.size hX) (fun k hk hh => by have hh2 := own_rng HO.out _ hh; omega)))
  clear HO
  have HO := Lib.hid (show OwnPos _ (w.heap.size + 3) _ _ _ from hO41)
  clear hsz41 XR hx41
  clear hO41
  obtain rfl : R = L41 := hL.trans HL41.out.symm
  go_wp2_with fail
  refine bodyPost_ret (v := .agg #[.slice A n c, .slice A41 R.length c41]) (by simp [results, Tryz.results130, go_sem, World.cell?_alloc_past, *]; try rfl) rfl (RetP1.mk (b := w.heap.size + 3) (by omega) (show World.ownsRow _ (w.heap.size + 3) _ _ _ _ _ from by repeat (first | with_reducible refine own_box ?_ (by omega) | with_reducible refine World.ownsRow.drew ?_ | exact HO.out)) zxt)
 have hkn : (k : Int) < (n2 : Int) := by omega
 have hkl : k < ps.length := by have := HLL.out; omega
 obtain ⟨b1, o1, rfl, hb1, hc_x⟩ := HSk.out.sl.rec_ posC_len (show 0 < n2 from by omega)
 obtain ⟨xw, hl_x⟩ : ∃ x, ps[k]? = some x := ⟨_, List.getElem?_eq_getElem (by omega)⟩
 have x_0 := hc_x (k) xw hl_x 0 _ rfl
 have x_1 := hc_x (k) xw hl_x 1 _ rfl
 have x_2 := hc_x (k) xw hl_x 2 _ rfl
 have x_3 := hc_x (k) xw hl_x 3 _ rfl
 have x_4 := hc_x (k) xw hl_x 4 _ rfl
 have x_5 := hc_x (k) xw hl_x 5 _ rfl
 obtain ⟨po, pv, ps_, pp, pf, ph⟩ := xw
 simp only at x_0 x_1 x_2 x_3 x_4 x_5
 rw [Nat.add_zero] at x_0
 rw [← Nat.add_assoc] at x_1 x_2 x_3 x_4 x_5
 obtain ⟨G, hG⟩ : ∃ G, G = cmpK [O, V, S, P, Q] [po, pv, ps_, pp, pf] := ⟨_, rfl⟩
 have HX := Lib.hid (And.intro hl_x hG)
 have HK := Lib.hid (And.intro hk (And.intro hg hz))
 have hb1s : ¬ b1 = wr.heap.size := by omega
 have hap : ∀ j, (Value.slice A7 pre.length c7).ownBlock = some j → ¬ j = wr.heap.size := fun j hj => by have h9 := own_rng HO.out j hj; omega
 have hbw := HSk.out.2 (by omega) b1 o1 none rfl
 clear hk hg hz hkl hl_x hc_x hG HR
 have CB := Lib.hid (fun w => r13below_any O V S P Q a po pv ps_ pp pf ph w)
 obtain ⟨GB, hGB⟩ : ∃ B, B = decide (cmpK [O, V, S, P, Q] [po, pv, ps_, pp, pf] < 0) := ⟨_, rfl⟩
 rw [← hGB] at CB
 have HGB := Lib.hid hGB
 clear hGB
 rcases Bool.eq_false_or_eq_true d with hd | hd <;> subst hd
 ·by_cases hq0 : po = O
  ·by_cases hq : pv = V ∧ ps_ = S ∧ pp = P ∧ pf = Q
   ·have HE := Lib.hid (show kP (po, pv, ps_, pp, pf, ph) = [O, V, S, P, Q] from kP_eq hq0 hq)
    have hq0b : (po == O) = true := by simp [hq0]
    have hqb := four_true hq
    have HN := Lib.hid (refK_ds HF.out HX.out.1 HE.out)
    clear hq hq0
    go_wp2_with fail
    go_roundg (gk - 1)
    case measure => have := HK.out; omega
    have hE : n2 - (gk - 1) = k + 1 := by have := HK.out; omega
    exact ⟨by have := HK.out; omega, num_eq (by have := HK.out; omega), ⟨_, _, pre, true, rfl, rfl, Lib.hid (HO.out.ext zxt), by rw [hE]; exact HN, by omega⟩, Lib.hid (HSk.out.ext zxt), ⟨by first | exact b_0 | (simp [go_sem, World.cell?_alloc_past, *]; done), by first | exact b_1 | (simp [go_sem, World.cell?_alloc_past, *]; done), by first | exact s_0 | (simp [go_sem, World.cell?_alloc_past, *]; done), by first | exact s_1 | (simp [go_sem, World.cell?_alloc_past, *]; done), by first | exact s_2 | (simp [go_sem, World.cell?_alloc_past, *]; done), by first | exact s_3 | (simp [go_sem, World.cell?_alloc_past, *]; done), by first | exact s_4 | (simp [go_sem, World.cell?_alloc_past, *]; done), by first | exact s_5 | (simp [go_sem, World.cell?_alloc_past, *]; done), by first | exact r_0 | (simp [go_sem, World.cell?_alloc_past, *]; done), by first | exact r_1 | (simp [go_sem, World.cell?_alloc_past, *]; done), by first | exact r_0f | (simp [go_sem, World.cell?_alloc_past, *]; done), by first | exact r_1f | (simp [go_sem, World.cell?_alloc_past, *]; done)⟩, Lib.hid zxt⟩
   have HE := Lib.hid (show ¬ kP (po, pv, ps_, pp, pf, ph) = [O, V, S, P, Q] from kP_ne (t := ph) (fun hh => hq hh.2))
   have hq0b : (po == O) = true := by simp [hq0]
   have hqb := four_false hq
   have HN := Lib.hid (refK_do HF.out HX.out.1 HE.out)
   clear hq hq0
   have hap0 := hap
   go_wp2_with (at_builtin; refine wpList_append_slB _ rfl _ _ 23 rfl (w.heap.size + 3) 82 iPos (.agg #[.int .i64 0, .int .i64 0, .int .i64 0, .int .i64 0, .int .i64 0, .int .u64 0]) 6 48 Tryz.underlying23 iPos_0 iPos_1 iPos_2 iPos_3 rfl (by decide) (.slice A7 pre.length c7) pre.length (pre.flatMap posC) (by rfl) ((HO.out.ext zxt)) _ 1 _ (#[.int .i64 po, .int .i64 pv, .int .i64 ps_, .int .i64 pp, .int .i64 pf, .int .u64 ph].toList) zSlTac3_3 (sl_new _ 82 6 #[.int .i64 po, .int .i64 pv, .int .i64 ps_, .int .i64 pp, .int .i64 pf, .int .u64 ph] 1 rfl (by decide)) zSlTac3_1 zSlTac3_4 (by decide) (by (try simp); omega) ?_; intro v11 w11 hown11 hx11 hn11; refine Hid.out ?_)
   refine Lib.hid ?_
   obtain ⟨A11, c11, rfl, hnil11, hO11⟩ := own_app (f := posC) (po, pv, ps_, pp, pf, ph) hown11 rfl rfl
   have hap2 : ∀ j, (Value.slice A11 (pre ++ [(po, pv, ps_, pp, pf, ph)]).length c11).ownBlock = some j → ¬ j = wr.heap.size := fun j hj => by rcases hn11 j hj with h9 | h9; exact hap j h9; (try simp at h9); omega
   obtain ⟨L11, hL11⟩ : ∃ l, l = pre ++ [(po, pv, ps_, pp, pf, ph)] := ⟨_, rfl⟩
   rw [← hL11] at hO11 hap2 ⊢
   replace hap := hap2
   clear hap2
   have HL11 := Lib.hid hL11
   have hNL11 : L11.length = pre.length + 1 := by rw [hL11, List.length_append]; rfl
   clear hown11 hn11 hnil11 hL11
   have hsz11 := hx11.size
   try simp at hsz11
   replace b_0 := zhb hx11 b_0 (ne := zSlTac3_0)
   replace b_1 := zhb hx11 b_1 (ne := zSlTac3_0)
   replace s_0 := zhb hx11 s_0 (ne := zSlTac3_0)
   replace s_1 := zhb hx11 s_1 (ne := zSlTac3_0)
   replace s_2 := zhb hx11 s_2 (ne := zSlTac3_0)
   replace s_3 := zhb hx11 s_3 (ne := zSlTac3_0)
   replace s_4 := zhb hx11 s_4 (ne := zSlTac3_0)
   replace s_5 := zhb hx11 s_5 (ne := zSlTac3_0)
   replace r_0f := zfb hx11 r_0 r_0f (ne := zSlTac3_0)
   replace r_1f := zfb hx11 r_1 r_1f (ne := zSlTac3_0)
   replace r_0 := zhb hx11 r_0 (ne := zSlTac3_0)
   replace r_1 := zhb hx11 r_1 (ne := zSlTac3_0)
   have z11 := hx11.size
   try simp at z11
   have rb := zr w.heap.size w11
   have rs := zr (w.heap.size + 1) w11
   have rr := zr (w.heap.size + 1 + 1) w11
   have X11 : Hid (Ext w w11) := Lib.hid (have hX := (show Ext w _ from zxt); Below.trans hX (hx11.below (Ext.size hX) (fun k hk hh => by have hh2 := own_rng HO.out _ hh; omega)))
   replace HSk := Lib.hid ((HSk.out.ext zxt).but hx11 (fun k hk => by have hh2 := own_rng HO.out _ hk; omega))
   clear HO
   have HO := Lib.hid (show OwnPos _ (w.heap.size + 3) _ _ _ from hO11)
   clear x_2 x_1 x_4 x_3 x_5 x_0 hsz11 XR hx11
   clear hap0
   clear hO11
   go_wp2_with fail
   go_roundg (gk - 1)
   case measure => have := HK.out; omega
   have hE : n2 - (gk - 1) = k + 1 := by have := HK.out; omega
   exact ⟨by have := HK.out; omega, num_eq (by have := HK.out; omega), ⟨_, _, L11, true, rfl, rfl, Lib.hid (HO.out.ext zxt), by rw [hE, HL11.out]; exact HN, by omega⟩, Lib.hid (HSk.out.ext zxt), ⟨by first | exact b_0 | (simp [go_sem, World.cell?_alloc_past, *]; done), by first | exact b_1 | (simp [go_sem, World.cell?_alloc_past, *]; done), by first | exact s_0 | (simp [go_sem, World.cell?_alloc_past, *]; done), by first | exact s_1 | (simp [go_sem, World.cell?_alloc_past, *]; done), by first | exact s_2 | (simp [go_sem, World.cell?_alloc_past, *]; done), by first | exact s_3 | (simp [go_sem, World.cell?_alloc_past, *]; done), by first | exact s_4 | (simp [go_sem, World.cell?_alloc_past, *]; done), by first | exact s_5 | (simp [go_sem, World.cell?_alloc_past, *]; done), by first | exact r_0 | (simp [go_sem, World.cell?_alloc_past, *]; done), by first | exact r_1 | (simp [go_sem, World.cell?_alloc_past, *]; done), by first | exact r_0f | (simp [go_sem, World.cell?_alloc_past, *]; done), by first | exact r_1f | (simp [go_sem, World.cell?_alloc_past, *]; done)⟩, Lib.hid zxt⟩
  have HE := Lib.hid (show ¬ kP (po, pv, ps_, pp, pf, ph) = [O, V, S, P, Q] from kP_ne (t := ph) (fun hh => hq0 hh.1))
  have hq0b : (po == O) = false := by simpa using hq0
  have HN := Lib.hid (refK_do HF.out HX.out.1 HE.out)
  clear hq0
  have hap0 := hap
  go_wp2_with (at_builtin; refine wpList_append_slB _ rfl _ _ 23 rfl (w.heap.size + 3) 82 iPos (.agg #[.int .i64 0, .int .i64 0, .int .i64 0, .int .i64 0, .int .i64 0, .int .u64 0]) 6 48 Tryz.underlying23 iPos_0 iPos_1 iPos_2 iPos_3 rfl (by decide) (.slice A7 pre.length c7) pre.length (pre.flatMap posC) (by rfl) ((HO.out.ext zxt)) _ 1 _ (#[.int .i64 po, .int .i64 pv, .int .i64 ps_, .int .i64 pp, .int .i64 pf, .int .u64 ph].toList) zSlTac3_3 (sl_new _ 82 6 #[.int .i64 po, .int .i64 pv, .int .i64 ps_, .int .i64 pp, .int .i64 pf, .int .u64 ph] 1 rfl (by decide)) zSlTac3_1 zSlTac3_4 (by decide) (by (try simp); omega) ?_; intro v11 w11 hown11 hx11 hn11; refine Hid.out ?_)
  refine Lib.hid ?_
  obtain ⟨A11, c11, rfl, hnil11, hO11⟩ := own_app (f := posC) (po, pv, ps_, pp, pf, ph) hown11 rfl rfl
  have hap2 : ∀ j, (Value.slice A11 (pre ++ [(po, pv, ps_, pp, pf, ph)]).length c11).ownBlock = some j → ¬ j = wr.heap.size := fun j hj => by rcases hn11 j hj with h9 | h9; exact hap j h9; (try simp at h9); omega
  obtain ⟨L11, hL11⟩ : ∃ l, l = pre ++ [(po, pv, ps_, pp, pf, ph)] := ⟨_, rfl⟩
  rw [← hL11] at hO11 hap2 ⊢
  replace hap := hap2
  clear hap2
  have HL11 := Lib.hid hL11
  have hNL11 : L11.length = pre.length + 1 := by rw [hL11, List.length_append]; rfl
  clear hown11 hn11 hnil11 hL11
  have hsz11 := hx11.size
  try simp at hsz11
  replace b_0 := zhb hx11 b_0 (ne := zSlTac3_0)
  replace b_1 := zhb hx11 b_1 (ne := zSlTac3_0)
  replace s_0 := zhb hx11 s_0 (ne := zSlTac3_0)
  replace s_1 := zhb hx11 s_1 (ne := zSlTac3_0)
  replace s_2 := zhb hx11 s_2 (ne := zSlTac3_0)
  replace s_3 := zhb hx11 s_3 (ne := zSlTac3_0)
  replace s_4 := zhb hx11 s_4 (ne := zSlTac3_0)
  replace s_5 := zhb hx11 s_5 (ne := zSlTac3_0)
  replace r_0f := zfb hx11 r_0 r_0f (ne := zSlTac3_0)
  replace r_1f := zfb hx11 r_1 r_1f (ne := zSlTac3_0)
  replace r_0 := zhb hx11 r_0 (ne := zSlTac3_0)
  replace r_1 := zhb hx11 r_1 (ne := zSlTac3_0)
  have z11 := hx11.size
  try simp at z11
  have rb := zr w.heap.size w11
  have rs := zr (w.heap.size + 1) w11
  have rr := zr (w.heap.size + 1 + 1) w11
  have X11 : Hid (Ext w w11) := Lib.hid (have hX := (show Ext w _ from zxt); Below.trans hX (hx11.below (Ext.size hX) (fun k hk hh => by have hh2 := own_rng HO.out _ hh; omega)))
  replace HSk := Lib.hid ((HSk.out.ext zxt).but hx11 (fun k hk => by have hh2 := own_rng HO.out _ hk; omega))
  clear HO
  have HO := Lib.hid (show OwnPos _ (w.heap.size + 3) _ _ _ from hO11)
  clear x_2 x_1 x_4 x_3 x_5 x_0 hsz11 XR hx11
  clear hap0
  clear hO11
  go_wp2_with fail
  go_roundg (gk - 1)
  case measure => have := HK.out; omega
  have hE : n2 - (gk - 1) = k + 1 := by have := HK.out; omega
  exact ⟨by have := HK.out; omega, num_eq (by have := HK.out; omega), ⟨_, _, L11, true, rfl, rfl, Lib.hid (HO.out.ext zxt), by rw [hE, HL11.out]; exact HN, by omega⟩, Lib.hid (HSk.out.ext zxt), ⟨by first | exact b_0 | (simp [go_sem, World.cell?_alloc_past, *]; done), by first | exact b_1 | (simp [go_sem, World.cell?_alloc_past, *]; done), by first | exact s_0 | (simp [go_sem, World.cell?_alloc_past, *]; done), by first | exact s_1 | (simp [go_sem, World.cell?_alloc_past, *]; done), by first | exact s_2 | (simp [go_sem, World.cell?_alloc_past, *]; done), by first | exact s_3 | (simp [go_sem, World.cell?_alloc_past, *]; done), by first | exact s_4 | (simp [go_sem, World.cell?_alloc_past, *]; done), by first | exact s_5 | (simp [go_sem, World.cell?_alloc_past, *]; done), by first | exact r_0 | (simp [go_sem, World.cell?_alloc_past, *]; done), by first | exact r_1 | (simp [go_sem, World.cell?_alloc_past, *]; done), by first | exact r_0f | (simp [go_sem, World.cell?_alloc_past, *]; done), by first | exact r_1f | (simp [go_sem, World.cell?_alloc_past, *]; done)⟩, Lib.hid zxt⟩
 by_cases hq0 : po = O
 ·by_cases hq : pv = V ∧ ps_ = S ∧ pp = P ∧ pf = Q
  ·have hq1 : G ≤ 0 := by rw [HX.out.2]; rw [show [po, pv, ps_, pp, pf] = [O, V, S, P, Q] from by simp [hq0, hq], cmpK_self]; exact Int.le_refl _
   have HE := Lib.hid (show kP (po, pv, ps_, pp, pf, ph) = [O, V, S, P, Q] from kP_eq hq0 hq)
   have hq0b : (po == O) = true := by simp [hq0]
   have hqb := four_true hq
   have HN := Lib.hid (refK_ls HF.out HX.out.1 (show cmpK [O, V, S, P, Q] (kP (po, pv, ps_, pp, pf, ph)) ≤ 0 from by rw [show cmpK [O, V, S, P, Q] (kP (po, pv, ps_, pp, pf, ph)) = G from HX.out.2.symm]; exact hq1) HE.out)
   clear hq hq0 hq1
   have hap0 := hap
   go_wp2_with (at_builtin; refine wpList_append_slB _ rfl _ _ 23 rfl (w.heap.size + 3) 82 iPos (.agg #[.int .i64 0, .int .i64 0, .int .i64 0, .int .i64 0, .int .i64 0, .int .u64 0]) 6 48 Tryz.underlying23 iPos_0 iPos_1 iPos_2 iPos_3 rfl (by decide) (.slice A7 pre.length c7) pre.length (pre.flatMap posC) (by rfl) ((HO.out.ext zxt)) _ 1 _ (#[.int .i64 O, .int .i64 V, .int .i64 S, .int .i64 P, .int .i64 Q, .int .u64 a].toList) zSlTac3_3 (sl_new _ 82 6 #[.int .i64 O, .int .i64 V, .int .i64 S, .int .i64 P, .int .i64 Q, .int .u64 a] 1 rfl (by decide)) zSlTac3_1 zSlTac3_4 (by decide) (by (try simp); omega) ?_; intro v11 w11 hown11 hx11 hn11; refine Hid.out ?_)
   refine Lib.hid ?_
   obtain ⟨A11, c11, rfl, hnil11, hO11⟩ := own_app (f := posC) (O, V, S, P, Q, a) hown11 rfl rfl
   have hap2 : ∀ j, (Value.slice A11 (pre ++ [(O, V, S, P, Q, a)]).length c11).ownBlock = some j → ¬ j = wr.heap.size := fun j hj => by rcases hn11 j hj with h9 | h9; exact hap j h9; (try simp at h9); omega
   obtain ⟨L11, hL11⟩ : ∃ l, l = pre ++ [(O, V, S, P, Q, a)] := ⟨_, rfl⟩
   rw [← hL11] at hO11 hap2 ⊢
   replace hap := hap2
   clear hap2
   have HL11 := Lib.hid hL11
   have hNL11 : L11.length = pre.length + 1 := by rw [hL11, List.length_append]; rfl
   clear hown11 hn11 hnil11 hL11
   have hsz11 := hx11.size
   try simp at hsz11
   replace b_0 := zhb hx11 b_0 (ne := zSlTac3_0)
   replace b_1 := zhb hx11 b_1 (ne := zSlTac3_0)
   replace s_0 := zhb hx11 s_0 (ne := zSlTac3_0)
   replace s_1 := zhb hx11 s_1 (ne := zSlTac3_0)
   replace s_2 := zhb hx11 s_2 (ne := zSlTac3_0)
   replace s_3 := zhb hx11 s_3 (ne := zSlTac3_0)
   replace s_4 := zhb hx11 s_4 (ne := zSlTac3_0)
   replace s_5 := zhb hx11 s_5 (ne := zSlTac3_0)
   replace r_0f := zfb hx11 r_0 r_0f (ne := zSlTac3_0)
   replace r_1f := zfb hx11 r_1 r_1f (ne := zSlTac3_0)
   replace r_0 := zhb hx11 r_0 (ne := zSlTac3_0)
   replace r_1 := zhb hx11 r_1 (ne := zSlTac3_0)
   have z11 := hx11.size
   try simp at z11
   have rb := zr w.heap.size w11
   have rs := zr (w.heap.size + 1) w11
   have rr := zr (w.heap.size + 1 + 1) w11
   have X11 : Hid (Ext w w11) := Lib.hid (have hX := (show Ext w _ from zxt); Below.trans hX (hx11.below (Ext.size hX) (fun k hk hh => by have hh2 := own_rng HO.out _ hh; omega)))
   replace HSk := Lib.hid ((HSk.out.ext zxt).but hx11 (fun k hk => by have hh2 := own_rng HO.out _ hk; omega))
   clear HO
   have HO := Lib.hid (show OwnPos _ (w.heap.size + 3) _ _ _ from hO11)
   clear x_2 x_1 x_4 x_3 x_5 x_0 hsz11 XR hx11
   clear hap0
   clear hO11
   go_wp2_with fail
   go_roundg (gk - 1)
   case measure => have := HK.out; omega
   have hE : n2 - (gk - 1) = k + 1 := by have := HK.out; omega
   exact ⟨by have := HK.out; omega, num_eq (by have := HK.out; omega), ⟨_, _, L11, true, rfl, rfl, Lib.hid (HO.out.ext zxt), by rw [hE, HL11.out]; exact HN, by omega⟩, Lib.hid (HSk.out.ext zxt), ⟨by first | exact b_0 | (simp [go_sem, World.cell?_alloc_past, *]; done), by first | exact b_1 | (simp [go_sem, World.cell?_alloc_past, *]; done), by first | exact s_0 | (simp [go_sem, World.cell?_alloc_past, *]; done), by first | exact s_1 | (simp [go_sem, World.cell?_alloc_past, *]; done), by first | exact s_2 | (simp [go_sem, World.cell?_alloc_past, *]; done), by first | exact s_3 | (simp [go_sem, World.cell?_alloc_past, *]; done), by first | exact s_4 | (simp [go_sem, World.cell?_alloc_past, *]; done), by first | exact s_5 | (simp [go_sem, World.cell?_alloc_past, *]; done), by first | exact r_0 | (simp [go_sem, World.cell?_alloc_past, *]; done), by first | exact r_1 | (simp [go_sem, World.cell?_alloc_past, *]; done), by first | exact r_0f | (simp [go_sem, World.cell?_alloc_past, *]; done), by first | exact r_1f | (simp [go_sem, World.cell?_alloc_past, *]; done)⟩, Lib.hid zxt⟩
  have HEq : ¬ kP (po, pv, ps_, pp, pf, ph) = [O, V, S, P, Q] := kP_ne (t := ph) (fun hh => hq hh.2)
  have hne : ¬ G = 0 := by rw [HX.out.2]; exact fun hh => HEq (by have h9 : [po, pv, ps_, pp, pf] = [O, V, S, P, Q] := (cmpK_zero (by rfl) hh).symm; exact h9)
  clear HEq
  rcases Bool.eq_false_or_eq_true GB with hgb | hgb <;> subst hgb
  ·have hq1 : G ≤ 0 := by have h9 := of_decide_eq_true HGB.out.symm; rw [HX.out.2]; omega
   have HE := Lib.hid (show ¬ kP (po, pv, ps_, pp, pf, ph) = [O, V, S, P, Q] from kP_ne (t := ph) (fun hh => hq hh.2))
   have hq0b : (po == O) = true := by simp [hq0]
   have hqb := four_false hq
   have HN := Lib.hid (refK_lo HF.out HX.out.1 (show cmpK [O, V, S, P, Q] (kP (po, pv, ps_, pp, pf, ph)) ≤ 0 from by rw [show cmpK [O, V, S, P, Q] (kP (po, pv, ps_, pp, pf, ph)) = G from HX.out.2.symm]; exact hq1) HE.out)
   clear hq hq0 hq1 hne
   go_wp2_with fail
   (with_reducible refine (CB.out _).mono ?_)
   rintro e w11 ⟨rfl, hx11⟩
   replace b_0 := zh hx11 b_0
   replace b_1 := zh hx11 b_1
   replace s_0 := zh hx11 s_0
   replace s_1 := zh hx11 s_1
   replace s_2 := zh hx11 s_2
   replace s_3 := zh hx11 s_3
   replace s_4 := zh hx11 s_4
   replace s_5 := zh hx11 s_5
   replace r_0f := zf hx11 r_0 r_0f
   replace r_1f := zf hx11 r_1 r_1f
   replace r_0 := zh hx11 r_0
   replace r_1 := zh hx11 r_1
   have c0_0 : w11.cell? ⟨wr.heap.size, 0, none⟩ = some (.int .i64 po) := hx11.has zcv
   have c0_1 : w11.cell? ⟨wr.heap.size, 1, none⟩ = some (.int .i64 pv) := hx11.has zcv
   have c0_2 : w11.cell? ⟨wr.heap.size, 2, none⟩ = some (.int .i64 ps_) := hx11.has zcv
   have c0_3 : w11.cell? ⟨wr.heap.size, 3, none⟩ = some (.int .i64 pp) := hx11.has zcv
   have c0_4 : w11.cell? ⟨wr.heap.size, 4, none⟩ = some (.int .i64 pf) := hx11.has zcv
   have c0_5 : w11.cell? ⟨wr.heap.size, 5, none⟩ = some (.int .u64 ph) := hx11.has zcv
   have z11 := hx11.size
   try simp at z11
   have lt_b_c0 := zl w.heap.size wr.heap.size
   have lt_s_c0 := zl (w.heap.size + 1) wr.heap.size
   have lt_r_c0 := zl (w.heap.size + 1 + 1) wr.heap.size
   have rb := zr w.heap.size w11
   have rs := zr (w.heap.size + 1) w11
   have rr := zr (w.heap.size + 1 + 1) w11
   have rc0 := zr wr.heap.size w11
   replace HO := Lib.hid (HO.out.ext (Ext.trans zxt hx11))
   replace HSk := Lib.hid (HSk.out.ext (Ext.trans zxt hx11))
   have X11 : Hid (Ext w w11) := Lib.hid (Ext.trans zxt hx11)
   clear x_2 x_1 x_4 x_3 x_5 x_0 XR hx11
   have hap0 := hap
   go_wp2_with (at_builtin; refine wpList_append_slB _ rfl _ _ 23 rfl (w.heap.size + 3) 82 iPos (.agg #[.int .i64 0, .int .i64 0, .int .i64 0, .int .i64 0, .int .i64 0, .int .u64 0]) 6 48 Tryz.underlying23 iPos_0 iPos_1 iPos_2 iPos_3 rfl (by decide) (.slice A7 pre.length c7) pre.length (pre.flatMap posC) (by rfl) ((HO.out.ext zxt)) _ 1 _ (#[.int .i64 O, .int .i64 V, .int .i64 S, .int .i64 P, .int .i64 Q, .int .u64 a].toList) zSlTac3_3 (sl_new _ 82 6 #[.int .i64 O, .int .i64 V, .int .i64 S, .int .i64 P, .int .i64 Q, .int .u64 a] 1 rfl (by decide)) zSlTac3_1 zSlTac3_4 (by decide) (by (try simp); omega) ?_; intro v12 w12 hown12 hx12 hn12; refine Hid.out ?_)
   refine Lib.hid ?_
   obtain ⟨A12, c12, rfl, hnil12, hO12⟩ := own_app (f := posC) (O, V, S, P, Q, a) hown12 rfl rfl
   have hap2 : ∀ j, (Value.slice A12 (pre ++ [(O, V, S, P, Q, a)]).length c12).ownBlock = some j → ¬ j = wr.heap.size := fun j hj => by rcases hn12 j hj with h9 | h9; exact hap j h9; (try simp at h9); omega
   obtain ⟨L12, hL12⟩ : ∃ l, l = pre ++ [(O, V, S, P, Q, a)] := ⟨_, rfl⟩
   rw [← hL12] at hO12 hap2 ⊢
   replace hap := hap2
   clear hap2
   have HL12 := Lib.hid hL12
   have hNL12 : L12.length = pre.length + 1 := by rw [hL12, List.length_append]; rfl
   clear hown12 hn12 hnil12 hL12
   have hsz12 := hx12.size
   try simp at hsz12
   replace b_0 := zhb hx12 b_0 (ne := zSlTac3_0)
   replace b_1 := zhb hx12 b_1 (ne := zSlTac3_0)
   replace s_0 := zhb hx12 s_0 (ne := zSlTac3_0)
   replace s_1 := zhb hx12 s_1 (ne := zSlTac3_0)
   replace s_2 := zhb hx12 s_2 (ne := zSlTac3_0)
   replace s_3 := zhb hx12 s_3 (ne := zSlTac3_0)
   replace s_4 := zhb hx12 s_4 (ne := zSlTac3_0)
   replace s_5 := zhb hx12 s_5 (ne := zSlTac3_0)
   replace r_0f := zfb hx12 r_0 r_0f (ne := zSlTac3_0)
   replace r_1f := zfb hx12 r_1 r_1f (ne := zSlTac3_0)
   replace r_0 := zhb hx12 r_0 (ne := zSlTac3_0)
   replace r_1 := zhb hx12 r_1 (ne := zSlTac3_0)
   replace c0_0 := zhb hx12 c0_0 (ne := zSlTac3_0)
   replace c0_1 := zhb hx12 c0_1 (ne := zSlTac3_0)
   replace c0_2 := zhb hx12 c0_2 (ne := zSlTac3_0)
   replace c0_3 := zhb hx12 c0_3 (ne := zSlTac3_0)
   replace c0_4 := zhb hx12 c0_4 (ne := zSlTac3_0)
   replace c0_5 := zhb hx12 c0_5 (ne := zSlTac3_0)
   have z12 := hx12.size
   try simp at z12
   replace rb := zr w.heap.size w12
   replace rs := zr (w.heap.size + 1) w12
   replace rr := zr (w.heap.size + 1 + 1) w12
   replace rc0 := zr wr.heap.size w12
   have X12 : Hid (Ext w w12) := Lib.hid (have hX := (show Ext w _ from zxt); Below.trans hX (hx12.below (Ext.size hX) (fun k hk hh => by have hh2 := own_rng HO.out _ hh; omega)))
   replace HSk := Lib.hid ((HSk.out.ext zxt).but hx12 (fun k hk => by have hh2 := own_rng HO.out _ hk; omega))
   clear HO
   have HO := Lib.hid (show OwnPos _ (w.heap.size + 3) _ _ _ from hO12)
   clear hsz12 X11 hx12
   clear hap0
   clear hO12
   have hap0 := hap
   go_wp2_with (at_builtin; refine wpList_append_slB _ rfl _ _ 23 rfl (w.heap.size + 3) 82 iPos (.agg #[.int .i64 0, .int .i64 0, .int .i64 0, .int .i64 0, .int .i64 0, .int .u64 0]) 6 48 Tryz.underlying23 iPos_0 iPos_1 iPos_2 iPos_3 rfl (by decide) (.slice A12 L12.length c12) L12.length (L12.flatMap posC) (by rfl) ((HO.out.ext zxt)) _ 1 _ (#[.int .i64 po, .int .i64 pv, .int .i64 ps_, .int .i64 pp, .int .i64 pf, .int .u64 ph].toList) zSlTac3_3 (sl_new _ 82 6 #[.int .i64 po, .int .i64 pv, .int .i64 ps_, .int .i64 pp, .int .i64 pf, .int .u64 ph] 1 rfl (by decide)) zSlTac3_1 zSlTac3_4 (by decide) (by (try simp); omega) ?_; intro v13 w13 hown13 hx13 hn13; refine Hid.out ?_)
   refine Lib.hid ?_
   obtain ⟨A13, c13, rfl, hnil13, hO13⟩ := own_app (f := posC) (po, pv, ps_, pp, pf, ph) hown13 rfl rfl
   have hap2 : ∀ j, (Value.slice A13 (L12 ++ [(po, pv, ps_, pp, pf, ph)]).length c13).ownBlock = some j → ¬ j = wr.heap.size := fun j hj => by rcases hn13 j hj with h9 | h9; exact hap j h9; (try simp at h9); omega
   obtain ⟨L13, hL13⟩ : ∃ l, l = L12 ++ [(po, pv, ps_, pp, pf, ph)] := ⟨_, rfl⟩
   rw [← hL13] at hO13 hap2 ⊢
   replace hap := hap2
   clear hap2
   have HL13 := Lib.hid hL13
   have hNL13 : L13.length = L12.length + 1 := by rw [hL13, List.length_append]; rfl
   clear hown13 hn13 hnil13 hL13
   have hsz13 := hx13.size
   try simp at hsz13
   replace b_0 := zhb hx13 b_0 (ne := zSlTac3_0)
   replace b_1 := zhb hx13 b_1 (ne := zSlTac3_0)
   replace s_0 := zhb hx13 s_0 (ne := zSlTac3_0)
   replace s_1 := zhb hx13 s_1 (ne := zSlTac3_0)
   replace s_2 := zhb hx13 s_2 (ne := zSlTac3_0)
   replace s_3 := zhb hx13 s_3 (ne := zSlTac3_0)
   replace s_4 := zhb hx13 s_4 (ne := zSlTac3_0)
   replace s_5 := zhb hx13 s_5 (ne := zSlTac3_0)
   replace r_0f := zfb hx13 r_0 r_0f (ne := zSlTac3_0)
   replace r_1f := zfb hx13 r_1 r_1f (ne := zSlTac3_0)
   replace r_0 := zhb hx13 r_0 (ne := zSlTac3_0)
   replace r_1 := zhb hx13 r_1 (ne := zSlTac3_0)
   have z13 := hx13.size
   try simp at z13
   replace rb := zr w.heap.size w13
   replace rs := zr (w.heap.size + 1) w13
   replace rr := zr (w.heap.size + 1 + 1) w13
   have X13 : Hid (Ext w w13) := Lib.hid (have hX := (show Ext w _ from zxt); Below.trans hX (hx13.below (Ext.size hX) (fun k hk hh => by have hh2 := own_rng HO.out _ hh; omega)))
   replace HSk := Lib.hid ((HSk.out.ext zxt).but hx13 (fun k hk => by have hh2 := own_rng HO.out _ hk; omega))
   clear HO
   have HO := Lib.hid (show OwnPos _ (w.heap.size + 3) _ _ _ from hO13)
   clear c0_1 c0_0 c0_5 c0_2 c0_3 c0_4 rc0 hsz13 X12 hx13
   clear hap0
   clear hO13
   go_wp2_with fail
   go_roundg (gk - 1)
   case measure => have := HK.out; omega
   have hE : n2 - (gk - 1) = k + 1 := by have := HK.out; omega
   exact ⟨by have := HK.out; omega, num_eq (by have := HK.out; omega), ⟨_, _, L13, true, rfl, rfl, Lib.hid (HO.out.ext zxt), by rw [hE, HL13.out, HL12.out]; exact HN, by omega⟩, Lib.hid (HSk.out.ext zxt), ⟨by first | exact b_0 | (simp [go_sem, World.cell?_alloc_past, *]; done), by first | exact b_1 | (simp [go_sem, World.cell?_alloc_past, *]; done), by first | exact s_0 | (simp [go_sem, World.cell?_alloc_past, *]; done), by first | exact s_1 | (simp [go_sem, World.cell?_alloc_past, *]; done), by first | exact s_2 | (simp [go_sem, World.cell?_alloc_past, *]; done), by first | exact s_3 | (simp [go_sem, World.cell?_alloc_past, *]; done), by first | exact s_4 | (simp [go_sem, World.cell?_alloc_past, *]; done), by first | exact s_5 | (simp [go_sem, World.cell?_alloc_past, *]; done), by first | exact r_0 | (simp [go_sem, World.cell?_alloc_past, *]; done), by first | exact r_1 | (simp [go_sem, World.cell?_alloc_past, *]; done), by first | exact r_0f | (simp [go_sem, World.cell?_alloc_past, *]; done), by first | exact r_1f | (simp [go_sem, World.cell?_alloc_past, *]; done)⟩, Lib.hid zxt⟩
  have hq1 : ¬ G ≤ 0 := by have h9 := of_decide_eq_false HGB.out.symm; have h8 := HX.out.2; omega
  have HE := Lib.hid (show ¬ kP (po, pv, ps_, pp, pf, ph) = [O, V, S, P, Q] from kP_ne (t := ph) (fun hh => hq hh.2))
  have hq0b : (po == O) = true := by simp [hq0]
  have hqb := four_false hq
  have HN := Lib.hid (refK_go HF.out HX.out.1 (show ¬ cmpK [O, V, S, P, Q] (kP (po, pv, ps_, pp, pf, ph)) ≤ 0 from by rw [show cmpK [O, V, S, P, Q] (kP (po, pv, ps_, pp, pf, ph)) = G from HX.out.2.symm]; exact hq1) HE.out)
  clear hq hq0 hq1 hne
  go_wp2_with fail
  (with_reducible refine (CB.out _).mono ?_)
  rintro e w11 ⟨rfl, hx11⟩
  replace b_0 := zh hx11 b_0
  replace b_1 := zh hx11 b_1
  replace s_0 := zh hx11 s_0
  replace s_1 := zh hx11 s_1
  replace s_2 := zh hx11 s_2
  replace s_3 := zh hx11 s_3
  replace s_4 := zh hx11 s_4
  replace s_5 := zh hx11 s_5
  replace r_0f := zf hx11 r_0 r_0f
  replace r_1f := zf hx11 r_1 r_1f
  replace r_0 := zh hx11 r_0
  replace r_1 := zh hx11 r_1
  have c0_0 : w11.cell? ⟨wr.heap.size, 0, none⟩ = some (.int .i64 po) := hx11.has zcv
  have c0_1 : w11.cell? ⟨wr.heap.size, 1, none⟩ = some (.int .i64 pv) := hx11.has zcv
  have c0_2 : w11.cell? ⟨wr.heap.size, 2, none⟩ = some (.int .i64 ps_) := hx11.has zcv
  have c0_3 : w11.cell? ⟨wr.heap.size, 3, none⟩ = some (.int .i64 pp) := hx11.has zcv
  have c0_4 : w11.cell? ⟨wr.heap.size, 4, none⟩ = some (.int .i64 pf) := hx11.has zcv
  have c0_5 : w11.cell? ⟨wr.heap.size, 5, none⟩ = some (.int .u64 ph) := hx11.has zcv
  have z11 := hx11.size
  try simp at z11
  have lt_b_c0 := zl w.heap.size wr.heap.size
  have lt_s_c0 := zl (w.heap.size + 1) wr.heap.size
  have lt_r_c0 := zl (w.heap.size + 1 + 1) wr.heap.size
  have rb := zr w.heap.size w11
  have rs := zr (w.heap.size + 1) w11
  have rr := zr (w.heap.size + 1 + 1) w11
  have rc0 := zr wr.heap.size w11
  replace HO := Lib.hid (HO.out.ext (Ext.trans zxt hx11))
  replace HSk := Lib.hid (HSk.out.ext (Ext.trans zxt hx11))
  have X11 : Hid (Ext w w11) := Lib.hid (Ext.trans zxt hx11)
  clear x_2 x_1 x_4 x_3 x_5 x_0 XR hx11
  have hap0 := hap
  go_wp2_with (at_builtin; refine wpList_append_slB _ rfl _ _ 23 rfl (w.heap.size + 3) 82 iPos (.agg #[.int .i64 0, .int .i64 0, .int .i64 0, .int .i64 0, .int .i64 0, .int .u64 0]) 6 48 Tryz.underlying23 iPos_0 iPos_1 iPos_2 iPos_3 rfl (by decide) (.slice A7 pre.length c7) pre.length (pre.flatMap posC) (by rfl) ((HO.out.ext zxt)) _ 1 _ (#[.int .i64 po, .int .i64 pv, .int .i64 ps_, .int .i64 pp, .int .i64 pf, .int .u64 ph].toList) zSlTac3_3 (sl_new _ 82 6 #[.int .i64 po, .int .i64 pv, .int .i64 ps_, .int .i64 pp, .int .i64 pf, .int .u64 ph] 1 rfl (by decide)) zSlTac3_1 zSlTac3_4 (by decide) (by (try simp); omega) ?_; intro v12 w12 hown12 hx12 hn12; refine Hid.out ?_)
  refine Lib.hid ?_
  obtain ⟨A12, c12, rfl, hnil12, hO12⟩ := own_app (f := posC) (po, pv, ps_, pp, pf, ph) hown12 rfl rfl
  have hap2 : ∀ j, (Value.slice A12 (pre ++ [(po, pv, ps_, pp, pf, ph)]).length c12).ownBlock = some j → ¬ j = wr.heap.size := fun j hj => by rcases hn12 j hj with h9 | h9; exact hap j h9; (try simp at h9); omega
  obtain ⟨L12, hL12⟩ : ∃ l, l = pre ++ [(po, pv, ps_, pp, pf, ph)] := ⟨_, rfl⟩
  rw [← hL12] at hO12 hap2 ⊢
  replace hap := hap2
  clear hap2
  have HL12 := Lib.hid hL12
  have hNL12 : L12.length = pre.length + 1 := by rw [hL12, List.length_append]; rfl
  clear hown12 hn12 hnil12 hL12
  have hsz12 := hx12.size
  try simp at hsz12
  replace b_0 := zhb hx12 b_0 (ne := zSlTac3_0)
  replace b_1 := zhb hx12 b_1 (ne := zSlTac3_0)
  replace s_0 := zhb hx12 s_0 (ne := zSlTac3_0)
  replace s_1 := zhb hx12 s_1 (ne := zSlTac3_0)
  replace s_2 := zhb hx12 s_2 (ne := zSlTac3_0)
  replace s_3 := zhb hx12 s_3 (ne := zSlTac3_0)
  replace s_4 := zhb hx12 s_4 (ne := zSlTac3_0)
  replace s_5 := zhb hx12 s_5 (ne := zSlTac3_0)
  replace r_0f := zfb hx12 r_0 r_0f (ne := zSlTac3_0)
  replace r_1f := zfb hx12 r_1 r_1f (ne := zSlTac3_0)
  replace r_0 := zhb hx12 r_0 (ne := zSlTac3_0)
  replace r_1 := zhb hx12 r_1 (ne := zSlTac3_0)
  have z12 := hx12.size
  try simp at z12
  replace rb := zr w.heap.size w12
  replace rs := zr (w.heap.size + 1) w12
  replace rr := zr (w.heap.size + 1 + 1) w12
  have X12 : Hid (Ext w w12) := Lib.hid (have hX := (show Ext w _ from zxt); Below.trans hX (hx12.below (Ext.size hX) (fun k hk hh => by have hh2 := own_rng HO.out _ hh; omega)))
  replace HSk := Lib.hid ((HSk.out.ext zxt).but hx12 (fun k hk => by have hh2 := own_rng HO.out _ hk; omega))
  clear HO
  have HO := Lib.hid (show OwnPos _ (w.heap.size + 3) _ _ _ from hO12)
  clear c0_1 c0_0 c0_5 c0_2 c0_3 c0_4 rc0 hsz12 X11 hx12
  clear hap0
  clear hO12
  go_wp2_with fail
  go_roundg (gk - 1)
  case measure => have := HK.out; omega
  have hE : n2 - (gk - 1) = k + 1 := by have := HK.out; omega
  exact ⟨by have := HK.out; omega, num_eq (by have := HK.out; omega), ⟨_, _, L12, false, rfl, rfl, Lib.hid (HO.out.ext zxt), by rw [hE, HL12.out]; exact HN, by omega⟩, Lib.hid (HSk.out.ext zxt), ⟨by first | exact b_0 | (simp [go_sem, World.cell?_alloc_past, *]; done), by first | exact b_1 | (simp [go_sem, World.cell?_alloc_past, *]; done), by first | exact s_0 | (simp [go_sem, World.cell?_alloc_past, *]; done), by first | exact s_1 | (simp [go_sem, World.cell?_alloc_past, *]; done), by first | exact s_2 | (simp [go_sem, World.cell?_alloc_past, *]; done), by first | exact s_3 | (simp [go_sem, World.cell?_alloc_past, *]; done), by first | exact s_4 | (simp [go_sem, World.cell?_alloc_past, *]; done), by first | exact s_5 | (simp [go_sem, World.cell?_alloc_past, *]; done), by first | exact r_0 | (simp [go_sem, World.cell?_alloc_past, *]; done), by first | exact r_1 | (simp [go_sem, World.cell?_alloc_past, *]; done), by first | exact r_0f | (simp [go_sem, World.cell?_alloc_past, *]; done), by first | exact r_1f | (simp [go_sem, World.cell?_alloc_past, *]; done)⟩, Lib.hid zxt⟩
 have HEq : ¬ kP (po, pv, ps_, pp, pf, ph) = [O, V, S, P, Q] := kP_ne (t := ph) (fun hh => hq0 hh.1)
 have hne : ¬ G = 0 := by rw [HX.out.2]; exact fun hh => HEq (by have h9 : [po, pv, ps_, pp, pf] = [O, V, S, P, Q] := (cmpK_zero (by rfl) hh).symm; exact h9)
 clear HEq
 rcases Bool.eq_false_or_eq_true GB with hgb | hgb <;> subst hgb
 ·have hq1 : G ≤ 0 := by have h9 := of_decide_eq_true HGB.out.symm; rw [HX.out.2]; omega
  have HE := Lib.hid (show ¬ kP (po, pv, ps_, pp, pf, ph) = [O, V, S, P, Q] from kP_ne (t := ph) (fun hh => hq0 hh.1))
  have hq0b : (po == O) = false := by simpa using hq0
  have HN := Lib.hid (refK_lo HF.out HX.out.1 (show cmpK [O, V, S, P, Q] (kP (po, pv, ps_, pp, pf, ph)) ≤ 0 from by rw [show cmpK [O, V, S, P, Q] (kP (po, pv, ps_, pp, pf, ph)) = G from HX.out.2.symm]; exact hq1) HE.out)
  clear hq0 hq1 hne
  go_wp2_with fail
  (with_reducible refine (CB.out _).mono ?_)
  rintro e w11 ⟨rfl, hx11⟩
  replace b_0 := zh hx11 b_0
  replace b_1 := zh hx11 b_1
  replace s_0 := zh hx11 s_0
  replace s_1 := zh hx11 s_1
  replace s_2 := zh hx11 s_2
  replace s_3 := zh hx11 s_3
  replace s_4 := zh hx11 s_4
  replace s_5 := zh hx11 s_5
  replace r_0f := zf hx11 r_0 r_0f
  replace r_1f := zf hx11 r_1 r_1f
  replace r_0 := zh hx11 r_0
  replace r_1 := zh hx11 r_1
  have c0_0 : w11.cell? ⟨wr.heap.size, 0, none⟩ = some (.int .i64 po) := hx11.has zcv
  have c0_1 : w11.cell? ⟨wr.heap.size, 1, none⟩ = some (.int .i64 pv) := hx11.has zcv
  have c0_2 : w11.cell? ⟨wr.heap.size, 2, none⟩ = some (.int .i64 ps_) := hx11.has zcv
  have c0_3 : w11.cell? ⟨wr.heap.size, 3, none⟩ = some (.int .i64 pp) := hx11.has zcv
  have c0_4 : w11.cell? ⟨wr.heap.size, 4, none⟩ = some (.int .i64 pf) := hx11.has zcv
  have c0_5 : w11.cell? ⟨wr.heap.size, 5, none⟩ = some (.int .u64 ph) := hx11.has zcv
  have z11 := hx11.size
  try simp at z11
  have lt_b_c0 := zl w.heap.size wr.heap.size
  have lt_s_c0 := zl (w.heap.size + 1) wr.heap.size
  have lt_r_c0 := zl (w.heap.size + 1 + 1) wr.heap.size
  have rb := zr w.heap.size w11
  have rs := zr (w.heap.size + 1) w11
  have rr := zr (w.heap.size + 1 + 1) w11
  have rc0 := zr wr.heap.size w11
  replace HO := Lib.hid (HO.out.ext (Ext.trans zxt hx11))
  replace HSk := Lib.hid (HSk.out.ext (Ext.trans zxt hx11))
  have X11 : Hid (Ext w w11) := Lib.hid (Ext.trans zxt hx11)
  clear x_2 x_1 x_4 x_3 x_5 x_0 XR hx11
  have hap0 := hap
  go_wp2_with (at_builtin; refine wpList_append_slB _ rfl _ _ 23 rfl (w.heap.size + 3) 82 iPos (.agg #[.int .i64 0, .int .i64 0, .int .i64 0, .int .i64 0, .int .i64 0, .int .u64 0]) 6 48 Tryz.underlying23 iPos_0 iPos_1 iPos_2 iPos_3 rfl (by decide) (.slice A7 pre.length c7) pre.length (pre.flatMap posC) (by rfl) ((HO.out.ext zxt)) _ 1 _ (#[.int .i64 O, .int .i64 V, .int .i64 S, .int .i64 P, .int .i64 Q, .int .u64 a].toList) zSlTac3_3 (sl_new _ 82 6 #[.int .i64 O, .int .i64 V, .int .i64 S, .int .i64 P, .int .i64 Q, .int .u64 a] 1 rfl (by decide)) zSlTac3_1 zSlTac3_4 (by decide) (by (try simp); omega) ?_; intro v12 w12 hown12 hx12 hn12; refine Hid.out ?_)
  refine Lib.hid ?_
  obtain ⟨A12, c12, rfl, hnil12, hO12⟩ := own_app (f := posC) (O, V, S, P, Q, a) hown12 rfl rfl
  have hap2 : ∀ j, (Value.slice A12 (pre ++ [(O, V, S, P, Q, a)]).length c12).ownBlock = some j → ¬ j = wr.heap.size := fun j hj => by rcases hn12 j hj with h9 | h9; exact hap j h9; (try simp at h9); omega
  obtain ⟨L12, hL12⟩ : ∃ l, l = pre ++ [(O, V, S, P, Q, a)] := ⟨_, rfl⟩
  rw [← hL12] at hO12 hap2 ⊢
  replace hap := hap2
  clear hap2
  have HL12 := Lib.hid hL12
  have hNL12 : L12.length = pre.length + 1 := by rw [hL12, List.length_append]; rfl
  clear hown12 hn12 hnil12 hL12
  have hsz12 := hx12.size
  try simp at hsz12
  replace b_0 := zhb hx12 b_0 (ne := zSlTac3_0)
  replace b_1 := zhb hx12 b_1 (ne := zSlTac3_0)
  replace s_0 := zhb hx12 s_0 (ne := zSlTac3_0)
  replace s_1 := zhb hx12 s_1 (ne := zSlTac3_0)
  replace s_2 := zhb hx12 s_2 (ne := zSlTac3_0)
  replace s_3 := zhb hx12 s_3 (ne := zSlTac3_0)
  replace s_4 := zhb hx12 s_4 (ne := zSlTac3_0)
  replace s_5 := zhb hx12 s_5 (ne := zSlTac3_0)
  replace r_0f := zfb hx12 r_0 r_0f (ne := zSlTac3_0)
  replace r_1f := zfb hx12 r_1 r_1f (ne := zSlTac3_0)
  replace r_0 := zhb hx12 r_0 (ne := zSlTac3_0)
  replace r_1 := zhb hx12 r_1 (ne := zSlTac3_0)
  replace c0_0 := zhb hx12 c0_0 (ne := zSlTac3_0)
  replace c0_1 := zhb hx12 c0_1 (ne := zSlTac3_0)
  replace c0_2 := zhb hx12 c0_2 (ne := zSlTac3_0)
  replace c0_3 := zhb hx12 c0_3 (ne := zSlTac3_0)
  replace c0_4 := zhb hx12 c0_4 (ne := zSlTac3_0)
  replace c0_5 := zhb hx12 c0_5 (ne := zSlTac3_0)
  have z12 := hx12.size
  try simp at z12
  replace rb := zr w.heap.size w12
  replace rs := zr (w.heap.size + 1) w12
  replace rr := zr (w.heap.size + 1 + 1) w12
  replace rc0 := zr wr.heap.size w12
  have X12 : Hid (Ext w w12) := Lib.hid (have hX := (show Ext w _ from zxt); Below.trans hX (hx12.below (Ext.size hX) (fun k hk hh => by have hh2 := own_rng HO.out _ hh; omega)))
  replace HSk := Lib.hid ((HSk.out.ext zxt).but hx12 (fun k hk => by have hh2 := own_rng HO.out _ hk; omega))
  clear HO
  have HO := Lib.hid (show OwnPos _ (w.heap.size + 3) _ _ _ from hO12)
  clear hsz12 X11 hx12
  clear hap0
  clear hO12
  have hap0 := hap
  go_wp2_with (at_builtin; refine wpList_append_slB _ rfl _ _ 23 rfl (w.heap.size + 3) 82 iPos (.agg #[.int .i64 0, .int .i64 0, .int .i64 0, .int .i64 0, .int .i64 0, .int .u64 0]) 6 48 Tryz.underlying23 iPos_0 iPos_1 iPos_2 iPos_3 rfl (by decide) (.slice A12 L12.length c12) L12.length (L12.flatMap posC) (by rfl) ((HO.out.ext zxt)) _ 1 _ (#[.int .i64 po, .int .i64 pv, .int .i64 ps_, .int .i64 pp, .int .i64 pf, .int .u64 ph].toList) zSlTac3_3 (sl_new _ 82 6 #[.int .i64 po, .int .i64 pv, .int .i64 ps_, .int .i64 pp, .int .i64 pf, .int .u64 ph] 1 rfl (by decide)) zSlTac3_1 zSlTac3_4 (by decide) (by (try simp); omega) ?_; intro v13 w13 hown13 hx13 hn13; refine Hid.out ?_)
  refine Lib.hid ?_
  obtain ⟨A13, c13, rfl, hnil13, hO13⟩ := own_app (f := posC) (po, pv, ps_, pp, pf, ph) hown13 rfl rfl
  have hap2 : ∀ j, (Value.slice A13 (L12 ++ [(po, pv, ps_, pp, pf, ph)]).length c13).ownBlock = some j → ¬ j = wr.heap.size := fun j hj => by rcases hn13 j hj with h9 | h9; exact hap j h9; (try simp at h9); omega
  obtain ⟨L13, hL13⟩ : ∃ l, l = L12 ++ [(po, pv, ps_, pp, pf, ph)] := ⟨_, rfl⟩
  rw [← hL13] at hO13 hap2 ⊢
  replace hap := hap2
  clear hap2
  have HL13 := Lib.hid hL13
  have hNL13 : L13.length = L12.length + 1 := by rw [hL13, List.length_append]; rfl
  clear hown13 hn13 hnil13 hL13
  have hsz13 := hx13.size
  try simp at hsz13
  replace b_0 := zhb hx13 b_0 (ne := zSlTac3_0)
  replace b_1 := zhb hx13 b_1 (ne := zSlTac3_0)
  replace s_0 := zhb hx13 s_0 (ne := zSlTac3_0)
  replace s_1 := zhb hx13 s_1 (ne := zSlTac3_0)
  replace s_2 := zhb hx13 s_2 (ne := zSlTac3_0)
  replace s_3 := zhb hx13 s_3 (ne := zSlTac3_0)
  replace s_4 := zhb hx13 s_4 (ne := zSlTac3_0)
  replace s_5 := zhb hx13 s_5 (ne := zSlTac3_0)
  replace r_0f := zfb hx13 r_0 r_0f (ne := zSlTac3_0)
  replace r_1f := zfb hx13 r_1 r_1f (ne := zSlTac3_0)
  replace r_0 := zhb hx13 r_0 (ne := zSlTac3_0)
  replace r_1 := zhb hx13 r_1 (ne := zSlTac3_0)
  have z13 := hx13.size
  try simp at z13
  replace rb := zr w.heap.size w13
  replace rs := zr (w.heap.size + 1) w13
  replace rr := zr (w.heap.size + 1 + 1) w13
  have X13 : Hid (Ext w w13) := Lib.hid (have hX := (show Ext w _ from zxt); Below.trans hX (hx13.below (Ext.size hX) (fun k hk hh => by have hh2 := own_rng HO.out _ hh; omega)))
  replace HSk := Lib.hid ((HSk.out.ext zxt).but hx13 (fun k hk => by have hh2 := own_rng HO.out _ hk; omega))
  clear HO
  have HO := Lib.hid (show OwnPos _ (w.heap.size + 3) _ _ _ from hO13)
  clear c0_1 c0_0 c0_5 c0_2 c0_3 c0_4 rc0 hsz13 X12 hx13
  clear hap0
  clear hO13
  go_wp2_with fail
  go_roundg (gk - 1)
  case measure => have := HK.out; omega
  have hE : n2 - (gk - 1) = k + 1 := by have := HK.out; omega
  exact ⟨by have := HK.out; omega, num_eq (by have := HK.out; omega), ⟨_, _, L13, true, rfl, rfl, Lib.hid (HO.out.ext zxt), by rw [hE, HL13.out, HL12.out]; exact HN, by omega⟩, Lib.hid (HSk.out.ext zxt), ⟨by first | exact b_0 | (simp [go_sem, World.cell?_alloc_past, *]; done), by first | exact b_1 | (simp [go_sem, World.cell?_alloc_past, *]; done), by first | exact s_0 | (simp [go_sem, World.cell?_alloc_past, *]; done), by first | exact s_1 | (simp [go_sem, World.cell?_alloc_past, *]; done), by first | exact s_2 | (simp [go_sem, World.cell?_alloc_past, *]; done), by first | exact s_3 | (simp [go_sem, World.cell?_alloc_past, *]; done), by first | exact s_4 | (simp [go_sem, World.cell?_alloc_past, *]; done), by first | exact s_5 | (simp [go_sem, World.cell?_alloc_past, *]; done), by first | exact r_0 | (simp [go_sem, World.cell?_alloc_past, *]; done), by first | exact r_1 | (simp [go_sem, World.cell?_alloc_past, *]; done), by first | exact r_0f | (simp [go_sem, World.cell?_alloc_past, *]; done), by first | exact r_1f | (simp [go_sem, World.cell?_alloc_past, *]; done)⟩, Lib.hid zxt⟩
 have hq1 : ¬ G ≤ 0 := by have h9 := of_decide_eq_false HGB.out.symm; have h8 := HX.out.2; omega
 have HE := Lib.hid (show ¬ kP (po, pv, ps_, pp, pf, ph) = [O, V, S, P, Q] from kP_ne (t := ph) (fun hh => hq0 hh.1))
 have hq0b : (po == O) = false := by simpa using hq0
 have HN := Lib.hid (refK_go HF.out HX.out.1 (show ¬ cmpK [O, V, S, P, Q] (kP (po, pv, ps_, pp, pf, ph)) ≤ 0 from by rw [show cmpK [O, V, S, P, Q] (kP (po, pv, ps_, pp, pf, ph)) = G from HX.out.2.symm]; exact hq1) HE.out)
 clear hq0 hq1 hne
 go_wp2_with fail
 (with_reducible refine (CB.out _).mono ?_)
 rintro e w11 ⟨rfl, hx11⟩
 replace b_0 := zh hx11 b_0
 replace b_1 := zh hx11 b_1
 replace s_0 := zh hx11 s_0
 replace s_1 := zh hx11 s_1
 replace s_2 := zh hx11 s_2
 replace s_3 := zh hx11 s_3
 replace s_4 := zh hx11 s_4
 replace s_5 := zh hx11 s_5
 replace r_0f := zf hx11 r_0 r_0f
 replace r_1f := zf hx11 r_1 r_1f
 replace r_0 := zh hx11 r_0
 replace r_1 := zh hx11 r_1
 have c0_0 : w11.cell? ⟨wr.heap.size, 0, none⟩ = some (.int .i64 po) := hx11.has zcv
 have c0_1 : w11.cell? ⟨wr.heap.size, 1, none⟩ = some (.int .i64 pv) := hx11.has zcv
 have c0_2 : w11.cell? ⟨wr.heap.size, 2, none⟩ = some (.int .i64 ps_) := hx11.has zcv
 have c0_3 : w11.cell? ⟨wr.heap.size, 3, none⟩ = some (.int .i64 pp) := hx11.has zcv
 have c0_4 : w11.cell? ⟨wr.heap.size, 4, none⟩ = some (.int .i64 pf) := hx11.has zcv
 have c0_5 : w11.cell? ⟨wr.heap.size, 5, none⟩ = some (.int .u64 ph) := hx11.has zcv
 have z11 := hx11.size
 try simp at z11
 have lt_b_c0 := zl w.heap.size wr.heap.size
 have lt_s_c0 := zl (w.heap.size + 1) wr.heap.size
 have lt_r_c0 := zl (w.heap.size + 1 + 1) wr.heap.size
 have rb := zr w.heap.size w11
 have rs := zr (w.heap.size + 1) w11
 have rr := zr (w.heap.size + 1 + 1) w11
 have rc0 := zr wr.heap.size w11
 replace HO := Lib.hid (HO.out.ext (Ext.trans zxt hx11))
 replace HSk := Lib.hid (HSk.out.ext (Ext.trans zxt hx11))
 have X11 : Hid (Ext w w11) := Lib.hid (Ext.trans zxt hx11)
 clear x_2 x_1 x_4 x_3 x_5 x_0 XR hx11
 have hap0 := hap
 go_wp2_with (at_builtin; refine wpList_append_slB _ rfl _ _ 23 rfl (w.heap.size + 3) 82 iPos (.agg #[.int .i64 0, .int .i64 0, .int .i64 0, .int .i64 0, .int .i64 0, .int .u64 0]) 6 48 Tryz.underlying23 iPos_0 iPos_1 iPos_2 iPos_3 rfl (by decide) (.slice A7 pre.length c7) pre.length (pre.flatMap posC) (by rfl) ((HO.out.ext zxt)) _ 1 _ (#[.int .i64 po, .int .i64 pv, .int .i64 ps_, .int .i64 pp, .int .i64 pf, .int .u64 ph].toList) zSlTac3_3 (sl_new _ 82 6 #[.int .i64 po, .int .i64 pv, .int .i64 ps_, .int .i64 pp, .int .i64 pf, .int .u64 ph] 1 rfl (by decide)) zSlTac3_1 zSlTac3_4 (by decide) (by (try simp); omega) ?_; intro v12 w12 hown12 hx12 hn12; refine Hid.out ?_)
 refine Lib.hid ?_
 obtain ⟨A12, c12, rfl, hnil12, hO12⟩ := own_app (f := posC) (po, pv, ps_, pp, pf, ph) hown12 rfl rfl
 have hap2 : ∀ j, (Value.slice A12 (pre ++ [(po, pv, ps_, pp, pf, ph)]).length c12).ownBlock = some j → ¬ j = wr.heap.size := fun j hj => by rcases hn12 j hj with h9 | h9; exact hap j h9; (try simp at h9); omega
 obtain ⟨L12, hL12⟩ : ∃ l, l = pre ++ [(po, pv, ps_, pp, pf, ph)] := ⟨_, rfl⟩
 rw [← hL12] at hO12 hap2 ⊢
 replace hap := hap2
 clear hap2
 have HL12 := Lib.hid hL12
 have hNL12 : L12.length = pre.length + 1 := by rw [hL12, List.length_append]; rfl
 clear hown12 hn12 hnil12 hL12
 have hsz12 := hx12.size
 try simp at hsz12
 replace b_0 := zhb hx12 b_0 (ne := zSlTac3_0)
 replace b_1 := zhb hx12 b_1 (ne := zSlTac3_0)
 replace s_0 := zhb hx12 s_0 (ne := zSlTac3_0)
 replace s_1 := zhb hx12 s_1 (ne := zSlTac3_0)
 replace s_2 := zhb hx12 s_2 (ne := zSlTac3_0)
 replace s_3 := zhb hx12 s_3 (ne := zSlTac3_0)
 replace s_4 := zhb hx12 s_4 (ne := zSlTac3_0)
 replace s_5 := zhb hx12 s_5 (ne := zSlTac3_0)
 replace r_0f := zfb hx12 r_0 r_0f (ne := zSlTac3_0)
 replace r_1f := zfb hx12 r_1 r_1f (ne := zSlTac3_0)
 replace r_0 := zhb hx12 r_0 (ne := zSlTac3_0)
 replace r_1 := zhb hx12 r_1 (ne := zSlTac3_0)
 have z12 := hx12.size
 try simp at z12
 replace rb := zr w.heap.size w12
 replace rs := zr (w.heap.size + 1) w12
 replace rr := zr (w.heap.size + 1 + 1) w12
 have X12 : Hid (Ext w w12) := Lib.hid (have hX := (show Ext w _ from zxt); Below.trans hX (hx12.below (Ext.size hX) (fun k hk hh => by have hh2 := own_rng HO.out _ hh; omega)))
 replace HSk := Lib.hid ((HSk.out.ext zxt).but hx12 (fun k hk => by have hh2 := own_rng HO.out _ hk; omega))
 clear HO
 have HO := Lib.hid (show OwnPos _ (w.heap.size + 3) _ _ _ from hO12)
 clear c0_1 c0_0 c0_5 c0_2 c0_3 c0_4 rc0 hsz12 X11 hx12
 clear hap0
 clear hO12
 go_wp2_with fail
 go_roundg (gk - 1)
 case measure => have := HK.out; omega
 have hE : n2 - (gk - 1) = k + 1 := by have := HK.out; omega
 exact ⟨by have := HK.out; omega, num_eq (by have := HK.out; omega), ⟨_, _, L12, false, rfl, rfl, Lib.hid (HO.out.ext zxt), by rw [hE, HL12.out]; exact HN, by omega⟩, Lib.hid (HSk.out.ext zxt), ⟨by first | exact b_0 | (simp [go_sem, World.cell?_alloc_past, *]; done), by first | exact b_1 | (simp [go_sem, World.cell?_alloc_past, *]; done), by first | exact s_0 | (simp [go_sem, World.cell?_alloc_past, *]; done), by first | exact s_1 | (simp [go_sem, World.cell?_alloc_past, *]; done), by first | exact s_2 | (simp [go_sem, World.cell?_alloc_past, *]; done), by first | exact s_3 | (simp [go_sem, World.cell?_alloc_past, *]; done), by first | exact s_4 | (simp [go_sem, World.cell?_alloc_past, *]; done), by first | exact s_5 | (simp [go_sem, World.cell?_alloc_past, *]; done), by first | exact r_0 | (simp [go_sem, World.cell?_alloc_past, *]; done), by first | exact r_1 | (simp [go_sem, World.cell?_alloc_past, *]; done), by first | exact r_0f | (simp [go_sem, World.cell?_alloc_past, *]; done), by first | exact r_1f | (simp [go_sem, World.cell?_alloc_past, *]; done)⟩, Lib.hid zxt⟩
end
end Go.Proofs.YtkinchgjidpjnaaGreat
