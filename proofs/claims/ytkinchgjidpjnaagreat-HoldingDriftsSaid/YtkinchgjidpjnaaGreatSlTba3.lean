/- Tba, part 3 of 5: Hd17, ShareM, Hd18, Hd19, Hd20, Cur, CodecM, RefR, RefW, RefN, Low, WF, Cod, RdK, ListLoss, AppO, Hd21, Hd22. Conditions stand in each lemma. -/
import Derived.Test.YtkinchgjidpjnaaGreatSlTba2
set_option linter.unusedVariables false
set_option linter.unusedSimpArgs false
set_option maxRecDepth 100000
set_option maxHeartbeats 64000000
namespace Go.Proofs.YtkinchgjidpjnaaGreat
section
open Go.RowKit Go.ChangeShapes Go.WideShapes Go.Deep Go.Joins
theorem zSlTba3_0 {P : Prop} (h : P := by simp [results, Tryz.results67, go_sem, World.cell?_alloc_past, *]; try rfl) : P := h
theorem zSlTba3_1 {P : Prop} (h : P := by repeat (first | with_reducible exact X9.out | with_reducible refine Ext.drew ?_ | with_reducible refine Ext.setCell ?_ (by first | omega | (simp; done) | (simp; omega)) _)) : P := h
theorem getK_take_none {l : List I6} {q : List Int} {k : Nat} {x : I6} (h : getK kC (l.take k) q = none) (hx : l[k]? = some x) (hn : kC x ≠ q) : getK kC (l.take (k + 1)) q = none := by
 unfold getK at h ⊢
 rw [List.take_add_one, hx, List.find?_append, h]
 simp [hn]
theorem getK_take_some {l : List I6} {q : List Int} {k : Nat} {x : I6} (h : getK kC (l.take k) q = none) (hx : l[k]? = some x) (he : kC x = q) : getK kC l q = some x := by
 have e : l = l.take k ++ x :: l.drop (k + 1) := by rw [← drop_at hx, List.take_append_drop]
 unfold getK at h ⊢
 rw [e, List.find?_append, h]
 simp [he]
theorem kC_eq {a b c d t s V S P Q : Int} (h : a = V ∧ b = S ∧ c = P ∧ d = Q) : kC (a, b, c, d, t, s) = [V, S, P, Q] := by simp [kC, h]
theorem kC_ne {a b c d t s V S P Q : Int} (h : ¬ (a = V ∧ b = S ∧ c = P ∧ d = Q)) : kC (a, b, c, d, t, s) ≠ [V, S, P, Q] := by simp [kC]; intro h1 h2 h3 h4; exact h ⟨h1, h2, h3, h4⟩
def allT (cl ps : List I6) : Int := if chkH cl ps = 0 then totC cl else 0
theorem chkH_tot {cl ps : List I6} (h : chkH cl ps = 0) : cl.length ≤ 1024 ∧ clsV cl = 0 ∧ totC cl ≤ 4611686018427387904 := by
 have hc : clsV cl = 0 := by
  unfold chkH at h
  split at h
  ·omega
  ·omega
 have hc2 := hc
 unfold clsV at hc
 split at hc
 ·omega
 ·split at hc
  ·omega
  ·split at hc
   ·exact ⟨by omega, hc2, by assumption⟩
   ·omega
theorem hFind_any (n c n2 c2 : Nat) (A A2 : Option Addr) (cl : List I6) (V S P Q : Int) (w : World) (h : Sl w 6 A n c (cl.flatMap clsC)) :
  Calls Tryz.prog 32 #[.agg #[.slice A n c, .slice A2 n2 c2], .agg #[.int .i64 V, .int .i64 S, .int .i64 P, .int .i64 Q]] w fun r w' => r = .returned (.tuple #[.agg #[.int .u64 (fndT cl [V, S, P, Q]), .int .u64 (fndS cl [V, S, P, Q])], .bool (getK kC cl [V, S, P, Q]).isSome]) ∧ Ext w w' := by
 have hll := h.rlen clsC_len (by decide)
 have hsm := h.small
 have HS := Lib.hid h
 have HLL := Lib.hid hll
 have pq1 := stm_eq
 have pq2 := stm_eqg
 obtain ⟨R, hR⟩ : ∃ R, R = getK kC cl [V, S, P, Q] := ⟨_, rfl⟩
 obtain ⟨T, hT⟩ : ∃ T, T = fndT cl [V, S, P, Q] := ⟨_, rfl⟩
 obtain ⟨U, hU⟩ : ∃ U, U = fndS cl [V, S, P, Q] := ⟨_, rfl⟩
 obtain ⟨B, hB⟩ : ∃ B, B = (getK kC cl [V, S, P, Q]).isSome := ⟨_, rfl⟩
 rw [← hT, ← hU, ← hB]
 unfold fndT at hT
 unfold fndS at hU
 rw [← hR] at hT hU hB
 have HR := Lib.hid (And.intro hR (And.intro hT (And.intro hU hB)))
 clear h hll hR hT hU hB
 go_enter Tryz.func32, Tryz.ntmps32
 go_wp2
 go_loopg [11] n (fun gh i wx => gh ≤ n ∧ i = .int .i64 ((n - gh : Nat) : Int) ∧ Hid (getK kC (cl.take (n - gh)) [V, S, P, Q] = none) ∧ (wx.cell? ⟨w.heap.size + 1, 0, none⟩ = some (.int .i64 V) ∧ wx.cell? ⟨w.heap.size + 1, 1, none⟩ = some (.int .i64 S) ∧ wx.cell? ⟨w.heap.size + 1, 2, none⟩ = some (.int .i64 P) ∧ wx.cell? ⟨w.heap.size + 1, 3, none⟩ = some (.int .i64 Q) ∧ wx.cell? ⟨w.heap.size + 1 + 1, 0, none⟩ = some (.int .u64 0) ∧ wx.cell? ⟨w.heap.size + 1 + 1, 1, none⟩ = some (.int .u64 0) ∧ wx.frozen? ⟨w.heap.size + 1 + 1, 0, none⟩ = false ∧ wx.frozen? ⟨w.heap.size + 1 + 1, 1, none⟩ = false) ∧ Ext w wx)
 case atStart => exact ⟨Nat.le_refl _, by simp, by rw [Nat.sub_self]; exact Lib.hid (by simp [getK]), ⟨by simp [go_sem], by simp [go_sem], by simp [go_sem], by simp [go_sem], by simp [go_sem], by simp [go_sem], by simp [go_sem], by simp [go_sem]⟩, (by repeat (first | with_reducible exact Ext.refl _ | with_reducible refine Ext.alloc ?_ _))⟩
 case round =>
  obtain ⟨hg, hi, HI, ⟨s_0, s_1, s_2, s_3, r_0, r_1, r_0f, r_1f⟩, hx⟩ := hrel
  have XR := Lib.hid hx
  have hsr := cell_lt s_0
  have hrr := cell_lt r_0
  obtain ⟨k, hk⟩ : ∃ k, k = n - gk := ⟨_, rfl⟩
  rw [← hk] at hi HI
  subst hi
  by_cases hz : gk = 0
  ·have hkn : ¬ (k : Int) < (n : Int) := by omega
   have hN : R = none := by rw [HR.out.1, ← HI.out, List.take_of_length_le (by have := HLL.out; omega)]
   obtain ⟨_, hT, hU, hB⟩ := HR.out
   subst hN
   obtain rfl : T = 0 := hT
   obtain rfl : U = 0 := hU
   obtain rfl : B = false := hB
   clear hk hg hz HI hx HR
   go_wp2
   refine bodyPost_ret (v := .tuple #[.agg #[.int .u64 0, .int .u64 0], .bool false]) (by simp [results, Tryz.results32, go_sem, World.cell?_alloc_past, *]; try rfl) rfl ⟨rfl, ?_⟩
   exact zxt
  ·have hkn : (k : Int) < (n : Int) := by omega
   have hkl : k < cl.length := by have := HLL.out; omega
   have HSr := Lib.hid (HS.out.ext XR.out)
   obtain ⟨b1, o1, rfl, hb1, hc_x⟩ := HSr.out.rec_ clsC_len (show 0 < n from by omega)
   obtain ⟨xw, hl_x⟩ : ∃ x, cl[k]? = some x := ⟨_, List.getElem?_eq_getElem (by omega)⟩
   have x_0 := hc_x (k) xw hl_x 0 _ rfl
   have x_1 := hc_x (k) xw hl_x 1 _ rfl
   have x_2 := hc_x (k) xw hl_x 2 _ rfl
   have x_3 := hc_x (k) xw hl_x 3 _ rfl
   have x_4 := hc_x (k) xw hl_x 4 _ rfl
   have x_5 := hc_x (k) xw hl_x 5 _ rfl
   obtain ⟨xv, xs, xp, xf, xt, xh⟩ := xw
   simp only at x_0 x_1 x_2 x_3 x_4 x_5
   rw [Nat.add_zero] at x_0
   rw [← Nat.add_assoc] at x_1 x_2 x_3 x_4 x_5
   have HK := Lib.hid (And.intro hk (And.intro hg hz))
   have HX := Lib.hid hl_x
   have hb1s : ¬ b1 = wr.heap.size := by omega
   have hss : ¬ w.heap.size + 1 = wr.heap.size := by omega
   have hrs : ¬ w.heap.size + 1 + 1 = wr.heap.size := by omega
   clear hk hg hz hkl hl_x hc_x HSr hx
   by_cases hq : xv = V ∧ xs = S ∧ xp = P ∧ xf = Q
   ·have hqb := four_true hq
    have HF : R = some (xv, xs, xp, xf, xt, xh) := by rw [HR.out.1]; exact getK_take_some HI.out HX.out (kC_eq hq)
    obtain ⟨_, hT, hU, hB⟩ := HR.out
    subst HF
    obtain rfl : T = xt := hT
    obtain rfl : U = xh := hU
    obtain rfl : B = true := hB
    clear HR
    go_wp2
    refine bodyPost_ret (v := .tuple #[.agg #[.int .u64 T, .int .u64 U], .bool true]) (by simp [results, Tryz.results32, go_sem, World.cell?_alloc_past, *]; try rfl) rfl ⟨rfl, ?_⟩
    exact zxt
   ·have hqb := four_false hq
    have HN := Lib.hid (getK_take_none HI.out HX.out (kC_ne (t := xt) (s := xh) hq))
    go_wp2_with fail
    go_roundg (gk - 1)
    case measure => have := HK.out; omega
    case rel => exact ⟨by have := HK.out; omega, num_eq (by have := HK.out; omega), by rw [show n - (gk - 1) = k + 1 from by have := HK.out; omega]; exact HN, ⟨by simp [go_sem, World.cell?_alloc_past, *], by simp [go_sem, World.cell?_alloc_past, *], by simp [go_sem, World.cell?_alloc_past, *], by simp [go_sem, World.cell?_alloc_past, *], by simp [go_sem, World.cell?_alloc_past, *], by simp [go_sem, World.cell?_alloc_past, *], by simp [go_sem, World.cell?_alloc_past, *], by simp [go_sem, World.cell?_alloc_past, *]⟩, zxt⟩
theorem hAll_any (n c n2 c2 : Nat) (A A2 : Option Addr) (cl ps : List I6) (w : World) (h : Sl w 6 A n c (cl.flatMap clsC)) (h2 : Sl w 6 A2 n2 c2 (ps.flatMap posC)) (hn : n < 1099511627776) (hn2 : n2 < 1099511627776) (hw : ∀ x ∈ cl, WdC x) (hw2 : ∀ x ∈ ps, WdP x) :
  Calls Tryz.prog 30 #[.agg #[.slice A n c, .slice A2 n2 c2]] w fun r w' => r = .returned (.tuple #[.int .u64 (allT cl ps), .int .i64 (chkH cl ps)]) ∧ Ext w w' := by
 have hll := h.rlen clsC_len (by decide)
 have C1 := Lib.hid (fun (w' : World) (hx : Ext w w') => hCheck_any n c n2 c2 A A2 cl ps w' (h.ext hx) (h2.ext hx) hn hn2 hw hw2)
 have HS := Lib.hid h
 have HLL := Lib.hid hll
 obtain ⟨R, hR⟩ : ∃ R, R = allT cl ps := ⟨_, rfl⟩
 obtain ⟨E, hE⟩ : ∃ E, E = chkH cl ps := ⟨_, rfl⟩
 unfold allT at hR
 rw [← hE] at C1 hR
 unfold allT
 rw [← hE, ← hR]
 by_cases he : E = 0
 ·rw [if_pos he] at hR
  have hM := (chkH_tot (hE.symm.trans he)).2.2
  rw [← hR] at hM
  have HR := Lib.hid hR
  subst he
  have HM := Lib.hid (show ∀ k, 0 ≤ totC (cl.take k) ∧ totC (cl.take k) ≤ 4611686018427387904 from fun k => ⟨addF_nn (fun y hy => (hw y (List.mem_of_mem_take hy)).1.1), Int.le_trans (addF_le (fun y hy => (hw y hy).1.1) k) (by rw [show addF toC cl = R from hR.symm]; exact hM)⟩)
  have HW := Lib.hid hw
  clear h h2 hw hw2 hE hR hM hll
  go_enter Tryz.func30, Tryz.ntmps30
  go_wp2_with fail
  (with_reducible refine (C1.out _ zxt).mono ?_)
  rintro e w1 ⟨rfl, hx1⟩
  have c0_0 : w1.cell? ⟨w.heap.size, 0, none⟩ = some (.slice A n c) := hx1.has zcv
  have z1 := hx1.size
  try simp at z1
  have rc0 := zr w.heap.size w1
  have X1 : Hid (Ext w w1) := Lib.hid (Ext.trans zxt hx1)
  clear hx1 z1
  go_wp2_with fail
  go_loopg [5, 16] n (fun gh a i wx => gh ≤ n ∧ i = .int .i64 ((n - gh : Nat) : Int) ∧ a = .int .u64 (totC (cl.take (n - gh))) ∧ Hid (Ext w wx))
  case atStart => exact ⟨Nat.le_refl _, by simp, by rw [Nat.sub_self]; rfl, Lib.hid zxt⟩
  case round =>
   obtain ⟨hg, hi, ha, XR⟩ := hrel
   obtain ⟨k, hk⟩ : ∃ k, k = n - gk := ⟨_, rfl⟩
   rw [← hk] at hi ha
   subst hi
   obtain ⟨t, ht⟩ : ∃ t, t = totC (cl.take k) := ⟨_, rfl⟩
   rw [← ht] at ha
   subst ha
   by_cases hz : gk = 0
   ·have hkn : ¬ (k : Int) < (n : Int) := by omega
    have hTR : t = R := by rw [ht, HR.out, List.take_of_length_le (by have := HLL.out; omega)]
    have HT := Lib.hid hTR
    clear hk hg hz ht hTR
    go_wp2
    go_ret2
    exact ⟨by first | rfl | (simp; done) | (rw [HT.out]; rfl) | (simp [HT.out]; done), XR.out⟩
   ·have hkn : (k : Int) < (n : Int) := by omega
    have hkl : k < cl.length := by have := HLL.out; omega
    have HSr := Lib.hid (HS.out.ext XR.out)
    obtain ⟨b1, o1, rfl, hb1, hc_x⟩ := HSr.out.rec_ clsC_len (show 0 < n from by omega)
    obtain ⟨xw, hl_x⟩ : ∃ x, cl[k]? = some x := ⟨_, List.getElem?_eq_getElem (by omega)⟩
    have x_0 := hc_x (k) xw hl_x 0 _ rfl
    have x_1 := hc_x (k) xw hl_x 1 _ rfl
    have x_2 := hc_x (k) xw hl_x 2 _ rfl
    have x_3 := hc_x (k) xw hl_x 3 _ rfl
    have x_4 := hc_x (k) xw hl_x 4 _ rfl
    have x_5 := hc_x (k) xw hl_x 5 _ rfl
    obtain ⟨xv, xs, xp, xf, xt, xh⟩ := xw
    simp only at x_0 x_1 x_2 x_3 x_4 x_5
    rw [Nat.add_zero] at x_0
    rw [← Nat.add_assoc] at x_1 x_2 x_3 x_4 x_5
    have hst : totC (cl.take (k + 1)) = t + xt := by rw [ht]; exact addF_take toC hl_x
    have hb0 := (HM.out k).1
    have hb2 := (HM.out (k + 1)).2
    have hxt : 0 ≤ xt := (HW.out _ (List.mem_of_getElem? hl_x)).1.1
    rw [hst] at hb2
    rw [← ht] at hb0
    have hwr : IntKind.u64.wrap (t + xt) = t + xt := IntWalk.u64_in _ (by omega)
    have HT := Lib.hid hst
    have HK := Lib.hid (And.intro hk (And.intro hg hz))
    have hb1s : ¬ b1 = wr.heap.size := by omega
    clear hk hg hz hkl hl_x hc_x HSr ht hst
    go_wp2_with fail
    go_roundg (gk - 1)
    case measure => have := HK.out; omega
    case rel => exact ⟨by have := HK.out; omega, num_eq (by have := HK.out; omega), num_eq (by rw [show n - (gk - 1) = k + 1 from by have := HK.out; omega]; exact HT.out.symm), Lib.hid zxt⟩
 ·rw [if_neg he] at hR
  subst hR
  have heb : (E != 0) = true := by simpa using he
  clear h h2 hw hw2 hE hll
  go_enter Tryz.func30, Tryz.ntmps30
  go_wp2_with fail
  (with_reducible refine (C1.out _ zxt).mono ?_)
  rintro e w1 ⟨rfl, hx1⟩
  have z1 := hx1.size
  try simp at z1
  have X1 : Hid (Ext w w1) := Lib.hid (Ext.trans zxt hx1)
  clear hx1 z1
  go_wp2_with fail
  go_ret2
  exact ⟨rfl, zxt⟩
end
section
open Go.RowKit
structure PoolOk (T S : Int) : Prop where
 t0 : 0 ≤ T
 ts : T ≤ S
 tm : T ≤ 4611686018427387904
 sm : S < 18446744073709551616
 z : T = 0 → S = 0
theorem PoolOk.wt {T S : Int} (h : PoolOk T S) : Word T := ⟨h.t0, by have := h.tm; omega⟩
theorem PoolOk.ws {T S : Int} (h : PoolOk T S) : Word S := ⟨by have := h.t0; have := h.ts; omega, h.sm⟩
theorem PoolOk.chk {T S : Int} (h : PoolOk T S) : chkE T S = 0 := by
 obtain ⟨a, b, c, d, e⟩ := h
 unfold chkE
 rw [if_neg (by omega), if_neg (by omega)]
 split
 ·rw [if_pos (e (by assumption))]
 ·rfl
theorem pool_of_chk {T S : Int} (ht : Word T) (hs : Word S) (h : chkE T S = 0) : PoolOk T S := by
 obtain ⟨a, b, c⟩ := chk_ok ht hs h
 exact ⟨ht.1, a, b, hs.2, c⟩
theorem pool_zero : PoolOk 0 0 := ⟨by decide, by decide, by decide, by decide, fun _ => rfl⟩
theorem fl_le {n c : Int} (hc : 0 < c) : c * (n / c) ≤ n := Int.mul_ediv_self_le (by omega)
theorem fl_lt {n c : Int} (hc : 0 < c) : n < c * (n / c) + c := Int.lt_mul_ediv_self_add hc
theorem fl_nn {n c : Int} (hn : 0 ≤ n) (hc : 0 < c) : 0 ≤ n / c := Int.ediv_nonneg hn (by omega)

theorem join_ok {T S N : Int} (h : PoolOk T S) (hN : Word N) (he : joiE T S N = 0) :
  0 < N ∧ joiT T S N = T + N ∧ joiS T S N = S + joiN T S N ∧ N ≤ joiN T S N ∧ PoolOk (T + N) (S + joiN T S N) ∧ (T = 0 → joiN T S N = N) ∧ (0 < T → T * joiN T S N ≤ N * S ∧ N * S < T * joiN T S N + T) := by
 have hj : joE T S N = 0 := by unfold joiE at he; rwa [if_pos h.chk] at he
 have h1 : joiT T S N = addN T N := if_pos he
 have h2 : joiS T S N = addN S (priN T S N) := if_pos he
 have h3 : joiN T S N = priN T S N := if_pos he
 rw [h1, h2, h3]
 unfold joE firstE at hj
 have hn0 : ¬ N = 0 := by intro hh; subst hh; simp at hj
 have hb : joB T S N = false := by
  cases hb : joB T S N
  ·rfl
  ·simp [hn0, hb, firstE] at hj
 unfold joB at hb
 simp only [decide_eq_false_iff_not, not_or, Int.not_lt, ne_eq, Decidable.not_not] at hb
 obtain ⟨b1, b2, b3, b4⟩ := hb
 obtain ⟨N0, N1⟩ := hN
 obtain ⟨a1, a2, a3, a4, a5⟩ := h
 have e1 : T + N < 18446744073709551616 := by
  unfold addE at b2
  split at b2
  ·assumption
  ·omega
 have e2 : S + priN T S N < 18446744073709551616 := by
  unfold addE at b3
  split at b3
  ·assumption
  ·omega
 have e3 : addN T N = T + N := by unfold addN; rw [if_pos e1]
 have e4 : addN S (priN T S N) = S + priN T S N := by unfold addN; rw [if_pos e2]
 rw [e3] at b4 ⊢
 rw [e4]
 have hp : N ≤ priN T S N ∧ (T = 0 → priN T S N = N) ∧ (0 < T → T * priN T S N ≤ N * S ∧ N * S < T * priN T S N + T) := by
  unfold priN priE at *
  by_cases h0 : T = 0
  ·rw [if_pos h0]
   exact ⟨Int.le_refl _, fun _ => rfl, fun hh => by omega⟩
  ·rw [if_neg h0] at b1 ⊢
   have hT : 0 < T := by omega
   unfold mdE at b1
   rw [if_neg h0] at b1
   have hlt : N * S / T < 18446744073709551616 := by
    split at b1
    ·assumption
    ·omega
   have e : mdN N S T = N * S / T := by unfold mdN; rw [if_neg h0, if_pos hlt]
   rw [e]
   refine ⟨?_, fun hh => absurd hh h0, fun _ => ⟨fl_le hT, fl_lt hT⟩⟩
   rw [Int.le_ediv_iff_mul_le hT]
   exact Int.mul_le_mul_of_nonneg_left a2 N0
 obtain ⟨p1, p2, p3⟩ := hp
 exact ⟨by omega, rfl, rfl, p1, ⟨by omega, by omega, b4, e2, fun hh => by omega⟩, p2, p3⟩
theorem cut_ok {T S P : Int} (h : PoolOk T S) (p0 : 0 ≤ P) (p1 : P ≤ 1000000000) :
  cutE T S P = 0 ∧ 0 ≤ cutN T S P ∧ cutN T S P ≤ T ∧ cutT T S P = T - cutN T S P ∧ cutS T S P = (if T - cutN T S P = 0 then 0 else S) ∧ cutN T S P = T * P / 1000000000 ∧ PoolOk (T - cutN T S P) (if T - cutN T S P = 0 then 0 else S) := by
 have hT := h.t0
 have hle : T * P / 1000000000 ≤ T := Int.ediv_le_of_le_mul (by decide) (Int.mul_le_mul_of_nonneg_left p1 hT)
 have hnn : 0 ≤ T * P / 1000000000 := fl_nn (Int.mul_nonneg hT p0) (by decide)
 have hm := h.tm
 have e0 : cutE T S P = 0 := by
  unfold cutE paE mdE
  rw [if_pos h.chk, if_neg (by omega), if_neg (by decide), if_pos (by omega)]
 have e1 : paN T P = T * P / 1000000000 := by
  unfold paN mdN
  rw [if_neg (by omega), if_neg (by decide), if_pos (by omega)]
 have e2 : cutN T S P = T * P / 1000000000 := by unfold cutN; rw [if_pos e0, e1]
 have e3 : cutT T S P = T - T * P / 1000000000 := by unfold cutT; rw [if_pos e0, e1]
 have e4 : cutS T S P = if T - T * P / 1000000000 = 0 then 0 else S := by unfold cutS; rw [if_pos e0, e1]
 rw [e2, e3, e4]
 generalize T * P / 1000000000 = V at *
 refine ⟨e0, hnn, hle, rfl, rfl, rfl, ?_⟩
 have := h.ts
 have := h.sm
 split
 ·rename_i hz; rw [hz]; exact pool_zero
 ·rename_i hz
  exact ⟨by omega, by omega, by omega, h.sm, fun hh => absurd hh hz⟩

end
section
open Go.RowKit
def GoodC (c : I6) : Prop := chkS c.1 c.2.1 c.2.2.1 c.2.2.2.1 = 0 ∧ chkE (toC c) (shC c) = 0 ∧ ¬ (toC c = 0 ∧ shC c = 0)
def GoodP (cl : List I6) (p : I6) : Prop := (0 ≤ p.1 ∧ p.1 < 64) ∧ shP p ≠ 0 ∧ (getK kC cl (stP p)).isSome = true
structure HOk (cl ps : List I6) : Prop where
 sc : SortK kC cl
 sp : SortK kP ps
 len : cl.length ≤ 1024
 tot : totC cl ≤ 4611686018427387904
 cls : ∀ c ∈ cl, GoodC c
 pos : ∀ p ∈ ps, GoodP cl p
 sum : ∀ c ∈ cl, shO ps (kC c) = shC c
theorem go_iff {α : Type} {key : α → List Int} {d : Nat} {one : Option (List Int) → α → Int} {go : Option (List Int) → List α → Int} {Good : α → Prop} (hd : ∀ x, (key x).length = d) (hgo0 : ∀ pr, go pr [] = 0) (hgo : ∀ pr x l, go pr (x :: l) = if one pr x ≠ 0 then one pr x else go (some (key x)) l) (hone : ∀ pr x, one pr x = 0 ↔ prevGe pr (key x) = false ∧ Good x) : ∀ (l : List α) (pr : Option (List Int)), (∀ p, pr = some p → p.length = d) → (go pr l = 0 ↔ SortK key l ∧ (∀ p, pr = some p → ∀ y ∈ l, cmpK p (key y) < 0) ∧ ∀ c ∈ l, Good c)
 | [], pr, _ => by
  rw [hgo0]
  exact ⟨fun _ => ⟨List.Pairwise.nil, fun _ _ y hy => (by simp at hy), fun y hy => (by simp at hy)⟩, fun _ => rfl⟩
 | x :: l, pr, hl => by
  have ih := go_iff hd hgo0 hgo hone l (some (key x)) (fun p hp => by injection hp with hp; rw [← hp, hd])
  have hpg : prevGe pr (key x) = false ↔ ∀ p, pr = some p → cmpK p (key x) < 0 := by
   cases pr with
   | none => exact ⟨fun _ p hp => (by cases hp), fun _ => rfl⟩
   | some p =>
    show decide (0 ≤ cmpK p (key x)) = false ↔ _
    rw [decide_eq_false_iff_not]
    exact ⟨fun h q hq => (by injection hq with hq; subst hq; omega), fun h => (by have := h p rfl; omega)⟩
  have h1 := hone pr x
  rw [hpg] at h1
  rw [hgo]
  by_cases h0 : one pr x = 0
  ·rw [if_neg (by simpa using h0), ih]
   obtain ⟨hp, hg⟩ := h1.1 h0
   constructor
   ·rintro ⟨hs, ha, hgd⟩
    refine ⟨List.pairwise_cons.2 ⟨ha _ rfl, hs⟩, fun p hp2 y hy => ?_, fun c hc => ?_⟩
    ·rcases List.mem_cons.1 hy with rfl | hy
     ·exact hp p hp2
     ·exact cmpK_trans (by rw [hl p hp2, hd]) (by rw [hd, hd]) (hp p hp2) (ha _ rfl y hy)
    ·rcases List.mem_cons.1 hc with rfl | hc
     ·exact hg
     ·exact hgd c hc
   ·rintro ⟨hs, ha, hgd⟩
    exact ⟨hs.tail, fun p hp2 y hy => by injection hp2 with hp2; rw [← hp2]; exact hs.head y hy, fun c hc => hgd c (List.mem_cons_of_mem _ hc)⟩
  ·rw [if_pos h0]
   refine ⟨fun h => absurd h h0, fun ⟨hs, ha, hgd⟩ => absurd (h1.2 ⟨fun p hp => ha p hp x (List.mem_cons_self ..), hgd x (List.mem_cons_self ..)⟩) h0⟩
theorem clsOne_iff (pr : Option (List Int)) (c : I6) : clsOne pr c = 0 ↔ prevGe pr (kC c) = false ∧ GoodC c := by
 unfold clsOne GoodC
 by_cases h1 : chkS c.1 c.2.1 c.2.2.1 c.2.2.2.1 = 0
 ·rw [if_neg (by simpa using h1)]
  cases h2 : prevGe pr (kC c)
  ·rw [if_neg (by simp)]
   by_cases h3 : chkE (toC c) (shC c) = 0
   ·rw [if_neg (by simpa using h3)]
    by_cases h4 : toC c = 0 ∧ shC c = 0
    ·rw [if_pos h4]
     exact ⟨fun h => by omega, fun h => absurd h4 h.2.2.2⟩
    ·rw [if_neg h4]
     exact ⟨fun _ => ⟨rfl, h1, h3, h4⟩, fun _ => rfl⟩
   ·rw [if_pos h3]
    exact ⟨fun h => absurd h h3, fun h => absurd h.2.2.1 h3⟩
  ·rw [if_pos rfl]
   exact ⟨fun h => by omega, fun h => by cases h.1⟩
 ·rw [if_pos h1]
  exact ⟨fun h => by omega, fun h => absurd h.2.1 h1⟩
theorem posOne_iff (cl : List I6) (pr : Option (List Int)) (p : I6) : posOne cl pr p = 0 ↔ prevGe pr (kP p) = false ∧ GoodP cl p := by
 unfold posOne GoodP
 by_cases h1 : p.1 < 0 ∨ 64 ≤ p.1
 ·rw [if_pos h1]
  exact ⟨fun h => by omega, fun h => by omega⟩
 ·rw [if_neg h1]
  cases h2 : prevGe pr (kP p)
  ·rw [if_neg (by simp)]
   by_cases h3 : shP p = 0
   ·rw [if_pos h3]
    exact ⟨fun h => by omega, fun h => absurd h3 h.2.2.1⟩
   ·rw [if_neg h3]
    cases h4 : getK kC cl (stP p)
    ·rw [if_pos (by rfl)]
     exact ⟨fun h => by omega, fun h => by cases h.2.2.2⟩
    ·rw [if_neg (by simp)]
     exact ⟨fun _ => ⟨rfl, by omega, h3, rfl⟩, fun _ => rfl⟩
  ·rw [if_pos rfl]
   exact ⟨fun h => by omega, fun h => by cases h.1⟩
theorem clsV_iff (cl : List I6) : clsV cl = 0 ↔ cl.length ≤ 1024 ∧ clsGo none cl = 0 ∧ totC cl ≤ 4611686018427387904 := by
 unfold clsV
 by_cases hl : 1024 < cl.length
 ·rw [if_pos hl]
  exact ⟨fun h => by omega, fun h => by omega⟩
 ·rw [if_neg hl]
  by_cases hg : clsGo none cl = 0
  ·rw [if_neg (by simpa using hg)]
   by_cases ht : totC cl ≤ 4611686018427387904
   ·rw [if_pos ht]
    exact ⟨fun _ => ⟨by omega, hg, ht⟩, fun _ => rfl⟩
   ·rw [if_neg ht]
    exact ⟨fun h => by omega, fun h => absurd h.2.2 ht⟩
  ·rw [if_pos hg]
   exact ⟨fun h => absurd h hg, fun h => absurd h.2.1 hg⟩
theorem posV_iff (cl ps : List I6) : posV cl ps = 0 ↔ posGo cl none ps = 0 ∧ ∀ c ∈ cl, shO ps (kC c) = shC c := by
 unfold posV
 by_cases hg : posGo cl none ps = 0
 ·rw [if_neg (by simpa using hg)]
  by_cases ha : cl.all (fun c => decide (shO ps (kC c) = shC c)) = true
  ·rw [if_pos ha]
   exact ⟨fun _ => ⟨hg, fun c hc => by simpa using List.all_eq_true.1 ha c hc⟩, fun _ => rfl⟩
  ·rw [if_neg ha]
   exact ⟨fun h => by omega, fun h => absurd (List.all_eq_true.2 fun c hc => by simpa using h.2 c hc) ha⟩
 ·rw [if_pos hg]
  exact ⟨fun h => absurd h hg, fun h => absurd h.1 hg⟩
theorem chkH_two (cl ps : List I6) : chkH cl ps = 0 ↔ clsV cl = 0 ∧ posV cl ps = 0 := by
 unfold chkH
 by_cases h : clsV cl = 0
 ·rw [if_neg (by simpa using h)]
  exact ⟨fun h2 => ⟨h, h2⟩, fun h2 => h2.2⟩
 ·rw [if_pos h]
  exact ⟨fun h2 => absurd h2 h, fun h2 => absurd h2.1 h⟩
theorem chkH_iff (cl ps : List I6) : chkH cl ps = 0 ↔ HOk cl ps := by
 have h1 := go_iff (key := kC) (go := clsGo) (one := clsOne) kC_len (fun pr => by unfold clsGo; cases pr <;> rfl) (fun pr x l => by conv => lhs; unfold clsGo) clsOne_iff cl none (fun p hp => by cases hp)
 have h2 := go_iff (key := kP) (go := posGo cl) (one := posOne cl) kP_len (fun pr => by unfold posGo; cases pr <;> rfl) (fun pr x l => by conv => lhs; unfold posGo) (posOne_iff cl) ps none (fun p hp => by cases hp)
 rw [chkH_two, clsV_iff, posV_iff, h1, h2]
 constructor
 ·rintro ⟨⟨a1, ⟨a2, _, a3⟩, a4⟩, ⟨b1, _, b2⟩, b3⟩
  exact ⟨a2, b1, a1, a4, a3, b2, b3⟩
 ·intro h
  exact ⟨⟨h.len, ⟨h.sc, fun p hp => (by cases hp), h.cls⟩, h.tot⟩, ⟨h.sp, fun p hp => (by cases hp), h.pos⟩, h.sum⟩
theorem getK_mem {α : Type} {key : α → List Int} {l : List α} {q : List Int} {x : α} (h : getK key l q = some x) : x ∈ l ∧ key x = q :=
 ⟨List.mem_of_find?_eq_some h, by simpa using List.find?_some h⟩
theorem getK_mem_some {α : Type} {key : α → List Int} {l : List α} {x : α} (h : x ∈ l) : (getK key l (key x)).isSome = true := by
 unfold getK
 rw [List.find?_isSome]
 exact ⟨x, h, by simp⟩
theorem addF_mem {α : Type} {f : α → Int} : ∀ {l : List α} {x : α}, (∀ y ∈ l, 0 ≤ f y) → x ∈ l → f x ≤ addF f l
 | y :: l, x, h, hx => by
  rw [addF_cons]
  have h1 := h y (List.mem_cons_self ..)
  have h2 := addF_nn (l := l) (fun z hz => h z (List.mem_cons_of_mem _ hz))
  rcases List.mem_cons.1 hx with rfl | hx
  ·omega
  ·have := addF_mem (l := l) (fun z hz => h z (List.mem_cons_of_mem _ hz)) hx
   omega
theorem hasV_le {ps : List I6} (hw : ∀ p ∈ ps, WdP p) (o V S P Q : Int) : 0 ≤ hasV ps [o, V, S, P, Q] ∧ hasV ps [o, V, S, P, Q] ≤ shO ps [V, S, P, Q] := by
 unfold hasV
 cases hg : getK kP ps [o, V, S, P, Q] with
 | none => exact ⟨Int.le_refl 0, addF_nn (fun y hy => (hw y (List.mem_filter.1 hy).1).1)⟩
 | some x =>
  obtain ⟨hm, hk⟩ := getK_mem hg
  have hst : stP x = [V, S, P, Q] := by
   have : kP x = x.1 :: stP x := rfl
   rw [this] at hk
   injection hk
  exact ⟨(hw x hm).1, addF_mem (f := shP) (fun y hy => (hw y (List.mem_filter.1 hy).1).1) (List.mem_filter.2 ⟨hm, by simpa using hst⟩)⟩
theorem HOk.fnd {cl ps : List I6} (h : HOk cl ps) (q : List Int) : shO ps q = fndS cl q := by
 unfold fndS
 cases hg : getK kC cl q with
 | some c =>
  obtain ⟨hm, hk⟩ := getK_mem hg
  rw [← hk, h.sum c hm]
  rfl
 | none =>
  unfold shO
  rw [List.filter_eq_nil_iff.2]
  ·rfl
  ·intro p hp hq
   have hs := (h.pos p hp).2.2
   rw [show stP p = q by simpa using hq, hg] at hs
   cases hs
theorem HOk.pool {cl ps : List I6} (h : HOk cl ps) (hw : ∀ c ∈ cl, WdC c) (q : List Int) : PoolOk (fndT cl q) (fndS cl q) := by
 unfold fndT fndS
 cases hg : getK kC cl q with
 | none => exact pool_zero
 | some c =>
  have hm := (getK_mem hg).1
  exact pool_of_chk (hw c hm).1 (hw c hm).2 (h.cls c hm).2.1
theorem fnd_word {cl : List I6} (hw : ∀ c ∈ cl, WdC c) (q : List Int) : Word (fndT cl q) ∧ Word (fndS cl q) := by
 unfold fndT fndS
 cases hg : getK kC cl q with
 | none => exact ⟨⟨by decide, by decide⟩, ⟨by decide, by decide⟩⟩
 | some c => exact hw c (getK_mem hg).1
end
section
open Go.RowKit Go.ChangeShapes Go.WideShapes Go.Deep Go.Joins
def RetJ (R : List I6 × List I6 × Int × Int) (w : World) (e : Ending) (w' : World) : Prop := ∃ v, e = .returned (.tuple #[v, .int .u64 R.2.2.1, .int .i64 R.2.2.2]) ∧ HoldR R.1 R.2.1 w v w'
theorem HoldR.nil {w w' : World} (hx : Ext w w') : HoldR [] [] w (.agg #[.slice none 0 0, .slice none 0 0]) w' := ⟨none, 0, none, 0, rfl, fun _ => rfl, fun _ => rfl, OwnCls.nil _ _, OwnPos.nil _ _, hx⟩
theorem RetJ.nil {e : Int} {w w' : World} (hx : Ext w w') : RetJ ([], [], 0, e) w (.returned (.tuple #[.agg #[.slice none 0 0, .slice none 0 0], .int .u64 0, .int .i64 e])) w' := ⟨_, rfl, HoldR.nil hx⟩
theorem hjoiV_err {cl ps : List I6} {o V S P Q a e : Int} (h : hjoiE cl ps o V S P Q a = e) (he : e ≠ 0) : hjoiV cl ps o V S P Q a = ([], [], 0, e) := by
 unfold hjoiV
 rw [if_neg (by rw [h]; exact he), h]
theorem hjoiV_ok {cl ps : List I6} {o V S P Q a : Int} (h : hjoiE cl ps o V S P Q a = 0) : hjoiV cl ps o V S P Q a = (clsSet cl V S P Q (joiT (fndT cl [V, S, P, Q]) (fndS cl [V, S, P, Q]) a) (joiS (fndT cl [V, S, P, Q]) (fndS cl [V, S, P, Q]) a), posSet ps o V S P Q (hasV ps [o, V, S, P, Q] + joiN (fndT cl [V, S, P, Q]) (fndS cl [V, S, P, Q]) a), joiN (fndT cl [V, S, P, Q]) (fndS cl [V, S, P, Q]) a, 0) := if_pos h
theorem joi_fits {cl ps : List I6} {o V S P Q a : Int} (hk : HOk cl ps) (hw : ∀ c ∈ cl, WdC c) (hw2 : ∀ p ∈ ps, WdP p) (ha : Word a) (hj : joiE (fndT cl [V, S, P, Q]) (fndS cl [V, S, P, Q]) a = 0) : IntKind.u64.wrap (hasV ps [o, V, S, P, Q] + joiN (fndT cl [V, S, P, Q]) (fndS cl [V, S, P, Q]) a) = hasV ps [o, V, S, P, Q] + joiN (fndT cl [V, S, P, Q]) (fndS cl [V, S, P, Q]) a ∧ IntKind.u64.wrap (totC cl + a) = totC cl + a ∧ 0 ≤ hasV ps [o, V, S, P, Q] + joiN (fndT cl [V, S, P, Q]) (fndS cl [V, S, P, Q]) a := by
 obtain ⟨h1, h2, h3, h4, h5, _⟩ := join_ok (hk.pool hw [V, S, P, Q]) ha hj
 obtain ⟨h6, h7⟩ := hasV_le hw2 o V S P Q
 rw [hk.fnd] at h7
 have h8 := h5.sm
 have h9 := h5.tm
 have h10 := (hk.pool hw [V, S, P, Q]).t0
 have h11 := hk.tot
 have h12 : 0 ≤ totC cl := addF_nn (fun y hy => (hw y hy).1.1)
 exact ⟨IntWalk.u64_in _ (by omega), IntWalk.u64_in _ (by omega), by omega⟩
theorem ext_but {S : Nat → Prop} {w v v' : World} (X : Ext w v) (hx : But S v v') (h : ∀ k, S k → w.heap.size ≤ k) : Ext w v' := Below.trans X (hx.below (Ext.size X) (fun k hk hh => by have := h k hh; omega))
theorem ob_lt {w : World} {base n sz : Nat} {e : TypeId} {v : Value} {xs : List Value} (h : w.ownsRow base e sz v n xs) : ∀ k, v.ownBlock = some k → base ≤ k ∧ k < w.heap.size := fun k hk => World.ownsRow.lt h k hk
theorem own_but_set {w w' : World} {base n sz q : Nat} {e : TypeId} {v v2 : Value} {xs : List Value} (h : w.ownsRow base e sz v n xs) (hx : But (fun k => k = q ∨ v2.ownBlock = some k) w w') (hq : ∀ k, v.ownBlock = some k → ¬ k = q) (hv : ∀ k, v.ownBlock = some k → ¬ v2.ownBlock = some k) : w'.ownsRow base e sz v n xs := own_but1Word h hx (fun k hk hh => by rcases hh with hh | hh; exact hq k hk hh; exact hv k hk hh)
theorem holdS_of {cl ps : List I6} {w w' : World} {b : Nat} {v v2 : Value} (hb : w.heap.size ≤ b) (h : w'.ownsRow b 79 6 v cl.length (cl.flatMap clsC)) (h2 : w'.ownsRow b 82 6 v2 ps.length (ps.flatMap posC)) (hx : Ext w w') : HoldR cl ps w (.agg #[v, v2]) w' := by
 obtain ⟨B, d, rfl, hB, _⟩ := own_parts2 h
 obtain ⟨B2, d2, rfl, hB2, _⟩ := own_parts2 h2
 exact ⟨B, d, B2, d2, rfl, hB, hB2, own_lower h hb, own_lower h2 hb, hx⟩
theorem hJoin_any (c c2 : Nat) (A A2 : Option Addr) (cl ps : List I6) (O V S P Q a : Int) (w : World) (h : Sl w 6 A cl.length c (cl.flatMap clsC)) (h2 : Sl w 6 A2 ps.length c2 (ps.flatMap posC)) (hn : cl.length < 1099511627776) (hn2 : ps.length < 1099511627776) (hA : A = none → c = 0) (hA2 : A2 = none → c2 = 0) (hw : ∀ x ∈ cl, WdC x) (hw2 : ∀ x ∈ ps, WdP x) (ha : Word a) :
  Calls Tryz.prog 67 #[.agg #[.slice A cl.length c, .slice A2 ps.length c2], .int .i64 O, .agg #[.int .i64 V, .int .i64 S, .int .i64 P, .int .i64 Q], .int .u64 a] w (RetJ (hjoiV cl ps O V S P Q a) w) := by
 have C1 := Lib.hid (fun (w' : World) (hx : Ext w w') => hCheck_any cl.length c ps.length c2 A A2 cl ps w' (h.ext hx) (h2.ext hx) hn hn2 hw hw2)
 obtain ⟨R, hR⟩ : ∃ R, R = hjoiV cl ps O V S P Q a := ⟨_, rfl⟩
 rw [← hR]
 have HR := Lib.hid hR
 obtain ⟨E, hE⟩ : ∃ E, E = chkH cl ps := ⟨_, rfl⟩
 by_cases he : ¬ E = 0
 ·obtain rfl : R = ([], [], 0, E) := hR.trans (hjoiV_err (by unfold hjoiE; rw [if_pos (by rw [← hE]; exact he), hE]) he)
  rw [← hE] at C1
  have heb : (E != 0) = true := by simpa using he
  clear h h2 hw hw2 hE hR HR ha hn hn2
  go_enter Tryz.func67, Tryz.ntmps67
  go_wp2_with fail
  (with_reducible refine (C1.out _ zxt).mono ?_)
  rintro e w1 ⟨rfl, hx1⟩
  have c2_0f : w1.frozen? ⟨w.heap.size + 1 + 1, 0, none⟩ = false := hx1.froz (v := .slice none 0 0) zcv zcv
  have c2_1f : w1.frozen? ⟨w.heap.size + 1 + 1, 1, none⟩ = false := hx1.froz (v := .slice none 0 0) zcv zcv
  have c2_0 : w1.cell? ⟨w.heap.size + 1 + 1, 0, none⟩ = some (.slice none 0 0) := hx1.has zcv
  have c2_1 : w1.cell? ⟨w.heap.size + 1 + 1, 1, none⟩ = some (.slice none 0 0) := hx1.has zcv
  have z1 := hx1.size
  try simp at z1
  have rc2 := zr (w.heap.size + 1 + 1) w1
  have X1 : Hid (Ext w w1) := Lib.hid (Ext.trans zxt hx1)
  clear hx1 z1
  go_wp2_with fail
  refine bodyPost_ret (v := .tuple #[.agg #[.slice none 0 0, .slice none 0 0], .int .u64 0, .int .i64 E]) zSlTba3_0 rfl (RetJ.nil ?_)
  exact zxt
 replace he : E = 0 := by omega
 have hk := (chkH_iff cl ps).1 (hE.symm.trans he)
 have C2 := Lib.hid (fun w => howner_any O w)
 obtain ⟨OB, hOB⟩ : ∃ OB, OB = decide (0 ≤ O ∧ O < 64) := ⟨_, rfl⟩
 rw [← hOB] at C2
 have C3 := Lib.hid (fun w => tCheck_any V S P Q w)
 obtain ⟨ES, hES⟩ : ∃ ES, ES = chkS V S P Q := ⟨_, rfl⟩
 rw [← hES] at C3
 have C4 := Lib.hid (fun (w' : World) (hx : Ext w w') => hcopied_any c c2 A A2 cl ps w' (h.ext hx) (h2.ext hx) hn hn2 hA hA2)
 have C5 := Lib.hid (fun (w' : World) (hx : Ext w w') => hFind_any cl.length c ps.length c2 A A2 cl V S P Q w' (h.ext hx))
 have hfw := fnd_word hw [V, S, P, Q]
 obtain ⟨T, hT⟩ : ∃ T, T = fndT cl [V, S, P, Q] := ⟨_, rfl⟩
 obtain ⟨U, hU⟩ : ∃ U, U = fndS cl [V, S, P, Q] := ⟨_, rfl⟩
 obtain ⟨BB, hBB⟩ : ∃ B, B = (getK kC cl [V, S, P, Q]).isSome := ⟨_, rfl⟩
 rw [← hT, ← hU, ← hBB] at C5
 rw [← hT, ← hU] at hfw
 have C6 := Lib.hid (fun w => SJoin_any T U a hfw.1 hfw.2 ha w)
 have HJ := Lib.hid (fun hj => joi_fits (o := O) (V := V) (S := S) (P := P) (Q := Q) (a := a) hk hw hw2 ha hj)
 have hE0 := hjoiV_ok (cl := cl) (ps := ps) (o := O) (V := V) (S := S) (P := P) (Q := Q) (a := a)
 rw [← hT, ← hU] at HJ hE0
 obtain ⟨JT, hJT⟩ : ∃ J, J = joiT T U a := ⟨_, rfl⟩
 obtain ⟨JS, hJS⟩ : ∃ J, J = joiS T U a := ⟨_, rfl⟩
 obtain ⟨JN, hJN⟩ : ∃ J, J = joiN T U a := ⟨_, rfl⟩
 obtain ⟨JE, hJE⟩ : ∃ J, J = joiE T U a := ⟨_, rfl⟩
 rw [← hJT, ← hJS, ← hJN, ← hJE] at C6
 have C7 := Lib.hid (fun (w' : World) (hx : Ext w w') => hAll_any cl.length c ps.length c2 A A2 cl ps w' (h.ext hx) (h2.ext hx) hn hn2 hw hw2)
 rw [show allT cl ps = totC cl from if_pos (hE.symm.trans he), ← hE, he] at C7
 obtain ⟨TC, hTC⟩ : ∃ t, t = totC cl := ⟨_, rfl⟩
 rw [← hTC] at C7
 obtain ⟨H0, hH0⟩ : ∃ H, H = hasV ps [O, V, S, P, Q] := ⟨_, rfl⟩
 rw [← hJN, ← hH0, ← hTC, ← hJE] at HJ
 rw [← hJT, ← hJS, ← hJN, ← hH0] at hE0
 obtain ⟨L3, hL3⟩ : ∃ L, L = setK kC cl [V, S, P, Q] (optC V S P Q JT JS) := ⟨_, rfl⟩
 obtain ⟨L4, hL4⟩ : ∃ L, L = setK kP ps [O, V, S, P, Q] (optP O V S P Q (H0 + JN)) := ⟨_, rfl⟩
 rw [show clsSet cl V S P Q JT JS = L3 from by rw [hL3]; exact (setK_lay kC_len rfl _ hk.sc).symm, show posSet ps O V S P Q (H0 + JN) = L4 from by rw [hL4]; exact (setK_lay kP_len rfl _ hk.sp).symm] at hE0
 have C8 := Lib.hid (fun (w' : World) (base q d : Nat) (B : Option Addr) (a1 : Value) hB hO hqo hbase => hbpools_any base q cl.length d B a1 cl V S P Q JT JS w' hB hO hn hk.sc hqo hbase)
 have C9 := Lib.hid (fun (w' : World) (q d : Nat) (B : Option Addr) hh hq => hbhas_any q B ps.length d ps O V S P Q H0 w' hh hn2 hq hk.sp hH0)
 have C10 := Lib.hid (fun (w' : World) (base q d : Nat) (B : Option Addr) (a0 : Value) hp hB hO hqo hbase => hbholds_any base q ps.length d B a0 ps O V S P Q (H0 + JN) w' hB hO hn2 hp hk.sp hqo hbase)
 rw [← hL3] at C8
 rw [← hL4] at C10
 have HX := Lib.hid (show (OB = false → hjoiE cl ps O V S P Q a = 3) ∧ (OB = true → ES ≠ 0 → hjoiE cl ps O V S P Q a = 3) ∧ (OB = true → ES = 0 → BB = false → cl.length = 1024 → hjoiE cl ps O V S P Q a = 7) ∧ (OB = true → ES = 0 → (BB = false → cl.length ≠ 1024) → JE ≠ 0 → hjoiE cl ps O V S P Q a = JE) ∧ (OB = true → ES = 0 → (BB = false → cl.length ≠ 1024) → JE = 0 → 4611686018427387904 < TC + a → hjoiE cl ps O V S P Q a = 12) ∧ (OB = true → ES = 0 → (BB = false → cl.length ≠ 1024) → JE = 0 → ¬ 4611686018427387904 < TC + a → hjoiE cl ps O V S P Q a = 0) from by
  have hlen := hk.len
  have hOt : OB = true → ¬ (O < 0 ∨ 64 ≤ O) := fun hh => by have := of_decide_eq_true (hOB.symm.trans hh); omega
  have hOf : OB = false → (O < 0 ∨ 64 ≤ O) := fun hh => by have := of_decide_eq_false (hOB.symm.trans hh); omega
  have hBn : (BB = false → cl.length ≠ 1024) → ¬ ((getK kC cl [V, S, P, Q]).isNone = true ∧ 1024 ≤ cl.length) := fun hh hh2 => by
   have hb : BB = false := by rw [hBB, ← Option.not_isNone, hh2.1]; rfl
   have := hh hb
   omega
  unfold hjoiE
  rw [if_neg (by rw [← hE]; simpa using he), ← hT, ← hU, ← hJE, ← hES, ← hTC]
  refine ⟨fun h1 => ?_, fun h1 h2 => ?_, fun h1 h2 h3 h4 => ?_, fun h1 h2 h3 h4 => ?_, fun h1 h2 h3 h4 h5 => ?_, fun h1 h2 h3 h4 h5 => ?_⟩
  ·rw [if_pos (.inl (hOf h1))]
  ·rw [if_pos (.inr h2)]
  ·rw [if_neg (by simp only [not_or]; exact ⟨by have := hOt h1; omega, by simpa using h2⟩), if_pos ⟨by rw [← Option.not_isSome, ← hBB, h3]; rfl, by omega⟩]
  ·rw [if_neg (by simp only [not_or]; exact ⟨by have := hOt h1; omega, by simpa using h2⟩), if_neg (hBn h3), if_pos h4]
  ·rw [if_neg (by simp only [not_or]; exact ⟨by have := hOt h1; omega, by simpa using h2⟩), if_neg (hBn h3), if_neg (by simpa using h4), if_pos h5]
  ·rw [if_neg (by simp only [not_or]; exact ⟨by have := hOt h1; omega, by simpa using h2⟩), if_neg (hBn h3), if_neg (by simpa using h4), if_neg h5])
 have HE0 := Lib.hid hE0
 rw [← hE] at C1
 subst he
 have hOw : w.heap.size + 2 < w.heap.size + 3 := by omega
 have hll : cl.length ≤ 1024 := hk.len
 clear h h2 hw hw2 hE hR ha hA hA2 hk hOB hES hfw hT hU hBB hE0 hJT hJS hJN hJE hTC hH0 hL3 hL4
 go_enter Tryz.func67, Tryz.ntmps67
 go_wp2_with fail
 (with_reducible refine (C1.out _ zxt).mono ?_)
 rintro e w1 ⟨rfl, hx1⟩
 have c0_0 : w1.cell? ⟨w.heap.size, 0, none⟩ = some (.slice A cl.length c) := hx1.has zcv
 have c0_1 : w1.cell? ⟨w.heap.size, 1, none⟩ = some (.slice A2 ps.length c2) := hx1.has zcv
 have c1_0 : w1.cell? ⟨w.heap.size + 1, 0, none⟩ = some (.int .i64 V) := hx1.has zcv
 have c1_1 : w1.cell? ⟨w.heap.size + 1, 1, none⟩ = some (.int .i64 S) := hx1.has zcv
 have c1_2 : w1.cell? ⟨w.heap.size + 1, 2, none⟩ = some (.int .i64 P) := hx1.has zcv
 have c1_3 : w1.cell? ⟨w.heap.size + 1, 3, none⟩ = some (.int .i64 Q) := hx1.has zcv
 have c2_0f : w1.frozen? ⟨w.heap.size + 1 + 1, 0, none⟩ = false := hx1.froz (v := .slice none 0 0) zcv zcv
 have c2_1f : w1.frozen? ⟨w.heap.size + 1 + 1, 1, none⟩ = false := hx1.froz (v := .slice none 0 0) zcv zcv
 have c2_0 : w1.cell? ⟨w.heap.size + 1 + 1, 0, none⟩ = some (.slice none 0 0) := hx1.has zcv
 have c2_1 : w1.cell? ⟨w.heap.size + 1 + 1, 1, none⟩ = some (.slice none 0 0) := hx1.has zcv
 have z1 := hx1.size
 try simp at z1
 have lt_c0_c1 : w.heap.size < w.heap.size + 1 := by omega
 have ne_c0_c1 : ¬ w.heap.size = w.heap.size + 1 := by omega
 have lt_c0_c2 : w.heap.size < w.heap.size + 1 + 1 := by omega
 have ne_c0_c2 : ¬ w.heap.size = w.heap.size + 1 + 1 := by omega
 have ne_c1_c0 : ¬ w.heap.size + 1 = w.heap.size := by omega
 have lt_c1_c2 : w.heap.size + 1 < w.heap.size + 1 + 1 := by omega
 have ne_c1_c2 : ¬ w.heap.size + 1 = w.heap.size + 1 + 1 := by omega
 have ne_c2_c0 : ¬ w.heap.size + 1 + 1 = w.heap.size := by omega
 have ne_c2_c1 : ¬ w.heap.size + 1 + 1 = w.heap.size + 1 := by omega
 have rc0 := zr w.heap.size w1
 have rc1 := zr (w.heap.size + 1) w1
 have rc2 := zr (w.heap.size + 1 + 1) w1
 have X1 : Hid (Ext w w1) := Lib.hid (Ext.trans zxt hx1)
 clear hx1
 rcases (show OB = false ∨ OB = true from by cases OB <;> simp) with rfl | rfl
 ·obtain rfl : R = ([], [], 0, 3) := HR.out.trans (hjoiV_err (HX.out.1 (by trivial)) (by first | decide | assumption))
  go_wp2_with fail
  (with_reducible refine (C2.out _).mono ?_)
  rintro e w_1 ⟨rfl, rfl⟩
  go_wp2_with fail
  refine bodyPost_ret (v := .tuple #[.agg #[.slice none 0 0, .slice none 0 0], .int .u64 0, .int .i64 3]) zSlTba3_0 rfl (RetJ.nil ?_)
  exact zxt
 ·go_wp2_with fail
  (with_reducible refine (C2.out _).mono ?_)
  rintro e w_1 ⟨rfl, rfl⟩
  go_wp2_with fail
  (with_reducible refine (C3.out _).mono ?_)
  rintro e w2 ⟨rfl, hx2⟩
  replace c0_0 := zh hx2 c0_0
  replace c0_1 := zh hx2 c0_1
  replace c1_0 := zh hx2 c1_0
  replace c1_1 := zh hx2 c1_1
  replace c1_2 := zh hx2 c1_2
  replace c1_3 := zh hx2 c1_3
  replace c2_0f := zf hx2 c2_0 c2_0f
  replace c2_1f := zf hx2 c2_1 c2_1f
  replace c2_0 := zh hx2 c2_0
  replace c2_1 := zh hx2 c2_1
  have z2 := hx2.size
  try simp at z2
  replace rc0 := zr w.heap.size w2
  replace rc1 := zr (w.heap.size + 1) w2
  replace rc2 := zr (w.heap.size + 1 + 1) w2
  have X2 : Hid (Ext w w2) := Lib.hid (Ext.trans zxt hx2)
  clear X1 hx2
  by_cases q2 : ¬ ES = 0
  ·have q2b : (ES != 0) = true := by simp [q2]
   obtain rfl : R = ([], [], 0, 3) := HR.out.trans (hjoiV_err (HX.out.2.1 (by trivial) q2) (by first | decide | assumption))
   go_wp2_with fail
   refine bodyPost_ret (v := .tuple #[.agg #[.slice none 0 0, .slice none 0 0], .int .u64 0, .int .i64 3]) zSlTba3_0 rfl (RetJ.nil ?_)
   exact zxt
  ·have q2b : (ES != 0) = false := by simpa using q2
   have q2c : ES = 0 := by omega
   go_wp2_with fail
   (with_reducible refine (C4.out _ zxt).mono ?_)
   rintro e w3 ⟨v, rfl, B, d, B2, d2, rfl, hB, hB2, hO, hP, hx3⟩
   replace c0_0 := zh hx3 c0_0
   replace c0_1 := zh hx3 c0_1
   replace c1_0 := zh hx3 c1_0
   replace c1_1 := zh hx3 c1_1
   replace c1_2 := zh hx3 c1_2
   replace c1_3 := zh hx3 c1_3
   replace c2_0f := zf hx3 c2_0 c2_0f
   replace c2_1f := zf hx3 c2_1 c2_1f
   replace c2_0 := zh hx3 c2_0
   replace c2_1 := zh hx3 c2_1
   have z3 := hx3.size
   try simp at z3
   replace rc0 := zr w.heap.size w3
   replace rc1 := zr (w.heap.size + 1) w3
   replace rc2 := zr (w.heap.size + 1 + 1) w3
   have X3 : Hid (Ext w w3) := Lib.hid (Ext.trans zxt hx3)
   have HO := Lib.hid (show OwnCls _ (w.heap.size + 3) _ _ _ from own_lower hO (by first | omega | (simp; done) | (simp; omega)))
   have HP := Lib.hid (show OwnPos _ (w.heap.size + 3) _ _ _ from own_lower hP (by first | omega | (simp; done) | (simp; omega)))
   clear X2 hx3
   have HQ := Lib.hid (And.intro (ob_lt HO.out) (ob_lt HP.out))
   clear hO hP
   go_wp2_with fail
   (with_reducible refine (C5.out _ zxt).mono ?_)
   rintro e w4 ⟨rfl, hx4⟩
   replace c0_0 := zh hx4 c0_0
   replace c0_1 := zh hx4 c0_1
   replace c1_0 := zh hx4 c1_0
   replace c1_1 := zh hx4 c1_1
   replace c1_2 := zh hx4 c1_2
   replace c1_3 := zh hx4 c1_3
   replace c2_0f := zf hx4 c2_0 c2_0f
   replace c2_1f := zf hx4 c2_1 c2_1f
   replace c2_0 := zh hx4 c2_0
   replace c2_1 := zh hx4 c2_1
   have c3_0f : w4.frozen? ⟨w3.heap.size, 0, none⟩ = false := hx4.froz (v := .slice B cl.length d) zcv zcv
   have c3_1f : w4.frozen? ⟨w3.heap.size, 1, none⟩ = false := hx4.froz (v := .slice B2 ps.length d2) zcv zcv
   have c3_0 : w4.cell? ⟨w3.heap.size, 0, none⟩ = some (.slice B cl.length d) := hx4.has zcv
   have c3_1 : w4.cell? ⟨w3.heap.size, 1, none⟩ = some (.slice B2 ps.length d2) := hx4.has zcv
   have z4 := hx4.size
   try simp at z4
   have lt_c0_c3 : w.heap.size < w3.heap.size := by omega
   have ne_c0_c3 : ¬ w.heap.size = w3.heap.size := by omega
   have lt_c1_c3 : w.heap.size + 1 < w3.heap.size := by omega
   have ne_c1_c3 : ¬ w.heap.size + 1 = w3.heap.size := by omega
   have lt_c2_c3 : w.heap.size + 1 + 1 < w3.heap.size := by omega
   have ne_c2_c3 : ¬ w.heap.size + 1 + 1 = w3.heap.size := by omega
   have ne_c3_c0 : ¬ w3.heap.size = w.heap.size := by omega
   have ne_c3_c1 : ¬ w3.heap.size = w.heap.size + 1 := by omega
   have ne_c3_c2 : ¬ w3.heap.size = w.heap.size + 1 + 1 := by omega
   replace rc0 := zr w.heap.size w4
   replace rc1 := zr (w.heap.size + 1) w4
   replace rc2 := zr (w.heap.size + 1 + 1) w4
   have rc3 := zr w3.heap.size w4
   replace HO := Lib.hid (HO.out.ext (Ext.trans zxt hx4))
   replace HP := Lib.hid (HP.out.ext (Ext.trans zxt hx4))
   have X4 : Hid (Ext w w4) := Lib.hid (Ext.trans zxt hx4)
   clear X3 hx4
   rcases (show BB = false ∨ BB = true from by cases BB <;> simp) with rfl | rfl
   ·by_cases q4 : cl.length = 1024
    ·have q4b : ((cl.length : Int) == 1024) = true := by simp [q4]
     obtain rfl : R = ([], [], 0, 7) := HR.out.trans (hjoiV_err (HX.out.2.2.1 (by trivial) q2c (by trivial) q4) (by first | decide | assumption))
     clear q4
     go_wp2_with fail
     refine bodyPost_ret (v := .tuple #[.agg #[.slice none 0 0, .slice none 0 0], .int .u64 0, .int .i64 7]) zSlTba3_0 rfl (RetJ.nil ?_)
     exact zxt
    ·have q4b : ((cl.length : Int) == 1024) = false := by simp; omega
     have HF := Lib.hid (show false = false → cl.length ≠ 1024 from fun _ => q4)
     clear q4
     go_wp2_with fail
     (with_reducible refine (C6.out _).mono ?_)
     rintro e w5 ⟨rfl, hx5⟩
     replace c0_0 := zh hx5 c0_0
     replace c0_1 := zh hx5 c0_1
     replace c1_0 := zh hx5 c1_0
     replace c1_1 := zh hx5 c1_1
     replace c1_2 := zh hx5 c1_2
     replace c1_3 := zh hx5 c1_3
     replace c2_0f := zf hx5 c2_0 c2_0f
     replace c2_1f := zf hx5 c2_1 c2_1f
     replace c2_0 := zh hx5 c2_0
     replace c2_1 := zh hx5 c2_1
     replace c3_0f := zf hx5 c3_0 c3_0f
     replace c3_1f := zf hx5 c3_1 c3_1f
     replace c3_0 := zh hx5 c3_0
     replace c3_1 := zh hx5 c3_1
     have z5 := hx5.size
     try simp at z5
     replace rc0 := zr w.heap.size w5
     replace rc1 := zr (w.heap.size + 1) w5
     replace rc2 := zr (w.heap.size + 1 + 1) w5
     replace rc3 := zr w3.heap.size w5
     replace HO := Lib.hid (HO.out.ext (Ext.trans zxt hx5))
     replace HP := Lib.hid (HP.out.ext (Ext.trans zxt hx5))
     have X5 : Hid (Ext w w5) := Lib.hid (Ext.trans zxt hx5)
     clear X4 hx5
     by_cases q5 : ¬ JE = 0
     ·have q5b : (JE != 0) = true := by simp [q5]
      obtain rfl : R = ([], [], 0, JE) := HR.out.trans (hjoiV_err (HX.out.2.2.2.1 (by trivial) q2c HF.out q5) (by first | decide | assumption))
      go_wp2_with fail
      refine bodyPost_ret (v := .tuple #[.agg #[.slice none 0 0, .slice none 0 0], .int .u64 0, .int .i64 JE]) zSlTba3_0 rfl (RetJ.nil ?_)
      exact zxt
     ·have q5b : (JE != 0) = false := by simpa using q5
      have q5c : JE = 0 := by omega
      have HJ2 := Lib.hid (HJ.out q5c)
      have hwa := HJ2.out.2.1
      have hwb := HJ2.out.1
      go_wp2_with fail
      (with_reducible refine (C7.out _ zxt).mono ?_)
      rintro e w6 ⟨rfl, hx6⟩
      replace c1_0 := zh hx6 c1_0
      replace c1_1 := zh hx6 c1_1
      replace c1_2 := zh hx6 c1_2
      replace c1_3 := zh hx6 c1_3
      replace c2_0f := zf hx6 c2_0 c2_0f
      replace c2_1f := zf hx6 c2_1 c2_1f
      replace c2_0 := zh hx6 c2_0
      replace c2_1 := zh hx6 c2_1
      replace c3_0f := zf hx6 c3_0 c3_0f
      replace c3_1f := zf hx6 c3_1 c3_1f
      replace c3_0 := zh hx6 c3_0
      replace c3_1 := zh hx6 c3_1
      have c5_0 : w6.cell? ⟨w5.heap.size, 0, none⟩ = some (.int .u64 JT) := hx6.has zcv
      have c5_1 : w6.cell? ⟨w5.heap.size, 1, none⟩ = some (.int .u64 JS) := hx6.has zcv
      have z6 := hx6.size
      try simp at z6
      have lt_c1_c5 : w.heap.size + 1 < w5.heap.size := by omega
      have ne_c1_c5 : ¬ w.heap.size + 1 = w5.heap.size := by omega
      have lt_c2_c5 : w.heap.size + 1 + 1 < w5.heap.size := by omega
      have ne_c2_c5 : ¬ w.heap.size + 1 + 1 = w5.heap.size := by omega
      have lt_c3_c5 : w3.heap.size < w5.heap.size := by omega
      have ne_c3_c5 : ¬ w3.heap.size = w5.heap.size := by omega
      have ne_c5_c1 : ¬ w5.heap.size = w.heap.size + 1 := by omega
      have ne_c5_c2 : ¬ w5.heap.size = w.heap.size + 1 + 1 := by omega
      have ne_c5_c3 : ¬ w5.heap.size = w3.heap.size := by omega
      replace rc1 := zr (w.heap.size + 1) w6
      replace rc2 := zr (w.heap.size + 1 + 1) w6
      replace rc3 := zr w3.heap.size w6
      have rc5 := zr w5.heap.size w6
      replace HO := Lib.hid (HO.out.ext (Ext.trans zxt hx6))
      replace HP := Lib.hid (HP.out.ext (Ext.trans zxt hx6))
      have X6 : Hid (Ext w w6) := Lib.hid (Ext.trans zxt hx6)
      clear c0_1 c0_0 rc0 X5 hx6
      by_cases q6 : 4611686018427387904 < TC + a
      ·have q6b := Lib.hid q6
       obtain rfl : R = ([], [], 0, 12) := HR.out.trans (hjoiV_err (HX.out.2.2.2.2.1 (by trivial) q2c HF.out q5c q6) (by first | decide | assumption))
       go_wp2_with fail
       refine bodyPost_ret (v := .tuple #[.agg #[.slice none 0 0, .slice none 0 0], .int .u64 0, .int .i64 12]) zSlTba3_0 rfl (RetJ.nil ?_)
       exact zxt
      ·have HX0 := Lib.hid (HX.out.2.2.2.2.2 (by trivial) q2c HF.out q5c (by first | exact q6 | omega))
       have XK := X6
       have hqk : w3.heap.size < w6.heap.size := by omega
       have hqq : w.heap.size + 3 ≤ w3.heap.size := by omega
       have nq : ∀ j, (Value.slice B cl.length d).ownBlock = some j → ¬ j = w3.heap.size := fun j hj => by have := HQ.out.1 j hj; omega
       have nq2 : ∀ j, (Value.slice B2 ps.length d2).ownBlock = some j → ¬ j = w3.heap.size := fun j hj => by have := HQ.out.2 j hj; omega
       have np : ∀ j, (Value.slice B2 ps.length d2).ownBlock = some j → ¬ (Value.slice B cl.length d).ownBlock = some j := own_apart HP.out HO.out (fun e => cls_pos e.symm)
       have nb : ∀ j, j < w.heap.size + 3 → ¬ (j = w3.heap.size ∨ (Value.slice B cl.length d).ownBlock = some j) := fun j hj hh => by rcases hh with hh | hh; omega; have := HQ.out.1 j hh; omega
       have nb2 : ∀ j, j < w.heap.size + 3 → ¬ (j = w3.heap.size ∨ (Value.slice B2 ps.length d2).ownBlock = some j) := fun j hj hh => by rcases hh with hh | hh; omega; have := HQ.out.2 j hh; omega
       go_wp2_with fail
       (with_reducible refine (C8.out _ (w.heap.size + 3) (w3.heap.size) d B (.slice B2 ps.length d2) ⟨c3_0, c3_0f, c3_1, c3_1f⟩ HO.out nq (by omega)).mono ?_)
       rintro e v7 ⟨rfl, u3, hB3, ho3, hk3, hx7⟩
       obtain ⟨B3, d3, rfl, _, _⟩ := own_parts2 ho3
       have hz7 := hx7.size
       have p_0 := hx7.has (nb _ (by omega)) c1_0
       have p_1 := hx7.has (nb _ (by omega)) c1_1
       have p_2 := hx7.has (nb _ (by omega)) c1_2
       have p_3 := hx7.has (nb _ (by omega)) c1_3
       have r_0f := hx7.froz (nb _ (by omega)) c2_0 c2_0f
       have r_0 := hx7.has (nb _ (by omega)) c2_0
       have r_1f := hx7.froz (nb _ (by omega)) c2_1 c2_1f
       have r_1 := hx7.has (nb _ (by omega)) c2_1
       have HP7 := Lib.hid (show OwnPos _ _ _ _ _ from own_but_set HP.out hx7 nq2 np)
       have X7 := Lib.hid (ext_but XK.out hx7 (fun j hj => by rcases hj with hj | hj; omega; have := HQ.out.1 j hj; omega))
       have nq3 : ∀ j, (Value.slice B3 L3.length d3).ownBlock = some j → ¬ j = w3.heap.size := fun j hj => by rcases hk3 j hj with hh | hh; exact nq j hh; omega
       have H3 := Lib.hid ho3
       have HB3 := Lib.hid hB3
       have b_1 := hB3.c1
       clear ho3 hk3 hx7 hB3 HP HO c3_0 c3_0f c3_1 c3_1f c1_0 c1_1 c1_2 c1_3 c2_0 c2_1 c2_0f c2_1f c5_0 c5_1
       go_wp2_with fail
       refine wp_region_held_drew (S := fun w' => w'.cell? ⟨w.heap.size + 1, 0, none⟩ = some (.int .i64 V) ∧ w'.cell? ⟨w.heap.size + 1, 1, none⟩ = some (.int .i64 S) ∧ w'.cell? ⟨w.heap.size + 1, 2, none⟩ = some (.int .i64 P) ∧ w'.cell? ⟨w.heap.size + 1, 3, none⟩ = some (.int .i64 Q)) (by kernel_rfl) (by exact ⟨p_0, p_1, p_2, p_3⟩) (fun hHeld => ?_)
       refine' zt 0 ?_
       refine' zt 1 ?_
       refine' zt 2 ?_
       refine' zt 3 ?_
       refine' zt 5 ?_
       refine' zn 4 (fun K hK => ?_)
       go_simp
       (with_reducible refine (C9.out _ (w3.heap.size) d2 B2 (OwnPos.sl (OwnPos.ext HP7.out (Ext.drew (Ext.refl _)))) (Ext.has (Ext.drew (Ext.refl _)) b_1)).mono ?_)
       rintro e v8 ⟨rfl, hx8d⟩
       have hx8 := Ext.trans (Ext.drew (Ext.refl v7)) hx8d
       clear hx8d
       have hz8 := hx8.size
       replace p_0 := hx8.has p_0
       replace p_1 := hx8.has p_1
       replace p_2 := hx8.has p_2
       replace p_3 := hx8.has p_3
       replace r_0f := hx8.froz r_0 r_0f
       replace r_0 := hx8.has r_0
       replace r_1f := hx8.froz r_1 r_1f
       replace r_1 := hx8.has r_1
       have HP8 := Lib.hid (show OwnPos _ _ _ _ _ from own_keep HP7.out hx8)
       have H4 := Lib.hid (own_keep H3.out hx8)
       have HB8 := Lib.hid (HB3.out.ext hx8)
       have X8 := Lib.hid (Ext.trans X7.out hx8)
       clear b_1 hx8 HP7 H3 HB3 X7
       refine' zk hK ((by exact ⟨p_0, p_1, p_2, p_3⟩)) (fun hHeld => ?_); clear hK K
       refine' zt 6 ?_
       refine' zn 7 (fun K hK => ?_)
       go_simp
       (with_reducible refine (C10.out _ (w.heap.size + 3) (w3.heap.size) d2 B2 (.slice B3 L3.length d3) HJ2.out.2.2 HB8.out HP8.out nq2 (by omega)).mono ?_)
       rintro e v9 ⟨rfl, u4, hB4, ho4, hk4, hx9⟩
       obtain ⟨B4, d4, rfl, _, _⟩ := own_parts2 ho4
       have hz9 := hx9.size
       have p9_0 := hx9.has (nb2 _ (by omega)) p_0
       have p9_1 := hx9.has (nb2 _ (by omega)) p_1
       have p9_2 := hx9.has (nb2 _ (by omega)) p_2
       have p9_3 := hx9.has (nb2 _ (by omega)) p_3
       have r9_0f := hx9.froz (nb2 _ (by omega)) r_0 r_0f
       have r9_0 := hx9.has (nb2 _ (by omega)) r_0
       have r9_1f := hx9.froz (nb2 _ (by omega)) r_1 r_1f
       have r9_1 := hx9.has (nb2 _ (by omega)) r_1
       have H5 := Lib.hid (own_but_set H4.out hx9 nq3 (own_apart H4.out HP8.out cls_pos))
       have X9 := Lib.hid (ext_but X8.out hx9 (fun j hj => by rcases hj with hj | hj; omega; have := HQ.out.2 j hj; omega))
       have H6 := Lib.hid ho4
       have b_0 := hB4.c0
       have b_1 := hB4.c1
       clear ho4 hk4 hx9 hB4 HB8 HP8 H4 X8 p_0 p_1 p_2 p_3 r_0 r_1 r_0f r_1f
       refine' zk hK ((by exact ⟨p9_0, p9_1, p9_2, p9_3⟩)) (fun hHeld => ?_); clear hK K
       refine wpAnyH_done (by kernel_rfl) ?_ _
       go_wp2_with fail
       obtain rfl : R = (L3, L4, JN, 0) := HR.out.trans (HE0.out HX0.out)
       refine bodyPost_ret (v := .tuple #[.agg #[.slice B3 L3.length d3, .slice B4 L4.length d4], .int .u64 JN, .int .i64 0]) (by simp [results, Tryz.results67, go_sem, World.cell?_alloc_past, r9_0, r9_1, r9_0f, r9_1f, b_0, b_1]; try rfl) rfl ⟨_, rfl, holdS_of (b := (w.heap.size + 3)) (by omega) (show World.ownsRow _ (w.heap.size + 3) _ _ _ _ _ from by repeat (first | with_reducible refine own_box ?_ (by omega) | with_reducible refine World.ownsRow.drew ?_ | exact H5.out)) (show World.ownsRow _ (w.heap.size + 3) _ _ _ _ _ from by repeat (first | with_reducible refine own_box ?_ (by omega) | with_reducible refine World.ownsRow.drew ?_ | exact H6.out)) zSlTba3_1⟩
   ·have HF := Lib.hid (show true = false → cl.length ≠ 1024 from fun h => by cases h)
    go_wp2_with fail
    (with_reducible refine (C6.out _).mono ?_)
    rintro e w5 ⟨rfl, hx5⟩
    replace c0_0 := zh hx5 c0_0
    replace c0_1 := zh hx5 c0_1
    replace c1_0 := zh hx5 c1_0
    replace c1_1 := zh hx5 c1_1
    replace c1_2 := zh hx5 c1_2
    replace c1_3 := zh hx5 c1_3
    replace c2_0f := zf hx5 c2_0 c2_0f
    replace c2_1f := zf hx5 c2_1 c2_1f
    replace c2_0 := zh hx5 c2_0
    replace c2_1 := zh hx5 c2_1
    replace c3_0f := zf hx5 c3_0 c3_0f
    replace c3_1f := zf hx5 c3_1 c3_1f
    replace c3_0 := zh hx5 c3_0
    replace c3_1 := zh hx5 c3_1
    have z5 := hx5.size
    try simp at z5
    replace rc0 := zr w.heap.size w5
    replace rc1 := zr (w.heap.size + 1) w5
    replace rc2 := zr (w.heap.size + 1 + 1) w5
    replace rc3 := zr w3.heap.size w5
    replace HO := Lib.hid (HO.out.ext (Ext.trans zxt hx5))
    replace HP := Lib.hid (HP.out.ext (Ext.trans zxt hx5))
    have X5 : Hid (Ext w w5) := Lib.hid (Ext.trans zxt hx5)
    clear X4 hx5
    by_cases q5 : ¬ JE = 0
    ·have q5b : (JE != 0) = true := by simp [q5]
     obtain rfl : R = ([], [], 0, JE) := HR.out.trans (hjoiV_err (HX.out.2.2.2.1 (by trivial) q2c HF.out q5) (by first | decide | assumption))
     go_wp2_with fail
     refine bodyPost_ret (v := .tuple #[.agg #[.slice none 0 0, .slice none 0 0], .int .u64 0, .int .i64 JE]) zSlTba3_0 rfl (RetJ.nil ?_)
     exact zxt
    ·have q5b : (JE != 0) = false := by simpa using q5
     have q5c : JE = 0 := by omega
     have HJ2 := Lib.hid (HJ.out q5c)
     have hwa := HJ2.out.2.1
     have hwb := HJ2.out.1
     go_wp2_with fail
     (with_reducible refine (C7.out _ zxt).mono ?_)
     rintro e w6 ⟨rfl, hx6⟩
     replace c1_0 := zh hx6 c1_0
     replace c1_1 := zh hx6 c1_1
     replace c1_2 := zh hx6 c1_2
     replace c1_3 := zh hx6 c1_3
     replace c2_0f := zf hx6 c2_0 c2_0f
     replace c2_1f := zf hx6 c2_1 c2_1f
     replace c2_0 := zh hx6 c2_0
     replace c2_1 := zh hx6 c2_1
     replace c3_0f := zf hx6 c3_0 c3_0f
     replace c3_1f := zf hx6 c3_1 c3_1f
     replace c3_0 := zh hx6 c3_0
     replace c3_1 := zh hx6 c3_1
     have c6_0 : w6.cell? ⟨w5.heap.size, 0, none⟩ = some (.int .u64 JT) := hx6.has zcv
     have c6_1 : w6.cell? ⟨w5.heap.size, 1, none⟩ = some (.int .u64 JS) := hx6.has zcv
     have z6 := hx6.size
     try simp at z6
     have lt_c1_c6 : w.heap.size + 1 < w5.heap.size := by omega
     have ne_c1_c6 : ¬ w.heap.size + 1 = w5.heap.size := by omega
     have lt_c2_c6 : w.heap.size + 1 + 1 < w5.heap.size := by omega
     have ne_c2_c6 : ¬ w.heap.size + 1 + 1 = w5.heap.size := by omega
     have lt_c3_c6 : w3.heap.size < w5.heap.size := by omega
     have ne_c3_c6 : ¬ w3.heap.size = w5.heap.size := by omega
     have ne_c6_c1 : ¬ w5.heap.size = w.heap.size + 1 := by omega
     have ne_c6_c2 : ¬ w5.heap.size = w.heap.size + 1 + 1 := by omega
     have ne_c6_c3 : ¬ w5.heap.size = w3.heap.size := by omega
     replace rc1 := zr (w.heap.size + 1) w6
     replace rc2 := zr (w.heap.size + 1 + 1) w6
     replace rc3 := zr w3.heap.size w6
     have rc6 := zr w5.heap.size w6
     replace HO := Lib.hid (HO.out.ext (Ext.trans zxt hx6))
     replace HP := Lib.hid (HP.out.ext (Ext.trans zxt hx6))
     have X6 : Hid (Ext w w6) := Lib.hid (Ext.trans zxt hx6)
     clear c0_1 c0_0 rc0 X5 hx6
     by_cases q6 : 4611686018427387904 < TC + a
     ·have q6b := Lib.hid q6
      obtain rfl : R = ([], [], 0, 12) := HR.out.trans (hjoiV_err (HX.out.2.2.2.2.1 (by trivial) q2c HF.out q5c q6) (by first | decide | assumption))
      go_wp2_with fail
      refine bodyPost_ret (v := .tuple #[.agg #[.slice none 0 0, .slice none 0 0], .int .u64 0, .int .i64 12]) zSlTba3_0 rfl (RetJ.nil ?_)
      exact zxt
     ·have HX0 := Lib.hid (HX.out.2.2.2.2.2 (by trivial) q2c HF.out q5c (by first | exact q6 | omega))
      have XK := X6
      have hqk : w3.heap.size < w6.heap.size := by omega
      have hqq : w.heap.size + 3 ≤ w3.heap.size := by omega
      have nq : ∀ j, (Value.slice B cl.length d).ownBlock = some j → ¬ j = w3.heap.size := fun j hj => by have := HQ.out.1 j hj; omega
      have nq2 : ∀ j, (Value.slice B2 ps.length d2).ownBlock = some j → ¬ j = w3.heap.size := fun j hj => by have := HQ.out.2 j hj; omega
      have np : ∀ j, (Value.slice B2 ps.length d2).ownBlock = some j → ¬ (Value.slice B cl.length d).ownBlock = some j := own_apart HP.out HO.out (fun e => cls_pos e.symm)
      have nb : ∀ j, j < w.heap.size + 3 → ¬ (j = w3.heap.size ∨ (Value.slice B cl.length d).ownBlock = some j) := fun j hj hh => by rcases hh with hh | hh; omega; have := HQ.out.1 j hh; omega
      have nb2 : ∀ j, j < w.heap.size + 3 → ¬ (j = w3.heap.size ∨ (Value.slice B2 ps.length d2).ownBlock = some j) := fun j hj hh => by rcases hh with hh | hh; omega; have := HQ.out.2 j hh; omega
      go_wp2_with fail
      (with_reducible refine (C8.out _ (w.heap.size + 3) (w3.heap.size) d B (.slice B2 ps.length d2) ⟨c3_0, c3_0f, c3_1, c3_1f⟩ HO.out nq (by omega)).mono ?_)
      rintro e v7 ⟨rfl, u3, hB3, ho3, hk3, hx7⟩
      obtain ⟨B3, d3, rfl, _, _⟩ := own_parts2 ho3
      have hz7 := hx7.size
      have p_0 := hx7.has (nb _ (by omega)) c1_0
      have p_1 := hx7.has (nb _ (by omega)) c1_1
      have p_2 := hx7.has (nb _ (by omega)) c1_2
      have p_3 := hx7.has (nb _ (by omega)) c1_3
      have r_0f := hx7.froz (nb _ (by omega)) c2_0 c2_0f
      have r_0 := hx7.has (nb _ (by omega)) c2_0
      have r_1f := hx7.froz (nb _ (by omega)) c2_1 c2_1f
      have r_1 := hx7.has (nb _ (by omega)) c2_1
      have HP7 := Lib.hid (show OwnPos _ _ _ _ _ from own_but_set HP.out hx7 nq2 np)
      have X7 := Lib.hid (ext_but XK.out hx7 (fun j hj => by rcases hj with hj | hj; omega; have := HQ.out.1 j hj; omega))
      have nq3 : ∀ j, (Value.slice B3 L3.length d3).ownBlock = some j → ¬ j = w3.heap.size := fun j hj => by rcases hk3 j hj with hh | hh; exact nq j hh; omega
      have H3 := Lib.hid ho3
      have HB3 := Lib.hid hB3
      have b_1 := hB3.c1
      clear ho3 hk3 hx7 hB3 HP HO c3_0 c3_0f c3_1 c3_1f c1_0 c1_1 c1_2 c1_3 c2_0 c2_1 c2_0f c2_1f c6_0 c6_1
      go_wp2_with fail
      refine wp_region_held_drew (S := fun w' => w'.cell? ⟨w.heap.size + 1, 0, none⟩ = some (.int .i64 V) ∧ w'.cell? ⟨w.heap.size + 1, 1, none⟩ = some (.int .i64 S) ∧ w'.cell? ⟨w.heap.size + 1, 2, none⟩ = some (.int .i64 P) ∧ w'.cell? ⟨w.heap.size + 1, 3, none⟩ = some (.int .i64 Q)) (by kernel_rfl) (by exact ⟨p_0, p_1, p_2, p_3⟩) (fun hHeld => ?_)
      refine' zt 0 ?_
      refine' zt 1 ?_
      refine' zt 2 ?_
      refine' zt 3 ?_
      refine' zt 5 ?_
      refine' zn 4 (fun K hK => ?_)
      go_simp
      (with_reducible refine (C9.out _ (w3.heap.size) d2 B2 (OwnPos.sl (OwnPos.ext HP7.out (Ext.drew (Ext.refl _)))) (Ext.has (Ext.drew (Ext.refl _)) b_1)).mono ?_)
      rintro e v8 ⟨rfl, hx8d⟩
      have hx8 := Ext.trans (Ext.drew (Ext.refl v7)) hx8d
      clear hx8d
      have hz8 := hx8.size
      replace p_0 := hx8.has p_0
      replace p_1 := hx8.has p_1
      replace p_2 := hx8.has p_2
      replace p_3 := hx8.has p_3
      replace r_0f := hx8.froz r_0 r_0f
      replace r_0 := hx8.has r_0
      replace r_1f := hx8.froz r_1 r_1f
      replace r_1 := hx8.has r_1
      have HP8 := Lib.hid (show OwnPos _ _ _ _ _ from own_keep HP7.out hx8)
      have H4 := Lib.hid (own_keep H3.out hx8)
      have HB8 := Lib.hid (HB3.out.ext hx8)
      have X8 := Lib.hid (Ext.trans X7.out hx8)
      clear b_1 hx8 HP7 H3 HB3 X7
      refine' zk hK ((by exact ⟨p_0, p_1, p_2, p_3⟩)) (fun hHeld => ?_); clear hK K
      refine' zt 6 ?_
      refine' zn 7 (fun K hK => ?_)
      go_simp
      (with_reducible refine (C10.out _ (w.heap.size + 3) (w3.heap.size) d2 B2 (.slice B3 L3.length d3) HJ2.out.2.2 HB8.out HP8.out nq2 (by omega)).mono ?_)
      rintro e v9 ⟨rfl, u4, hB4, ho4, hk4, hx9⟩
      obtain ⟨B4, d4, rfl, _, _⟩ := own_parts2 ho4
      have hz9 := hx9.size
      have p9_0 := hx9.has (nb2 _ (by omega)) p_0
      have p9_1 := hx9.has (nb2 _ (by omega)) p_1
      have p9_2 := hx9.has (nb2 _ (by omega)) p_2
      have p9_3 := hx9.has (nb2 _ (by omega)) p_3
      have r9_0f := hx9.froz (nb2 _ (by omega)) r_0 r_0f
      have r9_0 := hx9.has (nb2 _ (by omega)) r_0
      have r9_1f := hx9.froz (nb2 _ (by omega)) r_1 r_1f
      have r9_1 := hx9.has (nb2 _ (by omega)) r_1
      have H5 := Lib.hid (own_but_set H4.out hx9 nq3 (own_apart H4.out HP8.out cls_pos))
      have X9 := Lib.hid (ext_but X8.out hx9 (fun j hj => by rcases hj with hj | hj; omega; have := HQ.out.2 j hj; omega))
      have H6 := Lib.hid ho4
      have b_0 := hB4.c0
      have b_1 := hB4.c1
      clear ho4 hk4 hx9 hB4 HB8 HP8 H4 X8 p_0 p_1 p_2 p_3 r_0 r_1 r_0f r_1f
      refine' zk hK ((by exact ⟨p9_0, p9_1, p9_2, p9_3⟩)) (fun hHeld => ?_); clear hK K
      refine wpAnyH_done (by kernel_rfl) ?_ _
      go_wp2_with fail
      obtain rfl : R = (L3, L4, JN, 0) := HR.out.trans (HE0.out HX0.out)
      refine bodyPost_ret (v := .tuple #[.agg #[.slice B3 L3.length d3, .slice B4 L4.length d4], .int .u64 JN, .int .i64 0]) (by simp [results, Tryz.results67, go_sem, World.cell?_alloc_past, r9_0, r9_1, r9_0f, r9_1f, b_0, b_1]; try rfl) rfl ⟨_, rfl, holdS_of (b := (w.heap.size + 3)) (by omega) (show World.ownsRow _ (w.heap.size + 3) _ _ _ _ _ from by repeat (first | with_reducible refine own_box ?_ (by omega) | with_reducible refine World.ownsRow.drew ?_ | exact H5.out)) (show World.ownsRow _ (w.heap.size + 3) _ _ _ _ _ from by repeat (first | with_reducible refine own_box ?_ (by omega) | with_reducible refine World.ownsRow.drew ?_ | exact H6.out)) zSlTba3_1⟩
end
section
open Go.RowKit Go.ChangeShapes Go.WideShapes Go.Deep Go.Joins
theorem hleaV_err {cl ps : List I6} {o V S P Q a e : Int} (h : hleaE cl ps o V S P Q a = e) (he : e ≠ 0) : hleaV cl ps o V S P Q a = ([], [], 0, e) := by
 unfold hleaV
 rw [if_neg (by rw [h]; exact he), h]
theorem hleaV_ok {cl ps : List I6} {o V S P Q a : Int} (h : hleaE cl ps o V S P Q a = 0) : hleaV cl ps o V S P Q a = (clsSet cl V S P Q (leaT (fndT cl [V, S, P, Q]) (fndS cl [V, S, P, Q]) a) (leaS (fndT cl [V, S, P, Q]) (fndS cl [V, S, P, Q]) a), posSet ps o V S P Q (hasV ps [o, V, S, P, Q] - a), leaN (fndT cl [V, S, P, Q]) (fndS cl [V, S, P, Q]) a, 0) := if_pos h
theorem hLeave_any (c c2 : Nat) (A A2 : Option Addr) (cl ps : List I6) (O V S P Q a : Int) (w : World) (h : Sl w 6 A cl.length c (cl.flatMap clsC)) (h2 : Sl w 6 A2 ps.length c2 (ps.flatMap posC)) (hn : cl.length < 1099511627776) (hn2 : ps.length < 1099511627776) (hA : A = none → c = 0) (hA2 : A2 = none → c2 = 0) (hw : ∀ x ∈ cl, WdC x) (hw2 : ∀ x ∈ ps, WdP x) (ha : Word a) :
  Calls Tryz.prog 27 #[.agg #[.slice A cl.length c, .slice A2 ps.length c2], .int .i64 O, .agg #[.int .i64 V, .int .i64 S, .int .i64 P, .int .i64 Q], .int .u64 a] w (RetJ (hleaV cl ps O V S P Q a) w) := by
 have C1 := Lib.hid (fun (w' : World) (hx : Ext w w') => hCheck_any cl.length c ps.length c2 A A2 cl ps w' (h.ext hx) (h2.ext hx) hn hn2 hw hw2)
 obtain ⟨R, hR⟩ : ∃ R, R = hleaV cl ps O V S P Q a := ⟨_, rfl⟩
 rw [← hR]
 have HR := Lib.hid hR
 obtain ⟨E, hE⟩ : ∃ E, E = chkH cl ps := ⟨_, rfl⟩
 by_cases he : ¬ E = 0
 ·obtain rfl : R = ([], [], 0, E) := hR.trans (hleaV_err (by unfold hleaE; rw [if_pos (by rw [← hE]; exact he), hE]) he)
  rw [← hE] at C1
  have heb : (E != 0) = true := by simpa using he
  clear h h2 hw hw2 hE hR HR ha hn hn2
  go_enter Tryz.func27, Tryz.ntmps27
  go_wp2_with fail
  (with_reducible refine (C1.out _ zxt).mono ?_)
  rintro e w1 ⟨rfl, hx1⟩
  have c2_0f : w1.frozen? ⟨w.heap.size + 1 + 1, 0, none⟩ = false := hx1.froz (v := .slice none 0 0) zcv zcv
  have c2_1f : w1.frozen? ⟨w.heap.size + 1 + 1, 1, none⟩ = false := hx1.froz (v := .slice none 0 0) zcv zcv
  have c2_0 : w1.cell? ⟨w.heap.size + 1 + 1, 0, none⟩ = some (.slice none 0 0) := hx1.has zcv
  have c2_1 : w1.cell? ⟨w.heap.size + 1 + 1, 1, none⟩ = some (.slice none 0 0) := hx1.has zcv
  have z1 := hx1.size
  try simp at z1
  have rc2 := zr (w.heap.size + 1 + 1) w1
  have X1 : Hid (Ext w w1) := Lib.hid (Ext.trans zxt hx1)
  clear hx1 z1
  go_wp2_with fail
  refine bodyPost_ret (v := .tuple #[.agg #[.slice none 0 0, .slice none 0 0], .int .u64 0, .int .i64 E]) (by simp [results, Tryz.results27, go_sem, World.cell?_alloc_past, *]; try rfl) rfl (RetJ.nil ?_)
  exact zxt
 replace he : E = 0 := by omega
 have hk := (chkH_iff cl ps).1 (hE.symm.trans he)
 have C4 := Lib.hid (fun (w' : World) (hx : Ext w w') => hcopied_any c c2 A A2 cl ps w' (h.ext hx) (h2.ext hx) hn hn2 hA hA2)
 have C5 := Lib.hid (fun (w' : World) (hx : Ext w w') => hFind_any cl.length c ps.length c2 A A2 cl V S P Q w' (h.ext hx))
 have hfw := fnd_word hw [V, S, P, Q]
 obtain ⟨T, hT⟩ : ∃ T, T = fndT cl [V, S, P, Q] := ⟨_, rfl⟩
 obtain ⟨U, hU⟩ : ∃ U, U = fndS cl [V, S, P, Q] := ⟨_, rfl⟩
 obtain ⟨BB, hBB⟩ : ∃ B, B = (getK kC cl [V, S, P, Q]).isSome := ⟨_, rfl⟩
 rw [← hT, ← hU, ← hBB] at C5
 rw [← hT, ← hU] at hfw
 have C6 := Lib.hid (fun w => SLeave_any T U a hfw.1 hfw.2 ha w)
 have hE0 := hleaV_ok (cl := cl) (ps := ps) (o := O) (V := V) (S := S) (P := P) (Q := Q) (a := a)
 rw [← hT, ← hU] at hE0
 obtain ⟨JT, hJT⟩ : ∃ J, J = leaT T U a := ⟨_, rfl⟩
 obtain ⟨JS, hJS⟩ : ∃ J, J = leaS T U a := ⟨_, rfl⟩
 obtain ⟨JN, hJN⟩ : ∃ J, J = leaN T U a := ⟨_, rfl⟩
 obtain ⟨JE, hJE⟩ : ∃ J, J = leaE T U a := ⟨_, rfl⟩
 rw [← hJT, ← hJS, ← hJN, ← hJE] at C6
 obtain ⟨H0, hH0⟩ : ∃ H, H = hasV ps [O, V, S, P, Q] := ⟨_, rfl⟩
 have hHw : 0 ≤ H0 ∧ H0 < 18446744073709551616 := by
  obtain ⟨h6, h7⟩ := hasV_le hw2 O V S P Q
  rw [hk.fnd, ← hU, ← hH0] at h7
  rw [← hH0] at h6
  have := hfw.2.2
  exact ⟨h6, by omega⟩
 rw [← hJT, ← hJS, ← hJN, ← hH0] at hE0
 obtain ⟨L3, hL3⟩ : ∃ L, L = setK kC cl [V, S, P, Q] (optC V S P Q JT JS) := ⟨_, rfl⟩
 obtain ⟨L4, hL4⟩ : ∃ L, L = setK kP ps [O, V, S, P, Q] (optP O V S P Q (H0 - a)) := ⟨_, rfl⟩
 rw [show clsSet cl V S P Q JT JS = L3 from by rw [hL3]; exact (setK_lay kC_len rfl _ hk.sc).symm, show posSet ps O V S P Q (H0 - a) = L4 from by rw [hL4]; exact (setK_lay kP_len rfl _ hk.sp).symm] at hE0
 have C8 := Lib.hid (fun (w' : World) (base q d : Nat) (B : Option Addr) (a1 : Value) hB hO hqo hbase => hbpools_any base q cl.length d B a1 cl V S P Q JT JS w' hB hO hn hk.sc hqo hbase)
 have C9 := Lib.hid (fun (w' : World) (q d : Nat) (B : Option Addr) hh hq => hbhas_any q B ps.length d ps O V S P Q H0 w' hh hn2 hq hk.sp hH0)
 have C10 := Lib.hid (fun (w' : World) (base q d : Nat) (B : Option Addr) (a0 : Value) hp hB hO hqo hbase => hbholds_any base q ps.length d B a0 ps O V S P Q (H0 - a) w' hB hO hn2 hp hk.sp hqo hbase)
 rw [← hL3] at C8
 rw [← hL4] at C10
 have HX := Lib.hid (show (H0 = 0 → hleaE cl ps O V S P Q a = 10) ∧ (H0 ≠ 0 → H0 < a → hleaE cl ps O V S P Q a = 13) ∧ (H0 ≠ 0 → ¬ H0 < a → hleaE cl ps O V S P Q a = JE) from by
  unfold hleaE
  rw [if_neg (by rw [← hE]; simpa using he), ← hT, ← hU, ← hJE, ← hH0]
  refine ⟨fun h1 => ?_, fun h1 h2 => ?_, fun h1 h2 => ?_⟩
  ·rw [if_pos h1]
  ·rw [if_neg h1, if_pos h2]
  ·rw [if_neg h1, if_neg h2])
 have HE0 := Lib.hid hE0
 have a0 := ha.1
 rw [← hE] at C1
 subst he
 have hOw : w.heap.size + 2 < w.heap.size + 3 := by omega
 clear h h2 hw hw2 hE hR ha hA hA2 hk hfw hT hU hBB hE0 hJT hJS hJN hJE hH0 hL3 hL4
 go_enter Tryz.func27, Tryz.ntmps27
 go_wp2_with fail
 (with_reducible refine (C1.out _ zxt).mono ?_)
 rintro e w1 ⟨rfl, hx1⟩
 have c0_0 : w1.cell? ⟨w.heap.size, 0, none⟩ = some (.slice A cl.length c) := hx1.has zcv
 have c0_1 : w1.cell? ⟨w.heap.size, 1, none⟩ = some (.slice A2 ps.length c2) := hx1.has zcv
 have c1_0 : w1.cell? ⟨w.heap.size + 1, 0, none⟩ = some (.int .i64 V) := hx1.has zcv
 have c1_1 : w1.cell? ⟨w.heap.size + 1, 1, none⟩ = some (.int .i64 S) := hx1.has zcv
 have c1_2 : w1.cell? ⟨w.heap.size + 1, 2, none⟩ = some (.int .i64 P) := hx1.has zcv
 have c1_3 : w1.cell? ⟨w.heap.size + 1, 3, none⟩ = some (.int .i64 Q) := hx1.has zcv
 have c2_0f : w1.frozen? ⟨w.heap.size + 1 + 1, 0, none⟩ = false := hx1.froz (v := .slice none 0 0) zcv zcv
 have c2_1f : w1.frozen? ⟨w.heap.size + 1 + 1, 1, none⟩ = false := hx1.froz (v := .slice none 0 0) zcv zcv
 have c2_0 : w1.cell? ⟨w.heap.size + 1 + 1, 0, none⟩ = some (.slice none 0 0) := hx1.has zcv
 have c2_1 : w1.cell? ⟨w.heap.size + 1 + 1, 1, none⟩ = some (.slice none 0 0) := hx1.has zcv
 have z1 := hx1.size
 try simp at z1
 have lt_c0_c1 : w.heap.size < w.heap.size + 1 := by omega
 have ne_c0_c1 : ¬ w.heap.size = w.heap.size + 1 := by omega
 have lt_c0_c2 : w.heap.size < w.heap.size + 1 + 1 := by omega
 have ne_c0_c2 : ¬ w.heap.size = w.heap.size + 1 + 1 := by omega
 have ne_c1_c0 : ¬ w.heap.size + 1 = w.heap.size := by omega
 have lt_c1_c2 : w.heap.size + 1 < w.heap.size + 1 + 1 := by omega
 have ne_c1_c2 : ¬ w.heap.size + 1 = w.heap.size + 1 + 1 := by omega
 have ne_c2_c0 : ¬ w.heap.size + 1 + 1 = w.heap.size := by omega
 have ne_c2_c1 : ¬ w.heap.size + 1 + 1 = w.heap.size + 1 := by omega
 have rc0 := zr w.heap.size w1
 have rc1 := zr (w.heap.size + 1) w1
 have rc2 := zr (w.heap.size + 1 + 1) w1
 have X1 : Hid (Ext w w1) := Lib.hid (Ext.trans zxt hx1)
 clear hx1
 go_wp2_with fail
 (with_reducible refine (C4.out _ zxt).mono ?_)
 rintro e w2 ⟨v, rfl, B, d, B2, d2, rfl, hB, hB2, hO, hP, hx2⟩
 replace c0_0 := zh hx2 c0_0
 replace c0_1 := zh hx2 c0_1
 replace c1_0 := zh hx2 c1_0
 replace c1_1 := zh hx2 c1_1
 replace c1_2 := zh hx2 c1_2
 replace c1_3 := zh hx2 c1_3
 replace c2_0f := zf hx2 c2_0 c2_0f
 replace c2_1f := zf hx2 c2_1 c2_1f
 replace c2_0 := zh hx2 c2_0
 replace c2_1 := zh hx2 c2_1
 have z2 := hx2.size
 try simp at z2
 replace rc0 := zr w.heap.size w2
 replace rc1 := zr (w.heap.size + 1) w2
 replace rc2 := zr (w.heap.size + 1 + 1) w2
 have X2 : Hid (Ext w w2) := Lib.hid (Ext.trans zxt hx2)
 have HO := Lib.hid (show OwnCls _ (w.heap.size + 3) _ _ _ from own_lower hO (by first | omega | (simp; done) | (simp; omega)))
 have HP := Lib.hid (show OwnPos _ (w.heap.size + 3) _ _ _ from own_lower hP (by first | omega | (simp; done) | (simp; omega)))
 clear X1 hx2
 have HQ := Lib.hid (And.intro (ob_lt HO.out) (ob_lt HP.out))
 clear hO hP
 go_wp2_with fail
 (with_reducible refine (C9.out _ (w2.heap.size) d2 B2 (OwnPos.sl (HP.out.ext zxt)) (by simp [go_sem, World.cell?_alloc_past])).mono ?_)
 rintro e w3 ⟨rfl, hx3⟩
 replace c0_0 := zh hx3 c0_0
 replace c0_1 := zh hx3 c0_1
 replace c1_0 := zh hx3 c1_0
 replace c1_1 := zh hx3 c1_1
 replace c1_2 := zh hx3 c1_2
 replace c1_3 := zh hx3 c1_3
 replace c2_0f := zf hx3 c2_0 c2_0f
 replace c2_1f := zf hx3 c2_1 c2_1f
 replace c2_0 := zh hx3 c2_0
 replace c2_1 := zh hx3 c2_1
 have c3_0f : w3.frozen? ⟨w2.heap.size, 0, none⟩ = false := hx3.froz (v := .slice B cl.length d) zcv zcv
 have c3_1f : w3.frozen? ⟨w2.heap.size, 1, none⟩ = false := hx3.froz (v := .slice B2 ps.length d2) zcv zcv
 have c3_0 : w3.cell? ⟨w2.heap.size, 0, none⟩ = some (.slice B cl.length d) := hx3.has zcv
 have c3_1 : w3.cell? ⟨w2.heap.size, 1, none⟩ = some (.slice B2 ps.length d2) := hx3.has zcv
 have z3 := hx3.size
 try simp at z3
 have lt_c0_c3 : w.heap.size < w2.heap.size := by omega
 have ne_c0_c3 : ¬ w.heap.size = w2.heap.size := by omega
 have lt_c1_c3 : w.heap.size + 1 < w2.heap.size := by omega
 have ne_c1_c3 : ¬ w.heap.size + 1 = w2.heap.size := by omega
 have lt_c2_c3 : w.heap.size + 1 + 1 < w2.heap.size := by omega
 have ne_c2_c3 : ¬ w.heap.size + 1 + 1 = w2.heap.size := by omega
 have ne_c3_c0 : ¬ w2.heap.size = w.heap.size := by omega
 have ne_c3_c1 : ¬ w2.heap.size = w.heap.size + 1 := by omega
 have ne_c3_c2 : ¬ w2.heap.size = w.heap.size + 1 + 1 := by omega
 replace rc0 := zr w.heap.size w3
 replace rc1 := zr (w.heap.size + 1) w3
 replace rc2 := zr (w.heap.size + 1 + 1) w3
 have rc3 := zr w2.heap.size w3
 replace HO := Lib.hid (HO.out.ext (Ext.trans zxt hx3))
 replace HP := Lib.hid (HP.out.ext (Ext.trans zxt hx3))
 have X3 : Hid (Ext w w3) := Lib.hid (Ext.trans zxt hx3)
 clear X2 hx3
 by_cases q2 : H0 = 0
 ·have q2b : (H0 == 0) = true := by simp [q2]
  obtain rfl : R = ([], [], 0, 10) := HR.out.trans (hleaV_err (HX.out.1 q2) (by first | decide | assumption))
  go_wp2_with fail
  refine bodyPost_ret (v := .tuple #[.agg #[.slice none 0 0, .slice none 0 0], .int .u64 0, .int .i64 10]) (by simp [results, Tryz.results27, go_sem, World.cell?_alloc_past, *]; try rfl) rfl (RetJ.nil ?_)
  exact zxt
 ·have q2b : (H0 == 0) = false := by simpa using q2
  by_cases q4 : H0 < a
  ·have q4b : decide (H0 < a) = true := decide_eq_true q4
   obtain rfl : R = ([], [], 0, 13) := HR.out.trans (hleaV_err (HX.out.2.1 q2 q4) (by first | decide | assumption))
   go_wp2_with fail
   refine bodyPost_ret (v := .tuple #[.agg #[.slice none 0 0, .slice none 0 0], .int .u64 0, .int .i64 13]) (by simp [results, Tryz.results27, go_sem, World.cell?_alloc_past, *]; try rfl) rfl (RetJ.nil ?_)
   exact zxt
  ·have q4b : decide (H0 < a) = false := decide_eq_false q4
   have hwa : IntKind.u64.wrap (H0 - a) = H0 - a := IntWalk.u64_in _ (by omega)
   have hp0 : 0 ≤ H0 - a := by omega
   go_wp2_with fail
   (with_reducible refine (C5.out _ zxt).mono ?_)
   rintro e w4 ⟨rfl, hx4⟩
   replace c1_0 := zh hx4 c1_0
   replace c1_1 := zh hx4 c1_1
   replace c1_2 := zh hx4 c1_2
   replace c1_3 := zh hx4 c1_3
   replace c2_0f := zf hx4 c2_0 c2_0f
   replace c2_1f := zf hx4 c2_1 c2_1f
   replace c2_0 := zh hx4 c2_0
   replace c2_1 := zh hx4 c2_1
   replace c3_0f := zf hx4 c3_0 c3_0f
   replace c3_1f := zf hx4 c3_1 c3_1f
   replace c3_0 := zh hx4 c3_0
   replace c3_1 := zh hx4 c3_1
   have z4 := hx4.size
   try simp at z4
   replace rc1 := zr (w.heap.size + 1) w4
   replace rc2 := zr (w.heap.size + 1 + 1) w4
   replace rc3 := zr w2.heap.size w4
   replace HO := Lib.hid (HO.out.ext (Ext.trans zxt hx4))
   replace HP := Lib.hid (HP.out.ext (Ext.trans zxt hx4))
   have X4 : Hid (Ext w w4) := Lib.hid (Ext.trans zxt hx4)
   clear c0_0 c0_1 rc0 X3 hx4
   go_wp2_with fail
   (with_reducible refine (C6.out _).mono ?_)
   rintro e w5 ⟨rfl, hx5⟩
   replace c1_0 := zh hx5 c1_0
   replace c1_1 := zh hx5 c1_1
   replace c1_2 := zh hx5 c1_2
   replace c1_3 := zh hx5 c1_3
   replace c2_0f := zf hx5 c2_0 c2_0f
   replace c2_1f := zf hx5 c2_1 c2_1f
   replace c2_0 := zh hx5 c2_0
   replace c2_1 := zh hx5 c2_1
   replace c3_0f := zf hx5 c3_0 c3_0f
   replace c3_1f := zf hx5 c3_1 c3_1f
   replace c3_0 := zh hx5 c3_0
   replace c3_1 := zh hx5 c3_1
   have c4_0 : w5.cell? ⟨w4.heap.size, 0, none⟩ = some (.int .u64 T) := hx5.has zcv
   have c4_1 : w5.cell? ⟨w4.heap.size, 1, none⟩ = some (.int .u64 U) := hx5.has zcv
   have z5 := hx5.size
   try simp at z5
   have lt_c1_c4 : w.heap.size + 1 < w4.heap.size := by omega
   have ne_c1_c4 : ¬ w.heap.size + 1 = w4.heap.size := by omega
   have lt_c2_c4 : w.heap.size + 1 + 1 < w4.heap.size := by omega
   have ne_c2_c4 : ¬ w.heap.size + 1 + 1 = w4.heap.size := by omega
   have lt_c3_c4 : w2.heap.size < w4.heap.size := by omega
   have ne_c3_c4 : ¬ w2.heap.size = w4.heap.size := by omega
   have ne_c4_c1 : ¬ w4.heap.size = w.heap.size + 1 := by omega
   have ne_c4_c2 : ¬ w4.heap.size = w.heap.size + 1 + 1 := by omega
   have ne_c4_c3 : ¬ w4.heap.size = w2.heap.size := by omega
   replace rc1 := zr (w.heap.size + 1) w5
   replace rc2 := zr (w.heap.size + 1 + 1) w5
   replace rc3 := zr w2.heap.size w5
   have rc4 := zr w4.heap.size w5
   replace HO := Lib.hid (HO.out.ext (Ext.trans zxt hx5))
   replace HP := Lib.hid (HP.out.ext (Ext.trans zxt hx5))
   have X5 : Hid (Ext w w5) := Lib.hid (Ext.trans zxt hx5)
   clear X4 hx5
   by_cases q5 : ¬ JE = 0
   ·have q5b : (JE != 0) = true := by simp [q5]
    obtain rfl : R = ([], [], 0, JE) := HR.out.trans (hleaV_err (HX.out.2.2 q2 q4) (by first | decide | assumption))
    have q4 := q4
    go_wp2_with fail
    refine bodyPost_ret (v := .tuple #[.agg #[.slice none 0 0, .slice none 0 0], .int .u64 0, .int .i64 JE]) (by simp [results, Tryz.results27, go_sem, World.cell?_alloc_past, *]; try rfl) rfl (RetJ.nil ?_)
    exact zxt
   ·have q5b : (JE != 0) = false := by simpa using q5
    have q5c : JE = 0 := by omega
    have HX0 := Lib.hid ((HX.out.2.2 q2 q4).trans q5c)
    have XK := X5
    have hqk : w2.heap.size < w5.heap.size := by omega
    have hqq : w.heap.size + 3 ≤ w2.heap.size := by omega
    have nq : ∀ j, (Value.slice B cl.length d).ownBlock = some j → ¬ j = w2.heap.size := fun j hj => by have := HQ.out.1 j hj; omega
    have nq2 : ∀ j, (Value.slice B2 ps.length d2).ownBlock = some j → ¬ j = w2.heap.size := fun j hj => by have := HQ.out.2 j hj; omega
    have np : ∀ j, (Value.slice B2 ps.length d2).ownBlock = some j → ¬ (Value.slice B cl.length d).ownBlock = some j := own_apart HP.out HO.out (fun e => cls_pos e.symm)
    have nb : ∀ j, j < w.heap.size + 3 → ¬ (j = w2.heap.size ∨ (Value.slice B cl.length d).ownBlock = some j) := fun j hj hh => by rcases hh with hh | hh; omega; have := HQ.out.1 j hh; omega
    have nb2 : ∀ j, j < w.heap.size + 3 → ¬ (j = w2.heap.size ∨ (Value.slice B2 ps.length d2).ownBlock = some j) := fun j hj hh => by rcases hh with hh | hh; omega; have := HQ.out.2 j hh; omega
    go_wp2_with fail
    generalize hw6 : w5.alloc (.cells #[.int .u64 JT, .int .u64 JS] 61) = w6
    have hx6 : Ext w5 w6 := by rw [← hw6]; exact (Ext.refl _).alloc _
    clear hw6
    have hz6 := Ext.size hx6
    replace c1_0 := hx6.has c1_0
    replace c1_1 := hx6.has c1_1
    replace c1_2 := hx6.has c1_2
    replace c1_3 := hx6.has c1_3
    replace c2_0f := hx6.froz c2_0 c2_0f
    replace c2_0 := hx6.has c2_0
    replace c3_0f := hx6.froz c3_0 c3_0f
    replace c3_0 := hx6.has c3_0
    replace c2_1f := hx6.froz c2_1 c2_1f
    replace c2_1 := hx6.has c2_1
    replace c3_1f := hx6.froz c3_1 c3_1f
    replace c3_1 := hx6.has c3_1
    replace HO := Lib.hid (OwnCls.ext HO.out hx6)
    replace HP := Lib.hid (OwnPos.ext HP.out hx6)
    replace XK := Lib.hid (Ext.trans XK.out hx6)
    clear hx6
    (with_reducible refine (C8.out _ (w.heap.size + 3) (w2.heap.size) d B (.slice B2 ps.length d2) ⟨c3_0, c3_0f, c3_1, c3_1f⟩ HO.out nq (by omega)).mono ?_)
    rintro e v7 ⟨rfl, u3, hB3, ho3, hk3, hx7⟩
    obtain ⟨B3, d3, rfl, _, _⟩ := own_parts2 ho3
    have hz7 := hx7.size
    have p_0 := hx7.has (nb _ (by omega)) c1_0
    have p_1 := hx7.has (nb _ (by omega)) c1_1
    have p_2 := hx7.has (nb _ (by omega)) c1_2
    have p_3 := hx7.has (nb _ (by omega)) c1_3
    have r_0f := hx7.froz (nb _ (by omega)) c2_0 c2_0f
    have r_0 := hx7.has (nb _ (by omega)) c2_0
    have r_1f := hx7.froz (nb _ (by omega)) c2_1 c2_1f
    have r_1 := hx7.has (nb _ (by omega)) c2_1
    have HP7 := Lib.hid (show OwnPos _ _ _ _ _ from own_but_set HP.out hx7 nq2 np)
    have X7 := Lib.hid (ext_but XK.out hx7 (fun j hj => by rcases hj with hj | hj; omega; have := HQ.out.1 j hj; omega))
    have nq3 : ∀ j, (Value.slice B3 L3.length d3).ownBlock = some j → ¬ j = w2.heap.size := fun j hj => by rcases hk3 j hj with hh | hh; exact nq j hh; omega
    have H3 := Lib.hid ho3
    have HB3 := Lib.hid hB3
    have b_1 := hB3.c1
    clear ho3 hk3 hx7 hB3 HP HO c3_0 c3_0f c3_1 c3_1f c1_0 c1_1 c1_2 c1_3 c2_0 c2_1 c2_0f c2_1f
    go_wp2_with fail
    have HP8 := HP7
    have H4 := H3
    have HB8 := HB3
    have X8 := X7
    clear HP7 H3 HB3 X7 b_1
    (with_reducible refine (C10.out _ (w.heap.size + 3) (w2.heap.size) d2 B2 (.slice B3 L3.length d3) hp0 HB8.out HP8.out nq2 (by omega)).mono ?_)
    rintro e v9 ⟨rfl, u4, hB4, ho4, hk4, hx9⟩
    obtain ⟨B4, d4, rfl, _, _⟩ := own_parts2 ho4
    have hz9 := hx9.size
    have p9_0 := hx9.has (nb2 _ (by omega)) p_0
    have p9_1 := hx9.has (nb2 _ (by omega)) p_1
    have p9_2 := hx9.has (nb2 _ (by omega)) p_2
    have p9_3 := hx9.has (nb2 _ (by omega)) p_3
    have r9_0f := hx9.froz (nb2 _ (by omega)) r_0 r_0f
    have r9_0 := hx9.has (nb2 _ (by omega)) r_0
    have r9_1f := hx9.froz (nb2 _ (by omega)) r_1 r_1f
    have r9_1 := hx9.has (nb2 _ (by omega)) r_1
    have H5 := Lib.hid (own_but_set H4.out hx9 nq3 (own_apart H4.out HP8.out cls_pos))
    have X9 := Lib.hid (ext_but X8.out hx9 (fun j hj => by rcases hj with hj | hj; omega; have := HQ.out.2 j hj; omega))
    have H6 := Lib.hid ho4
    have b_0 := hB4.c0
    have b_1 := hB4.c1
    clear ho4 hk4 hx9 hB4 HB8 HP8 H4 X8 p_0 p_1 p_2 p_3 r_0 r_1 r_0f r_1f
    go_wp2_with fail
    obtain rfl : R = (L3, L4, JN, 0) := HR.out.trans (HE0.out HX0.out)
    refine bodyPost_ret (v := .tuple #[.agg #[.slice B3 L3.length d3, .slice B4 L4.length d4], .int .u64 JN, .int .i64 0]) (by simp [results, Tryz.results27, go_sem, World.cell?_alloc_past, r9_0, r9_1, r9_0f, r9_1f, b_0, b_1]; try rfl) rfl ⟨_, rfl, holdS_of (b := (w.heap.size + 3)) (by omega) (show World.ownsRow _ (w.heap.size + 3) _ _ _ _ _ from by repeat (first | with_reducible refine own_box ?_ (by omega) | with_reducible refine World.ownsRow.drew ?_ | exact H5.out)) (show World.ownsRow _ (w.heap.size + 3) _ _ _ _ _ from by repeat (first | with_reducible refine own_box ?_ (by omega) | with_reducible refine World.ownsRow.drew ?_ | exact H6.out)) zSlTba3_1⟩
end
section
open Go.RowKit
theorem flat_set {α : Type} {f : α → List Value} {sz : Nat} (hf : ∀ x, (f x).length = sz) (l : List α) (k j : Nat) (x y : α) (v : Value) (h : l[k]? = some x) (hj : j < sz) (hy : f y = (f x).set j v) : (l.flatMap f).set (k * sz + j) v = (l.set k y).flatMap f := by
 obtain ⟨hk, hx⟩ := List.getElem?_eq_some_iff.1 h
 have e : l = l.take k ++ x :: l.drop (k + 1) := by rw [← hx, ← List.drop_eq_getElem_cons hk, List.take_append_drop]
 have hp : (l.take k).length = k := by rw [List.length_take]; omega
 have hq : ((l.take k).flatMap f).length = k * sz := by rw [flat_len hf, hp]
 have e2 : l.set k y = l.take k ++ y :: l.drop (k + 1) := by
  rw [List.set_eq_take_append_cons_drop, if_pos hk]
 rw [e2]
 generalize l.take k = a at *
 generalize l.drop (k + 1) = b at *
 subst e
 rw [List.flatMap_append, List.flatMap_append, ← hq, List.set_append_right _ _ (by omega), Nat.add_sub_cancel_left, List.flatMap_cons, List.flatMap_cons, List.set_append_left _ _ (by rw [hf]; exact hj), hy]
def Cur {α : Type} (e : TypeId) (f : α → List Value) (sz : Nat) (w : World) (base g n c : Nat) (l : List α) (k : Nat) (x : α) : Prop :=
 w.ownsRow base e sz (.slice (some ⟨g, 0, none⟩) n c) n ((l.set k x).flatMap f) ∧ k < l.length ∧ l.length = n
section
variable {α : Type} {e : TypeId} {f : α → List Value} {sz : Nat} {w w' : World} {base g n c k : Nat} {l : List α} {x y : α}
theorem Cur.mk (h : w.ownsRow base e sz (.slice (some ⟨g, 0, none⟩) n c) n (l.flatMap f)) (hk : l[k]? = some x) (hn : l.length = n) : Cur e f sz w base g n c l k x := by
 obtain ⟨h1, h2⟩ := List.getElem?_eq_some_iff.1 hk
 refine ⟨?_, h1, hn⟩
 rw [← h2, List.set_getElem_self]
 exact h
theorem Cur.at_ (h : Cur e f sz w base g n c l k x) : (l.set k x)[k]? = some x := by
 rw [List.getElem?_set_self h.2.1]
theorem Cur.lt (hf : ∀ x, (f x).length = sz) (h : Cur e f sz w base g n c l k x) {j : Nat} (hj : j < sz) : k * sz + j < n * sz := by
 have h1 := h.2.1
 have h2 := h.2.2
 have : (k + 1) * sz ≤ n * sz := Nat.mul_le_mul_right _ (by omega)
 rw [Nat.add_mul, Nat.one_mul] at this
 omega
theorem Cur.cell (hf : ∀ x, (f x).length = sz) (h : Cur e f sz w base g n c l k x) {j : Nat} {v : Value} (hj : (f x)[j]? = some v) : w.cell? ⟨g, k * sz + j, none⟩ = some v := by
 have hj2 : j < sz := by have := (List.getElem?_eq_some_iff.1 hj).1; rw [hf] at this; exact this
 rw [World.ownsRow.cellAt h.1 (k * sz + j) (Cur.lt hf h hj2), flat_get hf _ k j x h.at_ hj2]
 exact hj
theorem Cur.froz (h : Cur e f sz w base g n c l k x) (j : Nat) : w.frozen? ⟨g, k * sz + j, none⟩ = false := World.ownsRow.frozenAt h.1 _
theorem Cur.ext (h : Cur e f sz w base g n c l k x) (hx : Ext w w') : Cur e f sz w' base g n c l k x := ⟨own_keep h.1 hx, h.2⟩
theorem Cur.drew (h : Cur e f sz w base g n c l k x) : Cur e f sz w.drew base g n c l k x := h.ext ((Ext.refl w).drew)
theorem Cur.drewN (h : Cur e f sz w base g n c l k x) (m : Nat) : Cur e f sz (w.drewN m) base g n c l k x := h.ext ((Ext.refl w).drewN m)
theorem Cur.put (hf : ∀ x, (f x).length = sz) (h : Cur e f sz w base g n c l k x) (j : Nat) (v : Value) (y : α) (hj : j < sz) (hy : f y = (f x).set j v) : Cur e f sz (w.setCell ⟨g, k * sz + j, none⟩ v) base g n c l k y := by
 have h1 := (World.ownsRow.stored h.1 (k * sz + j) v).1
 rw [flat_set hf _ k j x y v h.at_ hj hy, List.set_set] at h1
 exact ⟨h1, h.2⟩
theorem Cur.own (h : Cur e f sz w base g n c l k x) : w.ownsRow base e sz (.slice (some ⟨g, 0, none⟩) n c) n ((l.set k x).flatMap f) := h.1
end
end
section
open Go.RowKit
def FltNz (f : Option (Int × Int)) : Prop := ∀ x, f = some x → ¬ x.1 = 0
theorem FltNz.none : FltNz none := fun x h => by cases h
theorem FltNz.fail {f : Option (Int × Int)} (h : FltNz f) (e a : Int) : FltNz (failF f e a) := by
 intro x hx
 cases f with
 | some y => exact h x (by simpa [failF] using hx)
 | none =>
  unfold failF at hx
  simp at hx
  obtain ⟨h1, rfl⟩ := hx
  exact h1
end
section
open Go.RowKit
def fltE (f : Option (Int × Int)) : Int := match f with | some x => x.1 | none => 0
def fltA (f : Option (Int × Int)) : Int := match f with | some x => x.2 | none => 0
structure RRd (w : World) (g : Nat) (L : List Nat) (k : Nat) (flt : Option (Int × Int)) : Prop where
 b : ∃ A c, w.cell? ⟨g, 0, none⟩ = some (.slice A L.length c) ∧ Sl w 1 A L.length c (by_ L) ∧ ∀ b o s, A = some ⟨b, o, s⟩ → b < g ∧ o = 0
 c1 : ∃ t : Nat, w.cell? ⟨g, 1, none⟩ = some (.int .i64 (t : Int)) ∧ t ≤ L.length ∧ (flt = none → t = k)
 c2 : w.cell? ⟨g, 2, none⟩ = some (.int .i64 (fltE flt))
 c3 : w.cell? ⟨g, 3, none⟩ = some (.int .i64 (fltA flt))
 f1 : w.frozen? ⟨g, 1, none⟩ = false
 f2 : w.frozen? ⟨g, 2, none⟩ = false
 f3 : w.frozen? ⟨g, 3, none⟩ = false
 lt : g < w.heap.size
 le : k ≤ L.length
 byt : Byt L
 nz : FltNz flt
 ty : ∃ cs z, w.heap[g]? = some (.cells cs 159 z)
theorem RRd.keep {w w' : World} {g k : Nat} {L : List Nat} {flt : Option (Int × Int)} (h : RRd w g L k flt) (hb : Below w.heap.size w w') : RRd w' g L k flt := by
 obtain ⟨A, c, h0, h1, h2⟩ := h.b
 obtain ⟨t, h3, h4, h5⟩ := h.c1
 obtain ⟨cs, z, h6⟩ := h.ty
 have cl : ∀ o, w'.cell? ⟨g, o, none⟩ = w.cell? ⟨g, o, none⟩ := fun o => hb.cell (p := ⟨g, o, none⟩) h.lt
 have fl : ∀ o, w'.frozen? ⟨g, o, none⟩ = w.frozen? ⟨g, o, none⟩ := fun o => hb.frozen (p := ⟨g, o, none⟩) h.lt
 exact ⟨⟨A, c, (cl 0).trans h0, h1.ext hb, h2⟩, ⟨t, (cl 1).trans h3, h4, h5⟩, (cl 2).trans h.c2, (cl 3).trans h.c3, (fl 1).trans h.f1, (fl 2).trans h.f2, (fl 3).trans h.f3, by have := h.lt; have := hb.size; omega, h.le, h.byt, h.nz, cs, z, (hb.block g h.lt).trans h6⟩
theorem RRd.drewN {w : World} {g k : Nat} {L : List Nat} {flt : Option (Int × Int)} (h : RRd w g L k flt) (n : Nat) : RRd (w.drewN n) g L k flt := h.keep (below_drewN (Below.refl _ _) n)
theorem RRd.ext {w w' : World} {g k : Nat} {L : List Nat} {flt : Option (Int × Int)} (h : RRd w g L k flt) (hb : Ext w w') : RRd w' g L k flt := h.keep hb
theorem heap_type_set {w : World} {p : Addr} {v : Value} {cs : Array Value} {t : TypeId} {z : Nat × Nat} {g : Nat} (h : w.heap[g]? = some (.cells cs t z)) : ∃ cs' z', (w.setCell p v).heap[g]? = some (.cells cs' t z') := by
 by_cases e : p.block = g
 ·subst e
  unfold World.setCell
  simp only [Array.getElem?_modify, if_true, h, Option.map_some]
  exact ⟨_, _, rfl⟩
 ·exact ⟨cs, z, by rw [Below.heap_setCell _ _ _ _ (fun h => e h.symm)]; exact h⟩
end
section
open Go.RowKit
structure RWr (w : World) (g : Nat) (lim err : Int) (L : List Nat) : Prop where
 b : ∃ A c, w.cell? ⟨g, 1, none⟩ = some (.slice A L.length c) ∧ w.ownsRow (g + 1) 5 1 (.slice A L.length c) L.length (by_ L)
 c0 : w.cell? ⟨g, 0, none⟩ = some (.int .i64 lim)
 c2 : w.cell? ⟨g, 2, none⟩ = some (.int .i64 err)
 f1 : w.frozen? ⟨g, 1, none⟩ = false
 f2 : w.frozen? ⟨g, 2, none⟩ = false
 lt : g < w.heap.size
 short : L.length ≤ 1048576
 l0 : 0 ≤ lim
 l1 : lim ≤ 1048576
theorem RWr.keep {w w' : World} {g : Nat} {lim err : Int} {L : List Nat} (h : RWr w g lim err L) (hb : Ext w w') : RWr w' g lim err L := by
 obtain ⟨A, c, h0, h1⟩ := h.b
 have cl : ∀ o, w'.cell? ⟨g, o, none⟩ = w.cell? ⟨g, o, none⟩ := fun o => Below.cell hb (p := ⟨g, o, none⟩) h.lt
 have fl : ∀ o, w'.frozen? ⟨g, o, none⟩ = w.frozen? ⟨g, o, none⟩ := fun o => Below.frozen hb (p := ⟨g, o, none⟩) h.lt
 have hs := hb.size
 exact ⟨⟨A, c, (cl 1).trans h0, own_keep h1 hb⟩, (cl 0).trans h.c0, (cl 2).trans h.c2, (fl 1).trans h.f1, (fl 2).trans h.f2, by have := h.lt; omega, h.short, h.l0, h.l1⟩
theorem RWr.ext {w w' : World} {g : Nat} {lim err : Int} {L : List Nat} (h : RWr w g lim err L) (hb : Ext w w') : RWr w' g lim err L := h.keep hb
end
section
open Go.RowKit
theorem RRd.set {w : World} {g k : Nat} {L : List Nat} {f : Option (Int × Int)} (h : RRd w g L k f) {b o : Nat} (hg : g < b) (v : Value) : RRd (w.setCell ⟨b, o, none⟩ v) g L k f := by
 obtain ⟨A, c, h0, h1, h2⟩ := h.b
 obtain ⟨t, h3, h4, h5⟩ := h.c1
 obtain ⟨cs, z, h6⟩ := h.ty
 obtain ⟨cs1, z1, h7⟩ := heap_type_set (p := ⟨b, o, none⟩) (v := v) h6
 have cl : ∀ q, (w.setCell ⟨b, o, none⟩ v).cell? ⟨g, q, none⟩ = w.cell? ⟨g, q, none⟩ := fun q => cell_set_other (.inl (by omega))
 have fl : ∀ q, (w.setCell ⟨b, o, none⟩ v).frozen? ⟨g, q, none⟩ = w.frozen? ⟨g, q, none⟩ := fun q => by simp
 exact ⟨⟨A, c, (cl 0).trans h0, h1.setOther fun b' o' s e => by have := (h2 b' o' s e).1; omega, h2⟩, ⟨t, (cl 1).trans h3, h4, h5⟩, (cl 2).trans h.c2, (cl 3).trans h.c3, (fl 1).trans h.f1, (fl 2).trans h.f2, (fl 3).trans h.f3, by simpa using h.lt, h.le, h.byt, h.nz, cs1, z1, h7⟩
end
section
open Go.RowKit
def SlB (B : Nat) (w : World) (sz : Nat) (A : Option Addr) (n c : Nat) (xs : List Value) : Prop := Sl w sz A n c xs ∧ (0 < n → ∀ b o s, A = some ⟨b, o, s⟩ → b < B)
section
variable {B : Nat} {S : Nat → Prop} {w w' : World} {sz n c : Nat} {A : Option Addr} {xs : List Value}
theorem SlB.sl (h : SlB B w sz A n c xs) : Sl w sz A n c xs := h.1
theorem Sl.low (h : Sl w sz A n c xs) : SlB w.heap.size w sz A n c xs := by
 refine ⟨h, fun hn b o s e => ?_⟩
 obtain ⟨b', o', e', hb, _⟩ := h.at_ hn
 rw [e] at e'
 injection e' with e'
 injection e' with e1
 omega
theorem SlB.ext (h : SlB B w sz A n c xs) (hx : Ext w w') : SlB B w' sz A n c xs := ⟨h.1.ext hx, h.2⟩
theorem SlB.but (h : SlB B w sz A n c xs) (hx : But S w w') (hs : ∀ k, S k → B ≤ k) : SlB B w' sz A n c xs := by
 refine ⟨⟨h.1.1, h.1.2.1, h.1.2.2.1, fun hn => ?_⟩, h.2⟩
 obtain ⟨b, o, e, hb, hc⟩ := h.1.at_ hn
 have hS : ¬ S b := fun hs' => by have := hs b hs'; have := h.2 hn b o none e; omega
 exact ⟨b, o, e, by have := hx.size; omega, fun j u hu => hx.has hS (hc j u hu)⟩
end
end
section
open Go.RowKit
def Sg (w : World) (g o : Nat) (k : Nat) : Prop := k = g ∨ ∃ n c, w.cell? ⟨g, o, none⟩ = some (.slice (some ⟨k, 0, none⟩) n c)
structure WF (g o : Nat) (w w' : World) : Prop where
 but : But (Sg w g o) w w'
 row : ∀ k, k < w.heap.size → Sg w' g o k → Sg w g o k
theorem Sg.congr {w w' : World} {g o : Nat} (h : w'.cell? ⟨g, o, none⟩ = w.cell? ⟨g, o, none⟩) {k : Nat} : Sg w' g o k ↔ Sg w g o k := by unfold Sg; rw [h]
theorem WF.same {g o : Nat} {w w' : World} (hb : But (Sg w g o) w w') (h : w'.cell? ⟨g, o, none⟩ = w.cell? ⟨g, o, none⟩) : WF g o w w' := ⟨hb, fun k _ hk => (Sg.congr h).1 hk⟩
theorem WF.refl (g o : Nat) (w : World) : WF g o w w := ⟨But.refl _ _, fun _ _ h => h⟩
theorem WF.trans {g o : Nat} {a b c : World} (h : WF g o a b) (k : WF g o b c) : WF g o a c :=
  ⟨⟨k.but.os.trans h.but.os, k.but.tape.trans h.but.tape, k.but.output.trans h.but.output, Nat.le_trans h.but.size k.but.size, fun i hi hs =>
    (k.but.block i (by have := h.but.size; omega) (fun hh => hs (h.row i hi hh))).trans (h.but.block i hi hs)⟩,
   fun i hi hk => h.row i hi (k.row i (by have := h.but.size; omega) hk)⟩
theorem WF.ofExt {g o : Nat} {w w' : World} (h : Ext w w') (hg : g < w.heap.size) : WF g o w w' := WF.same (But.ofExt h) (h.cells.1 g o hg)
theorem Sg.lt {w : World} {g o : Nat} {A : Option Addr} {n c base : Nat} {L : List Nat} (hc : w.cell? ⟨g, o, none⟩ = some (.slice A n c)) (h : w.ownsRow base 5 1 (.slice A n c) n (by_ L)) (hg : g < w.heap.size) {k : Nat} (hk : Sg w g o k) : k < w.heap.size := by
 rcases hk with rfl | ⟨n', c', e⟩
 ·exact hg
 ·rw [hc] at e
  injection e with e
  injection e with e1
  subst e1
  exact (h.lt k rfl).2
end
section
open Go.RowKit
theorem Wr.ext {w w' : World} {g : Nat} {lim err : Int} {L : List Nat} (h : Wr w g lim err L) (hb : Ext w w') : Wr w' g lim err L := h.keep hb
theorem Rd.ext {w w' : World} {g k : Nat} {L : List Nat} {flt : Option (Int × Int)} (h : Rd w g L k flt) (hb : Ext w w') : Rd w' g L k flt := h.keep hb
def Off (w : World) (g o q : Nat) : Prop := g < w.heap.size ∧ q < w.heap.size ∧ ¬ Sg w g o q
theorem Off.ext {w w' : World} {g o q : Nat} (h : Off w g o q) (hx : Ext w w') : Off w' g o q :=
 ⟨by have := h.1; have := hx.size; omega, by have := h.2.1; have := hx.size; omega, fun hs => h.2.2 ((Sg.congr (hx.cells.1 g o h.1)).1 hs)⟩
end
section
open Go.RowKit
section
variable {S : Nat → Prop} {w w' : World} {g k n q B : Nat} {L : List Nat} {flt : Option (Int × Int)} {base sz : Nat} {e : TypeId} {v : Value} {xs : List Value}
theorem Sl.butAll {A : Option Addr} {m c : Nat} (h : Sl w sz A m c xs) (hx : But S w w') (hS : ∀ b o s, A = some ⟨b, o, s⟩ → ¬ S b) : Sl w' sz A m c xs := by
 refine ⟨h.1, h.2.1, h.2.2.1, fun hn => ?_⟩
 obtain ⟨b, o, e, hb, hc⟩ := h.at_ hn
 exact ⟨b, o, e, by have := hx.size; omega, fun j u hu => hx.has (hS b o none e) (hc j u hu)⟩
theorem Rd.butT (h : Rd w g L k flt) (hx : But S w w') (hS : ∀ j, j < w.heap.size → S j → g < j ∧ ∀ cs z, w.heap[j]? ≠ some (.cells cs 95 z)) : Rd w' g L k flt := by
 obtain ⟨A, c, h0, h1, h2⟩ := h.b
 obtain ⟨v, h3, h4⟩ := h.c3
 have hg : ¬ S g := fun hs => by have := (hS g h.lt hs).1; omega
 have cl : ∀ o, w'.cell? ⟨g, o, none⟩ = w.cell? ⟨g, o, none⟩ := fun o => hx.cell h.lt hg
 have fl : ∀ o, w'.frozen? ⟨g, o, none⟩ = w.frozen? ⟨g, o, none⟩ := fun o => hx.frozen h.lt hg
 refine ⟨⟨A, c, (cl 0).trans h0, h1.butAll hx (fun b o s e hs => ?_), h2⟩, (cl 1).trans h.c1, (cl 2).trans h.c2, ⟨v, (cl 3).trans h3, ?_⟩, (fl 1).trans h.f1, (fl 3).trans h.f3, by have := h.lt; have := hx.size; omega, h.le, h.byt⟩
 ·have hb := h2 b o s e
  have := (hS b (by have := h.lt; omega) hs).1
  omega
 ·match flt, h4 with
  | none, h4 => exact h4
  | some (e, a), ⟨fb, h1, h2, h3, h4, cs, z, h5⟩ =>
   have hf : ¬ S fb := fun hs => (hS fb h2.2 hs).2 cs z h5
   exact ⟨fb, h1, ⟨h2.1, by have := hx.size; omega⟩, (hx.cell h2.2 hf).trans h3, (hx.cell h2.2 hf).trans h4, cs, z, (hx.block fb h2.2 hf).trans h5⟩
theorem RRd.butT (h : RRd w g L k flt) (hx : But S w w') (hS : ∀ j, j < w.heap.size → S j → g < j) : RRd w' g L k flt := by
 obtain ⟨A, c, h0, h1, h2⟩ := h.b
 obtain ⟨t, h3, h4, h5⟩ := h.c1
 obtain ⟨cs, z, h6⟩ := h.ty
 have hg : ¬ S g := fun hs => by have := hS g h.lt hs; omega
 have cl : ∀ o, w'.cell? ⟨g, o, none⟩ = w.cell? ⟨g, o, none⟩ := fun o => hx.cell h.lt hg
 have fl : ∀ o, w'.frozen? ⟨g, o, none⟩ = w.frozen? ⟨g, o, none⟩ := fun o => hx.frozen h.lt hg
 refine ⟨⟨A, c, (cl 0).trans h0, h1.butAll hx (fun b o s e hs => ?_), h2⟩, ⟨t, (cl 1).trans h3, h4, h5⟩, (cl 2).trans h.c2, (cl 3).trans h.c3, (fl 1).trans h.f1, (fl 2).trans h.f2, (fl 3).trans h.f3, by have := h.lt; have := hx.size; omega, h.le, h.byt, h.nz, cs, z, (hx.block g h.lt hg).trans h6⟩
 have hb := (h2 b o s e).1
 have := hS b (by have := h.lt; omega) hs
 omega
def OwnR (q : Nat) (w : World) (base : Nat) (e : TypeId) (sz : Nat) (v : Value) (n : Nat) (xs : List Value) : Prop := w.ownsRow base e sz v n xs ∧ ∀ j, v.ownBlock = some j → j < q
theorem own_but (h : w.ownsRow base e sz v n xs) (hx : But S w w') (hS : ∀ j, v.ownBlock = some j → ¬ S j) : w'.ownsRow base e sz v n xs := by
 refine ⟨h.1, ?_⟩
 rcases h.2 with h2 | ⟨r, cap, cur, e', hr, hr2, rest⟩
 ·exact .inl h2
 ·refine .inr ⟨r, cap, cur, e', hr, ?_, rest⟩
  rw [← hr2]
  exact hx.block r (Array.getElem?_eq_some_iff.1 hr2).1 (hS r (by rw [e']; rfl))
theorem own_block (h : w.ownsRow base e sz v n xs) {j : Nat} (hj : v.ownBlock = some j) : base ≤ j ∧ j < w.heap.size ∧ ∃ cs, w.heap[j]? = some (.cells cs e (0, 0)) := by
 rcases h.2 with ⟨rfl, _⟩ | ⟨r, cap, cur, rfl, hr, hr2, rest⟩
 ·cases hj
 ·injection hj with hj
  have hj2 : r = j := hj
  subst hj2
  exact ⟨hr, (Array.getElem?_eq_some_iff.1 hr2).1, cur, hr2⟩
theorem OwnR.mk (h : w.ownsRow base e sz v n xs) : OwnR w.heap.size w base e sz v n xs := ⟨h, fun j hj => (own_block h hj).2.1⟩
theorem OwnR.own (h : OwnR q w base e sz v n xs) : w.ownsRow base e sz v n xs := h.1
theorem OwnR.ext (h : OwnR q w base e sz v n xs) (hx : Ext w w') : OwnR q w' base e sz v n xs := ⟨own_keep h.1 hx, h.2⟩
theorem OwnR.drewN (h : OwnR q w base e sz v n xs) (m : Nat) : OwnR q (w.drewN m) base e sz v n xs := h.ext ((Ext.refl w).drewN m)
theorem But.one (w : World) (b o : Nat) (u : Value) : But (· = b) w (w.setCell ⟨b, o, none⟩ u) := (But.refl (fun k => k = b) w).setCell (p := ⟨b, o, none⟩) rfl u
theorem OwnR.set {b o : Nat} (h : OwnR q w base e sz v n xs) (hb : q ≤ b) (u : Value) : OwnR q (w.setCell ⟨b, o, none⟩ u) base e sz v n xs :=
 ⟨own_but h.1 (But.one w b o u) (fun j hj e => by have := h.2 j hj; omega), h.2⟩
theorem OwnR.but (h : OwnR q w base e sz v n xs) (hx : But S w w') (hS : ∀ j, base ≤ j → j < q → ¬ S j) : OwnR q w' base e sz v n xs :=
 ⟨own_but h.1 hx (fun j hj => hS j (own_block h.1 hj).1 (h.2 j hj)), h.2⟩
def RdT (q : Nat) (w : World) (g : Nat) (L : List Nat) (k : Nat) (flt : Option (Int × Int)) : Prop := Rd w g L k flt ∧ g < q ∧ q < w.heap.size ∧ ∀ cs z, w.heap[q]? ≠ some (.cells cs 95 z)
theorem RdT.set {b o : Nat} (h : RdT q w g L k flt) (hb : b = q) (u : Value) : RdT q (w.setCell ⟨b, o, none⟩ u) g L k flt := by
 subst hb
 refine ⟨h.1.butT (But.one w b o u) (fun j _ hj => by subst hj; exact ⟨h.2.1, h.2.2.2⟩), h.2.1, by simpa using h.2.2.1, fun cs z hh => ?_⟩
 obtain ⟨cs', z', hh'⟩ : ∃ cs' z', w.heap[b]? = some (.cells cs' 95 z') := by
  rw [World.setCell, Array.getElem?_modify, if_pos rfl] at hh
  rcases hw : w.heap[b]? with _ | ob
  ·rw [hw] at hh; simp at hh
  ·rw [hw] at hh
   rcases ob with ⟨cs0, t0, z0⟩ | _ <;> simp at hh
   obtain ⟨_, h2, h3⟩ := hh
   subst h2
   exact ⟨cs0, z0, rfl⟩
 exact h.2.2.2 _ _ hh'
theorem RdT.ext (h : RdT q w g L k flt) (hx : Ext w w') : RdT q w' g L k flt :=
 ⟨h.1.ext hx, h.2.1, by have := h.2.2.1; have := hx.size; omega, fun cs z hh => h.2.2.2 cs z (by rw [← hh]; exact (Below.block hx q h.2.2.1).symm)⟩
theorem RdT.drewN (h : RdT q w g L k flt) (m : Nat) : RdT q (w.drewN m) g L k flt := h.ext ((Ext.refl w).drewN m)
end
end
section
open Go.RowKit Go.ChangeShapes Go.WideShapes Go.Deep Go.Joins
def lossC (x : Int × Int × Int × Int × Int) : List Value := [.int .i64 x.1, .int .i64 x.2.1, .int .i64 x.2.2.1, .int .i64 x.2.2.2.1, .int .u64 x.2.2.2.2]
theorem lossC_len (x : Int × Int × Int × Int × Int) : (lossC x).length = 5 := rfl
theorem loss_info : (Tryz.prog.info? 73).map (fun i => (i.zero, i.size, i.bytes)) = some (some (.agg #[.int .i64 0, .int .i64 0, .int .i64 0, .int .i64 0, .int .u64 0]), 5, 40) := by kernel_rfl
def OwnLoss (w : World) (base : Nat) (v : Value) (n : Nat) (l : List I5) : Prop := w.ownsRow base 73 5 v n (l.flatMap lossC)
theorem OwnLoss.ext {w w' : World} {base n : Nat} {v : Value} {l : List I5} (h : OwnLoss w base v n l) (hx : Ext w w') : OwnLoss w' base v n l := own_keep h hx
theorem OwnLoss.sl {w : World} {base n c : Nat} {A : Option Addr} {l : List I5} (h : OwnLoss w base (.slice A n c) n l) : Sl w 5 A n c (l.flatMap lossC) := Sl.own h
theorem OwnLoss.nil (w : World) (base : Nat) : OwnLoss w base (.slice none 0 0) 0 [] := World.ownsRow_nil _ _ _ _
def RetLoss (l : List I5) (w : World) (e : Ending) (w' : World) : Prop := ∃ A c, e = .returned (.slice A l.length c) ∧ (A = none → c = 0) ∧ OwnLoss w' w.heap.size (.slice A l.length c) l.length l ∧ Ext w w'
theorem RetLoss.mk {l : List I5} {w w' : World} {v : Value} (h : w'.ownsRow w.heap.size 73 5 v l.length (l.flatMap lossC)) (hx : Ext w w') : RetLoss l w (.returned v) w' := by
 obtain ⟨A, c, rfl, h1, h2⟩ := own_parts2 h
 exact ⟨A, c, rfl, h1, h, hx⟩
theorem lossC_take {l : List I5} {k : Nat} {x : Int × Int × Int × Int × Int} (h : l[k]? = some x) : l.take (k + 1) = l.take k ++ [x] := by
 obtain ⟨hk, rfl⟩ := List.getElem?_eq_some_iff.1 h
 rw [List.take_succ_eq_append_getElem hk]
theorem lossC_eqIn (x0 y0 x1 y1 x2 y2 x3 y3 : Int) (w : World) : (Op.equalIn 9999 37 (.agg #[.int .i64 x0, .int .i64 x1, .int .i64 x2, .int .i64 x3]) (.agg #[.int .i64 y0, .int .i64 y1, .int .i64 y2, .int .i64 y3])).run Tryz.prog w = .ok (x0 == y0 && x1 == y1 && x2 == y2 && x3 == y3) w := by
 have hS : Tryz.prog.underlying 37 = some (.struct (Tryz.prog.fieldsOf 37)) := by kernel_rfl
 have hp : Tryz.prog.stoodInHeld 37 = false := by kernel_rfl
 rw [show (9999 : Nat) = 9998 + 1 from rfl, run_equalIn_agg w 9998 37 _ _ hS hp]
 simp only [Program.fieldsOf, Tryz.underlying37]
 go_simp
 by_cases h0 : x0 = y0 <;> by_cases h1 : x1 = y1 <;> by_cases h2 : x2 = y2 <;> by_cases h3 : x3 = y3 <;> simp [h0, h1, h2, h3]
theorem lossC_eq (x0 y0 x1 y1 x2 y2 x3 y3 x4 y4 : Int) (w : World) : (binOp .eql 73 (.agg #[.int .i64 x0, .int .i64 x1, .int .i64 x2, .int .i64 x3, .int .u64 x4]) (.agg #[.int .i64 y0, .int .i64 y1, .int .i64 y2, .int .i64 y3, .int .u64 y4])).run Tryz.prog w = .ok (.bool (x0 == y0 && x1 == y1 && x2 == y2 && x3 == y3 && x4 == y4)) w := by
 have hS : Tryz.prog.underlying 73 = some (.struct (Tryz.prog.fieldsOf 73)) := by kernel_rfl
 have hp : Tryz.prog.stoodInHeld 73 = false := by kernel_rfl
 rw [run_eql_struct, show (10000 : Nat) = 9999 + 1 from rfl, run_equalIn_agg w 9999 73 _ _ hS hp]
 simp only [Program.fieldsOf, Tryz.underlying73]
 simp [go_sem, lossC_eqIn, Op.eqFields]
 by_cases h0 : x0 = y0 <;> by_cases h1 : x1 = y1 <;> by_cases h2 : x2 = y2 <;> by_cases h3 : x3 = y3 <;> by_cases h4 : x4 = y4 <;> simp [h0, h1, h2, h3, h4]
theorem lossC_eqg (op : BinOp) (x y : Operand) (xs ys : Array Value) (w : World) : (eqGuard op 73 x y (.agg xs) (.agg ys)).run Tryz.prog w = .ok () w := run_eqGuard_agg w op 73 x y xs ys (by kernel_rfl)
theorem kSameLosses_any (A B : Option Addr) (n c m d : Nat) (l r : List I5) (w : World) (h1 : Sl w 5 A n c (l.flatMap lossC)) (h2 : Sl w 5 B m d (r.flatMap lossC)) :
  Calls Tryz.prog 19 #[.slice A n c, .slice B m d] w fun e w' => e = .returned (.bool (decide (l = r))) ∧ Ext w w' := by
 have hl := h1.rlen lossC_len (by decide)
 have hr := h2.rlen lossC_len (by decide)
 have s1 := h1.small
 have s2 := h2.small
 by_cases hnm : n = m
 ·subst hnm
  have H1 := Lib.hid h1
  have H2 := Lib.hid h2
  have HL := Lib.hid (And.intro hl hr)
  have e0 : ((n : Int) == (n : Int)) = true := by simp
  have q1 := lossC_eq
  have q2 := lossC_eqg
  obtain ⟨bb, hbb⟩ : ∃ b, b = decide (l = r) := ⟨_, rfl⟩
  rw [← hbb]
  have HBB := Lib.hid hbb
  clear h1 h2 hl hr hbb
  go_enter Tryz.func19, Tryz.ntmps19
  go_wp2
  go_loopg [5, 6] n (fun gh q i wx => gh ≤ n ∧ i = .int .i64 ((n - gh : Nat) : Int) ∧ (∃ b : Bool, q = .bool b ∧ Hid (b = decide (l.take (n - gh) = r.take (n - gh)))) ∧ Ext w wx)
  case atStart => exact ⟨Nat.le_refl _, by simp, ⟨true, rfl, by rw [Nat.sub_self]; exact Lib.hid (by simp)⟩, Ext.refl _⟩
  case round =>
   obtain ⟨hg, hi, ⟨b, rfl, hb⟩, hx⟩ := hrel
   obtain ⟨k, hk⟩ : ∃ k, k = n - gk := ⟨_, rfl⟩
   rw [← hk] at hi hb
   subst hi
   have XR := Lib.hid hx
   cases b
   ·have hne : bb = false := by
     have h := hb.out
     rw [HBB.out]
     by_cases hlr : l = r
     ·subst hlr; simp at h
     ·exact decide_eq_false hlr
    subst hne
    clear hx hk hg hb
    go_wp2
    go_ret
    exact ⟨rfl, XR.out⟩
   ·by_cases hz : gk = 0
    ·have hkn : ¬ (k : Int) < n := by omega
     have hne : bb = true := by
      have h := hb.out
      rw [HBB.out]
      rw [List.take_of_length_le (by have := HL.out; omega), List.take_of_length_le (by have := HL.out; omega)] at h
      exact h.symm
     subst hne
     clear hx hk hg hb hz
     go_wp2
     go_ret
     exact ⟨rfl, XR.out⟩
    ·have hkn : (k : Int) < n := by omega
     have hk1 : k < l.length := by have := HL.out; omega
     have hk2 : k < r.length := by have := HL.out; omega
     obtain ⟨b1, o1, rfl, hb1, hc1⟩ := H1.out.rec_ lossC_len (show 0 < n from by omega)
     obtain ⟨b2, o2, rfl, hb2, hc2⟩ := H2.out.rec_ lossC_len (show 0 < n from by omega)
     have x_0 := XR.out.has (hc1 k _ (List.getElem?_eq_getElem hk1) 0 _ rfl)
     have x_1 := XR.out.has (hc1 k _ (List.getElem?_eq_getElem hk1) 1 _ rfl)
     have x_2 := XR.out.has (hc1 k _ (List.getElem?_eq_getElem hk1) 2 _ rfl)
     have x_3 := XR.out.has (hc1 k _ (List.getElem?_eq_getElem hk1) 3 _ rfl)
     have x_4 := XR.out.has (hc1 k _ (List.getElem?_eq_getElem hk1) 4 _ rfl)
     have y_0 := XR.out.has (hc2 k _ (List.getElem?_eq_getElem hk2) 0 _ rfl)
     have y_1 := XR.out.has (hc2 k _ (List.getElem?_eq_getElem hk2) 1 _ rfl)
     have y_2 := XR.out.has (hc2 k _ (List.getElem?_eq_getElem hk2) 2 _ rfl)
     have y_3 := XR.out.has (hc2 k _ (List.getElem?_eq_getElem hk2) 3 _ rfl)
     have y_4 := XR.out.has (hc2 k _ (List.getElem?_eq_getElem hk2) 4 _ rfl)
     have t1 := lossC_take (List.getElem?_eq_getElem hk1)
     have t2 := lossC_take (List.getElem?_eq_getElem hk2)
     obtain ⟨x, hxx⟩ : ∃ x, x = l[k] := ⟨_, rfl⟩
     obtain ⟨y, hyy⟩ : ∃ y, y = r[k] := ⟨_, rfl⟩
     rw [← hxx] at x_0 x_1 x_2 x_3 x_4 t1
     rw [← hyy] at y_0 y_1 y_2 y_3 y_4 t2
     have hstep : Hid (decide (x = y) = decide (l.take (k + 1) = r.take (k + 1))) := Lib.hid (by
      rw [t1, t2]
      have h := hb.out
      have h3 : l.take k = r.take k := by simpa using h.symm
      rw [h3]
      by_cases hxy : x = y
      ·subst hxy; simp
      ·rw [decide_eq_false hxy]
       exact (decide_eq_false (fun e => hxy (by simpa using e))).symm)
     obtain ⟨x0, x1, x2, x3, x4⟩ := x
     obtain ⟨y0, y1, y2, y3, y4⟩ := y
     simp only at x_0 y_0 x_1 y_1 x_2 y_2 x_3 y_3 x_4 y_4
     rw [Nat.add_zero] at x_0 y_0
     rw [← Nat.add_assoc] at x_1 y_1 x_2 y_2 x_3 y_3 x_4 y_4
     have HK := Lib.hid (And.intro hk (And.intro hg hz))
     clear hx hk hg hb hz hc1 hc2 t1 t2 hxx hyy hk1 hk2
     go_wp2_with fail
     refine wp_region_held_drew (S := fun w' => w'.cell? ⟨b1, o1 + k * 5, none⟩ = some (.int .i64 x0) ∧ w'.cell? ⟨b1, o1 + k * 5 + 1, none⟩ = some (.int .i64 x1) ∧ w'.cell? ⟨b1, o1 + k * 5 + 2, none⟩ = some (.int .i64 x2) ∧ w'.cell? ⟨b1, o1 + k * 5 + 3, none⟩ = some (.int .i64 x3) ∧ w'.cell? ⟨b1, o1 + k * 5 + 4, none⟩ = some (.int .u64 x4) ∧ w'.cell? ⟨b2, o2 + k * 5, none⟩ = some (.int .i64 y0) ∧ w'.cell? ⟨b2, o2 + k * 5 + 1, none⟩ = some (.int .i64 y1) ∧ w'.cell? ⟨b2, o2 + k * 5 + 2, none⟩ = some (.int .i64 y2) ∧ w'.cell? ⟨b2, o2 + k * 5 + 3, none⟩ = some (.int .i64 y3) ∧ w'.cell? ⟨b2, o2 + k * 5 + 4, none⟩ = some (.int .u64 y4)) (by kernel_rfl) (by first | exact ⟨x_0, x_1, x_2, x_3, x_4, y_0, y_1, y_2, y_3, y_4⟩ | (simp [go_sem, World.cell?_alloc_past, *]; done)) (fun hHeld => ?_)
     refine' zt 0 ?_
     refine' zt 1 ?_
     refine' zt 2 ?_
     refine' zt 3 ?_
     refine' zt 4 ?_
     refine' zt 5 ?_
     refine' zt 6 ?_
     refine' zt 7 ?_
     refine' zt 8 ?_
     refine' zt 9 ?_
     refine wpAnyH_done (by kernel_rfl) ?_ _
     go_wp2_with fail
     go_roundg (gk - 1)
     case measure => have := HK.out; omega
     case rel => exact ⟨by have := HK.out; omega, num_eq (by have := HK.out; omega), ⟨_, rfl, Lib.hid (by rw [show n - (gk - 1) = k + 1 from by have := HK.out; omega, ← hstep.out]; simp [Bool.and_assoc, Prod.ext_iff]; try (first | rfl | (apply Bool.eq_iff_iff.2; simp; done)))⟩, zxt⟩
 ·have hne : ¬ l = r := by rintro rfl; omega
  rw [decide_eq_false hne]
  have e0 : ((n : Int) == (m : Int)) = false := by simp; omega
  clear h1 h2 hl hr hne
  go_enter Tryz.func19, Tryz.ntmps19
  go_wp2
  go_loopg [5, 6] 0 (fun gh q i wx => q = .bool false ∧ i = .int .i64 0 ∧ wx = w)
  case atStart => exact ⟨rfl, rfl, rfl⟩
  case round =>
   obtain ⟨rfl, rfl, rfl⟩ := hrel
   go_wp2
   go_ret
   exact ⟨rfl, Ext.refl _⟩
end
section
open Go.RowKit
theorem own_rng {w : World} {base n sz : Nat} {e : TypeId} {v : Value} {xs : List Value} (h : w.ownsRow base e sz v n xs) : ∀ k, v.ownBlock = some k → base ≤ k ∧ k < w.heap.size := fun k hk => World.ownsRow.lt h k hk
theorem own_app {α : Type} {f : α → List Value} {w : World} {base sz n : Nat} {e : TypeId} {v : Value} {l : List α} {xs : List Value} (y : α) (h : w.ownsRow base e sz v (n + 1) (l.flatMap f ++ xs)) (hn : n = l.length) (hx : xs = f y) : ∃ A c, v = .slice A (l ++ [y]).length c ∧ (A = none → c = 0) ∧ w.ownsRow base e sz (.slice A (l ++ [y]).length c) (l ++ [y]).length ((l ++ [y]).flatMap f) := by
 subst hn hx
 have h2 : w.ownsRow base e sz v (l ++ [y]).length ((l ++ [y]).flatMap f) := by
  rw [List.length_append, List.flatMap_append]
  simpa using h
 obtain ⟨A, c, rfl, h3, _⟩ := own_parts2 h2
 exact ⟨A, c, rfl, h3, h2⟩
end
section
open Go.RowKit Go.ChangeShapes Go.WideShapes Go.Deep Go.Joins
theorem hCut1_any (p : Nat) (po pv ps_ pp pf ph V S P Q : Int) (w : World) (p_0 : w.cell? ⟨p, 0, none⟩ = some (.int .i64 V)) (p_1 : w.cell? ⟨p, 1, none⟩ = some (.int .i64 S)) (p_2 : w.cell? ⟨p, 2, none⟩ = some (.int .i64 P)) (p_3 : w.cell? ⟨p, 3, none⟩ = some (.int .i64 Q)) :
  Calls Tryz.prog 77 #[.agg #[.int .i64 po, .int .i64 pv, .int .i64 ps_, .int .i64 pp, .int .i64 pf, .int .u64 ph], .pointer (some ⟨p, 0, none⟩)] w fun r w' => r = .returned (.bool (pv == V && ps_ == S && pp == P && pf == Q)) ∧ Ext w w' := by
 have hp := cell_lt p_0
 have hpn : ¬ p = w.heap.size := by omega
 have pq1 := stm_eq
 have pq2 := stm_eqg
 go_enter Tryz.func77, Tryz.ntmps77
 go_wp2_with fail
 go_ret
 exact ⟨rfl, zxt⟩
theorem hCut1_call (p : Nat) (x : I6) (V S P Q : Int) (w : World) (p_0 : w.cell? ⟨p, 0, none⟩ = some (.int .i64 V)) (p_1 : w.cell? ⟨p, 1, none⟩ = some (.int .i64 S)) (p_2 : w.cell? ⟨p, 2, none⟩ = some (.int .i64 P)) (p_3 : w.cell? ⟨p, 3, none⟩ = some (.int .i64 Q)) :
  Calls Tryz.prog 77 (#[] ++ #[.agg #[.int .i64 x.1, .int .i64 x.2.1, .int .i64 x.2.2.1, .int .i64 x.2.2.2.1, .int .i64 x.2.2.2.2.1, .int .u64 x.2.2.2.2.2]] ++ #[.pointer (some ⟨p, 0, none⟩)]) w fun r w' => r = .returned (.bool (decide (stP x = [V, S, P, Q]))) ∧ Ext w w' := by
 have h := hCut1_any p x.1 x.2.1 x.2.2.1 x.2.2.2.1 x.2.2.2.2.1 x.2.2.2.2.2 V S P Q w p_0 p_1 p_2 p_3
 rw [show (x.2.1 == V && x.2.2.1 == S && x.2.2.2.1 == P && x.2.2.2.2.1 == Q) = decide (stP x = [V, S, P, Q]) from by
  unfold stP
  by_cases h0 : x.2.1 = V <;> by_cases h1 : x.2.2.1 = S <;> by_cases h2 : x.2.2.2.1 = P <;> by_cases h3 : x.2.2.2.2.1 = Q <;> simp [h0, h1, h2, h3]] at h
 exact h
def IdxR (l : List I6) (q : I6 → Bool) (i : Int) : Prop := (i = -1 ∧ ∀ x ∈ l, q x = false) ∨ ∃ (m : Nat) (x : I6), i = (m : Int) ∧ l[m]? = some x ∧ q x = true ∧ ∀ y ∈ l.take m, q y = false
theorem hIdxF_at (fg : Nat) (bd cp : Array Value) (q : I6 → Bool) (A : Option Addr) (n c : Nat) (l : List I6) (w : World) (eg : ∀ args w, (callFunc fg args).run Tryz.prog w = .ok (.enter fg args) w) (h : Sl w 6 A n c (l.flatMap posC))
  (hf : ∀ (wx : World) (x : I6), x ∈ l → Ext w wx → Calls Tryz.prog fg (bd ++ #[.agg #[.int .i64 x.1, .int .i64 x.2.1, .int .i64 x.2.2.1, .int .i64 x.2.2.2.1, .int .i64 x.2.2.2.2.1, .int .u64 x.2.2.2.2.2]] ++ cp) wx fun e w' => e = .returned (.bool (q x)) ∧ Ext wx w') :
  Calls Tryz.prog 144 #[.slice A n c, .func (.func fg) bd cp] w fun e w' => ∃ i, e = .returned (.int .i64 i) ∧ IdxR l q i ∧ Ext w w' := by
 have hll := h.rlen posC_len (by decide)
 have hsm := h.small
 have HF := Lib.hid hf
 have HS := Lib.hid h
 have HLL := Lib.hid hll
 clear hf h hll
 go_enter Tryz.func144, Tryz.ntmps144
 go_wp2
 go_loopg [8] n (fun gh i wx => gh ≤ n ∧ i = .int .i64 ((n - gh : Nat) : Int) ∧ Hid (∀ y ∈ l.take (n - gh), q y = false) ∧ Hid (Ext w wx))
 case atStart => exact ⟨Nat.le_refl _, by simp, by rw [Nat.sub_self]; exact Lib.hid (fun y h => by cases h), Lib.hid (Ext.refl _)⟩
 case round =>
  obtain ⟨hg, hi, HN, X⟩ := hrel
  obtain ⟨k, hk⟩ : ∃ k, k = n - gk := ⟨_, rfl⟩
  rw [← hk] at hi HN
  subst hi
  by_cases hz : gk = 0
  ·have hkn : ¬ (k : Int) < (n : Int) := by omega
   have hA : ∀ y ∈ l, q y = false := by have h := HN.out; rwa [List.take_of_length_le (by have := HLL.out; omega)] at h
   have HA := Lib.hid hA
   clear hk hg hz HN hA
   go_wp2
   go_ret
   exact ⟨_, rfl, .inl ⟨rfl, HA.out⟩, X.out⟩
  ·have hkn : (k : Int) < (n : Int) := by omega
   have hkl : k < l.length := by have := HLL.out; omega
   obtain ⟨b1, o1, hA1, hb1, hc_x⟩ := HS.out.rec_ posC_len (show 0 < n from by omega)
   obtain ⟨xw, hl_x⟩ : ∃ x, l[k]? = some x := ⟨_, List.getElem?_eq_getElem (by omega)⟩
   have x_0 := X.out.has (hc_x k xw hl_x 0 _ rfl)
   have x_1 := X.out.has (hc_x k xw hl_x 1 _ rfl)
   have x_2 := X.out.has (hc_x k xw hl_x 2 _ rfl)
   have x_3 := X.out.has (hc_x k xw hl_x 3 _ rfl)
   have x_4 := X.out.has (hc_x k xw hl_x 4 _ rfl)
   have x_5 := X.out.has (hc_x k xw hl_x 5 _ rfl)
   rw [Nat.add_zero] at x_0
   rw [← Nat.add_assoc] at x_1 x_2 x_3 x_4 x_5
   clear hc_x
   have hc := HF.out wr xw (List.mem_of_getElem? hl_x) X.out
   obtain rfl := hA1
   have HK := Lib.hid (And.intro hk (And.intro hg (And.intro hz hl_x)))
   clear hk hg hz hkl hl_x
   rcases Bool.eq_false_or_eq_true (q xw) with hq | hq
   ·have HQ := Lib.hid hq
    rw [hq] at hc
    clear hq
    go_wp2_with (go_at_fn fg; refine hc.mono ?_; rintro e w' ⟨rfl, hx⟩; have X2 := Lib.hid (Ext.trans X.out hx); clear hx hc x_0 x_1 x_2 x_3 x_4 x_5)
    go_ret
    exact ⟨_, rfl, .inr ⟨k, xw, rfl, HK.out.2.2.2, HQ.out, HN.out⟩, X2.out⟩
   ·have HQ := Lib.hid hq
    rw [hq] at hc
    clear hq
    go_wp2_with (go_at_fn fg; refine hc.mono ?_; rintro e w' ⟨rfl, hx⟩; have X2 := Lib.hid (Ext.trans X.out hx); clear hx hc x_0 x_1 x_2 x_3 x_4 x_5)
    go_roundg (gk - 1)
    case measure => have := HK.out.2.2.1; omega
    case rel =>
     refine ⟨by have := HK.out.2.1; omega, num_eq (by have := HK.out.1; have := HK.out.2.1; have := HK.out.2.2.1; omega), Lib.hid ?_, X2⟩
     rw [show n - (gk - 1) = k + 1 from by have := HK.out.1; have := HK.out.2.1; have := HK.out.2.2.1; omega, List.take_add_one, HK.out.2.2.2]
     intro y hy
     rcases List.mem_append.1 hy with hy | hy
     ·exact HN.out y hy
     ·obtain rfl : y = xw := by simpa using hy
      exact HQ.out
theorem tail_clear {P : Program} (w : World) (t e : TypeId) (i : TypeInfo) (z : Value) (ht : P.underlying t = some (.slice e)) (hi : P.info? e = some i) (hz : i.zero = some z) (base g n c N c2 sz : Nat) (hN : N < n) (hz0 : z.cells.size = sz) (hz1 : ∀ u ∈ z.cells.toList, u.oneCell' = true) (h0 : 0 < sz) (ys : List Value)
  (h : w.ownsRow base e sz (.slice (some ⟨g, 0, none⟩) n c) n ys) :
  ∃ w2, (∀ ty, (Builtin.clear_ #[t] ty #[.slice (some ⟨g, N * sz, none⟩) (n - N) c2]).run P w = .ok (.tuple #[]) w2) ∧ w2.ownsRow base e sz (.slice (some ⟨g, 0, none⟩) N c) N (ys.take (N * sz)) ∧ But (· = g) w w2 := by
 obtain ⟨cur, hb, hg, hnc, hcm, hcs, htk⟩ := own_row h
 have hv : ∀ w, (zeroValue e).run P w = .ok z w := fun w => by simp [zeroValue, typeInfo, hi, hz]
 have hn1 : N * sz + (n - N) * sz = n * sz := by rw [← Nat.add_mul, Nat.add_sub_cancel' (by omega)]
 have hnc2 : n * sz ≤ c * sz := Nat.mul_le_mul_right _ hnc
 have hNc : N * sz ≤ n * sz := Nat.mul_le_mul_right _ (by omega)
 obtain ⟨vs, hvl, hr⟩ := run_clear_wide (P := P) w t e z sz ht hv hz0 hz1 h0 g (N * sz) (n - N) c2 cur e hg (by omega)
 have hcl : cur.toList.length = c * sz := by simpa using hcs
 have hll : (cur.toList.take (N * sz) ++ vs ++ cur.toList.drop (N * sz + (n - N) * sz)).length = c * sz := by
  simp only [List.length_append, List.length_take, List.length_drop, hcl, hvl]
  omega
 have hw := own_setRow (n := N) hg hb (by omega) hcm hll
 refine ⟨_, hr, ?_, But.setRow _ _ _⟩
 rw [List.append_assoc, List.take_append_of_le_length (by rw [List.length_take, hcl]; omega), List.take_take, Nat.min_self] at hw
 rw [← htk, List.take_take, Nat.min_eq_left hNc, List.append_assoc]
 exact hw
structure DelI (l : List I6) (q : I6 → Bool) (M : List I6) (i j : Nat) : Prop where
 len : M.length = l.length
 lt : i < j
 le : j ≤ l.length
 tk : M.take i = (l.take j).filter (fun x => !q x)
 dr : M.drop j = l.drop j
theorem DelI.start {l : List I6} {q : I6 → Bool} {m : Nat} {x : I6} (h : l[m]? = some x) (hx : q x = true) (hq : ∀ y ∈ l.take m, q y = false) : DelI l q l m (m + 1) := by
 refine ⟨rfl, by omega, (List.getElem?_eq_some_iff.1 h).1, ?_, rfl⟩
 rw [List.take_add_one, h, List.filter_append]
 have e : (l.take m).filter (fun x => !q x) = l.take m := List.filter_eq_self.2 (fun y hy => by rw [hq y hy]; rfl)
 rw [e]
 simp [hx]
theorem DelI.skip {l M : List I6} {q : I6 → Bool} {i j : Nat} {x : I6} (h : DelI l q M i j) (hx : l[j]? = some x) (hq : q x = true) : DelI l q M i (j + 1) := by
 refine ⟨h.len, by have := h.lt; omega, (List.getElem?_eq_some_iff.1 hx).1, ?_, ?_⟩
 ·rw [h.tk, List.take_add_one, hx, List.filter_append]
  simp [hq]
 ·have := congrArg (List.drop 1) h.dr
  rwa [List.drop_drop, List.drop_drop] at this
theorem DelI.keep {l M : List I6} {q : I6 → Bool} {i j : Nat} {x : I6} (h : DelI l q M i j) (hx : l[j]? = some x) (hq : q x = false) : DelI l q (M.set i x) (i + 1) (j + 1) := by
 have hj := (List.getElem?_eq_some_iff.1 hx).1
 have hl := h.lt
 have hM := h.len
 refine ⟨by rw [List.length_set]; exact h.len, by omega, by omega, ?_, ?_⟩
 ·rw [List.take_add_one, List.getElem?_set_self (by omega), List.take_add_one, hx, List.filter_append, ← h.tk, List.take_set_of_le (by omega)]
  simp [hq]
 ·rw [List.drop_set_of_lt (by omega)]
  have := congrArg (List.drop 1) h.dr
  rwa [List.drop_drop, List.drop_drop] at this
theorem DelI.get {l M : List I6} {q : I6 → Bool} {i j : Nat} {x : I6} (h : DelI l q M i j) (hx : l[j]? = some x) : M[j]? = some x := by
 have e := congrArg (fun z => z[0]?) h.dr
 simp only [List.getElem?_drop, Nat.add_zero] at e
 rw [e]
 exact hx
theorem DelI.done {l M : List I6} {q : I6 → Bool} {i j : Nat} (h : DelI l q M i j) (hj : l.length ≤ j) : M.take i = l.filter (fun x => !q x) ∧ i = (l.filter (fun x => !q x)).length := by
 have e := h.tk
 rw [List.take_of_length_le hj] at e
 refine ⟨e, ?_⟩
 have := congrArg List.length e
 rw [List.length_take] at this
 have h1 := h.lt
 have h2 := h.le
 have h3 := h.len
 omega
theorem hDelF_own (fg : Nat) (bd cp : Array Value) (q : I6 → Bool) (base n : Nat) (v : Value) (l : List I6) (w : World) (eg : ∀ args w, (callFunc fg args).run Tryz.prog w = .ok (.enter fg args) w) (h : OwnPos w base v n l) (hn : n = l.length) (hn2 : n < 1099511627776)
  (hf : ∀ (wx : World) (x : I6), x ∈ l → But (fun k => v.ownBlock = some k) w wx → Calls Tryz.prog fg (bd ++ #[.agg #[.int .i64 x.1, .int .i64 x.2.1, .int .i64 x.2.2.1, .int .i64 x.2.2.2.1, .int .i64 x.2.2.2.2.1, .int .u64 x.2.2.2.2.2]] ++ cp) wx fun e w' => e = .returned (.bool (q x)) ∧ Ext wx w') :
  Calls Tryz.prog 76 #[v, .func (.func fg) bd cp] w (InsR 82 6 base v (l.filter (fun x => !q x)).length ((l.filter (fun x => !q x)).flatMap posC) w) := by
 obtain ⟨i0, hi, hz, hs, hb⟩ := info_parts pos_info
 obtain ⟨A, c, rfl, hA, hsl⟩ := own_parts2 h
 have CI := Lib.hid (hIdxF_at fg bd cp q A n c l w eg hsl (fun wx x hx hX => hf wx x hx (But.ofExt hX)))
 have HF := Lib.hid hf
 have HO := Lib.hid h
 have HN := Lib.hid hn
 clear hf h hn
 go_enter Tryz.func76, Tryz.ntmps76
 go_wp2_with fail
 (with_reducible refine CI.out.mono ?_)
 rintro e w1 ⟨ci, rfl, hci, hx1⟩
 rcases hci with ⟨rfl, hall⟩ | ⟨m, xm, rfl, hlm, hqm, hbm⟩
 ·have hfl : l.filter (fun x => !q x) = l := List.filter_eq_self.2 (fun y hy => by rw [hall y hy]; rfl)
  have E : Hid (InsR 82 6 base (.slice A n c) (l.filter (fun x => !q x)).length ((l.filter (fun x => !q x)).flatMap posC) w (.returned (.slice A n c)) w1) := Lib.hid ⟨_, rfl, by rw [hfl, ← HN.out]; exact own_keep HO.out hx1, fun k hk => .inl hk, But.ofExt hx1⟩
  clear hall hfl hx1 CI HF HO hsl
  go_wp2
  go_ret
  exact E.out
 ·have hml : m < l.length := (List.getElem?_eq_some_iff.1 hlm).1
  obtain ⟨g, c', hv⟩ := own_form HO.out (show 0 < n from by have := HN.out; omega)
  obtain ⟨rfl, rfl⟩ : A = some ⟨g, 0, none⟩ ∧ c = c' := by simpa using hv
  have HD := Lib.hid (DelI.start hlm hqm hbm)
  have hml2 : m < n := by have := HN.out; omega
  have hm1 : ¬ (m : Int) = -1 := by omega
  have hm2 : ((m : Int) == -1) = false := beq_false_of_ne hm1
  have hmw : IntKind.i64.wrap ((m : Int) + 1) = (m : Int) + 1 := IntWalk.i64_in _ (by omega)
  have HO1 : Hid (World.ownsRow w1 base 82 6 (.slice (some ⟨g, 0, none⟩) n c) n (l.flatMap posC)) := Lib.hid (own_keep HO.out hx1)
  have B1 : Hid (But (fun k => (Value.slice (some ⟨g, 0, none⟩) n c).ownBlock = some k) w w1) := Lib.hid (But.ofExt hx1)
  have hnc : n ≤ c := by obtain ⟨cur, _, _, hnc, hcm, _, _⟩ := own_row HO1.out; exact hnc
  have hcm2 : c ≤ 9223372036854775807 := by obtain ⟨cur, _, _, hnc, hcm, _, _⟩ := own_row HO1.out; exact hcm
  clear hlm hqm hbm hx1 CI HO hsl hv hA hml
  go_wp2
  go_loopg [5, 6] n (fun gh s5 s6 wx => ∃ (i j : Nat) (M : List I6), s5 = .int .i64 (i : Int) ∧ s6 = .int .i64 (j : Int) ∧ i < j ∧ j ≤ n ∧ n - j ≤ gh ∧ Hid (DelI l q M i j) ∧ Hid (World.ownsRow wx base 82 6 (.slice (some ⟨g, 0, none⟩) n c) n (M.flatMap posC)) ∧ Hid (But (fun k => (Value.slice (some ⟨g, 0, none⟩) n c).ownBlock = some k) w wx))
  case atStart => exact ⟨m, m + 1, l, rfl, num_eq (by omega), by omega, by have := HN.out; omega, by omega, HD, HO1, B1⟩
  case round =>
   clear HD HO1 B1 hm1 hm2 hmw
   obtain ⟨i, j, M, rfl, rfl, hij, hjn, hgk, HD, HO, BB⟩ := hrel
   by_cases hzj : j < n
   ·have hjd : decide ((j : Int) < (n : Int)) = true := decide_eq_true (by omega)
    have hjl : (j : Int) < (n : Int) := by omega
    have hil : (i : Int) < (n : Int) := by omega
    obtain ⟨xw, hlx⟩ : ∃ x, l[j]? = some x := ⟨_, List.getElem?_eq_getElem (by have := HN.out; omega)⟩
    have hMx := HD.out.get hlx
    have hMn : M.length = n := by have := HD.out.len; have := HN.out; omega
    have HCj : Cur 82 posC 6 wr base g n c M j xw := Cur.mk HO.out hMx hMn
    have x_0 := Cur.cell posC_len HCj (j := 0) rfl
    have x_1 := Cur.cell posC_len HCj (j := 1) rfl
    have x_2 := Cur.cell posC_len HCj (j := 2) rfl
    have x_3 := Cur.cell posC_len HCj (j := 3) rfl
    have x_4 := Cur.cell posC_len HCj (j := 4) rfl
    have x_5 := Cur.cell posC_len HCj (j := 5) rfl
    rw [Nat.add_zero] at x_0
    have hgw : g < wr.heap.size := cell_lt x_0
    have hgn : ¬ g = wr.heap.size := by omega
    have hc := fun wx hX => HF.out wx xw (List.mem_of_getElem? hlx) hX
    have HL := Lib.hid (And.intro hlx hMn)
    have HG := Lib.hid (And.intro hgk (And.intro hij (And.intro hjn hzj)))
    have hjw : IntKind.i64.wrap ((j : Int) + 1) = (j : Int) + 1 := IntWalk.i64_in _ (by omega)
    have hiw : IntKind.i64.wrap ((i : Int) + 1) = (i : Int) + 1 := IntWalk.i64_in _ (by omega)
    obtain ⟨yw, hMy⟩ : ∃ y, M[i]? = some y := ⟨_, List.getElem?_eq_getElem (by omega)⟩
    have HY := Lib.hid hMy
    clear hlx hMx HCj hgk hzj hMy hMn
    rcases Bool.eq_false_or_eq_true (q xw) with hq | hq
    ·have HQ := Lib.hid hq
     rw [hq] at hc
     clear hq
     go_wp2_with (go_at_fn fg; refine (hc _ (by repeat (first | exact BB.out | refine But.alloc ?_ _ | refine But.setNew ?_ (by first | omega | (simp; done) | (simp; omega)) _))).mono ?_; rintro e w' ⟨rfl, hx⟩; have hX := Ext.trans (Ext.alloc (Ext.refl wr) _) hx; have HO2 := Lib.hid (own_keep HO.out hX); have B2 := Lib.hid (But.trans BB.out (But.ofExt hX)); clear hx hX hc x_0 x_1 x_2 x_3 x_4 x_5)
     go_roundg (n - (j + 1))
     case measure => have := HG.out; omega
     case rel => exact ⟨i, j + 1, M, rfl, num_eq (by omega), by omega, by have := HG.out; omega, by omega, Lib.hid (HD.out.skip HL.out.1 HQ.out), HO2, B2⟩
    ·have HQ := Lib.hid hq
     rw [hq] at hc
     clear hq
     go_wp2_with (go_at_fn fg; refine (hc _ (by repeat (first | exact BB.out | refine But.alloc ?_ _ | refine But.setNew ?_ (by first | omega | (simp; done) | (simp; omega)) _))).mono ?_; rintro e w' ⟨rfl, hx⟩; have hX := Ext.trans (Ext.alloc (Ext.refl wr) _) hx; have HO2 := Lib.hid (own_keep HO.out hX); have B2 := Lib.hid (But.trans BB.out (But.ofExt hX)); have HC : Hid (Cur 82 posC 6 w' base g n c M i yw) := Lib.hid (Cur.mk HO2.out HY.out HL.out.2); have b_0 : w'.cell? ⟨wr.heap.size, 0, none⟩ = some (.int .i64 xw.1) := hx.has (by simp [go_sem, World.cell?_alloc_past]); have b_1 : w'.cell? ⟨wr.heap.size, 1, none⟩ = some (.int .i64 xw.2.1) := hx.has (by simp [go_sem, World.cell?_alloc_past]); have b_2 : w'.cell? ⟨wr.heap.size, 2, none⟩ = some (.int .i64 xw.2.2.1) := hx.has (by simp [go_sem, World.cell?_alloc_past]); have b_3 : w'.cell? ⟨wr.heap.size, 3, none⟩ = some (.int .i64 xw.2.2.2.1) := hx.has (by simp [go_sem, World.cell?_alloc_past]); have b_4 : w'.cell? ⟨wr.heap.size, 4, none⟩ = some (.int .i64 xw.2.2.2.2.1) := hx.has (by simp [go_sem, World.cell?_alloc_past]); have b_5 : w'.cell? ⟨wr.heap.size, 5, none⟩ = some (.int .u64 xw.2.2.2.2.2) := hx.has (by simp [go_sem, World.cell?_alloc_past]); have y_0 := Cur.cell posC_len HC.out (j := 0) rfl; have y_0f := Cur.froz HC.out 0; have y_1 := Cur.cell posC_len HC.out (j := 1) rfl; have y_1f := Cur.froz HC.out 1; have y_2 := Cur.cell posC_len HC.out (j := 2) rfl; have y_2f := Cur.froz HC.out 2; have y_3 := Cur.cell posC_len HC.out (j := 3) rfl; have y_3f := Cur.froz HC.out 3; have y_4 := Cur.cell posC_len HC.out (j := 4) rfl; have y_4f := Cur.froz HC.out 4; have y_5 := Cur.cell posC_len HC.out (j := 5) rfl; have y_5f := Cur.froz HC.out 5; rw [Nat.add_zero] at y_0 y_0f; clear hx hX hc x_0 x_1 x_2 x_3 x_4 x_5)
     go_roundg (n - (j + 1))
     case measure => have := HG.out; omega
     case rel => exact ⟨i + 1, j + 1, M.set i xw, num_eq (by omega), num_eq (by omega), by omega, by have := HG.out; omega, by omega, Lib.hid (HD.out.keep HL.out.1 HQ.out), Lib.hid (Cur.own (Cur.put posC_len (Cur.put posC_len (Cur.put posC_len (Cur.put posC_len (Cur.put posC_len (Cur.put posC_len HC.out 0 (.int .i64 xw.1) (xw.1, yw.2) (by decide) rfl) 1 (.int .i64 xw.2.1) (xw.1, xw.2.1, yw.2.2) (by decide) rfl) 2 (.int .i64 xw.2.2.1) (xw.1, xw.2.1, xw.2.2.1, yw.2.2.2) (by decide) rfl) 3 (.int .i64 xw.2.2.2.1) (xw.1, xw.2.1, xw.2.2.1, xw.2.2.2.1, yw.2.2.2.2) (by decide) rfl) 4 (.int .i64 xw.2.2.2.2.1) (xw.1, xw.2.1, xw.2.2.1, xw.2.2.2.1, xw.2.2.2.2.1, yw.2.2.2.2.2) (by decide) rfl) 5 (.int .u64 xw.2.2.2.2.2) xw (by decide) rfl)), Lib.hid (But.setCell (But.setCell (But.setCell (But.setCell (But.setCell (But.setCell B2.out (p := ⟨g, i * 6, none⟩) rfl _) (p := ⟨g, i * 6 + 1, none⟩) rfl _) (p := ⟨g, i * 6 + 2, none⟩) rfl _) (p := ⟨g, i * 6 + 3, none⟩) rfl _) (p := ⟨g, i * 6 + 4, none⟩) rfl _) (p := ⟨g, i * 6 + 5, none⟩) rfl _)⟩
   ·have hjd : decide ((j : Int) < (n : Int)) = false := decide_eq_false (by omega)
    have hjl : ¬ (j : Int) < (n : Int) := by omega
    obtain ⟨ht, hil⟩ := HD.out.done (by have := HN.out; omega)
    obtain ⟨w2, hr2, ho2, hx2⟩ := tail_clear (P := Tryz.prog) wr 23 82 i0 _ Tryz.underlying23 hi hz base g n c i (c - i) 6 (by omega) (by rfl) (by decide) (by decide) (M.flatMap posC) HO.out
    have hr := hr2
    have hin : (i : Int) ≤ (n : Int) := by omega
    have hic : ¬ c = i := by omega
    have hic2 : ¬ (c : Int) = (i : Int) := by omega
    have hi0 : (0 : Int) ≤ (i : Int) := by omega
    have hicc : (i : Int) ≤ (c : Int) := by omega
    have E : Hid (InsR 82 6 base (.slice (some ⟨g, 0, none⟩) n c) (l.filter (fun x => !q x)).length ((l.filter (fun x => !q x)).flatMap posC) w (.returned (.slice (some ⟨g, 0, none⟩) i c)) w2) := Lib.hid ⟨_, rfl, by rw [← hil, ← ht, ← fm_take posC_len]; exact ho2, fun k hk => .inl hk, But.trans BB.out (hx2.mono (fun k _ hk => by subst hk; rfl))⟩
    clear hr2 ho2 hx2 HD HO BB ht hil hgk HF HN
    go_wp2
    go_ret
    exact E.out
end
section
open Go.RowKit
def goneB (v h p : Int) (l : List I6) (x : I6) : Bool := l.any fun c => decide (kC c = stP x) && (cutC v h p c).isNone
structure CutI (cl ps : List I6) (v h p : Int) (k : Nat) (CL PS : List I6) (LS : List I5) (N : Int) : Prop where
 ecl : CL = cutCs v h p (cl.take k) ++ cl.drop k
 eps : PS = ps.filter (fun x => !goneB v h p (cl.take k) x)
 els : LS = losCs v h p (cl.take k)
 en : N = losN LS
theorem CutI.start (cl ps : List I6) (v h p : Int) : CutI cl ps v h p 0 cl ps [] 0 :=
 ⟨by simp [cutCs], (List.filter_eq_self.2 (fun _ _ => rfl)).symm, by simp [losCs], by simp [losN, addF]⟩
theorem cutC_skip {v h p : Int} {c : I6} (hb : bkC c v h = false) : cutC v h p c = some c := by unfold cutC; rw [if_neg (by simp [hb])]
theorem cutC_hit {v h p : Int} {c : I6} (hb : bkC c v h = true) : cutC v h p c = optC c.1 c.2.1 c.2.2.1 c.2.2.2.1 (cutT (toC c) (shC c) p) (cutS (toC c) (shC c) p) := by unfold cutC; rw [if_pos hb]
theorem losC_skip {v h p : Int} {c : I6} (hb : bkC c v h = false) : losC v h p c = none := by unfold losC; rw [if_neg (by simp [hb])]
theorem losC_hit {v h p : Int} {c : I6} (hb : bkC c v h = true) : losC v h p c = some (c.1, c.2.1, c.2.2.1, c.2.2.2.1, cutN (toC c) (shC c) p) := by unfold losC; rw [if_pos hb]
theorem take_one {α : Type} {l : List α} {k : Nat} {x : α} (h : l[k]? = some x) : l.take (k + 1) = l.take k ++ [x] := by rw [List.take_add_one, h]; rfl
theorem goneB_snoc (v h p : Int) (l : List I6) (c x : I6) : goneB v h p (l ++ [c]) x = (goneB v h p l x || (decide (kC c = stP x) && (cutC v h p c).isNone)) := by
 unfold goneB
 rw [List.any_append]
 simp
theorem CutI.skip {cl ps CL PS : List I6} {v h p N : Int} {k : Nat} {LS : List I5} {c : I6} (H : CutI cl ps v h p k CL PS LS N) (hc : cl[k]? = some c) (hb : bkC c v h = false) : CutI cl ps v h p (k + 1) CL PS LS N := by
 refine ⟨?_, ?_, ?_, H.en⟩
 ·rw [H.ecl, take_one hc, drop_at hc]
  unfold cutCs
  rw [List.filterMap_append, List.append_assoc]
  simp [cutC_skip hb]
 ·rw [H.eps, take_one hc]
  refine List.filter_congr (fun x _ => ?_)
  rw [goneB_snoc, cutC_skip hb]
  simp
 ·rw [H.els, take_one hc]
  unfold losCs
  rw [List.filterMap_append]
  simp [losC_skip hb]
theorem lay_mid {α : Type} {key : α → List Int} (o : Option α) (c : α) (r : List α) : ∀ (a : List α), SortK key (a ++ c :: r) → layK key (a ++ c :: r) (key c) o = a ++ (o.toList ++ r)
 | [], _ => by
  show layK key (c :: r) (key c) o = _
  unfold layK
  rw [cmpK_self, if_neg (by decide), if_pos rfl]
  rfl
 | x :: a, hs => by
  have h1 : cmpK (key x) (key c) < 0 := (List.pairwise_cons.1 hs).1 c (List.mem_append.2 (.inr (List.mem_cons_self ..)))
  show layK key (x :: (a ++ c :: r)) (key c) o = _
  unfold layK
  rw [if_pos h1, lay_mid o c r a (List.pairwise_cons.1 hs).2]
  rfl
theorem cutC_key {v h p : Int} {c y : I6} (hy : cutC v h p c = some y) : kC y = kC c := by
 unfold cutC at hy
 split at hy
 ·unfold optC at hy
  split at hy
  ·cases hy
  ·rw [← Option.some.inj hy]; rfl
 ·rw [← Option.some.inj hy]
theorem sort_cut {l : List I6} {v h p : Int} (hs : SortK kC l) : SortK kC (cutCs v h p l) := by
 unfold SortK cutCs at *
 rw [List.pairwise_filterMap]
 refine hs.imp (fun {a b} hab x hx y hy => ?_)
 rw [cutC_key hx, cutC_key hy]
 exact hab
theorem CutI.sort {cl ps CL PS : List I6} {v h p N : Int} {k : Nat} {LS : List I5} (H : CutI cl ps v h p k CL PS LS N) (hs : SortK kC cl) : SortK kC CL := by
 have hs2 : SortK kC (cl.take k ++ cl.drop k) := by rw [List.take_append_drop]; exact hs
 obtain ⟨h1, h2, h3⟩ := List.pairwise_append.1 hs2
 rw [H.ecl]
 refine List.pairwise_append.2 ⟨sort_cut h1, h2, fun a ha b hb => ?_⟩
 obtain ⟨c, hc, hca⟩ := List.mem_filterMap.1 ha
 rw [cutC_key hca]
 exact h3 c hc b hb
theorem CutI.clen {cl ps CL PS : List I6} {v h p N : Int} {k : Nat} {LS : List I5} (H : CutI cl ps v h p k CL PS LS N) : CL.length ≤ cl.length := by
 rw [H.ecl, List.length_append, List.length_drop]
 have h1 : (cutCs v h p (cl.take k)).length ≤ (cl.take k).length := List.length_filterMap_le ..
 rw [List.length_take] at h1
 omega
theorem CutI.plen {cl ps CL PS : List I6} {v h p N : Int} {k : Nat} {LS : List I5} (H : CutI cl ps v h p k CL PS LS N) : PS.length ≤ ps.length := by rw [H.eps]; exact List.length_filter_le ..
theorem CutI.llen {cl ps CL PS : List I6} {v h p N : Int} {k : Nat} {LS : List I5} (H : CutI cl ps v h p k CL PS LS N) : LS.length ≤ k := by
 rw [H.els]
 have h1 : (losCs v h p (cl.take k)).length ≤ (cl.take k).length := List.length_filterMap_le ..
 rw [List.length_take] at h1
 omega
theorem good_pool {c : I6} (h : GoodC c) (hw : WdC c) : PoolOk (toC c) (shC c) := pool_of_chk hw.1 hw.2 h.2.1
theorem CutI.cut {cl ps CL PS : List I6} {v h p N : Int} {k : Nat} {LS : List I5} {a b d e t s : Int} (H : CutI cl ps v h p k CL PS LS N) (hs : SortK kC cl) (hc : cl[k]? = some (a, b, d, e, t, s)) (hb : bkC (a, b, d, e, t, s) v h = true) :
  (cutT t s p = 0 ∧ cutS t s p = 0 → CutI cl ps v h p (k + 1) (setK kC CL [a, b, d, e] (optC a b d e (cutT t s p) (cutS t s p))) (PS.filter (fun x => !decide (stP x = [a, b, d, e]))) (LS ++ [(a, b, d, e, cutN t s p)]) (N + cutN t s p)) ∧
  (¬ (cutT t s p = 0 ∧ cutS t s p = 0) → CutI cl ps v h p (k + 1) (setK kC CL [a, b, d, e] (optC a b d e (cutT t s p) (cutS t s p))) PS (LS ++ [(a, b, d, e, cutN t s p)]) (N + cutN t s p)) := by
 have hcl : setK kC CL [a, b, d, e] (optC a b d e (cutT t s p) (cutS t s p)) = cutCs v h p (cl.take (k + 1)) ++ cl.drop (k + 1) := by
  have hS := H.sort hs
  rw [setK_lay kC_len rfl _ hS]
  have e1 : CL = cutCs v h p (cl.take k) ++ (a, b, d, e, t, s) :: cl.drop (k + 1) := by rw [H.ecl, drop_at hc]
  rw [e1] at hS ⊢
  rw [show [a, b, d, e] = kC (a, b, d, e, t, s) from rfl, lay_mid _ _ _ _ hS, take_one hc]
  unfold cutCs
  rw [List.filterMap_append, List.append_assoc]
  congr 1
  have e2 : cutC v h p (a, b, d, e, t, s) = optC a b d e (cutT t s p) (cutS t s p) := cutC_hit hb
  rw [← e2, List.filterMap_cons]
  cases cutC v h p (a, b, d, e, t, s) <;> rfl
 have hls : LS ++ [(a, b, d, e, cutN t s p)] = losCs v h p (cl.take (k + 1)) := by
  rw [H.els, take_one hc]
  unfold losCs
  rw [List.filterMap_append]
  have e2 : losC v h p (a, b, d, e, t, s) = some (a, b, d, e, cutN t s p) := losC_hit hb
  simp [e2]
 have hn : N + cutN t s p = losN (LS ++ [(a, b, d, e, cutN t s p)]) := by
  unfold losN
  rw [addF_app, H.en]
  simp [losN, addF]
 have e3 : cutC v h p (a, b, d, e, t, s) = optC a b d e (cutT t s p) (cutS t s p) := cutC_hit hb
 constructor
 ·intro hz
  refine ⟨hcl, ?_, hls, hn⟩
  rw [H.eps, List.filter_filter, take_one hc]
  refine List.filter_congr (fun x _ => ?_)
  rw [goneB_snoc, e3, show optC a b d e (cutT t s p) (cutS t s p) = none from if_pos hz]
  show (!decide (stP x = [a, b, d, e]) && _) = !(_ || (decide ([a, b, d, e] = stP x) && true))
  by_cases hx : stP x = [a, b, d, e]
  ·simp [hx]
  ·have hx2 : ¬ [a, b, d, e] = stP x := fun hh => hx hh.symm
   simp [hx, hx2]
 ·intro hz
  refine ⟨hcl, ?_, hls, hn⟩
  rw [H.eps, take_one hc]
  refine List.filter_congr (fun x _ => ?_)
  rw [goneB_snoc, e3, show optC a b d e (cutT t s p) (cutS t s p) = some (a, b, d, e, cutT t s p, cutS t s p) from if_neg hz]
  simp
theorem getK_none {l : List I6} {q : List Int} (h : ∀ y ∈ l, kC y ≠ q) : getK kC l q = none := by
 unfold getK
 rw [List.find?_eq_none]
 intro x hx hk
 exact h x hx (by simpa using hk)
theorem CutI.done {cl ps CL PS : List I6} {v h p N : Int} {k : Nat} {LS : List I5} (H : CutI cl ps v h p k CL PS LS N) (hk : HOk cl ps) (hl : cl.length ≤ k) : CL = cutCs v h p cl ∧ PS = keepP (cutCs v h p cl) ps ∧ LS = losCs v h p cl ∧ N = losN (losCs v h p cl) := by
 have e1 := List.take_of_length_le hl
 refine ⟨?_, ?_, ?_, ?_⟩
 ·rw [H.ecl, e1, List.drop_of_length_le hl, List.append_nil]
 ·rw [H.eps, e1]
  unfold keepP
  refine List.filter_congr (fun x hx => ?_)
  obtain ⟨c, hc⟩ := Option.isSome_iff_exists.1 (hk.pos x hx).2.2
  obtain ⟨hcm, hck⟩ := getK_mem hc
  by_cases hg : goneB v h p cl x = true
  ·rw [hg]
   unfold goneB at hg
   obtain ⟨c2, hc2, hg2⟩ := List.any_eq_true.1 hg
   simp only [Bool.and_eq_true, decide_eq_true_eq] at hg2
   obtain ⟨hk2, hn2⟩ := hg2
   rw [getK_none (fun y hy hyk => ?_)]
   ·rfl
   ·obtain ⟨c3, hc3, hy3⟩ := List.mem_filterMap.1 hy
    obtain ⟨i, hi⟩ := List.getElem?_of_mem hc3
    obtain ⟨j, hj⟩ := List.getElem?_of_mem hc2
    have hij := sort_inj hk.sc hi hj (by rw [← cutC_key hy3, hyk, hk2])
    subst hij
    rw [hi] at hj
    obtain rfl := Option.some.inj hj
    rw [hy3] at hn2
    cases hn2
  ·have hg0 : goneB v h p cl x = false := by simpa using hg
   rw [hg0]
   have hcut : (cutC v h p c).isSome = true := by
    rcases hcc : cutC v h p c with _ | y
    ·exfalso
     apply hg
     unfold goneB
     rw [List.any_eq_true]
     exact ⟨c, hcm, by simp [hck, hcc]⟩
    ·rfl
   obtain ⟨y, hy⟩ := Option.isSome_iff_exists.1 hcut
   have hym : y ∈ cutCs v h p cl := List.mem_filterMap.2 ⟨c, hcm, hy⟩
   have := getK_mem_some (key := kC) hym
   rw [cutC_key hy, hck] at this
   rw [this]
   rfl
 ·rw [H.els, e1]
 ·rw [H.en, H.els, e1]
theorem losN_nn {v h p : Int} {l : List I6} (hl : ∀ c ∈ l, PoolOk (toC c) (shC c)) (p0 : 0 ≤ p) (p1 : p ≤ 1000000000) : 0 ≤ losN (losCs v h p l) ∧ losN (losCs v h p l) ≤ totC l := by
 induction l with
 | nil => exact ⟨by simp [losCs, losN, addF], by simp [losCs, losN, addF, totC]⟩
 | cons c l ih =>
  obtain ⟨i1, i2⟩ := ih (fun c hc => hl c (List.mem_cons_of_mem _ hc))
  have hP := hl c (List.mem_cons_self ..)
  obtain ⟨_, c1, c2, _⟩ := cut_ok hP p0 p1
  have h0 := hP.t0
  unfold totC at i2 ⊢
  rw [addF_cons]
  unfold losCs at i1 i2 ⊢
  rw [List.filterMap_cons]
  rcases Bool.eq_false_or_eq_true (bkC c v h) with hb | hb
  ·rw [losC_hit hb]
   unfold losN at i1 i2 ⊢
   simp only
   rw [addF_cons]
   simp only
   omega
  ·rw [losC_skip hb]
   simp only
   omega
theorem CutI.sum {cl ps CL PS : List I6} {v h p N : Int} {k : Nat} {LS : List I5} {a b d e t s : Int} (H : CutI cl ps v h p k CL PS LS N) (hk : HOk cl ps) (hw : ∀ c ∈ cl, WdC c) (p0 : 0 ≤ p) (p1 : p ≤ 1000000000) (hc : cl[k]? = some (a, b, d, e, t, s)) : 0 ≤ N ∧ N + cutN t s p < 18446744073709551616 ∧ 0 ≤ cutN t s p := by
 have hP : ∀ c ∈ cl, PoolOk (toC c) (shC c) := fun c hc => good_pool (hk.cls c hc) (hw c hc)
 obtain ⟨h1, h2⟩ := losN_nn (v := v) (h := h) (l := cl.take k) (fun c hc => hP c (List.mem_of_mem_take hc)) p0 p1
 obtain ⟨_, c1, c2, _⟩ := cut_ok (hP _ (List.mem_of_getElem? hc)) p0 p1
 have h3 : totC (cl.take (k + 1)) = totC (cl.take k) + t := addF_take toC hc
 have h4 : totC (cl.take (k + 1)) ≤ totC cl := addF_le (fun y hy => (hw y hy).1.1) (k + 1)
 have h5 := hk.tot
 rw [H.en, H.els]
 change cutN t s p ≤ t at c2
 change 0 ≤ cutN t s p at c1
 omega
end
end Go.Proofs.YtkinchgjidpjnaaGreat
