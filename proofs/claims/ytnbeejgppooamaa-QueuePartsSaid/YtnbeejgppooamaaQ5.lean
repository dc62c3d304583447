/- queues: Check, Total, both sides. Conditions stand in each lemma. -/
import Derived.Test.YtnbeejgppooamaaQ4
set_option linter.unusedVariables false
set_option linter.unusedSimpArgs false
namespace Go.Proofs.Ytnbeejgppooamaa
open Go.RowKit Go.ChangeShapes Go.WideShapes Go.Deep Go.Joins

def chkGo : Int → Nat → List (Int × Int × Int × Int × Int × Int × Int × Int) → Int × Int
  | _, _, [] => (0, 0)
  | a, k, x :: l => if oneQ x a ≠ 0 then (oneQ x a, (k : Int)) else chkGo (crE x) (k + 1) l
def chkQ (l : List (Int × Int × Int × Int × Int × Int × Int × Int)) : Int × Int := if 32768 < l.length then (4, 32768) else if (chkGo 0 0 l).1 ≠ 0 then chkGo 0 0 l else if totB l ≤ 4611686018427387904 then (0, 0) else (12, 0)
theorem chkGo_at {l : List (Int × Int × Int × Int × Int × Int × Int × Int)} {k : Nat} {x : (Int × Int × Int × Int × Int × Int × Int × Int)} {a : Int} (h : l[k]? = some x) : chkGo a k (l.drop k) = if oneQ x a ≠ 0 then (oneQ x a, (k : Int)) else chkGo (crE x) (k + 1) (l.drop (k + 1)) := by
  obtain ⟨hk, hx⟩ := List.getElem?_eq_some_iff.1 h
  rw [List.drop_eq_getElem_cons hk, hx]
  rfl
theorem chkGo_ne {l : List (Int × Int × Int × Int × Int × Int × Int × Int)} {a : Int} {k : Nat} (h : (chkGo a k l).1 = 0) : chkGo a k l = (0, 0) := by
  induction l generalizing a k with
  | nil => rfl
  | cons x l ih =>
    unfold chkGo at h ⊢
    by_cases hx : oneQ x a = 0
    · rw [if_neg (by simpa using hx)] at h ⊢
      exact ih h
    · rw [if_pos hx] at h
      exact absurd h hx
theorem qone_ev (xo xv xs xp xf xc xi xb E a r : Int) (A : Option Addr) (n c : Nat) (l : List (Int × Int × Int × Int × Int × Int × Int × Int)) (w : World) (hE : chkS xv xs xp xf = E) (hs : Sl w 8 A n c (l.flatMap entC)) (ha : lastQ l = a) (hr : oneG xo E xc xs a xi xb = r) :
    Calls Try.prog 42 #[.agg #[.int .i64 xo, .int .i64 xv, .int .i64 xs, .int .i64 xp, .int .i64 xf, .int .i64 xc, .int .u64 xi, .int .u64 xb], .slice A n c] w fun e w' => e = .returned (.int .i64 r) ∧ Ext w w' := by
  rw [← hr]; exact qone_any xo xv xs xp xf xc xi xb E a A n c l w hE hs ha
theorem rOne_ev (xo xv xs xp xf xc xi xb E a r : Int) (w : World) (hE : chkS xv xs xp xf = E) (hr : oneG xo E xc xs a xi xb = r) :
    Calls Try.prog 45 #[.agg #[.int .i64 xo, .int .i64 xv, .int .i64 xs, .int .i64 xp, .int .i64 xf, .int .i64 xc, .int .u64 xi, .int .u64 xb], .int .i64 a] w fun e w' => e = .returned (.int .i64 r) ∧ Ext w w' := by
  rw [← hr]; exact rOne_any xo xv xs xp xf xc xi xb E a w hE
theorem rLast_ev (A : Option Addr) (n c : Nat) (l : List (Int × Int × Int × Int × Int × Int × Int × Int)) (a : Int) (w : World) (hs : Sl w 8 A n c (l.flatMap entC)) (ha : lastQ l = a) :
    Calls Try.prog 46 #[.slice A n c] w fun e w' => e = .returned (.int .i64 a) ∧ w = w' := by
  rw [← ha]; exact rLast_any A n c l w hs
theorem rsum14_ev (A : Option Addr) (n c : Nat) (l : List (Int × Int × Int × Int × Int × Int × Int × Int)) (u : Int) (f : Bool) (w : World) (h : Sl w 8 A n c (l.flatMap entC)) (hn : n ≤ 100000) (hf : ∀ x ∈ l, FitsQ x) (hu : u = if totB l ≤ 4611686018427387904 then totB l else 0) (hf2 : f = decide (totB l ≤ 4611686018427387904)) :
    Calls Try.prog 47 #[.slice A n c] w fun e w' => e = .returned (.tuple #[.int .u64 u, .bool f]) ∧ Ext w w' := rsum14_any A n c l w h hn hf u f hu hf2
set_option maxRecDepth 100000 in
set_option maxHeartbeats 4000000 in
theorem qcheck_any (A : Option Addr) (n c : Nat) (l : List (Int × Int × Int × Int × Int × Int × Int × Int)) (e1 e2 : Int) (w : World) (h : Sl w 8 A n c (l.flatMap entC)) (hf : ∀ x ∈ l, FitsQ x) (he : chkQ l = (e1, e2)) :
    Calls Try.prog 14 #[.slice A n c] w fun e w' => e = .returned (.tuple #[.int .i64 e1, .int .i64 e2]) ∧ Ext w w' := by
  have hll := h.rlen entC_len (by decide)
  have hns := h.small
  unfold chkQ at he
  rw [hll] at he
  by_cases hbig : 32768 < n
  · rw [if_pos hbig] at he
    injection he with he1 he2
    subst he1; subst he2
    have hb : (32768 : Int) < (n : Int) := by omega
    clear h hf hll
    go_enter Try.func14, Try.ntmps14
    go_wp2
    go_ret2
    exact ⟨rfl, Ext.refl _⟩
  · rw [if_neg hbig] at he
    have hb : ¬ (32768 : Int) < (n : Int) := by omega
    have HS := Lib.hid h
    have HF := Lib.hid hf
    have HLL := Lib.hid hll
    have HE := Lib.hid he
    have CS := Lib.hid (fun w' (hx : Ext w w') => qsum_any A n c l w' (h.ext hx) (by omega) hf)
    clear h hf hll he
    go_enter Try.func14, Try.ntmps14
    go_wp2
    go_loopg [12] n (fun gh i wx => gh ≤ n ∧ i = .int .i64 ((n - gh : Nat) : Int) ∧ Hid (chkGo 0 0 l = chkGo (lastQ (l.take (n - gh))) (n - gh) (l.drop (n - gh))) ∧ Hid (Ext w wx))
    case atStart => exact ⟨Nat.le_refl _, by simp, Lib.hid (by rw [Nat.sub_self]; rfl), Lib.hid (Ext.refl _)⟩
    case round =>
      obtain ⟨hg, hi, hgo, XR⟩ := hrel
      obtain ⟨k, hk⟩ : ∃ k, k = n - gk := ⟨_, rfl⟩
      rw [← hk] at hi hgo
      subst hi
      by_cases hz : gk = 0
      · have hkn : ¬ (k : Int) < (n : Int) := by omega
        have hgo2 : chkGo 0 0 l = (0, 0) := by
          rw [hgo.out, List.drop_of_length_le (by have := HLL.out; omega)]
          rfl
        have he := HE.out
        rw [hgo2, if_neg (by simp)] at he
        by_cases ht : totB l ≤ 4611686018427387904
        · rw [if_pos ht] at he
          injection he with he1 he2
          subst he1; subst he2
          have C1 := CS.out wr XR.out
          rw [show sumP l = totB l from if_pos ht] at C1
          have C2 := Lib.hid C1
          have ht2 : ¬ 4611686018427387904 < totB l := by omega
          clear hk hg hz hgo hgo2 HE C1 ht CS
          go_wp2_with fail
          refine C2.out.mono ?_
          rintro e w3 ⟨rfl, hx3⟩
          have X3 := Lib.hid (XR.out.trans hx3)
          clear hx3
          go_wp2_with fail
          go_ret2
          exact ⟨rfl, X3.out⟩
        · rw [if_neg ht] at he
          injection he with he1 he2
          subst he1; subst he2
          have C1 := CS.out wr XR.out
          rw [show sumP l = 4611686018427387905 from if_neg ht] at C1
          have C2 := Lib.hid C1
          clear hk hg hz hgo hgo2 HE C1 ht CS
          go_wp2_with fail
          refine C2.out.mono ?_
          rintro e w3 ⟨rfl, hx3⟩
          have X3 := Lib.hid (XR.out.trans hx3)
          clear hx3
          go_wp2_with fail
          go_ret2
          exact ⟨rfl, X3.out⟩
      · have hkn : (k : Int) < (n : Int) := by omega
        have hkl : k < l.length := by have := HLL.out; omega
        have HSr := Lib.hid (HS.out.ext XR.out)
        have HSk := Lib.hid (show Sl wr 8 A k c ((l.take k).flatMap entC) from by have h := HSr.out.take (show k ≤ n by omega); rw [flat_take entC_len] at h; exact h)
        obtain ⟨b1, o1, rfl, hb1, hc_x⟩ := HSr.out.rec_ entC_len (show 0 < n from by omega)
        obtain ⟨xw, hl_x⟩ : ∃ x, l[k]? = some x := ⟨_, List.getElem?_eq_getElem (by omega)⟩
        have x_0 := hc_x k xw hl_x 0 _ rfl
        have x_1 := hc_x k xw hl_x 1 _ rfl
        have x_2 := hc_x k xw hl_x 2 _ rfl
        have x_3 := hc_x k xw hl_x 3 _ rfl
        have x_4 := hc_x k xw hl_x 4 _ rfl
        have x_5 := hc_x k xw hl_x 5 _ rfl
        have x_6 := hc_x k xw hl_x 6 _ rfl
        have x_7 := hc_x k xw hl_x 7 _ rfl
        obtain ⟨xo, xv, xs, xp, xf, xc, xi, xb⟩ := xw
        simp only at x_0 x_1 x_2 x_3 x_4 x_5 x_6 x_7
        rw [Nat.add_zero] at x_0
        rw [← Nat.add_assoc] at x_1 x_2 x_3 x_4 x_5 x_6 x_7
        clear hc_x
        obtain ⟨a, ha⟩ : ∃ a, lastQ (l.take k) = a := ⟨_, rfl⟩
        obtain ⟨E, hE⟩ : ∃ E, chkS xv xs xp xf = E := ⟨_, rfl⟩
        obtain ⟨r, hr⟩ : ∃ r, oneG xo E xc xs a xi xb = r := ⟨_, rfl⟩
        have hst := hgo.out
        rw [ha, chkGo_at hl_x, show oneQ (xo, xv, xs, xp, xf, xc, xi, xb) a = r from by rw [← hr, ← hE]; rfl] at hst
        have hnx : lastQ (l.take (k + 1)) = xc := lastQ_take hl_x
        have HA := Lib.hid (And.intro ha (And.intro hE hr))
        have HT := Lib.hid (And.intro hst hnx)
        have HK := Lib.hid (And.intro hk (And.intro hg hz))
        have hwx := Ext.size XR.out
        have hb1s : ¬ b1 = wr.heap.size := by omega
        have hkc : (k : Int) ≤ (c : Int) := by have := HS.out.2.1; omega
        have hcs : (c : Int) ≤ 9223372036854775807 := by have h := HS.out.2.2.1; simp [maxLen] at h; omega
        clear hk hg hz hkl hl_x hst hnx hgo HSr ha hE hr
        by_cases hr0 : r = 0
        · have hr1 : (r != 0) = false := by simp [hr0]
          have hr0h := Lib.hid hr0
          clear hr0
          go_wp2_with fail
          refine wp_region_held_drew (S := fun w' => w'.cell? ⟨wr.heap.size, 0, none⟩ = some (.int .i64 xo) ∧ w'.cell? ⟨wr.heap.size, 1, none⟩ = some (.int .i64 xv) ∧ w'.cell? ⟨wr.heap.size, 2, none⟩ = some (.int .i64 xs) ∧ w'.cell? ⟨wr.heap.size, 3, none⟩ = some (.int .i64 xp) ∧ w'.cell? ⟨wr.heap.size, 4, none⟩ = some (.int .i64 xf) ∧ w'.cell? ⟨wr.heap.size, 5, none⟩ = some (.int .i64 xc) ∧ w'.cell? ⟨wr.heap.size, 6, none⟩ = some (.int .u64 xi) ∧ w'.cell? ⟨wr.heap.size, 7, none⟩ = some (.int .u64 xb)) (by kernel_rfl) (by first | exact ⟨c0_0, c0_1, c0_2, c0_3, c0_4, c0_5, c0_6, c0_7⟩ | (simp [go_sem, World.cell?_alloc_past, x_0, x_1, x_2, x_3, x_4, x_5, x_6, x_7, hb1s, hb1]; done)) (fun hHeld => ?_)
          (refine' take_in 0 rfl (by kernel_rfl) (by kernel_rfl) (by kernel_rfl) (fun _ _ _ h => h) (by rfl) (by assumption) ?_ ?_; rotate_left; focus (intro w hSw; (try dsimp only at hSw); go_simp; try with_reducible rfl)); try simp only [Act.put, List.setIfInBounds_toArray, List.set_cons_zero, List.set_cons_succ]
          (refine' take_in 1 rfl (by kernel_rfl) (by kernel_rfl) (by kernel_rfl) (fun _ _ _ h => h) (by rfl) (by assumption) ?_ ?_; rotate_left; focus (intro w hSw; (try dsimp only at hSw); go_simp; try with_reducible rfl)); try simp only [Act.put, List.setIfInBounds_toArray, List.set_cons_zero, List.set_cons_succ]
          (refine' take_in 2 rfl (by kernel_rfl) (by kernel_rfl) (by kernel_rfl) (fun _ _ _ h => h) (by rfl) (by assumption) ?_ ?_; rotate_left; focus (intro w hSw; (try dsimp only at hSw); go_simp; try with_reducible rfl)); try simp only [Act.put, List.setIfInBounds_toArray, List.set_cons_zero, List.set_cons_succ]
          (refine' take_in 3 rfl (by kernel_rfl) (by kernel_rfl) (by kernel_rfl) (fun _ _ _ h => h) (by rfl) (by assumption) ?_ ?_; rotate_left; focus (intro w hSw; (try dsimp only at hSw); go_simp; try with_reducible rfl)); try simp only [Act.put, List.setIfInBounds_toArray, List.set_cons_zero, List.set_cons_succ]
          refine' next_in 4 rfl (by kernel_rfl) (by rfl) (fun K hK => ?_)
          go_simp
          (with_reducible refine (qone_ev xo xv xs xp xf xc xi xb E a r (some ⟨b1, o1, none⟩) k c (l.take k) _ HA.out.2.1 (HSk.out.ext (by repeat (first | with_reducible exact Ext.refl _ | with_reducible refine Ext.drew ?_ | with_reducible refine Ext.drewN ?_ _ | with_reducible refine Ext.alloc ?_ _ | with_reducible refine Ext.setCell ?_ (by first | omega | (simp; done) | (simp; omega)) _))) HA.out.1 HA.out.2.2).mono ?_)
          rintro e w11 ⟨rfl, hx11⟩
          have c0_0 : w11.cell? ⟨wr.heap.size, 0, none⟩ = some (.int .i64 xo) := hx11.has (by first | fail | (simp [go_sem, World.cell?_alloc_past, x_0, x_1, x_2, x_3, x_4, x_5, x_6, x_7, hb1s, hb1]; done))
          have c0_1 : w11.cell? ⟨wr.heap.size, 1, none⟩ = some (.int .i64 xv) := hx11.has (by first | fail | (simp [go_sem, World.cell?_alloc_past, x_0, x_1, x_2, x_3, x_4, x_5, x_6, x_7, hb1s, hb1]; done))
          have c0_2 : w11.cell? ⟨wr.heap.size, 2, none⟩ = some (.int .i64 xs) := hx11.has (by first | fail | (simp [go_sem, World.cell?_alloc_past, x_0, x_1, x_2, x_3, x_4, x_5, x_6, x_7, hb1s, hb1]; done))
          have c0_3 : w11.cell? ⟨wr.heap.size, 3, none⟩ = some (.int .i64 xp) := hx11.has (by first | fail | (simp [go_sem, World.cell?_alloc_past, x_0, x_1, x_2, x_3, x_4, x_5, x_6, x_7, hb1s, hb1]; done))
          have c0_4 : w11.cell? ⟨wr.heap.size, 4, none⟩ = some (.int .i64 xf) := hx11.has (by first | fail | (simp [go_sem, World.cell?_alloc_past, x_0, x_1, x_2, x_3, x_4, x_5, x_6, x_7, hb1s, hb1]; done))
          have c0_5 : w11.cell? ⟨wr.heap.size, 5, none⟩ = some (.int .i64 xc) := hx11.has (by first | fail | (simp [go_sem, World.cell?_alloc_past, x_0, x_1, x_2, x_3, x_4, x_5, x_6, x_7, hb1s, hb1]; done))
          have c0_6 : w11.cell? ⟨wr.heap.size, 6, none⟩ = some (.int .u64 xi) := hx11.has (by first | fail | (simp [go_sem, World.cell?_alloc_past, x_0, x_1, x_2, x_3, x_4, x_5, x_6, x_7, hb1s, hb1]; done))
          have c0_7 : w11.cell? ⟨wr.heap.size, 7, none⟩ = some (.int .u64 xb) := hx11.has (by first | fail | (simp [go_sem, World.cell?_alloc_past, x_0, x_1, x_2, x_3, x_4, x_5, x_6, x_7, hb1s, hb1]; done))
          have z11 := hx11.size
          try simp at z11
          have rc0 : wr.heap.size < w11.heap.size := by omega
          have rc0a : wr.heap.size < w11.heap.size + 1 := by omega
          have rc0b : wr.heap.size < w11.heap.size + 1 + 1 := by omega
          have rc0c : wr.heap.size < w11.heap.size + 1 + 1 + 1 := by omega
          have rc0n : ¬ wr.heap.size = w11.heap.size := by omega
          replace HSk := Lib.hid (HSk.out.ext (Ext.trans (by repeat (first | with_reducible exact Ext.refl _ | with_reducible refine Ext.drew ?_ | with_reducible refine Ext.drewN ?_ _ | with_reducible refine Ext.alloc ?_ _ | with_reducible refine Ext.setCell ?_ (by first | omega | (simp; done) | (simp; omega)) _)) hx11))
          have X11 : Hid (Ext w w11) := Lib.hid (Ext.trans (by repeat (first | with_reducible exact XR.out | with_reducible refine Ext.drew ?_ | with_reducible refine Ext.drewN ?_ _ | with_reducible refine Ext.alloc ?_ _ | with_reducible refine Ext.setCell ?_ (by first | omega | (simp; done) | (simp; omega)) _)) hx11)
          clear x_2 x_7 x_5 x_0 x_1 x_4 x_3 x_6 XR hx11 z11
          refine hK.out _ _ (by (first | exact ⟨c0_0, c0_1, c0_2, c0_3, c0_4, c0_5, c0_6, c0_7⟩ | (simp [go_sem, World.cell?_alloc_past, c0_0, c0_1, c0_2, c0_3, c0_4, c0_5, c0_6, c0_7, rc0, rc0a, rc0b, rc0c, rc0n, hb1s, hb1]; done))) (fun hHeld => ?_); clear hK K; try simp only [Act.put, List.setIfInBounds_toArray, List.set_cons_zero, List.set_cons_succ]
          (refine' take_in 5 rfl (by kernel_rfl) (by kernel_rfl) (by kernel_rfl) (fun _ _ _ h => h) (by rfl) (by assumption) ?_ ?_; rotate_left; focus (intro w hSw; (try dsimp only at hSw); go_simp; try with_reducible rfl)); try simp only [Act.put, List.setIfInBounds_toArray, List.set_cons_zero, List.set_cons_succ]
          refine wpAnyH_done (by kernel_rfl) ?_ _
          go_wp2_with fail
          go_roundg (gk - 1)
          case measure => have := HK.out; omega
          case rel => exact ⟨by have := HK.out; omega, num_eq (by have := HK.out; omega), Lib.hid (by rw [show n - (gk - 1) = k + 1 from by have := HK.out; omega, HT.out.1, HT.out.2, if_neg (by simpa using hr0h.out)]; rfl), Lib.hid (by repeat (first | with_reducible exact X11.out | with_reducible refine Ext.drew ?_ | with_reducible refine Ext.drewN ?_ _ | with_reducible refine Ext.alloc ?_ _ | with_reducible refine Ext.setCell ?_ (by first | omega | (simp; done) | (simp; omega)) _))⟩
        · have hr1 : (r != 0) = true := by simpa using hr0
          have he := HE.out
          rw [HT.out.1, if_pos hr0, if_pos hr0] at he
          injection he with he1 he2
          subst he1; subst he2
          clear hr0
          go_wp2_with fail
          refine wp_region_held_drew (S := fun w' => w'.cell? ⟨wr.heap.size, 0, none⟩ = some (.int .i64 xo) ∧ w'.cell? ⟨wr.heap.size, 1, none⟩ = some (.int .i64 xv) ∧ w'.cell? ⟨wr.heap.size, 2, none⟩ = some (.int .i64 xs) ∧ w'.cell? ⟨wr.heap.size, 3, none⟩ = some (.int .i64 xp) ∧ w'.cell? ⟨wr.heap.size, 4, none⟩ = some (.int .i64 xf) ∧ w'.cell? ⟨wr.heap.size, 5, none⟩ = some (.int .i64 xc) ∧ w'.cell? ⟨wr.heap.size, 6, none⟩ = some (.int .u64 xi) ∧ w'.cell? ⟨wr.heap.size, 7, none⟩ = some (.int .u64 xb)) (by kernel_rfl) (by first | exact ⟨c0_0, c0_1, c0_2, c0_3, c0_4, c0_5, c0_6, c0_7⟩ | (simp [go_sem, World.cell?_alloc_past, x_0, x_1, x_2, x_3, x_4, x_5, x_6, x_7, hb1s, hb1]; done)) (fun hHeld => ?_)
          (refine' take_in 0 rfl (by kernel_rfl) (by kernel_rfl) (by kernel_rfl) (fun _ _ _ h => h) (by rfl) (by assumption) ?_ ?_; rotate_left; focus (intro w hSw; (try dsimp only at hSw); go_simp; try with_reducible rfl)); try simp only [Act.put, List.setIfInBounds_toArray, List.set_cons_zero, List.set_cons_succ]
          (refine' take_in 1 rfl (by kernel_rfl) (by kernel_rfl) (by kernel_rfl) (fun _ _ _ h => h) (by rfl) (by assumption) ?_ ?_; rotate_left; focus (intro w hSw; (try dsimp only at hSw); go_simp; try with_reducible rfl)); try simp only [Act.put, List.setIfInBounds_toArray, List.set_cons_zero, List.set_cons_succ]
          (refine' take_in 2 rfl (by kernel_rfl) (by kernel_rfl) (by kernel_rfl) (fun _ _ _ h => h) (by rfl) (by assumption) ?_ ?_; rotate_left; focus (intro w hSw; (try dsimp only at hSw); go_simp; try with_reducible rfl)); try simp only [Act.put, List.setIfInBounds_toArray, List.set_cons_zero, List.set_cons_succ]
          (refine' take_in 3 rfl (by kernel_rfl) (by kernel_rfl) (by kernel_rfl) (fun _ _ _ h => h) (by rfl) (by assumption) ?_ ?_; rotate_left; focus (intro w hSw; (try dsimp only at hSw); go_simp; try with_reducible rfl)); try simp only [Act.put, List.setIfInBounds_toArray, List.set_cons_zero, List.set_cons_succ]
          refine' next_in 4 rfl (by kernel_rfl) (by rfl) (fun K hK => ?_)
          go_simp
          (with_reducible refine (qone_ev xo xv xs xp xf xc xi xb E a r (some ⟨b1, o1, none⟩) k c (l.take k) _ HA.out.2.1 (HSk.out.ext (by repeat (first | with_reducible exact Ext.refl _ | with_reducible refine Ext.drew ?_ | with_reducible refine Ext.drewN ?_ _ | with_reducible refine Ext.alloc ?_ _ | with_reducible refine Ext.setCell ?_ (by first | omega | (simp; done) | (simp; omega)) _))) HA.out.1 HA.out.2.2).mono ?_)
          rintro e w11 ⟨rfl, hx11⟩
          have c0_0 : w11.cell? ⟨wr.heap.size, 0, none⟩ = some (.int .i64 xo) := hx11.has (by first | fail | (simp [go_sem, World.cell?_alloc_past, x_0, x_1, x_2, x_3, x_4, x_5, x_6, x_7, hb1s, hb1]; done))
          have c0_1 : w11.cell? ⟨wr.heap.size, 1, none⟩ = some (.int .i64 xv) := hx11.has (by first | fail | (simp [go_sem, World.cell?_alloc_past, x_0, x_1, x_2, x_3, x_4, x_5, x_6, x_7, hb1s, hb1]; done))
          have c0_2 : w11.cell? ⟨wr.heap.size, 2, none⟩ = some (.int .i64 xs) := hx11.has (by first | fail | (simp [go_sem, World.cell?_alloc_past, x_0, x_1, x_2, x_3, x_4, x_5, x_6, x_7, hb1s, hb1]; done))
          have c0_3 : w11.cell? ⟨wr.heap.size, 3, none⟩ = some (.int .i64 xp) := hx11.has (by first | fail | (simp [go_sem, World.cell?_alloc_past, x_0, x_1, x_2, x_3, x_4, x_5, x_6, x_7, hb1s, hb1]; done))
          have c0_4 : w11.cell? ⟨wr.heap.size, 4, none⟩ = some (.int .i64 xf) := hx11.has (by first | fail | (simp [go_sem, World.cell?_alloc_past, x_0, x_1, x_2, x_3, x_4, x_5, x_6, x_7, hb1s, hb1]; done))
          have c0_5 : w11.cell? ⟨wr.heap.size, 5, none⟩ = some (.int .i64 xc) := hx11.has (by first | fail | (simp [go_sem, World.cell?_alloc_past, x_0, x_1, x_2, x_3, x_4, x_5, x_6, x_7, hb1s, hb1]; done))
          have c0_6 : w11.cell? ⟨wr.heap.size, 6, none⟩ = some (.int .u64 xi) := hx11.has (by first | fail | (simp [go_sem, World.cell?_alloc_past, x_0, x_1, x_2, x_3, x_4, x_5, x_6, x_7, hb1s, hb1]; done))
          have c0_7 : w11.cell? ⟨wr.heap.size, 7, none⟩ = some (.int .u64 xb) := hx11.has (by first | fail | (simp [go_sem, World.cell?_alloc_past, x_0, x_1, x_2, x_3, x_4, x_5, x_6, x_7, hb1s, hb1]; done))
          have z11 := hx11.size
          try simp at z11
          have rc0 : wr.heap.size < w11.heap.size := by omega
          have rc0a : wr.heap.size < w11.heap.size + 1 := by omega
          have rc0b : wr.heap.size < w11.heap.size + 1 + 1 := by omega
          have rc0c : wr.heap.size < w11.heap.size + 1 + 1 + 1 := by omega
          have rc0n : ¬ wr.heap.size = w11.heap.size := by omega
          replace HSk := Lib.hid (HSk.out.ext (Ext.trans (by repeat (first | with_reducible exact Ext.refl _ | with_reducible refine Ext.drew ?_ | with_reducible refine Ext.drewN ?_ _ | with_reducible refine Ext.alloc ?_ _ | with_reducible refine Ext.setCell ?_ (by first | omega | (simp; done) | (simp; omega)) _)) hx11))
          have X11 : Hid (Ext w w11) := Lib.hid (Ext.trans (by repeat (first | with_reducible exact XR.out | with_reducible refine Ext.drew ?_ | with_reducible refine Ext.drewN ?_ _ | with_reducible refine Ext.alloc ?_ _ | with_reducible refine Ext.setCell ?_ (by first | omega | (simp; done) | (simp; omega)) _)) hx11)
          clear x_2 x_7 x_5 x_0 x_1 x_4 x_3 x_6 XR hx11 z11
          refine hK.out _ _ (by (first | exact ⟨c0_0, c0_1, c0_2, c0_3, c0_4, c0_5, c0_6, c0_7⟩ | (simp [go_sem, World.cell?_alloc_past, c0_0, c0_1, c0_2, c0_3, c0_4, c0_5, c0_6, c0_7, rc0, rc0a, rc0b, rc0c, rc0n, hb1s, hb1]; done))) (fun hHeld => ?_); clear hK K; try simp only [Act.put, List.setIfInBounds_toArray, List.set_cons_zero, List.set_cons_succ]
          (refine' take_in 5 rfl (by kernel_rfl) (by kernel_rfl) (by kernel_rfl) (fun _ _ _ h => h) (by rfl) (by assumption) ?_ ?_; rotate_left; focus (intro w hSw; (try dsimp only at hSw); go_simp; try with_reducible rfl)); try simp only [Act.put, List.setIfInBounds_toArray, List.set_cons_zero, List.set_cons_succ]
          refine wpAnyH_done (by kernel_rfl) ?_ _
          go_wp2_with fail
          go_ret2
          exact ⟨ret_two rfl rfl, (by repeat (first | with_reducible exact X11.out | with_reducible refine Ext.drew ?_ | with_reducible refine Ext.drewN ?_ _ | with_reducible refine Ext.alloc ?_ _ | with_reducible refine Ext.setCell ?_ (by first | omega | (simp; done) | (simp; omega)) _))⟩
set_option maxRecDepth 100000 in
set_option maxHeartbeats 4000000 in
theorem rcheck14_any (A : Option Addr) (n c : Nat) (l : List (Int × Int × Int × Int × Int × Int × Int × Int)) (e1 e2 : Int) (w : World) (h : Sl w 8 A n c (l.flatMap entC)) (hf : ∀ x ∈ l, FitsQ x) (he : chkQ l = (e1, e2)) :
    Calls Try.prog 15 #[.slice A n c] w fun e w' => e = .returned (.tuple #[.int .i64 e1, .int .i64 e2]) ∧ Ext w w' := by
  have hll := h.rlen entC_len (by decide)
  have hns := h.small
  unfold chkQ at he
  rw [hll] at he
  by_cases hbig : 32768 < n
  · rw [if_pos hbig] at he
    injection he with he1 he2
    subst he1; subst he2
    have hb : (32768 : Int) < (n : Int) := by omega
    clear h hf hll
    go_enter Try.func15, Try.ntmps15
    go_wp2
    go_ret2
    exact ⟨rfl, Ext.refl _⟩
  · rw [if_neg hbig] at he
    have hb : ¬ (32768 : Int) < (n : Int) := by omega
    have HS := Lib.hid h
    have HF := Lib.hid hf
    have HLL := Lib.hid hll
    have HE := Lib.hid he
    have CS := Lib.hid (fun w' (hx : Ext w w') u f hu hf2 => rsum14_ev A n c l u f w' (h.ext hx) (by omega) hf hu hf2)
    clear h hf hll he
    go_enter Try.func15, Try.ntmps15
    go_wp2
    go_loopg [4] n (fun gh i wx => gh ≤ n ∧ i = .int .i64 ((n - gh : Nat) : Int) ∧ Hid (chkGo 0 0 l = chkGo (lastQ (l.take (n - gh))) (n - gh) (l.drop (n - gh))) ∧ Hid (Ext w wx))
    case atStart => exact ⟨Nat.le_refl _, by simp, Lib.hid (by rw [Nat.sub_self]; rfl), Lib.hid (Ext.refl _)⟩
    case round =>
      obtain ⟨hg, hi, hgo, XR⟩ := hrel
      obtain ⟨k, hk⟩ : ∃ k, k = n - gk := ⟨_, rfl⟩
      rw [← hk] at hi hgo
      subst hi
      by_cases hz : gk = 0
      · have hkn : ¬ (k : Int) < (n : Int) := by omega
        have hgo2 : chkGo 0 0 l = (0, 0) := by
          rw [hgo.out, List.drop_of_length_le (by have := HLL.out; omega)]
          rfl
        have he := HE.out
        rw [hgo2, if_neg (by simp)] at he
        by_cases ht : totB l ≤ 4611686018427387904
        · rw [if_pos ht] at he
          injection he with he1 he2
          subst he1; subst he2
          have C2 := Lib.hid (CS.out wr XR.out (totB l) true (by rw [if_pos ht]) (by rw [decide_eq_true ht]))
          clear hk hg hz hgo hgo2 HE ht CS
          go_wp2_with fail
          refine C2.out.mono ?_
          rintro e w3 ⟨rfl, hx3⟩
          have X3 := Lib.hid (XR.out.trans hx3)
          clear hx3
          go_wp2_with fail
          go_ret2
          exact ⟨rfl, X3.out⟩
        · rw [if_neg ht] at he
          injection he with he1 he2
          subst he1; subst he2
          have C2 := Lib.hid (CS.out wr XR.out (0) false (by rw [if_neg ht]) (by rw [decide_eq_false ht]))
          clear hk hg hz hgo hgo2 HE ht CS
          go_wp2_with fail
          refine C2.out.mono ?_
          rintro e w3 ⟨rfl, hx3⟩
          have X3 := Lib.hid (XR.out.trans hx3)
          clear hx3
          go_wp2_with fail
          go_ret2
          exact ⟨rfl, X3.out⟩
      · have hkn : (k : Int) < (n : Int) := by omega
        have hkl : k < l.length := by have := HLL.out; omega
        have HSr := Lib.hid (HS.out.ext XR.out)
        have HSk := Lib.hid (show Sl wr 8 A k c ((l.take k).flatMap entC) from by have h := HSr.out.take (show k ≤ n by omega); rw [flat_take entC_len] at h; exact h)
        obtain ⟨b1, o1, rfl, hb1, hc_x⟩ := HSr.out.rec_ entC_len (show 0 < n from by omega)
        obtain ⟨xw, hl_x⟩ : ∃ x, l[k]? = some x := ⟨_, List.getElem?_eq_getElem (by omega)⟩
        have x_0 := hc_x k xw hl_x 0 _ rfl
        have x_1 := hc_x k xw hl_x 1 _ rfl
        have x_2 := hc_x k xw hl_x 2 _ rfl
        have x_3 := hc_x k xw hl_x 3 _ rfl
        have x_4 := hc_x k xw hl_x 4 _ rfl
        have x_5 := hc_x k xw hl_x 5 _ rfl
        have x_6 := hc_x k xw hl_x 6 _ rfl
        have x_7 := hc_x k xw hl_x 7 _ rfl
        obtain ⟨xo, xv, xs, xp, xf, xc, xi, xb⟩ := xw
        simp only at x_0 x_1 x_2 x_3 x_4 x_5 x_6 x_7
        rw [Nat.add_zero] at x_0
        rw [← Nat.add_assoc] at x_1 x_2 x_3 x_4 x_5 x_6 x_7
        clear hc_x
        obtain ⟨a, ha⟩ : ∃ a, lastQ (l.take k) = a := ⟨_, rfl⟩
        obtain ⟨E, hE⟩ : ∃ E, chkS xv xs xp xf = E := ⟨_, rfl⟩
        obtain ⟨r, hr⟩ : ∃ r, oneG xo E xc xs a xi xb = r := ⟨_, rfl⟩
        have hst := hgo.out
        rw [ha, chkGo_at hl_x, show oneQ (xo, xv, xs, xp, xf, xc, xi, xb) a = r from by rw [← hr, ← hE]; rfl] at hst
        have hnx : lastQ (l.take (k + 1)) = xc := lastQ_take hl_x
        have HA := Lib.hid (And.intro ha (And.intro hE hr))
        have HT := Lib.hid (And.intro hst hnx)
        have HK := Lib.hid (And.intro hk (And.intro hg hz))
        have hwx := Ext.size XR.out
        have hb1s : ¬ b1 = wr.heap.size := by omega
        have hkc : (k : Int) ≤ (c : Int) := by have := HS.out.2.1; omega
        have hcs : (c : Int) ≤ 9223372036854775807 := by have h := HS.out.2.2.1; simp [maxLen] at h; omega
        clear hk hg hz hkl hl_x hst hnx hgo HSr ha hE hr
        by_cases hr0 : r = 0
        · have hr1 : (r != 0) = false := by simp [hr0]
          have hr0h := Lib.hid hr0
          clear hr0
          go_wp2_with fail
          refine wp_region_held_drew (S := fun w' => w'.cell? ⟨b1, o1 + k * 8, none⟩ = some (.int .i64 xo) ∧ w'.cell? ⟨b1, o1 + k * 8 + 1, none⟩ = some (.int .i64 xv) ∧ w'.cell? ⟨b1, o1 + k * 8 + 2, none⟩ = some (.int .i64 xs) ∧ w'.cell? ⟨b1, o1 + k * 8 + 3, none⟩ = some (.int .i64 xp) ∧ w'.cell? ⟨b1, o1 + k * 8 + 4, none⟩ = some (.int .i64 xf) ∧ w'.cell? ⟨b1, o1 + k * 8 + 5, none⟩ = some (.int .i64 xc) ∧ w'.cell? ⟨b1, o1 + k * 8 + 6, none⟩ = some (.int .u64 xi) ∧ w'.cell? ⟨b1, o1 + k * 8 + 7, none⟩ = some (.int .u64 xb)) (by kernel_rfl) (by first | exact ⟨x_0, x_1, x_2, x_3, x_4, x_5, x_6, x_7⟩ | (simp [go_sem, World.cell?_alloc_past, x_0, x_1, x_2, x_3, x_4, x_5, x_6, x_7, hb1s, hb1]; done)) (fun hHeld => ?_)
          (refine' take_in 0 rfl (by kernel_rfl) (by kernel_rfl) (by kernel_rfl) (fun _ _ _ h => h) (by rfl) (by assumption) ?_ ?_; rotate_left; focus (intro w hSw; (try dsimp only at hSw); go_simp; try with_reducible rfl)); try simp only [Act.put, List.setIfInBounds_toArray, List.set_cons_zero, List.set_cons_succ]
          (refine' take_in 1 rfl (by kernel_rfl) (by kernel_rfl) (by kernel_rfl) (fun _ _ _ h => h) (by rfl) (by assumption) ?_ ?_; rotate_left; focus (intro w hSw; (try dsimp only at hSw); go_simp; try with_reducible rfl)); try simp only [Act.put, List.setIfInBounds_toArray, List.set_cons_zero, List.set_cons_succ]
          (refine' take_in 2 rfl (by kernel_rfl) (by kernel_rfl) (by kernel_rfl) (fun _ _ _ h => h) (by rfl) (by assumption) ?_ ?_; rotate_left; focus (intro w hSw; (try dsimp only at hSw); go_simp; try with_reducible rfl)); try simp only [Act.put, List.setIfInBounds_toArray, List.set_cons_zero, List.set_cons_succ]
          (refine' take_in 3 rfl (by kernel_rfl) (by kernel_rfl) (by kernel_rfl) (fun _ _ _ h => h) (by rfl) (by assumption) ?_ ?_; rotate_left; focus (intro w hSw; (try dsimp only at hSw); go_simp; try with_reducible rfl)); try simp only [Act.put, List.setIfInBounds_toArray, List.set_cons_zero, List.set_cons_succ]
          (refine' take_in 4 rfl (by kernel_rfl) (by kernel_rfl) (by kernel_rfl) (fun _ _ _ h => h) (by rfl) (by assumption) ?_ ?_; rotate_left; focus (intro w hSw; (try dsimp only at hSw); go_simp; try with_reducible rfl)); try simp only [Act.put, List.setIfInBounds_toArray, List.set_cons_zero, List.set_cons_succ]
          (refine' take_in 5 rfl (by kernel_rfl) (by kernel_rfl) (by kernel_rfl) (fun _ _ _ h => h) (by rfl) (by assumption) ?_ ?_; rotate_left; focus (intro w hSw; (try dsimp only at hSw); go_simp; try with_reducible rfl)); try simp only [Act.put, List.setIfInBounds_toArray, List.set_cons_zero, List.set_cons_succ]
          (refine' take_in 6 rfl (by kernel_rfl) (by kernel_rfl) (by kernel_rfl) (fun _ _ _ h => h) (by rfl) (by assumption) ?_ ?_; rotate_left; focus (intro w hSw; (try dsimp only at hSw); go_simp; try with_reducible rfl)); try simp only [Act.put, List.setIfInBounds_toArray, List.set_cons_zero, List.set_cons_succ]
          refine' next_in 7 rfl (by kernel_rfl) (by rfl) (fun K hK => ?_)
          go_simp
          (with_reducible refine (rLast_ev (some ⟨b1, o1, none⟩) k c (l.take k) a _ (HSk.out.ext (by repeat (first | with_reducible exact Ext.refl _ | with_reducible refine Ext.drew ?_ | with_reducible refine Ext.drewN ?_ _ | with_reducible refine Ext.alloc ?_ _ | with_reducible refine Ext.setCell ?_ (by first | omega | (simp; done) | (simp; omega)) _))) HA.out.1).mono ?_)
          rintro e w_1 ⟨rfl, rfl⟩
          refine hK.out _ _ (by (first | exact ⟨x_0, x_1, x_2, x_3, x_4, x_5, x_6, x_7⟩ | (simp [go_sem, World.cell?_alloc_past, x_0, x_1, x_2, x_3, x_4, x_5, x_6, x_7, hb1s, hb1]; done))) (fun hHeld => ?_); clear hK K; try simp only [Act.put, List.setIfInBounds_toArray, List.set_cons_zero, List.set_cons_succ]
          refine' next_in 8 rfl (by kernel_rfl) (by rfl) (fun K hK => ?_)
          go_simp
          (with_reducible refine (rOne_ev xo xv xs xp xf xc xi xb E a r _ HA.out.2.1 HA.out.2.2).mono ?_)
          rintro e w11 ⟨rfl, hx11⟩
          replace x_0 : w11.cell? ⟨b1, o1 + k * 8, none⟩ = some (.int .i64 xo) := hx11.has (by first | exact x_0 | (simp [go_sem, World.cell?_alloc_past, x_0, x_1, x_2, x_3, x_4, x_5, x_6, x_7, hb1s, hb1]; done))
          replace x_1 : w11.cell? ⟨b1, o1 + k * 8 + 1, none⟩ = some (.int .i64 xv) := hx11.has (by first | exact x_1 | (simp [go_sem, World.cell?_alloc_past, x_0, x_1, x_2, x_3, x_4, x_5, x_6, x_7, hb1s, hb1]; done))
          replace x_2 : w11.cell? ⟨b1, o1 + k * 8 + 2, none⟩ = some (.int .i64 xs) := hx11.has (by first | exact x_2 | (simp [go_sem, World.cell?_alloc_past, x_0, x_1, x_2, x_3, x_4, x_5, x_6, x_7, hb1s, hb1]; done))
          replace x_3 : w11.cell? ⟨b1, o1 + k * 8 + 3, none⟩ = some (.int .i64 xp) := hx11.has (by first | exact x_3 | (simp [go_sem, World.cell?_alloc_past, x_0, x_1, x_2, x_3, x_4, x_5, x_6, x_7, hb1s, hb1]; done))
          replace x_4 : w11.cell? ⟨b1, o1 + k * 8 + 4, none⟩ = some (.int .i64 xf) := hx11.has (by first | exact x_4 | (simp [go_sem, World.cell?_alloc_past, x_0, x_1, x_2, x_3, x_4, x_5, x_6, x_7, hb1s, hb1]; done))
          replace x_5 : w11.cell? ⟨b1, o1 + k * 8 + 5, none⟩ = some (.int .i64 xc) := hx11.has (by first | exact x_5 | (simp [go_sem, World.cell?_alloc_past, x_0, x_1, x_2, x_3, x_4, x_5, x_6, x_7, hb1s, hb1]; done))
          replace x_6 : w11.cell? ⟨b1, o1 + k * 8 + 6, none⟩ = some (.int .u64 xi) := hx11.has (by first | exact x_6 | (simp [go_sem, World.cell?_alloc_past, x_0, x_1, x_2, x_3, x_4, x_5, x_6, x_7, hb1s, hb1]; done))
          replace x_7 : w11.cell? ⟨b1, o1 + k * 8 + 7, none⟩ = some (.int .u64 xb) := hx11.has (by first | exact x_7 | (simp [go_sem, World.cell?_alloc_past, x_0, x_1, x_2, x_3, x_4, x_5, x_6, x_7, hb1s, hb1]; done))
          have z11 := hx11.size
          try simp at z11
          have rx : b1 < w11.heap.size := by omega
          have rxa : b1 < w11.heap.size + 1 := by omega
          have rxb : b1 < w11.heap.size + 1 + 1 := by omega
          have rxc : b1 < w11.heap.size + 1 + 1 + 1 := by omega
          have rxn : ¬ b1 = w11.heap.size := by omega
          replace HSk := Lib.hid (HSk.out.ext (Ext.trans (by repeat (first | with_reducible exact Ext.refl _ | with_reducible refine Ext.drew ?_ | with_reducible refine Ext.drewN ?_ _ | with_reducible refine Ext.alloc ?_ _ | with_reducible refine Ext.setCell ?_ (by first | omega | (simp; done) | (simp; omega)) _)) hx11))
          have X11 : Hid (Ext w w11) := Lib.hid (Ext.trans (by repeat (first | with_reducible exact XR.out | with_reducible refine Ext.drew ?_ | with_reducible refine Ext.drewN ?_ _ | with_reducible refine Ext.alloc ?_ _ | with_reducible refine Ext.setCell ?_ (by first | omega | (simp; done) | (simp; omega)) _)) hx11)
          clear XR hx11 z11
          refine hK.out _ _ (by (first | exact ⟨x_0, x_1, x_2, x_3, x_4, x_5, x_6, x_7⟩ | (simp [go_sem, World.cell?_alloc_past, x_0, x_1, x_2, x_3, x_4, x_5, x_6, x_7, rx, rxa, rxb, rxc, rxn, hb1s, hb1]; done))) (fun hHeld => ?_); clear hK K; try simp only [Act.put, List.setIfInBounds_toArray, List.set_cons_zero, List.set_cons_succ]
          (refine' take_in 9 rfl (by kernel_rfl) (by kernel_rfl) (by kernel_rfl) (fun _ _ _ h => h) (by rfl) (by assumption) ?_ ?_; rotate_left; focus (intro w hSw; (try dsimp only at hSw); go_simp; try with_reducible rfl)); try simp only [Act.put, List.setIfInBounds_toArray, List.set_cons_zero, List.set_cons_succ]
          refine wpAnyH_done (by kernel_rfl) ?_ _
          go_wp2_with fail
          go_roundg (gk - 1)
          case measure => have := HK.out; omega
          case rel => exact ⟨by have := HK.out; omega, num_eq (by have := HK.out; omega), Lib.hid (by rw [show n - (gk - 1) = k + 1 from by have := HK.out; omega, HT.out.1, HT.out.2, if_neg (by simpa using hr0h.out)]; rfl), Lib.hid (by repeat (first | with_reducible exact X11.out | with_reducible refine Ext.drew ?_ | with_reducible refine Ext.drewN ?_ _ | with_reducible refine Ext.alloc ?_ _ | with_reducible refine Ext.setCell ?_ (by first | omega | (simp; done) | (simp; omega)) _))⟩
        · have hr1 : (r != 0) = true := by simpa using hr0
          have he := HE.out
          rw [HT.out.1, if_pos hr0, if_pos hr0] at he
          injection he with he1 he2
          subst he1; subst he2
          clear hr0
          go_wp2_with fail
          refine wp_region_held_drew (S := fun w' => w'.cell? ⟨b1, o1 + k * 8, none⟩ = some (.int .i64 xo) ∧ w'.cell? ⟨b1, o1 + k * 8 + 1, none⟩ = some (.int .i64 xv) ∧ w'.cell? ⟨b1, o1 + k * 8 + 2, none⟩ = some (.int .i64 xs) ∧ w'.cell? ⟨b1, o1 + k * 8 + 3, none⟩ = some (.int .i64 xp) ∧ w'.cell? ⟨b1, o1 + k * 8 + 4, none⟩ = some (.int .i64 xf) ∧ w'.cell? ⟨b1, o1 + k * 8 + 5, none⟩ = some (.int .i64 xc) ∧ w'.cell? ⟨b1, o1 + k * 8 + 6, none⟩ = some (.int .u64 xi) ∧ w'.cell? ⟨b1, o1 + k * 8 + 7, none⟩ = some (.int .u64 xb)) (by kernel_rfl) (by first | exact ⟨x_0, x_1, x_2, x_3, x_4, x_5, x_6, x_7⟩ | (simp [go_sem, World.cell?_alloc_past, x_0, x_1, x_2, x_3, x_4, x_5, x_6, x_7, hb1s, hb1]; done)) (fun hHeld => ?_)
          (refine' take_in 0 rfl (by kernel_rfl) (by kernel_rfl) (by kernel_rfl) (fun _ _ _ h => h) (by rfl) (by assumption) ?_ ?_; rotate_left; focus (intro w hSw; (try dsimp only at hSw); go_simp; try with_reducible rfl)); try simp only [Act.put, List.setIfInBounds_toArray, List.set_cons_zero, List.set_cons_succ]
          (refine' take_in 1 rfl (by kernel_rfl) (by kernel_rfl) (by kernel_rfl) (fun _ _ _ h => h) (by rfl) (by assumption) ?_ ?_; rotate_left; focus (intro w hSw; (try dsimp only at hSw); go_simp; try with_reducible rfl)); try simp only [Act.put, List.setIfInBounds_toArray, List.set_cons_zero, List.set_cons_succ]
          (refine' take_in 2 rfl (by kernel_rfl) (by kernel_rfl) (by kernel_rfl) (fun _ _ _ h => h) (by rfl) (by assumption) ?_ ?_; rotate_left; focus (intro w hSw; (try dsimp only at hSw); go_simp; try with_reducible rfl)); try simp only [Act.put, List.setIfInBounds_toArray, List.set_cons_zero, List.set_cons_succ]
          (refine' take_in 3 rfl (by kernel_rfl) (by kernel_rfl) (by kernel_rfl) (fun _ _ _ h => h) (by rfl) (by assumption) ?_ ?_; rotate_left; focus (intro w hSw; (try dsimp only at hSw); go_simp; try with_reducible rfl)); try simp only [Act.put, List.setIfInBounds_toArray, List.set_cons_zero, List.set_cons_succ]
          (refine' take_in 4 rfl (by kernel_rfl) (by kernel_rfl) (by kernel_rfl) (fun _ _ _ h => h) (by rfl) (by assumption) ?_ ?_; rotate_left; focus (intro w hSw; (try dsimp only at hSw); go_simp; try with_reducible rfl)); try simp only [Act.put, List.setIfInBounds_toArray, List.set_cons_zero, List.set_cons_succ]
          (refine' take_in 5 rfl (by kernel_rfl) (by kernel_rfl) (by kernel_rfl) (fun _ _ _ h => h) (by rfl) (by assumption) ?_ ?_; rotate_left; focus (intro w hSw; (try dsimp only at hSw); go_simp; try with_reducible rfl)); try simp only [Act.put, List.setIfInBounds_toArray, List.set_cons_zero, List.set_cons_succ]
          (refine' take_in 6 rfl (by kernel_rfl) (by kernel_rfl) (by kernel_rfl) (fun _ _ _ h => h) (by rfl) (by assumption) ?_ ?_; rotate_left; focus (intro w hSw; (try dsimp only at hSw); go_simp; try with_reducible rfl)); try simp only [Act.put, List.setIfInBounds_toArray, List.set_cons_zero, List.set_cons_succ]
          refine' next_in 7 rfl (by kernel_rfl) (by rfl) (fun K hK => ?_)
          go_simp
          (with_reducible refine (rLast_ev (some ⟨b1, o1, none⟩) k c (l.take k) a _ (HSk.out.ext (by repeat (first | with_reducible exact Ext.refl _ | with_reducible refine Ext.drew ?_ | with_reducible refine Ext.drewN ?_ _ | with_reducible refine Ext.alloc ?_ _ | with_reducible refine Ext.setCell ?_ (by first | omega | (simp; done) | (simp; omega)) _))) HA.out.1).mono ?_)
          rintro e w_1 ⟨rfl, rfl⟩
          refine hK.out _ _ (by (first | exact ⟨x_0, x_1, x_2, x_3, x_4, x_5, x_6, x_7⟩ | (simp [go_sem, World.cell?_alloc_past, x_0, x_1, x_2, x_3, x_4, x_5, x_6, x_7, hb1s, hb1]; done))) (fun hHeld => ?_); clear hK K; try simp only [Act.put, List.setIfInBounds_toArray, List.set_cons_zero, List.set_cons_succ]
          refine' next_in 8 rfl (by kernel_rfl) (by rfl) (fun K hK => ?_)
          go_simp
          (with_reducible refine (rOne_ev xo xv xs xp xf xc xi xb E a r _ HA.out.2.1 HA.out.2.2).mono ?_)
          rintro e w11 ⟨rfl, hx11⟩
          replace x_0 : w11.cell? ⟨b1, o1 + k * 8, none⟩ = some (.int .i64 xo) := hx11.has (by first | exact x_0 | (simp [go_sem, World.cell?_alloc_past, x_0, x_1, x_2, x_3, x_4, x_5, x_6, x_7, hb1s, hb1]; done))
          replace x_1 : w11.cell? ⟨b1, o1 + k * 8 + 1, none⟩ = some (.int .i64 xv) := hx11.has (by first | exact x_1 | (simp [go_sem, World.cell?_alloc_past, x_0, x_1, x_2, x_3, x_4, x_5, x_6, x_7, hb1s, hb1]; done))
          replace x_2 : w11.cell? ⟨b1, o1 + k * 8 + 2, none⟩ = some (.int .i64 xs) := hx11.has (by first | exact x_2 | (simp [go_sem, World.cell?_alloc_past, x_0, x_1, x_2, x_3, x_4, x_5, x_6, x_7, hb1s, hb1]; done))
          replace x_3 : w11.cell? ⟨b1, o1 + k * 8 + 3, none⟩ = some (.int .i64 xp) := hx11.has (by first | exact x_3 | (simp [go_sem, World.cell?_alloc_past, x_0, x_1, x_2, x_3, x_4, x_5, x_6, x_7, hb1s, hb1]; done))
          replace x_4 : w11.cell? ⟨b1, o1 + k * 8 + 4, none⟩ = some (.int .i64 xf) := hx11.has (by first | exact x_4 | (simp [go_sem, World.cell?_alloc_past, x_0, x_1, x_2, x_3, x_4, x_5, x_6, x_7, hb1s, hb1]; done))
          replace x_5 : w11.cell? ⟨b1, o1 + k * 8 + 5, none⟩ = some (.int .i64 xc) := hx11.has (by first | exact x_5 | (simp [go_sem, World.cell?_alloc_past, x_0, x_1, x_2, x_3, x_4, x_5, x_6, x_7, hb1s, hb1]; done))
          replace x_6 : w11.cell? ⟨b1, o1 + k * 8 + 6, none⟩ = some (.int .u64 xi) := hx11.has (by first | exact x_6 | (simp [go_sem, World.cell?_alloc_past, x_0, x_1, x_2, x_3, x_4, x_5, x_6, x_7, hb1s, hb1]; done))
          replace x_7 : w11.cell? ⟨b1, o1 + k * 8 + 7, none⟩ = some (.int .u64 xb) := hx11.has (by first | exact x_7 | (simp [go_sem, World.cell?_alloc_past, x_0, x_1, x_2, x_3, x_4, x_5, x_6, x_7, hb1s, hb1]; done))
          have z11 := hx11.size
          try simp at z11
          have rx : b1 < w11.heap.size := by omega
          have rxa : b1 < w11.heap.size + 1 := by omega
          have rxb : b1 < w11.heap.size + 1 + 1 := by omega
          have rxc : b1 < w11.heap.size + 1 + 1 + 1 := by omega
          have rxn : ¬ b1 = w11.heap.size := by omega
          replace HSk := Lib.hid (HSk.out.ext (Ext.trans (by repeat (first | with_reducible exact Ext.refl _ | with_reducible refine Ext.drew ?_ | with_reducible refine Ext.drewN ?_ _ | with_reducible refine Ext.alloc ?_ _ | with_reducible refine Ext.setCell ?_ (by first | omega | (simp; done) | (simp; omega)) _)) hx11))
          have X11 : Hid (Ext w w11) := Lib.hid (Ext.trans (by repeat (first | with_reducible exact XR.out | with_reducible refine Ext.drew ?_ | with_reducible refine Ext.drewN ?_ _ | with_reducible refine Ext.alloc ?_ _ | with_reducible refine Ext.setCell ?_ (by first | omega | (simp; done) | (simp; omega)) _)) hx11)
          clear XR hx11 z11
          refine hK.out _ _ (by (first | exact ⟨x_0, x_1, x_2, x_3, x_4, x_5, x_6, x_7⟩ | (simp [go_sem, World.cell?_alloc_past, x_0, x_1, x_2, x_3, x_4, x_5, x_6, x_7, rx, rxa, rxb, rxc, rxn, hb1s, hb1]; done))) (fun hHeld => ?_); clear hK K; try simp only [Act.put, List.setIfInBounds_toArray, List.set_cons_zero, List.set_cons_succ]
          (refine' take_in 9 rfl (by kernel_rfl) (by kernel_rfl) (by kernel_rfl) (fun _ _ _ h => h) (by rfl) (by assumption) ?_ ?_; rotate_left; focus (intro w hSw; (try dsimp only at hSw); go_simp; try with_reducible rfl)); try simp only [Act.put, List.setIfInBounds_toArray, List.set_cons_zero, List.set_cons_succ]
          refine wpAnyH_done (by kernel_rfl) ?_ _
          go_wp2_with fail
          go_ret2
          exact ⟨ret_two rfl rfl, (by repeat (first | with_reducible exact X11.out | with_reducible refine Ext.drew ?_ | with_reducible refine Ext.drewN ?_ _ | with_reducible refine Ext.alloc ?_ _ | with_reducible refine Ext.setCell ?_ (by first | omega | (simp; done) | (simp; omega)) _))⟩
theorem chkQ_zero {l : List (Int × Int × Int × Int × Int × Int × Int × Int)} {e2 : Int} (h : chkQ l = (0, e2)) : l.length ≤ 32768 ∧ totB l ≤ 4611686018427387904 := by
  unfold chkQ at h
  by_cases h1 : 32768 < l.length
  · rw [if_pos h1] at h; injection h with h _; omega
  · rw [if_neg h1] at h
    by_cases h2 : (chkGo 0 0 l).1 = 0
    · rw [if_neg (by simpa using h2)] at h
      by_cases h3 : totB l ≤ 4611686018427387904
      · exact ⟨by omega, h3⟩
      · rw [if_neg h3] at h; injection h with h _; omega
    · rw [if_pos h2] at h
      exact absurd (congrArg Prod.fst h) h2
set_option maxRecDepth 100000 in
set_option maxHeartbeats 4000000 in
theorem qtotal_any (A : Option Addr) (n c : Nat) (l : List (Int × Int × Int × Int × Int × Int × Int × Int)) (e1 e2 : Int) (w : World) (h : Sl w 8 A n c (l.flatMap entC)) (hf : ∀ x ∈ l, FitsQ x) (he : chkQ l = (e1, e2)) (u : Int) (hu : u = if e1 = 0 then totB l else 0) :
    Calls Try.prog 20 #[.slice A n c] w fun e w' => e = .returned (.tuple #[.int .u64 u, .int .i64 e1]) ∧ Ext w w' := by
  have CC := Lib.hid (qcheck_any A n c l e1 e2 w h hf he)
  by_cases h0 : e1 = 0
  · subst h0
    rw [if_pos rfl] at hu
    have hq := chkQ_zero he
    have hll := h.rlen entC_len (by decide)
    have CS := Lib.hid (fun w' (hx : Ext w w') => qsum_any A n c l w' (h.ext hx) (by omega) hf)
    rw [show sumP l = u from by rw [hu]; exact if_pos hq.2] at CS
    clear h hf he hu hq hll
    go_enter Try.func20, Try.ntmps20
    go_wp2_with fail
    refine CC.out.mono ?_
    rintro e w1 ⟨rfl, hx⟩
    have HX := Lib.hid hx
    clear hx CC
    go_wp2_with fail
    refine (CS.out _ HX.out).mono ?_
    rintro e w2 ⟨rfl, hx⟩
    have HX2 := Lib.hid (HX.out.trans hx)
    clear hx CS
    go_wp2_with fail
    go_ret2
    exact ⟨rfl, HX2.out⟩
  · rw [if_neg h0] at hu
    subst hu
    have h1 : (e1 != 0) = true := by simpa using h0
    clear h hf he h0
    go_enter Try.func20, Try.ntmps20
    go_wp2_with fail
    refine CC.out.mono ?_
    rintro e w1 ⟨rfl, hx⟩
    have HX := Lib.hid hx
    clear hx CC
    go_wp2_with fail
    go_ret2
    exact ⟨rfl, HX.out⟩
set_option maxRecDepth 100000 in
set_option maxHeartbeats 4000000 in
theorem rtotal14_any (A : Option Addr) (n c : Nat) (l : List (Int × Int × Int × Int × Int × Int × Int × Int)) (e1 e2 : Int) (w : World) (h : Sl w 8 A n c (l.flatMap entC)) (hf : ∀ x ∈ l, FitsQ x) (he : chkQ l = (e1, e2)) (u : Int) (hu : u = if e1 = 0 then totB l else 0) :
    Calls Try.prog 21 #[.slice A n c] w fun e w' => e = .returned (.tuple #[.int .u64 u, .int .i64 e1]) ∧ Ext w w' := by
  have CC := Lib.hid (rcheck14_any A n c l e1 e2 w h hf he)
  by_cases h0 : e1 = 0
  · subst h0
    rw [if_pos rfl] at hu
    have hq := chkQ_zero he
    have hll := h.rlen entC_len (by decide)
    have CS := Lib.hid (fun w' (hx : Ext w w') => rsum14_ev A n c l u true w' (h.ext hx) (by omega) hf (by rw [hu, if_pos hq.2]) (by rw [decide_eq_true hq.2]))
    clear h hf he hu hq hll
    go_enter Try.func21, Try.ntmps21
    go_wp2_with fail
    refine CC.out.mono ?_
    rintro e w1 ⟨rfl, hx⟩
    have HX := Lib.hid hx
    clear hx CC
    go_wp2_with fail
    refine (CS.out _ HX.out).mono ?_
    rintro e w2 ⟨rfl, hx⟩
    have HX2 := Lib.hid (HX.out.trans hx)
    clear hx CS
    go_wp2_with fail
    go_ret2
    exact ⟨rfl, HX2.out⟩
  · rw [if_neg h0] at hu
    subst hu
    have h1 : (e1 != 0) = true := by simpa using h0
    clear h hf he h0
    go_enter Try.func21, Try.ntmps21
    go_wp2_with fail
    refine CC.out.mono ?_
    rintro e w1 ⟨rfl, hx⟩
    have HX := Lib.hid hx
    clear hx CC
    go_wp2_with fail
    go_ret2
    exact ⟨rfl, HX.out⟩
end Go.Proofs.Ytnbeejgppooamaa
