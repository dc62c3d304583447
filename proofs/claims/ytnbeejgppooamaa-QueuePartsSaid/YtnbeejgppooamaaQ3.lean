/- queues: what all have together, how many are live, whose entries are. Conditions stand in each lemma. -/
import Derived.Test.YtnbeejgppooamaaQ2
import Derived.Test.YtnbeejgppooamaaFixF
import Derived.Test.YtnbeejgppooamaaFixRefF
import Derived.Test.YtnbeejgppooamaaAppTwo
set_option linter.unusedVariables false
set_option linter.unusedSimpArgs false
namespace Go.Proofs.Ytnbeejgppooamaa
open Go.RowKit Go.ChangeShapes Go.WideShapes Go.Deep Go.Joins

theorem below_ext {B : Nat} {w w' : World} (hb : B ≤ w.heap.size) (h : Ext w w') : Below B w w' := Below.mono h hb
/-- an entry's numbers are numbers of their kinds -/
def FitsQ (x : (Int × Int × Int × Int × Int × Int × Int × Int)) : Prop := Fits .i64 x.1 ∧ Fits .i64 x.2.1 ∧ Fits .i64 x.2.2.1 ∧ Fits .i64 x.2.2.2.1 ∧ Fits .i64 x.2.2.2.2.1 ∧ Fits .i64 x.2.2.2.2.2.1 ∧ Word x.2.2.2.2.2.2.1 ∧ Word x.2.2.2.2.2.2.2
theorem FitsQ.ba {x : (Int × Int × Int × Int × Int × Int × Int × Int)} (h : FitsQ x) : Word (baE x) := h.2.2.2.2.2.2.2
def totB : List (Int × Int × Int × Int × Int × Int × Int × Int) → Int
  | [] => 0
  | x :: l => baE x + totB l
theorem totB_app : ∀ (l r : List (Int × Int × Int × Int × Int × Int × Int × Int)), totB (l ++ r) = totB l + totB r
  | [], r => by simp [totB]
  | x :: l, r => by
    show baE x + totB (l ++ r) = baE x + totB l + totB r
    rw [totB_app l r]; omega
theorem totB_nonneg : ∀ {l : List (Int × Int × Int × Int × Int × Int × Int × Int)}, (∀ x ∈ l, FitsQ x) → 0 ≤ totB l
  | [], _ => Int.le_refl 0
  | x :: l, h => by
    have h1 := totB_nonneg (l := l) (fun y hy => h y (List.mem_cons_of_mem _ hy))
    have h2 := (h x (List.mem_cons_self ..)).ba.1
    show 0 ≤ baE x + totB l
    omega
theorem totB_take {l : List (Int × Int × Int × Int × Int × Int × Int × Int)} {k : Nat} {x : (Int × Int × Int × Int × Int × Int × Int × Int)} (h : l[k]? = some x) : totB (l.take (k + 1)) = totB (l.take k) + baE x := by
  rw [List.take_add_one, h, totB_app]
  simp [totB]
theorem totB_le {l : List (Int × Int × Int × Int × Int × Int × Int × Int)} (h : ∀ x ∈ l, FitsQ x) (k : Nat) : totB (l.take k) ≤ totB l := by
  have e : totB l = totB (l.take k) + totB (l.drop k) := by rw [← totB_app, List.take_append_drop]
  have := totB_nonneg (l := l.drop k) (fun x hx => h x (List.mem_of_mem_drop hx))
  omega
def sumP (l : List (Int × Int × Int × Int × Int × Int × Int × Int)) : Int := if totB l ≤ 4611686018427387904 then totB l else 4611686018427387905
theorem sumP_take {l : List (Int × Int × Int × Int × Int × Int × Int × Int)} {k : Nat} {x : (Int × Int × Int × Int × Int × Int × Int × Int)} (hf : ∀ x ∈ l, FitsQ x) (h : l[k]? = some x) : sumP (l.take (k + 1)) = if sumP (l.take k) + baE x ≤ 4611686018427387904 then sumP (l.take k) + baE x else 4611686018427387905 := by
  have h1 := (hf x (List.mem_of_getElem? h)).ba.1
  have h2 := totB_nonneg (l := l.take k) (fun x hx => hf x (List.mem_of_mem_take hx))
  unfold sumP
  rw [totB_take h]
  by_cases h3 : totB (l.take k) ≤ 4611686018427387904
  · rw [if_pos h3]
  · rw [if_neg h3, if_neg (by omega), if_neg (by omega)]
theorem sumP_bd {l : List (Int × Int × Int × Int × Int × Int × Int × Int)} (hf : ∀ x ∈ l, FitsQ x) : 0 ≤ sumP l ∧ sumP l ≤ 4611686018427387905 := by
  have := totB_nonneg hf
  unfold sumP
  split <;> omega
/-- how many are an owner's, of a validator -/
def liveQ (l : List (Int × Int × Int × Int × Int × Int × Int × Int)) (o v : Int) : Nat := l.countP fun x => x.1 == o && x.2.1 == v
theorem liveQ_take {l : List (Int × Int × Int × Int × Int × Int × Int × Int)} {k : Nat} {x : (Int × Int × Int × Int × Int × Int × Int × Int)} {o v : Int} (h : l[k]? = some x) : liveQ (l.take (k + 1)) o v = liveQ (l.take k) o v + if (x.1 == o && x.2.1 == v) = true then 1 else 0 := by
  unfold liveQ
  rw [List.take_add_one, h, List.countP_append]
  congr 1
  simp [List.countP_cons]
theorem liveQ_le (l : List (Int × Int × Int × Int × Int × Int × Int × Int)) (o v : Int) : liveQ l o v ≤ l.length := List.countP_le_length
def ofQ (l : List (Int × Int × Int × Int × Int × Int × Int × Int)) (o : Int) : List (Int × Int × Int × Int × Int × Int × Int × Int) := l.filter fun x => x.1 == o
theorem ofQ_take {l : List (Int × Int × Int × Int × Int × Int × Int × Int)} {k : Nat} {x : (Int × Int × Int × Int × Int × Int × Int × Int)} {o : Int} (h : l[k]? = some x) : ofQ (l.take (k + 1)) o = ofQ (l.take k) o ++ if (x.1 == o) = true then [x] else [] := by
  unfold ofQ
  rw [List.take_add_one, h, List.filter_append]
  congr 1
  by_cases hx : (x.1 == o) = true <;> simp [hx]
set_option maxRecDepth 100000 in
set_option maxHeartbeats 4000000 in
theorem qsum1_any (n : Int) (xo xv xs xp xf xc xi xb : Int) (r : Int) (hr : r = if n + xb ≤ 4611686018427387904 then n + xb else 4611686018427387905) (w : World) (h0 : 0 ≤ n) (h1 : n ≤ 4611686018427387905) (hb : Word xb) :
    Calls Try.prog 76 #[.int .u64 n, .agg #[.int .i64 xo, .int .i64 xv, .int .i64 xs, .int .i64 xp, .int .i64 xf, .int .i64 xc, .int .u64 xi, .int .u64 xb]] w fun e w' => e = .returned (.int .u64 r) ∧ Ext w w' := by
  rw [hr]
  clear hr
  have CA := Lib.hid (fun w => fAdd_any n xb ⟨h0, by omega⟩ hb w)
  obtain ⟨b0, b1⟩ := hb
  by_cases h2 : n + xb < 18446744073709551616
  · rw [show addN n xb = n + xb from if_pos h2, show addE n xb = 0 from if_pos h2] at CA
    by_cases h3 : n + xb ≤ 4611686018427387904
    · rw [if_pos h3]
      have h4 : ¬ 4611686018427387904 < n + xb := by omega
      go_enter Try.func76, Try.ntmps76
      go_wp2_with fail
      (with_reducible refine (CA.out _).mono ?_)
      rintro e w1 ⟨rfl, hx1⟩
      have z1 := hx1.size
      try simp at z1
      have X1 : Hid (Ext w w1) := Lib.hid (Ext.trans (by repeat (first | with_reducible exact Ext.refl w | with_reducible refine Ext.drew ?_ | with_reducible refine Ext.drewN ?_ _ | with_reducible refine Ext.alloc ?_ _ | with_reducible refine Ext.setCell ?_ (by first | omega | (simp; done) | (simp; omega)) _)) hx1)
      clear hx1 z1
      go_wp2_with fail
      go_ret
      exact ⟨rfl, (by repeat (first | with_reducible exact X1.out | with_reducible refine Ext.drew ?_ | with_reducible refine Ext.drewN ?_ _ | with_reducible refine Ext.alloc ?_ _ | with_reducible refine Ext.setCell ?_ (by first | omega | (simp; done) | (simp; omega)) _))⟩
    · rw [if_neg h3]
      have h4 : 4611686018427387904 < n + xb := by omega
      go_enter Try.func76, Try.ntmps76
      go_wp2_with fail
      (with_reducible refine (CA.out _).mono ?_)
      rintro e w1 ⟨rfl, hx1⟩
      have z1 := hx1.size
      try simp at z1
      have X1 : Hid (Ext w w1) := Lib.hid (Ext.trans (by repeat (first | with_reducible exact Ext.refl w | with_reducible refine Ext.drew ?_ | with_reducible refine Ext.drewN ?_ _ | with_reducible refine Ext.alloc ?_ _ | with_reducible refine Ext.setCell ?_ (by first | omega | (simp; done) | (simp; omega)) _)) hx1)
      clear hx1 z1
      go_wp2_with fail
      go_ret
      exact ⟨rfl, (by repeat (first | with_reducible exact X1.out | with_reducible refine Ext.drew ?_ | with_reducible refine Ext.drewN ?_ _ | with_reducible refine Ext.alloc ?_ _ | with_reducible refine Ext.setCell ?_ (by first | omega | (simp; done) | (simp; omega)) _))⟩
  · rw [show addN n xb = 0 from if_neg h2, show addE n xb = 12 from if_neg h2] at CA
    rw [if_neg (by omega)]
    go_enter Try.func76, Try.ntmps76
    go_wp2_with fail
    (with_reducible refine (CA.out _).mono ?_)
    rintro e w1 ⟨rfl, hx1⟩
    have z1 := hx1.size
    try simp at z1
    have X1 : Hid (Ext w w1) := Lib.hid (Ext.trans (by repeat (first | with_reducible exact Ext.refl w | with_reducible refine Ext.drew ?_ | with_reducible refine Ext.drewN ?_ _ | with_reducible refine Ext.alloc ?_ _ | with_reducible refine Ext.setCell ?_ (by first | omega | (simp; done) | (simp; omega)) _)) hx1)
    clear hx1 z1
    go_wp2_with fail
    go_ret
    exact ⟨rfl, (by repeat (first | with_reducible exact X1.out | with_reducible refine Ext.drew ?_ | with_reducible refine Ext.drewN ?_ _ | with_reducible refine Ext.alloc ?_ _ | with_reducible refine Ext.setCell ?_ (by first | omega | (simp; done) | (simp; omega)) _))⟩
set_option maxRecDepth 100000 in
set_option maxHeartbeats 4000000 in
theorem qlive1_any (n : Int) (xo xv xs xp xf xc xi xb : Int) (ow v : Int) (p q : Nat) (r : Int) (hr : r = n + if (xo == ow && xv == v) = true then 1 else 0) (w : World) (h0 : 0 ≤ n) (h1 : n ≤ 1099511627776) (p_0 : w.cell? ⟨p, 0, none⟩ = some (.int .i64 ow)) (q_0 : w.cell? ⟨q, 0, none⟩ = some (.int .i64 v)) :
    Calls Try.prog 55 #[.int .i64 n, .agg #[.int .i64 xo, .int .i64 xv, .int .i64 xs, .int .i64 xp, .int .i64 xf, .int .i64 xc, .int .u64 xi, .int .u64 xb], .pointer (some ⟨p, 0, none⟩), .pointer (some ⟨q, 0, none⟩)] w fun e w' => e = .returned (.int .i64 r) ∧ Ext w w' := by
  rw [hr]
  clear hr
  have hp := cell_lt p_0
  have hq := cell_lt q_0
  have hpn : ¬ p = w.heap.size := by omega
  have hqn : ¬ q = w.heap.size := by omega
  cases e1 : (xo == ow)
  · skip
    go_enter Try.func55, Try.ntmps55
    go_wp2_with fail
    go_ret
    exact ⟨by simp [e1], (by repeat (first | with_reducible exact Ext.refl w | with_reducible refine Ext.drew ?_ | with_reducible refine Ext.drewN ?_ _ | with_reducible refine Ext.alloc ?_ _ | with_reducible refine Ext.setCell ?_ (by first | omega | (simp; done) | (simp; omega)) _))⟩
  · cases e2 : (xv == v)
    · skip
      go_enter Try.func55, Try.ntmps55
      go_wp2_with fail
      go_ret
      exact ⟨by simp [e1, e2], (by repeat (first | with_reducible exact Ext.refl w | with_reducible refine Ext.drew ?_ | with_reducible refine Ext.drewN ?_ _ | with_reducible refine Ext.alloc ?_ _ | with_reducible refine Ext.setCell ?_ (by first | omega | (simp; done) | (simp; omega)) _))⟩
    · skip
      go_enter Try.func55, Try.ntmps55
      go_wp2_with fail
      go_ret
      exact ⟨by simp [e1, e2], (by repeat (first | with_reducible exact Ext.refl w | with_reducible refine Ext.drew ?_ | with_reducible refine Ext.drewN ?_ _ | with_reducible refine Ext.alloc ?_ _ | with_reducible refine Ext.setCell ?_ (by first | omega | (simp; done) | (simp; omega)) _))⟩
theorem ent_infoP : ∃ i0, Try.prog.info? 27 = some i0 ∧ i0.zero = some (.agg #[.int .i64 0, .int .i64 0, .int .i64 0, .int .i64 0, .int .i64 0, .int .i64 0, .int .u64 0, .int .u64 0]) ∧ i0.size = 8 ∧ i0.bytes = 64 := info_parts ent_info
theorem entC_arr (x : (Int × Int × Int × Int × Int × Int × Int × Int)) : (#[.int .i64 x.1, .int .i64 x.2.1, .int .i64 x.2.2.1, .int .i64 x.2.2.2.1, .int .i64 x.2.2.2.2.1, .int .i64 x.2.2.2.2.2.1, .int .u64 x.2.2.2.2.2.2.1, .int .u64 x.2.2.2.2.2.2.2] : Array Value).toList = entC x := rfl
set_option maxRecDepth 100000 in
set_option maxHeartbeats 4000000 in
theorem qof1_any (A : Option Addr) (n c base : Nat) (L : List (Int × Int × Int × Int × Int × Int × Int × Int)) (xo xv xs xp xf xc xi xb : Int) (ow : Int) (p : Nat) (w : World) (h : OwnEnt w base (.slice A n c) n L) (hn : n ≤ 1000000) (hb : base ≤ w.heap.size) (p_0 : w.cell? ⟨p, 0, none⟩ = some (.int .i64 ow)) :
    Calls Try.prog 53 #[.slice A n c, .agg #[.int .i64 xo, .int .i64 xv, .int .i64 xs, .int .i64 xp, .int .i64 xf, .int .i64 xc, .int .u64 xi, .int .u64 xb], .pointer (some ⟨p, 0, none⟩)] w fun e w' => ∃ A' c', e = .returned (.slice A' (L ++ if (xo == ow) = true then [(xo, xv, xs, xp, xf, xc, xi, xb)] else []).length c') ∧ OwnEnt w' base (.slice A' (L ++ if (xo == ow) = true then [(xo, xv, xs, xp, xf, xc, xi, xb)] else []).length c') (L ++ if (xo == ow) = true then [(xo, xv, xs, xp, xf, xc, xi, xb)] else []).length (L ++ if (xo == ow) = true then [(xo, xv, xs, xp, xf, xc, xi, xb)] else []) ∧ Below base w w' := by
  obtain ⟨i0, hi0, hz0, hz1, hz2⟩ := ent_infoP
  have hp := cell_lt p_0
  have hpn : ¬ p = w.heap.size := by omega
  have hL : L.length = n := by
    have := h.1
    rw [flat_len entC_len] at this
    omega
  have HO := Lib.hid h
  have HL := Lib.hid hL
  clear h hL
  cases e1 : (xo == ow)
  · have E := Lib.hid (show OwnEnt w base (.slice A (L ++ []).length c) (L ++ []).length (L ++ []) from by rw [List.append_nil, HL.out]; exact HO.out)
    have HN := Lib.hid (show n = (L ++ []).length from by rw [List.append_nil, HL.out])
    go_enter Try.func53, Try.ntmps53
    go_wp2
    go_ret
    exact ⟨A, c, by simp [HL.out], by simpa [HL.out] using (HO.out.ext ((Ext.refl _).alloc _)), below_ext hb (by repeat (first | with_reducible exact Ext.refl _ | with_reducible refine Ext.drew ?_ | with_reducible refine Ext.alloc ?_ _))⟩
  · go_enter Try.func53, Try.ntmps53
    go_wp2_with (at_builtin; refine wpList_append_new _ rfl _ _ 22 rfl base 27 i0 (.agg #[.int .i64 0, .int .i64 0, .int .i64 0, .int .i64 0, .int .i64 0, .int .i64 0, .int .u64 0, .int .u64 0]) 8 64 Try.underlying22 hi0 hz0 hz1 hz2 rfl (by decide) _ n (L.flatMap entC) (by rfl) (HO.out.ext ((Ext.refl _).alloc _)) #[.int .i64 xo, .int .i64 xv, .int .i64 xs, .int .i64 xp, .int .i64 xf, .int .i64 xc, .int .u64 xi, .int .u64 xb] 1 (by first | rfl | simp [Act.eval, go_sem]) rfl (by intro u hu; simp at hu; rcases hu with rfl | rfl | rfl | rfl | rfl | rfl | rfl | rfl <;> rfl) (by omega) (by decide) (by simp; omega) ?_; intro v9 w9 hown9 hb9; have E0 := Lib.hid (And.intro hown9 hb9); clear hown9 hb9)
    obtain ⟨A9, c9, rfl, _, _⟩ := own_parts2 E0.out.1
    go_wp2
    go_ret
    have h1 := E0.out.1
    refine ⟨A9, c9, by simp [HL.out], ?_, Below.trans (below_ext hb ((Ext.refl _).alloc _)) E0.out.2⟩
    unfold OwnEnt
    rw [List.flatMap_append, HL.out]
    exact h1
set_option maxRecDepth 100000 in
set_option maxHeartbeats 4000000 in
theorem qfoldW_any (A : Option Addr) (n c : Nat) (l : List (Int × Int × Int × Int × Int × Int × Int × Int)) (w : World) (h : Sl w 8 A n c (l.flatMap entC)) (hn : n ≤ 100000) (hf : ∀ x ∈ l, FitsQ x) :
    Calls Try.prog 75 #[.slice A n c, .int .u64 0, .func (.func 76) #[] #[]] w fun e w' => e = .returned (.int .u64 (sumP l)) ∧ Ext w w' := by
  have hll := h.rlen entC_len (by decide)
  have HS := Lib.hid h
  have HF := Lib.hid hf
  have HLL := Lib.hid hll
  clear h hf hll
  go_enter Try.func75, Try.ntmps75
  go_wp2
  go_loopg [1, 11] n (fun gh a i wx => gh ≤ n ∧ i = .int .i64 ((n - gh : Nat) : Int) ∧ a = .int .u64 (sumP (l.take (n - gh))) ∧ Hid (Ext w wx))
  case atStart => exact ⟨Nat.le_refl _, by simp, by rw [Nat.sub_self]; exact rfl, Lib.hid (Ext.refl _)⟩
  case round =>
    obtain ⟨hg, hi, ha, XR⟩ := hrel
    obtain ⟨k, hk⟩ : ∃ k, k = n - gk := ⟨_, rfl⟩
    rw [← hk] at hi ha
    obtain ⟨s, hs⟩ : ∃ s, s = sumP (l.take k) := ⟨_, rfl⟩
    rw [← hs] at ha
    subst ha
    subst hi
    by_cases hz : gk = 0
    · have hkn : ¬ (k : Int) < (n : Int) := by omega
      have hkl : l.take k = l := List.take_of_length_le (by have := HLL.out; omega)
      rw [hkl] at hs
      have HS2 := Lib.hid hs
      clear hk hg hz hkl hs
      go_wp2
      go_ret
      exact ⟨ret_int HS2.out, XR.out⟩
    · have hkn : (k : Int) < (n : Int) := by omega
      have hkl : k < l.length := by have := HLL.out; omega
      have HSr := Lib.hid (HS.out.ext XR.out)
      obtain ⟨b1, o1, rfl, hb1, hc_x⟩ := HSr.out.rec_ entC_len (show 0 < n from by omega)
      obtain ⟨xw, hl_x⟩ : ∃ x, l[k]? = some x := ⟨_, List.getElem?_eq_getElem (by omega)⟩
      have x_0 := hc_x k xw hl_x 0 _ rfl
      have x_1 := hc_x k xw hl_x 1 _ rfl
      have x_2 := hc_x k xw hl_x 2 _ rfl
      have x_3 := hc_x k xw hl_x 3 _ rfl
      have x_4 := hc_x k xw hl_x 4 _ rfl
      have x_5 := hc_x k xw hl_x 5 _ rfl
      have x_6 := hc_x k xw hl_x 6 _ rfl
      have x_7 := hc_x k xw hl_x 7 _ rfl
      obtain ⟨xo, xv, xs, xp, xf, xc, xi, xb⟩ := xw
      simp only at x_0 x_1 x_2 x_3 x_4 x_5 x_6 x_7
      rw [Nat.add_zero] at x_0
      rw [← Nat.add_assoc] at x_1 x_2 x_3 x_4 x_5 x_6 x_7
      clear hc_x
      have hfx := HF.out _ (List.mem_of_getElem? hl_x)
      have hst := sumP_take HF.out hl_x
      obtain ⟨s0, s1⟩ := sumP_bd (l := l.take k) (fun x hx => HF.out x (List.mem_of_mem_take hx))
      rw [← hs] at hst s0 s1
      have hba : Word xb := hfx.ba
      obtain ⟨s2, hs2⟩ : ∃ s2, s2 = if s + xb ≤ 4611686018427387904 then s + xb else 4611686018427387905 := ⟨_, rfl⟩
      replace hst : sumP (l.take (k + 1)) = s2 := by rw [hs2]; exact hst
      have HS2 := Lib.hid hs2
      clear hs2
      have HT := Lib.hid hst
      have HK := Lib.hid (And.intro hk (And.intro hg hz))
      have HSE := Lib.hid hs
      have hwx := Ext.size XR.out
      have hb1s : ¬ b1 = wr.heap.size := by omega
      clear hk hg hz hkl hl_x hfx hst hs HSr
      go_wp2_with fail
      (with_reducible refine (qsum1_any s xo xv xs xp xf xc xi xb s2 HS2.out _ s0 s1 hba).mono ?_)
      rintro e w11 ⟨rfl, hx11⟩
      have z11 := hx11.size
      try simp at z11
      have X11 : Hid (Ext w w11) := Lib.hid (Ext.trans (by repeat (first | with_reducible exact XR.out | with_reducible refine Ext.drew ?_ | with_reducible refine Ext.drewN ?_ _ | with_reducible refine Ext.alloc ?_ _ | with_reducible refine Ext.setCell ?_ (by first | omega | (simp; done) | (simp; omega)) _)) hx11)
      clear x_1 x_4 x_5 x_3 x_0 x_6 x_7 x_2 XR hx11 z11
      go_wp2_with fail
      go_roundg (gk - 1)
      case measure => have := HK.out; omega
      case rel => exact ⟨by have := HK.out; omega, num_eq (by have := HK.out; omega), num_eq (by rw [show n - (gk - 1) = k + 1 from by have := HK.out; omega]; exact HT.out.symm), Lib.hid (by repeat (first | with_reducible exact X11.out | with_reducible refine Ext.drew ?_ | with_reducible refine Ext.drewN ?_ _ | with_reducible refine Ext.alloc ?_ _ | with_reducible refine Ext.setCell ?_ (by first | omega | (simp; done) | (simp; omega)) _))⟩
set_option maxRecDepth 100000 in
set_option maxHeartbeats 4000000 in
theorem qfoldI_any (A : Option Addr) (n c : Nat) (l : List (Int × Int × Int × Int × Int × Int × Int × Int)) (ow v : Int) (p q : Nat) (w : World) (h : Sl w 8 A n c (l.flatMap entC)) (hn : n ≤ 100000) (hf : ∀ x ∈ l, FitsQ x) (p_0 : w.cell? ⟨p, 0, none⟩ = some (.int .i64 ow)) (q_0 : w.cell? ⟨q, 0, none⟩ = some (.int .i64 v)) :
    Calls Try.prog 54 #[.slice A n c, .int .i64 0, .func (.func 55) #[] #[.pointer (some ⟨p, 0, none⟩), .pointer (some ⟨q, 0, none⟩)]] w fun e w' => e = .returned (.int .i64 ((liveQ l ow v : Nat) : Int)) ∧ Ext w w' := by
  have hll := h.rlen entC_len (by decide)
  have HS := Lib.hid h
  have HF := Lib.hid hf
  have HLL := Lib.hid hll
  have P0 := Lib.hid p_0
  clear p_0
  have Q0 := Lib.hid q_0
  clear q_0
  clear h hf hll
  go_enter Try.func54, Try.ntmps54
  go_wp2
  go_loopg [1, 11] n (fun gh a i wx => gh ≤ n ∧ i = .int .i64 ((n - gh : Nat) : Int) ∧ a = .int .i64 ((liveQ (l.take (n - gh)) ow v : Nat) : Int) ∧ Hid (Ext w wx))
  case atStart => exact ⟨Nat.le_refl _, by simp, by rw [Nat.sub_self]; exact rfl, Lib.hid (Ext.refl _)⟩
  case round =>
    obtain ⟨hg, hi, ha, XR⟩ := hrel
    obtain ⟨k, hk⟩ : ∃ k, k = n - gk := ⟨_, rfl⟩
    rw [← hk] at hi ha
    obtain ⟨s, hs⟩ : ∃ s, s = ((liveQ (l.take k) ow v : Nat) : Int) := ⟨_, rfl⟩
    rw [← hs] at ha
    subst ha
    subst hi
    by_cases hz : gk = 0
    · have hkn : ¬ (k : Int) < (n : Int) := by omega
      have hkl : l.take k = l := List.take_of_length_le (by have := HLL.out; omega)
      rw [hkl] at hs
      have HS2 := Lib.hid hs
      clear hk hg hz hkl hs
      go_wp2
      go_ret
      exact ⟨ret_int HS2.out, XR.out⟩
    · have hkn : (k : Int) < (n : Int) := by omega
      have hkl : k < l.length := by have := HLL.out; omega
      have HSr := Lib.hid (HS.out.ext XR.out)
      obtain ⟨b1, o1, rfl, hb1, hc_x⟩ := HSr.out.rec_ entC_len (show 0 < n from by omega)
      obtain ⟨xw, hl_x⟩ : ∃ x, l[k]? = some x := ⟨_, List.getElem?_eq_getElem (by omega)⟩
      have x_0 := hc_x k xw hl_x 0 _ rfl
      have x_1 := hc_x k xw hl_x 1 _ rfl
      have x_2 := hc_x k xw hl_x 2 _ rfl
      have x_3 := hc_x k xw hl_x 3 _ rfl
      have x_4 := hc_x k xw hl_x 4 _ rfl
      have x_5 := hc_x k xw hl_x 5 _ rfl
      have x_6 := hc_x k xw hl_x 6 _ rfl
      have x_7 := hc_x k xw hl_x 7 _ rfl
      obtain ⟨xo, xv, xs, xp, xf, xc, xi, xb⟩ := xw
      simp only at x_0 x_1 x_2 x_3 x_4 x_5 x_6 x_7
      rw [Nat.add_zero] at x_0
      rw [← Nat.add_assoc] at x_1 x_2 x_3 x_4 x_5 x_6 x_7
      clear hc_x
      have hfx := HF.out _ (List.mem_of_getElem? hl_x)
      have hst := liveQ_take (o := ow) (v := v) hl_x
      have s1 := liveQ_le (l.take k) ow v
      rw [List.length_take] at s1
      have s2 : s ≤ 1099511627776 := by omega
      have s0 : 0 ≤ s := by omega
      obtain ⟨s9, hs9⟩ : ∃ s9, s9 = s + if (xo == ow && xv == v) = true then 1 else 0 := ⟨_, rfl⟩
      replace hst : ((liveQ (l.take (k + 1)) ow v : Nat) : Int) = s9 := by rw [hs9, hst, hs]; split <;> simp
      have HS9 := Lib.hid hs9
      clear hs9
      have HT := Lib.hid hst
      have HK := Lib.hid (And.intro hk (And.intro hg hz))
      have HSE := Lib.hid hs
      have hwx := Ext.size XR.out
      have p_0 := XR.out.has P0.out
      have q_0 := XR.out.has Q0.out
      have hb1s : ¬ b1 = wr.heap.size := by omega
      have hps := cell_lt p_0
      have hpn : ¬ p = wr.heap.size := by omega
      have hqs := cell_lt q_0
      have hqn : ¬ q = wr.heap.size := by omega
      clear hk hg hz hkl hl_x hfx hst hs HSr s1
      go_wp2_with fail
      (with_reducible refine (qlive1_any s xo xv xs xp xf xc xi xb ow v p q s9 HS9.out _ s0 s2 (by first | assumption | (simp [go_sem, World.cell?_alloc_past, p_0, hpn, hps]; done)) (by first | assumption | (simp [go_sem, World.cell?_alloc_past, q_0, hqn, hps, hqs]; done))).mono ?_)
      rintro e w11 ⟨rfl, hx11⟩
      have z11 := hx11.size
      try simp at z11
      have X11 : Hid (Ext w w11) := Lib.hid (Ext.trans (by repeat (first | with_reducible exact XR.out | with_reducible refine Ext.drew ?_ | with_reducible refine Ext.drewN ?_ _ | with_reducible refine Ext.alloc ?_ _ | with_reducible refine Ext.setCell ?_ (by first | omega | (simp; done) | (simp; omega)) _)) hx11)
      clear x_1 x_4 x_5 x_3 x_0 x_6 x_7 x_2 p_0 q_0 XR hx11 z11
      go_wp2_with fail
      go_roundg (gk - 1)
      case measure => have := HK.out; omega
      case rel => exact ⟨by have := HK.out; omega, num_eq (by have := HK.out; omega), num_eq (by rw [show n - (gk - 1) = k + 1 from by have := HK.out; omega]; exact HT.out.symm), Lib.hid (by repeat (first | with_reducible exact X11.out | with_reducible refine Ext.drew ?_ | with_reducible refine Ext.drewN ?_ _ | with_reducible refine Ext.alloc ?_ _ | with_reducible refine Ext.setCell ?_ (by first | omega | (simp; done) | (simp; omega)) _))⟩
set_option maxRecDepth 100000 in
set_option maxHeartbeats 4000000 in
theorem qfoldE_any (A : Option Addr) (n c : Nat) (l : List (Int × Int × Int × Int × Int × Int × Int × Int)) (ow : Int) (p : Nat) (w : World) (h : Sl w 8 A n c (l.flatMap entC)) (hn : n ≤ 100000) (hf : ∀ x ∈ l, FitsQ x) (p_0 : w.cell? ⟨p, 0, none⟩ = some (.int .i64 ow)) :
    Calls Try.prog 52 #[.slice A n c, .slice none 0 0, .func (.func 53) #[] #[.pointer (some ⟨p, 0, none⟩)]] w (RetEnt (ofQ l ow) w) := by
  have hll := h.rlen entC_len (by decide)
  have HS := Lib.hid h
  have HF := Lib.hid hf
  have HLL := Lib.hid hll
  have P0 := Lib.hid p_0
  clear p_0
  clear h hf hll
  go_enter Try.func52, Try.ntmps52
  go_wp2
  go_loopg [1, 11] n (fun gh a i wx => gh ≤ n ∧ i = .int .i64 ((n - gh : Nat) : Int) ∧ (∃ A2 c2, a = .slice A2 (ofQ (l.take (n - gh)) ow).length c2) ∧ Hid (OwnEnt wx w.heap.size a (ofQ (l.take (n - gh)) ow).length (ofQ (l.take (n - gh)) ow)) ∧ Hid (Ext w wx))
  case atStart => exact ⟨Nat.le_refl _, by simp, by rw [Nat.sub_self]; exact ⟨none, 0, rfl⟩, by rw [Nat.sub_self]; exact Lib.hid (OwnEnt.nil _ _), Lib.hid (Ext.refl _)⟩
  case round =>
    obtain ⟨hg, hi, ⟨A2, c2, rfl⟩, HO, XR⟩ := hrel
    obtain ⟨k, hk⟩ : ∃ k, k = n - gk := ⟨_, rfl⟩
    rw [← hk] at hi HO
    rw [← hk]
    obtain ⟨L, hL⟩ : ∃ L, L = ofQ (l.take k) ow := ⟨_, rfl⟩
    rw [← hL] at HO ⊢
    subst hi
    by_cases hz : gk = 0
    · have hkn : ¬ (k : Int) < (n : Int) := by omega
      have hkl : l.take k = l := List.take_of_length_le (by have := HLL.out; omega)
      rw [hkl] at hL
      have E := Lib.hid (show RetEnt (ofQ l ow) w (.returned (.slice A2 L.length c2)) wr from by rw [← hL]; exact RetEnt.mk HO.out XR.out)
      clear hk hg hz hkl hL HO
      go_wp2
      go_ret
      exact E.out
    · have hkn : (k : Int) < (n : Int) := by omega
      have hkl : k < l.length := by have := HLL.out; omega
      have HSr := Lib.hid (HS.out.ext XR.out)
      obtain ⟨b1, o1, rfl, hb1, hc_x⟩ := HSr.out.rec_ entC_len (show 0 < n from by omega)
      obtain ⟨xw, hl_x⟩ : ∃ x, l[k]? = some x := ⟨_, List.getElem?_eq_getElem (by omega)⟩
      have x_0 := hc_x k xw hl_x 0 _ rfl
      have x_1 := hc_x k xw hl_x 1 _ rfl
      have x_2 := hc_x k xw hl_x 2 _ rfl
      have x_3 := hc_x k xw hl_x 3 _ rfl
      have x_4 := hc_x k xw hl_x 4 _ rfl
      have x_5 := hc_x k xw hl_x 5 _ rfl
      have x_6 := hc_x k xw hl_x 6 _ rfl
      have x_7 := hc_x k xw hl_x 7 _ rfl
      obtain ⟨xo, xv, xs, xp, xf, xc, xi, xb⟩ := xw
      simp only at x_0 x_1 x_2 x_3 x_4 x_5 x_6 x_7
      rw [Nat.add_zero] at x_0
      rw [← Nat.add_assoc] at x_1 x_2 x_3 x_4 x_5 x_6 x_7
      clear hc_x
      have hfx := HF.out _ (List.mem_of_getElem? hl_x)
      have hst := ofQ_take (o := ow) hl_x
      rw [← hL] at hst
      have hLl : L.length ≤ 100000 := by rw [hL]; unfold ofQ; exact Nat.le_trans (List.length_filter_le _ _) (by rw [List.length_take]; omega)
      have HT := Lib.hid hst
      have HK := Lib.hid (And.intro hk (And.intro hg hz))
      have hwx := Ext.size XR.out
      have p_0 := XR.out.has P0.out
      have hb1s : ¬ b1 = wr.heap.size := by omega
      have hps := cell_lt p_0
      have hpn : ¬ p = wr.heap.size := by omega
      clear hk hg hz hkl hl_x hfx hst hL HSr
      go_wp2_with fail
      (with_reducible refine (qof1_any A2 L.length c2 w.heap.size L xo xv xs xp xf xc xi xb ow p _ (HO.out.ext (by repeat (first | with_reducible exact Ext.refl _ | with_reducible refine Ext.drew ?_ | with_reducible refine Ext.alloc ?_ _ | with_reducible refine Ext.setCell ?_ (by first | omega | (simp; done) | (simp; omega)) _))) (by omega) (by first | omega | (simp; omega)) (by first | assumption | (simp [go_sem, World.cell?_alloc_past, p_0, hpn, hps]; done))).mono ?_)
      rintro e w3 ⟨A3, c3, rfl, hO3, hB3⟩
      have E1 := Lib.hid (show OwnEnt w3 w.heap.size (.slice A3 (ofQ (l.take (k + 1)) ow).length c3) (ofQ (l.take (k + 1)) ow).length (ofQ (l.take (k + 1)) ow) from by rw [HT.out]; exact hO3)
      have HE := Lib.hid (show (ofQ (l.take (k + 1)) ow).length = (L ++ if (xo == ow) = true then [(xo, xv, xs, xp, xf, xc, xi, xb)] else []).length from by rw [HT.out])
      have X3 := Lib.hid (show Ext w w3 from Ext.below (by repeat (first | with_reducible exact XR.out | with_reducible refine Ext.drew ?_ | with_reducible refine Ext.alloc ?_ _ | with_reducible refine Ext.setCell ?_ (by first | omega | (simp; done) | (simp; omega)) _)) hB3)
      clear hO3 hB3
      rw [← HE.out]
      generalize hNN : (ofQ (l.take (k + 1)) ow).length = NN at E1 ⊢
      have HNN := Lib.hid hNN
      clear hNN HE
      go_wp2
      go_roundg (gk - 1)
      case measure => have := HK.out; omega
      case rel =>
        have e1 : n - (gk - 1) = k + 1 := by have := HK.out; omega
        refine ⟨by have := HK.out; omega, num_eq (by have := HK.out; omega), ⟨A3, c3, by rw [e1, HNN.out]⟩, ?_, X3⟩
        rw [e1, HNN.out]
        exact E1
end Go.Proofs.Ytnbeejgppooamaa
