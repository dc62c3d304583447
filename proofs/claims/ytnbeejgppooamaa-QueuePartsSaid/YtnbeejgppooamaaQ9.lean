/- law14: the chapter and awake. Conditions stand in each lemma. -/
import Derived.Test.YtnbeejgppooamaaQ8
import Derived.Test.YtnbeejgppooamaaListWord
set_option linter.unusedVariables false
set_option linter.unusedSimpArgs false
namespace Go.Proofs.Ytnbeejgppooamaa
open Go.RowKit Go.ChangeShapes Go.WideShapes Go.Deep Go.Joins

theorem qadd_ev (A : Option Addr) (n c : Nat) (l R : List (Int × Int × Int × Int × Int × Int × Int × Int)) (xo xv xs xp xf xc xi xb most er : Int) (w : World) (h : Sl w 8 A n c (l.flatMap entC)) (hn : n ≤ 100000) (hf : ∀ x ∈ l, FitsQ x) (hxb : Word xb) (hxi : Word xi) (hnil : A = none → c = 0) (hv : (R, er) = addQ l (xo, xv, xs, xp, xf, xc, xi, xb) most) :
    Calls Try.prog 12 #[.slice A n c, .agg #[.int .i64 xo, .int .i64 xv, .int .i64 xs, .int .i64 xp, .int .i64 xf, .int .i64 xc, .int .u64 xi, .int .u64 xb], .int .i64 most] w fun e w' => ∃ A2 c2, e = .returned (.tuple #[.slice A2 R.length c2, .int .i64 er]) ∧ (A2 = none → c2 = 0) ∧ OwnEnt w' w.heap.size (.slice A2 R.length c2) R.length R ∧ Ext w w' := by
  have hll := h.rlen entC_len (by decide)
  have h2 : er = adE l (xo, xv, xs, xp, xf, xc, xi, xb) most ∧ R = if adE l (xo, xv, xs, xp, xf, xc, xi, xb) most = 0 then l ++ [(xo, xv, xs, xp, xf, xc, xi, xb)] else [] := by
    unfold addQ at hv
    split at hv
    · rename_i e
      injection hv with q1 q2
      rw [if_pos e]
      exact ⟨q2.trans e.symm, q1⟩
    · rename_i e
      injection hv with q1 q2
      rw [if_neg e]
      exact ⟨q2, q1⟩
  obtain ⟨rfl, rfl⟩ := h2
  exact (qadd_at A n c l xo xv xs xp xf xc xi xb most (chkQ l).1 (chkQ l).2 _ _ _ (adE l (xo, xv, xs, xp, xf, xc, xi, xb) most) _ _ w h hn hf hxb hxi rfl rfl rfl rfl rfl rfl (by unfold adE; rw [← hll]; rfl) hnil _ rfl).mono fun e w' ⟨A2, c2, q1, q2, q3, q4⟩ => ⟨A2, c2, q1, q2, q3, q4⟩
theorem radd14_ev (A : Option Addr) (n c : Nat) (l R : List (Int × Int × Int × Int × Int × Int × Int × Int)) (xo xv xs xp xf xc xi xb most er : Int) (w : World) (h : Sl w 8 A n c (l.flatMap entC)) (hn : n ≤ 100000) (hf : ∀ x ∈ l, FitsQ x) (hfx : FitsQ (xo, xv, xs, xp, xf, xc, xi, xb)) (hnil : A = none → c = 0) (hv : (R, er) = addQ l (xo, xv, xs, xp, xf, xc, xi, xb) most) :
    Calls Try.prog 13 #[.slice A n c, .agg #[.int .i64 xo, .int .i64 xv, .int .i64 xs, .int .i64 xp, .int .i64 xf, .int .i64 xc, .int .u64 xi, .int .u64 xb], .int .i64 most] w fun e w' => ∃ A2 c2, e = .returned (.tuple #[.slice A2 R.length c2, .int .i64 er]) ∧ (A2 = none → c2 = 0) ∧ OwnEnt w' w.heap.size (.slice A2 R.length c2) R.length R ∧ Ext w w' := by
  have hll := h.rlen entC_len (by decide)
  have h2 : er = adE l (xo, xv, xs, xp, xf, xc, xi, xb) most ∧ R = if adE l (xo, xv, xs, xp, xf, xc, xi, xb) most = 0 then l ++ [(xo, xv, xs, xp, xf, xc, xi, xb)] else [] := by
    unfold addQ at hv
    split at hv
    · rename_i e
      injection hv with q1 q2
      rw [if_pos e]
      exact ⟨q2.trans e.symm, q1⟩
    · rename_i e
      injection hv with q1 q2
      rw [if_neg e]
      exact ⟨q2, q1⟩
  obtain ⟨rfl, rfl⟩ := h2
  exact (radd14_at A n c l xo xv xs xp xf xc xi xb most (chkQ l).1 (chkQ l).2 _ _ _ (adE l (xo, xv, xs, xp, xf, xc, xi, xb) most) _ _ w h hn hf hfx.ba hfx.2.2.2.2.2.2.1 rfl rfl rfl rfl rfl rfl (by unfold adE; rw [← hll]; rfl) hnil hfx _ rfl).mono fun e w' ⟨A2, c2, q1, q2, q3, q4⟩ => ⟨A2, c2, q1, q2, q3, q4⟩
theorem cutV_at {l : List (Int × Int × Int × Int × Int × Int × Int × Int)} {n : Nat} {v h p er U : Int} {R : List (Int × Int × Int × Int × Int × Int × Int × Int)} {S : List (Int × Int)} (hl : l.length = n) (hv : (R, S, U, er) = cutV l v h p) : er = cutG (chkQ l).1 v p (decide (1 ≤ h) && decide (h ≤ 4294967296)) ∧ (R, S, U) = if er = 0 then (cutL l v h p n, cutS l v h p n, cutA l v h p n) else ([], [], 0) := by
  subst hl
  unfold cutV at hv
  split at hv
  · rename_i e
    injection hv with q1 q2
    injection q2 with q2 q3
    injection q3 with q3 q4
    subst q1 q2 q3 q4
    exact ⟨e.symm, by rw [if_pos rfl]⟩
  · rename_i e
    injection hv with q1 q2
    injection q2 with q2 q3
    injection q3 with q3 q4
    subst q1 q2 q3 q4
    exact ⟨rfl, by rw [if_neg e]⟩
theorem qcut_ev (A : Option Addr) (n c : Nat) (l R : List (Int × Int × Int × Int × Int × Int × Int × Int)) (S : List (Int × Int)) (v h p U er : Int) (w : World) (hs : Sl w 8 A n c (l.flatMap entC)) (hn : n ≤ 100000) (hf : ∀ x ∈ l, FitsQ x) (hnil : A = none → c = 0) (hh : h ≤ 9223372036854775807) (hp : Word p) (hv : (R, S, U, er) = cutV l v h p) :
    Calls Try.prog 18 #[.slice A n c, .int .i64 v, .int .i64 h, .int .u64 p] w (RetCut R S U er w) := by
  obtain ⟨h1, h2⟩ := cutV_at (hs.rlen entC_len (by decide)) hv
  exact qcut_at A n c l v h p (chkQ l).1 (chkQ l).2 er _ w hs hn hf hnil hh hp rfl rfl h1 R S U h2
theorem rcut14_ev (A : Option Addr) (n c : Nat) (l R : List (Int × Int × Int × Int × Int × Int × Int × Int)) (S : List (Int × Int)) (v h p U er : Int) (w : World) (hs : Sl w 8 A n c (l.flatMap entC)) (hn : n ≤ 100000) (hf : ∀ x ∈ l, FitsQ x) (hnil : A = none → c = 0) (hh : h ≤ 9223372036854775807) (hp : Word p) (hv : (R, S, U, er) = cutV l v h p) :
    Calls Try.prog 19 #[.slice A n c, .int .i64 v, .int .i64 h, .int .u64 p] w (RetCut R S U er w) := by
  obtain ⟨h1, h2⟩ := cutV_at (hs.rlen entC_len (by decide)) hv
  exact rcut14_at A n c l v h p (chkQ l).1 (chkQ l).2 er _ w hs hn hf hnil hh hp rfl rfl h1 R S U h2
theorem fitsQ_of {l : List (Int × Int × Int × Int × Int × Int × Int × Int)} (h : l.all (fun x => (Lit.int .i64 x.1).wf && ((Lit.int .i64 x.2.1).wf && ((Lit.int .i64 x.2.2.1).wf && ((Lit.int .i64 x.2.2.2.1).wf && ((Lit.int .i64 x.2.2.2.2.1).wf && ((Lit.int .i64 x.2.2.2.2.2.1).wf && ((decide (0 ≤ x.2.2.2.2.2.2.1) && decide (x.2.2.2.2.2.2.1 < 18446744073709551616)) && (decide (0 ≤ x.2.2.2.2.2.2.2) && decide (x.2.2.2.2.2.2.2 < 18446744073709551616))))))))) = true) : ∀ x ∈ l, FitsQ x := by
  intro x hx
  have h1 := List.all_eq_true.1 h x hx
  simp only [Bool.and_eq_true, decide_eq_true_eq] at h1
  exact h1
theorem fitsQ_one {xo xv xs xp xf xc xi xb : Int} (h : ([(xo, xv, xs, xp, xf, xc, xi, xb)] : List (Int × Int × Int × Int × Int × Int × Int × Int)).all (fun x => (Lit.int .i64 x.1).wf && ((Lit.int .i64 x.2.1).wf && ((Lit.int .i64 x.2.2.1).wf && ((Lit.int .i64 x.2.2.2.1).wf && ((Lit.int .i64 x.2.2.2.2.1).wf && ((Lit.int .i64 x.2.2.2.2.2.1).wf && ((decide (0 ≤ x.2.2.2.2.2.2.1) && decide (x.2.2.2.2.2.2.1 < 18446744073709551616)) && (decide (0 ≤ x.2.2.2.2.2.2.2) && decide (x.2.2.2.2.2.2.2 < 18446744073709551616))))))))) = true) : FitsQ (xo, xv, xs, xp, xf, xc, xi, xb) := fitsQ_of h _ (List.mem_singleton.2 rfl)
theorem ents_new (w : World) (l : List (Int × Int × Int × Int × Int × Int × Int × Int)) (n : Nat) (hl : l.length = n) (hn : n ≤ 1000000) : Sl (w.alloc (.cells (l.flatMap entC).toArray 27)) 8 (some ⟨w.heap.size, 0, none⟩) n n (l.flatMap entC) := by
  have := sl_new w 27 8 (l.flatMap entC).toArray n (by rw [List.size_toArray, flat_len entC_len, hl]) hn
  exact this
/-- the chapter's queue -/
def chapQ : List (Int × Int × Int × Int × Int × Int × Int × Int) := [(0, 2, 5, -1, 0, 9, 10, 10), (1, 2, 5, -1, 0, 9, 20, 20), (0, 3, 6, 2, 5, 12, 30, 30)]
theorem chapQ_fits : ∀ x ∈ chapQ, FitsQ x := fitsQ_of (by decide)
theorem chap_add : ∀ (k : Nat) (x : (Int × Int × Int × Int × Int × Int × Int × Int)), chapQ[k]? = some x → (chapQ.take (k + 1), 0) = addQ (chapQ.take k) x 2
  | 0, x, h => by injection h with h; subst h; decide
  | 1, x, h => by injection h with h; subst h; decide
  | 2, x, h => by injection h with h; subst h; decide
  | k + 3, x, h => by simp [chapQ] at h
set_option maxRecDepth 100000 in
set_option maxHeartbeats 4000000 in
theorem two14_any (w : World) : Calls Try.prog 34 #[] w fun e w' => e = .returned (.agg #[.int .i64 2, .int .i64 5, .int .i64 (-1), .int .i64 0]) ∧ Ext w w' := by
  go_enter Try.func34, Try.ntmps34
  go_wp2_with fail
  refine bodyPost_ret (v := .agg #[.int .i64 2, .int .i64 5, .int .i64 (-1), .int .i64 0]) (by simp [results, Try.results34, go_sem, World.cell?_alloc_past]; try rfl) rfl ⟨rfl, ?_⟩
  exact (by repeat (first | with_reducible exact Ext.refl w | with_reducible refine Ext.drew ?_ | with_reducible refine Ext.drewN ?_ _ | with_reducible refine Ext.alloc ?_ _ | with_reducible refine Ext.setCell ?_ (by first | omega | (simp; done) | (simp; omega)) _))
set_option maxRecDepth 100000 in
set_option maxHeartbeats 4000000 in
theorem hop14_any (w : World) : Calls Try.prog 36 #[] w fun e w' => e = .returned (.agg #[.int .i64 3, .int .i64 6, .int .i64 2, .int .i64 5]) ∧ Ext w w' := by
  go_enter Try.func36, Try.ntmps36
  go_wp2_with fail
  refine bodyPost_ret (v := .agg #[.int .i64 3, .int .i64 6, .int .i64 2, .int .i64 5]) (by simp [results, Try.results36, go_sem, World.cell?_alloc_past]; try rfl) rfl ⟨rfl, ?_⟩
  exact (by repeat (first | with_reducible exact Ext.refl w | with_reducible refine Ext.drew ?_ | with_reducible refine Ext.drewN ?_ _ | with_reducible refine Ext.alloc ?_ _ | with_reducible refine Ext.setCell ?_ (by first | omega | (simp; done) | (simp; omega)) _))
set_option maxRecDepth 100000 in
set_option maxHeartbeats 4000000 in
theorem entry14_any (ow v s p f a m : Int) (w : World) : Calls Try.prog 33 #[.int .i64 ow, .agg #[.int .i64 v, .int .i64 s, .int .i64 p, .int .i64 f], .int .i64 a, .int .u64 m] w fun e w' => e = .returned (.agg #[.int .i64 ow, .int .i64 v, .int .i64 s, .int .i64 p, .int .i64 f, .int .i64 a, .int .u64 m, .int .u64 m]) ∧ Ext w w' := by
  go_enter Try.func33, Try.ntmps33
  go_wp2_with fail
  refine bodyPost_ret (v := .agg #[.int .i64 ow, .int .i64 v, .int .i64 s, .int .i64 p, .int .i64 f, .int .i64 a, .int .u64 m, .int .u64 m]) (by simp [results, Try.results33, go_sem, World.cell?_alloc_past]; try rfl) rfl ⟨rfl, ?_⟩
  exact (by repeat (first | with_reducible exact Ext.refl w | with_reducible refine Ext.drew ?_ | with_reducible refine Ext.drewN ?_ _ | with_reducible refine Ext.alloc ?_ _ | with_reducible refine Ext.setCell ?_ (by first | omega | (simp; done) | (simp; omega)) _))
set_option maxRecDepth 100000 in
set_option maxHeartbeats 4000000 in
theorem chapter14_any (w : World) : Calls Try.prog 30 #[] w fun e w' => ∃ A c, e = .returned (.slice A 3 c) ∧ (A = none → c = 0) ∧ OwnEnt w' w.heap.size (.slice A 3 c) 3 chapQ ∧ Ext w w' := by
  go_enter Try.func30, Try.ntmps30
  go_wp2_with fail
  (with_reducible refine (two14_any _).mono ?_)
  rintro e w1 ⟨rfl, hx1⟩
  have z1 := hx1.size
  try simp at z1
  have X1 : Hid (Ext w w1) := Lib.hid (Ext.trans (by repeat (first | with_reducible exact Ext.refl w | with_reducible refine Ext.drew ?_ | with_reducible refine Ext.drewN ?_ _ | with_reducible refine Ext.alloc ?_ _ | with_reducible refine Ext.setCell ?_ (by first | omega | (simp; done) | (simp; omega)) _)) hx1)
  clear hx1 z1
  go_wp2_with fail
  (with_reducible refine (entry14_any 0 2 5 (-1) 0 9 10 _).mono ?_)
  rintro e w2 ⟨rfl, hx2⟩
  have z2 := hx2.size
  try simp at z2
  have X2 : Hid (Ext w w2) := Lib.hid (Ext.trans (by repeat (first | with_reducible exact X1.out | with_reducible refine Ext.drew ?_ | with_reducible refine Ext.drewN ?_ _ | with_reducible refine Ext.alloc ?_ _ | with_reducible refine Ext.setCell ?_ (by first | omega | (simp; done) | (simp; omega)) _)) hx2)
  clear X1 hx2 z2
  go_wp2_with fail
  (with_reducible refine (two14_any _).mono ?_)
  rintro e w3 ⟨rfl, hx3⟩
  have z3 := hx3.size
  try simp at z3
  have X3 : Hid (Ext w w3) := Lib.hid (Ext.trans (by repeat (first | with_reducible exact X2.out | with_reducible refine Ext.drew ?_ | with_reducible refine Ext.drewN ?_ _ | with_reducible refine Ext.alloc ?_ _ | with_reducible refine Ext.setCell ?_ (by first | omega | (simp; done) | (simp; omega)) _)) hx3)
  clear X2 hx3 z3
  go_wp2_with fail
  (with_reducible refine (entry14_any 1 2 5 (-1) 0 9 20 _).mono ?_)
  rintro e w4 ⟨rfl, hx4⟩
  have z4 := hx4.size
  try simp at z4
  have X4 : Hid (Ext w w4) := Lib.hid (Ext.trans (by repeat (first | with_reducible exact X3.out | with_reducible refine Ext.drew ?_ | with_reducible refine Ext.drewN ?_ _ | with_reducible refine Ext.alloc ?_ _ | with_reducible refine Ext.setCell ?_ (by first | omega | (simp; done) | (simp; omega)) _)) hx4)
  clear X3 hx4 z4
  go_wp2_with fail
  (with_reducible refine (hop14_any _).mono ?_)
  rintro e w5 ⟨rfl, hx5⟩
  have z5 := hx5.size
  try simp at z5
  have X5 : Hid (Ext w w5) := Lib.hid (Ext.trans (by repeat (first | with_reducible exact X4.out | with_reducible refine Ext.drew ?_ | with_reducible refine Ext.drewN ?_ _ | with_reducible refine Ext.alloc ?_ _ | with_reducible refine Ext.setCell ?_ (by first | omega | (simp; done) | (simp; omega)) _)) hx5)
  clear X4 hx5 z5
  go_wp2_with fail
  (with_reducible refine (entry14_any 0 3 6 2 5 12 30 _).mono ?_)
  rintro e w6 ⟨rfl, hx6⟩
  have z6 := hx6.size
  try simp at z6
  have X6 : Hid (Ext w w6) := Lib.hid (Ext.trans (by repeat (first | with_reducible exact X5.out | with_reducible refine Ext.drew ?_ | with_reducible refine Ext.drewN ?_ _ | with_reducible refine Ext.alloc ?_ _ | with_reducible refine Ext.setCell ?_ (by first | omega | (simp; done) | (simp; omega)) _)) hx6)
  clear X5 hx6 z6
  have HX6 : Hid (Ext w (w6.alloc (.cells #[.int .i64 0, .int .i64 2, .int .i64 5, .int .i64 (-1), .int .i64 0, .int .i64 9, .int .u64 10, .int .u64 10, .int .i64 1, .int .i64 2, .int .i64 5, .int .i64 (-1), .int .i64 0, .int .i64 9, .int .u64 20, .int .u64 20, .int .i64 0, .int .i64 3, .int .i64 6, .int .i64 2, .int .i64 5, .int .i64 12, .int .u64 30, .int .u64 30] 27))) := Lib.hid (Ext.alloc (show Ext w w6 from (by repeat (first | with_reducible exact X6.out | with_reducible refine Ext.drew ?_ | with_reducible refine Ext.drewN ?_ _ | with_reducible refine Ext.alloc ?_ _ | with_reducible refine Ext.setCell ?_ (by first | omega | (simp; done) | (simp; omega)) _))) _)
  have HWt : Hid (Sl (w6.alloc (.cells #[.int .i64 0, .int .i64 2, .int .i64 5, .int .i64 (-1), .int .i64 0, .int .i64 9, .int .u64 10, .int .u64 10, .int .i64 1, .int .i64 2, .int .i64 5, .int .i64 (-1), .int .i64 0, .int .i64 9, .int .u64 20, .int .u64 20, .int .i64 0, .int .i64 3, .int .i64 6, .int .i64 2, .int .i64 5, .int .i64 12, .int .u64 30, .int .u64 30] 27)) 8 (some ⟨w6.heap.size, 0, none⟩) 3 3 (chapQ.flatMap entC)) := Lib.hid (ents_new w6 chapQ 3 rfl (by omega))
  obtain ⟨gb, hgb⟩ : ∃ g, g = w6.heap.size := ⟨_, rfl⟩
  go_wp2_with fail
  rw [← hgb] at HWt ⊢
  clear hgb X6
  go_loopg [1, 3] 3 (fun gh a i wx => gh ≤ 3 ∧ i = .int .i64 ((3 - gh : Nat) : Int) ∧ (∃ A2 c2, a = .slice A2 (3 - gh) c2 ∧ (A2 = none → c2 = 0)) ∧ Hid (OwnEnt wx w.heap.size a (3 - gh) (chapQ.take (3 - gh))) ∧ Hid (Sl wx 8 (some ⟨gb, 0, none⟩) 3 3 (chapQ.flatMap entC)) ∧ Hid (Ext w wx))
  case atStart => exact ⟨Nat.le_refl _, by simp, by rw [Nat.sub_self]; exact ⟨none, 0, rfl, fun _ => rfl⟩, by rw [Nat.sub_self]; exact Lib.hid (World.ownsRow_nil _ _ _ _), HWt, HX6⟩
  case round =>
    obtain ⟨hg, hi, ⟨A2, c2, rfl, hn2⟩, HO, HT, XR⟩ := hrel
    obtain ⟨k, hk⟩ : ∃ k, k = 3 - gk := ⟨_, rfl⟩
    rw [← hk] at hi HO
    rw [← hk]
    subst hi
    clear HX6 HWt
    by_cases hz : gk = 0
    · obtain rfl : k = 3 := by omega
      have hkn : ¬ ((3 : Nat) : Int) < 3 := by decide
      have HN := Lib.hid hn2
      clear hg hz hk hn2
      rw [show chapQ.take 3 = chapQ from rfl] at HO
      go_wp2_with fail
      (with_reducible refine (kSameEntries_any A2 _ 3 c2 3 3 chapQ chapQ _ HO.out.sl HT.out).mono ?_)
      rintro e w21 ⟨rfl, hx21⟩
      have X21 := Lib.hid (XR.out.trans hx21)
      have HO21 := Lib.hid (OwnEnt.ext HO.out hx21)
      clear hx21 HO XR HT
      simp only [decide_true]
      go_wp2_with fail
      go_ret
      exact ⟨A2, c2, rfl, HN.out, HO21.out, X21.out⟩
    · have hk3 : k < 3 := by omega
      have hkn : (k : Int) < 3 := by omega
      obtain ⟨xw, hl_x⟩ : ∃ x, chapQ[k]? = some x := ⟨_, List.getElem?_eq_getElem (show k < chapQ.length from hk3)⟩
      have hadd := chap_add k xw hl_x
      have hfx := chapQ_fits _ (List.mem_of_getElem? hl_x)
      obtain ⟨b1, o1, hb1e, hb1, hc_x⟩ := HT.out.rec_ entC_len (show 0 < 3 from by omega)
      injection hb1e with hb1e
      injection hb1e with hb1e ho1 _
      subst hb1e ho1
      obtain ⟨xo, xv, xs, xp, xf, xc, xi, xb⟩ := xw
      have x_0 := hc_x k (xo, xv, xs, xp, xf, xc, xi, xb) hl_x 0 _ rfl
      have x_1 := hc_x k (xo, xv, xs, xp, xf, xc, xi, xb) hl_x 1 _ rfl
      have x_2 := hc_x k (xo, xv, xs, xp, xf, xc, xi, xb) hl_x 2 _ rfl
      have x_3 := hc_x k (xo, xv, xs, xp, xf, xc, xi, xb) hl_x 3 _ rfl
      have x_4 := hc_x k (xo, xv, xs, xp, xf, xc, xi, xb) hl_x 4 _ rfl
      have x_5 := hc_x k (xo, xv, xs, xp, xf, xc, xi, xb) hl_x 5 _ rfl
      have x_6 := hc_x k (xo, xv, xs, xp, xf, xc, xi, xb) hl_x 6 _ rfl
      have x_7 := hc_x k (xo, xv, xs, xp, xf, xc, xi, xb) hl_x 7 _ rfl
      simp only at x_0 x_1 x_2 x_3 x_4 x_5 x_6 x_7
      rw [Nat.zero_add] at x_0 x_1 x_2 x_3 x_4 x_5 x_6 x_7
      rw [Nat.add_zero] at x_0
      clear hc_x
      have hl3 : (chapQ.take (k + 1)).length = k + 1 := by rw [List.length_take]; show min (k + 1) 3 = k + 1; omega
      have CA := Lib.hid (qadd_ev A2 k c2 (chapQ.take k) (chapQ.take (k + 1)) xo xv xs xp xf xc xi xb 2 0 wr HO.out.sl (by omega) (fun x hx => chapQ_fits x (List.mem_of_mem_take hx)) hfx.ba hfx.2.2.2.2.2.2.1 hn2 hadd)
      rw [hl3] at CA
      have hwr := Ext.size XR.out
      have HK := Lib.hid (And.intro hk (And.intro hg hz))
      clear hk hg hz hadd hfx hn2 HO hl_x hl3
      go_wp2_with fail
      (with_reducible refine CA.out.mono ?_)
      rintro e w21 ⟨A3, c3, rfl, hn3, hO3, hx21⟩
      have X21 := Lib.hid (XR.out.trans hx21)
      have HO21 := Lib.hid (OwnEnt.lower hO3 hwr)
      have HT21 := Lib.hid (HT.out.ext hx21)
      have HN3 := Lib.hid hn3
      clear hx21 hO3 XR HT CA hn3
      go_wp2_with fail
      go_roundg (gk - 1)
      case measure => have := HK.out; omega
      case rel =>
        have e3 : 3 - (gk - 1) = k + 1 := by have := HK.out; omega
        rw [e3]
        exact ⟨by have := HK.out; omega, num_eq (by have := HK.out; omega), ⟨A3, c3, rfl, HN3.out⟩, HO21, HT21, X21⟩
end Go.Proofs.Ytnbeejgppooamaa
