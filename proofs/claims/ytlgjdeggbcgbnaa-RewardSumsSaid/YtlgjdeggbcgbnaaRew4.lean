/- reward: New, Credit, Claim. Conditions stand in each lemma. -/
import Derived.Test.YtlgjdeggbcgbnaaRew3
set_option linter.unusedVariables false
set_option linter.unusedSimpArgs false
namespace Go.Proofs.Ytlgjdeggbcgbnaa
open Go.RowKit Go.ChangeShapes Go.WideShapes Go.Deep

/-- numbers handed back, and values behind them -/
def RetWs (r : List Int) (xs : List Value) (w : World) (e : Ending) (w' : World) : Prop := ∃ A c, e = .returned (.tuple (.slice A r.length c :: xs).toArray) ∧ (A = none → c = 0) ∧ OwnWord w' w.heap.size (.slice A r.length c) r.length r ∧ Ext w w'
theorem RetWs.nil {xs : List Value} {w w' : World} (hx : Ext w w') : RetWs [] xs w (.returned (.tuple (.slice none 0 0 :: xs).toArray)) w' := ⟨none, 0, rfl, fun _ => rfl, OwnWord.nil _ _, hx⟩
theorem RetWs.mk {r : List Int} {n : Nat} {xs : List Value} {v : Value} {w w' : World} (h : OwnWord w' w.heap.size v n r) (hx : Ext w w') (hn : n = r.length) : RetWs r xs w (.returned (.tuple (v :: xs).toArray)) w' := by
  subst hn
  obtain ⟨A, c, rfl, h1, h2⟩ := own_parts2 h
  exact ⟨A, c, rfl, h1, h, hx⟩
/-- new credits -/
def newV (n : Int) : List Int × Int := if n < 1 ∨ 64 < n then ([], 3) else (List.replicate n.toNat 0, 0)
theorem make_tc {i0 : TypeInfo} (hi0 : Try.prog.info? 23 = some i0) (hz0 : i0.zero = some (.int .u64 0)) (hz1 : i0.size = 1) (hz2 : i0.bytes = 8) (n : Nat) (hn : n < 1099511627776) (w : World) :
    ∃ w', (Instr.makeSlice 22 (.int .i64 (n : Int)) (.int .i64 (n : Int))).run Try.prog w = .ok (.slice (some ⟨w.heap.size, 0, none⟩) n n) w' ∧ OwnWord w' w.heap.size (.slice (some ⟨w.heap.size, 0, none⟩) n n) n (List.replicate n 0) ∧ Ext w w' := by
  obtain ⟨w', h1, h2, h3⟩ := run_make_full (P := Try.prog) w w.heap.size 22 23 i0 _ 1 Try.underlying22 hi0 hz0 hz1 .i64 .i64 n (by rw [hz2]; omega) (by simp [maxLen]; omega) (Nat.le_refl _)
  refine ⟨w', h1, ?_, (Ext.refl w).grown h3 (fun k e => by cases e)⟩
  have e : (madeCells (Value.int .u64 0).cells (n * 1)).toList = iv .u64 (List.replicate n 0) := by
    simp [madeCells, iv, Value.cells, Nat.mod_one, List.map_const']
  rw [e] at h2
  exact h2
set_option maxRecDepth 100000 in
theorem rewNew_any (n : Int) (w : World) : Calls Try.prog 32 #[.int .i64 n] w (RetWs (newV n).1 [.int .i64 (newV n).2] w) := by
  obtain ⟨i0, hi, hz0, hz1, hz2⟩ := info_parts infoWord
  unfold newV
  by_cases h0 : n < 1
  · rw [if_pos (.inl h0)]
    go_enter Try.func32, Try.ntmps32
    go_wp2
    go_ret2
    exact RetWs.nil (xs := [.int .i64 3]) (Ext.refl _)
  by_cases h1 : 64 < n
  · rw [if_pos (.inr h1)]
    go_enter Try.func32, Try.ntmps32
    go_wp2
    go_ret2
    exact RetWs.nil (xs := [.int .i64 3]) (Ext.refl _)
  rw [if_neg (by omega)]
  obtain ⟨m, rfl⟩ : ∃ m : Nat, n = m := ⟨n.toNat, by omega⟩
  obtain ⟨w1, h1', h2', h3'⟩ := make_tc hi hz0 hz1 hz2 m (by omega) w
  rw [Int.toNat_natCast]
  have hm0 : m < 1099511627776 := by omega
  have R := Lib.hid (show RetWs (List.replicate m 0) [.int .i64 0] w (.returned (.tuple (.slice (some ⟨w.heap.size, 0, none⟩) m m :: [.int .i64 0]).toArray)) w1 from RetWs.mk h2' h3' (by simp))
  clear h2' h3'
  go_enter Try.func32, Try.ntmps32
  go_wp2
  go_ret2
  exact R.out
theorem chkR_zero {l : List Int} (h : chkR l = 0) : 1 ≤ l.length ∧ l.length ≤ 64 ∧ totV l = (sumL l, 0) ∧ sumL l ≤ 4611686018427387904 := by
  unfold chkR at h
  split at h
  · simp at h
  · rename_i h1
    refine ⟨by omega, by omega, ?_⟩
    unfold totV at h ⊢
    by_cases h2 : sumL l ≤ 4611686018427387904
    · rw [if_pos h2]; exact ⟨rfl, h2⟩
    · rw [if_neg h2] at h; simp at h
theorem plV_zero {l : List Int} {i : Int} (h : plV l i = 0) : chkR l = 0 ∧ 0 ≤ i ∧ i < l.length := by
  unfold plV at h
  split at h
  · rename_i h1; exact absurd h h1
  · rename_i h1
    unfold hasV at h
    split at h
    · simp at h
    · rename_i h2
      exact ⟨by simpa using h1, by omega, by omega⟩
theorem rewPlaced_ev (A : Option Addr) (n c : Nat) (l : List Int) (i q : Int) (w : World) (h : Sl w 1 A n c (iv .u64 l)) (hw : ∀ x ∈ l, Word x) (hq : plV l i = q) :
    Calls Try.prog 38 #[.slice A n c, .int .i64 i, .func (.func 39) #[.slice A n c] #[]] w fun e w' => e = .returned (.int .i64 q) ∧ Ext w w' := by
  rw [← hq]; exact rewPlaced_any A n c l i w h hw
theorem rewTot_ev (A : Option Addr) (n c : Nat) (l : List Int) (t : Int) (w : World) (h : Sl w 1 A n c (iv .u64 l)) (hw : ∀ x ∈ l, Word x) (ht : totV l = (t, 0)) :
    Calls Try.prog 40 #[.slice A n c] w fun e w' => e = .returned (.tuple #[.int .u64 t, .int .i64 0]) ∧ Ext w w' := by
  have := rewTot_any A n c l w h hw
  rwa [ht] at this
/-- what a credit comes to -/
def crdV (l : List Int) (i a : Int) : List Int × Int := if plV l i ≠ 0 then ([], plV l i) else if 4611686018427387904 - sumL l < a then ([], 12) else (l.set i.toNat (l.getD i.toNat 0 + a), 0)
/-- what a claim comes to -/
def clmV (l : List Int) (i : Int) : List Int × Int × Int := if plV l i ≠ 0 then ([], 0, plV l i) else if l.getD i.toNat 0 = 0 then ([], 0, 13) else (l.set i.toNat 0, l.getD i.toNat 0, 0)
theorem mem_le_sum : ∀ {l : List Int} {x : Int}, (∀ y ∈ l, Word y) → x ∈ l → x ≤ sumL l
  | a :: l, x, h, hm => by
    have hs : sumL (a :: l) = a + sumL l := rfl
    have hn := sumL_nonneg (l := l) (fun y hy => (h y (List.mem_cons_of_mem _ hy)).1)
    have ha := (h a (List.mem_cons_self ..)).1
    rcases List.mem_cons.1 hm with rfl | h2
    · omega
    · have := mem_le_sum (fun y hy => h y (List.mem_cons_of_mem _ hy)) h2
      omega
set_option maxRecDepth 100000 in
set_option maxHeartbeats 2000000 in
theorem rewCredit_any (A : Option Addr) (c : Nat) (l : List Int) (i a : Int) (w : World) (h : Sl w 1 A l.length c (iv .u64 l)) (hw : ∀ x ∈ l, Word x) (ha : Word a) (hnil : A = none → c = 0) :
    Calls Try.prog 10 #[.slice A l.length c, .int .i64 i, .int .u64 a] w (RetWs (crdV l i a).1 [.int .i64 (crdV l i a).2] w) := by
  have hmf : ∀ (fn : Fn) (first cap : Array Value) (w : World), (Instr.makeFunc fn first cap).run Try.prog w = .ok (.func fn first cap) w := fun _ _ _ _ => rfl
  have hs := h.small
  have HS := Lib.hid h
  have HW := Lib.hid hw
  unfold crdV
  obtain ⟨q, hq⟩ : ∃ q, plV l i = q := ⟨_, rfl⟩
  have P := Lib.hid (rewPlaced_ev A l.length c l i q w h hw hq)
  by_cases h0 : q = 0
  · subst h0
    rw [if_neg (by simp [hq])]
    obtain ⟨h1, h2, h3⟩ := plV_zero hq
    obtain ⟨h4, h5, h6, h7⟩ := chkR_zero h1
    obtain ⟨k, rfl⟩ : ∃ k : Nat, i = k := ⟨i.toNat, by omega⟩
    have hk : k < l.length := by omega
    have s0 := sumL_nonneg (l := l) (fun y hy => (hw y hy).1)
    obtain ⟨t, ht⟩ : ∃ t, t = sumL l := ⟨_, rfl⟩
    rw [← ht] at h6 h7 s0 ⊢
    have T := Lib.hid (fun w h => rewTot_ev A l.length c l t w h hw h6)
    obtain ⟨a1, a2⟩ := ha
    have g1 : 0 ≤ 4611686018427387904 - t := by omega
    have g2 : 4611686018427387904 - t < 18446744073709551616 := by omega
    by_cases h8 : 4611686018427387904 - t < a
    · rw [if_pos h8]
      clear h hw hq h6 ht h1 hnil
      go_enter Try.func10, Try.ntmps10
      go_wp2_with fail
      refine P.out.mono ?_
      rintro e w1 ⟨rfl, hX⟩
      go_wp2_with fail
      refine (T.out w1 (HS.out.ext hX)).mono ?_
      rintro e w2 ⟨rfl, hX2⟩
      go_wp2_with fail
      go_ret2
      exact RetWs.nil (xs := [.int .i64 12]) (hX.trans hX2)
    · rw [if_neg h8, Int.toNat_natCast]
      obtain ⟨u, hu⟩ : ∃ u, u = l.getD k 0 := ⟨_, rfl⟩
      obtain ⟨b1, o1, rfl, hb1, hc1⟩ := h.cell hk
      have x_0 := hc1 k hk
      rw [← hu] at x_0
      rw [← hu]
      have hum : u ∈ l := by rw [hu, List.getD_eq_getElem?_getD, List.getElem?_eq_getElem hk]; exact List.getElem_mem _
      have hu1 := hw u hum
      have hu2 := mem_le_sum hw hum
      rw [← ht] at hu2
      obtain ⟨u1, u2⟩ := hu1
      have g3 : 0 ≤ u + a := by omega
      have g4 : u + a < 18446744073709551616 := by omega
      have Wt := Lib.hid (fun w h => rewWith_any (some ⟨b1, o1, none⟩) c l k (u + a) w h (by omega) hnil hk)
      have hkn : (k : Int) < (l.length : Int) := by omega
      clear h hw hq h6 ht h1 hnil hum hu2 hc1 hu h3
      go_enter Try.func10, Try.ntmps10
      go_wp2_with fail
      refine P.out.mono ?_
      rintro e w1 ⟨rfl, hX⟩
      have y_0 := hX.has x_0
      clear x_0
      have hz1 := hX.size
      go_wp2_with fail
      refine (T.out w1 (HS.out.ext hX)).mono ?_
      rintro e w2 ⟨rfl, hX2⟩
      have x_0 := hX2.has y_0
      clear y_0
      have hz2 := hX2.size
      have HX2 := Lib.hid (hX.trans hX2)
      clear hX hX2
      go_wp2_with fail
      refine (Wt.out w2 (HS.out.ext HX2.out)).mono ?_
      rintro e w3 ⟨B, d, rfl, hb, hO, hX3⟩
      have hll : (l.set k (u + a)).length = l.length := List.length_set
      rw [hll] at hO
      have R := Lib.hid (show RetWs (l.set k (u + a)) [.int .i64 0] w (.returned (.tuple (.slice B l.length d :: [.int .i64 0]).toArray)) w3 from RetWs.mk (OwnWord.lower hO (by omega)) (HX2.out.trans hX3) hll.symm)
      clear hO hX3 x_0 hb
      go_wp2_with fail
      go_ret2
      exact R.out
  · rw [hq, if_pos h0]
    have hd : (q != 0) = true := by simpa using h0
    clear h hw hq
    go_enter Try.func10, Try.ntmps10
    go_wp2_with fail
    refine P.out.mono ?_
    rintro e w1 ⟨rfl, hX⟩
    go_wp2_with fail
    go_ret2
    exact RetWs.nil (xs := [.int .i64 q]) hX
set_option maxRecDepth 100000 in
set_option maxHeartbeats 2000000 in
theorem rewClaim_ok (A : Option Addr) (c k : Nat) (l : List Int) (u : Int) (w : World) (h : Sl w 1 A l.length c (iv .u64 l)) (hw : ∀ x ∈ l, Word x) (hnil : A = none → c = 0) (hq : plV l k = 0) (hu : u = l.getD k 0) (h0 : u ≠ 0) :
    Calls Try.prog 14 #[.slice A l.length c, .int .i64 (k : Int)] w (RetWs (l.set k 0) [.int .u64 u, .int .i64 0] w) := by
  have hmf : ∀ (fn : Fn) (first cap : Array Value) (w : World), (Instr.makeFunc fn first cap).run Try.prog w = .ok (.func fn first cap) w := fun _ _ _ _ => rfl
  have s1 := h.small
  obtain ⟨h1, h2, h3⟩ := plV_zero hq
  obtain ⟨h4, h5, _, _⟩ := chkR_zero h1
  have hk : k < l.length := by omega
  obtain ⟨b1, o1, rfl, hb1, hc1⟩ := h.cell hk
  have x_0 := hc1 k hk
  rw [← hu] at x_0
  have e7 : (u == 0) = false := by simpa using h0
  have HS := Lib.hid h
  have HW := Lib.hid hw
  have HQ := Lib.hid hq
  have HN := Lib.hid hnil
  clear h hw hq h1 hu hc1 h0 hnil
  go_enter Try.func14, Try.ntmps14
  go_wp2_with fail
  (with_reducible refine (rewPlaced_ev (some ⟨b1, o1, none⟩) l.length c l k 0 _ (HS.out.ext (by repeat (first | with_reducible exact Ext.refl _ | with_reducible refine Ext.drew ?_ | with_reducible refine Ext.drewN ?_ _ | with_reducible refine Ext.alloc ?_ _ | with_reducible refine Ext.setCell ?_ (by first | omega | (simp; done) | (simp; omega)) _))) HW.out HQ.out).mono ?_)
  rintro e w1 ⟨rfl, hx1⟩
  replace x_0 : w1.cell? ⟨b1, o1 + k, none⟩ = some (.int .u64 u) := hx1.has (by first | exact x_0 | (simp [go_sem, World.cell?_alloc_past, x_0]; done))
  have z1 := hx1.size
  try simp at z1
  have rx : b1 < w1.heap.size := by omega
  have rxa : b1 < w1.heap.size + 1 := by omega
  have rxb : b1 < w1.heap.size + 1 + 1 := by omega
  have rxc : b1 < w1.heap.size + 1 + 1 + 1 := by omega
  have rxn : ¬ b1 = w1.heap.size := by omega
  replace HS := Lib.hid (HS.out.ext (Ext.trans (by repeat (first | with_reducible exact Ext.refl _ | with_reducible refine Ext.drew ?_ | with_reducible refine Ext.drewN ?_ _ | with_reducible refine Ext.alloc ?_ _ | with_reducible refine Ext.setCell ?_ (by first | omega | (simp; done) | (simp; omega)) _)) hx1))
  have X1 : Hid (Ext w w1) := Lib.hid (Ext.trans (by repeat (first | with_reducible exact Ext.refl w | with_reducible refine Ext.drew ?_ | with_reducible refine Ext.drewN ?_ _ | with_reducible refine Ext.alloc ?_ _ | with_reducible refine Ext.setCell ?_ (by first | omega | (simp; done) | (simp; omega)) _)) hx1)
  clear hx1
  go_wp2_with fail
  refine wp_region_held_drew (S := fun w' => w'.cell? ⟨b1, o1 + k, none⟩ = some (.int .u64 u)) (by kernel_rfl) (by first | exact x_0 | (simp [go_sem, World.cell?_alloc_past, x_0, rx, rxa, rxb, rxc, rxn]; done)) (fun hHeld => ?_)
  (refine' take_in 0 rfl (by kernel_rfl) (by kernel_rfl) (by kernel_rfl) (fun _ _ _ h => h) (by rfl) (by assumption) ?_ ?_; rotate_left; focus (intro w hSw; (try dsimp only at hSw); go_simp; try with_reducible rfl)); try simp only [Act.put, List.setIfInBounds_toArray, List.set_cons_zero, List.set_cons_succ]
  (refine' take_in 1 rfl (by kernel_rfl) (by kernel_rfl) (by kernel_rfl) (fun _ _ _ h => h) (by rfl) (by assumption) ?_ ?_; rotate_left; focus (intro w hSw; (try dsimp only at hSw); go_simp; try with_reducible rfl)); try simp only [Act.put, List.setIfInBounds_toArray, List.set_cons_zero, List.set_cons_succ]
  (refine' take_in 3 rfl (by kernel_rfl) (by kernel_rfl) (by kernel_rfl) (fun _ _ _ h => h) (by rfl) (by assumption) ?_ ?_; rotate_left; focus (intro w hSw; (try dsimp only at hSw); go_simp; try with_reducible rfl)); try simp only [Act.put, List.setIfInBounds_toArray, List.set_cons_zero, List.set_cons_succ]
  (refine' take_in 4 rfl (by kernel_rfl) (by kernel_rfl) (by kernel_rfl) (fun _ _ _ h => h) (by rfl) (by assumption) ?_ ?_; rotate_left; focus (intro w hSw; (try dsimp only at hSw); go_simp; try with_reducible rfl)); try simp only [Act.put, List.setIfInBounds_toArray, List.set_cons_zero, List.set_cons_succ]
  (refine' take_in 5 rfl (by kernel_rfl) (by kernel_rfl) (by kernel_rfl) (fun _ _ _ h => h) (by rfl) (by assumption) ?_ ?_; rotate_left; focus (intro w hSw; (try dsimp only at hSw); go_simp; try with_reducible rfl)); try simp only [Act.put, List.setIfInBounds_toArray, List.set_cons_zero, List.set_cons_succ]
  (refine' take_in 6 rfl (by kernel_rfl) (by kernel_rfl) (by kernel_rfl) (fun _ _ _ h => h) (by rfl) (by assumption) ?_ ?_; rotate_left; focus (intro w hSw; (try dsimp only at hSw); go_simp; try with_reducible rfl)); try simp only [Act.put, List.setIfInBounds_toArray, List.set_cons_zero, List.set_cons_succ]
  refine' next_in 2 rfl (by kernel_rfl) (by rfl) (fun K hK => ?_)
  go_simp
  (with_reducible refine (rewWith_any (some ⟨b1, o1, none⟩) c l k 0 _ (HS.out.ext (by repeat (first | with_reducible exact Ext.refl _ | with_reducible refine Ext.drew ?_ | with_reducible refine Ext.drewN ?_ _ | with_reducible refine Ext.alloc ?_ _ | with_reducible refine Ext.setCell ?_ (by first | omega | (simp; done) | (simp; omega)) _))) (by omega) HN.out hk).mono ?_)
  rintro e w2 ⟨B2, d2, rfl, hn2, hO, hx2⟩
  replace x_0 : w2.cell? ⟨b1, o1 + k, none⟩ = some (.int .u64 u) := hx2.has (by first | exact x_0 | (simp [go_sem, World.cell?_alloc_past, x_0, rx, rxa, rxb, rxc, rxn]; done))
  have z2 := hx2.size
  try simp at z2
  replace rx : b1 < w2.heap.size := by omega
  replace rxa : b1 < w2.heap.size + 1 := by omega
  replace rxb : b1 < w2.heap.size + 1 + 1 := by omega
  replace rxc : b1 < w2.heap.size + 1 + 1 + 1 := by omega
  replace rxn : ¬ b1 = w2.heap.size := by omega
  replace HS := Lib.hid (HS.out.ext (Ext.trans (by repeat (first | with_reducible exact Ext.refl _ | with_reducible refine Ext.drew ?_ | with_reducible refine Ext.drewN ?_ _ | with_reducible refine Ext.alloc ?_ _ | with_reducible refine Ext.setCell ?_ (by first | omega | (simp; done) | (simp; omega)) _)) hx2))
  have X2 : Hid (Ext w w2) := Lib.hid (Ext.trans (by repeat (first | with_reducible exact X1.out | with_reducible refine Ext.drew ?_ | with_reducible refine Ext.drewN ?_ _ | with_reducible refine Ext.alloc ?_ _ | with_reducible refine Ext.setCell ?_ (by first | omega | (simp; done) | (simp; omega)) _)) hx2)
  have HO := Lib.hid hO
  clear X1 hx2 hO
  refine hK.out _ _ (by (first | exact x_0 | (simp [go_sem, World.cell?_alloc_past, x_0, rx, rxa, rxb, rxc, rxn]; done))) (fun hHeld => ?_); clear hK K; try simp only [Act.put, List.setIfInBounds_toArray, List.set_cons_zero, List.set_cons_succ]
  (refine' take_in 7 rfl (by kernel_rfl) (by kernel_rfl) (by kernel_rfl) (fun _ _ _ h => h) (by rfl) (by assumption) ?_ ?_; rotate_left; focus (intro w hSw; (try dsimp only at hSw); go_simp; try with_reducible rfl)); try simp only [Act.put, List.setIfInBounds_toArray, List.set_cons_zero, List.set_cons_succ]
  (refine' take_in 8 rfl (by kernel_rfl) (by kernel_rfl) (by kernel_rfl) (fun _ _ _ h => h) (by rfl) (by assumption) ?_ ?_; rotate_left; focus (intro w hSw; (try dsimp only at hSw); go_simp; try with_reducible rfl)); try simp only [Act.put, List.setIfInBounds_toArray, List.set_cons_zero, List.set_cons_succ]
  (refine' take_in 9 rfl (by kernel_rfl) (by kernel_rfl) (by kernel_rfl) (fun _ _ _ h => h) (by rfl) (by assumption) ?_ ?_; rotate_left; focus (intro w hSw; (try dsimp only at hSw); go_simp; try with_reducible rfl)); try simp only [Act.put, List.setIfInBounds_toArray, List.set_cons_zero, List.set_cons_succ]
  refine wpAnyH_done (by kernel_rfl) ?_ _
  go_wp2_with fail
  refine bodyPost_ret (v := .tuple #[.slice B2 (l.set k 0).length d2, .int .u64 u, .int .i64 0]) (by simp [results, Try.results14, go_sem, World.cell?_alloc_past, x_0, rx, rxa, rxb, rxc, rxn]; try rfl) rfl (RetWs.mk (xs := [.int .u64 u, .int .i64 0]) (OwnWord.lower (show _ from (HO.out.ext (by repeat (first | with_reducible exact Ext.refl _ | with_reducible refine Ext.drew ?_ | with_reducible refine Ext.drewN ?_ _ | with_reducible refine Ext.alloc ?_ _ | with_reducible refine Ext.setCell ?_ (by first | omega | (simp; done) | (simp; omega)) _)))) (by first | omega | (simp; omega))) ?_ rfl)
  exact (by repeat (first | with_reducible exact X2.out | with_reducible refine Ext.drew ?_ | with_reducible refine Ext.drewN ?_ _ | with_reducible refine Ext.alloc ?_ _ | with_reducible refine Ext.setCell ?_ (by first | omega | (simp; done) | (simp; omega)) _))
set_option maxRecDepth 100000 in
set_option maxHeartbeats 2000000 in
theorem rewClaim_any (A : Option Addr) (c : Nat) (l : List Int) (i : Int) (w : World) (h : Sl w 1 A l.length c (iv .u64 l)) (hw : ∀ x ∈ l, Word x) (hnil : A = none → c = 0) :
    Calls Try.prog 14 #[.slice A l.length c, .int .i64 i] w (RetWs (clmV l i).1 [.int .u64 (clmV l i).2.1, .int .i64 (clmV l i).2.2] w) := by
  have hmf : ∀ (fn : Fn) (first cap : Array Value) (w : World), (Instr.makeFunc fn first cap).run Try.prog w = .ok (.func fn first cap) w := fun _ _ _ _ => rfl
  have hs := h.small
  unfold clmV
  obtain ⟨q, hq⟩ : ∃ q, plV l i = q := ⟨_, rfl⟩
  have P := Lib.hid (rewPlaced_ev A l.length c l i q w h hw hq)
  by_cases h0 : q = 0
  · subst h0
    rw [if_neg (by simp [hq])]
    obtain ⟨h1, h2, h3⟩ := plV_zero hq
    obtain ⟨k, rfl⟩ : ∃ k : Nat, i = k := ⟨i.toNat, by omega⟩
    rw [Int.toNat_natCast]
    obtain ⟨u, hu⟩ : ∃ u, u = l.getD k 0 := ⟨_, rfl⟩
    by_cases hz : u = 0
    · rw [if_pos (hu.symm.trans hz)]
      have hk : k < l.length := by omega
      have hkn : (k : Int) < (l.length : Int) := h3
      obtain ⟨b1, o1, rfl, hb1, hc1⟩ := h.cell hk
      have x_0 := hc1 k hk
      rw [← hu, hz] at x_0
      clear h hw hq h1 hu hc1 hz hnil
      go_enter Try.func14, Try.ntmps14
      go_wp2_with fail
      refine P.out.mono ?_
      rintro e w1 ⟨rfl, hX⟩
      have y_0 := hX.has x_0
      clear x_0
      go_wp2_with fail
      refine bodyPost_ret (v := .tuple #[.slice none 0 0, .int .u64 0, .int .i64 13]) (by simp [results, Try.results14]; try rfl) rfl ?_
      exact RetWs.nil (xs := [.int .u64 0, .int .i64 13]) hX
    · rw [if_neg (by rw [← hu]; exact hz), ← hu]
      exact rewClaim_ok A c k l u w h hw hnil hq hu hz
  · rw [hq, if_pos h0]
    have hd : (q != 0) = true := by simpa using h0
    clear h hw hq
    go_enter Try.func14, Try.ntmps14
    go_wp2_with fail
    refine P.out.mono ?_
    rintro e w1 ⟨rfl, hX⟩
    go_wp2_with fail
    refine bodyPost_ret (v := .tuple #[.slice none 0 0, .int .u64 0, .int .i64 q]) (by simp [results, Try.results14]; try rfl) rfl ?_
    exact RetWs.nil (xs := [.int .u64 0, .int .i64 q]) hX
end Go.Proofs.Ytlgjdeggbcgbnaa
