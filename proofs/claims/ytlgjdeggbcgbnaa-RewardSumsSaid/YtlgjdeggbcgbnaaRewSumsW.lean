/- law24: RewardSums returns true, whatever comes in. Conditions: none but those of the arguments' types. -/
import Derived.Test.YtlgjdeggbcgbnaaRewKnownW
import Derived.Test.YtlgjdeggbcgbnaaPick
set_option linter.unusedVariables false
set_option linter.unusedSimpArgs false
namespace Go.Proofs.Ytlgjdeggbcgbnaa
open Go.RowKit Go.ChangeShapes Go.WideShapes Go.Deep

theorem OwnWord.setBox {w : World} {base g n d : Nat} {l : List Int} (h : OwnWord w base (.slice (some ⟨g, 0, none⟩) n d) n l) (k : Nat) (x : Int) : OwnWord (w.setCell ⟨g, k, none⟩ (.int .u64 x)) base (.slice (some ⟨g, 0, none⟩) n d) n (l.set k x) := OwnWord.set h k x
theorem Sl.offSet {w : World} {A : Option Addr} {sz n c : Nat} {xs : List Value} {g i : Nat} {u : Value} (h : Sl w sz A n c xs) (hne : ∀ b o s, A = some ⟨b, o, s⟩ → b ≠ g) : Sl (w.setCell ⟨g, i, none⟩ u) sz A n c xs := by
  obtain ⟨h1, h2, h3, h4⟩ := h
  refine ⟨h1, h2, h3, fun hp => ?_⟩
  obtain ⟨b, o, e, hb, hc⟩ := h4 hp
  have hn := hne b o none e
  refine ⟨b, o, e, by simpa using hb, fun j v hj => ?_⟩
  have := hc j v hj
  have hB : But (fun k => k = g) w (w.setCell ⟨g, i, none⟩ u) := (But.refl (fun k => k = g) w).setG u
  exact hB.has (by show ¬ b = g; exact hn) this
theorem sumL_rep (n : Nat) : sumL (List.replicate n 0) = 0 := by
  induction n with
  | zero => rfl
  | succ n ih => rw [List.replicate_succ, sumL, ih]; rfl
theorem chkR_of {l : List Int} (h1 : 1 ≤ l.length) (h2 : l.length ≤ 64) (h3 : sumL l ≤ 4611686018427387904) : chkR l = 0 := by
  unfold chkR totV
  rw [if_neg (by omega), if_pos h3]
theorem plV_of {l : List Int} {k : Nat} (h1 : k < l.length) (h2 : l.length ≤ 64) (h3 : sumL l ≤ 4611686018427387904) : plV l k = 0 := by
  unfold plV hasV
  rw [if_neg (by rw [chkR_of (by omega) h2 h3]; simp), if_neg (by omega)]
theorem crdV_of {l : List Int} {k : Nat} {a : Int} (h1 : k < l.length) (h2 : l.length ≤ 64) (h3 : sumL l + a ≤ 4611686018427387904) (ha : 0 ≤ a) : crdV l k a = (l.set k (l.getD k 0 + a), 0) := by
  unfold crdV
  rw [if_neg (by rw [plV_of h1 h2 (by omega)]; simp), if_neg (by omega), Int.toNat_natCast]
theorem clmV_of {l : List Int} {k : Nat} (h1 : k < l.length) (h2 : l.length ≤ 64) (h3 : sumL l ≤ 4611686018427387904) : clmV l k = if l.getD k 0 = 0 then ([], 0, 13) else (l.set k 0, l.getD k 0, 0) := by
  unfold clmV
  rw [if_neg (by rw [plV_of h1 h2 h3]; simp), Int.toNat_natCast]
theorem set_same : ∀ {l : List Int} {k : Nat}, l.getD k 0 = 0 → l.set k 0 = l
  | [], k, _ => by simp
  | a :: l, 0, h => by simp at h; simp [h]
  | a :: l, k + 1, h => by
    simp only [List.getD_cons_succ] at h
    rw [List.set_cons_succ, set_same h]
/-- the credits that a run has come to -/
def RunW (w wx : World) (g0 N : Nat) (A1 : Option Addr) (c1 : Nat) (C : List Int) (m : Int) : Prop :=
  (A1 = none → c1 = 0) ∧ Sl wx 1 A1 N c1 (iv .u64 C) ∧ (∀ b o s, A1 = some ⟨b, o, s⟩ → b ≠ g0) ∧ OwnWord wx w.heap.size (.slice (some ⟨g0, 0, none⟩) N N) N C ∧ (∀ x ∈ C, Word x) ∧ sumL C ≤ m
set_option maxRecDepth 100000 in
set_option maxHeartbeats 4000000 in
theorem RewardSums_long (m ppb : Int) (A B : Option Addr) (n c nb d : Nat) (w : World) (hl : ¬ n ≤ 60 ∨ nb < n) (hs : n ≤ 9223372036854775807) (hs1 : nb ≤ 9223372036854775807) :
    Calls Try.prog 6 #[.int .i64 m, .slice A n c, .slice B nb d, .int .u64 ppb] w fun r w' => r = .returned (.bool true) ∧ Ext w w' := by
  go_enter Try.func6, Try.ntmps6
  go_wp2_with fail
  (with_reducible refine (RewardKnown_any _).mono ?_)
  rintro e w1 ⟨rfl, hx1⟩
  have z1 := hx1.size
  try simp at z1
  have X1 : Hid (Ext w w1) := Lib.hid (Ext.trans (by repeat (first | with_reducible exact Ext.refl w | with_reducible refine Ext.drew ?_ | with_reducible refine Ext.drewN ?_ _ | with_reducible refine Ext.alloc ?_ _ | with_reducible refine Ext.setCell ?_ (by first | omega | (simp; done) | (simp; omega)) _)) hx1)
  clear hx1 z1
  by_cases h0 : (60 : Int) < (n : Int)
  · skip
    go_wp2_with fail
    go_ret
    exact ⟨rfl, (by repeat (first | with_reducible exact X1.out | with_reducible refine Ext.drew ?_ | with_reducible refine Ext.drewN ?_ _ | with_reducible refine Ext.alloc ?_ _ | with_reducible refine Ext.setCell ?_ (by first | omega | (simp; done) | (simp; omega)) _))⟩
  · have h1 : (nb : Int) < (n : Int) := by omega
    go_wp2_with fail
    go_ret
    exact ⟨rfl, (by repeat (first | with_reducible exact X1.out | with_reducible refine Ext.drew ?_ | with_reducible refine Ext.drewN ?_ _ | with_reducible refine Ext.alloc ?_ _ | with_reducible refine Ext.setCell ?_ (by first | omega | (simp; done) | (simp; omega)) _))⟩
set_option maxRecDepth 100000 in
set_option maxHeartbeats 4000000 in
theorem RewardSums_main (m ppb : Int) (A B : Option Addr) (n c nb d : Nat) (l r : List Int) (w : World) (hm : Fits .i64 m) (hp : Word ppb) (hs : Sl w 1 A n c (iv .i64 l)) (hf : ∀ x ∈ l, Fits .i64 x) (hb : Sl w 1 B nb d (iv .u64 r)) (hr : ∀ x ∈ r, Word x) (hl : n ≤ 60) (hnb : n ≤ nb) :
    Calls Try.prog 6 #[.int .i64 m, .slice A n c, .slice B nb d, .int .u64 ppb] w fun r w' => r = .returned (.bool true) ∧ Ext w w' := by
  obtain ⟨i0, hi, hz0, hz1, hz2⟩ := info_parts infoWord
  have s1 := hs.small
  have s2 := hb.small
  have hMd : ¬ (60 : Int) < (n : Int) := by omega
  have hMe : ¬ (nb : Int) < (n : Int) := by omega
  have hll := hs.ilen
  have hlr := hb.ilen
  obtain ⟨p6, hp6⟩ : ∃ p, p = m % 6 := ⟨_, rfl⟩
  have p0 : 0 ≤ p6 := by rw [hp6]; exact Int.emod_nonneg m (by decide)
  have p1 : p6 < 6 := by rw [hp6]; exact Int.emod_lt_of_pos m (by decide)
  have HP : Hid (∀ w, Calls Try.prog 37 #[.int .i64 m, .int .i64 6] w fun e w' => e = .returned (.int .i64 p6) ∧ w = w') := Lib.hid (fun w => by rw [hp6]; exact kPick_any m 6 hm.i64.1 hm.i64.2 (by decide) (by decide) w)
  obtain ⟨N, hN⟩ : ∃ N : Nat, (N : Int) = 1 + p6 := ⟨(1 + p6).toNat, by omega⟩
  have hN1 : 1 ≤ N := by omega
  have hN6 : N ≤ 6 := by omega
  have hNs : N ≤ 9223372036854775807 := by omega
  have HV := Lib.hid (show newV (N : Int) = (List.replicate N 0, 0) from by unfold newV; rw [if_neg (by omega), Int.toNat_natCast])
  have HS := Lib.hid hs.low
  have HB := Lib.hid hb.low
  have HF := Lib.hid hf
  have HR := Lib.hid hr
  have HPP := Lib.hid hp
  have HL := Lib.hid (And.intro hll hlr)
  have hnn : ((N : Int) != (N : Int)) = false := by simp
  have HNN := Lib.hid hN
  clear hs hb hf hr hp hp6 hll hlr hm hN hnn
  go_enter Try.func6, Try.ntmps6
  go_wp2_with fail
  refine (RewardKnown_any _).mono ?_
  rintro e w1 ⟨rfl, hX1⟩
  go_wp2_with fail
  refine (HP.out _).mono ?_
  rintro e w2 ⟨rfl, rfl⟩
  go_wp2_with fail
  have hN2 : (1 : Int) + p6 = (N : Int) := HNN.out.symm
  simp only [hN2]
  clear hN2
  refine (rewNew_ev N (List.replicate N 0) 0 N w1 HV.out (by simp)).mono ?_
  rintro e w2 ⟨A1, c1, rfl, hn1, hO1, hX2⟩
  obtain ⟨w3, hmk, hO3, hX3⟩ := make_tc hi hz0 hz1 hz2 N (by omega) w2
  have hz1' := hX1.size
  have hz2' := hX2.size
  have hz3' := World.ownsRow.lt hO3 w2.heap.size rfl
  have X3 : Ext w w3 := (hX1.trans hX2).trans hX3
  have HX3 := Lib.hid X3
  have HS3 := Lib.hid (HS.out.ext X3)
  have HB3 := Lib.hid (HB.out.ext X3)
  have HRn := Lib.hid (show RunW w w3 w2.heap.size N A1 c1 (List.replicate N 0) 0 from ⟨hn1, (OwnWord.sl hO1).ext hX3, fun b o s e => by have := (OwnWord.in_ hO1 b o s e).2; omega, OwnWord.lower hO3 (by omega), fun x hx => by rw [List.mem_replicate] at hx; rw [hx.2]; exact ⟨by omega, by omega⟩, by rw [sumL_rep]; exact Int.le_refl 0⟩)
  have hg0w : w.heap.size ≤ w2.heap.size := by omega
  clear hO1 hO3 hX1 hX2 X3 HP HS HB HV hn1
  go_wp2_with fail
  clear hmk hX3
  obtain ⟨g0, hg0⟩ : ∃ g, g = w2.heap.size := ⟨_, rfl⟩
  rw [← hg0] at HRn hg0w hz3' ⊢
  clear hz2' hg0
  obtain ⟨Q, hQ⟩ : ∃ Q : Int, Q = 1099511627776 := ⟨_, rfl⟩
  have HQQ := Lib.hid hQ
  have HRn0 : Hid (RunW w w3 g0 N A1 c1 (List.replicate N 0) (((0 : Nat) : Int) * Q)) := Lib.hid (by rw [Int.natCast_zero, Int.zero_mul]; exact HRn.out)
  clear hQ HRn
  go_loopg [10, 13] n (fun gh q i wx => gh ≤ n ∧ i = .int .i64 ((n - gh : Nat) : Int) ∧ (∃ (A1 : Option Addr) (c1 : Nat) (C : List Int), q = .slice A1 N c1 ∧ Hid (RunW w wx g0 N A1 c1 C (((n - gh : Nat) : Int) * Q))) ∧ Hid (SlB w.heap.size wx 1 A n c (iv .i64 l)) ∧ Hid (SlB w.heap.size wx 1 B nb d (iv .u64 r)) ∧ Ext w wx)
  case atStart => exact ⟨Nat.le_refl _, by simp, ⟨A1, c1, _, rfl, by rw [Nat.sub_self]; exact HRn0⟩, HS3, HB3, HX3.out⟩
  case round =>
    obtain ⟨hg, hi', ⟨A1, c1, C, rfl, hrun⟩, hs, hb, hx⟩ := hrel
    obtain ⟨k, hk⟩ : ∃ k, k = n - gk := ⟨_, rfl⟩
    rw [← hk] at hi' hrun
    subst hi'
    have XR := Lib.hid hx
    by_cases hz : gk = 0
    · have hkn : ¬ (k : Int) < n := by omega
      clear hx hk hg hz hs hb hrun HS3 HB3 HRn0
      go_wp2_with fail
      go_ret
      exact ⟨rfl, XR.out⟩
    · have hkn : (k : Int) < n := by omega
      have hkb : (k : Int) < nb := by omega
      obtain ⟨q1, q2, q3, q4, q5, q6⟩ := hrun.out
      have hCl : C.length = N := q2.ilen
      obtain ⟨b1, o1, rfl, hb1, hc1⟩ := hs.out.sl.cell (show k < n from by omega)
      have hbl1 := hs.out.2 (by omega) b1 o1 none rfl
      obtain ⟨b2, o2, rfl, hb2, hc2⟩ := hb.out.sl.cell (show k < nb from by omega)
      have hbl2 := hb.out.2 (by omega) b2 o2 none rfl
      have x_0 := hc1 k (by omega)
      have y_0 := hc2 k (by omega)
      obtain ⟨x, hx'⟩ : ∃ x, x = l.getD k 0 := ⟨_, rfl⟩
      obtain ⟨y, hy'⟩ : ∃ y, y = r.getD k 0 := ⟨_, rfl⟩
      rw [← hx'] at x_0
      rw [← hy'] at y_0
      have hfx : Fits .i64 x := HF.out x (by rw [hx', List.getD_eq_getElem?_getD, List.getElem?_eq_getElem (by have := HL.out.1; omega)]; exact List.getElem_mem _)
      have hfy : Word y := HR.out y (by rw [hy', List.getD_eq_getElem?_getD, List.getElem?_eq_getElem (by have := HL.out.2; omega)]; exact List.getElem_mem _)
      obtain ⟨kp, hkp⟩ : ∃ kp : Nat, (kp : Int) = x % (N : Int) := ⟨(x % (N : Int)).toNat, by have := Int.emod_nonneg x (by omega : (N : Int) ≠ 0); omega⟩
      have hkpN : kp < N := by have := Int.emod_lt_of_pos x (by omega : 0 < (N : Int)); omega
      have HPK : Hid (∀ w, Calls Try.prog 37 #[.int .i64 x, .int .i64 (N : Int)] w fun e w' => e = .returned (.int .i64 (kp : Int)) ∧ w = w') := Lib.hid (fun w => by rw [hkp]; exact kPick_any x N hfx.i64.1 hfx.i64.2 (by omega) (by omega) w)
      obtain ⟨a, ha⟩ : ∃ a, a = y % 1099511627776 := ⟨_, rfl⟩
      have ha0 : 0 ≤ a := by rw [ha]; exact Int.emod_nonneg y (by decide)
      have ha1 : a < 1099511627776 := by rw [ha]; exact Int.emod_lt_of_pos y (by decide)
      have ha' : y % 1099511627776 = a := ha.symm
      obtain ⟨hy0, hy1⟩ := hfy
      have hat : y.tmod 1099511627776 = a := by rw [Int.tmod_eq_emod_of_nonneg hy0]; exact ha'
      clear ha
      obtain ⟨u, hu⟩ : ∃ u, u = C.getD kp 0 := ⟨_, rfl⟩
      obtain ⟨b3, o3, e3, hb3, hc3⟩ := (OwnWord.sl q4).cell hkpN
      injection e3 with e3
      injection e3 with e3a e3b
      subst e3a
      have h_0 := hc3 kp hkpN
      rw [← hu, ← e3b, Nat.zero_add] at h_0
      have h_0f := World.ownsRow.frozenAt q4 kp
      have hum : u ∈ C := by rw [hu, List.getD_eq_getElem?_getD, List.getElem?_eq_getElem (by omega)]; exact List.getElem_mem _
      have hul := mem_le_sum q5 hum
      have hu0 := (q5 u hum).1
      have hQ := HQQ.out
      have hkm : (k : Int) * Q ≤ 60 * Q := Int.mul_le_mul_of_nonneg_right (by omega) (by omega)
      have hsum : sumL C ≤ 4611686018427387904 - 1099511627776 := by omega
      have HRN := Lib.hid (show RunW w wr g0 N A1 c1 C ((k : Int) * Q) from ⟨q1, q2, q3, q4, q5, q6⟩)
      have HK := Lib.hid (And.intro hk (And.intro hg hz))
      have HU := Lib.hid hu
      have HCl := Lib.hid hCl
      have HW := Lib.hid q5
      have HN1 := Lib.hid q1
      have HC := Lib.hid q2
      have HO := Lib.hid q4
      have HNE := Lib.hid q3
      have HSk := hs
      have HBk := hb
      have hkp0 : ¬ (kp : Int) < 0 := by omega
      have hkpl : (kp : Int) < (N : Int) := by omega
      clear hx hk hg hz hs hb hc1 hc2 hc3 hx' hy' hfx hkp hu hum q1 q2 q3 q4 q5 hrun hCl HS3 HB3 HRn0 e3b
      have hCl9 := HCl.out
      have hq1 : ((k + 1 : Nat) : Int) * Q = (k : Int) * Q + Q := by rw [Int.natCast_add, Int.add_mul]; simp
      by_cases haz : a = 0
      · have e72 : (a == 0) = true := by simpa using haz
        clear haz
        by_cases huz : u = 0
        · subst huz
          have HZ0 := Lib.hid HU.out.symm
          have HCL := Lib.hid (show clmV C (kp : Int) = ([], 0, 13) from by rw [clmV_of (by omega) (by omega) (by omega), if_pos HU.out.symm])
          have HSM := Lib.hid (show sumL C ≤ ((k + 1 : Nat) : Int) * Q from by omega)
          clear hq1 hul hsum hkm hQ
          go_wp2_with fail
          refine wp_region_held_drew (S := fun w' => w'.cell? ⟨b1, o1 + k, none⟩ = some (.int .i64 x) ∧ w'.cell? ⟨b2, o2 + k, none⟩ = some (.int .u64 y)) (by kernel_rfl) (by first | exact ⟨x_0, y_0⟩ | (simp [go_sem, World.cell?_alloc_past, x_0, y_0, h_0, h_0f]; done)) (fun hHeld => ?_)
          (refine' take_in 0 rfl (by kernel_rfl) (by kernel_rfl) (by kernel_rfl) (fun _ _ _ h => h) (by rfl) (by assumption) ?_ ?_; rotate_left; focus (intro w hSw; (try dsimp only at hSw); go_simp; try with_reducible rfl)); try simp only [Act.put, List.setIfInBounds_toArray, List.set_cons_zero, List.set_cons_succ]
          (refine' take_in 1 rfl (by kernel_rfl) (by kernel_rfl) (by kernel_rfl) (fun _ _ _ h => h) (by rfl) (by assumption) ?_ ?_; rotate_left; focus (intro w hSw; (try dsimp only at hSw); go_simp; try with_reducible rfl)); try simp only [Act.put, List.setIfInBounds_toArray, List.set_cons_zero, List.set_cons_succ]
          (refine' take_in 2 rfl (by kernel_rfl) (by kernel_rfl) (by kernel_rfl) (fun _ _ _ h => h) (by rfl) (by assumption) ?_ ?_; rotate_left; focus (intro w hSw; (try dsimp only at hSw); go_simp; try with_reducible rfl)); try simp only [Act.put, List.setIfInBounds_toArray, List.set_cons_zero, List.set_cons_succ]
          (refine' take_in 3 rfl (by kernel_rfl) (by kernel_rfl) (by kernel_rfl) (fun _ _ _ h => h) (by rfl) (by assumption) ?_ ?_; rotate_left; focus (intro w hSw; (try dsimp only at hSw); go_simp; try with_reducible rfl)); try simp only [Act.put, List.setIfInBounds_toArray, List.set_cons_zero, List.set_cons_succ]
          (refine' take_in 4 rfl (by kernel_rfl) (by kernel_rfl) (by kernel_rfl) (fun _ _ _ h => h) (by rfl) (by assumption) ?_ ?_; rotate_left; focus (intro w hSw; (try dsimp only at hSw); go_simp; try with_reducible rfl)); try simp only [Act.put, List.setIfInBounds_toArray, List.set_cons_zero, List.set_cons_succ]
          (refine' take_in 6 rfl (by kernel_rfl) (by kernel_rfl) (by kernel_rfl) (fun _ _ _ h => h) (by rfl) (by assumption) ?_ ?_; rotate_left; focus (intro w hSw; (try dsimp only at hSw); go_simp; try with_reducible rfl)); try simp only [Act.put, List.setIfInBounds_toArray, List.set_cons_zero, List.set_cons_succ]
          (refine' take_in 7 rfl (by kernel_rfl) (by kernel_rfl) (by kernel_rfl) (fun _ _ _ h => h) (by rfl) (by assumption) ?_ ?_; rotate_left; focus (intro w hSw; (try dsimp only at hSw); go_simp; try with_reducible rfl)); try simp only [Act.put, List.setIfInBounds_toArray, List.set_cons_zero, List.set_cons_succ]
          (refine' take_in 8 rfl (by kernel_rfl) (by kernel_rfl) (by kernel_rfl) (fun _ _ _ h => h) (by rfl) (by assumption) ?_ ?_; rotate_left; focus (intro w hSw; (try dsimp only at hSw); go_simp; try with_reducible rfl)); try simp only [Act.put, List.setIfInBounds_toArray, List.set_cons_zero, List.set_cons_succ]
          (refine' take_in 9 rfl (by kernel_rfl) (by kernel_rfl) (by kernel_rfl) (fun _ _ _ h => h) (by rfl) (by assumption) ?_ ?_; rotate_left; focus (intro w hSw; (try dsimp only at hSw); go_simp; try with_reducible rfl)); try simp only [Act.put, List.setIfInBounds_toArray, List.set_cons_zero, List.set_cons_succ]
          (refine' take_in 10 rfl (by kernel_rfl) (by kernel_rfl) (by kernel_rfl) (fun _ _ _ h => h) (by rfl) (by assumption) ?_ ?_; rotate_left; focus (intro w hSw; (try dsimp only at hSw); go_simp; try with_reducible rfl)); try simp only [Act.put, List.setIfInBounds_toArray, List.set_cons_zero, List.set_cons_succ]
          refine' next_in 5 rfl (by kernel_rfl) (by rfl) (fun K hK => ?_)
          go_simp
          (with_reducible refine (HPK.out _).mono ?_)
          rintro e w_1 ⟨rfl, rfl⟩
          refine hK.out _ _ (by (first | exact ⟨x_0, y_0⟩ | (simp [go_sem, World.cell?_alloc_past, x_0, y_0, h_0, h_0f]; done))) (fun hHeld => ?_); clear hK K; try simp only [Act.put, List.setIfInBounds_toArray, List.set_cons_zero, List.set_cons_succ]
          (refine' take_in 11 rfl (by kernel_rfl) (by kernel_rfl) (by kernel_rfl) (fun _ _ _ h => h) (by rfl) (by assumption) ?_ ?_; rotate_left; focus (intro w hSw; (try dsimp only at hSw); go_simp; try with_reducible rfl)); try simp only [Act.put, List.setIfInBounds_toArray, List.set_cons_zero, List.set_cons_succ]
          (refine' take_in 12 rfl (by kernel_rfl) (by kernel_rfl) (by kernel_rfl) (fun _ _ _ h => h) (by rfl) (by assumption) ?_ ?_; rotate_left; focus (intro w hSw; (try dsimp only at hSw); go_simp; try with_reducible rfl)); try simp only [Act.put, List.setIfInBounds_toArray, List.set_cons_zero, List.set_cons_succ]
          refine wpAnyH_done (by kernel_rfl) ?_ _
          go_wp2_with fail
          (with_reducible refine (rewClaim_ev A1 N c1 C (kp : Int) [] 0 13 0 _ (HC.out.ext (by repeat (first | with_reducible exact Ext.refl _ | with_reducible refine Ext.drew ?_ | with_reducible refine Ext.drewN ?_ _ | with_reducible refine Ext.alloc ?_ _ | with_reducible refine Ext.setCell ?_ (by first | omega | (simp; done) | (simp; omega)) _))) HW.out HN1.out HCL.out rfl).mono ?_)
          rintro e w51 ⟨A2, c2, rfl, _, _, hx51⟩
          replace x_0 : w51.cell? ⟨b1, o1 + k, none⟩ = some (.int .i64 x) := hx51.has (by first | exact x_0 | (simp [go_sem, World.cell?_alloc_past, x_0, y_0, h_0, h_0f]; done))
          replace y_0 : w51.cell? ⟨b2, o2 + k, none⟩ = some (.int .u64 y) := hx51.has (by first | exact y_0 | (simp [go_sem, World.cell?_alloc_past, x_0, y_0, h_0, h_0f]; done))
          replace h_0f : w51.frozen? ⟨g0, kp, none⟩ = false := hx51.froz (v := .int .u64 0) (by first | exact h_0 | (simp [go_sem, World.cell?_alloc_past, x_0, y_0, h_0, h_0f]; done)) (by first | exact h_0f | (simp [go_sem, World.cell?_alloc_past, x_0, y_0, h_0, h_0f]; done))
          replace h_0 : w51.cell? ⟨g0, kp, none⟩ = some (.int .u64 0) := hx51.has (by first | exact h_0 | (simp [go_sem, World.cell?_alloc_past, x_0, y_0, h_0, h_0f]; done))
          have z51 := hx51.size
          try simp at z51
          have rx : b1 < w51.heap.size := by omega
          have rxa : b1 < w51.heap.size + 1 := by omega
          have rxb : b1 < w51.heap.size + 1 + 1 := by omega
          have rxc : b1 < w51.heap.size + 1 + 1 + 1 := by omega
          have rxn : ¬ b1 = w51.heap.size := by omega
          have ry : b2 < w51.heap.size := by omega
          have rya : b2 < w51.heap.size + 1 := by omega
          have ryb : b2 < w51.heap.size + 1 + 1 := by omega
          have ryc : b2 < w51.heap.size + 1 + 1 + 1 := by omega
          have ryn : ¬ b2 = w51.heap.size := by omega
          have rh : g0 < w51.heap.size := by omega
          have rha : g0 < w51.heap.size + 1 := by omega
          have rhb : g0 < w51.heap.size + 1 + 1 := by omega
          have rhc : g0 < w51.heap.size + 1 + 1 + 1 := by omega
          have rhn : ¬ g0 = w51.heap.size := by omega
          replace HC := Lib.hid (HC.out.ext (Ext.trans (by repeat (first | with_reducible exact Ext.refl _ | with_reducible refine Ext.drew ?_ | with_reducible refine Ext.drewN ?_ _ | with_reducible refine Ext.alloc ?_ _ | with_reducible refine Ext.setCell ?_ (by first | omega | (simp; done) | (simp; omega)) _)) hx51))
          replace HO := Lib.hid (HO.out.ext (Ext.trans (by repeat (first | with_reducible exact Ext.refl _ | with_reducible refine Ext.drew ?_ | with_reducible refine Ext.drewN ?_ _ | with_reducible refine Ext.alloc ?_ _ | with_reducible refine Ext.setCell ?_ (by first | omega | (simp; done) | (simp; omega)) _)) hx51))
          replace HSk := Lib.hid (HSk.out.ext (Ext.trans (by repeat (first | with_reducible exact Ext.refl _ | with_reducible refine Ext.drew ?_ | with_reducible refine Ext.drewN ?_ _ | with_reducible refine Ext.alloc ?_ _ | with_reducible refine Ext.setCell ?_ (by first | omega | (simp; done) | (simp; omega)) _)) hx51))
          replace HBk := Lib.hid (HBk.out.ext (Ext.trans (by repeat (first | with_reducible exact Ext.refl _ | with_reducible refine Ext.drew ?_ | with_reducible refine Ext.drewN ?_ _ | with_reducible refine Ext.alloc ?_ _ | with_reducible refine Ext.setCell ?_ (by first | omega | (simp; done) | (simp; omega)) _)) hx51))
          have X51 : Hid (Ext w w51) := Lib.hid (Ext.trans (by repeat (first | with_reducible exact XR.out | with_reducible refine Ext.drew ?_ | with_reducible refine Ext.drewN ?_ _ | with_reducible refine Ext.alloc ?_ _ | with_reducible refine Ext.setCell ?_ (by first | omega | (simp; done) | (simp; omega)) _)) hx51)
          clear XR hx51
          have hB9 : But (· = g0) w51 (w51.setCell ⟨g0, kp, none⟩ (.int .u64 0)) := (But.refl (· = g0) w51).setG _
          have HS9 := Lib.hid (SlB.but (show SlB _ w51 _ _ _ _ _ from (HSk.out.ext (by repeat (first | with_reducible exact Ext.refl _ | with_reducible refine Ext.drew ?_ | with_reducible refine Ext.drewN ?_ _ | with_reducible refine Ext.alloc ?_ _ | with_reducible refine Ext.setCell ?_ (by first | omega | (simp; done) | (simp; omega)) _)))) hB9 (fun k hk => by have h2 : k = g0 := hk; omega))
          have HB9 := Lib.hid (SlB.but (show SlB _ w51 _ _ _ _ _ from (HBk.out.ext (by repeat (first | with_reducible exact Ext.refl _ | with_reducible refine Ext.drew ?_ | with_reducible refine Ext.drewN ?_ _ | with_reducible refine Ext.alloc ?_ _ | with_reducible refine Ext.setCell ?_ (by first | omega | (simp; done) | (simp; omega)) _)))) hB9 (fun k hk => by have h2 : k = g0 := hk; omega))
          have HC9 := Lib.hid (Sl.offSet (g := g0) (i := kp) (u := .int .u64 0) (show Sl w51 _ _ _ _ _ from (HC.out.ext (by repeat (first | with_reducible exact Ext.refl _ | with_reducible refine Ext.drew ?_ | with_reducible refine Ext.drewN ?_ _ | with_reducible refine Ext.alloc ?_ _ | with_reducible refine Ext.setCell ?_ (by first | omega | (simp; done) | (simp; omega)) _)))) HNE.out)
          have HO9 : Hid (OwnWord (w51.setCell ⟨g0, kp, none⟩ (.int .u64 0)) w.heap.size (.slice (some ⟨g0, 0, none⟩) N N) N C) := Lib.hid (by have h := (OwnWord.set (show OwnWord w51 _ _ _ _ from (HO.out.ext (by repeat (first | with_reducible exact Ext.refl _ | with_reducible refine Ext.drew ?_ | with_reducible refine Ext.drewN ?_ _ | with_reducible refine Ext.alloc ?_ _ | with_reducible refine Ext.setCell ?_ (by first | omega | (simp; done) | (simp; omega)) _)))) kp 0); rwa [set_same HZ0.out] at h)
          have X9 : Hid (Ext w (w51.setCell ⟨g0, kp, none⟩ (.int .u64 0))) := Lib.hid (Below.setCell (p := ⟨g0, kp, none⟩) (show Ext w w51 from (by repeat (first | with_reducible exact X51.out | with_reducible refine Ext.drew ?_ | with_reducible refine Ext.drewN ?_ _ | with_reducible refine Ext.alloc ?_ _ | with_reducible refine Ext.setCell ?_ (by first | omega | (simp; done) | (simp; omega)) _))) hg0w _)
          clear hB9
          go_wp2_with fail
          refine (kSameWords_eq A1 (some ⟨g0, 0, none⟩) N c1 N N C _ HC9.out (OwnWord.sl HO9.out)).mono ?_
          rintro e w99 ⟨rfl, hx9⟩
          have HS10 := Lib.hid (HS9.out.ext hx9)
          have HB10 := Lib.hid (HB9.out.ext hx9)
          have X10 : Hid (Ext w w99) := Lib.hid (Ext.trans X9.out hx9)
          have HRN9 := Lib.hid (show RunW w w99 g0 N A1 c1 C (((k + 1 : Nat) : Int) * Q) from ⟨HN1.out, HC9.out.ext hx9, HNE.out, OwnWord.ext HO9.out hx9, HW.out, HSM.out⟩)
          clear hx9 HS9 HB9 HC9 HO9 X9
          go_wp2_with fail
          go_roundg (gk - 1)
          case measure => have := HK.out; omega
          case rel =>
            have e9 : n - (gk - 1) = k + 1 := by have := HK.out; omega
            refine ⟨by have := HK.out; omega, num_eq (by have := HK.out; omega), ⟨_, _, _, rfl, by rw [e9]; exact HRN9⟩, HS10, HB10, X10.out⟩
        · have hu9 : 0 < u := by omega
          have e84 : (u == 0) = false := by simpa using huz
          have e104 : (u != u) = false := by simp
          have HCL := Lib.hid (show clmV C (kp : Int) = (C.set kp 0, u, 0) from by rw [clmV_of (by omega) (by omega) (by omega), if_neg (by rw [← HU.out]; exact huz), ← HU.out])
          have HLS := Lib.hid (show (C.set kp 0).length = N from by rw [List.length_set]; exact hCl9)
          have HSM := Lib.hid (show sumL (C.set kp 0) ≤ ((k + 1 : Nat) : Int) * Q from by rw [sumL_set (by omega), ← HU.out]; omega)
          clear hq1 hul hsum hkm hQ huz
          go_wp2_with fail
          refine wp_region_held_drew (S := fun w' => w'.cell? ⟨b1, o1 + k, none⟩ = some (.int .i64 x) ∧ w'.cell? ⟨b2, o2 + k, none⟩ = some (.int .u64 y)) (by kernel_rfl) (by first | exact ⟨x_0, y_0⟩ | (simp [go_sem, World.cell?_alloc_past, x_0, y_0, h_0, h_0f]; done)) (fun hHeld => ?_)
          (refine' take_in 0 rfl (by kernel_rfl) (by kernel_rfl) (by kernel_rfl) (fun _ _ _ h => h) (by rfl) (by assumption) ?_ ?_; rotate_left; focus (intro w hSw; (try dsimp only at hSw); go_simp; try with_reducible rfl)); try simp only [Act.put, List.setIfInBounds_toArray, List.set_cons_zero, List.set_cons_succ]
          (refine' take_in 1 rfl (by kernel_rfl) (by kernel_rfl) (by kernel_rfl) (fun _ _ _ h => h) (by rfl) (by assumption) ?_ ?_; rotate_left; focus (intro w hSw; (try dsimp only at hSw); go_simp; try with_reducible rfl)); try simp only [Act.put, List.setIfInBounds_toArray, List.set_cons_zero, List.set_cons_succ]
          (refine' take_in 2 rfl (by kernel_rfl) (by kernel_rfl) (by kernel_rfl) (fun _ _ _ h => h) (by rfl) (by assumption) ?_ ?_; rotate_left; focus (intro w hSw; (try dsimp only at hSw); go_simp; try with_reducible rfl)); try simp only [Act.put, List.setIfInBounds_toArray, List.set_cons_zero, List.set_cons_succ]
          (refine' take_in 3 rfl (by kernel_rfl) (by kernel_rfl) (by kernel_rfl) (fun _ _ _ h => h) (by rfl) (by assumption) ?_ ?_; rotate_left; focus (intro w hSw; (try dsimp only at hSw); go_simp; try with_reducible rfl)); try simp only [Act.put, List.setIfInBounds_toArray, List.set_cons_zero, List.set_cons_succ]
          (refine' take_in 4 rfl (by kernel_rfl) (by kernel_rfl) (by kernel_rfl) (fun _ _ _ h => h) (by rfl) (by assumption) ?_ ?_; rotate_left; focus (intro w hSw; (try dsimp only at hSw); go_simp; try with_reducible rfl)); try simp only [Act.put, List.setIfInBounds_toArray, List.set_cons_zero, List.set_cons_succ]
          (refine' take_in 6 rfl (by kernel_rfl) (by kernel_rfl) (by kernel_rfl) (fun _ _ _ h => h) (by rfl) (by assumption) ?_ ?_; rotate_left; focus (intro w hSw; (try dsimp only at hSw); go_simp; try with_reducible rfl)); try simp only [Act.put, List.setIfInBounds_toArray, List.set_cons_zero, List.set_cons_succ]
          (refine' take_in 7 rfl (by kernel_rfl) (by kernel_rfl) (by kernel_rfl) (fun _ _ _ h => h) (by rfl) (by assumption) ?_ ?_; rotate_left; focus (intro w hSw; (try dsimp only at hSw); go_simp; try with_reducible rfl)); try simp only [Act.put, List.setIfInBounds_toArray, List.set_cons_zero, List.set_cons_succ]
          (refine' take_in 8 rfl (by kernel_rfl) (by kernel_rfl) (by kernel_rfl) (fun _ _ _ h => h) (by rfl) (by assumption) ?_ ?_; rotate_left; focus (intro w hSw; (try dsimp only at hSw); go_simp; try with_reducible rfl)); try simp only [Act.put, List.setIfInBounds_toArray, List.set_cons_zero, List.set_cons_succ]
          (refine' take_in 9 rfl (by kernel_rfl) (by kernel_rfl) (by kernel_rfl) (fun _ _ _ h => h) (by rfl) (by assumption) ?_ ?_; rotate_left; focus (intro w hSw; (try dsimp only at hSw); go_simp; try with_reducible rfl)); try simp only [Act.put, List.setIfInBounds_toArray, List.set_cons_zero, List.set_cons_succ]
          (refine' take_in 10 rfl (by kernel_rfl) (by kernel_rfl) (by kernel_rfl) (fun _ _ _ h => h) (by rfl) (by assumption) ?_ ?_; rotate_left; focus (intro w hSw; (try dsimp only at hSw); go_simp; try with_reducible rfl)); try simp only [Act.put, List.setIfInBounds_toArray, List.set_cons_zero, List.set_cons_succ]
          refine' next_in 5 rfl (by kernel_rfl) (by rfl) (fun K hK => ?_)
          go_simp
          (with_reducible refine (HPK.out _).mono ?_)
          rintro e w_1 ⟨rfl, rfl⟩
          refine hK.out _ _ (by (first | exact ⟨x_0, y_0⟩ | (simp [go_sem, World.cell?_alloc_past, x_0, y_0, h_0, h_0f]; done))) (fun hHeld => ?_); clear hK K; try simp only [Act.put, List.setIfInBounds_toArray, List.set_cons_zero, List.set_cons_succ]
          (refine' take_in 11 rfl (by kernel_rfl) (by kernel_rfl) (by kernel_rfl) (fun _ _ _ h => h) (by rfl) (by assumption) ?_ ?_; rotate_left; focus (intro w hSw; (try dsimp only at hSw); go_simp; try with_reducible rfl)); try simp only [Act.put, List.setIfInBounds_toArray, List.set_cons_zero, List.set_cons_succ]
          (refine' take_in 12 rfl (by kernel_rfl) (by kernel_rfl) (by kernel_rfl) (fun _ _ _ h => h) (by rfl) (by assumption) ?_ ?_; rotate_left; focus (intro w hSw; (try dsimp only at hSw); go_simp; try with_reducible rfl)); try simp only [Act.put, List.setIfInBounds_toArray, List.set_cons_zero, List.set_cons_succ]
          refine wpAnyH_done (by kernel_rfl) ?_ _
          go_wp2_with fail
          (with_reducible refine (rewClaim_ev A1 N c1 C (kp : Int) (C.set kp 0) u 0 N _ (HC.out.ext (by repeat (first | with_reducible exact Ext.refl _ | with_reducible refine Ext.drew ?_ | with_reducible refine Ext.drewN ?_ _ | with_reducible refine Ext.alloc ?_ _ | with_reducible refine Ext.setCell ?_ (by first | omega | (simp; done) | (simp; omega)) _))) HW.out HN1.out HCL.out HLS.out).mono ?_)
          rintro e w51 ⟨A2, c2, rfl, hn2, hO2, hx51⟩
          replace x_0 : w51.cell? ⟨b1, o1 + k, none⟩ = some (.int .i64 x) := hx51.has (by first | exact x_0 | (simp [go_sem, World.cell?_alloc_past, x_0, y_0, h_0, h_0f]; done))
          replace y_0 : w51.cell? ⟨b2, o2 + k, none⟩ = some (.int .u64 y) := hx51.has (by first | exact y_0 | (simp [go_sem, World.cell?_alloc_past, x_0, y_0, h_0, h_0f]; done))
          replace h_0f : w51.frozen? ⟨g0, kp, none⟩ = false := hx51.froz (v := .int .u64 u) (by first | exact h_0 | (simp [go_sem, World.cell?_alloc_past, x_0, y_0, h_0, h_0f]; done)) (by first | exact h_0f | (simp [go_sem, World.cell?_alloc_past, x_0, y_0, h_0, h_0f]; done))
          replace h_0 : w51.cell? ⟨g0, kp, none⟩ = some (.int .u64 u) := hx51.has (by first | exact h_0 | (simp [go_sem, World.cell?_alloc_past, x_0, y_0, h_0, h_0f]; done))
          have z51 := hx51.size
          try simp at z51
          have rx : b1 < w51.heap.size := by omega
          have rxa : b1 < w51.heap.size + 1 := by omega
          have rxb : b1 < w51.heap.size + 1 + 1 := by omega
          have rxc : b1 < w51.heap.size + 1 + 1 + 1 := by omega
          have rxn : ¬ b1 = w51.heap.size := by omega
          have ry : b2 < w51.heap.size := by omega
          have rya : b2 < w51.heap.size + 1 := by omega
          have ryb : b2 < w51.heap.size + 1 + 1 := by omega
          have ryc : b2 < w51.heap.size + 1 + 1 + 1 := by omega
          have ryn : ¬ b2 = w51.heap.size := by omega
          have rh : g0 < w51.heap.size := by omega
          have rha : g0 < w51.heap.size + 1 := by omega
          have rhb : g0 < w51.heap.size + 1 + 1 := by omega
          have rhc : g0 < w51.heap.size + 1 + 1 + 1 := by omega
          have rhn : ¬ g0 = w51.heap.size := by omega
          replace HC := Lib.hid (HC.out.ext (Ext.trans (by repeat (first | with_reducible exact Ext.refl _ | with_reducible refine Ext.drew ?_ | with_reducible refine Ext.drewN ?_ _ | with_reducible refine Ext.alloc ?_ _ | with_reducible refine Ext.setCell ?_ (by first | omega | (simp; done) | (simp; omega)) _)) hx51))
          replace HO := Lib.hid (HO.out.ext (Ext.trans (by repeat (first | with_reducible exact Ext.refl _ | with_reducible refine Ext.drew ?_ | with_reducible refine Ext.drewN ?_ _ | with_reducible refine Ext.alloc ?_ _ | with_reducible refine Ext.setCell ?_ (by first | omega | (simp; done) | (simp; omega)) _)) hx51))
          replace HSk := Lib.hid (HSk.out.ext (Ext.trans (by repeat (first | with_reducible exact Ext.refl _ | with_reducible refine Ext.drew ?_ | with_reducible refine Ext.drewN ?_ _ | with_reducible refine Ext.alloc ?_ _ | with_reducible refine Ext.setCell ?_ (by first | omega | (simp; done) | (simp; omega)) _)) hx51))
          replace HBk := Lib.hid (HBk.out.ext (Ext.trans (by repeat (first | with_reducible exact Ext.refl _ | with_reducible refine Ext.drew ?_ | with_reducible refine Ext.drewN ?_ _ | with_reducible refine Ext.alloc ?_ _ | with_reducible refine Ext.setCell ?_ (by first | omega | (simp; done) | (simp; omega)) _)) hx51))
          have X51 : Hid (Ext w w51) := Lib.hid (Ext.trans (by repeat (first | with_reducible exact XR.out | with_reducible refine Ext.drew ?_ | with_reducible refine Ext.drewN ?_ _ | with_reducible refine Ext.alloc ?_ _ | with_reducible refine Ext.setCell ?_ (by first | omega | (simp; done) | (simp; omega)) _)) hx51)
          have HD := Lib.hid hO2
          clear XR hx51 hO2
          have HN2 := Lib.hid hn2
          clear hn2
          have HNE2 : Hid (∀ b o s, A2 = some ⟨b, o, s⟩ → b ≠ g0) := Lib.hid (fun b o s e => by have h := (HD.out.in_ b o s e).1; (try simp at h); omega)
          have hB9 : But (· = g0) w51 (w51.setCell ⟨g0, kp, none⟩ (.int .u64 0)) := (But.refl (· = g0) w51).setG _
          have HS9 := Lib.hid (SlB.but (show SlB _ w51 _ _ _ _ _ from (HSk.out.ext (by repeat (first | with_reducible exact Ext.refl _ | with_reducible refine Ext.drew ?_ | with_reducible refine Ext.drewN ?_ _ | with_reducible refine Ext.alloc ?_ _ | with_reducible refine Ext.setCell ?_ (by first | omega | (simp; done) | (simp; omega)) _)))) hB9 (fun k hk => by have h2 : k = g0 := hk; omega))
          have HB9 := Lib.hid (SlB.but (show SlB _ w51 _ _ _ _ _ from (HBk.out.ext (by repeat (first | with_reducible exact Ext.refl _ | with_reducible refine Ext.drew ?_ | with_reducible refine Ext.drewN ?_ _ | with_reducible refine Ext.alloc ?_ _ | with_reducible refine Ext.setCell ?_ (by first | omega | (simp; done) | (simp; omega)) _)))) hB9 (fun k hk => by have h2 : k = g0 := hk; omega))
          have HC9 := Lib.hid (Sl.offSet (g := g0) (i := kp) (u := .int .u64 0) (show Sl w51 _ _ _ _ _ from (OwnWord.sl (HD.out.ext (by repeat (first | with_reducible exact Ext.refl _ | with_reducible refine Ext.drew ?_ | with_reducible refine Ext.drewN ?_ _ | with_reducible refine Ext.alloc ?_ _ | with_reducible refine Ext.setCell ?_ (by first | omega | (simp; done) | (simp; omega)) _))))) HNE2.out)
          have HO9 : Hid (OwnWord (w51.setCell ⟨g0, kp, none⟩ (.int .u64 0)) w.heap.size (.slice (some ⟨g0, 0, none⟩) N N) N (C.set kp 0)) := Lib.hid (OwnWord.set (show OwnWord w51 _ _ _ _ from (HO.out.ext (by repeat (first | with_reducible exact Ext.refl _ | with_reducible refine Ext.drew ?_ | with_reducible refine Ext.drewN ?_ _ | with_reducible refine Ext.alloc ?_ _ | with_reducible refine Ext.setCell ?_ (by first | omega | (simp; done) | (simp; omega)) _)))) kp 0)
          have X9 : Hid (Ext w (w51.setCell ⟨g0, kp, none⟩ (.int .u64 0))) := Lib.hid (Below.setCell (p := ⟨g0, kp, none⟩) (show Ext w w51 from (by repeat (first | with_reducible exact X51.out | with_reducible refine Ext.drew ?_ | with_reducible refine Ext.drewN ?_ _ | with_reducible refine Ext.alloc ?_ _ | with_reducible refine Ext.setCell ?_ (by first | omega | (simp; done) | (simp; omega)) _))) hg0w _)
          clear hB9
          go_wp2_with fail
          refine (kSameWords_eq A2 (some ⟨g0, 0, none⟩) N c2 N N (C.set kp 0) _ HC9.out (OwnWord.sl HO9.out)).mono ?_
          rintro e w99 ⟨rfl, hx9⟩
          have HS10 := Lib.hid (HS9.out.ext hx9)
          have HB10 := Lib.hid (HB9.out.ext hx9)
          have X10 : Hid (Ext w w99) := Lib.hid (Ext.trans X9.out hx9)
          have HRN9 := Lib.hid (show RunW w w99 g0 N A2 c2 (C.set kp 0) (((k + 1 : Nat) : Int) * Q) from ⟨HN2.out, HC9.out.ext hx9, HNE2.out, OwnWord.ext HO9.out hx9, (word_set HW.out (word_of rfl)), HSM.out⟩)
          clear hx9 HS9 HB9 HC9 HO9 X9
          go_wp2_with fail
          go_roundg (gk - 1)
          case measure => have := HK.out; omega
          case rel =>
            have e9 : n - (gk - 1) = k + 1 := by have := HK.out; omega
            refine ⟨by have := HK.out; omega, num_eq (by have := HK.out; omega), ⟨_, _, _, rfl, by rw [e9]; exact HRN9⟩, HS10, HB10, X10.out⟩
      · have e72 : (a == 0) = false := by simpa using haz
        obtain ⟨rr, hrr⟩ : ∃ v, v = ppb % 1000000001 := ⟨_, rfl⟩
        have hr0 : 0 ≤ rr := by rw [hrr]; exact Int.emod_nonneg ppb (by decide)
        have hr1 : rr < 1000000001 := by rw [hrr]; exact Int.emod_lt_of_pos ppb (by decide)
        have hrr' : ppb % 1000000001 = rr := hrr.symm
        have hrt : ppb.tmod 1000000001 = rr := by rw [Int.tmod_eq_emod_of_nonneg HPP.out.1]; exact hrr'
        have hpp0 := HPP.out.1
        have hpp1 := HPP.out.2
        have HAW := Lib.hid (show Word a from ⟨by omega, by omega⟩)
        have HRR := Lib.hid hr0
        by_cases hx2 : x.tmod 2 = 0
        · have e123 : (x.tmod 2 == 0) = true := by simpa using hx2
          obtain ⟨kt, hkt⟩ : ∃ v, v = prt a (kpV rr true).1 := ⟨_, rfl⟩
          obtain ⟨g1, g2, g3⟩ := kpV_ok (own := true) hr0 (show ¬ 1000000000 < rr from by omega)
          obtain ⟨g4, g5, _⟩ := prt_bounds ha0 g2 g3
          rw [← hkt] at g4 g5
          have HSP := Lib.hid (show splV a rr true = (kt, a - kt, 0) from by unfold splV; rw [if_neg (by omega), ← hkt])
          have e146 : (kt + (a - kt) != a) = false := by simp; omega
          have e146b : kt + (a - kt) = a := by omega
          have e146c : (a != a) = false := by simp
          have hk0 : kt = 0 := by rw [hkt, show (kpV rr true).1 = 0 from by unfold kpV; rw [if_neg (by omega)]; rfl]; simp [prt]
          have e157 : (kt != 0) = false := by simpa using hk0
          have HKW := Lib.hid (show Word kt from ⟨by omega, by omega⟩)
          have HCR := Lib.hid (show crdV C (kp : Int) kt = (C.set kp (u + kt), 0) from by rw [crdV_of (by omega) (by omega) (by omega) g4, ← HU.out])
          have HLS := Lib.hid (show (C.set kp (u + kt)).length = N from by rw [List.length_set]; exact hCl9)
          have HSM := Lib.hid (show sumL (C.set kp (u + kt)) ≤ ((k + 1 : Nat) : Int) * Q from by rw [sumL_set (by omega), ← HU.out]; omega)
          have HUK := Lib.hid (show Word (u + kt) from ⟨by omega, by omega⟩)
          have g6 : u + kt < 18446744073709551616 := by omega
          have g7 : 0 ≤ u + kt := by omega
          have g8 : 0 ≤ a - kt := by omega
          clear hq1 hsum hkm hQ hkt hrr g1 g2 g3 hx2 hk0
          go_wp2_with fail
          refine wp_region_held_drew (S := fun w' => w'.cell? ⟨b1, o1 + k, none⟩ = some (.int .i64 x) ∧ w'.cell? ⟨b2, o2 + k, none⟩ = some (.int .u64 y)) (by kernel_rfl) (by first | exact ⟨x_0, y_0⟩ | (simp [go_sem, World.cell?_alloc_past, x_0, y_0, h_0, h_0f]; done)) (fun hHeld => ?_)
          (refine' take_in 0 rfl (by kernel_rfl) (by kernel_rfl) (by kernel_rfl) (fun _ _ _ h => h) (by rfl) (by assumption) ?_ ?_; rotate_left; focus (intro w hSw; (try dsimp only at hSw); go_simp; try with_reducible rfl)); try simp only [Act.put, List.setIfInBounds_toArray, List.set_cons_zero, List.set_cons_succ]
          (refine' take_in 1 rfl (by kernel_rfl) (by kernel_rfl) (by kernel_rfl) (fun _ _ _ h => h) (by rfl) (by assumption) ?_ ?_; rotate_left; focus (intro w hSw; (try dsimp only at hSw); go_simp; try with_reducible rfl)); try simp only [Act.put, List.setIfInBounds_toArray, List.set_cons_zero, List.set_cons_succ]
          (refine' take_in 2 rfl (by kernel_rfl) (by kernel_rfl) (by kernel_rfl) (fun _ _ _ h => h) (by rfl) (by assumption) ?_ ?_; rotate_left; focus (intro w hSw; (try dsimp only at hSw); go_simp; try with_reducible rfl)); try simp only [Act.put, List.setIfInBounds_toArray, List.set_cons_zero, List.set_cons_succ]
          (refine' take_in 3 rfl (by kernel_rfl) (by kernel_rfl) (by kernel_rfl) (fun _ _ _ h => h) (by rfl) (by assumption) ?_ ?_; rotate_left; focus (intro w hSw; (try dsimp only at hSw); go_simp; try with_reducible rfl)); try simp only [Act.put, List.setIfInBounds_toArray, List.set_cons_zero, List.set_cons_succ]
          (refine' take_in 4 rfl (by kernel_rfl) (by kernel_rfl) (by kernel_rfl) (fun _ _ _ h => h) (by rfl) (by assumption) ?_ ?_; rotate_left; focus (intro w hSw; (try dsimp only at hSw); go_simp; try with_reducible rfl)); try simp only [Act.put, List.setIfInBounds_toArray, List.set_cons_zero, List.set_cons_succ]
          (refine' take_in 6 rfl (by kernel_rfl) (by kernel_rfl) (by kernel_rfl) (fun _ _ _ h => h) (by rfl) (by assumption) ?_ ?_; rotate_left; focus (intro w hSw; (try dsimp only at hSw); go_simp; try with_reducible rfl)); try simp only [Act.put, List.setIfInBounds_toArray, List.set_cons_zero, List.set_cons_succ]
          (refine' take_in 7 rfl (by kernel_rfl) (by kernel_rfl) (by kernel_rfl) (fun _ _ _ h => h) (by rfl) (by assumption) ?_ ?_; rotate_left; focus (intro w hSw; (try dsimp only at hSw); go_simp; try with_reducible rfl)); try simp only [Act.put, List.setIfInBounds_toArray, List.set_cons_zero, List.set_cons_succ]
          (refine' take_in 8 rfl (by kernel_rfl) (by kernel_rfl) (by kernel_rfl) (fun _ _ _ h => h) (by rfl) (by assumption) ?_ ?_; rotate_left; focus (intro w hSw; (try dsimp only at hSw); go_simp; try with_reducible rfl)); try simp only [Act.put, List.setIfInBounds_toArray, List.set_cons_zero, List.set_cons_succ]
          (refine' take_in 9 rfl (by kernel_rfl) (by kernel_rfl) (by kernel_rfl) (fun _ _ _ h => h) (by rfl) (by assumption) ?_ ?_; rotate_left; focus (intro w hSw; (try dsimp only at hSw); go_simp; try with_reducible rfl)); try simp only [Act.put, List.setIfInBounds_toArray, List.set_cons_zero, List.set_cons_succ]
          (refine' take_in 10 rfl (by kernel_rfl) (by kernel_rfl) (by kernel_rfl) (fun _ _ _ h => h) (by rfl) (by assumption) ?_ ?_; rotate_left; focus (intro w hSw; (try dsimp only at hSw); go_simp; try with_reducible rfl)); try simp only [Act.put, List.setIfInBounds_toArray, List.set_cons_zero, List.set_cons_succ]
          refine' next_in 5 rfl (by kernel_rfl) (by rfl) (fun K hK => ?_)
          go_simp
          (with_reducible refine (HPK.out _).mono ?_)
          rintro e w_1 ⟨rfl, rfl⟩
          refine hK.out _ _ (by (first | exact ⟨x_0, y_0⟩ | (simp [go_sem, World.cell?_alloc_past, x_0, y_0, h_0, h_0f]; done))) (fun hHeld => ?_); clear hK K; try simp only [Act.put, List.setIfInBounds_toArray, List.set_cons_zero, List.set_cons_succ]
          (refine' take_in 11 rfl (by kernel_rfl) (by kernel_rfl) (by kernel_rfl) (fun _ _ _ h => h) (by rfl) (by assumption) ?_ ?_; rotate_left; focus (intro w hSw; (try dsimp only at hSw); go_simp; try with_reducible rfl)); try simp only [Act.put, List.setIfInBounds_toArray, List.set_cons_zero, List.set_cons_succ]
          (refine' take_in 12 rfl (by kernel_rfl) (by kernel_rfl) (by kernel_rfl) (fun _ _ _ h => h) (by rfl) (by assumption) ?_ ?_; rotate_left; focus (intro w hSw; (try dsimp only at hSw); go_simp; try with_reducible rfl)); try simp only [Act.put, List.setIfInBounds_toArray, List.set_cons_zero, List.set_cons_succ]
          refine wpAnyH_done (by kernel_rfl) ?_ _
          go_wp2_with fail
          (with_reducible refine (rewSplit_ev a rr true kt (a - kt) 0 _ HAW.out HRR.out HSP.out).mono ?_)
          rintro e w51 ⟨rfl, hx51⟩
          replace x_0 : w51.cell? ⟨b1, o1 + k, none⟩ = some (.int .i64 x) := hx51.has (by first | exact x_0 | (simp [go_sem, World.cell?_alloc_past, x_0, y_0, h_0, h_0f]; done))
          replace y_0 : w51.cell? ⟨b2, o2 + k, none⟩ = some (.int .u64 y) := hx51.has (by first | exact y_0 | (simp [go_sem, World.cell?_alloc_past, x_0, y_0, h_0, h_0f]; done))
          replace h_0f : w51.frozen? ⟨g0, kp, none⟩ = false := hx51.froz (v := .int .u64 u) (by first | exact h_0 | (simp [go_sem, World.cell?_alloc_past, x_0, y_0, h_0, h_0f]; done)) (by first | exact h_0f | (simp [go_sem, World.cell?_alloc_past, x_0, y_0, h_0, h_0f]; done))
          replace h_0 : w51.cell? ⟨g0, kp, none⟩ = some (.int .u64 u) := hx51.has (by first | exact h_0 | (simp [go_sem, World.cell?_alloc_past, x_0, y_0, h_0, h_0f]; done))
          have z51 := hx51.size
          try simp at z51
          have rx : b1 < w51.heap.size := by omega
          have rxa : b1 < w51.heap.size + 1 := by omega
          have rxb : b1 < w51.heap.size + 1 + 1 := by omega
          have rxc : b1 < w51.heap.size + 1 + 1 + 1 := by omega
          have rxn : ¬ b1 = w51.heap.size := by omega
          have ry : b2 < w51.heap.size := by omega
          have rya : b2 < w51.heap.size + 1 := by omega
          have ryb : b2 < w51.heap.size + 1 + 1 := by omega
          have ryc : b2 < w51.heap.size + 1 + 1 + 1 := by omega
          have ryn : ¬ b2 = w51.heap.size := by omega
          have rh : g0 < w51.heap.size := by omega
          have rha : g0 < w51.heap.size + 1 := by omega
          have rhb : g0 < w51.heap.size + 1 + 1 := by omega
          have rhc : g0 < w51.heap.size + 1 + 1 + 1 := by omega
          have rhn : ¬ g0 = w51.heap.size := by omega
          replace HC := Lib.hid (HC.out.ext (Ext.trans (by repeat (first | with_reducible exact Ext.refl _ | with_reducible refine Ext.drew ?_ | with_reducible refine Ext.drewN ?_ _ | with_reducible refine Ext.alloc ?_ _ | with_reducible refine Ext.setCell ?_ (by first | omega | (simp; done) | (simp; omega)) _)) hx51))
          replace HO := Lib.hid (HO.out.ext (Ext.trans (by repeat (first | with_reducible exact Ext.refl _ | with_reducible refine Ext.drew ?_ | with_reducible refine Ext.drewN ?_ _ | with_reducible refine Ext.alloc ?_ _ | with_reducible refine Ext.setCell ?_ (by first | omega | (simp; done) | (simp; omega)) _)) hx51))
          replace HSk := Lib.hid (HSk.out.ext (Ext.trans (by repeat (first | with_reducible exact Ext.refl _ | with_reducible refine Ext.drew ?_ | with_reducible refine Ext.drewN ?_ _ | with_reducible refine Ext.alloc ?_ _ | with_reducible refine Ext.setCell ?_ (by first | omega | (simp; done) | (simp; omega)) _)) hx51))
          replace HBk := Lib.hid (HBk.out.ext (Ext.trans (by repeat (first | with_reducible exact Ext.refl _ | with_reducible refine Ext.drew ?_ | with_reducible refine Ext.drewN ?_ _ | with_reducible refine Ext.alloc ?_ _ | with_reducible refine Ext.setCell ?_ (by first | omega | (simp; done) | (simp; omega)) _)) hx51))
          have X51 : Hid (Ext w w51) := Lib.hid (Ext.trans (by repeat (first | with_reducible exact XR.out | with_reducible refine Ext.drew ?_ | with_reducible refine Ext.drewN ?_ _ | with_reducible refine Ext.alloc ?_ _ | with_reducible refine Ext.setCell ?_ (by first | omega | (simp; done) | (simp; omega)) _)) hx51)
          clear XR hx51
          go_wp2_with fail
          (with_reducible refine (rewCredit_ev A1 N c1 C (kp : Int) kt (C.set kp (u + kt)) 0 N _ (HC.out.ext (by repeat (first | with_reducible exact Ext.refl _ | with_reducible refine Ext.drew ?_ | with_reducible refine Ext.drewN ?_ _ | with_reducible refine Ext.alloc ?_ _ | with_reducible refine Ext.setCell ?_ (by first | omega | (simp; done) | (simp; omega)) _))) HW.out HKW.out HN1.out HCR.out HLS.out).mono ?_)
          rintro e w52 ⟨A2, c2, rfl, hn2, hO2, hx52⟩
          replace x_0 : w52.cell? ⟨b1, o1 + k, none⟩ = some (.int .i64 x) := hx52.has (by first | exact x_0 | (simp [go_sem, World.cell?_alloc_past, x_0, y_0, h_0f, h_0, rx, rxa, rxb, rxc, rxn, ry, rya, ryb, ryc, ryn, rh, rha, rhb, rhc, rhn]; done))
          replace h_0f : w52.frozen? ⟨g0, kp, none⟩ = false := hx52.froz (v := .int .u64 u) (by first | exact h_0 | (simp [go_sem, World.cell?_alloc_past, x_0, y_0, h_0f, h_0, rx, rxa, rxb, rxc, rxn, ry, rya, ryb, ryc, ryn, rh, rha, rhb, rhc, rhn]; done)) (by first | exact h_0f | (simp [go_sem, World.cell?_alloc_past, x_0, y_0, h_0f, h_0, rx, rxa, rxb, rxc, rxn, ry, rya, ryb, ryc, ryn, rh, rha, rhb, rhc, rhn]; done))
          replace h_0 : w52.cell? ⟨g0, kp, none⟩ = some (.int .u64 u) := hx52.has (by first | exact h_0 | (simp [go_sem, World.cell?_alloc_past, x_0, y_0, h_0f, h_0, rx, rxa, rxb, rxc, rxn, ry, rya, ryb, ryc, ryn, rh, rha, rhb, rhc, rhn]; done))
          have z52 := hx52.size
          try simp at z52
          replace rx : b1 < w52.heap.size := by omega
          replace rxa : b1 < w52.heap.size + 1 := by omega
          replace rxb : b1 < w52.heap.size + 1 + 1 := by omega
          replace rxc : b1 < w52.heap.size + 1 + 1 + 1 := by omega
          replace rxn : ¬ b1 = w52.heap.size := by omega
          replace rh : g0 < w52.heap.size := by omega
          replace rha : g0 < w52.heap.size + 1 := by omega
          replace rhb : g0 < w52.heap.size + 1 + 1 := by omega
          replace rhc : g0 < w52.heap.size + 1 + 1 + 1 := by omega
          replace rhn : ¬ g0 = w52.heap.size := by omega
          replace HC := Lib.hid (HC.out.ext (Ext.trans (by repeat (first | with_reducible exact Ext.refl _ | with_reducible refine Ext.drew ?_ | with_reducible refine Ext.drewN ?_ _ | with_reducible refine Ext.alloc ?_ _ | with_reducible refine Ext.setCell ?_ (by first | omega | (simp; done) | (simp; omega)) _)) hx52))
          replace HO := Lib.hid (HO.out.ext (Ext.trans (by repeat (first | with_reducible exact Ext.refl _ | with_reducible refine Ext.drew ?_ | with_reducible refine Ext.drewN ?_ _ | with_reducible refine Ext.alloc ?_ _ | with_reducible refine Ext.setCell ?_ (by first | omega | (simp; done) | (simp; omega)) _)) hx52))
          replace HSk := Lib.hid (HSk.out.ext (Ext.trans (by repeat (first | with_reducible exact Ext.refl _ | with_reducible refine Ext.drew ?_ | with_reducible refine Ext.drewN ?_ _ | with_reducible refine Ext.alloc ?_ _ | with_reducible refine Ext.setCell ?_ (by first | omega | (simp; done) | (simp; omega)) _)) hx52))
          replace HBk := Lib.hid (HBk.out.ext (Ext.trans (by repeat (first | with_reducible exact Ext.refl _ | with_reducible refine Ext.drew ?_ | with_reducible refine Ext.drewN ?_ _ | with_reducible refine Ext.alloc ?_ _ | with_reducible refine Ext.setCell ?_ (by first | omega | (simp; done) | (simp; omega)) _)) hx52))
          have X52 : Hid (Ext w w52) := Lib.hid (Ext.trans (by repeat (first | with_reducible exact X51.out | with_reducible refine Ext.drew ?_ | with_reducible refine Ext.drewN ?_ _ | with_reducible refine Ext.alloc ?_ _ | with_reducible refine Ext.setCell ?_ (by first | omega | (simp; done) | (simp; omega)) _)) hx52)
          have HD := Lib.hid hO2
          clear y_0 ry rya ryb ryc ryn X51 hx52 hO2
          have HN2 := Lib.hid hn2
          clear hn2
          have HNE2 : Hid (∀ b o s, A2 = some ⟨b, o, s⟩ → b ≠ g0) := Lib.hid (fun b o s e => by have h := (HD.out.in_ b o s e).1; (try simp at h); omega)
          have hB9 : But (· = g0) w52 (w52.setCell ⟨g0, kp, none⟩ (.int .u64 (u + kt))) := (But.refl (· = g0) w52).setG _
          have HS9 := Lib.hid (SlB.but (show SlB _ w52 _ _ _ _ _ from (HSk.out.ext (by repeat (first | with_reducible exact Ext.refl _ | with_reducible refine Ext.drew ?_ | with_reducible refine Ext.drewN ?_ _ | with_reducible refine Ext.alloc ?_ _ | with_reducible refine Ext.setCell ?_ (by first | omega | (simp; done) | (simp; omega)) _)))) hB9 (fun k hk => by have h2 : k = g0 := hk; omega))
          have HB9 := Lib.hid (SlB.but (show SlB _ w52 _ _ _ _ _ from (HBk.out.ext (by repeat (first | with_reducible exact Ext.refl _ | with_reducible refine Ext.drew ?_ | with_reducible refine Ext.drewN ?_ _ | with_reducible refine Ext.alloc ?_ _ | with_reducible refine Ext.setCell ?_ (by first | omega | (simp; done) | (simp; omega)) _)))) hB9 (fun k hk => by have h2 : k = g0 := hk; omega))
          have HC9 := Lib.hid (Sl.offSet (g := g0) (i := kp) (u := .int .u64 (u + kt)) (show Sl w52 _ _ _ _ _ from (OwnWord.sl (HD.out.ext (by repeat (first | with_reducible exact Ext.refl _ | with_reducible refine Ext.drew ?_ | with_reducible refine Ext.drewN ?_ _ | with_reducible refine Ext.alloc ?_ _ | with_reducible refine Ext.setCell ?_ (by first | omega | (simp; done) | (simp; omega)) _))))) HNE2.out)
          have HO9 : Hid (OwnWord (w52.setCell ⟨g0, kp, none⟩ (.int .u64 (u + kt))) w.heap.size (.slice (some ⟨g0, 0, none⟩) N N) N (C.set kp (u + kt))) := Lib.hid (OwnWord.set (show OwnWord w52 _ _ _ _ from (HO.out.ext (by repeat (first | with_reducible exact Ext.refl _ | with_reducible refine Ext.drew ?_ | with_reducible refine Ext.drewN ?_ _ | with_reducible refine Ext.alloc ?_ _ | with_reducible refine Ext.setCell ?_ (by first | omega | (simp; done) | (simp; omega)) _)))) kp (u + kt))
          have X9 : Hid (Ext w (w52.setCell ⟨g0, kp, none⟩ (.int .u64 (u + kt)))) := Lib.hid (Below.setCell (p := ⟨g0, kp, none⟩) (show Ext w w52 from (by repeat (first | with_reducible exact X52.out | with_reducible refine Ext.drew ?_ | with_reducible refine Ext.drewN ?_ _ | with_reducible refine Ext.alloc ?_ _ | with_reducible refine Ext.setCell ?_ (by first | omega | (simp; done) | (simp; omega)) _))) hg0w _)
          clear hB9
          go_wp2_with fail
          refine (kSameWords_eq A2 (some ⟨g0, 0, none⟩) N c2 N N (C.set kp (u + kt)) _ HC9.out (OwnWord.sl HO9.out)).mono ?_
          rintro e w99 ⟨rfl, hx9⟩
          have HS10 := Lib.hid (HS9.out.ext hx9)
          have HB10 := Lib.hid (HB9.out.ext hx9)
          have X10 : Hid (Ext w w99) := Lib.hid (Ext.trans X9.out hx9)
          have HRN9 := Lib.hid (show RunW w w99 g0 N A2 c2 (C.set kp (u + kt)) (((k + 1 : Nat) : Int) * Q) from ⟨HN2.out, HC9.out.ext hx9, HNE2.out, OwnWord.ext HO9.out hx9, (word_set HW.out HUK.out), HSM.out⟩)
          clear hx9 HS9 HB9 HC9 HO9 X9
          go_wp2_with fail
          go_roundg (gk - 1)
          case measure => have := HK.out; omega
          case rel =>
            have e9 : n - (gk - 1) = k + 1 := by have := HK.out; omega
            refine ⟨by have := HK.out; omega, num_eq (by have := HK.out; omega), ⟨_, _, _, rfl, by rw [e9]; exact HRN9⟩, HS10, HB10, X10.out⟩
        · have e123 : (x.tmod 2 == 0) = false := by simpa using hx2
          obtain ⟨kt, hkt⟩ : ∃ v, v = prt a (kpV rr false).1 := ⟨_, rfl⟩
          obtain ⟨g1, g2, g3⟩ := kpV_ok (own := false) hr0 (show ¬ 1000000000 < rr from by omega)
          obtain ⟨g4, g5, _⟩ := prt_bounds ha0 g2 g3
          rw [← hkt] at g4 g5
          have HSP := Lib.hid (show splV a rr false = (kt, a - kt, 0) from by unfold splV; rw [if_neg (by omega), ← hkt])
          have e146 : (kt + (a - kt) != a) = false := by simp; omega
          have e146b : kt + (a - kt) = a := by omega
          have e146c : (a != a) = false := by simp
          have HKW := Lib.hid (show Word kt from ⟨by omega, by omega⟩)
          have HCR := Lib.hid (show crdV C (kp : Int) kt = (C.set kp (u + kt), 0) from by rw [crdV_of (by omega) (by omega) (by omega) g4, ← HU.out])
          have HLS := Lib.hid (show (C.set kp (u + kt)).length = N from by rw [List.length_set]; exact hCl9)
          have HSM := Lib.hid (show sumL (C.set kp (u + kt)) ≤ ((k + 1 : Nat) : Int) * Q from by rw [sumL_set (by omega), ← HU.out]; omega)
          have HUK := Lib.hid (show Word (u + kt) from ⟨by omega, by omega⟩)
          have g6 : u + kt < 18446744073709551616 := by omega
          have g7 : 0 ≤ u + kt := by omega
          have g8 : 0 ≤ a - kt := by omega
          clear hq1 hsum hkm hQ hkt hrr g1 g2 g3 hx2
          go_wp2_with fail
          refine wp_region_held_drew (S := fun w' => w'.cell? ⟨b1, o1 + k, none⟩ = some (.int .i64 x) ∧ w'.cell? ⟨b2, o2 + k, none⟩ = some (.int .u64 y)) (by kernel_rfl) (by first | exact ⟨x_0, y_0⟩ | (simp [go_sem, World.cell?_alloc_past, x_0, y_0, h_0, h_0f]; done)) (fun hHeld => ?_)
          (refine' take_in 0 rfl (by kernel_rfl) (by kernel_rfl) (by kernel_rfl) (fun _ _ _ h => h) (by rfl) (by assumption) ?_ ?_; rotate_left; focus (intro w hSw; (try dsimp only at hSw); go_simp; try with_reducible rfl)); try simp only [Act.put, List.setIfInBounds_toArray, List.set_cons_zero, List.set_cons_succ]
          (refine' take_in 1 rfl (by kernel_rfl) (by kernel_rfl) (by kernel_rfl) (fun _ _ _ h => h) (by rfl) (by assumption) ?_ ?_; rotate_left; focus (intro w hSw; (try dsimp only at hSw); go_simp; try with_reducible rfl)); try simp only [Act.put, List.setIfInBounds_toArray, List.set_cons_zero, List.set_cons_succ]
          (refine' take_in 2 rfl (by kernel_rfl) (by kernel_rfl) (by kernel_rfl) (fun _ _ _ h => h) (by rfl) (by assumption) ?_ ?_; rotate_left; focus (intro w hSw; (try dsimp only at hSw); go_simp; try with_reducible rfl)); try simp only [Act.put, List.setIfInBounds_toArray, List.set_cons_zero, List.set_cons_succ]
          (refine' take_in 3 rfl (by kernel_rfl) (by kernel_rfl) (by kernel_rfl) (fun _ _ _ h => h) (by rfl) (by assumption) ?_ ?_; rotate_left; focus (intro w hSw; (try dsimp only at hSw); go_simp; try with_reducible rfl)); try simp only [Act.put, List.setIfInBounds_toArray, List.set_cons_zero, List.set_cons_succ]
          (refine' take_in 4 rfl (by kernel_rfl) (by kernel_rfl) (by kernel_rfl) (fun _ _ _ h => h) (by rfl) (by assumption) ?_ ?_; rotate_left; focus (intro w hSw; (try dsimp only at hSw); go_simp; try with_reducible rfl)); try simp only [Act.put, List.setIfInBounds_toArray, List.set_cons_zero, List.set_cons_succ]
          (refine' take_in 6 rfl (by kernel_rfl) (by kernel_rfl) (by kernel_rfl) (fun _ _ _ h => h) (by rfl) (by assumption) ?_ ?_; rotate_left; focus (intro w hSw; (try dsimp only at hSw); go_simp; try with_reducible rfl)); try simp only [Act.put, List.setIfInBounds_toArray, List.set_cons_zero, List.set_cons_succ]
          (refine' take_in 7 rfl (by kernel_rfl) (by kernel_rfl) (by kernel_rfl) (fun _ _ _ h => h) (by rfl) (by assumption) ?_ ?_; rotate_left; focus (intro w hSw; (try dsimp only at hSw); go_simp; try with_reducible rfl)); try simp only [Act.put, List.setIfInBounds_toArray, List.set_cons_zero, List.set_cons_succ]
          (refine' take_in 8 rfl (by kernel_rfl) (by kernel_rfl) (by kernel_rfl) (fun _ _ _ h => h) (by rfl) (by assumption) ?_ ?_; rotate_left; focus (intro w hSw; (try dsimp only at hSw); go_simp; try with_reducible rfl)); try simp only [Act.put, List.setIfInBounds_toArray, List.set_cons_zero, List.set_cons_succ]
          (refine' take_in 9 rfl (by kernel_rfl) (by kernel_rfl) (by kernel_rfl) (fun _ _ _ h => h) (by rfl) (by assumption) ?_ ?_; rotate_left; focus (intro w hSw; (try dsimp only at hSw); go_simp; try with_reducible rfl)); try simp only [Act.put, List.setIfInBounds_toArray, List.set_cons_zero, List.set_cons_succ]
          (refine' take_in 10 rfl (by kernel_rfl) (by kernel_rfl) (by kernel_rfl) (fun _ _ _ h => h) (by rfl) (by assumption) ?_ ?_; rotate_left; focus (intro w hSw; (try dsimp only at hSw); go_simp; try with_reducible rfl)); try simp only [Act.put, List.setIfInBounds_toArray, List.set_cons_zero, List.set_cons_succ]
          refine' next_in 5 rfl (by kernel_rfl) (by rfl) (fun K hK => ?_)
          go_simp
          (with_reducible refine (HPK.out _).mono ?_)
          rintro e w_1 ⟨rfl, rfl⟩
          refine hK.out _ _ (by (first | exact ⟨x_0, y_0⟩ | (simp [go_sem, World.cell?_alloc_past, x_0, y_0, h_0, h_0f]; done))) (fun hHeld => ?_); clear hK K; try simp only [Act.put, List.setIfInBounds_toArray, List.set_cons_zero, List.set_cons_succ]
          (refine' take_in 11 rfl (by kernel_rfl) (by kernel_rfl) (by kernel_rfl) (fun _ _ _ h => h) (by rfl) (by assumption) ?_ ?_; rotate_left; focus (intro w hSw; (try dsimp only at hSw); go_simp; try with_reducible rfl)); try simp only [Act.put, List.setIfInBounds_toArray, List.set_cons_zero, List.set_cons_succ]
          (refine' take_in 12 rfl (by kernel_rfl) (by kernel_rfl) (by kernel_rfl) (fun _ _ _ h => h) (by rfl) (by assumption) ?_ ?_; rotate_left; focus (intro w hSw; (try dsimp only at hSw); go_simp; try with_reducible rfl)); try simp only [Act.put, List.setIfInBounds_toArray, List.set_cons_zero, List.set_cons_succ]
          refine wpAnyH_done (by kernel_rfl) ?_ _
          go_wp2_with fail
          (with_reducible refine (rewSplit_ev a rr false kt (a - kt) 0 _ HAW.out HRR.out HSP.out).mono ?_)
          rintro e w51 ⟨rfl, hx51⟩
          replace x_0 : w51.cell? ⟨b1, o1 + k, none⟩ = some (.int .i64 x) := hx51.has (by first | exact x_0 | (simp [go_sem, World.cell?_alloc_past, x_0, y_0, h_0, h_0f]; done))
          replace y_0 : w51.cell? ⟨b2, o2 + k, none⟩ = some (.int .u64 y) := hx51.has (by first | exact y_0 | (simp [go_sem, World.cell?_alloc_past, x_0, y_0, h_0, h_0f]; done))
          replace h_0f : w51.frozen? ⟨g0, kp, none⟩ = false := hx51.froz (v := .int .u64 u) (by first | exact h_0 | (simp [go_sem, World.cell?_alloc_past, x_0, y_0, h_0, h_0f]; done)) (by first | exact h_0f | (simp [go_sem, World.cell?_alloc_past, x_0, y_0, h_0, h_0f]; done))
          replace h_0 : w51.cell? ⟨g0, kp, none⟩ = some (.int .u64 u) := hx51.has (by first | exact h_0 | (simp [go_sem, World.cell?_alloc_past, x_0, y_0, h_0, h_0f]; done))
          have z51 := hx51.size
          try simp at z51
          have rx : b1 < w51.heap.size := by omega
          have rxa : b1 < w51.heap.size + 1 := by omega
          have rxb : b1 < w51.heap.size + 1 + 1 := by omega
          have rxc : b1 < w51.heap.size + 1 + 1 + 1 := by omega
          have rxn : ¬ b1 = w51.heap.size := by omega
          have ry : b2 < w51.heap.size := by omega
          have rya : b2 < w51.heap.size + 1 := by omega
          have ryb : b2 < w51.heap.size + 1 + 1 := by omega
          have ryc : b2 < w51.heap.size + 1 + 1 + 1 := by omega
          have ryn : ¬ b2 = w51.heap.size := by omega
          have rh : g0 < w51.heap.size := by omega
          have rha : g0 < w51.heap.size + 1 := by omega
          have rhb : g0 < w51.heap.size + 1 + 1 := by omega
          have rhc : g0 < w51.heap.size + 1 + 1 + 1 := by omega
          have rhn : ¬ g0 = w51.heap.size := by omega
          replace HC := Lib.hid (HC.out.ext (Ext.trans (by repeat (first | with_reducible exact Ext.refl _ | with_reducible refine Ext.drew ?_ | with_reducible refine Ext.drewN ?_ _ | with_reducible refine Ext.alloc ?_ _ | with_reducible refine Ext.setCell ?_ (by first | omega | (simp; done) | (simp; omega)) _)) hx51))
          replace HO := Lib.hid (HO.out.ext (Ext.trans (by repeat (first | with_reducible exact Ext.refl _ | with_reducible refine Ext.drew ?_ | with_reducible refine Ext.drewN ?_ _ | with_reducible refine Ext.alloc ?_ _ | with_reducible refine Ext.setCell ?_ (by first | omega | (simp; done) | (simp; omega)) _)) hx51))
          replace HSk := Lib.hid (HSk.out.ext (Ext.trans (by repeat (first | with_reducible exact Ext.refl _ | with_reducible refine Ext.drew ?_ | with_reducible refine Ext.drewN ?_ _ | with_reducible refine Ext.alloc ?_ _ | with_reducible refine Ext.setCell ?_ (by first | omega | (simp; done) | (simp; omega)) _)) hx51))
          replace HBk := Lib.hid (HBk.out.ext (Ext.trans (by repeat (first | with_reducible exact Ext.refl _ | with_reducible refine Ext.drew ?_ | with_reducible refine Ext.drewN ?_ _ | with_reducible refine Ext.alloc ?_ _ | with_reducible refine Ext.setCell ?_ (by first | omega | (simp; done) | (simp; omega)) _)) hx51))
          have X51 : Hid (Ext w w51) := Lib.hid (Ext.trans (by repeat (first | with_reducible exact XR.out | with_reducible refine Ext.drew ?_ | with_reducible refine Ext.drewN ?_ _ | with_reducible refine Ext.alloc ?_ _ | with_reducible refine Ext.setCell ?_ (by first | omega | (simp; done) | (simp; omega)) _)) hx51)
          clear XR hx51
          go_wp2_with fail
          (with_reducible refine (rewCredit_ev A1 N c1 C (kp : Int) kt (C.set kp (u + kt)) 0 N _ (HC.out.ext (by repeat (first | with_reducible exact Ext.refl _ | with_reducible refine Ext.drew ?_ | with_reducible refine Ext.drewN ?_ _ | with_reducible refine Ext.alloc ?_ _ | with_reducible refine Ext.setCell ?_ (by first | omega | (simp; done) | (simp; omega)) _))) HW.out HKW.out HN1.out HCR.out HLS.out).mono ?_)
          rintro e w52 ⟨A2, c2, rfl, hn2, hO2, hx52⟩
          replace x_0 : w52.cell? ⟨b1, o1 + k, none⟩ = some (.int .i64 x) := hx52.has (by first | exact x_0 | (simp [go_sem, World.cell?_alloc_past, x_0, y_0, h_0f, h_0, rx, rxa, rxb, rxc, rxn, ry, rya, ryb, ryc, ryn, rh, rha, rhb, rhc, rhn]; done))
          replace h_0f : w52.frozen? ⟨g0, kp, none⟩ = false := hx52.froz (v := .int .u64 u) (by first | exact h_0 | (simp [go_sem, World.cell?_alloc_past, x_0, y_0, h_0f, h_0, rx, rxa, rxb, rxc, rxn, ry, rya, ryb, ryc, ryn, rh, rha, rhb, rhc, rhn]; done)) (by first | exact h_0f | (simp [go_sem, World.cell?_alloc_past, x_0, y_0, h_0f, h_0, rx, rxa, rxb, rxc, rxn, ry, rya, ryb, ryc, ryn, rh, rha, rhb, rhc, rhn]; done))
          replace h_0 : w52.cell? ⟨g0, kp, none⟩ = some (.int .u64 u) := hx52.has (by first | exact h_0 | (simp [go_sem, World.cell?_alloc_past, x_0, y_0, h_0f, h_0, rx, rxa, rxb, rxc, rxn, ry, rya, ryb, ryc, ryn, rh, rha, rhb, rhc, rhn]; done))
          have z52 := hx52.size
          try simp at z52
          replace rx : b1 < w52.heap.size := by omega
          replace rxa : b1 < w52.heap.size + 1 := by omega
          replace rxb : b1 < w52.heap.size + 1 + 1 := by omega
          replace rxc : b1 < w52.heap.size + 1 + 1 + 1 := by omega
          replace rxn : ¬ b1 = w52.heap.size := by omega
          replace rh : g0 < w52.heap.size := by omega
          replace rha : g0 < w52.heap.size + 1 := by omega
          replace rhb : g0 < w52.heap.size + 1 + 1 := by omega
          replace rhc : g0 < w52.heap.size + 1 + 1 + 1 := by omega
          replace rhn : ¬ g0 = w52.heap.size := by omega
          replace HC := Lib.hid (HC.out.ext (Ext.trans (by repeat (first | with_reducible exact Ext.refl _ | with_reducible refine Ext.drew ?_ | with_reducible refine Ext.drewN ?_ _ | with_reducible refine Ext.alloc ?_ _ | with_reducible refine Ext.setCell ?_ (by first | omega | (simp; done) | (simp; omega)) _)) hx52))
          replace HO := Lib.hid (HO.out.ext (Ext.trans (by repeat (first | with_reducible exact Ext.refl _ | with_reducible refine Ext.drew ?_ | with_reducible refine Ext.drewN ?_ _ | with_reducible refine Ext.alloc ?_ _ | with_reducible refine Ext.setCell ?_ (by first | omega | (simp; done) | (simp; omega)) _)) hx52))
          replace HSk := Lib.hid (HSk.out.ext (Ext.trans (by repeat (first | with_reducible exact Ext.refl _ | with_reducible refine Ext.drew ?_ | with_reducible refine Ext.drewN ?_ _ | with_reducible refine Ext.alloc ?_ _ | with_reducible refine Ext.setCell ?_ (by first | omega | (simp; done) | (simp; omega)) _)) hx52))
          replace HBk := Lib.hid (HBk.out.ext (Ext.trans (by repeat (first | with_reducible exact Ext.refl _ | with_reducible refine Ext.drew ?_ | with_reducible refine Ext.drewN ?_ _ | with_reducible refine Ext.alloc ?_ _ | with_reducible refine Ext.setCell ?_ (by first | omega | (simp; done) | (simp; omega)) _)) hx52))
          have X52 : Hid (Ext w w52) := Lib.hid (Ext.trans (by repeat (first | with_reducible exact X51.out | with_reducible refine Ext.drew ?_ | with_reducible refine Ext.drewN ?_ _ | with_reducible refine Ext.alloc ?_ _ | with_reducible refine Ext.setCell ?_ (by first | omega | (simp; done) | (simp; omega)) _)) hx52)
          have HD := Lib.hid hO2
          clear y_0 ry rya ryb ryc ryn X51 hx52 hO2
          have HN2 := Lib.hid hn2
          clear hn2
          have HNE2 : Hid (∀ b o s, A2 = some ⟨b, o, s⟩ → b ≠ g0) := Lib.hid (fun b o s e => by have h := (HD.out.in_ b o s e).1; (try simp at h); omega)
          have hB9 : But (· = g0) w52 (w52.setCell ⟨g0, kp, none⟩ (.int .u64 (u + kt))) := (But.refl (· = g0) w52).setG _
          have HS9 := Lib.hid (SlB.but (show SlB _ w52 _ _ _ _ _ from (HSk.out.ext (by repeat (first | with_reducible exact Ext.refl _ | with_reducible refine Ext.drew ?_ | with_reducible refine Ext.drewN ?_ _ | with_reducible refine Ext.alloc ?_ _ | with_reducible refine Ext.setCell ?_ (by first | omega | (simp; done) | (simp; omega)) _)))) hB9 (fun k hk => by have h2 : k = g0 := hk; omega))
          have HB9 := Lib.hid (SlB.but (show SlB _ w52 _ _ _ _ _ from (HBk.out.ext (by repeat (first | with_reducible exact Ext.refl _ | with_reducible refine Ext.drew ?_ | with_reducible refine Ext.drewN ?_ _ | with_reducible refine Ext.alloc ?_ _ | with_reducible refine Ext.setCell ?_ (by first | omega | (simp; done) | (simp; omega)) _)))) hB9 (fun k hk => by have h2 : k = g0 := hk; omega))
          have HC9 := Lib.hid (Sl.offSet (g := g0) (i := kp) (u := .int .u64 (u + kt)) (show Sl w52 _ _ _ _ _ from (OwnWord.sl (HD.out.ext (by repeat (first | with_reducible exact Ext.refl _ | with_reducible refine Ext.drew ?_ | with_reducible refine Ext.drewN ?_ _ | with_reducible refine Ext.alloc ?_ _ | with_reducible refine Ext.setCell ?_ (by first | omega | (simp; done) | (simp; omega)) _))))) HNE2.out)
          have HO9 : Hid (OwnWord (w52.setCell ⟨g0, kp, none⟩ (.int .u64 (u + kt))) w.heap.size (.slice (some ⟨g0, 0, none⟩) N N) N (C.set kp (u + kt))) := Lib.hid (OwnWord.set (show OwnWord w52 _ _ _ _ from (HO.out.ext (by repeat (first | with_reducible exact Ext.refl _ | with_reducible refine Ext.drew ?_ | with_reducible refine Ext.drewN ?_ _ | with_reducible refine Ext.alloc ?_ _ | with_reducible refine Ext.setCell ?_ (by first | omega | (simp; done) | (simp; omega)) _)))) kp (u + kt))
          have X9 : Hid (Ext w (w52.setCell ⟨g0, kp, none⟩ (.int .u64 (u + kt)))) := Lib.hid (Below.setCell (p := ⟨g0, kp, none⟩) (show Ext w w52 from (by repeat (first | with_reducible exact X52.out | with_reducible refine Ext.drew ?_ | with_reducible refine Ext.drewN ?_ _ | with_reducible refine Ext.alloc ?_ _ | with_reducible refine Ext.setCell ?_ (by first | omega | (simp; done) | (simp; omega)) _))) hg0w _)
          clear hB9
          go_wp2_with fail
          refine (kSameWords_eq A2 (some ⟨g0, 0, none⟩) N c2 N N (C.set kp (u + kt)) _ HC9.out (OwnWord.sl HO9.out)).mono ?_
          rintro e w99 ⟨rfl, hx9⟩
          have HS10 := Lib.hid (HS9.out.ext hx9)
          have HB10 := Lib.hid (HB9.out.ext hx9)
          have X10 : Hid (Ext w w99) := Lib.hid (Ext.trans X9.out hx9)
          have HRN9 := Lib.hid (show RunW w w99 g0 N A2 c2 (C.set kp (u + kt)) (((k + 1 : Nat) : Int) * Q) from ⟨HN2.out, HC9.out.ext hx9, HNE2.out, OwnWord.ext HO9.out hx9, (word_set HW.out HUK.out), HSM.out⟩)
          clear hx9 HS9 HB9 HC9 HO9 X9
          go_wp2_with fail
          go_roundg (gk - 1)
          case measure => have := HK.out; omega
          case rel =>
            have e9 : n - (gk - 1) = k + 1 := by have := HK.out; omega
            refine ⟨by have := HK.out; omega, num_eq (by have := HK.out; omega), ⟨_, _, _, rfl, by rw [e9]; exact HRN9⟩, HS10, HB10, X10.out⟩
theorem RewardSums_any (m : Int) (hm : Fits .i64 m) (A : Option Addr) (n c : Nat) (l : List Int) (B : Option Addr) (nb d : Nat) (r : List Int) (ppb : Int) (hp : Fits .u64 ppb) (w : World) (hs : Sl w 1 A n c (iv .i64 l)) (hf : ∀ x ∈ l, Fits .i64 x) (hb : Sl w 1 B nb d (iv .u64 r)) (hr : ∀ x ∈ r, Fits .u64 x) :
    Calls Try.prog 6 #[.int .i64 m, .slice A n c, .slice B nb d, .int .u64 ppb] w fun r w' => r = .returned (.bool true) ∧ Ext w w' := by
  by_cases hl : n ≤ 60 ∧ n ≤ nb
  · exact RewardSums_main m ppb A B n c nb d l r w hm hp.u64 hs hf hb (fun x hx => (hr x hx).u64) hl.1 hl.2
  · exact RewardSums_long m ppb A B n c nb d w (by omega) hs.small hb.small
end Go.Proofs.Ytlgjdeggbcgbnaa
