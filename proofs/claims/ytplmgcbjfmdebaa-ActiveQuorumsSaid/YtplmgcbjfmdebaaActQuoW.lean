/- law17: ActiveQuorums returns true, whatever comes in. Conditions: none but those of the arguments' types. -/
import Derived.Test.YtplmgcbjfmdebaaActTellsW
import Derived.Test.YtplmgcbjfmdebaaActKnownW
import Derived.Test.YtplmgcbjfmdebaaGreatV
set_option linter.unusedVariables false
set_option linter.unusedSimpArgs false
namespace Go.Proofs.Ytplmgcbjfmdebaa
open Go.RowKit Go.Shelf Go.ChangeShapes Go.WideShapes Go.Deep Gr

theorem SlB.bel2 {B : Nat} {w w' : World} {sz n c : Nat} {A : Option Addr} {xs : List Value} (h : SlB B w sz A n c xs) (hx : Below B w w') : SlB B w' sz A n c xs := by
  refine ⟨⟨h.1.1, h.1.2.1, h.1.2.2.1, fun hn => ?_⟩, h.2⟩
  obtain ⟨b, o, e, hlt, hc⟩ := h.1.at_ hn
  have h2 := h.2 hn b o none e
  exact ⟨b, o, e, by have := hx.size; omega, fun j u hu => (hx.cell (p := ⟨b, o + j, none⟩) h2).trans (hc j u hu)⟩
theorem b1_2 : B1 2 := ⟨by decide, by decide⟩
theorem b1_3 : B1 3 := ⟨by decide, by decide⟩
/-- how many are in, up to a place -/
def mT (ms : List Bool) : Nat → Nat
  | 0 => 0
  | k + 1 => mT ms k + if isB ms k then 1 else 0
theorem mT_le (ms : List Bool) : ∀ k, mT ms k ≤ k
  | 0 => Nat.le_refl _
  | k + 1 => by
    have := mT_le ms k
    unfold mT
    split <;> omega
theorem fl_facts {ts : List Int} (ms : List Bool) (hw : ∀ x ∈ ts, 0 ≤ x) : ∀ k, 0 ≤ (flT ts ms k).1 ∧ (flT ts ms k).2 = decide (0 < mT ms k) ∧ (mT ms k : Int) * (flT ts ms k).1 ≤ sumT ts ms k
  | 0 => ⟨Int.le_refl 0, by simp [flT, mT], by simp [flT, mT, sumT]⟩
  | k + 1 => by
    obtain ⟨h1, h2, h3⟩ := fl_facts ms hw k
    have h4 : 0 ≤ tk ts k := by
      unfold tk
      rw [List.getD_eq_getElem?_getD]
      rcases e : ts[k]? with _ | x
      · simp
      · exact hw x (List.mem_of_getElem? e)
    unfold flT mT sumT
    generalize flT ts ms k = p at *
    obtain ⟨s, f⟩ := p
    simp only at h1 h2 h3 ⊢
    generalize mT ms k = m at *
    generalize sumT ts ms k = S at *
    generalize tk ts k = t at *
    cases hb : isB ms k
    · simp [h1, h2, h3]
    · cases hf : f
      · rw [hf] at h2
        have hm : m = 0 := by
          have := h2.symm
          simp at this
          omega
        subst hm
        simp at h3
        simp
        exact ⟨h4, by omega⟩
      · rw [hf] at h2
        have hm : 0 < m := by
          have := h2.symm
          simpa using this
        by_cases hlt : t < s
        · simp [hlt]
          refine ⟨h4, ?_⟩
          have h5 : (m : Int) * t ≤ (m : Int) * s := Int.mul_le_mul_of_nonneg_left (by omega) (by omega)
          rw [Int.add_mul, Int.one_mul]
          omega
        · simp [hlt]
          refine ⟨h1, ?_⟩
          rw [Int.add_mul, Int.one_mul]
          omega
theorem sumT_small {ts : List Int} (ms : List Bool) (hw : ∀ x ∈ ts, 0 ≤ x ∧ x < 1125899906842624) : ∀ k, sumT ts ms k ≤ (k : Int) * 1125899906842624
  | 0 => by simp [sumT]
  | k + 1 => by
    have h1 := sumT_small ms hw k
    have h4 : 0 ≤ tk ts k ∧ tk ts k < 1125899906842624 := by
      unfold tk
      rw [List.getD_eq_getElem?_getD]
      rcases e : ts[k]? with _ | x
      · simp
      · exact hw x (List.mem_of_getElem? e)
    unfold sumT
    split <;> omega
theorem fl_small {ts : List Int} (ms : List Bool) (hw : ∀ x ∈ ts, 0 ≤ x ∧ x < 1125899906842624) : ∀ k, (flT ts ms k).1 < 1125899906842624
  | 0 => by simp [flT]
  | k + 1 => by
    have h1 := fl_small ms hw k
    have h4 : tk ts k < 1125899906842624 := by
      unfold tk
      rw [List.getD_eq_getElem?_getD]
      rcases e : ts[k]? with _ | x
      · simp
      · exact (hw x (List.mem_of_getElem? e)).2
    unfold flT
    split
    · exact h4
    · exact h1
set_option maxRecDepth 100000 in
set_option maxHeartbeats 4000000 in
theorem thrice17_any (n : Int) (hn : B1 n) (w : World) : Calls Try.prog 36 #[.int .u64 n] w fun e w' => ∃ v, e = .returned v ∧ GV w' v (n * 3) ∧ Ext w w' := by
  have HN := Lib.hid hn
  clear hn
  go_enter Try.func36, Try.ntmps36
  go_wp2_with fail
  (with_reducible refine (gGreat n HN.out _).mono ?_)
  rintro e w1 ⟨v1, rfl, gv1, hx1⟩
  have z1 := hx1.size
  try simp at z1
  have X1 : Hid (Ext w w1) := Lib.hid (Ext.trans (by repeat (first | with_reducible exact Ext.refl w | with_reducible refine Ext.drew ?_ | with_reducible refine Ext.drewN ?_ _ | with_reducible refine Ext.alloc ?_ _ | with_reducible refine Ext.setCell ?_ (by first | omega | (simp; done) | (simp; omega)) _)) hx1)
  have HA := Lib.hid gv1
  clear hx1 z1 gv1
  go_wp2_with fail
  (with_reducible refine (gGreat 3 b1_3 _).mono ?_)
  rintro e w2 ⟨v2, rfl, gv2, hx2⟩
  have z2 := hx2.size
  try simp at z2
  replace HA := Lib.hid (HA.out.ext (Ext.trans (by repeat (first | with_reducible exact Ext.refl _ | with_reducible refine Ext.drew ?_ | with_reducible refine Ext.drewN ?_ _ | with_reducible refine Ext.alloc ?_ _ | with_reducible refine Ext.setCell ?_ (by first | omega | (simp; done) | (simp; omega)) _)) hx2))
  have X2 : Hid (Ext w w2) := Lib.hid (Ext.trans (by repeat (first | with_reducible exact X1.out | with_reducible refine Ext.drew ?_ | with_reducible refine Ext.drewN ?_ _ | with_reducible refine Ext.alloc ?_ _ | with_reducible refine Ext.setCell ?_ (by first | omega | (simp; done) | (simp; omega)) _)) hx2)
  have HB := Lib.hid gv2
  clear X1 hx2 z2 gv2
  go_wp2_with fail
  (with_reducible refine (gTimes v1 v2 n 3 (B1.small HN.out) (by decide) _ (HA.out.ext (by repeat (first | with_reducible exact Ext.refl _ | with_reducible refine Ext.drew ?_ | with_reducible refine Ext.drewN ?_ _ | with_reducible refine Ext.alloc ?_ _ | with_reducible refine Ext.setCell ?_ (by first | omega | (simp; done) | (simp; omega)) _))) (HB.out.ext (by repeat (first | with_reducible exact Ext.refl _ | with_reducible refine Ext.drew ?_ | with_reducible refine Ext.drewN ?_ _ | with_reducible refine Ext.alloc ?_ _ | with_reducible refine Ext.setCell ?_ (by first | omega | (simp; done) | (simp; omega)) _)))).mono ?_)
  rintro e w3 ⟨v3, rfl, g3, hx3⟩
  have z3 := hx3.size
  try simp at z3
  have X3 : Hid (Ext w w3) := Lib.hid (Ext.trans (by repeat (first | with_reducible exact X2.out | with_reducible refine Ext.drew ?_ | with_reducible refine Ext.drewN ?_ _ | with_reducible refine Ext.alloc ?_ _ | with_reducible refine Ext.setCell ?_ (by first | omega | (simp; done) | (simp; omega)) _)) hx3)
  have HT := Lib.hid g3
  clear HA HB X2 hx3 z3 g3
  go_wp2_with fail
  go_ret
  exact ⟨_, rfl, (HT.out.ext (by repeat (first | with_reducible exact Ext.refl _ | with_reducible refine Ext.drew ?_ | with_reducible refine Ext.drewN ?_ _ | with_reducible refine Ext.alloc ?_ _ | with_reducible refine Ext.setCell ?_ (by first | omega | (simp; done) | (simp; omega)) _))), (by repeat (first | with_reducible exact X3.out | with_reducible refine Ext.drew ?_ | with_reducible refine Ext.drewN ?_ _ | with_reducible refine Ext.alloc ?_ _ | with_reducible refine Ext.setCell ?_ (by first | omega | (simp; done) | (simp; omega)) _))⟩
set_option maxRecDepth 100000 in
set_option maxHeartbeats 4000000 in
theorem ActiveQuorums_a (s : Int) (A B : Option Addr) (n c m d : Nat) (w : World) (hl : ¬ n ≤ 30) (hs : n ≤ 9223372036854775807) (hs2 : m ≤ 9223372036854775807) :
    Calls Try.prog 8 #[.int .u64 s, .slice A n c, .slice B m d] w fun r w' => r = .returned (.bool true) ∧ Ext w w' := by
  have hM1 : (30 : Int) < (n : Int) := by omega
  clear hl
  go_enter Try.func8, Try.ntmps8
  go_wp2_with fail
  (with_reducible refine (ActiveKnown_any _).mono ?_)
  rintro e w1 ⟨rfl, hx1⟩
  have z1 := hx1.size
  try simp at z1
  have X1 : Hid (Ext w w1) := Lib.hid (Ext.trans (by repeat (first | with_reducible exact Ext.refl w | with_reducible refine Ext.drew ?_ | with_reducible refine Ext.drewN ?_ _ | with_reducible refine Ext.alloc ?_ _ | with_reducible refine Ext.setCell ?_ (by first | omega | (simp; done) | (simp; omega)) _)) hx1)
  clear hx1 z1
  go_wp2_with fail
  go_ret
  exact ⟨rfl, (by repeat (first | with_reducible exact X1.out | with_reducible refine Ext.drew ?_ | with_reducible refine Ext.drewN ?_ _ | with_reducible refine Ext.alloc ?_ _ | with_reducible refine Ext.setCell ?_ (by first | omega | (simp; done) | (simp; omega)) _))⟩
set_option maxRecDepth 100000 in
set_option maxHeartbeats 4000000 in
theorem ActiveQuorums_b (s : Int) (A B : Option Addr) (n c m d : Nat) (w : World) (h1 : n ≤ 30) (h2 : ¬ m ≤ 30) (hs : n ≤ 9223372036854775807) (hs2 : m ≤ 9223372036854775807) :
    Calls Try.prog 8 #[.int .u64 s, .slice A n c, .slice B m d] w fun r w' => r = .returned (.bool true) ∧ Ext w w' := by
  have hM1 : ¬ (30 : Int) < (n : Int) := by omega
  have hM2 : (30 : Int) < (m : Int) := by omega
  clear h1 h2
  go_enter Try.func8, Try.ntmps8
  go_wp2_with fail
  (with_reducible refine (ActiveKnown_any _).mono ?_)
  rintro e w1 ⟨rfl, hx1⟩
  have z1 := hx1.size
  try simp at z1
  have X1 : Hid (Ext w w1) := Lib.hid (Ext.trans (by repeat (first | with_reducible exact Ext.refl w | with_reducible refine Ext.drew ?_ | with_reducible refine Ext.drewN ?_ _ | with_reducible refine Ext.alloc ?_ _ | with_reducible refine Ext.setCell ?_ (by first | omega | (simp; done) | (simp; omega)) _)) hx1)
  clear hx1 z1
  go_wp2_with fail
  go_ret
  exact ⟨rfl, (by repeat (first | with_reducible exact X1.out | with_reducible refine Ext.drew ?_ | with_reducible refine Ext.drewN ?_ _ | with_reducible refine Ext.alloc ?_ _ | with_reducible refine Ext.setCell ?_ (by first | omega | (simp; done) | (simp; omega)) _))⟩
set_option maxRecDepth 100000 in
set_option maxHeartbeats 4000000 in
theorem ActiveQuorums_main (s q : Int) (A B : Option Addr) (n c m d : Nat) (ts : List Int) (ms : List Bool) (w : World) (h : Sl w 1 A n c (iv .u64 ts)) (k : Sl w 1 B m d (bv ms)) (hn : n ≤ 30) (hm : m ≤ 30) (hw : ∀ x ∈ ts, Word x) (hsw : Word s) (hq : q = quoV s) :
    Calls Try.prog 8 #[.int .u64 s, .slice A n c, .slice B m d] w fun r w' => r = .returned (.bool true) ∧ Ext w w' := by
  have hM1 : ¬ (30 : Int) < (n : Int) := by omega
  have hM2 : ¬ (30 : Int) < (m : Int) := by omega
  obtain ⟨i0, hi0, hz0, hz1, hz2⟩ := info_parts infoWord
  obtain ⟨s0, s1⟩ := hsw
  have hqe : q = 2 * s / 3 + 1 := hq
  have q0 : 1 ≤ q := by omega
  have q1 : q ≤ 12297829382473034411 := by omega
  have qne : (q == 0) = false := by simp; omega
  have HQ := Lib.hid hq
  have bs_ : B1 s := ⟨s0, by omega⟩
  have bq : B1 q := ⟨by omega, by omega⟩
  have bq1 : B1 (q - 1) := ⟨by omega, by omega⟩
  have L1 := Lib.hid (show decide (s * 2 < q * 3) = true from decide_eq_true (by omega))
  have L2 := Lib.hid (show decide (s * 2 < (q - 1) * 3) = false from decide_eq_false (by omega))
  have L3 := Lib.hid (show decide (s < q + q) = true from decide_eq_true (by omega))
  have BS := Lib.hid bs_
  have BQ := Lib.hid bq
  have BQ1 := Lib.hid bq1
  have P1 := Lib.hid (show s * 2 < pw 16 from by rw [pw16]; omega)
  have P2 := Lib.hid (show q * 3 < pw 16 from by rw [pw16]; omega)
  have HS := Lib.hid h.low
  have HM := Lib.hid k.low
  have HW := Lib.hid hw
  have HSW := Lib.hid (show Word s from ⟨s0, s1⟩)
  have htl := Lib.hid h.ilen
  have hml := Lib.hid k.blen
  clear h k hw hq hqe bs_ bq bq1
  go_enter Try.func8, Try.ntmps8
  go_wp2_with fail
  (with_reducible refine (ActiveKnown_any _).mono ?_)
  rintro e w1 ⟨rfl, hx1⟩
  have z1 := hx1.size
  try simp at z1
  replace HS := Lib.hid (HS.out.ext (Ext.trans (by repeat (first | with_reducible exact Ext.refl _ | with_reducible refine Ext.drew ?_ | with_reducible refine Ext.drewN ?_ _ | with_reducible refine Ext.alloc ?_ _ | with_reducible refine Ext.setCell ?_ (by first | omega | (simp; done) | (simp; omega)) _)) hx1))
  replace HM := Lib.hid (HM.out.ext (Ext.trans (by repeat (first | with_reducible exact Ext.refl _ | with_reducible refine Ext.drew ?_ | with_reducible refine Ext.drewN ?_ _ | with_reducible refine Ext.alloc ?_ _ | with_reducible refine Ext.setCell ?_ (by first | omega | (simp; done) | (simp; omega)) _)) hx1))
  have X1 : Hid (Ext w w1) := Lib.hid (Ext.trans (by repeat (first | with_reducible exact Ext.refl w | with_reducible refine Ext.drew ?_ | with_reducible refine Ext.drewN ?_ _ | with_reducible refine Ext.alloc ?_ _ | with_reducible refine Ext.setCell ?_ (by first | omega | (simp; done) | (simp; omega)) _)) hx1)
  clear hx1 z1
  go_wp2_with fail
  (with_reducible refine (quo_ev s q _ HSW.out HQ.out.symm).mono ?_)
  rintro e w2 ⟨rfl, hx2⟩
  have z2 := hx2.size
  try simp at z2
  replace HS := Lib.hid (HS.out.ext (Ext.trans (by repeat (first | with_reducible exact Ext.refl _ | with_reducible refine Ext.drew ?_ | with_reducible refine Ext.drewN ?_ _ | with_reducible refine Ext.alloc ?_ _ | with_reducible refine Ext.setCell ?_ (by first | omega | (simp; done) | (simp; omega)) _)) hx2))
  replace HM := Lib.hid (HM.out.ext (Ext.trans (by repeat (first | with_reducible exact Ext.refl _ | with_reducible refine Ext.drew ?_ | with_reducible refine Ext.drewN ?_ _ | with_reducible refine Ext.alloc ?_ _ | with_reducible refine Ext.setCell ?_ (by first | omega | (simp; done) | (simp; omega)) _)) hx2))
  have X2 : Hid (Ext w w2) := Lib.hid (Ext.trans (by repeat (first | with_reducible exact X1.out | with_reducible refine Ext.drew ?_ | with_reducible refine Ext.drewN ?_ _ | with_reducible refine Ext.alloc ?_ _ | with_reducible refine Ext.setCell ?_ (by first | omega | (simp; done) | (simp; omega)) _)) hx2)
  clear X1 hx2 z2
  go_wp2_with fail
  (with_reducible refine (gGreat s BS.out _).mono ?_)
  rintro e w3 ⟨v1, rfl, gv1, hx3⟩
  have z3 := hx3.size
  try simp at z3
  replace HS := Lib.hid (HS.out.ext (Ext.trans (by repeat (first | with_reducible exact Ext.refl _ | with_reducible refine Ext.drew ?_ | with_reducible refine Ext.drewN ?_ _ | with_reducible refine Ext.alloc ?_ _ | with_reducible refine Ext.setCell ?_ (by first | omega | (simp; done) | (simp; omega)) _)) hx3))
  replace HM := Lib.hid (HM.out.ext (Ext.trans (by repeat (first | with_reducible exact Ext.refl _ | with_reducible refine Ext.drew ?_ | with_reducible refine Ext.drewN ?_ _ | with_reducible refine Ext.alloc ?_ _ | with_reducible refine Ext.setCell ?_ (by first | omega | (simp; done) | (simp; omega)) _)) hx3))
  have X3 : Hid (Ext w w3) := Lib.hid (Ext.trans (by repeat (first | with_reducible exact X2.out | with_reducible refine Ext.drew ?_ | with_reducible refine Ext.drewN ?_ _ | with_reducible refine Ext.alloc ?_ _ | with_reducible refine Ext.setCell ?_ (by first | omega | (simp; done) | (simp; omega)) _)) hx3)
  have HA := Lib.hid gv1
  clear X2 hx3 z3 gv1
  go_wp2_with fail
  (with_reducible refine (gGreat 2 b1_2 _).mono ?_)
  rintro e w4 ⟨v2, rfl, gv2, hx4⟩
  have z4 := hx4.size
  try simp at z4
  replace HS := Lib.hid (HS.out.ext (Ext.trans (by repeat (first | with_reducible exact Ext.refl _ | with_reducible refine Ext.drew ?_ | with_reducible refine Ext.drewN ?_ _ | with_reducible refine Ext.alloc ?_ _ | with_reducible refine Ext.setCell ?_ (by first | omega | (simp; done) | (simp; omega)) _)) hx4))
  replace HM := Lib.hid (HM.out.ext (Ext.trans (by repeat (first | with_reducible exact Ext.refl _ | with_reducible refine Ext.drew ?_ | with_reducible refine Ext.drewN ?_ _ | with_reducible refine Ext.alloc ?_ _ | with_reducible refine Ext.setCell ?_ (by first | omega | (simp; done) | (simp; omega)) _)) hx4))
  replace HA := Lib.hid (HA.out.ext (Ext.trans (by repeat (first | with_reducible exact Ext.refl _ | with_reducible refine Ext.drew ?_ | with_reducible refine Ext.drewN ?_ _ | with_reducible refine Ext.alloc ?_ _ | with_reducible refine Ext.setCell ?_ (by first | omega | (simp; done) | (simp; omega)) _)) hx4))
  have X4 : Hid (Ext w w4) := Lib.hid (Ext.trans (by repeat (first | with_reducible exact X3.out | with_reducible refine Ext.drew ?_ | with_reducible refine Ext.drewN ?_ _ | with_reducible refine Ext.alloc ?_ _ | with_reducible refine Ext.setCell ?_ (by first | omega | (simp; done) | (simp; omega)) _)) hx4)
  have HB := Lib.hid gv2
  clear X3 hx4 z4 gv2
  go_wp2_with fail
  (with_reducible refine (gTimes v1 v2 s 2 (B1.small BS.out) (by decide) _ (HA.out.ext (by repeat (first | with_reducible exact Ext.refl _ | with_reducible refine Ext.drew ?_ | with_reducible refine Ext.drewN ?_ _ | with_reducible refine Ext.alloc ?_ _ | with_reducible refine Ext.setCell ?_ (by first | omega | (simp; done) | (simp; omega)) _))) (HB.out.ext (by repeat (first | with_reducible exact Ext.refl _ | with_reducible refine Ext.drew ?_ | with_reducible refine Ext.drewN ?_ _ | with_reducible refine Ext.alloc ?_ _ | with_reducible refine Ext.setCell ?_ (by first | omega | (simp; done) | (simp; omega)) _)))).mono ?_)
  rintro e w5 ⟨v3, rfl, g3, hx5⟩
  have z5 := hx5.size
  try simp at z5
  replace HS := Lib.hid (HS.out.ext (Ext.trans (by repeat (first | with_reducible exact Ext.refl _ | with_reducible refine Ext.drew ?_ | with_reducible refine Ext.drewN ?_ _ | with_reducible refine Ext.alloc ?_ _ | with_reducible refine Ext.setCell ?_ (by first | omega | (simp; done) | (simp; omega)) _)) hx5))
  replace HM := Lib.hid (HM.out.ext (Ext.trans (by repeat (first | with_reducible exact Ext.refl _ | with_reducible refine Ext.drew ?_ | with_reducible refine Ext.drewN ?_ _ | with_reducible refine Ext.alloc ?_ _ | with_reducible refine Ext.setCell ?_ (by first | omega | (simp; done) | (simp; omega)) _)) hx5))
  have X5 : Hid (Ext w w5) := Lib.hid (Ext.trans (by repeat (first | with_reducible exact X4.out | with_reducible refine Ext.drew ?_ | with_reducible refine Ext.drewN ?_ _ | with_reducible refine Ext.alloc ?_ _ | with_reducible refine Ext.setCell ?_ (by first | omega | (simp; done) | (simp; omega)) _)) hx5)
  have HT := Lib.hid g3
  clear HA HB X4 hx5 z5 g3
  go_wp2_with fail
  (with_reducible refine (thrice17_any q BQ.out _).mono ?_)
  rintro e w6 ⟨v4, rfl, g4, hx6⟩
  have z6 := hx6.size
  try simp at z6
  replace HS := Lib.hid (HS.out.ext (Ext.trans (by repeat (first | with_reducible exact Ext.refl _ | with_reducible refine Ext.drew ?_ | with_reducible refine Ext.drewN ?_ _ | with_reducible refine Ext.alloc ?_ _ | with_reducible refine Ext.setCell ?_ (by first | omega | (simp; done) | (simp; omega)) _)) hx6))
  replace HM := Lib.hid (HM.out.ext (Ext.trans (by repeat (first | with_reducible exact Ext.refl _ | with_reducible refine Ext.drew ?_ | with_reducible refine Ext.drewN ?_ _ | with_reducible refine Ext.alloc ?_ _ | with_reducible refine Ext.setCell ?_ (by first | omega | (simp; done) | (simp; omega)) _)) hx6))
  replace HT := Lib.hid (HT.out.ext (Ext.trans (by repeat (first | with_reducible exact Ext.refl _ | with_reducible refine Ext.drew ?_ | with_reducible refine Ext.drewN ?_ _ | with_reducible refine Ext.alloc ?_ _ | with_reducible refine Ext.setCell ?_ (by first | omega | (simp; done) | (simp; omega)) _)) hx6))
  have X6 : Hid (Ext w w6) := Lib.hid (Ext.trans (by repeat (first | with_reducible exact X5.out | with_reducible refine Ext.drew ?_ | with_reducible refine Ext.drewN ?_ _ | with_reducible refine Ext.alloc ?_ _ | with_reducible refine Ext.setCell ?_ (by first | omega | (simp; done) | (simp; omega)) _)) hx6)
  have HD := Lib.hid g4
  clear X5 hx6 z6 g4
  go_wp2_with fail
  (with_reducible refine (gLess v3 v4 (s * 2) (q * 3) true L1.out _ (HT.out.ext (by repeat (first | with_reducible exact Ext.refl _ | with_reducible refine Ext.drew ?_ | with_reducible refine Ext.drewN ?_ _ | with_reducible refine Ext.alloc ?_ _ | with_reducible refine Ext.setCell ?_ (by first | omega | (simp; done) | (simp; omega)) _))) (HD.out.ext (by repeat (first | with_reducible exact Ext.refl _ | with_reducible refine Ext.drew ?_ | with_reducible refine Ext.drewN ?_ _ | with_reducible refine Ext.alloc ?_ _ | with_reducible refine Ext.setCell ?_ (by first | omega | (simp; done) | (simp; omega)) _)))).mono ?_)
  rintro e w7 ⟨rfl, hx7⟩
  have z7 := hx7.size
  try simp at z7
  replace HS := Lib.hid (HS.out.ext (Ext.trans (by repeat (first | with_reducible exact Ext.refl _ | with_reducible refine Ext.drew ?_ | with_reducible refine Ext.drewN ?_ _ | with_reducible refine Ext.alloc ?_ _ | with_reducible refine Ext.setCell ?_ (by first | omega | (simp; done) | (simp; omega)) _)) hx7))
  replace HM := Lib.hid (HM.out.ext (Ext.trans (by repeat (first | with_reducible exact Ext.refl _ | with_reducible refine Ext.drew ?_ | with_reducible refine Ext.drewN ?_ _ | with_reducible refine Ext.alloc ?_ _ | with_reducible refine Ext.setCell ?_ (by first | omega | (simp; done) | (simp; omega)) _)) hx7))
  replace HT := Lib.hid (HT.out.ext (Ext.trans (by repeat (first | with_reducible exact Ext.refl _ | with_reducible refine Ext.drew ?_ | with_reducible refine Ext.drewN ?_ _ | with_reducible refine Ext.alloc ?_ _ | with_reducible refine Ext.setCell ?_ (by first | omega | (simp; done) | (simp; omega)) _)) hx7))
  have X7 : Hid (Ext w w7) := Lib.hid (Ext.trans (by repeat (first | with_reducible exact X6.out | with_reducible refine Ext.drew ?_ | with_reducible refine Ext.drewN ?_ _ | with_reducible refine Ext.alloc ?_ _ | with_reducible refine Ext.setCell ?_ (by first | omega | (simp; done) | (simp; omega)) _)) hx7)
  clear HD X6 hx7 z7
  go_wp2_with fail
  (with_reducible refine (thrice17_any (q - 1) BQ1.out _).mono ?_)
  rintro e w8 ⟨v5, rfl, g5, hx8⟩
  have z8 := hx8.size
  try simp at z8
  replace HS := Lib.hid (HS.out.ext (Ext.trans (by repeat (first | with_reducible exact Ext.refl _ | with_reducible refine Ext.drew ?_ | with_reducible refine Ext.drewN ?_ _ | with_reducible refine Ext.alloc ?_ _ | with_reducible refine Ext.setCell ?_ (by first | omega | (simp; done) | (simp; omega)) _)) hx8))
  replace HM := Lib.hid (HM.out.ext (Ext.trans (by repeat (first | with_reducible exact Ext.refl _ | with_reducible refine Ext.drew ?_ | with_reducible refine Ext.drewN ?_ _ | with_reducible refine Ext.alloc ?_ _ | with_reducible refine Ext.setCell ?_ (by first | omega | (simp; done) | (simp; omega)) _)) hx8))
  replace HT := Lib.hid (HT.out.ext (Ext.trans (by repeat (first | with_reducible exact Ext.refl _ | with_reducible refine Ext.drew ?_ | with_reducible refine Ext.drewN ?_ _ | with_reducible refine Ext.alloc ?_ _ | with_reducible refine Ext.setCell ?_ (by first | omega | (simp; done) | (simp; omega)) _)) hx8))
  have X8 : Hid (Ext w w8) := Lib.hid (Ext.trans (by repeat (first | with_reducible exact X7.out | with_reducible refine Ext.drew ?_ | with_reducible refine Ext.drewN ?_ _ | with_reducible refine Ext.alloc ?_ _ | with_reducible refine Ext.setCell ?_ (by first | omega | (simp; done) | (simp; omega)) _)) hx8)
  have HE := Lib.hid g5
  clear X7 hx8 z8 g5
  go_wp2_with fail
  (with_reducible refine (gLess v3 v5 (s * 2) ((q - 1) * 3) false L2.out _ (HT.out.ext (by repeat (first | with_reducible exact Ext.refl _ | with_reducible refine Ext.drew ?_ | with_reducible refine Ext.drewN ?_ _ | with_reducible refine Ext.alloc ?_ _ | with_reducible refine Ext.setCell ?_ (by first | omega | (simp; done) | (simp; omega)) _))) (HE.out.ext (by repeat (first | with_reducible exact Ext.refl _ | with_reducible refine Ext.drew ?_ | with_reducible refine Ext.drewN ?_ _ | with_reducible refine Ext.alloc ?_ _ | with_reducible refine Ext.setCell ?_ (by first | omega | (simp; done) | (simp; omega)) _)))).mono ?_)
  rintro e w9 ⟨rfl, hx9⟩
  have z9 := hx9.size
  try simp at z9
  replace HS := Lib.hid (HS.out.ext (Ext.trans (by repeat (first | with_reducible exact Ext.refl _ | with_reducible refine Ext.drew ?_ | with_reducible refine Ext.drewN ?_ _ | with_reducible refine Ext.alloc ?_ _ | with_reducible refine Ext.setCell ?_ (by first | omega | (simp; done) | (simp; omega)) _)) hx9))
  replace HM := Lib.hid (HM.out.ext (Ext.trans (by repeat (first | with_reducible exact Ext.refl _ | with_reducible refine Ext.drew ?_ | with_reducible refine Ext.drewN ?_ _ | with_reducible refine Ext.alloc ?_ _ | with_reducible refine Ext.setCell ?_ (by first | omega | (simp; done) | (simp; omega)) _)) hx9))
  have X9 : Hid (Ext w w9) := Lib.hid (Ext.trans (by repeat (first | with_reducible exact X8.out | with_reducible refine Ext.drew ?_ | with_reducible refine Ext.drewN ?_ _ | with_reducible refine Ext.alloc ?_ _ | with_reducible refine Ext.setCell ?_ (by first | omega | (simp; done) | (simp; omega)) _)) hx9)
  clear HT HE X8 hx9 z9
  go_wp2_with fail
  (with_reducible refine (gGreat s BS.out _).mono ?_)
  rintro e w10 ⟨v6, rfl, gv6, hx10⟩
  have z10 := hx10.size
  try simp at z10
  replace HS := Lib.hid (HS.out.ext (Ext.trans (by repeat (first | with_reducible exact Ext.refl _ | with_reducible refine Ext.drew ?_ | with_reducible refine Ext.drewN ?_ _ | with_reducible refine Ext.alloc ?_ _ | with_reducible refine Ext.setCell ?_ (by first | omega | (simp; done) | (simp; omega)) _)) hx10))
  replace HM := Lib.hid (HM.out.ext (Ext.trans (by repeat (first | with_reducible exact Ext.refl _ | with_reducible refine Ext.drew ?_ | with_reducible refine Ext.drewN ?_ _ | with_reducible refine Ext.alloc ?_ _ | with_reducible refine Ext.setCell ?_ (by first | omega | (simp; done) | (simp; omega)) _)) hx10))
  have X10 : Hid (Ext w w10) := Lib.hid (Ext.trans (by repeat (first | with_reducible exact X9.out | with_reducible refine Ext.drew ?_ | with_reducible refine Ext.drewN ?_ _ | with_reducible refine Ext.alloc ?_ _ | with_reducible refine Ext.setCell ?_ (by first | omega | (simp; done) | (simp; omega)) _)) hx10)
  have HF := Lib.hid gv6
  clear X9 hx10 z10 gv6
  go_wp2_with fail
  (with_reducible refine (gGreat q BQ.out _).mono ?_)
  rintro e w11 ⟨v7, rfl, gv7, hx11⟩
  have z11 := hx11.size
  try simp at z11
  replace HS := Lib.hid (HS.out.ext (Ext.trans (by repeat (first | with_reducible exact Ext.refl _ | with_reducible refine Ext.drew ?_ | with_reducible refine Ext.drewN ?_ _ | with_reducible refine Ext.alloc ?_ _ | with_reducible refine Ext.setCell ?_ (by first | omega | (simp; done) | (simp; omega)) _)) hx11))
  replace HM := Lib.hid (HM.out.ext (Ext.trans (by repeat (first | with_reducible exact Ext.refl _ | with_reducible refine Ext.drew ?_ | with_reducible refine Ext.drewN ?_ _ | with_reducible refine Ext.alloc ?_ _ | with_reducible refine Ext.setCell ?_ (by first | omega | (simp; done) | (simp; omega)) _)) hx11))
  replace HF := Lib.hid (HF.out.ext (Ext.trans (by repeat (first | with_reducible exact Ext.refl _ | with_reducible refine Ext.drew ?_ | with_reducible refine Ext.drewN ?_ _ | with_reducible refine Ext.alloc ?_ _ | with_reducible refine Ext.setCell ?_ (by first | omega | (simp; done) | (simp; omega)) _)) hx11))
  have X11 : Hid (Ext w w11) := Lib.hid (Ext.trans (by repeat (first | with_reducible exact X10.out | with_reducible refine Ext.drew ?_ | with_reducible refine Ext.drewN ?_ _ | with_reducible refine Ext.alloc ?_ _ | with_reducible refine Ext.setCell ?_ (by first | omega | (simp; done) | (simp; omega)) _)) hx11)
  have HG := Lib.hid gv7
  clear X10 hx11 z11 gv7
  go_wp2_with fail
  (with_reducible refine (gGreat q BQ.out _).mono ?_)
  rintro e w12 ⟨v8, rfl, gv8, hx12⟩
  have z12 := hx12.size
  try simp at z12
  replace HS := Lib.hid (HS.out.ext (Ext.trans (by repeat (first | with_reducible exact Ext.refl _ | with_reducible refine Ext.drew ?_ | with_reducible refine Ext.drewN ?_ _ | with_reducible refine Ext.alloc ?_ _ | with_reducible refine Ext.setCell ?_ (by first | omega | (simp; done) | (simp; omega)) _)) hx12))
  replace HM := Lib.hid (HM.out.ext (Ext.trans (by repeat (first | with_reducible exact Ext.refl _ | with_reducible refine Ext.drew ?_ | with_reducible refine Ext.drewN ?_ _ | with_reducible refine Ext.alloc ?_ _ | with_reducible refine Ext.setCell ?_ (by first | omega | (simp; done) | (simp; omega)) _)) hx12))
  replace HF := Lib.hid (HF.out.ext (Ext.trans (by repeat (first | with_reducible exact Ext.refl _ | with_reducible refine Ext.drew ?_ | with_reducible refine Ext.drewN ?_ _ | with_reducible refine Ext.alloc ?_ _ | with_reducible refine Ext.setCell ?_ (by first | omega | (simp; done) | (simp; omega)) _)) hx12))
  replace HG := Lib.hid (HG.out.ext (Ext.trans (by repeat (first | with_reducible exact Ext.refl _ | with_reducible refine Ext.drew ?_ | with_reducible refine Ext.drewN ?_ _ | with_reducible refine Ext.alloc ?_ _ | with_reducible refine Ext.setCell ?_ (by first | omega | (simp; done) | (simp; omega)) _)) hx12))
  have X12 : Hid (Ext w w12) := Lib.hid (Ext.trans (by repeat (first | with_reducible exact X11.out | with_reducible refine Ext.drew ?_ | with_reducible refine Ext.drewN ?_ _ | with_reducible refine Ext.alloc ?_ _ | with_reducible refine Ext.setCell ?_ (by first | omega | (simp; done) | (simp; omega)) _)) hx12)
  have HH := Lib.hid gv8
  clear X11 hx12 z12 gv8
  go_wp2_with fail
  (with_reducible refine (gSum v7 v8 q q (B1.small BQ.out) (B1.small BQ.out) _ (HG.out.ext (by repeat (first | with_reducible exact Ext.refl _ | with_reducible refine Ext.drew ?_ | with_reducible refine Ext.drewN ?_ _ | with_reducible refine Ext.alloc ?_ _ | with_reducible refine Ext.setCell ?_ (by first | omega | (simp; done) | (simp; omega)) _))) (HH.out.ext (by repeat (first | with_reducible exact Ext.refl _ | with_reducible refine Ext.drew ?_ | with_reducible refine Ext.drewN ?_ _ | with_reducible refine Ext.alloc ?_ _ | with_reducible refine Ext.setCell ?_ (by first | omega | (simp; done) | (simp; omega)) _)))).mono ?_)
  rintro e w13 ⟨v9, rfl, g9, hx13⟩
  have z13 := hx13.size
  try simp at z13
  replace HS := Lib.hid (HS.out.ext (Ext.trans (by repeat (first | with_reducible exact Ext.refl _ | with_reducible refine Ext.drew ?_ | with_reducible refine Ext.drewN ?_ _ | with_reducible refine Ext.alloc ?_ _ | with_reducible refine Ext.setCell ?_ (by first | omega | (simp; done) | (simp; omega)) _)) hx13))
  replace HM := Lib.hid (HM.out.ext (Ext.trans (by repeat (first | with_reducible exact Ext.refl _ | with_reducible refine Ext.drew ?_ | with_reducible refine Ext.drewN ?_ _ | with_reducible refine Ext.alloc ?_ _ | with_reducible refine Ext.setCell ?_ (by first | omega | (simp; done) | (simp; omega)) _)) hx13))
  replace HF := Lib.hid (HF.out.ext (Ext.trans (by repeat (first | with_reducible exact Ext.refl _ | with_reducible refine Ext.drew ?_ | with_reducible refine Ext.drewN ?_ _ | with_reducible refine Ext.alloc ?_ _ | with_reducible refine Ext.setCell ?_ (by first | omega | (simp; done) | (simp; omega)) _)) hx13))
  have X13 : Hid (Ext w w13) := Lib.hid (Ext.trans (by repeat (first | with_reducible exact X12.out | with_reducible refine Ext.drew ?_ | with_reducible refine Ext.drewN ?_ _ | with_reducible refine Ext.alloc ?_ _ | with_reducible refine Ext.setCell ?_ (by first | omega | (simp; done) | (simp; omega)) _)) hx13)
  have HI := Lib.hid g9
  clear HG HH X12 hx13 z13 g9
  go_wp2_with fail
  (with_reducible refine (gLess v6 v9 s (q + q) true L3.out _ (HF.out.ext (by repeat (first | with_reducible exact Ext.refl _ | with_reducible refine Ext.drew ?_ | with_reducible refine Ext.drewN ?_ _ | with_reducible refine Ext.alloc ?_ _ | with_reducible refine Ext.setCell ?_ (by first | omega | (simp; done) | (simp; omega)) _))) (HI.out.ext (by repeat (first | with_reducible exact Ext.refl _ | with_reducible refine Ext.drew ?_ | with_reducible refine Ext.drewN ?_ _ | with_reducible refine Ext.alloc ?_ _ | with_reducible refine Ext.setCell ?_ (by first | omega | (simp; done) | (simp; omega)) _)))).mono ?_)
  rintro e w14 ⟨rfl, hx14⟩
  have z14 := hx14.size
  try simp at z14
  replace HS := Lib.hid (HS.out.ext (Ext.trans (by repeat (first | with_reducible exact Ext.refl _ | with_reducible refine Ext.drew ?_ | with_reducible refine Ext.drewN ?_ _ | with_reducible refine Ext.alloc ?_ _ | with_reducible refine Ext.setCell ?_ (by first | omega | (simp; done) | (simp; omega)) _)) hx14))
  replace HM := Lib.hid (HM.out.ext (Ext.trans (by repeat (first | with_reducible exact Ext.refl _ | with_reducible refine Ext.drew ?_ | with_reducible refine Ext.drewN ?_ _ | with_reducible refine Ext.alloc ?_ _ | with_reducible refine Ext.setCell ?_ (by first | omega | (simp; done) | (simp; omega)) _)) hx14))
  have X14 : Hid (Ext w w14) := Lib.hid (Ext.trans (by repeat (first | with_reducible exact X13.out | with_reducible refine Ext.drew ?_ | with_reducible refine Ext.drewN ?_ _ | with_reducible refine Ext.alloc ?_ _ | with_reducible refine Ext.setCell ?_ (by first | omega | (simp; done) | (simp; omega)) _)) hx14)
  clear HF HI X13 hx14 z14
  have hwx := Ext.size X14.out
  clear L1 L2 L3 BS BQ BQ1 P1 P2 HQ HSW qne q0 q1 s0 s1
  go_wp2
  go_loopg [10, 11] n (fun gh r i wx => gh ≤ n ∧ i = .int .i64 ((n - gh : Nat) : Int) ∧ Hid (OwnWord wx w.heap.size r (n - gh) ((ts.map (· % 1125899906842624)).take (n - gh))) ∧ Hid (SlB w.heap.size wx 1 A n c (iv .u64 ts)) ∧ Hid (SlB w.heap.size wx 1 B m d (bv ms)) ∧ Hid (Ext w wx))
  case atStart => exact ⟨Nat.le_refl _, by simp, Lib.hid (by rw [Nat.sub_self]; exact OwnWord.nil _ _), HS, HM, X14⟩
  case round =>
    clear HS HM X14 hwx
    obtain ⟨hg, hi, ho, HS, HM, hx⟩ := hrel
    obtain ⟨k, hk⟩ : ∃ k, k = n - gk := ⟨_, rfl⟩
    rw [← hk] at hi ho
    subst hi
    obtain ⟨L, hL⟩ : ∃ L, L = (ts.map (· % 1125899906842624)).take k := ⟨_, rfl⟩
    rw [← hL] at ho
    obtain ⟨A7, c7, rfl, _, _⟩ := own_parts2 ho.out
    by_cases hz : gk = 0
    · have hkn : ¬ (k : Int) < (n : Int) := by omega
      obtain ⟨S, hS⟩ : ∃ S, S = ts.map (· % 1125899906842624) := ⟨_, rfl⟩
      have hSL : L = S := by rw [hL, ← hS, List.take_of_length_le (by rw [hS, List.length_map]; have := htl.out; omega)]
      have hSw : ∀ x ∈ S, 0 ≤ x ∧ x < 1125899906842624 := by
        intro x hx
        rw [hS] at hx
        obtain ⟨y, _, rfl⟩ := List.mem_map.1 hx
        exact ⟨Int.emod_nonneg _ (by decide), Int.emod_lt_of_pos _ (by decide)⟩
      have HO := Lib.hid (show Sl wr 1 A7 k c7 (iv .u64 S) from by have h := OwnWord.sl ho.out; rw [hSL] at h; exact h)
      have HSw := Lib.hid hSw
      clear hk hg hz ho hL hSL hS hSw
      go_wp2
      go_loopg [12, 13] m (fun gh r i wx => gh ≤ m ∧ i = .int .i64 ((m - gh : Nat) : Int) ∧ (∃ z : Nat, r = .int .u64 (z : Int) ∧ z ≤ 30 ∧ Hid (z = mT ms (m - gh))) ∧ Hid (Sl wx 1 A7 k c7 (iv .u64 S)) ∧ Hid (SlB w.heap.size wx 1 B m d (bv ms)) ∧ Hid (Ext w wx))
      case atStart => exact ⟨Nat.le_refl _, by simp, ⟨0, rfl, by omega, Lib.hid (by rw [Nat.sub_self]; rfl)⟩, HO, HM, hx⟩
      case round =>
        clear HO HM hx HS
        obtain ⟨hg, hi, ⟨z, rfl, hz30, hze⟩, HO, HM, hx⟩ := hrel
        obtain ⟨j, hj⟩ : ∃ j, j = m - gk := ⟨_, rfl⟩
        rw [← hj] at hi hze
        subst hi
        by_cases hz : gk = 0
        · have hjn : ¬ (j : Int) < (m : Int) := by omega
          obtain ⟨v, hv⟩ : ∃ v, v = (flT S ms ms.length).1 := ⟨_, rfl⟩
          obtain ⟨f, hf⟩ : ∃ f, f = (flT S ms ms.length).2 := ⟨_, rfl⟩
          have hzm : z = mT ms ms.length := by rw [hze.out, hml.out, show j = m by omega]
          obtain ⟨f1, f2, f3⟩ := fl_facts (ts := S) ms (fun x hx => (HSw.out x hx).1) ms.length
          have f4 := fl_small ms HSw.out ms.length
          have f5 := sumT_small ms HSw.out ms.length
          rw [← hv] at f1 f3 f4
          rw [← hf, ← hzm] at f2
          rw [← hzm] at f3
          have hmm : (ms.length : Int) ≤ 30 := by have := hml.out; omega
          obtain ⟨u, hu⟩ : ∃ u, u = sumT S ms ms.length := ⟨_, rfl⟩
          rw [← hu] at f3 f5
          have hsum : sumW S ms = u := by unfold sumW; rw [← hu, if_pos (by omega)]
          have hfl : flT S ms ms.length = (v, f) := by rw [hv, hf]
          have hzv : (z : Int) * v ≤ 30 * 1125899906842624 := Int.mul_le_mul (by omega) (by omega) f1 (by decide)
          have hzv0 : 0 ≤ (z : Int) * v := Int.mul_nonneg (by omega) f1
          have hww : ∀ x ∈ S, Word x := fun x hx => ⟨(HSw.out x hx).1, by have := (HSw.out x hx).2; omega⟩
          have CF := Lib.hid (floor_ev A7 B k c7 m d S ms v f wr HO.out HM.out.sl (by omega) hww hfl)
          have CS := Lib.hid (fun w' (hx' : Ext wr w') => sum_ev A7 B k c7 m d S ms u w' (HO.out.ext hx') (HM.out.sl.ext hx') (by omega) hww hsum)
          obtain ⟨p, hp⟩ : ∃ p, p = (z : Int) * v := ⟨_, rfl⟩
          rw [← hp] at f3 hzv hzv0
          have hp' : (z : Int) * v = p := hp.symm
          have hpw : p < 18446744073709551616 := by omega
          have hf2 : (f == decide (0 < (z : Int))) = true := by rw [f2]; simp
          have hf2' : (f == decide (0 < z)) = true := by rw [f2]; simp
          clear hj hg hz hze hv hf hzm f2 f4 f5 hmm hu hsum hfl hww hp HO HM hzv
          go_wp2_with fail
          refine CF.out.mono ?_
          rintro e w2 ⟨rfl, hx2⟩
          have HX2 := Lib.hid (And.intro hx2 (hx.out.trans hx2))
          clear hx2 CF
          go_wp2_with fail
          refine (CS.out _ HX2.out.1).mono ?_
          rintro e w3 ⟨rfl, hx3⟩
          have HX3 := Lib.hid (HX2.out.2.trans hx3)
          clear hx3 CS
          go_wp2_with fail
          go_ret
          exact ⟨rfl, HX3.out⟩
        · have hjn : (j : Int) < (m : Int) := by omega
          obtain ⟨b, hb⟩ : ∃ b, b = isB ms j := ⟨_, rfl⟩
          obtain ⟨b1, o1, rfl, hb1, x_0⟩ := HM.out.sl.bcell (show j < m from by omega)
          rw [show ms.getD j false = b from hb.symm] at x_0
          have hst : mT ms (j + 1) = z + (if b then 1 else 0) := by rw [mT, ← hb, ← hze.out]
          have hle := mT_le ms (j + 1)
          have HT := Lib.hid hst
          have HK := Lib.hid (And.intro hj (And.intro hg (And.intro hz hle)))
          clear hj hg hz hb hst hle hze
          cases b
          · go_wp2
            go_roundg (gk - 1)
            case measure => have := HK.out; omega
            case rel => exact ⟨by have := HK.out; omega, num_eq (by have := HK.out; omega), ⟨z, rfl, by omega, Lib.hid (by rw [show m - (gk - 1) = j + 1 from by have := HK.out; omega, HT.out]; simp)⟩, HO, HM, hx⟩
          · have hz31 : z + 1 ≤ 30 := by have := HK.out; have := HT.out; simp at this; omega
            go_wp2
            go_roundg (gk - 1)
            case measure => have := HK.out; omega
            case rel => exact ⟨by have := HK.out; omega, num_eq (by have := HK.out; omega), ⟨z + 1, num_eq (by push_cast; rfl), hz31, Lib.hid (by rw [show m - (gk - 1) = j + 1 from by have := HK.out; omega, HT.out]; simp)⟩, HO, HM, hx⟩
    · have hkn : (k : Int) < (n : Int) := by omega
      obtain ⟨b1, o1, rfl, hb1, hc1⟩ := HS.out.sl.cell (show k < n from by omega)
      have x_0 := hc1 k (by omega)
      obtain ⟨v, hv⟩ : ∃ v, v = ts.getD k 0 := ⟨_, rfl⟩
      rw [← hv] at x_0
      have hvk : ts[k]? = some v := by rw [hv, List.getD_eq_getElem?_getD, List.getElem?_eq_getElem (by have := htl.out; omega)]; rfl
      obtain ⟨v0, v1⟩ := HW.out v (List.mem_of_getElem? hvk)
      obtain ⟨y, hy⟩ : ∃ y, y = v % 1125899906842624 := ⟨_, rfl⟩
      have ey : v % 1125899906842624 = y := hy.symm
      have eyt : v.tmod 1125899906842624 = y := by rw [Int.tmod_eq_emod_of_nonneg v0]; exact ey
      have hst : (ts.map (· % 1125899906842624)).take (k + 1) = L ++ [y] := by
        rw [List.take_add_one, ← hL, List.getElem?_map, hvk, hy]; rfl
      have HST := Lib.hid hst
      have HK := Lib.hid (And.intro hk (And.intro hg hz))
      have hwx := Ext.size hx.out
      have hLl : L.length ≤ 30 := by rw [hL, List.length_take]; omega
      have hks : k ≤ 30 := by omega
      clear hk hg hz hc1 hv hvk hy hst hL
      go_wp2_with (at_builtin; refine wpList_append_new _ rfl _ _ 22 rfl w.heap.size 36 i0 (.int .u64 0) 1 8 Try.underlying22 hi0 hz0 hz1 hz2 rfl (by decide) _ k (iv .u64 L) (by rfl) ho.out #[.int .u64 y] 1 (by first | rfl | simp [Act.eval, go_sem]) rfl (by intro u hu; simp at hu; subst hu; rfl) (by omega) (by decide) (by first | omega | (simp; omega)) ?_; intro v9 w9 hown9 hb9; have XX := Lib.hid (show Ext w w9 from Ext.below hx.out hb9); have E0 := Lib.hid hown9; have BB := Lib.hid hb9; clear hown9 hb9)
      have E := Lib.hid (show OwnWord w9 w.heap.size v9 (k + 1) ((ts.map (· % 1125899906842624)).take (k + 1)) from by rw [HST.out]; unfold OwnWord; simpa [iv] using E0.out)
      have HS2 := Lib.hid (show SlB w.heap.size w9 1 (some ⟨b1, o1, none⟩) n c (iv .u64 ts) from HS.out.bel2 BB.out)
      have HM2 := Lib.hid (show SlB w.heap.size w9 1 B m d (bv ms) from HM.out.bel2 BB.out)
      go_wp2
      go_roundg (gk - 1)
      case measure => have := HK.out; omega
      case rel => exact ⟨by have := HK.out; omega, num_eq (by have := HK.out; omega), by rw [show n - (gk - 1) = k + 1 from by have := HK.out; omega]; exact E, HS2, HM2, XX⟩
theorem ActiveQuorums_any (s : Int) (hsf : Fits .u64 s) (A : Option Addr) (n c : Nat) (ts : List Int) (B : Option Addr) (m d : Nat) (ms : List Bool) (w : World) (h : Sl w 1 A n c (iv .u64 ts)) (hw : ∀ x ∈ ts, Fits .u64 x) (k : Sl w 1 B m d (bv ms)) :
    Calls Try.prog 8 #[.int .u64 s, .slice A n c, .slice B m d] w fun r w' => r = .returned (.bool true) ∧ Ext w w' := by
  by_cases h1 : n ≤ 30
  · by_cases h2 : m ≤ 30
    · exact ActiveQuorums_main s _ A B n c m d ts ms w h k h1 h2 (fun x hx => (hw x hx).u64) hsf.u64 rfl
    · exact ActiveQuorums_b s A B n c m d w h1 h2 h.small k.small
  · exact ActiveQuorums_a s A B n c m d w h1 h.small k.small
end Go.Proofs.Ytplmgcbjfmdebaa
