/- law24: RewardBytes returns true, whatever comes in. Conditions: none but those of the arguments' types. -/
import Derived.Test.YtlgjdeggbcgbnaaRew9
import Derived.Test.YtlgjdeggbcgbnaaRewTellsW
import Derived.Test.YtlgjdeggbcgbnaaKitC
import Derived.Test.YtlgjdeggbcgbnaaBytesM
set_option linter.unusedVariables false
set_option linter.unusedSimpArgs false
namespace Go.Proofs.Ytlgjdeggbcgbnaa
open Go.RowKit Go.ChangeShapes Go.WideShapes Go.Deep

theorem byt_numB (l : List Int) : Byt (numB l) := byt_flat (fun x _ => byt_put x.toNat)
theorem byt_crB (l : List Int) : Byt (crB l) := by
  unfold crB
  split
  · exact byt_append (byt_put _) (byt_numB _)
  · exact byt_nil
theorem rewRead_e (A : Option Addr) (c : Nat) (L : List Nat) (RL : List Int) (e a : Int) (hB : Byt L) (hL : L.length < 1099511627776) (hnil : A = none → c = 0) (w : World) (hs : Sl w 1 A L.length c (by_ L)) (hF : (RL, e, a) = crRV L) :
    Calls Try.prog 29 #[.slice A L.length c] w fun r w' => ∃ A c, r = .returned (.tuple #[.slice A RL.length c, .agg #[.int .i64 e, .int .i64 a]]) ∧ (A = none → c = 0) ∧ OwnWord w' w.heap.size (.slice A RL.length c) RL.length RL ∧ Ext w w' := by
  have h := rewRead_any A c L hB hL hnil w hs
  rw [← hF] at h
  exact h
theorem rewBytes_e (A : Option Addr) (c : Nat) (l : List Int) (BL : List Nat) (e : Int) (w : World) (hs : Sl w 1 A l.length c (iv .u64 l)) (hw : ∀ x ∈ l, Word x) (hF : (BL, e) = (crB l, chkR l)) :
    Calls Try.prog 24 #[.slice A l.length c] w fun r w' => ∃ A c, r = .returned (.tuple #[.slice A BL.length c, .int .i64 e]) ∧ (A = none → c = 0) ∧ OwnN w' w.heap.size (.slice A BL.length c) BL.length BL ∧ Ext w w' := by
  obtain ⟨h1, h2⟩ := Prod.mk.inj hF
  rw [h1, h2]
  exact (rewBytes_any A c l w hs hw).mono fun r w' h => own_out h
theorem rRead24_e (A : Option Addr) (c : Nat) (L : List Nat) (RL : List Int) (e a : Int) (hB : Byt L) (hL : L.length < 1099511627776) (w : World) (hs : Sl w 1 A L.length c (by_ L)) (hF : (RL, e, a) = crRV L) :
    Calls Try.prog 30 #[.slice A L.length c] w fun r w' => ∃ A c, r = .returned (.tuple #[.slice A RL.length c, .agg #[.int .i64 e, .int .i64 a]]) ∧ (A = none → c = 0) ∧ OwnWord w' w.heap.size (.slice A RL.length c) RL.length RL ∧ Ext w w' := by
  have h := rRead24_any A c L hB hL w hs
  rw [← hF] at h
  exact h
theorem rBytes24_e (A : Option Addr) (c : Nat) (l : List Int) (BL : List Nat) (e : Int) (w : World) (hs : Sl w 1 A l.length c (iv .u64 l)) (hw : ∀ x ∈ l, Word x) (hF : (BL, e) = (crB l, chkR l)) :
    Calls Try.prog 25 #[.slice A l.length c] w fun r w' => ∃ A c, r = .returned (.tuple #[.slice A BL.length c, .int .i64 e]) ∧ (A = none → c = 0) ∧ OwnN w' w.heap.size (.slice A BL.length c) BL.length BL ∧ Ext w w' := by
  obtain ⟨h1, h2⟩ := Prod.mk.inj hF
  rw [h1, h2]
  exact (rBytes24_any A c l w hs hw).mono fun r w' h => own_out h
set_option maxRecDepth 100000 in
theorem RewardBytes_long (A A1 : Option Addr) (c n c1 n1 : Nat) (m : Int) (w : World) (hl : ¬ n ≤ 70 ∨ ¬ n1 ≤ 400) (hs : n ≤ 9223372036854775807) (hs1 : n1 ≤ 9223372036854775807) :
    Calls Try.prog 4 #[.slice A n c, .slice A1 n1 c1, .int .i64 m] w fun r w' => r = .returned (.bool true) ∧ Ext w w' := by
  go_enter Try.func4, Try.ntmps4
  by_cases h0 : (70 : Int) < (n : Int)
  · skip
    go_wp2_with fail
    (with_reducible refine (awake24_any _).mono ?_)
    rintro e w1 ⟨rfl, hx1⟩
    have z1 := hx1.size
    try simp at z1
    have X1 : Hid (Ext w w1) := Lib.hid (Ext.trans (by repeat (first | with_reducible exact Ext.refl w | with_reducible refine Ext.drew ?_ | with_reducible refine Ext.drewN ?_ _ | with_reducible refine Ext.alloc ?_ _ | with_reducible refine Ext.setCell ?_ (by first | omega | (simp; done) | (simp; omega)) _)) hx1)
    clear hx1 z1
    go_wp2_with fail
    go_ret
    exact ⟨rfl, (by repeat (first | with_reducible exact X1.out | with_reducible refine Ext.drew ?_ | with_reducible refine Ext.drewN ?_ _ | with_reducible refine Ext.alloc ?_ _ | with_reducible refine Ext.setCell ?_ (by first | omega | (simp; done) | (simp; omega)) _))⟩
  · have h1 : (400 : Int) < (n1 : Int) := by omega
    go_wp2_with fail
    (with_reducible refine (awake24_any _).mono ?_)
    rintro e w1 ⟨rfl, hx1⟩
    have z1 := hx1.size
    try simp at z1
    have X1 : Hid (Ext w w1) := Lib.hid (Ext.trans (by repeat (first | with_reducible exact Ext.refl w | with_reducible refine Ext.drew ?_ | with_reducible refine Ext.drewN ?_ _ | with_reducible refine Ext.alloc ?_ _ | with_reducible refine Ext.setCell ?_ (by first | omega | (simp; done) | (simp; omega)) _)) hx1)
    clear hx1 z1
    go_wp2_with fail
    go_ret
    exact ⟨rfl, (by repeat (first | with_reducible exact X1.out | with_reducible refine Ext.drew ?_ | with_reducible refine Ext.drewN ?_ _ | with_reducible refine Ext.alloc ?_ _ | with_reducible refine Ext.setCell ?_ (by first | omega | (simp; done) | (simp; omega)) _))⟩
set_option maxRecDepth 100000 in
set_option maxHeartbeats 4000000 in
theorem RewardBytes_main (A A0 : Option Addr) (c c0 : Nat) (l RL RN : List Int) (M BL : List Nat) (be re ra en m : Int) (w : World) (hs : Sl w 1 A l.length c (iv .u64 l)) (hb : Sl w 1 A0 M.length c0 (by_ M)) (hM : Byt M) (hw : ∀ x ∈ l, Word x) (hl : l.length ≤ 70) (hl0 : M.length ≤ 400) (h1 : (BL, be) = (crB l, chkR l)) (h2 : (RL, re, ra) = crRV M) (h3 : newV m = (RN, en)) (hBL : Byt BL) :
    Calls Try.prog 4 #[.slice A l.length c, .slice A0 M.length c0, .int .i64 m] w fun r w' => r = .returned (.bool true) ∧ Ext w w' := by
  have hMd : ¬ (70 : Int) < (l.length : Int) := by omega
  have hMe : ¬ (400 : Int) < (M.length : Int) := by omega
  have s1 := hs.small
  have s2 := hb.small
  have HS := Lib.hid hs.low
  have HB := Lib.hid hb.low
  have HW := Lib.hid hw
  have F1 := Lib.hid h1
  have F2 := Lib.hid h2
  have F3 := Lib.hid h3
  have HM := Lib.hid (And.intro hM hBL)
  have qe := flt_eql
  have qg := flt_eqg
  clear hs hw hb h1 h2 h3 hM hBL
  go_enter Try.func4, Try.ntmps4
  go_wp2_with fail
  replace HS := Lib.hid HS.out.raise
  replace HB := Lib.hid HB.out.raise
  (with_reducible refine (rewBytes_e A c l BL be _ (HS.out.ext (by repeat (first | with_reducible exact Ext.refl _ | with_reducible refine Ext.drew ?_ | with_reducible refine Ext.drewN ?_ _ | with_reducible refine Ext.alloc ?_ _ | with_reducible refine Ext.setCell ?_ (by first | omega | (simp; done) | (simp; omega)) _))).sl HW.out F1.out).mono ?_)
  rintro e w1 ⟨A1, c1, rfl, _, hO, hx1⟩
  have z1 := hx1.size
  try simp at z1
  replace HS := Lib.hid (HS.out.ext (Ext.trans (by repeat (first | with_reducible exact Ext.refl _ | with_reducible refine Ext.drew ?_ | with_reducible refine Ext.drewN ?_ _ | with_reducible refine Ext.alloc ?_ _ | with_reducible refine Ext.setCell ?_ (by first | omega | (simp; done) | (simp; omega)) _)) hx1))
  replace HB := Lib.hid (HB.out.ext (Ext.trans (by repeat (first | with_reducible exact Ext.refl _ | with_reducible refine Ext.drew ?_ | with_reducible refine Ext.drewN ?_ _ | with_reducible refine Ext.alloc ?_ _ | with_reducible refine Ext.setCell ?_ (by first | omega | (simp; done) | (simp; omega)) _)) hx1))
  have X1 : Hid (Ext w w1) := Lib.hid (Ext.trans (by repeat (first | with_reducible exact Ext.refl w | with_reducible refine Ext.drew ?_ | with_reducible refine Ext.drewN ?_ _ | with_reducible refine Ext.alloc ?_ _ | with_reducible refine Ext.setCell ?_ (by first | omega | (simp; done) | (simp; omega)) _)) hx1)
  have HA := Lib.hid hO
  clear hx1 z1 hO
  have HAi : Hid (∀ k o s, A1 = some ⟨k, o, s⟩ → w.heap.size ≤ k) := Lib.hid (fun k o s e => by have h := HA.out.in_ k o s e; (try simp at h); omega)
  go_wp2_with fail
  (with_reducible refine (rBytes24_e A c l BL be _ (HS.out.ext (by repeat (first | with_reducible exact Ext.refl _ | with_reducible refine Ext.drew ?_ | with_reducible refine Ext.drewN ?_ _ | with_reducible refine Ext.alloc ?_ _ | with_reducible refine Ext.setCell ?_ (by first | omega | (simp; done) | (simp; omega)) _))).sl HW.out F1.out).mono ?_)
  rintro e w2 ⟨A2, c2, rfl, _, hO, hx2⟩
  have z2 := hx2.size
  try simp at z2
  replace HS := Lib.hid (HS.out.ext (Ext.trans (by repeat (first | with_reducible exact Ext.refl _ | with_reducible refine Ext.drew ?_ | with_reducible refine Ext.drewN ?_ _ | with_reducible refine Ext.alloc ?_ _ | with_reducible refine Ext.setCell ?_ (by first | omega | (simp; done) | (simp; omega)) _)) hx2))
  replace HB := Lib.hid (HB.out.ext (Ext.trans (by repeat (first | with_reducible exact Ext.refl _ | with_reducible refine Ext.drew ?_ | with_reducible refine Ext.drewN ?_ _ | with_reducible refine Ext.alloc ?_ _ | with_reducible refine Ext.setCell ?_ (by first | omega | (simp; done) | (simp; omega)) _)) hx2))
  replace HA := Lib.hid (HA.out.ext (Ext.trans (by repeat (first | with_reducible exact Ext.refl _ | with_reducible refine Ext.drew ?_ | with_reducible refine Ext.drewN ?_ _ | with_reducible refine Ext.alloc ?_ _ | with_reducible refine Ext.setCell ?_ (by first | omega | (simp; done) | (simp; omega)) _)) hx2))
  have X2 : Hid (Ext w w2) := Lib.hid (Ext.trans (by repeat (first | with_reducible exact X1.out | with_reducible refine Ext.drew ?_ | with_reducible refine Ext.drewN ?_ _ | with_reducible refine Ext.alloc ?_ _ | with_reducible refine Ext.setCell ?_ (by first | omega | (simp; done) | (simp; omega)) _)) hx2)
  have HD := Lib.hid hO
  clear X1 hx2 z2 hO
  go_wp2_with fail
  (with_reducible refine (kSameBytes_eq A1 A2 _ c1 _ c2 BL HM.out.2 _ (HA.out.ext (by repeat (first | with_reducible exact Ext.refl _ | with_reducible refine Ext.drew ?_ | with_reducible refine Ext.drewN ?_ _ | with_reducible refine Ext.alloc ?_ _ | with_reducible refine Ext.setCell ?_ (by first | omega | (simp; done) | (simp; omega)) _))).sl (HD.out.ext (by repeat (first | with_reducible exact Ext.refl _ | with_reducible refine Ext.drew ?_ | with_reducible refine Ext.drewN ?_ _ | with_reducible refine Ext.alloc ?_ _ | with_reducible refine Ext.setCell ?_ (by first | omega | (simp; done) | (simp; omega)) _))).sl).mono ?_)
  rintro e w_1 ⟨rfl, rfl⟩
  go_wp2_with fail
  (with_reducible refine (kOverBytes_own A1 c1 BL HM.out.2 _ _ (HA.out.ext (by repeat (first | with_reducible exact Ext.refl _ | with_reducible refine Ext.drew ?_ | with_reducible refine Ext.drewN ?_ _ | with_reducible refine Ext.alloc ?_ _ | with_reducible refine Ext.setCell ?_ (by first | omega | (simp; done) | (simp; omega)) _)))).mono ?_)
  rintro e w3 ⟨⟨vv, rfl⟩, hx3⟩
  have hsz3 := hx3.size
  try simp at hsz3
  have z3 := hx3.size
  try simp at z3
  have X3 : Hid (Ext w w3) := Lib.hid (have hX := (show Ext w _ from (by repeat (first | with_reducible exact X2.out | with_reducible refine Ext.drew ?_ | with_reducible refine Ext.drewN ?_ _ | with_reducible refine Ext.alloc ?_ _ | with_reducible refine Ext.setCell ?_ (by first | omega | (simp; done) | (simp; omega)) _))); Below.trans hX (hx3.below (Ext.size hX) (fun k hk hh => by obtain ⟨o, s, e⟩ := hh; have := HAi.out k o s e; omega)))
  replace HS := Lib.hid ((HS.out.ext (by repeat (first | with_reducible exact Ext.refl _ | with_reducible refine Ext.drew ?_ | with_reducible refine Ext.drewN ?_ _ | with_reducible refine Ext.alloc ?_ _ | with_reducible refine Ext.setCell ?_ (by first | omega | (simp; done) | (simp; omega)) _))).but hx3 (fun k hk => by obtain ⟨o, s, e⟩ := hk; have := HAi.out k o s e; omega))
  replace HB := Lib.hid ((HB.out.ext (by repeat (first | with_reducible exact Ext.refl _ | with_reducible refine Ext.drew ?_ | with_reducible refine Ext.drewN ?_ _ | with_reducible refine Ext.alloc ?_ _ | with_reducible refine Ext.setCell ?_ (by first | omega | (simp; done) | (simp; omega)) _))).but hx3 (fun k hk => by obtain ⟨o, s, e⟩ := hk; have := HAi.out k o s e; omega))
  clear HA HD hsz3 X2 hx3 z3
  clear HAi
  go_wp2_with fail
  (with_reducible refine (kLentBytes_any A0 c0 M _ (HB.out.ext (by repeat (first | with_reducible exact Ext.refl _ | with_reducible refine Ext.drew ?_ | with_reducible refine Ext.drewN ?_ _ | with_reducible refine Ext.alloc ?_ _ | with_reducible refine Ext.setCell ?_ (by first | omega | (simp; done) | (simp; omega)) _))).sl (by omega)).mono ?_)
  rintro e w4 ⟨p, rfl, hk, hx4⟩
  have z4 := hx4.size
  try simp at z4
  replace HS := Lib.hid (HS.out.ext (Ext.trans (by repeat (first | with_reducible exact Ext.refl _ | with_reducible refine Ext.drew ?_ | with_reducible refine Ext.drewN ?_ _ | with_reducible refine Ext.alloc ?_ _ | with_reducible refine Ext.setCell ?_ (by first | omega | (simp; done) | (simp; omega)) _)) hx4))
  replace HB := Lib.hid (HB.out.ext (Ext.trans (by repeat (first | with_reducible exact Ext.refl _ | with_reducible refine Ext.drew ?_ | with_reducible refine Ext.drewN ?_ _ | with_reducible refine Ext.alloc ?_ _ | with_reducible refine Ext.setCell ?_ (by first | omega | (simp; done) | (simp; omega)) _)) hx4))
  have X4 : Hid (Ext w w4) := Lib.hid (Ext.trans (by repeat (first | with_reducible exact X3.out | with_reducible refine Ext.drew ?_ | with_reducible refine Ext.drewN ?_ _ | with_reducible refine Ext.alloc ?_ _ | with_reducible refine Ext.setCell ?_ (by first | omega | (simp; done) | (simp; omega)) _)) hx4)
  have HK := Lib.hid (OwnR.mk (show OwnN _ _ _ _ _ from hk))
  clear X3 hx4 z4
  clear hk
  go_wp2_with fail
  have hsz4 := Ext.size X4.out
  replace HS := Lib.hid HS.out.raise
  replace HB := Lib.hid HB.out.raise
  replace HK := Lib.hid HK.out.raise
  (with_reducible refine (rewRead_e (some ⟨p.1, 0, none⟩) p.2 M RL re ra HM.out.1 (by omega) (by intro hh; cases hh) _ (lent_slR (OwnR.butN HK.out (by repeat (first | with_reducible exact But.refl _ _ | with_reducible refine But.drew ?_ | with_reducible refine But.drewN ?_ _ | with_reducible refine But.alloc ?_ _ | with_reducible refine But.setCell ?_ (by first | exact Nat.le_refl _ | (dsimp only; omega)) _ | with_reducible refine But.setNew ?_ (by first | omega | (simp; done) | (simp; omega)) _))).own) F2.out).mono ?_)
  rintro e w5 ⟨A3, c3, rfl, _, hO, hx5⟩
  have z5 := hx5.size
  try simp at z5
  replace HS := Lib.hid (HS.out.ext (Ext.trans (by repeat (first | with_reducible exact Ext.refl _ | with_reducible refine Ext.drew ?_ | with_reducible refine Ext.drewN ?_ _ | with_reducible refine Ext.alloc ?_ _ | with_reducible refine Ext.setCell ?_ (by first | omega | (simp; done) | (simp; omega)) _)) hx5))
  replace HB := Lib.hid (HB.out.ext (Ext.trans (by repeat (first | with_reducible exact Ext.refl _ | with_reducible refine Ext.drew ?_ | with_reducible refine Ext.drewN ?_ _ | with_reducible refine Ext.alloc ?_ _ | with_reducible refine Ext.setCell ?_ (by first | omega | (simp; done) | (simp; omega)) _)) hx5))
  replace HK := Lib.hid ((OwnR.butN HK.out (by repeat (first | with_reducible exact But.refl _ _ | with_reducible refine But.drew ?_ | with_reducible refine But.drewN ?_ _ | with_reducible refine But.alloc ?_ _ | with_reducible refine But.setCell ?_ (by first | exact Nat.le_refl _ | (dsimp only; omega)) _ | with_reducible refine But.setNew ?_ (by first | omega | (simp; done) | (simp; omega)) _))).ext hx5)
  have X5 : Hid (Ext w w5) := Lib.hid (Ext.trans (by repeat (first | with_reducible exact X4.out | with_reducible refine Ext.drew ?_ | with_reducible refine Ext.drewN ?_ _ | with_reducible refine Ext.alloc ?_ _ | with_reducible refine Ext.setCell ?_ (by first | omega | (simp; done) | (simp; omega)) _)) hx5)
  have HA := Lib.hid hO
  clear X4 hx5 z5 hO
  have HAi : Hid (∀ k o s, A3 = some ⟨k, o, s⟩ → w4.heap.size ≤ k) := Lib.hid (fun k o s e => by have h := HA.out.in_ k o s e; (try simp at h); omega)
  go_wp2_with fail
  (with_reducible refine (rRead24_e A0 c0 M RL re ra HM.out.1 (by omega) _ (HB.out.ext (by repeat (first | with_reducible exact Ext.refl _ | with_reducible refine Ext.drew ?_ | with_reducible refine Ext.drewN ?_ _ | with_reducible refine Ext.alloc ?_ _ | with_reducible refine Ext.setCell ?_ (by first | omega | (simp; done) | (simp; omega)) _))).sl F2.out).mono ?_)
  rintro e w6 ⟨A4, c4, rfl, _, hO, hx6⟩
  have c0_0 : w6.cell? ⟨w5.heap.size, 0, none⟩ = some (.int .i64 re) := hx6.has (by first | fail | (simp [go_sem, World.cell?_alloc_past]; done))
  have c0_1 : w6.cell? ⟨w5.heap.size, 1, none⟩ = some (.int .i64 ra) := hx6.has (by first | fail | (simp [go_sem, World.cell?_alloc_past]; done))
  have z6 := hx6.size
  try simp at z6
  have rc0 : w5.heap.size < w6.heap.size := by omega
  have rc0a : w5.heap.size < w6.heap.size + 1 := by omega
  have rc0b : w5.heap.size < w6.heap.size + 1 + 1 := by omega
  have rc0c : w5.heap.size < w6.heap.size + 1 + 1 + 1 := by omega
  have rc0n : ¬ w5.heap.size = w6.heap.size := by omega
  replace HS := Lib.hid (HS.out.ext (Ext.trans (by repeat (first | with_reducible exact Ext.refl _ | with_reducible refine Ext.drew ?_ | with_reducible refine Ext.drewN ?_ _ | with_reducible refine Ext.alloc ?_ _ | with_reducible refine Ext.setCell ?_ (by first | omega | (simp; done) | (simp; omega)) _)) hx6))
  replace HB := Lib.hid (HB.out.ext (Ext.trans (by repeat (first | with_reducible exact Ext.refl _ | with_reducible refine Ext.drew ?_ | with_reducible refine Ext.drewN ?_ _ | with_reducible refine Ext.alloc ?_ _ | with_reducible refine Ext.setCell ?_ (by first | omega | (simp; done) | (simp; omega)) _)) hx6))
  replace HK := Lib.hid ((OwnR.butN HK.out (by repeat (first | with_reducible exact But.refl _ _ | with_reducible refine But.drew ?_ | with_reducible refine But.drewN ?_ _ | with_reducible refine But.alloc ?_ _ | with_reducible refine But.setCell ?_ (by first | exact Nat.le_refl _ | (dsimp only; omega)) _ | with_reducible refine But.setNew ?_ (by first | omega | (simp; done) | (simp; omega)) _))).ext hx6)
  replace HA := Lib.hid (HA.out.ext (Ext.trans (by repeat (first | with_reducible exact Ext.refl _ | with_reducible refine Ext.drew ?_ | with_reducible refine Ext.drewN ?_ _ | with_reducible refine Ext.alloc ?_ _ | with_reducible refine Ext.setCell ?_ (by first | omega | (simp; done) | (simp; omega)) _)) hx6))
  have X6 : Hid (Ext w w6) := Lib.hid (Ext.trans (by repeat (first | with_reducible exact X5.out | with_reducible refine Ext.drew ?_ | with_reducible refine Ext.drewN ?_ _ | with_reducible refine Ext.alloc ?_ _ | with_reducible refine Ext.setCell ?_ (by first | omega | (simp; done) | (simp; omega)) _)) hx6)
  have HD := Lib.hid hO
  clear X5 hx6 z6 hO
  go_wp2_with fail
  (with_reducible refine (kSameWords_eq A3 A4 _ c3 _ c4 RL _ (OwnWord.sl (HA.out.ext (by repeat (first | with_reducible exact Ext.refl _ | with_reducible refine Ext.drew ?_ | with_reducible refine Ext.drewN ?_ _ | with_reducible refine Ext.alloc ?_ _ | with_reducible refine Ext.setCell ?_ (by first | omega | (simp; done) | (simp; omega)) _)))) (OwnWord.sl (HD.out.ext (by repeat (first | with_reducible exact Ext.refl _ | with_reducible refine Ext.drew ?_ | with_reducible refine Ext.drewN ?_ _ | with_reducible refine Ext.alloc ?_ _ | with_reducible refine Ext.setCell ?_ (by first | omega | (simp; done) | (simp; omega)) _))))).mono ?_)
  rintro e w7 ⟨rfl, hx7⟩
  replace c0_0 : w7.cell? ⟨w5.heap.size, 0, none⟩ = some (.int .i64 re) := hx7.has (by first | exact c0_0 | (simp [go_sem, World.cell?_alloc_past, c0_0, c0_1, rc0, rc0a, rc0b, rc0c, rc0n]; done))
  replace c0_1 : w7.cell? ⟨w5.heap.size, 1, none⟩ = some (.int .i64 ra) := hx7.has (by first | exact c0_1 | (simp [go_sem, World.cell?_alloc_past, c0_0, c0_1, rc0, rc0a, rc0b, rc0c, rc0n]; done))
  have c1_0 : w7.cell? ⟨w6.heap.size, 0, none⟩ = some (.int .i64 re) := hx7.has (by first | fail | (simp [go_sem, World.cell?_alloc_past, c0_0, c0_1, rc0, rc0a, rc0b, rc0c, rc0n]; done))
  have c1_1 : w7.cell? ⟨w6.heap.size, 1, none⟩ = some (.int .i64 ra) := hx7.has (by first | fail | (simp [go_sem, World.cell?_alloc_past, c0_0, c0_1, rc0, rc0a, rc0b, rc0c, rc0n]; done))
  have z7 := hx7.size
  try simp at z7
  have lt_c0_c1 : w5.heap.size < w6.heap.size := by omega
  have ne_c0_c1 : ¬ w5.heap.size = w6.heap.size := by omega
  have ne_c1_c0 : ¬ w6.heap.size = w5.heap.size := by omega
  replace rc0 : w5.heap.size < w7.heap.size := by omega
  replace rc0a : w5.heap.size < w7.heap.size + 1 := by omega
  replace rc0b : w5.heap.size < w7.heap.size + 1 + 1 := by omega
  replace rc0c : w5.heap.size < w7.heap.size + 1 + 1 + 1 := by omega
  replace rc0n : ¬ w5.heap.size = w7.heap.size := by omega
  have rc1 : w6.heap.size < w7.heap.size := by omega
  have rc1a : w6.heap.size < w7.heap.size + 1 := by omega
  have rc1b : w6.heap.size < w7.heap.size + 1 + 1 := by omega
  have rc1c : w6.heap.size < w7.heap.size + 1 + 1 + 1 := by omega
  have rc1n : ¬ w6.heap.size = w7.heap.size := by omega
  replace HS := Lib.hid (HS.out.ext (Ext.trans (by repeat (first | with_reducible exact Ext.refl _ | with_reducible refine Ext.drew ?_ | with_reducible refine Ext.drewN ?_ _ | with_reducible refine Ext.alloc ?_ _ | with_reducible refine Ext.setCell ?_ (by first | omega | (simp; done) | (simp; omega)) _)) hx7))
  replace HB := Lib.hid (HB.out.ext (Ext.trans (by repeat (first | with_reducible exact Ext.refl _ | with_reducible refine Ext.drew ?_ | with_reducible refine Ext.drewN ?_ _ | with_reducible refine Ext.alloc ?_ _ | with_reducible refine Ext.setCell ?_ (by first | omega | (simp; done) | (simp; omega)) _)) hx7))
  replace HK := Lib.hid ((OwnR.butN HK.out (by repeat (first | with_reducible exact But.refl _ _ | with_reducible refine But.drew ?_ | with_reducible refine But.drewN ?_ _ | with_reducible refine But.alloc ?_ _ | with_reducible refine But.setCell ?_ (by first | exact Nat.le_refl _ | (dsimp only; omega)) _ | with_reducible refine But.setNew ?_ (by first | omega | (simp; done) | (simp; omega)) _))).ext hx7)
  replace HA := Lib.hid (HA.out.ext (Ext.trans (by repeat (first | with_reducible exact Ext.refl _ | with_reducible refine Ext.drew ?_ | with_reducible refine Ext.drewN ?_ _ | with_reducible refine Ext.alloc ?_ _ | with_reducible refine Ext.setCell ?_ (by first | omega | (simp; done) | (simp; omega)) _)) hx7))
  have X7 : Hid (Ext w w7) := Lib.hid (Ext.trans (by repeat (first | with_reducible exact X6.out | with_reducible refine Ext.drew ?_ | with_reducible refine Ext.drewN ?_ _ | with_reducible refine Ext.alloc ?_ _ | with_reducible refine Ext.setCell ?_ (by first | omega | (simp; done) | (simp; omega)) _)) hx7)
  clear HD X6 hx7 z7
  go_wp2_with fail
  (with_reducible refine (kKeptBytes_any p.1 p.2 A0 c0 M _ _ (OwnR.butN HK.out (by repeat (first | with_reducible exact But.refl _ _ | with_reducible refine But.drew ?_ | with_reducible refine But.drewN ?_ _ | with_reducible refine But.alloc ?_ _ | with_reducible refine But.setCell ?_ (by first | exact Nat.le_refl _ | (dsimp only; omega)) _ | with_reducible refine But.setNew ?_ (by first | omega | (simp; done) | (simp; omega)) _))).own (HB.out.ext (by repeat (first | with_reducible exact Ext.refl _ | with_reducible refine Ext.drew ?_ | with_reducible refine Ext.drewN ?_ _ | with_reducible refine Ext.alloc ?_ _ | with_reducible refine Ext.setCell ?_ (by first | omega | (simp; done) | (simp; omega)) _))).sl).mono ?_)
  rintro e w8 ⟨rfl, hx8⟩
  have z8 := hx8.size
  try simp at z8
  replace HS := Lib.hid (HS.out.ext (Ext.trans (by repeat (first | with_reducible exact Ext.refl _ | with_reducible refine Ext.drew ?_ | with_reducible refine Ext.drewN ?_ _ | with_reducible refine Ext.alloc ?_ _ | with_reducible refine Ext.setCell ?_ (by first | omega | (simp; done) | (simp; omega)) _)) hx8))
  replace HB := Lib.hid (HB.out.ext (Ext.trans (by repeat (first | with_reducible exact Ext.refl _ | with_reducible refine Ext.drew ?_ | with_reducible refine Ext.drewN ?_ _ | with_reducible refine Ext.alloc ?_ _ | with_reducible refine Ext.setCell ?_ (by first | omega | (simp; done) | (simp; omega)) _)) hx8))
  replace HA := Lib.hid (HA.out.ext (Ext.trans (by repeat (first | with_reducible exact Ext.refl _ | with_reducible refine Ext.drew ?_ | with_reducible refine Ext.drewN ?_ _ | with_reducible refine Ext.alloc ?_ _ | with_reducible refine Ext.setCell ?_ (by first | omega | (simp; done) | (simp; omega)) _)) hx8))
  have X8 : Hid (Ext w w8) := Lib.hid (Ext.trans (by repeat (first | with_reducible exact X7.out | with_reducible refine Ext.drew ?_ | with_reducible refine Ext.drewN ?_ _ | with_reducible refine Ext.alloc ?_ _ | with_reducible refine Ext.setCell ?_ (by first | omega | (simp; done) | (simp; omega)) _)) hx8)
  clear c0_0 c0_1 c1_0 c1_1 rc0 rc0a rc0b rc0c rc0n rc1 rc1a rc1b rc1c rc1n HK X7 hx8 z8
  go_wp2_with fail
  (with_reducible refine (kOverWords_v A3 _ c3 RL _ _ (HA.out.ext (by repeat (first | with_reducible exact Ext.refl _ | with_reducible refine Ext.drew ?_ | with_reducible refine Ext.drewN ?_ _ | with_reducible refine Ext.alloc ?_ _ | with_reducible refine Ext.setCell ?_ (by first | omega | (simp; done) | (simp; omega)) _)))).mono ?_)
  rintro e w9 ⟨v9, rfl, hx9⟩
  have hsz9 := hx9.size
  try simp at hsz9
  have z9 := hx9.size
  try simp at z9
  have X9 : Hid (Ext w w9) := Lib.hid (have hX := (show Ext w _ from (by repeat (first | with_reducible exact X8.out | with_reducible refine Ext.drew ?_ | with_reducible refine Ext.drewN ?_ _ | with_reducible refine Ext.alloc ?_ _ | with_reducible refine Ext.setCell ?_ (by first | omega | (simp; done) | (simp; omega)) _))); Below.trans hX (hx9.below (Ext.size hX) (fun k hk hh => by obtain ⟨o, s, e⟩ := hh; have := HAi.out k o s e; omega)))
  replace HS := Lib.hid ((HS.out.ext (by repeat (first | with_reducible exact Ext.refl _ | with_reducible refine Ext.drew ?_ | with_reducible refine Ext.drewN ?_ _ | with_reducible refine Ext.alloc ?_ _ | with_reducible refine Ext.setCell ?_ (by first | omega | (simp; done) | (simp; omega)) _))).but hx9 (fun k hk => by obtain ⟨o, s, e⟩ := hk; have := HAi.out k o s e; omega))
  replace HB := Lib.hid ((HB.out.ext (by repeat (first | with_reducible exact Ext.refl _ | with_reducible refine Ext.drew ?_ | with_reducible refine Ext.drewN ?_ _ | with_reducible refine Ext.alloc ?_ _ | with_reducible refine Ext.setCell ?_ (by first | omega | (simp; done) | (simp; omega)) _))).but hx9 (fun k hk => by obtain ⟨o, s, e⟩ := hk; have := HAi.out k o s e; omega))
  clear HA hsz9 X8 hx9 z9
  go_wp2_with fail
  (with_reducible refine (rewNew_ev m RN en RN.length _ F3.out rfl).mono ?_)
  rintro e w10 ⟨A5, c5, rfl, _, hO, hx10⟩
  have z10 := hx10.size
  try simp at z10
  replace HS := Lib.hid (HS.out.ext (Ext.trans (by repeat (first | with_reducible exact Ext.refl _ | with_reducible refine Ext.drew ?_ | with_reducible refine Ext.drewN ?_ _ | with_reducible refine Ext.alloc ?_ _ | with_reducible refine Ext.setCell ?_ (by first | omega | (simp; done) | (simp; omega)) _)) hx10))
  replace HB := Lib.hid (HB.out.ext (Ext.trans (by repeat (first | with_reducible exact Ext.refl _ | with_reducible refine Ext.drew ?_ | with_reducible refine Ext.drewN ?_ _ | with_reducible refine Ext.alloc ?_ _ | with_reducible refine Ext.setCell ?_ (by first | omega | (simp; done) | (simp; omega)) _)) hx10))
  have X10 : Hid (Ext w w10) := Lib.hid (Ext.trans (by repeat (first | with_reducible exact X9.out | with_reducible refine Ext.drew ?_ | with_reducible refine Ext.drewN ?_ _ | with_reducible refine Ext.alloc ?_ _ | with_reducible refine Ext.setCell ?_ (by first | omega | (simp; done) | (simp; omega)) _)) hx10)
  have HP := Lib.hid hO
  clear X9 hx10 z10 hO
  go_wp2_with fail
  (with_reducible refine (rNew24_ev m RN en RN.length _ F3.out rfl).mono ?_)
  rintro e w11 ⟨A6, c6, rfl, _, hO, hx11⟩
  have z11 := hx11.size
  try simp at z11
  replace HS := Lib.hid (HS.out.ext (Ext.trans (by repeat (first | with_reducible exact Ext.refl _ | with_reducible refine Ext.drew ?_ | with_reducible refine Ext.drewN ?_ _ | with_reducible refine Ext.alloc ?_ _ | with_reducible refine Ext.setCell ?_ (by first | omega | (simp; done) | (simp; omega)) _)) hx11))
  replace HB := Lib.hid (HB.out.ext (Ext.trans (by repeat (first | with_reducible exact Ext.refl _ | with_reducible refine Ext.drew ?_ | with_reducible refine Ext.drewN ?_ _ | with_reducible refine Ext.alloc ?_ _ | with_reducible refine Ext.setCell ?_ (by first | omega | (simp; done) | (simp; omega)) _)) hx11))
  replace HP := Lib.hid (HP.out.ext (Ext.trans (by repeat (first | with_reducible exact Ext.refl _ | with_reducible refine Ext.drew ?_ | with_reducible refine Ext.drewN ?_ _ | with_reducible refine Ext.alloc ?_ _ | with_reducible refine Ext.setCell ?_ (by first | omega | (simp; done) | (simp; omega)) _)) hx11))
  have X11 : Hid (Ext w w11) := Lib.hid (Ext.trans (by repeat (first | with_reducible exact X10.out | with_reducible refine Ext.drew ?_ | with_reducible refine Ext.drewN ?_ _ | with_reducible refine Ext.alloc ?_ _ | with_reducible refine Ext.setCell ?_ (by first | omega | (simp; done) | (simp; omega)) _)) hx11)
  have HQ := Lib.hid hO
  clear X10 hx11 z11 hO
  go_wp2_with fail
  (with_reducible refine (kSameWords_eq A5 A6 _ c5 _ c6 RN _ (OwnWord.sl (HP.out.ext (by repeat (first | with_reducible exact Ext.refl _ | with_reducible refine Ext.drew ?_ | with_reducible refine Ext.drewN ?_ _ | with_reducible refine Ext.alloc ?_ _ | with_reducible refine Ext.setCell ?_ (by first | omega | (simp; done) | (simp; omega)) _)))) (OwnWord.sl (HQ.out.ext (by repeat (first | with_reducible exact Ext.refl _ | with_reducible refine Ext.drew ?_ | with_reducible refine Ext.drewN ?_ _ | with_reducible refine Ext.alloc ?_ _ | with_reducible refine Ext.setCell ?_ (by first | omega | (simp; done) | (simp; omega)) _))))).mono ?_)
  rintro e w12 ⟨rfl, hx12⟩
  have z12 := hx12.size
  try simp at z12
  replace HS := Lib.hid (HS.out.ext (Ext.trans (by repeat (first | with_reducible exact Ext.refl _ | with_reducible refine Ext.drew ?_ | with_reducible refine Ext.drewN ?_ _ | with_reducible refine Ext.alloc ?_ _ | with_reducible refine Ext.setCell ?_ (by first | omega | (simp; done) | (simp; omega)) _)) hx12))
  replace HB := Lib.hid (HB.out.ext (Ext.trans (by repeat (first | with_reducible exact Ext.refl _ | with_reducible refine Ext.drew ?_ | with_reducible refine Ext.drewN ?_ _ | with_reducible refine Ext.alloc ?_ _ | with_reducible refine Ext.setCell ?_ (by first | omega | (simp; done) | (simp; omega)) _)) hx12))
  replace HP := Lib.hid (HP.out.ext (Ext.trans (by repeat (first | with_reducible exact Ext.refl _ | with_reducible refine Ext.drew ?_ | with_reducible refine Ext.drewN ?_ _ | with_reducible refine Ext.alloc ?_ _ | with_reducible refine Ext.setCell ?_ (by first | omega | (simp; done) | (simp; omega)) _)) hx12))
  replace HQ := Lib.hid (HQ.out.ext (Ext.trans (by repeat (first | with_reducible exact Ext.refl _ | with_reducible refine Ext.drew ?_ | with_reducible refine Ext.drewN ?_ _ | with_reducible refine Ext.alloc ?_ _ | with_reducible refine Ext.setCell ?_ (by first | omega | (simp; done) | (simp; omega)) _)) hx12))
  have X12 : Hid (Ext w w12) := Lib.hid (Ext.trans (by repeat (first | with_reducible exact X11.out | with_reducible refine Ext.drew ?_ | with_reducible refine Ext.drewN ?_ _ | with_reducible refine Ext.alloc ?_ _ | with_reducible refine Ext.setCell ?_ (by first | omega | (simp; done) | (simp; omega)) _)) hx12)
  clear X11 hx12 z12
  go_wp2_with fail
  (with_reducible refine (awake24_any _).mono ?_)
  rintro e w13 ⟨rfl, hx13⟩
  have z13 := hx13.size
  try simp at z13
  replace HS := Lib.hid (HS.out.ext (Ext.trans (by repeat (first | with_reducible exact Ext.refl _ | with_reducible refine Ext.drew ?_ | with_reducible refine Ext.drewN ?_ _ | with_reducible refine Ext.alloc ?_ _ | with_reducible refine Ext.setCell ?_ (by first | omega | (simp; done) | (simp; omega)) _)) hx13))
  replace HB := Lib.hid (HB.out.ext (Ext.trans (by repeat (first | with_reducible exact Ext.refl _ | with_reducible refine Ext.drew ?_ | with_reducible refine Ext.drewN ?_ _ | with_reducible refine Ext.alloc ?_ _ | with_reducible refine Ext.setCell ?_ (by first | omega | (simp; done) | (simp; omega)) _)) hx13))
  replace HP := Lib.hid (HP.out.ext (Ext.trans (by repeat (first | with_reducible exact Ext.refl _ | with_reducible refine Ext.drew ?_ | with_reducible refine Ext.drewN ?_ _ | with_reducible refine Ext.alloc ?_ _ | with_reducible refine Ext.setCell ?_ (by first | omega | (simp; done) | (simp; omega)) _)) hx13))
  replace HQ := Lib.hid (HQ.out.ext (Ext.trans (by repeat (first | with_reducible exact Ext.refl _ | with_reducible refine Ext.drew ?_ | with_reducible refine Ext.drewN ?_ _ | with_reducible refine Ext.alloc ?_ _ | with_reducible refine Ext.setCell ?_ (by first | omega | (simp; done) | (simp; omega)) _)) hx13))
  have X13 : Hid (Ext w w13) := Lib.hid (Ext.trans (by repeat (first | with_reducible exact X12.out | with_reducible refine Ext.drew ?_ | with_reducible refine Ext.drewN ?_ _ | with_reducible refine Ext.alloc ?_ _ | with_reducible refine Ext.setCell ?_ (by first | omega | (simp; done) | (simp; omega)) _)) hx13)
  clear X12 hx13 z13
  go_wp2_with fail
  go_ret
  exact ⟨rfl, (by repeat (first | with_reducible exact X13.out | with_reducible refine Ext.drew ?_ | with_reducible refine Ext.drewN ?_ _ | with_reducible refine Ext.alloc ?_ _ | with_reducible refine Ext.setCell ?_ (by first | omega | (simp; done) | (simp; omega)) _))⟩
theorem RewardBytes_any (A : Option Addr) (n c : Nat) (l : List Int) (A0 : Option Addr) (c0 : Nat) (M : List Nat) (m : Int) (_ : Fits .i64 m) (w : World) (hs : Sl w 1 A n c (iv .u64 l)) (hw : ∀ x ∈ l, Fits .u64 x) (hb : Sl w 1 A0 M.length c0 (by_ M)) (hM : Byt M) (hnil0 : A0 = none → c0 = 0) :
    Calls Try.prog 4 #[.slice A n c, .slice A0 M.length c0, .int .i64 m] w fun r w' => r = .returned (.bool true) ∧ Ext w w' := by
  have hll := hs.ilen
  subst hll
  by_cases hl : l.length ≤ 70 ∧ M.length ≤ 400
  · exact RewardBytes_main A A0 c c0 l (crRV M).1 (newV m).1 M (crB l) (chkR l) (crRV M).2.1 (crRV M).2.2 (newV m).2 m w hs hb hM (fun x hx => (hw x hx).u64) hl.1 hl.2 rfl rfl rfl (byt_crB l)
  · exact RewardBytes_long A A0 c l.length c0 M.length m w (by omega) hs.small hb.small
end Go.Proofs.Ytlgjdeggbcgbnaa
