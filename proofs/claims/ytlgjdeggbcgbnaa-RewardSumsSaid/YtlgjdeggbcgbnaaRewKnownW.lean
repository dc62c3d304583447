/- law24: RewardKnown returns true. Conditions: none. -/
import Derived.Test.YtlgjdeggbcgbnaaRewBytesW
set_option linter.unusedVariables false
set_option linter.unusedSimpArgs false
namespace Go.Proofs.Ytlgjdeggbcgbnaa
open Go.RowKit Go.ChangeShapes Go.WideShapes Go.Deep

theorem by_newA (W : World) (L : List Nat) (n : Nat) (A : Option Addr) (cs : Array Value) (hc : cs.toList = by_ L) (e : A = some ⟨W.heap.size, 0, none⟩) (hl : L.length = n) (hn : n ≤ 1000000) : Sl (W.alloc (.cells cs 5)) 1 A n n (by_ L) := by
  subst e
  rw [← hc]
  have h0 : cs.size = n := by rw [← hl, ← by_len L, ← hc]; simp
  exact sl_new W 5 1 cs n (by omega) hn
theorem wd_newA (W : World) (L : List Int) (n : Nat) (A : Option Addr) (cs : Array Value) (hc : cs.toList = iv .u64 L) (e : A = some ⟨W.heap.size, 0, none⟩) (hl : L.length = n) (hn : n ≤ 1000000) : Sl (W.alloc (.cells cs 23)) 1 A n n (iv .u64 L) := by
  subst e
  rw [← hc]
  have h0 : cs.size = n := by rw [← hl, ← iv_len .u64 L, ← hc]; simp
  exact sl_new W 23 1 cs n (by omega) hn
theorem byt_of {L : List Nat} (h : L.all (fun x => decide (x < 256)) = true) : Byt L := by
  intro x hx
  have h1 := List.all_eq_true.1 h x hx
  simpa using h1
theorem word_of {a : Int} (h : decide (0 ≤ a ∧ a < 18446744073709551616) = true) : Word a := by
  have h2 : 0 ≤ a ∧ a < 18446744073709551616 := of_decide_eq_true h
  exact h2
theorem rewRead_en (A : Option Addr) (n c : Nat) (L : List Nat) (RL : List Int) (e a : Int) (m : Nat) (w : World) (hB : Byt L) (hs : Sl w 1 A n c (by_ L)) (hn : L.length = n) (hL : L.length < 1000000) (hnil : A = none → c = 0) (hF : (RL, e, a) = crRV L) (hm : RL.length = m) :
    Calls Try.prog 29 #[.slice A n c] w fun r w' => ∃ A c, r = .returned (.tuple #[.slice A m c, .agg #[.int .i64 e, .int .i64 a]]) ∧ (A = none → c = 0) ∧ OwnWord w' w.heap.size (.slice A m c) m RL ∧ Ext w w' := by
  subst hn; subst hm
  exact rewRead_e A c L RL e a hB (by omega) hnil w hs hF
theorem rewBytes_en (A : Option Addr) (n c : Nat) (l : List Int) (BL : List Nat) (e : Int) (m : Nat) (w : World) (hs : Sl w 1 A n c (iv .u64 l)) (hw : ∀ x ∈ l, Word x) (hF : (BL, e) = (crB l, chkR l)) (hm : BL.length = m) :
    Calls Try.prog 24 #[.slice A n c] w fun r w' => ∃ A c, r = .returned (.tuple #[.slice A m c, .int .i64 e]) ∧ (A = none → c = 0) ∧ OwnN w' w.heap.size (.slice A m c) m BL ∧ Ext w w' := by
  have hl := hs.ilen
  subst hl; subst hm
  exact rewBytes_e A c l BL e w hs hw hF
theorem cr_57 : ([3, 0, 57, 0], (0 : Int)) = (crB [0, 57, 0], chkR [0, 57, 0]) := by
  have h0 : chkR [0, 57, 0] = 0 := by decide
  unfold crB
  rw [h0, if_pos rfl]
  simp [numB, putL_lt]
set_option maxRecDepth 100000 in
set_option maxHeartbeats 4000000 in
theorem RewardKnown_any (w : World) : Calls Try.prog 5 #[] w fun r w' => r = .returned (.bool true) ∧ Ext w w' := by
  have qe := flt_eql
  have qg := flt_eqg
  go_enter Try.func5, Try.ntmps5
  go_wp2_with fail
  (with_reducible refine (chapter24_any _).mono ?_)
  rintro e w1 ⟨A1, c1, rfl, hn1, hO1, hx1⟩
  have z1 := hx1.size
  try simp at z1
  have X1 : Hid (Ext w w1) := Lib.hid (Ext.trans (by repeat (first | with_reducible exact Ext.refl w | with_reducible refine Ext.drew ?_ | with_reducible refine Ext.drewN ?_ _ | with_reducible refine Ext.alloc ?_ _ | with_reducible refine Ext.setCell ?_ (by first | omega | (simp; done) | (simp; omega)) _)) hx1)
  have HI := Lib.hid hO1
  clear hx1 z1 hO1
  have HN := Lib.hid hn1
  clear hn1
  go_wp2_with fail
  (with_reducible refine (rewTotal_ev A1 3 c1 [0, 57, 0] 57 0 _ (OwnWord.sl (HI.out.ext (by repeat (first | with_reducible exact Ext.refl _ | with_reducible refine Ext.drew ?_ | with_reducible refine Ext.drewN ?_ _ | with_reducible refine Ext.alloc ?_ _ | with_reducible refine Ext.setCell ?_ (by first | omega | (simp; done) | (simp; omega)) _)))) (words_of rfl) (by decide)).mono ?_)
  rintro e w2 ⟨rfl, hx2⟩
  have z2 := hx2.size
  try simp at z2
  replace HI := Lib.hid (HI.out.ext (Ext.trans (by repeat (first | with_reducible exact Ext.refl _ | with_reducible refine Ext.drew ?_ | with_reducible refine Ext.drewN ?_ _ | with_reducible refine Ext.alloc ?_ _ | with_reducible refine Ext.setCell ?_ (by first | omega | (simp; done) | (simp; omega)) _)) hx2))
  have X2 : Hid (Ext w w2) := Lib.hid (Ext.trans (by repeat (first | with_reducible exact X1.out | with_reducible refine Ext.drew ?_ | with_reducible refine Ext.drewN ?_ _ | with_reducible refine Ext.alloc ?_ _ | with_reducible refine Ext.setCell ?_ (by first | omega | (simp; done) | (simp; omega)) _)) hx2)
  clear X1 hx2 z2
  go_wp2_with fail
  (with_reducible refine (rewClaim_ev A1 3 c1 [0, 57, 0] 0 [] 0 13 0 _ (OwnWord.sl (HI.out.ext (by repeat (first | with_reducible exact Ext.refl _ | with_reducible refine Ext.drew ?_ | with_reducible refine Ext.drewN ?_ _ | with_reducible refine Ext.alloc ?_ _ | with_reducible refine Ext.setCell ?_ (by first | omega | (simp; done) | (simp; omega)) _)))) (words_of rfl) HN.out (by decide) rfl).mono ?_)
  rintro e w3 ⟨A2, c2, rfl, _, _, hx3⟩
  have z3 := hx3.size
  try simp at z3
  replace HI := Lib.hid (HI.out.ext (Ext.trans (by repeat (first | with_reducible exact Ext.refl _ | with_reducible refine Ext.drew ?_ | with_reducible refine Ext.drewN ?_ _ | with_reducible refine Ext.alloc ?_ _ | with_reducible refine Ext.setCell ?_ (by first | omega | (simp; done) | (simp; omega)) _)) hx3))
  have X3 : Hid (Ext w w3) := Lib.hid (Ext.trans (by repeat (first | with_reducible exact X2.out | with_reducible refine Ext.drew ?_ | with_reducible refine Ext.drewN ?_ _ | with_reducible refine Ext.alloc ?_ _ | with_reducible refine Ext.setCell ?_ (by first | omega | (simp; done) | (simp; omega)) _)) hx3)
  clear X2 hx3 z3
  go_wp2_with fail
  (with_reducible refine (rewClaim_ev A1 3 c1 [0, 57, 0] 3 [] 0 10 0 _ (OwnWord.sl (HI.out.ext (by repeat (first | with_reducible exact Ext.refl _ | with_reducible refine Ext.drew ?_ | with_reducible refine Ext.drewN ?_ _ | with_reducible refine Ext.alloc ?_ _ | with_reducible refine Ext.setCell ?_ (by first | omega | (simp; done) | (simp; omega)) _)))) (words_of rfl) HN.out (by decide) rfl).mono ?_)
  rintro e w4 ⟨A3, c3, rfl, _, _, hx4⟩
  have z4 := hx4.size
  try simp at z4
  replace HI := Lib.hid (HI.out.ext (Ext.trans (by repeat (first | with_reducible exact Ext.refl _ | with_reducible refine Ext.drew ?_ | with_reducible refine Ext.drewN ?_ _ | with_reducible refine Ext.alloc ?_ _ | with_reducible refine Ext.setCell ?_ (by first | omega | (simp; done) | (simp; omega)) _)) hx4))
  have X4 : Hid (Ext w w4) := Lib.hid (Ext.trans (by repeat (first | with_reducible exact X3.out | with_reducible refine Ext.drew ?_ | with_reducible refine Ext.drewN ?_ _ | with_reducible refine Ext.alloc ?_ _ | with_reducible refine Ext.setCell ?_ (by first | omega | (simp; done) | (simp; omega)) _)) hx4)
  clear X3 hx4 z4
  go_wp2_with fail
  (with_reducible refine (splits24_t 39 100000000 true 0 39 0 _ (word_of rfl) (by decide) (by decide)).mono ?_)
  rintro e w5 ⟨rfl, hx5⟩
  have z5 := hx5.size
  try simp at z5
  replace HI := Lib.hid (HI.out.ext (Ext.trans (by repeat (first | with_reducible exact Ext.refl _ | with_reducible refine Ext.drew ?_ | with_reducible refine Ext.drewN ?_ _ | with_reducible refine Ext.alloc ?_ _ | with_reducible refine Ext.setCell ?_ (by first | omega | (simp; done) | (simp; omega)) _)) hx5))
  have X5 : Hid (Ext w w5) := Lib.hid (Ext.trans (by repeat (first | with_reducible exact X4.out | with_reducible refine Ext.drew ?_ | with_reducible refine Ext.drewN ?_ _ | with_reducible refine Ext.alloc ?_ _ | with_reducible refine Ext.setCell ?_ (by first | omega | (simp; done) | (simp; omega)) _)) hx5)
  clear X4 hx5 z5
  go_wp2_with fail
  (with_reducible refine (splits24_t 39 1000000000 false 39 0 0 _ (word_of rfl) (by decide) (by decide)).mono ?_)
  rintro e w6 ⟨rfl, hx6⟩
  have z6 := hx6.size
  try simp at z6
  replace HI := Lib.hid (HI.out.ext (Ext.trans (by repeat (first | with_reducible exact Ext.refl _ | with_reducible refine Ext.drew ?_ | with_reducible refine Ext.drewN ?_ _ | with_reducible refine Ext.alloc ?_ _ | with_reducible refine Ext.setCell ?_ (by first | omega | (simp; done) | (simp; omega)) _)) hx6))
  have X6 : Hid (Ext w w6) := Lib.hid (Ext.trans (by repeat (first | with_reducible exact X5.out | with_reducible refine Ext.drew ?_ | with_reducible refine Ext.drewN ?_ _ | with_reducible refine Ext.alloc ?_ _ | with_reducible refine Ext.setCell ?_ (by first | omega | (simp; done) | (simp; omega)) _)) hx6)
  clear X5 hx6 z6
  go_wp2_with fail
  (with_reducible refine (splits24_t 1 1000000001 true 0 0 3 _ (word_of rfl) (by decide) (by decide)).mono ?_)
  rintro e w7 ⟨rfl, hx7⟩
  have z7 := hx7.size
  try simp at z7
  replace HI := Lib.hid (HI.out.ext (Ext.trans (by repeat (first | with_reducible exact Ext.refl _ | with_reducible refine Ext.drew ?_ | with_reducible refine Ext.drewN ?_ _ | with_reducible refine Ext.alloc ?_ _ | with_reducible refine Ext.setCell ?_ (by first | omega | (simp; done) | (simp; omega)) _)) hx7))
  have X7 : Hid (Ext w w7) := Lib.hid (Ext.trans (by repeat (first | with_reducible exact X6.out | with_reducible refine Ext.drew ?_ | with_reducible refine Ext.drewN ?_ _ | with_reducible refine Ext.alloc ?_ _ | with_reducible refine Ext.setCell ?_ (by first | omega | (simp; done) | (simp; omega)) _)) hx7)
  clear X6 hx7 z7
  go_wp2_with fail
  (with_reducible refine (credits24_t A1 3 c1 [0, 57, 0] 2 4611686018427387904 [] 12 _ (OwnWord.sl (HI.out.ext (by repeat (first | with_reducible exact Ext.refl _ | with_reducible refine Ext.drew ?_ | with_reducible refine Ext.drewN ?_ _ | with_reducible refine Ext.alloc ?_ _ | with_reducible refine Ext.setCell ?_ (by first | omega | (simp; done) | (simp; omega)) _)))) (words_of rfl) (word_of rfl) HN.out (by decide)).mono ?_)
  rintro e w8 ⟨rfl, hx8⟩
  have z8 := hx8.size
  try simp at z8
  replace HI := Lib.hid (HI.out.ext (Ext.trans (by repeat (first | with_reducible exact Ext.refl _ | with_reducible refine Ext.drew ?_ | with_reducible refine Ext.drewN ?_ _ | with_reducible refine Ext.alloc ?_ _ | with_reducible refine Ext.setCell ?_ (by first | omega | (simp; done) | (simp; omega)) _)) hx8))
  have X8 : Hid (Ext w w8) := Lib.hid (Ext.trans (by repeat (first | with_reducible exact X7.out | with_reducible refine Ext.drew ?_ | with_reducible refine Ext.drewN ?_ _ | with_reducible refine Ext.alloc ?_ _ | with_reducible refine Ext.setCell ?_ (by first | omega | (simp; done) | (simp; omega)) _)) hx8)
  clear X7 hx8 z8
  go_wp2_with fail
  (with_reducible refine (credits24_t A1 3 c1 [0, 57, 0] 3 1 [] 10 _ (OwnWord.sl (HI.out.ext (by repeat (first | with_reducible exact Ext.refl _ | with_reducible refine Ext.drew ?_ | with_reducible refine Ext.drewN ?_ _ | with_reducible refine Ext.alloc ?_ _ | with_reducible refine Ext.setCell ?_ (by first | omega | (simp; done) | (simp; omega)) _)))) (words_of rfl) (word_of rfl) HN.out (by decide)).mono ?_)
  rintro e w9 ⟨rfl, hx9⟩
  have z9 := hx9.size
  try simp at z9
  replace HI := Lib.hid (HI.out.ext (Ext.trans (by repeat (first | with_reducible exact Ext.refl _ | with_reducible refine Ext.drew ?_ | with_reducible refine Ext.drewN ?_ _ | with_reducible refine Ext.alloc ?_ _ | with_reducible refine Ext.setCell ?_ (by first | omega | (simp; done) | (simp; omega)) _)) hx9))
  have X9 : Hid (Ext w w9) := Lib.hid (Ext.trans (by repeat (first | with_reducible exact X8.out | with_reducible refine Ext.drew ?_ | with_reducible refine Ext.drewN ?_ _ | with_reducible refine Ext.alloc ?_ _ | with_reducible refine Ext.setCell ?_ (by first | omega | (simp; done) | (simp; omega)) _)) hx9)
  clear X8 hx9 z9
  go_wp2_with fail
  (with_reducible refine (credits24_t A1 3 c1 [0, 57, 0] (-1) 1 [] 10 _ (OwnWord.sl (HI.out.ext (by repeat (first | with_reducible exact Ext.refl _ | with_reducible refine Ext.drew ?_ | with_reducible refine Ext.drewN ?_ _ | with_reducible refine Ext.alloc ?_ _ | with_reducible refine Ext.setCell ?_ (by first | omega | (simp; done) | (simp; omega)) _)))) (words_of rfl) (word_of rfl) HN.out (by decide)).mono ?_)
  rintro e w10 ⟨rfl, hx10⟩
  have z10 := hx10.size
  try simp at z10
  replace HI := Lib.hid (HI.out.ext (Ext.trans (by repeat (first | with_reducible exact Ext.refl _ | with_reducible refine Ext.drew ?_ | with_reducible refine Ext.drewN ?_ _ | with_reducible refine Ext.alloc ?_ _ | with_reducible refine Ext.setCell ?_ (by first | omega | (simp; done) | (simp; omega)) _)) hx10))
  have X10 : Hid (Ext w w10) := Lib.hid (Ext.trans (by repeat (first | with_reducible exact X9.out | with_reducible refine Ext.drew ?_ | with_reducible refine Ext.drewN ?_ _ | with_reducible refine Ext.alloc ?_ _ | with_reducible refine Ext.setCell ?_ (by first | omega | (simp; done) | (simp; omega)) _)) hx10)
  clear X9 hx10 z10
  go_wp2_with fail
  (with_reducible refine (credits24_t A1 3 c1 [0, 57, 0] 0 0 [0, 57, 0] 0 _ (OwnWord.sl (HI.out.ext (by repeat (first | with_reducible exact Ext.refl _ | with_reducible refine Ext.drew ?_ | with_reducible refine Ext.drewN ?_ _ | with_reducible refine Ext.alloc ?_ _ | with_reducible refine Ext.setCell ?_ (by first | omega | (simp; done) | (simp; omega)) _)))) (words_of rfl) (word_of rfl) HN.out (by decide)).mono ?_)
  rintro e w11 ⟨rfl, hx11⟩
  have z11 := hx11.size
  try simp at z11
  replace HI := Lib.hid (HI.out.ext (Ext.trans (by repeat (first | with_reducible exact Ext.refl _ | with_reducible refine Ext.drew ?_ | with_reducible refine Ext.drewN ?_ _ | with_reducible refine Ext.alloc ?_ _ | with_reducible refine Ext.setCell ?_ (by first | omega | (simp; done) | (simp; omega)) _)) hx11))
  have X11 : Hid (Ext w w11) := Lib.hid (Ext.trans (by repeat (first | with_reducible exact X10.out | with_reducible refine Ext.drew ?_ | with_reducible refine Ext.drewN ?_ _ | with_reducible refine Ext.alloc ?_ _ | with_reducible refine Ext.setCell ?_ (by first | omega | (simp; done) | (simp; omega)) _)) hx11)
  clear X10 hx11 z11
  go_wp2_with fail
  (with_reducible refine (rewNew_ev 0 [] 3 0 _ (by decide) rfl).mono ?_)
  rintro e w12 ⟨A4, c4, rfl, _, _, hx12⟩
  have z12 := hx12.size
  try simp at z12
  replace HI := Lib.hid (HI.out.ext (Ext.trans (by repeat (first | with_reducible exact Ext.refl _ | with_reducible refine Ext.drew ?_ | with_reducible refine Ext.drewN ?_ _ | with_reducible refine Ext.alloc ?_ _ | with_reducible refine Ext.setCell ?_ (by first | omega | (simp; done) | (simp; omega)) _)) hx12))
  have X12 : Hid (Ext w w12) := Lib.hid (Ext.trans (by repeat (first | with_reducible exact X11.out | with_reducible refine Ext.drew ?_ | with_reducible refine Ext.drewN ?_ _ | with_reducible refine Ext.alloc ?_ _ | with_reducible refine Ext.setCell ?_ (by first | omega | (simp; done) | (simp; omega)) _)) hx12)
  clear X11 hx12 z12
  go_wp2_with fail
  (with_reducible refine (rewNew_ev 65 [] 3 0 _ (by decide) rfl).mono ?_)
  rintro e w13 ⟨A5, c5, rfl, _, _, hx13⟩
  have z13 := hx13.size
  try simp at z13
  replace HI := Lib.hid (HI.out.ext (Ext.trans (by repeat (first | with_reducible exact Ext.refl _ | with_reducible refine Ext.drew ?_ | with_reducible refine Ext.drewN ?_ _ | with_reducible refine Ext.alloc ?_ _ | with_reducible refine Ext.setCell ?_ (by first | omega | (simp; done) | (simp; omega)) _)) hx13))
  have X13 : Hid (Ext w w13) := Lib.hid (Ext.trans (by repeat (first | with_reducible exact X12.out | with_reducible refine Ext.drew ?_ | with_reducible refine Ext.drewN ?_ _ | with_reducible refine Ext.alloc ?_ _ | with_reducible refine Ext.setCell ?_ (by first | omega | (simp; done) | (simp; omega)) _)) hx13)
  clear X12 hx13 z13
  go_wp2_with fail
  (with_reducible refine (rewCheck_ev none 0 0 [] 3 _ (Sl.nil _ _) (words_of rfl) (by decide)).mono ?_)
  rintro e w14 ⟨rfl, hx14⟩
  have z14 := hx14.size
  try simp at z14
  replace HI := Lib.hid (HI.out.ext (Ext.trans (by repeat (first | with_reducible exact Ext.refl _ | with_reducible refine Ext.drew ?_ | with_reducible refine Ext.drewN ?_ _ | with_reducible refine Ext.alloc ?_ _ | with_reducible refine Ext.setCell ?_ (by first | omega | (simp; done) | (simp; omega)) _)) hx14))
  have X14 : Hid (Ext w w14) := Lib.hid (Ext.trans (by repeat (first | with_reducible exact X13.out | with_reducible refine Ext.drew ?_ | with_reducible refine Ext.drewN ?_ _ | with_reducible refine Ext.alloc ?_ _ | with_reducible refine Ext.setCell ?_ (by first | omega | (simp; done) | (simp; omega)) _)) hx14)
  clear X13 hx14 z14
  go_wp2_with fail
  (with_reducible refine (rewCheck_ev _ 2 2 [4611686018427387904, 1] 12 _ (wd_newA _ [4611686018427387904, 1] 2 _ _ (by first | rfl | (simp [iv]; done)) (by first | rfl | (simp; done)) rfl (by omega)) (words_of rfl) (by decide)).mono ?_)
  rintro e w15 ⟨rfl, hx15⟩
  have z15 := hx15.size
  try simp at z15
  replace HI := Lib.hid (HI.out.ext (Ext.trans (by repeat (first | with_reducible exact Ext.refl _ | with_reducible refine Ext.drew ?_ | with_reducible refine Ext.drewN ?_ _ | with_reducible refine Ext.alloc ?_ _ | with_reducible refine Ext.setCell ?_ (by first | omega | (simp; done) | (simp; omega)) _)) hx15))
  have X15 : Hid (Ext w w15) := Lib.hid (Ext.trans (by repeat (first | with_reducible exact X14.out | with_reducible refine Ext.drew ?_ | with_reducible refine Ext.drewN ?_ _ | with_reducible refine Ext.alloc ?_ _ | with_reducible refine Ext.setCell ?_ (by first | omega | (simp; done) | (simp; omega)) _)) hx15)
  clear X14 hx15 z15
  go_wp2_with fail
  (with_reducible refine (rewBytes_en A1 3 c1 [0, 57, 0] [3, 0, 57, 0] 0 4 _ (OwnWord.sl (HI.out.ext (by repeat (first | with_reducible exact Ext.refl _ | with_reducible refine Ext.drew ?_ | with_reducible refine Ext.drewN ?_ _ | with_reducible refine Ext.alloc ?_ _ | with_reducible refine Ext.setCell ?_ (by first | omega | (simp; done) | (simp; omega)) _)))) (words_of rfl) cr_57 rfl).mono ?_)
  rintro e w16 ⟨A6, c6, rfl, _, hO6, hx16⟩
  have z16 := hx16.size
  try simp at z16
  have X16 : Hid (Ext w w16) := Lib.hid (Ext.trans (by repeat (first | with_reducible exact X15.out | with_reducible refine Ext.drew ?_ | with_reducible refine Ext.drewN ?_ _ | with_reducible refine Ext.alloc ?_ _ | with_reducible refine Ext.setCell ?_ (by first | omega | (simp; done) | (simp; omega)) _)) hx16)
  have HY := Lib.hid hO6
  clear HI X15 hx16 z16 hO6
  go_wp2_with fail
  (with_reducible refine (rewRead_en _ 1 1 [0] [] 3 0 0 _ (byt_of rfl) (by_newA _ [0] 1 _ _ (by first | rfl | (simp [by_]; done)) (by first | rfl | (simp; done)) rfl (by omega)) rfl (by decide) (fun h => by cases h) rfl rfl).mono ?_)
  rintro e w17 ⟨A9, c9, rfl, _, _, hx17⟩
  have z17 := hx17.size
  try simp at z17
  replace HY := Lib.hid (HY.out.ext (Ext.trans (by repeat (first | with_reducible exact Ext.refl _ | with_reducible refine Ext.drew ?_ | with_reducible refine Ext.drewN ?_ _ | with_reducible refine Ext.alloc ?_ _ | with_reducible refine Ext.setCell ?_ (by first | omega | (simp; done) | (simp; omega)) _)) hx17))
  have X17 : Hid (Ext w w17) := Lib.hid (Ext.trans (by repeat (first | with_reducible exact X16.out | with_reducible refine Ext.drew ?_ | with_reducible refine Ext.drewN ?_ _ | with_reducible refine Ext.alloc ?_ _ | with_reducible refine Ext.setCell ?_ (by first | omega | (simp; done) | (simp; omega)) _)) hx17)
  clear X16 hx17 z17
  go_wp2_with fail
  (with_reducible refine (rewRead_en _ 2 2 [2, 1] [] 6 2 0 _ (byt_of rfl) (by_newA _ [2, 1] 2 _ _ (by first | rfl | (simp [by_]; done)) (by first | rfl | (simp; done)) rfl (by omega)) rfl (by decide) (fun h => by cases h) rfl rfl).mono ?_)
  rintro e w18 ⟨A9, c9, rfl, _, _, hx18⟩
  have c2_0 : w18.cell? ⟨w17.heap.size, 0, none⟩ = some (.int .i64 3) := hx18.has (by first | fail | (simp [go_sem, World.cell?_alloc_past]; done))
  have c2_1 : w18.cell? ⟨w17.heap.size, 1, none⟩ = some (.int .i64 0) := hx18.has (by first | fail | (simp [go_sem, World.cell?_alloc_past]; done))
  have z18 := hx18.size
  try simp at z18
  have rc2 : w17.heap.size < w18.heap.size := by omega
  have rc2a : w17.heap.size < w18.heap.size + 1 := by omega
  have rc2b : w17.heap.size < w18.heap.size + 1 + 1 := by omega
  have rc2c : w17.heap.size < w18.heap.size + 1 + 1 + 1 := by omega
  have rc2n : ¬ w17.heap.size = w18.heap.size := by omega
  replace HY := Lib.hid (HY.out.ext (Ext.trans (by repeat (first | with_reducible exact Ext.refl _ | with_reducible refine Ext.drew ?_ | with_reducible refine Ext.drewN ?_ _ | with_reducible refine Ext.alloc ?_ _ | with_reducible refine Ext.setCell ?_ (by first | omega | (simp; done) | (simp; omega)) _)) hx18))
  have X18 : Hid (Ext w w18) := Lib.hid (Ext.trans (by repeat (first | with_reducible exact X17.out | with_reducible refine Ext.drew ?_ | with_reducible refine Ext.drewN ?_ _ | with_reducible refine Ext.alloc ?_ _ | with_reducible refine Ext.setCell ?_ (by first | omega | (simp; done) | (simp; omega)) _)) hx18)
  clear X17 hx18 z18
  go_wp2_with fail
  (with_reducible refine (rewRead_en _ 4 4 [1, 128, 1, 0] [] 4 3 0 _ (byt_of rfl) (by_newA _ [1, 128, 1, 0] 4 _ _ (by first | rfl | (simp [by_]; done)) (by first | rfl | (simp; done)) rfl (by omega)) rfl (by decide) (fun h => by cases h) rfl rfl).mono ?_)
  rintro e w19 ⟨A9, c9, rfl, _, _, hx19⟩
  replace c2_0 : w19.cell? ⟨w17.heap.size, 0, none⟩ = some (.int .i64 3) := hx19.has (by first | exact c2_0 | (simp [go_sem, World.cell?_alloc_past, c2_0, c2_1, rc2, rc2a, rc2b, rc2c, rc2n]; done))
  replace c2_1 : w19.cell? ⟨w17.heap.size, 1, none⟩ = some (.int .i64 0) := hx19.has (by first | exact c2_1 | (simp [go_sem, World.cell?_alloc_past, c2_0, c2_1, rc2, rc2a, rc2b, rc2c, rc2n]; done))
  have c4_0 : w19.cell? ⟨w18.heap.size, 0, none⟩ = some (.int .i64 6) := hx19.has (by first | fail | (simp [go_sem, World.cell?_alloc_past, c2_0, c2_1, rc2, rc2a, rc2b, rc2c, rc2n]; done))
  have c4_1 : w19.cell? ⟨w18.heap.size, 1, none⟩ = some (.int .i64 2) := hx19.has (by first | fail | (simp [go_sem, World.cell?_alloc_past, c2_0, c2_1, rc2, rc2a, rc2b, rc2c, rc2n]; done))
  have z19 := hx19.size
  try simp at z19
  have lt_c2_c4 : w17.heap.size < w18.heap.size := by omega
  have ne_c2_c4 : ¬ w17.heap.size = w18.heap.size := by omega
  have ne_c4_c2 : ¬ w18.heap.size = w17.heap.size := by omega
  replace rc2 : w17.heap.size < w19.heap.size := by omega
  replace rc2a : w17.heap.size < w19.heap.size + 1 := by omega
  replace rc2b : w17.heap.size < w19.heap.size + 1 + 1 := by omega
  replace rc2c : w17.heap.size < w19.heap.size + 1 + 1 + 1 := by omega
  replace rc2n : ¬ w17.heap.size = w19.heap.size := by omega
  have rc4 : w18.heap.size < w19.heap.size := by omega
  have rc4a : w18.heap.size < w19.heap.size + 1 := by omega
  have rc4b : w18.heap.size < w19.heap.size + 1 + 1 := by omega
  have rc4c : w18.heap.size < w19.heap.size + 1 + 1 + 1 := by omega
  have rc4n : ¬ w18.heap.size = w19.heap.size := by omega
  replace HY := Lib.hid (HY.out.ext (Ext.trans (by repeat (first | with_reducible exact Ext.refl _ | with_reducible refine Ext.drew ?_ | with_reducible refine Ext.drewN ?_ _ | with_reducible refine Ext.alloc ?_ _ | with_reducible refine Ext.setCell ?_ (by first | omega | (simp; done) | (simp; omega)) _)) hx19))
  have X19 : Hid (Ext w w19) := Lib.hid (Ext.trans (by repeat (first | with_reducible exact X18.out | with_reducible refine Ext.drew ?_ | with_reducible refine Ext.drewN ?_ _ | with_reducible refine Ext.alloc ?_ _ | with_reducible refine Ext.setCell ?_ (by first | omega | (simp; done) | (simp; omega)) _)) hx19)
  clear X18 hx19 z19
  go_wp2_with fail
  (with_reducible refine (kSameBytes_eq A6 _ 4 c6 4 4 [3, 0, 57, 0] (byt_of rfl) _ (HY.out.ext (by repeat (first | with_reducible exact Ext.refl _ | with_reducible refine Ext.drew ?_ | with_reducible refine Ext.drewN ?_ _ | with_reducible refine Ext.alloc ?_ _ | with_reducible refine Ext.setCell ?_ (by first | omega | (simp; done) | (simp; omega)) _))).sl (by_newA _ [3, 0, 57, 0] 4 _ _ (by first | rfl | (simp [by_]; done)) (by first | rfl | (simp; done)) rfl (by omega))).mono ?_)
  rintro e w_1 ⟨rfl, rfl⟩
  go_wp2_with fail
  (with_reducible refine (awake24_any _).mono ?_)
  rintro e w20 ⟨rfl, hx20⟩
  have z20 := hx20.size
  try simp at z20
  replace HY := Lib.hid (HY.out.ext (Ext.trans (by repeat (first | with_reducible exact Ext.refl _ | with_reducible refine Ext.drew ?_ | with_reducible refine Ext.drewN ?_ _ | with_reducible refine Ext.alloc ?_ _ | with_reducible refine Ext.setCell ?_ (by first | omega | (simp; done) | (simp; omega)) _)) hx20))
  have X20 : Hid (Ext w w20) := Lib.hid (Ext.trans (by repeat (first | with_reducible exact X19.out | with_reducible refine Ext.drew ?_ | with_reducible refine Ext.drewN ?_ _ | with_reducible refine Ext.alloc ?_ _ | with_reducible refine Ext.setCell ?_ (by first | omega | (simp; done) | (simp; omega)) _)) hx20)
  clear c2_1 c2_0 c4_1 c4_0 rc2 rc2a rc2b rc2c rc2n rc4 rc4a rc4b rc4c rc4n X19 hx20 z20
  go_wp2_with fail
  go_ret
  exact ⟨rfl, (by repeat (first | with_reducible exact X20.out | with_reducible refine Ext.drew ?_ | with_reducible refine Ext.drewN ?_ _ | with_reducible refine Ext.alloc ?_ _ | with_reducible refine Ext.setCell ?_ (by first | omega | (simp; done) | (simp; omega)) _))⟩
end Go.Proofs.Ytlgjdeggbcgbnaa
