/- law15: HopKnown returns true. Conditions: none. -/
import Derived.Test.YtjdpgapmdmpjjaaHopBytesW
set_option linter.unusedVariables false
set_option linter.unusedSimpArgs false
namespace Go.Proofs.Ytjdpgapmdmpjjaa
open Go.RowKit Go.ChangeShapes Go.WideShapes Go.Deep Go.Joins

theorem by_new (w : World) (L : List Nat) (n : Nat) (hl : L.length = n) (hn : n ≤ 1000000) : Sl (w.alloc (.cells (by_ L).toArray 5)) 1 (some ⟨w.heap.size, 0, none⟩) n n (by_ L) := by
  have := sl_new w 5 1 (by_ L).toArray n (by rw [List.size_toArray, by_len, hl]; omega) hn
  simpa using this
theorem byt_of {L : List Nat} (h : L.all (fun x => decide (x < 256)) = true) : Byt L := by
  intro x hx
  have h1 := List.all_eq_true.1 h x hx
  simpa using h1
set_option maxRecDepth 100000 in
set_option maxHeartbeats 4000000 in
theorem reads15_ev (A : Option Addr) (n c : Nat) (L : List Nat) (R : List (Int × Int × Int × Int)) (e a : Int) (w : World) (hB : Byt L) (hs : Sl w 1 A n c (by_ L)) (hn : L.length = n) (hL : L.length < 1000000) (hnil : A = none → c = 0) (hF : (R, e, a) = hopRV L) :
    Calls Try.prog 71 #[.slice A n c] w fun r w' => r = .returned (.agg #[.int .i64 e, .int .i64 a]) ∧ Ext w w' := by
  subst hn
  have HS := Lib.hid hs
  have HB := Lib.hid hB
  have HN := Lib.hid hnil
  have HF := Lib.hid hF
  clear hs hB hnil hF
  go_enter Try.func71, Try.ntmps71
  go_wp2_with fail
  (with_reducible refine (hopRead_ev A c L R e a HB.out (by omega) HN.out _ (HS.out.ext (by repeat (first | with_reducible exact Ext.refl _ | with_reducible refine Ext.drew ?_ | with_reducible refine Ext.drewN ?_ _ | with_reducible refine Ext.alloc ?_ _ | with_reducible refine Ext.setCell ?_ (by first | omega | (simp; done) | (simp; omega)) _))) HF.out).mono ?_)
  rintro e w1 ⟨A2, c2, rfl, _, _, hx1⟩
  have c0_0f : w1.frozen? ⟨w.heap.size, 0, none⟩ = false := hx1.froz (v := .int .i64 0) (by first | fail | (simp [go_sem, World.cell?_alloc_past]; done)) (by first | fail | (simp [go_sem, World.cell?_alloc_past]; done))
  have c0_1f : w1.frozen? ⟨w.heap.size, 1, none⟩ = false := hx1.froz (v := .int .i64 0) (by first | fail | (simp [go_sem, World.cell?_alloc_past]; done)) (by first | fail | (simp [go_sem, World.cell?_alloc_past]; done))
  have c0_0 : w1.cell? ⟨w.heap.size, 0, none⟩ = some (.int .i64 0) := hx1.has (by first | fail | (simp [go_sem, World.cell?_alloc_past]; done))
  have c0_1 : w1.cell? ⟨w.heap.size, 1, none⟩ = some (.int .i64 0) := hx1.has (by first | fail | (simp [go_sem, World.cell?_alloc_past]; done))
  have z1 := hx1.size
  try simp at z1
  have rc0 : w.heap.size < w1.heap.size := by omega
  have rc0a : w.heap.size < w1.heap.size + 1 := by omega
  have rc0b : w.heap.size < w1.heap.size + 1 + 1 := by omega
  have rc0c : w.heap.size < w1.heap.size + 1 + 1 + 1 := by omega
  have rc0n : ¬ w.heap.size = w1.heap.size := by omega
  replace HS := Lib.hid (HS.out.ext (Ext.trans (by repeat (first | with_reducible exact Ext.refl _ | with_reducible refine Ext.drew ?_ | with_reducible refine Ext.drewN ?_ _ | with_reducible refine Ext.alloc ?_ _ | with_reducible refine Ext.setCell ?_ (by first | omega | (simp; done) | (simp; omega)) _)) hx1))
  have X1 : Hid (Ext w w1) := Lib.hid (Ext.trans (by repeat (first | with_reducible exact Ext.refl w | with_reducible refine Ext.drew ?_ | with_reducible refine Ext.drewN ?_ _ | with_reducible refine Ext.alloc ?_ _ | with_reducible refine Ext.setCell ?_ (by first | omega | (simp; done) | (simp; omega)) _)) hx1)
  clear hx1 z1
  go_wp2_with fail
  refine bodyPost_ret (v := .agg #[.int .i64 e, .int .i64 a]) (by simp [results, Try.results71, go_sem, World.cell?_alloc_past, c0_0f, c0_1f, c0_0, c0_1, rc0, rc0a, rc0b, rc0c, rc0n]; try rfl) rfl ⟨rfl, ?_⟩
  exact (by repeat (first | with_reducible exact X1.out | with_reducible refine Ext.drew ?_ | with_reducible refine Ext.drewN ?_ _ | with_reducible refine Ext.alloc ?_ _ | with_reducible refine Ext.setCell ?_ (by first | omega | (simp; done) | (simp; omega)) _))
theorem hopBytes_evn (A : Option Addr) (c n m : Nat) (l : List (Int × Int × Int × Int)) (L : List Nat) (E : Int) (w : World) (hs : Sl w 4 A n c (l.flatMap hopC)) (hw : ∀ x ∈ l, FitsH x) (hL : L = lstB l) (hE : E = (chkH l).1) (hn : l.length = n) (hm : L.length = m) : Calls Try.prog 51 #[.slice A n c] w fun r w' => ∃ A c, r = .returned (.tuple #[.slice A m c, .int .i64 E]) ∧ (A = none → c = 0) ∧ OwnN w' w.heap.size (.slice A m c) m L ∧ Ext w w' := by
  subst hn hm
  exact hopBytes_ev A c l L E w hs hw hL hE
theorem lst_300 : [1, 0, 1, 2, 172, 2] = lstB [(0, 1, 2, 300)] := by
  unfold lstB
  rw [if_pos (by rfl)]
  simp [hopB4, putL_lt, putL_ge]
set_option maxRecDepth 100000 in
set_option maxHeartbeats 4000000 in
theorem HopKnown_any (w : World) : Calls Try.prog 8 #[] w fun r w' => r = .returned (.bool true) ∧ Ext w w' := by
  have qe := flt_eql
  have qg := flt_eqg
  go_enter Try.func8, Try.ntmps8
  go_wp2_with fail
  (with_reducible refine (one15_any 0 1 2 5 _).mono ?_)
  rintro e w1 ⟨rfl, hx1⟩
  have z1 := hx1.size
  try simp at z1
  have X1 : Hid (Ext w w1) := Lib.hid (Ext.trans (by repeat (first | with_reducible exact Ext.refl w | with_reducible refine Ext.drew ?_ | with_reducible refine Ext.drewN ?_ _ | with_reducible refine Ext.alloc ?_ _ | with_reducible refine Ext.setCell ?_ (by first | omega | (simp; done) | (simp; omega)) _)) hx1)
  clear hx1 z1
  go_wp2_with fail
  (with_reducible refine (one15_any 0 1 2 4 _).mono ?_)
  rintro e w2 ⟨rfl, hx2⟩
  have z2 := hx2.size
  try simp at z2
  have X2 : Hid (Ext w w2) := Lib.hid (Ext.trans (by repeat (first | with_reducible exact X1.out | with_reducible refine Ext.drew ?_ | with_reducible refine Ext.drewN ?_ _ | with_reducible refine Ext.alloc ?_ _ | with_reducible refine Ext.setCell ?_ (by first | omega | (simp; done) | (simp; omega)) _)) hx2)
  clear X1 hx2 z2
  go_wp2_with fail
  (with_reducible refine (list15_any _ 2 2 _).mono ?_)
  rintro e w3 ⟨rfl, hx3⟩
  have z3 := hx3.size
  try simp at z3
  have X3 : Hid (Ext w w3) := Lib.hid (Ext.trans (by repeat (first | with_reducible exact X2.out | with_reducible refine Ext.drew ?_ | with_reducible refine Ext.drewN ?_ _ | with_reducible refine Ext.alloc ?_ _ | with_reducible refine Ext.setCell ?_ (by first | omega | (simp; done) | (simp; omega)) _)) hx3)
  have H1 := Lib.hid ((hops_new w2 [(0, 1, 2, 5), (0, 1, 2, 4)] 2 rfl (by omega)).ext hx3)
  clear X2 hx3 z3
  go_wp2_with fail
  (with_reducible refine (checks15_t _ 2 2 [(0, 1, 2, 5), (0, 1, 2, 4)] 9 1 _ (H1.out.ext (by repeat (first | with_reducible exact Ext.refl _ | with_reducible refine Ext.drew ?_ | with_reducible refine Ext.drewN ?_ _ | with_reducible refine Ext.alloc ?_ _ | with_reducible refine Ext.setCell ?_ (by first | omega | (simp; done) | (simp; omega)) _))) (fitsH_of rfl) rfl).mono ?_)
  rintro e w4 ⟨rfl, hx4⟩
  have z4 := hx4.size
  try simp at z4
  have X4 : Hid (Ext w w4) := Lib.hid (Ext.trans (by repeat (first | with_reducible exact X3.out | with_reducible refine Ext.drew ?_ | with_reducible refine Ext.drewN ?_ _ | with_reducible refine Ext.alloc ?_ _ | with_reducible refine Ext.setCell ?_ (by first | omega | (simp; done) | (simp; omega)) _)) hx4)
  clear H1 X3 hx4 z4
  go_wp2_with fail
  (with_reducible refine (one15_any 0 1 1 5 _).mono ?_)
  rintro e w5 ⟨rfl, hx5⟩
  have z5 := hx5.size
  try simp at z5
  have X5 : Hid (Ext w w5) := Lib.hid (Ext.trans (by repeat (first | with_reducible exact X4.out | with_reducible refine Ext.drew ?_ | with_reducible refine Ext.drewN ?_ _ | with_reducible refine Ext.alloc ?_ _ | with_reducible refine Ext.setCell ?_ (by first | omega | (simp; done) | (simp; omega)) _)) hx5)
  clear X4 hx5 z5
  go_wp2_with fail
  (with_reducible refine (list15_any _ 1 1 _).mono ?_)
  rintro e w6 ⟨rfl, hx6⟩
  have z6 := hx6.size
  try simp at z6
  have X6 : Hid (Ext w w6) := Lib.hid (Ext.trans (by repeat (first | with_reducible exact X5.out | with_reducible refine Ext.drew ?_ | with_reducible refine Ext.drewN ?_ _ | with_reducible refine Ext.alloc ?_ _ | with_reducible refine Ext.setCell ?_ (by first | omega | (simp; done) | (simp; omega)) _)) hx6)
  have H2 := Lib.hid ((hops_new w5 [(0, 1, 1, 5)] 1 rfl (by omega)).ext hx6)
  clear X5 hx6 z6
  go_wp2_with fail
  (with_reducible refine (checks15_t _ 1 1 [(0, 1, 1, 5)] 3 0 _ (H2.out.ext (by repeat (first | with_reducible exact Ext.refl _ | with_reducible refine Ext.drew ?_ | with_reducible refine Ext.drewN ?_ _ | with_reducible refine Ext.alloc ?_ _ | with_reducible refine Ext.setCell ?_ (by first | omega | (simp; done) | (simp; omega)) _))) (fitsH_of rfl) rfl).mono ?_)
  rintro e w7 ⟨rfl, hx7⟩
  have z7 := hx7.size
  try simp at z7
  have X7 : Hid (Ext w w7) := Lib.hid (Ext.trans (by repeat (first | with_reducible exact X6.out | with_reducible refine Ext.drew ?_ | with_reducible refine Ext.drewN ?_ _ | with_reducible refine Ext.alloc ?_ _ | with_reducible refine Ext.setCell ?_ (by first | omega | (simp; done) | (simp; omega)) _)) hx7)
  clear H2 X6 hx7 z7
  go_wp2_with fail
  (with_reducible refine (one15_any 0 1 2 5 _).mono ?_)
  rintro e w8 ⟨rfl, hx8⟩
  have z8 := hx8.size
  try simp at z8
  have X8 : Hid (Ext w w8) := Lib.hid (Ext.trans (by repeat (first | with_reducible exact X7.out | with_reducible refine Ext.drew ?_ | with_reducible refine Ext.drewN ?_ _ | with_reducible refine Ext.alloc ?_ _ | with_reducible refine Ext.setCell ?_ (by first | omega | (simp; done) | (simp; omega)) _)) hx8)
  clear X7 hx8 z8
  go_wp2_with fail
  (with_reducible refine (one15_any 64 1 2 4 _).mono ?_)
  rintro e w9 ⟨rfl, hx9⟩
  have z9 := hx9.size
  try simp at z9
  have X9 : Hid (Ext w w9) := Lib.hid (Ext.trans (by repeat (first | with_reducible exact X8.out | with_reducible refine Ext.drew ?_ | with_reducible refine Ext.drewN ?_ _ | with_reducible refine Ext.alloc ?_ _ | with_reducible refine Ext.setCell ?_ (by first | omega | (simp; done) | (simp; omega)) _)) hx9)
  clear X8 hx9 z9
  go_wp2_with fail
  (with_reducible refine (list15_any _ 2 2 _).mono ?_)
  rintro e w10 ⟨rfl, hx10⟩
  have z10 := hx10.size
  try simp at z10
  have X10 : Hid (Ext w w10) := Lib.hid (Ext.trans (by repeat (first | with_reducible exact X9.out | with_reducible refine Ext.drew ?_ | with_reducible refine Ext.drewN ?_ _ | with_reducible refine Ext.alloc ?_ _ | with_reducible refine Ext.setCell ?_ (by first | omega | (simp; done) | (simp; omega)) _)) hx10)
  have H3 := Lib.hid ((hops_new w9 [(0, 1, 2, 5), (64, 1, 2, 4)] 2 rfl (by omega)).ext hx10)
  clear X9 hx10 z10
  go_wp2_with fail
  (with_reducible refine (checks15_t _ 2 2 [(0, 1, 2, 5), (64, 1, 2, 4)] 3 1 _ (H3.out.ext (by repeat (first | with_reducible exact Ext.refl _ | with_reducible refine Ext.drew ?_ | with_reducible refine Ext.drewN ?_ _ | with_reducible refine Ext.alloc ?_ _ | with_reducible refine Ext.setCell ?_ (by first | omega | (simp; done) | (simp; omega)) _))) (fitsH_of rfl) rfl).mono ?_)
  rintro e w11 ⟨rfl, hx11⟩
  have z11 := hx11.size
  try simp at z11
  have X11 : Hid (Ext w w11) := Lib.hid (Ext.trans (by repeat (first | with_reducible exact X10.out | with_reducible refine Ext.drew ?_ | with_reducible refine Ext.drewN ?_ _ | with_reducible refine Ext.alloc ?_ _ | with_reducible refine Ext.setCell ?_ (by first | omega | (simp; done) | (simp; omega)) _)) hx11)
  clear H3 X10 hx11 z11
  go_wp2_with fail
  (with_reducible refine (one15_any 0 1 2 5 _).mono ?_)
  rintro e w12 ⟨rfl, hx12⟩
  have z12 := hx12.size
  try simp at z12
  have X12 : Hid (Ext w w12) := Lib.hid (Ext.trans (by repeat (first | with_reducible exact X11.out | with_reducible refine Ext.drew ?_ | with_reducible refine Ext.drewN ?_ _ | with_reducible refine Ext.alloc ?_ _ | with_reducible refine Ext.setCell ?_ (by first | omega | (simp; done) | (simp; omega)) _)) hx12)
  clear X11 hx12 z12
  go_wp2_with fail
  (with_reducible refine (list15_any _ 1 1 _).mono ?_)
  rintro e w13 ⟨rfl, hx13⟩
  have z13 := hx13.size
  try simp at z13
  have X13 : Hid (Ext w w13) := Lib.hid (Ext.trans (by repeat (first | with_reducible exact X12.out | with_reducible refine Ext.drew ?_ | with_reducible refine Ext.drewN ?_ _ | with_reducible refine Ext.alloc ?_ _ | with_reducible refine Ext.setCell ?_ (by first | omega | (simp; done) | (simp; omega)) _)) hx13)
  have H4 := Lib.hid ((hops_new w12 [(0, 1, 2, 5)] 1 rfl (by omega)).ext hx13)
  clear X12 hx13 z13
  go_wp2_with fail
  (with_reducible refine (one15_any 0 1 3 4 _).mono ?_)
  rintro e w14 ⟨rfl, hx14⟩
  have z14 := hx14.size
  try simp at z14
  replace H4 := Lib.hid (H4.out.ext (Ext.trans (by repeat (first | with_reducible exact Ext.refl _ | with_reducible refine Ext.drew ?_ | with_reducible refine Ext.drewN ?_ _ | with_reducible refine Ext.alloc ?_ _ | with_reducible refine Ext.setCell ?_ (by first | omega | (simp; done) | (simp; omega)) _)) hx14))
  have X14 : Hid (Ext w w14) := Lib.hid (Ext.trans (by repeat (first | with_reducible exact X13.out | with_reducible refine Ext.drew ?_ | with_reducible refine Ext.drewN ?_ _ | with_reducible refine Ext.alloc ?_ _ | with_reducible refine Ext.setCell ?_ (by first | omega | (simp; done) | (simp; omega)) _)) hx14)
  clear X13 hx14 z14
  go_wp2_with fail
  (with_reducible refine (adds15_ev _ 1 1 [(0, 1, 2, 5)] [] 0 1 3 4 1 9 _ (H4.out.ext (by repeat (first | with_reducible exact Ext.refl _ | with_reducible refine Ext.drew ?_ | with_reducible refine Ext.drewN ?_ _ | with_reducible refine Ext.alloc ?_ _ | with_reducible refine Ext.setCell ?_ (by first | omega | (simp; done) | (simp; omega)) _))) (by omega) (fitsH_of rfl) (fitsH_one rfl) (fun h => by cases h) rfl).mono ?_)
  rintro e w15 ⟨rfl, hx15⟩
  have z15 := hx15.size
  try simp at z15
  have X15 : Hid (Ext w w15) := Lib.hid (Ext.trans (by repeat (first | with_reducible exact X14.out | with_reducible refine Ext.drew ?_ | with_reducible refine Ext.drewN ?_ _ | with_reducible refine Ext.alloc ?_ _ | with_reducible refine Ext.setCell ?_ (by first | omega | (simp; done) | (simp; omega)) _)) hx15)
  clear H4 X14 hx15 z15
  go_wp2_with fail
  (with_reducible refine (one15_any 0 1 2 5 _).mono ?_)
  rintro e w16 ⟨rfl, hx16⟩
  have z16 := hx16.size
  try simp at z16
  have X16 : Hid (Ext w w16) := Lib.hid (Ext.trans (by repeat (first | with_reducible exact X15.out | with_reducible refine Ext.drew ?_ | with_reducible refine Ext.drewN ?_ _ | with_reducible refine Ext.alloc ?_ _ | with_reducible refine Ext.setCell ?_ (by first | omega | (simp; done) | (simp; omega)) _)) hx16)
  clear X15 hx16 z16
  go_wp2_with fail
  (with_reducible refine (adds15_ev none 0 0 [] [] 0 1 2 5 17 3 _ (Sl.nil _ _) (by omega) (fitsH_of rfl) (fitsH_one rfl) (fun _ => rfl) rfl).mono ?_)
  rintro e w17 ⟨rfl, hx17⟩
  have z17 := hx17.size
  try simp at z17
  have X17 : Hid (Ext w w17) := Lib.hid (Ext.trans (by repeat (first | with_reducible exact X16.out | with_reducible refine Ext.drew ?_ | with_reducible refine Ext.drewN ?_ _ | with_reducible refine Ext.alloc ?_ _ | with_reducible refine Ext.setCell ?_ (by first | omega | (simp; done) | (simp; omega)) _)) hx17)
  clear X16 hx17 z17
  go_wp2_with fail
  (with_reducible refine (one15_any 0 1 2 5 _).mono ?_)
  rintro e w18 ⟨rfl, hx18⟩
  have z18 := hx18.size
  try simp at z18
  have X18 : Hid (Ext w w18) := Lib.hid (Ext.trans (by repeat (first | with_reducible exact X17.out | with_reducible refine Ext.drew ?_ | with_reducible refine Ext.drewN ?_ _ | with_reducible refine Ext.alloc ?_ _ | with_reducible refine Ext.setCell ?_ (by first | omega | (simp; done) | (simp; omega)) _)) hx18)
  clear X17 hx18 z18
  go_wp2_with fail
  (with_reducible refine (list15_any _ 1 1 _).mono ?_)
  rintro e w19 ⟨rfl, hx19⟩
  have z19 := hx19.size
  try simp at z19
  have X19 : Hid (Ext w w19) := Lib.hid (Ext.trans (by repeat (first | with_reducible exact X18.out | with_reducible refine Ext.drew ?_ | with_reducible refine Ext.drewN ?_ _ | with_reducible refine Ext.alloc ?_ _ | with_reducible refine Ext.setCell ?_ (by first | omega | (simp; done) | (simp; omega)) _)) hx19)
  have H5 := Lib.hid ((hops_new w18 [(0, 1, 2, 5)] 1 rfl (by omega)).ext hx19)
  clear X18 hx19 z19
  go_wp2_with fail
  (with_reducible refine (hopRipe_ev _ 1 1 [(0, 1, 2, 5)] [] [] 0 10 3 _ (H5.out.ext (by repeat (first | with_reducible exact Ext.refl _ | with_reducible refine Ext.drew ?_ | with_reducible refine Ext.drewN ?_ _ | with_reducible refine Ext.alloc ?_ _ | with_reducible refine Ext.setCell ?_ (by first | omega | (simp; done) | (simp; omega)) _))) (by omega) (fitsH_of rfl) (fun h => by cases h) rfl).mono ?_)
  rintro e w20 ⟨Aa, ca, Ab, cb, rfl, _, _, _, _, _, hx20⟩
  have z20 := hx20.size
  try simp at z20
  have X20 : Hid (Ext w w20) := Lib.hid (Ext.trans (by repeat (first | with_reducible exact X19.out | with_reducible refine Ext.drew ?_ | with_reducible refine Ext.drewN ?_ _ | with_reducible refine Ext.alloc ?_ _ | with_reducible refine Ext.setCell ?_ (by first | omega | (simp; done) | (simp; omega)) _)) hx20)
  clear H5 X19 hx20 z20
  go_wp2_with fail
  (with_reducible refine (one15_any 0 1 2 5 _).mono ?_)
  rintro e w21 ⟨rfl, hx21⟩
  have z21 := hx21.size
  try simp at z21
  have X21 : Hid (Ext w w21) := Lib.hid (Ext.trans (by repeat (first | with_reducible exact X20.out | with_reducible refine Ext.drew ?_ | with_reducible refine Ext.drewN ?_ _ | with_reducible refine Ext.alloc ?_ _ | with_reducible refine Ext.setCell ?_ (by first | omega | (simp; done) | (simp; omega)) _)) hx21)
  clear X20 hx21 z21
  go_wp2_with fail
  (with_reducible refine (one15_any 0 1 2 6 _).mono ?_)
  rintro e w22 ⟨rfl, hx22⟩
  have z22 := hx22.size
  try simp at z22
  have X22 : Hid (Ext w w22) := Lib.hid (Ext.trans (by repeat (first | with_reducible exact X21.out | with_reducible refine Ext.drew ?_ | with_reducible refine Ext.drewN ?_ _ | with_reducible refine Ext.alloc ?_ _ | with_reducible refine Ext.setCell ?_ (by first | omega | (simp; done) | (simp; omega)) _)) hx22)
  clear X21 hx22 z22
  go_wp2_with fail
  (with_reducible refine (one15_any 0 2 1 7 _).mono ?_)
  rintro e w23 ⟨rfl, hx23⟩
  have z23 := hx23.size
  try simp at z23
  have X23 : Hid (Ext w w23) := Lib.hid (Ext.trans (by repeat (first | with_reducible exact X22.out | with_reducible refine Ext.drew ?_ | with_reducible refine Ext.drewN ?_ _ | with_reducible refine Ext.alloc ?_ _ | with_reducible refine Ext.setCell ?_ (by first | omega | (simp; done) | (simp; omega)) _)) hx23)
  clear X22 hx23 z23
  go_wp2_with fail
  (with_reducible refine (list15_any _ 3 3 _).mono ?_)
  rintro e w24 ⟨rfl, hx24⟩
  have z24 := hx24.size
  try simp at z24
  have X24 : Hid (Ext w w24) := Lib.hid (Ext.trans (by repeat (first | with_reducible exact X23.out | with_reducible refine Ext.drew ?_ | with_reducible refine Ext.drewN ?_ _ | with_reducible refine Ext.alloc ?_ _ | with_reducible refine Ext.setCell ?_ (by first | omega | (simp; done) | (simp; omega)) _)) hx24)
  have H6 := Lib.hid ((hops_new w23 [(0, 1, 2, 5), (0, 1, 2, 6), (0, 2, 1, 7)] 3 rfl (by omega)).ext hx24)
  clear X23 hx24 z24
  go_wp2_with fail
  refine wp_region_held_drew (S := fun w' => True) (by kernel_rfl) (by first | exact trivial | (simp [go_sem, World.cell?_alloc_past]; done)) (fun hHeld => ?_)
  (refine' take_in 0 rfl (by kernel_rfl) (by kernel_rfl) (by kernel_rfl) (fun _ _ _ h => h) (by rfl) (by assumption) ?_ ?_; rotate_left; focus (intro w hSw; (try dsimp only at hSw); go_simp; try with_reducible rfl)); try simp only [Act.put, List.setIfInBounds_toArray, List.set_cons_zero, List.set_cons_succ]
  refine' next_in 1 rfl (by kernel_rfl) (by rfl) (fun K hK => ?_)
  go_simp
  (with_reducible refine (hopCount_ev _ 3 3 [(0, 1, 2, 5), (0, 1, 2, 6), (0, 2, 1, 7)] 0 1 2 2 _ (H6.out.ext (by repeat (first | with_reducible exact Ext.refl _ | with_reducible refine Ext.drew ?_ | with_reducible refine Ext.drewN ?_ _ | with_reducible refine Ext.alloc ?_ _ | with_reducible refine Ext.setCell ?_ (by first | omega | (simp; done) | (simp; omega)) _))) (by omega) (fitsH_of rfl) (small_fits (by decide) (by decide)) (small_fits (by decide) (by decide)) (small_fits (by decide) (by decide)) rfl).mono ?_)
  rintro e w25 ⟨rfl, hx25⟩
  have z25 := hx25.size
  try simp at z25
  replace H6 := Lib.hid (H6.out.ext (Ext.trans (by repeat (first | with_reducible exact Ext.refl _ | with_reducible refine Ext.drew ?_ | with_reducible refine Ext.drewN ?_ _ | with_reducible refine Ext.alloc ?_ _ | with_reducible refine Ext.setCell ?_ (by first | omega | (simp; done) | (simp; omega)) _)) hx25))
  have X25 : Hid (Ext w w25) := Lib.hid (Ext.trans (by repeat (first | with_reducible exact X24.out | with_reducible refine Ext.drew ?_ | with_reducible refine Ext.drewN ?_ _ | with_reducible refine Ext.alloc ?_ _ | with_reducible refine Ext.setCell ?_ (by first | omega | (simp; done) | (simp; omega)) _)) hx25)
  clear X24 hx25 z25
  refine hK.out _ _ (by (first | exact trivial | (simp [go_sem, World.cell?_alloc_past]; done))) (fun hHeld => ?_); clear hK K; try simp only [Act.put, List.setIfInBounds_toArray, List.set_cons_zero, List.set_cons_succ]
  (refine' take_in 2 rfl (by kernel_rfl) (by kernel_rfl) (by kernel_rfl) (fun _ _ _ h => h) (by rfl) (by assumption) ?_ ?_; rotate_left; focus (intro w hSw; (try dsimp only at hSw); go_simp; try with_reducible rfl)); try simp only [Act.put, List.setIfInBounds_toArray, List.set_cons_zero, List.set_cons_succ]
  (refine' take_in 3 rfl (by kernel_rfl) (by kernel_rfl) (by kernel_rfl) (fun _ _ _ h => h) (by rfl) (by assumption) ?_ ?_; rotate_left; focus (intro w hSw; (try dsimp only at hSw); go_simp; try with_reducible rfl)); try simp only [Act.put, List.setIfInBounds_toArray, List.set_cons_zero, List.set_cons_succ]
  (refine' take_in 4 rfl (by kernel_rfl) (by kernel_rfl) (by kernel_rfl) (fun _ _ _ h => h) (by rfl) (by assumption) ?_ ?_; rotate_left; focus (intro w hSw; (try dsimp only at hSw); go_simp; try with_reducible rfl)); try simp only [Act.put, List.setIfInBounds_toArray, List.set_cons_zero, List.set_cons_succ]
  (refine' take_in 6 rfl (by kernel_rfl) (by kernel_rfl) (by kernel_rfl) (fun _ _ _ h => h) (by rfl) (by assumption) ?_ ?_; rotate_left; focus (intro w hSw; (try dsimp only at hSw); go_simp; try with_reducible rfl)); try simp only [Act.put, List.setIfInBounds_toArray, List.set_cons_zero, List.set_cons_succ]
  (refine' take_in 7 rfl (by kernel_rfl) (by kernel_rfl) (by kernel_rfl) (fun _ _ _ h => h) (by rfl) (by assumption) ?_ ?_; rotate_left; focus (intro w hSw; (try dsimp only at hSw); go_simp; try with_reducible rfl)); try simp only [Act.put, List.setIfInBounds_toArray, List.set_cons_zero, List.set_cons_succ]
  refine' next_in 5 rfl (by kernel_rfl) (by rfl) (fun K hK => ?_)
  go_simp
  (with_reducible refine (hopInto_ev _ 3 3 [(0, 1, 2, 5), (0, 1, 2, 6), (0, 2, 1, 7)] [(0, 2, 1, 7)] 0 1 _ (H6.out.ext (by repeat (first | with_reducible exact Ext.refl _ | with_reducible refine Ext.drew ?_ | with_reducible refine Ext.drewN ?_ _ | with_reducible refine Ext.alloc ?_ _ | with_reducible refine Ext.setCell ?_ (by first | omega | (simp; done) | (simp; omega)) _))) (by omega) rfl).mono ?_)
  rintro e w26 ⟨A8, c8, rfl, _, hO8, hx26⟩
  have z26 := hx26.size
  try simp at z26
  replace H6 := Lib.hid (H6.out.ext (Ext.trans (by repeat (first | with_reducible exact Ext.refl _ | with_reducible refine Ext.drew ?_ | with_reducible refine Ext.drewN ?_ _ | with_reducible refine Ext.alloc ?_ _ | with_reducible refine Ext.setCell ?_ (by first | omega | (simp; done) | (simp; omega)) _)) hx26))
  have X26 : Hid (Ext w w26) := Lib.hid (Ext.trans (by repeat (first | with_reducible exact X25.out | with_reducible refine Ext.drew ?_ | with_reducible refine Ext.drewN ?_ _ | with_reducible refine Ext.alloc ?_ _ | with_reducible refine Ext.setCell ?_ (by first | omega | (simp; done) | (simp; omega)) _)) hx26)
  have H8 := Lib.hid hO8
  clear X25 hx26 z26 hO8
  refine hK.out _ _ (by (first | exact trivial | (simp [go_sem, World.cell?_alloc_past]; done))) (fun hHeld => ?_); clear hK K; try simp only [Act.put, List.setIfInBounds_toArray, List.set_cons_zero, List.set_cons_succ]
  refine' next_in 8 rfl (by kernel_rfl) (by rfl) (fun K hK => ?_)
  go_simp
  (with_reducible refine (kSameHops_eq A8 (some ⟨w23.heap.size, 8, none⟩) 1 c8 1 1 [(0, 2, 1, 7)] _ (H8.out.ext (by repeat (first | with_reducible exact Ext.refl _ | with_reducible refine Ext.drew ?_ | with_reducible refine Ext.drewN ?_ _ | with_reducible refine Ext.alloc ?_ _ | with_reducible refine Ext.setCell ?_ (by first | omega | (simp; done) | (simp; omega)) _))).sl (by have h := Sl.hdrop (H6.out.ext (by repeat (first | with_reducible exact Ext.refl _ | with_reducible refine Ext.drew ?_ | with_reducible refine Ext.drewN ?_ _ | with_reducible refine Ext.alloc ?_ _ | with_reducible refine Ext.setCell ?_ (by first | omega | (simp; done) | (simp; omega)) _))) (show 2 ≤ 3 by omega); simpa [Addr.add] using h)).mono ?_)
  rintro e w27 ⟨rfl, hx27⟩
  have z27 := hx27.size
  try simp at z27
  have X27 : Hid (Ext w w27) := Lib.hid (Ext.trans (by repeat (first | with_reducible exact X26.out | with_reducible refine Ext.drew ?_ | with_reducible refine Ext.drewN ?_ _ | with_reducible refine Ext.alloc ?_ _ | with_reducible refine Ext.setCell ?_ (by first | omega | (simp; done) | (simp; omega)) _)) hx27)
  clear H6 H8 X26 hx27 z27
  refine hK.out _ _ (by (first | exact trivial | (simp [go_sem, World.cell?_alloc_past]; done))) (fun hHeld => ?_); clear hK K; try simp only [Act.put, List.setIfInBounds_toArray, List.set_cons_zero, List.set_cons_succ]
  (refine' take_in 9 rfl (by kernel_rfl) (by kernel_rfl) (by kernel_rfl) (fun _ _ _ h => h) (by rfl) (by assumption) ?_ ?_; rotate_left; focus (intro w hSw; (try dsimp only at hSw); go_simp; try with_reducible rfl)); try simp only [Act.put, List.setIfInBounds_toArray, List.set_cons_zero, List.set_cons_succ]
  (refine' take_in 10 rfl (by kernel_rfl) (by kernel_rfl) (by kernel_rfl) (fun _ _ _ h => h) (by rfl) (by assumption) ?_ ?_; rotate_left; focus (intro w hSw; (try dsimp only at hSw); go_simp; try with_reducible rfl)); try simp only [Act.put, List.setIfInBounds_toArray, List.set_cons_zero, List.set_cons_succ]
  refine wpAnyH_done (by kernel_rfl) ?_ _
  go_wp2_with fail
  (with_reducible refine (one15_any 0 1 2 300 _).mono ?_)
  rintro e w28 ⟨rfl, hx28⟩
  have z28 := hx28.size
  try simp at z28
  have X28 : Hid (Ext w w28) := Lib.hid (Ext.trans (by repeat (first | with_reducible exact X27.out | with_reducible refine Ext.drew ?_ | with_reducible refine Ext.drewN ?_ _ | with_reducible refine Ext.alloc ?_ _ | with_reducible refine Ext.setCell ?_ (by first | omega | (simp; done) | (simp; omega)) _)) hx28)
  clear X27 hx28 z28
  go_wp2_with fail
  (with_reducible refine (list15_any _ 1 1 _).mono ?_)
  rintro e w29 ⟨rfl, hx29⟩
  have z29 := hx29.size
  try simp at z29
  have X29 : Hid (Ext w w29) := Lib.hid (Ext.trans (by repeat (first | with_reducible exact X28.out | with_reducible refine Ext.drew ?_ | with_reducible refine Ext.drewN ?_ _ | with_reducible refine Ext.alloc ?_ _ | with_reducible refine Ext.setCell ?_ (by first | omega | (simp; done) | (simp; omega)) _)) hx29)
  have H9 := Lib.hid ((hops_new w28 [(0, 1, 2, 300)] 1 rfl (by omega)).ext hx29)
  clear X28 hx29 z29
  go_wp2_with fail
  (with_reducible refine (hopBytes_evn _ 1 1 6 [(0, 1, 2, 300)] [1, 0, 1, 2, 172, 2] 0 _ (H9.out.ext (by repeat (first | with_reducible exact Ext.refl _ | with_reducible refine Ext.drew ?_ | with_reducible refine Ext.drewN ?_ _ | with_reducible refine Ext.alloc ?_ _ | with_reducible refine Ext.setCell ?_ (by first | omega | (simp; done) | (simp; omega)) _))) (fitsH_of rfl) lst_300 rfl rfl rfl).mono ?_)
  rintro e w30 ⟨A9, c9, rfl, _, hO9, hx30⟩
  have z30 := hx30.size
  try simp at z30
  have X30 : Hid (Ext w w30) := Lib.hid (Ext.trans (by repeat (first | with_reducible exact X29.out | with_reducible refine Ext.drew ?_ | with_reducible refine Ext.drewN ?_ _ | with_reducible refine Ext.alloc ?_ _ | with_reducible refine Ext.setCell ?_ (by first | omega | (simp; done) | (simp; omega)) _)) hx30)
  have HY := Lib.hid hO9
  clear H9 X29 hx30 z30 hO9
  go_wp2_with fail
  have hN0 : Sl (w30.alloc (.cells #[.int .u8 1, .int .u8 0, .int .u8 1, .int .u8 2, .int .u8 172, .int .u8 2] 5)) 1 (some ⟨w30.heap.size, 0, none⟩) 6 6 (by_ [1, 0, 1, 2, 172, 2]) := by_new w30 [1, 0, 1, 2, 172, 2] 6 rfl (by omega)
  (with_reducible refine (kSameBytes_eq A9 _ 6 c9 6 6 [1, 0, 1, 2, 172, 2] (byt_of rfl) _ (HY.out.ext (by repeat (first | with_reducible exact Ext.refl _ | with_reducible refine Ext.drew ?_ | with_reducible refine Ext.drewN ?_ _ | with_reducible refine Ext.alloc ?_ _ | with_reducible refine Ext.setCell ?_ (by first | omega | (simp; done) | (simp; omega)) _))).sl hN0).mono ?_)
  rintro e w_1 ⟨rfl, rfl⟩
  clear hN0
  go_wp2_with fail
  have hN1 : Sl ((w30.alloc (.cells #[.int .u8 1, .int .u8 0, .int .u8 1, .int .u8 2, .int .u8 172, .int .u8 2] 5)).alloc (.cells #[.int .u8 1, .int .u8 0, .int .u8 1, .int .u8 1, .int .u8 5] 5)) 1 (some ⟨w30.heap.size + 1, 0, none⟩) 5 5 (by_ [1, 0, 1, 1, 5]) := (by have h := by_new (w30.alloc (.cells #[.int .u8 1, .int .u8 0, .int .u8 1, .int .u8 2, .int .u8 172, .int .u8 2] 5)) [1, 0, 1, 1, 5] 5 rfl (by omega); rwa [show (w30.alloc (.cells #[.int .u8 1, .int .u8 0, .int .u8 1, .int .u8 2, .int .u8 172, .int .u8 2] 5)).heap.size = w30.heap.size + 1 from by simp] at h)
  (with_reducible refine (reads15_ev _ 5 5 [1, 0, 1, 1, 5] [] 3 3 _ (byt_of rfl) hN1 rfl (by decide) (fun h => by cases h) rfl).mono ?_)
  rintro e w31 ⟨rfl, hx31⟩
  have z31 := hx31.size
  try simp at z31
  replace HY := Lib.hid (HY.out.ext (Ext.trans (by repeat (first | with_reducible exact Ext.refl _ | with_reducible refine Ext.drew ?_ | with_reducible refine Ext.drewN ?_ _ | with_reducible refine Ext.alloc ?_ _ | with_reducible refine Ext.setCell ?_ (by first | omega | (simp; done) | (simp; omega)) _)) hx31))
  have X31 : Hid (Ext w w31) := Lib.hid (Ext.trans (by repeat (first | with_reducible exact X30.out | with_reducible refine Ext.drew ?_ | with_reducible refine Ext.drewN ?_ _ | with_reducible refine Ext.alloc ?_ _ | with_reducible refine Ext.setCell ?_ (by first | omega | (simp; done) | (simp; omega)) _)) hx31)
  clear X30 hx31 z31
  clear hN1
  go_wp2_with fail
  have hN2 : Sl (w31.alloc (.cells #[.int .u8 2, .int .u8 0, .int .u8 1, .int .u8 2, .int .u8 5, .int .u8 0, .int .u8 1, .int .u8 2, .int .u8 4] 5)) 1 (some ⟨w31.heap.size, 0, none⟩) 9 9 (by_ [2, 0, 1, 2, 5, 0, 1, 2, 4]) := by_new w31 [2, 0, 1, 2, 5, 0, 1, 2, 4] 9 rfl (by omega)
  (with_reducible refine (reads15_ev _ 9 9 [2, 0, 1, 2, 5, 0, 1, 2, 4] [] 9 8 _ (byt_of rfl) hN2 rfl (by decide) (fun h => by cases h) rfl).mono ?_)
  rintro e w32 ⟨rfl, hx32⟩
  have z32 := hx32.size
  try simp at z32
  replace HY := Lib.hid (HY.out.ext (Ext.trans (by repeat (first | with_reducible exact Ext.refl _ | with_reducible refine Ext.drew ?_ | with_reducible refine Ext.drewN ?_ _ | with_reducible refine Ext.alloc ?_ _ | with_reducible refine Ext.setCell ?_ (by first | omega | (simp; done) | (simp; omega)) _)) hx32))
  have X32 : Hid (Ext w w32) := Lib.hid (Ext.trans (by repeat (first | with_reducible exact X31.out | with_reducible refine Ext.drew ?_ | with_reducible refine Ext.drewN ?_ _ | with_reducible refine Ext.alloc ?_ _ | with_reducible refine Ext.setCell ?_ (by first | omega | (simp; done) | (simp; omega)) _)) hx32)
  clear X31 hx32 z32
  clear hN2
  go_wp2_with fail
  have hN3 : Sl (w32.alloc (.cells #[.int .u8 1, .int .u8 64] 5)) 1 (some ⟨w32.heap.size, 0, none⟩) 2 2 (by_ [1, 64]) := by_new w32 [1, 64] 2 rfl (by omega)
  (with_reducible refine (reads15_ev _ 2 2 [1, 64] [] 3 1 _ (byt_of rfl) hN3 rfl (by decide) (fun h => by cases h) rfl).mono ?_)
  rintro e w33 ⟨rfl, hx33⟩
  have z33 := hx33.size
  try simp at z33
  replace HY := Lib.hid (HY.out.ext (Ext.trans (by repeat (first | with_reducible exact Ext.refl _ | with_reducible refine Ext.drew ?_ | with_reducible refine Ext.drewN ?_ _ | with_reducible refine Ext.alloc ?_ _ | with_reducible refine Ext.setCell ?_ (by first | omega | (simp; done) | (simp; omega)) _)) hx33))
  have X33 : Hid (Ext w w33) := Lib.hid (Ext.trans (by repeat (first | with_reducible exact X32.out | with_reducible refine Ext.drew ?_ | with_reducible refine Ext.drewN ?_ _ | with_reducible refine Ext.alloc ?_ _ | with_reducible refine Ext.setCell ?_ (by first | omega | (simp; done) | (simp; omega)) _)) hx33)
  clear X32 hx33 z33
  clear hN3
  go_wp2_with fail
  (with_reducible refine (awake15_any _).mono ?_)
  rintro e w34 ⟨rfl, hx34⟩
  have z34 := hx34.size
  try simp at z34
  replace HY := Lib.hid (HY.out.ext (Ext.trans (by repeat (first | with_reducible exact Ext.refl _ | with_reducible refine Ext.drew ?_ | with_reducible refine Ext.drewN ?_ _ | with_reducible refine Ext.alloc ?_ _ | with_reducible refine Ext.setCell ?_ (by first | omega | (simp; done) | (simp; omega)) _)) hx34))
  have X34 : Hid (Ext w w34) := Lib.hid (Ext.trans (by repeat (first | with_reducible exact X33.out | with_reducible refine Ext.drew ?_ | with_reducible refine Ext.drewN ?_ _ | with_reducible refine Ext.alloc ?_ _ | with_reducible refine Ext.setCell ?_ (by first | omega | (simp; done) | (simp; omega)) _)) hx34)
  clear X33 hx34 z34
  go_wp2_with fail
  go_ret
  exact ⟨rfl, (by repeat (first | with_reducible exact X34.out | with_reducible refine Ext.drew ?_ | with_reducible refine Ext.drewN ?_ _ | with_reducible refine Ext.alloc ?_ _ | with_reducible refine Ext.setCell ?_ (by first | omega | (simp; done) | (simp; omega)) _))⟩
end Go.Proofs.Ytjdpgapmdmpjjaa
