/- law15: HopLists returns true, whatever comes in. Conditions: none but those of the arguments' types. -/
import Derived.Test.YtjdpgapmdmpjjaaHop11
import Derived.Test.YtjdpgapmdmpjjaaHopOpen
set_option linter.unusedVariables false
set_option linter.unusedSimpArgs false
namespace Go.Proofs.Ytjdpgapmdmpjjaa
open Go.RowKit Go.ChangeShapes Go.WideShapes Go.Deep Go.Joins

theorem OwnHop.but {S : Nat → Prop} {w w' : World} {base n c m : Nat} {A : Option Addr} {l : List (Int × Int × Int × Int)} (h : OwnHop w base (.slice A m c) n l) (hx : But S w w') (hS : ∀ k o s, A = some ⟨k, o, s⟩ → ¬ S k) : OwnHop w' base (.slice A m c) n l := by
  refine own_but h hx (fun j hj => ?_)
  cases A with
  | none => cases hj
  | some a => obtain ⟨b, o, s⟩ := a
              injection hj with hj
              have hj2 : b = j := hj
              subst hj2
              exact hS b o s rfl
theorem hopCount_ev (A : Option Addr) (n c : Nat) (l : List (Int × Int × Int × Int)) (ow sr d cv : Int) (w : World) (h : Sl w 4 A n c (l.flatMap hopC)) (hn : n < 1099511627776) (hw : ∀ x ∈ l, FitsH x) (f0 : Fits .i64 ow) (f1 : Fits .i64 sr) (f2 : Fits .i64 d) (hv : cv = cntL l ow sr d) :
    Calls Try.prog 21 #[.slice A n c, .int .i64 ow, .int .i64 sr, .int .i64 d] w fun e w' => e = .returned (.int .i64 cv) ∧ Ext w w' := by
  rw [hv]
  exact hopCount_any A n c l ow sr d w h hn (fits_k hw) f0 f1 f2
theorem hopInto_ev (A : Option Addr) (n c : Nat) (l R : List (Int × Int × Int × Int)) (ow d : Int) (w : World) (h : Sl w 4 A n c (l.flatMap hopC)) (hn : n < 1099511627776) (hv : R = intoV l ow d) :
    Calls Try.prog 28 #[.slice A n c, .int .i64 ow, .int .i64 d] w fun e w' => ∃ A c, e = .returned (.slice A R.length c) ∧ (A = none → c = 0) ∧ OwnHop w' w.heap.size (.slice A R.length c) R.length R ∧ Ext w w' := by
  rw [hv]
  exact hopInto_any A n c l ow d w h hn
theorem rInto15_ev (A : Option Addr) (n c : Nat) (l R : List (Int × Int × Int × Int)) (ow d : Int) (w : World) (h : Sl w 4 A n c (l.flatMap hopC)) (hn : n < 1099511627776) (hv : R = intoV l ow d) :
    Calls Try.prog 29 #[.slice A n c, .int .i64 ow, .int .i64 d] w fun e w' => ∃ A c, e = .returned (.slice A R.length c) ∧ (A = none → c = 0) ∧ OwnHop w' w.heap.size (.slice A R.length c) R.length R ∧ Ext w w' := by
  rw [hv]
  exact rInto15_any A n c l ow d w h hn
set_option maxRecDepth 100000 in
set_option maxHeartbeats 4000000 in
theorem HopLists_long (A : Option Addr) (c n : Nat) (x0 x1 x2 x3 mo hh u : Int) (w : World) (hl : ¬ n ≤ 60) (hs : n ≤ 9223372036854775807) :
    Calls Try.prog 3 #[.slice A n c, .agg #[.int .i64 x0, .int .i64 x1, .int .i64 x2, .int .i64 x3], .int .i64 mo, .int .i64 hh, .int .i64 u] w fun r w' => r = .returned (.bool true) ∧ Ext w w' := by
  have hMd : (60 : Int) < (n : Int) := by omega
  clear hl
  go_enter Try.func3, Try.ntmps3
  go_wp2_with fail
  (with_reducible refine (awake15_any _).mono ?_)
  rintro e w1 ⟨rfl, hx1⟩
  have z1 := hx1.size
  try simp at z1
  have X1 : Hid (Ext w w1) := Lib.hid (Ext.trans (by repeat (first | with_reducible exact Ext.refl w | with_reducible refine Ext.drew ?_ | with_reducible refine Ext.drewN ?_ _ | with_reducible refine Ext.alloc ?_ _ | with_reducible refine Ext.setCell ?_ (by first | omega | (simp; done) | (simp; omega)) _)) hx1)
  clear hx1 z1
  go_wp2_with fail
  go_ret
  exact ⟨rfl, (by repeat (first | with_reducible exact X1.out | with_reducible refine Ext.drew ?_ | with_reducible refine Ext.drewN ?_ _ | with_reducible refine Ext.alloc ?_ _ | with_reducible refine Ext.setCell ?_ (by first | omega | (simp; done) | (simp; omega)) _))⟩
set_option maxRecDepth 100000 in
set_option maxHeartbeats 4000000 in
theorem HopLists_main (A : Option Addr) (c : Nat) (l LA LP LQ LI : List (Int × Int × Int × Int)) (x0 x1 x2 x3 mo hh u f1 f2 v cv ea er : Int) (b : Bool) (w : World) (h : Sl w 4 A l.length c (l.flatMap hopC)) (hw : ∀ x ∈ l, FitsH x) (hfx : FitsH (x0, x1, x2, x3)) (hl : l.length ≤ 60) (hf : (f1, f2) = chkH l) (hv : (v, b) = nxtV l u) (hc : cv = cntL l x0 x1 x2) (ha : (LA, ea) = addV l (x0, x1, x2, x3) mo) (hr : (LP, LQ, er) = ripV l hh u) (hi : LI = intoV l x0 x2) :
    Calls Try.prog 3 #[.slice A l.length c, .agg #[.int .i64 x0, .int .i64 x1, .int .i64 x2, .int .i64 x3], .int .i64 mo, .int .i64 hh, .int .i64 u] w fun r w' => r = .returned (.bool true) ∧ Ext w w' := by
  have hMd : ¬ (60 : Int) < (l.length : Int) := by omega
  have s1 := h.small
  have HS := Lib.hid h.low
  have HW := Lib.hid hw
  have HX := Lib.hid hfx
  have F1 := Lib.hid hf
  have F2 := Lib.hid hv
  have F3 := Lib.hid hc
  have F4 := Lib.hid ha
  have F5 := Lib.hid hr
  have F6 := Lib.hid hi
  clear h hw hfx hf hv hc ha hr hi
  go_enter Try.func3, Try.ntmps3
  go_wp2_with fail
  (with_reducible refine (kCopyHops_any A c l _ (HS.out.ext (by repeat (first | with_reducible exact Ext.refl _ | with_reducible refine Ext.drew ?_ | with_reducible refine Ext.drewN ?_ _ | with_reducible refine Ext.alloc ?_ _ | with_reducible refine Ext.setCell ?_ (by first | omega | (simp; done) | (simp; omega)) _))).sl (by omega)).mono ?_)
  rintro e w1 ⟨A1, c1, rfl, hn1, hO1, hx1⟩
  have c0_0 : w1.cell? ⟨w.heap.size, 0, none⟩ = some (.int .i64 x0) := hx1.has (by first | fail | (simp [go_sem, World.cell?_alloc_past]; done))
  have c0_1 : w1.cell? ⟨w.heap.size, 1, none⟩ = some (.int .i64 x1) := hx1.has (by first | fail | (simp [go_sem, World.cell?_alloc_past]; done))
  have c0_2 : w1.cell? ⟨w.heap.size, 2, none⟩ = some (.int .i64 x2) := hx1.has (by first | fail | (simp [go_sem, World.cell?_alloc_past]; done))
  have c0_3 : w1.cell? ⟨w.heap.size, 3, none⟩ = some (.int .i64 x3) := hx1.has (by first | fail | (simp [go_sem, World.cell?_alloc_past]; done))
  have z1 := hx1.size
  try simp at z1
  have rc0 : w.heap.size < w1.heap.size := by omega
  have rc0a : w.heap.size < w1.heap.size + 1 := by omega
  have rc0b : w.heap.size < w1.heap.size + 1 + 1 := by omega
  have rc0c : w.heap.size < w1.heap.size + 1 + 1 + 1 := by omega
  have rc0n : ¬ w.heap.size = w1.heap.size := by omega
  replace HS := Lib.hid (HS.out.ext (Ext.trans (by repeat (first | with_reducible exact Ext.refl _ | with_reducible refine Ext.drew ?_ | with_reducible refine Ext.drewN ?_ _ | with_reducible refine Ext.alloc ?_ _ | with_reducible refine Ext.setCell ?_ (by first | omega | (simp; done) | (simp; omega)) _)) hx1))
  have X1 : Hid (Ext w w1) := Lib.hid (Ext.trans (by repeat (first | with_reducible exact Ext.refl w | with_reducible refine Ext.drew ?_ | with_reducible refine Ext.drewN ?_ _ | with_reducible refine Ext.alloc ?_ _ | with_reducible refine Ext.setCell ?_ (by first | omega | (simp; done) | (simp; omega)) _)) hx1)
  have HI := Lib.hid (OwnHop.sl hO1).low
  clear hx1
  have HN := Lib.hid hn1
  clear hn1 hO1
  go_wp2_with fail
  (with_reducible refine (hopCheck_ev A1 l.length c1 l f1 f2 _ (HI.out.ext (by repeat (first | with_reducible exact Ext.refl _ | with_reducible refine Ext.drew ?_ | with_reducible refine Ext.drewN ?_ _ | with_reducible refine Ext.alloc ?_ _ | with_reducible refine Ext.setCell ?_ (by first | omega | (simp; done) | (simp; omega)) _))).sl (fits_t HW.out) F1.out).mono ?_)
  rintro e w2 ⟨rfl, hx2⟩
  replace c0_0 : w2.cell? ⟨w.heap.size, 0, none⟩ = some (.int .i64 x0) := hx2.has (by first | exact c0_0 | (simp [go_sem, World.cell?_alloc_past, c0_0, c0_1, c0_2, c0_3, rc0, rc0a, rc0b, rc0c, rc0n]; done))
  replace c0_1 : w2.cell? ⟨w.heap.size, 1, none⟩ = some (.int .i64 x1) := hx2.has (by first | exact c0_1 | (simp [go_sem, World.cell?_alloc_past, c0_0, c0_1, c0_2, c0_3, rc0, rc0a, rc0b, rc0c, rc0n]; done))
  replace c0_2 : w2.cell? ⟨w.heap.size, 2, none⟩ = some (.int .i64 x2) := hx2.has (by first | exact c0_2 | (simp [go_sem, World.cell?_alloc_past, c0_0, c0_1, c0_2, c0_3, rc0, rc0a, rc0b, rc0c, rc0n]; done))
  replace c0_3 : w2.cell? ⟨w.heap.size, 3, none⟩ = some (.int .i64 x3) := hx2.has (by first | exact c0_3 | (simp [go_sem, World.cell?_alloc_past, c0_0, c0_1, c0_2, c0_3, rc0, rc0a, rc0b, rc0c, rc0n]; done))
  have z2 := hx2.size
  try simp at z2
  replace rc0 : w.heap.size < w2.heap.size := by omega
  replace rc0a : w.heap.size < w2.heap.size + 1 := by omega
  replace rc0b : w.heap.size < w2.heap.size + 1 + 1 := by omega
  replace rc0c : w.heap.size < w2.heap.size + 1 + 1 + 1 := by omega
  replace rc0n : ¬ w.heap.size = w2.heap.size := by omega
  replace HS := Lib.hid (HS.out.ext (Ext.trans (by repeat (first | with_reducible exact Ext.refl _ | with_reducible refine Ext.drew ?_ | with_reducible refine Ext.drewN ?_ _ | with_reducible refine Ext.alloc ?_ _ | with_reducible refine Ext.setCell ?_ (by first | omega | (simp; done) | (simp; omega)) _)) hx2))
  replace HI := Lib.hid (HI.out.ext (Ext.trans (by repeat (first | with_reducible exact Ext.refl _ | with_reducible refine Ext.drew ?_ | with_reducible refine Ext.drewN ?_ _ | with_reducible refine Ext.alloc ?_ _ | with_reducible refine Ext.setCell ?_ (by first | omega | (simp; done) | (simp; omega)) _)) hx2))
  have X2 : Hid (Ext w w2) := Lib.hid (Ext.trans (by repeat (first | with_reducible exact X1.out | with_reducible refine Ext.drew ?_ | with_reducible refine Ext.drewN ?_ _ | with_reducible refine Ext.alloc ?_ _ | with_reducible refine Ext.setCell ?_ (by first | omega | (simp; done) | (simp; omega)) _)) hx2)
  clear X1 hx2
  go_wp2_with fail
  (with_reducible refine (rCheck15_ev A l.length c l f1 f2 _ (HS.out.ext (by repeat (first | with_reducible exact Ext.refl _ | with_reducible refine Ext.drew ?_ | with_reducible refine Ext.drewN ?_ _ | with_reducible refine Ext.alloc ?_ _ | with_reducible refine Ext.setCell ?_ (by first | omega | (simp; done) | (simp; omega)) _))).sl (fits_t HW.out) F1.out).mono ?_)
  rintro e w3 ⟨rfl, hx3⟩
  replace c0_0 : w3.cell? ⟨w.heap.size, 0, none⟩ = some (.int .i64 x0) := hx3.has (by first | exact c0_0 | (simp [go_sem, World.cell?_alloc_past, c0_0, c0_1, c0_2, c0_3, rc0, rc0a, rc0b, rc0c, rc0n]; done))
  replace c0_1 : w3.cell? ⟨w.heap.size, 1, none⟩ = some (.int .i64 x1) := hx3.has (by first | exact c0_1 | (simp [go_sem, World.cell?_alloc_past, c0_0, c0_1, c0_2, c0_3, rc0, rc0a, rc0b, rc0c, rc0n]; done))
  replace c0_2 : w3.cell? ⟨w.heap.size, 2, none⟩ = some (.int .i64 x2) := hx3.has (by first | exact c0_2 | (simp [go_sem, World.cell?_alloc_past, c0_0, c0_1, c0_2, c0_3, rc0, rc0a, rc0b, rc0c, rc0n]; done))
  replace c0_3 : w3.cell? ⟨w.heap.size, 3, none⟩ = some (.int .i64 x3) := hx3.has (by first | exact c0_3 | (simp [go_sem, World.cell?_alloc_past, c0_0, c0_1, c0_2, c0_3, rc0, rc0a, rc0b, rc0c, rc0n]; done))
  have z3 := hx3.size
  try simp at z3
  replace rc0 : w.heap.size < w3.heap.size := by omega
  replace rc0a : w.heap.size < w3.heap.size + 1 := by omega
  replace rc0b : w.heap.size < w3.heap.size + 1 + 1 := by omega
  replace rc0c : w.heap.size < w3.heap.size + 1 + 1 + 1 := by omega
  replace rc0n : ¬ w.heap.size = w3.heap.size := by omega
  replace HS := Lib.hid (HS.out.ext (Ext.trans (by repeat (first | with_reducible exact Ext.refl _ | with_reducible refine Ext.drew ?_ | with_reducible refine Ext.drewN ?_ _ | with_reducible refine Ext.alloc ?_ _ | with_reducible refine Ext.setCell ?_ (by first | omega | (simp; done) | (simp; omega)) _)) hx3))
  replace HI := Lib.hid (HI.out.ext (Ext.trans (by repeat (first | with_reducible exact Ext.refl _ | with_reducible refine Ext.drew ?_ | with_reducible refine Ext.drewN ?_ _ | with_reducible refine Ext.alloc ?_ _ | with_reducible refine Ext.setCell ?_ (by first | omega | (simp; done) | (simp; omega)) _)) hx3))
  have X3 : Hid (Ext w w3) := Lib.hid (Ext.trans (by repeat (first | with_reducible exact X2.out | with_reducible refine Ext.drew ?_ | with_reducible refine Ext.drewN ?_ _ | with_reducible refine Ext.alloc ?_ _ | with_reducible refine Ext.setCell ?_ (by first | omega | (simp; done) | (simp; omega)) _)) hx3)
  clear X2 hx3
  go_wp2_with fail
  (with_reducible refine (hopNext_ev A1 l.length c1 l u v b _ (HI.out.ext (by repeat (first | with_reducible exact Ext.refl _ | with_reducible refine Ext.drew ?_ | with_reducible refine Ext.drewN ?_ _ | with_reducible refine Ext.alloc ?_ _ | with_reducible refine Ext.setCell ?_ (by first | omega | (simp; done) | (simp; omega)) _))).sl (fits_t HW.out) F2.out).mono ?_)
  rintro e w4 ⟨rfl, hx4⟩
  replace c0_0 : w4.cell? ⟨w.heap.size, 0, none⟩ = some (.int .i64 x0) := hx4.has (by first | exact c0_0 | (simp [go_sem, World.cell?_alloc_past, c0_0, c0_1, c0_2, c0_3, rc0, rc0a, rc0b, rc0c, rc0n]; done))
  replace c0_1 : w4.cell? ⟨w.heap.size, 1, none⟩ = some (.int .i64 x1) := hx4.has (by first | exact c0_1 | (simp [go_sem, World.cell?_alloc_past, c0_0, c0_1, c0_2, c0_3, rc0, rc0a, rc0b, rc0c, rc0n]; done))
  replace c0_2 : w4.cell? ⟨w.heap.size, 2, none⟩ = some (.int .i64 x2) := hx4.has (by first | exact c0_2 | (simp [go_sem, World.cell?_alloc_past, c0_0, c0_1, c0_2, c0_3, rc0, rc0a, rc0b, rc0c, rc0n]; done))
  replace c0_3 : w4.cell? ⟨w.heap.size, 3, none⟩ = some (.int .i64 x3) := hx4.has (by first | exact c0_3 | (simp [go_sem, World.cell?_alloc_past, c0_0, c0_1, c0_2, c0_3, rc0, rc0a, rc0b, rc0c, rc0n]; done))
  have z4 := hx4.size
  try simp at z4
  replace rc0 : w.heap.size < w4.heap.size := by omega
  replace rc0a : w.heap.size < w4.heap.size + 1 := by omega
  replace rc0b : w.heap.size < w4.heap.size + 1 + 1 := by omega
  replace rc0c : w.heap.size < w4.heap.size + 1 + 1 + 1 := by omega
  replace rc0n : ¬ w.heap.size = w4.heap.size := by omega
  replace HS := Lib.hid (HS.out.ext (Ext.trans (by repeat (first | with_reducible exact Ext.refl _ | with_reducible refine Ext.drew ?_ | with_reducible refine Ext.drewN ?_ _ | with_reducible refine Ext.alloc ?_ _ | with_reducible refine Ext.setCell ?_ (by first | omega | (simp; done) | (simp; omega)) _)) hx4))
  replace HI := Lib.hid (HI.out.ext (Ext.trans (by repeat (first | with_reducible exact Ext.refl _ | with_reducible refine Ext.drew ?_ | with_reducible refine Ext.drewN ?_ _ | with_reducible refine Ext.alloc ?_ _ | with_reducible refine Ext.setCell ?_ (by first | omega | (simp; done) | (simp; omega)) _)) hx4))
  have X4 : Hid (Ext w w4) := Lib.hid (Ext.trans (by repeat (first | with_reducible exact X3.out | with_reducible refine Ext.drew ?_ | with_reducible refine Ext.drewN ?_ _ | with_reducible refine Ext.alloc ?_ _ | with_reducible refine Ext.setCell ?_ (by first | omega | (simp; done) | (simp; omega)) _)) hx4)
  clear X3 hx4
  go_wp2_with fail
  (with_reducible refine (rNext15_ev A l.length c l u v b _ (HS.out.ext (by repeat (first | with_reducible exact Ext.refl _ | with_reducible refine Ext.drew ?_ | with_reducible refine Ext.drewN ?_ _ | with_reducible refine Ext.alloc ?_ _ | with_reducible refine Ext.setCell ?_ (by first | omega | (simp; done) | (simp; omega)) _))).sl (fits_t HW.out) F2.out).mono ?_)
  rintro e w5 ⟨rfl, hx5⟩
  replace c0_0 : w5.cell? ⟨w.heap.size, 0, none⟩ = some (.int .i64 x0) := hx5.has (by first | exact c0_0 | (simp [go_sem, World.cell?_alloc_past, c0_0, c0_1, c0_2, c0_3, rc0, rc0a, rc0b, rc0c, rc0n]; done))
  replace c0_1 : w5.cell? ⟨w.heap.size, 1, none⟩ = some (.int .i64 x1) := hx5.has (by first | exact c0_1 | (simp [go_sem, World.cell?_alloc_past, c0_0, c0_1, c0_2, c0_3, rc0, rc0a, rc0b, rc0c, rc0n]; done))
  replace c0_2 : w5.cell? ⟨w.heap.size, 2, none⟩ = some (.int .i64 x2) := hx5.has (by first | exact c0_2 | (simp [go_sem, World.cell?_alloc_past, c0_0, c0_1, c0_2, c0_3, rc0, rc0a, rc0b, rc0c, rc0n]; done))
  replace c0_3 : w5.cell? ⟨w.heap.size, 3, none⟩ = some (.int .i64 x3) := hx5.has (by first | exact c0_3 | (simp [go_sem, World.cell?_alloc_past, c0_0, c0_1, c0_2, c0_3, rc0, rc0a, rc0b, rc0c, rc0n]; done))
  have z5 := hx5.size
  try simp at z5
  replace rc0 : w.heap.size < w5.heap.size := by omega
  replace rc0a : w.heap.size < w5.heap.size + 1 := by omega
  replace rc0b : w.heap.size < w5.heap.size + 1 + 1 := by omega
  replace rc0c : w.heap.size < w5.heap.size + 1 + 1 + 1 := by omega
  replace rc0n : ¬ w.heap.size = w5.heap.size := by omega
  replace HS := Lib.hid (HS.out.ext (Ext.trans (by repeat (first | with_reducible exact Ext.refl _ | with_reducible refine Ext.drew ?_ | with_reducible refine Ext.drewN ?_ _ | with_reducible refine Ext.alloc ?_ _ | with_reducible refine Ext.setCell ?_ (by first | omega | (simp; done) | (simp; omega)) _)) hx5))
  replace HI := Lib.hid (HI.out.ext (Ext.trans (by repeat (first | with_reducible exact Ext.refl _ | with_reducible refine Ext.drew ?_ | with_reducible refine Ext.drewN ?_ _ | with_reducible refine Ext.alloc ?_ _ | with_reducible refine Ext.setCell ?_ (by first | omega | (simp; done) | (simp; omega)) _)) hx5))
  have X5 : Hid (Ext w w5) := Lib.hid (Ext.trans (by repeat (first | with_reducible exact X4.out | with_reducible refine Ext.drew ?_ | with_reducible refine Ext.drewN ?_ _ | with_reducible refine Ext.alloc ?_ _ | with_reducible refine Ext.setCell ?_ (by first | omega | (simp; done) | (simp; omega)) _)) hx5)
  clear X4 hx5
  go_wp2_with fail
  refine wp_region_held_drew (S := fun w' => w'.cell? ⟨w.heap.size, 0, none⟩ = some (.int .i64 x0) ∧ w'.cell? ⟨w.heap.size, 1, none⟩ = some (.int .i64 x1) ∧ w'.cell? ⟨w.heap.size, 2, none⟩ = some (.int .i64 x2)) (by kernel_rfl) (by first | exact ⟨c0_0, c0_1, c0_2⟩ | (simp [go_sem, World.cell?_alloc_past, c0_0, c0_1, c0_2, c0_3, rc0, rc0a, rc0b, rc0c, rc0n]; done)) (fun hHeld => ?_)
  (refine' take_in 0 rfl (by kernel_rfl) (by kernel_rfl) (by kernel_rfl) (fun _ _ _ h => h) (by rfl) (by assumption) ?_ ?_; rotate_left; focus (intro w hSw; (try dsimp only at hSw); go_simp; try with_reducible rfl)); try simp only [Act.put, List.setIfInBounds_toArray, List.set_cons_zero, List.set_cons_succ]
  (refine' take_in 1 rfl (by kernel_rfl) (by kernel_rfl) (by kernel_rfl) (fun _ _ _ h => h) (by rfl) (by assumption) ?_ ?_; rotate_left; focus (intro w hSw; (try dsimp only at hSw); go_simp; try with_reducible rfl)); try simp only [Act.put, List.setIfInBounds_toArray, List.set_cons_zero, List.set_cons_succ]
  (refine' take_in 2 rfl (by kernel_rfl) (by kernel_rfl) (by kernel_rfl) (fun _ _ _ h => h) (by rfl) (by assumption) ?_ ?_; rotate_left; focus (intro w hSw; (try dsimp only at hSw); go_simp; try with_reducible rfl)); try simp only [Act.put, List.setIfInBounds_toArray, List.set_cons_zero, List.set_cons_succ]
  (refine' take_in 3 rfl (by kernel_rfl) (by kernel_rfl) (by kernel_rfl) (fun _ _ _ h => h) (by rfl) (by assumption) ?_ ?_; rotate_left; focus (intro w hSw; (try dsimp only at hSw); go_simp; try with_reducible rfl)); try simp only [Act.put, List.setIfInBounds_toArray, List.set_cons_zero, List.set_cons_succ]
  (refine' take_in 4 rfl (by kernel_rfl) (by kernel_rfl) (by kernel_rfl) (fun _ _ _ h => h) (by rfl) (by assumption) ?_ ?_; rotate_left; focus (intro w hSw; (try dsimp only at hSw); go_simp; try with_reducible rfl)); try simp only [Act.put, List.setIfInBounds_toArray, List.set_cons_zero, List.set_cons_succ]
  (refine' take_in 5 rfl (by kernel_rfl) (by kernel_rfl) (by kernel_rfl) (fun _ _ _ h => h) (by rfl) (by assumption) ?_ ?_; rotate_left; focus (intro w hSw; (try dsimp only at hSw); go_simp; try with_reducible rfl)); try simp only [Act.put, List.setIfInBounds_toArray, List.set_cons_zero, List.set_cons_succ]
  (refine' take_in 6 rfl (by kernel_rfl) (by kernel_rfl) (by kernel_rfl) (fun _ _ _ h => h) (by rfl) (by assumption) ?_ ?_; rotate_left; focus (intro w hSw; (try dsimp only at hSw); go_simp; try with_reducible rfl)); try simp only [Act.put, List.setIfInBounds_toArray, List.set_cons_zero, List.set_cons_succ]
  (refine' take_in 7 rfl (by kernel_rfl) (by kernel_rfl) (by kernel_rfl) (fun _ _ _ h => h) (by rfl) (by assumption) ?_ ?_; rotate_left; focus (intro w hSw; (try dsimp only at hSw); go_simp; try with_reducible rfl)); try simp only [Act.put, List.setIfInBounds_toArray, List.set_cons_zero, List.set_cons_succ]
  (refine' take_in 8 rfl (by kernel_rfl) (by kernel_rfl) (by kernel_rfl) (fun _ _ _ h => h) (by rfl) (by assumption) ?_ ?_; rotate_left; focus (intro w hSw; (try dsimp only at hSw); go_simp; try with_reducible rfl)); try simp only [Act.put, List.setIfInBounds_toArray, List.set_cons_zero, List.set_cons_succ]
  (refine' take_in 9 rfl (by kernel_rfl) (by kernel_rfl) (by kernel_rfl) (fun _ _ _ h => h) (by rfl) (by assumption) ?_ ?_; rotate_left; focus (intro w hSw; (try dsimp only at hSw); go_simp; try with_reducible rfl)); try simp only [Act.put, List.setIfInBounds_toArray, List.set_cons_zero, List.set_cons_succ]
  (refine' take_in 10 rfl (by kernel_rfl) (by kernel_rfl) (by kernel_rfl) (fun _ _ _ h => h) (by rfl) (by assumption) ?_ ?_; rotate_left; focus (intro w hSw; (try dsimp only at hSw); go_simp; try with_reducible rfl)); try simp only [Act.put, List.setIfInBounds_toArray, List.set_cons_zero, List.set_cons_succ]
  (refine' take_in 11 rfl (by kernel_rfl) (by kernel_rfl) (by kernel_rfl) (fun _ _ _ h => h) (by rfl) (by assumption) ?_ ?_; rotate_left; focus (intro w hSw; (try dsimp only at hSw); go_simp; try with_reducible rfl)); try simp only [Act.put, List.setIfInBounds_toArray, List.set_cons_zero, List.set_cons_succ]
  (refine' take_in 12 rfl (by kernel_rfl) (by kernel_rfl) (by kernel_rfl) (fun _ _ _ h => h) (by rfl) (by assumption) ?_ ?_; rotate_left; focus (intro w hSw; (try dsimp only at hSw); go_simp; try with_reducible rfl)); try simp only [Act.put, List.setIfInBounds_toArray, List.set_cons_zero, List.set_cons_succ]
  (refine' take_in 13 rfl (by kernel_rfl) (by kernel_rfl) (by kernel_rfl) (fun _ _ _ h => h) (by rfl) (by assumption) ?_ ?_; rotate_left; focus (intro w hSw; (try dsimp only at hSw); go_simp; try with_reducible rfl)); try simp only [Act.put, List.setIfInBounds_toArray, List.set_cons_zero, List.set_cons_succ]
  (refine' take_in 14 rfl (by kernel_rfl) (by kernel_rfl) (by kernel_rfl) (fun _ _ _ h => h) (by rfl) (by assumption) ?_ ?_; rotate_left; focus (intro w hSw; (try dsimp only at hSw); go_simp; try with_reducible rfl)); try simp only [Act.put, List.setIfInBounds_toArray, List.set_cons_zero, List.set_cons_succ]
  (refine' take_in 15 rfl (by kernel_rfl) (by kernel_rfl) (by kernel_rfl) (fun _ _ _ h => h) (by rfl) (by assumption) ?_ ?_; rotate_left; focus (intro w hSw; (try dsimp only at hSw); go_simp; try with_reducible rfl)); try simp only [Act.put, List.setIfInBounds_toArray, List.set_cons_zero, List.set_cons_succ]
  (refine' take_in 16 rfl (by kernel_rfl) (by kernel_rfl) (by kernel_rfl) (fun _ _ _ h => h) (by rfl) (by assumption) ?_ ?_; rotate_left; focus (intro w hSw; (try dsimp only at hSw); go_simp; try with_reducible rfl)); try simp only [Act.put, List.setIfInBounds_toArray, List.set_cons_zero, List.set_cons_succ]
  (refine' take_in 17 rfl (by kernel_rfl) (by kernel_rfl) (by kernel_rfl) (fun _ _ _ h => h) (by rfl) (by assumption) ?_ ?_; rotate_left; focus (intro w hSw; (try dsimp only at hSw); go_simp; try with_reducible rfl)); try simp only [Act.put, List.setIfInBounds_toArray, List.set_cons_zero, List.set_cons_succ]
  (refine' take_in 18 rfl (by kernel_rfl) (by kernel_rfl) (by kernel_rfl) (fun _ _ _ h => h) (by rfl) (by assumption) ?_ ?_; rotate_left; focus (intro w hSw; (try dsimp only at hSw); go_simp; try with_reducible rfl)); try simp only [Act.put, List.setIfInBounds_toArray, List.set_cons_zero, List.set_cons_succ]
  (refine' take_in 19 rfl (by kernel_rfl) (by kernel_rfl) (by kernel_rfl) (fun _ _ _ h => h) (by rfl) (by assumption) ?_ ?_; rotate_left; focus (intro w hSw; (try dsimp only at hSw); go_simp; try with_reducible rfl)); try simp only [Act.put, List.setIfInBounds_toArray, List.set_cons_zero, List.set_cons_succ]
  (refine' take_in 20 rfl (by kernel_rfl) (by kernel_rfl) (by kernel_rfl) (fun _ _ _ h => h) (by rfl) (by assumption) ?_ ?_; rotate_left; focus (intro w hSw; (try dsimp only at hSw); go_simp; try with_reducible rfl)); try simp only [Act.put, List.setIfInBounds_toArray, List.set_cons_zero, List.set_cons_succ]
  (refine' take_in 21 rfl (by kernel_rfl) (by kernel_rfl) (by kernel_rfl) (fun _ _ _ h => h) (by rfl) (by assumption) ?_ ?_; rotate_left; focus (intro w hSw; (try dsimp only at hSw); go_simp; try with_reducible rfl)); try simp only [Act.put, List.setIfInBounds_toArray, List.set_cons_zero, List.set_cons_succ]
  (refine' take_in 22 rfl (by kernel_rfl) (by kernel_rfl) (by kernel_rfl) (fun _ _ _ h => h) (by rfl) (by assumption) ?_ ?_; rotate_left; focus (intro w hSw; (try dsimp only at hSw); go_simp; try with_reducible rfl)); try simp only [Act.put, List.setIfInBounds_toArray, List.set_cons_zero, List.set_cons_succ]
  (refine' take_in 23 rfl (by kernel_rfl) (by kernel_rfl) (by kernel_rfl) (fun _ _ _ h => h) (by rfl) (by assumption) ?_ ?_; rotate_left; focus (intro w hSw; (try dsimp only at hSw); go_simp; try with_reducible rfl)); try simp only [Act.put, List.setIfInBounds_toArray, List.set_cons_zero, List.set_cons_succ]
  (refine' take_in 24 rfl (by kernel_rfl) (by kernel_rfl) (by kernel_rfl) (fun _ _ _ h => h) (by rfl) (by assumption) ?_ ?_; rotate_left; focus (intro w hSw; (try dsimp only at hSw); go_simp; try with_reducible rfl)); try simp only [Act.put, List.setIfInBounds_toArray, List.set_cons_zero, List.set_cons_succ]
  (refine' take_in 25 rfl (by kernel_rfl) (by kernel_rfl) (by kernel_rfl) (fun _ _ _ h => h) (by rfl) (by assumption) ?_ ?_; rotate_left; focus (intro w hSw; (try dsimp only at hSw); go_simp; try with_reducible rfl)); try simp only [Act.put, List.setIfInBounds_toArray, List.set_cons_zero, List.set_cons_succ]
  (refine' take_in 27 rfl (by kernel_rfl) (by kernel_rfl) (by kernel_rfl) (fun _ _ _ h => h) (by rfl) (by assumption) ?_ ?_; rotate_left; focus (intro w hSw; (try dsimp only at hSw); go_simp; try with_reducible rfl)); try simp only [Act.put, List.setIfInBounds_toArray, List.set_cons_zero, List.set_cons_succ]
  (refine' take_in 28 rfl (by kernel_rfl) (by kernel_rfl) (by kernel_rfl) (fun _ _ _ h => h) (by rfl) (by assumption) ?_ ?_; rotate_left; focus (intro w hSw; (try dsimp only at hSw); go_simp; try with_reducible rfl)); try simp only [Act.put, List.setIfInBounds_toArray, List.set_cons_zero, List.set_cons_succ]
  (refine' take_in 29 rfl (by kernel_rfl) (by kernel_rfl) (by kernel_rfl) (fun _ _ _ h => h) (by rfl) (by assumption) ?_ ?_; rotate_left; focus (intro w hSw; (try dsimp only at hSw); go_simp; try with_reducible rfl)); try simp only [Act.put, List.setIfInBounds_toArray, List.set_cons_zero, List.set_cons_succ]
  (refine' take_in 30 rfl (by kernel_rfl) (by kernel_rfl) (by kernel_rfl) (fun _ _ _ h => h) (by rfl) (by assumption) ?_ ?_; rotate_left; focus (intro w hSw; (try dsimp only at hSw); go_simp; try with_reducible rfl)); try simp only [Act.put, List.setIfInBounds_toArray, List.set_cons_zero, List.set_cons_succ]
  (refine' take_in 31 rfl (by kernel_rfl) (by kernel_rfl) (by kernel_rfl) (fun _ _ _ h => h) (by rfl) (by assumption) ?_ ?_; rotate_left; focus (intro w hSw; (try dsimp only at hSw); go_simp; try with_reducible rfl)); try simp only [Act.put, List.setIfInBounds_toArray, List.set_cons_zero, List.set_cons_succ]
  (refine' take_in 32 rfl (by kernel_rfl) (by kernel_rfl) (by kernel_rfl) (fun _ _ _ h => h) (by rfl) (by assumption) ?_ ?_; rotate_left; focus (intro w hSw; (try dsimp only at hSw); go_simp; try with_reducible rfl)); try simp only [Act.put, List.setIfInBounds_toArray, List.set_cons_zero, List.set_cons_succ]
  (refine' take_in 33 rfl (by kernel_rfl) (by kernel_rfl) (by kernel_rfl) (fun _ _ _ h => h) (by rfl) (by assumption) ?_ ?_; rotate_left; focus (intro w hSw; (try dsimp only at hSw); go_simp; try with_reducible rfl)); try simp only [Act.put, List.setIfInBounds_toArray, List.set_cons_zero, List.set_cons_succ]
  refine' next_in 26 rfl (by kernel_rfl) (by rfl) (fun K hK => ?_)
  go_simp
  (with_reducible refine (hopCount_ev A1 l.length c1 l x0 x1 x2 cv _ (HI.out.ext (by repeat (first | with_reducible exact Ext.refl _ | with_reducible refine Ext.drew ?_ | with_reducible refine Ext.drewN ?_ _ | with_reducible refine Ext.alloc ?_ _ | with_reducible refine Ext.setCell ?_ (by first | omega | (simp; done) | (simp; omega)) _))).sl (by omega) HW.out (fits_x HX.out).1 (fits_x HX.out).2.1 (fits_x HX.out).2.2.1 F3.out).mono ?_)
  rintro e w6 ⟨rfl, hx6⟩
  replace c0_0 : w6.cell? ⟨w.heap.size, 0, none⟩ = some (.int .i64 x0) := hx6.has (by first | exact c0_0 | (simp [go_sem, World.cell?_alloc_past, c0_0, c0_1, c0_2, c0_3, rc0, rc0a, rc0b, rc0c, rc0n]; done))
  replace c0_1 : w6.cell? ⟨w.heap.size, 1, none⟩ = some (.int .i64 x1) := hx6.has (by first | exact c0_1 | (simp [go_sem, World.cell?_alloc_past, c0_0, c0_1, c0_2, c0_3, rc0, rc0a, rc0b, rc0c, rc0n]; done))
  replace c0_2 : w6.cell? ⟨w.heap.size, 2, none⟩ = some (.int .i64 x2) := hx6.has (by first | exact c0_2 | (simp [go_sem, World.cell?_alloc_past, c0_0, c0_1, c0_2, c0_3, rc0, rc0a, rc0b, rc0c, rc0n]; done))
  replace c0_3 : w6.cell? ⟨w.heap.size, 3, none⟩ = some (.int .i64 x3) := hx6.has (by first | exact c0_3 | (simp [go_sem, World.cell?_alloc_past, c0_0, c0_1, c0_2, c0_3, rc0, rc0a, rc0b, rc0c, rc0n]; done))
  have z6 := hx6.size
  try simp at z6
  replace rc0 : w.heap.size < w6.heap.size := by omega
  replace rc0a : w.heap.size < w6.heap.size + 1 := by omega
  replace rc0b : w.heap.size < w6.heap.size + 1 + 1 := by omega
  replace rc0c : w.heap.size < w6.heap.size + 1 + 1 + 1 := by omega
  replace rc0n : ¬ w.heap.size = w6.heap.size := by omega
  replace HS := Lib.hid (HS.out.ext (Ext.trans (by repeat (first | with_reducible exact Ext.refl _ | with_reducible refine Ext.drew ?_ | with_reducible refine Ext.drewN ?_ _ | with_reducible refine Ext.alloc ?_ _ | with_reducible refine Ext.setCell ?_ (by first | omega | (simp; done) | (simp; omega)) _)) hx6))
  replace HI := Lib.hid (HI.out.ext (Ext.trans (by repeat (first | with_reducible exact Ext.refl _ | with_reducible refine Ext.drew ?_ | with_reducible refine Ext.drewN ?_ _ | with_reducible refine Ext.alloc ?_ _ | with_reducible refine Ext.setCell ?_ (by first | omega | (simp; done) | (simp; omega)) _)) hx6))
  have X6 : Hid (Ext w w6) := Lib.hid (Ext.trans (by repeat (first | with_reducible exact X5.out | with_reducible refine Ext.drew ?_ | with_reducible refine Ext.drewN ?_ _ | with_reducible refine Ext.alloc ?_ _ | with_reducible refine Ext.setCell ?_ (by first | omega | (simp; done) | (simp; omega)) _)) hx6)
  clear X5 hx6
  refine hK.out _ _ (by (first | exact ⟨c0_0, c0_1, c0_2⟩ | (simp [go_sem, World.cell?_alloc_past, c0_0, c0_1, c0_2, c0_3, rc0, rc0a, rc0b, rc0c, rc0n]; done))) (fun hHeld => ?_); clear hK K; try simp only [Act.put, List.setIfInBounds_toArray, List.set_cons_zero, List.set_cons_succ]
  refine' next_in 34 rfl (by kernel_rfl) (by rfl) (fun K hK => ?_)
  go_simp
  (with_reducible refine (rCount15_ev A l.length c l x0 x1 x2 cv _ (HS.out.ext (by repeat (first | with_reducible exact Ext.refl _ | with_reducible refine Ext.drew ?_ | with_reducible refine Ext.drewN ?_ _ | with_reducible refine Ext.alloc ?_ _ | with_reducible refine Ext.setCell ?_ (by first | omega | (simp; done) | (simp; omega)) _))).sl (by omega) F3.out).mono ?_)
  rintro e w7 ⟨rfl, hx7⟩
  replace c0_0 : w7.cell? ⟨w.heap.size, 0, none⟩ = some (.int .i64 x0) := hx7.has (by first | exact c0_0 | (simp [go_sem, World.cell?_alloc_past, c0_0, c0_1, c0_2, c0_3, rc0, rc0a, rc0b, rc0c, rc0n]; done))
  replace c0_1 : w7.cell? ⟨w.heap.size, 1, none⟩ = some (.int .i64 x1) := hx7.has (by first | exact c0_1 | (simp [go_sem, World.cell?_alloc_past, c0_0, c0_1, c0_2, c0_3, rc0, rc0a, rc0b, rc0c, rc0n]; done))
  replace c0_2 : w7.cell? ⟨w.heap.size, 2, none⟩ = some (.int .i64 x2) := hx7.has (by first | exact c0_2 | (simp [go_sem, World.cell?_alloc_past, c0_0, c0_1, c0_2, c0_3, rc0, rc0a, rc0b, rc0c, rc0n]; done))
  replace c0_3 : w7.cell? ⟨w.heap.size, 3, none⟩ = some (.int .i64 x3) := hx7.has (by first | exact c0_3 | (simp [go_sem, World.cell?_alloc_past, c0_0, c0_1, c0_2, c0_3, rc0, rc0a, rc0b, rc0c, rc0n]; done))
  have z7 := hx7.size
  try simp at z7
  replace rc0 : w.heap.size < w7.heap.size := by omega
  replace rc0a : w.heap.size < w7.heap.size + 1 := by omega
  replace rc0b : w.heap.size < w7.heap.size + 1 + 1 := by omega
  replace rc0c : w.heap.size < w7.heap.size + 1 + 1 + 1 := by omega
  replace rc0n : ¬ w.heap.size = w7.heap.size := by omega
  replace HS := Lib.hid (HS.out.ext (Ext.trans (by repeat (first | with_reducible exact Ext.refl _ | with_reducible refine Ext.drew ?_ | with_reducible refine Ext.drewN ?_ _ | with_reducible refine Ext.alloc ?_ _ | with_reducible refine Ext.setCell ?_ (by first | omega | (simp; done) | (simp; omega)) _)) hx7))
  replace HI := Lib.hid (HI.out.ext (Ext.trans (by repeat (first | with_reducible exact Ext.refl _ | with_reducible refine Ext.drew ?_ | with_reducible refine Ext.drewN ?_ _ | with_reducible refine Ext.alloc ?_ _ | with_reducible refine Ext.setCell ?_ (by first | omega | (simp; done) | (simp; omega)) _)) hx7))
  have X7 : Hid (Ext w w7) := Lib.hid (Ext.trans (by repeat (first | with_reducible exact X6.out | with_reducible refine Ext.drew ?_ | with_reducible refine Ext.drewN ?_ _ | with_reducible refine Ext.alloc ?_ _ | with_reducible refine Ext.setCell ?_ (by first | omega | (simp; done) | (simp; omega)) _)) hx7)
  clear X6 hx7
  refine hK.out _ _ (by (first | exact ⟨c0_0, c0_1, c0_2⟩ | (simp [go_sem, World.cell?_alloc_past, c0_0, c0_1, c0_2, c0_3, rc0, rc0a, rc0b, rc0c, rc0n]; done))) (fun hHeld => ?_); clear hK K; try simp only [Act.put, List.setIfInBounds_toArray, List.set_cons_zero, List.set_cons_succ]
  (refine' take_in 35 rfl (by kernel_rfl) (by kernel_rfl) (by kernel_rfl) (fun _ _ _ h => h) (by rfl) (by assumption) ?_ ?_; rotate_left; focus (intro w hSw; (try dsimp only at hSw); go_simp; try with_reducible rfl)); try simp only [Act.put, List.setIfInBounds_toArray, List.set_cons_zero, List.set_cons_succ]
  (refine' take_in 36 rfl (by kernel_rfl) (by kernel_rfl) (by kernel_rfl) (fun _ _ _ h => h) (by rfl) (by assumption) ?_ ?_; rotate_left; focus (intro w hSw; (try dsimp only at hSw); go_simp; try with_reducible rfl)); try simp only [Act.put, List.setIfInBounds_toArray, List.set_cons_zero, List.set_cons_succ]
  refine wpAnyH_done (by kernel_rfl) ?_ _
  go_wp2_with fail
  (with_reducible refine (hopAdd_ev A1 l.length c1 l LA x0 x1 x2 x3 mo ea _ (HI.out.ext (by repeat (first | with_reducible exact Ext.refl _ | with_reducible refine Ext.drew ?_ | with_reducible refine Ext.drewN ?_ _ | with_reducible refine Ext.alloc ?_ _ | with_reducible refine Ext.setCell ?_ (by first | omega | (simp; done) | (simp; omega)) _))).sl (by omega) HW.out HX.out HN.out F4.out).mono ?_)
  rintro e w8 ⟨A2, c2, rfl, _, hO2, hx8⟩
  replace c0_0 : w8.cell? ⟨w.heap.size, 0, none⟩ = some (.int .i64 x0) := hx8.has (by first | exact c0_0 | (simp [go_sem, World.cell?_alloc_past, c0_0, c0_1, c0_2, c0_3, rc0, rc0a, rc0b, rc0c, rc0n]; done))
  replace c0_1 : w8.cell? ⟨w.heap.size, 1, none⟩ = some (.int .i64 x1) := hx8.has (by first | exact c0_1 | (simp [go_sem, World.cell?_alloc_past, c0_0, c0_1, c0_2, c0_3, rc0, rc0a, rc0b, rc0c, rc0n]; done))
  replace c0_2 : w8.cell? ⟨w.heap.size, 2, none⟩ = some (.int .i64 x2) := hx8.has (by first | exact c0_2 | (simp [go_sem, World.cell?_alloc_past, c0_0, c0_1, c0_2, c0_3, rc0, rc0a, rc0b, rc0c, rc0n]; done))
  replace c0_3 : w8.cell? ⟨w.heap.size, 3, none⟩ = some (.int .i64 x3) := hx8.has (by first | exact c0_3 | (simp [go_sem, World.cell?_alloc_past, c0_0, c0_1, c0_2, c0_3, rc0, rc0a, rc0b, rc0c, rc0n]; done))
  have z8 := hx8.size
  try simp at z8
  replace rc0 : w.heap.size < w8.heap.size := by omega
  replace rc0a : w.heap.size < w8.heap.size + 1 := by omega
  replace rc0b : w.heap.size < w8.heap.size + 1 + 1 := by omega
  replace rc0c : w.heap.size < w8.heap.size + 1 + 1 + 1 := by omega
  replace rc0n : ¬ w.heap.size = w8.heap.size := by omega
  replace HS := Lib.hid (HS.out.ext (Ext.trans (by repeat (first | with_reducible exact Ext.refl _ | with_reducible refine Ext.drew ?_ | with_reducible refine Ext.drewN ?_ _ | with_reducible refine Ext.alloc ?_ _ | with_reducible refine Ext.setCell ?_ (by first | omega | (simp; done) | (simp; omega)) _)) hx8))
  replace HI := Lib.hid (HI.out.ext (Ext.trans (by repeat (first | with_reducible exact Ext.refl _ | with_reducible refine Ext.drew ?_ | with_reducible refine Ext.drewN ?_ _ | with_reducible refine Ext.alloc ?_ _ | with_reducible refine Ext.setCell ?_ (by first | omega | (simp; done) | (simp; omega)) _)) hx8))
  have X8 : Hid (Ext w w8) := Lib.hid (Ext.trans (by repeat (first | with_reducible exact X7.out | with_reducible refine Ext.drew ?_ | with_reducible refine Ext.drewN ?_ _ | with_reducible refine Ext.alloc ?_ _ | with_reducible refine Ext.setCell ?_ (by first | omega | (simp; done) | (simp; omega)) _)) hx8)
  have HA := Lib.hid hO2
  clear X7 hx8 hO2
  have HAi : Hid (∀ k o s, A2 = some ⟨k, o, s⟩ → w7.heap.size ≤ k ∧ k < w8.heap.size) := Lib.hid (fun k o s e => by have h := HA.out.in_ k o s e; (try simp at h); omega)
  go_wp2_with fail
  (with_reducible refine (rAdd15_ev A l.length c l LA x0 x1 x2 x3 mo ea _ (HS.out.ext (by repeat (first | with_reducible exact Ext.refl _ | with_reducible refine Ext.drew ?_ | with_reducible refine Ext.drewN ?_ _ | with_reducible refine Ext.alloc ?_ _ | with_reducible refine Ext.setCell ?_ (by first | omega | (simp; done) | (simp; omega)) _))).sl (by omega) HW.out F4.out).mono ?_)
  rintro e w9 ⟨A3, c3, rfl, _, hO3, hx9⟩
  replace c0_0 : w9.cell? ⟨w.heap.size, 0, none⟩ = some (.int .i64 x0) := hx9.has (by first | exact c0_0 | (simp [go_sem, World.cell?_alloc_past, c0_0, c0_1, c0_2, c0_3, rc0, rc0a, rc0b, rc0c, rc0n]; done))
  replace c0_2 : w9.cell? ⟨w.heap.size, 2, none⟩ = some (.int .i64 x2) := hx9.has (by first | exact c0_2 | (simp [go_sem, World.cell?_alloc_past, c0_0, c0_1, c0_2, c0_3, rc0, rc0a, rc0b, rc0c, rc0n]; done))
  have z9 := hx9.size
  try simp at z9
  replace rc0 : w.heap.size < w9.heap.size := by omega
  replace rc0a : w.heap.size < w9.heap.size + 1 := by omega
  replace rc0b : w.heap.size < w9.heap.size + 1 + 1 := by omega
  replace rc0c : w.heap.size < w9.heap.size + 1 + 1 + 1 := by omega
  replace rc0n : ¬ w.heap.size = w9.heap.size := by omega
  replace HS := Lib.hid (HS.out.ext (Ext.trans (by repeat (first | with_reducible exact Ext.refl _ | with_reducible refine Ext.drew ?_ | with_reducible refine Ext.drewN ?_ _ | with_reducible refine Ext.alloc ?_ _ | with_reducible refine Ext.setCell ?_ (by first | omega | (simp; done) | (simp; omega)) _)) hx9))
  replace HI := Lib.hid (HI.out.ext (Ext.trans (by repeat (first | with_reducible exact Ext.refl _ | with_reducible refine Ext.drew ?_ | with_reducible refine Ext.drewN ?_ _ | with_reducible refine Ext.alloc ?_ _ | with_reducible refine Ext.setCell ?_ (by first | omega | (simp; done) | (simp; omega)) _)) hx9))
  replace HA := Lib.hid (HA.out.ext (Ext.trans (by repeat (first | with_reducible exact Ext.refl _ | with_reducible refine Ext.drew ?_ | with_reducible refine Ext.drewN ?_ _ | with_reducible refine Ext.alloc ?_ _ | with_reducible refine Ext.setCell ?_ (by first | omega | (simp; done) | (simp; omega)) _)) hx9))
  have X9 : Hid (Ext w w9) := Lib.hid (Ext.trans (by repeat (first | with_reducible exact X8.out | with_reducible refine Ext.drew ?_ | with_reducible refine Ext.drewN ?_ _ | with_reducible refine Ext.alloc ?_ _ | with_reducible refine Ext.setCell ?_ (by first | omega | (simp; done) | (simp; omega)) _)) hx9)
  have HB := Lib.hid hO3
  clear c0_3 c0_1 X8 hx9 hO3
  have HBi : Hid (∀ k o s, A3 = some ⟨k, o, s⟩ → w8.heap.size ≤ k ∧ k < w9.heap.size) := Lib.hid (fun k o s e => by have h := HB.out.in_ k o s e; (try simp at h); omega)
  go_wp2_with fail
  (with_reducible refine (hopRipe_ev A1 l.length c1 l LP LQ hh u er _ (HI.out.ext (by repeat (first | with_reducible exact Ext.refl _ | with_reducible refine Ext.drew ?_ | with_reducible refine Ext.drewN ?_ _ | with_reducible refine Ext.alloc ?_ _ | with_reducible refine Ext.setCell ?_ (by first | omega | (simp; done) | (simp; omega)) _))).sl (by omega) HW.out HN.out F5.out).mono ?_)
  rintro e w10 ⟨A4, c4, A5, c5, rfl, _, _, hO4, hO5, hap, hx10⟩
  replace c0_0 : w10.cell? ⟨w.heap.size, 0, none⟩ = some (.int .i64 x0) := hx10.has (by first | exact c0_0 | (simp [go_sem, World.cell?_alloc_past, c0_0, c0_2, rc0, rc0a, rc0b, rc0c, rc0n]; done))
  replace c0_2 : w10.cell? ⟨w.heap.size, 2, none⟩ = some (.int .i64 x2) := hx10.has (by first | exact c0_2 | (simp [go_sem, World.cell?_alloc_past, c0_0, c0_2, rc0, rc0a, rc0b, rc0c, rc0n]; done))
  have z10 := hx10.size
  try simp at z10
  replace rc0 : w.heap.size < w10.heap.size := by omega
  replace rc0a : w.heap.size < w10.heap.size + 1 := by omega
  replace rc0b : w.heap.size < w10.heap.size + 1 + 1 := by omega
  replace rc0c : w.heap.size < w10.heap.size + 1 + 1 + 1 := by omega
  replace rc0n : ¬ w.heap.size = w10.heap.size := by omega
  replace HS := Lib.hid (HS.out.ext (Ext.trans (by repeat (first | with_reducible exact Ext.refl _ | with_reducible refine Ext.drew ?_ | with_reducible refine Ext.drewN ?_ _ | with_reducible refine Ext.alloc ?_ _ | with_reducible refine Ext.setCell ?_ (by first | omega | (simp; done) | (simp; omega)) _)) hx10))
  replace HI := Lib.hid (HI.out.ext (Ext.trans (by repeat (first | with_reducible exact Ext.refl _ | with_reducible refine Ext.drew ?_ | with_reducible refine Ext.drewN ?_ _ | with_reducible refine Ext.alloc ?_ _ | with_reducible refine Ext.setCell ?_ (by first | omega | (simp; done) | (simp; omega)) _)) hx10))
  replace HA := Lib.hid (HA.out.ext (Ext.trans (by repeat (first | with_reducible exact Ext.refl _ | with_reducible refine Ext.drew ?_ | with_reducible refine Ext.drewN ?_ _ | with_reducible refine Ext.alloc ?_ _ | with_reducible refine Ext.setCell ?_ (by first | omega | (simp; done) | (simp; omega)) _)) hx10))
  replace HB := Lib.hid (HB.out.ext (Ext.trans (by repeat (first | with_reducible exact Ext.refl _ | with_reducible refine Ext.drew ?_ | with_reducible refine Ext.drewN ?_ _ | with_reducible refine Ext.alloc ?_ _ | with_reducible refine Ext.setCell ?_ (by first | omega | (simp; done) | (simp; omega)) _)) hx10))
  have X10 : Hid (Ext w w10) := Lib.hid (Ext.trans (by repeat (first | with_reducible exact X9.out | with_reducible refine Ext.drew ?_ | with_reducible refine Ext.drewN ?_ _ | with_reducible refine Ext.alloc ?_ _ | with_reducible refine Ext.setCell ?_ (by first | omega | (simp; done) | (simp; omega)) _)) hx10)
  have HP := Lib.hid hO4
  have HQ := Lib.hid hO5
  clear X9 hx10 hO4 hO5
  have HPi : Hid (∀ k o s, A4 = some ⟨k, o, s⟩ → w9.heap.size ≤ k ∧ k < w10.heap.size) := Lib.hid (fun k o s e => by have h := HP.out.in_ k o s e; (try simp at h); omega)
  have HQi : Hid (∀ k o s, A5 = some ⟨k, o, s⟩ → w9.heap.size ≤ k ∧ k < w10.heap.size) := Lib.hid (fun k o s e => by have h := HQ.out.in_ k o s e; (try simp at h); omega)
  have HAP := Lib.hid hap
  clear hap
  go_wp2_with fail
  (with_reducible refine (rRipe15_ev A l.length c l LP LQ hh u er _ (HS.out.ext (by repeat (first | with_reducible exact Ext.refl _ | with_reducible refine Ext.drew ?_ | with_reducible refine Ext.drewN ?_ _ | with_reducible refine Ext.alloc ?_ _ | with_reducible refine Ext.setCell ?_ (by first | omega | (simp; done) | (simp; omega)) _))).sl (by omega) HW.out F5.out).mono ?_)
  rintro e w11 ⟨A6, c6, A7, c7, rfl, _, _, hO6, hO7, _, hx11⟩
  replace c0_0 : w11.cell? ⟨w.heap.size, 0, none⟩ = some (.int .i64 x0) := hx11.has (by first | exact c0_0 | (simp [go_sem, World.cell?_alloc_past, c0_0, c0_2, rc0, rc0a, rc0b, rc0c, rc0n]; done))
  replace c0_2 : w11.cell? ⟨w.heap.size, 2, none⟩ = some (.int .i64 x2) := hx11.has (by first | exact c0_2 | (simp [go_sem, World.cell?_alloc_past, c0_0, c0_2, rc0, rc0a, rc0b, rc0c, rc0n]; done))
  have z11 := hx11.size
  try simp at z11
  replace rc0 : w.heap.size < w11.heap.size := by omega
  replace rc0a : w.heap.size < w11.heap.size + 1 := by omega
  replace rc0b : w.heap.size < w11.heap.size + 1 + 1 := by omega
  replace rc0c : w.heap.size < w11.heap.size + 1 + 1 + 1 := by omega
  replace rc0n : ¬ w.heap.size = w11.heap.size := by omega
  replace HS := Lib.hid (HS.out.ext (Ext.trans (by repeat (first | with_reducible exact Ext.refl _ | with_reducible refine Ext.drew ?_ | with_reducible refine Ext.drewN ?_ _ | with_reducible refine Ext.alloc ?_ _ | with_reducible refine Ext.setCell ?_ (by first | omega | (simp; done) | (simp; omega)) _)) hx11))
  replace HI := Lib.hid (HI.out.ext (Ext.trans (by repeat (first | with_reducible exact Ext.refl _ | with_reducible refine Ext.drew ?_ | with_reducible refine Ext.drewN ?_ _ | with_reducible refine Ext.alloc ?_ _ | with_reducible refine Ext.setCell ?_ (by first | omega | (simp; done) | (simp; omega)) _)) hx11))
  replace HA := Lib.hid (HA.out.ext (Ext.trans (by repeat (first | with_reducible exact Ext.refl _ | with_reducible refine Ext.drew ?_ | with_reducible refine Ext.drewN ?_ _ | with_reducible refine Ext.alloc ?_ _ | with_reducible refine Ext.setCell ?_ (by first | omega | (simp; done) | (simp; omega)) _)) hx11))
  replace HB := Lib.hid (HB.out.ext (Ext.trans (by repeat (first | with_reducible exact Ext.refl _ | with_reducible refine Ext.drew ?_ | with_reducible refine Ext.drewN ?_ _ | with_reducible refine Ext.alloc ?_ _ | with_reducible refine Ext.setCell ?_ (by first | omega | (simp; done) | (simp; omega)) _)) hx11))
  replace HP := Lib.hid (HP.out.ext (Ext.trans (by repeat (first | with_reducible exact Ext.refl _ | with_reducible refine Ext.drew ?_ | with_reducible refine Ext.drewN ?_ _ | with_reducible refine Ext.alloc ?_ _ | with_reducible refine Ext.setCell ?_ (by first | omega | (simp; done) | (simp; omega)) _)) hx11))
  replace HQ := Lib.hid (HQ.out.ext (Ext.trans (by repeat (first | with_reducible exact Ext.refl _ | with_reducible refine Ext.drew ?_ | with_reducible refine Ext.drewN ?_ _ | with_reducible refine Ext.alloc ?_ _ | with_reducible refine Ext.setCell ?_ (by first | omega | (simp; done) | (simp; omega)) _)) hx11))
  have X11 : Hid (Ext w w11) := Lib.hid (Ext.trans (by repeat (first | with_reducible exact X10.out | with_reducible refine Ext.drew ?_ | with_reducible refine Ext.drewN ?_ _ | with_reducible refine Ext.alloc ?_ _ | with_reducible refine Ext.setCell ?_ (by first | omega | (simp; done) | (simp; omega)) _)) hx11)
  have HR := Lib.hid hO6
  have HT := Lib.hid hO7
  clear X10 hx11 hO6 hO7
  have HRi : Hid (∀ k o s, A6 = some ⟨k, o, s⟩ → w10.heap.size ≤ k ∧ k < w11.heap.size) := Lib.hid (fun k o s e => by have h := HR.out.in_ k o s e; (try simp at h); omega)
  have HTi : Hid (∀ k o s, A7 = some ⟨k, o, s⟩ → w10.heap.size ≤ k ∧ k < w11.heap.size) := Lib.hid (fun k o s e => by have h := HT.out.in_ k o s e; (try simp at h); omega)
  go_wp2_with fail
  refine wp_region_held_drew (S := fun w' => w'.cell? ⟨w.heap.size, 0, none⟩ = some (.int .i64 x0) ∧ w'.cell? ⟨w.heap.size, 2, none⟩ = some (.int .i64 x2)) (by kernel_rfl) (by first | exact ⟨c0_0, c0_2⟩ | (simp [go_sem, World.cell?_alloc_past, c0_0, c0_2, rc0, rc0a, rc0b, rc0c, rc0n]; done)) (fun hHeld => ?_)
  (refine' take_in 0 rfl (by kernel_rfl) (by kernel_rfl) (by kernel_rfl) (fun _ _ _ h => h) (by rfl) (by assumption) ?_ ?_; rotate_left; focus (intro w hSw; (try dsimp only at hSw); go_simp; try with_reducible rfl)); try simp only [Act.put, List.setIfInBounds_toArray, List.set_cons_zero, List.set_cons_succ]
  (refine' take_in 1 rfl (by kernel_rfl) (by kernel_rfl) (by kernel_rfl) (fun _ _ _ h => h) (by rfl) (by assumption) ?_ ?_; rotate_left; focus (intro w hSw; (try dsimp only at hSw); go_simp; try with_reducible rfl)); try simp only [Act.put, List.setIfInBounds_toArray, List.set_cons_zero, List.set_cons_succ]
  (refine' take_in 2 rfl (by kernel_rfl) (by kernel_rfl) (by kernel_rfl) (fun _ _ _ h => h) (by rfl) (by assumption) ?_ ?_; rotate_left; focus (intro w hSw; (try dsimp only at hSw); go_simp; try with_reducible rfl)); try simp only [Act.put, List.setIfInBounds_toArray, List.set_cons_zero, List.set_cons_succ]
  (refine' take_in 3 rfl (by kernel_rfl) (by kernel_rfl) (by kernel_rfl) (fun _ _ _ h => h) (by rfl) (by assumption) ?_ ?_; rotate_left; focus (intro w hSw; (try dsimp only at hSw); go_simp; try with_reducible rfl)); try simp only [Act.put, List.setIfInBounds_toArray, List.set_cons_zero, List.set_cons_succ]
  (refine' take_in 4 rfl (by kernel_rfl) (by kernel_rfl) (by kernel_rfl) (fun _ _ _ h => h) (by rfl) (by assumption) ?_ ?_; rotate_left; focus (intro w hSw; (try dsimp only at hSw); go_simp; try with_reducible rfl)); try simp only [Act.put, List.setIfInBounds_toArray, List.set_cons_zero, List.set_cons_succ]
  (refine' take_in 5 rfl (by kernel_rfl) (by kernel_rfl) (by kernel_rfl) (fun _ _ _ h => h) (by rfl) (by assumption) ?_ ?_; rotate_left; focus (intro w hSw; (try dsimp only at hSw); go_simp; try with_reducible rfl)); try simp only [Act.put, List.setIfInBounds_toArray, List.set_cons_zero, List.set_cons_succ]
  (refine' take_in 6 rfl (by kernel_rfl) (by kernel_rfl) (by kernel_rfl) (fun _ _ _ h => h) (by rfl) (by assumption) ?_ ?_; rotate_left; focus (intro w hSw; (try dsimp only at hSw); go_simp; try with_reducible rfl)); try simp only [Act.put, List.setIfInBounds_toArray, List.set_cons_zero, List.set_cons_succ]
  (refine' take_in 7 rfl (by kernel_rfl) (by kernel_rfl) (by kernel_rfl) (fun _ _ _ h => h) (by rfl) (by assumption) ?_ ?_; rotate_left; focus (intro w hSw; (try dsimp only at hSw); go_simp; try with_reducible rfl)); try simp only [Act.put, List.setIfInBounds_toArray, List.set_cons_zero, List.set_cons_succ]
  (refine' take_in 8 rfl (by kernel_rfl) (by kernel_rfl) (by kernel_rfl) (fun _ _ _ h => h) (by rfl) (by assumption) ?_ ?_; rotate_left; focus (intro w hSw; (try dsimp only at hSw); go_simp; try with_reducible rfl)); try simp only [Act.put, List.setIfInBounds_toArray, List.set_cons_zero, List.set_cons_succ]
  (refine' take_in 9 rfl (by kernel_rfl) (by kernel_rfl) (by kernel_rfl) (fun _ _ _ h => h) (by rfl) (by assumption) ?_ ?_; rotate_left; focus (intro w hSw; (try dsimp only at hSw); go_simp; try with_reducible rfl)); try simp only [Act.put, List.setIfInBounds_toArray, List.set_cons_zero, List.set_cons_succ]
  (refine' take_in 10 rfl (by kernel_rfl) (by kernel_rfl) (by kernel_rfl) (fun _ _ _ h => h) (by rfl) (by assumption) ?_ ?_; rotate_left; focus (intro w hSw; (try dsimp only at hSw); go_simp; try with_reducible rfl)); try simp only [Act.put, List.setIfInBounds_toArray, List.set_cons_zero, List.set_cons_succ]
  (refine' take_in 11 rfl (by kernel_rfl) (by kernel_rfl) (by kernel_rfl) (fun _ _ _ h => h) (by rfl) (by assumption) ?_ ?_; rotate_left; focus (intro w hSw; (try dsimp only at hSw); go_simp; try with_reducible rfl)); try simp only [Act.put, List.setIfInBounds_toArray, List.set_cons_zero, List.set_cons_succ]
  (refine' take_in 12 rfl (by kernel_rfl) (by kernel_rfl) (by kernel_rfl) (fun _ _ _ h => h) (by rfl) (by assumption) ?_ ?_; rotate_left; focus (intro w hSw; (try dsimp only at hSw); go_simp; try with_reducible rfl)); try simp only [Act.put, List.setIfInBounds_toArray, List.set_cons_zero, List.set_cons_succ]
  (refine' take_in 13 rfl (by kernel_rfl) (by kernel_rfl) (by kernel_rfl) (fun _ _ _ h => h) (by rfl) (by assumption) ?_ ?_; rotate_left; focus (intro w hSw; (try dsimp only at hSw); go_simp; try with_reducible rfl)); try simp only [Act.put, List.setIfInBounds_toArray, List.set_cons_zero, List.set_cons_succ]
  (refine' take_in 15 rfl (by kernel_rfl) (by kernel_rfl) (by kernel_rfl) (fun _ _ _ h => h) (by rfl) (by assumption) ?_ ?_; rotate_left; focus (intro w hSw; (try dsimp only at hSw); go_simp; try with_reducible rfl)); try simp only [Act.put, List.setIfInBounds_toArray, List.set_cons_zero, List.set_cons_succ]
  (refine' take_in 16 rfl (by kernel_rfl) (by kernel_rfl) (by kernel_rfl) (fun _ _ _ h => h) (by rfl) (by assumption) ?_ ?_; rotate_left; focus (intro w hSw; (try dsimp only at hSw); go_simp; try with_reducible rfl)); try simp only [Act.put, List.setIfInBounds_toArray, List.set_cons_zero, List.set_cons_succ]
  (refine' take_in 17 rfl (by kernel_rfl) (by kernel_rfl) (by kernel_rfl) (fun _ _ _ h => h) (by rfl) (by assumption) ?_ ?_; rotate_left; focus (intro w hSw; (try dsimp only at hSw); go_simp; try with_reducible rfl)); try simp only [Act.put, List.setIfInBounds_toArray, List.set_cons_zero, List.set_cons_succ]
  (refine' take_in 18 rfl (by kernel_rfl) (by kernel_rfl) (by kernel_rfl) (fun _ _ _ h => h) (by rfl) (by assumption) ?_ ?_; rotate_left; focus (intro w hSw; (try dsimp only at hSw); go_simp; try with_reducible rfl)); try simp only [Act.put, List.setIfInBounds_toArray, List.set_cons_zero, List.set_cons_succ]
  (refine' take_in 19 rfl (by kernel_rfl) (by kernel_rfl) (by kernel_rfl) (fun _ _ _ h => h) (by rfl) (by assumption) ?_ ?_; rotate_left; focus (intro w hSw; (try dsimp only at hSw); go_simp; try with_reducible rfl)); try simp only [Act.put, List.setIfInBounds_toArray, List.set_cons_zero, List.set_cons_succ]
  refine' next_in 14 rfl (by kernel_rfl) (by rfl) (fun K hK => ?_)
  go_simp
  (with_reducible refine (hopInto_ev A1 l.length c1 l LI x0 x2 _ (HI.out.ext (by repeat (first | with_reducible exact Ext.refl _ | with_reducible refine Ext.drew ?_ | with_reducible refine Ext.drewN ?_ _ | with_reducible refine Ext.alloc ?_ _ | with_reducible refine Ext.setCell ?_ (by first | omega | (simp; done) | (simp; omega)) _))).sl (by omega) F6.out).mono ?_)
  rintro e w12 ⟨A8, c8, rfl, _, hO8, hx12⟩
  replace c0_0 : w12.cell? ⟨w.heap.size, 0, none⟩ = some (.int .i64 x0) := hx12.has (by first | exact c0_0 | (simp [go_sem, World.cell?_alloc_past, c0_0, c0_2, rc0, rc0a, rc0b, rc0c, rc0n]; done))
  replace c0_2 : w12.cell? ⟨w.heap.size, 2, none⟩ = some (.int .i64 x2) := hx12.has (by first | exact c0_2 | (simp [go_sem, World.cell?_alloc_past, c0_0, c0_2, rc0, rc0a, rc0b, rc0c, rc0n]; done))
  have z12 := hx12.size
  try simp at z12
  replace rc0 : w.heap.size < w12.heap.size := by omega
  replace rc0a : w.heap.size < w12.heap.size + 1 := by omega
  replace rc0b : w.heap.size < w12.heap.size + 1 + 1 := by omega
  replace rc0c : w.heap.size < w12.heap.size + 1 + 1 + 1 := by omega
  replace rc0n : ¬ w.heap.size = w12.heap.size := by omega
  replace HS := Lib.hid (HS.out.ext (Ext.trans (by repeat (first | with_reducible exact Ext.refl _ | with_reducible refine Ext.drew ?_ | with_reducible refine Ext.drewN ?_ _ | with_reducible refine Ext.alloc ?_ _ | with_reducible refine Ext.setCell ?_ (by first | omega | (simp; done) | (simp; omega)) _)) hx12))
  replace HI := Lib.hid (HI.out.ext (Ext.trans (by repeat (first | with_reducible exact Ext.refl _ | with_reducible refine Ext.drew ?_ | with_reducible refine Ext.drewN ?_ _ | with_reducible refine Ext.alloc ?_ _ | with_reducible refine Ext.setCell ?_ (by first | omega | (simp; done) | (simp; omega)) _)) hx12))
  replace HA := Lib.hid (HA.out.ext (Ext.trans (by repeat (first | with_reducible exact Ext.refl _ | with_reducible refine Ext.drew ?_ | with_reducible refine Ext.drewN ?_ _ | with_reducible refine Ext.alloc ?_ _ | with_reducible refine Ext.setCell ?_ (by first | omega | (simp; done) | (simp; omega)) _)) hx12))
  replace HB := Lib.hid (HB.out.ext (Ext.trans (by repeat (first | with_reducible exact Ext.refl _ | with_reducible refine Ext.drew ?_ | with_reducible refine Ext.drewN ?_ _ | with_reducible refine Ext.alloc ?_ _ | with_reducible refine Ext.setCell ?_ (by first | omega | (simp; done) | (simp; omega)) _)) hx12))
  replace HP := Lib.hid (HP.out.ext (Ext.trans (by repeat (first | with_reducible exact Ext.refl _ | with_reducible refine Ext.drew ?_ | with_reducible refine Ext.drewN ?_ _ | with_reducible refine Ext.alloc ?_ _ | with_reducible refine Ext.setCell ?_ (by first | omega | (simp; done) | (simp; omega)) _)) hx12))
  replace HQ := Lib.hid (HQ.out.ext (Ext.trans (by repeat (first | with_reducible exact Ext.refl _ | with_reducible refine Ext.drew ?_ | with_reducible refine Ext.drewN ?_ _ | with_reducible refine Ext.alloc ?_ _ | with_reducible refine Ext.setCell ?_ (by first | omega | (simp; done) | (simp; omega)) _)) hx12))
  replace HR := Lib.hid (HR.out.ext (Ext.trans (by repeat (first | with_reducible exact Ext.refl _ | with_reducible refine Ext.drew ?_ | with_reducible refine Ext.drewN ?_ _ | with_reducible refine Ext.alloc ?_ _ | with_reducible refine Ext.setCell ?_ (by first | omega | (simp; done) | (simp; omega)) _)) hx12))
  replace HT := Lib.hid (HT.out.ext (Ext.trans (by repeat (first | with_reducible exact Ext.refl _ | with_reducible refine Ext.drew ?_ | with_reducible refine Ext.drewN ?_ _ | with_reducible refine Ext.alloc ?_ _ | with_reducible refine Ext.setCell ?_ (by first | omega | (simp; done) | (simp; omega)) _)) hx12))
  have X12 : Hid (Ext w w12) := Lib.hid (Ext.trans (by repeat (first | with_reducible exact X11.out | with_reducible refine Ext.drew ?_ | with_reducible refine Ext.drewN ?_ _ | with_reducible refine Ext.alloc ?_ _ | with_reducible refine Ext.setCell ?_ (by first | omega | (simp; done) | (simp; omega)) _)) hx12)
  have HJ := Lib.hid hO8
  clear X11 hx12 hO8
  have HJi : Hid (∀ k o s, A8 = some ⟨k, o, s⟩ → w11.heap.size ≤ k ∧ k < w12.heap.size) := Lib.hid (fun k o s e => by have h := HJ.out.in_ k o s e; (try simp at h); omega)
  refine hK.out _ _ (by (first | exact ⟨c0_0, c0_2⟩ | (simp [go_sem, World.cell?_alloc_past, c0_0, c0_2, rc0, rc0a, rc0b, rc0c, rc0n]; done))) (fun hHeld => ?_); clear hK K; try simp only [Act.put, List.setIfInBounds_toArray, List.set_cons_zero, List.set_cons_succ]
  refine' next_in 20 rfl (by kernel_rfl) (by rfl) (fun K hK => ?_)
  go_simp
  (with_reducible refine (rInto15_ev A l.length c l LI x0 x2 _ (HS.out.ext (by repeat (first | with_reducible exact Ext.refl _ | with_reducible refine Ext.drew ?_ | with_reducible refine Ext.drewN ?_ _ | with_reducible refine Ext.alloc ?_ _ | with_reducible refine Ext.setCell ?_ (by first | omega | (simp; done) | (simp; omega)) _))).sl (by omega) F6.out).mono ?_)
  rintro e w13 ⟨A9, c9, rfl, _, hO9, hx13⟩
  replace c0_0 : w13.cell? ⟨w.heap.size, 0, none⟩ = some (.int .i64 x0) := hx13.has (by first | exact c0_0 | (simp [go_sem, World.cell?_alloc_past, c0_0, c0_2, rc0, rc0a, rc0b, rc0c, rc0n]; done))
  replace c0_2 : w13.cell? ⟨w.heap.size, 2, none⟩ = some (.int .i64 x2) := hx13.has (by first | exact c0_2 | (simp [go_sem, World.cell?_alloc_past, c0_0, c0_2, rc0, rc0a, rc0b, rc0c, rc0n]; done))
  have z13 := hx13.size
  try simp at z13
  replace rc0 : w.heap.size < w13.heap.size := by omega
  replace rc0a : w.heap.size < w13.heap.size + 1 := by omega
  replace rc0b : w.heap.size < w13.heap.size + 1 + 1 := by omega
  replace rc0c : w.heap.size < w13.heap.size + 1 + 1 + 1 := by omega
  replace rc0n : ¬ w.heap.size = w13.heap.size := by omega
  replace HS := Lib.hid (HS.out.ext (Ext.trans (by repeat (first | with_reducible exact Ext.refl _ | with_reducible refine Ext.drew ?_ | with_reducible refine Ext.drewN ?_ _ | with_reducible refine Ext.alloc ?_ _ | with_reducible refine Ext.setCell ?_ (by first | omega | (simp; done) | (simp; omega)) _)) hx13))
  replace HI := Lib.hid (HI.out.ext (Ext.trans (by repeat (first | with_reducible exact Ext.refl _ | with_reducible refine Ext.drew ?_ | with_reducible refine Ext.drewN ?_ _ | with_reducible refine Ext.alloc ?_ _ | with_reducible refine Ext.setCell ?_ (by first | omega | (simp; done) | (simp; omega)) _)) hx13))
  replace HA := Lib.hid (HA.out.ext (Ext.trans (by repeat (first | with_reducible exact Ext.refl _ | with_reducible refine Ext.drew ?_ | with_reducible refine Ext.drewN ?_ _ | with_reducible refine Ext.alloc ?_ _ | with_reducible refine Ext.setCell ?_ (by first | omega | (simp; done) | (simp; omega)) _)) hx13))
  replace HB := Lib.hid (HB.out.ext (Ext.trans (by repeat (first | with_reducible exact Ext.refl _ | with_reducible refine Ext.drew ?_ | with_reducible refine Ext.drewN ?_ _ | with_reducible refine Ext.alloc ?_ _ | with_reducible refine Ext.setCell ?_ (by first | omega | (simp; done) | (simp; omega)) _)) hx13))
  replace HP := Lib.hid (HP.out.ext (Ext.trans (by repeat (first | with_reducible exact Ext.refl _ | with_reducible refine Ext.drew ?_ | with_reducible refine Ext.drewN ?_ _ | with_reducible refine Ext.alloc ?_ _ | with_reducible refine Ext.setCell ?_ (by first | omega | (simp; done) | (simp; omega)) _)) hx13))
  replace HQ := Lib.hid (HQ.out.ext (Ext.trans (by repeat (first | with_reducible exact Ext.refl _ | with_reducible refine Ext.drew ?_ | with_reducible refine Ext.drewN ?_ _ | with_reducible refine Ext.alloc ?_ _ | with_reducible refine Ext.setCell ?_ (by first | omega | (simp; done) | (simp; omega)) _)) hx13))
  replace HR := Lib.hid (HR.out.ext (Ext.trans (by repeat (first | with_reducible exact Ext.refl _ | with_reducible refine Ext.drew ?_ | with_reducible refine Ext.drewN ?_ _ | with_reducible refine Ext.alloc ?_ _ | with_reducible refine Ext.setCell ?_ (by first | omega | (simp; done) | (simp; omega)) _)) hx13))
  replace HT := Lib.hid (HT.out.ext (Ext.trans (by repeat (first | with_reducible exact Ext.refl _ | with_reducible refine Ext.drew ?_ | with_reducible refine Ext.drewN ?_ _ | with_reducible refine Ext.alloc ?_ _ | with_reducible refine Ext.setCell ?_ (by first | omega | (simp; done) | (simp; omega)) _)) hx13))
  replace HJ := Lib.hid (HJ.out.ext (Ext.trans (by repeat (first | with_reducible exact Ext.refl _ | with_reducible refine Ext.drew ?_ | with_reducible refine Ext.drewN ?_ _ | with_reducible refine Ext.alloc ?_ _ | with_reducible refine Ext.setCell ?_ (by first | omega | (simp; done) | (simp; omega)) _)) hx13))
  have X13 : Hid (Ext w w13) := Lib.hid (Ext.trans (by repeat (first | with_reducible exact X12.out | with_reducible refine Ext.drew ?_ | with_reducible refine Ext.drewN ?_ _ | with_reducible refine Ext.alloc ?_ _ | with_reducible refine Ext.setCell ?_ (by first | omega | (simp; done) | (simp; omega)) _)) hx13)
  have HK := Lib.hid hO9
  clear X12 hx13 hO9
  have HKi : Hid (∀ k o s, A9 = some ⟨k, o, s⟩ → w12.heap.size ≤ k ∧ k < w13.heap.size) := Lib.hid (fun k o s e => by have h := HK.out.in_ k o s e; (try simp at h); omega)
  refine hK.out _ _ (by (first | exact ⟨c0_0, c0_2⟩ | (simp [go_sem, World.cell?_alloc_past, c0_0, c0_2, rc0, rc0a, rc0b, rc0c, rc0n]; done))) (fun hHeld => ?_); clear hK K; try simp only [Act.put, List.setIfInBounds_toArray, List.set_cons_zero, List.set_cons_succ]
  refine' next_in 21 rfl (by kernel_rfl) (by rfl) (fun K hK => ?_)
  go_simp
  (with_reducible refine (told15_eq A8 A9 _ c8 _ c9 _ LI _ (HJ.out.ext (by repeat (first | with_reducible exact Ext.refl _ | with_reducible refine Ext.drew ?_ | with_reducible refine Ext.drewN ?_ _ | with_reducible refine Ext.alloc ?_ _ | with_reducible refine Ext.setCell ?_ (by first | omega | (simp; done) | (simp; omega)) _))) (HK.out.ext (by repeat (first | with_reducible exact Ext.refl _ | with_reducible refine Ext.drew ?_ | with_reducible refine Ext.drewN ?_ _ | with_reducible refine Ext.alloc ?_ _ | with_reducible refine Ext.setCell ?_ (by first | omega | (simp; done) | (simp; omega)) _))).sl).mono ?_)
  rintro e w14 ⟨rfl, hx14⟩
  have hsz14 := hx14.size
  try simp at hsz14
  replace c0_0 : w14.cell? ⟨w.heap.size, 0, none⟩ = some (.int .i64 x0) := hx14.has (fun hk => by obtain ⟨o2, s2, e2⟩ := hk; have h2 := HJi.out _ o2 s2 e2; omega) (by first | exact c0_0 | (simp [go_sem, World.cell?_alloc_past, c0_0, c0_2, rc0, rc0a, rc0b, rc0c, rc0n]; done))
  replace c0_2 : w14.cell? ⟨w.heap.size, 2, none⟩ = some (.int .i64 x2) := hx14.has (fun hk => by obtain ⟨o2, s2, e2⟩ := hk; have h2 := HJi.out _ o2 s2 e2; omega) (by first | exact c0_2 | (simp [go_sem, World.cell?_alloc_past, c0_0, c0_2, rc0, rc0a, rc0b, rc0c, rc0n]; done))
  have z14 := hx14.size
  try simp at z14
  replace rc0 : w.heap.size < w14.heap.size := by omega
  replace rc0a : w.heap.size < w14.heap.size + 1 := by omega
  replace rc0b : w.heap.size < w14.heap.size + 1 + 1 := by omega
  replace rc0c : w.heap.size < w14.heap.size + 1 + 1 + 1 := by omega
  replace rc0n : ¬ w.heap.size = w14.heap.size := by omega
  have X14 : Hid (Ext w w14) := Lib.hid (have hX := (show Ext w _ from (by repeat (first | with_reducible exact X13.out | with_reducible refine Ext.drew ?_ | with_reducible refine Ext.drewN ?_ _ | with_reducible refine Ext.alloc ?_ _ | with_reducible refine Ext.setCell ?_ (by first | omega | (simp; done) | (simp; omega)) _))); Below.trans hX (hx14.below (Ext.size hX) (fun k hk hh => by obtain ⟨o2, s2, e2⟩ := hh; have h2 := HJi.out _ o2 s2 e2; omega)))
  replace HS := Lib.hid ((HS.out.ext (by repeat (first | with_reducible exact Ext.refl _ | with_reducible refine Ext.drew ?_ | with_reducible refine Ext.drewN ?_ _ | with_reducible refine Ext.alloc ?_ _ | with_reducible refine Ext.setCell ?_ (by first | omega | (simp; done) | (simp; omega)) _))).but hx14 (fun k hk => by obtain ⟨o2, s2, e2⟩ := hk; have h2 := HJi.out k o2 s2 e2; omega))
  replace HI := Lib.hid ((HI.out.ext (by repeat (first | with_reducible exact Ext.refl _ | with_reducible refine Ext.drew ?_ | with_reducible refine Ext.drewN ?_ _ | with_reducible refine Ext.alloc ?_ _ | with_reducible refine Ext.setCell ?_ (by first | omega | (simp; done) | (simp; omega)) _))).but hx14 (fun k hk => by obtain ⟨o2, s2, e2⟩ := hk; have h2 := HJi.out k o2 s2 e2; omega))
  replace HA := Lib.hid ((HA.out.ext (by repeat (first | with_reducible exact Ext.refl _ | with_reducible refine Ext.drew ?_ | with_reducible refine Ext.drewN ?_ _ | with_reducible refine Ext.alloc ?_ _ | with_reducible refine Ext.setCell ?_ (by first | omega | (simp; done) | (simp; omega)) _))).but hx14 (fun k o s e hk => by obtain ⟨o2, s2, e2⟩ := hk; have h1 := HAi.out k o s e; have h2 := HJi.out k o2 s2 e2; omega))
  replace HB := Lib.hid ((HB.out.ext (by repeat (first | with_reducible exact Ext.refl _ | with_reducible refine Ext.drew ?_ | with_reducible refine Ext.drewN ?_ _ | with_reducible refine Ext.alloc ?_ _ | with_reducible refine Ext.setCell ?_ (by first | omega | (simp; done) | (simp; omega)) _))).but hx14 (fun k o s e hk => by obtain ⟨o2, s2, e2⟩ := hk; have h1 := HBi.out k o s e; have h2 := HJi.out k o2 s2 e2; omega))
  replace HP := Lib.hid ((HP.out.ext (by repeat (first | with_reducible exact Ext.refl _ | with_reducible refine Ext.drew ?_ | with_reducible refine Ext.drewN ?_ _ | with_reducible refine Ext.alloc ?_ _ | with_reducible refine Ext.setCell ?_ (by first | omega | (simp; done) | (simp; omega)) _))).but hx14 (fun k o s e hk => by obtain ⟨o2, s2, e2⟩ := hk; have h1 := HPi.out k o s e; have h2 := HJi.out k o2 s2 e2; omega))
  replace HQ := Lib.hid ((HQ.out.ext (by repeat (first | with_reducible exact Ext.refl _ | with_reducible refine Ext.drew ?_ | with_reducible refine Ext.drewN ?_ _ | with_reducible refine Ext.alloc ?_ _ | with_reducible refine Ext.setCell ?_ (by first | omega | (simp; done) | (simp; omega)) _))).but hx14 (fun k o s e hk => by obtain ⟨o2, s2, e2⟩ := hk; have h1 := HQi.out k o s e; have h2 := HJi.out k o2 s2 e2; omega))
  replace HR := Lib.hid ((HR.out.ext (by repeat (first | with_reducible exact Ext.refl _ | with_reducible refine Ext.drew ?_ | with_reducible refine Ext.drewN ?_ _ | with_reducible refine Ext.alloc ?_ _ | with_reducible refine Ext.setCell ?_ (by first | omega | (simp; done) | (simp; omega)) _))).but hx14 (fun k o s e hk => by obtain ⟨o2, s2, e2⟩ := hk; have h1 := HRi.out k o s e; have h2 := HJi.out k o2 s2 e2; omega))
  replace HT := Lib.hid ((HT.out.ext (by repeat (first | with_reducible exact Ext.refl _ | with_reducible refine Ext.drew ?_ | with_reducible refine Ext.drewN ?_ _ | with_reducible refine Ext.alloc ?_ _ | with_reducible refine Ext.setCell ?_ (by first | omega | (simp; done) | (simp; omega)) _))).but hx14 (fun k o s e hk => by obtain ⟨o2, s2, e2⟩ := hk; have h1 := HTi.out k o s e; have h2 := HJi.out k o2 s2 e2; omega))
  clear HJ HK hsz14 X13 hx14
  refine hK.out _ _ (by (first | exact ⟨c0_0, c0_2⟩ | (simp [go_sem, World.cell?_alloc_past, c0_0, c0_2, rc0, rc0a, rc0b, rc0c, rc0n]; done))) (fun hHeld => ?_); clear hK K; try simp only [Act.put, List.setIfInBounds_toArray, List.set_cons_zero, List.set_cons_succ]
  (refine' take_in 22 rfl (by kernel_rfl) (by kernel_rfl) (by kernel_rfl) (fun _ _ _ h => h) (by rfl) (by assumption) ?_ ?_; rotate_left; focus (intro w hSw; (try dsimp only at hSw); go_simp; try with_reducible rfl)); try simp only [Act.put, List.setIfInBounds_toArray, List.set_cons_zero, List.set_cons_succ]
  (refine' take_in 23 rfl (by kernel_rfl) (by kernel_rfl) (by kernel_rfl) (fun _ _ _ h => h) (by rfl) (by assumption) ?_ ?_; rotate_left; focus (intro w hSw; (try dsimp only at hSw); go_simp; try with_reducible rfl)); try simp only [Act.put, List.setIfInBounds_toArray, List.set_cons_zero, List.set_cons_succ]
  (refine' take_in 24 rfl (by kernel_rfl) (by kernel_rfl) (by kernel_rfl) (fun _ _ _ h => h) (by rfl) (by assumption) ?_ ?_; rotate_left; focus (intro w hSw; (try dsimp only at hSw); go_simp; try with_reducible rfl)); try simp only [Act.put, List.setIfInBounds_toArray, List.set_cons_zero, List.set_cons_succ]
  (refine' take_in 25 rfl (by kernel_rfl) (by kernel_rfl) (by kernel_rfl) (fun _ _ _ h => h) (by rfl) (by assumption) ?_ ?_; rotate_left; focus (intro w hSw; (try dsimp only at hSw); go_simp; try with_reducible rfl)); try simp only [Act.put, List.setIfInBounds_toArray, List.set_cons_zero, List.set_cons_succ]
  refine' next_in 26 rfl (by kernel_rfl) (by rfl) (fun K hK => ?_)
  go_simp
  (with_reducible refine (told15_eq A2 A3 _ c2 _ c3 _ LA _ (HA.out.ext (by repeat (first | with_reducible exact Ext.refl _ | with_reducible refine Ext.drew ?_ | with_reducible refine Ext.drewN ?_ _ | with_reducible refine Ext.alloc ?_ _ | with_reducible refine Ext.setCell ?_ (by first | omega | (simp; done) | (simp; omega)) _))) (HB.out.ext (by repeat (first | with_reducible exact Ext.refl _ | with_reducible refine Ext.drew ?_ | with_reducible refine Ext.drewN ?_ _ | with_reducible refine Ext.alloc ?_ _ | with_reducible refine Ext.setCell ?_ (by first | omega | (simp; done) | (simp; omega)) _))).sl).mono ?_)
  rintro e w15 ⟨rfl, hx15⟩
  have hsz15 := hx15.size
  try simp at hsz15
  replace c0_0 : w15.cell? ⟨w.heap.size, 0, none⟩ = some (.int .i64 x0) := hx15.has (fun hk => by obtain ⟨o2, s2, e2⟩ := hk; have h2 := HAi.out _ o2 s2 e2; omega) (by first | exact c0_0 | (simp [go_sem, World.cell?_alloc_past, c0_0, c0_2, rc0, rc0a, rc0b, rc0c, rc0n]; done))
  replace c0_2 : w15.cell? ⟨w.heap.size, 2, none⟩ = some (.int .i64 x2) := hx15.has (fun hk => by obtain ⟨o2, s2, e2⟩ := hk; have h2 := HAi.out _ o2 s2 e2; omega) (by first | exact c0_2 | (simp [go_sem, World.cell?_alloc_past, c0_0, c0_2, rc0, rc0a, rc0b, rc0c, rc0n]; done))
  have z15 := hx15.size
  try simp at z15
  replace rc0 : w.heap.size < w15.heap.size := by omega
  replace rc0a : w.heap.size < w15.heap.size + 1 := by omega
  replace rc0b : w.heap.size < w15.heap.size + 1 + 1 := by omega
  replace rc0c : w.heap.size < w15.heap.size + 1 + 1 + 1 := by omega
  replace rc0n : ¬ w.heap.size = w15.heap.size := by omega
  have X15 : Hid (Ext w w15) := Lib.hid (have hX := (show Ext w _ from (by repeat (first | with_reducible exact X14.out | with_reducible refine Ext.drew ?_ | with_reducible refine Ext.drewN ?_ _ | with_reducible refine Ext.alloc ?_ _ | with_reducible refine Ext.setCell ?_ (by first | omega | (simp; done) | (simp; omega)) _))); Below.trans hX (hx15.below (Ext.size hX) (fun k hk hh => by obtain ⟨o2, s2, e2⟩ := hh; have h2 := HAi.out _ o2 s2 e2; omega)))
  replace HS := Lib.hid ((HS.out.ext (by repeat (first | with_reducible exact Ext.refl _ | with_reducible refine Ext.drew ?_ | with_reducible refine Ext.drewN ?_ _ | with_reducible refine Ext.alloc ?_ _ | with_reducible refine Ext.setCell ?_ (by first | omega | (simp; done) | (simp; omega)) _))).but hx15 (fun k hk => by obtain ⟨o2, s2, e2⟩ := hk; have h2 := HAi.out k o2 s2 e2; omega))
  replace HI := Lib.hid ((HI.out.ext (by repeat (first | with_reducible exact Ext.refl _ | with_reducible refine Ext.drew ?_ | with_reducible refine Ext.drewN ?_ _ | with_reducible refine Ext.alloc ?_ _ | with_reducible refine Ext.setCell ?_ (by first | omega | (simp; done) | (simp; omega)) _))).but hx15 (fun k hk => by obtain ⟨o2, s2, e2⟩ := hk; have h2 := HAi.out k o2 s2 e2; omega))
  replace HP := Lib.hid ((HP.out.ext (by repeat (first | with_reducible exact Ext.refl _ | with_reducible refine Ext.drew ?_ | with_reducible refine Ext.drewN ?_ _ | with_reducible refine Ext.alloc ?_ _ | with_reducible refine Ext.setCell ?_ (by first | omega | (simp; done) | (simp; omega)) _))).but hx15 (fun k o s e hk => by obtain ⟨o2, s2, e2⟩ := hk; have h1 := HPi.out k o s e; have h2 := HAi.out k o2 s2 e2; omega))
  replace HQ := Lib.hid ((HQ.out.ext (by repeat (first | with_reducible exact Ext.refl _ | with_reducible refine Ext.drew ?_ | with_reducible refine Ext.drewN ?_ _ | with_reducible refine Ext.alloc ?_ _ | with_reducible refine Ext.setCell ?_ (by first | omega | (simp; done) | (simp; omega)) _))).but hx15 (fun k o s e hk => by obtain ⟨o2, s2, e2⟩ := hk; have h1 := HQi.out k o s e; have h2 := HAi.out k o2 s2 e2; omega))
  replace HR := Lib.hid ((HR.out.ext (by repeat (first | with_reducible exact Ext.refl _ | with_reducible refine Ext.drew ?_ | with_reducible refine Ext.drewN ?_ _ | with_reducible refine Ext.alloc ?_ _ | with_reducible refine Ext.setCell ?_ (by first | omega | (simp; done) | (simp; omega)) _))).but hx15 (fun k o s e hk => by obtain ⟨o2, s2, e2⟩ := hk; have h1 := HRi.out k o s e; have h2 := HAi.out k o2 s2 e2; omega))
  replace HT := Lib.hid ((HT.out.ext (by repeat (first | with_reducible exact Ext.refl _ | with_reducible refine Ext.drew ?_ | with_reducible refine Ext.drewN ?_ _ | with_reducible refine Ext.alloc ?_ _ | with_reducible refine Ext.setCell ?_ (by first | omega | (simp; done) | (simp; omega)) _))).but hx15 (fun k o s e hk => by obtain ⟨o2, s2, e2⟩ := hk; have h1 := HTi.out k o s e; have h2 := HAi.out k o2 s2 e2; omega))
  clear HA HB hsz15 X14 hx15
  refine hK.out _ _ (by (first | exact ⟨c0_0, c0_2⟩ | (simp [go_sem, World.cell?_alloc_past, c0_0, c0_2, rc0, rc0a, rc0b, rc0c, rc0n]; done))) (fun hHeld => ?_); clear hK K; try simp only [Act.put, List.setIfInBounds_toArray, List.set_cons_zero, List.set_cons_succ]
  (refine' take_in 27 rfl (by kernel_rfl) (by kernel_rfl) (by kernel_rfl) (fun _ _ _ h => h) (by rfl) (by assumption) ?_ ?_; rotate_left; focus (intro w hSw; (try dsimp only at hSw); go_simp; try with_reducible rfl)); try simp only [Act.put, List.setIfInBounds_toArray, List.set_cons_zero, List.set_cons_succ]
  (refine' take_in 28 rfl (by kernel_rfl) (by kernel_rfl) (by kernel_rfl) (fun _ _ _ h => h) (by rfl) (by assumption) ?_ ?_; rotate_left; focus (intro w hSw; (try dsimp only at hSw); go_simp; try with_reducible rfl)); try simp only [Act.put, List.setIfInBounds_toArray, List.set_cons_zero, List.set_cons_succ]
  (refine' take_in 29 rfl (by kernel_rfl) (by kernel_rfl) (by kernel_rfl) (fun _ _ _ h => h) (by rfl) (by assumption) ?_ ?_; rotate_left; focus (intro w hSw; (try dsimp only at hSw); go_simp; try with_reducible rfl)); try simp only [Act.put, List.setIfInBounds_toArray, List.set_cons_zero, List.set_cons_succ]
  (refine' take_in 30 rfl (by kernel_rfl) (by kernel_rfl) (by kernel_rfl) (fun _ _ _ h => h) (by rfl) (by assumption) ?_ ?_; rotate_left; focus (intro w hSw; (try dsimp only at hSw); go_simp; try with_reducible rfl)); try simp only [Act.put, List.setIfInBounds_toArray, List.set_cons_zero, List.set_cons_succ]
  refine' next_in 31 rfl (by kernel_rfl) (by rfl) (fun K hK => ?_)
  go_simp
  (with_reducible refine (told15_eq A4 A6 _ c4 _ c6 _ LP _ (HP.out.ext (by repeat (first | with_reducible exact Ext.refl _ | with_reducible refine Ext.drew ?_ | with_reducible refine Ext.drewN ?_ _ | with_reducible refine Ext.alloc ?_ _ | with_reducible refine Ext.setCell ?_ (by first | omega | (simp; done) | (simp; omega)) _))) (HR.out.ext (by repeat (first | with_reducible exact Ext.refl _ | with_reducible refine Ext.drew ?_ | with_reducible refine Ext.drewN ?_ _ | with_reducible refine Ext.alloc ?_ _ | with_reducible refine Ext.setCell ?_ (by first | omega | (simp; done) | (simp; omega)) _))).sl).mono ?_)
  rintro e w16 ⟨rfl, hx16⟩
  have hsz16 := hx16.size
  try simp at hsz16
  replace c0_0 : w16.cell? ⟨w.heap.size, 0, none⟩ = some (.int .i64 x0) := hx16.has (fun hk => by obtain ⟨o2, s2, e2⟩ := hk; have h2 := HPi.out _ o2 s2 e2; omega) (by first | exact c0_0 | (simp [go_sem, World.cell?_alloc_past, c0_0, c0_2, rc0, rc0a, rc0b, rc0c, rc0n]; done))
  replace c0_2 : w16.cell? ⟨w.heap.size, 2, none⟩ = some (.int .i64 x2) := hx16.has (fun hk => by obtain ⟨o2, s2, e2⟩ := hk; have h2 := HPi.out _ o2 s2 e2; omega) (by first | exact c0_2 | (simp [go_sem, World.cell?_alloc_past, c0_0, c0_2, rc0, rc0a, rc0b, rc0c, rc0n]; done))
  have z16 := hx16.size
  try simp at z16
  replace rc0 : w.heap.size < w16.heap.size := by omega
  replace rc0a : w.heap.size < w16.heap.size + 1 := by omega
  replace rc0b : w.heap.size < w16.heap.size + 1 + 1 := by omega
  replace rc0c : w.heap.size < w16.heap.size + 1 + 1 + 1 := by omega
  replace rc0n : ¬ w.heap.size = w16.heap.size := by omega
  have X16 : Hid (Ext w w16) := Lib.hid (have hX := (show Ext w _ from (by repeat (first | with_reducible exact X15.out | with_reducible refine Ext.drew ?_ | with_reducible refine Ext.drewN ?_ _ | with_reducible refine Ext.alloc ?_ _ | with_reducible refine Ext.setCell ?_ (by first | omega | (simp; done) | (simp; omega)) _))); Below.trans hX (hx16.below (Ext.size hX) (fun k hk hh => by obtain ⟨o2, s2, e2⟩ := hh; have h2 := HPi.out _ o2 s2 e2; omega)))
  replace HS := Lib.hid ((HS.out.ext (by repeat (first | with_reducible exact Ext.refl _ | with_reducible refine Ext.drew ?_ | with_reducible refine Ext.drewN ?_ _ | with_reducible refine Ext.alloc ?_ _ | with_reducible refine Ext.setCell ?_ (by first | omega | (simp; done) | (simp; omega)) _))).but hx16 (fun k hk => by obtain ⟨o2, s2, e2⟩ := hk; have h2 := HPi.out k o2 s2 e2; omega))
  replace HI := Lib.hid ((HI.out.ext (by repeat (first | with_reducible exact Ext.refl _ | with_reducible refine Ext.drew ?_ | with_reducible refine Ext.drewN ?_ _ | with_reducible refine Ext.alloc ?_ _ | with_reducible refine Ext.setCell ?_ (by first | omega | (simp; done) | (simp; omega)) _))).but hx16 (fun k hk => by obtain ⟨o2, s2, e2⟩ := hk; have h2 := HPi.out k o2 s2 e2; omega))
  replace HQ := Lib.hid ((HQ.out.ext (by repeat (first | with_reducible exact Ext.refl _ | with_reducible refine Ext.drew ?_ | with_reducible refine Ext.drewN ?_ _ | with_reducible refine Ext.alloc ?_ _ | with_reducible refine Ext.setCell ?_ (by first | omega | (simp; done) | (simp; omega)) _))).but hx16 (fun k o s e hk => by obtain ⟨o2, s2, e2⟩ := hk; exact HAP.out _ _ _ _ _ _ e2 e rfl))
  replace HT := Lib.hid ((HT.out.ext (by repeat (first | with_reducible exact Ext.refl _ | with_reducible refine Ext.drew ?_ | with_reducible refine Ext.drewN ?_ _ | with_reducible refine Ext.alloc ?_ _ | with_reducible refine Ext.setCell ?_ (by first | omega | (simp; done) | (simp; omega)) _))).but hx16 (fun k o s e hk => by obtain ⟨o2, s2, e2⟩ := hk; have h1 := HTi.out k o s e; have h2 := HPi.out k o2 s2 e2; omega))
  clear HP HR hsz16 X15 hx16
  refine hK.out _ _ (by (first | exact ⟨c0_0, c0_2⟩ | (simp [go_sem, World.cell?_alloc_past, c0_0, c0_2, rc0, rc0a, rc0b, rc0c, rc0n]; done))) (fun hHeld => ?_); clear hK K; try simp only [Act.put, List.setIfInBounds_toArray, List.set_cons_zero, List.set_cons_succ]
  (refine' take_in 32 rfl (by kernel_rfl) (by kernel_rfl) (by kernel_rfl) (fun _ _ _ h => h) (by rfl) (by assumption) ?_ ?_; rotate_left; focus (intro w hSw; (try dsimp only at hSw); go_simp; try with_reducible rfl)); try simp only [Act.put, List.setIfInBounds_toArray, List.set_cons_zero, List.set_cons_succ]
  (refine' take_in 33 rfl (by kernel_rfl) (by kernel_rfl) (by kernel_rfl) (fun _ _ _ h => h) (by rfl) (by assumption) ?_ ?_; rotate_left; focus (intro w hSw; (try dsimp only at hSw); go_simp; try with_reducible rfl)); try simp only [Act.put, List.setIfInBounds_toArray, List.set_cons_zero, List.set_cons_succ]
  (refine' take_in 34 rfl (by kernel_rfl) (by kernel_rfl) (by kernel_rfl) (fun _ _ _ h => h) (by rfl) (by assumption) ?_ ?_; rotate_left; focus (intro w hSw; (try dsimp only at hSw); go_simp; try with_reducible rfl)); try simp only [Act.put, List.setIfInBounds_toArray, List.set_cons_zero, List.set_cons_succ]
  (refine' take_in 35 rfl (by kernel_rfl) (by kernel_rfl) (by kernel_rfl) (fun _ _ _ h => h) (by rfl) (by assumption) ?_ ?_; rotate_left; focus (intro w hSw; (try dsimp only at hSw); go_simp; try with_reducible rfl)); try simp only [Act.put, List.setIfInBounds_toArray, List.set_cons_zero, List.set_cons_succ]
  refine' next_in 36 rfl (by kernel_rfl) (by rfl) (fun K hK => ?_)
  go_simp
  (with_reducible refine (told15_eq A5 A7 _ c5 _ c7 _ LQ _ (HQ.out.ext (by repeat (first | with_reducible exact Ext.refl _ | with_reducible refine Ext.drew ?_ | with_reducible refine Ext.drewN ?_ _ | with_reducible refine Ext.alloc ?_ _ | with_reducible refine Ext.setCell ?_ (by first | omega | (simp; done) | (simp; omega)) _))) (HT.out.ext (by repeat (first | with_reducible exact Ext.refl _ | with_reducible refine Ext.drew ?_ | with_reducible refine Ext.drewN ?_ _ | with_reducible refine Ext.alloc ?_ _ | with_reducible refine Ext.setCell ?_ (by first | omega | (simp; done) | (simp; omega)) _))).sl).mono ?_)
  rintro e w17 ⟨rfl, hx17⟩
  have hsz17 := hx17.size
  try simp at hsz17
  replace c0_0 : w17.cell? ⟨w.heap.size, 0, none⟩ = some (.int .i64 x0) := hx17.has (fun hk => by obtain ⟨o2, s2, e2⟩ := hk; have h2 := HQi.out _ o2 s2 e2; omega) (by first | exact c0_0 | (simp [go_sem, World.cell?_alloc_past, c0_0, c0_2, rc0, rc0a, rc0b, rc0c, rc0n]; done))
  replace c0_2 : w17.cell? ⟨w.heap.size, 2, none⟩ = some (.int .i64 x2) := hx17.has (fun hk => by obtain ⟨o2, s2, e2⟩ := hk; have h2 := HQi.out _ o2 s2 e2; omega) (by first | exact c0_2 | (simp [go_sem, World.cell?_alloc_past, c0_0, c0_2, rc0, rc0a, rc0b, rc0c, rc0n]; done))
  have z17 := hx17.size
  try simp at z17
  replace rc0 : w.heap.size < w17.heap.size := by omega
  replace rc0a : w.heap.size < w17.heap.size + 1 := by omega
  replace rc0b : w.heap.size < w17.heap.size + 1 + 1 := by omega
  replace rc0c : w.heap.size < w17.heap.size + 1 + 1 + 1 := by omega
  replace rc0n : ¬ w.heap.size = w17.heap.size := by omega
  have X17 : Hid (Ext w w17) := Lib.hid (have hX := (show Ext w _ from (by repeat (first | with_reducible exact X16.out | with_reducible refine Ext.drew ?_ | with_reducible refine Ext.drewN ?_ _ | with_reducible refine Ext.alloc ?_ _ | with_reducible refine Ext.setCell ?_ (by first | omega | (simp; done) | (simp; omega)) _))); Below.trans hX (hx17.below (Ext.size hX) (fun k hk hh => by obtain ⟨o2, s2, e2⟩ := hh; have h2 := HQi.out _ o2 s2 e2; omega)))
  replace HS := Lib.hid ((HS.out.ext (by repeat (first | with_reducible exact Ext.refl _ | with_reducible refine Ext.drew ?_ | with_reducible refine Ext.drewN ?_ _ | with_reducible refine Ext.alloc ?_ _ | with_reducible refine Ext.setCell ?_ (by first | omega | (simp; done) | (simp; omega)) _))).but hx17 (fun k hk => by obtain ⟨o2, s2, e2⟩ := hk; have h2 := HQi.out k o2 s2 e2; omega))
  replace HI := Lib.hid ((HI.out.ext (by repeat (first | with_reducible exact Ext.refl _ | with_reducible refine Ext.drew ?_ | with_reducible refine Ext.drewN ?_ _ | with_reducible refine Ext.alloc ?_ _ | with_reducible refine Ext.setCell ?_ (by first | omega | (simp; done) | (simp; omega)) _))).but hx17 (fun k hk => by obtain ⟨o2, s2, e2⟩ := hk; have h2 := HQi.out k o2 s2 e2; omega))
  clear HQ HT hsz17 X16 hx17
  refine hK.out _ _ (by (first | exact ⟨c0_0, c0_2⟩ | (simp [go_sem, World.cell?_alloc_past, c0_0, c0_2, rc0, rc0a, rc0b, rc0c, rc0n]; done))) (fun hHeld => ?_); clear hK K; try simp only [Act.put, List.setIfInBounds_toArray, List.set_cons_zero, List.set_cons_succ]
  (refine' take_in 37 rfl (by kernel_rfl) (by kernel_rfl) (by kernel_rfl) (fun _ _ _ h => h) (by rfl) (by assumption) ?_ ?_; rotate_left; focus (intro w hSw; (try dsimp only at hSw); go_simp; try with_reducible rfl)); try simp only [Act.put, List.setIfInBounds_toArray, List.set_cons_zero, List.set_cons_succ]
  (refine' take_in 38 rfl (by kernel_rfl) (by kernel_rfl) (by kernel_rfl) (fun _ _ _ h => h) (by rfl) (by assumption) ?_ ?_; rotate_left; focus (intro w hSw; (try dsimp only at hSw); go_simp; try with_reducible rfl)); try simp only [Act.put, List.setIfInBounds_toArray, List.set_cons_zero, List.set_cons_succ]
  (refine' take_in 39 rfl (by kernel_rfl) (by kernel_rfl) (by kernel_rfl) (fun _ _ _ h => h) (by rfl) (by assumption) ?_ ?_; rotate_left; focus (intro w hSw; (try dsimp only at hSw); go_simp; try with_reducible rfl)); try simp only [Act.put, List.setIfInBounds_toArray, List.set_cons_zero, List.set_cons_succ]
  (refine' take_in 40 rfl (by kernel_rfl) (by kernel_rfl) (by kernel_rfl) (fun _ _ _ h => h) (by rfl) (by assumption) ?_ ?_; rotate_left; focus (intro w hSw; (try dsimp only at hSw); go_simp; try with_reducible rfl)); try simp only [Act.put, List.setIfInBounds_toArray, List.set_cons_zero, List.set_cons_succ]
  refine' next_in 41 rfl (by kernel_rfl) (by rfl) (fun K hK => ?_)
  go_simp
  (with_reducible refine (kSameHops_eq A1 A _ c1 _ c l _ (HI.out.ext (by repeat (first | with_reducible exact Ext.refl _ | with_reducible refine Ext.drew ?_ | with_reducible refine Ext.drewN ?_ _ | with_reducible refine Ext.alloc ?_ _ | with_reducible refine Ext.setCell ?_ (by first | omega | (simp; done) | (simp; omega)) _))).sl (HS.out.ext (by repeat (first | with_reducible exact Ext.refl _ | with_reducible refine Ext.drew ?_ | with_reducible refine Ext.drewN ?_ _ | with_reducible refine Ext.alloc ?_ _ | with_reducible refine Ext.setCell ?_ (by first | omega | (simp; done) | (simp; omega)) _))).sl).mono ?_)
  rintro e w18 ⟨rfl, hx18⟩
  replace c0_0 : w18.cell? ⟨w.heap.size, 0, none⟩ = some (.int .i64 x0) := hx18.has (by first | exact c0_0 | (simp [go_sem, World.cell?_alloc_past, c0_0, c0_2, rc0, rc0a, rc0b, rc0c, rc0n]; done))
  replace c0_2 : w18.cell? ⟨w.heap.size, 2, none⟩ = some (.int .i64 x2) := hx18.has (by first | exact c0_2 | (simp [go_sem, World.cell?_alloc_past, c0_0, c0_2, rc0, rc0a, rc0b, rc0c, rc0n]; done))
  have z18 := hx18.size
  try simp at z18
  replace rc0 : w.heap.size < w18.heap.size := by omega
  replace rc0a : w.heap.size < w18.heap.size + 1 := by omega
  replace rc0b : w.heap.size < w18.heap.size + 1 + 1 := by omega
  replace rc0c : w.heap.size < w18.heap.size + 1 + 1 + 1 := by omega
  replace rc0n : ¬ w.heap.size = w18.heap.size := by omega
  replace HS := Lib.hid (HS.out.ext (Ext.trans (by repeat (first | with_reducible exact Ext.refl _ | with_reducible refine Ext.drew ?_ | with_reducible refine Ext.drewN ?_ _ | with_reducible refine Ext.alloc ?_ _ | with_reducible refine Ext.setCell ?_ (by first | omega | (simp; done) | (simp; omega)) _)) hx18))
  replace HI := Lib.hid (HI.out.ext (Ext.trans (by repeat (first | with_reducible exact Ext.refl _ | with_reducible refine Ext.drew ?_ | with_reducible refine Ext.drewN ?_ _ | with_reducible refine Ext.alloc ?_ _ | with_reducible refine Ext.setCell ?_ (by first | omega | (simp; done) | (simp; omega)) _)) hx18))
  have X18 : Hid (Ext w w18) := Lib.hid (Ext.trans (by repeat (first | with_reducible exact X17.out | with_reducible refine Ext.drew ?_ | with_reducible refine Ext.drewN ?_ _ | with_reducible refine Ext.alloc ?_ _ | with_reducible refine Ext.setCell ?_ (by first | omega | (simp; done) | (simp; omega)) _)) hx18)
  clear X17 hx18
  refine hK.out _ _ (by (first | exact ⟨c0_0, c0_2⟩ | (simp [go_sem, World.cell?_alloc_past, c0_0, c0_2, rc0, rc0a, rc0b, rc0c, rc0n]; done))) (fun hHeld => ?_); clear hK K; try simp only [Act.put, List.setIfInBounds_toArray, List.set_cons_zero, List.set_cons_succ]
  (refine' take_in 42 rfl (by kernel_rfl) (by kernel_rfl) (by kernel_rfl) (fun _ _ _ h => h) (by rfl) (by assumption) ?_ ?_; rotate_left; focus (intro w hSw; (try dsimp only at hSw); go_simp; try with_reducible rfl)); try simp only [Act.put, List.setIfInBounds_toArray, List.set_cons_zero, List.set_cons_succ]
  (refine' take_in 43 rfl (by kernel_rfl) (by kernel_rfl) (by kernel_rfl) (fun _ _ _ h => h) (by rfl) (by assumption) ?_ ?_; rotate_left; focus (intro w hSw; (try dsimp only at hSw); go_simp; try with_reducible rfl)); try simp only [Act.put, List.setIfInBounds_toArray, List.set_cons_zero, List.set_cons_succ]
  refine' next_in 44 rfl (by kernel_rfl) (by rfl) (fun K hK => ?_)
  go_simp
  (with_reducible refine (awake15_any _).mono ?_)
  rintro e w19 ⟨rfl, hx19⟩
  replace c0_0 : w19.cell? ⟨w.heap.size, 0, none⟩ = some (.int .i64 x0) := hx19.has (by first | exact c0_0 | (simp [go_sem, World.cell?_alloc_past, c0_0, c0_2, rc0, rc0a, rc0b, rc0c, rc0n]; done))
  replace c0_2 : w19.cell? ⟨w.heap.size, 2, none⟩ = some (.int .i64 x2) := hx19.has (by first | exact c0_2 | (simp [go_sem, World.cell?_alloc_past, c0_0, c0_2, rc0, rc0a, rc0b, rc0c, rc0n]; done))
  have z19 := hx19.size
  try simp at z19
  replace rc0 : w.heap.size < w19.heap.size := by omega
  replace rc0a : w.heap.size < w19.heap.size + 1 := by omega
  replace rc0b : w.heap.size < w19.heap.size + 1 + 1 := by omega
  replace rc0c : w.heap.size < w19.heap.size + 1 + 1 + 1 := by omega
  replace rc0n : ¬ w.heap.size = w19.heap.size := by omega
  replace HS := Lib.hid (HS.out.ext (Ext.trans (by repeat (first | with_reducible exact Ext.refl _ | with_reducible refine Ext.drew ?_ | with_reducible refine Ext.drewN ?_ _ | with_reducible refine Ext.alloc ?_ _ | with_reducible refine Ext.setCell ?_ (by first | omega | (simp; done) | (simp; omega)) _)) hx19))
  replace HI := Lib.hid (HI.out.ext (Ext.trans (by repeat (first | with_reducible exact Ext.refl _ | with_reducible refine Ext.drew ?_ | with_reducible refine Ext.drewN ?_ _ | with_reducible refine Ext.alloc ?_ _ | with_reducible refine Ext.setCell ?_ (by first | omega | (simp; done) | (simp; omega)) _)) hx19))
  have X19 : Hid (Ext w w19) := Lib.hid (Ext.trans (by repeat (first | with_reducible exact X18.out | with_reducible refine Ext.drew ?_ | with_reducible refine Ext.drewN ?_ _ | with_reducible refine Ext.alloc ?_ _ | with_reducible refine Ext.setCell ?_ (by first | omega | (simp; done) | (simp; omega)) _)) hx19)
  clear X18 hx19
  refine hK.out _ _ (by (first | exact ⟨c0_0, c0_2⟩ | (simp [go_sem, World.cell?_alloc_past, c0_0, c0_2, rc0, rc0a, rc0b, rc0c, rc0n]; done))) (fun hHeld => ?_); clear hK K; try simp only [Act.put, List.setIfInBounds_toArray, List.set_cons_zero, List.set_cons_succ]
  (refine' take_in 45 rfl (by kernel_rfl) (by kernel_rfl) (by kernel_rfl) (fun _ _ _ h => h) (by rfl) (by assumption) ?_ ?_; rotate_left; focus (intro w hSw; (try dsimp only at hSw); go_simp; try with_reducible rfl)); try simp only [Act.put, List.setIfInBounds_toArray, List.set_cons_zero, List.set_cons_succ]
  (refine' take_in 46 rfl (by kernel_rfl) (by kernel_rfl) (by kernel_rfl) (fun _ _ _ h => h) (by rfl) (by assumption) ?_ ?_; rotate_left; focus (intro w hSw; (try dsimp only at hSw); go_simp; try with_reducible rfl)); try simp only [Act.put, List.setIfInBounds_toArray, List.set_cons_zero, List.set_cons_succ]
  refine wpAnyH_done (by kernel_rfl) ?_ _
  go_wp2_with fail
  go_ret
  exact ⟨rfl, (by repeat (first | with_reducible exact X19.out | with_reducible refine Ext.drew ?_ | with_reducible refine Ext.drewN ?_ _ | with_reducible refine Ext.alloc ?_ _ | with_reducible refine Ext.setCell ?_ (by first | omega | (simp; done) | (simp; omega)) _))⟩
theorem HopLists_any (A : Option Addr) (c : Nat) (l : List (Int × Int × Int × Int)) (x0 x1 x2 x3 : Int) (g0 : Fits .i64 x0) (g1 : Fits .i64 x1) (g2 : Fits .i64 x2) (g3 : Fits .i64 x3) (mo : Int) (_ : Fits .i64 mo) (hh : Int) (_ : Fits .i64 hh) (u : Int) (_ : Fits .i64 u) (w : World) (h : Sl w 4 A l.length c (l.flatMap hopC)) (hw : ∀ x ∈ l, FitsH x) (hnil : A = none → c = 0) :
    Calls Try.prog 3 #[.slice A l.length c, .agg #[.int .i64 x0, .int .i64 x1, .int .i64 x2, .int .i64 x3], .int .i64 mo, .int .i64 hh, .int .i64 u] w fun r w' => r = .returned (.bool true) ∧ Ext w w' := by
  by_cases hl : l.length ≤ 60
  · exact HopLists_main A c l (addV l (x0, x1, x2, x3) mo).1 (ripV l hh u).1 (ripV l hh u).2.1 (intoV l x0 x2) x0 x1 x2 x3 mo hh u (chkH l).1 (chkH l).2 (nxtV l u).1 (cntL l x0 x1 x2) (addV l (x0, x1, x2, x3) mo).2 (ripV l hh u).2.2 (nxtV l u).2 w h hw ⟨g0, g1, g2, g3⟩ hl rfl rfl rfl rfl rfl rfl
  · exact HopLists_long A c l.length x0 x1 x2 x3 mo hh u w hl h.small
end Go.Proofs.Ytjdpgapmdmpjjaa
