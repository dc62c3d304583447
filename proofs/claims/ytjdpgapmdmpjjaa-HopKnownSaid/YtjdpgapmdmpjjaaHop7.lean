/- hops: a list with one more, the reference's side. Conditions stand in each lemma. -/
import Derived.Test.YtjdpgapmdmpjjaaHop6
set_option linter.unusedVariables false
set_option linter.unusedSimpArgs false
namespace Go.Proofs.Ytjdpgapmdmpjjaa
open Go.RowKit Go.ChangeShapes Go.WideShapes Go.Deep Go.Joins

theorem mayV_cases {x : (Int × Int × Int × Int)} {l : List (Int × Int × Int × Int)} (h : MayH x) : mayV x l = match l.getLast? with | some y => if x.2.2.2 < y.2.2.2 then 9 else 0 | none => 0 := by
  unfold mayV
  rw [if_neg (by simpa using h)]
  rfl
theorem getLast_at {l : List (Int × Int × Int × Int)} {m : Nat} {y : (Int × Int × Int × Int)} (h : l[m]? = some y) (hl : l.length = m + 1) : l.getLast? = some y := by
  rw [List.getLast?_eq_getElem?, hl]
  exact h
theorem rCount15_ev (A : Option Addr) (n c : Nat) (l : List (Int × Int × Int × Int)) (ow sr d cv : Int) (w : World) (h : Sl w 4 A n c (l.flatMap hopC)) (hn : n < 1099511627776) (hv : cv = cntL l ow sr d) :
    Calls Try.prog 22 #[.slice A n c, .int .i64 ow, .int .i64 sr, .int .i64 d] w fun e w' => e = .returned (.int .i64 cv) ∧ Ext w w' := by
  rw [hv]
  exact rCount15_any A n c l ow sr d w h hn
set_option maxRecDepth 100000 in
set_option maxHeartbeats 4000000 in
theorem rAdd15_chk (A : Option Addr) (n c : Nat) (l : List (Int × Int × Int × Int)) (x0 x1 x2 x3 mo f1 f2 cv : Int) (w : World) (h : Sl w 4 A n c (l.flatMap hopC)) (hn : n < 1099511627776) (hw : ∀ x ∈ l, FitsH x) (hf : (f1, f2) = chkH l) (hv : cv = cntL l x0 x1 x2) (hc : f1 ≠ 0) :
    Calls Try.prog 24 #[.slice A n c, .agg #[.int .i64 x0, .int .i64 x1, .int .i64 x2, .int .i64 x3], .int .i64 mo] w (RetHopV [] [.int .i64 f1] w) := by
  have hl := h.rlen hopC_len (by decide)
  have s1 := h.small
  have e0 : (f1 != 0) = true := by simpa using hc
  have HS := Lib.hid h
  have HW := Lib.hid hw
  have HF := Lib.hid hf
  have HV := Lib.hid hv
  clear h hw hf hv hl
  go_enter Try.func24, Try.ntmps24
  go_wp2_with fail
  (with_reducible refine (rCheck15_ev A n c l f1 f2 _ (HS.out.ext (by repeat (first | with_reducible exact Ext.refl _ | with_reducible refine Ext.drew ?_ | with_reducible refine Ext.drewN ?_ _ | with_reducible refine Ext.alloc ?_ _ | with_reducible refine Ext.setCell ?_ (by first | omega | (simp; done) | (simp; omega)) _))) (fits_t HW.out) HF.out).mono ?_)
  rintro e w1 ⟨rfl, hx1⟩
  have z1 := hx1.size
  try simp at z1
  replace HS := Lib.hid (HS.out.ext (Ext.trans (by repeat (first | with_reducible exact Ext.refl _ | with_reducible refine Ext.drew ?_ | with_reducible refine Ext.drewN ?_ _ | with_reducible refine Ext.alloc ?_ _ | with_reducible refine Ext.setCell ?_ (by first | omega | (simp; done) | (simp; omega)) _)) hx1))
  have X1 : Hid (Ext w w1) := Lib.hid (Ext.trans (by repeat (first | with_reducible exact Ext.refl w | with_reducible refine Ext.drew ?_ | with_reducible refine Ext.drewN ?_ _ | with_reducible refine Ext.alloc ?_ _ | with_reducible refine Ext.setCell ?_ (by first | omega | (simp; done) | (simp; omega)) _)) hx1)
  clear hx1 z1
  go_wp2_with fail
  refine bodyPost_ret (v := .tuple #[.slice none 0 0, .int .i64 f1]) (by simp [results, Try.results24, go_sem, World.cell?_alloc_past]; try rfl) rfl (RetHopV.nil (xs := [.int .i64 f1]) ?_)
  exact (by repeat (first | with_reducible exact X1.out | with_reducible refine Ext.drew ?_ | with_reducible refine Ext.drewN ?_ _ | with_reducible refine Ext.alloc ?_ _ | with_reducible refine Ext.setCell ?_ (by first | omega | (simp; done) | (simp; omega)) _))
set_option maxRecDepth 100000 in
set_option maxHeartbeats 4000000 in
theorem rAdd15_rng (A : Option Addr) (n c : Nat) (l : List (Int × Int × Int × Int)) (x0 x1 x2 x3 mo f1 f2 cv : Int) (w : World) (h : Sl w 4 A n c (l.flatMap hopC)) (hn : n < 1099511627776) (hw : ∀ x ∈ l, FitsH x) (hf : (f1, f2) = chkH l) (hv : cv = cntL l x0 x1 x2) (hc : f1 = 0) (hm : ¬ MayH (x0, x1, x2, x3)) :
    Calls Try.prog 24 #[.slice A n c, .agg #[.int .i64 x0, .int .i64 x1, .int .i64 x2, .int .i64 x3], .int .i64 mo] w (RetHopV [] [.int .i64 3] w) := by
  have hl := h.rlen hopC_len (by decide)
  have s1 := h.small
  subst hc
  have HB : Hid (false = decide (MayH (x0, x1, x2, x3))) := Lib.hid (decide_eq_false hm).symm
  have HS := Lib.hid h
  have HW := Lib.hid hw
  have HF := Lib.hid hf
  have HV := Lib.hid hv
  clear h hw hf hv hl
  go_enter Try.func24, Try.ntmps24
  go_wp2_with fail
  (with_reducible refine (rCheck15_ev A n c l 0 f2 _ (HS.out.ext (by repeat (first | with_reducible exact Ext.refl _ | with_reducible refine Ext.drew ?_ | with_reducible refine Ext.drewN ?_ _ | with_reducible refine Ext.alloc ?_ _ | with_reducible refine Ext.setCell ?_ (by first | omega | (simp; done) | (simp; omega)) _))) (fits_t HW.out) HF.out).mono ?_)
  rintro e w1 ⟨rfl, hx1⟩
  have c0_0 : w1.cell? ⟨w.heap.size, 0, none⟩ = some (.int .i64 x0) := hx1.has (by first | fail | (simp [go_sem, World.cell?_alloc_past]; done))
  have c0_1 : w1.cell? ⟨w.heap.size, 1, none⟩ = some (.int .i64 x1) := hx1.has (by first | fail | (simp [go_sem, World.cell?_alloc_past]; done))
  have c0_2 : w1.cell? ⟨w.heap.size, 2, none⟩ = some (.int .i64 x2) := hx1.has (by first | fail | (simp [go_sem, World.cell?_alloc_past]; done))
  have c0_3 : w1.cell? ⟨w.heap.size, 3, none⟩ = some (.int .i64 x3) := hx1.has (by first | fail | (simp [go_sem, World.cell?_alloc_past]; done))
  have z1 := hx1.size
  try simp at z1
  have rc0 : w.heap.size < w1.heap.size := by omega
  have rc0a : w.heap.size < w1.heap.size + 1 := by omega
  have rc0b : w.heap.size < w1.heap.size + 1 + 1 := by omega
  have rc0c : w.heap.size < w1.heap.size + 1 + 1 + 1 := by omega
  have rc0n : ¬ w.heap.size = w1.heap.size := by omega
  replace HS := Lib.hid (HS.out.ext (Ext.trans (by repeat (first | with_reducible exact Ext.refl _ | with_reducible refine Ext.drew ?_ | with_reducible refine Ext.drewN ?_ _ | with_reducible refine Ext.alloc ?_ _ | with_reducible refine Ext.setCell ?_ (by first | omega | (simp; done) | (simp; omega)) _)) hx1))
  have X1 : Hid (Ext w w1) := Lib.hid (Ext.trans (by repeat (first | with_reducible exact Ext.refl w | with_reducible refine Ext.drew ?_ | with_reducible refine Ext.drewN ?_ _ | with_reducible refine Ext.alloc ?_ _ | with_reducible refine Ext.setCell ?_ (by first | omega | (simp; done) | (simp; omega)) _)) hx1)
  clear hx1 z1
  go_wp2_with fail
  (with_reducible refine (rMay15_any x0 x1 x2 x3 false _ HB.out).mono ?_)
  rintro e w2 ⟨rfl, hx2⟩
  have z2 := hx2.size
  try simp at z2
  replace HS := Lib.hid (HS.out.ext (Ext.trans (by repeat (first | with_reducible exact Ext.refl _ | with_reducible refine Ext.drew ?_ | with_reducible refine Ext.drewN ?_ _ | with_reducible refine Ext.alloc ?_ _ | with_reducible refine Ext.setCell ?_ (by first | omega | (simp; done) | (simp; omega)) _)) hx2))
  have X2 : Hid (Ext w w2) := Lib.hid (Ext.trans (by repeat (first | with_reducible exact X1.out | with_reducible refine Ext.drew ?_ | with_reducible refine Ext.drewN ?_ _ | with_reducible refine Ext.alloc ?_ _ | with_reducible refine Ext.setCell ?_ (by first | omega | (simp; done) | (simp; omega)) _)) hx2)
  clear c0_1 c0_0 c0_3 c0_2 rc0 rc0a rc0b rc0c rc0n X1 hx2 z2
  go_wp2_with fail
  refine bodyPost_ret (v := .tuple #[.slice none 0 0, .int .i64 3]) (by simp [results, Try.results24, go_sem, World.cell?_alloc_past]; try rfl) rfl (RetHopV.nil (xs := [.int .i64 3]) ?_)
  exact (by repeat (first | with_reducible exact X2.out | with_reducible refine Ext.drew ?_ | with_reducible refine Ext.drewN ?_ _ | with_reducible refine Ext.alloc ?_ _ | with_reducible refine Ext.setCell ?_ (by first | omega | (simp; done) | (simp; omega)) _))
set_option maxRecDepth 100000 in
set_option maxHeartbeats 4000000 in
theorem rAdd15_lo (A : Option Addr) (n c : Nat) (l : List (Int × Int × Int × Int)) (x0 x1 x2 x3 mo f1 f2 cv : Int) (w : World) (h : Sl w 4 A n c (l.flatMap hopC)) (hn : n < 1099511627776) (hw : ∀ x ∈ l, FitsH x) (hf : (f1, f2) = chkH l) (hv : cv = cntL l x0 x1 x2) (hc : f1 = 0) (hm : MayH (x0, x1, x2, x3)) (h4 : mo < 1) :
    Calls Try.prog 24 #[.slice A n c, .agg #[.int .i64 x0, .int .i64 x1, .int .i64 x2, .int .i64 x3], .int .i64 mo] w (RetHopV [] [.int .i64 3] w) := by
  have hl := h.rlen hopC_len (by decide)
  have s1 := h.small
  subst hc
  have HB : Hid (true = decide (MayH (x0, x1, x2, x3))) := Lib.hid (decide_eq_true hm).symm
  have HS := Lib.hid h
  have HW := Lib.hid hw
  have HF := Lib.hid hf
  have HV := Lib.hid hv
  clear h hw hf hv hl
  go_enter Try.func24, Try.ntmps24
  go_wp2_with fail
  (with_reducible refine (rCheck15_ev A n c l 0 f2 _ (HS.out.ext (by repeat (first | with_reducible exact Ext.refl _ | with_reducible refine Ext.drew ?_ | with_reducible refine Ext.drewN ?_ _ | with_reducible refine Ext.alloc ?_ _ | with_reducible refine Ext.setCell ?_ (by first | omega | (simp; done) | (simp; omega)) _))) (fits_t HW.out) HF.out).mono ?_)
  rintro e w1 ⟨rfl, hx1⟩
  have c0_0 : w1.cell? ⟨w.heap.size, 0, none⟩ = some (.int .i64 x0) := hx1.has (by first | fail | (simp [go_sem, World.cell?_alloc_past]; done))
  have c0_1 : w1.cell? ⟨w.heap.size, 1, none⟩ = some (.int .i64 x1) := hx1.has (by first | fail | (simp [go_sem, World.cell?_alloc_past]; done))
  have c0_2 : w1.cell? ⟨w.heap.size, 2, none⟩ = some (.int .i64 x2) := hx1.has (by first | fail | (simp [go_sem, World.cell?_alloc_past]; done))
  have c0_3 : w1.cell? ⟨w.heap.size, 3, none⟩ = some (.int .i64 x3) := hx1.has (by first | fail | (simp [go_sem, World.cell?_alloc_past]; done))
  have z1 := hx1.size
  try simp at z1
  have rc0 : w.heap.size < w1.heap.size := by omega
  have rc0a : w.heap.size < w1.heap.size + 1 := by omega
  have rc0b : w.heap.size < w1.heap.size + 1 + 1 := by omega
  have rc0c : w.heap.size < w1.heap.size + 1 + 1 + 1 := by omega
  have rc0n : ¬ w.heap.size = w1.heap.size := by omega
  replace HS := Lib.hid (HS.out.ext (Ext.trans (by repeat (first | with_reducible exact Ext.refl _ | with_reducible refine Ext.drew ?_ | with_reducible refine Ext.drewN ?_ _ | with_reducible refine Ext.alloc ?_ _ | with_reducible refine Ext.setCell ?_ (by first | omega | (simp; done) | (simp; omega)) _)) hx1))
  have X1 : Hid (Ext w w1) := Lib.hid (Ext.trans (by repeat (first | with_reducible exact Ext.refl w | with_reducible refine Ext.drew ?_ | with_reducible refine Ext.drewN ?_ _ | with_reducible refine Ext.alloc ?_ _ | with_reducible refine Ext.setCell ?_ (by first | omega | (simp; done) | (simp; omega)) _)) hx1)
  clear hx1 z1
  go_wp2_with fail
  (with_reducible refine (rMay15_any x0 x1 x2 x3 true _ HB.out).mono ?_)
  rintro e w2 ⟨rfl, hx2⟩
  have z2 := hx2.size
  try simp at z2
  replace HS := Lib.hid (HS.out.ext (Ext.trans (by repeat (first | with_reducible exact Ext.refl _ | with_reducible refine Ext.drew ?_ | with_reducible refine Ext.drewN ?_ _ | with_reducible refine Ext.alloc ?_ _ | with_reducible refine Ext.setCell ?_ (by first | omega | (simp; done) | (simp; omega)) _)) hx2))
  have X2 : Hid (Ext w w2) := Lib.hid (Ext.trans (by repeat (first | with_reducible exact X1.out | with_reducible refine Ext.drew ?_ | with_reducible refine Ext.drewN ?_ _ | with_reducible refine Ext.alloc ?_ _ | with_reducible refine Ext.setCell ?_ (by first | omega | (simp; done) | (simp; omega)) _)) hx2)
  clear c0_1 c0_0 c0_3 c0_2 rc0 rc0a rc0b rc0c rc0n X1 hx2 z2
  go_wp2_with fail
  refine bodyPost_ret (v := .tuple #[.slice none 0 0, .int .i64 3]) (by simp [results, Try.results24, go_sem, World.cell?_alloc_past]; try rfl) rfl (RetHopV.nil (xs := [.int .i64 3]) ?_)
  exact (by repeat (first | with_reducible exact X2.out | with_reducible refine Ext.drew ?_ | with_reducible refine Ext.drewN ?_ _ | with_reducible refine Ext.alloc ?_ _ | with_reducible refine Ext.setCell ?_ (by first | omega | (simp; done) | (simp; omega)) _))
set_option maxRecDepth 100000 in
set_option maxHeartbeats 4000000 in
theorem rAdd15_hi (A : Option Addr) (n c : Nat) (l : List (Int × Int × Int × Int)) (x0 x1 x2 x3 mo f1 f2 cv : Int) (w : World) (h : Sl w 4 A n c (l.flatMap hopC)) (hn : n < 1099511627776) (hw : ∀ x ∈ l, FitsH x) (hf : (f1, f2) = chkH l) (hv : cv = cntL l x0 x1 x2) (hc : f1 = 0) (hm : MayH (x0, x1, x2, x3)) (h4 : ¬ mo < 1) (h5 : mo > 16) :
    Calls Try.prog 24 #[.slice A n c, .agg #[.int .i64 x0, .int .i64 x1, .int .i64 x2, .int .i64 x3], .int .i64 mo] w (RetHopV [] [.int .i64 3] w) := by
  have hl := h.rlen hopC_len (by decide)
  have s1 := h.small
  subst hc
  have HB : Hid (true = decide (MayH (x0, x1, x2, x3))) := Lib.hid (decide_eq_true hm).symm
  have HS := Lib.hid h
  have HW := Lib.hid hw
  have HF := Lib.hid hf
  have HV := Lib.hid hv
  clear h hw hf hv hl
  go_enter Try.func24, Try.ntmps24
  go_wp2_with fail
  (with_reducible refine (rCheck15_ev A n c l 0 f2 _ (HS.out.ext (by repeat (first | with_reducible exact Ext.refl _ | with_reducible refine Ext.drew ?_ | with_reducible refine Ext.drewN ?_ _ | with_reducible refine Ext.alloc ?_ _ | with_reducible refine Ext.setCell ?_ (by first | omega | (simp; done) | (simp; omega)) _))) (fits_t HW.out) HF.out).mono ?_)
  rintro e w1 ⟨rfl, hx1⟩
  have c0_0 : w1.cell? ⟨w.heap.size, 0, none⟩ = some (.int .i64 x0) := hx1.has (by first | fail | (simp [go_sem, World.cell?_alloc_past]; done))
  have c0_1 : w1.cell? ⟨w.heap.size, 1, none⟩ = some (.int .i64 x1) := hx1.has (by first | fail | (simp [go_sem, World.cell?_alloc_past]; done))
  have c0_2 : w1.cell? ⟨w.heap.size, 2, none⟩ = some (.int .i64 x2) := hx1.has (by first | fail | (simp [go_sem, World.cell?_alloc_past]; done))
  have c0_3 : w1.cell? ⟨w.heap.size, 3, none⟩ = some (.int .i64 x3) := hx1.has (by first | fail | (simp [go_sem, World.cell?_alloc_past]; done))
  have z1 := hx1.size
  try simp at z1
  have rc0 : w.heap.size < w1.heap.size := by omega
  have rc0a : w.heap.size < w1.heap.size + 1 := by omega
  have rc0b : w.heap.size < w1.heap.size + 1 + 1 := by omega
  have rc0c : w.heap.size < w1.heap.size + 1 + 1 + 1 := by omega
  have rc0n : ¬ w.heap.size = w1.heap.size := by omega
  replace HS := Lib.hid (HS.out.ext (Ext.trans (by repeat (first | with_reducible exact Ext.refl _ | with_reducible refine Ext.drew ?_ | with_reducible refine Ext.drewN ?_ _ | with_reducible refine Ext.alloc ?_ _ | with_reducible refine Ext.setCell ?_ (by first | omega | (simp; done) | (simp; omega)) _)) hx1))
  have X1 : Hid (Ext w w1) := Lib.hid (Ext.trans (by repeat (first | with_reducible exact Ext.refl w | with_reducible refine Ext.drew ?_ | with_reducible refine Ext.drewN ?_ _ | with_reducible refine Ext.alloc ?_ _ | with_reducible refine Ext.setCell ?_ (by first | omega | (simp; done) | (simp; omega)) _)) hx1)
  clear hx1 z1
  go_wp2_with fail
  (with_reducible refine (rMay15_any x0 x1 x2 x3 true _ HB.out).mono ?_)
  rintro e w2 ⟨rfl, hx2⟩
  have z2 := hx2.size
  try simp at z2
  replace HS := Lib.hid (HS.out.ext (Ext.trans (by repeat (first | with_reducible exact Ext.refl _ | with_reducible refine Ext.drew ?_ | with_reducible refine Ext.drewN ?_ _ | with_reducible refine Ext.alloc ?_ _ | with_reducible refine Ext.setCell ?_ (by first | omega | (simp; done) | (simp; omega)) _)) hx2))
  have X2 : Hid (Ext w w2) := Lib.hid (Ext.trans (by repeat (first | with_reducible exact X1.out | with_reducible refine Ext.drew ?_ | with_reducible refine Ext.drewN ?_ _ | with_reducible refine Ext.alloc ?_ _ | with_reducible refine Ext.setCell ?_ (by first | omega | (simp; done) | (simp; omega)) _)) hx2)
  clear c0_1 c0_0 c0_3 c0_2 rc0 rc0a rc0b rc0c rc0n X1 hx2 z2
  go_wp2_with fail
  refine bodyPost_ret (v := .tuple #[.slice none 0 0, .int .i64 3]) (by simp [results, Try.results24, go_sem, World.cell?_alloc_past]; try rfl) rfl (RetHopV.nil (xs := [.int .i64 3]) ?_)
  exact (by repeat (first | with_reducible exact X2.out | with_reducible refine Ext.drew ?_ | with_reducible refine Ext.drewN ?_ _ | with_reducible refine Ext.alloc ?_ _ | with_reducible refine Ext.setCell ?_ (by first | omega | (simp; done) | (simp; omega)) _))
set_option maxRecDepth 100000 in
set_option maxHeartbeats 4000000 in
theorem rAdd15_ord (A : Option Addr) (n c : Nat) (l : List (Int × Int × Int × Int)) (x0 x1 x2 x3 mo f1 f2 cv : Int) (w : World) (h : Sl w 4 A n c (l.flatMap hopC)) (hn : n < 1099511627776) (hw : ∀ x ∈ l, FitsH x) (hf : (f1, f2) = chkH l) (hv : cv = cntL l x0 x1 x2) (hc : f1 = 0) (hm : MayH (x0, x1, x2, x3)) (h4 : ¬ mo < 1) (h5 : ¬ mo > 16) (m : Nat) (z0 z1 z2 z3 : Int) (hm1 : n = m + 1) (hz : l[m]? = some (z0, z1, z2, z3)) (h6 : x3 < z3) :
    Calls Try.prog 24 #[.slice A n c, .agg #[.int .i64 x0, .int .i64 x1, .int .i64 x2, .int .i64 x3], .int .i64 mo] w (RetHopV [] [.int .i64 9] w) := by
  have hl := h.rlen hopC_len (by decide)
  have s1 := h.small
  subst hc
  have HB : Hid (true = decide (MayH (x0, x1, x2, x3))) := Lib.hid (decide_eq_true hm).symm
  subst hm1
  obtain ⟨b1, o1, rfl, hb1, hc1⟩ := h.rec_ hopC_len (show 0 < m + 1 from by omega)
  have z_3 := hc1 m (z0, z1, z2, z3) hz 3 _ rfl
  rw [← Nat.add_assoc] at z_3
  have hwm : IntKind.i64.wrap (((m + 1 : Nat) : Int) - 1) = (m : Int) := by rw [IntWalk.i64_in _ (by omega)]; omega
  have hwm2 : IntKind.i64.wrap (((m : Int) + 1) - 1) = (m : Int) := by rw [IntWalk.i64_in _ (by omega)]; omega
  have hwm3 : IntKind.i64.wrap (m : Int) = (m : Int) := IntWalk.i64_in _ (by omega)
  have hmm2 : (m : Int) < (m : Int) + 1 := by omega
  have hmm : (m : Int) < ((m + 1 : Nat) : Int) := by omega
  have hm0 : (0 : Int) < (m : Int) + 1 := by omega
  have hm1 : (0 : Int) < ((m + 1 : Nat) : Int) := by omega
  have hm2 : (m : Int) + 1 > 0 := by omega
  have rz := hb1
  have rza : b1 < w.heap.size + 1 := by omega
  have rzb : b1 < w.heap.size + 1 + 1 := by omega
  have rzc : b1 < w.heap.size + 1 + 1 + 1 := by omega
  have rzn : ¬ b1 = w.heap.size := by omega
  have HS := Lib.hid h
  have HW := Lib.hid hw
  have HF := Lib.hid hf
  have HV := Lib.hid hv
  clear h hw hf hv hl hc1
  go_enter Try.func24, Try.ntmps24
  go_wp2_with fail
  (with_reducible refine (rCheck15_ev (some ⟨b1, o1, none⟩) (m + 1) c l 0 f2 _ (HS.out.ext (by repeat (first | with_reducible exact Ext.refl _ | with_reducible refine Ext.drew ?_ | with_reducible refine Ext.drewN ?_ _ | with_reducible refine Ext.alloc ?_ _ | with_reducible refine Ext.setCell ?_ (by first | omega | (simp; done) | (simp; omega)) _))) (fits_t HW.out) HF.out).mono ?_)
  rintro e w1 ⟨rfl, hx1⟩
  replace z_3 : w1.cell? ⟨b1, o1 + m * 4 + 3, none⟩ = some (.int .i64 z3) := hx1.has (by first | exact z_3 | (simp [go_sem, World.cell?_alloc_past, z_3, rz, rza, rzb, rzc, rzn]; done))
  have c0_0 : w1.cell? ⟨w.heap.size, 0, none⟩ = some (.int .i64 x0) := hx1.has (by first | fail | (simp [go_sem, World.cell?_alloc_past, z_3, rz, rza, rzb, rzc, rzn]; done))
  have c0_1 : w1.cell? ⟨w.heap.size, 1, none⟩ = some (.int .i64 x1) := hx1.has (by first | fail | (simp [go_sem, World.cell?_alloc_past, z_3, rz, rza, rzb, rzc, rzn]; done))
  have c0_2 : w1.cell? ⟨w.heap.size, 2, none⟩ = some (.int .i64 x2) := hx1.has (by first | fail | (simp [go_sem, World.cell?_alloc_past, z_3, rz, rza, rzb, rzc, rzn]; done))
  have c0_3 : w1.cell? ⟨w.heap.size, 3, none⟩ = some (.int .i64 x3) := hx1.has (by first | fail | (simp [go_sem, World.cell?_alloc_past, z_3, rz, rza, rzb, rzc, rzn]; done))
  have z1 := hx1.size
  try simp at z1
  have lt_z_c0 : b1 < w.heap.size := by omega
  have ne_z_c0 : ¬ b1 = w.heap.size := by omega
  have ne_c0_z : ¬ w.heap.size = b1 := by omega
  replace rz : b1 < w1.heap.size := by omega
  replace rza : b1 < w1.heap.size + 1 := by omega
  replace rzb : b1 < w1.heap.size + 1 + 1 := by omega
  replace rzc : b1 < w1.heap.size + 1 + 1 + 1 := by omega
  replace rzn : ¬ b1 = w1.heap.size := by omega
  have rc0 : w.heap.size < w1.heap.size := by omega
  have rc0a : w.heap.size < w1.heap.size + 1 := by omega
  have rc0b : w.heap.size < w1.heap.size + 1 + 1 := by omega
  have rc0c : w.heap.size < w1.heap.size + 1 + 1 + 1 := by omega
  have rc0n : ¬ w.heap.size = w1.heap.size := by omega
  replace HS := Lib.hid (HS.out.ext (Ext.trans (by repeat (first | with_reducible exact Ext.refl _ | with_reducible refine Ext.drew ?_ | with_reducible refine Ext.drewN ?_ _ | with_reducible refine Ext.alloc ?_ _ | with_reducible refine Ext.setCell ?_ (by first | omega | (simp; done) | (simp; omega)) _)) hx1))
  have X1 : Hid (Ext w w1) := Lib.hid (Ext.trans (by repeat (first | with_reducible exact Ext.refl w | with_reducible refine Ext.drew ?_ | with_reducible refine Ext.drewN ?_ _ | with_reducible refine Ext.alloc ?_ _ | with_reducible refine Ext.setCell ?_ (by first | omega | (simp; done) | (simp; omega)) _)) hx1)
  clear hx1 z1
  go_wp2_with fail
  (with_reducible refine (rMay15_any x0 x1 x2 x3 true _ HB.out).mono ?_)
  rintro e w2 ⟨rfl, hx2⟩
  replace z_3 : w2.cell? ⟨b1, o1 + m * 4 + 3, none⟩ = some (.int .i64 z3) := hx2.has (by first | exact z_3 | (simp [go_sem, World.cell?_alloc_past, z_3, c0_0, c0_1, c0_2, c0_3, ne_z_c0, ne_c0_z, rz, rza, rzb, rzc, rzn, rc0, rc0a, rc0b, rc0c, rc0n]; done))
  replace c0_3 : w2.cell? ⟨w.heap.size, 3, none⟩ = some (.int .i64 x3) := hx2.has (by first | exact c0_3 | (simp [go_sem, World.cell?_alloc_past, z_3, c0_0, c0_1, c0_2, c0_3, ne_z_c0, ne_c0_z, rz, rza, rzb, rzc, rzn, rc0, rc0a, rc0b, rc0c, rc0n]; done))
  have z2 := hx2.size
  try simp at z2
  replace rz : b1 < w2.heap.size := by omega
  replace rza : b1 < w2.heap.size + 1 := by omega
  replace rzb : b1 < w2.heap.size + 1 + 1 := by omega
  replace rzc : b1 < w2.heap.size + 1 + 1 + 1 := by omega
  replace rzn : ¬ b1 = w2.heap.size := by omega
  replace rc0 : w.heap.size < w2.heap.size := by omega
  replace rc0a : w.heap.size < w2.heap.size + 1 := by omega
  replace rc0b : w.heap.size < w2.heap.size + 1 + 1 := by omega
  replace rc0c : w.heap.size < w2.heap.size + 1 + 1 + 1 := by omega
  replace rc0n : ¬ w.heap.size = w2.heap.size := by omega
  replace HS := Lib.hid (HS.out.ext (Ext.trans (by repeat (first | with_reducible exact Ext.refl _ | with_reducible refine Ext.drew ?_ | with_reducible refine Ext.drewN ?_ _ | with_reducible refine Ext.alloc ?_ _ | with_reducible refine Ext.setCell ?_ (by first | omega | (simp; done) | (simp; omega)) _)) hx2))
  have X2 : Hid (Ext w w2) := Lib.hid (Ext.trans (by repeat (first | with_reducible exact X1.out | with_reducible refine Ext.drew ?_ | with_reducible refine Ext.drewN ?_ _ | with_reducible refine Ext.alloc ?_ _ | with_reducible refine Ext.setCell ?_ (by first | omega | (simp; done) | (simp; omega)) _)) hx2)
  clear c0_1 c0_0 c0_2 X1 hx2 z2
  go_wp2_with fail
  refine wp_region_held_drew (S := fun w' => w'.cell? ⟨w.heap.size, 3, none⟩ = some (.int .i64 x3) ∧ w'.cell? ⟨b1, o1 + m * 4 + 3, none⟩ = some (.int .i64 z3)) (by kernel_rfl) (by first | exact ⟨c0_3, z_3⟩ | (simp [go_sem, World.cell?_alloc_past, z_3, c0_3, ne_z_c0, ne_c0_z, rz, rza, rzb, rzc, rzn, rc0, rc0a, rc0b, rc0c, rc0n]; done)) (fun hHeld => ?_)
  (refine' take_in 0 rfl (by kernel_rfl) (by kernel_rfl) (by kernel_rfl) (fun _ _ _ h => h) (by rfl) (by assumption) ?_ ?_; rotate_left; focus (intro w hSw; (try dsimp only at hSw); go_simp; try with_reducible rfl)); try simp only [Act.put, List.setIfInBounds_toArray, List.set_cons_zero, List.set_cons_succ]
  (refine' take_in 1 rfl (by kernel_rfl) (by kernel_rfl) (by kernel_rfl) (fun _ _ _ h => h) (by rfl) (by assumption) ?_ ?_; rotate_left; focus (intro w hSw; (try dsimp only at hSw); go_simp; try with_reducible rfl)); try simp only [Act.put, List.setIfInBounds_toArray, List.set_cons_zero, List.set_cons_succ]
  (refine' take_in 2 rfl (by kernel_rfl) (by kernel_rfl) (by kernel_rfl) (fun _ _ _ h => h) (by rfl) (by assumption) ?_ ?_; rotate_left; focus (intro w hSw; (try dsimp only at hSw); go_simp; try with_reducible rfl)); try simp only [Act.put, List.setIfInBounds_toArray, List.set_cons_zero, List.set_cons_succ]
  (refine' take_in 3 rfl (by kernel_rfl) (by kernel_rfl) (by kernel_rfl) (fun _ _ _ h => h) (by rfl) (by assumption) ?_ ?_; rotate_left; focus (intro w hSw; (try dsimp only at hSw); go_simp; try with_reducible rfl)); try simp only [Act.put, List.setIfInBounds_toArray, List.set_cons_zero, List.set_cons_succ]
  (refine' take_in 4 rfl (by kernel_rfl) (by kernel_rfl) (by kernel_rfl) (fun _ _ _ h => h) (by rfl) (by assumption) ?_ ?_; rotate_left; focus (intro w hSw; (try dsimp only at hSw); go_simp; try with_reducible rfl)); try simp only [Act.put, List.setIfInBounds_toArray, List.set_cons_zero, List.set_cons_succ]
  (refine' take_in 5 rfl (by kernel_rfl) (by kernel_rfl) (by kernel_rfl) (fun _ _ _ h => h) (by rfl) (by assumption) ?_ ?_; rotate_left; focus (intro w hSw; (try dsimp only at hSw); go_simp; try with_reducible rfl)); try simp only [Act.put, List.setIfInBounds_toArray, List.set_cons_zero, List.set_cons_succ]
  (refine' take_in 6 rfl (by kernel_rfl) (by kernel_rfl) (by kernel_rfl) (fun _ _ _ h => h) (by rfl) (by assumption) ?_ ?_; rotate_left; focus (intro w hSw; (try dsimp only at hSw); go_simp; try with_reducible rfl)); try simp only [Act.put, List.setIfInBounds_toArray, List.set_cons_zero, List.set_cons_succ]
  (refine' take_in 7 rfl (by kernel_rfl) (by kernel_rfl) (by kernel_rfl) (fun _ _ _ h => h) (by rfl) (by assumption) ?_ ?_; rotate_left; focus (intro w hSw; (try dsimp only at hSw); go_simp; try with_reducible rfl)); try simp only [Act.put, List.setIfInBounds_toArray, List.set_cons_zero, List.set_cons_succ]
  (refine' take_in 8 rfl (by kernel_rfl) (by kernel_rfl) (by kernel_rfl) (fun _ _ _ h => h) (by rfl) (by assumption) ?_ ?_; rotate_left; focus (intro w hSw; (try dsimp only at hSw); go_simp; try with_reducible rfl)); try simp only [Act.put, List.setIfInBounds_toArray, List.set_cons_zero, List.set_cons_succ]
  (refine' take_in 9 rfl (by kernel_rfl) (by kernel_rfl) (by kernel_rfl) (fun _ _ _ h => h) (by rfl) (by assumption) ?_ ?_; rotate_left; focus (intro w hSw; (try dsimp only at hSw); go_simp; try with_reducible rfl)); try simp only [Act.put, List.setIfInBounds_toArray, List.set_cons_zero, List.set_cons_succ]
  (refine' take_in 10 rfl (by kernel_rfl) (by kernel_rfl) (by kernel_rfl) (fun _ _ _ h => h) (by rfl) (by assumption) ?_ ?_; rotate_left; focus (intro w hSw; (try dsimp only at hSw); go_simp; try with_reducible rfl)); try simp only [Act.put, List.setIfInBounds_toArray, List.set_cons_zero, List.set_cons_succ]
  (refine' take_in 11 rfl (by kernel_rfl) (by kernel_rfl) (by kernel_rfl) (fun _ _ _ h => h) (by rfl) (by assumption) ?_ ?_; rotate_left; focus (intro w hSw; (try dsimp only at hSw); go_simp; try with_reducible rfl)); try simp only [Act.put, List.setIfInBounds_toArray, List.set_cons_zero, List.set_cons_succ]
  (refine' take_in 12 rfl (by kernel_rfl) (by kernel_rfl) (by kernel_rfl) (fun _ _ _ h => h) (by rfl) (by assumption) ?_ ?_; rotate_left; focus (intro w hSw; (try dsimp only at hSw); go_simp; try with_reducible rfl)); try simp only [Act.put, List.setIfInBounds_toArray, List.set_cons_zero, List.set_cons_succ]
  (refine' take_in 13 rfl (by kernel_rfl) (by kernel_rfl) (by kernel_rfl) (fun _ _ _ h => h) (by rfl) (by assumption) ?_ ?_; rotate_left; focus (intro w hSw; (try dsimp only at hSw); go_simp; try with_reducible rfl)); try simp only [Act.put, List.setIfInBounds_toArray, List.set_cons_zero, List.set_cons_succ]
  (refine' take_in 14 rfl (by kernel_rfl) (by kernel_rfl) (by kernel_rfl) (fun _ _ _ h => h) (by rfl) (by assumption) ?_ ?_; rotate_left; focus (intro w hSw; (try dsimp only at hSw); go_simp; try with_reducible rfl)); try simp only [Act.put, List.setIfInBounds_toArray, List.set_cons_zero, List.set_cons_succ]
  (refine' take_in 15 rfl (by kernel_rfl) (by kernel_rfl) (by kernel_rfl) (fun _ _ _ h => h) (by rfl) (by assumption) ?_ ?_; rotate_left; focus (intro w hSw; (try dsimp only at hSw); go_simp; try with_reducible rfl)); try simp only [Act.put, List.setIfInBounds_toArray, List.set_cons_zero, List.set_cons_succ]
  refine wpAnyH_done (by kernel_rfl) ?_ _
  go_wp2_with fail
  refine bodyPost_ret (v := .tuple #[.slice none 0 0, .int .i64 9]) (by simp [results, Try.results24, go_sem, World.cell?_alloc_past, z_3, c0_3, ne_z_c0, ne_c0_z, rz, rza, rzb, rzc, rzn, rc0, rc0a, rc0b, rc0c, rc0n]; try rfl) rfl (RetHopV.nil (xs := [.int .i64 9]) ?_)
  exact (by repeat (first | with_reducible exact X2.out | with_reducible refine Ext.drew ?_ | with_reducible refine Ext.drewN ?_ _ | with_reducible refine Ext.alloc ?_ _ | with_reducible refine Ext.setCell ?_ (by first | omega | (simp; done) | (simp; omega)) _))
set_option maxRecDepth 100000 in
set_option maxHeartbeats 4000000 in
theorem rAdd15_capY (A : Option Addr) (n c : Nat) (l : List (Int × Int × Int × Int)) (x0 x1 x2 x3 mo f1 f2 cv : Int) (w : World) (h : Sl w 4 A n c (l.flatMap hopC)) (hn : n < 1099511627776) (hw : ∀ x ∈ l, FitsH x) (hf : (f1, f2) = chkH l) (hv : cv = cntL l x0 x1 x2) (hc : f1 = 0) (hm : MayH (x0, x1, x2, x3)) (h4 : ¬ mo < 1) (h5 : ¬ mo > 16) (m : Nat) (z0 z1 z2 z3 : Int) (hm1 : n = m + 1) (hz : l[m]? = some (z0, z1, z2, z3)) (h6 : ¬ x3 < z3) (h7 : cv ≥ mo) :
    Calls Try.prog 24 #[.slice A n c, .agg #[.int .i64 x0, .int .i64 x1, .int .i64 x2, .int .i64 x3], .int .i64 mo] w (RetHopV [] [.int .i64 22] w) := by
  have hl := h.rlen hopC_len (by decide)
  have s1 := h.small
  subst hc
  have HB : Hid (true = decide (MayH (x0, x1, x2, x3))) := Lib.hid (decide_eq_true hm).symm
  subst hm1
  obtain ⟨b1, o1, rfl, hb1, hc1⟩ := h.rec_ hopC_len (show 0 < m + 1 from by omega)
  have z_3 := hc1 m (z0, z1, z2, z3) hz 3 _ rfl
  rw [← Nat.add_assoc] at z_3
  have hwm : IntKind.i64.wrap (((m + 1 : Nat) : Int) - 1) = (m : Int) := by rw [IntWalk.i64_in _ (by omega)]; omega
  have hwm2 : IntKind.i64.wrap (((m : Int) + 1) - 1) = (m : Int) := by rw [IntWalk.i64_in _ (by omega)]; omega
  have hwm3 : IntKind.i64.wrap (m : Int) = (m : Int) := IntWalk.i64_in _ (by omega)
  have hmm2 : (m : Int) < (m : Int) + 1 := by omega
  have hmm : (m : Int) < ((m + 1 : Nat) : Int) := by omega
  have hm0 : (0 : Int) < (m : Int) + 1 := by omega
  have hm1 : (0 : Int) < ((m + 1 : Nat) : Int) := by omega
  have hm2 : (m : Int) + 1 > 0 := by omega
  have rz := hb1
  have rza : b1 < w.heap.size + 1 := by omega
  have rzb : b1 < w.heap.size + 1 + 1 := by omega
  have rzc : b1 < w.heap.size + 1 + 1 + 1 := by omega
  have rzn : ¬ b1 = w.heap.size := by omega
  have HS := Lib.hid h
  have HW := Lib.hid hw
  have HF := Lib.hid hf
  have HV := Lib.hid hv
  clear h hw hf hv hl hc1
  go_enter Try.func24, Try.ntmps24
  go_wp2_with fail
  (with_reducible refine (rCheck15_ev (some ⟨b1, o1, none⟩) (m + 1) c l 0 f2 _ (HS.out.ext (by repeat (first | with_reducible exact Ext.refl _ | with_reducible refine Ext.drew ?_ | with_reducible refine Ext.drewN ?_ _ | with_reducible refine Ext.alloc ?_ _ | with_reducible refine Ext.setCell ?_ (by first | omega | (simp; done) | (simp; omega)) _))) (fits_t HW.out) HF.out).mono ?_)
  rintro e w1 ⟨rfl, hx1⟩
  replace z_3 : w1.cell? ⟨b1, o1 + m * 4 + 3, none⟩ = some (.int .i64 z3) := hx1.has (by first | exact z_3 | (simp [go_sem, World.cell?_alloc_past, z_3, rz, rza, rzb, rzc, rzn]; done))
  have c0_0 : w1.cell? ⟨w.heap.size, 0, none⟩ = some (.int .i64 x0) := hx1.has (by first | fail | (simp [go_sem, World.cell?_alloc_past, z_3, rz, rza, rzb, rzc, rzn]; done))
  have c0_1 : w1.cell? ⟨w.heap.size, 1, none⟩ = some (.int .i64 x1) := hx1.has (by first | fail | (simp [go_sem, World.cell?_alloc_past, z_3, rz, rza, rzb, rzc, rzn]; done))
  have c0_2 : w1.cell? ⟨w.heap.size, 2, none⟩ = some (.int .i64 x2) := hx1.has (by first | fail | (simp [go_sem, World.cell?_alloc_past, z_3, rz, rza, rzb, rzc, rzn]; done))
  have c0_3 : w1.cell? ⟨w.heap.size, 3, none⟩ = some (.int .i64 x3) := hx1.has (by first | fail | (simp [go_sem, World.cell?_alloc_past, z_3, rz, rza, rzb, rzc, rzn]; done))
  have z1 := hx1.size
  try simp at z1
  have lt_z_c0 : b1 < w.heap.size := by omega
  have ne_z_c0 : ¬ b1 = w.heap.size := by omega
  have ne_c0_z : ¬ w.heap.size = b1 := by omega
  replace rz : b1 < w1.heap.size := by omega
  replace rza : b1 < w1.heap.size + 1 := by omega
  replace rzb : b1 < w1.heap.size + 1 + 1 := by omega
  replace rzc : b1 < w1.heap.size + 1 + 1 + 1 := by omega
  replace rzn : ¬ b1 = w1.heap.size := by omega
  have rc0 : w.heap.size < w1.heap.size := by omega
  have rc0a : w.heap.size < w1.heap.size + 1 := by omega
  have rc0b : w.heap.size < w1.heap.size + 1 + 1 := by omega
  have rc0c : w.heap.size < w1.heap.size + 1 + 1 + 1 := by omega
  have rc0n : ¬ w.heap.size = w1.heap.size := by omega
  replace HS := Lib.hid (HS.out.ext (Ext.trans (by repeat (first | with_reducible exact Ext.refl _ | with_reducible refine Ext.drew ?_ | with_reducible refine Ext.drewN ?_ _ | with_reducible refine Ext.alloc ?_ _ | with_reducible refine Ext.setCell ?_ (by first | omega | (simp; done) | (simp; omega)) _)) hx1))
  have X1 : Hid (Ext w w1) := Lib.hid (Ext.trans (by repeat (first | with_reducible exact Ext.refl w | with_reducible refine Ext.drew ?_ | with_reducible refine Ext.drewN ?_ _ | with_reducible refine Ext.alloc ?_ _ | with_reducible refine Ext.setCell ?_ (by first | omega | (simp; done) | (simp; omega)) _)) hx1)
  clear hx1 z1
  go_wp2_with fail
  (with_reducible refine (rMay15_any x0 x1 x2 x3 true _ HB.out).mono ?_)
  rintro e w2 ⟨rfl, hx2⟩
  replace z_3 : w2.cell? ⟨b1, o1 + m * 4 + 3, none⟩ = some (.int .i64 z3) := hx2.has (by first | exact z_3 | (simp [go_sem, World.cell?_alloc_past, z_3, c0_0, c0_1, c0_2, c0_3, ne_z_c0, ne_c0_z, rz, rza, rzb, rzc, rzn, rc0, rc0a, rc0b, rc0c, rc0n]; done))
  replace c0_0 : w2.cell? ⟨w.heap.size, 0, none⟩ = some (.int .i64 x0) := hx2.has (by first | exact c0_0 | (simp [go_sem, World.cell?_alloc_past, z_3, c0_0, c0_1, c0_2, c0_3, ne_z_c0, ne_c0_z, rz, rza, rzb, rzc, rzn, rc0, rc0a, rc0b, rc0c, rc0n]; done))
  replace c0_1 : w2.cell? ⟨w.heap.size, 1, none⟩ = some (.int .i64 x1) := hx2.has (by first | exact c0_1 | (simp [go_sem, World.cell?_alloc_past, z_3, c0_0, c0_1, c0_2, c0_3, ne_z_c0, ne_c0_z, rz, rza, rzb, rzc, rzn, rc0, rc0a, rc0b, rc0c, rc0n]; done))
  replace c0_2 : w2.cell? ⟨w.heap.size, 2, none⟩ = some (.int .i64 x2) := hx2.has (by first | exact c0_2 | (simp [go_sem, World.cell?_alloc_past, z_3, c0_0, c0_1, c0_2, c0_3, ne_z_c0, ne_c0_z, rz, rza, rzb, rzc, rzn, rc0, rc0a, rc0b, rc0c, rc0n]; done))
  replace c0_3 : w2.cell? ⟨w.heap.size, 3, none⟩ = some (.int .i64 x3) := hx2.has (by first | exact c0_3 | (simp [go_sem, World.cell?_alloc_past, z_3, c0_0, c0_1, c0_2, c0_3, ne_z_c0, ne_c0_z, rz, rza, rzb, rzc, rzn, rc0, rc0a, rc0b, rc0c, rc0n]; done))
  have z2 := hx2.size
  try simp at z2
  replace rz : b1 < w2.heap.size := by omega
  replace rza : b1 < w2.heap.size + 1 := by omega
  replace rzb : b1 < w2.heap.size + 1 + 1 := by omega
  replace rzc : b1 < w2.heap.size + 1 + 1 + 1 := by omega
  replace rzn : ¬ b1 = w2.heap.size := by omega
  replace rc0 : w.heap.size < w2.heap.size := by omega
  replace rc0a : w.heap.size < w2.heap.size + 1 := by omega
  replace rc0b : w.heap.size < w2.heap.size + 1 + 1 := by omega
  replace rc0c : w.heap.size < w2.heap.size + 1 + 1 + 1 := by omega
  replace rc0n : ¬ w.heap.size = w2.heap.size := by omega
  replace HS := Lib.hid (HS.out.ext (Ext.trans (by repeat (first | with_reducible exact Ext.refl _ | with_reducible refine Ext.drew ?_ | with_reducible refine Ext.drewN ?_ _ | with_reducible refine Ext.alloc ?_ _ | with_reducible refine Ext.setCell ?_ (by first | omega | (simp; done) | (simp; omega)) _)) hx2))
  have X2 : Hid (Ext w w2) := Lib.hid (Ext.trans (by repeat (first | with_reducible exact X1.out | with_reducible refine Ext.drew ?_ | with_reducible refine Ext.drewN ?_ _ | with_reducible refine Ext.alloc ?_ _ | with_reducible refine Ext.setCell ?_ (by first | omega | (simp; done) | (simp; omega)) _)) hx2)
  clear X1 hx2 z2
  go_wp2_with fail
  refine wp_region_held_drew (S := fun w' => w'.cell? ⟨w.heap.size, 3, none⟩ = some (.int .i64 x3) ∧ w'.cell? ⟨b1, o1 + m * 4 + 3, none⟩ = some (.int .i64 z3)) (by kernel_rfl) (by first | exact ⟨c0_3, z_3⟩ | (simp [go_sem, World.cell?_alloc_past, z_3, c0_0, c0_1, c0_2, c0_3, ne_z_c0, ne_c0_z, rz, rza, rzb, rzc, rzn, rc0, rc0a, rc0b, rc0c, rc0n]; done)) (fun hHeld => ?_)
  (refine' take_in 0 rfl (by kernel_rfl) (by kernel_rfl) (by kernel_rfl) (fun _ _ _ h => h) (by rfl) (by assumption) ?_ ?_; rotate_left; focus (intro w hSw; (try dsimp only at hSw); go_simp; try with_reducible rfl)); try simp only [Act.put, List.setIfInBounds_toArray, List.set_cons_zero, List.set_cons_succ]
  (refine' take_in 1 rfl (by kernel_rfl) (by kernel_rfl) (by kernel_rfl) (fun _ _ _ h => h) (by rfl) (by assumption) ?_ ?_; rotate_left; focus (intro w hSw; (try dsimp only at hSw); go_simp; try with_reducible rfl)); try simp only [Act.put, List.setIfInBounds_toArray, List.set_cons_zero, List.set_cons_succ]
  (refine' take_in 2 rfl (by kernel_rfl) (by kernel_rfl) (by kernel_rfl) (fun _ _ _ h => h) (by rfl) (by assumption) ?_ ?_; rotate_left; focus (intro w hSw; (try dsimp only at hSw); go_simp; try with_reducible rfl)); try simp only [Act.put, List.setIfInBounds_toArray, List.set_cons_zero, List.set_cons_succ]
  (refine' take_in 3 rfl (by kernel_rfl) (by kernel_rfl) (by kernel_rfl) (fun _ _ _ h => h) (by rfl) (by assumption) ?_ ?_; rotate_left; focus (intro w hSw; (try dsimp only at hSw); go_simp; try with_reducible rfl)); try simp only [Act.put, List.setIfInBounds_toArray, List.set_cons_zero, List.set_cons_succ]
  (refine' take_in 4 rfl (by kernel_rfl) (by kernel_rfl) (by kernel_rfl) (fun _ _ _ h => h) (by rfl) (by assumption) ?_ ?_; rotate_left; focus (intro w hSw; (try dsimp only at hSw); go_simp; try with_reducible rfl)); try simp only [Act.put, List.setIfInBounds_toArray, List.set_cons_zero, List.set_cons_succ]
  (refine' take_in 5 rfl (by kernel_rfl) (by kernel_rfl) (by kernel_rfl) (fun _ _ _ h => h) (by rfl) (by assumption) ?_ ?_; rotate_left; focus (intro w hSw; (try dsimp only at hSw); go_simp; try with_reducible rfl)); try simp only [Act.put, List.setIfInBounds_toArray, List.set_cons_zero, List.set_cons_succ]
  (refine' take_in 6 rfl (by kernel_rfl) (by kernel_rfl) (by kernel_rfl) (fun _ _ _ h => h) (by rfl) (by assumption) ?_ ?_; rotate_left; focus (intro w hSw; (try dsimp only at hSw); go_simp; try with_reducible rfl)); try simp only [Act.put, List.setIfInBounds_toArray, List.set_cons_zero, List.set_cons_succ]
  (refine' take_in 7 rfl (by kernel_rfl) (by kernel_rfl) (by kernel_rfl) (fun _ _ _ h => h) (by rfl) (by assumption) ?_ ?_; rotate_left; focus (intro w hSw; (try dsimp only at hSw); go_simp; try with_reducible rfl)); try simp only [Act.put, List.setIfInBounds_toArray, List.set_cons_zero, List.set_cons_succ]
  (refine' take_in 8 rfl (by kernel_rfl) (by kernel_rfl) (by kernel_rfl) (fun _ _ _ h => h) (by rfl) (by assumption) ?_ ?_; rotate_left; focus (intro w hSw; (try dsimp only at hSw); go_simp; try with_reducible rfl)); try simp only [Act.put, List.setIfInBounds_toArray, List.set_cons_zero, List.set_cons_succ]
  (refine' take_in 9 rfl (by kernel_rfl) (by kernel_rfl) (by kernel_rfl) (fun _ _ _ h => h) (by rfl) (by assumption) ?_ ?_; rotate_left; focus (intro w hSw; (try dsimp only at hSw); go_simp; try with_reducible rfl)); try simp only [Act.put, List.setIfInBounds_toArray, List.set_cons_zero, List.set_cons_succ]
  (refine' take_in 10 rfl (by kernel_rfl) (by kernel_rfl) (by kernel_rfl) (fun _ _ _ h => h) (by rfl) (by assumption) ?_ ?_; rotate_left; focus (intro w hSw; (try dsimp only at hSw); go_simp; try with_reducible rfl)); try simp only [Act.put, List.setIfInBounds_toArray, List.set_cons_zero, List.set_cons_succ]
  (refine' take_in 11 rfl (by kernel_rfl) (by kernel_rfl) (by kernel_rfl) (fun _ _ _ h => h) (by rfl) (by assumption) ?_ ?_; rotate_left; focus (intro w hSw; (try dsimp only at hSw); go_simp; try with_reducible rfl)); try simp only [Act.put, List.setIfInBounds_toArray, List.set_cons_zero, List.set_cons_succ]
  (refine' take_in 12 rfl (by kernel_rfl) (by kernel_rfl) (by kernel_rfl) (fun _ _ _ h => h) (by rfl) (by assumption) ?_ ?_; rotate_left; focus (intro w hSw; (try dsimp only at hSw); go_simp; try with_reducible rfl)); try simp only [Act.put, List.setIfInBounds_toArray, List.set_cons_zero, List.set_cons_succ]
  (refine' take_in 13 rfl (by kernel_rfl) (by kernel_rfl) (by kernel_rfl) (fun _ _ _ h => h) (by rfl) (by assumption) ?_ ?_; rotate_left; focus (intro w hSw; (try dsimp only at hSw); go_simp; try with_reducible rfl)); try simp only [Act.put, List.setIfInBounds_toArray, List.set_cons_zero, List.set_cons_succ]
  (refine' take_in 14 rfl (by kernel_rfl) (by kernel_rfl) (by kernel_rfl) (fun _ _ _ h => h) (by rfl) (by assumption) ?_ ?_; rotate_left; focus (intro w hSw; (try dsimp only at hSw); go_simp; try with_reducible rfl)); try simp only [Act.put, List.setIfInBounds_toArray, List.set_cons_zero, List.set_cons_succ]
  (refine' take_in 15 rfl (by kernel_rfl) (by kernel_rfl) (by kernel_rfl) (fun _ _ _ h => h) (by rfl) (by assumption) ?_ ?_; rotate_left; focus (intro w hSw; (try dsimp only at hSw); go_simp; try with_reducible rfl)); try simp only [Act.put, List.setIfInBounds_toArray, List.set_cons_zero, List.set_cons_succ]
  refine wpAnyH_done (by kernel_rfl) ?_ _
  go_wp2_with fail
  (with_reducible refine (rCount15_ev (some ⟨b1, o1, none⟩) (m + 1) c l x0 x1 x2 cv _ (HS.out.ext (by repeat (first | with_reducible exact Ext.refl _ | with_reducible refine Ext.drew ?_ | with_reducible refine Ext.drewN ?_ _ | with_reducible refine Ext.alloc ?_ _ | with_reducible refine Ext.setCell ?_ (by first | omega | (simp; done) | (simp; omega)) _))) hn HV.out).mono ?_)
  rintro e w3 ⟨rfl, hx3⟩
  replace z_3 : w3.cell? ⟨b1, o1 + m * 4 + 3, none⟩ = some (.int .i64 z3) := hx3.has (by first | exact z_3 | (simp [go_sem, World.cell?_alloc_past, z_3, c0_0, c0_1, c0_2, c0_3, ne_z_c0, ne_c0_z, rz, rza, rzb, rzc, rzn, rc0, rc0a, rc0b, rc0c, rc0n]; done))
  replace c0_3 : w3.cell? ⟨w.heap.size, 3, none⟩ = some (.int .i64 x3) := hx3.has (by first | exact c0_3 | (simp [go_sem, World.cell?_alloc_past, z_3, c0_0, c0_1, c0_2, c0_3, ne_z_c0, ne_c0_z, rz, rza, rzb, rzc, rzn, rc0, rc0a, rc0b, rc0c, rc0n]; done))
  have z3 := hx3.size
  try simp at z3
  replace rz : b1 < w3.heap.size := by omega
  replace rza : b1 < w3.heap.size + 1 := by omega
  replace rzb : b1 < w3.heap.size + 1 + 1 := by omega
  replace rzc : b1 < w3.heap.size + 1 + 1 + 1 := by omega
  replace rzn : ¬ b1 = w3.heap.size := by omega
  replace rc0 : w.heap.size < w3.heap.size := by omega
  replace rc0a : w.heap.size < w3.heap.size + 1 := by omega
  replace rc0b : w.heap.size < w3.heap.size + 1 + 1 := by omega
  replace rc0c : w.heap.size < w3.heap.size + 1 + 1 + 1 := by omega
  replace rc0n : ¬ w.heap.size = w3.heap.size := by omega
  replace HS := Lib.hid (HS.out.ext (Ext.trans (by repeat (first | with_reducible exact Ext.refl _ | with_reducible refine Ext.drew ?_ | with_reducible refine Ext.drewN ?_ _ | with_reducible refine Ext.alloc ?_ _ | with_reducible refine Ext.setCell ?_ (by first | omega | (simp; done) | (simp; omega)) _)) hx3))
  have X3 : Hid (Ext w w3) := Lib.hid (Ext.trans (by repeat (first | with_reducible exact X2.out | with_reducible refine Ext.drew ?_ | with_reducible refine Ext.drewN ?_ _ | with_reducible refine Ext.alloc ?_ _ | with_reducible refine Ext.setCell ?_ (by first | omega | (simp; done) | (simp; omega)) _)) hx3)
  clear c0_1 c0_0 c0_2 X2 hx3 z3
  go_wp2_with fail
  refine bodyPost_ret (v := .tuple #[.slice none 0 0, .int .i64 22]) (by simp [results, Try.results24, go_sem, World.cell?_alloc_past, z_3, c0_3, ne_z_c0, ne_c0_z, rz, rza, rzb, rzc, rzn, rc0, rc0a, rc0b, rc0c, rc0n]; try rfl) rfl (RetHopV.nil (xs := [.int .i64 22]) ?_)
  exact (by repeat (first | with_reducible exact X3.out | with_reducible refine Ext.drew ?_ | with_reducible refine Ext.drewN ?_ _ | with_reducible refine Ext.alloc ?_ _ | with_reducible refine Ext.setCell ?_ (by first | omega | (simp; done) | (simp; omega)) _))
set_option maxRecDepth 100000 in
set_option maxHeartbeats 4000000 in
theorem rAdd15_capN (A : Option Addr) (n c : Nat) (l : List (Int × Int × Int × Int)) (x0 x1 x2 x3 mo f1 f2 cv : Int) (w : World) (h : Sl w 4 A n c (l.flatMap hopC)) (hn : n < 1099511627776) (hw : ∀ x ∈ l, FitsH x) (hf : (f1, f2) = chkH l) (hv : cv = cntL l x0 x1 x2) (hc : f1 = 0) (hm : MayH (x0, x1, x2, x3)) (h4 : ¬ mo < 1) (h5 : ¬ mo > 16) (hn0 : n = 0) (h7 : cv ≥ mo) :
    Calls Try.prog 24 #[.slice A n c, .agg #[.int .i64 x0, .int .i64 x1, .int .i64 x2, .int .i64 x3], .int .i64 mo] w (RetHopV [] [.int .i64 22] w) := by
  have hl := h.rlen hopC_len (by decide)
  have s1 := h.small
  subst hc
  have HB : Hid (true = decide (MayH (x0, x1, x2, x3))) := Lib.hid (decide_eq_true hm).symm
  subst hn0
  have HS := Lib.hid h
  have HW := Lib.hid hw
  have HF := Lib.hid hf
  have HV := Lib.hid hv
  clear h hw hf hv hl
  go_enter Try.func24, Try.ntmps24
  go_wp2_with fail
  (with_reducible refine (rCheck15_ev A 0 c l 0 f2 _ (HS.out.ext (by repeat (first | with_reducible exact Ext.refl _ | with_reducible refine Ext.drew ?_ | with_reducible refine Ext.drewN ?_ _ | with_reducible refine Ext.alloc ?_ _ | with_reducible refine Ext.setCell ?_ (by first | omega | (simp; done) | (simp; omega)) _))) (fits_t HW.out) HF.out).mono ?_)
  rintro e w1 ⟨rfl, hx1⟩
  have c0_0 : w1.cell? ⟨w.heap.size, 0, none⟩ = some (.int .i64 x0) := hx1.has (by first | fail | (simp [go_sem, World.cell?_alloc_past]; done))
  have c0_1 : w1.cell? ⟨w.heap.size, 1, none⟩ = some (.int .i64 x1) := hx1.has (by first | fail | (simp [go_sem, World.cell?_alloc_past]; done))
  have c0_2 : w1.cell? ⟨w.heap.size, 2, none⟩ = some (.int .i64 x2) := hx1.has (by first | fail | (simp [go_sem, World.cell?_alloc_past]; done))
  have c0_3 : w1.cell? ⟨w.heap.size, 3, none⟩ = some (.int .i64 x3) := hx1.has (by first | fail | (simp [go_sem, World.cell?_alloc_past]; done))
  have z1 := hx1.size
  try simp at z1
  have rc0 : w.heap.size < w1.heap.size := by omega
  have rc0a : w.heap.size < w1.heap.size + 1 := by omega
  have rc0b : w.heap.size < w1.heap.size + 1 + 1 := by omega
  have rc0c : w.heap.size < w1.heap.size + 1 + 1 + 1 := by omega
  have rc0n : ¬ w.heap.size = w1.heap.size := by omega
  replace HS := Lib.hid (HS.out.ext (Ext.trans (by repeat (first | with_reducible exact Ext.refl _ | with_reducible refine Ext.drew ?_ | with_reducible refine Ext.drewN ?_ _ | with_reducible refine Ext.alloc ?_ _ | with_reducible refine Ext.setCell ?_ (by first | omega | (simp; done) | (simp; omega)) _)) hx1))
  have X1 : Hid (Ext w w1) := Lib.hid (Ext.trans (by repeat (first | with_reducible exact Ext.refl w | with_reducible refine Ext.drew ?_ | with_reducible refine Ext.drewN ?_ _ | with_reducible refine Ext.alloc ?_ _ | with_reducible refine Ext.setCell ?_ (by first | omega | (simp; done) | (simp; omega)) _)) hx1)
  clear hx1 z1
  go_wp2_with fail
  (with_reducible refine (rMay15_any x0 x1 x2 x3 true _ HB.out).mono ?_)
  rintro e w2 ⟨rfl, hx2⟩
  replace c0_0 : w2.cell? ⟨w.heap.size, 0, none⟩ = some (.int .i64 x0) := hx2.has (by first | exact c0_0 | (simp [go_sem, World.cell?_alloc_past, c0_0, c0_1, c0_2, c0_3, rc0, rc0a, rc0b, rc0c, rc0n]; done))
  replace c0_1 : w2.cell? ⟨w.heap.size, 1, none⟩ = some (.int .i64 x1) := hx2.has (by first | exact c0_1 | (simp [go_sem, World.cell?_alloc_past, c0_0, c0_1, c0_2, c0_3, rc0, rc0a, rc0b, rc0c, rc0n]; done))
  replace c0_2 : w2.cell? ⟨w.heap.size, 2, none⟩ = some (.int .i64 x2) := hx2.has (by first | exact c0_2 | (simp [go_sem, World.cell?_alloc_past, c0_0, c0_1, c0_2, c0_3, rc0, rc0a, rc0b, rc0c, rc0n]; done))
  have z2 := hx2.size
  try simp at z2
  replace rc0 : w.heap.size < w2.heap.size := by omega
  replace rc0a : w.heap.size < w2.heap.size + 1 := by omega
  replace rc0b : w.heap.size < w2.heap.size + 1 + 1 := by omega
  replace rc0c : w.heap.size < w2.heap.size + 1 + 1 + 1 := by omega
  replace rc0n : ¬ w.heap.size = w2.heap.size := by omega
  replace HS := Lib.hid (HS.out.ext (Ext.trans (by repeat (first | with_reducible exact Ext.refl _ | with_reducible refine Ext.drew ?_ | with_reducible refine Ext.drewN ?_ _ | with_reducible refine Ext.alloc ?_ _ | with_reducible refine Ext.setCell ?_ (by first | omega | (simp; done) | (simp; omega)) _)) hx2))
  have X2 : Hid (Ext w w2) := Lib.hid (Ext.trans (by repeat (first | with_reducible exact X1.out | with_reducible refine Ext.drew ?_ | with_reducible refine Ext.drewN ?_ _ | with_reducible refine Ext.alloc ?_ _ | with_reducible refine Ext.setCell ?_ (by first | omega | (simp; done) | (simp; omega)) _)) hx2)
  clear c0_3 X1 hx2 z2
  go_wp2_with fail
  refine wp_region_held_drew (S := fun w' => True) (by kernel_rfl) (by first | exact trivial | (simp [go_sem, World.cell?_alloc_past, c0_0, c0_1, c0_2, rc0, rc0a, rc0b, rc0c, rc0n]; done)) (fun hHeld => ?_)
  (refine' take_in 0 rfl (by kernel_rfl) (by kernel_rfl) (by kernel_rfl) (fun _ _ _ h => h) (by rfl) (by assumption) ?_ ?_; rotate_left; focus (intro w hSw; (try dsimp only at hSw); go_simp; try with_reducible rfl)); try simp only [Act.put, List.setIfInBounds_toArray, List.set_cons_zero, List.set_cons_succ]
  (refine' take_in 1 rfl (by kernel_rfl) (by kernel_rfl) (by kernel_rfl) (fun _ _ _ h => h) (by rfl) (by assumption) ?_ ?_; rotate_left; focus (intro w hSw; (try dsimp only at hSw); go_simp; try with_reducible rfl)); try simp only [Act.put, List.setIfInBounds_toArray, List.set_cons_zero, List.set_cons_succ]
  (refine' take_in 2 rfl (by kernel_rfl) (by kernel_rfl) (by kernel_rfl) (fun _ _ _ h => h) (by rfl) (by assumption) ?_ ?_; rotate_left; focus (intro w hSw; (try dsimp only at hSw); go_simp; try with_reducible rfl)); try simp only [Act.put, List.setIfInBounds_toArray, List.set_cons_zero, List.set_cons_succ]
  (refine' take_in 3 rfl (by kernel_rfl) (by kernel_rfl) (by kernel_rfl) (fun _ _ _ h => h) (by rfl) (by assumption) ?_ ?_; rotate_left; focus (intro w hSw; (try dsimp only at hSw); go_simp; try with_reducible rfl)); try simp only [Act.put, List.setIfInBounds_toArray, List.set_cons_zero, List.set_cons_succ]
  (refine' skip_in 4 rfl (by kernel_rfl) (by kernel_rfl) (by kernel_rfl) (fun _ _ _ h => h) (by rfl) (by assumption) ?_); try simp only [Act.put, List.setIfInBounds_toArray, List.set_cons_zero, List.set_cons_succ]
  (refine' skip_in 5 rfl (by kernel_rfl) (by kernel_rfl) (by kernel_rfl) (fun _ _ _ h => h) (by rfl) (by assumption) ?_); try simp only [Act.put, List.setIfInBounds_toArray, List.set_cons_zero, List.set_cons_succ]
  (refine' skip_in 6 rfl (by kernel_rfl) (by kernel_rfl) (by kernel_rfl) (fun _ _ _ h => h) (by rfl) (by assumption) ?_); try simp only [Act.put, List.setIfInBounds_toArray, List.set_cons_zero, List.set_cons_succ]
  (refine' skip_in 7 rfl (by kernel_rfl) (by kernel_rfl) (by kernel_rfl) (fun _ _ _ h => h) (by rfl) (by assumption) ?_); try simp only [Act.put, List.setIfInBounds_toArray, List.set_cons_zero, List.set_cons_succ]
  (refine' skip_in 8 rfl (by kernel_rfl) (by kernel_rfl) (by kernel_rfl) (fun _ _ _ h => h) (by rfl) (by assumption) ?_); try simp only [Act.put, List.setIfInBounds_toArray, List.set_cons_zero, List.set_cons_succ]
  (refine' skip_in 9 rfl (by kernel_rfl) (by kernel_rfl) (by kernel_rfl) (fun _ _ _ h => h) (by rfl) (by assumption) ?_); try simp only [Act.put, List.setIfInBounds_toArray, List.set_cons_zero, List.set_cons_succ]
  (refine' skip_in 10 rfl (by kernel_rfl) (by kernel_rfl) (by kernel_rfl) (fun _ _ _ h => h) (by rfl) (by assumption) ?_); try simp only [Act.put, List.setIfInBounds_toArray, List.set_cons_zero, List.set_cons_succ]
  (refine' skip_in 11 rfl (by kernel_rfl) (by kernel_rfl) (by kernel_rfl) (fun _ _ _ h => h) (by rfl) (by assumption) ?_); try simp only [Act.put, List.setIfInBounds_toArray, List.set_cons_zero, List.set_cons_succ]
  (refine' skip_in 12 rfl (by kernel_rfl) (by kernel_rfl) (by kernel_rfl) (fun _ _ _ h => h) (by rfl) (by assumption) ?_); try simp only [Act.put, List.setIfInBounds_toArray, List.set_cons_zero, List.set_cons_succ]
  (refine' skip_in 13 rfl (by kernel_rfl) (by kernel_rfl) (by kernel_rfl) (fun _ _ _ h => h) (by rfl) (by assumption) ?_); try simp only [Act.put, List.setIfInBounds_toArray, List.set_cons_zero, List.set_cons_succ]
  (refine' take_in 14 rfl (by kernel_rfl) (by kernel_rfl) (by kernel_rfl) (fun _ _ _ h => h) (by rfl) (by assumption) ?_ ?_; rotate_left; focus (intro w hSw; (try dsimp only at hSw); go_simp; try with_reducible rfl)); try simp only [Act.put, List.setIfInBounds_toArray, List.set_cons_zero, List.set_cons_succ]
  (refine' take_in 15 rfl (by kernel_rfl) (by kernel_rfl) (by kernel_rfl) (fun _ _ _ h => h) (by rfl) (by assumption) ?_ ?_; rotate_left; focus (intro w hSw; (try dsimp only at hSw); go_simp; try with_reducible rfl)); try simp only [Act.put, List.setIfInBounds_toArray, List.set_cons_zero, List.set_cons_succ]
  refine wpAnyH_done (by kernel_rfl) ?_ _
  go_wp2_with fail
  (with_reducible refine (rCount15_ev A 0 c l x0 x1 x2 cv _ (HS.out.ext (by repeat (first | with_reducible exact Ext.refl _ | with_reducible refine Ext.drew ?_ | with_reducible refine Ext.drewN ?_ _ | with_reducible refine Ext.alloc ?_ _ | with_reducible refine Ext.setCell ?_ (by first | omega | (simp; done) | (simp; omega)) _))) hn HV.out).mono ?_)
  rintro e w3 ⟨rfl, hx3⟩
  have z3 := hx3.size
  try simp at z3
  replace HS := Lib.hid (HS.out.ext (Ext.trans (by repeat (first | with_reducible exact Ext.refl _ | with_reducible refine Ext.drew ?_ | with_reducible refine Ext.drewN ?_ _ | with_reducible refine Ext.alloc ?_ _ | with_reducible refine Ext.setCell ?_ (by first | omega | (simp; done) | (simp; omega)) _)) hx3))
  have X3 : Hid (Ext w w3) := Lib.hid (Ext.trans (by repeat (first | with_reducible exact X2.out | with_reducible refine Ext.drew ?_ | with_reducible refine Ext.drewN ?_ _ | with_reducible refine Ext.alloc ?_ _ | with_reducible refine Ext.setCell ?_ (by first | omega | (simp; done) | (simp; omega)) _)) hx3)
  clear c0_1 c0_0 c0_2 rc0 rc0a rc0b rc0c rc0n X2 hx3 z3
  go_wp2_with fail
  refine bodyPost_ret (v := .tuple #[.slice none 0 0, .int .i64 22]) (by simp [results, Try.results24, go_sem, World.cell?_alloc_past]; try rfl) rfl (RetHopV.nil (xs := [.int .i64 22]) ?_)
  exact (by repeat (first | with_reducible exact X3.out | with_reducible refine Ext.drew ?_ | with_reducible refine Ext.drewN ?_ _ | with_reducible refine Ext.alloc ?_ _ | with_reducible refine Ext.setCell ?_ (by first | omega | (simp; done) | (simp; omega)) _))
set_option maxRecDepth 100000 in
set_option maxHeartbeats 4000000 in
theorem rAdd15_longY (A : Option Addr) (n c : Nat) (l : List (Int × Int × Int × Int)) (x0 x1 x2 x3 mo f1 f2 cv : Int) (w : World) (h : Sl w 4 A n c (l.flatMap hopC)) (hn : n < 1099511627776) (hw : ∀ x ∈ l, FitsH x) (hf : (f1, f2) = chkH l) (hv : cv = cntL l x0 x1 x2) (hc : f1 = 0) (hm : MayH (x0, x1, x2, x3)) (h4 : ¬ mo < 1) (h5 : ¬ mo > 16) (m : Nat) (z0 z1 z2 z3 : Int) (hm1 : n = m + 1) (hz : l[m]? = some (z0, z1, z2, z3)) (h6 : ¬ x3 < z3) (h7 : ¬ cv ≥ mo) (h8 : 4096 ≤ n) :
    Calls Try.prog 24 #[.slice A n c, .agg #[.int .i64 x0, .int .i64 x1, .int .i64 x2, .int .i64 x3], .int .i64 mo] w (RetHopV [] [.int .i64 4] w) := by
  have hl := h.rlen hopC_len (by decide)
  have s1 := h.small
  subst hc
  have HB : Hid (true = decide (MayH (x0, x1, x2, x3))) := Lib.hid (decide_eq_true hm).symm
  subst hm1
  have h9 : ((m + 1 : Nat) : Int) ≥ 4096 := by omega
  have h10 : (m : Int) + 1 ≥ 4096 := by omega
  obtain ⟨b1, o1, rfl, hb1, hc1⟩ := h.rec_ hopC_len (show 0 < m + 1 from by omega)
  have z_3 := hc1 m (z0, z1, z2, z3) hz 3 _ rfl
  rw [← Nat.add_assoc] at z_3
  have hwm : IntKind.i64.wrap (((m + 1 : Nat) : Int) - 1) = (m : Int) := by rw [IntWalk.i64_in _ (by omega)]; omega
  have hwm2 : IntKind.i64.wrap (((m : Int) + 1) - 1) = (m : Int) := by rw [IntWalk.i64_in _ (by omega)]; omega
  have hwm3 : IntKind.i64.wrap (m : Int) = (m : Int) := IntWalk.i64_in _ (by omega)
  have hmm2 : (m : Int) < (m : Int) + 1 := by omega
  have hmm : (m : Int) < ((m + 1 : Nat) : Int) := by omega
  have hm0 : (0 : Int) < (m : Int) + 1 := by omega
  have hm1 : (0 : Int) < ((m + 1 : Nat) : Int) := by omega
  have hm2 : (m : Int) + 1 > 0 := by omega
  have rz := hb1
  have rza : b1 < w.heap.size + 1 := by omega
  have rzb : b1 < w.heap.size + 1 + 1 := by omega
  have rzc : b1 < w.heap.size + 1 + 1 + 1 := by omega
  have rzn : ¬ b1 = w.heap.size := by omega
  have HS := Lib.hid h
  have HW := Lib.hid hw
  have HF := Lib.hid hf
  have HV := Lib.hid hv
  clear h hw hf hv hl hc1
  go_enter Try.func24, Try.ntmps24
  go_wp2_with fail
  (with_reducible refine (rCheck15_ev (some ⟨b1, o1, none⟩) (m + 1) c l 0 f2 _ (HS.out.ext (by repeat (first | with_reducible exact Ext.refl _ | with_reducible refine Ext.drew ?_ | with_reducible refine Ext.drewN ?_ _ | with_reducible refine Ext.alloc ?_ _ | with_reducible refine Ext.setCell ?_ (by first | omega | (simp; done) | (simp; omega)) _))) (fits_t HW.out) HF.out).mono ?_)
  rintro e w1 ⟨rfl, hx1⟩
  replace z_3 : w1.cell? ⟨b1, o1 + m * 4 + 3, none⟩ = some (.int .i64 z3) := hx1.has (by first | exact z_3 | (simp [go_sem, World.cell?_alloc_past, z_3, rz, rza, rzb, rzc, rzn]; done))
  have c0_0 : w1.cell? ⟨w.heap.size, 0, none⟩ = some (.int .i64 x0) := hx1.has (by first | fail | (simp [go_sem, World.cell?_alloc_past, z_3, rz, rza, rzb, rzc, rzn]; done))
  have c0_1 : w1.cell? ⟨w.heap.size, 1, none⟩ = some (.int .i64 x1) := hx1.has (by first | fail | (simp [go_sem, World.cell?_alloc_past, z_3, rz, rza, rzb, rzc, rzn]; done))
  have c0_2 : w1.cell? ⟨w.heap.size, 2, none⟩ = some (.int .i64 x2) := hx1.has (by first | fail | (simp [go_sem, World.cell?_alloc_past, z_3, rz, rza, rzb, rzc, rzn]; done))
  have c0_3 : w1.cell? ⟨w.heap.size, 3, none⟩ = some (.int .i64 x3) := hx1.has (by first | fail | (simp [go_sem, World.cell?_alloc_past, z_3, rz, rza, rzb, rzc, rzn]; done))
  have z1 := hx1.size
  try simp at z1
  have lt_z_c0 : b1 < w.heap.size := by omega
  have ne_z_c0 : ¬ b1 = w.heap.size := by omega
  have ne_c0_z : ¬ w.heap.size = b1 := by omega
  replace rz : b1 < w1.heap.size := by omega
  replace rza : b1 < w1.heap.size + 1 := by omega
  replace rzb : b1 < w1.heap.size + 1 + 1 := by omega
  replace rzc : b1 < w1.heap.size + 1 + 1 + 1 := by omega
  replace rzn : ¬ b1 = w1.heap.size := by omega
  have rc0 : w.heap.size < w1.heap.size := by omega
  have rc0a : w.heap.size < w1.heap.size + 1 := by omega
  have rc0b : w.heap.size < w1.heap.size + 1 + 1 := by omega
  have rc0c : w.heap.size < w1.heap.size + 1 + 1 + 1 := by omega
  have rc0n : ¬ w.heap.size = w1.heap.size := by omega
  replace HS := Lib.hid (HS.out.ext (Ext.trans (by repeat (first | with_reducible exact Ext.refl _ | with_reducible refine Ext.drew ?_ | with_reducible refine Ext.drewN ?_ _ | with_reducible refine Ext.alloc ?_ _ | with_reducible refine Ext.setCell ?_ (by first | omega | (simp; done) | (simp; omega)) _)) hx1))
  have X1 : Hid (Ext w w1) := Lib.hid (Ext.trans (by repeat (first | with_reducible exact Ext.refl w | with_reducible refine Ext.drew ?_ | with_reducible refine Ext.drewN ?_ _ | with_reducible refine Ext.alloc ?_ _ | with_reducible refine Ext.setCell ?_ (by first | omega | (simp; done) | (simp; omega)) _)) hx1)
  clear hx1 z1
  go_wp2_with fail
  (with_reducible refine (rMay15_any x0 x1 x2 x3 true _ HB.out).mono ?_)
  rintro e w2 ⟨rfl, hx2⟩
  replace z_3 : w2.cell? ⟨b1, o1 + m * 4 + 3, none⟩ = some (.int .i64 z3) := hx2.has (by first | exact z_3 | (simp [go_sem, World.cell?_alloc_past, z_3, c0_0, c0_1, c0_2, c0_3, ne_z_c0, ne_c0_z, rz, rza, rzb, rzc, rzn, rc0, rc0a, rc0b, rc0c, rc0n]; done))
  replace c0_0 : w2.cell? ⟨w.heap.size, 0, none⟩ = some (.int .i64 x0) := hx2.has (by first | exact c0_0 | (simp [go_sem, World.cell?_alloc_past, z_3, c0_0, c0_1, c0_2, c0_3, ne_z_c0, ne_c0_z, rz, rza, rzb, rzc, rzn, rc0, rc0a, rc0b, rc0c, rc0n]; done))
  replace c0_1 : w2.cell? ⟨w.heap.size, 1, none⟩ = some (.int .i64 x1) := hx2.has (by first | exact c0_1 | (simp [go_sem, World.cell?_alloc_past, z_3, c0_0, c0_1, c0_2, c0_3, ne_z_c0, ne_c0_z, rz, rza, rzb, rzc, rzn, rc0, rc0a, rc0b, rc0c, rc0n]; done))
  replace c0_2 : w2.cell? ⟨w.heap.size, 2, none⟩ = some (.int .i64 x2) := hx2.has (by first | exact c0_2 | (simp [go_sem, World.cell?_alloc_past, z_3, c0_0, c0_1, c0_2, c0_3, ne_z_c0, ne_c0_z, rz, rza, rzb, rzc, rzn, rc0, rc0a, rc0b, rc0c, rc0n]; done))
  replace c0_3 : w2.cell? ⟨w.heap.size, 3, none⟩ = some (.int .i64 x3) := hx2.has (by first | exact c0_3 | (simp [go_sem, World.cell?_alloc_past, z_3, c0_0, c0_1, c0_2, c0_3, ne_z_c0, ne_c0_z, rz, rza, rzb, rzc, rzn, rc0, rc0a, rc0b, rc0c, rc0n]; done))
  have z2 := hx2.size
  try simp at z2
  replace rz : b1 < w2.heap.size := by omega
  replace rza : b1 < w2.heap.size + 1 := by omega
  replace rzb : b1 < w2.heap.size + 1 + 1 := by omega
  replace rzc : b1 < w2.heap.size + 1 + 1 + 1 := by omega
  replace rzn : ¬ b1 = w2.heap.size := by omega
  replace rc0 : w.heap.size < w2.heap.size := by omega
  replace rc0a : w.heap.size < w2.heap.size + 1 := by omega
  replace rc0b : w.heap.size < w2.heap.size + 1 + 1 := by omega
  replace rc0c : w.heap.size < w2.heap.size + 1 + 1 + 1 := by omega
  replace rc0n : ¬ w.heap.size = w2.heap.size := by omega
  replace HS := Lib.hid (HS.out.ext (Ext.trans (by repeat (first | with_reducible exact Ext.refl _ | with_reducible refine Ext.drew ?_ | with_reducible refine Ext.drewN ?_ _ | with_reducible refine Ext.alloc ?_ _ | with_reducible refine Ext.setCell ?_ (by first | omega | (simp; done) | (simp; omega)) _)) hx2))
  have X2 : Hid (Ext w w2) := Lib.hid (Ext.trans (by repeat (first | with_reducible exact X1.out | with_reducible refine Ext.drew ?_ | with_reducible refine Ext.drewN ?_ _ | with_reducible refine Ext.alloc ?_ _ | with_reducible refine Ext.setCell ?_ (by first | omega | (simp; done) | (simp; omega)) _)) hx2)
  clear X1 hx2 z2
  go_wp2_with fail
  refine wp_region_held_drew (S := fun w' => w'.cell? ⟨w.heap.size, 3, none⟩ = some (.int .i64 x3) ∧ w'.cell? ⟨b1, o1 + m * 4 + 3, none⟩ = some (.int .i64 z3)) (by kernel_rfl) (by first | exact ⟨c0_3, z_3⟩ | (simp [go_sem, World.cell?_alloc_past, z_3, c0_0, c0_1, c0_2, c0_3, ne_z_c0, ne_c0_z, rz, rza, rzb, rzc, rzn, rc0, rc0a, rc0b, rc0c, rc0n]; done)) (fun hHeld => ?_)
  (refine' take_in 0 rfl (by kernel_rfl) (by kernel_rfl) (by kernel_rfl) (fun _ _ _ h => h) (by rfl) (by assumption) ?_ ?_; rotate_left; focus (intro w hSw; (try dsimp only at hSw); go_simp; try with_reducible rfl)); try simp only [Act.put, List.setIfInBounds_toArray, List.set_cons_zero, List.set_cons_succ]
  (refine' take_in 1 rfl (by kernel_rfl) (by kernel_rfl) (by kernel_rfl) (fun _ _ _ h => h) (by rfl) (by assumption) ?_ ?_; rotate_left; focus (intro w hSw; (try dsimp only at hSw); go_simp; try with_reducible rfl)); try simp only [Act.put, List.setIfInBounds_toArray, List.set_cons_zero, List.set_cons_succ]
  (refine' take_in 2 rfl (by kernel_rfl) (by kernel_rfl) (by kernel_rfl) (fun _ _ _ h => h) (by rfl) (by assumption) ?_ ?_; rotate_left; focus (intro w hSw; (try dsimp only at hSw); go_simp; try with_reducible rfl)); try simp only [Act.put, List.setIfInBounds_toArray, List.set_cons_zero, List.set_cons_succ]
  (refine' take_in 3 rfl (by kernel_rfl) (by kernel_rfl) (by kernel_rfl) (fun _ _ _ h => h) (by rfl) (by assumption) ?_ ?_; rotate_left; focus (intro w hSw; (try dsimp only at hSw); go_simp; try with_reducible rfl)); try simp only [Act.put, List.setIfInBounds_toArray, List.set_cons_zero, List.set_cons_succ]
  (refine' take_in 4 rfl (by kernel_rfl) (by kernel_rfl) (by kernel_rfl) (fun _ _ _ h => h) (by rfl) (by assumption) ?_ ?_; rotate_left; focus (intro w hSw; (try dsimp only at hSw); go_simp; try with_reducible rfl)); try simp only [Act.put, List.setIfInBounds_toArray, List.set_cons_zero, List.set_cons_succ]
  (refine' take_in 5 rfl (by kernel_rfl) (by kernel_rfl) (by kernel_rfl) (fun _ _ _ h => h) (by rfl) (by assumption) ?_ ?_; rotate_left; focus (intro w hSw; (try dsimp only at hSw); go_simp; try with_reducible rfl)); try simp only [Act.put, List.setIfInBounds_toArray, List.set_cons_zero, List.set_cons_succ]
  (refine' take_in 6 rfl (by kernel_rfl) (by kernel_rfl) (by kernel_rfl) (fun _ _ _ h => h) (by rfl) (by assumption) ?_ ?_; rotate_left; focus (intro w hSw; (try dsimp only at hSw); go_simp; try with_reducible rfl)); try simp only [Act.put, List.setIfInBounds_toArray, List.set_cons_zero, List.set_cons_succ]
  (refine' take_in 7 rfl (by kernel_rfl) (by kernel_rfl) (by kernel_rfl) (fun _ _ _ h => h) (by rfl) (by assumption) ?_ ?_; rotate_left; focus (intro w hSw; (try dsimp only at hSw); go_simp; try with_reducible rfl)); try simp only [Act.put, List.setIfInBounds_toArray, List.set_cons_zero, List.set_cons_succ]
  (refine' take_in 8 rfl (by kernel_rfl) (by kernel_rfl) (by kernel_rfl) (fun _ _ _ h => h) (by rfl) (by assumption) ?_ ?_; rotate_left; focus (intro w hSw; (try dsimp only at hSw); go_simp; try with_reducible rfl)); try simp only [Act.put, List.setIfInBounds_toArray, List.set_cons_zero, List.set_cons_succ]
  (refine' take_in 9 rfl (by kernel_rfl) (by kernel_rfl) (by kernel_rfl) (fun _ _ _ h => h) (by rfl) (by assumption) ?_ ?_; rotate_left; focus (intro w hSw; (try dsimp only at hSw); go_simp; try with_reducible rfl)); try simp only [Act.put, List.setIfInBounds_toArray, List.set_cons_zero, List.set_cons_succ]
  (refine' take_in 10 rfl (by kernel_rfl) (by kernel_rfl) (by kernel_rfl) (fun _ _ _ h => h) (by rfl) (by assumption) ?_ ?_; rotate_left; focus (intro w hSw; (try dsimp only at hSw); go_simp; try with_reducible rfl)); try simp only [Act.put, List.setIfInBounds_toArray, List.set_cons_zero, List.set_cons_succ]
  (refine' take_in 11 rfl (by kernel_rfl) (by kernel_rfl) (by kernel_rfl) (fun _ _ _ h => h) (by rfl) (by assumption) ?_ ?_; rotate_left; focus (intro w hSw; (try dsimp only at hSw); go_simp; try with_reducible rfl)); try simp only [Act.put, List.setIfInBounds_toArray, List.set_cons_zero, List.set_cons_succ]
  (refine' take_in 12 rfl (by kernel_rfl) (by kernel_rfl) (by kernel_rfl) (fun _ _ _ h => h) (by rfl) (by assumption) ?_ ?_; rotate_left; focus (intro w hSw; (try dsimp only at hSw); go_simp; try with_reducible rfl)); try simp only [Act.put, List.setIfInBounds_toArray, List.set_cons_zero, List.set_cons_succ]
  (refine' take_in 13 rfl (by kernel_rfl) (by kernel_rfl) (by kernel_rfl) (fun _ _ _ h => h) (by rfl) (by assumption) ?_ ?_; rotate_left; focus (intro w hSw; (try dsimp only at hSw); go_simp; try with_reducible rfl)); try simp only [Act.put, List.setIfInBounds_toArray, List.set_cons_zero, List.set_cons_succ]
  (refine' take_in 14 rfl (by kernel_rfl) (by kernel_rfl) (by kernel_rfl) (fun _ _ _ h => h) (by rfl) (by assumption) ?_ ?_; rotate_left; focus (intro w hSw; (try dsimp only at hSw); go_simp; try with_reducible rfl)); try simp only [Act.put, List.setIfInBounds_toArray, List.set_cons_zero, List.set_cons_succ]
  (refine' take_in 15 rfl (by kernel_rfl) (by kernel_rfl) (by kernel_rfl) (fun _ _ _ h => h) (by rfl) (by assumption) ?_ ?_; rotate_left; focus (intro w hSw; (try dsimp only at hSw); go_simp; try with_reducible rfl)); try simp only [Act.put, List.setIfInBounds_toArray, List.set_cons_zero, List.set_cons_succ]
  refine wpAnyH_done (by kernel_rfl) ?_ _
  go_wp2_with fail
  (with_reducible refine (rCount15_ev (some ⟨b1, o1, none⟩) (m + 1) c l x0 x1 x2 cv _ (HS.out.ext (by repeat (first | with_reducible exact Ext.refl _ | with_reducible refine Ext.drew ?_ | with_reducible refine Ext.drewN ?_ _ | with_reducible refine Ext.alloc ?_ _ | with_reducible refine Ext.setCell ?_ (by first | omega | (simp; done) | (simp; omega)) _))) hn HV.out).mono ?_)
  rintro e w3 ⟨rfl, hx3⟩
  replace z_3 : w3.cell? ⟨b1, o1 + m * 4 + 3, none⟩ = some (.int .i64 z3) := hx3.has (by first | exact z_3 | (simp [go_sem, World.cell?_alloc_past, z_3, c0_0, c0_1, c0_2, c0_3, ne_z_c0, ne_c0_z, rz, rza, rzb, rzc, rzn, rc0, rc0a, rc0b, rc0c, rc0n]; done))
  replace c0_3 : w3.cell? ⟨w.heap.size, 3, none⟩ = some (.int .i64 x3) := hx3.has (by first | exact c0_3 | (simp [go_sem, World.cell?_alloc_past, z_3, c0_0, c0_1, c0_2, c0_3, ne_z_c0, ne_c0_z, rz, rza, rzb, rzc, rzn, rc0, rc0a, rc0b, rc0c, rc0n]; done))
  have z3 := hx3.size
  try simp at z3
  replace rz : b1 < w3.heap.size := by omega
  replace rza : b1 < w3.heap.size + 1 := by omega
  replace rzb : b1 < w3.heap.size + 1 + 1 := by omega
  replace rzc : b1 < w3.heap.size + 1 + 1 + 1 := by omega
  replace rzn : ¬ b1 = w3.heap.size := by omega
  replace rc0 : w.heap.size < w3.heap.size := by omega
  replace rc0a : w.heap.size < w3.heap.size + 1 := by omega
  replace rc0b : w.heap.size < w3.heap.size + 1 + 1 := by omega
  replace rc0c : w.heap.size < w3.heap.size + 1 + 1 + 1 := by omega
  replace rc0n : ¬ w.heap.size = w3.heap.size := by omega
  replace HS := Lib.hid (HS.out.ext (Ext.trans (by repeat (first | with_reducible exact Ext.refl _ | with_reducible refine Ext.drew ?_ | with_reducible refine Ext.drewN ?_ _ | with_reducible refine Ext.alloc ?_ _ | with_reducible refine Ext.setCell ?_ (by first | omega | (simp; done) | (simp; omega)) _)) hx3))
  have X3 : Hid (Ext w w3) := Lib.hid (Ext.trans (by repeat (first | with_reducible exact X2.out | with_reducible refine Ext.drew ?_ | with_reducible refine Ext.drewN ?_ _ | with_reducible refine Ext.alloc ?_ _ | with_reducible refine Ext.setCell ?_ (by first | omega | (simp; done) | (simp; omega)) _)) hx3)
  clear c0_1 c0_0 c0_2 X2 hx3 z3
  go_wp2_with fail
  refine bodyPost_ret (v := .tuple #[.slice none 0 0, .int .i64 4]) (by simp [results, Try.results24, go_sem, World.cell?_alloc_past, z_3, c0_3, ne_z_c0, ne_c0_z, rz, rza, rzb, rzc, rzn, rc0, rc0a, rc0b, rc0c, rc0n]; try rfl) rfl (RetHopV.nil (xs := [.int .i64 4]) ?_)
  exact (by repeat (first | with_reducible exact X3.out | with_reducible refine Ext.drew ?_ | with_reducible refine Ext.drewN ?_ _ | with_reducible refine Ext.alloc ?_ _ | with_reducible refine Ext.setCell ?_ (by first | omega | (simp; done) | (simp; omega)) _))
theorem kCopyHops_n (A : Option Addr) (n c : Nat) (l : List (Int × Int × Int × Int)) (w : World) (h : Sl w 4 A n c (l.flatMap hopC)) (hn : n < 1099511627776) (hl : l.length = n) :
    Calls Try.prog 16 #[.slice A n c] w fun e w' => ∃ A' c', e = .returned (.slice A' n c') ∧ OwnHop w' w.heap.size (.slice A' n c') n l ∧ Ext w w' := by
  subst hl
  refine (kCopyHops_any A c l w h hn).mono ?_
  rintro e w' ⟨A', c', h1, _, h3, h4⟩
  exact ⟨A', c', h1, h3, h4⟩
set_option maxRecDepth 100000 in
set_option maxHeartbeats 4000000 in
theorem rAdd15_okY (A : Option Addr) (n c : Nat) (l : List (Int × Int × Int × Int)) (x0 x1 x2 x3 mo f1 f2 cv : Int) (w : World) (h : Sl w 4 A n c (l.flatMap hopC)) (hn : n < 1099511627776) (hw : ∀ x ∈ l, FitsH x) (hf : (f1, f2) = chkH l) (hv : cv = cntL l x0 x1 x2) (hc : f1 = 0) (hm : MayH (x0, x1, x2, x3)) (h4 : ¬ mo < 1) (h5 : ¬ mo > 16) (m : Nat) (z0 z1 z2 z3 : Int) (hm1 : n = m + 1) (hz : l[m]? = some (z0, z1, z2, z3)) (h6 : ¬ x3 < z3) (h7 : ¬ cv ≥ mo) (h8 : ¬ 4096 ≤ n) :
    Calls Try.prog 24 #[.slice A n c, .agg #[.int .i64 x0, .int .i64 x1, .int .i64 x2, .int .i64 x3], .int .i64 mo] w (RetHopV (l ++ [(x0, x1, x2, x3)]) [.int .i64 0] w) := by
  have hl := h.rlen hopC_len (by decide)
  have s1 := h.small
  subst hc
  have HB : Hid (true = decide (MayH (x0, x1, x2, x3))) := Lib.hid (decide_eq_true hm).symm
  subst hm1
  have h9 : ¬ ((m + 1 : Nat) : Int) ≥ 4096 := by omega
  have h10 : ¬ (m : Int) + 1 ≥ 4096 := by omega
  obtain ⟨b1, o1, rfl, hb1, hc1⟩ := h.rec_ hopC_len (show 0 < m + 1 from by omega)
  have z_3 := hc1 m (z0, z1, z2, z3) hz 3 _ rfl
  rw [← Nat.add_assoc] at z_3
  have hwm : IntKind.i64.wrap (((m + 1 : Nat) : Int) - 1) = (m : Int) := by rw [IntWalk.i64_in _ (by omega)]; omega
  have hwm2 : IntKind.i64.wrap (((m : Int) + 1) - 1) = (m : Int) := by rw [IntWalk.i64_in _ (by omega)]; omega
  have hwm3 : IntKind.i64.wrap (m : Int) = (m : Int) := IntWalk.i64_in _ (by omega)
  have hmm2 : (m : Int) < (m : Int) + 1 := by omega
  have hmm : (m : Int) < ((m + 1 : Nat) : Int) := by omega
  have hm0 : (0 : Int) < (m : Int) + 1 := by omega
  have hm1 : (0 : Int) < ((m + 1 : Nat) : Int) := by omega
  have hm2 : (m : Int) + 1 > 0 := by omega
  have rz := hb1
  have rza : b1 < w.heap.size + 1 := by omega
  have rzb : b1 < w.heap.size + 1 + 1 := by omega
  have rzc : b1 < w.heap.size + 1 + 1 + 1 := by omega
  have rzn : ¬ b1 = w.heap.size := by omega
  have HS := Lib.hid h
  have HW := Lib.hid hw
  have HF := Lib.hid hf
  have HV := Lib.hid hv
  clear h hw hf hv hc1
  go_enter Try.func24, Try.ntmps24
  go_wp2_with fail
  (with_reducible refine (rCheck15_ev (some ⟨b1, o1, none⟩) (m + 1) c l 0 f2 _ (HS.out.ext (by repeat (first | with_reducible exact Ext.refl _ | with_reducible refine Ext.drew ?_ | with_reducible refine Ext.drewN ?_ _ | with_reducible refine Ext.alloc ?_ _ | with_reducible refine Ext.setCell ?_ (by first | omega | (simp; done) | (simp; omega)) _))) (fits_t HW.out) HF.out).mono ?_)
  rintro e w1 ⟨rfl, hx1⟩
  replace z_3 : w1.cell? ⟨b1, o1 + m * 4 + 3, none⟩ = some (.int .i64 z3) := hx1.has (by first | exact z_3 | (simp [go_sem, World.cell?_alloc_past, z_3, rz, rza, rzb, rzc, rzn]; done))
  have c0_0 : w1.cell? ⟨w.heap.size, 0, none⟩ = some (.int .i64 x0) := hx1.has (by first | fail | (simp [go_sem, World.cell?_alloc_past, z_3, rz, rza, rzb, rzc, rzn]; done))
  have c0_1 : w1.cell? ⟨w.heap.size, 1, none⟩ = some (.int .i64 x1) := hx1.has (by first | fail | (simp [go_sem, World.cell?_alloc_past, z_3, rz, rza, rzb, rzc, rzn]; done))
  have c0_2 : w1.cell? ⟨w.heap.size, 2, none⟩ = some (.int .i64 x2) := hx1.has (by first | fail | (simp [go_sem, World.cell?_alloc_past, z_3, rz, rza, rzb, rzc, rzn]; done))
  have c0_3 : w1.cell? ⟨w.heap.size, 3, none⟩ = some (.int .i64 x3) := hx1.has (by first | fail | (simp [go_sem, World.cell?_alloc_past, z_3, rz, rza, rzb, rzc, rzn]; done))
  have z1 := hx1.size
  try simp at z1
  have lt_z_c0 : b1 < w.heap.size := by omega
  have ne_z_c0 : ¬ b1 = w.heap.size := by omega
  have ne_c0_z : ¬ w.heap.size = b1 := by omega
  replace rz : b1 < w1.heap.size := by omega
  replace rza : b1 < w1.heap.size + 1 := by omega
  replace rzb : b1 < w1.heap.size + 1 + 1 := by omega
  replace rzc : b1 < w1.heap.size + 1 + 1 + 1 := by omega
  replace rzn : ¬ b1 = w1.heap.size := by omega
  have rc0 : w.heap.size < w1.heap.size := by omega
  have rc0a : w.heap.size < w1.heap.size + 1 := by omega
  have rc0b : w.heap.size < w1.heap.size + 1 + 1 := by omega
  have rc0c : w.heap.size < w1.heap.size + 1 + 1 + 1 := by omega
  have rc0n : ¬ w.heap.size = w1.heap.size := by omega
  replace HS := Lib.hid (HS.out.ext (Ext.trans (by repeat (first | with_reducible exact Ext.refl _ | with_reducible refine Ext.drew ?_ | with_reducible refine Ext.drewN ?_ _ | with_reducible refine Ext.alloc ?_ _ | with_reducible refine Ext.setCell ?_ (by first | omega | (simp; done) | (simp; omega)) _)) hx1))
  have X1 : Hid (Ext w w1) := Lib.hid (Ext.trans (by repeat (first | with_reducible exact Ext.refl w | with_reducible refine Ext.drew ?_ | with_reducible refine Ext.drewN ?_ _ | with_reducible refine Ext.alloc ?_ _ | with_reducible refine Ext.setCell ?_ (by first | omega | (simp; done) | (simp; omega)) _)) hx1)
  clear hx1 z1
  go_wp2_with fail
  (with_reducible refine (rMay15_any x0 x1 x2 x3 true _ HB.out).mono ?_)
  rintro e w2 ⟨rfl, hx2⟩
  replace z_3 : w2.cell? ⟨b1, o1 + m * 4 + 3, none⟩ = some (.int .i64 z3) := hx2.has (by first | exact z_3 | (simp [go_sem, World.cell?_alloc_past, z_3, c0_0, c0_1, c0_2, c0_3, ne_z_c0, ne_c0_z, rz, rza, rzb, rzc, rzn, rc0, rc0a, rc0b, rc0c, rc0n]; done))
  replace c0_0 : w2.cell? ⟨w.heap.size, 0, none⟩ = some (.int .i64 x0) := hx2.has (by first | exact c0_0 | (simp [go_sem, World.cell?_alloc_past, z_3, c0_0, c0_1, c0_2, c0_3, ne_z_c0, ne_c0_z, rz, rza, rzb, rzc, rzn, rc0, rc0a, rc0b, rc0c, rc0n]; done))
  replace c0_1 : w2.cell? ⟨w.heap.size, 1, none⟩ = some (.int .i64 x1) := hx2.has (by first | exact c0_1 | (simp [go_sem, World.cell?_alloc_past, z_3, c0_0, c0_1, c0_2, c0_3, ne_z_c0, ne_c0_z, rz, rza, rzb, rzc, rzn, rc0, rc0a, rc0b, rc0c, rc0n]; done))
  replace c0_2 : w2.cell? ⟨w.heap.size, 2, none⟩ = some (.int .i64 x2) := hx2.has (by first | exact c0_2 | (simp [go_sem, World.cell?_alloc_past, z_3, c0_0, c0_1, c0_2, c0_3, ne_z_c0, ne_c0_z, rz, rza, rzb, rzc, rzn, rc0, rc0a, rc0b, rc0c, rc0n]; done))
  replace c0_3 : w2.cell? ⟨w.heap.size, 3, none⟩ = some (.int .i64 x3) := hx2.has (by first | exact c0_3 | (simp [go_sem, World.cell?_alloc_past, z_3, c0_0, c0_1, c0_2, c0_3, ne_z_c0, ne_c0_z, rz, rza, rzb, rzc, rzn, rc0, rc0a, rc0b, rc0c, rc0n]; done))
  have z2 := hx2.size
  try simp at z2
  replace rz : b1 < w2.heap.size := by omega
  replace rza : b1 < w2.heap.size + 1 := by omega
  replace rzb : b1 < w2.heap.size + 1 + 1 := by omega
  replace rzc : b1 < w2.heap.size + 1 + 1 + 1 := by omega
  replace rzn : ¬ b1 = w2.heap.size := by omega
  replace rc0 : w.heap.size < w2.heap.size := by omega
  replace rc0a : w.heap.size < w2.heap.size + 1 := by omega
  replace rc0b : w.heap.size < w2.heap.size + 1 + 1 := by omega
  replace rc0c : w.heap.size < w2.heap.size + 1 + 1 + 1 := by omega
  replace rc0n : ¬ w.heap.size = w2.heap.size := by omega
  replace HS := Lib.hid (HS.out.ext (Ext.trans (by repeat (first | with_reducible exact Ext.refl _ | with_reducible refine Ext.drew ?_ | with_reducible refine Ext.drewN ?_ _ | with_reducible refine Ext.alloc ?_ _ | with_reducible refine Ext.setCell ?_ (by first | omega | (simp; done) | (simp; omega)) _)) hx2))
  have X2 : Hid (Ext w w2) := Lib.hid (Ext.trans (by repeat (first | with_reducible exact X1.out | with_reducible refine Ext.drew ?_ | with_reducible refine Ext.drewN ?_ _ | with_reducible refine Ext.alloc ?_ _ | with_reducible refine Ext.setCell ?_ (by first | omega | (simp; done) | (simp; omega)) _)) hx2)
  clear X1 hx2 z2
  go_wp2_with fail
  refine wp_region_held_drew (S := fun w' => w'.cell? ⟨w.heap.size, 3, none⟩ = some (.int .i64 x3) ∧ w'.cell? ⟨b1, o1 + m * 4 + 3, none⟩ = some (.int .i64 z3)) (by kernel_rfl) (by first | exact ⟨c0_3, z_3⟩ | (simp [go_sem, World.cell?_alloc_past, z_3, c0_0, c0_1, c0_2, c0_3, ne_z_c0, ne_c0_z, rz, rza, rzb, rzc, rzn, rc0, rc0a, rc0b, rc0c, rc0n]; done)) (fun hHeld => ?_)
  (refine' take_in 0 rfl (by kernel_rfl) (by kernel_rfl) (by kernel_rfl) (fun _ _ _ h => h) (by rfl) (by assumption) ?_ ?_; rotate_left; focus (intro w hSw; (try dsimp only at hSw); go_simp; try with_reducible rfl)); try simp only [Act.put, List.setIfInBounds_toArray, List.set_cons_zero, List.set_cons_succ]
  (refine' take_in 1 rfl (by kernel_rfl) (by kernel_rfl) (by kernel_rfl) (fun _ _ _ h => h) (by rfl) (by assumption) ?_ ?_; rotate_left; focus (intro w hSw; (try dsimp only at hSw); go_simp; try with_reducible rfl)); try simp only [Act.put, List.setIfInBounds_toArray, List.set_cons_zero, List.set_cons_succ]
  (refine' take_in 2 rfl (by kernel_rfl) (by kernel_rfl) (by kernel_rfl) (fun _ _ _ h => h) (by rfl) (by assumption) ?_ ?_; rotate_left; focus (intro w hSw; (try dsimp only at hSw); go_simp; try with_reducible rfl)); try simp only [Act.put, List.setIfInBounds_toArray, List.set_cons_zero, List.set_cons_succ]
  (refine' take_in 3 rfl (by kernel_rfl) (by kernel_rfl) (by kernel_rfl) (fun _ _ _ h => h) (by rfl) (by assumption) ?_ ?_; rotate_left; focus (intro w hSw; (try dsimp only at hSw); go_simp; try with_reducible rfl)); try simp only [Act.put, List.setIfInBounds_toArray, List.set_cons_zero, List.set_cons_succ]
  (refine' take_in 4 rfl (by kernel_rfl) (by kernel_rfl) (by kernel_rfl) (fun _ _ _ h => h) (by rfl) (by assumption) ?_ ?_; rotate_left; focus (intro w hSw; (try dsimp only at hSw); go_simp; try with_reducible rfl)); try simp only [Act.put, List.setIfInBounds_toArray, List.set_cons_zero, List.set_cons_succ]
  (refine' take_in 5 rfl (by kernel_rfl) (by kernel_rfl) (by kernel_rfl) (fun _ _ _ h => h) (by rfl) (by assumption) ?_ ?_; rotate_left; focus (intro w hSw; (try dsimp only at hSw); go_simp; try with_reducible rfl)); try simp only [Act.put, List.setIfInBounds_toArray, List.set_cons_zero, List.set_cons_succ]
  (refine' take_in 6 rfl (by kernel_rfl) (by kernel_rfl) (by kernel_rfl) (fun _ _ _ h => h) (by rfl) (by assumption) ?_ ?_; rotate_left; focus (intro w hSw; (try dsimp only at hSw); go_simp; try with_reducible rfl)); try simp only [Act.put, List.setIfInBounds_toArray, List.set_cons_zero, List.set_cons_succ]
  (refine' take_in 7 rfl (by kernel_rfl) (by kernel_rfl) (by kernel_rfl) (fun _ _ _ h => h) (by rfl) (by assumption) ?_ ?_; rotate_left; focus (intro w hSw; (try dsimp only at hSw); go_simp; try with_reducible rfl)); try simp only [Act.put, List.setIfInBounds_toArray, List.set_cons_zero, List.set_cons_succ]
  (refine' take_in 8 rfl (by kernel_rfl) (by kernel_rfl) (by kernel_rfl) (fun _ _ _ h => h) (by rfl) (by assumption) ?_ ?_; rotate_left; focus (intro w hSw; (try dsimp only at hSw); go_simp; try with_reducible rfl)); try simp only [Act.put, List.setIfInBounds_toArray, List.set_cons_zero, List.set_cons_succ]
  (refine' take_in 9 rfl (by kernel_rfl) (by kernel_rfl) (by kernel_rfl) (fun _ _ _ h => h) (by rfl) (by assumption) ?_ ?_; rotate_left; focus (intro w hSw; (try dsimp only at hSw); go_simp; try with_reducible rfl)); try simp only [Act.put, List.setIfInBounds_toArray, List.set_cons_zero, List.set_cons_succ]
  (refine' take_in 10 rfl (by kernel_rfl) (by kernel_rfl) (by kernel_rfl) (fun _ _ _ h => h) (by rfl) (by assumption) ?_ ?_; rotate_left; focus (intro w hSw; (try dsimp only at hSw); go_simp; try with_reducible rfl)); try simp only [Act.put, List.setIfInBounds_toArray, List.set_cons_zero, List.set_cons_succ]
  (refine' take_in 11 rfl (by kernel_rfl) (by kernel_rfl) (by kernel_rfl) (fun _ _ _ h => h) (by rfl) (by assumption) ?_ ?_; rotate_left; focus (intro w hSw; (try dsimp only at hSw); go_simp; try with_reducible rfl)); try simp only [Act.put, List.setIfInBounds_toArray, List.set_cons_zero, List.set_cons_succ]
  (refine' take_in 12 rfl (by kernel_rfl) (by kernel_rfl) (by kernel_rfl) (fun _ _ _ h => h) (by rfl) (by assumption) ?_ ?_; rotate_left; focus (intro w hSw; (try dsimp only at hSw); go_simp; try with_reducible rfl)); try simp only [Act.put, List.setIfInBounds_toArray, List.set_cons_zero, List.set_cons_succ]
  (refine' take_in 13 rfl (by kernel_rfl) (by kernel_rfl) (by kernel_rfl) (fun _ _ _ h => h) (by rfl) (by assumption) ?_ ?_; rotate_left; focus (intro w hSw; (try dsimp only at hSw); go_simp; try with_reducible rfl)); try simp only [Act.put, List.setIfInBounds_toArray, List.set_cons_zero, List.set_cons_succ]
  (refine' take_in 14 rfl (by kernel_rfl) (by kernel_rfl) (by kernel_rfl) (fun _ _ _ h => h) (by rfl) (by assumption) ?_ ?_; rotate_left; focus (intro w hSw; (try dsimp only at hSw); go_simp; try with_reducible rfl)); try simp only [Act.put, List.setIfInBounds_toArray, List.set_cons_zero, List.set_cons_succ]
  (refine' take_in 15 rfl (by kernel_rfl) (by kernel_rfl) (by kernel_rfl) (fun _ _ _ h => h) (by rfl) (by assumption) ?_ ?_; rotate_left; focus (intro w hSw; (try dsimp only at hSw); go_simp; try with_reducible rfl)); try simp only [Act.put, List.setIfInBounds_toArray, List.set_cons_zero, List.set_cons_succ]
  refine wpAnyH_done (by kernel_rfl) ?_ _
  go_wp2_with fail
  (with_reducible refine (rCount15_ev (some ⟨b1, o1, none⟩) (m + 1) c l x0 x1 x2 cv _ (HS.out.ext (by repeat (first | with_reducible exact Ext.refl _ | with_reducible refine Ext.drew ?_ | with_reducible refine Ext.drewN ?_ _ | with_reducible refine Ext.alloc ?_ _ | with_reducible refine Ext.setCell ?_ (by first | omega | (simp; done) | (simp; omega)) _))) hn HV.out).mono ?_)
  rintro e w3 ⟨rfl, hx3⟩
  replace z_3 : w3.cell? ⟨b1, o1 + m * 4 + 3, none⟩ = some (.int .i64 z3) := hx3.has (by first | exact z_3 | (simp [go_sem, World.cell?_alloc_past, z_3, c0_0, c0_1, c0_2, c0_3, ne_z_c0, ne_c0_z, rz, rza, rzb, rzc, rzn, rc0, rc0a, rc0b, rc0c, rc0n]; done))
  replace c0_0 : w3.cell? ⟨w.heap.size, 0, none⟩ = some (.int .i64 x0) := hx3.has (by first | exact c0_0 | (simp [go_sem, World.cell?_alloc_past, z_3, c0_0, c0_1, c0_2, c0_3, ne_z_c0, ne_c0_z, rz, rza, rzb, rzc, rzn, rc0, rc0a, rc0b, rc0c, rc0n]; done))
  replace c0_1 : w3.cell? ⟨w.heap.size, 1, none⟩ = some (.int .i64 x1) := hx3.has (by first | exact c0_1 | (simp [go_sem, World.cell?_alloc_past, z_3, c0_0, c0_1, c0_2, c0_3, ne_z_c0, ne_c0_z, rz, rza, rzb, rzc, rzn, rc0, rc0a, rc0b, rc0c, rc0n]; done))
  replace c0_2 : w3.cell? ⟨w.heap.size, 2, none⟩ = some (.int .i64 x2) := hx3.has (by first | exact c0_2 | (simp [go_sem, World.cell?_alloc_past, z_3, c0_0, c0_1, c0_2, c0_3, ne_z_c0, ne_c0_z, rz, rza, rzb, rzc, rzn, rc0, rc0a, rc0b, rc0c, rc0n]; done))
  replace c0_3 : w3.cell? ⟨w.heap.size, 3, none⟩ = some (.int .i64 x3) := hx3.has (by first | exact c0_3 | (simp [go_sem, World.cell?_alloc_past, z_3, c0_0, c0_1, c0_2, c0_3, ne_z_c0, ne_c0_z, rz, rza, rzb, rzc, rzn, rc0, rc0a, rc0b, rc0c, rc0n]; done))
  have z3 := hx3.size
  try simp at z3
  replace rz : b1 < w3.heap.size := by omega
  replace rza : b1 < w3.heap.size + 1 := by omega
  replace rzb : b1 < w3.heap.size + 1 + 1 := by omega
  replace rzc : b1 < w3.heap.size + 1 + 1 + 1 := by omega
  replace rzn : ¬ b1 = w3.heap.size := by omega
  replace rc0 : w.heap.size < w3.heap.size := by omega
  replace rc0a : w.heap.size < w3.heap.size + 1 := by omega
  replace rc0b : w.heap.size < w3.heap.size + 1 + 1 := by omega
  replace rc0c : w.heap.size < w3.heap.size + 1 + 1 + 1 := by omega
  replace rc0n : ¬ w.heap.size = w3.heap.size := by omega
  replace HS := Lib.hid (HS.out.ext (Ext.trans (by repeat (first | with_reducible exact Ext.refl _ | with_reducible refine Ext.drew ?_ | with_reducible refine Ext.drewN ?_ _ | with_reducible refine Ext.alloc ?_ _ | with_reducible refine Ext.setCell ?_ (by first | omega | (simp; done) | (simp; omega)) _)) hx3))
  have X3 : Hid (Ext w w3) := Lib.hid (Ext.trans (by repeat (first | with_reducible exact X2.out | with_reducible refine Ext.drew ?_ | with_reducible refine Ext.drewN ?_ _ | with_reducible refine Ext.alloc ?_ _ | with_reducible refine Ext.setCell ?_ (by first | omega | (simp; done) | (simp; omega)) _)) hx3)
  clear X2 hx3 z3
  go_wp2_with fail
  refine wp_region_held_drew (S := fun _ => True) (by kernel_rfl) trivial (fun hHeld => ?_)
  (refine' take_in 0 rfl (by kernel_rfl) (by kernel_rfl) (by kernel_rfl) (fun _ _ _ h => h) (by rfl) (by assumption) ?_ ?_; rotate_left; focus (intro w hSw; (try dsimp only at hSw); go_simp; try with_reducible rfl)); try simp only [Act.put, List.setIfInBounds_toArray, List.set_cons_zero, List.set_cons_succ]
  refine' next2_in 1 2 rfl rfl (by kernel_rfl) (by rfl) (by rfl) (fun K hK => ?_) (fun K hK => ?_)
  · go_simp
    (with_reducible refine (kCopyHops_n (some ⟨b1, o1, none⟩) (m + 1) c l _ (HS.out.ext (by repeat (first | with_reducible exact Ext.refl _ | with_reducible refine Ext.drew ?_ | with_reducible refine Ext.drewN ?_ _ | with_reducible refine Ext.alloc ?_ _))) hn hl).mono ?_)
    rintro e w5 ⟨A3, c3, rfl, hO3, hx5⟩
    have hz5 := hx5.size
    try simp at hz5
    have X5 : Hid (Ext w w5) := Lib.hid (Ext.trans (by repeat (first | with_reducible exact X3.out | with_reducible refine Ext.drew ?_ | with_reducible refine Ext.drewN ?_ _ | with_reducible refine Ext.alloc ?_ _)) hx5)
    have HO : Hid (OwnHop w5 w.heap.size (.slice A3 (m + 1) c3) (m + 1) l) := Lib.hid (OwnHop.lower hO3 (by first | omega | (simp; omega)))
    clear hO3
    have d_0 : w5.cell? ⟨w.heap.size, 0, none⟩ = some (.int .i64 x0) := hx5.has (by first | exact c0_0 | (simp [go_sem, c0_0, rc0, rc0n]; done))
    have d_1 : w5.cell? ⟨w.heap.size, 1, none⟩ = some (.int .i64 x1) := hx5.has (by first | exact c0_1 | (simp [go_sem, c0_1, rc0, rc0n]; done))
    have d_2 : w5.cell? ⟨w.heap.size, 2, none⟩ = some (.int .i64 x2) := hx5.has (by first | exact c0_2 | (simp [go_sem, c0_2, rc0, rc0n]; done))
    have d_3 : w5.cell? ⟨w.heap.size, 3, none⟩ = some (.int .i64 x3) := hx5.has (by first | exact c0_3 | (simp [go_sem, c0_3, rc0, rc0n]; done))
    refine hK.out _ _ (trivial) (fun hHeld => ?_); clear hK K; try simp only [Act.put, List.setIfInBounds_toArray, List.set_cons_zero, List.set_cons_succ]
    refine' next_in 2 rfl (by kernel_rfl) (by rfl) (fun K hK => ?_)
    go_simp
    refine hK.out _ _ (trivial) (fun hHeld => ?_); clear hK K; try simp only [Act.put, List.setIfInBounds_toArray, List.set_cons_zero, List.set_cons_succ]
    refine' next_in 3 rfl (by kernel_rfl) (by rfl) (fun K hK => ?_)
    go_simp
    refine hK.out _ _ (trivial) (fun hHeld => ?_); clear hK K; try simp only [Act.put, List.setIfInBounds_toArray, List.set_cons_zero, List.set_cons_succ]
    obtain ⟨A7, c7, w7, hrun7, hO7, hB7⟩ := hop_app (w := (w5.alloc (.cells #[.int .i64 x0, .int .i64 x1, .int .i64 x2, .int .i64 x3] 24))) (b := w5.heap.size) (c := 1) (x0 := x0) (x1 := x1) (x2 := x2) (x3 := x3) (HO.out.ext (Ext.alloc (Ext.refl _) _)) hn (by have := Ext.size X5.out; simp; omega) (by simp) (by simp) (by simp) (by simp) 22
    have X7 : Hid (Ext w w7) := Lib.hid (Ext.below (Ext.alloc X5.out _) hB7)
    clear hB7
    refine' next_in 4 rfl (by kernel_rfl) (by rfl) (fun K hK => ?_)
    refine oper_append (.tmp 63) (.tmp 65) 22 rfl rfl rfl hrun7 ?_
    refine hK.out _ _ (trivial) (fun hHeld => ?_); clear hK K; try simp only [Act.put, List.setIfInBounds_toArray, List.set_cons_zero, List.set_cons_succ]
    (refine' take_in 5 rfl (by kernel_rfl) (by kernel_rfl) (by kernel_rfl) (fun _ _ _ h => h) (by rfl) (by assumption) ?_ ?_; rotate_left; focus (intro w hSw; (try dsimp only at hSw); go_simp; try with_reducible rfl)); try simp only [Act.put, List.setIfInBounds_toArray, List.set_cons_zero, List.set_cons_succ]
    (refine' take_in 6 rfl (by kernel_rfl) (by kernel_rfl) (by kernel_rfl) (fun _ _ _ h => h) (by rfl) (by assumption) ?_ ?_; rotate_left; focus (intro w hSw; (try dsimp only at hSw); go_simp; try with_reducible rfl)); try simp only [Act.put, List.setIfInBounds_toArray, List.set_cons_zero, List.set_cons_succ]
    refine wpAnyH_done (by kernel_rfl) ?_ _
    go_wp2_with fail
    refine bodyPost_ret (v := .tuple #[.slice A7 ((m + 1) + 1) c7, .int .i64 0]) (by simp [results, Try.results24]; try rfl) rfl (RetHopV.mk (xs := [.int .i64 0]) hO7 X7.out (by rw [List.length_append, hl]; rfl))
  · go_simp
    refine hK.out _ _ (trivial) (fun hHeld => ?_); clear hK K; try simp only [Act.put, List.setIfInBounds_toArray, List.set_cons_zero, List.set_cons_succ]
    refine' next2_in 1 3 rfl rfl (by kernel_rfl) (by rfl) (by rfl) (fun K hK => ?_) (fun K hK => ?_)
    · go_simp
      (with_reducible refine (kCopyHops_n (some ⟨b1, o1, none⟩) (m + 1) c l _ (HS.out.ext (by repeat (first | with_reducible exact Ext.refl _ | with_reducible refine Ext.drew ?_ | with_reducible refine Ext.drewN ?_ _ | with_reducible refine Ext.alloc ?_ _))) hn hl).mono ?_)
      rintro e w5 ⟨A3, c3, rfl, hO3, hx5⟩
      have hz5 := hx5.size
      try simp at hz5
      have X5 : Hid (Ext w w5) := Lib.hid (Ext.trans (by repeat (first | with_reducible exact X3.out | with_reducible refine Ext.drew ?_ | with_reducible refine Ext.drewN ?_ _ | with_reducible refine Ext.alloc ?_ _)) hx5)
      have HO : Hid (OwnHop w5 w.heap.size (.slice A3 (m + 1) c3) (m + 1) l) := Lib.hid (OwnHop.lower hO3 (by first | omega | (simp; omega)))
      clear hO3
      refine hK.out _ _ (trivial) (fun hHeld => ?_); clear hK K; try simp only [Act.put, List.setIfInBounds_toArray, List.set_cons_zero, List.set_cons_succ]
      refine' next_in 3 rfl (by kernel_rfl) (by rfl) (fun K hK => ?_)
      go_simp
      refine hK.out _ _ (trivial) (fun hHeld => ?_); clear hK K; try simp only [Act.put, List.setIfInBounds_toArray, List.set_cons_zero, List.set_cons_succ]
      obtain ⟨A7, c7, w7, hrun7, hO7, hB7⟩ := hop_app (w := (w5.alloc (.cells #[.int .i64 x0, .int .i64 x1, .int .i64 x2, .int .i64 x3] 24))) (b := w5.heap.size) (c := 1) (x0 := x0) (x1 := x1) (x2 := x2) (x3 := x3) (HO.out.ext (Ext.alloc (Ext.refl _) _)) hn (by have := Ext.size X5.out; simp; omega) (by simp) (by simp) (by simp) (by simp) 22
      have X7 : Hid (Ext w w7) := Lib.hid (Ext.below (Ext.alloc X5.out _) hB7)
      clear hB7
      refine' next_in 4 rfl (by kernel_rfl) (by rfl) (fun K hK => ?_)
      refine oper_append (.tmp 63) (.tmp 65) 22 rfl rfl rfl hrun7 ?_
      refine hK.out _ _ (trivial) (fun hHeld => ?_); clear hK K; try simp only [Act.put, List.setIfInBounds_toArray, List.set_cons_zero, List.set_cons_succ]
      (refine' take_in 5 rfl (by kernel_rfl) (by kernel_rfl) (by kernel_rfl) (fun _ _ _ h => h) (by rfl) (by assumption) ?_ ?_; rotate_left; focus (intro w hSw; (try dsimp only at hSw); go_simp; try with_reducible rfl)); try simp only [Act.put, List.setIfInBounds_toArray, List.set_cons_zero, List.set_cons_succ]
      (refine' take_in 6 rfl (by kernel_rfl) (by kernel_rfl) (by kernel_rfl) (fun _ _ _ h => h) (by rfl) (by assumption) ?_ ?_; rotate_left; focus (intro w hSw; (try dsimp only at hSw); go_simp; try with_reducible rfl)); try simp only [Act.put, List.setIfInBounds_toArray, List.set_cons_zero, List.set_cons_succ]
      refine wpAnyH_done (by kernel_rfl) ?_ _
      go_wp2_with fail
      refine bodyPost_ret (v := .tuple #[.slice A7 ((m + 1) + 1) c7, .int .i64 0]) (by simp [results, Try.results24]; try rfl) rfl (RetHopV.mk (xs := [.int .i64 0]) hO7 X7.out (by rw [List.length_append, hl]; rfl))
    · go_simp
      refine hK.out _ _ (trivial) (fun hHeld => ?_); clear hK K; try simp only [Act.put, List.setIfInBounds_toArray, List.set_cons_zero, List.set_cons_succ]
      refine' next_in 1 rfl (by kernel_rfl) (by rfl) (fun K hK => ?_)
      go_simp
      (with_reducible refine (kCopyHops_n (some ⟨b1, o1, none⟩) (m + 1) c l _ (HS.out.ext (by repeat (first | with_reducible exact Ext.refl _ | with_reducible refine Ext.drew ?_ | with_reducible refine Ext.drewN ?_ _ | with_reducible refine Ext.alloc ?_ _))) hn hl).mono ?_)
      rintro e w5 ⟨A3, c3, rfl, hO3, hx5⟩
      have hz5 := hx5.size
      try simp at hz5
      have X5 : Hid (Ext w w5) := Lib.hid (Ext.trans (by repeat (first | with_reducible exact X3.out | with_reducible refine Ext.drew ?_ | with_reducible refine Ext.drewN ?_ _ | with_reducible refine Ext.alloc ?_ _)) hx5)
      have HO : Hid (OwnHop w5 w.heap.size (.slice A3 (m + 1) c3) (m + 1) l) := Lib.hid (OwnHop.lower hO3 (by first | omega | (simp; omega)))
      clear hO3
      have n_0 : w5.cell? ⟨w3.heap.size, 0, none⟩ = some (.int .i64 x0) := hx5.has (by simp [go_sem])
      have n_1 : w5.cell? ⟨w3.heap.size, 1, none⟩ = some (.int .i64 x1) := hx5.has (by simp [go_sem])
      have n_2 : w5.cell? ⟨w3.heap.size, 2, none⟩ = some (.int .i64 x2) := hx5.has (by simp [go_sem])
      have n_3 : w5.cell? ⟨w3.heap.size, 3, none⟩ = some (.int .i64 x3) := hx5.has (by simp [go_sem])
      refine hK.out _ _ (trivial) (fun hHeld => ?_); clear hK K; try simp only [Act.put, List.setIfInBounds_toArray, List.set_cons_zero, List.set_cons_succ]
      obtain ⟨A7, c7, w7, hrun7, hO7, hB7⟩ := hop_app (w := w5) (b := w3.heap.size) (c := 1) (x0 := x0) (x1 := x1) (x2 := x2) (x3 := x3) HO.out hn (Ext.size X5.out) n_0 n_1 n_2 n_3 22
      have X7 : Hid (Ext w w7) := Lib.hid (Ext.below X5.out hB7)
      clear hB7
      refine' next_in 4 rfl (by kernel_rfl) (by rfl) (fun K hK => ?_)
      refine oper_append (.tmp 63) (.tmp 65) 22 rfl rfl rfl hrun7 ?_
      refine hK.out _ _ (trivial) (fun hHeld => ?_); clear hK K; try simp only [Act.put, List.setIfInBounds_toArray, List.set_cons_zero, List.set_cons_succ]
      (refine' take_in 5 rfl (by kernel_rfl) (by kernel_rfl) (by kernel_rfl) (fun _ _ _ h => h) (by rfl) (by assumption) ?_ ?_; rotate_left; focus (intro w hSw; (try dsimp only at hSw); go_simp; try with_reducible rfl)); try simp only [Act.put, List.setIfInBounds_toArray, List.set_cons_zero, List.set_cons_succ]
      (refine' take_in 6 rfl (by kernel_rfl) (by kernel_rfl) (by kernel_rfl) (fun _ _ _ h => h) (by rfl) (by assumption) ?_ ?_; rotate_left; focus (intro w hSw; (try dsimp only at hSw); go_simp; try with_reducible rfl)); try simp only [Act.put, List.setIfInBounds_toArray, List.set_cons_zero, List.set_cons_succ]
      refine wpAnyH_done (by kernel_rfl) ?_ _
      go_wp2_with fail
      refine bodyPost_ret (v := .tuple #[.slice A7 ((m + 1) + 1) c7, .int .i64 0]) (by simp [results, Try.results24]; try rfl) rfl (RetHopV.mk (xs := [.int .i64 0]) hO7 X7.out (by rw [List.length_append, hl]; rfl))
set_option maxRecDepth 100000 in
set_option maxHeartbeats 4000000 in
theorem rAdd15_okN (A : Option Addr) (n c : Nat) (l : List (Int × Int × Int × Int)) (x0 x1 x2 x3 mo f1 f2 cv : Int) (w : World) (h : Sl w 4 A n c (l.flatMap hopC)) (hn : n < 1099511627776) (hw : ∀ x ∈ l, FitsH x) (hf : (f1, f2) = chkH l) (hv : cv = cntL l x0 x1 x2) (hc : f1 = 0) (hm : MayH (x0, x1, x2, x3)) (h4 : ¬ mo < 1) (h5 : ¬ mo > 16) (hn0 : n = 0) (h7 : ¬ cv ≥ mo) (h8 : ¬ 4096 ≤ n) :
    Calls Try.prog 24 #[.slice A n c, .agg #[.int .i64 x0, .int .i64 x1, .int .i64 x2, .int .i64 x3], .int .i64 mo] w (RetHopV (l ++ [(x0, x1, x2, x3)]) [.int .i64 0] w) := by
  have hl := h.rlen hopC_len (by decide)
  have s1 := h.small
  subst hc
  have HB : Hid (true = decide (MayH (x0, x1, x2, x3))) := Lib.hid (decide_eq_true hm).symm
  subst hn0
  have HS := Lib.hid h
  have HW := Lib.hid hw
  have HF := Lib.hid hf
  have HV := Lib.hid hv
  clear h hw hf hv
  go_enter Try.func24, Try.ntmps24
  go_wp2_with fail
  (with_reducible refine (rCheck15_ev A 0 c l 0 f2 _ (HS.out.ext (by repeat (first | with_reducible exact Ext.refl _ | with_reducible refine Ext.drew ?_ | with_reducible refine Ext.drewN ?_ _ | with_reducible refine Ext.alloc ?_ _ | with_reducible refine Ext.setCell ?_ (by first | omega | (simp; done) | (simp; omega)) _))) (fits_t HW.out) HF.out).mono ?_)
  rintro e w1 ⟨rfl, hx1⟩
  have c0_0 : w1.cell? ⟨w.heap.size, 0, none⟩ = some (.int .i64 x0) := hx1.has (by first | fail | (simp [go_sem, World.cell?_alloc_past]; done))
  have c0_1 : w1.cell? ⟨w.heap.size, 1, none⟩ = some (.int .i64 x1) := hx1.has (by first | fail | (simp [go_sem, World.cell?_alloc_past]; done))
  have c0_2 : w1.cell? ⟨w.heap.size, 2, none⟩ = some (.int .i64 x2) := hx1.has (by first | fail | (simp [go_sem, World.cell?_alloc_past]; done))
  have c0_3 : w1.cell? ⟨w.heap.size, 3, none⟩ = some (.int .i64 x3) := hx1.has (by first | fail | (simp [go_sem, World.cell?_alloc_past]; done))
  have z1 := hx1.size
  try simp at z1
  have rc0 : w.heap.size < w1.heap.size := by omega
  have rc0a : w.heap.size < w1.heap.size + 1 := by omega
  have rc0b : w.heap.size < w1.heap.size + 1 + 1 := by omega
  have rc0c : w.heap.size < w1.heap.size + 1 + 1 + 1 := by omega
  have rc0n : ¬ w.heap.size = w1.heap.size := by omega
  replace HS := Lib.hid (HS.out.ext (Ext.trans (by repeat (first | with_reducible exact Ext.refl _ | with_reducible refine Ext.drew ?_ | with_reducible refine Ext.drewN ?_ _ | with_reducible refine Ext.alloc ?_ _ | with_reducible refine Ext.setCell ?_ (by first | omega | (simp; done) | (simp; omega)) _)) hx1))
  have X1 : Hid (Ext w w1) := Lib.hid (Ext.trans (by repeat (first | with_reducible exact Ext.refl w | with_reducible refine Ext.drew ?_ | with_reducible refine Ext.drewN ?_ _ | with_reducible refine Ext.alloc ?_ _ | with_reducible refine Ext.setCell ?_ (by first | omega | (simp; done) | (simp; omega)) _)) hx1)
  clear hx1 z1
  go_wp2_with fail
  (with_reducible refine (rMay15_any x0 x1 x2 x3 true _ HB.out).mono ?_)
  rintro e w2 ⟨rfl, hx2⟩
  replace c0_0 : w2.cell? ⟨w.heap.size, 0, none⟩ = some (.int .i64 x0) := hx2.has (by first | exact c0_0 | (simp [go_sem, World.cell?_alloc_past, c0_0, c0_1, c0_2, c0_3, rc0, rc0a, rc0b, rc0c, rc0n]; done))
  replace c0_1 : w2.cell? ⟨w.heap.size, 1, none⟩ = some (.int .i64 x1) := hx2.has (by first | exact c0_1 | (simp [go_sem, World.cell?_alloc_past, c0_0, c0_1, c0_2, c0_3, rc0, rc0a, rc0b, rc0c, rc0n]; done))
  replace c0_2 : w2.cell? ⟨w.heap.size, 2, none⟩ = some (.int .i64 x2) := hx2.has (by first | exact c0_2 | (simp [go_sem, World.cell?_alloc_past, c0_0, c0_1, c0_2, c0_3, rc0, rc0a, rc0b, rc0c, rc0n]; done))
  replace c0_3 : w2.cell? ⟨w.heap.size, 3, none⟩ = some (.int .i64 x3) := hx2.has (by first | exact c0_3 | (simp [go_sem, World.cell?_alloc_past, c0_0, c0_1, c0_2, c0_3, rc0, rc0a, rc0b, rc0c, rc0n]; done))
  have z2 := hx2.size
  try simp at z2
  replace rc0 : w.heap.size < w2.heap.size := by omega
  replace rc0a : w.heap.size < w2.heap.size + 1 := by omega
  replace rc0b : w.heap.size < w2.heap.size + 1 + 1 := by omega
  replace rc0c : w.heap.size < w2.heap.size + 1 + 1 + 1 := by omega
  replace rc0n : ¬ w.heap.size = w2.heap.size := by omega
  replace HS := Lib.hid (HS.out.ext (Ext.trans (by repeat (first | with_reducible exact Ext.refl _ | with_reducible refine Ext.drew ?_ | with_reducible refine Ext.drewN ?_ _ | with_reducible refine Ext.alloc ?_ _ | with_reducible refine Ext.setCell ?_ (by first | omega | (simp; done) | (simp; omega)) _)) hx2))
  have X2 : Hid (Ext w w2) := Lib.hid (Ext.trans (by repeat (first | with_reducible exact X1.out | with_reducible refine Ext.drew ?_ | with_reducible refine Ext.drewN ?_ _ | with_reducible refine Ext.alloc ?_ _ | with_reducible refine Ext.setCell ?_ (by first | omega | (simp; done) | (simp; omega)) _)) hx2)
  clear X1 hx2 z2
  go_wp2_with fail
  refine wp_region_held_drew (S := fun w' => True) (by kernel_rfl) (by first | exact trivial | (simp [go_sem, World.cell?_alloc_past, c0_0, c0_1, c0_2, c0_3, rc0, rc0a, rc0b, rc0c, rc0n]; done)) (fun hHeld => ?_)
  (refine' take_in 0 rfl (by kernel_rfl) (by kernel_rfl) (by kernel_rfl) (fun _ _ _ h => h) (by rfl) (by assumption) ?_ ?_; rotate_left; focus (intro w hSw; (try dsimp only at hSw); go_simp; try with_reducible rfl)); try simp only [Act.put, List.setIfInBounds_toArray, List.set_cons_zero, List.set_cons_succ]
  (refine' take_in 1 rfl (by kernel_rfl) (by kernel_rfl) (by kernel_rfl) (fun _ _ _ h => h) (by rfl) (by assumption) ?_ ?_; rotate_left; focus (intro w hSw; (try dsimp only at hSw); go_simp; try with_reducible rfl)); try simp only [Act.put, List.setIfInBounds_toArray, List.set_cons_zero, List.set_cons_succ]
  (refine' take_in 2 rfl (by kernel_rfl) (by kernel_rfl) (by kernel_rfl) (fun _ _ _ h => h) (by rfl) (by assumption) ?_ ?_; rotate_left; focus (intro w hSw; (try dsimp only at hSw); go_simp; try with_reducible rfl)); try simp only [Act.put, List.setIfInBounds_toArray, List.set_cons_zero, List.set_cons_succ]
  (refine' take_in 3 rfl (by kernel_rfl) (by kernel_rfl) (by kernel_rfl) (fun _ _ _ h => h) (by rfl) (by assumption) ?_ ?_; rotate_left; focus (intro w hSw; (try dsimp only at hSw); go_simp; try with_reducible rfl)); try simp only [Act.put, List.setIfInBounds_toArray, List.set_cons_zero, List.set_cons_succ]
  (refine' skip_in 4 rfl (by kernel_rfl) (by kernel_rfl) (by kernel_rfl) (fun _ _ _ h => h) (by rfl) (by assumption) ?_); try simp only [Act.put, List.setIfInBounds_toArray, List.set_cons_zero, List.set_cons_succ]
  (refine' skip_in 5 rfl (by kernel_rfl) (by kernel_rfl) (by kernel_rfl) (fun _ _ _ h => h) (by rfl) (by assumption) ?_); try simp only [Act.put, List.setIfInBounds_toArray, List.set_cons_zero, List.set_cons_succ]
  (refine' skip_in 6 rfl (by kernel_rfl) (by kernel_rfl) (by kernel_rfl) (fun _ _ _ h => h) (by rfl) (by assumption) ?_); try simp only [Act.put, List.setIfInBounds_toArray, List.set_cons_zero, List.set_cons_succ]
  (refine' skip_in 7 rfl (by kernel_rfl) (by kernel_rfl) (by kernel_rfl) (fun _ _ _ h => h) (by rfl) (by assumption) ?_); try simp only [Act.put, List.setIfInBounds_toArray, List.set_cons_zero, List.set_cons_succ]
  (refine' skip_in 8 rfl (by kernel_rfl) (by kernel_rfl) (by kernel_rfl) (fun _ _ _ h => h) (by rfl) (by assumption) ?_); try simp only [Act.put, List.setIfInBounds_toArray, List.set_cons_zero, List.set_cons_succ]
  (refine' skip_in 9 rfl (by kernel_rfl) (by kernel_rfl) (by kernel_rfl) (fun _ _ _ h => h) (by rfl) (by assumption) ?_); try simp only [Act.put, List.setIfInBounds_toArray, List.set_cons_zero, List.set_cons_succ]
  (refine' skip_in 10 rfl (by kernel_rfl) (by kernel_rfl) (by kernel_rfl) (fun _ _ _ h => h) (by rfl) (by assumption) ?_); try simp only [Act.put, List.setIfInBounds_toArray, List.set_cons_zero, List.set_cons_succ]
  (refine' skip_in 11 rfl (by kernel_rfl) (by kernel_rfl) (by kernel_rfl) (fun _ _ _ h => h) (by rfl) (by assumption) ?_); try simp only [Act.put, List.setIfInBounds_toArray, List.set_cons_zero, List.set_cons_succ]
  (refine' skip_in 12 rfl (by kernel_rfl) (by kernel_rfl) (by kernel_rfl) (fun _ _ _ h => h) (by rfl) (by assumption) ?_); try simp only [Act.put, List.setIfInBounds_toArray, List.set_cons_zero, List.set_cons_succ]
  (refine' skip_in 13 rfl (by kernel_rfl) (by kernel_rfl) (by kernel_rfl) (fun _ _ _ h => h) (by rfl) (by assumption) ?_); try simp only [Act.put, List.setIfInBounds_toArray, List.set_cons_zero, List.set_cons_succ]
  (refine' take_in 14 rfl (by kernel_rfl) (by kernel_rfl) (by kernel_rfl) (fun _ _ _ h => h) (by rfl) (by assumption) ?_ ?_; rotate_left; focus (intro w hSw; (try dsimp only at hSw); go_simp; try with_reducible rfl)); try simp only [Act.put, List.setIfInBounds_toArray, List.set_cons_zero, List.set_cons_succ]
  (refine' take_in 15 rfl (by kernel_rfl) (by kernel_rfl) (by kernel_rfl) (fun _ _ _ h => h) (by rfl) (by assumption) ?_ ?_; rotate_left; focus (intro w hSw; (try dsimp only at hSw); go_simp; try with_reducible rfl)); try simp only [Act.put, List.setIfInBounds_toArray, List.set_cons_zero, List.set_cons_succ]
  refine wpAnyH_done (by kernel_rfl) ?_ _
  go_wp2_with fail
  (with_reducible refine (rCount15_ev A 0 c l x0 x1 x2 cv _ (HS.out.ext (by repeat (first | with_reducible exact Ext.refl _ | with_reducible refine Ext.drew ?_ | with_reducible refine Ext.drewN ?_ _ | with_reducible refine Ext.alloc ?_ _ | with_reducible refine Ext.setCell ?_ (by first | omega | (simp; done) | (simp; omega)) _))) hn HV.out).mono ?_)
  rintro e w3 ⟨rfl, hx3⟩
  replace c0_0 : w3.cell? ⟨w.heap.size, 0, none⟩ = some (.int .i64 x0) := hx3.has (by first | exact c0_0 | (simp [go_sem, World.cell?_alloc_past, c0_0, c0_1, c0_2, c0_3, rc0, rc0a, rc0b, rc0c, rc0n]; done))
  replace c0_1 : w3.cell? ⟨w.heap.size, 1, none⟩ = some (.int .i64 x1) := hx3.has (by first | exact c0_1 | (simp [go_sem, World.cell?_alloc_past, c0_0, c0_1, c0_2, c0_3, rc0, rc0a, rc0b, rc0c, rc0n]; done))
  replace c0_2 : w3.cell? ⟨w.heap.size, 2, none⟩ = some (.int .i64 x2) := hx3.has (by first | exact c0_2 | (simp [go_sem, World.cell?_alloc_past, c0_0, c0_1, c0_2, c0_3, rc0, rc0a, rc0b, rc0c, rc0n]; done))
  replace c0_3 : w3.cell? ⟨w.heap.size, 3, none⟩ = some (.int .i64 x3) := hx3.has (by first | exact c0_3 | (simp [go_sem, World.cell?_alloc_past, c0_0, c0_1, c0_2, c0_3, rc0, rc0a, rc0b, rc0c, rc0n]; done))
  have z3 := hx3.size
  try simp at z3
  replace rc0 : w.heap.size < w3.heap.size := by omega
  replace rc0a : w.heap.size < w3.heap.size + 1 := by omega
  replace rc0b : w.heap.size < w3.heap.size + 1 + 1 := by omega
  replace rc0c : w.heap.size < w3.heap.size + 1 + 1 + 1 := by omega
  replace rc0n : ¬ w.heap.size = w3.heap.size := by omega
  replace HS := Lib.hid (HS.out.ext (Ext.trans (by repeat (first | with_reducible exact Ext.refl _ | with_reducible refine Ext.drew ?_ | with_reducible refine Ext.drewN ?_ _ | with_reducible refine Ext.alloc ?_ _ | with_reducible refine Ext.setCell ?_ (by first | omega | (simp; done) | (simp; omega)) _)) hx3))
  have X3 : Hid (Ext w w3) := Lib.hid (Ext.trans (by repeat (first | with_reducible exact X2.out | with_reducible refine Ext.drew ?_ | with_reducible refine Ext.drewN ?_ _ | with_reducible refine Ext.alloc ?_ _ | with_reducible refine Ext.setCell ?_ (by first | omega | (simp; done) | (simp; omega)) _)) hx3)
  clear X2 hx3 z3
  go_wp2_with fail
  refine wp_region_held_drew (S := fun _ => True) (by kernel_rfl) trivial (fun hHeld => ?_)
  (refine' take_in 0 rfl (by kernel_rfl) (by kernel_rfl) (by kernel_rfl) (fun _ _ _ h => h) (by rfl) (by assumption) ?_ ?_; rotate_left; focus (intro w hSw; (try dsimp only at hSw); go_simp; try with_reducible rfl)); try simp only [Act.put, List.setIfInBounds_toArray, List.set_cons_zero, List.set_cons_succ]
  refine' next2_in 1 2 rfl rfl (by kernel_rfl) (by rfl) (by rfl) (fun K hK => ?_) (fun K hK => ?_)
  · go_simp
    (with_reducible refine (kCopyHops_n A 0 c l _ (HS.out.ext (by repeat (first | with_reducible exact Ext.refl _ | with_reducible refine Ext.drew ?_ | with_reducible refine Ext.drewN ?_ _ | with_reducible refine Ext.alloc ?_ _))) hn hl).mono ?_)
    rintro e w5 ⟨A3, c3, rfl, hO3, hx5⟩
    have hz5 := hx5.size
    try simp at hz5
    have X5 : Hid (Ext w w5) := Lib.hid (Ext.trans (by repeat (first | with_reducible exact X3.out | with_reducible refine Ext.drew ?_ | with_reducible refine Ext.drewN ?_ _ | with_reducible refine Ext.alloc ?_ _)) hx5)
    have HO : Hid (OwnHop w5 w.heap.size (.slice A3 0 c3) 0 l) := Lib.hid (OwnHop.lower hO3 (by first | omega | (simp; omega)))
    clear hO3
    have d_0 : w5.cell? ⟨w.heap.size, 0, none⟩ = some (.int .i64 x0) := hx5.has (by first | exact c0_0 | (simp [go_sem, c0_0, rc0, rc0n]; done))
    have d_1 : w5.cell? ⟨w.heap.size, 1, none⟩ = some (.int .i64 x1) := hx5.has (by first | exact c0_1 | (simp [go_sem, c0_1, rc0, rc0n]; done))
    have d_2 : w5.cell? ⟨w.heap.size, 2, none⟩ = some (.int .i64 x2) := hx5.has (by first | exact c0_2 | (simp [go_sem, c0_2, rc0, rc0n]; done))
    have d_3 : w5.cell? ⟨w.heap.size, 3, none⟩ = some (.int .i64 x3) := hx5.has (by first | exact c0_3 | (simp [go_sem, c0_3, rc0, rc0n]; done))
    refine hK.out _ _ (trivial) (fun hHeld => ?_); clear hK K; try simp only [Act.put, List.setIfInBounds_toArray, List.set_cons_zero, List.set_cons_succ]
    refine' next_in 2 rfl (by kernel_rfl) (by rfl) (fun K hK => ?_)
    go_simp
    refine hK.out _ _ (trivial) (fun hHeld => ?_); clear hK K; try simp only [Act.put, List.setIfInBounds_toArray, List.set_cons_zero, List.set_cons_succ]
    refine' next_in 3 rfl (by kernel_rfl) (by rfl) (fun K hK => ?_)
    go_simp
    refine hK.out _ _ (trivial) (fun hHeld => ?_); clear hK K; try simp only [Act.put, List.setIfInBounds_toArray, List.set_cons_zero, List.set_cons_succ]
    obtain ⟨A7, c7, w7, hrun7, hO7, hB7⟩ := hop_app (w := (w5.alloc (.cells #[.int .i64 x0, .int .i64 x1, .int .i64 x2, .int .i64 x3] 24))) (b := w5.heap.size) (c := 1) (x0 := x0) (x1 := x1) (x2 := x2) (x3 := x3) (HO.out.ext (Ext.alloc (Ext.refl _) _)) hn (by have := Ext.size X5.out; simp; omega) (by simp) (by simp) (by simp) (by simp) 22
    have X7 : Hid (Ext w w7) := Lib.hid (Ext.below (Ext.alloc X5.out _) hB7)
    clear hB7
    refine' next_in 4 rfl (by kernel_rfl) (by rfl) (fun K hK => ?_)
    refine oper_append (.tmp 63) (.tmp 65) 22 rfl rfl rfl hrun7 ?_
    refine hK.out _ _ (trivial) (fun hHeld => ?_); clear hK K; try simp only [Act.put, List.setIfInBounds_toArray, List.set_cons_zero, List.set_cons_succ]
    (refine' take_in 5 rfl (by kernel_rfl) (by kernel_rfl) (by kernel_rfl) (fun _ _ _ h => h) (by rfl) (by assumption) ?_ ?_; rotate_left; focus (intro w hSw; (try dsimp only at hSw); go_simp; try with_reducible rfl)); try simp only [Act.put, List.setIfInBounds_toArray, List.set_cons_zero, List.set_cons_succ]
    (refine' take_in 6 rfl (by kernel_rfl) (by kernel_rfl) (by kernel_rfl) (fun _ _ _ h => h) (by rfl) (by assumption) ?_ ?_; rotate_left; focus (intro w hSw; (try dsimp only at hSw); go_simp; try with_reducible rfl)); try simp only [Act.put, List.setIfInBounds_toArray, List.set_cons_zero, List.set_cons_succ]
    refine wpAnyH_done (by kernel_rfl) ?_ _
    go_wp2_with fail
    refine bodyPost_ret (v := .tuple #[.slice A7 (0 + 1) c7, .int .i64 0]) (by simp [results, Try.results24]; try rfl) rfl (RetHopV.mk (xs := [.int .i64 0]) hO7 X7.out (by rw [List.length_append, hl]; rfl))
  · go_simp
    refine hK.out _ _ (trivial) (fun hHeld => ?_); clear hK K; try simp only [Act.put, List.setIfInBounds_toArray, List.set_cons_zero, List.set_cons_succ]
    refine' next2_in 1 3 rfl rfl (by kernel_rfl) (by rfl) (by rfl) (fun K hK => ?_) (fun K hK => ?_)
    · go_simp
      (with_reducible refine (kCopyHops_n A 0 c l _ (HS.out.ext (by repeat (first | with_reducible exact Ext.refl _ | with_reducible refine Ext.drew ?_ | with_reducible refine Ext.drewN ?_ _ | with_reducible refine Ext.alloc ?_ _))) hn hl).mono ?_)
      rintro e w5 ⟨A3, c3, rfl, hO3, hx5⟩
      have hz5 := hx5.size
      try simp at hz5
      have X5 : Hid (Ext w w5) := Lib.hid (Ext.trans (by repeat (first | with_reducible exact X3.out | with_reducible refine Ext.drew ?_ | with_reducible refine Ext.drewN ?_ _ | with_reducible refine Ext.alloc ?_ _)) hx5)
      have HO : Hid (OwnHop w5 w.heap.size (.slice A3 0 c3) 0 l) := Lib.hid (OwnHop.lower hO3 (by first | omega | (simp; omega)))
      clear hO3
      refine hK.out _ _ (trivial) (fun hHeld => ?_); clear hK K; try simp only [Act.put, List.setIfInBounds_toArray, List.set_cons_zero, List.set_cons_succ]
      refine' next_in 3 rfl (by kernel_rfl) (by rfl) (fun K hK => ?_)
      go_simp
      refine hK.out _ _ (trivial) (fun hHeld => ?_); clear hK K; try simp only [Act.put, List.setIfInBounds_toArray, List.set_cons_zero, List.set_cons_succ]
      obtain ⟨A7, c7, w7, hrun7, hO7, hB7⟩ := hop_app (w := (w5.alloc (.cells #[.int .i64 x0, .int .i64 x1, .int .i64 x2, .int .i64 x3] 24))) (b := w5.heap.size) (c := 1) (x0 := x0) (x1 := x1) (x2 := x2) (x3 := x3) (HO.out.ext (Ext.alloc (Ext.refl _) _)) hn (by have := Ext.size X5.out; simp; omega) (by simp) (by simp) (by simp) (by simp) 22
      have X7 : Hid (Ext w w7) := Lib.hid (Ext.below (Ext.alloc X5.out _) hB7)
      clear hB7
      refine' next_in 4 rfl (by kernel_rfl) (by rfl) (fun K hK => ?_)
      refine oper_append (.tmp 63) (.tmp 65) 22 rfl rfl rfl hrun7 ?_
      refine hK.out _ _ (trivial) (fun hHeld => ?_); clear hK K; try simp only [Act.put, List.setIfInBounds_toArray, List.set_cons_zero, List.set_cons_succ]
      (refine' take_in 5 rfl (by kernel_rfl) (by kernel_rfl) (by kernel_rfl) (fun _ _ _ h => h) (by rfl) (by assumption) ?_ ?_; rotate_left; focus (intro w hSw; (try dsimp only at hSw); go_simp; try with_reducible rfl)); try simp only [Act.put, List.setIfInBounds_toArray, List.set_cons_zero, List.set_cons_succ]
      (refine' take_in 6 rfl (by kernel_rfl) (by kernel_rfl) (by kernel_rfl) (fun _ _ _ h => h) (by rfl) (by assumption) ?_ ?_; rotate_left; focus (intro w hSw; (try dsimp only at hSw); go_simp; try with_reducible rfl)); try simp only [Act.put, List.setIfInBounds_toArray, List.set_cons_zero, List.set_cons_succ]
      refine wpAnyH_done (by kernel_rfl) ?_ _
      go_wp2_with fail
      refine bodyPost_ret (v := .tuple #[.slice A7 (0 + 1) c7, .int .i64 0]) (by simp [results, Try.results24]; try rfl) rfl (RetHopV.mk (xs := [.int .i64 0]) hO7 X7.out (by rw [List.length_append, hl]; rfl))
    · go_simp
      refine hK.out _ _ (trivial) (fun hHeld => ?_); clear hK K; try simp only [Act.put, List.setIfInBounds_toArray, List.set_cons_zero, List.set_cons_succ]
      refine' next_in 1 rfl (by kernel_rfl) (by rfl) (fun K hK => ?_)
      go_simp
      (with_reducible refine (kCopyHops_n A 0 c l _ (HS.out.ext (by repeat (first | with_reducible exact Ext.refl _ | with_reducible refine Ext.drew ?_ | with_reducible refine Ext.drewN ?_ _ | with_reducible refine Ext.alloc ?_ _))) hn hl).mono ?_)
      rintro e w5 ⟨A3, c3, rfl, hO3, hx5⟩
      have hz5 := hx5.size
      try simp at hz5
      have X5 : Hid (Ext w w5) := Lib.hid (Ext.trans (by repeat (first | with_reducible exact X3.out | with_reducible refine Ext.drew ?_ | with_reducible refine Ext.drewN ?_ _ | with_reducible refine Ext.alloc ?_ _)) hx5)
      have HO : Hid (OwnHop w5 w.heap.size (.slice A3 0 c3) 0 l) := Lib.hid (OwnHop.lower hO3 (by first | omega | (simp; omega)))
      clear hO3
      have n_0 : w5.cell? ⟨w3.heap.size, 0, none⟩ = some (.int .i64 x0) := hx5.has (by simp [go_sem])
      have n_1 : w5.cell? ⟨w3.heap.size, 1, none⟩ = some (.int .i64 x1) := hx5.has (by simp [go_sem])
      have n_2 : w5.cell? ⟨w3.heap.size, 2, none⟩ = some (.int .i64 x2) := hx5.has (by simp [go_sem])
      have n_3 : w5.cell? ⟨w3.heap.size, 3, none⟩ = some (.int .i64 x3) := hx5.has (by simp [go_sem])
      refine hK.out _ _ (trivial) (fun hHeld => ?_); clear hK K; try simp only [Act.put, List.setIfInBounds_toArray, List.set_cons_zero, List.set_cons_succ]
      obtain ⟨A7, c7, w7, hrun7, hO7, hB7⟩ := hop_app (w := w5) (b := w3.heap.size) (c := 1) (x0 := x0) (x1 := x1) (x2 := x2) (x3 := x3) HO.out hn (Ext.size X5.out) n_0 n_1 n_2 n_3 22
      have X7 : Hid (Ext w w7) := Lib.hid (Ext.below X5.out hB7)
      clear hB7
      refine' next_in 4 rfl (by kernel_rfl) (by rfl) (fun K hK => ?_)
      refine oper_append (.tmp 63) (.tmp 65) 22 rfl rfl rfl hrun7 ?_
      refine hK.out _ _ (trivial) (fun hHeld => ?_); clear hK K; try simp only [Act.put, List.setIfInBounds_toArray, List.set_cons_zero, List.set_cons_succ]
      (refine' take_in 5 rfl (by kernel_rfl) (by kernel_rfl) (by kernel_rfl) (fun _ _ _ h => h) (by rfl) (by assumption) ?_ ?_; rotate_left; focus (intro w hSw; (try dsimp only at hSw); go_simp; try with_reducible rfl)); try simp only [Act.put, List.setIfInBounds_toArray, List.set_cons_zero, List.set_cons_succ]
      (refine' take_in 6 rfl (by kernel_rfl) (by kernel_rfl) (by kernel_rfl) (fun _ _ _ h => h) (by rfl) (by assumption) ?_ ?_; rotate_left; focus (intro w hSw; (try dsimp only at hSw); go_simp; try with_reducible rfl)); try simp only [Act.put, List.setIfInBounds_toArray, List.set_cons_zero, List.set_cons_succ]
      refine wpAnyH_done (by kernel_rfl) ?_ _
      go_wp2_with fail
      refine bodyPost_ret (v := .tuple #[.slice A7 (0 + 1) c7, .int .i64 0]) (by simp [results, Try.results24]; try rfl) rfl (RetHopV.mk (xs := [.int .i64 0]) hO7 X7.out (by rw [List.length_append, hl]; rfl))
theorem mayV_last {x y : (Int × Int × Int × Int)} {l : List (Int × Int × Int × Int)} (h : MayH x) (hl : l.getLast? = some y) : mayV x l = if x.2.2.2 < y.2.2.2 then 9 else 0 := by
  rw [mayV_cases h, hl]
set_option maxRecDepth 100000 in
set_option maxHeartbeats 4000000 in
theorem rAdd15_any (A : Option Addr) (n c : Nat) (l : List (Int × Int × Int × Int)) (x0 x1 x2 x3 mo : Int) (w : World) (h : Sl w 4 A n c (l.flatMap hopC)) (hn : n < 1099511627776) (hw : ∀ x ∈ l, FitsH x) :
    Calls Try.prog 24 #[.slice A n c, .agg #[.int .i64 x0, .int .i64 x1, .int .i64 x2, .int .i64 x3], .int .i64 mo] w (RetHopV (addV l (x0, x1, x2, x3) mo).1 [.int .i64 (addV l (x0, x1, x2, x3) mo).2] w) := by
  have hl := h.rlen hopC_len (by decide)
  obtain ⟨⟨f1, f2⟩, hf⟩ : ∃ F, F = chkH l := ⟨_, rfl⟩
  obtain ⟨mv, hmv⟩ : ∃ m, m = mayV (x0, x1, x2, x3) l := ⟨_, rfl⟩
  obtain ⟨cv, hv⟩ : ∃ c, c = cntL l x0 x1 x2 := ⟨_, rfl⟩
  have hE : addE l (x0, x1, x2, x3) mo = if f1 ≠ 0 then f1 else if mv = 3 ∨ mo < 1 ∨ mo > 16 then 3 else if mv ≠ 0 then mv else if mo ≤ cv then 22 else if 4096 ≤ l.length then 4 else 0 := by
    unfold addE
    rw [← hf, ← hmv, ← hv]
  by_cases hc : f1 = 0
  · by_cases hm : MayH (x0, x1, x2, x3)
    · by_cases h4 : mo < 1
      · rw [addV_no (e := 3) (by rw [hE]; repeat' split <;> omega) (by omega)]
        exact rAdd15_lo A n c l x0 x1 x2 x3 mo f1 f2 cv w h hn hw hf hv hc hm h4
      by_cases h5 : mo > 16
      · rw [addV_no (e := 3) (by rw [hE]; repeat' split <;> omega) (by omega)]
        exact rAdd15_hi A n c l x0 x1 x2 x3 mo f1 f2 cv w h hn hw hf hv hc hm h4 h5
      by_cases hn0 : n = 0
      · have hlast : l.getLast? = none := by rw [List.eq_nil_of_length_eq_zero (show l.length = 0 by omega)]; rfl
        have hm0 : mv = 0 := by rw [hmv, mayV_cases hm, hlast]
        by_cases h7 : cv ≥ mo
        · rw [addV_no (e := 22) (by rw [hE]; repeat' split <;> omega) (by omega)]
          exact rAdd15_capN A n c l x0 x1 x2 x3 mo f1 f2 cv w h hn hw hf hv hc hm h4 h5 hn0 h7
        rw [addV_ok (by rw [hE]; repeat' split <;> omega)]
        exact rAdd15_okN A n c l x0 x1 x2 x3 mo f1 f2 cv w h hn hw hf hv hc hm h4 h5 hn0 h7 (by omega)
      obtain ⟨m, hm1⟩ : ∃ m, n = m + 1 := ⟨n - 1, by omega⟩
      obtain ⟨⟨z0, z1, z2, z3⟩, hz⟩ : ∃ z, l[m]? = some z := ⟨l[m], List.getElem?_eq_getElem (by omega)⟩
      have hlast := mayV_last hm (getLast_at hz (by omega))
      rw [← hmv] at hlast
      dsimp only at hlast
      by_cases h6 : x3 < z3
      · rw [if_pos h6] at hlast
        rw [addV_no (e := 9) (by rw [hE]; repeat' split <;> omega) (by omega)]
        exact rAdd15_ord A n c l x0 x1 x2 x3 mo f1 f2 cv w h hn hw hf hv hc hm h4 h5 m z0 z1 z2 z3 hm1 hz h6
      rw [if_neg h6] at hlast
      by_cases h7 : cv ≥ mo
      · rw [addV_no (e := 22) (by rw [hE]; repeat' split <;> omega) (by omega)]
        exact rAdd15_capY A n c l x0 x1 x2 x3 mo f1 f2 cv w h hn hw hf hv hc hm h4 h5 m z0 z1 z2 z3 hm1 hz h6 h7
      by_cases h8 : 4096 ≤ n
      · rw [addV_no (e := 4) (by rw [hE]; repeat' split <;> omega) (by omega)]
        exact rAdd15_longY A n c l x0 x1 x2 x3 mo f1 f2 cv w h hn hw hf hv hc hm h4 h5 m z0 z1 z2 z3 hm1 hz h6 h7 h8
      rw [addV_ok (by rw [hE]; repeat' split <;> omega)]
      exact rAdd15_okY A n c l x0 x1 x2 x3 mo f1 f2 cv w h hn hw hf hv hc hm h4 h5 m z0 z1 z2 z3 hm1 hz h6 h7 h8
    · have hm3 : mv = 3 := by rw [hmv]; exact mayV_no hm
      rw [addV_no (e := 3) (by rw [hE]; repeat' split <;> omega) (by omega)]
      exact rAdd15_rng A n c l x0 x1 x2 x3 mo f1 f2 cv w h hn hw hf hv hc hm
  · rw [addV_no (e := f1) (by rw [hE]; repeat' split <;> omega) (by omega)]
    exact rAdd15_chk A n c l x0 x1 x2 x3 mo f1 f2 cv w h hn hw hf hv hc
end Go.Proofs.Ytjdpgapmdmpjjaa
