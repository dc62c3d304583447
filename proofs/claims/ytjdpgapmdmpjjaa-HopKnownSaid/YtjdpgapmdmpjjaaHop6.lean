/- hops: a list with one more. Conditions stand in each lemma. -/
import Derived.Test.YtjdpgapmdmpjjaaHop5
set_option linter.unusedVariables false
set_option linter.unusedSimpArgs false
namespace Go.Proofs.Ytjdpgapmdmpjjaa
open Go.RowKit Go.ChangeShapes Go.WideShapes Go.Deep Go.Joins

theorem OwnHop.lower {w : World} {base b' n : Nat} {v : Value} {l : List (Int × Int × Int × Int)} (h : OwnHop w base v n l) (hb : b' ≤ base) : OwnHop w b' v n l := by
  obtain ⟨h1, h2⟩ := h
  refine ⟨h1, ?_⟩
  rcases h2 with h2 | ⟨g, cap, cur, e, hbg, hr⟩
  · exact Or.inl h2
  · exact Or.inr ⟨g, cap, cur, e, by omega, hr⟩
/-- hops handed back, and values behind them -/
def RetHopV (r : List (Int × Int × Int × Int)) (xs : List Value) (w : World) (e : Ending) (w' : World) : Prop := ∃ A c, e = .returned (.tuple (.slice A r.length c :: xs).toArray) ∧ (A = none → c = 0) ∧ OwnHop w' w.heap.size (.slice A r.length c) r.length r ∧ Ext w w'
theorem RetHopV.nil {xs : List Value} {w w' : World} (hx : Ext w w') : RetHopV [] xs w (.returned (.tuple (.slice none 0 0 :: xs).toArray)) w' := ⟨none, 0, rfl, fun _ => rfl, OwnHop.nil _ _, hx⟩
theorem RetHopV.mk {r : List (Int × Int × Int × Int)} {n : Nat} {xs : List Value} {v : Value} {w w' : World} (h : OwnHop w' w.heap.size v n r) (hx : Ext w w') (hn : n = r.length) : RetHopV r xs w (.returned (.tuple (v :: xs).toArray)) w' := by
  subst hn
  obtain ⟨A, c, rfl, h1, h2⟩ := own_parts2 h
  exact ⟨A, c, rfl, h1, h, hx⟩
/-- why a list may not have one more -/
def addE (l : List (Int × Int × Int × Int)) (x : (Int × Int × Int × Int)) (mo : Int) : Int :=
  if (chkH l).1 ≠ 0 then (chkH l).1 else if mayV x l = 3 ∨ mo < 1 ∨ mo > 16 then 3 else if mayV x l ≠ 0 then mayV x l else if mo ≤ cntL l x.1 x.2.1 x.2.2.1 then 22 else if 4096 ≤ l.length then 4 else 0
def addV (l : List (Int × Int × Int × Int)) (x : (Int × Int × Int × Int)) (mo : Int) : List (Int × Int × Int × Int) × Int := if addE l x mo = 0 then (l ++ [x], 0) else ([], addE l x mo)
theorem hopCounts_ex (A : Option Addr) (n c : Nat) (l : List (Int × Int × Int × Int)) (w : World) (h : Sl w 4 A n c (l.flatMap hopC)) (hn : n < 1099511627776) (hw : ∀ x ∈ l, Fits .i64 x.1 ∧ Fits .i64 x.2.1 ∧ Fits .i64 x.2.2.1) :
    Calls Try.prog 91 #[.slice A n c] w fun e w' => ∃ bm, e = .returned (.map (some bm)) ∧ (CntW w' bm n l ∧ Ext w w') := by
  refine (hopCounts_any A n c l w h hn hw).mono ?_
  rintro e w' ⟨h1, h2, h3⟩
  exact ⟨_, h1, h2, h3⟩
/-- what a hop's numbers and a list's are -/
def FitsH (x : (Int × Int × Int × Int)) : Prop := Fits .i64 x.1 ∧ Fits .i64 x.2.1 ∧ Fits .i64 x.2.2.1 ∧ Fits .i64 x.2.2.2
theorem fits_t {l : List (Int × Int × Int × Int)} (h : ∀ x ∈ l, FitsH x) : ∀ x ∈ l, Fits .i64 x.2.2.2 := fun x hx => (h x hx).2.2.2
theorem fits_k {l : List (Int × Int × Int × Int)} (h : ∀ x ∈ l, FitsH x) : ∀ x ∈ l, Fits .i64 x.1 ∧ Fits .i64 x.2.1 ∧ Fits .i64 x.2.2.1 := fun x hx => ⟨(h x hx).1, (h x hx).2.1, (h x hx).2.2.1⟩
theorem fits_x {x0 x1 x2 x3 : Int} (h : FitsH (x0, x1, x2, x3)) : Fits .i64 x0 ∧ Fits .i64 x1 ∧ Fits .i64 x2 ∧ Fits .i64 x3 := h
set_option maxRecDepth 100000 in
set_option maxHeartbeats 4000000 in
theorem hopAdd_chk (A : Option Addr) (n c : Nat) (l : List (Int × Int × Int × Int)) (x0 x1 x2 x3 mo f1 f2 mv cv : Int) (w : World) (h : Sl w 4 A n c (l.flatMap hopC)) (hn : n < 1099511627776) (hw : ∀ x ∈ l, FitsH x) (hfx : FitsH (x0, x1, x2, x3)) (hf : (f1, f2) = chkH l) (hm : mv = mayV (x0, x1, x2, x3) l) (hv : cv = cntL l x0 x1 x2) (hc : f1 ≠ 0) :
    Calls Try.prog 23 #[.slice A n c, .agg #[.int .i64 x0, .int .i64 x1, .int .i64 x2, .int .i64 x3], .int .i64 mo] w (RetHopV [] [.int .i64 f1] w) := by
  have hl := h.rlen hopC_len (by decide)
  have s1 := h.small
  have e0 : (f1 != 0) = true := by simpa using hc
  have HS := Lib.hid h
  have HW := Lib.hid hw
  have HX := Lib.hid hfx
  have HF := Lib.hid hf
  have HM := Lib.hid hm
  have HV := Lib.hid hv
  clear h hw hfx hf hm hv hl
  go_enter Try.func23, Try.ntmps23
  go_wp2_with fail
  (with_reducible refine (hopCheck_ev A n c l f1 f2 _ (HS.out.ext (by repeat (first | with_reducible exact Ext.refl _ | with_reducible refine Ext.drew ?_ | with_reducible refine Ext.drewN ?_ _ | with_reducible refine Ext.alloc ?_ _ | with_reducible refine Ext.setCell ?_ (by first | omega | (simp; done) | (simp; omega)) _))) (fits_t HW.out) HF.out).mono ?_)
  rintro e w1 ⟨rfl, hx1⟩
  have z1 := hx1.size
  try simp at z1
  replace HS := Lib.hid (HS.out.ext (Ext.trans (by repeat (first | with_reducible exact Ext.refl _ | with_reducible refine Ext.drew ?_ | with_reducible refine Ext.drewN ?_ _ | with_reducible refine Ext.alloc ?_ _ | with_reducible refine Ext.setCell ?_ (by first | omega | (simp; done) | (simp; omega)) _)) hx1))
  have X1 : Hid (Ext w w1) := Lib.hid (Ext.trans (by repeat (first | with_reducible exact Ext.refl w | with_reducible refine Ext.drew ?_ | with_reducible refine Ext.drewN ?_ _ | with_reducible refine Ext.alloc ?_ _ | with_reducible refine Ext.setCell ?_ (by first | omega | (simp; done) | (simp; omega)) _)) hx1)
  clear hx1 z1
  go_wp2_with fail
  refine bodyPost_ret (v := .tuple #[.slice none 0 0, .int .i64 f1]) (by simp [results, Try.results23, go_sem, World.cell?_alloc_past]; try rfl) rfl (RetHopV.nil (xs := [.int .i64 f1]) ?_)
  exact (by repeat (first | with_reducible exact X1.out | with_reducible refine Ext.drew ?_ | with_reducible refine Ext.drewN ?_ _ | with_reducible refine Ext.alloc ?_ _ | with_reducible refine Ext.setCell ?_ (by first | omega | (simp; done) | (simp; omega)) _))
set_option maxRecDepth 100000 in
set_option maxHeartbeats 4000000 in
theorem hopAdd_rng (A : Option Addr) (n c : Nat) (l : List (Int × Int × Int × Int)) (x0 x1 x2 x3 mo f1 f2 mv cv : Int) (w : World) (h : Sl w 4 A n c (l.flatMap hopC)) (hn : n < 1099511627776) (hw : ∀ x ∈ l, FitsH x) (hfx : FitsH (x0, x1, x2, x3)) (hf : (f1, f2) = chkH l) (hm : mv = mayV (x0, x1, x2, x3) l) (hv : cv = cntL l x0 x1 x2) (hc : f1 = 0) (h3 : mv = 3) :
    Calls Try.prog 23 #[.slice A n c, .agg #[.int .i64 x0, .int .i64 x1, .int .i64 x2, .int .i64 x3], .int .i64 mo] w (RetHopV [] [.int .i64 3] w) := by
  have hl := h.rlen hopC_len (by decide)
  have s1 := h.small
  subst hc
  subst h3
  have HS := Lib.hid h
  have HW := Lib.hid hw
  have HX := Lib.hid hfx
  have HF := Lib.hid hf
  have HM := Lib.hid hm
  have HV := Lib.hid hv
  clear h hw hfx hf hm hv hl
  go_enter Try.func23, Try.ntmps23
  go_wp2_with fail
  (with_reducible refine (hopCheck_ev A n c l 0 f2 _ (HS.out.ext (by repeat (first | with_reducible exact Ext.refl _ | with_reducible refine Ext.drew ?_ | with_reducible refine Ext.drewN ?_ _ | with_reducible refine Ext.alloc ?_ _ | with_reducible refine Ext.setCell ?_ (by first | omega | (simp; done) | (simp; omega)) _))) (fits_t HW.out) HF.out).mono ?_)
  rintro e w1 ⟨rfl, hx1⟩
  have c0_0 : w1.cell? ⟨w.heap.size, 0, none⟩ = some (.int .i64 x0) := hx1.has (by first | fail | (simp [go_sem, World.cell?_alloc_past]; done))
  have c0_1 : w1.cell? ⟨w.heap.size, 1, none⟩ = some (.int .i64 x1) := hx1.has (by first | fail | (simp [go_sem, World.cell?_alloc_past]; done))
  have c0_2 : w1.cell? ⟨w.heap.size, 2, none⟩ = some (.int .i64 x2) := hx1.has (by first | fail | (simp [go_sem, World.cell?_alloc_past]; done))
  have c0_3 : w1.cell? ⟨w.heap.size, 3, none⟩ = some (.int .i64 x3) := hx1.has (by first | fail | (simp [go_sem, World.cell?_alloc_past]; done))
  have z1 := hx1.size
  try simp at z1
  have rc0 : w.heap.size < w1.heap.size := by omega
  have rc0a : w.heap.size < w1.heap.size + 1 := by omega
  have rc0b : w.heap.size < w1.heap.size + 1 + 1 := by omega
  have rc0c : w.heap.size < w1.heap.size + 1 + 1 + 1 := by omega
  have rc0n : ¬ w.heap.size = w1.heap.size := by omega
  replace HS := Lib.hid (HS.out.ext (Ext.trans (by repeat (first | with_reducible exact Ext.refl _ | with_reducible refine Ext.drew ?_ | with_reducible refine Ext.drewN ?_ _ | with_reducible refine Ext.alloc ?_ _ | with_reducible refine Ext.setCell ?_ (by first | omega | (simp; done) | (simp; omega)) _)) hx1))
  have X1 : Hid (Ext w w1) := Lib.hid (Ext.trans (by repeat (first | with_reducible exact Ext.refl w | with_reducible refine Ext.drew ?_ | with_reducible refine Ext.drewN ?_ _ | with_reducible refine Ext.alloc ?_ _ | with_reducible refine Ext.setCell ?_ (by first | omega | (simp; done) | (simp; omega)) _)) hx1)
  clear hx1 z1
  go_wp2_with fail
  (with_reducible refine (hopMay_ev x0 x1 x2 x3 3 A c n l _ (fits_x HX.out).2.2.2 (HS.out.ext (by repeat (first | with_reducible exact Ext.refl _ | with_reducible refine Ext.drew ?_ | with_reducible refine Ext.drewN ?_ _ | with_reducible refine Ext.alloc ?_ _ | with_reducible refine Ext.setCell ?_ (by first | omega | (simp; done) | (simp; omega)) _))) HM.out).mono ?_)
  rintro e w2 ⟨rfl, hx2⟩
  have z2 := hx2.size
  try simp at z2
  replace HS := Lib.hid (HS.out.ext (Ext.trans (by repeat (first | with_reducible exact Ext.refl _ | with_reducible refine Ext.drew ?_ | with_reducible refine Ext.drewN ?_ _ | with_reducible refine Ext.alloc ?_ _ | with_reducible refine Ext.setCell ?_ (by first | omega | (simp; done) | (simp; omega)) _)) hx2))
  have X2 : Hid (Ext w w2) := Lib.hid (Ext.trans (by repeat (first | with_reducible exact X1.out | with_reducible refine Ext.drew ?_ | with_reducible refine Ext.drewN ?_ _ | with_reducible refine Ext.alloc ?_ _ | with_reducible refine Ext.setCell ?_ (by first | omega | (simp; done) | (simp; omega)) _)) hx2)
  clear c0_0 c0_1 c0_3 c0_2 rc0 rc0a rc0b rc0c rc0n X1 hx2 z2
  go_wp2_with fail
  refine bodyPost_ret (v := .tuple #[.slice none 0 0, .int .i64 3]) (by simp [results, Try.results23, go_sem, World.cell?_alloc_past]; try rfl) rfl (RetHopV.nil (xs := [.int .i64 3]) ?_)
  exact (by repeat (first | with_reducible exact X2.out | with_reducible refine Ext.drew ?_ | with_reducible refine Ext.drewN ?_ _ | with_reducible refine Ext.alloc ?_ _ | with_reducible refine Ext.setCell ?_ (by first | omega | (simp; done) | (simp; omega)) _))
set_option maxRecDepth 100000 in
set_option maxHeartbeats 4000000 in
theorem hopAdd_lo (A : Option Addr) (n c : Nat) (l : List (Int × Int × Int × Int)) (x0 x1 x2 x3 mo f1 f2 mv cv : Int) (w : World) (h : Sl w 4 A n c (l.flatMap hopC)) (hn : n < 1099511627776) (hw : ∀ x ∈ l, FitsH x) (hfx : FitsH (x0, x1, x2, x3)) (hf : (f1, f2) = chkH l) (hm : mv = mayV (x0, x1, x2, x3) l) (hv : cv = cntL l x0 x1 x2) (hc : f1 = 0) (h3 : mv ≠ 3) (h4 : mo < 1) :
    Calls Try.prog 23 #[.slice A n c, .agg #[.int .i64 x0, .int .i64 x1, .int .i64 x2, .int .i64 x3], .int .i64 mo] w (RetHopV [] [.int .i64 3] w) := by
  have hl := h.rlen hopC_len (by decide)
  have s1 := h.small
  subst hc
  have e3 : (mv == 3) = false := by simpa using h3
  have HS := Lib.hid h
  have HW := Lib.hid hw
  have HX := Lib.hid hfx
  have HF := Lib.hid hf
  have HM := Lib.hid hm
  have HV := Lib.hid hv
  clear h hw hfx hf hm hv hl
  go_enter Try.func23, Try.ntmps23
  go_wp2_with fail
  (with_reducible refine (hopCheck_ev A n c l 0 f2 _ (HS.out.ext (by repeat (first | with_reducible exact Ext.refl _ | with_reducible refine Ext.drew ?_ | with_reducible refine Ext.drewN ?_ _ | with_reducible refine Ext.alloc ?_ _ | with_reducible refine Ext.setCell ?_ (by first | omega | (simp; done) | (simp; omega)) _))) (fits_t HW.out) HF.out).mono ?_)
  rintro e w1 ⟨rfl, hx1⟩
  have c0_0 : w1.cell? ⟨w.heap.size, 0, none⟩ = some (.int .i64 x0) := hx1.has (by first | fail | (simp [go_sem, World.cell?_alloc_past]; done))
  have c0_1 : w1.cell? ⟨w.heap.size, 1, none⟩ = some (.int .i64 x1) := hx1.has (by first | fail | (simp [go_sem, World.cell?_alloc_past]; done))
  have c0_2 : w1.cell? ⟨w.heap.size, 2, none⟩ = some (.int .i64 x2) := hx1.has (by first | fail | (simp [go_sem, World.cell?_alloc_past]; done))
  have c0_3 : w1.cell? ⟨w.heap.size, 3, none⟩ = some (.int .i64 x3) := hx1.has (by first | fail | (simp [go_sem, World.cell?_alloc_past]; done))
  have z1 := hx1.size
  try simp at z1
  have rc0 : w.heap.size < w1.heap.size := by omega
  have rc0a : w.heap.size < w1.heap.size + 1 := by omega
  have rc0b : w.heap.size < w1.heap.size + 1 + 1 := by omega
  have rc0c : w.heap.size < w1.heap.size + 1 + 1 + 1 := by omega
  have rc0n : ¬ w.heap.size = w1.heap.size := by omega
  replace HS := Lib.hid (HS.out.ext (Ext.trans (by repeat (first | with_reducible exact Ext.refl _ | with_reducible refine Ext.drew ?_ | with_reducible refine Ext.drewN ?_ _ | with_reducible refine Ext.alloc ?_ _ | with_reducible refine Ext.setCell ?_ (by first | omega | (simp; done) | (simp; omega)) _)) hx1))
  have X1 : Hid (Ext w w1) := Lib.hid (Ext.trans (by repeat (first | with_reducible exact Ext.refl w | with_reducible refine Ext.drew ?_ | with_reducible refine Ext.drewN ?_ _ | with_reducible refine Ext.alloc ?_ _ | with_reducible refine Ext.setCell ?_ (by first | omega | (simp; done) | (simp; omega)) _)) hx1)
  clear hx1 z1
  go_wp2_with fail
  (with_reducible refine (hopMay_ev x0 x1 x2 x3 mv A c n l _ (fits_x HX.out).2.2.2 (HS.out.ext (by repeat (first | with_reducible exact Ext.refl _ | with_reducible refine Ext.drew ?_ | with_reducible refine Ext.drewN ?_ _ | with_reducible refine Ext.alloc ?_ _ | with_reducible refine Ext.setCell ?_ (by first | omega | (simp; done) | (simp; omega)) _))) HM.out).mono ?_)
  rintro e w2 ⟨rfl, hx2⟩
  have z2 := hx2.size
  try simp at z2
  replace HS := Lib.hid (HS.out.ext (Ext.trans (by repeat (first | with_reducible exact Ext.refl _ | with_reducible refine Ext.drew ?_ | with_reducible refine Ext.drewN ?_ _ | with_reducible refine Ext.alloc ?_ _ | with_reducible refine Ext.setCell ?_ (by first | omega | (simp; done) | (simp; omega)) _)) hx2))
  have X2 : Hid (Ext w w2) := Lib.hid (Ext.trans (by repeat (first | with_reducible exact X1.out | with_reducible refine Ext.drew ?_ | with_reducible refine Ext.drewN ?_ _ | with_reducible refine Ext.alloc ?_ _ | with_reducible refine Ext.setCell ?_ (by first | omega | (simp; done) | (simp; omega)) _)) hx2)
  clear c0_0 c0_1 c0_3 c0_2 rc0 rc0a rc0b rc0c rc0n X1 hx2 z2
  go_wp2_with fail
  refine bodyPost_ret (v := .tuple #[.slice none 0 0, .int .i64 3]) (by simp [results, Try.results23, go_sem, World.cell?_alloc_past]; try rfl) rfl (RetHopV.nil (xs := [.int .i64 3]) ?_)
  exact (by repeat (first | with_reducible exact X2.out | with_reducible refine Ext.drew ?_ | with_reducible refine Ext.drewN ?_ _ | with_reducible refine Ext.alloc ?_ _ | with_reducible refine Ext.setCell ?_ (by first | omega | (simp; done) | (simp; omega)) _))
set_option maxRecDepth 100000 in
set_option maxHeartbeats 4000000 in
theorem hopAdd_hi (A : Option Addr) (n c : Nat) (l : List (Int × Int × Int × Int)) (x0 x1 x2 x3 mo f1 f2 mv cv : Int) (w : World) (h : Sl w 4 A n c (l.flatMap hopC)) (hn : n < 1099511627776) (hw : ∀ x ∈ l, FitsH x) (hfx : FitsH (x0, x1, x2, x3)) (hf : (f1, f2) = chkH l) (hm : mv = mayV (x0, x1, x2, x3) l) (hv : cv = cntL l x0 x1 x2) (hc : f1 = 0) (h3 : mv ≠ 3) (h4 : ¬ mo < 1) (h5 : mo > 16) :
    Calls Try.prog 23 #[.slice A n c, .agg #[.int .i64 x0, .int .i64 x1, .int .i64 x2, .int .i64 x3], .int .i64 mo] w (RetHopV [] [.int .i64 3] w) := by
  have hl := h.rlen hopC_len (by decide)
  have s1 := h.small
  subst hc
  have e3 : (mv == 3) = false := by simpa using h3
  have HS := Lib.hid h
  have HW := Lib.hid hw
  have HX := Lib.hid hfx
  have HF := Lib.hid hf
  have HM := Lib.hid hm
  have HV := Lib.hid hv
  clear h hw hfx hf hm hv hl
  go_enter Try.func23, Try.ntmps23
  go_wp2_with fail
  (with_reducible refine (hopCheck_ev A n c l 0 f2 _ (HS.out.ext (by repeat (first | with_reducible exact Ext.refl _ | with_reducible refine Ext.drew ?_ | with_reducible refine Ext.drewN ?_ _ | with_reducible refine Ext.alloc ?_ _ | with_reducible refine Ext.setCell ?_ (by first | omega | (simp; done) | (simp; omega)) _))) (fits_t HW.out) HF.out).mono ?_)
  rintro e w1 ⟨rfl, hx1⟩
  have c0_0 : w1.cell? ⟨w.heap.size, 0, none⟩ = some (.int .i64 x0) := hx1.has (by first | fail | (simp [go_sem, World.cell?_alloc_past]; done))
  have c0_1 : w1.cell? ⟨w.heap.size, 1, none⟩ = some (.int .i64 x1) := hx1.has (by first | fail | (simp [go_sem, World.cell?_alloc_past]; done))
  have c0_2 : w1.cell? ⟨w.heap.size, 2, none⟩ = some (.int .i64 x2) := hx1.has (by first | fail | (simp [go_sem, World.cell?_alloc_past]; done))
  have c0_3 : w1.cell? ⟨w.heap.size, 3, none⟩ = some (.int .i64 x3) := hx1.has (by first | fail | (simp [go_sem, World.cell?_alloc_past]; done))
  have z1 := hx1.size
  try simp at z1
  have rc0 : w.heap.size < w1.heap.size := by omega
  have rc0a : w.heap.size < w1.heap.size + 1 := by omega
  have rc0b : w.heap.size < w1.heap.size + 1 + 1 := by omega
  have rc0c : w.heap.size < w1.heap.size + 1 + 1 + 1 := by omega
  have rc0n : ¬ w.heap.size = w1.heap.size := by omega
  replace HS := Lib.hid (HS.out.ext (Ext.trans (by repeat (first | with_reducible exact Ext.refl _ | with_reducible refine Ext.drew ?_ | with_reducible refine Ext.drewN ?_ _ | with_reducible refine Ext.alloc ?_ _ | with_reducible refine Ext.setCell ?_ (by first | omega | (simp; done) | (simp; omega)) _)) hx1))
  have X1 : Hid (Ext w w1) := Lib.hid (Ext.trans (by repeat (first | with_reducible exact Ext.refl w | with_reducible refine Ext.drew ?_ | with_reducible refine Ext.drewN ?_ _ | with_reducible refine Ext.alloc ?_ _ | with_reducible refine Ext.setCell ?_ (by first | omega | (simp; done) | (simp; omega)) _)) hx1)
  clear hx1 z1
  go_wp2_with fail
  (with_reducible refine (hopMay_ev x0 x1 x2 x3 mv A c n l _ (fits_x HX.out).2.2.2 (HS.out.ext (by repeat (first | with_reducible exact Ext.refl _ | with_reducible refine Ext.drew ?_ | with_reducible refine Ext.drewN ?_ _ | with_reducible refine Ext.alloc ?_ _ | with_reducible refine Ext.setCell ?_ (by first | omega | (simp; done) | (simp; omega)) _))) HM.out).mono ?_)
  rintro e w2 ⟨rfl, hx2⟩
  have z2 := hx2.size
  try simp at z2
  replace HS := Lib.hid (HS.out.ext (Ext.trans (by repeat (first | with_reducible exact Ext.refl _ | with_reducible refine Ext.drew ?_ | with_reducible refine Ext.drewN ?_ _ | with_reducible refine Ext.alloc ?_ _ | with_reducible refine Ext.setCell ?_ (by first | omega | (simp; done) | (simp; omega)) _)) hx2))
  have X2 : Hid (Ext w w2) := Lib.hid (Ext.trans (by repeat (first | with_reducible exact X1.out | with_reducible refine Ext.drew ?_ | with_reducible refine Ext.drewN ?_ _ | with_reducible refine Ext.alloc ?_ _ | with_reducible refine Ext.setCell ?_ (by first | omega | (simp; done) | (simp; omega)) _)) hx2)
  clear c0_0 c0_1 c0_3 c0_2 rc0 rc0a rc0b rc0c rc0n X1 hx2 z2
  go_wp2_with fail
  refine bodyPost_ret (v := .tuple #[.slice none 0 0, .int .i64 3]) (by simp [results, Try.results23, go_sem, World.cell?_alloc_past]; try rfl) rfl (RetHopV.nil (xs := [.int .i64 3]) ?_)
  exact (by repeat (first | with_reducible exact X2.out | with_reducible refine Ext.drew ?_ | with_reducible refine Ext.drewN ?_ _ | with_reducible refine Ext.alloc ?_ _ | with_reducible refine Ext.setCell ?_ (by first | omega | (simp; done) | (simp; omega)) _))
set_option maxRecDepth 100000 in
set_option maxHeartbeats 4000000 in
theorem hopAdd_bad (A : Option Addr) (n c : Nat) (l : List (Int × Int × Int × Int)) (x0 x1 x2 x3 mo f1 f2 mv cv : Int) (w : World) (h : Sl w 4 A n c (l.flatMap hopC)) (hn : n < 1099511627776) (hw : ∀ x ∈ l, FitsH x) (hfx : FitsH (x0, x1, x2, x3)) (hf : (f1, f2) = chkH l) (hm : mv = mayV (x0, x1, x2, x3) l) (hv : cv = cntL l x0 x1 x2) (hc : f1 = 0) (h3 : mv ≠ 3) (h4 : ¬ mo < 1) (h5 : ¬ mo > 16) (h6 : mv ≠ 0) :
    Calls Try.prog 23 #[.slice A n c, .agg #[.int .i64 x0, .int .i64 x1, .int .i64 x2, .int .i64 x3], .int .i64 mo] w (RetHopV [] [.int .i64 mv] w) := by
  have hl := h.rlen hopC_len (by decide)
  have s1 := h.small
  subst hc
  have e3 : (mv == 3) = false := by simpa using h3
  have e6 : (mv != 0) = true := by simpa using h6
  have HS := Lib.hid h
  have HW := Lib.hid hw
  have HX := Lib.hid hfx
  have HF := Lib.hid hf
  have HM := Lib.hid hm
  have HV := Lib.hid hv
  clear h hw hfx hf hm hv hl
  go_enter Try.func23, Try.ntmps23
  go_wp2_with fail
  (with_reducible refine (hopCheck_ev A n c l 0 f2 _ (HS.out.ext (by repeat (first | with_reducible exact Ext.refl _ | with_reducible refine Ext.drew ?_ | with_reducible refine Ext.drewN ?_ _ | with_reducible refine Ext.alloc ?_ _ | with_reducible refine Ext.setCell ?_ (by first | omega | (simp; done) | (simp; omega)) _))) (fits_t HW.out) HF.out).mono ?_)
  rintro e w1 ⟨rfl, hx1⟩
  have c0_0 : w1.cell? ⟨w.heap.size, 0, none⟩ = some (.int .i64 x0) := hx1.has (by first | fail | (simp [go_sem, World.cell?_alloc_past]; done))
  have c0_1 : w1.cell? ⟨w.heap.size, 1, none⟩ = some (.int .i64 x1) := hx1.has (by first | fail | (simp [go_sem, World.cell?_alloc_past]; done))
  have c0_2 : w1.cell? ⟨w.heap.size, 2, none⟩ = some (.int .i64 x2) := hx1.has (by first | fail | (simp [go_sem, World.cell?_alloc_past]; done))
  have c0_3 : w1.cell? ⟨w.heap.size, 3, none⟩ = some (.int .i64 x3) := hx1.has (by first | fail | (simp [go_sem, World.cell?_alloc_past]; done))
  have z1 := hx1.size
  try simp at z1
  have rc0 : w.heap.size < w1.heap.size := by omega
  have rc0a : w.heap.size < w1.heap.size + 1 := by omega
  have rc0b : w.heap.size < w1.heap.size + 1 + 1 := by omega
  have rc0c : w.heap.size < w1.heap.size + 1 + 1 + 1 := by omega
  have rc0n : ¬ w.heap.size = w1.heap.size := by omega
  replace HS := Lib.hid (HS.out.ext (Ext.trans (by repeat (first | with_reducible exact Ext.refl _ | with_reducible refine Ext.drew ?_ | with_reducible refine Ext.drewN ?_ _ | with_reducible refine Ext.alloc ?_ _ | with_reducible refine Ext.setCell ?_ (by first | omega | (simp; done) | (simp; omega)) _)) hx1))
  have X1 : Hid (Ext w w1) := Lib.hid (Ext.trans (by repeat (first | with_reducible exact Ext.refl w | with_reducible refine Ext.drew ?_ | with_reducible refine Ext.drewN ?_ _ | with_reducible refine Ext.alloc ?_ _ | with_reducible refine Ext.setCell ?_ (by first | omega | (simp; done) | (simp; omega)) _)) hx1)
  clear hx1 z1
  go_wp2_with fail
  (with_reducible refine (hopMay_ev x0 x1 x2 x3 mv A c n l _ (fits_x HX.out).2.2.2 (HS.out.ext (by repeat (first | with_reducible exact Ext.refl _ | with_reducible refine Ext.drew ?_ | with_reducible refine Ext.drewN ?_ _ | with_reducible refine Ext.alloc ?_ _ | with_reducible refine Ext.setCell ?_ (by first | omega | (simp; done) | (simp; omega)) _))) HM.out).mono ?_)
  rintro e w2 ⟨rfl, hx2⟩
  have z2 := hx2.size
  try simp at z2
  replace HS := Lib.hid (HS.out.ext (Ext.trans (by repeat (first | with_reducible exact Ext.refl _ | with_reducible refine Ext.drew ?_ | with_reducible refine Ext.drewN ?_ _ | with_reducible refine Ext.alloc ?_ _ | with_reducible refine Ext.setCell ?_ (by first | omega | (simp; done) | (simp; omega)) _)) hx2))
  have X2 : Hid (Ext w w2) := Lib.hid (Ext.trans (by repeat (first | with_reducible exact X1.out | with_reducible refine Ext.drew ?_ | with_reducible refine Ext.drewN ?_ _ | with_reducible refine Ext.alloc ?_ _ | with_reducible refine Ext.setCell ?_ (by first | omega | (simp; done) | (simp; omega)) _)) hx2)
  clear c0_0 c0_1 c0_3 c0_2 rc0 rc0a rc0b rc0c rc0n X1 hx2 z2
  go_wp2_with fail
  refine bodyPost_ret (v := .tuple #[.slice none 0 0, .int .i64 mv]) (by simp [results, Try.results23, go_sem, World.cell?_alloc_past]; try rfl) rfl (RetHopV.nil (xs := [.int .i64 mv]) ?_)
  exact (by repeat (first | with_reducible exact X2.out | with_reducible refine Ext.drew ?_ | with_reducible refine Ext.drewN ?_ _ | with_reducible refine Ext.alloc ?_ _ | with_reducible refine Ext.setCell ?_ (by first | omega | (simp; done) | (simp; omega)) _))
set_option maxRecDepth 100000 in
set_option maxHeartbeats 4000000 in
theorem hopAdd_cap (A : Option Addr) (n c : Nat) (l : List (Int × Int × Int × Int)) (x0 x1 x2 x3 mo f1 f2 mv cv : Int) (w : World) (h : Sl w 4 A n c (l.flatMap hopC)) (hn : n < 1099511627776) (hw : ∀ x ∈ l, FitsH x) (hfx : FitsH (x0, x1, x2, x3)) (hf : (f1, f2) = chkH l) (hm : mv = mayV (x0, x1, x2, x3) l) (hv : cv = cntL l x0 x1 x2) (hc : f1 = 0) (h3 : mv ≠ 3) (h4 : ¬ mo < 1) (h5 : ¬ mo > 16) (h6 : mv = 0) (h7 : cv ≥ mo) :
    Calls Try.prog 23 #[.slice A n c, .agg #[.int .i64 x0, .int .i64 x1, .int .i64 x2, .int .i64 x3], .int .i64 mo] w (RetHopV [] [.int .i64 22] w) := by
  have hl := h.rlen hopC_len (by decide)
  have s1 := h.small
  subst hc
  subst h6
  have HS := Lib.hid h
  have HW := Lib.hid hw
  have HX := Lib.hid hfx
  have HF := Lib.hid hf
  have HM := Lib.hid hm
  have HV := Lib.hid hv
  clear h hw hfx hf hm hv hl
  go_enter Try.func23, Try.ntmps23
  go_wp2_with fail
  (with_reducible refine (hopCheck_ev A n c l 0 f2 _ (HS.out.ext (by repeat (first | with_reducible exact Ext.refl _ | with_reducible refine Ext.drew ?_ | with_reducible refine Ext.drewN ?_ _ | with_reducible refine Ext.alloc ?_ _ | with_reducible refine Ext.setCell ?_ (by first | omega | (simp; done) | (simp; omega)) _))) (fits_t HW.out) HF.out).mono ?_)
  rintro e w1 ⟨rfl, hx1⟩
  have c0_0 : w1.cell? ⟨w.heap.size, 0, none⟩ = some (.int .i64 x0) := hx1.has (by first | fail | (simp [go_sem, World.cell?_alloc_past]; done))
  have c0_1 : w1.cell? ⟨w.heap.size, 1, none⟩ = some (.int .i64 x1) := hx1.has (by first | fail | (simp [go_sem, World.cell?_alloc_past]; done))
  have c0_2 : w1.cell? ⟨w.heap.size, 2, none⟩ = some (.int .i64 x2) := hx1.has (by first | fail | (simp [go_sem, World.cell?_alloc_past]; done))
  have c0_3 : w1.cell? ⟨w.heap.size, 3, none⟩ = some (.int .i64 x3) := hx1.has (by first | fail | (simp [go_sem, World.cell?_alloc_past]; done))
  have z1 := hx1.size
  try simp at z1
  have rc0 : w.heap.size < w1.heap.size := by omega
  have rc0a : w.heap.size < w1.heap.size + 1 := by omega
  have rc0b : w.heap.size < w1.heap.size + 1 + 1 := by omega
  have rc0c : w.heap.size < w1.heap.size + 1 + 1 + 1 := by omega
  have rc0n : ¬ w.heap.size = w1.heap.size := by omega
  replace HS := Lib.hid (HS.out.ext (Ext.trans (by repeat (first | with_reducible exact Ext.refl _ | with_reducible refine Ext.drew ?_ | with_reducible refine Ext.drewN ?_ _ | with_reducible refine Ext.alloc ?_ _ | with_reducible refine Ext.setCell ?_ (by first | omega | (simp; done) | (simp; omega)) _)) hx1))
  have X1 : Hid (Ext w w1) := Lib.hid (Ext.trans (by repeat (first | with_reducible exact Ext.refl w | with_reducible refine Ext.drew ?_ | with_reducible refine Ext.drewN ?_ _ | with_reducible refine Ext.alloc ?_ _ | with_reducible refine Ext.setCell ?_ (by first | omega | (simp; done) | (simp; omega)) _)) hx1)
  clear hx1 z1
  go_wp2_with fail
  (with_reducible refine (hopMay_ev x0 x1 x2 x3 0 A c n l _ (fits_x HX.out).2.2.2 (HS.out.ext (by repeat (first | with_reducible exact Ext.refl _ | with_reducible refine Ext.drew ?_ | with_reducible refine Ext.drewN ?_ _ | with_reducible refine Ext.alloc ?_ _ | with_reducible refine Ext.setCell ?_ (by first | omega | (simp; done) | (simp; omega)) _))) HM.out).mono ?_)
  rintro e w2 ⟨rfl, hx2⟩
  replace c0_0 : w2.cell? ⟨w.heap.size, 0, none⟩ = some (.int .i64 x0) := hx2.has (by first | exact c0_0 | (simp [go_sem, World.cell?_alloc_past, c0_0, c0_1, c0_2, c0_3, rc0, rc0a, rc0b, rc0c, rc0n]; done))
  replace c0_1 : w2.cell? ⟨w.heap.size, 1, none⟩ = some (.int .i64 x1) := hx2.has (by first | exact c0_1 | (simp [go_sem, World.cell?_alloc_past, c0_0, c0_1, c0_2, c0_3, rc0, rc0a, rc0b, rc0c, rc0n]; done))
  replace c0_2 : w2.cell? ⟨w.heap.size, 2, none⟩ = some (.int .i64 x2) := hx2.has (by first | exact c0_2 | (simp [go_sem, World.cell?_alloc_past, c0_0, c0_1, c0_2, c0_3, rc0, rc0a, rc0b, rc0c, rc0n]; done))
  replace c0_3 : w2.cell? ⟨w.heap.size, 3, none⟩ = some (.int .i64 x3) := hx2.has (by first | exact c0_3 | (simp [go_sem, World.cell?_alloc_past, c0_0, c0_1, c0_2, c0_3, rc0, rc0a, rc0b, rc0c, rc0n]; done))
  have z2 := hx2.size
  try simp at z2
  replace rc0 : w.heap.size < w2.heap.size := by omega
  replace rc0a : w.heap.size < w2.heap.size + 1 := by omega
  replace rc0b : w.heap.size < w2.heap.size + 1 + 1 := by omega
  replace rc0c : w.heap.size < w2.heap.size + 1 + 1 + 1 := by omega
  replace rc0n : ¬ w.heap.size = w2.heap.size := by omega
  replace HS := Lib.hid (HS.out.ext (Ext.trans (by repeat (first | with_reducible exact Ext.refl _ | with_reducible refine Ext.drew ?_ | with_reducible refine Ext.drewN ?_ _ | with_reducible refine Ext.alloc ?_ _ | with_reducible refine Ext.setCell ?_ (by first | omega | (simp; done) | (simp; omega)) _)) hx2))
  have X2 : Hid (Ext w w2) := Lib.hid (Ext.trans (by repeat (first | with_reducible exact X1.out | with_reducible refine Ext.drew ?_ | with_reducible refine Ext.drewN ?_ _ | with_reducible refine Ext.alloc ?_ _ | with_reducible refine Ext.setCell ?_ (by first | omega | (simp; done) | (simp; omega)) _)) hx2)
  clear X1 hx2 z2
  go_wp2_with fail
  refine wp_region_held_drew (S := fun w' => w'.cell? ⟨w.heap.size, 0, none⟩ = some (.int .i64 x0) ∧ w'.cell? ⟨w.heap.size, 1, none⟩ = some (.int .i64 x1) ∧ w'.cell? ⟨w.heap.size, 2, none⟩ = some (.int .i64 x2) ∧ w'.cell? ⟨w.heap.size, 3, none⟩ = some (.int .i64 x3)) (by kernel_rfl) (by first | exact ⟨c0_0, c0_1, c0_2, c0_3⟩ | (simp [go_sem, World.cell?_alloc_past, c0_0, c0_1, c0_2, c0_3, rc0, rc0a, rc0b, rc0c, rc0n]; done)) (fun hHeld => ?_)
  (refine' take_in 0 rfl (by kernel_rfl) (by kernel_rfl) (by kernel_rfl) (fun _ _ _ h => h) (by rfl) (by assumption) ?_ ?_; rotate_left; focus (intro w hSw; (try dsimp only at hSw); go_simp; try with_reducible rfl)); try simp only [Act.put, List.setIfInBounds_toArray, List.set_cons_zero, List.set_cons_succ]
  (refine' take_in 2 rfl (by kernel_rfl) (by kernel_rfl) (by kernel_rfl) (fun _ _ _ h => h) (by rfl) (by assumption) ?_ ?_; rotate_left; focus (intro w hSw; (try dsimp only at hSw); go_simp; try with_reducible rfl)); try simp only [Act.put, List.setIfInBounds_toArray, List.set_cons_zero, List.set_cons_succ]
  (refine' take_in 5 rfl (by kernel_rfl) (by kernel_rfl) (by kernel_rfl) (fun _ _ _ h => h) (by rfl) (by assumption) ?_ ?_; rotate_left; focus (intro w hSw; (try dsimp only at hSw); go_simp; try with_reducible rfl)); try simp only [Act.put, List.setIfInBounds_toArray, List.set_cons_zero, List.set_cons_succ]
  refine' next_in 1 rfl (by kernel_rfl) (by rfl) (fun K hK => ?_)
  go_simp
  (with_reducible refine (hopCounts_ex A n c l _ (HS.out.ext (by repeat (first | with_reducible exact Ext.refl _ | with_reducible refine Ext.drew ?_ | with_reducible refine Ext.drewN ?_ _ | with_reducible refine Ext.alloc ?_ _ | with_reducible refine Ext.setCell ?_ (by first | omega | (simp; done) | (simp; omega)) _))) hn (fits_k HW.out)).mono ?_)
  rintro e w3 ⟨bm, rfl, hC, hx3⟩
  replace c0_0 : w3.cell? ⟨w.heap.size, 0, none⟩ = some (.int .i64 x0) := hx3.has (by first | exact c0_0 | (simp [go_sem, World.cell?_alloc_past, c0_0, c0_1, c0_2, c0_3, rc0, rc0a, rc0b, rc0c, rc0n]; done))
  replace c0_1 : w3.cell? ⟨w.heap.size, 1, none⟩ = some (.int .i64 x1) := hx3.has (by first | exact c0_1 | (simp [go_sem, World.cell?_alloc_past, c0_0, c0_1, c0_2, c0_3, rc0, rc0a, rc0b, rc0c, rc0n]; done))
  replace c0_2 : w3.cell? ⟨w.heap.size, 2, none⟩ = some (.int .i64 x2) := hx3.has (by first | exact c0_2 | (simp [go_sem, World.cell?_alloc_past, c0_0, c0_1, c0_2, c0_3, rc0, rc0a, rc0b, rc0c, rc0n]; done))
  replace c0_3 : w3.cell? ⟨w.heap.size, 3, none⟩ = some (.int .i64 x3) := hx3.has (by first | exact c0_3 | (simp [go_sem, World.cell?_alloc_past, c0_0, c0_1, c0_2, c0_3, rc0, rc0a, rc0b, rc0c, rc0n]; done))
  have z3 := hx3.size
  try simp at z3
  replace rc0 : w.heap.size < w3.heap.size := by omega
  replace rc0a : w.heap.size < w3.heap.size + 1 := by omega
  replace rc0b : w.heap.size < w3.heap.size + 1 + 1 := by omega
  replace rc0c : w.heap.size < w3.heap.size + 1 + 1 + 1 := by omega
  replace rc0n : ¬ w.heap.size = w3.heap.size := by omega
  replace HS := Lib.hid (HS.out.ext (Ext.trans (by repeat (first | with_reducible exact Ext.refl _ | with_reducible refine Ext.drew ?_ | with_reducible refine Ext.drewN ?_ _ | with_reducible refine Ext.alloc ?_ _ | with_reducible refine Ext.setCell ?_ (by first | omega | (simp; done) | (simp; omega)) _)) hx3))
  have X3 : Hid (Ext w w3) := Lib.hid (Ext.trans (by repeat (first | with_reducible exact X2.out | with_reducible refine Ext.drew ?_ | with_reducible refine Ext.drewN ?_ _ | with_reducible refine Ext.alloc ?_ _ | with_reducible refine Ext.setCell ?_ (by first | omega | (simp; done) | (simp; omega)) _)) hx3)
  have HC := Lib.hid hC
  clear X2 hx3 z3 hC
  refine hK.out _ _ (by (first | exact ⟨c0_0, c0_1, c0_2, c0_3⟩ | (simp [go_sem, World.cell?_alloc_past, c0_0, c0_1, c0_2, c0_3, rc0, rc0a, rc0b, rc0c, rc0n]; done))) (fun hHeld => ?_); clear hK K; try simp only [Act.put, List.setIfInBounds_toArray, List.set_cons_zero, List.set_cons_succ]
  refine' next_in 3 rfl (by kernel_rfl) (by rfl) (fun K hK => ?_)
  go_simp
  (with_reducible refine (hopOf_any x0 x1 x2 x3 _).mono ?_)
  rintro e w4 ⟨rfl, hx4⟩
  replace c0_0 : w4.cell? ⟨w.heap.size, 0, none⟩ = some (.int .i64 x0) := hx4.has (by first | exact c0_0 | (simp [go_sem, World.cell?_alloc_past, c0_0, c0_1, c0_2, c0_3, rc0, rc0a, rc0b, rc0c, rc0n]; done))
  replace c0_1 : w4.cell? ⟨w.heap.size, 1, none⟩ = some (.int .i64 x1) := hx4.has (by first | exact c0_1 | (simp [go_sem, World.cell?_alloc_past, c0_0, c0_1, c0_2, c0_3, rc0, rc0a, rc0b, rc0c, rc0n]; done))
  replace c0_2 : w4.cell? ⟨w.heap.size, 2, none⟩ = some (.int .i64 x2) := hx4.has (by first | exact c0_2 | (simp [go_sem, World.cell?_alloc_past, c0_0, c0_1, c0_2, c0_3, rc0, rc0a, rc0b, rc0c, rc0n]; done))
  replace c0_3 : w4.cell? ⟨w.heap.size, 3, none⟩ = some (.int .i64 x3) := hx4.has (by first | exact c0_3 | (simp [go_sem, World.cell?_alloc_past, c0_0, c0_1, c0_2, c0_3, rc0, rc0a, rc0b, rc0c, rc0n]; done))
  have z4 := hx4.size
  try simp at z4
  replace rc0 : w.heap.size < w4.heap.size := by omega
  replace rc0a : w.heap.size < w4.heap.size + 1 := by omega
  replace rc0b : w.heap.size < w4.heap.size + 1 + 1 := by omega
  replace rc0c : w.heap.size < w4.heap.size + 1 + 1 + 1 := by omega
  replace rc0n : ¬ w.heap.size = w4.heap.size := by omega
  replace HS := Lib.hid (HS.out.ext (Ext.trans (by repeat (first | with_reducible exact Ext.refl _ | with_reducible refine Ext.drew ?_ | with_reducible refine Ext.drewN ?_ _ | with_reducible refine Ext.alloc ?_ _ | with_reducible refine Ext.setCell ?_ (by first | omega | (simp; done) | (simp; omega)) _)) hx4))
  replace HC := Lib.hid (HC.out.ext (Ext.trans (by repeat (first | with_reducible exact Ext.refl _ | with_reducible refine Ext.drew ?_ | with_reducible refine Ext.drewN ?_ _ | with_reducible refine Ext.alloc ?_ _ | with_reducible refine Ext.setCell ?_ (by first | omega | (simp; done) | (simp; omega)) _)) hx4))
  have X4 : Hid (Ext w w4) := Lib.hid (Ext.trans (by repeat (first | with_reducible exact X3.out | with_reducible refine Ext.drew ?_ | with_reducible refine Ext.drewN ?_ _ | with_reducible refine Ext.alloc ?_ _ | with_reducible refine Ext.setCell ?_ (by first | omega | (simp; done) | (simp; omega)) _)) hx4)
  clear X3 hx4 z4
  have hrun4 := CntW.look HC.out (keyW_wf (fits_x HX.out).1) (keyW_wf (fits_x HX.out).2.1) (keyW_wf (fits_x HX.out).2.2.1)
  rw [← HV.out] at hrun4
  refine hK.out _ _ (by (first | exact ⟨c0_0, c0_1, c0_2, c0_3⟩ | (simp [go_sem, World.cell?_alloc_past, c0_0, c0_1, c0_2, c0_3, rc0, rc0a, rc0b, rc0c, rc0n]; done))) (fun hHeld => ?_); clear hK K; try simp only [Act.put, List.setIfInBounds_toArray, List.set_cons_zero, List.set_cons_succ]
  refine' next_in 4 rfl (by kernel_rfl) (by rfl) (fun K hK => ?_)
  go_simp
  refine hK.out _ _ (by (first | exact ⟨c0_0, c0_1, c0_2, c0_3⟩ | (simp [go_sem, World.cell?_alloc_past, c0_0, c0_1, c0_2, c0_3, rc0, rc0a, rc0b, rc0c, rc0n]; done))) (fun hHeld => ?_); clear hK K; try simp only [Act.put, List.setIfInBounds_toArray, List.set_cons_zero, List.set_cons_succ]
  (refine' take_in 6 rfl (by kernel_rfl) (by kernel_rfl) (by kernel_rfl) (fun _ _ _ h => h) (by rfl) (by assumption) ?_ ?_; rotate_left; focus (intro w hSw; (try dsimp only at hSw); go_simp; try with_reducible rfl)); try simp only [Act.put, List.setIfInBounds_toArray, List.set_cons_zero, List.set_cons_succ]
  (refine' take_in 7 rfl (by kernel_rfl) (by kernel_rfl) (by kernel_rfl) (fun _ _ _ h => h) (by rfl) (by assumption) ?_ ?_; rotate_left; focus (intro w hSw; (try dsimp only at hSw); go_simp; try with_reducible rfl)); try simp only [Act.put, List.setIfInBounds_toArray, List.set_cons_zero, List.set_cons_succ]
  refine wpAnyH_done (by kernel_rfl) ?_ _
  go_wp2_with fail
  refine bodyPost_ret (v := .tuple #[.slice none 0 0, .int .i64 22]) (by simp [results, Try.results23, go_sem, World.cell?_alloc_past, c0_0, c0_1, c0_2, c0_3, rc0, rc0a, rc0b, rc0c, rc0n]; try rfl) rfl (RetHopV.nil (xs := [.int .i64 22]) ?_)
  exact (by repeat (first | with_reducible exact X4.out | with_reducible refine Ext.drew ?_ | with_reducible refine Ext.drewN ?_ _ | with_reducible refine Ext.alloc ?_ _ | with_reducible refine Ext.setCell ?_ (by first | omega | (simp; done) | (simp; omega)) _))
set_option maxRecDepth 100000 in
set_option maxHeartbeats 4000000 in
theorem hopAdd_long (A : Option Addr) (n c : Nat) (l : List (Int × Int × Int × Int)) (x0 x1 x2 x3 mo f1 f2 mv cv : Int) (w : World) (h : Sl w 4 A n c (l.flatMap hopC)) (hn : n < 1099511627776) (hw : ∀ x ∈ l, FitsH x) (hfx : FitsH (x0, x1, x2, x3)) (hf : (f1, f2) = chkH l) (hm : mv = mayV (x0, x1, x2, x3) l) (hv : cv = cntL l x0 x1 x2) (hc : f1 = 0) (h3 : mv ≠ 3) (h4 : ¬ mo < 1) (h5 : ¬ mo > 16) (h6 : mv = 0) (h7 : ¬ cv ≥ mo) (h8 : 4096 ≤ n) :
    Calls Try.prog 23 #[.slice A n c, .agg #[.int .i64 x0, .int .i64 x1, .int .i64 x2, .int .i64 x3], .int .i64 mo] w (RetHopV [] [.int .i64 4] w) := by
  have hl := h.rlen hopC_len (by decide)
  have s1 := h.small
  subst hc
  subst h6
  have h9 : (n : Int) ≥ 4096 := by omega
  have HS := Lib.hid h
  have HW := Lib.hid hw
  have HX := Lib.hid hfx
  have HF := Lib.hid hf
  have HM := Lib.hid hm
  have HV := Lib.hid hv
  clear h hw hfx hf hm hv hl
  go_enter Try.func23, Try.ntmps23
  go_wp2_with fail
  (with_reducible refine (hopCheck_ev A n c l 0 f2 _ (HS.out.ext (by repeat (first | with_reducible exact Ext.refl _ | with_reducible refine Ext.drew ?_ | with_reducible refine Ext.drewN ?_ _ | with_reducible refine Ext.alloc ?_ _ | with_reducible refine Ext.setCell ?_ (by first | omega | (simp; done) | (simp; omega)) _))) (fits_t HW.out) HF.out).mono ?_)
  rintro e w1 ⟨rfl, hx1⟩
  have c0_0 : w1.cell? ⟨w.heap.size, 0, none⟩ = some (.int .i64 x0) := hx1.has (by first | fail | (simp [go_sem, World.cell?_alloc_past]; done))
  have c0_1 : w1.cell? ⟨w.heap.size, 1, none⟩ = some (.int .i64 x1) := hx1.has (by first | fail | (simp [go_sem, World.cell?_alloc_past]; done))
  have c0_2 : w1.cell? ⟨w.heap.size, 2, none⟩ = some (.int .i64 x2) := hx1.has (by first | fail | (simp [go_sem, World.cell?_alloc_past]; done))
  have c0_3 : w1.cell? ⟨w.heap.size, 3, none⟩ = some (.int .i64 x3) := hx1.has (by first | fail | (simp [go_sem, World.cell?_alloc_past]; done))
  have z1 := hx1.size
  try simp at z1
  have rc0 : w.heap.size < w1.heap.size := by omega
  have rc0a : w.heap.size < w1.heap.size + 1 := by omega
  have rc0b : w.heap.size < w1.heap.size + 1 + 1 := by omega
  have rc0c : w.heap.size < w1.heap.size + 1 + 1 + 1 := by omega
  have rc0n : ¬ w.heap.size = w1.heap.size := by omega
  replace HS := Lib.hid (HS.out.ext (Ext.trans (by repeat (first | with_reducible exact Ext.refl _ | with_reducible refine Ext.drew ?_ | with_reducible refine Ext.drewN ?_ _ | with_reducible refine Ext.alloc ?_ _ | with_reducible refine Ext.setCell ?_ (by first | omega | (simp; done) | (simp; omega)) _)) hx1))
  have X1 : Hid (Ext w w1) := Lib.hid (Ext.trans (by repeat (first | with_reducible exact Ext.refl w | with_reducible refine Ext.drew ?_ | with_reducible refine Ext.drewN ?_ _ | with_reducible refine Ext.alloc ?_ _ | with_reducible refine Ext.setCell ?_ (by first | omega | (simp; done) | (simp; omega)) _)) hx1)
  clear hx1 z1
  go_wp2_with fail
  (with_reducible refine (hopMay_ev x0 x1 x2 x3 0 A c n l _ (fits_x HX.out).2.2.2 (HS.out.ext (by repeat (first | with_reducible exact Ext.refl _ | with_reducible refine Ext.drew ?_ | with_reducible refine Ext.drewN ?_ _ | with_reducible refine Ext.alloc ?_ _ | with_reducible refine Ext.setCell ?_ (by first | omega | (simp; done) | (simp; omega)) _))) HM.out).mono ?_)
  rintro e w2 ⟨rfl, hx2⟩
  replace c0_0 : w2.cell? ⟨w.heap.size, 0, none⟩ = some (.int .i64 x0) := hx2.has (by first | exact c0_0 | (simp [go_sem, World.cell?_alloc_past, c0_0, c0_1, c0_2, c0_3, rc0, rc0a, rc0b, rc0c, rc0n]; done))
  replace c0_1 : w2.cell? ⟨w.heap.size, 1, none⟩ = some (.int .i64 x1) := hx2.has (by first | exact c0_1 | (simp [go_sem, World.cell?_alloc_past, c0_0, c0_1, c0_2, c0_3, rc0, rc0a, rc0b, rc0c, rc0n]; done))
  replace c0_2 : w2.cell? ⟨w.heap.size, 2, none⟩ = some (.int .i64 x2) := hx2.has (by first | exact c0_2 | (simp [go_sem, World.cell?_alloc_past, c0_0, c0_1, c0_2, c0_3, rc0, rc0a, rc0b, rc0c, rc0n]; done))
  replace c0_3 : w2.cell? ⟨w.heap.size, 3, none⟩ = some (.int .i64 x3) := hx2.has (by first | exact c0_3 | (simp [go_sem, World.cell?_alloc_past, c0_0, c0_1, c0_2, c0_3, rc0, rc0a, rc0b, rc0c, rc0n]; done))
  have z2 := hx2.size
  try simp at z2
  replace rc0 : w.heap.size < w2.heap.size := by omega
  replace rc0a : w.heap.size < w2.heap.size + 1 := by omega
  replace rc0b : w.heap.size < w2.heap.size + 1 + 1 := by omega
  replace rc0c : w.heap.size < w2.heap.size + 1 + 1 + 1 := by omega
  replace rc0n : ¬ w.heap.size = w2.heap.size := by omega
  replace HS := Lib.hid (HS.out.ext (Ext.trans (by repeat (first | with_reducible exact Ext.refl _ | with_reducible refine Ext.drew ?_ | with_reducible refine Ext.drewN ?_ _ | with_reducible refine Ext.alloc ?_ _ | with_reducible refine Ext.setCell ?_ (by first | omega | (simp; done) | (simp; omega)) _)) hx2))
  have X2 : Hid (Ext w w2) := Lib.hid (Ext.trans (by repeat (first | with_reducible exact X1.out | with_reducible refine Ext.drew ?_ | with_reducible refine Ext.drewN ?_ _ | with_reducible refine Ext.alloc ?_ _ | with_reducible refine Ext.setCell ?_ (by first | omega | (simp; done) | (simp; omega)) _)) hx2)
  clear X1 hx2 z2
  go_wp2_with fail
  refine wp_region_held_drew (S := fun w' => w'.cell? ⟨w.heap.size, 0, none⟩ = some (.int .i64 x0) ∧ w'.cell? ⟨w.heap.size, 1, none⟩ = some (.int .i64 x1) ∧ w'.cell? ⟨w.heap.size, 2, none⟩ = some (.int .i64 x2) ∧ w'.cell? ⟨w.heap.size, 3, none⟩ = some (.int .i64 x3)) (by kernel_rfl) (by first | exact ⟨c0_0, c0_1, c0_2, c0_3⟩ | (simp [go_sem, World.cell?_alloc_past, c0_0, c0_1, c0_2, c0_3, rc0, rc0a, rc0b, rc0c, rc0n]; done)) (fun hHeld => ?_)
  (refine' take_in 0 rfl (by kernel_rfl) (by kernel_rfl) (by kernel_rfl) (fun _ _ _ h => h) (by rfl) (by assumption) ?_ ?_; rotate_left; focus (intro w hSw; (try dsimp only at hSw); go_simp; try with_reducible rfl)); try simp only [Act.put, List.setIfInBounds_toArray, List.set_cons_zero, List.set_cons_succ]
  (refine' take_in 2 rfl (by kernel_rfl) (by kernel_rfl) (by kernel_rfl) (fun _ _ _ h => h) (by rfl) (by assumption) ?_ ?_; rotate_left; focus (intro w hSw; (try dsimp only at hSw); go_simp; try with_reducible rfl)); try simp only [Act.put, List.setIfInBounds_toArray, List.set_cons_zero, List.set_cons_succ]
  (refine' take_in 5 rfl (by kernel_rfl) (by kernel_rfl) (by kernel_rfl) (fun _ _ _ h => h) (by rfl) (by assumption) ?_ ?_; rotate_left; focus (intro w hSw; (try dsimp only at hSw); go_simp; try with_reducible rfl)); try simp only [Act.put, List.setIfInBounds_toArray, List.set_cons_zero, List.set_cons_succ]
  refine' next_in 1 rfl (by kernel_rfl) (by rfl) (fun K hK => ?_)
  go_simp
  (with_reducible refine (hopCounts_ex A n c l _ (HS.out.ext (by repeat (first | with_reducible exact Ext.refl _ | with_reducible refine Ext.drew ?_ | with_reducible refine Ext.drewN ?_ _ | with_reducible refine Ext.alloc ?_ _ | with_reducible refine Ext.setCell ?_ (by first | omega | (simp; done) | (simp; omega)) _))) hn (fits_k HW.out)).mono ?_)
  rintro e w3 ⟨bm, rfl, hC, hx3⟩
  replace c0_0 : w3.cell? ⟨w.heap.size, 0, none⟩ = some (.int .i64 x0) := hx3.has (by first | exact c0_0 | (simp [go_sem, World.cell?_alloc_past, c0_0, c0_1, c0_2, c0_3, rc0, rc0a, rc0b, rc0c, rc0n]; done))
  replace c0_1 : w3.cell? ⟨w.heap.size, 1, none⟩ = some (.int .i64 x1) := hx3.has (by first | exact c0_1 | (simp [go_sem, World.cell?_alloc_past, c0_0, c0_1, c0_2, c0_3, rc0, rc0a, rc0b, rc0c, rc0n]; done))
  replace c0_2 : w3.cell? ⟨w.heap.size, 2, none⟩ = some (.int .i64 x2) := hx3.has (by first | exact c0_2 | (simp [go_sem, World.cell?_alloc_past, c0_0, c0_1, c0_2, c0_3, rc0, rc0a, rc0b, rc0c, rc0n]; done))
  replace c0_3 : w3.cell? ⟨w.heap.size, 3, none⟩ = some (.int .i64 x3) := hx3.has (by first | exact c0_3 | (simp [go_sem, World.cell?_alloc_past, c0_0, c0_1, c0_2, c0_3, rc0, rc0a, rc0b, rc0c, rc0n]; done))
  have z3 := hx3.size
  try simp at z3
  replace rc0 : w.heap.size < w3.heap.size := by omega
  replace rc0a : w.heap.size < w3.heap.size + 1 := by omega
  replace rc0b : w.heap.size < w3.heap.size + 1 + 1 := by omega
  replace rc0c : w.heap.size < w3.heap.size + 1 + 1 + 1 := by omega
  replace rc0n : ¬ w.heap.size = w3.heap.size := by omega
  replace HS := Lib.hid (HS.out.ext (Ext.trans (by repeat (first | with_reducible exact Ext.refl _ | with_reducible refine Ext.drew ?_ | with_reducible refine Ext.drewN ?_ _ | with_reducible refine Ext.alloc ?_ _ | with_reducible refine Ext.setCell ?_ (by first | omega | (simp; done) | (simp; omega)) _)) hx3))
  have X3 : Hid (Ext w w3) := Lib.hid (Ext.trans (by repeat (first | with_reducible exact X2.out | with_reducible refine Ext.drew ?_ | with_reducible refine Ext.drewN ?_ _ | with_reducible refine Ext.alloc ?_ _ | with_reducible refine Ext.setCell ?_ (by first | omega | (simp; done) | (simp; omega)) _)) hx3)
  have HC := Lib.hid hC
  clear X2 hx3 z3 hC
  refine hK.out _ _ (by (first | exact ⟨c0_0, c0_1, c0_2, c0_3⟩ | (simp [go_sem, World.cell?_alloc_past, c0_0, c0_1, c0_2, c0_3, rc0, rc0a, rc0b, rc0c, rc0n]; done))) (fun hHeld => ?_); clear hK K; try simp only [Act.put, List.setIfInBounds_toArray, List.set_cons_zero, List.set_cons_succ]
  refine' next_in 3 rfl (by kernel_rfl) (by rfl) (fun K hK => ?_)
  go_simp
  (with_reducible refine (hopOf_any x0 x1 x2 x3 _).mono ?_)
  rintro e w4 ⟨rfl, hx4⟩
  replace c0_0 : w4.cell? ⟨w.heap.size, 0, none⟩ = some (.int .i64 x0) := hx4.has (by first | exact c0_0 | (simp [go_sem, World.cell?_alloc_past, c0_0, c0_1, c0_2, c0_3, rc0, rc0a, rc0b, rc0c, rc0n]; done))
  replace c0_1 : w4.cell? ⟨w.heap.size, 1, none⟩ = some (.int .i64 x1) := hx4.has (by first | exact c0_1 | (simp [go_sem, World.cell?_alloc_past, c0_0, c0_1, c0_2, c0_3, rc0, rc0a, rc0b, rc0c, rc0n]; done))
  replace c0_2 : w4.cell? ⟨w.heap.size, 2, none⟩ = some (.int .i64 x2) := hx4.has (by first | exact c0_2 | (simp [go_sem, World.cell?_alloc_past, c0_0, c0_1, c0_2, c0_3, rc0, rc0a, rc0b, rc0c, rc0n]; done))
  replace c0_3 : w4.cell? ⟨w.heap.size, 3, none⟩ = some (.int .i64 x3) := hx4.has (by first | exact c0_3 | (simp [go_sem, World.cell?_alloc_past, c0_0, c0_1, c0_2, c0_3, rc0, rc0a, rc0b, rc0c, rc0n]; done))
  have z4 := hx4.size
  try simp at z4
  replace rc0 : w.heap.size < w4.heap.size := by omega
  replace rc0a : w.heap.size < w4.heap.size + 1 := by omega
  replace rc0b : w.heap.size < w4.heap.size + 1 + 1 := by omega
  replace rc0c : w.heap.size < w4.heap.size + 1 + 1 + 1 := by omega
  replace rc0n : ¬ w.heap.size = w4.heap.size := by omega
  replace HS := Lib.hid (HS.out.ext (Ext.trans (by repeat (first | with_reducible exact Ext.refl _ | with_reducible refine Ext.drew ?_ | with_reducible refine Ext.drewN ?_ _ | with_reducible refine Ext.alloc ?_ _ | with_reducible refine Ext.setCell ?_ (by first | omega | (simp; done) | (simp; omega)) _)) hx4))
  replace HC := Lib.hid (HC.out.ext (Ext.trans (by repeat (first | with_reducible exact Ext.refl _ | with_reducible refine Ext.drew ?_ | with_reducible refine Ext.drewN ?_ _ | with_reducible refine Ext.alloc ?_ _ | with_reducible refine Ext.setCell ?_ (by first | omega | (simp; done) | (simp; omega)) _)) hx4))
  have X4 : Hid (Ext w w4) := Lib.hid (Ext.trans (by repeat (first | with_reducible exact X3.out | with_reducible refine Ext.drew ?_ | with_reducible refine Ext.drewN ?_ _ | with_reducible refine Ext.alloc ?_ _ | with_reducible refine Ext.setCell ?_ (by first | omega | (simp; done) | (simp; omega)) _)) hx4)
  clear X3 hx4 z4
  have hrun4 := CntW.look HC.out (keyW_wf (fits_x HX.out).1) (keyW_wf (fits_x HX.out).2.1) (keyW_wf (fits_x HX.out).2.2.1)
  rw [← HV.out] at hrun4
  refine hK.out _ _ (by (first | exact ⟨c0_0, c0_1, c0_2, c0_3⟩ | (simp [go_sem, World.cell?_alloc_past, c0_0, c0_1, c0_2, c0_3, rc0, rc0a, rc0b, rc0c, rc0n]; done))) (fun hHeld => ?_); clear hK K; try simp only [Act.put, List.setIfInBounds_toArray, List.set_cons_zero, List.set_cons_succ]
  refine' next_in 4 rfl (by kernel_rfl) (by rfl) (fun K hK => ?_)
  go_simp
  refine hK.out _ _ (by (first | exact ⟨c0_0, c0_1, c0_2, c0_3⟩ | (simp [go_sem, World.cell?_alloc_past, c0_0, c0_1, c0_2, c0_3, rc0, rc0a, rc0b, rc0c, rc0n]; done))) (fun hHeld => ?_); clear hK K; try simp only [Act.put, List.setIfInBounds_toArray, List.set_cons_zero, List.set_cons_succ]
  (refine' take_in 6 rfl (by kernel_rfl) (by kernel_rfl) (by kernel_rfl) (fun _ _ _ h => h) (by rfl) (by assumption) ?_ ?_; rotate_left; focus (intro w hSw; (try dsimp only at hSw); go_simp; try with_reducible rfl)); try simp only [Act.put, List.setIfInBounds_toArray, List.set_cons_zero, List.set_cons_succ]
  (refine' take_in 7 rfl (by kernel_rfl) (by kernel_rfl) (by kernel_rfl) (fun _ _ _ h => h) (by rfl) (by assumption) ?_ ?_; rotate_left; focus (intro w hSw; (try dsimp only at hSw); go_simp; try with_reducible rfl)); try simp only [Act.put, List.setIfInBounds_toArray, List.set_cons_zero, List.set_cons_succ]
  refine wpAnyH_done (by kernel_rfl) ?_ _
  go_wp2_with fail
  refine bodyPost_ret (v := .tuple #[.slice none 0 0, .int .i64 4]) (by simp [results, Try.results23, go_sem, World.cell?_alloc_past, c0_0, c0_1, c0_2, c0_3, rc0, rc0a, rc0b, rc0c, rc0n]; try rfl) rfl (RetHopV.nil (xs := [.int .i64 4]) ?_)
  exact (by repeat (first | with_reducible exact X4.out | with_reducible refine Ext.drew ?_ | with_reducible refine Ext.drewN ?_ _ | with_reducible refine Ext.alloc ?_ _ | with_reducible refine Ext.setCell ?_ (by first | omega | (simp; done) | (simp; omega)) _))
theorem hop_app {w : World} {base n b c : Nat} {v : Value} {l : List (Int × Int × Int × Int)} {x0 x1 x2 x3 : Int} (hown : OwnHop w base v n l) (hn : n < 1099511627776) (hb : base ≤ w.heap.size) (h0 : w.cell? ⟨b, 0, none⟩ = some (.int .i64 x0)) (h1 : w.cell? ⟨b, 1, none⟩ = some (.int .i64 x1)) (h2 : w.cell? ⟨b, 2, none⟩ = some (.int .i64 x2)) (h3 : w.cell? ⟨b, 3, none⟩ = some (.int .i64 x3)) (ty : TypeId) :
    ∃ A' c' w', (Builtin.append_ #[22, 22] ty #[v, .slice (some ⟨b, 0, none⟩) 1 c]).run Try.prog w = .ok (.slice A' (n + 1) c') w' ∧ OwnHop w' base (.slice A' (n + 1) c') (n + 1) (l ++ [(x0, x1, x2, x3)]) ∧ Below base w w' := by
  obtain ⟨i0, hi0, hz0, hz1, hz2⟩ := info_parts hop_info
  obtain ⟨v', w', hr, g2, g3, g4, g5⟩ := run_append_own_at (P := Try.prog) w base 22 ty 24 i0 (.agg #[.int .i64 0, .int .i64 0, .int .i64 0, .int .i64 0]) 4 32 Try.underlying22 hi0 hz0 hz1 hz2 rfl (by decide) v n _ hown ⟨b, 0, none⟩ 1 c [.int .i64 x0, .int .i64 x1, .int .i64 x2, .int .i64 x3] rfl
    (by intro j u hj
        match j, hj with
        | 0, hj => simp at hj; subst hj; simpa [Addr.add] using h0
        | 1, hj => simp at hj; subst hj; simpa [Addr.add] using h1
        | 2, hj => simp at hj; subst hj; simpa [Addr.add] using h2
        | 3, hj => simp at hj; subst hj; simpa [Addr.add] using h3
        | j + 4, hj => simp at hj)
    (by intro u hu; simp at hu; rcases hu with rfl | rfl | rfl | rfl <;> rfl) (by simp [maxLen]; omega) (by omega) hb
  have hO : OwnHop w' base v' (n + 1) (l ++ [(x0, x1, x2, x3)]) := by
    unfold OwnHop
    rw [List.flatMap_append]
    exact g2
  obtain ⟨A', c', rfl, _, _⟩ := own_parts2 hO
  exact ⟨A', c', w', hr, hO, (Below.refl base w).grown g3 hb (fun k hk => (World.ownsRow.lt hown k hk).1)⟩
/-- an append at an operation of a drawn region, by its run -/
theorem oper_append {P : Program} {o : Oper} {a : Act} {w w' : World} {K : Act → World → Prop} {Q : Exit → Act → World → Prop} (s x : Operand) (t : TypeId) (ho : o.op = .call { callee := .builtin .append, args := #[s, x], argTypes := #[t, t] }) {vs vx v' : Value} (hs : a.eval s = vs) (hx : a.eval x = vx)
    (hr : (Builtin.append_ #[t, t] o.type #[vs, vx]).run P w = .ok v' w') (hK : K (a.put o.dst v') w') : Oper.wp P o a w K Q := by
  unfold Oper.wp execOp
  simp only [ho, resolve, invoke, builtin, Sem.run_bind, Sem.run_pure, Result.andThen_ok, List.map_toArray, List.map_cons, List.map_nil, hs, hx, hr]
  exact hK
set_option maxRecDepth 100000 in
set_option maxHeartbeats 4000000 in
theorem hopAdd_ok (A : Option Addr) (n c : Nat) (l : List (Int × Int × Int × Int)) (x0 x1 x2 x3 mo f1 f2 mv cv : Int) (w : World) (h : Sl w 4 A n c (l.flatMap hopC)) (hn : n < 1099511627776) (hw : ∀ x ∈ l, FitsH x) (hfx : FitsH (x0, x1, x2, x3)) (hf : (f1, f2) = chkH l) (hm : mv = mayV (x0, x1, x2, x3) l) (hv : cv = cntL l x0 x1 x2) (hc : f1 = 0) (h3 : mv ≠ 3) (h4 : ¬ mo < 1) (h5 : ¬ mo > 16) (h6 : mv = 0) (h7 : ¬ cv ≥ mo) (h8 : ¬ 4096 ≤ n) (hnil : A = none → c = 0) :
    Calls Try.prog 23 #[.slice A n c, .agg #[.int .i64 x0, .int .i64 x1, .int .i64 x2, .int .i64 x3], .int .i64 mo] w (RetHopV (l ++ [(x0, x1, x2, x3)]) [.int .i64 0] w) := by
  have hl := h.rlen hopC_len (by decide)
  have s1 := h.small
  subst hc
  subst h6
  have h9 : ¬ (n : Int) ≥ 4096 := by omega
  subst hl
  have HS := Lib.hid h
  have HW := Lib.hid hw
  have HX := Lib.hid hfx
  have HF := Lib.hid hf
  have HM := Lib.hid hm
  have HV := Lib.hid hv
  clear h hw hfx hf hm hv
  go_enter Try.func23, Try.ntmps23
  go_wp2_with fail
  (with_reducible refine (hopCheck_ev A l.length c l 0 f2 _ (HS.out.ext (by repeat (first | with_reducible exact Ext.refl _ | with_reducible refine Ext.drew ?_ | with_reducible refine Ext.drewN ?_ _ | with_reducible refine Ext.alloc ?_ _ | with_reducible refine Ext.setCell ?_ (by first | omega | (simp; done) | (simp; omega)) _))) (fits_t HW.out) HF.out).mono ?_)
  rintro e w1 ⟨rfl, hx1⟩
  have c0_0 : w1.cell? ⟨w.heap.size, 0, none⟩ = some (.int .i64 x0) := hx1.has (by first | fail | (simp [go_sem, World.cell?_alloc_past]; done))
  have c0_1 : w1.cell? ⟨w.heap.size, 1, none⟩ = some (.int .i64 x1) := hx1.has (by first | fail | (simp [go_sem, World.cell?_alloc_past]; done))
  have c0_2 : w1.cell? ⟨w.heap.size, 2, none⟩ = some (.int .i64 x2) := hx1.has (by first | fail | (simp [go_sem, World.cell?_alloc_past]; done))
  have c0_3 : w1.cell? ⟨w.heap.size, 3, none⟩ = some (.int .i64 x3) := hx1.has (by first | fail | (simp [go_sem, World.cell?_alloc_past]; done))
  have z1 := hx1.size
  try simp at z1
  have rc0 : w.heap.size < w1.heap.size := by omega
  have rc0a : w.heap.size < w1.heap.size + 1 := by omega
  have rc0b : w.heap.size < w1.heap.size + 1 + 1 := by omega
  have rc0c : w.heap.size < w1.heap.size + 1 + 1 + 1 := by omega
  have rc0n : ¬ w.heap.size = w1.heap.size := by omega
  replace HS := Lib.hid (HS.out.ext (Ext.trans (by repeat (first | with_reducible exact Ext.refl _ | with_reducible refine Ext.drew ?_ | with_reducible refine Ext.drewN ?_ _ | with_reducible refine Ext.alloc ?_ _ | with_reducible refine Ext.setCell ?_ (by first | omega | (simp; done) | (simp; omega)) _)) hx1))
  have X1 : Hid (Ext w w1) := Lib.hid (Ext.trans (by repeat (first | with_reducible exact Ext.refl w | with_reducible refine Ext.drew ?_ | with_reducible refine Ext.drewN ?_ _ | with_reducible refine Ext.alloc ?_ _ | with_reducible refine Ext.setCell ?_ (by first | omega | (simp; done) | (simp; omega)) _)) hx1)
  clear hx1 z1
  go_wp2_with fail
  (with_reducible refine (hopMay_ev x0 x1 x2 x3 0 A c l.length l _ (fits_x HX.out).2.2.2 (HS.out.ext (by repeat (first | with_reducible exact Ext.refl _ | with_reducible refine Ext.drew ?_ | with_reducible refine Ext.drewN ?_ _ | with_reducible refine Ext.alloc ?_ _ | with_reducible refine Ext.setCell ?_ (by first | omega | (simp; done) | (simp; omega)) _))) HM.out).mono ?_)
  rintro e w2 ⟨rfl, hx2⟩
  replace c0_0 : w2.cell? ⟨w.heap.size, 0, none⟩ = some (.int .i64 x0) := hx2.has (by first | exact c0_0 | (simp [go_sem, World.cell?_alloc_past, c0_0, c0_1, c0_2, c0_3, rc0, rc0a, rc0b, rc0c, rc0n]; done))
  replace c0_1 : w2.cell? ⟨w.heap.size, 1, none⟩ = some (.int .i64 x1) := hx2.has (by first | exact c0_1 | (simp [go_sem, World.cell?_alloc_past, c0_0, c0_1, c0_2, c0_3, rc0, rc0a, rc0b, rc0c, rc0n]; done))
  replace c0_2 : w2.cell? ⟨w.heap.size, 2, none⟩ = some (.int .i64 x2) := hx2.has (by first | exact c0_2 | (simp [go_sem, World.cell?_alloc_past, c0_0, c0_1, c0_2, c0_3, rc0, rc0a, rc0b, rc0c, rc0n]; done))
  replace c0_3 : w2.cell? ⟨w.heap.size, 3, none⟩ = some (.int .i64 x3) := hx2.has (by first | exact c0_3 | (simp [go_sem, World.cell?_alloc_past, c0_0, c0_1, c0_2, c0_3, rc0, rc0a, rc0b, rc0c, rc0n]; done))
  have z2 := hx2.size
  try simp at z2
  replace rc0 : w.heap.size < w2.heap.size := by omega
  replace rc0a : w.heap.size < w2.heap.size + 1 := by omega
  replace rc0b : w.heap.size < w2.heap.size + 1 + 1 := by omega
  replace rc0c : w.heap.size < w2.heap.size + 1 + 1 + 1 := by omega
  replace rc0n : ¬ w.heap.size = w2.heap.size := by omega
  replace HS := Lib.hid (HS.out.ext (Ext.trans (by repeat (first | with_reducible exact Ext.refl _ | with_reducible refine Ext.drew ?_ | with_reducible refine Ext.drewN ?_ _ | with_reducible refine Ext.alloc ?_ _ | with_reducible refine Ext.setCell ?_ (by first | omega | (simp; done) | (simp; omega)) _)) hx2))
  have X2 : Hid (Ext w w2) := Lib.hid (Ext.trans (by repeat (first | with_reducible exact X1.out | with_reducible refine Ext.drew ?_ | with_reducible refine Ext.drewN ?_ _ | with_reducible refine Ext.alloc ?_ _ | with_reducible refine Ext.setCell ?_ (by first | omega | (simp; done) | (simp; omega)) _)) hx2)
  clear X1 hx2 z2
  go_wp2_with fail
  refine wp_region_held_drew (S := fun w' => w'.cell? ⟨w.heap.size, 0, none⟩ = some (.int .i64 x0) ∧ w'.cell? ⟨w.heap.size, 1, none⟩ = some (.int .i64 x1) ∧ w'.cell? ⟨w.heap.size, 2, none⟩ = some (.int .i64 x2) ∧ w'.cell? ⟨w.heap.size, 3, none⟩ = some (.int .i64 x3)) (by kernel_rfl) (by first | exact ⟨c0_0, c0_1, c0_2, c0_3⟩ | (simp [go_sem, World.cell?_alloc_past, c0_0, c0_1, c0_2, c0_3, rc0, rc0a, rc0b, rc0c, rc0n]; done)) (fun hHeld => ?_)
  (refine' take_in 0 rfl (by kernel_rfl) (by kernel_rfl) (by kernel_rfl) (fun _ _ _ h => h) (by rfl) (by assumption) ?_ ?_; rotate_left; focus (intro w hSw; (try dsimp only at hSw); go_simp; try with_reducible rfl)); try simp only [Act.put, List.setIfInBounds_toArray, List.set_cons_zero, List.set_cons_succ]
  (refine' take_in 2 rfl (by kernel_rfl) (by kernel_rfl) (by kernel_rfl) (fun _ _ _ h => h) (by rfl) (by assumption) ?_ ?_; rotate_left; focus (intro w hSw; (try dsimp only at hSw); go_simp; try with_reducible rfl)); try simp only [Act.put, List.setIfInBounds_toArray, List.set_cons_zero, List.set_cons_succ]
  (refine' take_in 5 rfl (by kernel_rfl) (by kernel_rfl) (by kernel_rfl) (fun _ _ _ h => h) (by rfl) (by assumption) ?_ ?_; rotate_left; focus (intro w hSw; (try dsimp only at hSw); go_simp; try with_reducible rfl)); try simp only [Act.put, List.setIfInBounds_toArray, List.set_cons_zero, List.set_cons_succ]
  refine' next_in 1 rfl (by kernel_rfl) (by rfl) (fun K hK => ?_)
  go_simp
  (with_reducible refine (hopCounts_ex A l.length c l _ (HS.out.ext (by repeat (first | with_reducible exact Ext.refl _ | with_reducible refine Ext.drew ?_ | with_reducible refine Ext.drewN ?_ _ | with_reducible refine Ext.alloc ?_ _ | with_reducible refine Ext.setCell ?_ (by first | omega | (simp; done) | (simp; omega)) _))) hn (fits_k HW.out)).mono ?_)
  rintro e w3 ⟨bm, rfl, hC, hx3⟩
  replace c0_0 : w3.cell? ⟨w.heap.size, 0, none⟩ = some (.int .i64 x0) := hx3.has (by first | exact c0_0 | (simp [go_sem, World.cell?_alloc_past, c0_0, c0_1, c0_2, c0_3, rc0, rc0a, rc0b, rc0c, rc0n]; done))
  replace c0_1 : w3.cell? ⟨w.heap.size, 1, none⟩ = some (.int .i64 x1) := hx3.has (by first | exact c0_1 | (simp [go_sem, World.cell?_alloc_past, c0_0, c0_1, c0_2, c0_3, rc0, rc0a, rc0b, rc0c, rc0n]; done))
  replace c0_2 : w3.cell? ⟨w.heap.size, 2, none⟩ = some (.int .i64 x2) := hx3.has (by first | exact c0_2 | (simp [go_sem, World.cell?_alloc_past, c0_0, c0_1, c0_2, c0_3, rc0, rc0a, rc0b, rc0c, rc0n]; done))
  replace c0_3 : w3.cell? ⟨w.heap.size, 3, none⟩ = some (.int .i64 x3) := hx3.has (by first | exact c0_3 | (simp [go_sem, World.cell?_alloc_past, c0_0, c0_1, c0_2, c0_3, rc0, rc0a, rc0b, rc0c, rc0n]; done))
  have z3 := hx3.size
  try simp at z3
  replace rc0 : w.heap.size < w3.heap.size := by omega
  replace rc0a : w.heap.size < w3.heap.size + 1 := by omega
  replace rc0b : w.heap.size < w3.heap.size + 1 + 1 := by omega
  replace rc0c : w.heap.size < w3.heap.size + 1 + 1 + 1 := by omega
  replace rc0n : ¬ w.heap.size = w3.heap.size := by omega
  replace HS := Lib.hid (HS.out.ext (Ext.trans (by repeat (first | with_reducible exact Ext.refl _ | with_reducible refine Ext.drew ?_ | with_reducible refine Ext.drewN ?_ _ | with_reducible refine Ext.alloc ?_ _ | with_reducible refine Ext.setCell ?_ (by first | omega | (simp; done) | (simp; omega)) _)) hx3))
  have X3 : Hid (Ext w w3) := Lib.hid (Ext.trans (by repeat (first | with_reducible exact X2.out | with_reducible refine Ext.drew ?_ | with_reducible refine Ext.drewN ?_ _ | with_reducible refine Ext.alloc ?_ _ | with_reducible refine Ext.setCell ?_ (by first | omega | (simp; done) | (simp; omega)) _)) hx3)
  have HC := Lib.hid hC
  clear X2 hx3 z3 hC
  refine hK.out _ _ (by (first | exact ⟨c0_0, c0_1, c0_2, c0_3⟩ | (simp [go_sem, World.cell?_alloc_past, c0_0, c0_1, c0_2, c0_3, rc0, rc0a, rc0b, rc0c, rc0n]; done))) (fun hHeld => ?_); clear hK K; try simp only [Act.put, List.setIfInBounds_toArray, List.set_cons_zero, List.set_cons_succ]
  refine' next_in 3 rfl (by kernel_rfl) (by rfl) (fun K hK => ?_)
  go_simp
  (with_reducible refine (hopOf_any x0 x1 x2 x3 _).mono ?_)
  rintro e w4 ⟨rfl, hx4⟩
  replace c0_0 : w4.cell? ⟨w.heap.size, 0, none⟩ = some (.int .i64 x0) := hx4.has (by first | exact c0_0 | (simp [go_sem, World.cell?_alloc_past, c0_0, c0_1, c0_2, c0_3, rc0, rc0a, rc0b, rc0c, rc0n]; done))
  replace c0_1 : w4.cell? ⟨w.heap.size, 1, none⟩ = some (.int .i64 x1) := hx4.has (by first | exact c0_1 | (simp [go_sem, World.cell?_alloc_past, c0_0, c0_1, c0_2, c0_3, rc0, rc0a, rc0b, rc0c, rc0n]; done))
  replace c0_2 : w4.cell? ⟨w.heap.size, 2, none⟩ = some (.int .i64 x2) := hx4.has (by first | exact c0_2 | (simp [go_sem, World.cell?_alloc_past, c0_0, c0_1, c0_2, c0_3, rc0, rc0a, rc0b, rc0c, rc0n]; done))
  replace c0_3 : w4.cell? ⟨w.heap.size, 3, none⟩ = some (.int .i64 x3) := hx4.has (by first | exact c0_3 | (simp [go_sem, World.cell?_alloc_past, c0_0, c0_1, c0_2, c0_3, rc0, rc0a, rc0b, rc0c, rc0n]; done))
  have z4 := hx4.size
  try simp at z4
  replace rc0 : w.heap.size < w4.heap.size := by omega
  replace rc0a : w.heap.size < w4.heap.size + 1 := by omega
  replace rc0b : w.heap.size < w4.heap.size + 1 + 1 := by omega
  replace rc0c : w.heap.size < w4.heap.size + 1 + 1 + 1 := by omega
  replace rc0n : ¬ w.heap.size = w4.heap.size := by omega
  replace HS := Lib.hid (HS.out.ext (Ext.trans (by repeat (first | with_reducible exact Ext.refl _ | with_reducible refine Ext.drew ?_ | with_reducible refine Ext.drewN ?_ _ | with_reducible refine Ext.alloc ?_ _ | with_reducible refine Ext.setCell ?_ (by first | omega | (simp; done) | (simp; omega)) _)) hx4))
  replace HC := Lib.hid (HC.out.ext (Ext.trans (by repeat (first | with_reducible exact Ext.refl _ | with_reducible refine Ext.drew ?_ | with_reducible refine Ext.drewN ?_ _ | with_reducible refine Ext.alloc ?_ _ | with_reducible refine Ext.setCell ?_ (by first | omega | (simp; done) | (simp; omega)) _)) hx4))
  have X4 : Hid (Ext w w4) := Lib.hid (Ext.trans (by repeat (first | with_reducible exact X3.out | with_reducible refine Ext.drew ?_ | with_reducible refine Ext.drewN ?_ _ | with_reducible refine Ext.alloc ?_ _ | with_reducible refine Ext.setCell ?_ (by first | omega | (simp; done) | (simp; omega)) _)) hx4)
  clear X3 hx4 z4
  have hrun4 := CntW.look HC.out (keyW_wf (fits_x HX.out).1) (keyW_wf (fits_x HX.out).2.1) (keyW_wf (fits_x HX.out).2.2.1)
  rw [← HV.out] at hrun4
  refine hK.out _ _ (by (first | exact ⟨c0_0, c0_1, c0_2, c0_3⟩ | (simp [go_sem, World.cell?_alloc_past, c0_0, c0_1, c0_2, c0_3, rc0, rc0a, rc0b, rc0c, rc0n]; done))) (fun hHeld => ?_); clear hK K; try simp only [Act.put, List.setIfInBounds_toArray, List.set_cons_zero, List.set_cons_succ]
  refine' next_in 4 rfl (by kernel_rfl) (by rfl) (fun K hK => ?_)
  go_simp
  refine hK.out _ _ (by (first | exact ⟨c0_0, c0_1, c0_2, c0_3⟩ | (simp [go_sem, World.cell?_alloc_past, c0_0, c0_1, c0_2, c0_3, rc0, rc0a, rc0b, rc0c, rc0n]; done))) (fun hHeld => ?_); clear hK K; try simp only [Act.put, List.setIfInBounds_toArray, List.set_cons_zero, List.set_cons_succ]
  (refine' take_in 6 rfl (by kernel_rfl) (by kernel_rfl) (by kernel_rfl) (fun _ _ _ h => h) (by rfl) (by assumption) ?_ ?_; rotate_left; focus (intro w hSw; (try dsimp only at hSw); go_simp; try with_reducible rfl)); try simp only [Act.put, List.setIfInBounds_toArray, List.set_cons_zero, List.set_cons_succ]
  (refine' take_in 7 rfl (by kernel_rfl) (by kernel_rfl) (by kernel_rfl) (fun _ _ _ h => h) (by rfl) (by assumption) ?_ ?_; rotate_left; focus (intro w hSw; (try dsimp only at hSw); go_simp; try with_reducible rfl)); try simp only [Act.put, List.setIfInBounds_toArray, List.set_cons_zero, List.set_cons_succ]
  refine wpAnyH_done (by kernel_rfl) ?_ _
  go_wp2_with fail
  refine wp_region_held_drew (S := fun _ => True) (by kernel_rfl) trivial (fun hHeld => ?_)
  (refine' take_in 0 rfl (by kernel_rfl) (by kernel_rfl) (by kernel_rfl) (fun _ _ _ h => h) (by rfl) (by assumption) ?_ ?_; rotate_left; focus (intro w hSw; (try dsimp only at hSw); go_simp; try with_reducible rfl)); try simp only [Act.put, List.setIfInBounds_toArray, List.set_cons_zero, List.set_cons_succ]
  refine' next2_in 1 2 rfl rfl (by kernel_rfl) (by rfl) (by rfl) (fun K hK => ?_) (fun K hK => ?_)
  · go_simp
    (with_reducible refine (hClone_any A c l _ (HS.out.ext (by repeat (first | with_reducible exact Ext.refl _ | with_reducible refine Ext.drew ?_ | with_reducible refine Ext.drewN ?_ _ | with_reducible refine Ext.alloc ?_ _))) (by omega) hnil).mono ?_)
    rintro e w5 ⟨A3, c3, rfl, hA3, hO3, hx5⟩
    have hz5 := hx5.size
    try simp at hz5
    have X5 : Hid (Ext w w5) := Lib.hid (Ext.trans (by repeat (first | with_reducible exact X4.out | with_reducible refine Ext.drew ?_ | with_reducible refine Ext.drewN ?_ _ | with_reducible refine Ext.alloc ?_ _)) hx5)
    have HO : Hid (OwnHop w5 w.heap.size (.slice A3 l.length c3) l.length l) := Lib.hid (OwnHop.lower hO3 (by first | omega | (simp; omega)))
    clear hO3
    have d_0 : w5.cell? ⟨w.heap.size, 0, none⟩ = some (.int .i64 x0) := hx5.has (by first | exact c0_0 | (simp [go_sem, c0_0, rc0, rc0n]; done))
    have d_1 : w5.cell? ⟨w.heap.size, 1, none⟩ = some (.int .i64 x1) := hx5.has (by first | exact c0_1 | (simp [go_sem, c0_1, rc0, rc0n]; done))
    have d_2 : w5.cell? ⟨w.heap.size, 2, none⟩ = some (.int .i64 x2) := hx5.has (by first | exact c0_2 | (simp [go_sem, c0_2, rc0, rc0n]; done))
    have d_3 : w5.cell? ⟨w.heap.size, 3, none⟩ = some (.int .i64 x3) := hx5.has (by first | exact c0_3 | (simp [go_sem, c0_3, rc0, rc0n]; done))
    refine hK.out _ _ (trivial) (fun hHeld => ?_); clear hK K; try simp only [Act.put, List.setIfInBounds_toArray, List.set_cons_zero, List.set_cons_succ]
    refine' next_in 2 rfl (by kernel_rfl) (by rfl) (fun K hK => ?_)
    go_simp
    refine hK.out _ _ (trivial) (fun hHeld => ?_); clear hK K; try simp only [Act.put, List.setIfInBounds_toArray, List.set_cons_zero, List.set_cons_succ]
    refine' next_in 3 rfl (by kernel_rfl) (by rfl) (fun K hK => ?_)
    go_simp
    refine hK.out _ _ (trivial) (fun hHeld => ?_); clear hK K; try simp only [Act.put, List.setIfInBounds_toArray, List.set_cons_zero, List.set_cons_succ]
    obtain ⟨A7, c7, w7, hrun7, hO7, hB7⟩ := hop_app (w := (w5.alloc (.cells #[.int .i64 x0, .int .i64 x1, .int .i64 x2, .int .i64 x3] 24))) (b := w5.heap.size) (c := 1) (x0 := x0) (x1 := x1) (x2 := x2) (x3 := x3) (HO.out.ext (Ext.alloc (Ext.refl _) _)) (by omega) (by have := Ext.size X5.out; simp; omega) (by simp) (by simp) (by simp) (by simp) 22
    have X7 : Hid (Ext w w7) := Lib.hid (Ext.below (Ext.alloc X5.out _) hB7)
    clear hB7
    refine' next_in 4 rfl (by kernel_rfl) (by rfl) (fun K hK => ?_)
    refine oper_append (.tmp 46) (.tmp 48) 22 rfl rfl rfl hrun7 ?_
    refine hK.out _ _ (trivial) (fun hHeld => ?_); clear hK K; try simp only [Act.put, List.setIfInBounds_toArray, List.set_cons_zero, List.set_cons_succ]
    (refine' take_in 5 rfl (by kernel_rfl) (by kernel_rfl) (by kernel_rfl) (fun _ _ _ h => h) (by rfl) (by assumption) ?_ ?_; rotate_left; focus (intro w hSw; (try dsimp only at hSw); go_simp; try with_reducible rfl)); try simp only [Act.put, List.setIfInBounds_toArray, List.set_cons_zero, List.set_cons_succ]
    (refine' take_in 6 rfl (by kernel_rfl) (by kernel_rfl) (by kernel_rfl) (fun _ _ _ h => h) (by rfl) (by assumption) ?_ ?_; rotate_left; focus (intro w hSw; (try dsimp only at hSw); go_simp; try with_reducible rfl)); try simp only [Act.put, List.setIfInBounds_toArray, List.set_cons_zero, List.set_cons_succ]
    refine wpAnyH_done (by kernel_rfl) ?_ _
    go_wp2_with fail
    refine bodyPost_ret (v := .tuple #[.slice A7 (l.length + 1) c7, .int .i64 0]) (by simp [results, Try.results23]; try rfl) rfl (RetHopV.mk (xs := [.int .i64 0]) hO7 X7.out (by simp))
  · go_simp
    refine hK.out _ _ (trivial) (fun hHeld => ?_); clear hK K; try simp only [Act.put, List.setIfInBounds_toArray, List.set_cons_zero, List.set_cons_succ]
    refine' next2_in 1 3 rfl rfl (by kernel_rfl) (by rfl) (by rfl) (fun K hK => ?_) (fun K hK => ?_)
    · go_simp
      (with_reducible refine (hClone_any A c l _ (HS.out.ext (by repeat (first | with_reducible exact Ext.refl _ | with_reducible refine Ext.drew ?_ | with_reducible refine Ext.drewN ?_ _ | with_reducible refine Ext.alloc ?_ _))) (by omega) hnil).mono ?_)
      rintro e w5 ⟨A3, c3, rfl, hA3, hO3, hx5⟩
      have hz5 := hx5.size
      try simp at hz5
      have X5 : Hid (Ext w w5) := Lib.hid (Ext.trans (by repeat (first | with_reducible exact X4.out | with_reducible refine Ext.drew ?_ | with_reducible refine Ext.drewN ?_ _ | with_reducible refine Ext.alloc ?_ _)) hx5)
      have HO : Hid (OwnHop w5 w.heap.size (.slice A3 l.length c3) l.length l) := Lib.hid (OwnHop.lower hO3 (by first | omega | (simp; omega)))
      clear hO3
      refine hK.out _ _ (trivial) (fun hHeld => ?_); clear hK K; try simp only [Act.put, List.setIfInBounds_toArray, List.set_cons_zero, List.set_cons_succ]
      refine' next_in 3 rfl (by kernel_rfl) (by rfl) (fun K hK => ?_)
      go_simp
      refine hK.out _ _ (trivial) (fun hHeld => ?_); clear hK K; try simp only [Act.put, List.setIfInBounds_toArray, List.set_cons_zero, List.set_cons_succ]
      obtain ⟨A7, c7, w7, hrun7, hO7, hB7⟩ := hop_app (w := (w5.alloc (.cells #[.int .i64 x0, .int .i64 x1, .int .i64 x2, .int .i64 x3] 24))) (b := w5.heap.size) (c := 1) (x0 := x0) (x1 := x1) (x2 := x2) (x3 := x3) (HO.out.ext (Ext.alloc (Ext.refl _) _)) (by omega) (by have := Ext.size X5.out; simp; omega) (by simp) (by simp) (by simp) (by simp) 22
      have X7 : Hid (Ext w w7) := Lib.hid (Ext.below (Ext.alloc X5.out _) hB7)
      clear hB7
      refine' next_in 4 rfl (by kernel_rfl) (by rfl) (fun K hK => ?_)
      refine oper_append (.tmp 46) (.tmp 48) 22 rfl rfl rfl hrun7 ?_
      refine hK.out _ _ (trivial) (fun hHeld => ?_); clear hK K; try simp only [Act.put, List.setIfInBounds_toArray, List.set_cons_zero, List.set_cons_succ]
      (refine' take_in 5 rfl (by kernel_rfl) (by kernel_rfl) (by kernel_rfl) (fun _ _ _ h => h) (by rfl) (by assumption) ?_ ?_; rotate_left; focus (intro w hSw; (try dsimp only at hSw); go_simp; try with_reducible rfl)); try simp only [Act.put, List.setIfInBounds_toArray, List.set_cons_zero, List.set_cons_succ]
      (refine' take_in 6 rfl (by kernel_rfl) (by kernel_rfl) (by kernel_rfl) (fun _ _ _ h => h) (by rfl) (by assumption) ?_ ?_; rotate_left; focus (intro w hSw; (try dsimp only at hSw); go_simp; try with_reducible rfl)); try simp only [Act.put, List.setIfInBounds_toArray, List.set_cons_zero, List.set_cons_succ]
      refine wpAnyH_done (by kernel_rfl) ?_ _
      go_wp2_with fail
      refine bodyPost_ret (v := .tuple #[.slice A7 (l.length + 1) c7, .int .i64 0]) (by simp [results, Try.results23]; try rfl) rfl (RetHopV.mk (xs := [.int .i64 0]) hO7 X7.out (by simp))
    · go_simp
      refine hK.out _ _ (trivial) (fun hHeld => ?_); clear hK K; try simp only [Act.put, List.setIfInBounds_toArray, List.set_cons_zero, List.set_cons_succ]
      refine' next_in 1 rfl (by kernel_rfl) (by rfl) (fun K hK => ?_)
      go_simp
      (with_reducible refine (hClone_any A c l _ (HS.out.ext (by repeat (first | with_reducible exact Ext.refl _ | with_reducible refine Ext.drew ?_ | with_reducible refine Ext.drewN ?_ _ | with_reducible refine Ext.alloc ?_ _))) (by omega) hnil).mono ?_)
      rintro e w5 ⟨A3, c3, rfl, hA3, hO3, hx5⟩
      have hz5 := hx5.size
      try simp at hz5
      have X5 : Hid (Ext w w5) := Lib.hid (Ext.trans (by repeat (first | with_reducible exact X4.out | with_reducible refine Ext.drew ?_ | with_reducible refine Ext.drewN ?_ _ | with_reducible refine Ext.alloc ?_ _)) hx5)
      have HO : Hid (OwnHop w5 w.heap.size (.slice A3 l.length c3) l.length l) := Lib.hid (OwnHop.lower hO3 (by first | omega | (simp; omega)))
      clear hO3
      have n_0 : w5.cell? ⟨w4.heap.size, 0, none⟩ = some (.int .i64 x0) := hx5.has (by simp [go_sem])
      have n_1 : w5.cell? ⟨w4.heap.size, 1, none⟩ = some (.int .i64 x1) := hx5.has (by simp [go_sem])
      have n_2 : w5.cell? ⟨w4.heap.size, 2, none⟩ = some (.int .i64 x2) := hx5.has (by simp [go_sem])
      have n_3 : w5.cell? ⟨w4.heap.size, 3, none⟩ = some (.int .i64 x3) := hx5.has (by simp [go_sem])
      refine hK.out _ _ (trivial) (fun hHeld => ?_); clear hK K; try simp only [Act.put, List.setIfInBounds_toArray, List.set_cons_zero, List.set_cons_succ]
      obtain ⟨A7, c7, w7, hrun7, hO7, hB7⟩ := hop_app (w := w5) (b := w4.heap.size) (c := 1) (x0 := x0) (x1 := x1) (x2 := x2) (x3 := x3) HO.out (by omega) (Ext.size X5.out) n_0 n_1 n_2 n_3 22
      have X7 : Hid (Ext w w7) := Lib.hid (Ext.below X5.out hB7)
      clear hB7
      refine' next_in 4 rfl (by kernel_rfl) (by rfl) (fun K hK => ?_)
      refine oper_append (.tmp 46) (.tmp 48) 22 rfl rfl rfl hrun7 ?_
      refine hK.out _ _ (trivial) (fun hHeld => ?_); clear hK K; try simp only [Act.put, List.setIfInBounds_toArray, List.set_cons_zero, List.set_cons_succ]
      (refine' take_in 5 rfl (by kernel_rfl) (by kernel_rfl) (by kernel_rfl) (fun _ _ _ h => h) (by rfl) (by assumption) ?_ ?_; rotate_left; focus (intro w hSw; (try dsimp only at hSw); go_simp; try with_reducible rfl)); try simp only [Act.put, List.setIfInBounds_toArray, List.set_cons_zero, List.set_cons_succ]
      (refine' take_in 6 rfl (by kernel_rfl) (by kernel_rfl) (by kernel_rfl) (fun _ _ _ h => h) (by rfl) (by assumption) ?_ ?_; rotate_left; focus (intro w hSw; (try dsimp only at hSw); go_simp; try with_reducible rfl)); try simp only [Act.put, List.setIfInBounds_toArray, List.set_cons_zero, List.set_cons_succ]
      refine wpAnyH_done (by kernel_rfl) ?_ _
      go_wp2_with fail
      refine bodyPost_ret (v := .tuple #[.slice A7 (l.length + 1) c7, .int .i64 0]) (by simp [results, Try.results23]; try rfl) rfl (RetHopV.mk (xs := [.int .i64 0]) hO7 X7.out (by simp))
theorem addV_no {l : List (Int × Int × Int × Int)} {x : (Int × Int × Int × Int)} {mo e : Int} (h : addE l x mo = e) (hne : e ≠ 0) : addV l x mo = ([], e) := by
  unfold addV
  rw [if_neg (by rw [h]; exact hne), h]
theorem addV_ok {l : List (Int × Int × Int × Int)} {x : (Int × Int × Int × Int)} {mo : Int} (h : addE l x mo = 0) : addV l x mo = (l ++ [x], 0) := if_pos h
set_option maxRecDepth 100000 in
set_option maxHeartbeats 4000000 in
theorem hopAdd_any (A : Option Addr) (n c : Nat) (l : List (Int × Int × Int × Int)) (x0 x1 x2 x3 mo : Int) (w : World) (h : Sl w 4 A n c (l.flatMap hopC)) (hn : n < 1099511627776) (hw : ∀ x ∈ l, FitsH x) (hfx : FitsH (x0, x1, x2, x3)) (hnil : A = none → c = 0) :
    Calls Try.prog 23 #[.slice A n c, .agg #[.int .i64 x0, .int .i64 x1, .int .i64 x2, .int .i64 x3], .int .i64 mo] w (RetHopV (addV l (x0, x1, x2, x3) mo).1 [.int .i64 (addV l (x0, x1, x2, x3) mo).2] w) := by
  have hl := h.rlen hopC_len (by decide)
  obtain ⟨⟨f1, f2⟩, hf⟩ : ∃ F, F = chkH l := ⟨_, rfl⟩
  obtain ⟨mv, hm⟩ : ∃ m, m = mayV (x0, x1, x2, x3) l := ⟨_, rfl⟩
  obtain ⟨cv, hv⟩ : ∃ c, c = cntL l x0 x1 x2 := ⟨_, rfl⟩
  have hE : addE l (x0, x1, x2, x3) mo = if f1 ≠ 0 then f1 else if mv = 3 ∨ mo < 1 ∨ mo > 16 then 3 else if mv ≠ 0 then mv else if mo ≤ cv then 22 else if 4096 ≤ l.length then 4 else 0 := by
    unfold addE
    rw [← hf, ← hm, ← hv]
  by_cases hc : f1 = 0
  · by_cases h3 : mv = 3
    · rw [addV_no (e := 3) (by rw [hE]; repeat' split <;> omega) (by omega)]
      exact hopAdd_rng A n c l x0 x1 x2 x3 mo f1 f2 mv cv w h hn hw hfx hf hm hv hc h3
    by_cases h4 : mo < 1
    · rw [addV_no (e := 3) (by rw [hE]; repeat' split <;> omega) (by omega)]
      exact hopAdd_lo A n c l x0 x1 x2 x3 mo f1 f2 mv cv w h hn hw hfx hf hm hv hc h3 h4
    by_cases h5 : mo > 16
    · rw [addV_no (e := 3) (by rw [hE]; repeat' split <;> omega) (by omega)]
      exact hopAdd_hi A n c l x0 x1 x2 x3 mo f1 f2 mv cv w h hn hw hfx hf hm hv hc h3 h4 h5
    by_cases h6 : mv = 0
    · by_cases h7 : cv ≥ mo
      · rw [addV_no (e := 22) (by rw [hE]; repeat' split <;> omega) (by omega)]
        exact hopAdd_cap A n c l x0 x1 x2 x3 mo f1 f2 mv cv w h hn hw hfx hf hm hv hc h3 h4 h5 h6 h7
      by_cases h8 : 4096 ≤ n
      · rw [addV_no (e := 4) (by rw [hE]; repeat' split <;> omega) (by omega)]
        exact hopAdd_long A n c l x0 x1 x2 x3 mo f1 f2 mv cv w h hn hw hfx hf hm hv hc h3 h4 h5 h6 h7 h8
      rw [addV_ok (by rw [hE]; repeat' split <;> omega)]
      exact hopAdd_ok A n c l x0 x1 x2 x3 mo f1 f2 mv cv w h hn hw hfx hf hm hv hc h3 h4 h5 h6 h7 h8 hnil
    · rw [addV_no (e := mv) (by rw [hE]; repeat' split <;> omega) (by omega)]
      exact hopAdd_bad A n c l x0 x1 x2 x3 mo f1 f2 mv cv w h hn hw hfx hf hm hv hc h3 h4 h5 h6
  · rw [addV_no (e := f1) (by rw [hE]; repeat' split <;> omega) (by omega)]
    exact hopAdd_chk A n c l x0 x1 x2 x3 mo f1 f2 mv cv w h hn hw hfx hf hm hv hc
end Go.Proofs.Ytjdpgapmdmpjjaa
