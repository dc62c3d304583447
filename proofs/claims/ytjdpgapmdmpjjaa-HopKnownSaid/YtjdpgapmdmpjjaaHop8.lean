/- hops: which are ripe: what is refused. Conditions stand in each lemma. -/
import Derived.Test.YtjdpgapmdmpjjaaHop7
set_option linter.unusedVariables false
set_option linter.unusedSimpArgs false
namespace Go.Proofs.Ytjdpgapmdmpjjaa
open Go.RowKit Go.ChangeShapes Go.WideShapes Go.Deep Go.Joins

/-- why it is not told which are ripe -/
def ripE (l : List (Int × Int × Int × Int)) (hh u : Int) : Int := if (chkH l).1 ≠ 0 then (chkH l).1 else if hh < 1 ∨ hh > 4294967296 ∨ ¬ (1 ≤ u ∧ u ≤ 1048576) then 3 else 0
/-- which are ripe, and which are left -/
def ripV (l : List (Int × Int × Int × Int)) (hh u : Int) : List (Int × Int × Int × Int) × List (Int × Int × Int × Int) × Int := if ripE l hh u = 0 then (l.filter (fun x => decide (x.2.2.2 + u ≤ hh)), l.filter (fun x => !decide (x.2.2.2 + u ≤ hh)), 0) else ([], [], ripE l hh u)
/-- two lists handed back, apart from each other, and an error -/
def RetHop2 (r1 r2 : List (Int × Int × Int × Int)) (er : Int) (w : World) (e : Ending) (w' : World) : Prop := ∃ A1 c1 A2 c2, e = .returned (.tuple #[.slice A1 r1.length c1, .slice A2 r2.length c2, .int .i64 er]) ∧ (A1 = none → c1 = 0) ∧ (A2 = none → c2 = 0) ∧
  OwnHop w' w.heap.size (.slice A1 r1.length c1) r1.length r1 ∧ OwnHop w' w.heap.size (.slice A2 r2.length c2) r2.length r2 ∧ (∀ b o s b' o' s', A1 = some ⟨b, o, s⟩ → A2 = some ⟨b', o', s'⟩ → b ≠ b') ∧ Ext w w'
theorem RetHop2.nil {er : Int} {w w' : World} (hx : Ext w w') : RetHop2 [] [] er w (.returned (.tuple #[.slice none 0 0, .slice none 0 0, .int .i64 er])) w' :=
  ⟨none, 0, none, 0, rfl, fun _ => rfl, fun _ => rfl, OwnHop.nil _ _, OwnHop.nil _ _, (fun b o s b' o' s' h => by cases h), hx⟩
theorem ripV_no {l : List (Int × Int × Int × Int)} {hh u e : Int} (h : ripE l hh u = e) (hne : e ≠ 0) : ripV l hh u = ([], [], e) := by
  unfold ripV
  rw [if_neg (by rw [h]; exact hne), h]
set_option maxRecDepth 100000 in
set_option maxHeartbeats 4000000 in
theorem hopRipe_chk (A : Option Addr) (n c : Nat) (l : List (Int × Int × Int × Int)) (hh u f1 f2 : Int) (w : World) (h : Sl w 4 A n c (l.flatMap hopC)) (hw : ∀ x ∈ l, FitsH x) (hf : (f1, f2) = chkH l) (hc : f1 ≠ 0) :
    Calls Try.prog 25 #[.slice A n c, .int .i64 hh, .int .i64 u] w (RetHop2 [] [] f1 w) := by
  have s1 := h.small
  have e0 : (f1 != 0) = true := by simpa using hc
  have HS := Lib.hid h
  have HW := Lib.hid hw
  have HF := Lib.hid hf
  clear h hw hf
  go_enter Try.func25, Try.ntmps25
  go_wp2_with fail
  (with_reducible refine (hopCheck_ev A n c l f1 f2 _ (HS.out.ext (by repeat (first | with_reducible exact Ext.refl _ | with_reducible refine Ext.drew ?_ | with_reducible refine Ext.drewN ?_ _ | with_reducible refine Ext.alloc ?_ _ | with_reducible refine Ext.setCell ?_ (by first | omega | (simp; done) | (simp; omega)) _))) (fits_t HW.out) HF.out).mono ?_)
  rintro e w1 ⟨rfl, hx1⟩
  have z1 := hx1.size
  try simp at z1
  replace HS := Lib.hid (HS.out.ext (Ext.trans (by repeat (first | with_reducible exact Ext.refl _ | with_reducible refine Ext.drew ?_ | with_reducible refine Ext.drewN ?_ _ | with_reducible refine Ext.alloc ?_ _ | with_reducible refine Ext.setCell ?_ (by first | omega | (simp; done) | (simp; omega)) _)) hx1))
  have X1 : Hid (Ext w w1) := Lib.hid (Ext.trans (by repeat (first | with_reducible exact Ext.refl w | with_reducible refine Ext.drew ?_ | with_reducible refine Ext.drewN ?_ _ | with_reducible refine Ext.alloc ?_ _ | with_reducible refine Ext.setCell ?_ (by first | omega | (simp; done) | (simp; omega)) _)) hx1)
  clear hx1 z1
  go_wp2_with fail
  refine bodyPost_ret (v := .tuple #[.slice none 0 0, .slice none 0 0, .int .i64 f1]) (by simp [results, Try.results25, go_sem, World.cell?_alloc_past]; try rfl) rfl (RetHop2.nil ?_)
  exact (by repeat (first | with_reducible exact X1.out | with_reducible refine Ext.drew ?_ | with_reducible refine Ext.drewN ?_ _ | with_reducible refine Ext.alloc ?_ _ | with_reducible refine Ext.setCell ?_ (by first | omega | (simp; done) | (simp; omega)) _))
set_option maxRecDepth 100000 in
set_option maxHeartbeats 4000000 in
theorem hopRipe_lo (A : Option Addr) (n c : Nat) (l : List (Int × Int × Int × Int)) (hh u f1 f2 : Int) (w : World) (h : Sl w 4 A n c (l.flatMap hopC)) (hw : ∀ x ∈ l, FitsH x) (hf : (f1, f2) = chkH l) (hc : f1 = 0) (h4 : hh < 1) :
    Calls Try.prog 25 #[.slice A n c, .int .i64 hh, .int .i64 u] w (RetHop2 [] [] 3 w) := by
  have s1 := h.small
  subst hc
  have HS := Lib.hid h
  have HW := Lib.hid hw
  have HF := Lib.hid hf
  clear h hw hf
  go_enter Try.func25, Try.ntmps25
  go_wp2_with fail
  (with_reducible refine (hopCheck_ev A n c l 0 f2 _ (HS.out.ext (by repeat (first | with_reducible exact Ext.refl _ | with_reducible refine Ext.drew ?_ | with_reducible refine Ext.drewN ?_ _ | with_reducible refine Ext.alloc ?_ _ | with_reducible refine Ext.setCell ?_ (by first | omega | (simp; done) | (simp; omega)) _))) (fits_t HW.out) HF.out).mono ?_)
  rintro e w1 ⟨rfl, hx1⟩
  have z1 := hx1.size
  try simp at z1
  replace HS := Lib.hid (HS.out.ext (Ext.trans (by repeat (first | with_reducible exact Ext.refl _ | with_reducible refine Ext.drew ?_ | with_reducible refine Ext.drewN ?_ _ | with_reducible refine Ext.alloc ?_ _ | with_reducible refine Ext.setCell ?_ (by first | omega | (simp; done) | (simp; omega)) _)) hx1))
  have X1 : Hid (Ext w w1) := Lib.hid (Ext.trans (by repeat (first | with_reducible exact Ext.refl w | with_reducible refine Ext.drew ?_ | with_reducible refine Ext.drewN ?_ _ | with_reducible refine Ext.alloc ?_ _ | with_reducible refine Ext.setCell ?_ (by first | omega | (simp; done) | (simp; omega)) _)) hx1)
  clear hx1 z1
  go_wp2_with fail
  refine bodyPost_ret (v := .tuple #[.slice none 0 0, .slice none 0 0, .int .i64 3]) (by simp [results, Try.results25, go_sem, World.cell?_alloc_past]; try rfl) rfl (RetHop2.nil ?_)
  exact (by repeat (first | with_reducible exact X1.out | with_reducible refine Ext.drew ?_ | with_reducible refine Ext.drewN ?_ _ | with_reducible refine Ext.alloc ?_ _ | with_reducible refine Ext.setCell ?_ (by first | omega | (simp; done) | (simp; omega)) _))
set_option maxRecDepth 100000 in
set_option maxHeartbeats 4000000 in
theorem hopRipe_hi (A : Option Addr) (n c : Nat) (l : List (Int × Int × Int × Int)) (hh u f1 f2 : Int) (w : World) (h : Sl w 4 A n c (l.flatMap hopC)) (hw : ∀ x ∈ l, FitsH x) (hf : (f1, f2) = chkH l) (hc : f1 = 0) (h4 : ¬ hh < 1) (h5 : hh > 4294967296) :
    Calls Try.prog 25 #[.slice A n c, .int .i64 hh, .int .i64 u] w (RetHop2 [] [] 3 w) := by
  have s1 := h.small
  subst hc
  have HS := Lib.hid h
  have HW := Lib.hid hw
  have HF := Lib.hid hf
  clear h hw hf
  go_enter Try.func25, Try.ntmps25
  go_wp2_with fail
  (with_reducible refine (hopCheck_ev A n c l 0 f2 _ (HS.out.ext (by repeat (first | with_reducible exact Ext.refl _ | with_reducible refine Ext.drew ?_ | with_reducible refine Ext.drewN ?_ _ | with_reducible refine Ext.alloc ?_ _ | with_reducible refine Ext.setCell ?_ (by first | omega | (simp; done) | (simp; omega)) _))) (fits_t HW.out) HF.out).mono ?_)
  rintro e w1 ⟨rfl, hx1⟩
  have z1 := hx1.size
  try simp at z1
  replace HS := Lib.hid (HS.out.ext (Ext.trans (by repeat (first | with_reducible exact Ext.refl _ | with_reducible refine Ext.drew ?_ | with_reducible refine Ext.drewN ?_ _ | with_reducible refine Ext.alloc ?_ _ | with_reducible refine Ext.setCell ?_ (by first | omega | (simp; done) | (simp; omega)) _)) hx1))
  have X1 : Hid (Ext w w1) := Lib.hid (Ext.trans (by repeat (first | with_reducible exact Ext.refl w | with_reducible refine Ext.drew ?_ | with_reducible refine Ext.drewN ?_ _ | with_reducible refine Ext.alloc ?_ _ | with_reducible refine Ext.setCell ?_ (by first | omega | (simp; done) | (simp; omega)) _)) hx1)
  clear hx1 z1
  go_wp2_with fail
  refine bodyPost_ret (v := .tuple #[.slice none 0 0, .slice none 0 0, .int .i64 3]) (by simp [results, Try.results25, go_sem, World.cell?_alloc_past]; try rfl) rfl (RetHop2.nil ?_)
  exact (by repeat (first | with_reducible exact X1.out | with_reducible refine Ext.drew ?_ | with_reducible refine Ext.drewN ?_ _ | with_reducible refine Ext.alloc ?_ _ | with_reducible refine Ext.setCell ?_ (by first | omega | (simp; done) | (simp; omega)) _))
set_option maxRecDepth 100000 in
set_option maxHeartbeats 4000000 in
theorem hopRipe_tm (A : Option Addr) (n c : Nat) (l : List (Int × Int × Int × Int)) (hh u f1 f2 : Int) (w : World) (h : Sl w 4 A n c (l.flatMap hopC)) (hw : ∀ x ∈ l, FitsH x) (hf : (f1, f2) = chkH l) (hc : f1 = 0) (h4 : ¬ hh < 1) (h5 : ¬ hh > 4294967296) (h6 : ¬ (1 ≤ u ∧ u ≤ 1048576)) :
    Calls Try.prog 25 #[.slice A n c, .int .i64 hh, .int .i64 u] w (RetHop2 [] [] 3 w) := by
  have s1 := h.small
  subst hc
  have HB : Hid (false = decide (1 ≤ u ∧ u ≤ 1048576)) := Lib.hid (decide_eq_false h6).symm
  have HS := Lib.hid h
  have HW := Lib.hid hw
  have HF := Lib.hid hf
  clear h hw hf
  go_enter Try.func25, Try.ntmps25
  go_wp2_with fail
  (with_reducible refine (hopCheck_ev A n c l 0 f2 _ (HS.out.ext (by repeat (first | with_reducible exact Ext.refl _ | with_reducible refine Ext.drew ?_ | with_reducible refine Ext.drewN ?_ _ | with_reducible refine Ext.alloc ?_ _ | with_reducible refine Ext.setCell ?_ (by first | omega | (simp; done) | (simp; omega)) _))) (fits_t HW.out) HF.out).mono ?_)
  rintro e w1 ⟨rfl, hx1⟩
  have z1 := hx1.size
  try simp at z1
  replace HS := Lib.hid (HS.out.ext (Ext.trans (by repeat (first | with_reducible exact Ext.refl _ | with_reducible refine Ext.drew ?_ | with_reducible refine Ext.drewN ?_ _ | with_reducible refine Ext.alloc ?_ _ | with_reducible refine Ext.setCell ?_ (by first | omega | (simp; done) | (simp; omega)) _)) hx1))
  have X1 : Hid (Ext w w1) := Lib.hid (Ext.trans (by repeat (first | with_reducible exact Ext.refl w | with_reducible refine Ext.drew ?_ | with_reducible refine Ext.drewN ?_ _ | with_reducible refine Ext.alloc ?_ _ | with_reducible refine Ext.setCell ?_ (by first | omega | (simp; done) | (simp; omega)) _)) hx1)
  clear hx1 z1
  go_wp2_with fail
  (with_reducible refine (hopTime_any u false _ HB.out).mono ?_)
  rintro e w2 ⟨rfl, hx2⟩
  have z2 := hx2.size
  try simp at z2
  replace HS := Lib.hid (HS.out.ext (Ext.trans (by repeat (first | with_reducible exact Ext.refl _ | with_reducible refine Ext.drew ?_ | with_reducible refine Ext.drewN ?_ _ | with_reducible refine Ext.alloc ?_ _ | with_reducible refine Ext.setCell ?_ (by first | omega | (simp; done) | (simp; omega)) _)) hx2))
  have X2 : Hid (Ext w w2) := Lib.hid (Ext.trans (by repeat (first | with_reducible exact X1.out | with_reducible refine Ext.drew ?_ | with_reducible refine Ext.drewN ?_ _ | with_reducible refine Ext.alloc ?_ _ | with_reducible refine Ext.setCell ?_ (by first | omega | (simp; done) | (simp; omega)) _)) hx2)
  clear X1 hx2 z2
  go_wp2_with fail
  refine bodyPost_ret (v := .tuple #[.slice none 0 0, .slice none 0 0, .int .i64 3]) (by simp [results, Try.results25, go_sem, World.cell?_alloc_past]; try rfl) rfl (RetHop2.nil ?_)
  exact (by repeat (first | with_reducible exact X2.out | with_reducible refine Ext.drew ?_ | with_reducible refine Ext.drewN ?_ _ | with_reducible refine Ext.alloc ?_ _ | with_reducible refine Ext.setCell ?_ (by first | omega | (simp; done) | (simp; omega)) _))
set_option maxRecDepth 100000 in
set_option maxHeartbeats 4000000 in
theorem rRipe15_chk (A : Option Addr) (n c : Nat) (l : List (Int × Int × Int × Int)) (hh u f1 f2 : Int) (w : World) (h : Sl w 4 A n c (l.flatMap hopC)) (hw : ∀ x ∈ l, FitsH x) (hf : (f1, f2) = chkH l) (hc : f1 ≠ 0) :
    Calls Try.prog 26 #[.slice A n c, .int .i64 hh, .int .i64 u] w (RetHop2 [] [] f1 w) := by
  have s1 := h.small
  have e0 : (f1 != 0) = true := by simpa using hc
  have HS := Lib.hid h
  have HW := Lib.hid hw
  have HF := Lib.hid hf
  clear h hw hf
  go_enter Try.func26, Try.ntmps26
  go_wp2_with fail
  (with_reducible refine (rCheck15_ev A n c l f1 f2 _ (HS.out.ext (by repeat (first | with_reducible exact Ext.refl _ | with_reducible refine Ext.drew ?_ | with_reducible refine Ext.drewN ?_ _ | with_reducible refine Ext.alloc ?_ _ | with_reducible refine Ext.setCell ?_ (by first | omega | (simp; done) | (simp; omega)) _))) (fits_t HW.out) HF.out).mono ?_)
  rintro e w1 ⟨rfl, hx1⟩
  have z1 := hx1.size
  try simp at z1
  replace HS := Lib.hid (HS.out.ext (Ext.trans (by repeat (first | with_reducible exact Ext.refl _ | with_reducible refine Ext.drew ?_ | with_reducible refine Ext.drewN ?_ _ | with_reducible refine Ext.alloc ?_ _ | with_reducible refine Ext.setCell ?_ (by first | omega | (simp; done) | (simp; omega)) _)) hx1))
  have X1 : Hid (Ext w w1) := Lib.hid (Ext.trans (by repeat (first | with_reducible exact Ext.refl w | with_reducible refine Ext.drew ?_ | with_reducible refine Ext.drewN ?_ _ | with_reducible refine Ext.alloc ?_ _ | with_reducible refine Ext.setCell ?_ (by first | omega | (simp; done) | (simp; omega)) _)) hx1)
  clear hx1 z1
  go_wp2_with fail
  refine bodyPost_ret (v := .tuple #[.slice none 0 0, .slice none 0 0, .int .i64 f1]) (by simp [results, Try.results26, go_sem, World.cell?_alloc_past]; try rfl) rfl (RetHop2.nil ?_)
  exact (by repeat (first | with_reducible exact X1.out | with_reducible refine Ext.drew ?_ | with_reducible refine Ext.drewN ?_ _ | with_reducible refine Ext.alloc ?_ _ | with_reducible refine Ext.setCell ?_ (by first | omega | (simp; done) | (simp; omega)) _))
set_option maxRecDepth 100000 in
set_option maxHeartbeats 4000000 in
theorem rRipe15_lo (A : Option Addr) (n c : Nat) (l : List (Int × Int × Int × Int)) (hh u f1 f2 : Int) (w : World) (h : Sl w 4 A n c (l.flatMap hopC)) (hw : ∀ x ∈ l, FitsH x) (hf : (f1, f2) = chkH l) (hc : f1 = 0) (h4 : hh < 1) :
    Calls Try.prog 26 #[.slice A n c, .int .i64 hh, .int .i64 u] w (RetHop2 [] [] 3 w) := by
  have s1 := h.small
  subst hc
  have HS := Lib.hid h
  have HW := Lib.hid hw
  have HF := Lib.hid hf
  clear h hw hf
  go_enter Try.func26, Try.ntmps26
  go_wp2_with fail
  (with_reducible refine (rCheck15_ev A n c l 0 f2 _ (HS.out.ext (by repeat (first | with_reducible exact Ext.refl _ | with_reducible refine Ext.drew ?_ | with_reducible refine Ext.drewN ?_ _ | with_reducible refine Ext.alloc ?_ _ | with_reducible refine Ext.setCell ?_ (by first | omega | (simp; done) | (simp; omega)) _))) (fits_t HW.out) HF.out).mono ?_)
  rintro e w1 ⟨rfl, hx1⟩
  have z1 := hx1.size
  try simp at z1
  replace HS := Lib.hid (HS.out.ext (Ext.trans (by repeat (first | with_reducible exact Ext.refl _ | with_reducible refine Ext.drew ?_ | with_reducible refine Ext.drewN ?_ _ | with_reducible refine Ext.alloc ?_ _ | with_reducible refine Ext.setCell ?_ (by first | omega | (simp; done) | (simp; omega)) _)) hx1))
  have X1 : Hid (Ext w w1) := Lib.hid (Ext.trans (by repeat (first | with_reducible exact Ext.refl w | with_reducible refine Ext.drew ?_ | with_reducible refine Ext.drewN ?_ _ | with_reducible refine Ext.alloc ?_ _ | with_reducible refine Ext.setCell ?_ (by first | omega | (simp; done) | (simp; omega)) _)) hx1)
  clear hx1 z1
  go_wp2_with fail
  refine bodyPost_ret (v := .tuple #[.slice none 0 0, .slice none 0 0, .int .i64 3]) (by simp [results, Try.results26, go_sem, World.cell?_alloc_past]; try rfl) rfl (RetHop2.nil ?_)
  exact (by repeat (first | with_reducible exact X1.out | with_reducible refine Ext.drew ?_ | with_reducible refine Ext.drewN ?_ _ | with_reducible refine Ext.alloc ?_ _ | with_reducible refine Ext.setCell ?_ (by first | omega | (simp; done) | (simp; omega)) _))
set_option maxRecDepth 100000 in
set_option maxHeartbeats 4000000 in
theorem rRipe15_hi (A : Option Addr) (n c : Nat) (l : List (Int × Int × Int × Int)) (hh u f1 f2 : Int) (w : World) (h : Sl w 4 A n c (l.flatMap hopC)) (hw : ∀ x ∈ l, FitsH x) (hf : (f1, f2) = chkH l) (hc : f1 = 0) (h4 : ¬ hh < 1) (h5 : hh > 4294967296) :
    Calls Try.prog 26 #[.slice A n c, .int .i64 hh, .int .i64 u] w (RetHop2 [] [] 3 w) := by
  have s1 := h.small
  subst hc
  have HS := Lib.hid h
  have HW := Lib.hid hw
  have HF := Lib.hid hf
  clear h hw hf
  go_enter Try.func26, Try.ntmps26
  go_wp2_with fail
  (with_reducible refine (rCheck15_ev A n c l 0 f2 _ (HS.out.ext (by repeat (first | with_reducible exact Ext.refl _ | with_reducible refine Ext.drew ?_ | with_reducible refine Ext.drewN ?_ _ | with_reducible refine Ext.alloc ?_ _ | with_reducible refine Ext.setCell ?_ (by first | omega | (simp; done) | (simp; omega)) _))) (fits_t HW.out) HF.out).mono ?_)
  rintro e w1 ⟨rfl, hx1⟩
  have z1 := hx1.size
  try simp at z1
  replace HS := Lib.hid (HS.out.ext (Ext.trans (by repeat (first | with_reducible exact Ext.refl _ | with_reducible refine Ext.drew ?_ | with_reducible refine Ext.drewN ?_ _ | with_reducible refine Ext.alloc ?_ _ | with_reducible refine Ext.setCell ?_ (by first | omega | (simp; done) | (simp; omega)) _)) hx1))
  have X1 : Hid (Ext w w1) := Lib.hid (Ext.trans (by repeat (first | with_reducible exact Ext.refl w | with_reducible refine Ext.drew ?_ | with_reducible refine Ext.drewN ?_ _ | with_reducible refine Ext.alloc ?_ _ | with_reducible refine Ext.setCell ?_ (by first | omega | (simp; done) | (simp; omega)) _)) hx1)
  clear hx1 z1
  go_wp2_with fail
  refine bodyPost_ret (v := .tuple #[.slice none 0 0, .slice none 0 0, .int .i64 3]) (by simp [results, Try.results26, go_sem, World.cell?_alloc_past]; try rfl) rfl (RetHop2.nil ?_)
  exact (by repeat (first | with_reducible exact X1.out | with_reducible refine Ext.drew ?_ | with_reducible refine Ext.drewN ?_ _ | with_reducible refine Ext.alloc ?_ _ | with_reducible refine Ext.setCell ?_ (by first | omega | (simp; done) | (simp; omega)) _))
set_option maxRecDepth 100000 in
set_option maxHeartbeats 4000000 in
theorem rRipe15_tm (A : Option Addr) (n c : Nat) (l : List (Int × Int × Int × Int)) (hh u f1 f2 : Int) (w : World) (h : Sl w 4 A n c (l.flatMap hopC)) (hw : ∀ x ∈ l, FitsH x) (hf : (f1, f2) = chkH l) (hc : f1 = 0) (h4 : ¬ hh < 1) (h5 : ¬ hh > 4294967296) (h6 : ¬ (1 ≤ u ∧ u ≤ 1048576)) :
    Calls Try.prog 26 #[.slice A n c, .int .i64 hh, .int .i64 u] w (RetHop2 [] [] 3 w) := by
  have s1 := h.small
  subst hc
  have HB : Hid (false = decide (1 ≤ u ∧ u ≤ 1048576)) := Lib.hid (decide_eq_false h6).symm
  have HS := Lib.hid h
  have HW := Lib.hid hw
  have HF := Lib.hid hf
  clear h hw hf
  go_enter Try.func26, Try.ntmps26
  go_wp2_with fail
  (with_reducible refine (rCheck15_ev A n c l 0 f2 _ (HS.out.ext (by repeat (first | with_reducible exact Ext.refl _ | with_reducible refine Ext.drew ?_ | with_reducible refine Ext.drewN ?_ _ | with_reducible refine Ext.alloc ?_ _ | with_reducible refine Ext.setCell ?_ (by first | omega | (simp; done) | (simp; omega)) _))) (fits_t HW.out) HF.out).mono ?_)
  rintro e w1 ⟨rfl, hx1⟩
  have z1 := hx1.size
  try simp at z1
  replace HS := Lib.hid (HS.out.ext (Ext.trans (by repeat (first | with_reducible exact Ext.refl _ | with_reducible refine Ext.drew ?_ | with_reducible refine Ext.drewN ?_ _ | with_reducible refine Ext.alloc ?_ _ | with_reducible refine Ext.setCell ?_ (by first | omega | (simp; done) | (simp; omega)) _)) hx1))
  have X1 : Hid (Ext w w1) := Lib.hid (Ext.trans (by repeat (first | with_reducible exact Ext.refl w | with_reducible refine Ext.drew ?_ | with_reducible refine Ext.drewN ?_ _ | with_reducible refine Ext.alloc ?_ _ | with_reducible refine Ext.setCell ?_ (by first | omega | (simp; done) | (simp; omega)) _)) hx1)
  clear hx1 z1
  go_wp2_with fail
  (with_reducible refine (rTime15_any u false _ HB.out).mono ?_)
  rintro e w2 ⟨rfl, hx2⟩
  have z2 := hx2.size
  try simp at z2
  replace HS := Lib.hid (HS.out.ext (Ext.trans (by repeat (first | with_reducible exact Ext.refl _ | with_reducible refine Ext.drew ?_ | with_reducible refine Ext.drewN ?_ _ | with_reducible refine Ext.alloc ?_ _ | with_reducible refine Ext.setCell ?_ (by first | omega | (simp; done) | (simp; omega)) _)) hx2))
  have X2 : Hid (Ext w w2) := Lib.hid (Ext.trans (by repeat (first | with_reducible exact X1.out | with_reducible refine Ext.drew ?_ | with_reducible refine Ext.drewN ?_ _ | with_reducible refine Ext.alloc ?_ _ | with_reducible refine Ext.setCell ?_ (by first | omega | (simp; done) | (simp; omega)) _)) hx2)
  clear X1 hx2 z2
  go_wp2_with fail
  refine bodyPost_ret (v := .tuple #[.slice none 0 0, .slice none 0 0, .int .i64 3]) (by simp [results, Try.results26, go_sem, World.cell?_alloc_past]; try rfl) rfl (RetHop2.nil ?_)
  exact (by repeat (first | with_reducible exact X2.out | with_reducible refine Ext.drew ?_ | with_reducible refine Ext.drewN ?_ _ | with_reducible refine Ext.alloc ?_ _ | with_reducible refine Ext.setCell ?_ (by first | omega | (simp; done) | (simp; omega)) _))
end Go.Proofs.Ytjdpgapmdmpjjaa
