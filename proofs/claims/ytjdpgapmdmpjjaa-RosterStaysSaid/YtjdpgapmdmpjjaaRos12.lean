/- roster: Jail. Conditions stand in each lemma. -/
import Derived.Test.YtjdpgapmdmpjjaaRos11
set_option linter.unusedVariables false
set_option linter.unusedSimpArgs false
namespace Go.Proofs.Ytjdpgapmdmpjjaa
open Go.RowKit Go.ChangeShapes Go.WideShapes Go.Deep Go.Joins

theorem rosRefuse_ev (A : Option Addr) (n c : Nat) (l : List (Int × Int × Int × Int × Bool × Bool)) (v ev : Int) (w : World) (h : Sl w 6 A n c (l.flatMap valC)) (he : ev = rfsV l v) :
    Calls Try.prog 46 #[.slice A n c, .int .i64 v] w fun e w' => e = .returned (.int .i64 ev) ∧ Ext w w' := by
  rw [he]
  exact rosRefuse_any A n c l v w h
/-- one is jailed -/
def jailV (l : List (Int × Int × Int × Int × Bool × Bool)) (v u : Int) : List (Int × Int × Int × Int × Bool × Bool) × Int :=
  if (chkV l).1 ≠ 0 then ([], (chkV l).1) else if rfsV l v ≠ 0 then ([], rfsV l v) else if ¬ (1 ≤ u ∧ u ≤ 4296015872) then ([], 3) else match l[v.toNat]? with | some x => (l.set v.toNat (jailOne x u), 0) | none => ([], 10)
set_option maxRecDepth 100000 in
set_option maxHeartbeats 1000000 in
theorem rosJail_chk (A : Option Addr) (c : Nat) (l : List (Int × Int × Int × Int × Bool × Bool)) (v u f1 f2 r : Int) (w : World) (h : Sl w 6 A l.length c (l.flatMap valC)) (hw : ∀ x ∈ l, (Lit.int .i64 x.1).wf = true) (hf : (f1, f2) = chkV l) (hr : r = rfsV l v) (hnil : A = none → c = 0) (hc : f1 ≠ 0) :
    Calls Try.prog 56 #[.slice A l.length c, .int .i64 v, .int .i64 u] w (RetV (jailV l v u).1 [.int .i64 (jailV l v u).2] w) := by
  have s1 := h.small
  have hv : jailV l v u = ([], f1) := by
    unfold jailV
    rw [← hf, ← hr]
    dsimp only
    rw [if_pos hc]
  rw [hv]
  dsimp only
  have e7 : (f1 != 0) = true := by simpa using hc
  have HS := Lib.hid h
  have HW := Lib.hid hw
  have HF := Lib.hid hf
  have HR := Lib.hid hr
  clear h hw hf hr hv
  go_enter Try.func56, Try.ntmps56
  go_wp2_with fail
  (with_reducible refine (rosCheck_ev A l.length c l f1 f2 _ (HS.out.ext (by repeat (first | with_reducible exact Ext.refl _ | with_reducible refine Ext.drew ?_ | with_reducible refine Ext.drewN ?_ _ | with_reducible refine Ext.alloc ?_ _ | with_reducible refine Ext.setCell ?_ (by first | omega | (simp; done) | (simp; omega)) _))) HW.out HF.out).mono ?_)
  rintro e w1 ⟨rfl, hx1⟩
  have z1 := hx1.size
  try simp at z1
  replace HS := Lib.hid (HS.out.ext (Ext.trans (by repeat (first | with_reducible exact Ext.refl _ | with_reducible refine Ext.drew ?_ | with_reducible refine Ext.drewN ?_ _ | with_reducible refine Ext.alloc ?_ _ | with_reducible refine Ext.setCell ?_ (by first | omega | (simp; done) | (simp; omega)) _)) hx1))
  have X1 : Hid (Ext w w1) := Lib.hid (Ext.trans (by repeat (first | with_reducible exact Ext.refl w | with_reducible refine Ext.drew ?_ | with_reducible refine Ext.drewN ?_ _ | with_reducible refine Ext.alloc ?_ _ | with_reducible refine Ext.setCell ?_ (by first | omega | (simp; done) | (simp; omega)) _)) hx1)
  clear hx1 z1
  go_wp2_with fail
  refine bodyPost_ret (v := .tuple #[.slice none 0 0, .int .i64 f1]) (by simp [results, Try.results56, go_sem, World.cell?_alloc_past]; try rfl) rfl (RetV.nil (xs := [.int .i64 f1]) ?_)
  exact (by repeat (first | with_reducible exact X1.out | with_reducible refine Ext.drew ?_ | with_reducible refine Ext.drewN ?_ _ | with_reducible refine Ext.alloc ?_ _ | with_reducible refine Ext.setCell ?_ (by first | omega | (simp; done) | (simp; omega)) _))
set_option maxRecDepth 100000 in
set_option maxHeartbeats 1000000 in
theorem rosJail_rfs (A : Option Addr) (c : Nat) (l : List (Int × Int × Int × Int × Bool × Bool)) (v u f1 f2 r : Int) (w : World) (h : Sl w 6 A l.length c (l.flatMap valC)) (hw : ∀ x ∈ l, (Lit.int .i64 x.1).wf = true) (hf : (f1, f2) = chkV l) (hr : r = rfsV l v) (hnil : A = none → c = 0) (hc : f1 = 0) (hr0 : r ≠ 0) :
    Calls Try.prog 56 #[.slice A l.length c, .int .i64 v, .int .i64 u] w (RetV (jailV l v u).1 [.int .i64 (jailV l v u).2] w) := by
  have s1 := h.small
  have hv : jailV l v u = ([], r) := by
    unfold jailV
    rw [← hf, ← hr]
    dsimp only
    rw [if_neg (by simpa using hc), if_pos hr0]
  rw [hv]
  dsimp only
  subst hc
  have e7 : (r != 0) = true := by simpa using hr0
  have HS := Lib.hid h
  have HW := Lib.hid hw
  have HF := Lib.hid hf
  have HR := Lib.hid hr
  clear h hw hf hr hv
  go_enter Try.func56, Try.ntmps56
  go_wp2_with fail
  (with_reducible refine (rosCheck_ev A l.length c l 0 f2 _ (HS.out.ext (by repeat (first | with_reducible exact Ext.refl _ | with_reducible refine Ext.drew ?_ | with_reducible refine Ext.drewN ?_ _ | with_reducible refine Ext.alloc ?_ _ | with_reducible refine Ext.setCell ?_ (by first | omega | (simp; done) | (simp; omega)) _))) HW.out HF.out).mono ?_)
  rintro e w1 ⟨rfl, hx1⟩
  have z1 := hx1.size
  try simp at z1
  replace HS := Lib.hid (HS.out.ext (Ext.trans (by repeat (first | with_reducible exact Ext.refl _ | with_reducible refine Ext.drew ?_ | with_reducible refine Ext.drewN ?_ _ | with_reducible refine Ext.alloc ?_ _ | with_reducible refine Ext.setCell ?_ (by first | omega | (simp; done) | (simp; omega)) _)) hx1))
  have X1 : Hid (Ext w w1) := Lib.hid (Ext.trans (by repeat (first | with_reducible exact Ext.refl w | with_reducible refine Ext.drew ?_ | with_reducible refine Ext.drewN ?_ _ | with_reducible refine Ext.alloc ?_ _ | with_reducible refine Ext.setCell ?_ (by first | omega | (simp; done) | (simp; omega)) _)) hx1)
  clear hx1 z1
  go_wp2_with fail
  (with_reducible refine (rosRefuse_ev A l.length c l v r _ (HS.out.ext (by repeat (first | with_reducible exact Ext.refl _ | with_reducible refine Ext.drew ?_ | with_reducible refine Ext.drewN ?_ _ | with_reducible refine Ext.alloc ?_ _ | with_reducible refine Ext.setCell ?_ (by first | omega | (simp; done) | (simp; omega)) _))) HR.out).mono ?_)
  rintro e w2 ⟨rfl, hx2⟩
  have z2 := hx2.size
  try simp at z2
  replace HS := Lib.hid (HS.out.ext (Ext.trans (by repeat (first | with_reducible exact Ext.refl _ | with_reducible refine Ext.drew ?_ | with_reducible refine Ext.drewN ?_ _ | with_reducible refine Ext.alloc ?_ _ | with_reducible refine Ext.setCell ?_ (by first | omega | (simp; done) | (simp; omega)) _)) hx2))
  have X2 : Hid (Ext w w2) := Lib.hid (Ext.trans (by repeat (first | with_reducible exact X1.out | with_reducible refine Ext.drew ?_ | with_reducible refine Ext.drewN ?_ _ | with_reducible refine Ext.alloc ?_ _ | with_reducible refine Ext.setCell ?_ (by first | omega | (simp; done) | (simp; omega)) _)) hx2)
  clear X1 hx2 z2
  go_wp2_with fail
  refine bodyPost_ret (v := .tuple #[.slice none 0 0, .int .i64 r]) (by simp [results, Try.results56, go_sem, World.cell?_alloc_past]; try rfl) rfl (RetV.nil (xs := [.int .i64 r]) ?_)
  exact (by repeat (first | with_reducible exact X2.out | with_reducible refine Ext.drew ?_ | with_reducible refine Ext.drewN ?_ _ | with_reducible refine Ext.alloc ?_ _ | with_reducible refine Ext.setCell ?_ (by first | omega | (simp; done) | (simp; omega)) _))
set_option maxRecDepth 100000 in
set_option maxHeartbeats 1000000 in
theorem rosJail_unt (A : Option Addr) (c : Nat) (l : List (Int × Int × Int × Int × Bool × Bool)) (v u f1 f2 r : Int) (w : World) (h : Sl w 6 A l.length c (l.flatMap valC)) (hw : ∀ x ∈ l, (Lit.int .i64 x.1).wf = true) (hf : (f1, f2) = chkV l) (hr : r = rfsV l v) (hnil : A = none → c = 0) (hc : f1 = 0) (hr0 : r = 0) (hu : ¬ (1 ≤ u ∧ u ≤ 4296015872)) :
    Calls Try.prog 56 #[.slice A l.length c, .int .i64 v, .int .i64 u] w (RetV (jailV l v u).1 [.int .i64 (jailV l v u).2] w) := by
  have s1 := h.small
  have hv : jailV l v u = ([], 3) := by
    unfold jailV
    rw [← hf, ← hr]
    dsimp only
    rw [if_neg (by simpa using hc), if_neg (by simpa using hr0), if_pos hu]
  rw [hv]
  dsimp only
  subst hc
  subst hr0
  have HU : Hid (false = decide (1 ≤ u ∧ u ≤ 4296015872)) := Lib.hid (decide_eq_false hu).symm
  clear hu
  have HS := Lib.hid h
  have HW := Lib.hid hw
  have HF := Lib.hid hf
  have HR := Lib.hid hr
  clear h hw hf hr hv
  go_enter Try.func56, Try.ntmps56
  go_wp2_with fail
  (with_reducible refine (rosCheck_ev A l.length c l 0 f2 _ (HS.out.ext (by repeat (first | with_reducible exact Ext.refl _ | with_reducible refine Ext.drew ?_ | with_reducible refine Ext.drewN ?_ _ | with_reducible refine Ext.alloc ?_ _ | with_reducible refine Ext.setCell ?_ (by first | omega | (simp; done) | (simp; omega)) _))) HW.out HF.out).mono ?_)
  rintro e w1 ⟨rfl, hx1⟩
  have c0_0 : w1.cell? ⟨w.heap.size, 0, none⟩ = some (.int .i64 u) := hx1.has (by first | fail | (simp [go_sem, World.cell?_alloc_past]; done))
  have z1 := hx1.size
  try simp at z1
  have rc0 : w.heap.size < w1.heap.size := by omega
  have rc0a : w.heap.size < w1.heap.size + 1 := by omega
  have rc0b : w.heap.size < w1.heap.size + 1 + 1 := by omega
  have rc0c : w.heap.size < w1.heap.size + 1 + 1 + 1 := by omega
  have rc0n : ¬ w.heap.size = w1.heap.size := by omega
  replace HS := Lib.hid (HS.out.ext (Ext.trans (by repeat (first | with_reducible exact Ext.refl _ | with_reducible refine Ext.drew ?_ | with_reducible refine Ext.drewN ?_ _ | with_reducible refine Ext.alloc ?_ _ | with_reducible refine Ext.setCell ?_ (by first | omega | (simp; done) | (simp; omega)) _)) hx1))
  have X1 : Hid (Ext w w1) := Lib.hid (Ext.trans (by repeat (first | with_reducible exact Ext.refl w | with_reducible refine Ext.drew ?_ | with_reducible refine Ext.drewN ?_ _ | with_reducible refine Ext.alloc ?_ _ | with_reducible refine Ext.setCell ?_ (by first | omega | (simp; done) | (simp; omega)) _)) hx1)
  clear hx1 z1
  go_wp2_with fail
  (with_reducible refine (rosRefuse_ev A l.length c l v 0 _ (HS.out.ext (by repeat (first | with_reducible exact Ext.refl _ | with_reducible refine Ext.drew ?_ | with_reducible refine Ext.drewN ?_ _ | with_reducible refine Ext.alloc ?_ _ | with_reducible refine Ext.setCell ?_ (by first | omega | (simp; done) | (simp; omega)) _))) HR.out).mono ?_)
  rintro e w2 ⟨rfl, hx2⟩
  replace c0_0 : w2.cell? ⟨w.heap.size, 0, none⟩ = some (.int .i64 u) := hx2.has (by first | exact c0_0 | (simp [go_sem, World.cell?_alloc_past, c0_0, rc0, rc0a, rc0b, rc0c, rc0n]; done))
  have z2 := hx2.size
  try simp at z2
  replace rc0 : w.heap.size < w2.heap.size := by omega
  replace rc0a : w.heap.size < w2.heap.size + 1 := by omega
  replace rc0b : w.heap.size < w2.heap.size + 1 + 1 := by omega
  replace rc0c : w.heap.size < w2.heap.size + 1 + 1 + 1 := by omega
  replace rc0n : ¬ w.heap.size = w2.heap.size := by omega
  replace HS := Lib.hid (HS.out.ext (Ext.trans (by repeat (first | with_reducible exact Ext.refl _ | with_reducible refine Ext.drew ?_ | with_reducible refine Ext.drewN ?_ _ | with_reducible refine Ext.alloc ?_ _ | with_reducible refine Ext.setCell ?_ (by first | omega | (simp; done) | (simp; omega)) _)) hx2))
  have X2 : Hid (Ext w w2) := Lib.hid (Ext.trans (by repeat (first | with_reducible exact X1.out | with_reducible refine Ext.drew ?_ | with_reducible refine Ext.drewN ?_ _ | with_reducible refine Ext.alloc ?_ _ | with_reducible refine Ext.setCell ?_ (by first | omega | (simp; done) | (simp; omega)) _)) hx2)
  clear X1 hx2 z2
  go_wp2_with fail
  (with_reducible refine (rosUntil_any u false _ HU.out).mono ?_)
  rintro e w3 ⟨rfl, hx3⟩
  have z3 := hx3.size
  try simp at z3
  replace HS := Lib.hid (HS.out.ext (Ext.trans (by repeat (first | with_reducible exact Ext.refl _ | with_reducible refine Ext.drew ?_ | with_reducible refine Ext.drewN ?_ _ | with_reducible refine Ext.alloc ?_ _ | with_reducible refine Ext.setCell ?_ (by first | omega | (simp; done) | (simp; omega)) _)) hx3))
  have X3 : Hid (Ext w w3) := Lib.hid (Ext.trans (by repeat (first | with_reducible exact X2.out | with_reducible refine Ext.drew ?_ | with_reducible refine Ext.drewN ?_ _ | with_reducible refine Ext.alloc ?_ _ | with_reducible refine Ext.setCell ?_ (by first | omega | (simp; done) | (simp; omega)) _)) hx3)
  clear c0_0 rc0 rc0a rc0b rc0c rc0n X2 hx3 z3
  go_wp2_with fail
  refine bodyPost_ret (v := .tuple #[.slice none 0 0, .int .i64 3]) (by simp [results, Try.results56, go_sem, World.cell?_alloc_past]; try rfl) rfl (RetV.nil (xs := [.int .i64 3]) ?_)
  exact (by repeat (first | with_reducible exact X3.out | with_reducible refine Ext.drew ?_ | with_reducible refine Ext.drewN ?_ _ | with_reducible refine Ext.alloc ?_ _ | with_reducible refine Ext.setCell ?_ (by first | omega | (simp; done) | (simp; omega)) _))
set_option maxRecDepth 100000 in
set_option maxHeartbeats 1000000 in
theorem rosJail_ok (A : Option Addr) (c : Nat) (l : List (Int × Int × Int × Int × Bool × Bool)) (v u f1 f2 r : Int) (w : World) (h : Sl w 6 A l.length c (l.flatMap valC)) (hw : ∀ x ∈ l, (Lit.int .i64 x.1).wf = true) (hf : (f1, f2) = chkV l) (hr : r = rfsV l v) (hnil : A = none → c = 0) (k : Nat) (x : (Int × Int × Int × Int × Bool × Bool)) (hv0 : v = (k : Int)) (hx : l[k]? = some x) (hc : f1 = 0) (hr0 : r = 0) (hu : 1 ≤ u ∧ u ≤ 4296015872) (h32 : l.length ≤ 32) :
    Calls Try.prog 56 #[.slice A l.length c, .int .i64 v, .int .i64 u] w (RetV (jailV l v u).1 [.int .i64 (jailV l v u).2] w) := by
  have s1 := h.small
  have hv : jailV l v u = (l.set k (jailOne x u), 0) := by
    unfold jailV
    rw [← hf, ← hr]
    dsimp only
    rw [if_neg (by simpa using hc), if_neg (by simpa using hr0), if_neg (by simpa using hu)]
    subst hv0
    rw [show ((k : Int)).toNat = k from by simp, hx]
  rw [hv]
  dsimp only
  subst hc
  subst hr0
  subst hv0
  have HU : Hid (true = decide (1 ≤ u ∧ u ≤ 4296015872)) := Lib.hid (decide_eq_true hu).symm
  have HX := Lib.hid hx
  clear hu hx
  have HS := Lib.hid h
  have HW := Lib.hid hw
  have HF := Lib.hid hf
  have HR := Lib.hid hr
  clear h hw hf hr hv
  go_enter Try.func56, Try.ntmps56
  go_wp2_with fail
  (with_reducible refine (rosCheck_ev A l.length c l 0 f2 _ (HS.out.ext (by repeat (first | with_reducible exact Ext.refl _ | with_reducible refine Ext.drew ?_ | with_reducible refine Ext.drewN ?_ _ | with_reducible refine Ext.alloc ?_ _ | with_reducible refine Ext.setCell ?_ (by first | omega | (simp; done) | (simp; omega)) _))) HW.out HF.out).mono ?_)
  rintro e w1 ⟨rfl, hx1⟩
  have c0_0 : w1.cell? ⟨w.heap.size, 0, none⟩ = some (.int .i64 u) := hx1.has (by first | fail | (simp [go_sem, World.cell?_alloc_past]; done))
  have z1 := hx1.size
  try simp at z1
  have rc0 : w.heap.size < w1.heap.size := by omega
  have rc0a : w.heap.size < w1.heap.size + 1 := by omega
  have rc0b : w.heap.size < w1.heap.size + 1 + 1 := by omega
  have rc0c : w.heap.size < w1.heap.size + 1 + 1 + 1 := by omega
  have rc0n : ¬ w.heap.size = w1.heap.size := by omega
  replace HS := Lib.hid (HS.out.ext (Ext.trans (by repeat (first | with_reducible exact Ext.refl _ | with_reducible refine Ext.drew ?_ | with_reducible refine Ext.drewN ?_ _ | with_reducible refine Ext.alloc ?_ _ | with_reducible refine Ext.setCell ?_ (by first | omega | (simp; done) | (simp; omega)) _)) hx1))
  have X1 : Hid (Ext w w1) := Lib.hid (Ext.trans (by repeat (first | with_reducible exact Ext.refl w | with_reducible refine Ext.drew ?_ | with_reducible refine Ext.drewN ?_ _ | with_reducible refine Ext.alloc ?_ _ | with_reducible refine Ext.setCell ?_ (by first | omega | (simp; done) | (simp; omega)) _)) hx1)
  clear hx1 z1
  go_wp2_with fail
  (with_reducible refine (rosRefuse_ev A l.length c l (k : Int) 0 _ (HS.out.ext (by repeat (first | with_reducible exact Ext.refl _ | with_reducible refine Ext.drew ?_ | with_reducible refine Ext.drewN ?_ _ | with_reducible refine Ext.alloc ?_ _ | with_reducible refine Ext.setCell ?_ (by first | omega | (simp; done) | (simp; omega)) _))) HR.out).mono ?_)
  rintro e w2 ⟨rfl, hx2⟩
  replace c0_0 : w2.cell? ⟨w.heap.size, 0, none⟩ = some (.int .i64 u) := hx2.has (by first | exact c0_0 | (simp [go_sem, World.cell?_alloc_past, c0_0, rc0, rc0a, rc0b, rc0c, rc0n]; done))
  have z2 := hx2.size
  try simp at z2
  replace rc0 : w.heap.size < w2.heap.size := by omega
  replace rc0a : w.heap.size < w2.heap.size + 1 := by omega
  replace rc0b : w.heap.size < w2.heap.size + 1 + 1 := by omega
  replace rc0c : w.heap.size < w2.heap.size + 1 + 1 + 1 := by omega
  replace rc0n : ¬ w.heap.size = w2.heap.size := by omega
  replace HS := Lib.hid (HS.out.ext (Ext.trans (by repeat (first | with_reducible exact Ext.refl _ | with_reducible refine Ext.drew ?_ | with_reducible refine Ext.drewN ?_ _ | with_reducible refine Ext.alloc ?_ _ | with_reducible refine Ext.setCell ?_ (by first | omega | (simp; done) | (simp; omega)) _)) hx2))
  have X2 : Hid (Ext w w2) := Lib.hid (Ext.trans (by repeat (first | with_reducible exact X1.out | with_reducible refine Ext.drew ?_ | with_reducible refine Ext.drewN ?_ _ | with_reducible refine Ext.alloc ?_ _ | with_reducible refine Ext.setCell ?_ (by first | omega | (simp; done) | (simp; omega)) _)) hx2)
  clear X1 hx2 z2
  go_wp2_with fail
  (with_reducible refine (rosUntil_any u true _ HU.out).mono ?_)
  rintro e w3 ⟨rfl, hx3⟩
  replace c0_0 : w3.cell? ⟨w.heap.size, 0, none⟩ = some (.int .i64 u) := hx3.has (by first | exact c0_0 | (simp [go_sem, World.cell?_alloc_past, c0_0, rc0, rc0a, rc0b, rc0c, rc0n]; done))
  have z3 := hx3.size
  try simp at z3
  replace rc0 : w.heap.size < w3.heap.size := by omega
  replace rc0a : w.heap.size < w3.heap.size + 1 := by omega
  replace rc0b : w.heap.size < w3.heap.size + 1 + 1 := by omega
  replace rc0c : w.heap.size < w3.heap.size + 1 + 1 + 1 := by omega
  replace rc0n : ¬ w.heap.size = w3.heap.size := by omega
  replace HS := Lib.hid (HS.out.ext (Ext.trans (by repeat (first | with_reducible exact Ext.refl _ | with_reducible refine Ext.drew ?_ | with_reducible refine Ext.drewN ?_ _ | with_reducible refine Ext.alloc ?_ _ | with_reducible refine Ext.setCell ?_ (by first | omega | (simp; done) | (simp; omega)) _)) hx3))
  have X3 : Hid (Ext w w3) := Lib.hid (Ext.trans (by repeat (first | with_reducible exact X2.out | with_reducible refine Ext.drew ?_ | with_reducible refine Ext.drewN ?_ _ | with_reducible refine Ext.alloc ?_ _ | with_reducible refine Ext.setCell ?_ (by first | omega | (simp; done) | (simp; omega)) _)) hx3)
  clear X2 hx3 z3
  go_wp2_with fail
  have hrm3 := Ext.size X3.out
  (with_reducible refine (rosChangeJail_any A c k w.heap.size l x u _ (HS.out.ext (by repeat (first | with_reducible exact Ext.refl _ | with_reducible refine Ext.drew ?_ | with_reducible refine Ext.drewN ?_ _ | with_reducible refine Ext.alloc ?_ _ | with_reducible refine Ext.setCell ?_ (by first | omega | (simp; done) | (simp; omega)) _))) (by omega) hnil HX.out c0_0).mono ?_)
  rintro e w4 ⟨A5, c5, rfl, hA5, hO5, hx4⟩
  replace c0_0 : w4.cell? ⟨w.heap.size, 0, none⟩ = some (.int .i64 u) := hx4.has (by first | exact c0_0 | (simp [go_sem, World.cell?_alloc_past, c0_0, rc0, rc0a, rc0b, rc0c, rc0n]; done))
  have z4 := hx4.size
  try simp at z4
  replace rc0 : w.heap.size < w4.heap.size := by omega
  replace rc0a : w.heap.size < w4.heap.size + 1 := by omega
  replace rc0b : w.heap.size < w4.heap.size + 1 + 1 := by omega
  replace rc0c : w.heap.size < w4.heap.size + 1 + 1 + 1 := by omega
  replace rc0n : ¬ w.heap.size = w4.heap.size := by omega
  replace HS := Lib.hid (HS.out.ext (Ext.trans (by repeat (first | with_reducible exact Ext.refl _ | with_reducible refine Ext.drew ?_ | with_reducible refine Ext.drewN ?_ _ | with_reducible refine Ext.alloc ?_ _ | with_reducible refine Ext.setCell ?_ (by first | omega | (simp; done) | (simp; omega)) _)) hx4))
  have X4 : Hid (Ext w w4) := Lib.hid (Ext.trans (by repeat (first | with_reducible exact X3.out | with_reducible refine Ext.drew ?_ | with_reducible refine Ext.drewN ?_ _ | with_reducible refine Ext.alloc ?_ _ | with_reducible refine Ext.setCell ?_ (by first | omega | (simp; done) | (simp; omega)) _)) hx4)
  have HO := Lib.hid hO5
  clear X3 hx4 z4 hO5
  have HO2 := Lib.hid (OwnVal.lower HO.out hrm3)
  go_wp2_with fail
  refine bodyPost_ret (v := .tuple #[.slice A5 (l.set k (jailOne x u)).length c5, .int .i64 0]) (by simp [results, Try.results56]; try rfl) rfl (RetV.mk (xs := [.int .i64 0]) HO2.out (by repeat (first | with_reducible exact X4.out | with_reducible refine Ext.drew ?_ | with_reducible refine Ext.drewN ?_ _ | with_reducible refine Ext.alloc ?_ _ | with_reducible refine Ext.setCell ?_ (by first | omega | (simp; done) | (simp; omega)) _)) rfl)
theorem rosJail_any (A : Option Addr) (c : Nat) (l : List (Int × Int × Int × Int × Bool × Bool)) (v u : Int) (w : World) (h : Sl w 6 A l.length c (l.flatMap valC)) (hw : ∀ x ∈ l, (Lit.int .i64 x.1).wf = true) (hnil : A = none → c = 0) :
    Calls Try.prog 56 #[.slice A l.length c, .int .i64 v, .int .i64 u] w (RetV (jailV l v u).1 [.int .i64 (jailV l v u).2] w) := by
  obtain ⟨⟨f1, f2⟩, hf⟩ : ∃ F, F = chkV l := ⟨_, rfl⟩
  obtain ⟨r, hr⟩ : ∃ r, r = rfsV l v := ⟨_, rfl⟩
  by_cases hc : f1 = 0
  · by_cases hr0 : r = 0
    · by_cases hu : 1 ≤ u ∧ u ≤ 4296015872
      · have hvr : ¬ (v < 0 ∨ v ≥ l.length) := by
          intro h0
          rw [hr] at hr0
          unfold rfsV at hr0
          rw [if_pos h0] at hr0
          simp at hr0
        have hk : v.toNat < l.length := by omega
        exact rosJail_ok A c l v u f1 f2 r w h hw hf hr hnil v.toNat l[v.toNat] (by omega) (List.getElem?_eq_getElem hk) hc hr0 hu (chkV_zero (by rw [← hf]; exact hc)).2.1
      · exact rosJail_unt A c l v u f1 f2 r w h hw hf hr hnil hc hr0 hu
    · exact rosJail_rfs A c l v u f1 f2 r w h hw hf hr hnil hc hr0
  · exact rosJail_chk A c l v u f1 f2 r w h hw hf hr hnil hc
end Go.Proofs.Ytjdpgapmdmpjjaa
