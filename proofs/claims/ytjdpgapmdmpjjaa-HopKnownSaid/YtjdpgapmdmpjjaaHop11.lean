/- law15: the chapter's own functions. Conditions stand in each lemma. -/
import Derived.Test.YtjdpgapmdmpjjaaHop10
import Derived.Test.YtjdpgapmdmpjjaaLow
set_option linter.unusedVariables false
set_option linter.unusedSimpArgs false
namespace Go.Proofs.Ytjdpgapmdmpjjaa
open Go.RowKit Go.ChangeShapes Go.WideShapes Go.Deep Go.Joins

theorem hops_new (w : World) (l : List (Int × Int × Int × Int)) (n : Nat) (hl : l.length = n) (hn : n ≤ 1000000) : Sl (w.alloc (.cells (l.flatMap hopC).toArray 24)) 4 (some ⟨w.heap.size, 0, none⟩) n n (l.flatMap hopC) := by
  have := sl_new w 24 4 (l.flatMap hopC).toArray n (by rw [List.size_toArray, flat_len hopC_len, hl]) hn
  simpa using this
theorem kSameHops_eq (A B : Option Addr) (n c m d : Nat) (l : List (Int × Int × Int × Int)) (w : World) (h1 : Sl w 4 A n c (l.flatMap hopC)) (h2 : Sl w 4 B m d (l.flatMap hopC)) :
    Calls Try.prog 30 #[.slice A n c, .slice B m d] w fun e w' => e = .returned (.bool true) ∧ Ext w w' := by
  have h := kSameHops_any A B n c m d l l w h1 h2
  simpa using h
theorem kSameHops_ne (A B : Option Addr) (n c m d : Nat) (l r : List (Int × Int × Int × Int)) (w : World) (h1 : Sl w 4 A n c (l.flatMap hopC)) (h2 : Sl w 4 B m d (r.flatMap hopC)) (hne : l ≠ r) :
    Calls Try.prog 30 #[.slice A n c, .slice B m d] w fun e w' => e = .returned (.bool false) ∧ Ext w w' := by
  have h := kSameHops_any A B n c m d l r w h1 h2
  simpa [hne] using h
theorem hopRipe_ev (A : Option Addr) (n c : Nat) (l R1 R2 : List (Int × Int × Int × Int)) (hh u er : Int) (w : World) (h : Sl w 4 A n c (l.flatMap hopC)) (hn : n < 1099511627776) (hw : ∀ x ∈ l, FitsH x) (hnil : A = none → c = 0) (hv : (R1, R2, er) = ripV l hh u) :
    Calls Try.prog 25 #[.slice A n c, .int .i64 hh, .int .i64 u] w (RetHop2 R1 R2 er w) := by
  have h := hopRipe_any A n c l hh u w h hn hw hnil
  rw [← hv] at h
  exact h
theorem rRipe15_ev (A : Option Addr) (n c : Nat) (l R1 R2 : List (Int × Int × Int × Int)) (hh u er : Int) (w : World) (h : Sl w 4 A n c (l.flatMap hopC)) (hn : n < 1099511627776) (hw : ∀ x ∈ l, FitsH x) (hv : (R1, R2, er) = ripV l hh u) :
    Calls Try.prog 26 #[.slice A n c, .int .i64 hh, .int .i64 u] w (RetHop2 R1 R2 er w) := by
  have h := rRipe15_any A n c l hh u w h hn hw
  rw [← hv] at h
  exact h
theorem hopAdd_ev (A : Option Addr) (n c : Nat) (l R : List (Int × Int × Int × Int)) (x0 x1 x2 x3 mo er : Int) (w : World) (h : Sl w 4 A n c (l.flatMap hopC)) (hn : n < 1099511627776) (hw : ∀ x ∈ l, FitsH x) (hfx : FitsH (x0, x1, x2, x3)) (hnil : A = none → c = 0) (hv : (R, er) = addV l (x0, x1, x2, x3) mo) :
    Calls Try.prog 23 #[.slice A n c, .agg #[.int .i64 x0, .int .i64 x1, .int .i64 x2, .int .i64 x3], .int .i64 mo] w fun e w' => ∃ A c, e = .returned (.tuple #[.slice A R.length c, .int .i64 er]) ∧ (A = none → c = 0) ∧ OwnHop w' w.heap.size (.slice A R.length c) R.length R ∧ Ext w w' := by
  have h := hopAdd_any A n c l x0 x1 x2 x3 mo w h hn hw hfx hnil
  rw [← hv] at h
  exact h
theorem rAdd15_ev (A : Option Addr) (n c : Nat) (l R : List (Int × Int × Int × Int)) (x0 x1 x2 x3 mo er : Int) (w : World) (h : Sl w 4 A n c (l.flatMap hopC)) (hn : n < 1099511627776) (hw : ∀ x ∈ l, FitsH x) (hv : (R, er) = addV l (x0, x1, x2, x3) mo) :
    Calls Try.prog 24 #[.slice A n c, .agg #[.int .i64 x0, .int .i64 x1, .int .i64 x2, .int .i64 x3], .int .i64 mo] w fun e w' => ∃ A c, e = .returned (.tuple #[.slice A R.length c, .int .i64 er]) ∧ (A = none → c = 0) ∧ OwnHop w' w.heap.size (.slice A R.length c) R.length R ∧ Ext w w' := by
  have h := rAdd15_any A n c l x0 x1 x2 x3 mo w h hn hw
  rw [← hv] at h
  exact h
theorem one15_any (a b c d : Int) (w : World) : Calls Try.prog 69 #[.int .i64 a, .int .i64 b, .int .i64 c, .int .i64 d] w fun e w' => e = .returned (.agg #[.int .i64 a, .int .i64 b, .int .i64 c, .int .i64 d]) ∧ Ext w w' := by
  go_enter Try.func69, Try.ntmps69
  go_wp2_with fail
  refine bodyPost_ret (v := .agg #[.int .i64 a, .int .i64 b, .int .i64 c, .int .i64 d]) (by simp [results, Try.results69, go_sem, World.cell?_alloc_past]; try rfl) rfl ⟨rfl, ?_⟩
  exact (by repeat (first | with_reducible exact Ext.refl w | with_reducible refine Ext.drew ?_ | with_reducible refine Ext.drewN ?_ _ | with_reducible refine Ext.alloc ?_ _ | with_reducible refine Ext.setCell ?_ (by first | omega | (simp; done) | (simp; omega)) _))
theorem list15_any (A : Option Addr) (n c : Nat) (w : World) : Calls Try.prog 68 #[.slice A n c] w fun e w' => e = .returned (.slice A n c) ∧ Ext w w' := by
  go_enter Try.func68, Try.ntmps68
  go_wp2
  go_ret
  exact ⟨rfl, Ext.refl _⟩
theorem checks15_t (A : Option Addr) (n c : Nat) (l : List (Int × Int × Int × Int)) (e a : Int) (w : World) (h : Sl w 4 A n c (l.flatMap hopC)) (hf : ∀ x ∈ l, FitsH x) (hv : (e, a) = chkH l) :
    Calls Try.prog 67 #[.slice A n c, .int .i64 e, .int .i64 a] w fun r w' => r = .returned (.bool true) ∧ Ext w w' := by
  have HS := Lib.hid h
  have HF := Lib.hid hf
  have HV := Lib.hid hv
  clear h hf hv
  go_enter Try.func67, Try.ntmps67
  go_wp2_with fail
  (with_reducible refine (hopCheck_ev A n c l e a _ (HS.out.ext (by repeat (first | with_reducible exact Ext.refl _ | with_reducible refine Ext.drew ?_ | with_reducible refine Ext.drewN ?_ _ | with_reducible refine Ext.alloc ?_ _ | with_reducible refine Ext.setCell ?_ (by first | omega | (simp; done) | (simp; omega)) _))) (fits_t HF.out) HV.out).mono ?_)
  rintro e w1 ⟨rfl, hx1⟩
  have z1 := hx1.size
  try simp at z1
  replace HS := Lib.hid (HS.out.ext (Ext.trans (by repeat (first | with_reducible exact Ext.refl _ | with_reducible refine Ext.drew ?_ | with_reducible refine Ext.drewN ?_ _ | with_reducible refine Ext.alloc ?_ _ | with_reducible refine Ext.setCell ?_ (by first | omega | (simp; done) | (simp; omega)) _)) hx1))
  have X1 : Hid (Ext w w1) := Lib.hid (Ext.trans (by repeat (first | with_reducible exact Ext.refl w | with_reducible refine Ext.drew ?_ | with_reducible refine Ext.drewN ?_ _ | with_reducible refine Ext.alloc ?_ _ | with_reducible refine Ext.setCell ?_ (by first | omega | (simp; done) | (simp; omega)) _)) hx1)
  clear hx1 z1
  go_wp2_with fail
  go_ret
  exact ⟨rfl, (by repeat (first | with_reducible exact X1.out | with_reducible refine Ext.drew ?_ | with_reducible refine Ext.drewN ?_ _ | with_reducible refine Ext.alloc ?_ _ | with_reducible refine Ext.setCell ?_ (by first | omega | (simp; done) | (simp; omega)) _))⟩
set_option maxRecDepth 100000 in
set_option maxHeartbeats 4000000 in
theorem adds15_ev (A : Option Addr) (n c : Nat) (l R : List (Int × Int × Int × Int)) (x0 x1 x2 x3 mo er : Int) (w : World) (h : Sl w 4 A n c (l.flatMap hopC)) (hn : n < 1099511627776) (hw : ∀ x ∈ l, FitsH x) (hfx : FitsH (x0, x1, x2, x3)) (hnil : A = none → c = 0) (hv : (R, er) = addV l (x0, x1, x2, x3) mo) :
    Calls Try.prog 70 #[.slice A n c, .agg #[.int .i64 x0, .int .i64 x1, .int .i64 x2, .int .i64 x3], .int .i64 mo] w fun e w' => e = .returned (.int .i64 er) ∧ Ext w w' := by
  have HS := Lib.hid h
  have HF := Lib.hid hw
  have HX := Lib.hid hfx
  have HV := Lib.hid hv
  have HN := Lib.hid hnil
  clear h hw hfx hv hnil
  go_enter Try.func70, Try.ntmps70
  go_wp2_with fail
  (with_reducible refine (hopAdd_ev A n c l R x0 x1 x2 x3 mo er _ (HS.out.ext (by repeat (first | with_reducible exact Ext.refl _ | with_reducible refine Ext.drew ?_ | with_reducible refine Ext.drewN ?_ _ | with_reducible refine Ext.alloc ?_ _ | with_reducible refine Ext.setCell ?_ (by first | omega | (simp; done) | (simp; omega)) _))) hn HF.out HX.out HN.out HV.out).mono ?_)
  rintro e w1 ⟨A2, c2, rfl, _, _, hx1⟩
  have z1 := hx1.size
  try simp at z1
  replace HS := Lib.hid (HS.out.ext (Ext.trans (by repeat (first | with_reducible exact Ext.refl _ | with_reducible refine Ext.drew ?_ | with_reducible refine Ext.drewN ?_ _ | with_reducible refine Ext.alloc ?_ _ | with_reducible refine Ext.setCell ?_ (by first | omega | (simp; done) | (simp; omega)) _)) hx1))
  have X1 : Hid (Ext w w1) := Lib.hid (Ext.trans (by repeat (first | with_reducible exact Ext.refl w | with_reducible refine Ext.drew ?_ | with_reducible refine Ext.drewN ?_ _ | with_reducible refine Ext.alloc ?_ _ | with_reducible refine Ext.setCell ?_ (by first | omega | (simp; done) | (simp; omega)) _)) hx1)
  clear hx1 z1
  go_wp2_with fail
  go_ret
  exact ⟨rfl, (by repeat (first | with_reducible exact X1.out | with_reducible refine Ext.drew ?_ | with_reducible refine Ext.drewN ?_ _ | with_reducible refine Ext.alloc ?_ _ | with_reducible refine Ext.setCell ?_ (by first | omega | (simp; done) | (simp; omega)) _))⟩
set_option maxRecDepth 100000 in
set_option maxHeartbeats 4000000 in
theorem ripes15_t (A : Option Addr) (n c : Nat) (l R1 R2 : List (Int × Int × Int × Int)) (hh u : Int) (w : World) (h : Sl w 4 A n c (l.flatMap hopC)) (hn : n < 1099511627776) (hw : ∀ x ∈ l, FitsH x) (hnil : A = none → c = 0) (hv : (R1, R2, 0) = ripV l hh u) (m : Nat) (hm : m ≤ n) (e1 : R1 = l.take m) (e2 : R2 = l.drop m) :
    Calls Try.prog 73 #[.slice A n c, .int .i64 hh, .int .i64 u, .int .i64 (m : Int)] w fun r w' => r = .returned (.bool true) ∧ Ext w w' := by
  have s1 := h.small
  have hcap := h.2.1
  have hn0 : (0 : Int) ≤ (n : Int) := by omega
  have hc0 : (0 : Int) ≤ (c : Int) := by omega
  obtain ⟨AD, hAD⟩ : ∃ a, a = if c = m then A else A.map (·.add (m * 4)) := ⟨_, rfl⟩
  have hif := hAD.symm
  have hmi : (m : Int) ≤ n := by omega
  have hmc : (m : Int) ≤ c := by omega
  have HAD := Lib.hid hAD
  clear hAD
  have HS := Lib.hid h
  have HF := Lib.hid hw
  have HV := Lib.hid hv
  have HN := Lib.hid hnil
  have HE := Lib.hid (And.intro e1 e2)
  clear h hw hv hnil e1 e2
  go_enter Try.func73, Try.ntmps73
  go_wp2_with fail
  (with_reducible refine (hopRipe_ev A n c l R1 R2 hh u 0 _ (HS.out.ext (by repeat (first | with_reducible exact Ext.refl _ | with_reducible refine Ext.drew ?_ | with_reducible refine Ext.drewN ?_ _ | with_reducible refine Ext.alloc ?_ _ | with_reducible refine Ext.setCell ?_ (by first | omega | (simp; done) | (simp; omega)) _))) hn HF.out HN.out HV.out).mono ?_)
  rintro e w1 ⟨A1, c1, A2, c2, rfl, _, _, hO1, hO2, _, hx1⟩
  have z1 := hx1.size
  try simp at z1
  replace HS := Lib.hid (HS.out.ext (Ext.trans (by repeat (first | with_reducible exact Ext.refl _ | with_reducible refine Ext.drew ?_ | with_reducible refine Ext.drewN ?_ _ | with_reducible refine Ext.alloc ?_ _ | with_reducible refine Ext.setCell ?_ (by first | omega | (simp; done) | (simp; omega)) _)) hx1))
  have X1 : Hid (Ext w w1) := Lib.hid (Ext.trans (by repeat (first | with_reducible exact Ext.refl w | with_reducible refine Ext.drew ?_ | with_reducible refine Ext.drewN ?_ _ | with_reducible refine Ext.alloc ?_ _ | with_reducible refine Ext.setCell ?_ (by first | omega | (simp; done) | (simp; omega)) _)) hx1)
  have HP := Lib.hid hO1.sl
  have HQ := Lib.hid hO2.sl
  clear hx1 z1
  clear hO1 hO2
  go_wp2_with fail
  (with_reducible refine (kSameHops_eq A1 A _ c1 m c (l.take m) _ (by rw [← HE.out.1]; exact (HP.out.ext (by repeat (first | with_reducible exact Ext.refl _ | with_reducible refine Ext.drew ?_ | with_reducible refine Ext.drewN ?_ _ | with_reducible refine Ext.alloc ?_ _ | with_reducible refine Ext.setCell ?_ (by first | omega | (simp; done) | (simp; omega)) _)))) ((HS.out.ext (by repeat (first | with_reducible exact Ext.refl _ | with_reducible refine Ext.drew ?_ | with_reducible refine Ext.drewN ?_ _ | with_reducible refine Ext.alloc ?_ _ | with_reducible refine Ext.setCell ?_ (by first | omega | (simp; done) | (simp; omega)) _))).htake hm)).mono ?_)
  rintro e w2 ⟨rfl, hx2⟩
  have z2 := hx2.size
  try simp at z2
  replace HS := Lib.hid (HS.out.ext (Ext.trans (by repeat (first | with_reducible exact Ext.refl _ | with_reducible refine Ext.drew ?_ | with_reducible refine Ext.drewN ?_ _ | with_reducible refine Ext.alloc ?_ _ | with_reducible refine Ext.setCell ?_ (by first | omega | (simp; done) | (simp; omega)) _)) hx2))
  replace HP := Lib.hid (HP.out.ext (Ext.trans (by repeat (first | with_reducible exact Ext.refl _ | with_reducible refine Ext.drew ?_ | with_reducible refine Ext.drewN ?_ _ | with_reducible refine Ext.alloc ?_ _ | with_reducible refine Ext.setCell ?_ (by first | omega | (simp; done) | (simp; omega)) _)) hx2))
  replace HQ := Lib.hid (HQ.out.ext (Ext.trans (by repeat (first | with_reducible exact Ext.refl _ | with_reducible refine Ext.drew ?_ | with_reducible refine Ext.drewN ?_ _ | with_reducible refine Ext.alloc ?_ _ | with_reducible refine Ext.setCell ?_ (by first | omega | (simp; done) | (simp; omega)) _)) hx2))
  have X2 : Hid (Ext w w2) := Lib.hid (Ext.trans (by repeat (first | with_reducible exact X1.out | with_reducible refine Ext.drew ?_ | with_reducible refine Ext.drewN ?_ _ | with_reducible refine Ext.alloc ?_ _ | with_reducible refine Ext.setCell ?_ (by first | omega | (simp; done) | (simp; omega)) _)) hx2)
  clear X1 hx2 z2
  go_wp2_with fail
  (with_reducible refine (kSameHops_eq A2 AD _ c2 (n - m) (c - m) (l.drop m) _ (by rw [← HE.out.2]; exact (HQ.out.ext (by repeat (first | with_reducible exact Ext.refl _ | with_reducible refine Ext.drew ?_ | with_reducible refine Ext.drewN ?_ _ | with_reducible refine Ext.alloc ?_ _ | with_reducible refine Ext.setCell ?_ (by first | omega | (simp; done) | (simp; omega)) _)))) (by rw [HAD.out]; exact (HS.out.ext (by repeat (first | with_reducible exact Ext.refl _ | with_reducible refine Ext.drew ?_ | with_reducible refine Ext.drewN ?_ _ | with_reducible refine Ext.alloc ?_ _ | with_reducible refine Ext.setCell ?_ (by first | omega | (simp; done) | (simp; omega)) _))).hdrop hm)).mono ?_)
  rintro e w3 ⟨rfl, hx3⟩
  have z3 := hx3.size
  try simp at z3
  replace HS := Lib.hid (HS.out.ext (Ext.trans (by repeat (first | with_reducible exact Ext.refl _ | with_reducible refine Ext.drew ?_ | with_reducible refine Ext.drewN ?_ _ | with_reducible refine Ext.alloc ?_ _ | with_reducible refine Ext.setCell ?_ (by first | omega | (simp; done) | (simp; omega)) _)) hx3))
  replace HP := Lib.hid (HP.out.ext (Ext.trans (by repeat (first | with_reducible exact Ext.refl _ | with_reducible refine Ext.drew ?_ | with_reducible refine Ext.drewN ?_ _ | with_reducible refine Ext.alloc ?_ _ | with_reducible refine Ext.setCell ?_ (by first | omega | (simp; done) | (simp; omega)) _)) hx3))
  replace HQ := Lib.hid (HQ.out.ext (Ext.trans (by repeat (first | with_reducible exact Ext.refl _ | with_reducible refine Ext.drew ?_ | with_reducible refine Ext.drewN ?_ _ | with_reducible refine Ext.alloc ?_ _ | with_reducible refine Ext.setCell ?_ (by first | omega | (simp; done) | (simp; omega)) _)) hx3))
  have X3 : Hid (Ext w w3) := Lib.hid (Ext.trans (by repeat (first | with_reducible exact X2.out | with_reducible refine Ext.drew ?_ | with_reducible refine Ext.drewN ?_ _ | with_reducible refine Ext.alloc ?_ _ | with_reducible refine Ext.setCell ?_ (by first | omega | (simp; done) | (simp; omega)) _)) hx3)
  clear X2 hx3 z3
  go_wp2_with fail
  go_ret
  exact ⟨rfl, (by repeat (first | with_reducible exact X3.out | with_reducible refine Ext.drew ?_ | with_reducible refine Ext.drewN ?_ _ | with_reducible refine Ext.alloc ?_ _ | with_reducible refine Ext.setCell ?_ (by first | omega | (simp; done) | (simp; omega)) _))⟩
set_option maxRecDepth 100000 in
set_option maxHeartbeats 4000000 in
theorem ripes15_f (A : Option Addr) (n c : Nat) (l R1 R2 : List (Int × Int × Int × Int)) (hh u : Int) (w : World) (h : Sl w 4 A n c (l.flatMap hopC)) (hn : n < 1099511627776) (hw : ∀ x ∈ l, FitsH x) (hnil : A = none → c = 0) (hv : (R1, R2, 0) = ripV l hh u) (hne : R1 ≠ []) :
    Calls Try.prog 73 #[.slice A n c, .int .i64 hh, .int .i64 u, .int .i64 0] w fun r w' => r = .returned (.bool false) ∧ Ext w w' := by
  have s1 := h.small
  have hcap := h.2.1
  have hn0 : (0 : Int) ≤ (n : Int) := by omega
  have hc0 : (0 : Int) ≤ (c : Int) := by omega
  have HS := Lib.hid h
  have HF := Lib.hid hw
  have HV := Lib.hid hv
  have HN := Lib.hid hnil
  have HE := Lib.hid hne
  clear h hw hv hnil hne
  go_enter Try.func73, Try.ntmps73
  go_wp2_with fail
  (with_reducible refine (hopRipe_ev A n c l R1 R2 hh u 0 _ (HS.out.ext (by repeat (first | with_reducible exact Ext.refl _ | with_reducible refine Ext.drew ?_ | with_reducible refine Ext.drewN ?_ _ | with_reducible refine Ext.alloc ?_ _ | with_reducible refine Ext.setCell ?_ (by first | omega | (simp; done) | (simp; omega)) _))) hn HF.out HN.out HV.out).mono ?_)
  rintro e w1 ⟨A1, c1, A2, c2, rfl, _, _, hO1, hO2, _, hx1⟩
  have z1 := hx1.size
  try simp at z1
  replace HS := Lib.hid (HS.out.ext (Ext.trans (by repeat (first | with_reducible exact Ext.refl _ | with_reducible refine Ext.drew ?_ | with_reducible refine Ext.drewN ?_ _ | with_reducible refine Ext.alloc ?_ _ | with_reducible refine Ext.setCell ?_ (by first | omega | (simp; done) | (simp; omega)) _)) hx1))
  have X1 : Hid (Ext w w1) := Lib.hid (Ext.trans (by repeat (first | with_reducible exact Ext.refl w | with_reducible refine Ext.drew ?_ | with_reducible refine Ext.drewN ?_ _ | with_reducible refine Ext.alloc ?_ _ | with_reducible refine Ext.setCell ?_ (by first | omega | (simp; done) | (simp; omega)) _)) hx1)
  have HP := Lib.hid hO1.sl
  have HQ := Lib.hid hO2.sl
  clear hx1 z1
  clear hO1 hO2
  go_wp2_with fail
  (with_reducible refine (kSameHops_ne A1 A _ c1 0 c R1 [] _ (HP.out.ext (by repeat (first | with_reducible exact Ext.refl _ | with_reducible refine Ext.drew ?_ | with_reducible refine Ext.drewN ?_ _ | with_reducible refine Ext.alloc ?_ _ | with_reducible refine Ext.setCell ?_ (by first | omega | (simp; done) | (simp; omega)) _))) ((HS.out.ext (by repeat (first | with_reducible exact Ext.refl _ | with_reducible refine Ext.drew ?_ | with_reducible refine Ext.drewN ?_ _ | with_reducible refine Ext.alloc ?_ _ | with_reducible refine Ext.setCell ?_ (by first | omega | (simp; done) | (simp; omega)) _))).htake (Nat.zero_le _)) HE.out).mono ?_)
  rintro e w2 ⟨rfl, hx2⟩
  have z2 := hx2.size
  try simp at z2
  replace HS := Lib.hid (HS.out.ext (Ext.trans (by repeat (first | with_reducible exact Ext.refl _ | with_reducible refine Ext.drew ?_ | with_reducible refine Ext.drewN ?_ _ | with_reducible refine Ext.alloc ?_ _ | with_reducible refine Ext.setCell ?_ (by first | omega | (simp; done) | (simp; omega)) _)) hx2))
  replace HP := Lib.hid (HP.out.ext (Ext.trans (by repeat (first | with_reducible exact Ext.refl _ | with_reducible refine Ext.drew ?_ | with_reducible refine Ext.drewN ?_ _ | with_reducible refine Ext.alloc ?_ _ | with_reducible refine Ext.setCell ?_ (by first | omega | (simp; done) | (simp; omega)) _)) hx2))
  replace HQ := Lib.hid (HQ.out.ext (Ext.trans (by repeat (first | with_reducible exact Ext.refl _ | with_reducible refine Ext.drew ?_ | with_reducible refine Ext.drewN ?_ _ | with_reducible refine Ext.alloc ?_ _ | with_reducible refine Ext.setCell ?_ (by first | omega | (simp; done) | (simp; omega)) _)) hx2))
  have X2 : Hid (Ext w w2) := Lib.hid (Ext.trans (by repeat (first | with_reducible exact X1.out | with_reducible refine Ext.drew ?_ | with_reducible refine Ext.drewN ?_ _ | with_reducible refine Ext.alloc ?_ _ | with_reducible refine Ext.setCell ?_ (by first | omega | (simp; done) | (simp; omega)) _)) hx2)
  clear X1 hx2 z2
  go_wp2_with fail
  go_ret
  exact ⟨rfl, (by repeat (first | with_reducible exact X2.out | with_reducible refine Ext.drew ?_ | with_reducible refine Ext.drewN ?_ _ | with_reducible refine Ext.alloc ?_ _ | with_reducible refine Ext.setCell ?_ (by first | omega | (simp; done) | (simp; omega)) _))⟩
theorem ripes15_tm (mi : Int) (A : Option Addr) (n c : Nat) (l R1 R2 : List (Int × Int × Int × Int)) (hh u : Int) (w : World) (h : Sl w 4 A n c (l.flatMap hopC)) (hn : n < 1099511627776) (hw : ∀ x ∈ l, FitsH x) (hnil : A = none → c = 0) (hv : (R1, R2, 0) = ripV l hh u) (m : Nat) (hm : m ≤ n) (e1 : R1 = l.take m) (e2 : R2 = l.drop m) (hmi : mi = (m : Int)) :
    Calls Try.prog 73 #[.slice A n c, .int .i64 hh, .int .i64 u, .int .i64 mi] w fun r w' => r = .returned (.bool true) ∧ Ext w w' := by
  subst hmi
  exact ripes15_t A n c l R1 R2 hh u w h hn hw hnil hv m hm e1 e2
set_option maxRecDepth 100000 in
set_option maxHeartbeats 4000000 in
theorem told15_eq (A B : Option Addr) (n c m d base : Nat) (l : List (Int × Int × Int × Int)) (w : World) (h1 : OwnHop w base (.slice A n c) n l) (h2 : Sl w 4 B m d (l.flatMap hopC)) :
    Calls Try.prog 27 #[.slice A n c, .slice B m d] w fun e w' => e = .returned (.bool true) ∧ But (fun k => ∃ o s, A = some ⟨k, o, s⟩) w w' := by
  have hl : l.length = n := h1.sl.rlen hopC_len (by decide)
  subst hl
  have HO := Lib.hid h1
  have HS := Lib.hid h2
  clear h1 h2
  go_enter Try.func27, Try.ntmps27
  go_wp2_with fail
  (with_reducible refine (kSameHops_eq A B _ c m d l _ HO.out.sl HS.out).mono ?_)
  rintro e w1 ⟨rfl, hx1⟩
  replace HO := Lib.hid (HO.out.ext hx1)
  have X1 := Lib.hid (But.ofExt (S := fun k => ∃ o s, A = some ⟨k, o, s⟩) hx1)
  clear hx1 HS
  go_wp2_with fail
  (with_reducible refine (kOverHops_own A c l base _ HO.out).mono ?_)
  rintro e w2 ⟨⟨v, rfl⟩, hx2⟩
  replace X1 := Lib.hid (X1.out.trans hx2)
  clear hx2 HO
  go_wp2_with fail
  go_ret
  exact ⟨rfl, X1.out⟩
def awL : List (Int × Int × Int × Int) := [(0, 1, 2, 5), (1, 1, 2, 6)]
def awM : List (Int × Int × Int × Int) := [(0, 1, 2, 5), (0, 1, 3, 5)]
theorem fitsH_of {l : List (Int × Int × Int × Int)} (h : l.all (fun x => (Lit.int .i64 x.1).wf && ((Lit.int .i64 x.2.1).wf && ((Lit.int .i64 x.2.2.1).wf && (Lit.int .i64 x.2.2.2).wf))) = true) : ∀ x ∈ l, FitsH x := by
  intro x hx
  have h1 := List.all_eq_true.1 h x hx
  simp only [Bool.and_eq_true] at h1
  exact h1
theorem fitsH_one {x0 x1 x2 x3 : Int} (h : ([(x0, x1, x2, x3)] : List (Int × Int × Int × Int)).all (fun x => (Lit.int .i64 x.1).wf && ((Lit.int .i64 x.2.1).wf && ((Lit.int .i64 x.2.2.1).wf && (Lit.int .i64 x.2.2.2).wf))) = true) : FitsH (x0, x1, x2, x3) := fitsH_of h _ (List.mem_singleton.2 rfl)
set_option maxRecDepth 100000 in
set_option maxHeartbeats 4000000 in
theorem awake15_any (w : World) : Calls Try.prog 15 #[] w fun e w' => e = .returned (.bool true) ∧ Ext w w' := by
  go_enter Try.func15, Try.ntmps15
  go_wp2_with fail
  (with_reducible refine (one15_any 0 1 2 5 _).mono ?_)
  rintro e w1 ⟨rfl, hx1⟩
  have z1 := hx1.size
  try simp at z1
  have X1 : Hid (Ext w w1) := Lib.hid (Ext.trans (by repeat (first | with_reducible exact Ext.refl w | with_reducible refine Ext.drew ?_ | with_reducible refine Ext.drewN ?_ _ | with_reducible refine Ext.alloc ?_ _ | with_reducible refine Ext.setCell ?_ (by first | omega | (simp; done) | (simp; omega)) _)) hx1)
  clear hx1 z1
  go_wp2_with fail
  (with_reducible refine (one15_any 1 1 2 6 _).mono ?_)
  rintro e w2 ⟨rfl, hx2⟩
  have z2 := hx2.size
  try simp at z2
  have X2 : Hid (Ext w w2) := Lib.hid (Ext.trans (by repeat (first | with_reducible exact X1.out | with_reducible refine Ext.drew ?_ | with_reducible refine Ext.drewN ?_ _ | with_reducible refine Ext.alloc ?_ _ | with_reducible refine Ext.setCell ?_ (by first | omega | (simp; done) | (simp; omega)) _)) hx2)
  clear X1 hx2 z2
  go_wp2_with fail
  (with_reducible refine (list15_any _ 2 2 _).mono ?_)
  rintro e w3 ⟨rfl, hx3⟩
  have z3 := hx3.size
  try simp at z3
  have X3 : Hid (Ext w w3) := Lib.hid (Ext.trans (by repeat (first | with_reducible exact X2.out | with_reducible refine Ext.drew ?_ | with_reducible refine Ext.drewN ?_ _ | with_reducible refine Ext.alloc ?_ _ | with_reducible refine Ext.setCell ?_ (by first | omega | (simp; done) | (simp; omega)) _)) hx3)
  have HL := Lib.hid ((hops_new w2 awL 2 rfl (by omega)).ext hx3)
  clear X2 hx3 z3
  go_wp2_with fail
  (with_reducible refine (one15_any 0 1 2 5 _).mono ?_)
  rintro e w4 ⟨rfl, hx4⟩
  have z4 := hx4.size
  try simp at z4
  replace HL := Lib.hid (HL.out.ext (Ext.trans (by repeat (first | with_reducible exact Ext.refl _ | with_reducible refine Ext.drew ?_ | with_reducible refine Ext.drewN ?_ _ | with_reducible refine Ext.alloc ?_ _ | with_reducible refine Ext.setCell ?_ (by first | omega | (simp; done) | (simp; omega)) _)) hx4))
  have X4 : Hid (Ext w w4) := Lib.hid (Ext.trans (by repeat (first | with_reducible exact X3.out | with_reducible refine Ext.drew ?_ | with_reducible refine Ext.drewN ?_ _ | with_reducible refine Ext.alloc ?_ _ | with_reducible refine Ext.setCell ?_ (by first | omega | (simp; done) | (simp; omega)) _)) hx4)
  clear X3 hx4 z4
  go_wp2_with fail
  (with_reducible refine (list15_any _ 1 1 _).mono ?_)
  rintro e w5 ⟨rfl, hx5⟩
  have z5 := hx5.size
  try simp at z5
  replace HL := Lib.hid (HL.out.ext (Ext.trans (by repeat (first | with_reducible exact Ext.refl _ | with_reducible refine Ext.drew ?_ | with_reducible refine Ext.drewN ?_ _ | with_reducible refine Ext.alloc ?_ _ | with_reducible refine Ext.setCell ?_ (by first | omega | (simp; done) | (simp; omega)) _)) hx5))
  have X5 : Hid (Ext w w5) := Lib.hid (Ext.trans (by repeat (first | with_reducible exact X4.out | with_reducible refine Ext.drew ?_ | with_reducible refine Ext.drewN ?_ _ | with_reducible refine Ext.alloc ?_ _ | with_reducible refine Ext.setCell ?_ (by first | omega | (simp; done) | (simp; omega)) _)) hx5)
  have HM := Lib.hid ((hops_new w4 [(0, 1, 2, 5)] 1 rfl (by omega)).ext hx5)
  clear X4 hx5 z5
  go_wp2_with fail
  (with_reducible refine (one15_any 0 1 3 5 _).mono ?_)
  rintro e w6 ⟨rfl, hx6⟩
  have z6 := hx6.size
  try simp at z6
  replace HL := Lib.hid (HL.out.ext (Ext.trans (by repeat (first | with_reducible exact Ext.refl _ | with_reducible refine Ext.drew ?_ | with_reducible refine Ext.drewN ?_ _ | with_reducible refine Ext.alloc ?_ _ | with_reducible refine Ext.setCell ?_ (by first | omega | (simp; done) | (simp; omega)) _)) hx6))
  replace HM := Lib.hid (HM.out.ext (Ext.trans (by repeat (first | with_reducible exact Ext.refl _ | with_reducible refine Ext.drew ?_ | with_reducible refine Ext.drewN ?_ _ | with_reducible refine Ext.alloc ?_ _ | with_reducible refine Ext.setCell ?_ (by first | omega | (simp; done) | (simp; omega)) _)) hx6))
  have X6 : Hid (Ext w w6) := Lib.hid (Ext.trans (by repeat (first | with_reducible exact X5.out | with_reducible refine Ext.drew ?_ | with_reducible refine Ext.drewN ?_ _ | with_reducible refine Ext.alloc ?_ _ | with_reducible refine Ext.setCell ?_ (by first | omega | (simp; done) | (simp; omega)) _)) hx6)
  clear X5 hx6 z6
  go_wp2_with fail
  (with_reducible refine (hopAdd_ev _ 1 1 [(0, 1, 2, 5)] awM 0 1 3 5 1 0 _ (HM.out.ext (by repeat (first | with_reducible exact Ext.refl _ | with_reducible refine Ext.drew ?_ | with_reducible refine Ext.drewN ?_ _ | with_reducible refine Ext.alloc ?_ _ | with_reducible refine Ext.setCell ?_ (by first | omega | (simp; done) | (simp; omega)) _))) (by omega) (fitsH_of rfl) (fitsH_one rfl) (fun h => by cases h) rfl).mono ?_)
  rintro e w7 ⟨A7, c7, rfl, hA7, hO7, hx7⟩
  have z7 := hx7.size
  try simp at z7
  replace HL := Lib.hid (HL.out.ext (Ext.trans (by repeat (first | with_reducible exact Ext.refl _ | with_reducible refine Ext.drew ?_ | with_reducible refine Ext.drewN ?_ _ | with_reducible refine Ext.alloc ?_ _ | with_reducible refine Ext.setCell ?_ (by first | omega | (simp; done) | (simp; omega)) _)) hx7))
  replace HM := Lib.hid (HM.out.ext (Ext.trans (by repeat (first | with_reducible exact Ext.refl _ | with_reducible refine Ext.drew ?_ | with_reducible refine Ext.drewN ?_ _ | with_reducible refine Ext.alloc ?_ _ | with_reducible refine Ext.setCell ?_ (by first | omega | (simp; done) | (simp; omega)) _)) hx7))
  have X7 : Hid (Ext w w7) := Lib.hid (Ext.trans (by repeat (first | with_reducible exact X6.out | with_reducible refine Ext.drew ?_ | with_reducible refine Ext.drewN ?_ _ | with_reducible refine Ext.alloc ?_ _ | with_reducible refine Ext.setCell ?_ (by first | omega | (simp; done) | (simp; omega)) _)) hx7)
  have HO := Lib.hid hO7
  clear X6 hx7 z7 hO7
  have HA7 := Lib.hid hA7
  clear hA7
  go_wp2_with fail
  (with_reducible refine (hopNext_ev _ 2 2 awL 10 15 true _ (HL.out.ext (by repeat (first | with_reducible exact Ext.refl _ | with_reducible refine Ext.drew ?_ | with_reducible refine Ext.drewN ?_ _ | with_reducible refine Ext.alloc ?_ _ | with_reducible refine Ext.setCell ?_ (by first | omega | (simp; done) | (simp; omega)) _))) (fits_t (fitsH_of rfl)) rfl).mono ?_)
  rintro e w8 ⟨rfl, hx8⟩
  have z8 := hx8.size
  try simp at z8
  replace HL := Lib.hid (HL.out.ext (Ext.trans (by repeat (first | with_reducible exact Ext.refl _ | with_reducible refine Ext.drew ?_ | with_reducible refine Ext.drewN ?_ _ | with_reducible refine Ext.alloc ?_ _ | with_reducible refine Ext.setCell ?_ (by first | omega | (simp; done) | (simp; omega)) _)) hx8))
  replace HM := Lib.hid (HM.out.ext (Ext.trans (by repeat (first | with_reducible exact Ext.refl _ | with_reducible refine Ext.drew ?_ | with_reducible refine Ext.drewN ?_ _ | with_reducible refine Ext.alloc ?_ _ | with_reducible refine Ext.setCell ?_ (by first | omega | (simp; done) | (simp; omega)) _)) hx8))
  replace HO := Lib.hid (HO.out.ext (Ext.trans (by repeat (first | with_reducible exact Ext.refl _ | with_reducible refine Ext.drew ?_ | with_reducible refine Ext.drewN ?_ _ | with_reducible refine Ext.alloc ?_ _ | with_reducible refine Ext.setCell ?_ (by first | omega | (simp; done) | (simp; omega)) _)) hx8))
  have X8 : Hid (Ext w w8) := Lib.hid (Ext.trans (by repeat (first | with_reducible exact X7.out | with_reducible refine Ext.drew ?_ | with_reducible refine Ext.drewN ?_ _ | with_reducible refine Ext.alloc ?_ _ | with_reducible refine Ext.setCell ?_ (by first | omega | (simp; done) | (simp; omega)) _)) hx8)
  clear X7 hx8 z8
  go_wp2_with fail
  (with_reducible refine (checks15_t _ 2 2 awL 0 0 _ (HL.out.ext (by repeat (first | with_reducible exact Ext.refl _ | with_reducible refine Ext.drew ?_ | with_reducible refine Ext.drewN ?_ _ | with_reducible refine Ext.alloc ?_ _ | with_reducible refine Ext.setCell ?_ (by first | omega | (simp; done) | (simp; omega)) _))) (fitsH_of rfl) rfl).mono ?_)
  rintro e w9 ⟨rfl, hx9⟩
  have z9 := hx9.size
  try simp at z9
  replace HL := Lib.hid (HL.out.ext (Ext.trans (by repeat (first | with_reducible exact Ext.refl _ | with_reducible refine Ext.drew ?_ | with_reducible refine Ext.drewN ?_ _ | with_reducible refine Ext.alloc ?_ _ | with_reducible refine Ext.setCell ?_ (by first | omega | (simp; done) | (simp; omega)) _)) hx9))
  replace HM := Lib.hid (HM.out.ext (Ext.trans (by repeat (first | with_reducible exact Ext.refl _ | with_reducible refine Ext.drew ?_ | with_reducible refine Ext.drewN ?_ _ | with_reducible refine Ext.alloc ?_ _ | with_reducible refine Ext.setCell ?_ (by first | omega | (simp; done) | (simp; omega)) _)) hx9))
  replace HO := Lib.hid (HO.out.ext (Ext.trans (by repeat (first | with_reducible exact Ext.refl _ | with_reducible refine Ext.drew ?_ | with_reducible refine Ext.drewN ?_ _ | with_reducible refine Ext.alloc ?_ _ | with_reducible refine Ext.setCell ?_ (by first | omega | (simp; done) | (simp; omega)) _)) hx9))
  have X9 : Hid (Ext w w9) := Lib.hid (Ext.trans (by repeat (first | with_reducible exact X8.out | with_reducible refine Ext.drew ?_ | with_reducible refine Ext.drewN ?_ _ | with_reducible refine Ext.alloc ?_ _ | with_reducible refine Ext.setCell ?_ (by first | omega | (simp; done) | (simp; omega)) _)) hx9)
  clear X8 hx9 z9
  go_wp2_with fail
  (with_reducible refine (one15_any 0 1 2 5 _).mono ?_)
  rintro e w10 ⟨rfl, hx10⟩
  have z10 := hx10.size
  try simp at z10
  replace HL := Lib.hid (HL.out.ext (Ext.trans (by repeat (first | with_reducible exact Ext.refl _ | with_reducible refine Ext.drew ?_ | with_reducible refine Ext.drewN ?_ _ | with_reducible refine Ext.alloc ?_ _ | with_reducible refine Ext.setCell ?_ (by first | omega | (simp; done) | (simp; omega)) _)) hx10))
  replace HM := Lib.hid (HM.out.ext (Ext.trans (by repeat (first | with_reducible exact Ext.refl _ | with_reducible refine Ext.drew ?_ | with_reducible refine Ext.drewN ?_ _ | with_reducible refine Ext.alloc ?_ _ | with_reducible refine Ext.setCell ?_ (by first | omega | (simp; done) | (simp; omega)) _)) hx10))
  replace HO := Lib.hid (HO.out.ext (Ext.trans (by repeat (first | with_reducible exact Ext.refl _ | with_reducible refine Ext.drew ?_ | with_reducible refine Ext.drewN ?_ _ | with_reducible refine Ext.alloc ?_ _ | with_reducible refine Ext.setCell ?_ (by first | omega | (simp; done) | (simp; omega)) _)) hx10))
  have X10 : Hid (Ext w w10) := Lib.hid (Ext.trans (by repeat (first | with_reducible exact X9.out | with_reducible refine Ext.drew ?_ | with_reducible refine Ext.drewN ?_ _ | with_reducible refine Ext.alloc ?_ _ | with_reducible refine Ext.setCell ?_ (by first | omega | (simp; done) | (simp; omega)) _)) hx10)
  clear X9 hx10 z10
  go_wp2_with fail
  (with_reducible refine (one15_any 0 1 3 5 _).mono ?_)
  rintro e w11 ⟨rfl, hx11⟩
  have z11 := hx11.size
  try simp at z11
  replace HL := Lib.hid (HL.out.ext (Ext.trans (by repeat (first | with_reducible exact Ext.refl _ | with_reducible refine Ext.drew ?_ | with_reducible refine Ext.drewN ?_ _ | with_reducible refine Ext.alloc ?_ _ | with_reducible refine Ext.setCell ?_ (by first | omega | (simp; done) | (simp; omega)) _)) hx11))
  replace HM := Lib.hid (HM.out.ext (Ext.trans (by repeat (first | with_reducible exact Ext.refl _ | with_reducible refine Ext.drew ?_ | with_reducible refine Ext.drewN ?_ _ | with_reducible refine Ext.alloc ?_ _ | with_reducible refine Ext.setCell ?_ (by first | omega | (simp; done) | (simp; omega)) _)) hx11))
  replace HO := Lib.hid (HO.out.ext (Ext.trans (by repeat (first | with_reducible exact Ext.refl _ | with_reducible refine Ext.drew ?_ | with_reducible refine Ext.drewN ?_ _ | with_reducible refine Ext.alloc ?_ _ | with_reducible refine Ext.setCell ?_ (by first | omega | (simp; done) | (simp; omega)) _)) hx11))
  have X11 : Hid (Ext w w11) := Lib.hid (Ext.trans (by repeat (first | with_reducible exact X10.out | with_reducible refine Ext.drew ?_ | with_reducible refine Ext.drewN ?_ _ | with_reducible refine Ext.alloc ?_ _ | with_reducible refine Ext.setCell ?_ (by first | omega | (simp; done) | (simp; omega)) _)) hx11)
  clear X10 hx11 z11
  go_wp2_with fail
  (with_reducible refine (list15_any _ 2 2 _).mono ?_)
  rintro e w12 ⟨rfl, hx12⟩
  have z12 := hx12.size
  try simp at z12
  replace HL := Lib.hid (HL.out.ext (Ext.trans (by repeat (first | with_reducible exact Ext.refl _ | with_reducible refine Ext.drew ?_ | with_reducible refine Ext.drewN ?_ _ | with_reducible refine Ext.alloc ?_ _ | with_reducible refine Ext.setCell ?_ (by first | omega | (simp; done) | (simp; omega)) _)) hx12))
  replace HM := Lib.hid (HM.out.ext (Ext.trans (by repeat (first | with_reducible exact Ext.refl _ | with_reducible refine Ext.drew ?_ | with_reducible refine Ext.drewN ?_ _ | with_reducible refine Ext.alloc ?_ _ | with_reducible refine Ext.setCell ?_ (by first | omega | (simp; done) | (simp; omega)) _)) hx12))
  replace HO := Lib.hid (HO.out.ext (Ext.trans (by repeat (first | with_reducible exact Ext.refl _ | with_reducible refine Ext.drew ?_ | with_reducible refine Ext.drewN ?_ _ | with_reducible refine Ext.alloc ?_ _ | with_reducible refine Ext.setCell ?_ (by first | omega | (simp; done) | (simp; omega)) _)) hx12))
  have X12 : Hid (Ext w w12) := Lib.hid (Ext.trans (by repeat (first | with_reducible exact X11.out | with_reducible refine Ext.drew ?_ | with_reducible refine Ext.drewN ?_ _ | with_reducible refine Ext.alloc ?_ _ | with_reducible refine Ext.setCell ?_ (by first | omega | (simp; done) | (simp; omega)) _)) hx12)
  have HM2 := Lib.hid ((hops_new w11 awM 2 rfl (by omega)).ext hx12)
  clear X11 hx12 z12
  go_wp2_with fail
  (with_reducible refine (kSameHops_eq A7 _ awM.length c7 2 2 awM _ (HO.out.ext (by repeat (first | with_reducible exact Ext.refl _ | with_reducible refine Ext.drew ?_ | with_reducible refine Ext.drewN ?_ _ | with_reducible refine Ext.alloc ?_ _ | with_reducible refine Ext.setCell ?_ (by first | omega | (simp; done) | (simp; omega)) _))).sl (HM2.out.ext (by repeat (first | with_reducible exact Ext.refl _ | with_reducible refine Ext.drew ?_ | with_reducible refine Ext.drewN ?_ _ | with_reducible refine Ext.alloc ?_ _ | with_reducible refine Ext.setCell ?_ (by first | omega | (simp; done) | (simp; omega)) _)))).mono ?_)
  rintro e w13 ⟨rfl, hx13⟩
  have z13 := hx13.size
  try simp at z13
  replace HL := Lib.hid (HL.out.ext (Ext.trans (by repeat (first | with_reducible exact Ext.refl _ | with_reducible refine Ext.drew ?_ | with_reducible refine Ext.drewN ?_ _ | with_reducible refine Ext.alloc ?_ _ | with_reducible refine Ext.setCell ?_ (by first | omega | (simp; done) | (simp; omega)) _)) hx13))
  replace HM := Lib.hid (HM.out.ext (Ext.trans (by repeat (first | with_reducible exact Ext.refl _ | with_reducible refine Ext.drew ?_ | with_reducible refine Ext.drewN ?_ _ | with_reducible refine Ext.alloc ?_ _ | with_reducible refine Ext.setCell ?_ (by first | omega | (simp; done) | (simp; omega)) _)) hx13))
  replace HO := Lib.hid (HO.out.ext (Ext.trans (by repeat (first | with_reducible exact Ext.refl _ | with_reducible refine Ext.drew ?_ | with_reducible refine Ext.drewN ?_ _ | with_reducible refine Ext.alloc ?_ _ | with_reducible refine Ext.setCell ?_ (by first | omega | (simp; done) | (simp; omega)) _)) hx13))
  replace HM2 := Lib.hid (HM2.out.ext (Ext.trans (by repeat (first | with_reducible exact Ext.refl _ | with_reducible refine Ext.drew ?_ | with_reducible refine Ext.drewN ?_ _ | with_reducible refine Ext.alloc ?_ _ | with_reducible refine Ext.setCell ?_ (by first | omega | (simp; done) | (simp; omega)) _)) hx13))
  have X13 : Hid (Ext w w13) := Lib.hid (Ext.trans (by repeat (first | with_reducible exact X12.out | with_reducible refine Ext.drew ?_ | with_reducible refine Ext.drewN ?_ _ | with_reducible refine Ext.alloc ?_ _ | with_reducible refine Ext.setCell ?_ (by first | omega | (simp; done) | (simp; omega)) _)) hx13)
  clear X12 hx13 z13
  go_wp2_with fail
  (with_reducible refine (one15_any 0 1 2 5 _).mono ?_)
  rintro e w14 ⟨rfl, hx14⟩
  have z14 := hx14.size
  try simp at z14
  replace HL := Lib.hid (HL.out.ext (Ext.trans (by repeat (first | with_reducible exact Ext.refl _ | with_reducible refine Ext.drew ?_ | with_reducible refine Ext.drewN ?_ _ | with_reducible refine Ext.alloc ?_ _ | with_reducible refine Ext.setCell ?_ (by first | omega | (simp; done) | (simp; omega)) _)) hx14))
  replace HM := Lib.hid (HM.out.ext (Ext.trans (by repeat (first | with_reducible exact Ext.refl _ | with_reducible refine Ext.drew ?_ | with_reducible refine Ext.drewN ?_ _ | with_reducible refine Ext.alloc ?_ _ | with_reducible refine Ext.setCell ?_ (by first | omega | (simp; done) | (simp; omega)) _)) hx14))
  replace HO := Lib.hid (HO.out.ext (Ext.trans (by repeat (first | with_reducible exact Ext.refl _ | with_reducible refine Ext.drew ?_ | with_reducible refine Ext.drewN ?_ _ | with_reducible refine Ext.alloc ?_ _ | with_reducible refine Ext.setCell ?_ (by first | omega | (simp; done) | (simp; omega)) _)) hx14))
  replace HM2 := Lib.hid (HM2.out.ext (Ext.trans (by repeat (first | with_reducible exact Ext.refl _ | with_reducible refine Ext.drew ?_ | with_reducible refine Ext.drewN ?_ _ | with_reducible refine Ext.alloc ?_ _ | with_reducible refine Ext.setCell ?_ (by first | omega | (simp; done) | (simp; omega)) _)) hx14))
  have X14 : Hid (Ext w w14) := Lib.hid (Ext.trans (by repeat (first | with_reducible exact X13.out | with_reducible refine Ext.drew ?_ | with_reducible refine Ext.drewN ?_ _ | with_reducible refine Ext.alloc ?_ _ | with_reducible refine Ext.setCell ?_ (by first | omega | (simp; done) | (simp; omega)) _)) hx14)
  clear X13 hx14 z14
  go_wp2_with fail
  (with_reducible refine (adds15_ev A7 awM.length c7 awM [] 0 1 2 5 1 22 _ (HO.out.ext (by repeat (first | with_reducible exact Ext.refl _ | with_reducible refine Ext.drew ?_ | with_reducible refine Ext.drewN ?_ _ | with_reducible refine Ext.alloc ?_ _ | with_reducible refine Ext.setCell ?_ (by first | omega | (simp; done) | (simp; omega)) _))).sl (by decide) (fitsH_of rfl) (fitsH_one rfl) HA7.out rfl).mono ?_)
  rintro e w15 ⟨rfl, hx15⟩
  have z15 := hx15.size
  try simp at z15
  replace HL := Lib.hid (HL.out.ext (Ext.trans (by repeat (first | with_reducible exact Ext.refl _ | with_reducible refine Ext.drew ?_ | with_reducible refine Ext.drewN ?_ _ | with_reducible refine Ext.alloc ?_ _ | with_reducible refine Ext.setCell ?_ (by first | omega | (simp; done) | (simp; omega)) _)) hx15))
  replace HM := Lib.hid (HM.out.ext (Ext.trans (by repeat (first | with_reducible exact Ext.refl _ | with_reducible refine Ext.drew ?_ | with_reducible refine Ext.drewN ?_ _ | with_reducible refine Ext.alloc ?_ _ | with_reducible refine Ext.setCell ?_ (by first | omega | (simp; done) | (simp; omega)) _)) hx15))
  replace HO := Lib.hid (HO.out.ext (Ext.trans (by repeat (first | with_reducible exact Ext.refl _ | with_reducible refine Ext.drew ?_ | with_reducible refine Ext.drewN ?_ _ | with_reducible refine Ext.alloc ?_ _ | with_reducible refine Ext.setCell ?_ (by first | omega | (simp; done) | (simp; omega)) _)) hx15))
  replace HM2 := Lib.hid (HM2.out.ext (Ext.trans (by repeat (first | with_reducible exact Ext.refl _ | with_reducible refine Ext.drew ?_ | with_reducible refine Ext.drewN ?_ _ | with_reducible refine Ext.alloc ?_ _ | with_reducible refine Ext.setCell ?_ (by first | omega | (simp; done) | (simp; omega)) _)) hx15))
  have X15 : Hid (Ext w w15) := Lib.hid (Ext.trans (by repeat (first | with_reducible exact X14.out | with_reducible refine Ext.drew ?_ | with_reducible refine Ext.drewN ?_ _ | with_reducible refine Ext.alloc ?_ _ | with_reducible refine Ext.setCell ?_ (by first | omega | (simp; done) | (simp; omega)) _)) hx15)
  clear X14 hx15 z15
  go_wp2_with fail
  (with_reducible refine (ripes15_tm 1 _ 2 2 awL [(0, 1, 2, 5)] [(1, 1, 2, 6)] 15 10 _ (HL.out.ext (by repeat (first | with_reducible exact Ext.refl _ | with_reducible refine Ext.drew ?_ | with_reducible refine Ext.drewN ?_ _ | with_reducible refine Ext.alloc ?_ _ | with_reducible refine Ext.setCell ?_ (by first | omega | (simp; done) | (simp; omega)) _))) (by omega) (fitsH_of rfl) (fun h => by cases h) rfl 1 (by omega) rfl rfl rfl).mono ?_)
  rintro e w16 ⟨rfl, hx16⟩
  have z16 := hx16.size
  try simp at z16
  replace HL := Lib.hid (HL.out.ext (Ext.trans (by repeat (first | with_reducible exact Ext.refl _ | with_reducible refine Ext.drew ?_ | with_reducible refine Ext.drewN ?_ _ | with_reducible refine Ext.alloc ?_ _ | with_reducible refine Ext.setCell ?_ (by first | omega | (simp; done) | (simp; omega)) _)) hx16))
  replace HM := Lib.hid (HM.out.ext (Ext.trans (by repeat (first | with_reducible exact Ext.refl _ | with_reducible refine Ext.drew ?_ | with_reducible refine Ext.drewN ?_ _ | with_reducible refine Ext.alloc ?_ _ | with_reducible refine Ext.setCell ?_ (by first | omega | (simp; done) | (simp; omega)) _)) hx16))
  replace HO := Lib.hid (HO.out.ext (Ext.trans (by repeat (first | with_reducible exact Ext.refl _ | with_reducible refine Ext.drew ?_ | with_reducible refine Ext.drewN ?_ _ | with_reducible refine Ext.alloc ?_ _ | with_reducible refine Ext.setCell ?_ (by first | omega | (simp; done) | (simp; omega)) _)) hx16))
  replace HM2 := Lib.hid (HM2.out.ext (Ext.trans (by repeat (first | with_reducible exact Ext.refl _ | with_reducible refine Ext.drew ?_ | with_reducible refine Ext.drewN ?_ _ | with_reducible refine Ext.alloc ?_ _ | with_reducible refine Ext.setCell ?_ (by first | omega | (simp; done) | (simp; omega)) _)) hx16))
  have X16 : Hid (Ext w w16) := Lib.hid (Ext.trans (by repeat (first | with_reducible exact X15.out | with_reducible refine Ext.drew ?_ | with_reducible refine Ext.drewN ?_ _ | with_reducible refine Ext.alloc ?_ _ | with_reducible refine Ext.setCell ?_ (by first | omega | (simp; done) | (simp; omega)) _)) hx16)
  clear X15 hx16 z16
  go_wp2_with fail
  (with_reducible refine (ripes15_tm 0 _ 2 2 awL [] awL 14 10 _ (HL.out.ext (by repeat (first | with_reducible exact Ext.refl _ | with_reducible refine Ext.drew ?_ | with_reducible refine Ext.drewN ?_ _ | with_reducible refine Ext.alloc ?_ _ | with_reducible refine Ext.setCell ?_ (by first | omega | (simp; done) | (simp; omega)) _))) (by omega) (fitsH_of rfl) (fun h => by cases h) rfl 0 (by omega) rfl rfl rfl).mono ?_)
  rintro e w17 ⟨rfl, hx17⟩
  have z17 := hx17.size
  try simp at z17
  replace HL := Lib.hid (HL.out.ext (Ext.trans (by repeat (first | with_reducible exact Ext.refl _ | with_reducible refine Ext.drew ?_ | with_reducible refine Ext.drewN ?_ _ | with_reducible refine Ext.alloc ?_ _ | with_reducible refine Ext.setCell ?_ (by first | omega | (simp; done) | (simp; omega)) _)) hx17))
  replace HM := Lib.hid (HM.out.ext (Ext.trans (by repeat (first | with_reducible exact Ext.refl _ | with_reducible refine Ext.drew ?_ | with_reducible refine Ext.drewN ?_ _ | with_reducible refine Ext.alloc ?_ _ | with_reducible refine Ext.setCell ?_ (by first | omega | (simp; done) | (simp; omega)) _)) hx17))
  replace HO := Lib.hid (HO.out.ext (Ext.trans (by repeat (first | with_reducible exact Ext.refl _ | with_reducible refine Ext.drew ?_ | with_reducible refine Ext.drewN ?_ _ | with_reducible refine Ext.alloc ?_ _ | with_reducible refine Ext.setCell ?_ (by first | omega | (simp; done) | (simp; omega)) _)) hx17))
  replace HM2 := Lib.hid (HM2.out.ext (Ext.trans (by repeat (first | with_reducible exact Ext.refl _ | with_reducible refine Ext.drew ?_ | with_reducible refine Ext.drewN ?_ _ | with_reducible refine Ext.alloc ?_ _ | with_reducible refine Ext.setCell ?_ (by first | omega | (simp; done) | (simp; omega)) _)) hx17))
  have X17 : Hid (Ext w w17) := Lib.hid (Ext.trans (by repeat (first | with_reducible exact X16.out | with_reducible refine Ext.drew ?_ | with_reducible refine Ext.drewN ?_ _ | with_reducible refine Ext.alloc ?_ _ | with_reducible refine Ext.setCell ?_ (by first | omega | (simp; done) | (simp; omega)) _)) hx17)
  clear X16 hx17 z17
  go_wp2_with fail
  go_ret
  exact ⟨rfl, (by repeat (first | with_reducible exact X17.out | with_reducible refine Ext.drew ?_ | with_reducible refine Ext.drewN ?_ _ | with_reducible refine Ext.alloc ?_ _ | with_reducible refine Ext.setCell ?_ (by first | omega | (simp; done) | (simp; omega)) _))⟩
end Go.Proofs.Ytjdpgapmdmpjjaa
