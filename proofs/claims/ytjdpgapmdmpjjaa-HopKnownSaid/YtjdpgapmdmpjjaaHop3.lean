/- hops: when one is ripe at first, which come to a validator, how many there are. Conditions stand in each lemma. -/
import Derived.Test.YtjdpgapmdmpjjaaHop2
set_option linter.unusedVariables false
set_option linter.unusedSimpArgs false
namespace Go.Proofs.Ytjdpgapmdmpjjaa
open Go.RowKit Go.ChangeShapes Go.WideShapes Go.Deep Go.Joins

def nxtV (l : List (Int × Int × Int × Int)) (u : Int) : Int × Bool := if (chkH l).1 ≠ 0 then (0, false) else match l.head? with | some x => if 1 ≤ u ∧ u ≤ 1048576 then (x.2.2.2 + u, true) else (0, false) | none => (0, false)
theorem chkH_zero {l : List (Int × Int × Int × Int)} (h : (chkH l).1 = 0) : chkH l = (0, 0) ∧ l.length ≤ 4096 ∧ ∀ (j : Nat) x, l[j]? = some x → mayV x (l.take j) = 0 := by
  obtain ⟨h1, h2, h3⟩ := chkG_zero h
  refine ⟨h1, h2, fun j x hx => ?_⟩
  have h4 := h3 j (List.getElem?_eq_some_iff.1 hx).1
  unfold badH at h4
  rw [hx] at h4
  exact h4
theorem mayV_may {x : (Int × Int × Int × Int)} {l : List (Int × Int × Int × Int)} (h : mayV x l = 0) : MayH x := by
  by_cases hm : MayH x
  · exact hm
  · rw [mayV_no hm] at h; simp at h
set_option maxRecDepth 100000 in
set_option maxHeartbeats 4000000 in
theorem hopNext_none (A : Option Addr) (n c : Nat) (l : List (Int × Int × Int × Int)) (u f1 f2 : Int) (b : Bool) (w : World) (h : Sl w 4 A n c (l.flatMap hopC)) (hf : ∀ x ∈ l, Fits .i64 x.2.2.2) (hF : (f1, f2) = chkH l) (hb : b = decide (1 ≤ u ∧ u ≤ 1048576)) (hc : f1 ≠ 0 ∨ n = 0 ∨ b = false) :
    Calls Try.prog 19 #[.slice A n c, .int .i64 u] w fun e w' => e = .returned (.tuple #[.int .i64 0, .bool false]) ∧ Ext w w' := by
  have s1 := h.small
  have HS := Lib.hid h
  have HFt := Lib.hid hf
  have HF := Lib.hid hF
  have HB := Lib.hid hb
  clear h hf hF hb
  go_enter Try.func19, Try.ntmps19
  go_wp2_with fail
  (with_reducible refine (hopCheck_ev A n c l f1 f2 _ (HS.out.ext (by repeat (first | with_reducible exact Ext.refl _ | with_reducible refine Ext.drew ?_ | with_reducible refine Ext.drewN ?_ _ | with_reducible refine Ext.alloc ?_ _ | with_reducible refine Ext.setCell ?_ (by first | omega | (simp; done) | (simp; omega)) _))) HFt.out HF.out).mono ?_)
  rintro e w1 ⟨rfl, hx1⟩
  have z1 := hx1.size
  try simp at z1
  replace HS := Lib.hid (HS.out.ext (Ext.trans (by repeat (first | with_reducible exact Ext.refl _ | with_reducible refine Ext.drew ?_ | with_reducible refine Ext.drewN ?_ _ | with_reducible refine Ext.alloc ?_ _ | with_reducible refine Ext.setCell ?_ (by first | omega | (simp; done) | (simp; omega)) _)) hx1))
  have X1 : Hid (Ext w w1) := Lib.hid (Ext.trans (by repeat (first | with_reducible exact Ext.refl w | with_reducible refine Ext.drew ?_ | with_reducible refine Ext.drewN ?_ _ | with_reducible refine Ext.alloc ?_ _ | with_reducible refine Ext.setCell ?_ (by first | omega | (simp; done) | (simp; omega)) _)) hx1)
  clear hx1 z1
  by_cases h1 : f1 ≠ 0
  · have e1 : (f1 != 0) = true := by simpa using h1
    go_wp2_with fail
    refine bodyPost_ret (v := .tuple #[.int .i64 0, .bool false]) (by simp [results, Try.results19]; try rfl) rfl ⟨rfl, ?_⟩
    exact (by repeat (first | with_reducible exact X1.out | with_reducible refine Ext.drew ?_ | with_reducible refine Ext.drewN ?_ _ | with_reducible refine Ext.alloc ?_ _ | with_reducible refine Ext.setCell ?_ (by first | omega | (simp; done) | (simp; omega)) _))
  · have e1 : (f1 != 0) = false := by simpa using h1
    by_cases h2 : n = 0
    · subst h2
      go_wp2_with fail
      refine bodyPost_ret (v := .tuple #[.int .i64 0, .bool false]) (by simp [results, Try.results19]; try rfl) rfl ⟨rfl, ?_⟩
      exact (by repeat (first | with_reducible exact X1.out | with_reducible refine Ext.drew ?_ | with_reducible refine Ext.drewN ?_ _ | with_reducible refine Ext.alloc ?_ _ | with_reducible refine Ext.setCell ?_ (by first | omega | (simp; done) | (simp; omega)) _))
    · have e2 : ((n : Int) == 0) = false := by simp; omega
      go_wp2_with fail
      have hb0 : b = false := by exact hc.elim (fun h => absurd h (by simpa using h1)) (fun h => h.elim (fun h => absurd h h2) id)
      subst hb0
      (with_reducible refine (hopTime_any u false _ HB.out).mono ?_)
      rintro e w2 ⟨rfl, hx2⟩
      have z2 := hx2.size
      try simp at z2
      replace HS := Lib.hid (HS.out.ext (Ext.trans (by repeat (first | with_reducible exact Ext.refl _ | with_reducible refine Ext.drew ?_ | with_reducible refine Ext.drewN ?_ _ | with_reducible refine Ext.alloc ?_ _ | with_reducible refine Ext.setCell ?_ (by first | omega | (simp; done) | (simp; omega)) _)) hx2))
      have X2 : Hid (Ext w w2) := Lib.hid (Ext.trans (by repeat (first | with_reducible exact X1.out | with_reducible refine Ext.drew ?_ | with_reducible refine Ext.drewN ?_ _ | with_reducible refine Ext.alloc ?_ _ | with_reducible refine Ext.setCell ?_ (by first | omega | (simp; done) | (simp; omega)) _)) hx2)
      clear X1 hx2 z2
      go_wp2_with fail
      refine bodyPost_ret (v := .tuple #[.int .i64 0, .bool false]) (by simp [results, Try.results19]; try rfl) rfl ⟨rfl, ?_⟩
      exact (by repeat (first | with_reducible exact X2.out | with_reducible refine Ext.drew ?_ | with_reducible refine Ext.drewN ?_ _ | with_reducible refine Ext.alloc ?_ _ | with_reducible refine Ext.setCell ?_ (by first | omega | (simp; done) | (simp; omega)) _))
set_option maxRecDepth 100000 in
set_option maxHeartbeats 4000000 in
theorem hopNext_some (A : Option Addr) (n c : Nat) (x0 x1 x2 x3 v : Int) (l : List (Int × Int × Int × Int)) (u : Int) (w : World) (h : Sl w 4 A n c (l.flatMap hopC)) (hf : ∀ x ∈ l, Fits .i64 x.2.2.2) (hF : ((0 : Int), (0 : Int)) = chkH l) (hb : true = decide (1 ≤ u ∧ u ≤ 1048576)) (hx : l[0]? = some (x0, x1, x2, x3)) (hm : 1 ≤ x3 ∧ x3 ≤ 4294967296) (hv : v = x3 + u) :
    Calls Try.prog 19 #[.slice A n c, .int .i64 u] w fun e w' => e = .returned (.tuple #[.int .i64 v, .bool true]) ∧ Ext w w' := by
  have s1 := h.small
  have hl := h.rlen hopC_len (by decide)
  have hu := of_decide_eq_true hb.symm
  have hn0 : 0 < n := by have := (List.getElem?_eq_some_iff.1 hx).1; omega
  have hn1 : (0 : Int) < n := by omega
  have e2 : ((n : Int) == 0) = false := by simp; omega
  have hwr : IntKind.i64.wrap (x3 + u) = v := by rw [hv]; exact IntWalk.i64_in _ (by omega)
  obtain ⟨b1, o1, rfl, hb1, hc1⟩ := h.rec_ hopC_len hn0
  have x_3 := hc1 0 _ hx 3 _ rfl
  simp only [Nat.zero_mul, Nat.zero_add] at x_3
  have HS := Lib.hid h
  have HFt := Lib.hid hf
  have HF := Lib.hid hF
  have HB := Lib.hid hb
  clear h hf hF hb hx hm hv hu hc1 hl
  go_enter Try.func19, Try.ntmps19
  go_wp2_with fail
  (with_reducible refine (hopCheck_ev (some ⟨b1, o1, none⟩) n c l 0 0 _ (HS.out.ext (by repeat (first | with_reducible exact Ext.refl _ | with_reducible refine Ext.drew ?_ | with_reducible refine Ext.drewN ?_ _ | with_reducible refine Ext.alloc ?_ _ | with_reducible refine Ext.setCell ?_ (by first | omega | (simp; done) | (simp; omega)) _))) HFt.out HF.out).mono ?_)
  rintro e w1 ⟨rfl, hx1⟩
  replace x_3 : w1.cell? ⟨b1, o1 + 3, none⟩ = some (.int .i64 x3) := hx1.has (by first | exact x_3 | (simp [go_sem, World.cell?_alloc_past, x_3]; done))
  have z1 := hx1.size
  try simp at z1
  have rx : b1 < w1.heap.size := by omega
  have rxa : b1 < w1.heap.size + 1 := by omega
  have rxb : b1 < w1.heap.size + 1 + 1 := by omega
  have rxc : b1 < w1.heap.size + 1 + 1 + 1 := by omega
  have rxn : ¬ b1 = w1.heap.size := by omega
  replace HS := Lib.hid (HS.out.ext (Ext.trans (by repeat (first | with_reducible exact Ext.refl _ | with_reducible refine Ext.drew ?_ | with_reducible refine Ext.drewN ?_ _ | with_reducible refine Ext.alloc ?_ _ | with_reducible refine Ext.setCell ?_ (by first | omega | (simp; done) | (simp; omega)) _)) hx1))
  have X1 : Hid (Ext w w1) := Lib.hid (Ext.trans (by repeat (first | with_reducible exact Ext.refl w | with_reducible refine Ext.drew ?_ | with_reducible refine Ext.drewN ?_ _ | with_reducible refine Ext.alloc ?_ _ | with_reducible refine Ext.setCell ?_ (by first | omega | (simp; done) | (simp; omega)) _)) hx1)
  clear hx1 z1
  go_wp2_with fail
  (with_reducible refine (hopTime_any u true _ HB.out).mono ?_)
  rintro e w2 ⟨rfl, hx2⟩
  replace x_3 : w2.cell? ⟨b1, o1 + 3, none⟩ = some (.int .i64 x3) := hx2.has (by first | exact x_3 | (simp [go_sem, World.cell?_alloc_past, x_3, rx, rxa, rxb, rxc, rxn]; done))
  have z2 := hx2.size
  try simp at z2
  replace rx : b1 < w2.heap.size := by omega
  replace rxa : b1 < w2.heap.size + 1 := by omega
  replace rxb : b1 < w2.heap.size + 1 + 1 := by omega
  replace rxc : b1 < w2.heap.size + 1 + 1 + 1 := by omega
  replace rxn : ¬ b1 = w2.heap.size := by omega
  replace HS := Lib.hid (HS.out.ext (Ext.trans (by repeat (first | with_reducible exact Ext.refl _ | with_reducible refine Ext.drew ?_ | with_reducible refine Ext.drewN ?_ _ | with_reducible refine Ext.alloc ?_ _ | with_reducible refine Ext.setCell ?_ (by first | omega | (simp; done) | (simp; omega)) _)) hx2))
  have X2 : Hid (Ext w w2) := Lib.hid (Ext.trans (by repeat (first | with_reducible exact X1.out | with_reducible refine Ext.drew ?_ | with_reducible refine Ext.drewN ?_ _ | with_reducible refine Ext.alloc ?_ _ | with_reducible refine Ext.setCell ?_ (by first | omega | (simp; done) | (simp; omega)) _)) hx2)
  clear X1 hx2 z2
  go_wp2_with fail
  refine bodyPost_ret (v := .tuple #[.int .i64 v, .bool true]) (by simp [results, Try.results19]; try rfl) rfl ⟨rfl, ?_⟩
  exact (by repeat (first | with_reducible exact X2.out | with_reducible refine Ext.drew ?_ | with_reducible refine Ext.drewN ?_ _ | with_reducible refine Ext.alloc ?_ _ | with_reducible refine Ext.setCell ?_ (by first | omega | (simp; done) | (simp; omega)) _))
theorem hopNext_ev (A : Option Addr) (n c : Nat) (l : List (Int × Int × Int × Int)) (u v : Int) (b : Bool) (w : World) (h : Sl w 4 A n c (l.flatMap hopC)) (hf : ∀ x ∈ l, Fits .i64 x.2.2.2) (hv : (v, b) = nxtV l u) :
    Calls Try.prog 19 #[.slice A n c, .int .i64 u] w fun e w' => e = .returned (.tuple #[.int .i64 v, .bool b]) ∧ Ext w w' := by
  have hl := h.rlen hopC_len (by decide)
  unfold nxtV at hv
  by_cases hc : (chkH l).1 = 0
  · rw [if_neg (by simpa using hc)] at hv
    obtain ⟨hc0, _, hmv⟩ := chkH_zero hc
    cases l with
    | nil =>
      obtain ⟨rfl, rfl⟩ := Prod.mk.inj hv
      exact hopNext_none A n c [] u _ _ _ w h hf rfl rfl (.inr (.inl (by simpa using hl.symm)))
    | cons x l =>
      simp only [List.head?_cons] at hv
      by_cases hu : 1 ≤ u ∧ u ≤ 1048576
      · rw [if_pos hu] at hv
        obtain ⟨rfl, rfl⟩ := Prod.mk.inj hv
        obtain ⟨x0, x1, x2, x3⟩ := x
        have hm := mayV_may (hmv 0 (x0, x1, x2, x3) rfl)
        exact hopNext_some A n c x0 x1 x2 x3 _ _ u w h hf hc0.symm (decide_eq_true hu).symm rfl hm.2.2.2.2 rfl
      · rw [if_neg hu] at hv
        obtain ⟨rfl, rfl⟩ := Prod.mk.inj hv
        exact hopNext_none A n c (x :: l) u _ _ _ w h hf rfl rfl (.inr (.inr (decide_eq_false hu)))
  · rw [if_pos hc] at hv
    obtain ⟨rfl, rfl⟩ := Prod.mk.inj hv
    exact hopNext_none A n c l u _ _ _ w h hf rfl rfl (.inl hc)
set_option maxRecDepth 100000 in
set_option maxHeartbeats 4000000 in
theorem rNext15_none (A : Option Addr) (n c : Nat) (l : List (Int × Int × Int × Int)) (u f1 f2 : Int) (b : Bool) (w : World) (h : Sl w 4 A n c (l.flatMap hopC)) (hf : ∀ x ∈ l, Fits .i64 x.2.2.2) (hF : (f1, f2) = chkH l) (hb : b = decide (1 ≤ u ∧ u ≤ 1048576)) (hc : f1 ≠ 0 ∨ n = 0 ∨ b = false) :
    Calls Try.prog 20 #[.slice A n c, .int .i64 u] w fun e w' => e = .returned (.tuple #[.int .i64 0, .bool false]) ∧ Ext w w' := by
  have s1 := h.small
  have HS := Lib.hid h
  have HFt := Lib.hid hf
  have HF := Lib.hid hF
  have HB := Lib.hid hb
  clear h hf hF hb
  go_enter Try.func20, Try.ntmps20
  go_wp2_with fail
  (with_reducible refine (rCheck15_ev A n c l f1 f2 _ (HS.out.ext (by repeat (first | with_reducible exact Ext.refl _ | with_reducible refine Ext.drew ?_ | with_reducible refine Ext.drewN ?_ _ | with_reducible refine Ext.alloc ?_ _ | with_reducible refine Ext.setCell ?_ (by first | omega | (simp; done) | (simp; omega)) _))) HFt.out HF.out).mono ?_)
  rintro e w1 ⟨rfl, hx1⟩
  have z1 := hx1.size
  try simp at z1
  replace HS := Lib.hid (HS.out.ext (Ext.trans (by repeat (first | with_reducible exact Ext.refl _ | with_reducible refine Ext.drew ?_ | with_reducible refine Ext.drewN ?_ _ | with_reducible refine Ext.alloc ?_ _ | with_reducible refine Ext.setCell ?_ (by first | omega | (simp; done) | (simp; omega)) _)) hx1))
  have X1 : Hid (Ext w w1) := Lib.hid (Ext.trans (by repeat (first | with_reducible exact Ext.refl w | with_reducible refine Ext.drew ?_ | with_reducible refine Ext.drewN ?_ _ | with_reducible refine Ext.alloc ?_ _ | with_reducible refine Ext.setCell ?_ (by first | omega | (simp; done) | (simp; omega)) _)) hx1)
  clear hx1 z1
  by_cases h1 : f1 ≠ 0
  · have e1 : (f1 != 0) = true := by simpa using h1
    go_wp2_with fail
    refine bodyPost_ret (v := .tuple #[.int .i64 0, .bool false]) (by simp [results, Try.results20]; try rfl) rfl ⟨rfl, ?_⟩
    exact (by repeat (first | with_reducible exact X1.out | with_reducible refine Ext.drew ?_ | with_reducible refine Ext.drewN ?_ _ | with_reducible refine Ext.alloc ?_ _ | with_reducible refine Ext.setCell ?_ (by first | omega | (simp; done) | (simp; omega)) _))
  · have e1 : (f1 != 0) = false := by simpa using h1
    by_cases h2 : n = 0
    · subst h2
      go_wp2_with fail
      refine bodyPost_ret (v := .tuple #[.int .i64 0, .bool false]) (by simp [results, Try.results20]; try rfl) rfl ⟨rfl, ?_⟩
      exact (by repeat (first | with_reducible exact X1.out | with_reducible refine Ext.drew ?_ | with_reducible refine Ext.drewN ?_ _ | with_reducible refine Ext.alloc ?_ _ | with_reducible refine Ext.setCell ?_ (by first | omega | (simp; done) | (simp; omega)) _))
    · have e2 : ((n : Int) == 0) = false := by simp; omega
      go_wp2_with fail
      have hb0 : b = false := by exact hc.elim (fun h => absurd h (by simpa using h1)) (fun h => h.elim (fun h => absurd h h2) id)
      subst hb0
      (with_reducible refine (rTime15_any u false _ HB.out).mono ?_)
      rintro e w2 ⟨rfl, hx2⟩
      have z2 := hx2.size
      try simp at z2
      replace HS := Lib.hid (HS.out.ext (Ext.trans (by repeat (first | with_reducible exact Ext.refl _ | with_reducible refine Ext.drew ?_ | with_reducible refine Ext.drewN ?_ _ | with_reducible refine Ext.alloc ?_ _ | with_reducible refine Ext.setCell ?_ (by first | omega | (simp; done) | (simp; omega)) _)) hx2))
      have X2 : Hid (Ext w w2) := Lib.hid (Ext.trans (by repeat (first | with_reducible exact X1.out | with_reducible refine Ext.drew ?_ | with_reducible refine Ext.drewN ?_ _ | with_reducible refine Ext.alloc ?_ _ | with_reducible refine Ext.setCell ?_ (by first | omega | (simp; done) | (simp; omega)) _)) hx2)
      clear X1 hx2 z2
      go_wp2_with fail
      refine bodyPost_ret (v := .tuple #[.int .i64 0, .bool false]) (by simp [results, Try.results20]; try rfl) rfl ⟨rfl, ?_⟩
      exact (by repeat (first | with_reducible exact X2.out | with_reducible refine Ext.drew ?_ | with_reducible refine Ext.drewN ?_ _ | with_reducible refine Ext.alloc ?_ _ | with_reducible refine Ext.setCell ?_ (by first | omega | (simp; done) | (simp; omega)) _))
set_option maxRecDepth 100000 in
set_option maxHeartbeats 4000000 in
theorem rNext15_some (A : Option Addr) (n c : Nat) (x0 x1 x2 x3 v : Int) (l : List (Int × Int × Int × Int)) (u : Int) (w : World) (h : Sl w 4 A n c (l.flatMap hopC)) (hf : ∀ x ∈ l, Fits .i64 x.2.2.2) (hF : ((0 : Int), (0 : Int)) = chkH l) (hb : true = decide (1 ≤ u ∧ u ≤ 1048576)) (hx : l[0]? = some (x0, x1, x2, x3)) (hm : 1 ≤ x3 ∧ x3 ≤ 4294967296) (hv : v = x3 + u) :
    Calls Try.prog 20 #[.slice A n c, .int .i64 u] w fun e w' => e = .returned (.tuple #[.int .i64 v, .bool true]) ∧ Ext w w' := by
  have s1 := h.small
  have hl := h.rlen hopC_len (by decide)
  have hu := of_decide_eq_true hb.symm
  have hn0 : 0 < n := by have := (List.getElem?_eq_some_iff.1 hx).1; omega
  have hn1 : (0 : Int) < n := by omega
  have e2 : ((n : Int) == 0) = false := by simp; omega
  have hwr : IntKind.i64.wrap (x3 + u) = v := by rw [hv]; exact IntWalk.i64_in _ (by omega)
  obtain ⟨b1, o1, rfl, hb1, hc1⟩ := h.rec_ hopC_len hn0
  have x_3 := hc1 0 _ hx 3 _ rfl
  simp only [Nat.zero_mul, Nat.zero_add] at x_3
  have HS := Lib.hid h
  have HFt := Lib.hid hf
  have HF := Lib.hid hF
  have HB := Lib.hid hb
  clear h hf hF hb hx hm hv hu hc1 hl
  go_enter Try.func20, Try.ntmps20
  go_wp2_with fail
  (with_reducible refine (rCheck15_ev (some ⟨b1, o1, none⟩) n c l 0 0 _ (HS.out.ext (by repeat (first | with_reducible exact Ext.refl _ | with_reducible refine Ext.drew ?_ | with_reducible refine Ext.drewN ?_ _ | with_reducible refine Ext.alloc ?_ _ | with_reducible refine Ext.setCell ?_ (by first | omega | (simp; done) | (simp; omega)) _))) HFt.out HF.out).mono ?_)
  rintro e w1 ⟨rfl, hx1⟩
  replace x_3 : w1.cell? ⟨b1, o1 + 3, none⟩ = some (.int .i64 x3) := hx1.has (by first | exact x_3 | (simp [go_sem, World.cell?_alloc_past, x_3]; done))
  have z1 := hx1.size
  try simp at z1
  have rx : b1 < w1.heap.size := by omega
  have rxa : b1 < w1.heap.size + 1 := by omega
  have rxb : b1 < w1.heap.size + 1 + 1 := by omega
  have rxc : b1 < w1.heap.size + 1 + 1 + 1 := by omega
  have rxn : ¬ b1 = w1.heap.size := by omega
  replace HS := Lib.hid (HS.out.ext (Ext.trans (by repeat (first | with_reducible exact Ext.refl _ | with_reducible refine Ext.drew ?_ | with_reducible refine Ext.drewN ?_ _ | with_reducible refine Ext.alloc ?_ _ | with_reducible refine Ext.setCell ?_ (by first | omega | (simp; done) | (simp; omega)) _)) hx1))
  have X1 : Hid (Ext w w1) := Lib.hid (Ext.trans (by repeat (first | with_reducible exact Ext.refl w | with_reducible refine Ext.drew ?_ | with_reducible refine Ext.drewN ?_ _ | with_reducible refine Ext.alloc ?_ _ | with_reducible refine Ext.setCell ?_ (by first | omega | (simp; done) | (simp; omega)) _)) hx1)
  clear hx1 z1
  go_wp2_with fail
  (with_reducible refine (rTime15_any u true _ HB.out).mono ?_)
  rintro e w2 ⟨rfl, hx2⟩
  replace x_3 : w2.cell? ⟨b1, o1 + 3, none⟩ = some (.int .i64 x3) := hx2.has (by first | exact x_3 | (simp [go_sem, World.cell?_alloc_past, x_3, rx, rxa, rxb, rxc, rxn]; done))
  have z2 := hx2.size
  try simp at z2
  replace rx : b1 < w2.heap.size := by omega
  replace rxa : b1 < w2.heap.size + 1 := by omega
  replace rxb : b1 < w2.heap.size + 1 + 1 := by omega
  replace rxc : b1 < w2.heap.size + 1 + 1 + 1 := by omega
  replace rxn : ¬ b1 = w2.heap.size := by omega
  replace HS := Lib.hid (HS.out.ext (Ext.trans (by repeat (first | with_reducible exact Ext.refl _ | with_reducible refine Ext.drew ?_ | with_reducible refine Ext.drewN ?_ _ | with_reducible refine Ext.alloc ?_ _ | with_reducible refine Ext.setCell ?_ (by first | omega | (simp; done) | (simp; omega)) _)) hx2))
  have X2 : Hid (Ext w w2) := Lib.hid (Ext.trans (by repeat (first | with_reducible exact X1.out | with_reducible refine Ext.drew ?_ | with_reducible refine Ext.drewN ?_ _ | with_reducible refine Ext.alloc ?_ _ | with_reducible refine Ext.setCell ?_ (by first | omega | (simp; done) | (simp; omega)) _)) hx2)
  clear X1 hx2 z2
  go_wp2_with fail
  refine bodyPost_ret (v := .tuple #[.int .i64 v, .bool true]) (by simp [results, Try.results20]; try rfl) rfl ⟨rfl, ?_⟩
  exact (by repeat (first | with_reducible exact X2.out | with_reducible refine Ext.drew ?_ | with_reducible refine Ext.drewN ?_ _ | with_reducible refine Ext.alloc ?_ _ | with_reducible refine Ext.setCell ?_ (by first | omega | (simp; done) | (simp; omega)) _))
theorem rNext15_ev (A : Option Addr) (n c : Nat) (l : List (Int × Int × Int × Int)) (u v : Int) (b : Bool) (w : World) (h : Sl w 4 A n c (l.flatMap hopC)) (hf : ∀ x ∈ l, Fits .i64 x.2.2.2) (hv : (v, b) = nxtV l u) :
    Calls Try.prog 20 #[.slice A n c, .int .i64 u] w fun e w' => e = .returned (.tuple #[.int .i64 v, .bool b]) ∧ Ext w w' := by
  have hl := h.rlen hopC_len (by decide)
  unfold nxtV at hv
  by_cases hc : (chkH l).1 = 0
  · rw [if_neg (by simpa using hc)] at hv
    obtain ⟨hc0, _, hmv⟩ := chkH_zero hc
    cases l with
    | nil =>
      obtain ⟨rfl, rfl⟩ := Prod.mk.inj hv
      exact rNext15_none A n c [] u _ _ _ w h hf rfl rfl (.inr (.inl (by simpa using hl.symm)))
    | cons x l =>
      simp only [List.head?_cons] at hv
      by_cases hu : 1 ≤ u ∧ u ≤ 1048576
      · rw [if_pos hu] at hv
        obtain ⟨rfl, rfl⟩ := Prod.mk.inj hv
        obtain ⟨x0, x1, x2, x3⟩ := x
        have hm := mayV_may (hmv 0 (x0, x1, x2, x3) rfl)
        exact rNext15_some A n c x0 x1 x2 x3 _ _ u w h hf hc0.symm (decide_eq_true hu).symm rfl hm.2.2.2.2 rfl
      · rw [if_neg hu] at hv
        obtain ⟨rfl, rfl⟩ := Prod.mk.inj hv
        exact rNext15_none A n c (x :: l) u _ _ _ w h hf rfl rfl (.inr (.inr (decide_eq_false hu)))
  · rw [if_pos hc] at hv
    obtain ⟨rfl, rfl⟩ := Prod.mk.inj hv
    exact rNext15_none A n c l u _ _ _ w h hf rfl rfl (.inl hc)
/-- the hops of an owner that come to a validator -/
def intoV (l : List (Int × Int × Int × Int)) (ow d : Int) : List (Int × Int × Int × Int) := l.filter (fun x => x.1 == ow && x.2.2.1 == d)
theorem intoV_take {l : List (Int × Int × Int × Int)} {k : Nat} {x : (Int × Int × Int × Int)} {ow d : Int} (h : l[k]? = some x) : intoV (l.take (k + 1)) ow d = if (x.1 == ow && x.2.2.1 == d) = true then intoV (l.take k) ow d ++ [x] else intoV (l.take k) ow d := by
  rw [hopC_take h]
  unfold intoV
  rw [List.filter_append]
  split
  · rename_i h1; simp [h1]
  · rename_i h1; simp [h1]
theorem intoV_len (l : List (Int × Int × Int × Int)) (ow d : Int) : (intoV l ow d).length ≤ l.length := List.length_filter_le _ _
set_option maxRecDepth 100000 in
set_option maxHeartbeats 4000000 in
theorem hopInto_any (A : Option Addr) (n c : Nat) (l : List (Int × Int × Int × Int)) (ow d : Int) (w : World) (h : Sl w 4 A n c (l.flatMap hopC)) (hn : n < 1099511627776) :
    Calls Try.prog 28 #[.slice A n c, .int .i64 ow, .int .i64 d] w (RetHop (intoV l ow d) w) := by
  have hl := h.rlen hopC_len (by decide)
  have s1 := h.small
  have HS := Lib.hid h
  have HL := Lib.hid hl
  obtain ⟨i0, hi0, hz0, hz1, hz2⟩ := info_parts hop_info
  clear h hl
  go_enter Try.func28, Try.ntmps28
  go_wp2
  go_loopg [7, 12] n (fun gh q i wx => gh ≤ n ∧ i = .int .i64 ((n - gh : Nat) : Int) ∧ Hid (OwnHop wx w.heap.size q (intoV (l.take (n - gh)) ow d).length (intoV (l.take (n - gh)) ow d)) ∧ Ext w wx)
  case atStart => exact ⟨Nat.le_refl _, by simp, Lib.hid (by rw [Nat.sub_self]; exact OwnHop.nil _ _), Ext.refl _⟩
  case round =>
    obtain ⟨hg, hi, ho, hx⟩ := hrel
    obtain ⟨k, hk⟩ : ∃ k, k = n - gk := ⟨_, rfl⟩
    rw [← hk] at hi ho
    subst hi
    have XR := Lib.hid hx
    by_cases hz : gk = 0
    · have hkn : ¬ (k : Int) < n := by omega
      have hkl : l.take k = l := List.take_of_length_le (by have := HL.out; omega)
      rw [hkl] at ho
      clear hx hk hg hz hkl
      go_wp2
      go_ret
      exact RetHop.mk ho.out XR.out
    · have hkn : (k : Int) < n := by omega
      have hk1 : k < l.length := by have := HL.out; omega
      have hrm := Ext.size hx
      obtain ⟨b1, o1, rfl, hb1, hc1⟩ := HS.out.rec_ hopC_len (show 0 < n from by omega)
      obtain ⟨xv, hxx⟩ : ∃ x, x = l[k] := ⟨_, rfl⟩
      have hlk : l[k]? = some xv := by rw [hxx]; exact List.getElem?_eq_getElem hk1
      have htk := intoV_take (ow := ow) (d := d) hlk
      have hlen : (intoV (l.take k) ow d).length < 1099511627776 := by have := intoV_len (l.take k) ow d; rw [List.length_take] at this; omega
      have x_0 := XR.out.has (hc1 k xv hlk 0 _ rfl)
      have x_1 := XR.out.has (hc1 k xv hlk 1 _ rfl)
      have x_2 := XR.out.has (hc1 k xv hlk 2 _ rfl)
      have x_3 := XR.out.has (hc1 k xv hlk 3 _ rfl)
      obtain ⟨x0, x1, x2, x3⟩ := xv
      simp only at x_0 x_1 x_2 x_3 htk
      rw [Nat.add_zero] at x_0
      rw [← Nat.add_assoc] at x_1 x_2 x_3
      have HK := Lib.hid (And.intro hk (And.intro hg hz))
      have HLN := Lib.hid hlen
      clear hx hk hg hz hc1 hxx hk1 hlk hlen
      by_cases hE : (x0 == ow && x2 == d) = true
      · rw [if_pos hE] at htk
        have HT := Lib.hid htk
        obtain ⟨e1, e2⟩ : (x0 == ow) = true ∧ (x2 == d) = true := by simpa using hE
        clear htk hE
        go_wp2_with (at_builtin; refine wpList_append_new (wr.alloc (.cells #[.int .i64 x0, .int .i64 x1, .int .i64 x2, .int .i64 x3] 24)) rfl _ _ 22 rfl w.heap.size 24 i0 (.agg #[.int .i64 0, .int .i64 0, .int .i64 0, .int .i64 0]) 4 32 Try.underlying22 hi0 hz0 hz1 hz2 rfl (by decide) u7 _ _ (by rfl) (ho.out.ext ((Ext.refl wr).alloc _)) #[.int .i64 x0, .int .i64 x1, .int .i64 x2, .int .i64 x3] 1 (by first | rfl | (simp [Act.eval]; done) | (simp [Act.eval, go_sem]; done)) rfl (by intro u hu; simp at hu; rcases hu with rfl | rfl | rfl | rfl <;> rfl) HLN.out (by decide) (by first | omega | (simp; omega)) ?_; intro v1 w1 hown1 hb1)
        go_roundg (gk - 1)
        case measure => have := HK.out; omega
        case rel =>
          refine ⟨by have := HK.out; omega, num_eq (by have := HK.out; omega), Lib.hid ?_, Below.trans (Ext.trans XR.out ((Ext.refl wr).alloc _)) hb1⟩
          rw [show n - (gk - 1) = k + 1 from by have := HK.out; omega, HT.out]
          unfold OwnHop
          rw [List.flatMap_append, List.length_append]
          exact hown1
      · rw [if_neg hE] at htk
        have HT := Lib.hid htk
        clear htk
        by_cases e1 : (x0 == ow) = true
        · have e2 : (x2 == d) = false := by rw [e1] at hE; simpa using hE
          clear hE
          go_wp2_with fail
          go_roundg (gk - 1)
          case measure => have := HK.out; omega
          case rel =>
            refine ⟨by have := HK.out; omega, num_eq (by have := HK.out; omega), Lib.hid ?_, (by repeat (first | with_reducible exact XR.out | with_reducible refine Ext.drew ?_ | with_reducible refine Ext.drewN ?_ _ | with_reducible refine Ext.alloc ?_ _ | with_reducible refine Ext.setCell ?_ (by first | omega | (simp; done) | (simp; omega)) _))⟩
            rw [show n - (gk - 1) = k + 1 from by have := HK.out; omega, HT.out]
            exact ho.out.ext ((Ext.refl wr).alloc _)
        · replace e1 : (x0 == ow) = false := by simpa using e1
          clear hE
          go_wp2_with fail
          go_roundg (gk - 1)
          case measure => have := HK.out; omega
          case rel =>
            refine ⟨by have := HK.out; omega, num_eq (by have := HK.out; omega), Lib.hid ?_, (by repeat (first | with_reducible exact XR.out | with_reducible refine Ext.drew ?_ | with_reducible refine Ext.drewN ?_ _ | with_reducible refine Ext.alloc ?_ _ | with_reducible refine Ext.setCell ?_ (by first | omega | (simp; done) | (simp; omega)) _))⟩
            rw [show n - (gk - 1) = k + 1 from by have := HK.out; omega, HT.out]
            exact ho.out.ext ((Ext.refl wr).alloc _)
set_option maxRecDepth 100000 in
set_option maxHeartbeats 4000000 in
theorem rInto15_any (A : Option Addr) (n c : Nat) (l : List (Int × Int × Int × Int)) (ow d : Int) (w : World) (h : Sl w 4 A n c (l.flatMap hopC)) (hn : n < 1099511627776) :
    Calls Try.prog 29 #[.slice A n c, .int .i64 ow, .int .i64 d] w (RetHop (intoV l ow d) w) := by
  have hl := h.rlen hopC_len (by decide)
  have s1 := h.small
  have HS := Lib.hid h
  have HL := Lib.hid hl
  obtain ⟨i0, hi0, hz0, hz1, hz2⟩ := info_parts hop_info
  clear h hl
  go_enter Try.func29, Try.ntmps29
  go_wp2
  go_loopg [7, 8] n (fun gh q i wx => gh ≤ n ∧ i = .int .i64 ((n - gh : Nat) : Int) ∧ Hid (OwnHop wx w.heap.size q (intoV (l.take (n - gh)) ow d).length (intoV (l.take (n - gh)) ow d)) ∧ Ext w wx)
  case atStart => exact ⟨Nat.le_refl _, by simp, Lib.hid (by rw [Nat.sub_self]; exact OwnHop.nil _ _), Ext.refl _⟩
  case round =>
    obtain ⟨hg, hi, ho, hx⟩ := hrel
    obtain ⟨k, hk⟩ : ∃ k, k = n - gk := ⟨_, rfl⟩
    rw [← hk] at hi ho
    subst hi
    have XR := Lib.hid hx
    by_cases hz : gk = 0
    · have hkn : ¬ (k : Int) < n := by omega
      have hkl : l.take k = l := List.take_of_length_le (by have := HL.out; omega)
      rw [hkl] at ho
      clear hx hk hg hz hkl
      go_wp2
      go_ret
      exact RetHop.mk ho.out XR.out
    · have hkn : (k : Int) < n := by omega
      have hk1 : k < l.length := by have := HL.out; omega
      have hrm := Ext.size hx
      obtain ⟨b1, o1, rfl, hb1, hc1⟩ := HS.out.rec_ hopC_len (show 0 < n from by omega)
      obtain ⟨xv, hxx⟩ : ∃ x, x = l[k] := ⟨_, rfl⟩
      have hlk : l[k]? = some xv := by rw [hxx]; exact List.getElem?_eq_getElem hk1
      have htk := intoV_take (ow := ow) (d := d) hlk
      have hlen : (intoV (l.take k) ow d).length < 1099511627776 := by have := intoV_len (l.take k) ow d; rw [List.length_take] at this; omega
      have x_0 := XR.out.has (hc1 k xv hlk 0 _ rfl)
      have x_1 := XR.out.has (hc1 k xv hlk 1 _ rfl)
      have x_2 := XR.out.has (hc1 k xv hlk 2 _ rfl)
      have x_3 := XR.out.has (hc1 k xv hlk 3 _ rfl)
      obtain ⟨x0, x1, x2, x3⟩ := xv
      simp only at x_0 x_1 x_2 x_3 htk
      rw [Nat.add_zero] at x_0
      rw [← Nat.add_assoc] at x_1 x_2 x_3
      have HK := Lib.hid (And.intro hk (And.intro hg hz))
      have HLN := Lib.hid hlen
      clear hx hk hg hz hc1 hxx hk1 hlk hlen
      by_cases hE : (x0 == ow && x2 == d) = true
      · rw [if_pos hE] at htk
        have HT := Lib.hid htk
        obtain ⟨e1, e2⟩ : (x0 == ow) = true ∧ (x2 == d) = true := by simpa using hE
        clear htk hE
        go_wp2_with (at_builtin; refine wpList_append_new wr rfl _ _ 22 rfl w.heap.size 24 i0 (.agg #[.int .i64 0, .int .i64 0, .int .i64 0, .int .i64 0]) 4 32 Try.underlying22 hi0 hz0 hz1 hz2 rfl (by decide) u7 _ _ (by rfl) (ho.out.ext (Ext.refl wr)) #[.int .i64 x0, .int .i64 x1, .int .i64 x2, .int .i64 x3] 1 (by first | rfl | (simp [Act.eval]; done) | (simp [Act.eval, go_sem]; done)) rfl (by intro u hu; simp at hu; rcases hu with rfl | rfl | rfl | rfl <;> rfl) HLN.out (by decide) (by first | omega | (simp; omega)) ?_; intro v1 w1 hown1 hb1)
        go_roundg (gk - 1)
        case measure => have := HK.out; omega
        case rel =>
          refine ⟨by have := HK.out; omega, num_eq (by have := HK.out; omega), Lib.hid ?_, Below.trans (Ext.trans XR.out (Ext.refl wr)) hb1⟩
          rw [show n - (gk - 1) = k + 1 from by have := HK.out; omega, HT.out]
          unfold OwnHop
          rw [List.flatMap_append, List.length_append]
          exact hown1
      · rw [if_neg hE] at htk
        have HT := Lib.hid htk
        clear htk
        by_cases e1 : (x0 == ow) = true
        · have e2 : (x2 == d) = false := by rw [e1] at hE; simpa using hE
          clear hE
          go_wp2_with fail
          go_roundg (gk - 1)
          case measure => have := HK.out; omega
          case rel =>
            refine ⟨by have := HK.out; omega, num_eq (by have := HK.out; omega), Lib.hid ?_, (by repeat (first | with_reducible exact XR.out | with_reducible refine Ext.drew ?_ | with_reducible refine Ext.drewN ?_ _ | with_reducible refine Ext.alloc ?_ _ | with_reducible refine Ext.setCell ?_ (by first | omega | (simp; done) | (simp; omega)) _))⟩
            rw [show n - (gk - 1) = k + 1 from by have := HK.out; omega, HT.out]
            exact ho.out
        · replace e1 : (x0 == ow) = false := by simpa using e1
          clear hE
          go_wp2_with fail
          go_roundg (gk - 1)
          case measure => have := HK.out; omega
          case rel =>
            refine ⟨by have := HK.out; omega, num_eq (by have := HK.out; omega), Lib.hid ?_, (by repeat (first | with_reducible exact XR.out | with_reducible refine Ext.drew ?_ | with_reducible refine Ext.drewN ?_ _ | with_reducible refine Ext.alloc ?_ _ | with_reducible refine Ext.setCell ?_ (by first | omega | (simp; done) | (simp; omega)) _))⟩
            rw [show n - (gk - 1) = k + 1 from by have := HK.out; omega, HT.out]
            exact ho.out
end Go.Proofs.Ytjdpgapmdmpjjaa
