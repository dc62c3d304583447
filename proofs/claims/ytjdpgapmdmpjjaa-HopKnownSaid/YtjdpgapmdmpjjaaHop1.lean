/- hops: which may be, which lists may be. Conditions stand in each lemma. -/
import Derived.Test.YtjdpgapmdmpjjaaListHop
import Derived.Test.YtjdpgapmdmpjjaaRdK
import Derived.WalkMore
set_option linter.unusedVariables false
set_option linter.unusedSimpArgs false
namespace Go.Proofs.Ytjdpgapmdmpjjaa
open Go.RowKit Go.ChangeShapes Go.WideShapes Go.Deep Go.Joins

/-- the first fault of a list, and where -/
def chkG (lim : Nat) (bad : Nat → Int) (n : Nat) : Int × Int := if lim < n then (4, (lim : Int)) else match (List.range n).find? (fun k => bad k != 0) with | some k => (bad k, ((k : Nat) : Int)) | none => (0, 0)
theorem chkG_long {lim n : Nat} {bad : Nat → Int} (h : lim < n) : chkG lim bad n = (4, (lim : Int)) := by unfold chkG; rw [if_pos h]
theorem chkG_bad {lim n k : Nat} {bad : Nat → Int} (hl : ¬ lim < n) (hk : k < n) (hb : bad k ≠ 0) (hp : ∀ j, j < k → bad j = 0) : chkG lim bad n = (bad k, ((k : Nat) : Int)) := by
  have : (List.range n).find? (fun k => bad k != 0) = some k := by
    rw [List.find?_range_eq_some]
    exact ⟨by simpa using hb, by simpa using hk, fun j hj => by simpa using hp j hj⟩
  unfold chkG
  rw [if_neg hl, this]
theorem chkG_ok {lim n : Nat} {bad : Nat → Int} (hl : ¬ lim < n) (hp : ∀ j, j < n → bad j = 0) : chkG lim bad n = (0, 0) := by
  have : (List.range n).find? (fun k => bad k != 0) = none := by
    rw [List.find?_range_eq_none]
    intro j hj
    simpa using hp j hj
  unfold chkG
  rw [if_neg hl, this]
theorem chkG_zero {lim n : Nat} {bad : Nat → Int} (h : (chkG lim bad n).1 = 0) : chkG lim bad n = (0, 0) ∧ n ≤ lim ∧ ∀ j, j < n → bad j = 0 := by
  by_cases hl : lim < n
  · rw [chkG_long hl] at h; simp at h
  by_cases hp : ∀ j, j < n → bad j = 0
  · exact ⟨chkG_ok hl hp, by omega, hp⟩
  · exfalso
    unfold chkG at h
    rw [if_neg hl] at h
    split at h
    · rename_i k hk
      have := List.find?_some hk
      simp at this h
      exact this h
    · rename_i hk
      rw [List.find?_range_eq_none] at hk
      apply hp
      intro j hj
      simpa using hk j hj
/-- a hop may be -/
def MayH (x : (Int × Int × Int × Int)) : Prop := (0 ≤ x.2.1 ∧ x.2.1 < 32) ∧ (0 ≤ x.2.2.1 ∧ x.2.2.1 < 32) ∧ x.2.1 ≠ x.2.2.1 ∧ (0 ≤ x.1 ∧ x.1 < 64) ∧ 1 ≤ x.2.2.2 ∧ x.2.2.2 ≤ 4294967296
instance (x : (Int × Int × Int × Int)) : Decidable (MayH x) := by unfold MayH; infer_instance
/-- why a hop may not be behind others -/
def mayV (x : (Int × Int × Int × Int)) (ahead : List (Int × Int × Int × Int)) : Int := if ¬ MayH x then 3 else match ahead.getLast? with | some y => if x.2.2.2 < y.2.2.2 then 9 else 0 | none => 0
def badH (l : List (Int × Int × Int × Int)) (k : Nat) : Int := match l[k]? with | some x => mayV x (l.take k) | none => 0
def chkH (l : List (Int × Int × Int × Int)) : Int × Int := chkG 4096 (badH l) l.length
theorem hopOut_any (n m : Int) (b : Bool) (w : World) (hb : b = decide (n < 0 ∨ n ≥ m)) : Calls Try.prog 131 #[.int .i64 n, .int .i64 m] w fun e w' => e = .returned (.bool b) ∧ Ext w w' := by
  by_cases h1 : n < 0
  · have e : b = true := by rw [hb]; exact decide_eq_true (.inl h1)
    subst e
    clear hb
    go_enter Try.func131, Try.ntmps131
    go_wp2
    go_ret
    exact ⟨rfl, Ext.refl _⟩
  · by_cases h2 : n ≥ m
    · have e : b = true := by rw [hb]; exact decide_eq_true (.inr h2)
      subst e
      clear hb
      go_enter Try.func131, Try.ntmps131
      go_wp2
      go_ret
      exact ⟨rfl, Ext.refl _⟩
    · have e : b = false := by rw [hb]; exact decide_eq_false (by omega)
      subst e
      clear hb
      go_enter Try.func131, Try.ntmps131
      go_wp2
      go_ret
      exact ⟨rfl, Ext.refl _⟩
theorem hopTime_any (u : Int) (b : Bool) (w : World) (hb : b = decide (1 ≤ u ∧ u ≤ 1048576)) : Calls Try.prog 89 #[.int .i64 u] w fun e w' => e = .returned (.bool b) ∧ Ext w w' := by
  by_cases h1 : u ≥ 1
  · by_cases h2 : u ≤ 1048576
    · have e : b = true := by rw [hb]; exact decide_eq_true ⟨h1, h2⟩
      subst e
      clear hb
      go_enter Try.func89, Try.ntmps89
      go_wp2
      go_ret
      exact ⟨rfl, Ext.refl _⟩
    · have e : b = false := by rw [hb]; exact decide_eq_false (fun h => h2 h.2)
      subst e
      clear hb
      go_enter Try.func89, Try.ntmps89
      go_wp2
      go_ret
      exact ⟨rfl, Ext.refl _⟩
  · have e : b = false := by rw [hb]; exact decide_eq_false (fun h => h1 h.1)
    subst e
    clear hb
    go_enter Try.func89, Try.ntmps89
    go_wp2
    go_ret
    exact ⟨rfl, Ext.refl _⟩
theorem rTime15_any (u : Int) (b : Bool) (w : World) (hb : b = decide (1 ≤ u ∧ u ≤ 1048576)) : Calls Try.prog 90 #[.int .i64 u] w fun e w' => e = .returned (.bool b) ∧ Ext w w' := by
  by_cases h1 : u ≥ 1
  · by_cases h2 : u ≤ 1048576
    · have e : b = true := by rw [hb]; exact decide_eq_true ⟨h1, h2⟩
      subst e
      clear hb
      go_enter Try.func90, Try.ntmps90
      go_wp2
      go_ret
      exact ⟨rfl, Ext.refl _⟩
    · have e : b = false := by rw [hb]; exact decide_eq_false (fun h => h2 h.2)
      subst e
      clear hb
      go_enter Try.func90, Try.ntmps90
      go_wp2
      go_ret
      exact ⟨rfl, Ext.refl _⟩
  · have e : b = false := by rw [hb]; exact decide_eq_false (fun h => h1 h.1)
    subst e
    clear hb
    go_enter Try.func90, Try.ntmps90
    go_wp2
    go_ret
    exact ⟨rfl, Ext.refl _⟩
set_option maxRecDepth 100000 in
set_option maxHeartbeats 4000000 in
theorem hopMay_any (x0 x1 x2 x3 : Int) (A : Option Addr) (c n : Nat) (l : List (Int × Int × Int × Int)) (w : World) (hx : Fits .i64 x3) (h : Sl w 4 A n c (l.flatMap hopC)) :
    Calls Try.prog 87 #[.agg #[.int .i64 x0, .int .i64 x1, .int .i64 x2, .int .i64 x3], .slice A n c] w fun e w' => e = .returned (.int .i64 (mayV (x0, x1, x2, x3) l)) ∧ Ext w w' := by
  have hl := h.rlen hopC_len (by decide)
  have s1 := h.small
  have HS := Lib.hid h
  have hfx := hx.i64
  have HMV : Hid (mayV (x0, x1, x2, x3) l = if ¬ MayH (x0, x1, x2, x3) then 3 else match l.getLast? with | some y => if x3 < y.2.2.2 then 9 else 0 | none => 0) := Lib.hid rfl
  obtain ⟨V, hV⟩ : ∃ v, v = mayV (x0, x1, x2, x3) l := ⟨_, rfl⟩
  rw [← hV] at HMV ⊢
  have hwr : 1 ≤ x3 → IntKind.i64.wrap (x3 - 1) = x3 - 1 := fun _ => IntWalk.i64_in _ (by omega)
  obtain ⟨y3, hy3⟩ : ∃ y, y = IntKind.i64.wrap (x3 - 1) := ⟨_, rfl⟩
  have hy := hy3
  have hwy : IntKind.i64.wrap (x3 - 1) = y3 := hy3.symm
  have hy4 : (y3 < 0 ∨ y3 ≥ 4294967296) ↔ ¬ (1 ≤ x3 ∧ x3 ≤ 4294967296) := by
    rw [hy3]
    by_cases h1 : -9223372036854775807 ≤ x3
    · rw [IntWalk.i64_in _ (by omega)]; omega
    · obtain rfl : x3 = -9223372036854775808 := by omega
      decide
  clear hy hy3 hwr h hx hfx
  by_cases g0 : x0 < 0 ∨ x0 ≥ 64
  · have HV : Hid (V = 3) := Lib.hid (HMV.out.trans (if_pos (by unfold MayH; dsimp only; omega)))
    have HB0 : Hid (true = decide (x0 < 0 ∨ x0 ≥ 64)) := Lib.hid ((decide_eq_true g0).symm)
    clear g0 hV hy4
    go_enter Try.func87, Try.ntmps87
    go_wp2_with fail
    go_step3
    go_wp2_with fail
    go_step3
    go_wp2_with fail
    (with_reducible refine (hopOut_any x0 64 true _ HB0.out).mono ?_)
    rintro e w1 ⟨rfl, hx1⟩
    have z1 := hx1.size
    try simp at z1
    replace HS := Lib.hid (HS.out.ext (Ext.trans (by repeat (first | with_reducible exact Ext.refl _ | with_reducible refine Ext.drew ?_ | with_reducible refine Ext.drewN ?_ _ | with_reducible refine Ext.alloc ?_ _ | with_reducible refine Ext.setCell ?_ (by first | omega | (simp; done) | (simp; omega)) _)) hx1))
    have X1 : Hid (Ext w w1) := Lib.hid (Ext.trans (by repeat (first | with_reducible exact Ext.refl w | with_reducible refine Ext.drew ?_ | with_reducible refine Ext.drewN ?_ _ | with_reducible refine Ext.alloc ?_ _ | with_reducible refine Ext.setCell ?_ (by first | omega | (simp; done) | (simp; omega)) _)) hx1)
    clear hx1 z1
    go_wp2_with fail
    rw [Exit.noGoto_ret]
    go_ret
    exact ⟨by rw [HV.out]; try rfl, (by repeat (first | with_reducible exact X1.out | with_reducible refine Ext.drew ?_ | with_reducible refine Ext.drewN ?_ _ | with_reducible refine Ext.alloc ?_ _ | with_reducible refine Ext.setCell ?_ (by first | omega | (simp; done) | (simp; omega)) _))⟩
  by_cases g1 : x1 < 0 ∨ x1 ≥ 32
  · have HV : Hid (V = 3) := Lib.hid (HMV.out.trans (if_pos (by unfold MayH; dsimp only; omega)))
    have HB0 : Hid (false = decide (x0 < 0 ∨ x0 ≥ 64)) := Lib.hid ((decide_eq_false g0).symm)
    have HB1 : Hid (true = decide (x1 < 0 ∨ x1 ≥ 32)) := Lib.hid ((decide_eq_true g1).symm)
    clear g0 g1 hV hy4
    go_enter Try.func87, Try.ntmps87
    go_wp2_with fail
    go_step3
    go_wp2_with fail
    go_step3
    go_wp2_with fail
    (with_reducible refine (hopOut_any x0 64 false _ HB0.out).mono ?_)
    rintro e w1 ⟨rfl, hx1⟩
    have c0_1 : w1.cell? ⟨w.heap.size, 1, none⟩ = some (.int .i64 x1) := hx1.has (by first | fail | (simp [go_sem, World.cell?_alloc_past]; done))
    have z1 := hx1.size
    try simp at z1
    have rc0 : w.heap.size < w1.heap.size := by omega
    have rc0a : w.heap.size < w1.heap.size + 1 := by omega
    have rc0b : w.heap.size < w1.heap.size + 1 + 1 := by omega
    have rc0c : w.heap.size < w1.heap.size + 1 + 1 + 1 := by omega
    have rc0n : ¬ w.heap.size = w1.heap.size := by omega
    replace HS := Lib.hid (HS.out.ext (Ext.trans (by repeat (first | with_reducible exact Ext.refl _ | with_reducible refine Ext.drew ?_ | with_reducible refine Ext.drewN ?_ _ | with_reducible refine Ext.alloc ?_ _ | with_reducible refine Ext.setCell ?_ (by first | omega | (simp; done) | (simp; omega)) _)) hx1))
    have X1 : Hid (Ext w w1) := Lib.hid (Ext.trans (by repeat (first | with_reducible exact Ext.refl w | with_reducible refine Ext.drew ?_ | with_reducible refine Ext.drewN ?_ _ | with_reducible refine Ext.alloc ?_ _ | with_reducible refine Ext.setCell ?_ (by first | omega | (simp; done) | (simp; omega)) _)) hx1)
    clear hx1 z1
    go_wp2_with fail
    (with_reducible refine (hopOut_any x1 32 true _ HB1.out).mono ?_)
    rintro e w2 ⟨rfl, hx2⟩
    have z2 := hx2.size
    try simp at z2
    replace HS := Lib.hid (HS.out.ext (Ext.trans (by repeat (first | with_reducible exact Ext.refl _ | with_reducible refine Ext.drew ?_ | with_reducible refine Ext.drewN ?_ _ | with_reducible refine Ext.alloc ?_ _ | with_reducible refine Ext.setCell ?_ (by first | omega | (simp; done) | (simp; omega)) _)) hx2))
    have X2 : Hid (Ext w w2) := Lib.hid (Ext.trans (by repeat (first | with_reducible exact X1.out | with_reducible refine Ext.drew ?_ | with_reducible refine Ext.drewN ?_ _ | with_reducible refine Ext.alloc ?_ _ | with_reducible refine Ext.setCell ?_ (by first | omega | (simp; done) | (simp; omega)) _)) hx2)
    clear c0_1 rc0 rc0a rc0b rc0c rc0n X1 hx2 z2
    go_wp2_with fail
    rw [Exit.noGoto_ret]
    go_ret
    exact ⟨by rw [HV.out]; try rfl, (by repeat (first | with_reducible exact X2.out | with_reducible refine Ext.drew ?_ | with_reducible refine Ext.drewN ?_ _ | with_reducible refine Ext.alloc ?_ _ | with_reducible refine Ext.setCell ?_ (by first | omega | (simp; done) | (simp; omega)) _))⟩
  by_cases g2 : x2 < 0 ∨ x2 ≥ 32
  · have HV : Hid (V = 3) := Lib.hid (HMV.out.trans (if_pos (by unfold MayH; dsimp only; omega)))
    have HB0 : Hid (false = decide (x0 < 0 ∨ x0 ≥ 64)) := Lib.hid ((decide_eq_false g0).symm)
    have HB1 : Hid (false = decide (x1 < 0 ∨ x1 ≥ 32)) := Lib.hid ((decide_eq_false g1).symm)
    have HB2 : Hid (true = decide (x2 < 0 ∨ x2 ≥ 32)) := Lib.hid ((decide_eq_true g2).symm)
    clear g0 g1 g2 hV hy4
    go_enter Try.func87, Try.ntmps87
    go_wp2_with fail
    go_step3
    go_wp2_with fail
    go_step3
    go_wp2_with fail
    (with_reducible refine (hopOut_any x0 64 false _ HB0.out).mono ?_)
    rintro e w1 ⟨rfl, hx1⟩
    have c0_1 : w1.cell? ⟨w.heap.size, 1, none⟩ = some (.int .i64 x1) := hx1.has (by first | fail | (simp [go_sem, World.cell?_alloc_past]; done))
    have c0_2 : w1.cell? ⟨w.heap.size, 2, none⟩ = some (.int .i64 x2) := hx1.has (by first | fail | (simp [go_sem, World.cell?_alloc_past]; done))
    have z1 := hx1.size
    try simp at z1
    have rc0 : w.heap.size < w1.heap.size := by omega
    have rc0a : w.heap.size < w1.heap.size + 1 := by omega
    have rc0b : w.heap.size < w1.heap.size + 1 + 1 := by omega
    have rc0c : w.heap.size < w1.heap.size + 1 + 1 + 1 := by omega
    have rc0n : ¬ w.heap.size = w1.heap.size := by omega
    replace HS := Lib.hid (HS.out.ext (Ext.trans (by repeat (first | with_reducible exact Ext.refl _ | with_reducible refine Ext.drew ?_ | with_reducible refine Ext.drewN ?_ _ | with_reducible refine Ext.alloc ?_ _ | with_reducible refine Ext.setCell ?_ (by first | omega | (simp; done) | (simp; omega)) _)) hx1))
    have X1 : Hid (Ext w w1) := Lib.hid (Ext.trans (by repeat (first | with_reducible exact Ext.refl w | with_reducible refine Ext.drew ?_ | with_reducible refine Ext.drewN ?_ _ | with_reducible refine Ext.alloc ?_ _ | with_reducible refine Ext.setCell ?_ (by first | omega | (simp; done) | (simp; omega)) _)) hx1)
    clear hx1 z1
    go_wp2_with fail
    (with_reducible refine (hopOut_any x1 32 false _ HB1.out).mono ?_)
    rintro e w2 ⟨rfl, hx2⟩
    replace c0_2 : w2.cell? ⟨w.heap.size, 2, none⟩ = some (.int .i64 x2) := hx2.has (by first | exact c0_2 | (simp [go_sem, World.cell?_alloc_past, c0_1, c0_2, rc0, rc0a, rc0b, rc0c, rc0n]; done))
    have z2 := hx2.size
    try simp at z2
    replace rc0 : w.heap.size < w2.heap.size := by omega
    replace rc0a : w.heap.size < w2.heap.size + 1 := by omega
    replace rc0b : w.heap.size < w2.heap.size + 1 + 1 := by omega
    replace rc0c : w.heap.size < w2.heap.size + 1 + 1 + 1 := by omega
    replace rc0n : ¬ w.heap.size = w2.heap.size := by omega
    replace HS := Lib.hid (HS.out.ext (Ext.trans (by repeat (first | with_reducible exact Ext.refl _ | with_reducible refine Ext.drew ?_ | with_reducible refine Ext.drewN ?_ _ | with_reducible refine Ext.alloc ?_ _ | with_reducible refine Ext.setCell ?_ (by first | omega | (simp; done) | (simp; omega)) _)) hx2))
    have X2 : Hid (Ext w w2) := Lib.hid (Ext.trans (by repeat (first | with_reducible exact X1.out | with_reducible refine Ext.drew ?_ | with_reducible refine Ext.drewN ?_ _ | with_reducible refine Ext.alloc ?_ _ | with_reducible refine Ext.setCell ?_ (by first | omega | (simp; done) | (simp; omega)) _)) hx2)
    clear c0_1 X1 hx2 z2
    go_wp2_with fail
    (with_reducible refine (hopOut_any x2 32 true _ HB2.out).mono ?_)
    rintro e w3 ⟨rfl, hx3⟩
    have z3 := hx3.size
    try simp at z3
    replace HS := Lib.hid (HS.out.ext (Ext.trans (by repeat (first | with_reducible exact Ext.refl _ | with_reducible refine Ext.drew ?_ | with_reducible refine Ext.drewN ?_ _ | with_reducible refine Ext.alloc ?_ _ | with_reducible refine Ext.setCell ?_ (by first | omega | (simp; done) | (simp; omega)) _)) hx3))
    have X3 : Hid (Ext w w3) := Lib.hid (Ext.trans (by repeat (first | with_reducible exact X2.out | with_reducible refine Ext.drew ?_ | with_reducible refine Ext.drewN ?_ _ | with_reducible refine Ext.alloc ?_ _ | with_reducible refine Ext.setCell ?_ (by first | omega | (simp; done) | (simp; omega)) _)) hx3)
    clear c0_2 rc0 rc0a rc0b rc0c rc0n X2 hx3 z3
    go_wp2_with fail
    rw [Exit.noGoto_ret]
    go_ret
    exact ⟨by rw [HV.out]; try rfl, (by repeat (first | with_reducible exact X3.out | with_reducible refine Ext.drew ?_ | with_reducible refine Ext.drewN ?_ _ | with_reducible refine Ext.alloc ?_ _ | with_reducible refine Ext.setCell ?_ (by first | omega | (simp; done) | (simp; omega)) _))⟩
  by_cases g3 : x1 = x2
  · have HV : Hid (V = 3) := Lib.hid (HMV.out.trans (if_pos (by unfold MayH; dsimp only; omega)))
    have HB0 : Hid (false = decide (x0 < 0 ∨ x0 ≥ 64)) := Lib.hid ((decide_eq_false g0).symm)
    have HB1 : Hid (false = decide (x1 < 0 ∨ x1 ≥ 32)) := Lib.hid ((decide_eq_false g1).symm)
    have HB2 : Hid (false = decide (x2 < 0 ∨ x2 ≥ 32)) := Lib.hid ((decide_eq_false g2).symm)
    have e3 : (x1 == x2) = true := by simpa using g3
    clear g0 g1 g2 g3 hV hy4
    go_enter Try.func87, Try.ntmps87
    go_wp2_with fail
    go_step3
    go_wp2_with fail
    go_step3
    go_wp2_with fail
    (with_reducible refine (hopOut_any x0 64 false _ HB0.out).mono ?_)
    rintro e w1 ⟨rfl, hx1⟩
    have c0_1 : w1.cell? ⟨w.heap.size, 1, none⟩ = some (.int .i64 x1) := hx1.has (by first | fail | (simp [go_sem, World.cell?_alloc_past]; done))
    have c0_2 : w1.cell? ⟨w.heap.size, 2, none⟩ = some (.int .i64 x2) := hx1.has (by first | fail | (simp [go_sem, World.cell?_alloc_past]; done))
    have z1 := hx1.size
    try simp at z1
    have rc0 : w.heap.size < w1.heap.size := by omega
    have rc0a : w.heap.size < w1.heap.size + 1 := by omega
    have rc0b : w.heap.size < w1.heap.size + 1 + 1 := by omega
    have rc0c : w.heap.size < w1.heap.size + 1 + 1 + 1 := by omega
    have rc0n : ¬ w.heap.size = w1.heap.size := by omega
    replace HS := Lib.hid (HS.out.ext (Ext.trans (by repeat (first | with_reducible exact Ext.refl _ | with_reducible refine Ext.drew ?_ | with_reducible refine Ext.drewN ?_ _ | with_reducible refine Ext.alloc ?_ _ | with_reducible refine Ext.setCell ?_ (by first | omega | (simp; done) | (simp; omega)) _)) hx1))
    have X1 : Hid (Ext w w1) := Lib.hid (Ext.trans (by repeat (first | with_reducible exact Ext.refl w | with_reducible refine Ext.drew ?_ | with_reducible refine Ext.drewN ?_ _ | with_reducible refine Ext.alloc ?_ _ | with_reducible refine Ext.setCell ?_ (by first | omega | (simp; done) | (simp; omega)) _)) hx1)
    clear hx1 z1
    go_wp2_with fail
    (with_reducible refine (hopOut_any x1 32 false _ HB1.out).mono ?_)
    rintro e w2 ⟨rfl, hx2⟩
    replace c0_1 : w2.cell? ⟨w.heap.size, 1, none⟩ = some (.int .i64 x1) := hx2.has (by first | exact c0_1 | (simp [go_sem, World.cell?_alloc_past, c0_1, c0_2, rc0, rc0a, rc0b, rc0c, rc0n]; done))
    replace c0_2 : w2.cell? ⟨w.heap.size, 2, none⟩ = some (.int .i64 x2) := hx2.has (by first | exact c0_2 | (simp [go_sem, World.cell?_alloc_past, c0_1, c0_2, rc0, rc0a, rc0b, rc0c, rc0n]; done))
    have z2 := hx2.size
    try simp at z2
    replace rc0 : w.heap.size < w2.heap.size := by omega
    replace rc0a : w.heap.size < w2.heap.size + 1 := by omega
    replace rc0b : w.heap.size < w2.heap.size + 1 + 1 := by omega
    replace rc0c : w.heap.size < w2.heap.size + 1 + 1 + 1 := by omega
    replace rc0n : ¬ w.heap.size = w2.heap.size := by omega
    replace HS := Lib.hid (HS.out.ext (Ext.trans (by repeat (first | with_reducible exact Ext.refl _ | with_reducible refine Ext.drew ?_ | with_reducible refine Ext.drewN ?_ _ | with_reducible refine Ext.alloc ?_ _ | with_reducible refine Ext.setCell ?_ (by first | omega | (simp; done) | (simp; omega)) _)) hx2))
    have X2 : Hid (Ext w w2) := Lib.hid (Ext.trans (by repeat (first | with_reducible exact X1.out | with_reducible refine Ext.drew ?_ | with_reducible refine Ext.drewN ?_ _ | with_reducible refine Ext.alloc ?_ _ | with_reducible refine Ext.setCell ?_ (by first | omega | (simp; done) | (simp; omega)) _)) hx2)
    clear X1 hx2 z2
    go_wp2_with fail
    (with_reducible refine (hopOut_any x2 32 false _ HB2.out).mono ?_)
    rintro e w3 ⟨rfl, hx3⟩
    replace c0_1 : w3.cell? ⟨w.heap.size, 1, none⟩ = some (.int .i64 x1) := hx3.has (by first | exact c0_1 | (simp [go_sem, World.cell?_alloc_past, c0_1, c0_2, rc0, rc0a, rc0b, rc0c, rc0n]; done))
    replace c0_2 : w3.cell? ⟨w.heap.size, 2, none⟩ = some (.int .i64 x2) := hx3.has (by first | exact c0_2 | (simp [go_sem, World.cell?_alloc_past, c0_1, c0_2, rc0, rc0a, rc0b, rc0c, rc0n]; done))
    have z3 := hx3.size
    try simp at z3
    replace rc0 : w.heap.size < w3.heap.size := by omega
    replace rc0a : w.heap.size < w3.heap.size + 1 := by omega
    replace rc0b : w.heap.size < w3.heap.size + 1 + 1 := by omega
    replace rc0c : w.heap.size < w3.heap.size + 1 + 1 + 1 := by omega
    replace rc0n : ¬ w.heap.size = w3.heap.size := by omega
    replace HS := Lib.hid (HS.out.ext (Ext.trans (by repeat (first | with_reducible exact Ext.refl _ | with_reducible refine Ext.drew ?_ | with_reducible refine Ext.drewN ?_ _ | with_reducible refine Ext.alloc ?_ _ | with_reducible refine Ext.setCell ?_ (by first | omega | (simp; done) | (simp; omega)) _)) hx3))
    have X3 : Hid (Ext w w3) := Lib.hid (Ext.trans (by repeat (first | with_reducible exact X2.out | with_reducible refine Ext.drew ?_ | with_reducible refine Ext.drewN ?_ _ | with_reducible refine Ext.alloc ?_ _ | with_reducible refine Ext.setCell ?_ (by first | omega | (simp; done) | (simp; omega)) _)) hx3)
    clear X2 hx3 z3
    go_wp2_with fail
    rw [Exit.noGoto_ret]
    go_ret
    exact ⟨by rw [HV.out]; try rfl, (by repeat (first | with_reducible exact X3.out | with_reducible refine Ext.drew ?_ | with_reducible refine Ext.drewN ?_ _ | with_reducible refine Ext.alloc ?_ _ | with_reducible refine Ext.setCell ?_ (by first | omega | (simp; done) | (simp; omega)) _))⟩
  by_cases g4 : y3 < 0 ∨ y3 ≥ 4294967296
  · have HV : Hid (V = 3) := Lib.hid (HMV.out.trans (if_pos (by unfold MayH; dsimp only; omega)))
    have HB0 : Hid (false = decide (x0 < 0 ∨ x0 ≥ 64)) := Lib.hid ((decide_eq_false g0).symm)
    have HB1 : Hid (false = decide (x1 < 0 ∨ x1 ≥ 32)) := Lib.hid ((decide_eq_false g1).symm)
    have HB2 : Hid (false = decide (x2 < 0 ∨ x2 ≥ 32)) := Lib.hid ((decide_eq_false g2).symm)
    have e3 : (x1 == x2) = false := by simpa using g3
    have HB4 : Hid (true = decide (y3 < 0 ∨ y3 ≥ 4294967296)) := Lib.hid ((decide_eq_true g4).symm)
    clear g0 g1 g2 g3 g4 hV hy4
    go_enter Try.func87, Try.ntmps87
    go_wp2_with fail
    go_step3
    go_wp2_with fail
    go_step3
    go_wp2_with fail
    (with_reducible refine (hopOut_any x0 64 false _ HB0.out).mono ?_)
    rintro e w1 ⟨rfl, hx1⟩
    have c0_1 : w1.cell? ⟨w.heap.size, 1, none⟩ = some (.int .i64 x1) := hx1.has (by first | fail | (simp [go_sem, World.cell?_alloc_past]; done))
    have c0_2 : w1.cell? ⟨w.heap.size, 2, none⟩ = some (.int .i64 x2) := hx1.has (by first | fail | (simp [go_sem, World.cell?_alloc_past]; done))
    have c0_3 : w1.cell? ⟨w.heap.size, 3, none⟩ = some (.int .i64 x3) := hx1.has (by first | fail | (simp [go_sem, World.cell?_alloc_past]; done))
    have z1 := hx1.size
    try simp at z1
    have rc0 : w.heap.size < w1.heap.size := by omega
    have rc0a : w.heap.size < w1.heap.size + 1 := by omega
    have rc0b : w.heap.size < w1.heap.size + 1 + 1 := by omega
    have rc0c : w.heap.size < w1.heap.size + 1 + 1 + 1 := by omega
    have rc0n : ¬ w.heap.size = w1.heap.size := by omega
    replace HS := Lib.hid (HS.out.ext (Ext.trans (by repeat (first | with_reducible exact Ext.refl _ | with_reducible refine Ext.drew ?_ | with_reducible refine Ext.drewN ?_ _ | with_reducible refine Ext.alloc ?_ _ | with_reducible refine Ext.setCell ?_ (by first | omega | (simp; done) | (simp; omega)) _)) hx1))
    have X1 : Hid (Ext w w1) := Lib.hid (Ext.trans (by repeat (first | with_reducible exact Ext.refl w | with_reducible refine Ext.drew ?_ | with_reducible refine Ext.drewN ?_ _ | with_reducible refine Ext.alloc ?_ _ | with_reducible refine Ext.setCell ?_ (by first | omega | (simp; done) | (simp; omega)) _)) hx1)
    clear hx1 z1
    go_wp2_with fail
    (with_reducible refine (hopOut_any x1 32 false _ HB1.out).mono ?_)
    rintro e w2 ⟨rfl, hx2⟩
    replace c0_1 : w2.cell? ⟨w.heap.size, 1, none⟩ = some (.int .i64 x1) := hx2.has (by first | exact c0_1 | (simp [go_sem, World.cell?_alloc_past, c0_1, c0_2, c0_3, rc0, rc0a, rc0b, rc0c, rc0n]; done))
    replace c0_2 : w2.cell? ⟨w.heap.size, 2, none⟩ = some (.int .i64 x2) := hx2.has (by first | exact c0_2 | (simp [go_sem, World.cell?_alloc_past, c0_1, c0_2, c0_3, rc0, rc0a, rc0b, rc0c, rc0n]; done))
    replace c0_3 : w2.cell? ⟨w.heap.size, 3, none⟩ = some (.int .i64 x3) := hx2.has (by first | exact c0_3 | (simp [go_sem, World.cell?_alloc_past, c0_1, c0_2, c0_3, rc0, rc0a, rc0b, rc0c, rc0n]; done))
    have z2 := hx2.size
    try simp at z2
    replace rc0 : w.heap.size < w2.heap.size := by omega
    replace rc0a : w.heap.size < w2.heap.size + 1 := by omega
    replace rc0b : w.heap.size < w2.heap.size + 1 + 1 := by omega
    replace rc0c : w.heap.size < w2.heap.size + 1 + 1 + 1 := by omega
    replace rc0n : ¬ w.heap.size = w2.heap.size := by omega
    replace HS := Lib.hid (HS.out.ext (Ext.trans (by repeat (first | with_reducible exact Ext.refl _ | with_reducible refine Ext.drew ?_ | with_reducible refine Ext.drewN ?_ _ | with_reducible refine Ext.alloc ?_ _ | with_reducible refine Ext.setCell ?_ (by first | omega | (simp; done) | (simp; omega)) _)) hx2))
    have X2 : Hid (Ext w w2) := Lib.hid (Ext.trans (by repeat (first | with_reducible exact X1.out | with_reducible refine Ext.drew ?_ | with_reducible refine Ext.drewN ?_ _ | with_reducible refine Ext.alloc ?_ _ | with_reducible refine Ext.setCell ?_ (by first | omega | (simp; done) | (simp; omega)) _)) hx2)
    clear X1 hx2 z2
    go_wp2_with fail
    (with_reducible refine (hopOut_any x2 32 false _ HB2.out).mono ?_)
    rintro e w3 ⟨rfl, hx3⟩
    replace c0_1 : w3.cell? ⟨w.heap.size, 1, none⟩ = some (.int .i64 x1) := hx3.has (by first | exact c0_1 | (simp [go_sem, World.cell?_alloc_past, c0_1, c0_2, c0_3, rc0, rc0a, rc0b, rc0c, rc0n]; done))
    replace c0_2 : w3.cell? ⟨w.heap.size, 2, none⟩ = some (.int .i64 x2) := hx3.has (by first | exact c0_2 | (simp [go_sem, World.cell?_alloc_past, c0_1, c0_2, c0_3, rc0, rc0a, rc0b, rc0c, rc0n]; done))
    replace c0_3 : w3.cell? ⟨w.heap.size, 3, none⟩ = some (.int .i64 x3) := hx3.has (by first | exact c0_3 | (simp [go_sem, World.cell?_alloc_past, c0_1, c0_2, c0_3, rc0, rc0a, rc0b, rc0c, rc0n]; done))
    have z3 := hx3.size
    try simp at z3
    replace rc0 : w.heap.size < w3.heap.size := by omega
    replace rc0a : w.heap.size < w3.heap.size + 1 := by omega
    replace rc0b : w.heap.size < w3.heap.size + 1 + 1 := by omega
    replace rc0c : w.heap.size < w3.heap.size + 1 + 1 + 1 := by omega
    replace rc0n : ¬ w.heap.size = w3.heap.size := by omega
    replace HS := Lib.hid (HS.out.ext (Ext.trans (by repeat (first | with_reducible exact Ext.refl _ | with_reducible refine Ext.drew ?_ | with_reducible refine Ext.drewN ?_ _ | with_reducible refine Ext.alloc ?_ _ | with_reducible refine Ext.setCell ?_ (by first | omega | (simp; done) | (simp; omega)) _)) hx3))
    have X3 : Hid (Ext w w3) := Lib.hid (Ext.trans (by repeat (first | with_reducible exact X2.out | with_reducible refine Ext.drew ?_ | with_reducible refine Ext.drewN ?_ _ | with_reducible refine Ext.alloc ?_ _ | with_reducible refine Ext.setCell ?_ (by first | omega | (simp; done) | (simp; omega)) _)) hx3)
    clear X2 hx3 z3
    go_wp2_with fail
    (with_reducible refine (hopOut_any y3 4294967296 true _ HB4.out).mono ?_)
    rintro e w4 ⟨rfl, hx4⟩
    have z4 := hx4.size
    try simp at z4
    replace HS := Lib.hid (HS.out.ext (Ext.trans (by repeat (first | with_reducible exact Ext.refl _ | with_reducible refine Ext.drew ?_ | with_reducible refine Ext.drewN ?_ _ | with_reducible refine Ext.alloc ?_ _ | with_reducible refine Ext.setCell ?_ (by first | omega | (simp; done) | (simp; omega)) _)) hx4))
    have X4 : Hid (Ext w w4) := Lib.hid (Ext.trans (by repeat (first | with_reducible exact X3.out | with_reducible refine Ext.drew ?_ | with_reducible refine Ext.drewN ?_ _ | with_reducible refine Ext.alloc ?_ _ | with_reducible refine Ext.setCell ?_ (by first | omega | (simp; done) | (simp; omega)) _)) hx4)
    clear c0_2 c0_3 c0_1 rc0 rc0a rc0b rc0c rc0n X3 hx4 z4
    go_wp2_with fail
    rw [Exit.noGoto_ret]
    go_ret
    exact ⟨by rw [HV.out]; try rfl, (by repeat (first | with_reducible exact X4.out | with_reducible refine Ext.drew ?_ | with_reducible refine Ext.drewN ?_ _ | with_reducible refine Ext.alloc ?_ _ | with_reducible refine Ext.setCell ?_ (by first | omega | (simp; done) | (simp; omega)) _))⟩
  have gm : MayH (x0, x1, x2, x3) := by unfold MayH; dsimp only; omega
  have HV2 := HMV.out.trans (if_neg (by simpa using gm))
  have e3 : (x1 == x2) = false := by simpa using g3
  have HB0 : Hid (false = decide (x0 < 0 ∨ x0 ≥ 64)) := Lib.hid ((decide_eq_false g0).symm)
  have HB1 : Hid (false = decide (x1 < 0 ∨ x1 ≥ 32)) := Lib.hid ((decide_eq_false g1).symm)
  have HB2 : Hid (false = decide (x2 < 0 ∨ x2 ≥ 32)) := Lib.hid ((decide_eq_false g2).symm)
  have HB4 : Hid (false = decide (y3 < 0 ∨ y3 ≥ 4294967296)) := Lib.hid ((decide_eq_false g4).symm)
  clear g0 g1 g2 g3 g4 gm hy4
  by_cases hn : n = 0
  · have HV : Hid (V = 0) := Lib.hid (by rw [HV2]; have h0 : l = [] := List.eq_nil_of_length_eq_zero (by omega); rw [h0]; rfl)
    subst hn
    clear hV HV2
    go_enter Try.func87, Try.ntmps87
    go_wp2_with fail
    go_step3
    go_wp2_with fail
    go_step3
    go_wp2_with fail
    (with_reducible refine (hopOut_any x0 64 false _ HB0.out).mono ?_)
    rintro e w1 ⟨rfl, hx1⟩
    have c0_1 : w1.cell? ⟨w.heap.size, 1, none⟩ = some (.int .i64 x1) := hx1.has (by first | fail | (simp [go_sem, World.cell?_alloc_past]; done))
    have c0_2 : w1.cell? ⟨w.heap.size, 2, none⟩ = some (.int .i64 x2) := hx1.has (by first | fail | (simp [go_sem, World.cell?_alloc_past]; done))
    have c0_3 : w1.cell? ⟨w.heap.size, 3, none⟩ = some (.int .i64 x3) := hx1.has (by first | fail | (simp [go_sem, World.cell?_alloc_past]; done))
    have z1 := hx1.size
    try simp at z1
    have rc0 : w.heap.size < w1.heap.size := by omega
    have rc0a : w.heap.size < w1.heap.size + 1 := by omega
    have rc0b : w.heap.size < w1.heap.size + 1 + 1 := by omega
    have rc0c : w.heap.size < w1.heap.size + 1 + 1 + 1 := by omega
    have rc0n : ¬ w.heap.size = w1.heap.size := by omega
    replace HS := Lib.hid (HS.out.ext (Ext.trans (by repeat (first | with_reducible exact Ext.refl _ | with_reducible refine Ext.drew ?_ | with_reducible refine Ext.drewN ?_ _ | with_reducible refine Ext.alloc ?_ _ | with_reducible refine Ext.setCell ?_ (by first | omega | (simp; done) | (simp; omega)) _)) hx1))
    have X1 : Hid (Ext w w1) := Lib.hid (Ext.trans (by repeat (first | with_reducible exact Ext.refl w | with_reducible refine Ext.drew ?_ | with_reducible refine Ext.drewN ?_ _ | with_reducible refine Ext.alloc ?_ _ | with_reducible refine Ext.setCell ?_ (by first | omega | (simp; done) | (simp; omega)) _)) hx1)
    clear hx1 z1
    go_wp2_with fail
    (with_reducible refine (hopOut_any x1 32 false _ HB1.out).mono ?_)
    rintro e w2 ⟨rfl, hx2⟩
    replace c0_1 : w2.cell? ⟨w.heap.size, 1, none⟩ = some (.int .i64 x1) := hx2.has (by first | exact c0_1 | (simp [go_sem, World.cell?_alloc_past, c0_1, c0_2, c0_3, rc0, rc0a, rc0b, rc0c, rc0n]; done))
    replace c0_2 : w2.cell? ⟨w.heap.size, 2, none⟩ = some (.int .i64 x2) := hx2.has (by first | exact c0_2 | (simp [go_sem, World.cell?_alloc_past, c0_1, c0_2, c0_3, rc0, rc0a, rc0b, rc0c, rc0n]; done))
    replace c0_3 : w2.cell? ⟨w.heap.size, 3, none⟩ = some (.int .i64 x3) := hx2.has (by first | exact c0_3 | (simp [go_sem, World.cell?_alloc_past, c0_1, c0_2, c0_3, rc0, rc0a, rc0b, rc0c, rc0n]; done))
    have z2 := hx2.size
    try simp at z2
    replace rc0 : w.heap.size < w2.heap.size := by omega
    replace rc0a : w.heap.size < w2.heap.size + 1 := by omega
    replace rc0b : w.heap.size < w2.heap.size + 1 + 1 := by omega
    replace rc0c : w.heap.size < w2.heap.size + 1 + 1 + 1 := by omega
    replace rc0n : ¬ w.heap.size = w2.heap.size := by omega
    replace HS := Lib.hid (HS.out.ext (Ext.trans (by repeat (first | with_reducible exact Ext.refl _ | with_reducible refine Ext.drew ?_ | with_reducible refine Ext.drewN ?_ _ | with_reducible refine Ext.alloc ?_ _ | with_reducible refine Ext.setCell ?_ (by first | omega | (simp; done) | (simp; omega)) _)) hx2))
    have X2 : Hid (Ext w w2) := Lib.hid (Ext.trans (by repeat (first | with_reducible exact X1.out | with_reducible refine Ext.drew ?_ | with_reducible refine Ext.drewN ?_ _ | with_reducible refine Ext.alloc ?_ _ | with_reducible refine Ext.setCell ?_ (by first | omega | (simp; done) | (simp; omega)) _)) hx2)
    clear X1 hx2 z2
    go_wp2_with fail
    (with_reducible refine (hopOut_any x2 32 false _ HB2.out).mono ?_)
    rintro e w3 ⟨rfl, hx3⟩
    replace c0_1 : w3.cell? ⟨w.heap.size, 1, none⟩ = some (.int .i64 x1) := hx3.has (by first | exact c0_1 | (simp [go_sem, World.cell?_alloc_past, c0_1, c0_2, c0_3, rc0, rc0a, rc0b, rc0c, rc0n]; done))
    replace c0_2 : w3.cell? ⟨w.heap.size, 2, none⟩ = some (.int .i64 x2) := hx3.has (by first | exact c0_2 | (simp [go_sem, World.cell?_alloc_past, c0_1, c0_2, c0_3, rc0, rc0a, rc0b, rc0c, rc0n]; done))
    replace c0_3 : w3.cell? ⟨w.heap.size, 3, none⟩ = some (.int .i64 x3) := hx3.has (by first | exact c0_3 | (simp [go_sem, World.cell?_alloc_past, c0_1, c0_2, c0_3, rc0, rc0a, rc0b, rc0c, rc0n]; done))
    have z3 := hx3.size
    try simp at z3
    replace rc0 : w.heap.size < w3.heap.size := by omega
    replace rc0a : w.heap.size < w3.heap.size + 1 := by omega
    replace rc0b : w.heap.size < w3.heap.size + 1 + 1 := by omega
    replace rc0c : w.heap.size < w3.heap.size + 1 + 1 + 1 := by omega
    replace rc0n : ¬ w.heap.size = w3.heap.size := by omega
    replace HS := Lib.hid (HS.out.ext (Ext.trans (by repeat (first | with_reducible exact Ext.refl _ | with_reducible refine Ext.drew ?_ | with_reducible refine Ext.drewN ?_ _ | with_reducible refine Ext.alloc ?_ _ | with_reducible refine Ext.setCell ?_ (by first | omega | (simp; done) | (simp; omega)) _)) hx3))
    have X3 : Hid (Ext w w3) := Lib.hid (Ext.trans (by repeat (first | with_reducible exact X2.out | with_reducible refine Ext.drew ?_ | with_reducible refine Ext.drewN ?_ _ | with_reducible refine Ext.alloc ?_ _ | with_reducible refine Ext.setCell ?_ (by first | omega | (simp; done) | (simp; omega)) _)) hx3)
    clear X2 hx3 z3
    go_wp2_with fail
    (with_reducible refine (hopOut_any y3 4294967296 false _ HB4.out).mono ?_)
    rintro e w4 ⟨rfl, hx4⟩
    have z4 := hx4.size
    try simp at z4
    replace HS := Lib.hid (HS.out.ext (Ext.trans (by repeat (first | with_reducible exact Ext.refl _ | with_reducible refine Ext.drew ?_ | with_reducible refine Ext.drewN ?_ _ | with_reducible refine Ext.alloc ?_ _ | with_reducible refine Ext.setCell ?_ (by first | omega | (simp; done) | (simp; omega)) _)) hx4))
    have X4 : Hid (Ext w w4) := Lib.hid (Ext.trans (by repeat (first | with_reducible exact X3.out | with_reducible refine Ext.drew ?_ | with_reducible refine Ext.drewN ?_ _ | with_reducible refine Ext.alloc ?_ _ | with_reducible refine Ext.setCell ?_ (by first | omega | (simp; done) | (simp; omega)) _)) hx4)
    clear c0_2 c0_3 c0_1 rc0 rc0a rc0b rc0c rc0n X3 hx4 z4
    go_wp2_with fail
    rw [Exit.noGoto_ret]
    go_ret
    exact ⟨by rw [HV.out]; try rfl, (by repeat (first | with_reducible exact X4.out | with_reducible refine Ext.drew ?_ | with_reducible refine Ext.drewN ?_ _ | with_reducible refine Ext.alloc ?_ _ | with_reducible refine Ext.setCell ?_ (by first | omega | (simp; done) | (simp; omega)) _))⟩
  have hn1 : 0 < n := by omega
  obtain ⟨m, rfl⟩ : ∃ m, n = m + 1 := ⟨n - 1, by omega⟩
  have hk1 : m < l.length := by omega
  obtain ⟨b1, o1, rfl, hb1, hc1⟩ := HS.out.rec_ hopC_len (show 0 < m + 1 from by omega)
  obtain ⟨z, hz⟩ : ∃ z, z = l[m] := ⟨_, rfl⟩
  have hlz : l[m]? = some z := by rw [hz]; exact List.getElem?_eq_getElem hk1
  have z_3 := hc1 m z hlz 3 _ rfl
  rw [← Nat.add_assoc] at z_3
  have hlast : l.getLast? = some z := by rw [List.getLast?_eq_getElem?, show l.length - 1 = m from by omega]; exact hlz
  rw [hlast] at HV2
  obtain ⟨z0, z1, z2, z3⟩ := z
  simp only at HV2 z_3
  have hwm : IntKind.i64.wrap (((m + 1 : Nat) : Int) - 1) = (m : Int) := by rw [IntWalk.i64_in _ (by omega)]; omega
  have hwm2 : IntKind.i64.wrap (((m : Int) + 1) - 1) = (m : Int) := by rw [IntWalk.i64_in _ (by omega)]; omega
  have hwm3 : IntKind.i64.wrap (m : Int) = (m : Int) := IntWalk.i64_in _ (by omega)
  have hmm2 : (m : Int) < (m : Int) + 1 := by omega
  have hmm : (m : Int) < ((m + 1 : Nat) : Int) := by omega
  have rz := hb1
  have rza : b1 < w.heap.size + 1 := by omega
  have rzb : b1 < w.heap.size + 1 + 1 := by omega
  have rzc : b1 < w.heap.size + 1 + 1 + 1 := by omega
  have rzn : ¬ b1 = w.heap.size := by omega
  have en : (((m + 1 : Nat) : Int) == 0) = false := by simp; omega
  have en2 : ((m : Int) + 1 == 0) = false := by simp; omega
  clear hc1 hz hlz hlast hl hV hk1
  by_cases hlt : x3 < z3
  · have HV : Hid (V = 9) := Lib.hid (HV2.trans (if_pos hlt))
    clear HV2
    go_enter Try.func87, Try.ntmps87
    go_wp2_with fail
    go_step3
    go_wp2_with fail
    go_step3
    go_wp2_with fail
    (with_reducible refine (hopOut_any x0 64 false _ HB0.out).mono ?_)
    rintro e w1 ⟨rfl, hx1⟩
    replace z_3 : w1.cell? ⟨b1, o1 + m * 4 + 3, none⟩ = some (.int .i64 z3) := hx1.has (by first | exact z_3 | (simp [go_sem, World.cell?_alloc_past, z_3, rz, rza, rzb, rzc, rzn]; done))
    have c0_1 : w1.cell? ⟨w.heap.size, 1, none⟩ = some (.int .i64 x1) := hx1.has (by first | fail | (simp [go_sem, World.cell?_alloc_past, z_3, rz, rza, rzb, rzc, rzn]; done))
    have c0_2 : w1.cell? ⟨w.heap.size, 2, none⟩ = some (.int .i64 x2) := hx1.has (by first | fail | (simp [go_sem, World.cell?_alloc_past, z_3, rz, rza, rzb, rzc, rzn]; done))
    have c0_3 : w1.cell? ⟨w.heap.size, 3, none⟩ = some (.int .i64 x3) := hx1.has (by first | fail | (simp [go_sem, World.cell?_alloc_past, z_3, rz, rza, rzb, rzc, rzn]; done))
    have z1 := hx1.size
    try simp at z1
    have lt_z_c0 : b1 < w.heap.size := by omega
    have ne_z_c0 : ¬ b1 = w.heap.size := by omega
    have ne_c0_z : ¬ w.heap.size = b1 := by omega
    replace rz : b1 < w1.heap.size := by omega
    replace rza : b1 < w1.heap.size + 1 := by omega
    replace rzb : b1 < w1.heap.size + 1 + 1 := by omega
    replace rzc : b1 < w1.heap.size + 1 + 1 + 1 := by omega
    replace rzn : ¬ b1 = w1.heap.size := by omega
    have rc0 : w.heap.size < w1.heap.size := by omega
    have rc0a : w.heap.size < w1.heap.size + 1 := by omega
    have rc0b : w.heap.size < w1.heap.size + 1 + 1 := by omega
    have rc0c : w.heap.size < w1.heap.size + 1 + 1 + 1 := by omega
    have rc0n : ¬ w.heap.size = w1.heap.size := by omega
    replace HS := Lib.hid (HS.out.ext (Ext.trans (by repeat (first | with_reducible exact Ext.refl _ | with_reducible refine Ext.drew ?_ | with_reducible refine Ext.drewN ?_ _ | with_reducible refine Ext.alloc ?_ _ | with_reducible refine Ext.setCell ?_ (by first | omega | (simp; done) | (simp; omega)) _)) hx1))
    have X1 : Hid (Ext w w1) := Lib.hid (Ext.trans (by repeat (first | with_reducible exact Ext.refl w | with_reducible refine Ext.drew ?_ | with_reducible refine Ext.drewN ?_ _ | with_reducible refine Ext.alloc ?_ _ | with_reducible refine Ext.setCell ?_ (by first | omega | (simp; done) | (simp; omega)) _)) hx1)
    clear hx1 z1
    go_wp2_with fail
    (with_reducible refine (hopOut_any x1 32 false _ HB1.out).mono ?_)
    rintro e w2 ⟨rfl, hx2⟩
    replace z_3 : w2.cell? ⟨b1, o1 + m * 4 + 3, none⟩ = some (.int .i64 z3) := hx2.has (by first | exact z_3 | (simp [go_sem, World.cell?_alloc_past, z_3, c0_1, c0_2, c0_3, ne_z_c0, ne_c0_z, rz, rza, rzb, rzc, rzn, rc0, rc0a, rc0b, rc0c, rc0n]; done))
    replace c0_1 : w2.cell? ⟨w.heap.size, 1, none⟩ = some (.int .i64 x1) := hx2.has (by first | exact c0_1 | (simp [go_sem, World.cell?_alloc_past, z_3, c0_1, c0_2, c0_3, ne_z_c0, ne_c0_z, rz, rza, rzb, rzc, rzn, rc0, rc0a, rc0b, rc0c, rc0n]; done))
    replace c0_2 : w2.cell? ⟨w.heap.size, 2, none⟩ = some (.int .i64 x2) := hx2.has (by first | exact c0_2 | (simp [go_sem, World.cell?_alloc_past, z_3, c0_1, c0_2, c0_3, ne_z_c0, ne_c0_z, rz, rza, rzb, rzc, rzn, rc0, rc0a, rc0b, rc0c, rc0n]; done))
    replace c0_3 : w2.cell? ⟨w.heap.size, 3, none⟩ = some (.int .i64 x3) := hx2.has (by first | exact c0_3 | (simp [go_sem, World.cell?_alloc_past, z_3, c0_1, c0_2, c0_3, ne_z_c0, ne_c0_z, rz, rza, rzb, rzc, rzn, rc0, rc0a, rc0b, rc0c, rc0n]; done))
    have z2 := hx2.size
    try simp at z2
    replace rz : b1 < w2.heap.size := by omega
    replace rza : b1 < w2.heap.size + 1 := by omega
    replace rzb : b1 < w2.heap.size + 1 + 1 := by omega
    replace rzc : b1 < w2.heap.size + 1 + 1 + 1 := by omega
    replace rzn : ¬ b1 = w2.heap.size := by omega
    replace rc0 : w.heap.size < w2.heap.size := by omega
    replace rc0a : w.heap.size < w2.heap.size + 1 := by omega
    replace rc0b : w.heap.size < w2.heap.size + 1 + 1 := by omega
    replace rc0c : w.heap.size < w2.heap.size + 1 + 1 + 1 := by omega
    replace rc0n : ¬ w.heap.size = w2.heap.size := by omega
    replace HS := Lib.hid (HS.out.ext (Ext.trans (by repeat (first | with_reducible exact Ext.refl _ | with_reducible refine Ext.drew ?_ | with_reducible refine Ext.drewN ?_ _ | with_reducible refine Ext.alloc ?_ _ | with_reducible refine Ext.setCell ?_ (by first | omega | (simp; done) | (simp; omega)) _)) hx2))
    have X2 : Hid (Ext w w2) := Lib.hid (Ext.trans (by repeat (first | with_reducible exact X1.out | with_reducible refine Ext.drew ?_ | with_reducible refine Ext.drewN ?_ _ | with_reducible refine Ext.alloc ?_ _ | with_reducible refine Ext.setCell ?_ (by first | omega | (simp; done) | (simp; omega)) _)) hx2)
    clear X1 hx2 z2
    go_wp2_with fail
    (with_reducible refine (hopOut_any x2 32 false _ HB2.out).mono ?_)
    rintro e w3 ⟨rfl, hx3⟩
    replace z_3 : w3.cell? ⟨b1, o1 + m * 4 + 3, none⟩ = some (.int .i64 z3) := hx3.has (by first | exact z_3 | (simp [go_sem, World.cell?_alloc_past, z_3, c0_1, c0_2, c0_3, ne_z_c0, ne_c0_z, rz, rza, rzb, rzc, rzn, rc0, rc0a, rc0b, rc0c, rc0n]; done))
    replace c0_1 : w3.cell? ⟨w.heap.size, 1, none⟩ = some (.int .i64 x1) := hx3.has (by first | exact c0_1 | (simp [go_sem, World.cell?_alloc_past, z_3, c0_1, c0_2, c0_3, ne_z_c0, ne_c0_z, rz, rza, rzb, rzc, rzn, rc0, rc0a, rc0b, rc0c, rc0n]; done))
    replace c0_2 : w3.cell? ⟨w.heap.size, 2, none⟩ = some (.int .i64 x2) := hx3.has (by first | exact c0_2 | (simp [go_sem, World.cell?_alloc_past, z_3, c0_1, c0_2, c0_3, ne_z_c0, ne_c0_z, rz, rza, rzb, rzc, rzn, rc0, rc0a, rc0b, rc0c, rc0n]; done))
    replace c0_3 : w3.cell? ⟨w.heap.size, 3, none⟩ = some (.int .i64 x3) := hx3.has (by first | exact c0_3 | (simp [go_sem, World.cell?_alloc_past, z_3, c0_1, c0_2, c0_3, ne_z_c0, ne_c0_z, rz, rza, rzb, rzc, rzn, rc0, rc0a, rc0b, rc0c, rc0n]; done))
    have z3 := hx3.size
    try simp at z3
    replace rz : b1 < w3.heap.size := by omega
    replace rza : b1 < w3.heap.size + 1 := by omega
    replace rzb : b1 < w3.heap.size + 1 + 1 := by omega
    replace rzc : b1 < w3.heap.size + 1 + 1 + 1 := by omega
    replace rzn : ¬ b1 = w3.heap.size := by omega
    replace rc0 : w.heap.size < w3.heap.size := by omega
    replace rc0a : w.heap.size < w3.heap.size + 1 := by omega
    replace rc0b : w.heap.size < w3.heap.size + 1 + 1 := by omega
    replace rc0c : w.heap.size < w3.heap.size + 1 + 1 + 1 := by omega
    replace rc0n : ¬ w.heap.size = w3.heap.size := by omega
    replace HS := Lib.hid (HS.out.ext (Ext.trans (by repeat (first | with_reducible exact Ext.refl _ | with_reducible refine Ext.drew ?_ | with_reducible refine Ext.drewN ?_ _ | with_reducible refine Ext.alloc ?_ _ | with_reducible refine Ext.setCell ?_ (by first | omega | (simp; done) | (simp; omega)) _)) hx3))
    have X3 : Hid (Ext w w3) := Lib.hid (Ext.trans (by repeat (first | with_reducible exact X2.out | with_reducible refine Ext.drew ?_ | with_reducible refine Ext.drewN ?_ _ | with_reducible refine Ext.alloc ?_ _ | with_reducible refine Ext.setCell ?_ (by first | omega | (simp; done) | (simp; omega)) _)) hx3)
    clear X2 hx3 z3
    go_wp2_with fail
    (with_reducible refine (hopOut_any y3 4294967296 false _ HB4.out).mono ?_)
    rintro e w4 ⟨rfl, hx4⟩
    replace z_3 : w4.cell? ⟨b1, o1 + m * 4 + 3, none⟩ = some (.int .i64 z3) := hx4.has (by first | exact z_3 | (simp [go_sem, World.cell?_alloc_past, z_3, c0_1, c0_2, c0_3, ne_z_c0, ne_c0_z, rz, rza, rzb, rzc, rzn, rc0, rc0a, rc0b, rc0c, rc0n]; done))
    replace c0_3 : w4.cell? ⟨w.heap.size, 3, none⟩ = some (.int .i64 x3) := hx4.has (by first | exact c0_3 | (simp [go_sem, World.cell?_alloc_past, z_3, c0_1, c0_2, c0_3, ne_z_c0, ne_c0_z, rz, rza, rzb, rzc, rzn, rc0, rc0a, rc0b, rc0c, rc0n]; done))
    have z4 := hx4.size
    try simp at z4
    replace rz : b1 < w4.heap.size := by omega
    replace rza : b1 < w4.heap.size + 1 := by omega
    replace rzb : b1 < w4.heap.size + 1 + 1 := by omega
    replace rzc : b1 < w4.heap.size + 1 + 1 + 1 := by omega
    replace rzn : ¬ b1 = w4.heap.size := by omega
    replace rc0 : w.heap.size < w4.heap.size := by omega
    replace rc0a : w.heap.size < w4.heap.size + 1 := by omega
    replace rc0b : w.heap.size < w4.heap.size + 1 + 1 := by omega
    replace rc0c : w.heap.size < w4.heap.size + 1 + 1 + 1 := by omega
    replace rc0n : ¬ w.heap.size = w4.heap.size := by omega
    replace HS := Lib.hid (HS.out.ext (Ext.trans (by repeat (first | with_reducible exact Ext.refl _ | with_reducible refine Ext.drew ?_ | with_reducible refine Ext.drewN ?_ _ | with_reducible refine Ext.alloc ?_ _ | with_reducible refine Ext.setCell ?_ (by first | omega | (simp; done) | (simp; omega)) _)) hx4))
    have X4 : Hid (Ext w w4) := Lib.hid (Ext.trans (by repeat (first | with_reducible exact X3.out | with_reducible refine Ext.drew ?_ | with_reducible refine Ext.drewN ?_ _ | with_reducible refine Ext.alloc ?_ _ | with_reducible refine Ext.setCell ?_ (by first | omega | (simp; done) | (simp; omega)) _)) hx4)
    clear c0_2 c0_1 X3 hx4 z4
    go_wp2_with fail
    refine wp_region_held_drew (S := fun w' => w'.cell? ⟨w.heap.size, 3, none⟩ = some (.int .i64 x3) ∧ w'.cell? ⟨b1, o1 + m * 4 + 3, none⟩ = some (.int .i64 z3)) (by kernel_rfl) (by first | exact ⟨c0_3, z_3⟩ | (simp [go_sem, World.cell?_alloc_past, z_3, c0_3, ne_z_c0, ne_c0_z, rz, rza, rzb, rzc, rzn, rc0, rc0a, rc0b, rc0c, rc0n]; done)) (fun hHeld => ?_)
    (refine' take_in 0 rfl (by kernel_rfl) (by kernel_rfl) (by kernel_rfl) (fun _ _ _ h => h) (by rfl) (by assumption) ?_ ?_; rotate_left; focus (intro w hSw; (try dsimp only at hSw); go_simp; try with_reducible rfl)); try simp only [Act.put, List.setIfInBounds_toArray, List.set_cons_zero, List.set_cons_succ]
    (refine' take_in 1 rfl (by kernel_rfl) (by kernel_rfl) (by kernel_rfl) (fun _ _ _ h => h) (by rfl) (by assumption) ?_ ?_; rotate_left; focus (intro w hSw; (try dsimp only at hSw); go_simp; try with_reducible rfl)); try simp only [Act.put, List.setIfInBounds_toArray, List.set_cons_zero, List.set_cons_succ]
    (refine' take_in 2 rfl (by kernel_rfl) (by kernel_rfl) (by kernel_rfl) (fun _ _ _ h => h) (by rfl) (by assumption) ?_ ?_; rotate_left; focus (intro w hSw; (try dsimp only at hSw); go_simp; try with_reducible rfl)); try simp only [Act.put, List.setIfInBounds_toArray, List.set_cons_zero, List.set_cons_succ]
    (refine' take_in 3 rfl (by kernel_rfl) (by kernel_rfl) (by kernel_rfl) (fun _ _ _ h => h) (by rfl) (by assumption) ?_ ?_; rotate_left; focus (intro w hSw; (try dsimp only at hSw); go_simp; try with_reducible rfl)); try simp only [Act.put, List.setIfInBounds_toArray, List.set_cons_zero, List.set_cons_succ]
    (refine' take_in 4 rfl (by kernel_rfl) (by kernel_rfl) (by kernel_rfl) (fun _ _ _ h => h) (by rfl) (by assumption) ?_ ?_; rotate_left; focus (intro w hSw; (try dsimp only at hSw); go_simp; try with_reducible rfl)); try simp only [Act.put, List.setIfInBounds_toArray, List.set_cons_zero, List.set_cons_succ]
    (refine' take_in 5 rfl (by kernel_rfl) (by kernel_rfl) (by kernel_rfl) (fun _ _ _ h => h) (by rfl) (by assumption) ?_ ?_; rotate_left; focus (intro w hSw; (try dsimp only at hSw); go_simp; try with_reducible rfl)); try simp only [Act.put, List.setIfInBounds_toArray, List.set_cons_zero, List.set_cons_succ]
    (refine' take_in 6 rfl (by kernel_rfl) (by kernel_rfl) (by kernel_rfl) (fun _ _ _ h => h) (by rfl) (by assumption) ?_ ?_; rotate_left; focus (intro w hSw; (try dsimp only at hSw); go_simp; try with_reducible rfl)); try simp only [Act.put, List.setIfInBounds_toArray, List.set_cons_zero, List.set_cons_succ]
    (refine' take_in 7 rfl (by kernel_rfl) (by kernel_rfl) (by kernel_rfl) (fun _ _ _ h => h) (by rfl) (by assumption) ?_ ?_; rotate_left; focus (intro w hSw; (try dsimp only at hSw); go_simp; try with_reducible rfl)); try simp only [Act.put, List.setIfInBounds_toArray, List.set_cons_zero, List.set_cons_succ]
    (refine' take_in 8 rfl (by kernel_rfl) (by kernel_rfl) (by kernel_rfl) (fun _ _ _ h => h) (by rfl) (by assumption) ?_ ?_; rotate_left; focus (intro w hSw; (try dsimp only at hSw); go_simp; try with_reducible rfl)); try simp only [Act.put, List.setIfInBounds_toArray, List.set_cons_zero, List.set_cons_succ]
    (refine' take_in 9 rfl (by kernel_rfl) (by kernel_rfl) (by kernel_rfl) (fun _ _ _ h => h) (by rfl) (by assumption) ?_ ?_; rotate_left; focus (intro w hSw; (try dsimp only at hSw); go_simp; try with_reducible rfl)); try simp only [Act.put, List.setIfInBounds_toArray, List.set_cons_zero, List.set_cons_succ]
    refine wpAnyH_done (by kernel_rfl) ?_ _
    go_wp2_with fail
    rw [Exit.noGoto_ret]
    go_ret
    exact ⟨by rw [HV.out]; try rfl, (by repeat (first | with_reducible exact X4.out | with_reducible refine Ext.drew ?_ | with_reducible refine Ext.drewN ?_ _ | with_reducible refine Ext.alloc ?_ _ | with_reducible refine Ext.setCell ?_ (by first | omega | (simp; done) | (simp; omega)) _))⟩
  · have HV : Hid (V = 0) := Lib.hid (HV2.trans (if_neg hlt))
    clear HV2
    go_enter Try.func87, Try.ntmps87
    go_wp2_with fail
    go_step3
    go_wp2_with fail
    go_step3
    go_wp2_with fail
    (with_reducible refine (hopOut_any x0 64 false _ HB0.out).mono ?_)
    rintro e w1 ⟨rfl, hx1⟩
    replace z_3 : w1.cell? ⟨b1, o1 + m * 4 + 3, none⟩ = some (.int .i64 z3) := hx1.has (by first | exact z_3 | (simp [go_sem, World.cell?_alloc_past, z_3, rz, rza, rzb, rzc, rzn]; done))
    have c0_1 : w1.cell? ⟨w.heap.size, 1, none⟩ = some (.int .i64 x1) := hx1.has (by first | fail | (simp [go_sem, World.cell?_alloc_past, z_3, rz, rza, rzb, rzc, rzn]; done))
    have c0_2 : w1.cell? ⟨w.heap.size, 2, none⟩ = some (.int .i64 x2) := hx1.has (by first | fail | (simp [go_sem, World.cell?_alloc_past, z_3, rz, rza, rzb, rzc, rzn]; done))
    have c0_3 : w1.cell? ⟨w.heap.size, 3, none⟩ = some (.int .i64 x3) := hx1.has (by first | fail | (simp [go_sem, World.cell?_alloc_past, z_3, rz, rza, rzb, rzc, rzn]; done))
    have z1 := hx1.size
    try simp at z1
    have lt_z_c0 : b1 < w.heap.size := by omega
    have ne_z_c0 : ¬ b1 = w.heap.size := by omega
    have ne_c0_z : ¬ w.heap.size = b1 := by omega
    replace rz : b1 < w1.heap.size := by omega
    replace rza : b1 < w1.heap.size + 1 := by omega
    replace rzb : b1 < w1.heap.size + 1 + 1 := by omega
    replace rzc : b1 < w1.heap.size + 1 + 1 + 1 := by omega
    replace rzn : ¬ b1 = w1.heap.size := by omega
    have rc0 : w.heap.size < w1.heap.size := by omega
    have rc0a : w.heap.size < w1.heap.size + 1 := by omega
    have rc0b : w.heap.size < w1.heap.size + 1 + 1 := by omega
    have rc0c : w.heap.size < w1.heap.size + 1 + 1 + 1 := by omega
    have rc0n : ¬ w.heap.size = w1.heap.size := by omega
    replace HS := Lib.hid (HS.out.ext (Ext.trans (by repeat (first | with_reducible exact Ext.refl _ | with_reducible refine Ext.drew ?_ | with_reducible refine Ext.drewN ?_ _ | with_reducible refine Ext.alloc ?_ _ | with_reducible refine Ext.setCell ?_ (by first | omega | (simp; done) | (simp; omega)) _)) hx1))
    have X1 : Hid (Ext w w1) := Lib.hid (Ext.trans (by repeat (first | with_reducible exact Ext.refl w | with_reducible refine Ext.drew ?_ | with_reducible refine Ext.drewN ?_ _ | with_reducible refine Ext.alloc ?_ _ | with_reducible refine Ext.setCell ?_ (by first | omega | (simp; done) | (simp; omega)) _)) hx1)
    clear hx1 z1
    go_wp2_with fail
    (with_reducible refine (hopOut_any x1 32 false _ HB1.out).mono ?_)
    rintro e w2 ⟨rfl, hx2⟩
    replace z_3 : w2.cell? ⟨b1, o1 + m * 4 + 3, none⟩ = some (.int .i64 z3) := hx2.has (by first | exact z_3 | (simp [go_sem, World.cell?_alloc_past, z_3, c0_1, c0_2, c0_3, ne_z_c0, ne_c0_z, rz, rza, rzb, rzc, rzn, rc0, rc0a, rc0b, rc0c, rc0n]; done))
    replace c0_1 : w2.cell? ⟨w.heap.size, 1, none⟩ = some (.int .i64 x1) := hx2.has (by first | exact c0_1 | (simp [go_sem, World.cell?_alloc_past, z_3, c0_1, c0_2, c0_3, ne_z_c0, ne_c0_z, rz, rza, rzb, rzc, rzn, rc0, rc0a, rc0b, rc0c, rc0n]; done))
    replace c0_2 : w2.cell? ⟨w.heap.size, 2, none⟩ = some (.int .i64 x2) := hx2.has (by first | exact c0_2 | (simp [go_sem, World.cell?_alloc_past, z_3, c0_1, c0_2, c0_3, ne_z_c0, ne_c0_z, rz, rza, rzb, rzc, rzn, rc0, rc0a, rc0b, rc0c, rc0n]; done))
    replace c0_3 : w2.cell? ⟨w.heap.size, 3, none⟩ = some (.int .i64 x3) := hx2.has (by first | exact c0_3 | (simp [go_sem, World.cell?_alloc_past, z_3, c0_1, c0_2, c0_3, ne_z_c0, ne_c0_z, rz, rza, rzb, rzc, rzn, rc0, rc0a, rc0b, rc0c, rc0n]; done))
    have z2 := hx2.size
    try simp at z2
    replace rz : b1 < w2.heap.size := by omega
    replace rza : b1 < w2.heap.size + 1 := by omega
    replace rzb : b1 < w2.heap.size + 1 + 1 := by omega
    replace rzc : b1 < w2.heap.size + 1 + 1 + 1 := by omega
    replace rzn : ¬ b1 = w2.heap.size := by omega
    replace rc0 : w.heap.size < w2.heap.size := by omega
    replace rc0a : w.heap.size < w2.heap.size + 1 := by omega
    replace rc0b : w.heap.size < w2.heap.size + 1 + 1 := by omega
    replace rc0c : w.heap.size < w2.heap.size + 1 + 1 + 1 := by omega
    replace rc0n : ¬ w.heap.size = w2.heap.size := by omega
    replace HS := Lib.hid (HS.out.ext (Ext.trans (by repeat (first | with_reducible exact Ext.refl _ | with_reducible refine Ext.drew ?_ | with_reducible refine Ext.drewN ?_ _ | with_reducible refine Ext.alloc ?_ _ | with_reducible refine Ext.setCell ?_ (by first | omega | (simp; done) | (simp; omega)) _)) hx2))
    have X2 : Hid (Ext w w2) := Lib.hid (Ext.trans (by repeat (first | with_reducible exact X1.out | with_reducible refine Ext.drew ?_ | with_reducible refine Ext.drewN ?_ _ | with_reducible refine Ext.alloc ?_ _ | with_reducible refine Ext.setCell ?_ (by first | omega | (simp; done) | (simp; omega)) _)) hx2)
    clear X1 hx2 z2
    go_wp2_with fail
    (with_reducible refine (hopOut_any x2 32 false _ HB2.out).mono ?_)
    rintro e w3 ⟨rfl, hx3⟩
    replace z_3 : w3.cell? ⟨b1, o1 + m * 4 + 3, none⟩ = some (.int .i64 z3) := hx3.has (by first | exact z_3 | (simp [go_sem, World.cell?_alloc_past, z_3, c0_1, c0_2, c0_3, ne_z_c0, ne_c0_z, rz, rza, rzb, rzc, rzn, rc0, rc0a, rc0b, rc0c, rc0n]; done))
    replace c0_1 : w3.cell? ⟨w.heap.size, 1, none⟩ = some (.int .i64 x1) := hx3.has (by first | exact c0_1 | (simp [go_sem, World.cell?_alloc_past, z_3, c0_1, c0_2, c0_3, ne_z_c0, ne_c0_z, rz, rza, rzb, rzc, rzn, rc0, rc0a, rc0b, rc0c, rc0n]; done))
    replace c0_2 : w3.cell? ⟨w.heap.size, 2, none⟩ = some (.int .i64 x2) := hx3.has (by first | exact c0_2 | (simp [go_sem, World.cell?_alloc_past, z_3, c0_1, c0_2, c0_3, ne_z_c0, ne_c0_z, rz, rza, rzb, rzc, rzn, rc0, rc0a, rc0b, rc0c, rc0n]; done))
    replace c0_3 : w3.cell? ⟨w.heap.size, 3, none⟩ = some (.int .i64 x3) := hx3.has (by first | exact c0_3 | (simp [go_sem, World.cell?_alloc_past, z_3, c0_1, c0_2, c0_3, ne_z_c0, ne_c0_z, rz, rza, rzb, rzc, rzn, rc0, rc0a, rc0b, rc0c, rc0n]; done))
    have z3 := hx3.size
    try simp at z3
    replace rz : b1 < w3.heap.size := by omega
    replace rza : b1 < w3.heap.size + 1 := by omega
    replace rzb : b1 < w3.heap.size + 1 + 1 := by omega
    replace rzc : b1 < w3.heap.size + 1 + 1 + 1 := by omega
    replace rzn : ¬ b1 = w3.heap.size := by omega
    replace rc0 : w.heap.size < w3.heap.size := by omega
    replace rc0a : w.heap.size < w3.heap.size + 1 := by omega
    replace rc0b : w.heap.size < w3.heap.size + 1 + 1 := by omega
    replace rc0c : w.heap.size < w3.heap.size + 1 + 1 + 1 := by omega
    replace rc0n : ¬ w.heap.size = w3.heap.size := by omega
    replace HS := Lib.hid (HS.out.ext (Ext.trans (by repeat (first | with_reducible exact Ext.refl _ | with_reducible refine Ext.drew ?_ | with_reducible refine Ext.drewN ?_ _ | with_reducible refine Ext.alloc ?_ _ | with_reducible refine Ext.setCell ?_ (by first | omega | (simp; done) | (simp; omega)) _)) hx3))
    have X3 : Hid (Ext w w3) := Lib.hid (Ext.trans (by repeat (first | with_reducible exact X2.out | with_reducible refine Ext.drew ?_ | with_reducible refine Ext.drewN ?_ _ | with_reducible refine Ext.alloc ?_ _ | with_reducible refine Ext.setCell ?_ (by first | omega | (simp; done) | (simp; omega)) _)) hx3)
    clear X2 hx3 z3
    go_wp2_with fail
    (with_reducible refine (hopOut_any y3 4294967296 false _ HB4.out).mono ?_)
    rintro e w4 ⟨rfl, hx4⟩
    replace z_3 : w4.cell? ⟨b1, o1 + m * 4 + 3, none⟩ = some (.int .i64 z3) := hx4.has (by first | exact z_3 | (simp [go_sem, World.cell?_alloc_past, z_3, c0_1, c0_2, c0_3, ne_z_c0, ne_c0_z, rz, rza, rzb, rzc, rzn, rc0, rc0a, rc0b, rc0c, rc0n]; done))
    replace c0_3 : w4.cell? ⟨w.heap.size, 3, none⟩ = some (.int .i64 x3) := hx4.has (by first | exact c0_3 | (simp [go_sem, World.cell?_alloc_past, z_3, c0_1, c0_2, c0_3, ne_z_c0, ne_c0_z, rz, rza, rzb, rzc, rzn, rc0, rc0a, rc0b, rc0c, rc0n]; done))
    have z4 := hx4.size
    try simp at z4
    replace rz : b1 < w4.heap.size := by omega
    replace rza : b1 < w4.heap.size + 1 := by omega
    replace rzb : b1 < w4.heap.size + 1 + 1 := by omega
    replace rzc : b1 < w4.heap.size + 1 + 1 + 1 := by omega
    replace rzn : ¬ b1 = w4.heap.size := by omega
    replace rc0 : w.heap.size < w4.heap.size := by omega
    replace rc0a : w.heap.size < w4.heap.size + 1 := by omega
    replace rc0b : w.heap.size < w4.heap.size + 1 + 1 := by omega
    replace rc0c : w.heap.size < w4.heap.size + 1 + 1 + 1 := by omega
    replace rc0n : ¬ w.heap.size = w4.heap.size := by omega
    replace HS := Lib.hid (HS.out.ext (Ext.trans (by repeat (first | with_reducible exact Ext.refl _ | with_reducible refine Ext.drew ?_ | with_reducible refine Ext.drewN ?_ _ | with_reducible refine Ext.alloc ?_ _ | with_reducible refine Ext.setCell ?_ (by first | omega | (simp; done) | (simp; omega)) _)) hx4))
    have X4 : Hid (Ext w w4) := Lib.hid (Ext.trans (by repeat (first | with_reducible exact X3.out | with_reducible refine Ext.drew ?_ | with_reducible refine Ext.drewN ?_ _ | with_reducible refine Ext.alloc ?_ _ | with_reducible refine Ext.setCell ?_ (by first | omega | (simp; done) | (simp; omega)) _)) hx4)
    clear c0_2 c0_1 X3 hx4 z4
    go_wp2_with fail
    refine wp_region_held_drew (S := fun w' => w'.cell? ⟨w.heap.size, 3, none⟩ = some (.int .i64 x3) ∧ w'.cell? ⟨b1, o1 + m * 4 + 3, none⟩ = some (.int .i64 z3)) (by kernel_rfl) (by first | exact ⟨c0_3, z_3⟩ | (simp [go_sem, World.cell?_alloc_past, z_3, c0_3, ne_z_c0, ne_c0_z, rz, rza, rzb, rzc, rzn, rc0, rc0a, rc0b, rc0c, rc0n]; done)) (fun hHeld => ?_)
    (refine' take_in 0 rfl (by kernel_rfl) (by kernel_rfl) (by kernel_rfl) (fun _ _ _ h => h) (by rfl) (by assumption) ?_ ?_; rotate_left; focus (intro w hSw; (try dsimp only at hSw); go_simp; try with_reducible rfl)); try simp only [Act.put, List.setIfInBounds_toArray, List.set_cons_zero, List.set_cons_succ]
    (refine' take_in 1 rfl (by kernel_rfl) (by kernel_rfl) (by kernel_rfl) (fun _ _ _ h => h) (by rfl) (by assumption) ?_ ?_; rotate_left; focus (intro w hSw; (try dsimp only at hSw); go_simp; try with_reducible rfl)); try simp only [Act.put, List.setIfInBounds_toArray, List.set_cons_zero, List.set_cons_succ]
    (refine' take_in 2 rfl (by kernel_rfl) (by kernel_rfl) (by kernel_rfl) (fun _ _ _ h => h) (by rfl) (by assumption) ?_ ?_; rotate_left; focus (intro w hSw; (try dsimp only at hSw); go_simp; try with_reducible rfl)); try simp only [Act.put, List.setIfInBounds_toArray, List.set_cons_zero, List.set_cons_succ]
    (refine' take_in 3 rfl (by kernel_rfl) (by kernel_rfl) (by kernel_rfl) (fun _ _ _ h => h) (by rfl) (by assumption) ?_ ?_; rotate_left; focus (intro w hSw; (try dsimp only at hSw); go_simp; try with_reducible rfl)); try simp only [Act.put, List.setIfInBounds_toArray, List.set_cons_zero, List.set_cons_succ]
    (refine' take_in 4 rfl (by kernel_rfl) (by kernel_rfl) (by kernel_rfl) (fun _ _ _ h => h) (by rfl) (by assumption) ?_ ?_; rotate_left; focus (intro w hSw; (try dsimp only at hSw); go_simp; try with_reducible rfl)); try simp only [Act.put, List.setIfInBounds_toArray, List.set_cons_zero, List.set_cons_succ]
    (refine' take_in 5 rfl (by kernel_rfl) (by kernel_rfl) (by kernel_rfl) (fun _ _ _ h => h) (by rfl) (by assumption) ?_ ?_; rotate_left; focus (intro w hSw; (try dsimp only at hSw); go_simp; try with_reducible rfl)); try simp only [Act.put, List.setIfInBounds_toArray, List.set_cons_zero, List.set_cons_succ]
    (refine' take_in 6 rfl (by kernel_rfl) (by kernel_rfl) (by kernel_rfl) (fun _ _ _ h => h) (by rfl) (by assumption) ?_ ?_; rotate_left; focus (intro w hSw; (try dsimp only at hSw); go_simp; try with_reducible rfl)); try simp only [Act.put, List.setIfInBounds_toArray, List.set_cons_zero, List.set_cons_succ]
    (refine' take_in 7 rfl (by kernel_rfl) (by kernel_rfl) (by kernel_rfl) (fun _ _ _ h => h) (by rfl) (by assumption) ?_ ?_; rotate_left; focus (intro w hSw; (try dsimp only at hSw); go_simp; try with_reducible rfl)); try simp only [Act.put, List.setIfInBounds_toArray, List.set_cons_zero, List.set_cons_succ]
    (refine' take_in 8 rfl (by kernel_rfl) (by kernel_rfl) (by kernel_rfl) (fun _ _ _ h => h) (by rfl) (by assumption) ?_ ?_; rotate_left; focus (intro w hSw; (try dsimp only at hSw); go_simp; try with_reducible rfl)); try simp only [Act.put, List.setIfInBounds_toArray, List.set_cons_zero, List.set_cons_succ]
    (refine' take_in 9 rfl (by kernel_rfl) (by kernel_rfl) (by kernel_rfl) (fun _ _ _ h => h) (by rfl) (by assumption) ?_ ?_; rotate_left; focus (intro w hSw; (try dsimp only at hSw); go_simp; try with_reducible rfl)); try simp only [Act.put, List.setIfInBounds_toArray, List.set_cons_zero, List.set_cons_succ]
    refine wpAnyH_done (by kernel_rfl) ?_ _
    go_wp2_with fail
    rw [Exit.noGoto_ret]
    go_ret
    exact ⟨by rw [HV.out]; try rfl, (by repeat (first | with_reducible exact X4.out | with_reducible refine Ext.drew ?_ | with_reducible refine Ext.drewN ?_ _ | with_reducible refine Ext.alloc ?_ _ | with_reducible refine Ext.setCell ?_ (by first | omega | (simp; done) | (simp; omega)) _))⟩
set_option maxRecDepth 100000 in
set_option maxHeartbeats 4000000 in
theorem rMay15_any (x0 x1 x2 x3 : Int) (b : Bool) (w : World) (hb : b = decide (MayH (x0, x1, x2, x3))) : Calls Try.prog 88 #[.agg #[.int .i64 x0, .int .i64 x1, .int .i64 x2, .int .i64 x3]] w fun e w' => e = .returned (.bool b) ∧ Ext w w' := by
  have HB := Lib.hid hb
  clear hb
  go_enter Try.func88, Try.ntmps88
  by_cases g0 : x1 ≥ 0
  · skip
    by_cases g1 : x1 < 32
    · skip
      by_cases g2 : x2 ≥ 0
      · skip
        by_cases g3 : x2 < 32
        · skip
          by_cases g4 : x1 ≠ x2
          · have e4 : (x1 != x2) = true := by simpa using g4
            by_cases g5 : x0 ≥ 0
            · skip
              by_cases g6 : x0 < 64
              · skip
                by_cases g7 : x3 ≥ 1
                · skip
                  by_cases g8 : x3 ≤ 4294967296
                  · obtain rfl : b = true := by rw [HB.out]; exact decide_eq_true (by unfold MayH; dsimp only; omega)
                    go_wp2_with fail
                    go_ret
                    exact ⟨rfl, (by repeat (first | with_reducible exact Ext.refl w | with_reducible refine Ext.drew ?_ | with_reducible refine Ext.drewN ?_ _ | with_reducible refine Ext.alloc ?_ _ | with_reducible refine Ext.setCell ?_ (by first | omega | (simp; done) | (simp; omega)) _))⟩
                  · obtain rfl : b = false := by rw [HB.out]; exact decide_eq_false (by unfold MayH; dsimp only; omega)
                    go_wp2_with fail
                    go_ret
                    exact ⟨rfl, (by repeat (first | with_reducible exact Ext.refl w | with_reducible refine Ext.drew ?_ | with_reducible refine Ext.drewN ?_ _ | with_reducible refine Ext.alloc ?_ _ | with_reducible refine Ext.setCell ?_ (by first | omega | (simp; done) | (simp; omega)) _))⟩
                · skip
                  obtain rfl : b = false := by rw [HB.out]; exact decide_eq_false (by unfold MayH; dsimp only; omega)
                  go_wp2_with fail
                  go_ret
                  exact ⟨rfl, (by repeat (first | with_reducible exact Ext.refl w | with_reducible refine Ext.drew ?_ | with_reducible refine Ext.drewN ?_ _ | with_reducible refine Ext.alloc ?_ _ | with_reducible refine Ext.setCell ?_ (by first | omega | (simp; done) | (simp; omega)) _))⟩
              · skip
                obtain rfl : b = false := by rw [HB.out]; exact decide_eq_false (by unfold MayH; dsimp only; omega)
                go_wp2_with fail
                go_ret
                exact ⟨rfl, (by repeat (first | with_reducible exact Ext.refl w | with_reducible refine Ext.drew ?_ | with_reducible refine Ext.drewN ?_ _ | with_reducible refine Ext.alloc ?_ _ | with_reducible refine Ext.setCell ?_ (by first | omega | (simp; done) | (simp; omega)) _))⟩
            · skip
              obtain rfl : b = false := by rw [HB.out]; exact decide_eq_false (by unfold MayH; dsimp only; omega)
              go_wp2_with fail
              go_ret
              exact ⟨rfl, (by repeat (first | with_reducible exact Ext.refl w | with_reducible refine Ext.drew ?_ | with_reducible refine Ext.drewN ?_ _ | with_reducible refine Ext.alloc ?_ _ | with_reducible refine Ext.setCell ?_ (by first | omega | (simp; done) | (simp; omega)) _))⟩
          · have e4 : (x1 != x2) = false := by simpa using g4
            obtain rfl : b = false := by rw [HB.out]; exact decide_eq_false (by unfold MayH; dsimp only; omega)
            go_wp2_with fail
            go_ret
            exact ⟨rfl, (by repeat (first | with_reducible exact Ext.refl w | with_reducible refine Ext.drew ?_ | with_reducible refine Ext.drewN ?_ _ | with_reducible refine Ext.alloc ?_ _ | with_reducible refine Ext.setCell ?_ (by first | omega | (simp; done) | (simp; omega)) _))⟩
        · skip
          obtain rfl : b = false := by rw [HB.out]; exact decide_eq_false (by unfold MayH; dsimp only; omega)
          go_wp2_with fail
          go_ret
          exact ⟨rfl, (by repeat (first | with_reducible exact Ext.refl w | with_reducible refine Ext.drew ?_ | with_reducible refine Ext.drewN ?_ _ | with_reducible refine Ext.alloc ?_ _ | with_reducible refine Ext.setCell ?_ (by first | omega | (simp; done) | (simp; omega)) _))⟩
      · skip
        obtain rfl : b = false := by rw [HB.out]; exact decide_eq_false (by unfold MayH; dsimp only; omega)
        go_wp2_with fail
        go_ret
        exact ⟨rfl, (by repeat (first | with_reducible exact Ext.refl w | with_reducible refine Ext.drew ?_ | with_reducible refine Ext.drewN ?_ _ | with_reducible refine Ext.alloc ?_ _ | with_reducible refine Ext.setCell ?_ (by first | omega | (simp; done) | (simp; omega)) _))⟩
    · skip
      obtain rfl : b = false := by rw [HB.out]; exact decide_eq_false (by unfold MayH; dsimp only; omega)
      go_wp2_with fail
      go_ret
      exact ⟨rfl, (by repeat (first | with_reducible exact Ext.refl w | with_reducible refine Ext.drew ?_ | with_reducible refine Ext.drewN ?_ _ | with_reducible refine Ext.alloc ?_ _ | with_reducible refine Ext.setCell ?_ (by first | omega | (simp; done) | (simp; omega)) _))⟩
  · skip
    obtain rfl : b = false := by rw [HB.out]; exact decide_eq_false (by unfold MayH; dsimp only; omega)
    go_wp2_with fail
    go_ret
    exact ⟨rfl, (by repeat (first | with_reducible exact Ext.refl w | with_reducible refine Ext.drew ?_ | with_reducible refine Ext.drewN ?_ _ | with_reducible refine Ext.alloc ?_ _ | with_reducible refine Ext.setCell ?_ (by first | omega | (simp; done) | (simp; omega)) _))⟩
end Go.Proofs.Ytjdpgapmdmpjjaa
