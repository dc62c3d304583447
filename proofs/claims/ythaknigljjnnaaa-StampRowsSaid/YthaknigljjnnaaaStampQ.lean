/- law12: StampBack returns true. Conditions: none. -/
import Derived.Test.YthaknigljjnnaaaStampW
import Derived.Test.YthaknigljjnnaaaStampL
import Derived.Test.YthaknigljjnnaaaHeld
import Derived.Deep.DeepCutAuto
set_option linter.unusedVariables false
set_option linter.unusedSimpArgs false
namespace Go.Proofs.Ythaknigljjnnaaa
open Go.RowKit

theorem tBytes_sl (V S P F : Int) (w : World) :
    Calls Try.prog 31 #[.agg #[.int .i64 V, .int .i64 S, .int .i64 P, .int .i64 F]] w fun r w' => ∃ A c, r = .returned (.tuple #[.slice A (stB V S P F).length c, .int .i64 (chkS V S P F)]) ∧ (A = none → c = 0) ∧ Sl w' 1 A (stB V S P F).length c (by_ (stB V S P F)) ∧ Ext w w' := by
  refine (tBytes_any V S P F w).mono ?_
  rintro r w' ⟨v, rfl, hown, hx⟩
  obtain ⟨A, c, rfl, h1, h2⟩ := own_parts2 hown
  exact ⟨A, c, rfl, h1, h2, hx⟩
theorem byt_stB (V S P F : Int) : Byt (stB V S P F) := by
  unfold stB
  split
  · intro x hx
    unfold putsL at hx
    obtain ⟨y, _, hy⟩ := List.mem_flatMap.1 hx
    exact byt_putL _ _ (Nat.le_refl _) x hy
  · intro x hx; cases hx
theorem stB_len (V S P F : Int) : (stB V S P F).length ≤ 40 := by
  unfold stB
  split
  · rename_i h
    have hk := chkS_ok h
    have h1 := hk.v1; have h2 := hk.s1; have h3 := hk.p1; have h4 := hk.f1
    have := putsL_len (stL V S P F) (by intro x hx; unfold stL at hx; simp at hx; omega)
    have hl : (stL V S P F).length = 4 := rfl
    omega
  · simp
def SB3 (w wc : World) (V S P F V' S' P' F' V'' S'' P'' F'' : Int) (q : Value) : Prop := q = .bool false ∧ wc.cell? ⟨w.heap.size, 0, none⟩ = some (.int .i64 V) ∧ wc.cell? ⟨w.heap.size, 1, none⟩ = some (.int .i64 S) ∧ wc.cell? ⟨w.heap.size, 2, none⟩ = some (.int .i64 P) ∧ wc.cell? ⟨w.heap.size, 3, none⟩ = some (.int .i64 F) ∧ wc.cell? ⟨w.heap.size + 1, 0, none⟩ = some (.int .i64 V') ∧ wc.cell? ⟨w.heap.size + 1, 1, none⟩ = some (.int .i64 S') ∧ wc.cell? ⟨w.heap.size + 1, 2, none⟩ = some (.int .i64 P') ∧ wc.cell? ⟨w.heap.size + 1, 3, none⟩ = some (.int .i64 F') ∧ wc.cell? ⟨w.heap.size + 1 + 1, 0, none⟩ = some (.int .i64 V'') ∧ wc.cell? ⟨w.heap.size + 1 + 1, 1, none⟩ = some (.int .i64 S'') ∧ wc.cell? ⟨w.heap.size + 1 + 1, 2, none⟩ = some (.int .i64 P'') ∧ wc.cell? ⟨w.heap.size + 1 + 1, 3, none⟩ = some (.int .i64 F'') ∧ Ext w wc ∧ w.heap.size + 1 + 1 < wc.heap.size
set_option maxRecDepth 100000 in
set_option maxHeartbeats 8000000 in
theorem StampBack_w (V S P F V' S' P' F' V'' S'' P'' F'' : Int) (A2 : Option Addr) (c2 : Nat) (M LB : List Nat) (E a b c d e2 f2 m n : Int) (hM : Byt M) (hLB : Byt LB) (w : World) (hS2 : Sl w 1 A2 M.length c2 (by_ M))
    (CB : Hid (∀ w, Calls Try.prog 31 #[.agg #[.int .i64 V, .int .i64 S, .int .i64 P, .int .i64 F]] w fun r w' => ∃ A c, r = .returned (.tuple #[.slice A LB.length c, .int .i64 E]) ∧ (A = none → c = 0) ∧ Sl w' 1 A LB.length c (by_ LB) ∧ Ext w w'))
    (CR : E = 0 → Hid (∀ A c w, (A = none → c = 0) → Sl w 1 A LB.length c (by_ LB) → Calls Try.prog 35 #[.slice A LB.length c] w fun r w' => r = .returned (.tuple #[.agg #[.int .i64 V, .int .i64 S, .int .i64 P, .int .i64 F], .agg #[.int .i64 0, .int .i64 0]]) ∧ Ext w w'))
    (CK : Hid (∀ w, Calls Try.prog 64 #[.agg #[.int .i64 V, .int .i64 S, .int .i64 P, .int .i64 F]] w fun r w' => r = .returned (.int .i64 E) ∧ Ext w w'))
    (CR2 : M.length ≤ 100 → Hid (∀ w, Sl w 1 A2 M.length c2 (by_ M) → Calls Try.prog 35 #[.slice A2 M.length c2] w fun r w' => r = .returned (.tuple #[.agg #[.int .i64 a, .int .i64 b, .int .i64 c, .int .i64 d], .agg #[.int .i64 e2, .int .i64 f2]]) ∧ Ext w w')) (he2 : e2 = 0 → f2 = 0)
    (CB2 : e2 = 0 → Hid (∀ w, Calls Try.prog 31 #[.agg #[.int .i64 a, .int .i64 b, .int .i64 c, .int .i64 d]] w fun r w' => ∃ A c, r = .returned (.tuple #[.slice A M.length c, .int .i64 0]) ∧ (A = none → c = 0) ∧ Sl w' 1 A M.length c (by_ M) ∧ Ext w w'))
    (C1 : Hid (∀ w, Calls Try.prog 66 #[.agg #[.int .i64 V, .int .i64 S, .int .i64 P, .int .i64 F], .agg #[.int .i64 V', .int .i64 S', .int .i64 P', .int .i64 F']] w fun r w' => r = .returned (.int .i64 m) ∧ Ext w w'))
    (C2 : Hid (∀ w, Calls Try.prog 66 #[.agg #[.int .i64 V', .int .i64 S', .int .i64 P', .int .i64 F'], .agg #[.int .i64 V'', .int .i64 S'', .int .i64 P'', .int .i64 F'']] w fun r w' => r = .returned (.int .i64 n) ∧ Ext w w'))
    (C3 : m ≤ 0 → n ≤ 0 → ∃ k, k ≤ 0 ∧ Hid (∀ w, Calls Try.prog 66 #[.agg #[.int .i64 V, .int .i64 S, .int .i64 P, .int .i64 F], .agg #[.int .i64 V'', .int .i64 S'', .int .i64 P'', .int .i64 F'']] w fun r w' => r = .returned (.int .i64 k) ∧ Ext w w'))
    (C4 : Hid (∀ w, Calls Try.prog 66 #[.agg #[.int .i64 V', .int .i64 S', .int .i64 P', .int .i64 F'], .agg #[.int .i64 V, .int .i64 S, .int .i64 P, .int .i64 F]] w fun r w' => r = .returned (.int .i64 (-m)) ∧ Ext w w'))
    (hm : m = -1 ∨ m = 0 ∨ m = 1) (hm0 : m = 0 ↔ V = V' ∧ S = S' ∧ P = P' ∧ F = F') :
    Calls Try.prog 12 #[.agg #[.int .i64 V, .int .i64 S, .int .i64 P, .int .i64 F], .agg #[.int .i64 V', .int .i64 S', .int .i64 P', .int .i64 F'], .agg #[.int .i64 V'', .int .i64 S'', .int .i64 P'', .int .i64 F''], .slice A2 M.length c2] w fun r w' => r = .returned (.bool true) ∧ Ext w w' := by
  have HS0 := Lib.hid hS2
  have HS := Lib.hid hS2
  clear hS2
  go_enter Try.func12, Try.ntmps12
  have HCR := Lib.hid CR
  have HCB2 := Lib.hid CB2
  have HC3 := Lib.hid C3
  have HCR2 := Lib.hid CR2
  have Hhe2 := Lib.hid he2
  have Hm0 := Lib.hid hm0
  clear CR CB2 C3 CR2 he2 hm0
  go_wp2_with fail
  (with_reducible refine (StampKnown_any _).mono ?_)
  rintro e w1 ⟨rfl, hx1⟩
  have c0_0 : w1.cell? ⟨w.heap.size, 0, none⟩ = some (.int .i64 V) := hx1.has (by first | fail | (simp [go_sem, World.cell?_alloc_past]; done))
  have c0_1 : w1.cell? ⟨w.heap.size, 1, none⟩ = some (.int .i64 S) := hx1.has (by first | fail | (simp [go_sem, World.cell?_alloc_past]; done))
  have c0_2 : w1.cell? ⟨w.heap.size, 2, none⟩ = some (.int .i64 P) := hx1.has (by first | fail | (simp [go_sem, World.cell?_alloc_past]; done))
  have c0_3 : w1.cell? ⟨w.heap.size, 3, none⟩ = some (.int .i64 F) := hx1.has (by first | fail | (simp [go_sem, World.cell?_alloc_past]; done))
  have c1_0 : w1.cell? ⟨w.heap.size + 1, 0, none⟩ = some (.int .i64 V') := hx1.has (by first | fail | (simp [go_sem, World.cell?_alloc_past]; done))
  have c1_1 : w1.cell? ⟨w.heap.size + 1, 1, none⟩ = some (.int .i64 S') := hx1.has (by first | fail | (simp [go_sem, World.cell?_alloc_past]; done))
  have c1_2 : w1.cell? ⟨w.heap.size + 1, 2, none⟩ = some (.int .i64 P') := hx1.has (by first | fail | (simp [go_sem, World.cell?_alloc_past]; done))
  have c1_3 : w1.cell? ⟨w.heap.size + 1, 3, none⟩ = some (.int .i64 F') := hx1.has (by first | fail | (simp [go_sem, World.cell?_alloc_past]; done))
  have c2_0 : w1.cell? ⟨w.heap.size + 1 + 1, 0, none⟩ = some (.int .i64 V'') := hx1.has (by first | fail | (simp [go_sem, World.cell?_alloc_past]; done))
  have c2_1 : w1.cell? ⟨w.heap.size + 1 + 1, 1, none⟩ = some (.int .i64 S'') := hx1.has (by first | fail | (simp [go_sem, World.cell?_alloc_past]; done))
  have c2_2 : w1.cell? ⟨w.heap.size + 1 + 1, 2, none⟩ = some (.int .i64 P'') := hx1.has (by first | fail | (simp [go_sem, World.cell?_alloc_past]; done))
  have c2_3 : w1.cell? ⟨w.heap.size + 1 + 1, 3, none⟩ = some (.int .i64 F'') := hx1.has (by first | fail | (simp [go_sem, World.cell?_alloc_past]; done))
  have z1 := hx1.size
  try simp at z1
  have lt_c0_c1 : w.heap.size < w.heap.size + 1 := by omega
  have ne_c0_c1 : ¬ w.heap.size = w.heap.size + 1 := by omega
  have lt_c0_c2 : w.heap.size < w.heap.size + 1 + 1 := by omega
  have ne_c0_c2 : ¬ w.heap.size = w.heap.size + 1 + 1 := by omega
  have ne_c1_c0 : ¬ w.heap.size + 1 = w.heap.size := by omega
  have lt_c1_c2 : w.heap.size + 1 < w.heap.size + 1 + 1 := by omega
  have ne_c1_c2 : ¬ w.heap.size + 1 = w.heap.size + 1 + 1 := by omega
  have ne_c2_c0 : ¬ w.heap.size + 1 + 1 = w.heap.size := by omega
  have ne_c2_c1 : ¬ w.heap.size + 1 + 1 = w.heap.size + 1 := by omega
  have rc0 : w.heap.size < w1.heap.size := by omega
  have rc0a : w.heap.size < w1.heap.size + 1 := by omega
  have rc0b : w.heap.size < w1.heap.size + 1 + 1 := by omega
  have rc0c : w.heap.size < w1.heap.size + 1 + 1 + 1 := by omega
  have rc0n : ¬ w.heap.size = w1.heap.size := by omega
  have rc1 : w.heap.size + 1 < w1.heap.size := by omega
  have rc1a : w.heap.size + 1 < w1.heap.size + 1 := by omega
  have rc1b : w.heap.size + 1 < w1.heap.size + 1 + 1 := by omega
  have rc1c : w.heap.size + 1 < w1.heap.size + 1 + 1 + 1 := by omega
  have rc1n : ¬ w.heap.size + 1 = w1.heap.size := by omega
  have rc2 : w.heap.size + 1 + 1 < w1.heap.size := by omega
  have rc2a : w.heap.size + 1 + 1 < w1.heap.size + 1 := by omega
  have rc2b : w.heap.size + 1 + 1 < w1.heap.size + 1 + 1 := by omega
  have rc2c : w.heap.size + 1 + 1 < w1.heap.size + 1 + 1 + 1 := by omega
  have rc2n : ¬ w.heap.size + 1 + 1 = w1.heap.size := by omega
  replace HS := Lib.hid (HS.out.ext (Ext.trans (by repeat (first | with_reducible exact Ext.refl _ | with_reducible refine Ext.drew ?_ | with_reducible refine Ext.drewN ?_ _ | with_reducible refine Ext.alloc ?_ _ | with_reducible refine Ext.setCell ?_ (by first | omega | (simp; done) | (simp; omega)) _)) hx1))
  have X1 : Hid (Ext w w1) := Lib.hid (Ext.trans (by repeat (first | with_reducible exact Ext.refl w | with_reducible refine Ext.drew ?_ | with_reducible refine Ext.drewN ?_ _ | with_reducible refine Ext.alloc ?_ _ | with_reducible refine Ext.setCell ?_ (by first | omega | (simp; done) | (simp; omega)) _)) hx1)
  clear hx1 z1
  go_wp2_with fail
  (with_reducible refine (CB.out _).mono ?_)
  rintro e w2 ⟨A1, c1, rfl, hn1, hs1, hx2⟩
  replace c0_0 : w2.cell? ⟨w.heap.size, 0, none⟩ = some (.int .i64 V) := hx2.has (by first | exact c0_0 | (simp [go_sem, World.cell?_alloc_past, c0_0, c0_1, c0_2, c0_3, c1_0, c1_1, c1_2, c1_3, c2_0, c2_1, c2_2, c2_3, ne_c0_c1, ne_c0_c2, ne_c1_c0, ne_c1_c2, ne_c2_c0, ne_c2_c1, rc0, rc0a, rc0b, rc0c, rc0n, rc1, rc1a, rc1b, rc1c, rc1n, rc2, rc2a, rc2b, rc2c, rc2n]; done))
  replace c0_1 : w2.cell? ⟨w.heap.size, 1, none⟩ = some (.int .i64 S) := hx2.has (by first | exact c0_1 | (simp [go_sem, World.cell?_alloc_past, c0_0, c0_1, c0_2, c0_3, c1_0, c1_1, c1_2, c1_3, c2_0, c2_1, c2_2, c2_3, ne_c0_c1, ne_c0_c2, ne_c1_c0, ne_c1_c2, ne_c2_c0, ne_c2_c1, rc0, rc0a, rc0b, rc0c, rc0n, rc1, rc1a, rc1b, rc1c, rc1n, rc2, rc2a, rc2b, rc2c, rc2n]; done))
  replace c0_2 : w2.cell? ⟨w.heap.size, 2, none⟩ = some (.int .i64 P) := hx2.has (by first | exact c0_2 | (simp [go_sem, World.cell?_alloc_past, c0_0, c0_1, c0_2, c0_3, c1_0, c1_1, c1_2, c1_3, c2_0, c2_1, c2_2, c2_3, ne_c0_c1, ne_c0_c2, ne_c1_c0, ne_c1_c2, ne_c2_c0, ne_c2_c1, rc0, rc0a, rc0b, rc0c, rc0n, rc1, rc1a, rc1b, rc1c, rc1n, rc2, rc2a, rc2b, rc2c, rc2n]; done))
  replace c0_3 : w2.cell? ⟨w.heap.size, 3, none⟩ = some (.int .i64 F) := hx2.has (by first | exact c0_3 | (simp [go_sem, World.cell?_alloc_past, c0_0, c0_1, c0_2, c0_3, c1_0, c1_1, c1_2, c1_3, c2_0, c2_1, c2_2, c2_3, ne_c0_c1, ne_c0_c2, ne_c1_c0, ne_c1_c2, ne_c2_c0, ne_c2_c1, rc0, rc0a, rc0b, rc0c, rc0n, rc1, rc1a, rc1b, rc1c, rc1n, rc2, rc2a, rc2b, rc2c, rc2n]; done))
  replace c1_0 : w2.cell? ⟨w.heap.size + 1, 0, none⟩ = some (.int .i64 V') := hx2.has (by first | exact c1_0 | (simp [go_sem, World.cell?_alloc_past, c0_0, c0_1, c0_2, c0_3, c1_0, c1_1, c1_2, c1_3, c2_0, c2_1, c2_2, c2_3, ne_c0_c1, ne_c0_c2, ne_c1_c0, ne_c1_c2, ne_c2_c0, ne_c2_c1, rc0, rc0a, rc0b, rc0c, rc0n, rc1, rc1a, rc1b, rc1c, rc1n, rc2, rc2a, rc2b, rc2c, rc2n]; done))
  replace c1_1 : w2.cell? ⟨w.heap.size + 1, 1, none⟩ = some (.int .i64 S') := hx2.has (by first | exact c1_1 | (simp [go_sem, World.cell?_alloc_past, c0_0, c0_1, c0_2, c0_3, c1_0, c1_1, c1_2, c1_3, c2_0, c2_1, c2_2, c2_3, ne_c0_c1, ne_c0_c2, ne_c1_c0, ne_c1_c2, ne_c2_c0, ne_c2_c1, rc0, rc0a, rc0b, rc0c, rc0n, rc1, rc1a, rc1b, rc1c, rc1n, rc2, rc2a, rc2b, rc2c, rc2n]; done))
  replace c1_2 : w2.cell? ⟨w.heap.size + 1, 2, none⟩ = some (.int .i64 P') := hx2.has (by first | exact c1_2 | (simp [go_sem, World.cell?_alloc_past, c0_0, c0_1, c0_2, c0_3, c1_0, c1_1, c1_2, c1_3, c2_0, c2_1, c2_2, c2_3, ne_c0_c1, ne_c0_c2, ne_c1_c0, ne_c1_c2, ne_c2_c0, ne_c2_c1, rc0, rc0a, rc0b, rc0c, rc0n, rc1, rc1a, rc1b, rc1c, rc1n, rc2, rc2a, rc2b, rc2c, rc2n]; done))
  replace c1_3 : w2.cell? ⟨w.heap.size + 1, 3, none⟩ = some (.int .i64 F') := hx2.has (by first | exact c1_3 | (simp [go_sem, World.cell?_alloc_past, c0_0, c0_1, c0_2, c0_3, c1_0, c1_1, c1_2, c1_3, c2_0, c2_1, c2_2, c2_3, ne_c0_c1, ne_c0_c2, ne_c1_c0, ne_c1_c2, ne_c2_c0, ne_c2_c1, rc0, rc0a, rc0b, rc0c, rc0n, rc1, rc1a, rc1b, rc1c, rc1n, rc2, rc2a, rc2b, rc2c, rc2n]; done))
  replace c2_0 : w2.cell? ⟨w.heap.size + 1 + 1, 0, none⟩ = some (.int .i64 V'') := hx2.has (by first | exact c2_0 | (simp [go_sem, World.cell?_alloc_past, c0_0, c0_1, c0_2, c0_3, c1_0, c1_1, c1_2, c1_3, c2_0, c2_1, c2_2, c2_3, ne_c0_c1, ne_c0_c2, ne_c1_c0, ne_c1_c2, ne_c2_c0, ne_c2_c1, rc0, rc0a, rc0b, rc0c, rc0n, rc1, rc1a, rc1b, rc1c, rc1n, rc2, rc2a, rc2b, rc2c, rc2n]; done))
  replace c2_1 : w2.cell? ⟨w.heap.size + 1 + 1, 1, none⟩ = some (.int .i64 S'') := hx2.has (by first | exact c2_1 | (simp [go_sem, World.cell?_alloc_past, c0_0, c0_1, c0_2, c0_3, c1_0, c1_1, c1_2, c1_3, c2_0, c2_1, c2_2, c2_3, ne_c0_c1, ne_c0_c2, ne_c1_c0, ne_c1_c2, ne_c2_c0, ne_c2_c1, rc0, rc0a, rc0b, rc0c, rc0n, rc1, rc1a, rc1b, rc1c, rc1n, rc2, rc2a, rc2b, rc2c, rc2n]; done))
  replace c2_2 : w2.cell? ⟨w.heap.size + 1 + 1, 2, none⟩ = some (.int .i64 P'') := hx2.has (by first | exact c2_2 | (simp [go_sem, World.cell?_alloc_past, c0_0, c0_1, c0_2, c0_3, c1_0, c1_1, c1_2, c1_3, c2_0, c2_1, c2_2, c2_3, ne_c0_c1, ne_c0_c2, ne_c1_c0, ne_c1_c2, ne_c2_c0, ne_c2_c1, rc0, rc0a, rc0b, rc0c, rc0n, rc1, rc1a, rc1b, rc1c, rc1n, rc2, rc2a, rc2b, rc2c, rc2n]; done))
  replace c2_3 : w2.cell? ⟨w.heap.size + 1 + 1, 3, none⟩ = some (.int .i64 F'') := hx2.has (by first | exact c2_3 | (simp [go_sem, World.cell?_alloc_past, c0_0, c0_1, c0_2, c0_3, c1_0, c1_1, c1_2, c1_3, c2_0, c2_1, c2_2, c2_3, ne_c0_c1, ne_c0_c2, ne_c1_c0, ne_c1_c2, ne_c2_c0, ne_c2_c1, rc0, rc0a, rc0b, rc0c, rc0n, rc1, rc1a, rc1b, rc1c, rc1n, rc2, rc2a, rc2b, rc2c, rc2n]; done))
  have z2 := hx2.size
  try simp at z2
  replace rc0 : w.heap.size < w2.heap.size := by omega
  replace rc0a : w.heap.size < w2.heap.size + 1 := by omega
  replace rc0b : w.heap.size < w2.heap.size + 1 + 1 := by omega
  replace rc0c : w.heap.size < w2.heap.size + 1 + 1 + 1 := by omega
  replace rc0n : ¬ w.heap.size = w2.heap.size := by omega
  replace rc1 : w.heap.size + 1 < w2.heap.size := by omega
  replace rc1a : w.heap.size + 1 < w2.heap.size + 1 := by omega
  replace rc1b : w.heap.size + 1 < w2.heap.size + 1 + 1 := by omega
  replace rc1c : w.heap.size + 1 < w2.heap.size + 1 + 1 + 1 := by omega
  replace rc1n : ¬ w.heap.size + 1 = w2.heap.size := by omega
  replace rc2 : w.heap.size + 1 + 1 < w2.heap.size := by omega
  replace rc2a : w.heap.size + 1 + 1 < w2.heap.size + 1 := by omega
  replace rc2b : w.heap.size + 1 + 1 < w2.heap.size + 1 + 1 := by omega
  replace rc2c : w.heap.size + 1 + 1 < w2.heap.size + 1 + 1 + 1 := by omega
  replace rc2n : ¬ w.heap.size + 1 + 1 = w2.heap.size := by omega
  replace HS := Lib.hid (HS.out.ext (Ext.trans (by repeat (first | with_reducible exact Ext.refl _ | with_reducible refine Ext.drew ?_ | with_reducible refine Ext.drewN ?_ _ | with_reducible refine Ext.alloc ?_ _ | with_reducible refine Ext.setCell ?_ (by first | omega | (simp; done) | (simp; omega)) _)) hx2))
  have X2 : Hid (Ext w w2) := Lib.hid (Ext.trans (by repeat (first | with_reducible exact X1.out | with_reducible refine Ext.drew ?_ | with_reducible refine Ext.drewN ?_ _ | with_reducible refine Ext.alloc ?_ _ | with_reducible refine Ext.setCell ?_ (by first | omega | (simp; done) | (simp; omega)) _)) hx2)
  have HB := Lib.hid hs1
  clear X1 hx2 z2 hs1
  have HN1 := Lib.hid hn1
  clear hn1
  go_upto_if 28 with (fail)
  go_cut [8] (fun q wc => SB3 w wc V S P F V' S' P' F' V'' S'' P'' F'' q)
  case first =>
    by_cases hE : E = 0
    · subst hE
      have CRx := HCR.out rfl
      go_wp2_with fail
      (with_reducible refine (CRx.out _ _ _ HN1.out (HB.out.ext (by repeat (first | with_reducible exact Ext.refl _ | with_reducible refine Ext.drew ?_ | with_reducible refine Ext.drewN ?_ _ | with_reducible refine Ext.alloc ?_ _ | with_reducible refine Ext.setCell ?_ (by first | omega | (simp; done) | (simp; omega)) _)))).mono ?_)
      rintro e w3 ⟨rfl, hx3⟩
      replace c0_0 : w3.cell? ⟨w.heap.size, 0, none⟩ = some (.int .i64 V) := hx3.has (by first | exact c0_0 | (simp [go_sem, World.cell?_alloc_past, c0_0, c0_1, c0_2, c0_3, c1_0, c1_1, c1_2, c1_3, c2_0, c2_1, c2_2, c2_3, ne_c0_c1, ne_c0_c2, ne_c1_c0, ne_c1_c2, ne_c2_c0, ne_c2_c1, rc0, rc0a, rc0b, rc0c, rc0n, rc1, rc1a, rc1b, rc1c, rc1n, rc2, rc2a, rc2b, rc2c, rc2n]; done))
      replace c0_1 : w3.cell? ⟨w.heap.size, 1, none⟩ = some (.int .i64 S) := hx3.has (by first | exact c0_1 | (simp [go_sem, World.cell?_alloc_past, c0_0, c0_1, c0_2, c0_3, c1_0, c1_1, c1_2, c1_3, c2_0, c2_1, c2_2, c2_3, ne_c0_c1, ne_c0_c2, ne_c1_c0, ne_c1_c2, ne_c2_c0, ne_c2_c1, rc0, rc0a, rc0b, rc0c, rc0n, rc1, rc1a, rc1b, rc1c, rc1n, rc2, rc2a, rc2b, rc2c, rc2n]; done))
      replace c0_2 : w3.cell? ⟨w.heap.size, 2, none⟩ = some (.int .i64 P) := hx3.has (by first | exact c0_2 | (simp [go_sem, World.cell?_alloc_past, c0_0, c0_1, c0_2, c0_3, c1_0, c1_1, c1_2, c1_3, c2_0, c2_1, c2_2, c2_3, ne_c0_c1, ne_c0_c2, ne_c1_c0, ne_c1_c2, ne_c2_c0, ne_c2_c1, rc0, rc0a, rc0b, rc0c, rc0n, rc1, rc1a, rc1b, rc1c, rc1n, rc2, rc2a, rc2b, rc2c, rc2n]; done))
      replace c0_3 : w3.cell? ⟨w.heap.size, 3, none⟩ = some (.int .i64 F) := hx3.has (by first | exact c0_3 | (simp [go_sem, World.cell?_alloc_past, c0_0, c0_1, c0_2, c0_3, c1_0, c1_1, c1_2, c1_3, c2_0, c2_1, c2_2, c2_3, ne_c0_c1, ne_c0_c2, ne_c1_c0, ne_c1_c2, ne_c2_c0, ne_c2_c1, rc0, rc0a, rc0b, rc0c, rc0n, rc1, rc1a, rc1b, rc1c, rc1n, rc2, rc2a, rc2b, rc2c, rc2n]; done))
      replace c1_0 : w3.cell? ⟨w.heap.size + 1, 0, none⟩ = some (.int .i64 V') := hx3.has (by first | exact c1_0 | (simp [go_sem, World.cell?_alloc_past, c0_0, c0_1, c0_2, c0_3, c1_0, c1_1, c1_2, c1_3, c2_0, c2_1, c2_2, c2_3, ne_c0_c1, ne_c0_c2, ne_c1_c0, ne_c1_c2, ne_c2_c0, ne_c2_c1, rc0, rc0a, rc0b, rc0c, rc0n, rc1, rc1a, rc1b, rc1c, rc1n, rc2, rc2a, rc2b, rc2c, rc2n]; done))
      replace c1_1 : w3.cell? ⟨w.heap.size + 1, 1, none⟩ = some (.int .i64 S') := hx3.has (by first | exact c1_1 | (simp [go_sem, World.cell?_alloc_past, c0_0, c0_1, c0_2, c0_3, c1_0, c1_1, c1_2, c1_3, c2_0, c2_1, c2_2, c2_3, ne_c0_c1, ne_c0_c2, ne_c1_c0, ne_c1_c2, ne_c2_c0, ne_c2_c1, rc0, rc0a, rc0b, rc0c, rc0n, rc1, rc1a, rc1b, rc1c, rc1n, rc2, rc2a, rc2b, rc2c, rc2n]; done))
      replace c1_2 : w3.cell? ⟨w.heap.size + 1, 2, none⟩ = some (.int .i64 P') := hx3.has (by first | exact c1_2 | (simp [go_sem, World.cell?_alloc_past, c0_0, c0_1, c0_2, c0_3, c1_0, c1_1, c1_2, c1_3, c2_0, c2_1, c2_2, c2_3, ne_c0_c1, ne_c0_c2, ne_c1_c0, ne_c1_c2, ne_c2_c0, ne_c2_c1, rc0, rc0a, rc0b, rc0c, rc0n, rc1, rc1a, rc1b, rc1c, rc1n, rc2, rc2a, rc2b, rc2c, rc2n]; done))
      replace c1_3 : w3.cell? ⟨w.heap.size + 1, 3, none⟩ = some (.int .i64 F') := hx3.has (by first | exact c1_3 | (simp [go_sem, World.cell?_alloc_past, c0_0, c0_1, c0_2, c0_3, c1_0, c1_1, c1_2, c1_3, c2_0, c2_1, c2_2, c2_3, ne_c0_c1, ne_c0_c2, ne_c1_c0, ne_c1_c2, ne_c2_c0, ne_c2_c1, rc0, rc0a, rc0b, rc0c, rc0n, rc1, rc1a, rc1b, rc1c, rc1n, rc2, rc2a, rc2b, rc2c, rc2n]; done))
      replace c2_0 : w3.cell? ⟨w.heap.size + 1 + 1, 0, none⟩ = some (.int .i64 V'') := hx3.has (by first | exact c2_0 | (simp [go_sem, World.cell?_alloc_past, c0_0, c0_1, c0_2, c0_3, c1_0, c1_1, c1_2, c1_3, c2_0, c2_1, c2_2, c2_3, ne_c0_c1, ne_c0_c2, ne_c1_c0, ne_c1_c2, ne_c2_c0, ne_c2_c1, rc0, rc0a, rc0b, rc0c, rc0n, rc1, rc1a, rc1b, rc1c, rc1n, rc2, rc2a, rc2b, rc2c, rc2n]; done))
      replace c2_1 : w3.cell? ⟨w.heap.size + 1 + 1, 1, none⟩ = some (.int .i64 S'') := hx3.has (by first | exact c2_1 | (simp [go_sem, World.cell?_alloc_past, c0_0, c0_1, c0_2, c0_3, c1_0, c1_1, c1_2, c1_3, c2_0, c2_1, c2_2, c2_3, ne_c0_c1, ne_c0_c2, ne_c1_c0, ne_c1_c2, ne_c2_c0, ne_c2_c1, rc0, rc0a, rc0b, rc0c, rc0n, rc1, rc1a, rc1b, rc1c, rc1n, rc2, rc2a, rc2b, rc2c, rc2n]; done))
      replace c2_2 : w3.cell? ⟨w.heap.size + 1 + 1, 2, none⟩ = some (.int .i64 P'') := hx3.has (by first | exact c2_2 | (simp [go_sem, World.cell?_alloc_past, c0_0, c0_1, c0_2, c0_3, c1_0, c1_1, c1_2, c1_3, c2_0, c2_1, c2_2, c2_3, ne_c0_c1, ne_c0_c2, ne_c1_c0, ne_c1_c2, ne_c2_c0, ne_c2_c1, rc0, rc0a, rc0b, rc0c, rc0n, rc1, rc1a, rc1b, rc1c, rc1n, rc2, rc2a, rc2b, rc2c, rc2n]; done))
      replace c2_3 : w3.cell? ⟨w.heap.size + 1 + 1, 3, none⟩ = some (.int .i64 F'') := hx3.has (by first | exact c2_3 | (simp [go_sem, World.cell?_alloc_past, c0_0, c0_1, c0_2, c0_3, c1_0, c1_1, c1_2, c1_3, c2_0, c2_1, c2_2, c2_3, ne_c0_c1, ne_c0_c2, ne_c1_c0, ne_c1_c2, ne_c2_c0, ne_c2_c1, rc0, rc0a, rc0b, rc0c, rc0n, rc1, rc1a, rc1b, rc1c, rc1n, rc2, rc2a, rc2b, rc2c, rc2n]; done))
      have z3 := hx3.size
      try simp at z3
      replace rc0 : w.heap.size < w3.heap.size := by omega
      replace rc0a : w.heap.size < w3.heap.size + 1 := by omega
      replace rc0b : w.heap.size < w3.heap.size + 1 + 1 := by omega
      replace rc0c : w.heap.size < w3.heap.size + 1 + 1 + 1 := by omega
      replace rc0n : ¬ w.heap.size = w3.heap.size := by omega
      replace rc1 : w.heap.size + 1 < w3.heap.size := by omega
      replace rc1a : w.heap.size + 1 < w3.heap.size + 1 := by omega
      replace rc1b : w.heap.size + 1 < w3.heap.size + 1 + 1 := by omega
      replace rc1c : w.heap.size + 1 < w3.heap.size + 1 + 1 + 1 := by omega
      replace rc1n : ¬ w.heap.size + 1 = w3.heap.size := by omega
      replace rc2 : w.heap.size + 1 + 1 < w3.heap.size := by omega
      replace rc2a : w.heap.size + 1 + 1 < w3.heap.size + 1 := by omega
      replace rc2b : w.heap.size + 1 + 1 < w3.heap.size + 1 + 1 := by omega
      replace rc2c : w.heap.size + 1 + 1 < w3.heap.size + 1 + 1 + 1 := by omega
      replace rc2n : ¬ w.heap.size + 1 + 1 = w3.heap.size := by omega
      replace HS := Lib.hid (HS.out.ext (Ext.trans (by repeat (first | with_reducible exact Ext.refl _ | with_reducible refine Ext.drew ?_ | with_reducible refine Ext.drewN ?_ _ | with_reducible refine Ext.alloc ?_ _ | with_reducible refine Ext.setCell ?_ (by first | omega | (simp; done) | (simp; omega)) _)) hx3))
      replace HB := Lib.hid (HB.out.ext (Ext.trans (by repeat (first | with_reducible exact Ext.refl _ | with_reducible refine Ext.drew ?_ | with_reducible refine Ext.drewN ?_ _ | with_reducible refine Ext.alloc ?_ _ | with_reducible refine Ext.setCell ?_ (by first | omega | (simp; done) | (simp; omega)) _)) hx3))
      have X3 : Hid (Ext w w3) := Lib.hid (Ext.trans (by repeat (first | with_reducible exact X2.out | with_reducible refine Ext.drew ?_ | with_reducible refine Ext.drewN ?_ _ | with_reducible refine Ext.alloc ?_ _ | with_reducible refine Ext.setCell ?_ (by first | omega | (simp; done) | (simp; omega)) _)) hx3)
      clear X2 hx3 z3
      go_wp2_with fail
      (with_reducible refine (CK.out _).mono ?_)
      rintro e w4 ⟨rfl, hx4⟩
      replace c0_0 : w4.cell? ⟨w.heap.size, 0, none⟩ = some (.int .i64 V) := hx4.has (by first | exact c0_0 | (simp [go_sem, World.cell?_alloc_past, c0_0, c0_1, c0_2, c0_3, c1_0, c1_1, c1_2, c1_3, c2_0, c2_1, c2_2, c2_3, ne_c0_c1, ne_c0_c2, ne_c1_c0, ne_c1_c2, ne_c2_c0, ne_c2_c1, rc0, rc0a, rc0b, rc0c, rc0n, rc1, rc1a, rc1b, rc1c, rc1n, rc2, rc2a, rc2b, rc2c, rc2n]; done))
      replace c0_1 : w4.cell? ⟨w.heap.size, 1, none⟩ = some (.int .i64 S) := hx4.has (by first | exact c0_1 | (simp [go_sem, World.cell?_alloc_past, c0_0, c0_1, c0_2, c0_3, c1_0, c1_1, c1_2, c1_3, c2_0, c2_1, c2_2, c2_3, ne_c0_c1, ne_c0_c2, ne_c1_c0, ne_c1_c2, ne_c2_c0, ne_c2_c1, rc0, rc0a, rc0b, rc0c, rc0n, rc1, rc1a, rc1b, rc1c, rc1n, rc2, rc2a, rc2b, rc2c, rc2n]; done))
      replace c0_2 : w4.cell? ⟨w.heap.size, 2, none⟩ = some (.int .i64 P) := hx4.has (by first | exact c0_2 | (simp [go_sem, World.cell?_alloc_past, c0_0, c0_1, c0_2, c0_3, c1_0, c1_1, c1_2, c1_3, c2_0, c2_1, c2_2, c2_3, ne_c0_c1, ne_c0_c2, ne_c1_c0, ne_c1_c2, ne_c2_c0, ne_c2_c1, rc0, rc0a, rc0b, rc0c, rc0n, rc1, rc1a, rc1b, rc1c, rc1n, rc2, rc2a, rc2b, rc2c, rc2n]; done))
      replace c0_3 : w4.cell? ⟨w.heap.size, 3, none⟩ = some (.int .i64 F) := hx4.has (by first | exact c0_3 | (simp [go_sem, World.cell?_alloc_past, c0_0, c0_1, c0_2, c0_3, c1_0, c1_1, c1_2, c1_3, c2_0, c2_1, c2_2, c2_3, ne_c0_c1, ne_c0_c2, ne_c1_c0, ne_c1_c2, ne_c2_c0, ne_c2_c1, rc0, rc0a, rc0b, rc0c, rc0n, rc1, rc1a, rc1b, rc1c, rc1n, rc2, rc2a, rc2b, rc2c, rc2n]; done))
      replace c1_0 : w4.cell? ⟨w.heap.size + 1, 0, none⟩ = some (.int .i64 V') := hx4.has (by first | exact c1_0 | (simp [go_sem, World.cell?_alloc_past, c0_0, c0_1, c0_2, c0_3, c1_0, c1_1, c1_2, c1_3, c2_0, c2_1, c2_2, c2_3, ne_c0_c1, ne_c0_c2, ne_c1_c0, ne_c1_c2, ne_c2_c0, ne_c2_c1, rc0, rc0a, rc0b, rc0c, rc0n, rc1, rc1a, rc1b, rc1c, rc1n, rc2, rc2a, rc2b, rc2c, rc2n]; done))
      replace c1_1 : w4.cell? ⟨w.heap.size + 1, 1, none⟩ = some (.int .i64 S') := hx4.has (by first | exact c1_1 | (simp [go_sem, World.cell?_alloc_past, c0_0, c0_1, c0_2, c0_3, c1_0, c1_1, c1_2, c1_3, c2_0, c2_1, c2_2, c2_3, ne_c0_c1, ne_c0_c2, ne_c1_c0, ne_c1_c2, ne_c2_c0, ne_c2_c1, rc0, rc0a, rc0b, rc0c, rc0n, rc1, rc1a, rc1b, rc1c, rc1n, rc2, rc2a, rc2b, rc2c, rc2n]; done))
      replace c1_2 : w4.cell? ⟨w.heap.size + 1, 2, none⟩ = some (.int .i64 P') := hx4.has (by first | exact c1_2 | (simp [go_sem, World.cell?_alloc_past, c0_0, c0_1, c0_2, c0_3, c1_0, c1_1, c1_2, c1_3, c2_0, c2_1, c2_2, c2_3, ne_c0_c1, ne_c0_c2, ne_c1_c0, ne_c1_c2, ne_c2_c0, ne_c2_c1, rc0, rc0a, rc0b, rc0c, rc0n, rc1, rc1a, rc1b, rc1c, rc1n, rc2, rc2a, rc2b, rc2c, rc2n]; done))
      replace c1_3 : w4.cell? ⟨w.heap.size + 1, 3, none⟩ = some (.int .i64 F') := hx4.has (by first | exact c1_3 | (simp [go_sem, World.cell?_alloc_past, c0_0, c0_1, c0_2, c0_3, c1_0, c1_1, c1_2, c1_3, c2_0, c2_1, c2_2, c2_3, ne_c0_c1, ne_c0_c2, ne_c1_c0, ne_c1_c2, ne_c2_c0, ne_c2_c1, rc0, rc0a, rc0b, rc0c, rc0n, rc1, rc1a, rc1b, rc1c, rc1n, rc2, rc2a, rc2b, rc2c, rc2n]; done))
      replace c2_0 : w4.cell? ⟨w.heap.size + 1 + 1, 0, none⟩ = some (.int .i64 V'') := hx4.has (by first | exact c2_0 | (simp [go_sem, World.cell?_alloc_past, c0_0, c0_1, c0_2, c0_3, c1_0, c1_1, c1_2, c1_3, c2_0, c2_1, c2_2, c2_3, ne_c0_c1, ne_c0_c2, ne_c1_c0, ne_c1_c2, ne_c2_c0, ne_c2_c1, rc0, rc0a, rc0b, rc0c, rc0n, rc1, rc1a, rc1b, rc1c, rc1n, rc2, rc2a, rc2b, rc2c, rc2n]; done))
      replace c2_1 : w4.cell? ⟨w.heap.size + 1 + 1, 1, none⟩ = some (.int .i64 S'') := hx4.has (by first | exact c2_1 | (simp [go_sem, World.cell?_alloc_past, c0_0, c0_1, c0_2, c0_3, c1_0, c1_1, c1_2, c1_3, c2_0, c2_1, c2_2, c2_3, ne_c0_c1, ne_c0_c2, ne_c1_c0, ne_c1_c2, ne_c2_c0, ne_c2_c1, rc0, rc0a, rc0b, rc0c, rc0n, rc1, rc1a, rc1b, rc1c, rc1n, rc2, rc2a, rc2b, rc2c, rc2n]; done))
      replace c2_2 : w4.cell? ⟨w.heap.size + 1 + 1, 2, none⟩ = some (.int .i64 P'') := hx4.has (by first | exact c2_2 | (simp [go_sem, World.cell?_alloc_past, c0_0, c0_1, c0_2, c0_3, c1_0, c1_1, c1_2, c1_3, c2_0, c2_1, c2_2, c2_3, ne_c0_c1, ne_c0_c2, ne_c1_c0, ne_c1_c2, ne_c2_c0, ne_c2_c1, rc0, rc0a, rc0b, rc0c, rc0n, rc1, rc1a, rc1b, rc1c, rc1n, rc2, rc2a, rc2b, rc2c, rc2n]; done))
      replace c2_3 : w4.cell? ⟨w.heap.size + 1 + 1, 3, none⟩ = some (.int .i64 F'') := hx4.has (by first | exact c2_3 | (simp [go_sem, World.cell?_alloc_past, c0_0, c0_1, c0_2, c0_3, c1_0, c1_1, c1_2, c1_3, c2_0, c2_1, c2_2, c2_3, ne_c0_c1, ne_c0_c2, ne_c1_c0, ne_c1_c2, ne_c2_c0, ne_c2_c1, rc0, rc0a, rc0b, rc0c, rc0n, rc1, rc1a, rc1b, rc1c, rc1n, rc2, rc2a, rc2b, rc2c, rc2n]; done))
      have z4 := hx4.size
      try simp at z4
      replace rc0 : w.heap.size < w4.heap.size := by omega
      replace rc0a : w.heap.size < w4.heap.size + 1 := by omega
      replace rc0b : w.heap.size < w4.heap.size + 1 + 1 := by omega
      replace rc0c : w.heap.size < w4.heap.size + 1 + 1 + 1 := by omega
      replace rc0n : ¬ w.heap.size = w4.heap.size := by omega
      replace rc1 : w.heap.size + 1 < w4.heap.size := by omega
      replace rc1a : w.heap.size + 1 < w4.heap.size + 1 := by omega
      replace rc1b : w.heap.size + 1 < w4.heap.size + 1 + 1 := by omega
      replace rc1c : w.heap.size + 1 < w4.heap.size + 1 + 1 + 1 := by omega
      replace rc1n : ¬ w.heap.size + 1 = w4.heap.size := by omega
      replace rc2 : w.heap.size + 1 + 1 < w4.heap.size := by omega
      replace rc2a : w.heap.size + 1 + 1 < w4.heap.size + 1 := by omega
      replace rc2b : w.heap.size + 1 + 1 < w4.heap.size + 1 + 1 := by omega
      replace rc2c : w.heap.size + 1 + 1 < w4.heap.size + 1 + 1 + 1 := by omega
      replace rc2n : ¬ w.heap.size + 1 + 1 = w4.heap.size := by omega
      replace HS := Lib.hid (HS.out.ext (Ext.trans (by repeat (first | with_reducible exact Ext.refl _ | with_reducible refine Ext.drew ?_ | with_reducible refine Ext.drewN ?_ _ | with_reducible refine Ext.alloc ?_ _ | with_reducible refine Ext.setCell ?_ (by first | omega | (simp; done) | (simp; omega)) _)) hx4))
      replace HB := Lib.hid (HB.out.ext (Ext.trans (by repeat (first | with_reducible exact Ext.refl _ | with_reducible refine Ext.drew ?_ | with_reducible refine Ext.drewN ?_ _ | with_reducible refine Ext.alloc ?_ _ | with_reducible refine Ext.setCell ?_ (by first | omega | (simp; done) | (simp; omega)) _)) hx4))
      have X4 : Hid (Ext w w4) := Lib.hid (Ext.trans (by repeat (first | with_reducible exact X3.out | with_reducible refine Ext.drew ?_ | with_reducible refine Ext.drewN ?_ _ | with_reducible refine Ext.alloc ?_ _ | with_reducible refine Ext.setCell ?_ (by first | omega | (simp; done) | (simp; omega)) _)) hx4)
      clear X3 hx4 z4
      go_wp2_with fail
      go_meet
      exact ⟨rfl, (by first | exact c0_0 | (simp [go_sem, World.cell?_alloc_past, c0_0, c0_1, c0_2, c0_3, c1_0, c1_1, c1_2, c1_3, c2_0, c2_1, c2_2, c2_3, ne_c0_c1, ne_c0_c2, ne_c1_c0, ne_c1_c2, ne_c2_c0, ne_c2_c1, rc0, rc0a, rc0b, rc0c, rc0n, rc1, rc1a, rc1b, rc1c, rc1n, rc2, rc2a, rc2b, rc2c, rc2n]; done)), (by first | exact c0_1 | (simp [go_sem, World.cell?_alloc_past, c0_0, c0_1, c0_2, c0_3, c1_0, c1_1, c1_2, c1_3, c2_0, c2_1, c2_2, c2_3, ne_c0_c1, ne_c0_c2, ne_c1_c0, ne_c1_c2, ne_c2_c0, ne_c2_c1, rc0, rc0a, rc0b, rc0c, rc0n, rc1, rc1a, rc1b, rc1c, rc1n, rc2, rc2a, rc2b, rc2c, rc2n]; done)), (by first | exact c0_2 | (simp [go_sem, World.cell?_alloc_past, c0_0, c0_1, c0_2, c0_3, c1_0, c1_1, c1_2, c1_3, c2_0, c2_1, c2_2, c2_3, ne_c0_c1, ne_c0_c2, ne_c1_c0, ne_c1_c2, ne_c2_c0, ne_c2_c1, rc0, rc0a, rc0b, rc0c, rc0n, rc1, rc1a, rc1b, rc1c, rc1n, rc2, rc2a, rc2b, rc2c, rc2n]; done)), (by first | exact c0_3 | (simp [go_sem, World.cell?_alloc_past, c0_0, c0_1, c0_2, c0_3, c1_0, c1_1, c1_2, c1_3, c2_0, c2_1, c2_2, c2_3, ne_c0_c1, ne_c0_c2, ne_c1_c0, ne_c1_c2, ne_c2_c0, ne_c2_c1, rc0, rc0a, rc0b, rc0c, rc0n, rc1, rc1a, rc1b, rc1c, rc1n, rc2, rc2a, rc2b, rc2c, rc2n]; done)), (by first | exact c1_0 | (simp [go_sem, World.cell?_alloc_past, c0_0, c0_1, c0_2, c0_3, c1_0, c1_1, c1_2, c1_3, c2_0, c2_1, c2_2, c2_3, ne_c0_c1, ne_c0_c2, ne_c1_c0, ne_c1_c2, ne_c2_c0, ne_c2_c1, rc0, rc0a, rc0b, rc0c, rc0n, rc1, rc1a, rc1b, rc1c, rc1n, rc2, rc2a, rc2b, rc2c, rc2n]; done)), (by first | exact c1_1 | (simp [go_sem, World.cell?_alloc_past, c0_0, c0_1, c0_2, c0_3, c1_0, c1_1, c1_2, c1_3, c2_0, c2_1, c2_2, c2_3, ne_c0_c1, ne_c0_c2, ne_c1_c0, ne_c1_c2, ne_c2_c0, ne_c2_c1, rc0, rc0a, rc0b, rc0c, rc0n, rc1, rc1a, rc1b, rc1c, rc1n, rc2, rc2a, rc2b, rc2c, rc2n]; done)), (by first | exact c1_2 | (simp [go_sem, World.cell?_alloc_past, c0_0, c0_1, c0_2, c0_3, c1_0, c1_1, c1_2, c1_3, c2_0, c2_1, c2_2, c2_3, ne_c0_c1, ne_c0_c2, ne_c1_c0, ne_c1_c2, ne_c2_c0, ne_c2_c1, rc0, rc0a, rc0b, rc0c, rc0n, rc1, rc1a, rc1b, rc1c, rc1n, rc2, rc2a, rc2b, rc2c, rc2n]; done)), (by first | exact c1_3 | (simp [go_sem, World.cell?_alloc_past, c0_0, c0_1, c0_2, c0_3, c1_0, c1_1, c1_2, c1_3, c2_0, c2_1, c2_2, c2_3, ne_c0_c1, ne_c0_c2, ne_c1_c0, ne_c1_c2, ne_c2_c0, ne_c2_c1, rc0, rc0a, rc0b, rc0c, rc0n, rc1, rc1a, rc1b, rc1c, rc1n, rc2, rc2a, rc2b, rc2c, rc2n]; done)), (by first | exact c2_0 | (simp [go_sem, World.cell?_alloc_past, c0_0, c0_1, c0_2, c0_3, c1_0, c1_1, c1_2, c1_3, c2_0, c2_1, c2_2, c2_3, ne_c0_c1, ne_c0_c2, ne_c1_c0, ne_c1_c2, ne_c2_c0, ne_c2_c1, rc0, rc0a, rc0b, rc0c, rc0n, rc1, rc1a, rc1b, rc1c, rc1n, rc2, rc2a, rc2b, rc2c, rc2n]; done)), (by first | exact c2_1 | (simp [go_sem, World.cell?_alloc_past, c0_0, c0_1, c0_2, c0_3, c1_0, c1_1, c1_2, c1_3, c2_0, c2_1, c2_2, c2_3, ne_c0_c1, ne_c0_c2, ne_c1_c0, ne_c1_c2, ne_c2_c0, ne_c2_c1, rc0, rc0a, rc0b, rc0c, rc0n, rc1, rc1a, rc1b, rc1c, rc1n, rc2, rc2a, rc2b, rc2c, rc2n]; done)), (by first | exact c2_2 | (simp [go_sem, World.cell?_alloc_past, c0_0, c0_1, c0_2, c0_3, c1_0, c1_1, c1_2, c1_3, c2_0, c2_1, c2_2, c2_3, ne_c0_c1, ne_c0_c2, ne_c1_c0, ne_c1_c2, ne_c2_c0, ne_c2_c1, rc0, rc0a, rc0b, rc0c, rc0n, rc1, rc1a, rc1b, rc1c, rc1n, rc2, rc2a, rc2b, rc2c, rc2n]; done)), (by first | exact c2_3 | (simp [go_sem, World.cell?_alloc_past, c0_0, c0_1, c0_2, c0_3, c1_0, c1_1, c1_2, c1_3, c2_0, c2_1, c2_2, c2_3, ne_c0_c1, ne_c0_c2, ne_c1_c0, ne_c1_c2, ne_c2_c0, ne_c2_c1, rc0, rc0a, rc0b, rc0c, rc0n, rc1, rc1a, rc1b, rc1c, rc1n, rc2, rc2a, rc2b, rc2c, rc2n]; done)), (by repeat (first | with_reducible exact X4.out | with_reducible refine Ext.drew ?_ | with_reducible refine Ext.drewN ?_ _ | with_reducible refine Ext.alloc ?_ _ | with_reducible refine Ext.setCell ?_ (by first | omega | (simp; done) | (simp; omega)) _)), by first | omega | (simp; omega)⟩
    · have hEb : (E == 0) = false := beq_false_of_ne hE
      clear hE
      go_wp2_with fail
      go_meet
      exact ⟨rfl, (by first | exact c0_0 | (simp [go_sem, World.cell?_alloc_past, c0_0, c0_1, c0_2, c0_3, c1_0, c1_1, c1_2, c1_3, c2_0, c2_1, c2_2, c2_3, ne_c0_c1, ne_c0_c2, ne_c1_c0, ne_c1_c2, ne_c2_c0, ne_c2_c1, rc0, rc0a, rc0b, rc0c, rc0n, rc1, rc1a, rc1b, rc1c, rc1n, rc2, rc2a, rc2b, rc2c, rc2n]; done)), (by first | exact c0_1 | (simp [go_sem, World.cell?_alloc_past, c0_0, c0_1, c0_2, c0_3, c1_0, c1_1, c1_2, c1_3, c2_0, c2_1, c2_2, c2_3, ne_c0_c1, ne_c0_c2, ne_c1_c0, ne_c1_c2, ne_c2_c0, ne_c2_c1, rc0, rc0a, rc0b, rc0c, rc0n, rc1, rc1a, rc1b, rc1c, rc1n, rc2, rc2a, rc2b, rc2c, rc2n]; done)), (by first | exact c0_2 | (simp [go_sem, World.cell?_alloc_past, c0_0, c0_1, c0_2, c0_3, c1_0, c1_1, c1_2, c1_3, c2_0, c2_1, c2_2, c2_3, ne_c0_c1, ne_c0_c2, ne_c1_c0, ne_c1_c2, ne_c2_c0, ne_c2_c1, rc0, rc0a, rc0b, rc0c, rc0n, rc1, rc1a, rc1b, rc1c, rc1n, rc2, rc2a, rc2b, rc2c, rc2n]; done)), (by first | exact c0_3 | (simp [go_sem, World.cell?_alloc_past, c0_0, c0_1, c0_2, c0_3, c1_0, c1_1, c1_2, c1_3, c2_0, c2_1, c2_2, c2_3, ne_c0_c1, ne_c0_c2, ne_c1_c0, ne_c1_c2, ne_c2_c0, ne_c2_c1, rc0, rc0a, rc0b, rc0c, rc0n, rc1, rc1a, rc1b, rc1c, rc1n, rc2, rc2a, rc2b, rc2c, rc2n]; done)), (by first | exact c1_0 | (simp [go_sem, World.cell?_alloc_past, c0_0, c0_1, c0_2, c0_3, c1_0, c1_1, c1_2, c1_3, c2_0, c2_1, c2_2, c2_3, ne_c0_c1, ne_c0_c2, ne_c1_c0, ne_c1_c2, ne_c2_c0, ne_c2_c1, rc0, rc0a, rc0b, rc0c, rc0n, rc1, rc1a, rc1b, rc1c, rc1n, rc2, rc2a, rc2b, rc2c, rc2n]; done)), (by first | exact c1_1 | (simp [go_sem, World.cell?_alloc_past, c0_0, c0_1, c0_2, c0_3, c1_0, c1_1, c1_2, c1_3, c2_0, c2_1, c2_2, c2_3, ne_c0_c1, ne_c0_c2, ne_c1_c0, ne_c1_c2, ne_c2_c0, ne_c2_c1, rc0, rc0a, rc0b, rc0c, rc0n, rc1, rc1a, rc1b, rc1c, rc1n, rc2, rc2a, rc2b, rc2c, rc2n]; done)), (by first | exact c1_2 | (simp [go_sem, World.cell?_alloc_past, c0_0, c0_1, c0_2, c0_3, c1_0, c1_1, c1_2, c1_3, c2_0, c2_1, c2_2, c2_3, ne_c0_c1, ne_c0_c2, ne_c1_c0, ne_c1_c2, ne_c2_c0, ne_c2_c1, rc0, rc0a, rc0b, rc0c, rc0n, rc1, rc1a, rc1b, rc1c, rc1n, rc2, rc2a, rc2b, rc2c, rc2n]; done)), (by first | exact c1_3 | (simp [go_sem, World.cell?_alloc_past, c0_0, c0_1, c0_2, c0_3, c1_0, c1_1, c1_2, c1_3, c2_0, c2_1, c2_2, c2_3, ne_c0_c1, ne_c0_c2, ne_c1_c0, ne_c1_c2, ne_c2_c0, ne_c2_c1, rc0, rc0a, rc0b, rc0c, rc0n, rc1, rc1a, rc1b, rc1c, rc1n, rc2, rc2a, rc2b, rc2c, rc2n]; done)), (by first | exact c2_0 | (simp [go_sem, World.cell?_alloc_past, c0_0, c0_1, c0_2, c0_3, c1_0, c1_1, c1_2, c1_3, c2_0, c2_1, c2_2, c2_3, ne_c0_c1, ne_c0_c2, ne_c1_c0, ne_c1_c2, ne_c2_c0, ne_c2_c1, rc0, rc0a, rc0b, rc0c, rc0n, rc1, rc1a, rc1b, rc1c, rc1n, rc2, rc2a, rc2b, rc2c, rc2n]; done)), (by first | exact c2_1 | (simp [go_sem, World.cell?_alloc_past, c0_0, c0_1, c0_2, c0_3, c1_0, c1_1, c1_2, c1_3, c2_0, c2_1, c2_2, c2_3, ne_c0_c1, ne_c0_c2, ne_c1_c0, ne_c1_c2, ne_c2_c0, ne_c2_c1, rc0, rc0a, rc0b, rc0c, rc0n, rc1, rc1a, rc1b, rc1c, rc1n, rc2, rc2a, rc2b, rc2c, rc2n]; done)), (by first | exact c2_2 | (simp [go_sem, World.cell?_alloc_past, c0_0, c0_1, c0_2, c0_3, c1_0, c1_1, c1_2, c1_3, c2_0, c2_1, c2_2, c2_3, ne_c0_c1, ne_c0_c2, ne_c1_c0, ne_c1_c2, ne_c2_c0, ne_c2_c1, rc0, rc0a, rc0b, rc0c, rc0n, rc1, rc1a, rc1b, rc1c, rc1n, rc2, rc2a, rc2b, rc2c, rc2n]; done)), (by first | exact c2_3 | (simp [go_sem, World.cell?_alloc_past, c0_0, c0_1, c0_2, c0_3, c1_0, c1_1, c1_2, c1_3, c2_0, c2_1, c2_2, c2_3, ne_c0_c1, ne_c0_c2, ne_c1_c0, ne_c1_c2, ne_c2_c0, ne_c2_c1, rc0, rc0a, rc0b, rc0c, rc0n, rc1, rc1a, rc1b, rc1c, rc1n, rc2, rc2a, rc2b, rc2c, rc2n]; done)), (by repeat (first | with_reducible exact X2.out | with_reducible refine Ext.drew ?_ | with_reducible refine Ext.drewN ?_ _ | with_reducible refine Ext.alloc ?_ _ | with_reducible refine Ext.setCell ?_ (by first | omega | (simp; done) | (simp; omega)) _)), by first | omega | (simp; omega)⟩
  case rest =>
    clear CB HCR CK HS X2 HB HN1 c0_0 c0_1 c0_2 c0_3 c1_0 c1_1 c1_2 c1_3 c2_0 c2_1 c2_2 c2_3 rc0 rc0a rc0b rc0c rc0n rc1 rc1a rc1b rc1c rc1n rc2 rc2a rc2b rc2c rc2n
    obtain ⟨rfl, d0_0, d0_1, d0_2, d0_3, d1_0, d1_1, d1_2, d1_3, d2_0, d2_1, d2_2, d2_3, X, zc⟩ := hcut
    have XC := Lib.hid X
    replace HS := Lib.hid (HS0.out.ext X)
    clear X
    have rd0 : w.heap.size < wc.heap.size := by omega
    have rd0a : w.heap.size < wc.heap.size + 1 := by omega
    have rd0b : w.heap.size < wc.heap.size + 1 + 1 := by omega
    have rd0c : w.heap.size < wc.heap.size + 1 + 1 + 1 := by omega
    have rd1 : w.heap.size + 1 < wc.heap.size := by omega
    have rd1a : w.heap.size + 1 < wc.heap.size + 1 := by omega
    have rd1b : w.heap.size + 1 < wc.heap.size + 1 + 1 := by omega
    have rd1c : w.heap.size + 1 < wc.heap.size + 1 + 1 + 1 := by omega
    have rd2 : w.heap.size + 1 + 1 < wc.heap.size := by omega
    have rd2a : w.heap.size + 1 + 1 < wc.heap.size + 1 := by omega
    have rd2b : w.heap.size + 1 + 1 < wc.heap.size + 1 + 1 := by omega
    have rd2c : w.heap.size + 1 + 1 < wc.heap.size + 1 + 1 + 1 := by omega
    have rd0n : ¬ w.heap.size = wc.heap.size := by omega
    have rd1n : ¬ w.heap.size + 1 = wc.heap.size := by omega
    have rd2n : ¬ w.heap.size + 1 + 1 = wc.heap.size := by omega
    go_upto_if 49 with (fail)
    go_cut [8] (fun q wc => SB3 w wc V S P F V' S' P' F' V'' S'' P'' F'' q)
    case first =>
      by_cases hn : (M.length : Int) ≤ 100
      · have CR2 := HCR2.out (by omega)
        clear HCR2
        by_cases he : e2 = 0
        · subst he
          obtain rfl := Hhe2.out rfl
          have CB2 := HCB2.out rfl
          go_wp2_with fail
          (with_reducible refine (CR2.out _ (HS.out.ext (by repeat (first | with_reducible exact Ext.refl _ | with_reducible refine Ext.drew ?_ | with_reducible refine Ext.drewN ?_ _ | with_reducible refine Ext.alloc ?_ _ | with_reducible refine Ext.setCell ?_ (by first | omega | (simp; done) | (simp; omega)) _)))).mono ?_)
          rintro e w21 ⟨rfl, hx21⟩
          replace d0_0 : w21.cell? ⟨w.heap.size, 0, none⟩ = some (.int .i64 V) := hx21.has (by first | exact d0_0 | (simp [go_sem, World.cell?_alloc_past, d0_0, d0_1, d0_2, d0_3, rd0, rd0a, rd0b, rd0c, rd0n, d1_0, d1_1, d1_2, d1_3, rd1, rd1a, rd1b, rd1c, rd1n, d2_0, d2_1, d2_2, d2_3, rd2, rd2a, rd2b, rd2c, rd2n]; done))
          replace d0_1 : w21.cell? ⟨w.heap.size, 1, none⟩ = some (.int .i64 S) := hx21.has (by first | exact d0_1 | (simp [go_sem, World.cell?_alloc_past, d0_0, d0_1, d0_2, d0_3, rd0, rd0a, rd0b, rd0c, rd0n, d1_0, d1_1, d1_2, d1_3, rd1, rd1a, rd1b, rd1c, rd1n, d2_0, d2_1, d2_2, d2_3, rd2, rd2a, rd2b, rd2c, rd2n]; done))
          replace d0_2 : w21.cell? ⟨w.heap.size, 2, none⟩ = some (.int .i64 P) := hx21.has (by first | exact d0_2 | (simp [go_sem, World.cell?_alloc_past, d0_0, d0_1, d0_2, d0_3, rd0, rd0a, rd0b, rd0c, rd0n, d1_0, d1_1, d1_2, d1_3, rd1, rd1a, rd1b, rd1c, rd1n, d2_0, d2_1, d2_2, d2_3, rd2, rd2a, rd2b, rd2c, rd2n]; done))
          replace d0_3 : w21.cell? ⟨w.heap.size, 3, none⟩ = some (.int .i64 F) := hx21.has (by first | exact d0_3 | (simp [go_sem, World.cell?_alloc_past, d0_0, d0_1, d0_2, d0_3, rd0, rd0a, rd0b, rd0c, rd0n, d1_0, d1_1, d1_2, d1_3, rd1, rd1a, rd1b, rd1c, rd1n, d2_0, d2_1, d2_2, d2_3, rd2, rd2a, rd2b, rd2c, rd2n]; done))
          replace d1_0 : w21.cell? ⟨w.heap.size + 1, 0, none⟩ = some (.int .i64 V') := hx21.has (by first | exact d1_0 | (simp [go_sem, World.cell?_alloc_past, d0_0, d0_1, d0_2, d0_3, rd0, rd0a, rd0b, rd0c, rd0n, d1_0, d1_1, d1_2, d1_3, rd1, rd1a, rd1b, rd1c, rd1n, d2_0, d2_1, d2_2, d2_3, rd2, rd2a, rd2b, rd2c, rd2n]; done))
          replace d1_1 : w21.cell? ⟨w.heap.size + 1, 1, none⟩ = some (.int .i64 S') := hx21.has (by first | exact d1_1 | (simp [go_sem, World.cell?_alloc_past, d0_0, d0_1, d0_2, d0_3, rd0, rd0a, rd0b, rd0c, rd0n, d1_0, d1_1, d1_2, d1_3, rd1, rd1a, rd1b, rd1c, rd1n, d2_0, d2_1, d2_2, d2_3, rd2, rd2a, rd2b, rd2c, rd2n]; done))
          replace d1_2 : w21.cell? ⟨w.heap.size + 1, 2, none⟩ = some (.int .i64 P') := hx21.has (by first | exact d1_2 | (simp [go_sem, World.cell?_alloc_past, d0_0, d0_1, d0_2, d0_3, rd0, rd0a, rd0b, rd0c, rd0n, d1_0, d1_1, d1_2, d1_3, rd1, rd1a, rd1b, rd1c, rd1n, d2_0, d2_1, d2_2, d2_3, rd2, rd2a, rd2b, rd2c, rd2n]; done))
          replace d1_3 : w21.cell? ⟨w.heap.size + 1, 3, none⟩ = some (.int .i64 F') := hx21.has (by first | exact d1_3 | (simp [go_sem, World.cell?_alloc_past, d0_0, d0_1, d0_2, d0_3, rd0, rd0a, rd0b, rd0c, rd0n, d1_0, d1_1, d1_2, d1_3, rd1, rd1a, rd1b, rd1c, rd1n, d2_0, d2_1, d2_2, d2_3, rd2, rd2a, rd2b, rd2c, rd2n]; done))
          replace d2_0 : w21.cell? ⟨w.heap.size + 1 + 1, 0, none⟩ = some (.int .i64 V'') := hx21.has (by first | exact d2_0 | (simp [go_sem, World.cell?_alloc_past, d0_0, d0_1, d0_2, d0_3, rd0, rd0a, rd0b, rd0c, rd0n, d1_0, d1_1, d1_2, d1_3, rd1, rd1a, rd1b, rd1c, rd1n, d2_0, d2_1, d2_2, d2_3, rd2, rd2a, rd2b, rd2c, rd2n]; done))
          replace d2_1 : w21.cell? ⟨w.heap.size + 1 + 1, 1, none⟩ = some (.int .i64 S'') := hx21.has (by first | exact d2_1 | (simp [go_sem, World.cell?_alloc_past, d0_0, d0_1, d0_2, d0_3, rd0, rd0a, rd0b, rd0c, rd0n, d1_0, d1_1, d1_2, d1_3, rd1, rd1a, rd1b, rd1c, rd1n, d2_0, d2_1, d2_2, d2_3, rd2, rd2a, rd2b, rd2c, rd2n]; done))
          replace d2_2 : w21.cell? ⟨w.heap.size + 1 + 1, 2, none⟩ = some (.int .i64 P'') := hx21.has (by first | exact d2_2 | (simp [go_sem, World.cell?_alloc_past, d0_0, d0_1, d0_2, d0_3, rd0, rd0a, rd0b, rd0c, rd0n, d1_0, d1_1, d1_2, d1_3, rd1, rd1a, rd1b, rd1c, rd1n, d2_0, d2_1, d2_2, d2_3, rd2, rd2a, rd2b, rd2c, rd2n]; done))
          replace d2_3 : w21.cell? ⟨w.heap.size + 1 + 1, 3, none⟩ = some (.int .i64 F'') := hx21.has (by first | exact d2_3 | (simp [go_sem, World.cell?_alloc_past, d0_0, d0_1, d0_2, d0_3, rd0, rd0a, rd0b, rd0c, rd0n, d1_0, d1_1, d1_2, d1_3, rd1, rd1a, rd1b, rd1c, rd1n, d2_0, d2_1, d2_2, d2_3, rd2, rd2a, rd2b, rd2c, rd2n]; done))
          have z21 := hx21.size
          try simp at z21
          have ne_d0_d1 : ¬ w.heap.size = w.heap.size + 1 := by omega
          have ne_d0_d2 : ¬ w.heap.size = w.heap.size + 1 + 1 := by omega
          have ne_d1_d0 : ¬ w.heap.size + 1 = w.heap.size := by omega
          have ne_d1_d2 : ¬ w.heap.size + 1 = w.heap.size + 1 + 1 := by omega
          have ne_d2_d0 : ¬ w.heap.size + 1 + 1 = w.heap.size := by omega
          have ne_d2_d1 : ¬ w.heap.size + 1 + 1 = w.heap.size + 1 := by omega
          replace rd0 : w.heap.size < w21.heap.size := by omega
          replace rd0a : w.heap.size < w21.heap.size + 1 := by omega
          replace rd0b : w.heap.size < w21.heap.size + 1 + 1 := by omega
          replace rd0c : w.heap.size < w21.heap.size + 1 + 1 + 1 := by omega
          replace rd0n : ¬ w.heap.size = w21.heap.size := by omega
          replace rd1 : w.heap.size + 1 < w21.heap.size := by omega
          replace rd1a : w.heap.size + 1 < w21.heap.size + 1 := by omega
          replace rd1b : w.heap.size + 1 < w21.heap.size + 1 + 1 := by omega
          replace rd1c : w.heap.size + 1 < w21.heap.size + 1 + 1 + 1 := by omega
          replace rd1n : ¬ w.heap.size + 1 = w21.heap.size := by omega
          replace rd2 : w.heap.size + 1 + 1 < w21.heap.size := by omega
          replace rd2a : w.heap.size + 1 + 1 < w21.heap.size + 1 := by omega
          replace rd2b : w.heap.size + 1 + 1 < w21.heap.size + 1 + 1 := by omega
          replace rd2c : w.heap.size + 1 + 1 < w21.heap.size + 1 + 1 + 1 := by omega
          replace rd2n : ¬ w.heap.size + 1 + 1 = w21.heap.size := by omega
          replace HS := Lib.hid (HS.out.ext (Ext.trans (by repeat (first | with_reducible exact Ext.refl _ | with_reducible refine Ext.drew ?_ | with_reducible refine Ext.drewN ?_ _ | with_reducible refine Ext.alloc ?_ _ | with_reducible refine Ext.setCell ?_ (by first | omega | (simp; done) | (simp; omega)) _)) hx21))
          have X21 : Hid (Ext w w21) := Lib.hid (Ext.trans (by repeat (first | with_reducible exact XC.out | with_reducible refine Ext.drew ?_ | with_reducible refine Ext.drewN ?_ _ | with_reducible refine Ext.alloc ?_ _ | with_reducible refine Ext.setCell ?_ (by first | omega | (simp; done) | (simp; omega)) _)) hx21)
          clear XC hx21 z21
          go_wp2_with fail
          (with_reducible refine (CB2.out _).mono ?_)
          rintro e w22 ⟨A3, c3, rfl, hn3, hs3, hx22⟩
          replace d0_0 : w22.cell? ⟨w.heap.size, 0, none⟩ = some (.int .i64 V) := hx22.has (by first | exact d0_0 | (simp [go_sem, World.cell?_alloc_past, d0_0, d0_1, d0_2, d0_3, d1_0, d1_1, d1_2, d1_3, d2_0, d2_1, d2_2, d2_3, ne_d0_d1, ne_d0_d2, ne_d1_d0, ne_d1_d2, ne_d2_d0, ne_d2_d1, rd0, rd0a, rd0b, rd0c, rd0n, rd1, rd1a, rd1b, rd1c, rd1n, rd2, rd2a, rd2b, rd2c, rd2n]; done))
          replace d0_1 : w22.cell? ⟨w.heap.size, 1, none⟩ = some (.int .i64 S) := hx22.has (by first | exact d0_1 | (simp [go_sem, World.cell?_alloc_past, d0_0, d0_1, d0_2, d0_3, d1_0, d1_1, d1_2, d1_3, d2_0, d2_1, d2_2, d2_3, ne_d0_d1, ne_d0_d2, ne_d1_d0, ne_d1_d2, ne_d2_d0, ne_d2_d1, rd0, rd0a, rd0b, rd0c, rd0n, rd1, rd1a, rd1b, rd1c, rd1n, rd2, rd2a, rd2b, rd2c, rd2n]; done))
          replace d0_2 : w22.cell? ⟨w.heap.size, 2, none⟩ = some (.int .i64 P) := hx22.has (by first | exact d0_2 | (simp [go_sem, World.cell?_alloc_past, d0_0, d0_1, d0_2, d0_3, d1_0, d1_1, d1_2, d1_3, d2_0, d2_1, d2_2, d2_3, ne_d0_d1, ne_d0_d2, ne_d1_d0, ne_d1_d2, ne_d2_d0, ne_d2_d1, rd0, rd0a, rd0b, rd0c, rd0n, rd1, rd1a, rd1b, rd1c, rd1n, rd2, rd2a, rd2b, rd2c, rd2n]; done))
          replace d0_3 : w22.cell? ⟨w.heap.size, 3, none⟩ = some (.int .i64 F) := hx22.has (by first | exact d0_3 | (simp [go_sem, World.cell?_alloc_past, d0_0, d0_1, d0_2, d0_3, d1_0, d1_1, d1_2, d1_3, d2_0, d2_1, d2_2, d2_3, ne_d0_d1, ne_d0_d2, ne_d1_d0, ne_d1_d2, ne_d2_d0, ne_d2_d1, rd0, rd0a, rd0b, rd0c, rd0n, rd1, rd1a, rd1b, rd1c, rd1n, rd2, rd2a, rd2b, rd2c, rd2n]; done))
          replace d1_0 : w22.cell? ⟨w.heap.size + 1, 0, none⟩ = some (.int .i64 V') := hx22.has (by first | exact d1_0 | (simp [go_sem, World.cell?_alloc_past, d0_0, d0_1, d0_2, d0_3, d1_0, d1_1, d1_2, d1_3, d2_0, d2_1, d2_2, d2_3, ne_d0_d1, ne_d0_d2, ne_d1_d0, ne_d1_d2, ne_d2_d0, ne_d2_d1, rd0, rd0a, rd0b, rd0c, rd0n, rd1, rd1a, rd1b, rd1c, rd1n, rd2, rd2a, rd2b, rd2c, rd2n]; done))
          replace d1_1 : w22.cell? ⟨w.heap.size + 1, 1, none⟩ = some (.int .i64 S') := hx22.has (by first | exact d1_1 | (simp [go_sem, World.cell?_alloc_past, d0_0, d0_1, d0_2, d0_3, d1_0, d1_1, d1_2, d1_3, d2_0, d2_1, d2_2, d2_3, ne_d0_d1, ne_d0_d2, ne_d1_d0, ne_d1_d2, ne_d2_d0, ne_d2_d1, rd0, rd0a, rd0b, rd0c, rd0n, rd1, rd1a, rd1b, rd1c, rd1n, rd2, rd2a, rd2b, rd2c, rd2n]; done))
          replace d1_2 : w22.cell? ⟨w.heap.size + 1, 2, none⟩ = some (.int .i64 P') := hx22.has (by first | exact d1_2 | (simp [go_sem, World.cell?_alloc_past, d0_0, d0_1, d0_2, d0_3, d1_0, d1_1, d1_2, d1_3, d2_0, d2_1, d2_2, d2_3, ne_d0_d1, ne_d0_d2, ne_d1_d0, ne_d1_d2, ne_d2_d0, ne_d2_d1, rd0, rd0a, rd0b, rd0c, rd0n, rd1, rd1a, rd1b, rd1c, rd1n, rd2, rd2a, rd2b, rd2c, rd2n]; done))
          replace d1_3 : w22.cell? ⟨w.heap.size + 1, 3, none⟩ = some (.int .i64 F') := hx22.has (by first | exact d1_3 | (simp [go_sem, World.cell?_alloc_past, d0_0, d0_1, d0_2, d0_3, d1_0, d1_1, d1_2, d1_3, d2_0, d2_1, d2_2, d2_3, ne_d0_d1, ne_d0_d2, ne_d1_d0, ne_d1_d2, ne_d2_d0, ne_d2_d1, rd0, rd0a, rd0b, rd0c, rd0n, rd1, rd1a, rd1b, rd1c, rd1n, rd2, rd2a, rd2b, rd2c, rd2n]; done))
          replace d2_0 : w22.cell? ⟨w.heap.size + 1 + 1, 0, none⟩ = some (.int .i64 V'') := hx22.has (by first | exact d2_0 | (simp [go_sem, World.cell?_alloc_past, d0_0, d0_1, d0_2, d0_3, d1_0, d1_1, d1_2, d1_3, d2_0, d2_1, d2_2, d2_3, ne_d0_d1, ne_d0_d2, ne_d1_d0, ne_d1_d2, ne_d2_d0, ne_d2_d1, rd0, rd0a, rd0b, rd0c, rd0n, rd1, rd1a, rd1b, rd1c, rd1n, rd2, rd2a, rd2b, rd2c, rd2n]; done))
          replace d2_1 : w22.cell? ⟨w.heap.size + 1 + 1, 1, none⟩ = some (.int .i64 S'') := hx22.has (by first | exact d2_1 | (simp [go_sem, World.cell?_alloc_past, d0_0, d0_1, d0_2, d0_3, d1_0, d1_1, d1_2, d1_3, d2_0, d2_1, d2_2, d2_3, ne_d0_d1, ne_d0_d2, ne_d1_d0, ne_d1_d2, ne_d2_d0, ne_d2_d1, rd0, rd0a, rd0b, rd0c, rd0n, rd1, rd1a, rd1b, rd1c, rd1n, rd2, rd2a, rd2b, rd2c, rd2n]; done))
          replace d2_2 : w22.cell? ⟨w.heap.size + 1 + 1, 2, none⟩ = some (.int .i64 P'') := hx22.has (by first | exact d2_2 | (simp [go_sem, World.cell?_alloc_past, d0_0, d0_1, d0_2, d0_3, d1_0, d1_1, d1_2, d1_3, d2_0, d2_1, d2_2, d2_3, ne_d0_d1, ne_d0_d2, ne_d1_d0, ne_d1_d2, ne_d2_d0, ne_d2_d1, rd0, rd0a, rd0b, rd0c, rd0n, rd1, rd1a, rd1b, rd1c, rd1n, rd2, rd2a, rd2b, rd2c, rd2n]; done))
          replace d2_3 : w22.cell? ⟨w.heap.size + 1 + 1, 3, none⟩ = some (.int .i64 F'') := hx22.has (by first | exact d2_3 | (simp [go_sem, World.cell?_alloc_past, d0_0, d0_1, d0_2, d0_3, d1_0, d1_1, d1_2, d1_3, d2_0, d2_1, d2_2, d2_3, ne_d0_d1, ne_d0_d2, ne_d1_d0, ne_d1_d2, ne_d2_d0, ne_d2_d1, rd0, rd0a, rd0b, rd0c, rd0n, rd1, rd1a, rd1b, rd1c, rd1n, rd2, rd2a, rd2b, rd2c, rd2n]; done))
          have z22 := hx22.size
          try simp at z22
          replace rd0 : w.heap.size < w22.heap.size := by omega
          replace rd0a : w.heap.size < w22.heap.size + 1 := by omega
          replace rd0b : w.heap.size < w22.heap.size + 1 + 1 := by omega
          replace rd0c : w.heap.size < w22.heap.size + 1 + 1 + 1 := by omega
          replace rd0n : ¬ w.heap.size = w22.heap.size := by omega
          replace rd1 : w.heap.size + 1 < w22.heap.size := by omega
          replace rd1a : w.heap.size + 1 < w22.heap.size + 1 := by omega
          replace rd1b : w.heap.size + 1 < w22.heap.size + 1 + 1 := by omega
          replace rd1c : w.heap.size + 1 < w22.heap.size + 1 + 1 + 1 := by omega
          replace rd1n : ¬ w.heap.size + 1 = w22.heap.size := by omega
          replace rd2 : w.heap.size + 1 + 1 < w22.heap.size := by omega
          replace rd2a : w.heap.size + 1 + 1 < w22.heap.size + 1 := by omega
          replace rd2b : w.heap.size + 1 + 1 < w22.heap.size + 1 + 1 := by omega
          replace rd2c : w.heap.size + 1 + 1 < w22.heap.size + 1 + 1 + 1 := by omega
          replace rd2n : ¬ w.heap.size + 1 + 1 = w22.heap.size := by omega
          replace HS := Lib.hid (HS.out.ext (Ext.trans (by repeat (first | with_reducible exact Ext.refl _ | with_reducible refine Ext.drew ?_ | with_reducible refine Ext.drewN ?_ _ | with_reducible refine Ext.alloc ?_ _ | with_reducible refine Ext.setCell ?_ (by first | omega | (simp; done) | (simp; omega)) _)) hx22))
          have X22 : Hid (Ext w w22) := Lib.hid (Ext.trans (by repeat (first | with_reducible exact X21.out | with_reducible refine Ext.drew ?_ | with_reducible refine Ext.drewN ?_ _ | with_reducible refine Ext.alloc ?_ _ | with_reducible refine Ext.setCell ?_ (by first | omega | (simp; done) | (simp; omega)) _)) hx22)
          have HB3 := Lib.hid hs3
          clear X21 hx22 z22 hs3
          clear hn3
          go_wp2_with fail
          (with_reducible refine ((kSameBytes_eq _ _ _ _ _ _ M hM _ (HB3.out.ext (by repeat (first | with_reducible exact Ext.refl _ | with_reducible refine Ext.drew ?_ | with_reducible refine Ext.drewN ?_ _ | with_reducible refine Ext.alloc ?_ _ | with_reducible refine Ext.setCell ?_ (by first | omega | (simp; done) | (simp; omega)) _))) (HS.out.ext (by repeat (first | with_reducible exact Ext.refl _ | with_reducible refine Ext.drew ?_ | with_reducible refine Ext.drewN ?_ _ | with_reducible refine Ext.alloc ?_ _ | with_reducible refine Ext.setCell ?_ (by first | omega | (simp; done) | (simp; omega)) _))))).mono ?_)
          rintro e w_1 ⟨rfl, rfl⟩
          go_wp2_with fail
          go_meet
          exact ⟨rfl, (by first | exact d0_0 | (simp [go_sem, World.cell?_alloc_past, d0_0, d0_1, d0_2, d0_3, d1_0, d1_1, d1_2, d1_3, d2_0, d2_1, d2_2, d2_3, ne_d0_d1, ne_d0_d2, ne_d1_d0, ne_d1_d2, ne_d2_d0, ne_d2_d1, rd0, rd0a, rd0b, rd0c, rd0n, rd1, rd1a, rd1b, rd1c, rd1n, rd2, rd2a, rd2b, rd2c, rd2n]; done)), (by first | exact d0_1 | (simp [go_sem, World.cell?_alloc_past, d0_0, d0_1, d0_2, d0_3, d1_0, d1_1, d1_2, d1_3, d2_0, d2_1, d2_2, d2_3, ne_d0_d1, ne_d0_d2, ne_d1_d0, ne_d1_d2, ne_d2_d0, ne_d2_d1, rd0, rd0a, rd0b, rd0c, rd0n, rd1, rd1a, rd1b, rd1c, rd1n, rd2, rd2a, rd2b, rd2c, rd2n]; done)), (by first | exact d0_2 | (simp [go_sem, World.cell?_alloc_past, d0_0, d0_1, d0_2, d0_3, d1_0, d1_1, d1_2, d1_3, d2_0, d2_1, d2_2, d2_3, ne_d0_d1, ne_d0_d2, ne_d1_d0, ne_d1_d2, ne_d2_d0, ne_d2_d1, rd0, rd0a, rd0b, rd0c, rd0n, rd1, rd1a, rd1b, rd1c, rd1n, rd2, rd2a, rd2b, rd2c, rd2n]; done)), (by first | exact d0_3 | (simp [go_sem, World.cell?_alloc_past, d0_0, d0_1, d0_2, d0_3, d1_0, d1_1, d1_2, d1_3, d2_0, d2_1, d2_2, d2_3, ne_d0_d1, ne_d0_d2, ne_d1_d0, ne_d1_d2, ne_d2_d0, ne_d2_d1, rd0, rd0a, rd0b, rd0c, rd0n, rd1, rd1a, rd1b, rd1c, rd1n, rd2, rd2a, rd2b, rd2c, rd2n]; done)), (by first | exact d1_0 | (simp [go_sem, World.cell?_alloc_past, d0_0, d0_1, d0_2, d0_3, d1_0, d1_1, d1_2, d1_3, d2_0, d2_1, d2_2, d2_3, ne_d0_d1, ne_d0_d2, ne_d1_d0, ne_d1_d2, ne_d2_d0, ne_d2_d1, rd0, rd0a, rd0b, rd0c, rd0n, rd1, rd1a, rd1b, rd1c, rd1n, rd2, rd2a, rd2b, rd2c, rd2n]; done)), (by first | exact d1_1 | (simp [go_sem, World.cell?_alloc_past, d0_0, d0_1, d0_2, d0_3, d1_0, d1_1, d1_2, d1_3, d2_0, d2_1, d2_2, d2_3, ne_d0_d1, ne_d0_d2, ne_d1_d0, ne_d1_d2, ne_d2_d0, ne_d2_d1, rd0, rd0a, rd0b, rd0c, rd0n, rd1, rd1a, rd1b, rd1c, rd1n, rd2, rd2a, rd2b, rd2c, rd2n]; done)), (by first | exact d1_2 | (simp [go_sem, World.cell?_alloc_past, d0_0, d0_1, d0_2, d0_3, d1_0, d1_1, d1_2, d1_3, d2_0, d2_1, d2_2, d2_3, ne_d0_d1, ne_d0_d2, ne_d1_d0, ne_d1_d2, ne_d2_d0, ne_d2_d1, rd0, rd0a, rd0b, rd0c, rd0n, rd1, rd1a, rd1b, rd1c, rd1n, rd2, rd2a, rd2b, rd2c, rd2n]; done)), (by first | exact d1_3 | (simp [go_sem, World.cell?_alloc_past, d0_0, d0_1, d0_2, d0_3, d1_0, d1_1, d1_2, d1_3, d2_0, d2_1, d2_2, d2_3, ne_d0_d1, ne_d0_d2, ne_d1_d0, ne_d1_d2, ne_d2_d0, ne_d2_d1, rd0, rd0a, rd0b, rd0c, rd0n, rd1, rd1a, rd1b, rd1c, rd1n, rd2, rd2a, rd2b, rd2c, rd2n]; done)), (by first | exact d2_0 | (simp [go_sem, World.cell?_alloc_past, d0_0, d0_1, d0_2, d0_3, d1_0, d1_1, d1_2, d1_3, d2_0, d2_1, d2_2, d2_3, ne_d0_d1, ne_d0_d2, ne_d1_d0, ne_d1_d2, ne_d2_d0, ne_d2_d1, rd0, rd0a, rd0b, rd0c, rd0n, rd1, rd1a, rd1b, rd1c, rd1n, rd2, rd2a, rd2b, rd2c, rd2n]; done)), (by first | exact d2_1 | (simp [go_sem, World.cell?_alloc_past, d0_0, d0_1, d0_2, d0_3, d1_0, d1_1, d1_2, d1_3, d2_0, d2_1, d2_2, d2_3, ne_d0_d1, ne_d0_d2, ne_d1_d0, ne_d1_d2, ne_d2_d0, ne_d2_d1, rd0, rd0a, rd0b, rd0c, rd0n, rd1, rd1a, rd1b, rd1c, rd1n, rd2, rd2a, rd2b, rd2c, rd2n]; done)), (by first | exact d2_2 | (simp [go_sem, World.cell?_alloc_past, d0_0, d0_1, d0_2, d0_3, d1_0, d1_1, d1_2, d1_3, d2_0, d2_1, d2_2, d2_3, ne_d0_d1, ne_d0_d2, ne_d1_d0, ne_d1_d2, ne_d2_d0, ne_d2_d1, rd0, rd0a, rd0b, rd0c, rd0n, rd1, rd1a, rd1b, rd1c, rd1n, rd2, rd2a, rd2b, rd2c, rd2n]; done)), (by first | exact d2_3 | (simp [go_sem, World.cell?_alloc_past, d0_0, d0_1, d0_2, d0_3, d1_0, d1_1, d1_2, d1_3, d2_0, d2_1, d2_2, d2_3, ne_d0_d1, ne_d0_d2, ne_d1_d0, ne_d1_d2, ne_d2_d0, ne_d2_d1, rd0, rd0a, rd0b, rd0c, rd0n, rd1, rd1a, rd1b, rd1c, rd1n, rd2, rd2a, rd2b, rd2c, rd2n]; done)), (by repeat (first | with_reducible exact X22.out | with_reducible refine Ext.drew ?_ | with_reducible refine Ext.drewN ?_ _ | with_reducible refine Ext.alloc ?_ _ | with_reducible refine Ext.setCell ?_ (by first | omega | (simp; done) | (simp; omega)) _)), by first | omega | (simp; omega)⟩
        · have heb : (e2 == 0) = false := beq_false_of_ne he
          clear he Hhe2 HCB2
          go_wp2_with fail
          (with_reducible refine (CR2.out _ (HS.out.ext (by repeat (first | with_reducible exact Ext.refl _ | with_reducible refine Ext.drew ?_ | with_reducible refine Ext.drewN ?_ _ | with_reducible refine Ext.alloc ?_ _ | with_reducible refine Ext.setCell ?_ (by first | omega | (simp; done) | (simp; omega)) _)))).mono ?_)
          rintro e w21 ⟨rfl, hx21⟩
          replace d0_0 : w21.cell? ⟨w.heap.size, 0, none⟩ = some (.int .i64 V) := hx21.has (by first | exact d0_0 | (simp [go_sem, World.cell?_alloc_past, d0_0, d0_1, d0_2, d0_3, rd0, rd0a, rd0b, rd0c, rd0n, d1_0, d1_1, d1_2, d1_3, rd1, rd1a, rd1b, rd1c, rd1n, d2_0, d2_1, d2_2, d2_3, rd2, rd2a, rd2b, rd2c, rd2n]; done))
          replace d0_1 : w21.cell? ⟨w.heap.size, 1, none⟩ = some (.int .i64 S) := hx21.has (by first | exact d0_1 | (simp [go_sem, World.cell?_alloc_past, d0_0, d0_1, d0_2, d0_3, rd0, rd0a, rd0b, rd0c, rd0n, d1_0, d1_1, d1_2, d1_3, rd1, rd1a, rd1b, rd1c, rd1n, d2_0, d2_1, d2_2, d2_3, rd2, rd2a, rd2b, rd2c, rd2n]; done))
          replace d0_2 : w21.cell? ⟨w.heap.size, 2, none⟩ = some (.int .i64 P) := hx21.has (by first | exact d0_2 | (simp [go_sem, World.cell?_alloc_past, d0_0, d0_1, d0_2, d0_3, rd0, rd0a, rd0b, rd0c, rd0n, d1_0, d1_1, d1_2, d1_3, rd1, rd1a, rd1b, rd1c, rd1n, d2_0, d2_1, d2_2, d2_3, rd2, rd2a, rd2b, rd2c, rd2n]; done))
          replace d0_3 : w21.cell? ⟨w.heap.size, 3, none⟩ = some (.int .i64 F) := hx21.has (by first | exact d0_3 | (simp [go_sem, World.cell?_alloc_past, d0_0, d0_1, d0_2, d0_3, rd0, rd0a, rd0b, rd0c, rd0n, d1_0, d1_1, d1_2, d1_3, rd1, rd1a, rd1b, rd1c, rd1n, d2_0, d2_1, d2_2, d2_3, rd2, rd2a, rd2b, rd2c, rd2n]; done))
          replace d1_0 : w21.cell? ⟨w.heap.size + 1, 0, none⟩ = some (.int .i64 V') := hx21.has (by first | exact d1_0 | (simp [go_sem, World.cell?_alloc_past, d0_0, d0_1, d0_2, d0_3, rd0, rd0a, rd0b, rd0c, rd0n, d1_0, d1_1, d1_2, d1_3, rd1, rd1a, rd1b, rd1c, rd1n, d2_0, d2_1, d2_2, d2_3, rd2, rd2a, rd2b, rd2c, rd2n]; done))
          replace d1_1 : w21.cell? ⟨w.heap.size + 1, 1, none⟩ = some (.int .i64 S') := hx21.has (by first | exact d1_1 | (simp [go_sem, World.cell?_alloc_past, d0_0, d0_1, d0_2, d0_3, rd0, rd0a, rd0b, rd0c, rd0n, d1_0, d1_1, d1_2, d1_3, rd1, rd1a, rd1b, rd1c, rd1n, d2_0, d2_1, d2_2, d2_3, rd2, rd2a, rd2b, rd2c, rd2n]; done))
          replace d1_2 : w21.cell? ⟨w.heap.size + 1, 2, none⟩ = some (.int .i64 P') := hx21.has (by first | exact d1_2 | (simp [go_sem, World.cell?_alloc_past, d0_0, d0_1, d0_2, d0_3, rd0, rd0a, rd0b, rd0c, rd0n, d1_0, d1_1, d1_2, d1_3, rd1, rd1a, rd1b, rd1c, rd1n, d2_0, d2_1, d2_2, d2_3, rd2, rd2a, rd2b, rd2c, rd2n]; done))
          replace d1_3 : w21.cell? ⟨w.heap.size + 1, 3, none⟩ = some (.int .i64 F') := hx21.has (by first | exact d1_3 | (simp [go_sem, World.cell?_alloc_past, d0_0, d0_1, d0_2, d0_3, rd0, rd0a, rd0b, rd0c, rd0n, d1_0, d1_1, d1_2, d1_3, rd1, rd1a, rd1b, rd1c, rd1n, d2_0, d2_1, d2_2, d2_3, rd2, rd2a, rd2b, rd2c, rd2n]; done))
          replace d2_0 : w21.cell? ⟨w.heap.size + 1 + 1, 0, none⟩ = some (.int .i64 V'') := hx21.has (by first | exact d2_0 | (simp [go_sem, World.cell?_alloc_past, d0_0, d0_1, d0_2, d0_3, rd0, rd0a, rd0b, rd0c, rd0n, d1_0, d1_1, d1_2, d1_3, rd1, rd1a, rd1b, rd1c, rd1n, d2_0, d2_1, d2_2, d2_3, rd2, rd2a, rd2b, rd2c, rd2n]; done))
          replace d2_1 : w21.cell? ⟨w.heap.size + 1 + 1, 1, none⟩ = some (.int .i64 S'') := hx21.has (by first | exact d2_1 | (simp [go_sem, World.cell?_alloc_past, d0_0, d0_1, d0_2, d0_3, rd0, rd0a, rd0b, rd0c, rd0n, d1_0, d1_1, d1_2, d1_3, rd1, rd1a, rd1b, rd1c, rd1n, d2_0, d2_1, d2_2, d2_3, rd2, rd2a, rd2b, rd2c, rd2n]; done))
          replace d2_2 : w21.cell? ⟨w.heap.size + 1 + 1, 2, none⟩ = some (.int .i64 P'') := hx21.has (by first | exact d2_2 | (simp [go_sem, World.cell?_alloc_past, d0_0, d0_1, d0_2, d0_3, rd0, rd0a, rd0b, rd0c, rd0n, d1_0, d1_1, d1_2, d1_3, rd1, rd1a, rd1b, rd1c, rd1n, d2_0, d2_1, d2_2, d2_3, rd2, rd2a, rd2b, rd2c, rd2n]; done))
          replace d2_3 : w21.cell? ⟨w.heap.size + 1 + 1, 3, none⟩ = some (.int .i64 F'') := hx21.has (by first | exact d2_3 | (simp [go_sem, World.cell?_alloc_past, d0_0, d0_1, d0_2, d0_3, rd0, rd0a, rd0b, rd0c, rd0n, d1_0, d1_1, d1_2, d1_3, rd1, rd1a, rd1b, rd1c, rd1n, d2_0, d2_1, d2_2, d2_3, rd2, rd2a, rd2b, rd2c, rd2n]; done))
          have z21 := hx21.size
          try simp at z21
          have ne_d0_d1 : ¬ w.heap.size = w.heap.size + 1 := by omega
          have ne_d0_d2 : ¬ w.heap.size = w.heap.size + 1 + 1 := by omega
          have ne_d1_d0 : ¬ w.heap.size + 1 = w.heap.size := by omega
          have ne_d1_d2 : ¬ w.heap.size + 1 = w.heap.size + 1 + 1 := by omega
          have ne_d2_d0 : ¬ w.heap.size + 1 + 1 = w.heap.size := by omega
          have ne_d2_d1 : ¬ w.heap.size + 1 + 1 = w.heap.size + 1 := by omega
          replace rd0 : w.heap.size < w21.heap.size := by omega
          replace rd0a : w.heap.size < w21.heap.size + 1 := by omega
          replace rd0b : w.heap.size < w21.heap.size + 1 + 1 := by omega
          replace rd0c : w.heap.size < w21.heap.size + 1 + 1 + 1 := by omega
          replace rd0n : ¬ w.heap.size = w21.heap.size := by omega
          replace rd1 : w.heap.size + 1 < w21.heap.size := by omega
          replace rd1a : w.heap.size + 1 < w21.heap.size + 1 := by omega
          replace rd1b : w.heap.size + 1 < w21.heap.size + 1 + 1 := by omega
          replace rd1c : w.heap.size + 1 < w21.heap.size + 1 + 1 + 1 := by omega
          replace rd1n : ¬ w.heap.size + 1 = w21.heap.size := by omega
          replace rd2 : w.heap.size + 1 + 1 < w21.heap.size := by omega
          replace rd2a : w.heap.size + 1 + 1 < w21.heap.size + 1 := by omega
          replace rd2b : w.heap.size + 1 + 1 < w21.heap.size + 1 + 1 := by omega
          replace rd2c : w.heap.size + 1 + 1 < w21.heap.size + 1 + 1 + 1 := by omega
          replace rd2n : ¬ w.heap.size + 1 + 1 = w21.heap.size := by omega
          replace HS := Lib.hid (HS.out.ext (Ext.trans (by repeat (first | with_reducible exact Ext.refl _ | with_reducible refine Ext.drew ?_ | with_reducible refine Ext.drewN ?_ _ | with_reducible refine Ext.alloc ?_ _ | with_reducible refine Ext.setCell ?_ (by first | omega | (simp; done) | (simp; omega)) _)) hx21))
          have X21 : Hid (Ext w w21) := Lib.hid (Ext.trans (by repeat (first | with_reducible exact XC.out | with_reducible refine Ext.drew ?_ | with_reducible refine Ext.drewN ?_ _ | with_reducible refine Ext.alloc ?_ _ | with_reducible refine Ext.setCell ?_ (by first | omega | (simp; done) | (simp; omega)) _)) hx21)
          clear XC hx21 z21
          go_wp2_with fail
          go_meet
          exact ⟨rfl, (by first | exact d0_0 | (simp [go_sem, World.cell?_alloc_past, d0_0, d0_1, d0_2, d0_3, d1_0, d1_1, d1_2, d1_3, d2_0, d2_1, d2_2, d2_3, ne_d0_d1, ne_d0_d2, ne_d1_d0, ne_d1_d2, ne_d2_d0, ne_d2_d1, rd0, rd0a, rd0b, rd0c, rd0n, rd1, rd1a, rd1b, rd1c, rd1n, rd2, rd2a, rd2b, rd2c, rd2n]; done)), (by first | exact d0_1 | (simp [go_sem, World.cell?_alloc_past, d0_0, d0_1, d0_2, d0_3, d1_0, d1_1, d1_2, d1_3, d2_0, d2_1, d2_2, d2_3, ne_d0_d1, ne_d0_d2, ne_d1_d0, ne_d1_d2, ne_d2_d0, ne_d2_d1, rd0, rd0a, rd0b, rd0c, rd0n, rd1, rd1a, rd1b, rd1c, rd1n, rd2, rd2a, rd2b, rd2c, rd2n]; done)), (by first | exact d0_2 | (simp [go_sem, World.cell?_alloc_past, d0_0, d0_1, d0_2, d0_3, d1_0, d1_1, d1_2, d1_3, d2_0, d2_1, d2_2, d2_3, ne_d0_d1, ne_d0_d2, ne_d1_d0, ne_d1_d2, ne_d2_d0, ne_d2_d1, rd0, rd0a, rd0b, rd0c, rd0n, rd1, rd1a, rd1b, rd1c, rd1n, rd2, rd2a, rd2b, rd2c, rd2n]; done)), (by first | exact d0_3 | (simp [go_sem, World.cell?_alloc_past, d0_0, d0_1, d0_2, d0_3, d1_0, d1_1, d1_2, d1_3, d2_0, d2_1, d2_2, d2_3, ne_d0_d1, ne_d0_d2, ne_d1_d0, ne_d1_d2, ne_d2_d0, ne_d2_d1, rd0, rd0a, rd0b, rd0c, rd0n, rd1, rd1a, rd1b, rd1c, rd1n, rd2, rd2a, rd2b, rd2c, rd2n]; done)), (by first | exact d1_0 | (simp [go_sem, World.cell?_alloc_past, d0_0, d0_1, d0_2, d0_3, d1_0, d1_1, d1_2, d1_3, d2_0, d2_1, d2_2, d2_3, ne_d0_d1, ne_d0_d2, ne_d1_d0, ne_d1_d2, ne_d2_d0, ne_d2_d1, rd0, rd0a, rd0b, rd0c, rd0n, rd1, rd1a, rd1b, rd1c, rd1n, rd2, rd2a, rd2b, rd2c, rd2n]; done)), (by first | exact d1_1 | (simp [go_sem, World.cell?_alloc_past, d0_0, d0_1, d0_2, d0_3, d1_0, d1_1, d1_2, d1_3, d2_0, d2_1, d2_2, d2_3, ne_d0_d1, ne_d0_d2, ne_d1_d0, ne_d1_d2, ne_d2_d0, ne_d2_d1, rd0, rd0a, rd0b, rd0c, rd0n, rd1, rd1a, rd1b, rd1c, rd1n, rd2, rd2a, rd2b, rd2c, rd2n]; done)), (by first | exact d1_2 | (simp [go_sem, World.cell?_alloc_past, d0_0, d0_1, d0_2, d0_3, d1_0, d1_1, d1_2, d1_3, d2_0, d2_1, d2_2, d2_3, ne_d0_d1, ne_d0_d2, ne_d1_d0, ne_d1_d2, ne_d2_d0, ne_d2_d1, rd0, rd0a, rd0b, rd0c, rd0n, rd1, rd1a, rd1b, rd1c, rd1n, rd2, rd2a, rd2b, rd2c, rd2n]; done)), (by first | exact d1_3 | (simp [go_sem, World.cell?_alloc_past, d0_0, d0_1, d0_2, d0_3, d1_0, d1_1, d1_2, d1_3, d2_0, d2_1, d2_2, d2_3, ne_d0_d1, ne_d0_d2, ne_d1_d0, ne_d1_d2, ne_d2_d0, ne_d2_d1, rd0, rd0a, rd0b, rd0c, rd0n, rd1, rd1a, rd1b, rd1c, rd1n, rd2, rd2a, rd2b, rd2c, rd2n]; done)), (by first | exact d2_0 | (simp [go_sem, World.cell?_alloc_past, d0_0, d0_1, d0_2, d0_3, d1_0, d1_1, d1_2, d1_3, d2_0, d2_1, d2_2, d2_3, ne_d0_d1, ne_d0_d2, ne_d1_d0, ne_d1_d2, ne_d2_d0, ne_d2_d1, rd0, rd0a, rd0b, rd0c, rd0n, rd1, rd1a, rd1b, rd1c, rd1n, rd2, rd2a, rd2b, rd2c, rd2n]; done)), (by first | exact d2_1 | (simp [go_sem, World.cell?_alloc_past, d0_0, d0_1, d0_2, d0_3, d1_0, d1_1, d1_2, d1_3, d2_0, d2_1, d2_2, d2_3, ne_d0_d1, ne_d0_d2, ne_d1_d0, ne_d1_d2, ne_d2_d0, ne_d2_d1, rd0, rd0a, rd0b, rd0c, rd0n, rd1, rd1a, rd1b, rd1c, rd1n, rd2, rd2a, rd2b, rd2c, rd2n]; done)), (by first | exact d2_2 | (simp [go_sem, World.cell?_alloc_past, d0_0, d0_1, d0_2, d0_3, d1_0, d1_1, d1_2, d1_3, d2_0, d2_1, d2_2, d2_3, ne_d0_d1, ne_d0_d2, ne_d1_d0, ne_d1_d2, ne_d2_d0, ne_d2_d1, rd0, rd0a, rd0b, rd0c, rd0n, rd1, rd1a, rd1b, rd1c, rd1n, rd2, rd2a, rd2b, rd2c, rd2n]; done)), (by first | exact d2_3 | (simp [go_sem, World.cell?_alloc_past, d0_0, d0_1, d0_2, d0_3, d1_0, d1_1, d1_2, d1_3, d2_0, d2_1, d2_2, d2_3, ne_d0_d1, ne_d0_d2, ne_d1_d0, ne_d1_d2, ne_d2_d0, ne_d2_d1, rd0, rd0a, rd0b, rd0c, rd0n, rd1, rd1a, rd1b, rd1c, rd1n, rd2, rd2a, rd2b, rd2c, rd2n]; done)), (by repeat (first | with_reducible exact X21.out | with_reducible refine Ext.drew ?_ | with_reducible refine Ext.drewN ?_ _ | with_reducible refine Ext.alloc ?_ _ | with_reducible refine Ext.setCell ?_ (by first | omega | (simp; done) | (simp; omega)) _)), by first | omega | (simp; omega)⟩
      · go_wp2_with fail
        go_meet
        exact ⟨rfl, (by first | exact d0_0 | (simp [go_sem, World.cell?_alloc_past, d0_0, d0_1, d0_2, d0_3, rd0, rd0a, rd0b, rd0c, rd0n, d1_0, d1_1, d1_2, d1_3, rd1, rd1a, rd1b, rd1c, rd1n, d2_0, d2_1, d2_2, d2_3, rd2, rd2a, rd2b, rd2c, rd2n]; done)), (by first | exact d0_1 | (simp [go_sem, World.cell?_alloc_past, d0_0, d0_1, d0_2, d0_3, rd0, rd0a, rd0b, rd0c, rd0n, d1_0, d1_1, d1_2, d1_3, rd1, rd1a, rd1b, rd1c, rd1n, d2_0, d2_1, d2_2, d2_3, rd2, rd2a, rd2b, rd2c, rd2n]; done)), (by first | exact d0_2 | (simp [go_sem, World.cell?_alloc_past, d0_0, d0_1, d0_2, d0_3, rd0, rd0a, rd0b, rd0c, rd0n, d1_0, d1_1, d1_2, d1_3, rd1, rd1a, rd1b, rd1c, rd1n, d2_0, d2_1, d2_2, d2_3, rd2, rd2a, rd2b, rd2c, rd2n]; done)), (by first | exact d0_3 | (simp [go_sem, World.cell?_alloc_past, d0_0, d0_1, d0_2, d0_3, rd0, rd0a, rd0b, rd0c, rd0n, d1_0, d1_1, d1_2, d1_3, rd1, rd1a, rd1b, rd1c, rd1n, d2_0, d2_1, d2_2, d2_3, rd2, rd2a, rd2b, rd2c, rd2n]; done)), (by first | exact d1_0 | (simp [go_sem, World.cell?_alloc_past, d0_0, d0_1, d0_2, d0_3, rd0, rd0a, rd0b, rd0c, rd0n, d1_0, d1_1, d1_2, d1_3, rd1, rd1a, rd1b, rd1c, rd1n, d2_0, d2_1, d2_2, d2_3, rd2, rd2a, rd2b, rd2c, rd2n]; done)), (by first | exact d1_1 | (simp [go_sem, World.cell?_alloc_past, d0_0, d0_1, d0_2, d0_3, rd0, rd0a, rd0b, rd0c, rd0n, d1_0, d1_1, d1_2, d1_3, rd1, rd1a, rd1b, rd1c, rd1n, d2_0, d2_1, d2_2, d2_3, rd2, rd2a, rd2b, rd2c, rd2n]; done)), (by first | exact d1_2 | (simp [go_sem, World.cell?_alloc_past, d0_0, d0_1, d0_2, d0_3, rd0, rd0a, rd0b, rd0c, rd0n, d1_0, d1_1, d1_2, d1_3, rd1, rd1a, rd1b, rd1c, rd1n, d2_0, d2_1, d2_2, d2_3, rd2, rd2a, rd2b, rd2c, rd2n]; done)), (by first | exact d1_3 | (simp [go_sem, World.cell?_alloc_past, d0_0, d0_1, d0_2, d0_3, rd0, rd0a, rd0b, rd0c, rd0n, d1_0, d1_1, d1_2, d1_3, rd1, rd1a, rd1b, rd1c, rd1n, d2_0, d2_1, d2_2, d2_3, rd2, rd2a, rd2b, rd2c, rd2n]; done)), (by first | exact d2_0 | (simp [go_sem, World.cell?_alloc_past, d0_0, d0_1, d0_2, d0_3, rd0, rd0a, rd0b, rd0c, rd0n, d1_0, d1_1, d1_2, d1_3, rd1, rd1a, rd1b, rd1c, rd1n, d2_0, d2_1, d2_2, d2_3, rd2, rd2a, rd2b, rd2c, rd2n]; done)), (by first | exact d2_1 | (simp [go_sem, World.cell?_alloc_past, d0_0, d0_1, d0_2, d0_3, rd0, rd0a, rd0b, rd0c, rd0n, d1_0, d1_1, d1_2, d1_3, rd1, rd1a, rd1b, rd1c, rd1n, d2_0, d2_1, d2_2, d2_3, rd2, rd2a, rd2b, rd2c, rd2n]; done)), (by first | exact d2_2 | (simp [go_sem, World.cell?_alloc_past, d0_0, d0_1, d0_2, d0_3, rd0, rd0a, rd0b, rd0c, rd0n, d1_0, d1_1, d1_2, d1_3, rd1, rd1a, rd1b, rd1c, rd1n, d2_0, d2_1, d2_2, d2_3, rd2, rd2a, rd2b, rd2c, rd2n]; done)), (by first | exact d2_3 | (simp [go_sem, World.cell?_alloc_past, d0_0, d0_1, d0_2, d0_3, rd0, rd0a, rd0b, rd0c, rd0n, d1_0, d1_1, d1_2, d1_3, rd1, rd1a, rd1b, rd1c, rd1n, d2_0, d2_1, d2_2, d2_3, rd2, rd2a, rd2b, rd2c, rd2n]; done)), (by repeat (first | with_reducible exact XC.out | with_reducible refine Ext.drew ?_ | with_reducible refine Ext.drewN ?_ _ | with_reducible refine Ext.alloc ?_ _ | with_reducible refine Ext.setCell ?_ (by first | omega | (simp; done) | (simp; omega)) _)), by first | omega | (simp; omega)⟩
    case rest =>
      clear HCR2 HCB2 Hhe2 HS XC d0_0 d0_1 d0_2 d0_3 d1_0 d1_1 d1_2 d1_3 d2_0 d2_1 d2_2 d2_3 rd0 rd0a rd0b rd0c rd0n rd1 rd1a rd1b rd1c rd1n rd2 rd2a rd2b rd2c rd2n zc
      obtain ⟨rfl, d0_0, d0_1, d0_2, d0_3, d1_0, d1_1, d1_2, d1_3, d2_0, d2_1, d2_2, d2_3, X, zc⟩ := hcut
      have XC := Lib.hid X
      replace HS := Lib.hid (HS0.out.ext X)
      clear X
      have rd0 : w.heap.size < wc.heap.size := by omega
      have rd0a : w.heap.size < wc.heap.size + 1 := by omega
      have rd0b : w.heap.size < wc.heap.size + 1 + 1 := by omega
      have rd0c : w.heap.size < wc.heap.size + 1 + 1 + 1 := by omega
      have rd1 : w.heap.size + 1 < wc.heap.size := by omega
      have rd1a : w.heap.size + 1 < wc.heap.size + 1 := by omega
      have rd1b : w.heap.size + 1 < wc.heap.size + 1 + 1 := by omega
      have rd1c : w.heap.size + 1 < wc.heap.size + 1 + 1 + 1 := by omega
      have rd2 : w.heap.size + 1 + 1 < wc.heap.size := by omega
      have rd2a : w.heap.size + 1 + 1 < wc.heap.size + 1 := by omega
      have rd2b : w.heap.size + 1 + 1 < wc.heap.size + 1 + 1 := by omega
      have rd2c : w.heap.size + 1 + 1 < wc.heap.size + 1 + 1 + 1 := by omega
      have rd0n : ¬ w.heap.size = wc.heap.size := by omega
      have rd1n : ¬ w.heap.size + 1 = wc.heap.size := by omega
      have rd2n : ¬ w.heap.size + 1 + 1 = wc.heap.size := by omega
      rcases hm with rfl | rfl | rfl
      · by_cases hn : 0 < n
        · have hnb : decide (0 < n) = true := decide_eq_true hn
          clear hn HC3
          have hne : ¬ (V = V' ∧ S = S' ∧ P = P' ∧ F = F') := fun hh => absurd (Hm0.out.2 hh) (by decide)
          clear Hm0
          go_wp2_with fail
          refine wp_region_held_drew (S := fun w' => w'.cell? ⟨w.heap.size, 0, none⟩ = some (.int .i64 V) ∧ w'.cell? ⟨w.heap.size, 1, none⟩ = some (.int .i64 S) ∧ w'.cell? ⟨w.heap.size, 2, none⟩ = some (.int .i64 P) ∧ w'.cell? ⟨w.heap.size, 3, none⟩ = some (.int .i64 F) ∧ w'.cell? ⟨w.heap.size + 1, 0, none⟩ = some (.int .i64 V') ∧ w'.cell? ⟨w.heap.size + 1, 1, none⟩ = some (.int .i64 S') ∧ w'.cell? ⟨w.heap.size + 1, 2, none⟩ = some (.int .i64 P') ∧ w'.cell? ⟨w.heap.size + 1, 3, none⟩ = some (.int .i64 F') ∧ w'.cell? ⟨w.heap.size + 1 + 1, 0, none⟩ = some (.int .i64 V'') ∧ w'.cell? ⟨w.heap.size + 1 + 1, 1, none⟩ = some (.int .i64 S'') ∧ w'.cell? ⟨w.heap.size + 1 + 1, 2, none⟩ = some (.int .i64 P'') ∧ w'.cell? ⟨w.heap.size + 1 + 1, 3, none⟩ = some (.int .i64 F'')) (by kernel_rfl) (by first | exact ⟨d0_0, d0_1, d0_2, d0_3, d1_0, d1_1, d1_2, d1_3, d2_0, d2_1, d2_2, d2_3⟩ | (simp [go_sem, World.cell?_alloc_past, d0_0, d0_1, d0_2, d0_3, rd0, rd0a, rd0b, rd0c, rd0n, d1_0, d1_1, d1_2, d1_3, rd1, rd1a, rd1b, rd1c, rd1n, d2_0, d2_1, d2_2, d2_3, rd2, rd2a, rd2b, rd2c, rd2n]; done)) (fun hHeld => ?_)
          (refine' take_in 0 rfl (by kernel_rfl) (by kernel_rfl) (by kernel_rfl) (fun _ _ _ h => h) (by rfl) (by assumption) ?_ ?_; rotate_left; focus (intro w hSw; (try dsimp only at hSw); go_simp; try with_reducible rfl)); try simp only [Act.put, List.setIfInBounds_toArray, List.set_cons_zero, List.set_cons_succ]
          (refine' take_in 1 rfl (by kernel_rfl) (by kernel_rfl) (by kernel_rfl) (fun _ _ _ h => h) (by rfl) (by assumption) ?_ ?_; rotate_left; focus (intro w hSw; (try dsimp only at hSw); go_simp; try with_reducible rfl)); try simp only [Act.put, List.setIfInBounds_toArray, List.set_cons_zero, List.set_cons_succ]
          (refine' take_in 3 rfl (by kernel_rfl) (by kernel_rfl) (by kernel_rfl) (fun _ _ _ h => h) (by rfl) (by assumption) ?_ ?_; rotate_left; focus (intro w hSw; (try dsimp only at hSw); go_simp; try with_reducible rfl)); try simp only [Act.put, List.setIfInBounds_toArray, List.set_cons_zero, List.set_cons_succ]
          (refine' take_in 4 rfl (by kernel_rfl) (by kernel_rfl) (by kernel_rfl) (fun _ _ _ h => h) (by rfl) (by assumption) ?_ ?_; rotate_left; focus (intro w hSw; (try dsimp only at hSw); go_simp; try with_reducible rfl)); try simp only [Act.put, List.setIfInBounds_toArray, List.set_cons_zero, List.set_cons_succ]
          refine' next_in 2 rfl (by kernel_rfl) (by rfl) (fun K hK => ?_)
          go_simp
          (with_reducible refine (C1.out _).mono ?_)
          rintro e w21 ⟨rfl, hx21⟩
          replace d0_0 : w21.cell? ⟨w.heap.size, 0, none⟩ = some (.int .i64 V) := hx21.has (by first | exact d0_0 | (simp [go_sem, World.cell?_alloc_past, d0_0, d0_1, d0_2, d0_3, rd0, rd0a, rd0b, rd0c, rd0n, d1_0, d1_1, d1_2, d1_3, rd1, rd1a, rd1b, rd1c, rd1n, d2_0, d2_1, d2_2, d2_3, rd2, rd2a, rd2b, rd2c, rd2n]; done))
          replace d0_1 : w21.cell? ⟨w.heap.size, 1, none⟩ = some (.int .i64 S) := hx21.has (by first | exact d0_1 | (simp [go_sem, World.cell?_alloc_past, d0_0, d0_1, d0_2, d0_3, rd0, rd0a, rd0b, rd0c, rd0n, d1_0, d1_1, d1_2, d1_3, rd1, rd1a, rd1b, rd1c, rd1n, d2_0, d2_1, d2_2, d2_3, rd2, rd2a, rd2b, rd2c, rd2n]; done))
          replace d0_2 : w21.cell? ⟨w.heap.size, 2, none⟩ = some (.int .i64 P) := hx21.has (by first | exact d0_2 | (simp [go_sem, World.cell?_alloc_past, d0_0, d0_1, d0_2, d0_3, rd0, rd0a, rd0b, rd0c, rd0n, d1_0, d1_1, d1_2, d1_3, rd1, rd1a, rd1b, rd1c, rd1n, d2_0, d2_1, d2_2, d2_3, rd2, rd2a, rd2b, rd2c, rd2n]; done))
          replace d0_3 : w21.cell? ⟨w.heap.size, 3, none⟩ = some (.int .i64 F) := hx21.has (by first | exact d0_3 | (simp [go_sem, World.cell?_alloc_past, d0_0, d0_1, d0_2, d0_3, rd0, rd0a, rd0b, rd0c, rd0n, d1_0, d1_1, d1_2, d1_3, rd1, rd1a, rd1b, rd1c, rd1n, d2_0, d2_1, d2_2, d2_3, rd2, rd2a, rd2b, rd2c, rd2n]; done))
          replace d1_0 : w21.cell? ⟨w.heap.size + 1, 0, none⟩ = some (.int .i64 V') := hx21.has (by first | exact d1_0 | (simp [go_sem, World.cell?_alloc_past, d0_0, d0_1, d0_2, d0_3, rd0, rd0a, rd0b, rd0c, rd0n, d1_0, d1_1, d1_2, d1_3, rd1, rd1a, rd1b, rd1c, rd1n, d2_0, d2_1, d2_2, d2_3, rd2, rd2a, rd2b, rd2c, rd2n]; done))
          replace d1_1 : w21.cell? ⟨w.heap.size + 1, 1, none⟩ = some (.int .i64 S') := hx21.has (by first | exact d1_1 | (simp [go_sem, World.cell?_alloc_past, d0_0, d0_1, d0_2, d0_3, rd0, rd0a, rd0b, rd0c, rd0n, d1_0, d1_1, d1_2, d1_3, rd1, rd1a, rd1b, rd1c, rd1n, d2_0, d2_1, d2_2, d2_3, rd2, rd2a, rd2b, rd2c, rd2n]; done))
          replace d1_2 : w21.cell? ⟨w.heap.size + 1, 2, none⟩ = some (.int .i64 P') := hx21.has (by first | exact d1_2 | (simp [go_sem, World.cell?_alloc_past, d0_0, d0_1, d0_2, d0_3, rd0, rd0a, rd0b, rd0c, rd0n, d1_0, d1_1, d1_2, d1_3, rd1, rd1a, rd1b, rd1c, rd1n, d2_0, d2_1, d2_2, d2_3, rd2, rd2a, rd2b, rd2c, rd2n]; done))
          replace d1_3 : w21.cell? ⟨w.heap.size + 1, 3, none⟩ = some (.int .i64 F') := hx21.has (by first | exact d1_3 | (simp [go_sem, World.cell?_alloc_past, d0_0, d0_1, d0_2, d0_3, rd0, rd0a, rd0b, rd0c, rd0n, d1_0, d1_1, d1_2, d1_3, rd1, rd1a, rd1b, rd1c, rd1n, d2_0, d2_1, d2_2, d2_3, rd2, rd2a, rd2b, rd2c, rd2n]; done))
          replace d2_0 : w21.cell? ⟨w.heap.size + 1 + 1, 0, none⟩ = some (.int .i64 V'') := hx21.has (by first | exact d2_0 | (simp [go_sem, World.cell?_alloc_past, d0_0, d0_1, d0_2, d0_3, rd0, rd0a, rd0b, rd0c, rd0n, d1_0, d1_1, d1_2, d1_3, rd1, rd1a, rd1b, rd1c, rd1n, d2_0, d2_1, d2_2, d2_3, rd2, rd2a, rd2b, rd2c, rd2n]; done))
          replace d2_1 : w21.cell? ⟨w.heap.size + 1 + 1, 1, none⟩ = some (.int .i64 S'') := hx21.has (by first | exact d2_1 | (simp [go_sem, World.cell?_alloc_past, d0_0, d0_1, d0_2, d0_3, rd0, rd0a, rd0b, rd0c, rd0n, d1_0, d1_1, d1_2, d1_3, rd1, rd1a, rd1b, rd1c, rd1n, d2_0, d2_1, d2_2, d2_3, rd2, rd2a, rd2b, rd2c, rd2n]; done))
          replace d2_2 : w21.cell? ⟨w.heap.size + 1 + 1, 2, none⟩ = some (.int .i64 P'') := hx21.has (by first | exact d2_2 | (simp [go_sem, World.cell?_alloc_past, d0_0, d0_1, d0_2, d0_3, rd0, rd0a, rd0b, rd0c, rd0n, d1_0, d1_1, d1_2, d1_3, rd1, rd1a, rd1b, rd1c, rd1n, d2_0, d2_1, d2_2, d2_3, rd2, rd2a, rd2b, rd2c, rd2n]; done))
          replace d2_3 : w21.cell? ⟨w.heap.size + 1 + 1, 3, none⟩ = some (.int .i64 F'') := hx21.has (by first | exact d2_3 | (simp [go_sem, World.cell?_alloc_past, d0_0, d0_1, d0_2, d0_3, rd0, rd0a, rd0b, rd0c, rd0n, d1_0, d1_1, d1_2, d1_3, rd1, rd1a, rd1b, rd1c, rd1n, d2_0, d2_1, d2_2, d2_3, rd2, rd2a, rd2b, rd2c, rd2n]; done))
          have z21 := hx21.size
          try simp at z21
          have ne_d0_d1 : ¬ w.heap.size = w.heap.size + 1 := by omega
          have ne_d0_d2 : ¬ w.heap.size = w.heap.size + 1 + 1 := by omega
          have ne_d1_d0 : ¬ w.heap.size + 1 = w.heap.size := by omega
          have ne_d1_d2 : ¬ w.heap.size + 1 = w.heap.size + 1 + 1 := by omega
          have ne_d2_d0 : ¬ w.heap.size + 1 + 1 = w.heap.size := by omega
          have ne_d2_d1 : ¬ w.heap.size + 1 + 1 = w.heap.size + 1 := by omega
          replace rd0 : w.heap.size < w21.heap.size := by omega
          replace rd0a : w.heap.size < w21.heap.size + 1 := by omega
          replace rd0b : w.heap.size < w21.heap.size + 1 + 1 := by omega
          replace rd0c : w.heap.size < w21.heap.size + 1 + 1 + 1 := by omega
          replace rd0n : ¬ w.heap.size = w21.heap.size := by omega
          replace rd1 : w.heap.size + 1 < w21.heap.size := by omega
          replace rd1a : w.heap.size + 1 < w21.heap.size + 1 := by omega
          replace rd1b : w.heap.size + 1 < w21.heap.size + 1 + 1 := by omega
          replace rd1c : w.heap.size + 1 < w21.heap.size + 1 + 1 + 1 := by omega
          replace rd1n : ¬ w.heap.size + 1 = w21.heap.size := by omega
          replace rd2 : w.heap.size + 1 + 1 < w21.heap.size := by omega
          replace rd2a : w.heap.size + 1 + 1 < w21.heap.size + 1 := by omega
          replace rd2b : w.heap.size + 1 + 1 < w21.heap.size + 1 + 1 := by omega
          replace rd2c : w.heap.size + 1 + 1 < w21.heap.size + 1 + 1 + 1 := by omega
          replace rd2n : ¬ w.heap.size + 1 + 1 = w21.heap.size := by omega
          replace HS := Lib.hid (HS.out.ext (Ext.trans (by repeat (first | with_reducible exact Ext.refl _ | with_reducible refine Ext.drew ?_ | with_reducible refine Ext.drewN ?_ _ | with_reducible refine Ext.alloc ?_ _ | with_reducible refine Ext.setCell ?_ (by first | omega | (simp; done) | (simp; omega)) _)) hx21))
          have X21 : Hid (Ext w w21) := Lib.hid (Ext.trans (by repeat (first | with_reducible exact XC.out | with_reducible refine Ext.drew ?_ | with_reducible refine Ext.drewN ?_ _ | with_reducible refine Ext.alloc ?_ _ | with_reducible refine Ext.setCell ?_ (by first | omega | (simp; done) | (simp; omega)) _)) hx21)
          clear XC hx21 z21
          refine hK.out _ _ (by (first | exact ⟨d0_0, d0_1, d0_2, d0_3, d1_0, d1_1, d1_2, d1_3, d2_0, d2_1, d2_2, d2_3⟩ | (simp [go_sem, World.cell?_alloc_past, d0_0, d0_1, d0_2, d0_3, d1_0, d1_1, d1_2, d1_3, d2_0, d2_1, d2_2, d2_3, ne_d0_d1, ne_d0_d2, ne_d1_d0, ne_d1_d2, ne_d2_d0, ne_d2_d1, rd0, rd0a, rd0b, rd0c, rd0n, rd1, rd1a, rd1b, rd1c, rd1n, rd2, rd2a, rd2b, rd2c, rd2n]; done))) (fun hHeld => ?_); clear hK K; try simp only [Act.put, List.setIfInBounds_toArray, List.set_cons_zero, List.set_cons_succ]
          refine' next_in 5 rfl (by kernel_rfl) (by rfl) (fun K hK => ?_)
          go_simp
          (with_reducible refine (C2.out _).mono ?_)
          rintro e w22 ⟨rfl, hx22⟩
          replace d0_0 : w22.cell? ⟨w.heap.size, 0, none⟩ = some (.int .i64 V) := hx22.has (by first | exact d0_0 | (simp [go_sem, World.cell?_alloc_past, d0_0, d0_1, d0_2, d0_3, d1_0, d1_1, d1_2, d1_3, d2_0, d2_1, d2_2, d2_3, ne_d0_d1, ne_d0_d2, ne_d1_d0, ne_d1_d2, ne_d2_d0, ne_d2_d1, rd0, rd0a, rd0b, rd0c, rd0n, rd1, rd1a, rd1b, rd1c, rd1n, rd2, rd2a, rd2b, rd2c, rd2n]; done))
          replace d0_1 : w22.cell? ⟨w.heap.size, 1, none⟩ = some (.int .i64 S) := hx22.has (by first | exact d0_1 | (simp [go_sem, World.cell?_alloc_past, d0_0, d0_1, d0_2, d0_3, d1_0, d1_1, d1_2, d1_3, d2_0, d2_1, d2_2, d2_3, ne_d0_d1, ne_d0_d2, ne_d1_d0, ne_d1_d2, ne_d2_d0, ne_d2_d1, rd0, rd0a, rd0b, rd0c, rd0n, rd1, rd1a, rd1b, rd1c, rd1n, rd2, rd2a, rd2b, rd2c, rd2n]; done))
          replace d0_2 : w22.cell? ⟨w.heap.size, 2, none⟩ = some (.int .i64 P) := hx22.has (by first | exact d0_2 | (simp [go_sem, World.cell?_alloc_past, d0_0, d0_1, d0_2, d0_3, d1_0, d1_1, d1_2, d1_3, d2_0, d2_1, d2_2, d2_3, ne_d0_d1, ne_d0_d2, ne_d1_d0, ne_d1_d2, ne_d2_d0, ne_d2_d1, rd0, rd0a, rd0b, rd0c, rd0n, rd1, rd1a, rd1b, rd1c, rd1n, rd2, rd2a, rd2b, rd2c, rd2n]; done))
          replace d0_3 : w22.cell? ⟨w.heap.size, 3, none⟩ = some (.int .i64 F) := hx22.has (by first | exact d0_3 | (simp [go_sem, World.cell?_alloc_past, d0_0, d0_1, d0_2, d0_3, d1_0, d1_1, d1_2, d1_3, d2_0, d2_1, d2_2, d2_3, ne_d0_d1, ne_d0_d2, ne_d1_d0, ne_d1_d2, ne_d2_d0, ne_d2_d1, rd0, rd0a, rd0b, rd0c, rd0n, rd1, rd1a, rd1b, rd1c, rd1n, rd2, rd2a, rd2b, rd2c, rd2n]; done))
          replace d1_0 : w22.cell? ⟨w.heap.size + 1, 0, none⟩ = some (.int .i64 V') := hx22.has (by first | exact d1_0 | (simp [go_sem, World.cell?_alloc_past, d0_0, d0_1, d0_2, d0_3, d1_0, d1_1, d1_2, d1_3, d2_0, d2_1, d2_2, d2_3, ne_d0_d1, ne_d0_d2, ne_d1_d0, ne_d1_d2, ne_d2_d0, ne_d2_d1, rd0, rd0a, rd0b, rd0c, rd0n, rd1, rd1a, rd1b, rd1c, rd1n, rd2, rd2a, rd2b, rd2c, rd2n]; done))
          replace d1_1 : w22.cell? ⟨w.heap.size + 1, 1, none⟩ = some (.int .i64 S') := hx22.has (by first | exact d1_1 | (simp [go_sem, World.cell?_alloc_past, d0_0, d0_1, d0_2, d0_3, d1_0, d1_1, d1_2, d1_3, d2_0, d2_1, d2_2, d2_3, ne_d0_d1, ne_d0_d2, ne_d1_d0, ne_d1_d2, ne_d2_d0, ne_d2_d1, rd0, rd0a, rd0b, rd0c, rd0n, rd1, rd1a, rd1b, rd1c, rd1n, rd2, rd2a, rd2b, rd2c, rd2n]; done))
          replace d1_2 : w22.cell? ⟨w.heap.size + 1, 2, none⟩ = some (.int .i64 P') := hx22.has (by first | exact d1_2 | (simp [go_sem, World.cell?_alloc_past, d0_0, d0_1, d0_2, d0_3, d1_0, d1_1, d1_2, d1_3, d2_0, d2_1, d2_2, d2_3, ne_d0_d1, ne_d0_d2, ne_d1_d0, ne_d1_d2, ne_d2_d0, ne_d2_d1, rd0, rd0a, rd0b, rd0c, rd0n, rd1, rd1a, rd1b, rd1c, rd1n, rd2, rd2a, rd2b, rd2c, rd2n]; done))
          replace d1_3 : w22.cell? ⟨w.heap.size + 1, 3, none⟩ = some (.int .i64 F') := hx22.has (by first | exact d1_3 | (simp [go_sem, World.cell?_alloc_past, d0_0, d0_1, d0_2, d0_3, d1_0, d1_1, d1_2, d1_3, d2_0, d2_1, d2_2, d2_3, ne_d0_d1, ne_d0_d2, ne_d1_d0, ne_d1_d2, ne_d2_d0, ne_d2_d1, rd0, rd0a, rd0b, rd0c, rd0n, rd1, rd1a, rd1b, rd1c, rd1n, rd2, rd2a, rd2b, rd2c, rd2n]; done))
          replace d2_0 : w22.cell? ⟨w.heap.size + 1 + 1, 0, none⟩ = some (.int .i64 V'') := hx22.has (by first | exact d2_0 | (simp [go_sem, World.cell?_alloc_past, d0_0, d0_1, d0_2, d0_3, d1_0, d1_1, d1_2, d1_3, d2_0, d2_1, d2_2, d2_3, ne_d0_d1, ne_d0_d2, ne_d1_d0, ne_d1_d2, ne_d2_d0, ne_d2_d1, rd0, rd0a, rd0b, rd0c, rd0n, rd1, rd1a, rd1b, rd1c, rd1n, rd2, rd2a, rd2b, rd2c, rd2n]; done))
          replace d2_1 : w22.cell? ⟨w.heap.size + 1 + 1, 1, none⟩ = some (.int .i64 S'') := hx22.has (by first | exact d2_1 | (simp [go_sem, World.cell?_alloc_past, d0_0, d0_1, d0_2, d0_3, d1_0, d1_1, d1_2, d1_3, d2_0, d2_1, d2_2, d2_3, ne_d0_d1, ne_d0_d2, ne_d1_d0, ne_d1_d2, ne_d2_d0, ne_d2_d1, rd0, rd0a, rd0b, rd0c, rd0n, rd1, rd1a, rd1b, rd1c, rd1n, rd2, rd2a, rd2b, rd2c, rd2n]; done))
          replace d2_2 : w22.cell? ⟨w.heap.size + 1 + 1, 2, none⟩ = some (.int .i64 P'') := hx22.has (by first | exact d2_2 | (simp [go_sem, World.cell?_alloc_past, d0_0, d0_1, d0_2, d0_3, d1_0, d1_1, d1_2, d1_3, d2_0, d2_1, d2_2, d2_3, ne_d0_d1, ne_d0_d2, ne_d1_d0, ne_d1_d2, ne_d2_d0, ne_d2_d1, rd0, rd0a, rd0b, rd0c, rd0n, rd1, rd1a, rd1b, rd1c, rd1n, rd2, rd2a, rd2b, rd2c, rd2n]; done))
          replace d2_3 : w22.cell? ⟨w.heap.size + 1 + 1, 3, none⟩ = some (.int .i64 F'') := hx22.has (by first | exact d2_3 | (simp [go_sem, World.cell?_alloc_past, d0_0, d0_1, d0_2, d0_3, d1_0, d1_1, d1_2, d1_3, d2_0, d2_1, d2_2, d2_3, ne_d0_d1, ne_d0_d2, ne_d1_d0, ne_d1_d2, ne_d2_d0, ne_d2_d1, rd0, rd0a, rd0b, rd0c, rd0n, rd1, rd1a, rd1b, rd1c, rd1n, rd2, rd2a, rd2b, rd2c, rd2n]; done))
          have z22 := hx22.size
          try simp at z22
          replace rd0 : w.heap.size < w22.heap.size := by omega
          replace rd0a : w.heap.size < w22.heap.size + 1 := by omega
          replace rd0b : w.heap.size < w22.heap.size + 1 + 1 := by omega
          replace rd0c : w.heap.size < w22.heap.size + 1 + 1 + 1 := by omega
          replace rd0n : ¬ w.heap.size = w22.heap.size := by omega
          replace rd1 : w.heap.size + 1 < w22.heap.size := by omega
          replace rd1a : w.heap.size + 1 < w22.heap.size + 1 := by omega
          replace rd1b : w.heap.size + 1 < w22.heap.size + 1 + 1 := by omega
          replace rd1c : w.heap.size + 1 < w22.heap.size + 1 + 1 + 1 := by omega
          replace rd1n : ¬ w.heap.size + 1 = w22.heap.size := by omega
          replace rd2 : w.heap.size + 1 + 1 < w22.heap.size := by omega
          replace rd2a : w.heap.size + 1 + 1 < w22.heap.size + 1 := by omega
          replace rd2b : w.heap.size + 1 + 1 < w22.heap.size + 1 + 1 := by omega
          replace rd2c : w.heap.size + 1 + 1 < w22.heap.size + 1 + 1 + 1 := by omega
          replace rd2n : ¬ w.heap.size + 1 + 1 = w22.heap.size := by omega
          replace HS := Lib.hid (HS.out.ext (Ext.trans (by repeat (first | with_reducible exact Ext.refl _ | with_reducible refine Ext.drew ?_ | with_reducible refine Ext.drewN ?_ _ | with_reducible refine Ext.alloc ?_ _ | with_reducible refine Ext.setCell ?_ (by first | omega | (simp; done) | (simp; omega)) _)) hx22))
          have X22 : Hid (Ext w w22) := Lib.hid (Ext.trans (by repeat (first | with_reducible exact X21.out | with_reducible refine Ext.drew ?_ | with_reducible refine Ext.drewN ?_ _ | with_reducible refine Ext.alloc ?_ _ | with_reducible refine Ext.setCell ?_ (by first | omega | (simp; done) | (simp; omega)) _)) hx22)
          clear X21 hx22 z22
          refine hK.out _ _ (by (first | exact ⟨d0_0, d0_1, d0_2, d0_3, d1_0, d1_1, d1_2, d1_3, d2_0, d2_1, d2_2, d2_3⟩ | (simp [go_sem, World.cell?_alloc_past, d0_0, d0_1, d0_2, d0_3, d1_0, d1_1, d1_2, d1_3, d2_0, d2_1, d2_2, d2_3, ne_d0_d1, ne_d0_d2, ne_d1_d0, ne_d1_d2, ne_d2_d0, ne_d2_d1, rd0, rd0a, rd0b, rd0c, rd0n, rd1, rd1a, rd1b, rd1c, rd1n, rd2, rd2a, rd2b, rd2c, rd2n]; done))) (fun hHeld => ?_); clear hK K; try simp only [Act.put, List.setIfInBounds_toArray, List.set_cons_zero, List.set_cons_succ]
          (refine' take_in 6 rfl (by kernel_rfl) (by kernel_rfl) (by kernel_rfl) (fun _ _ _ h => h) (by rfl) (by assumption) ?_ ?_; rotate_left; focus (intro w hSw; (try dsimp only at hSw); go_simp; try with_reducible rfl)); try simp only [Act.put, List.setIfInBounds_toArray, List.set_cons_zero, List.set_cons_succ]
          (refine' take_in 7 rfl (by kernel_rfl) (by kernel_rfl) (by kernel_rfl) (fun _ _ _ h => h) (by rfl) (by assumption) ?_ ?_; rotate_left; focus (intro w hSw; (try dsimp only at hSw); go_simp; try with_reducible rfl)); try simp only [Act.put, List.setIfInBounds_toArray, List.set_cons_zero, List.set_cons_succ]
          refine wpAnyH_done (by kernel_rfl) ?_ _
          go_wp2_with fail
          (with_reducible refine (C4.out _).mono ?_)
          rintro e w23 ⟨rfl, hx23⟩
          replace d0_0 : w23.cell? ⟨w.heap.size, 0, none⟩ = some (.int .i64 V) := hx23.has (by first | exact d0_0 | (simp [go_sem, World.cell?_alloc_past, d0_0, d0_1, d0_2, d0_3, d1_0, d1_1, d1_2, d1_3, d2_0, d2_1, d2_2, d2_3, ne_d0_d1, ne_d0_d2, ne_d1_d0, ne_d1_d2, ne_d2_d0, ne_d2_d1, rd0, rd0a, rd0b, rd0c, rd0n, rd1, rd1a, rd1b, rd1c, rd1n, rd2, rd2a, rd2b, rd2c, rd2n]; done))
          replace d0_1 : w23.cell? ⟨w.heap.size, 1, none⟩ = some (.int .i64 S) := hx23.has (by first | exact d0_1 | (simp [go_sem, World.cell?_alloc_past, d0_0, d0_1, d0_2, d0_3, d1_0, d1_1, d1_2, d1_3, d2_0, d2_1, d2_2, d2_3, ne_d0_d1, ne_d0_d2, ne_d1_d0, ne_d1_d2, ne_d2_d0, ne_d2_d1, rd0, rd0a, rd0b, rd0c, rd0n, rd1, rd1a, rd1b, rd1c, rd1n, rd2, rd2a, rd2b, rd2c, rd2n]; done))
          replace d0_2 : w23.cell? ⟨w.heap.size, 2, none⟩ = some (.int .i64 P) := hx23.has (by first | exact d0_2 | (simp [go_sem, World.cell?_alloc_past, d0_0, d0_1, d0_2, d0_3, d1_0, d1_1, d1_2, d1_3, d2_0, d2_1, d2_2, d2_3, ne_d0_d1, ne_d0_d2, ne_d1_d0, ne_d1_d2, ne_d2_d0, ne_d2_d1, rd0, rd0a, rd0b, rd0c, rd0n, rd1, rd1a, rd1b, rd1c, rd1n, rd2, rd2a, rd2b, rd2c, rd2n]; done))
          replace d0_3 : w23.cell? ⟨w.heap.size, 3, none⟩ = some (.int .i64 F) := hx23.has (by first | exact d0_3 | (simp [go_sem, World.cell?_alloc_past, d0_0, d0_1, d0_2, d0_3, d1_0, d1_1, d1_2, d1_3, d2_0, d2_1, d2_2, d2_3, ne_d0_d1, ne_d0_d2, ne_d1_d0, ne_d1_d2, ne_d2_d0, ne_d2_d1, rd0, rd0a, rd0b, rd0c, rd0n, rd1, rd1a, rd1b, rd1c, rd1n, rd2, rd2a, rd2b, rd2c, rd2n]; done))
          replace d1_0 : w23.cell? ⟨w.heap.size + 1, 0, none⟩ = some (.int .i64 V') := hx23.has (by first | exact d1_0 | (simp [go_sem, World.cell?_alloc_past, d0_0, d0_1, d0_2, d0_3, d1_0, d1_1, d1_2, d1_3, d2_0, d2_1, d2_2, d2_3, ne_d0_d1, ne_d0_d2, ne_d1_d0, ne_d1_d2, ne_d2_d0, ne_d2_d1, rd0, rd0a, rd0b, rd0c, rd0n, rd1, rd1a, rd1b, rd1c, rd1n, rd2, rd2a, rd2b, rd2c, rd2n]; done))
          replace d1_1 : w23.cell? ⟨w.heap.size + 1, 1, none⟩ = some (.int .i64 S') := hx23.has (by first | exact d1_1 | (simp [go_sem, World.cell?_alloc_past, d0_0, d0_1, d0_2, d0_3, d1_0, d1_1, d1_2, d1_3, d2_0, d2_1, d2_2, d2_3, ne_d0_d1, ne_d0_d2, ne_d1_d0, ne_d1_d2, ne_d2_d0, ne_d2_d1, rd0, rd0a, rd0b, rd0c, rd0n, rd1, rd1a, rd1b, rd1c, rd1n, rd2, rd2a, rd2b, rd2c, rd2n]; done))
          replace d1_2 : w23.cell? ⟨w.heap.size + 1, 2, none⟩ = some (.int .i64 P') := hx23.has (by first | exact d1_2 | (simp [go_sem, World.cell?_alloc_past, d0_0, d0_1, d0_2, d0_3, d1_0, d1_1, d1_2, d1_3, d2_0, d2_1, d2_2, d2_3, ne_d0_d1, ne_d0_d2, ne_d1_d0, ne_d1_d2, ne_d2_d0, ne_d2_d1, rd0, rd0a, rd0b, rd0c, rd0n, rd1, rd1a, rd1b, rd1c, rd1n, rd2, rd2a, rd2b, rd2c, rd2n]; done))
          replace d1_3 : w23.cell? ⟨w.heap.size + 1, 3, none⟩ = some (.int .i64 F') := hx23.has (by first | exact d1_3 | (simp [go_sem, World.cell?_alloc_past, d0_0, d0_1, d0_2, d0_3, d1_0, d1_1, d1_2, d1_3, d2_0, d2_1, d2_2, d2_3, ne_d0_d1, ne_d0_d2, ne_d1_d0, ne_d1_d2, ne_d2_d0, ne_d2_d1, rd0, rd0a, rd0b, rd0c, rd0n, rd1, rd1a, rd1b, rd1c, rd1n, rd2, rd2a, rd2b, rd2c, rd2n]; done))
          replace d2_0 : w23.cell? ⟨w.heap.size + 1 + 1, 0, none⟩ = some (.int .i64 V'') := hx23.has (by first | exact d2_0 | (simp [go_sem, World.cell?_alloc_past, d0_0, d0_1, d0_2, d0_3, d1_0, d1_1, d1_2, d1_3, d2_0, d2_1, d2_2, d2_3, ne_d0_d1, ne_d0_d2, ne_d1_d0, ne_d1_d2, ne_d2_d0, ne_d2_d1, rd0, rd0a, rd0b, rd0c, rd0n, rd1, rd1a, rd1b, rd1c, rd1n, rd2, rd2a, rd2b, rd2c, rd2n]; done))
          replace d2_1 : w23.cell? ⟨w.heap.size + 1 + 1, 1, none⟩ = some (.int .i64 S'') := hx23.has (by first | exact d2_1 | (simp [go_sem, World.cell?_alloc_past, d0_0, d0_1, d0_2, d0_3, d1_0, d1_1, d1_2, d1_3, d2_0, d2_1, d2_2, d2_3, ne_d0_d1, ne_d0_d2, ne_d1_d0, ne_d1_d2, ne_d2_d0, ne_d2_d1, rd0, rd0a, rd0b, rd0c, rd0n, rd1, rd1a, rd1b, rd1c, rd1n, rd2, rd2a, rd2b, rd2c, rd2n]; done))
          replace d2_2 : w23.cell? ⟨w.heap.size + 1 + 1, 2, none⟩ = some (.int .i64 P'') := hx23.has (by first | exact d2_2 | (simp [go_sem, World.cell?_alloc_past, d0_0, d0_1, d0_2, d0_3, d1_0, d1_1, d1_2, d1_3, d2_0, d2_1, d2_2, d2_3, ne_d0_d1, ne_d0_d2, ne_d1_d0, ne_d1_d2, ne_d2_d0, ne_d2_d1, rd0, rd0a, rd0b, rd0c, rd0n, rd1, rd1a, rd1b, rd1c, rd1n, rd2, rd2a, rd2b, rd2c, rd2n]; done))
          replace d2_3 : w23.cell? ⟨w.heap.size + 1 + 1, 3, none⟩ = some (.int .i64 F'') := hx23.has (by first | exact d2_3 | (simp [go_sem, World.cell?_alloc_past, d0_0, d0_1, d0_2, d0_3, d1_0, d1_1, d1_2, d1_3, d2_0, d2_1, d2_2, d2_3, ne_d0_d1, ne_d0_d2, ne_d1_d0, ne_d1_d2, ne_d2_d0, ne_d2_d1, rd0, rd0a, rd0b, rd0c, rd0n, rd1, rd1a, rd1b, rd1c, rd1n, rd2, rd2a, rd2b, rd2c, rd2n]; done))
          have z23 := hx23.size
          try simp at z23
          replace rd0 : w.heap.size < w23.heap.size := by omega
          replace rd0a : w.heap.size < w23.heap.size + 1 := by omega
          replace rd0b : w.heap.size < w23.heap.size + 1 + 1 := by omega
          replace rd0c : w.heap.size < w23.heap.size + 1 + 1 + 1 := by omega
          replace rd0n : ¬ w.heap.size = w23.heap.size := by omega
          replace rd1 : w.heap.size + 1 < w23.heap.size := by omega
          replace rd1a : w.heap.size + 1 < w23.heap.size + 1 := by omega
          replace rd1b : w.heap.size + 1 < w23.heap.size + 1 + 1 := by omega
          replace rd1c : w.heap.size + 1 < w23.heap.size + 1 + 1 + 1 := by omega
          replace rd1n : ¬ w.heap.size + 1 = w23.heap.size := by omega
          replace rd2 : w.heap.size + 1 + 1 < w23.heap.size := by omega
          replace rd2a : w.heap.size + 1 + 1 < w23.heap.size + 1 := by omega
          replace rd2b : w.heap.size + 1 + 1 < w23.heap.size + 1 + 1 := by omega
          replace rd2c : w.heap.size + 1 + 1 < w23.heap.size + 1 + 1 + 1 := by omega
          replace rd2n : ¬ w.heap.size + 1 + 1 = w23.heap.size := by omega
          replace HS := Lib.hid (HS.out.ext (Ext.trans (by repeat (first | with_reducible exact Ext.refl _ | with_reducible refine Ext.drew ?_ | with_reducible refine Ext.drewN ?_ _ | with_reducible refine Ext.alloc ?_ _ | with_reducible refine Ext.setCell ?_ (by first | omega | (simp; done) | (simp; omega)) _)) hx23))
          have X23 : Hid (Ext w w23) := Lib.hid (Ext.trans (by repeat (first | with_reducible exact X22.out | with_reducible refine Ext.drew ?_ | with_reducible refine Ext.drewN ?_ _ | with_reducible refine Ext.alloc ?_ _ | with_reducible refine Ext.setCell ?_ (by first | omega | (simp; done) | (simp; omega)) _)) hx23)
          clear X22 hx23 z23
          go_wp2_with fail
          all_goals (go_ret; exact ⟨rfl, (by repeat (first | with_reducible exact X23.out | with_reducible refine Ext.drew ?_ | with_reducible refine Ext.drewN ?_ _ | with_reducible refine Ext.alloc ?_ _ | with_reducible refine Ext.setCell ?_ (by first | omega | (simp; done) | (simp; omega)) _))⟩)
        · obtain ⟨k, hk, C3⟩ := HC3.out (by decide) (by omega)
          have hkb : decide (k ≤ 0) = true := decide_eq_true hk
          have hnb : decide (0 < n) = false := decide_eq_false hn
          clear hn hk
          have hne : ¬ (V = V' ∧ S = S' ∧ P = P' ∧ F = F') := fun hh => absurd (Hm0.out.2 hh) (by decide)
          clear Hm0
          go_wp2_with fail
          refine wp_region_held_drew (S := fun w' => w'.cell? ⟨w.heap.size, 0, none⟩ = some (.int .i64 V) ∧ w'.cell? ⟨w.heap.size, 1, none⟩ = some (.int .i64 S) ∧ w'.cell? ⟨w.heap.size, 2, none⟩ = some (.int .i64 P) ∧ w'.cell? ⟨w.heap.size, 3, none⟩ = some (.int .i64 F) ∧ w'.cell? ⟨w.heap.size + 1, 0, none⟩ = some (.int .i64 V') ∧ w'.cell? ⟨w.heap.size + 1, 1, none⟩ = some (.int .i64 S') ∧ w'.cell? ⟨w.heap.size + 1, 2, none⟩ = some (.int .i64 P') ∧ w'.cell? ⟨w.heap.size + 1, 3, none⟩ = some (.int .i64 F') ∧ w'.cell? ⟨w.heap.size + 1 + 1, 0, none⟩ = some (.int .i64 V'') ∧ w'.cell? ⟨w.heap.size + 1 + 1, 1, none⟩ = some (.int .i64 S'') ∧ w'.cell? ⟨w.heap.size + 1 + 1, 2, none⟩ = some (.int .i64 P'') ∧ w'.cell? ⟨w.heap.size + 1 + 1, 3, none⟩ = some (.int .i64 F'')) (by kernel_rfl) (by first | exact ⟨d0_0, d0_1, d0_2, d0_3, d1_0, d1_1, d1_2, d1_3, d2_0, d2_1, d2_2, d2_3⟩ | (simp [go_sem, World.cell?_alloc_past, d0_0, d0_1, d0_2, d0_3, rd0, rd0a, rd0b, rd0c, rd0n, d1_0, d1_1, d1_2, d1_3, rd1, rd1a, rd1b, rd1c, rd1n, d2_0, d2_1, d2_2, d2_3, rd2, rd2a, rd2b, rd2c, rd2n]; done)) (fun hHeld => ?_)
          (refine' take_in 0 rfl (by kernel_rfl) (by kernel_rfl) (by kernel_rfl) (fun _ _ _ h => h) (by rfl) (by assumption) ?_ ?_; rotate_left; focus (intro w hSw; (try dsimp only at hSw); go_simp; try with_reducible rfl)); try simp only [Act.put, List.setIfInBounds_toArray, List.set_cons_zero, List.set_cons_succ]
          (refine' take_in 1 rfl (by kernel_rfl) (by kernel_rfl) (by kernel_rfl) (fun _ _ _ h => h) (by rfl) (by assumption) ?_ ?_; rotate_left; focus (intro w hSw; (try dsimp only at hSw); go_simp; try with_reducible rfl)); try simp only [Act.put, List.setIfInBounds_toArray, List.set_cons_zero, List.set_cons_succ]
          (refine' take_in 3 rfl (by kernel_rfl) (by kernel_rfl) (by kernel_rfl) (fun _ _ _ h => h) (by rfl) (by assumption) ?_ ?_; rotate_left; focus (intro w hSw; (try dsimp only at hSw); go_simp; try with_reducible rfl)); try simp only [Act.put, List.setIfInBounds_toArray, List.set_cons_zero, List.set_cons_succ]
          (refine' take_in 4 rfl (by kernel_rfl) (by kernel_rfl) (by kernel_rfl) (fun _ _ _ h => h) (by rfl) (by assumption) ?_ ?_; rotate_left; focus (intro w hSw; (try dsimp only at hSw); go_simp; try with_reducible rfl)); try simp only [Act.put, List.setIfInBounds_toArray, List.set_cons_zero, List.set_cons_succ]
          refine' next_in 2 rfl (by kernel_rfl) (by rfl) (fun K hK => ?_)
          go_simp
          (with_reducible refine (C1.out _).mono ?_)
          rintro e w21 ⟨rfl, hx21⟩
          replace d0_0 : w21.cell? ⟨w.heap.size, 0, none⟩ = some (.int .i64 V) := hx21.has (by first | exact d0_0 | (simp [go_sem, World.cell?_alloc_past, d0_0, d0_1, d0_2, d0_3, rd0, rd0a, rd0b, rd0c, rd0n, d1_0, d1_1, d1_2, d1_3, rd1, rd1a, rd1b, rd1c, rd1n, d2_0, d2_1, d2_2, d2_3, rd2, rd2a, rd2b, rd2c, rd2n]; done))
          replace d0_1 : w21.cell? ⟨w.heap.size, 1, none⟩ = some (.int .i64 S) := hx21.has (by first | exact d0_1 | (simp [go_sem, World.cell?_alloc_past, d0_0, d0_1, d0_2, d0_3, rd0, rd0a, rd0b, rd0c, rd0n, d1_0, d1_1, d1_2, d1_3, rd1, rd1a, rd1b, rd1c, rd1n, d2_0, d2_1, d2_2, d2_3, rd2, rd2a, rd2b, rd2c, rd2n]; done))
          replace d0_2 : w21.cell? ⟨w.heap.size, 2, none⟩ = some (.int .i64 P) := hx21.has (by first | exact d0_2 | (simp [go_sem, World.cell?_alloc_past, d0_0, d0_1, d0_2, d0_3, rd0, rd0a, rd0b, rd0c, rd0n, d1_0, d1_1, d1_2, d1_3, rd1, rd1a, rd1b, rd1c, rd1n, d2_0, d2_1, d2_2, d2_3, rd2, rd2a, rd2b, rd2c, rd2n]; done))
          replace d0_3 : w21.cell? ⟨w.heap.size, 3, none⟩ = some (.int .i64 F) := hx21.has (by first | exact d0_3 | (simp [go_sem, World.cell?_alloc_past, d0_0, d0_1, d0_2, d0_3, rd0, rd0a, rd0b, rd0c, rd0n, d1_0, d1_1, d1_2, d1_3, rd1, rd1a, rd1b, rd1c, rd1n, d2_0, d2_1, d2_2, d2_3, rd2, rd2a, rd2b, rd2c, rd2n]; done))
          replace d1_0 : w21.cell? ⟨w.heap.size + 1, 0, none⟩ = some (.int .i64 V') := hx21.has (by first | exact d1_0 | (simp [go_sem, World.cell?_alloc_past, d0_0, d0_1, d0_2, d0_3, rd0, rd0a, rd0b, rd0c, rd0n, d1_0, d1_1, d1_2, d1_3, rd1, rd1a, rd1b, rd1c, rd1n, d2_0, d2_1, d2_2, d2_3, rd2, rd2a, rd2b, rd2c, rd2n]; done))
          replace d1_1 : w21.cell? ⟨w.heap.size + 1, 1, none⟩ = some (.int .i64 S') := hx21.has (by first | exact d1_1 | (simp [go_sem, World.cell?_alloc_past, d0_0, d0_1, d0_2, d0_3, rd0, rd0a, rd0b, rd0c, rd0n, d1_0, d1_1, d1_2, d1_3, rd1, rd1a, rd1b, rd1c, rd1n, d2_0, d2_1, d2_2, d2_3, rd2, rd2a, rd2b, rd2c, rd2n]; done))
          replace d1_2 : w21.cell? ⟨w.heap.size + 1, 2, none⟩ = some (.int .i64 P') := hx21.has (by first | exact d1_2 | (simp [go_sem, World.cell?_alloc_past, d0_0, d0_1, d0_2, d0_3, rd0, rd0a, rd0b, rd0c, rd0n, d1_0, d1_1, d1_2, d1_3, rd1, rd1a, rd1b, rd1c, rd1n, d2_0, d2_1, d2_2, d2_3, rd2, rd2a, rd2b, rd2c, rd2n]; done))
          replace d1_3 : w21.cell? ⟨w.heap.size + 1, 3, none⟩ = some (.int .i64 F') := hx21.has (by first | exact d1_3 | (simp [go_sem, World.cell?_alloc_past, d0_0, d0_1, d0_2, d0_3, rd0, rd0a, rd0b, rd0c, rd0n, d1_0, d1_1, d1_2, d1_3, rd1, rd1a, rd1b, rd1c, rd1n, d2_0, d2_1, d2_2, d2_3, rd2, rd2a, rd2b, rd2c, rd2n]; done))
          replace d2_0 : w21.cell? ⟨w.heap.size + 1 + 1, 0, none⟩ = some (.int .i64 V'') := hx21.has (by first | exact d2_0 | (simp [go_sem, World.cell?_alloc_past, d0_0, d0_1, d0_2, d0_3, rd0, rd0a, rd0b, rd0c, rd0n, d1_0, d1_1, d1_2, d1_3, rd1, rd1a, rd1b, rd1c, rd1n, d2_0, d2_1, d2_2, d2_3, rd2, rd2a, rd2b, rd2c, rd2n]; done))
          replace d2_1 : w21.cell? ⟨w.heap.size + 1 + 1, 1, none⟩ = some (.int .i64 S'') := hx21.has (by first | exact d2_1 | (simp [go_sem, World.cell?_alloc_past, d0_0, d0_1, d0_2, d0_3, rd0, rd0a, rd0b, rd0c, rd0n, d1_0, d1_1, d1_2, d1_3, rd1, rd1a, rd1b, rd1c, rd1n, d2_0, d2_1, d2_2, d2_3, rd2, rd2a, rd2b, rd2c, rd2n]; done))
          replace d2_2 : w21.cell? ⟨w.heap.size + 1 + 1, 2, none⟩ = some (.int .i64 P'') := hx21.has (by first | exact d2_2 | (simp [go_sem, World.cell?_alloc_past, d0_0, d0_1, d0_2, d0_3, rd0, rd0a, rd0b, rd0c, rd0n, d1_0, d1_1, d1_2, d1_3, rd1, rd1a, rd1b, rd1c, rd1n, d2_0, d2_1, d2_2, d2_3, rd2, rd2a, rd2b, rd2c, rd2n]; done))
          replace d2_3 : w21.cell? ⟨w.heap.size + 1 + 1, 3, none⟩ = some (.int .i64 F'') := hx21.has (by first | exact d2_3 | (simp [go_sem, World.cell?_alloc_past, d0_0, d0_1, d0_2, d0_3, rd0, rd0a, rd0b, rd0c, rd0n, d1_0, d1_1, d1_2, d1_3, rd1, rd1a, rd1b, rd1c, rd1n, d2_0, d2_1, d2_2, d2_3, rd2, rd2a, rd2b, rd2c, rd2n]; done))
          have z21 := hx21.size
          try simp at z21
          have ne_d0_d1 : ¬ w.heap.size = w.heap.size + 1 := by omega
          have ne_d0_d2 : ¬ w.heap.size = w.heap.size + 1 + 1 := by omega
          have ne_d1_d0 : ¬ w.heap.size + 1 = w.heap.size := by omega
          have ne_d1_d2 : ¬ w.heap.size + 1 = w.heap.size + 1 + 1 := by omega
          have ne_d2_d0 : ¬ w.heap.size + 1 + 1 = w.heap.size := by omega
          have ne_d2_d1 : ¬ w.heap.size + 1 + 1 = w.heap.size + 1 := by omega
          replace rd0 : w.heap.size < w21.heap.size := by omega
          replace rd0a : w.heap.size < w21.heap.size + 1 := by omega
          replace rd0b : w.heap.size < w21.heap.size + 1 + 1 := by omega
          replace rd0c : w.heap.size < w21.heap.size + 1 + 1 + 1 := by omega
          replace rd0n : ¬ w.heap.size = w21.heap.size := by omega
          replace rd1 : w.heap.size + 1 < w21.heap.size := by omega
          replace rd1a : w.heap.size + 1 < w21.heap.size + 1 := by omega
          replace rd1b : w.heap.size + 1 < w21.heap.size + 1 + 1 := by omega
          replace rd1c : w.heap.size + 1 < w21.heap.size + 1 + 1 + 1 := by omega
          replace rd1n : ¬ w.heap.size + 1 = w21.heap.size := by omega
          replace rd2 : w.heap.size + 1 + 1 < w21.heap.size := by omega
          replace rd2a : w.heap.size + 1 + 1 < w21.heap.size + 1 := by omega
          replace rd2b : w.heap.size + 1 + 1 < w21.heap.size + 1 + 1 := by omega
          replace rd2c : w.heap.size + 1 + 1 < w21.heap.size + 1 + 1 + 1 := by omega
          replace rd2n : ¬ w.heap.size + 1 + 1 = w21.heap.size := by omega
          replace HS := Lib.hid (HS.out.ext (Ext.trans (by repeat (first | with_reducible exact Ext.refl _ | with_reducible refine Ext.drew ?_ | with_reducible refine Ext.drewN ?_ _ | with_reducible refine Ext.alloc ?_ _ | with_reducible refine Ext.setCell ?_ (by first | omega | (simp; done) | (simp; omega)) _)) hx21))
          have X21 : Hid (Ext w w21) := Lib.hid (Ext.trans (by repeat (first | with_reducible exact XC.out | with_reducible refine Ext.drew ?_ | with_reducible refine Ext.drewN ?_ _ | with_reducible refine Ext.alloc ?_ _ | with_reducible refine Ext.setCell ?_ (by first | omega | (simp; done) | (simp; omega)) _)) hx21)
          clear XC hx21 z21
          refine hK.out _ _ (by (first | exact ⟨d0_0, d0_1, d0_2, d0_3, d1_0, d1_1, d1_2, d1_3, d2_0, d2_1, d2_2, d2_3⟩ | (simp [go_sem, World.cell?_alloc_past, d0_0, d0_1, d0_2, d0_3, d1_0, d1_1, d1_2, d1_3, d2_0, d2_1, d2_2, d2_3, ne_d0_d1, ne_d0_d2, ne_d1_d0, ne_d1_d2, ne_d2_d0, ne_d2_d1, rd0, rd0a, rd0b, rd0c, rd0n, rd1, rd1a, rd1b, rd1c, rd1n, rd2, rd2a, rd2b, rd2c, rd2n]; done))) (fun hHeld => ?_); clear hK K; try simp only [Act.put, List.setIfInBounds_toArray, List.set_cons_zero, List.set_cons_succ]
          refine' next_in 5 rfl (by kernel_rfl) (by rfl) (fun K hK => ?_)
          go_simp
          (with_reducible refine (C2.out _).mono ?_)
          rintro e w22 ⟨rfl, hx22⟩
          replace d0_0 : w22.cell? ⟨w.heap.size, 0, none⟩ = some (.int .i64 V) := hx22.has (by first | exact d0_0 | (simp [go_sem, World.cell?_alloc_past, d0_0, d0_1, d0_2, d0_3, d1_0, d1_1, d1_2, d1_3, d2_0, d2_1, d2_2, d2_3, ne_d0_d1, ne_d0_d2, ne_d1_d0, ne_d1_d2, ne_d2_d0, ne_d2_d1, rd0, rd0a, rd0b, rd0c, rd0n, rd1, rd1a, rd1b, rd1c, rd1n, rd2, rd2a, rd2b, rd2c, rd2n]; done))
          replace d0_1 : w22.cell? ⟨w.heap.size, 1, none⟩ = some (.int .i64 S) := hx22.has (by first | exact d0_1 | (simp [go_sem, World.cell?_alloc_past, d0_0, d0_1, d0_2, d0_3, d1_0, d1_1, d1_2, d1_3, d2_0, d2_1, d2_2, d2_3, ne_d0_d1, ne_d0_d2, ne_d1_d0, ne_d1_d2, ne_d2_d0, ne_d2_d1, rd0, rd0a, rd0b, rd0c, rd0n, rd1, rd1a, rd1b, rd1c, rd1n, rd2, rd2a, rd2b, rd2c, rd2n]; done))
          replace d0_2 : w22.cell? ⟨w.heap.size, 2, none⟩ = some (.int .i64 P) := hx22.has (by first | exact d0_2 | (simp [go_sem, World.cell?_alloc_past, d0_0, d0_1, d0_2, d0_3, d1_0, d1_1, d1_2, d1_3, d2_0, d2_1, d2_2, d2_3, ne_d0_d1, ne_d0_d2, ne_d1_d0, ne_d1_d2, ne_d2_d0, ne_d2_d1, rd0, rd0a, rd0b, rd0c, rd0n, rd1, rd1a, rd1b, rd1c, rd1n, rd2, rd2a, rd2b, rd2c, rd2n]; done))
          replace d0_3 : w22.cell? ⟨w.heap.size, 3, none⟩ = some (.int .i64 F) := hx22.has (by first | exact d0_3 | (simp [go_sem, World.cell?_alloc_past, d0_0, d0_1, d0_2, d0_3, d1_0, d1_1, d1_2, d1_3, d2_0, d2_1, d2_2, d2_3, ne_d0_d1, ne_d0_d2, ne_d1_d0, ne_d1_d2, ne_d2_d0, ne_d2_d1, rd0, rd0a, rd0b, rd0c, rd0n, rd1, rd1a, rd1b, rd1c, rd1n, rd2, rd2a, rd2b, rd2c, rd2n]; done))
          replace d1_0 : w22.cell? ⟨w.heap.size + 1, 0, none⟩ = some (.int .i64 V') := hx22.has (by first | exact d1_0 | (simp [go_sem, World.cell?_alloc_past, d0_0, d0_1, d0_2, d0_3, d1_0, d1_1, d1_2, d1_3, d2_0, d2_1, d2_2, d2_3, ne_d0_d1, ne_d0_d2, ne_d1_d0, ne_d1_d2, ne_d2_d0, ne_d2_d1, rd0, rd0a, rd0b, rd0c, rd0n, rd1, rd1a, rd1b, rd1c, rd1n, rd2, rd2a, rd2b, rd2c, rd2n]; done))
          replace d1_1 : w22.cell? ⟨w.heap.size + 1, 1, none⟩ = some (.int .i64 S') := hx22.has (by first | exact d1_1 | (simp [go_sem, World.cell?_alloc_past, d0_0, d0_1, d0_2, d0_3, d1_0, d1_1, d1_2, d1_3, d2_0, d2_1, d2_2, d2_3, ne_d0_d1, ne_d0_d2, ne_d1_d0, ne_d1_d2, ne_d2_d0, ne_d2_d1, rd0, rd0a, rd0b, rd0c, rd0n, rd1, rd1a, rd1b, rd1c, rd1n, rd2, rd2a, rd2b, rd2c, rd2n]; done))
          replace d1_2 : w22.cell? ⟨w.heap.size + 1, 2, none⟩ = some (.int .i64 P') := hx22.has (by first | exact d1_2 | (simp [go_sem, World.cell?_alloc_past, d0_0, d0_1, d0_2, d0_3, d1_0, d1_1, d1_2, d1_3, d2_0, d2_1, d2_2, d2_3, ne_d0_d1, ne_d0_d2, ne_d1_d0, ne_d1_d2, ne_d2_d0, ne_d2_d1, rd0, rd0a, rd0b, rd0c, rd0n, rd1, rd1a, rd1b, rd1c, rd1n, rd2, rd2a, rd2b, rd2c, rd2n]; done))
          replace d1_3 : w22.cell? ⟨w.heap.size + 1, 3, none⟩ = some (.int .i64 F') := hx22.has (by first | exact d1_3 | (simp [go_sem, World.cell?_alloc_past, d0_0, d0_1, d0_2, d0_3, d1_0, d1_1, d1_2, d1_3, d2_0, d2_1, d2_2, d2_3, ne_d0_d1, ne_d0_d2, ne_d1_d0, ne_d1_d2, ne_d2_d0, ne_d2_d1, rd0, rd0a, rd0b, rd0c, rd0n, rd1, rd1a, rd1b, rd1c, rd1n, rd2, rd2a, rd2b, rd2c, rd2n]; done))
          replace d2_0 : w22.cell? ⟨w.heap.size + 1 + 1, 0, none⟩ = some (.int .i64 V'') := hx22.has (by first | exact d2_0 | (simp [go_sem, World.cell?_alloc_past, d0_0, d0_1, d0_2, d0_3, d1_0, d1_1, d1_2, d1_3, d2_0, d2_1, d2_2, d2_3, ne_d0_d1, ne_d0_d2, ne_d1_d0, ne_d1_d2, ne_d2_d0, ne_d2_d1, rd0, rd0a, rd0b, rd0c, rd0n, rd1, rd1a, rd1b, rd1c, rd1n, rd2, rd2a, rd2b, rd2c, rd2n]; done))
          replace d2_1 : w22.cell? ⟨w.heap.size + 1 + 1, 1, none⟩ = some (.int .i64 S'') := hx22.has (by first | exact d2_1 | (simp [go_sem, World.cell?_alloc_past, d0_0, d0_1, d0_2, d0_3, d1_0, d1_1, d1_2, d1_3, d2_0, d2_1, d2_2, d2_3, ne_d0_d1, ne_d0_d2, ne_d1_d0, ne_d1_d2, ne_d2_d0, ne_d2_d1, rd0, rd0a, rd0b, rd0c, rd0n, rd1, rd1a, rd1b, rd1c, rd1n, rd2, rd2a, rd2b, rd2c, rd2n]; done))
          replace d2_2 : w22.cell? ⟨w.heap.size + 1 + 1, 2, none⟩ = some (.int .i64 P'') := hx22.has (by first | exact d2_2 | (simp [go_sem, World.cell?_alloc_past, d0_0, d0_1, d0_2, d0_3, d1_0, d1_1, d1_2, d1_3, d2_0, d2_1, d2_2, d2_3, ne_d0_d1, ne_d0_d2, ne_d1_d0, ne_d1_d2, ne_d2_d0, ne_d2_d1, rd0, rd0a, rd0b, rd0c, rd0n, rd1, rd1a, rd1b, rd1c, rd1n, rd2, rd2a, rd2b, rd2c, rd2n]; done))
          replace d2_3 : w22.cell? ⟨w.heap.size + 1 + 1, 3, none⟩ = some (.int .i64 F'') := hx22.has (by first | exact d2_3 | (simp [go_sem, World.cell?_alloc_past, d0_0, d0_1, d0_2, d0_3, d1_0, d1_1, d1_2, d1_3, d2_0, d2_1, d2_2, d2_3, ne_d0_d1, ne_d0_d2, ne_d1_d0, ne_d1_d2, ne_d2_d0, ne_d2_d1, rd0, rd0a, rd0b, rd0c, rd0n, rd1, rd1a, rd1b, rd1c, rd1n, rd2, rd2a, rd2b, rd2c, rd2n]; done))
          have z22 := hx22.size
          try simp at z22
          replace rd0 : w.heap.size < w22.heap.size := by omega
          replace rd0a : w.heap.size < w22.heap.size + 1 := by omega
          replace rd0b : w.heap.size < w22.heap.size + 1 + 1 := by omega
          replace rd0c : w.heap.size < w22.heap.size + 1 + 1 + 1 := by omega
          replace rd0n : ¬ w.heap.size = w22.heap.size := by omega
          replace rd1 : w.heap.size + 1 < w22.heap.size := by omega
          replace rd1a : w.heap.size + 1 < w22.heap.size + 1 := by omega
          replace rd1b : w.heap.size + 1 < w22.heap.size + 1 + 1 := by omega
          replace rd1c : w.heap.size + 1 < w22.heap.size + 1 + 1 + 1 := by omega
          replace rd1n : ¬ w.heap.size + 1 = w22.heap.size := by omega
          replace rd2 : w.heap.size + 1 + 1 < w22.heap.size := by omega
          replace rd2a : w.heap.size + 1 + 1 < w22.heap.size + 1 := by omega
          replace rd2b : w.heap.size + 1 + 1 < w22.heap.size + 1 + 1 := by omega
          replace rd2c : w.heap.size + 1 + 1 < w22.heap.size + 1 + 1 + 1 := by omega
          replace rd2n : ¬ w.heap.size + 1 + 1 = w22.heap.size := by omega
          replace HS := Lib.hid (HS.out.ext (Ext.trans (by repeat (first | with_reducible exact Ext.refl _ | with_reducible refine Ext.drew ?_ | with_reducible refine Ext.drewN ?_ _ | with_reducible refine Ext.alloc ?_ _ | with_reducible refine Ext.setCell ?_ (by first | omega | (simp; done) | (simp; omega)) _)) hx22))
          have X22 : Hid (Ext w w22) := Lib.hid (Ext.trans (by repeat (first | with_reducible exact X21.out | with_reducible refine Ext.drew ?_ | with_reducible refine Ext.drewN ?_ _ | with_reducible refine Ext.alloc ?_ _ | with_reducible refine Ext.setCell ?_ (by first | omega | (simp; done) | (simp; omega)) _)) hx22)
          clear X21 hx22 z22
          refine hK.out _ _ (by (first | exact ⟨d0_0, d0_1, d0_2, d0_3, d1_0, d1_1, d1_2, d1_3, d2_0, d2_1, d2_2, d2_3⟩ | (simp [go_sem, World.cell?_alloc_past, d0_0, d0_1, d0_2, d0_3, d1_0, d1_1, d1_2, d1_3, d2_0, d2_1, d2_2, d2_3, ne_d0_d1, ne_d0_d2, ne_d1_d0, ne_d1_d2, ne_d2_d0, ne_d2_d1, rd0, rd0a, rd0b, rd0c, rd0n, rd1, rd1a, rd1b, rd1c, rd1n, rd2, rd2a, rd2b, rd2c, rd2n]; done))) (fun hHeld => ?_); clear hK K; try simp only [Act.put, List.setIfInBounds_toArray, List.set_cons_zero, List.set_cons_succ]
          (refine' take_in 6 rfl (by kernel_rfl) (by kernel_rfl) (by kernel_rfl) (fun _ _ _ h => h) (by rfl) (by assumption) ?_ ?_; rotate_left; focus (intro w hSw; (try dsimp only at hSw); go_simp; try with_reducible rfl)); try simp only [Act.put, List.setIfInBounds_toArray, List.set_cons_zero, List.set_cons_succ]
          (refine' take_in 7 rfl (by kernel_rfl) (by kernel_rfl) (by kernel_rfl) (fun _ _ _ h => h) (by rfl) (by assumption) ?_ ?_; rotate_left; focus (intro w hSw; (try dsimp only at hSw); go_simp; try with_reducible rfl)); try simp only [Act.put, List.setIfInBounds_toArray, List.set_cons_zero, List.set_cons_succ]
          refine wpAnyH_done (by kernel_rfl) ?_ _
          go_wp2_with fail
          (with_reducible refine (C3.out _).mono ?_)
          rintro e w23 ⟨rfl, hx23⟩
          replace d0_0 : w23.cell? ⟨w.heap.size, 0, none⟩ = some (.int .i64 V) := hx23.has (by first | exact d0_0 | (simp [go_sem, World.cell?_alloc_past, d0_0, d0_1, d0_2, d0_3, d1_0, d1_1, d1_2, d1_3, d2_0, d2_1, d2_2, d2_3, ne_d0_d1, ne_d0_d2, ne_d1_d0, ne_d1_d2, ne_d2_d0, ne_d2_d1, rd0, rd0a, rd0b, rd0c, rd0n, rd1, rd1a, rd1b, rd1c, rd1n, rd2, rd2a, rd2b, rd2c, rd2n]; done))
          replace d0_1 : w23.cell? ⟨w.heap.size, 1, none⟩ = some (.int .i64 S) := hx23.has (by first | exact d0_1 | (simp [go_sem, World.cell?_alloc_past, d0_0, d0_1, d0_2, d0_3, d1_0, d1_1, d1_2, d1_3, d2_0, d2_1, d2_2, d2_3, ne_d0_d1, ne_d0_d2, ne_d1_d0, ne_d1_d2, ne_d2_d0, ne_d2_d1, rd0, rd0a, rd0b, rd0c, rd0n, rd1, rd1a, rd1b, rd1c, rd1n, rd2, rd2a, rd2b, rd2c, rd2n]; done))
          replace d0_2 : w23.cell? ⟨w.heap.size, 2, none⟩ = some (.int .i64 P) := hx23.has (by first | exact d0_2 | (simp [go_sem, World.cell?_alloc_past, d0_0, d0_1, d0_2, d0_3, d1_0, d1_1, d1_2, d1_3, d2_0, d2_1, d2_2, d2_3, ne_d0_d1, ne_d0_d2, ne_d1_d0, ne_d1_d2, ne_d2_d0, ne_d2_d1, rd0, rd0a, rd0b, rd0c, rd0n, rd1, rd1a, rd1b, rd1c, rd1n, rd2, rd2a, rd2b, rd2c, rd2n]; done))
          replace d0_3 : w23.cell? ⟨w.heap.size, 3, none⟩ = some (.int .i64 F) := hx23.has (by first | exact d0_3 | (simp [go_sem, World.cell?_alloc_past, d0_0, d0_1, d0_2, d0_3, d1_0, d1_1, d1_2, d1_3, d2_0, d2_1, d2_2, d2_3, ne_d0_d1, ne_d0_d2, ne_d1_d0, ne_d1_d2, ne_d2_d0, ne_d2_d1, rd0, rd0a, rd0b, rd0c, rd0n, rd1, rd1a, rd1b, rd1c, rd1n, rd2, rd2a, rd2b, rd2c, rd2n]; done))
          replace d1_0 : w23.cell? ⟨w.heap.size + 1, 0, none⟩ = some (.int .i64 V') := hx23.has (by first | exact d1_0 | (simp [go_sem, World.cell?_alloc_past, d0_0, d0_1, d0_2, d0_3, d1_0, d1_1, d1_2, d1_3, d2_0, d2_1, d2_2, d2_3, ne_d0_d1, ne_d0_d2, ne_d1_d0, ne_d1_d2, ne_d2_d0, ne_d2_d1, rd0, rd0a, rd0b, rd0c, rd0n, rd1, rd1a, rd1b, rd1c, rd1n, rd2, rd2a, rd2b, rd2c, rd2n]; done))
          replace d1_1 : w23.cell? ⟨w.heap.size + 1, 1, none⟩ = some (.int .i64 S') := hx23.has (by first | exact d1_1 | (simp [go_sem, World.cell?_alloc_past, d0_0, d0_1, d0_2, d0_3, d1_0, d1_1, d1_2, d1_3, d2_0, d2_1, d2_2, d2_3, ne_d0_d1, ne_d0_d2, ne_d1_d0, ne_d1_d2, ne_d2_d0, ne_d2_d1, rd0, rd0a, rd0b, rd0c, rd0n, rd1, rd1a, rd1b, rd1c, rd1n, rd2, rd2a, rd2b, rd2c, rd2n]; done))
          replace d1_2 : w23.cell? ⟨w.heap.size + 1, 2, none⟩ = some (.int .i64 P') := hx23.has (by first | exact d1_2 | (simp [go_sem, World.cell?_alloc_past, d0_0, d0_1, d0_2, d0_3, d1_0, d1_1, d1_2, d1_3, d2_0, d2_1, d2_2, d2_3, ne_d0_d1, ne_d0_d2, ne_d1_d0, ne_d1_d2, ne_d2_d0, ne_d2_d1, rd0, rd0a, rd0b, rd0c, rd0n, rd1, rd1a, rd1b, rd1c, rd1n, rd2, rd2a, rd2b, rd2c, rd2n]; done))
          replace d1_3 : w23.cell? ⟨w.heap.size + 1, 3, none⟩ = some (.int .i64 F') := hx23.has (by first | exact d1_3 | (simp [go_sem, World.cell?_alloc_past, d0_0, d0_1, d0_2, d0_3, d1_0, d1_1, d1_2, d1_3, d2_0, d2_1, d2_2, d2_3, ne_d0_d1, ne_d0_d2, ne_d1_d0, ne_d1_d2, ne_d2_d0, ne_d2_d1, rd0, rd0a, rd0b, rd0c, rd0n, rd1, rd1a, rd1b, rd1c, rd1n, rd2, rd2a, rd2b, rd2c, rd2n]; done))
          replace d2_0 : w23.cell? ⟨w.heap.size + 1 + 1, 0, none⟩ = some (.int .i64 V'') := hx23.has (by first | exact d2_0 | (simp [go_sem, World.cell?_alloc_past, d0_0, d0_1, d0_2, d0_3, d1_0, d1_1, d1_2, d1_3, d2_0, d2_1, d2_2, d2_3, ne_d0_d1, ne_d0_d2, ne_d1_d0, ne_d1_d2, ne_d2_d0, ne_d2_d1, rd0, rd0a, rd0b, rd0c, rd0n, rd1, rd1a, rd1b, rd1c, rd1n, rd2, rd2a, rd2b, rd2c, rd2n]; done))
          replace d2_1 : w23.cell? ⟨w.heap.size + 1 + 1, 1, none⟩ = some (.int .i64 S'') := hx23.has (by first | exact d2_1 | (simp [go_sem, World.cell?_alloc_past, d0_0, d0_1, d0_2, d0_3, d1_0, d1_1, d1_2, d1_3, d2_0, d2_1, d2_2, d2_3, ne_d0_d1, ne_d0_d2, ne_d1_d0, ne_d1_d2, ne_d2_d0, ne_d2_d1, rd0, rd0a, rd0b, rd0c, rd0n, rd1, rd1a, rd1b, rd1c, rd1n, rd2, rd2a, rd2b, rd2c, rd2n]; done))
          replace d2_2 : w23.cell? ⟨w.heap.size + 1 + 1, 2, none⟩ = some (.int .i64 P'') := hx23.has (by first | exact d2_2 | (simp [go_sem, World.cell?_alloc_past, d0_0, d0_1, d0_2, d0_3, d1_0, d1_1, d1_2, d1_3, d2_0, d2_1, d2_2, d2_3, ne_d0_d1, ne_d0_d2, ne_d1_d0, ne_d1_d2, ne_d2_d0, ne_d2_d1, rd0, rd0a, rd0b, rd0c, rd0n, rd1, rd1a, rd1b, rd1c, rd1n, rd2, rd2a, rd2b, rd2c, rd2n]; done))
          replace d2_3 : w23.cell? ⟨w.heap.size + 1 + 1, 3, none⟩ = some (.int .i64 F'') := hx23.has (by first | exact d2_3 | (simp [go_sem, World.cell?_alloc_past, d0_0, d0_1, d0_2, d0_3, d1_0, d1_1, d1_2, d1_3, d2_0, d2_1, d2_2, d2_3, ne_d0_d1, ne_d0_d2, ne_d1_d0, ne_d1_d2, ne_d2_d0, ne_d2_d1, rd0, rd0a, rd0b, rd0c, rd0n, rd1, rd1a, rd1b, rd1c, rd1n, rd2, rd2a, rd2b, rd2c, rd2n]; done))
          have z23 := hx23.size
          try simp at z23
          replace rd0 : w.heap.size < w23.heap.size := by omega
          replace rd0a : w.heap.size < w23.heap.size + 1 := by omega
          replace rd0b : w.heap.size < w23.heap.size + 1 + 1 := by omega
          replace rd0c : w.heap.size < w23.heap.size + 1 + 1 + 1 := by omega
          replace rd0n : ¬ w.heap.size = w23.heap.size := by omega
          replace rd1 : w.heap.size + 1 < w23.heap.size := by omega
          replace rd1a : w.heap.size + 1 < w23.heap.size + 1 := by omega
          replace rd1b : w.heap.size + 1 < w23.heap.size + 1 + 1 := by omega
          replace rd1c : w.heap.size + 1 < w23.heap.size + 1 + 1 + 1 := by omega
          replace rd1n : ¬ w.heap.size + 1 = w23.heap.size := by omega
          replace rd2 : w.heap.size + 1 + 1 < w23.heap.size := by omega
          replace rd2a : w.heap.size + 1 + 1 < w23.heap.size + 1 := by omega
          replace rd2b : w.heap.size + 1 + 1 < w23.heap.size + 1 + 1 := by omega
          replace rd2c : w.heap.size + 1 + 1 < w23.heap.size + 1 + 1 + 1 := by omega
          replace rd2n : ¬ w.heap.size + 1 + 1 = w23.heap.size := by omega
          replace HS := Lib.hid (HS.out.ext (Ext.trans (by repeat (first | with_reducible exact Ext.refl _ | with_reducible refine Ext.drew ?_ | with_reducible refine Ext.drewN ?_ _ | with_reducible refine Ext.alloc ?_ _ | with_reducible refine Ext.setCell ?_ (by first | omega | (simp; done) | (simp; omega)) _)) hx23))
          have X23 : Hid (Ext w w23) := Lib.hid (Ext.trans (by repeat (first | with_reducible exact X22.out | with_reducible refine Ext.drew ?_ | with_reducible refine Ext.drewN ?_ _ | with_reducible refine Ext.alloc ?_ _ | with_reducible refine Ext.setCell ?_ (by first | omega | (simp; done) | (simp; omega)) _)) hx23)
          clear X22 hx23 z23
          go_wp2_with fail
          (with_reducible refine (C4.out _).mono ?_)
          rintro e w24 ⟨rfl, hx24⟩
          replace d0_0 : w24.cell? ⟨w.heap.size, 0, none⟩ = some (.int .i64 V) := hx24.has (by first | exact d0_0 | (simp [go_sem, World.cell?_alloc_past, d0_0, d0_1, d0_2, d0_3, d1_0, d1_1, d1_2, d1_3, d2_0, d2_1, d2_2, d2_3, ne_d0_d1, ne_d0_d2, ne_d1_d0, ne_d1_d2, ne_d2_d0, ne_d2_d1, rd0, rd0a, rd0b, rd0c, rd0n, rd1, rd1a, rd1b, rd1c, rd1n, rd2, rd2a, rd2b, rd2c, rd2n]; done))
          replace d0_1 : w24.cell? ⟨w.heap.size, 1, none⟩ = some (.int .i64 S) := hx24.has (by first | exact d0_1 | (simp [go_sem, World.cell?_alloc_past, d0_0, d0_1, d0_2, d0_3, d1_0, d1_1, d1_2, d1_3, d2_0, d2_1, d2_2, d2_3, ne_d0_d1, ne_d0_d2, ne_d1_d0, ne_d1_d2, ne_d2_d0, ne_d2_d1, rd0, rd0a, rd0b, rd0c, rd0n, rd1, rd1a, rd1b, rd1c, rd1n, rd2, rd2a, rd2b, rd2c, rd2n]; done))
          replace d0_2 : w24.cell? ⟨w.heap.size, 2, none⟩ = some (.int .i64 P) := hx24.has (by first | exact d0_2 | (simp [go_sem, World.cell?_alloc_past, d0_0, d0_1, d0_2, d0_3, d1_0, d1_1, d1_2, d1_3, d2_0, d2_1, d2_2, d2_3, ne_d0_d1, ne_d0_d2, ne_d1_d0, ne_d1_d2, ne_d2_d0, ne_d2_d1, rd0, rd0a, rd0b, rd0c, rd0n, rd1, rd1a, rd1b, rd1c, rd1n, rd2, rd2a, rd2b, rd2c, rd2n]; done))
          replace d0_3 : w24.cell? ⟨w.heap.size, 3, none⟩ = some (.int .i64 F) := hx24.has (by first | exact d0_3 | (simp [go_sem, World.cell?_alloc_past, d0_0, d0_1, d0_2, d0_3, d1_0, d1_1, d1_2, d1_3, d2_0, d2_1, d2_2, d2_3, ne_d0_d1, ne_d0_d2, ne_d1_d0, ne_d1_d2, ne_d2_d0, ne_d2_d1, rd0, rd0a, rd0b, rd0c, rd0n, rd1, rd1a, rd1b, rd1c, rd1n, rd2, rd2a, rd2b, rd2c, rd2n]; done))
          replace d1_0 : w24.cell? ⟨w.heap.size + 1, 0, none⟩ = some (.int .i64 V') := hx24.has (by first | exact d1_0 | (simp [go_sem, World.cell?_alloc_past, d0_0, d0_1, d0_2, d0_3, d1_0, d1_1, d1_2, d1_3, d2_0, d2_1, d2_2, d2_3, ne_d0_d1, ne_d0_d2, ne_d1_d0, ne_d1_d2, ne_d2_d0, ne_d2_d1, rd0, rd0a, rd0b, rd0c, rd0n, rd1, rd1a, rd1b, rd1c, rd1n, rd2, rd2a, rd2b, rd2c, rd2n]; done))
          replace d1_1 : w24.cell? ⟨w.heap.size + 1, 1, none⟩ = some (.int .i64 S') := hx24.has (by first | exact d1_1 | (simp [go_sem, World.cell?_alloc_past, d0_0, d0_1, d0_2, d0_3, d1_0, d1_1, d1_2, d1_3, d2_0, d2_1, d2_2, d2_3, ne_d0_d1, ne_d0_d2, ne_d1_d0, ne_d1_d2, ne_d2_d0, ne_d2_d1, rd0, rd0a, rd0b, rd0c, rd0n, rd1, rd1a, rd1b, rd1c, rd1n, rd2, rd2a, rd2b, rd2c, rd2n]; done))
          replace d1_2 : w24.cell? ⟨w.heap.size + 1, 2, none⟩ = some (.int .i64 P') := hx24.has (by first | exact d1_2 | (simp [go_sem, World.cell?_alloc_past, d0_0, d0_1, d0_2, d0_3, d1_0, d1_1, d1_2, d1_3, d2_0, d2_1, d2_2, d2_3, ne_d0_d1, ne_d0_d2, ne_d1_d0, ne_d1_d2, ne_d2_d0, ne_d2_d1, rd0, rd0a, rd0b, rd0c, rd0n, rd1, rd1a, rd1b, rd1c, rd1n, rd2, rd2a, rd2b, rd2c, rd2n]; done))
          replace d1_3 : w24.cell? ⟨w.heap.size + 1, 3, none⟩ = some (.int .i64 F') := hx24.has (by first | exact d1_3 | (simp [go_sem, World.cell?_alloc_past, d0_0, d0_1, d0_2, d0_3, d1_0, d1_1, d1_2, d1_3, d2_0, d2_1, d2_2, d2_3, ne_d0_d1, ne_d0_d2, ne_d1_d0, ne_d1_d2, ne_d2_d0, ne_d2_d1, rd0, rd0a, rd0b, rd0c, rd0n, rd1, rd1a, rd1b, rd1c, rd1n, rd2, rd2a, rd2b, rd2c, rd2n]; done))
          have z24 := hx24.size
          try simp at z24
          replace rd0 : w.heap.size < w24.heap.size := by omega
          replace rd0a : w.heap.size < w24.heap.size + 1 := by omega
          replace rd0b : w.heap.size < w24.heap.size + 1 + 1 := by omega
          replace rd0c : w.heap.size < w24.heap.size + 1 + 1 + 1 := by omega
          replace rd0n : ¬ w.heap.size = w24.heap.size := by omega
          replace rd1 : w.heap.size + 1 < w24.heap.size := by omega
          replace rd1a : w.heap.size + 1 < w24.heap.size + 1 := by omega
          replace rd1b : w.heap.size + 1 < w24.heap.size + 1 + 1 := by omega
          replace rd1c : w.heap.size + 1 < w24.heap.size + 1 + 1 + 1 := by omega
          replace rd1n : ¬ w.heap.size + 1 = w24.heap.size := by omega
          replace HS := Lib.hid (HS.out.ext (Ext.trans (by repeat (first | with_reducible exact Ext.refl _ | with_reducible refine Ext.drew ?_ | with_reducible refine Ext.drewN ?_ _ | with_reducible refine Ext.alloc ?_ _ | with_reducible refine Ext.setCell ?_ (by first | omega | (simp; done) | (simp; omega)) _)) hx24))
          have X24 : Hid (Ext w w24) := Lib.hid (Ext.trans (by repeat (first | with_reducible exact X23.out | with_reducible refine Ext.drew ?_ | with_reducible refine Ext.drewN ?_ _ | with_reducible refine Ext.alloc ?_ _ | with_reducible refine Ext.setCell ?_ (by first | omega | (simp; done) | (simp; omega)) _)) hx24)
          clear d2_2 d2_1 d2_3 d2_0 rd2 rd2a rd2b rd2c rd2n X23 hx24 z24
          go_wp2_with fail
          all_goals (go_ret; exact ⟨rfl, (by repeat (first | with_reducible exact X24.out | with_reducible refine Ext.drew ?_ | with_reducible refine Ext.drewN ?_ _ | with_reducible refine Ext.alloc ?_ _ | with_reducible refine Ext.setCell ?_ (by first | omega | (simp; done) | (simp; omega)) _))⟩)
      · by_cases hn : 0 < n
        · have hnb : decide (0 < n) = true := decide_eq_true hn
          clear hn HC3
          obtain ⟨rfl, rfl, rfl, rfl⟩ := Hm0.out.1 rfl
          clear Hm0
          go_wp2_with fail
          refine wp_region_held_drew (S := fun w' => w'.cell? ⟨w.heap.size, 0, none⟩ = some (.int .i64 V) ∧ w'.cell? ⟨w.heap.size, 1, none⟩ = some (.int .i64 S) ∧ w'.cell? ⟨w.heap.size, 2, none⟩ = some (.int .i64 P) ∧ w'.cell? ⟨w.heap.size, 3, none⟩ = some (.int .i64 F) ∧ w'.cell? ⟨w.heap.size + 1, 0, none⟩ = some (.int .i64 V) ∧ w'.cell? ⟨w.heap.size + 1, 1, none⟩ = some (.int .i64 S) ∧ w'.cell? ⟨w.heap.size + 1, 2, none⟩ = some (.int .i64 P) ∧ w'.cell? ⟨w.heap.size + 1, 3, none⟩ = some (.int .i64 F) ∧ w'.cell? ⟨w.heap.size + 1 + 1, 0, none⟩ = some (.int .i64 V'') ∧ w'.cell? ⟨w.heap.size + 1 + 1, 1, none⟩ = some (.int .i64 S'') ∧ w'.cell? ⟨w.heap.size + 1 + 1, 2, none⟩ = some (.int .i64 P'') ∧ w'.cell? ⟨w.heap.size + 1 + 1, 3, none⟩ = some (.int .i64 F'')) (by kernel_rfl) (by first | exact ⟨d0_0, d0_1, d0_2, d0_3, d1_0, d1_1, d1_2, d1_3, d2_0, d2_1, d2_2, d2_3⟩ | (simp [go_sem, World.cell?_alloc_past, d0_0, d0_1, d0_2, d0_3, rd0, rd0a, rd0b, rd0c, rd0n, d1_0, d1_1, d1_2, d1_3, rd1, rd1a, rd1b, rd1c, rd1n, d2_0, d2_1, d2_2, d2_3, rd2, rd2a, rd2b, rd2c, rd2n]; done)) (fun hHeld => ?_)
          (refine' take_in 0 rfl (by kernel_rfl) (by kernel_rfl) (by kernel_rfl) (fun _ _ _ h => h) (by rfl) (by assumption) ?_ ?_; rotate_left; focus (intro w hSw; (try dsimp only at hSw); go_simp; try with_reducible rfl)); try simp only [Act.put, List.setIfInBounds_toArray, List.set_cons_zero, List.set_cons_succ]
          (refine' take_in 1 rfl (by kernel_rfl) (by kernel_rfl) (by kernel_rfl) (fun _ _ _ h => h) (by rfl) (by assumption) ?_ ?_; rotate_left; focus (intro w hSw; (try dsimp only at hSw); go_simp; try with_reducible rfl)); try simp only [Act.put, List.setIfInBounds_toArray, List.set_cons_zero, List.set_cons_succ]
          (refine' take_in 3 rfl (by kernel_rfl) (by kernel_rfl) (by kernel_rfl) (fun _ _ _ h => h) (by rfl) (by assumption) ?_ ?_; rotate_left; focus (intro w hSw; (try dsimp only at hSw); go_simp; try with_reducible rfl)); try simp only [Act.put, List.setIfInBounds_toArray, List.set_cons_zero, List.set_cons_succ]
          (refine' take_in 4 rfl (by kernel_rfl) (by kernel_rfl) (by kernel_rfl) (fun _ _ _ h => h) (by rfl) (by assumption) ?_ ?_; rotate_left; focus (intro w hSw; (try dsimp only at hSw); go_simp; try with_reducible rfl)); try simp only [Act.put, List.setIfInBounds_toArray, List.set_cons_zero, List.set_cons_succ]
          refine' next_in 2 rfl (by kernel_rfl) (by rfl) (fun K hK => ?_)
          go_simp
          (with_reducible refine (C1.out _).mono ?_)
          rintro e w21 ⟨rfl, hx21⟩
          replace d0_0 : w21.cell? ⟨w.heap.size, 0, none⟩ = some (.int .i64 V) := hx21.has (by first | exact d0_0 | (simp [go_sem, World.cell?_alloc_past, d0_0, d0_1, d0_2, d0_3, rd0, rd0a, rd0b, rd0c, rd0n, d1_0, d1_1, d1_2, d1_3, rd1, rd1a, rd1b, rd1c, rd1n, d2_0, d2_1, d2_2, d2_3, rd2, rd2a, rd2b, rd2c, rd2n]; done))
          replace d0_1 : w21.cell? ⟨w.heap.size, 1, none⟩ = some (.int .i64 S) := hx21.has (by first | exact d0_1 | (simp [go_sem, World.cell?_alloc_past, d0_0, d0_1, d0_2, d0_3, rd0, rd0a, rd0b, rd0c, rd0n, d1_0, d1_1, d1_2, d1_3, rd1, rd1a, rd1b, rd1c, rd1n, d2_0, d2_1, d2_2, d2_3, rd2, rd2a, rd2b, rd2c, rd2n]; done))
          replace d0_2 : w21.cell? ⟨w.heap.size, 2, none⟩ = some (.int .i64 P) := hx21.has (by first | exact d0_2 | (simp [go_sem, World.cell?_alloc_past, d0_0, d0_1, d0_2, d0_3, rd0, rd0a, rd0b, rd0c, rd0n, d1_0, d1_1, d1_2, d1_3, rd1, rd1a, rd1b, rd1c, rd1n, d2_0, d2_1, d2_2, d2_3, rd2, rd2a, rd2b, rd2c, rd2n]; done))
          replace d0_3 : w21.cell? ⟨w.heap.size, 3, none⟩ = some (.int .i64 F) := hx21.has (by first | exact d0_3 | (simp [go_sem, World.cell?_alloc_past, d0_0, d0_1, d0_2, d0_3, rd0, rd0a, rd0b, rd0c, rd0n, d1_0, d1_1, d1_2, d1_3, rd1, rd1a, rd1b, rd1c, rd1n, d2_0, d2_1, d2_2, d2_3, rd2, rd2a, rd2b, rd2c, rd2n]; done))
          replace d1_0 : w21.cell? ⟨w.heap.size + 1, 0, none⟩ = some (.int .i64 V) := hx21.has (by first | exact d1_0 | (simp [go_sem, World.cell?_alloc_past, d0_0, d0_1, d0_2, d0_3, rd0, rd0a, rd0b, rd0c, rd0n, d1_0, d1_1, d1_2, d1_3, rd1, rd1a, rd1b, rd1c, rd1n, d2_0, d2_1, d2_2, d2_3, rd2, rd2a, rd2b, rd2c, rd2n]; done))
          replace d1_1 : w21.cell? ⟨w.heap.size + 1, 1, none⟩ = some (.int .i64 S) := hx21.has (by first | exact d1_1 | (simp [go_sem, World.cell?_alloc_past, d0_0, d0_1, d0_2, d0_3, rd0, rd0a, rd0b, rd0c, rd0n, d1_0, d1_1, d1_2, d1_3, rd1, rd1a, rd1b, rd1c, rd1n, d2_0, d2_1, d2_2, d2_3, rd2, rd2a, rd2b, rd2c, rd2n]; done))
          replace d1_2 : w21.cell? ⟨w.heap.size + 1, 2, none⟩ = some (.int .i64 P) := hx21.has (by first | exact d1_2 | (simp [go_sem, World.cell?_alloc_past, d0_0, d0_1, d0_2, d0_3, rd0, rd0a, rd0b, rd0c, rd0n, d1_0, d1_1, d1_2, d1_3, rd1, rd1a, rd1b, rd1c, rd1n, d2_0, d2_1, d2_2, d2_3, rd2, rd2a, rd2b, rd2c, rd2n]; done))
          replace d1_3 : w21.cell? ⟨w.heap.size + 1, 3, none⟩ = some (.int .i64 F) := hx21.has (by first | exact d1_3 | (simp [go_sem, World.cell?_alloc_past, d0_0, d0_1, d0_2, d0_3, rd0, rd0a, rd0b, rd0c, rd0n, d1_0, d1_1, d1_2, d1_3, rd1, rd1a, rd1b, rd1c, rd1n, d2_0, d2_1, d2_2, d2_3, rd2, rd2a, rd2b, rd2c, rd2n]; done))
          replace d2_0 : w21.cell? ⟨w.heap.size + 1 + 1, 0, none⟩ = some (.int .i64 V'') := hx21.has (by first | exact d2_0 | (simp [go_sem, World.cell?_alloc_past, d0_0, d0_1, d0_2, d0_3, rd0, rd0a, rd0b, rd0c, rd0n, d1_0, d1_1, d1_2, d1_3, rd1, rd1a, rd1b, rd1c, rd1n, d2_0, d2_1, d2_2, d2_3, rd2, rd2a, rd2b, rd2c, rd2n]; done))
          replace d2_1 : w21.cell? ⟨w.heap.size + 1 + 1, 1, none⟩ = some (.int .i64 S'') := hx21.has (by first | exact d2_1 | (simp [go_sem, World.cell?_alloc_past, d0_0, d0_1, d0_2, d0_3, rd0, rd0a, rd0b, rd0c, rd0n, d1_0, d1_1, d1_2, d1_3, rd1, rd1a, rd1b, rd1c, rd1n, d2_0, d2_1, d2_2, d2_3, rd2, rd2a, rd2b, rd2c, rd2n]; done))
          replace d2_2 : w21.cell? ⟨w.heap.size + 1 + 1, 2, none⟩ = some (.int .i64 P'') := hx21.has (by first | exact d2_2 | (simp [go_sem, World.cell?_alloc_past, d0_0, d0_1, d0_2, d0_3, rd0, rd0a, rd0b, rd0c, rd0n, d1_0, d1_1, d1_2, d1_3, rd1, rd1a, rd1b, rd1c, rd1n, d2_0, d2_1, d2_2, d2_3, rd2, rd2a, rd2b, rd2c, rd2n]; done))
          replace d2_3 : w21.cell? ⟨w.heap.size + 1 + 1, 3, none⟩ = some (.int .i64 F'') := hx21.has (by first | exact d2_3 | (simp [go_sem, World.cell?_alloc_past, d0_0, d0_1, d0_2, d0_3, rd0, rd0a, rd0b, rd0c, rd0n, d1_0, d1_1, d1_2, d1_3, rd1, rd1a, rd1b, rd1c, rd1n, d2_0, d2_1, d2_2, d2_3, rd2, rd2a, rd2b, rd2c, rd2n]; done))
          have z21 := hx21.size
          try simp at z21
          have ne_d0_d1 : ¬ w.heap.size = w.heap.size + 1 := by omega
          have ne_d0_d2 : ¬ w.heap.size = w.heap.size + 1 + 1 := by omega
          have ne_d1_d0 : ¬ w.heap.size + 1 = w.heap.size := by omega
          have ne_d1_d2 : ¬ w.heap.size + 1 = w.heap.size + 1 + 1 := by omega
          have ne_d2_d0 : ¬ w.heap.size + 1 + 1 = w.heap.size := by omega
          have ne_d2_d1 : ¬ w.heap.size + 1 + 1 = w.heap.size + 1 := by omega
          replace rd0 : w.heap.size < w21.heap.size := by omega
          replace rd0a : w.heap.size < w21.heap.size + 1 := by omega
          replace rd0b : w.heap.size < w21.heap.size + 1 + 1 := by omega
          replace rd0c : w.heap.size < w21.heap.size + 1 + 1 + 1 := by omega
          replace rd0n : ¬ w.heap.size = w21.heap.size := by omega
          replace rd1 : w.heap.size + 1 < w21.heap.size := by omega
          replace rd1a : w.heap.size + 1 < w21.heap.size + 1 := by omega
          replace rd1b : w.heap.size + 1 < w21.heap.size + 1 + 1 := by omega
          replace rd1c : w.heap.size + 1 < w21.heap.size + 1 + 1 + 1 := by omega
          replace rd1n : ¬ w.heap.size + 1 = w21.heap.size := by omega
          replace rd2 : w.heap.size + 1 + 1 < w21.heap.size := by omega
          replace rd2a : w.heap.size + 1 + 1 < w21.heap.size + 1 := by omega
          replace rd2b : w.heap.size + 1 + 1 < w21.heap.size + 1 + 1 := by omega
          replace rd2c : w.heap.size + 1 + 1 < w21.heap.size + 1 + 1 + 1 := by omega
          replace rd2n : ¬ w.heap.size + 1 + 1 = w21.heap.size := by omega
          replace HS := Lib.hid (HS.out.ext (Ext.trans (by repeat (first | with_reducible exact Ext.refl _ | with_reducible refine Ext.drew ?_ | with_reducible refine Ext.drewN ?_ _ | with_reducible refine Ext.alloc ?_ _ | with_reducible refine Ext.setCell ?_ (by first | omega | (simp; done) | (simp; omega)) _)) hx21))
          have X21 : Hid (Ext w w21) := Lib.hid (Ext.trans (by repeat (first | with_reducible exact XC.out | with_reducible refine Ext.drew ?_ | with_reducible refine Ext.drewN ?_ _ | with_reducible refine Ext.alloc ?_ _ | with_reducible refine Ext.setCell ?_ (by first | omega | (simp; done) | (simp; omega)) _)) hx21)
          clear XC hx21 z21
          refine hK.out _ _ (by (first | exact ⟨d0_0, d0_1, d0_2, d0_3, d1_0, d1_1, d1_2, d1_3, d2_0, d2_1, d2_2, d2_3⟩ | (simp [go_sem, World.cell?_alloc_past, d0_0, d0_1, d0_2, d0_3, d1_0, d1_1, d1_2, d1_3, d2_0, d2_1, d2_2, d2_3, ne_d0_d1, ne_d0_d2, ne_d1_d0, ne_d1_d2, ne_d2_d0, ne_d2_d1, rd0, rd0a, rd0b, rd0c, rd0n, rd1, rd1a, rd1b, rd1c, rd1n, rd2, rd2a, rd2b, rd2c, rd2n]; done))) (fun hHeld => ?_); clear hK K; try simp only [Act.put, List.setIfInBounds_toArray, List.set_cons_zero, List.set_cons_succ]
          refine' next_in 5 rfl (by kernel_rfl) (by rfl) (fun K hK => ?_)
          go_simp
          (with_reducible refine (C2.out _).mono ?_)
          rintro e w22 ⟨rfl, hx22⟩
          replace d0_0 : w22.cell? ⟨w.heap.size, 0, none⟩ = some (.int .i64 V) := hx22.has (by first | exact d0_0 | (simp [go_sem, World.cell?_alloc_past, d0_0, d0_1, d0_2, d0_3, d1_0, d1_1, d1_2, d1_3, d2_0, d2_1, d2_2, d2_3, ne_d0_d1, ne_d0_d2, ne_d1_d0, ne_d1_d2, ne_d2_d0, ne_d2_d1, rd0, rd0a, rd0b, rd0c, rd0n, rd1, rd1a, rd1b, rd1c, rd1n, rd2, rd2a, rd2b, rd2c, rd2n]; done))
          replace d0_1 : w22.cell? ⟨w.heap.size, 1, none⟩ = some (.int .i64 S) := hx22.has (by first | exact d0_1 | (simp [go_sem, World.cell?_alloc_past, d0_0, d0_1, d0_2, d0_3, d1_0, d1_1, d1_2, d1_3, d2_0, d2_1, d2_2, d2_3, ne_d0_d1, ne_d0_d2, ne_d1_d0, ne_d1_d2, ne_d2_d0, ne_d2_d1, rd0, rd0a, rd0b, rd0c, rd0n, rd1, rd1a, rd1b, rd1c, rd1n, rd2, rd2a, rd2b, rd2c, rd2n]; done))
          replace d0_2 : w22.cell? ⟨w.heap.size, 2, none⟩ = some (.int .i64 P) := hx22.has (by first | exact d0_2 | (simp [go_sem, World.cell?_alloc_past, d0_0, d0_1, d0_2, d0_3, d1_0, d1_1, d1_2, d1_3, d2_0, d2_1, d2_2, d2_3, ne_d0_d1, ne_d0_d2, ne_d1_d0, ne_d1_d2, ne_d2_d0, ne_d2_d1, rd0, rd0a, rd0b, rd0c, rd0n, rd1, rd1a, rd1b, rd1c, rd1n, rd2, rd2a, rd2b, rd2c, rd2n]; done))
          replace d0_3 : w22.cell? ⟨w.heap.size, 3, none⟩ = some (.int .i64 F) := hx22.has (by first | exact d0_3 | (simp [go_sem, World.cell?_alloc_past, d0_0, d0_1, d0_2, d0_3, d1_0, d1_1, d1_2, d1_3, d2_0, d2_1, d2_2, d2_3, ne_d0_d1, ne_d0_d2, ne_d1_d0, ne_d1_d2, ne_d2_d0, ne_d2_d1, rd0, rd0a, rd0b, rd0c, rd0n, rd1, rd1a, rd1b, rd1c, rd1n, rd2, rd2a, rd2b, rd2c, rd2n]; done))
          replace d1_0 : w22.cell? ⟨w.heap.size + 1, 0, none⟩ = some (.int .i64 V) := hx22.has (by first | exact d1_0 | (simp [go_sem, World.cell?_alloc_past, d0_0, d0_1, d0_2, d0_3, d1_0, d1_1, d1_2, d1_3, d2_0, d2_1, d2_2, d2_3, ne_d0_d1, ne_d0_d2, ne_d1_d0, ne_d1_d2, ne_d2_d0, ne_d2_d1, rd0, rd0a, rd0b, rd0c, rd0n, rd1, rd1a, rd1b, rd1c, rd1n, rd2, rd2a, rd2b, rd2c, rd2n]; done))
          replace d1_1 : w22.cell? ⟨w.heap.size + 1, 1, none⟩ = some (.int .i64 S) := hx22.has (by first | exact d1_1 | (simp [go_sem, World.cell?_alloc_past, d0_0, d0_1, d0_2, d0_3, d1_0, d1_1, d1_2, d1_3, d2_0, d2_1, d2_2, d2_3, ne_d0_d1, ne_d0_d2, ne_d1_d0, ne_d1_d2, ne_d2_d0, ne_d2_d1, rd0, rd0a, rd0b, rd0c, rd0n, rd1, rd1a, rd1b, rd1c, rd1n, rd2, rd2a, rd2b, rd2c, rd2n]; done))
          replace d1_2 : w22.cell? ⟨w.heap.size + 1, 2, none⟩ = some (.int .i64 P) := hx22.has (by first | exact d1_2 | (simp [go_sem, World.cell?_alloc_past, d0_0, d0_1, d0_2, d0_3, d1_0, d1_1, d1_2, d1_3, d2_0, d2_1, d2_2, d2_3, ne_d0_d1, ne_d0_d2, ne_d1_d0, ne_d1_d2, ne_d2_d0, ne_d2_d1, rd0, rd0a, rd0b, rd0c, rd0n, rd1, rd1a, rd1b, rd1c, rd1n, rd2, rd2a, rd2b, rd2c, rd2n]; done))
          replace d1_3 : w22.cell? ⟨w.heap.size + 1, 3, none⟩ = some (.int .i64 F) := hx22.has (by first | exact d1_3 | (simp [go_sem, World.cell?_alloc_past, d0_0, d0_1, d0_2, d0_3, d1_0, d1_1, d1_2, d1_3, d2_0, d2_1, d2_2, d2_3, ne_d0_d1, ne_d0_d2, ne_d1_d0, ne_d1_d2, ne_d2_d0, ne_d2_d1, rd0, rd0a, rd0b, rd0c, rd0n, rd1, rd1a, rd1b, rd1c, rd1n, rd2, rd2a, rd2b, rd2c, rd2n]; done))
          replace d2_0 : w22.cell? ⟨w.heap.size + 1 + 1, 0, none⟩ = some (.int .i64 V'') := hx22.has (by first | exact d2_0 | (simp [go_sem, World.cell?_alloc_past, d0_0, d0_1, d0_2, d0_3, d1_0, d1_1, d1_2, d1_3, d2_0, d2_1, d2_2, d2_3, ne_d0_d1, ne_d0_d2, ne_d1_d0, ne_d1_d2, ne_d2_d0, ne_d2_d1, rd0, rd0a, rd0b, rd0c, rd0n, rd1, rd1a, rd1b, rd1c, rd1n, rd2, rd2a, rd2b, rd2c, rd2n]; done))
          replace d2_1 : w22.cell? ⟨w.heap.size + 1 + 1, 1, none⟩ = some (.int .i64 S'') := hx22.has (by first | exact d2_1 | (simp [go_sem, World.cell?_alloc_past, d0_0, d0_1, d0_2, d0_3, d1_0, d1_1, d1_2, d1_3, d2_0, d2_1, d2_2, d2_3, ne_d0_d1, ne_d0_d2, ne_d1_d0, ne_d1_d2, ne_d2_d0, ne_d2_d1, rd0, rd0a, rd0b, rd0c, rd0n, rd1, rd1a, rd1b, rd1c, rd1n, rd2, rd2a, rd2b, rd2c, rd2n]; done))
          replace d2_2 : w22.cell? ⟨w.heap.size + 1 + 1, 2, none⟩ = some (.int .i64 P'') := hx22.has (by first | exact d2_2 | (simp [go_sem, World.cell?_alloc_past, d0_0, d0_1, d0_2, d0_3, d1_0, d1_1, d1_2, d1_3, d2_0, d2_1, d2_2, d2_3, ne_d0_d1, ne_d0_d2, ne_d1_d0, ne_d1_d2, ne_d2_d0, ne_d2_d1, rd0, rd0a, rd0b, rd0c, rd0n, rd1, rd1a, rd1b, rd1c, rd1n, rd2, rd2a, rd2b, rd2c, rd2n]; done))
          replace d2_3 : w22.cell? ⟨w.heap.size + 1 + 1, 3, none⟩ = some (.int .i64 F'') := hx22.has (by first | exact d2_3 | (simp [go_sem, World.cell?_alloc_past, d0_0, d0_1, d0_2, d0_3, d1_0, d1_1, d1_2, d1_3, d2_0, d2_1, d2_2, d2_3, ne_d0_d1, ne_d0_d2, ne_d1_d0, ne_d1_d2, ne_d2_d0, ne_d2_d1, rd0, rd0a, rd0b, rd0c, rd0n, rd1, rd1a, rd1b, rd1c, rd1n, rd2, rd2a, rd2b, rd2c, rd2n]; done))
          have z22 := hx22.size
          try simp at z22
          replace rd0 : w.heap.size < w22.heap.size := by omega
          replace rd0a : w.heap.size < w22.heap.size + 1 := by omega
          replace rd0b : w.heap.size < w22.heap.size + 1 + 1 := by omega
          replace rd0c : w.heap.size < w22.heap.size + 1 + 1 + 1 := by omega
          replace rd0n : ¬ w.heap.size = w22.heap.size := by omega
          replace rd1 : w.heap.size + 1 < w22.heap.size := by omega
          replace rd1a : w.heap.size + 1 < w22.heap.size + 1 := by omega
          replace rd1b : w.heap.size + 1 < w22.heap.size + 1 + 1 := by omega
          replace rd1c : w.heap.size + 1 < w22.heap.size + 1 + 1 + 1 := by omega
          replace rd1n : ¬ w.heap.size + 1 = w22.heap.size := by omega
          replace rd2 : w.heap.size + 1 + 1 < w22.heap.size := by omega
          replace rd2a : w.heap.size + 1 + 1 < w22.heap.size + 1 := by omega
          replace rd2b : w.heap.size + 1 + 1 < w22.heap.size + 1 + 1 := by omega
          replace rd2c : w.heap.size + 1 + 1 < w22.heap.size + 1 + 1 + 1 := by omega
          replace rd2n : ¬ w.heap.size + 1 + 1 = w22.heap.size := by omega
          replace HS := Lib.hid (HS.out.ext (Ext.trans (by repeat (first | with_reducible exact Ext.refl _ | with_reducible refine Ext.drew ?_ | with_reducible refine Ext.drewN ?_ _ | with_reducible refine Ext.alloc ?_ _ | with_reducible refine Ext.setCell ?_ (by first | omega | (simp; done) | (simp; omega)) _)) hx22))
          have X22 : Hid (Ext w w22) := Lib.hid (Ext.trans (by repeat (first | with_reducible exact X21.out | with_reducible refine Ext.drew ?_ | with_reducible refine Ext.drewN ?_ _ | with_reducible refine Ext.alloc ?_ _ | with_reducible refine Ext.setCell ?_ (by first | omega | (simp; done) | (simp; omega)) _)) hx22)
          clear X21 hx22 z22
          refine hK.out _ _ (by (first | exact ⟨d0_0, d0_1, d0_2, d0_3, d1_0, d1_1, d1_2, d1_3, d2_0, d2_1, d2_2, d2_3⟩ | (simp [go_sem, World.cell?_alloc_past, d0_0, d0_1, d0_2, d0_3, d1_0, d1_1, d1_2, d1_3, d2_0, d2_1, d2_2, d2_3, ne_d0_d1, ne_d0_d2, ne_d1_d0, ne_d1_d2, ne_d2_d0, ne_d2_d1, rd0, rd0a, rd0b, rd0c, rd0n, rd1, rd1a, rd1b, rd1c, rd1n, rd2, rd2a, rd2b, rd2c, rd2n]; done))) (fun hHeld => ?_); clear hK K; try simp only [Act.put, List.setIfInBounds_toArray, List.set_cons_zero, List.set_cons_succ]
          (refine' take_in 6 rfl (by kernel_rfl) (by kernel_rfl) (by kernel_rfl) (fun _ _ _ h => h) (by rfl) (by assumption) ?_ ?_; rotate_left; focus (intro w hSw; (try dsimp only at hSw); go_simp; try with_reducible rfl)); try simp only [Act.put, List.setIfInBounds_toArray, List.set_cons_zero, List.set_cons_succ]
          (refine' take_in 7 rfl (by kernel_rfl) (by kernel_rfl) (by kernel_rfl) (fun _ _ _ h => h) (by rfl) (by assumption) ?_ ?_; rotate_left; focus (intro w hSw; (try dsimp only at hSw); go_simp; try with_reducible rfl)); try simp only [Act.put, List.setIfInBounds_toArray, List.set_cons_zero, List.set_cons_succ]
          refine wpAnyH_done (by kernel_rfl) ?_ _
          go_wp2_with fail
          (with_reducible refine (C4.out _).mono ?_)
          rintro e w23 ⟨rfl, hx23⟩
          replace d0_0 : w23.cell? ⟨w.heap.size, 0, none⟩ = some (.int .i64 V) := hx23.has (by first | exact d0_0 | (simp [go_sem, World.cell?_alloc_past, d0_0, d0_1, d0_2, d0_3, d1_0, d1_1, d1_2, d1_3, d2_0, d2_1, d2_2, d2_3, ne_d0_d1, ne_d0_d2, ne_d1_d0, ne_d1_d2, ne_d2_d0, ne_d2_d1, rd0, rd0a, rd0b, rd0c, rd0n, rd1, rd1a, rd1b, rd1c, rd1n, rd2, rd2a, rd2b, rd2c, rd2n]; done))
          replace d0_1 : w23.cell? ⟨w.heap.size, 1, none⟩ = some (.int .i64 S) := hx23.has (by first | exact d0_1 | (simp [go_sem, World.cell?_alloc_past, d0_0, d0_1, d0_2, d0_3, d1_0, d1_1, d1_2, d1_3, d2_0, d2_1, d2_2, d2_3, ne_d0_d1, ne_d0_d2, ne_d1_d0, ne_d1_d2, ne_d2_d0, ne_d2_d1, rd0, rd0a, rd0b, rd0c, rd0n, rd1, rd1a, rd1b, rd1c, rd1n, rd2, rd2a, rd2b, rd2c, rd2n]; done))
          replace d0_2 : w23.cell? ⟨w.heap.size, 2, none⟩ = some (.int .i64 P) := hx23.has (by first | exact d0_2 | (simp [go_sem, World.cell?_alloc_past, d0_0, d0_1, d0_2, d0_3, d1_0, d1_1, d1_2, d1_3, d2_0, d2_1, d2_2, d2_3, ne_d0_d1, ne_d0_d2, ne_d1_d0, ne_d1_d2, ne_d2_d0, ne_d2_d1, rd0, rd0a, rd0b, rd0c, rd0n, rd1, rd1a, rd1b, rd1c, rd1n, rd2, rd2a, rd2b, rd2c, rd2n]; done))
          replace d0_3 : w23.cell? ⟨w.heap.size, 3, none⟩ = some (.int .i64 F) := hx23.has (by first | exact d0_3 | (simp [go_sem, World.cell?_alloc_past, d0_0, d0_1, d0_2, d0_3, d1_0, d1_1, d1_2, d1_3, d2_0, d2_1, d2_2, d2_3, ne_d0_d1, ne_d0_d2, ne_d1_d0, ne_d1_d2, ne_d2_d0, ne_d2_d1, rd0, rd0a, rd0b, rd0c, rd0n, rd1, rd1a, rd1b, rd1c, rd1n, rd2, rd2a, rd2b, rd2c, rd2n]; done))
          replace d1_0 : w23.cell? ⟨w.heap.size + 1, 0, none⟩ = some (.int .i64 V) := hx23.has (by first | exact d1_0 | (simp [go_sem, World.cell?_alloc_past, d0_0, d0_1, d0_2, d0_3, d1_0, d1_1, d1_2, d1_3, d2_0, d2_1, d2_2, d2_3, ne_d0_d1, ne_d0_d2, ne_d1_d0, ne_d1_d2, ne_d2_d0, ne_d2_d1, rd0, rd0a, rd0b, rd0c, rd0n, rd1, rd1a, rd1b, rd1c, rd1n, rd2, rd2a, rd2b, rd2c, rd2n]; done))
          replace d1_1 : w23.cell? ⟨w.heap.size + 1, 1, none⟩ = some (.int .i64 S) := hx23.has (by first | exact d1_1 | (simp [go_sem, World.cell?_alloc_past, d0_0, d0_1, d0_2, d0_3, d1_0, d1_1, d1_2, d1_3, d2_0, d2_1, d2_2, d2_3, ne_d0_d1, ne_d0_d2, ne_d1_d0, ne_d1_d2, ne_d2_d0, ne_d2_d1, rd0, rd0a, rd0b, rd0c, rd0n, rd1, rd1a, rd1b, rd1c, rd1n, rd2, rd2a, rd2b, rd2c, rd2n]; done))
          replace d1_2 : w23.cell? ⟨w.heap.size + 1, 2, none⟩ = some (.int .i64 P) := hx23.has (by first | exact d1_2 | (simp [go_sem, World.cell?_alloc_past, d0_0, d0_1, d0_2, d0_3, d1_0, d1_1, d1_2, d1_3, d2_0, d2_1, d2_2, d2_3, ne_d0_d1, ne_d0_d2, ne_d1_d0, ne_d1_d2, ne_d2_d0, ne_d2_d1, rd0, rd0a, rd0b, rd0c, rd0n, rd1, rd1a, rd1b, rd1c, rd1n, rd2, rd2a, rd2b, rd2c, rd2n]; done))
          replace d1_3 : w23.cell? ⟨w.heap.size + 1, 3, none⟩ = some (.int .i64 F) := hx23.has (by first | exact d1_3 | (simp [go_sem, World.cell?_alloc_past, d0_0, d0_1, d0_2, d0_3, d1_0, d1_1, d1_2, d1_3, d2_0, d2_1, d2_2, d2_3, ne_d0_d1, ne_d0_d2, ne_d1_d0, ne_d1_d2, ne_d2_d0, ne_d2_d1, rd0, rd0a, rd0b, rd0c, rd0n, rd1, rd1a, rd1b, rd1c, rd1n, rd2, rd2a, rd2b, rd2c, rd2n]; done))
          replace d2_0 : w23.cell? ⟨w.heap.size + 1 + 1, 0, none⟩ = some (.int .i64 V'') := hx23.has (by first | exact d2_0 | (simp [go_sem, World.cell?_alloc_past, d0_0, d0_1, d0_2, d0_3, d1_0, d1_1, d1_2, d1_3, d2_0, d2_1, d2_2, d2_3, ne_d0_d1, ne_d0_d2, ne_d1_d0, ne_d1_d2, ne_d2_d0, ne_d2_d1, rd0, rd0a, rd0b, rd0c, rd0n, rd1, rd1a, rd1b, rd1c, rd1n, rd2, rd2a, rd2b, rd2c, rd2n]; done))
          replace d2_1 : w23.cell? ⟨w.heap.size + 1 + 1, 1, none⟩ = some (.int .i64 S'') := hx23.has (by first | exact d2_1 | (simp [go_sem, World.cell?_alloc_past, d0_0, d0_1, d0_2, d0_3, d1_0, d1_1, d1_2, d1_3, d2_0, d2_1, d2_2, d2_3, ne_d0_d1, ne_d0_d2, ne_d1_d0, ne_d1_d2, ne_d2_d0, ne_d2_d1, rd0, rd0a, rd0b, rd0c, rd0n, rd1, rd1a, rd1b, rd1c, rd1n, rd2, rd2a, rd2b, rd2c, rd2n]; done))
          replace d2_2 : w23.cell? ⟨w.heap.size + 1 + 1, 2, none⟩ = some (.int .i64 P'') := hx23.has (by first | exact d2_2 | (simp [go_sem, World.cell?_alloc_past, d0_0, d0_1, d0_2, d0_3, d1_0, d1_1, d1_2, d1_3, d2_0, d2_1, d2_2, d2_3, ne_d0_d1, ne_d0_d2, ne_d1_d0, ne_d1_d2, ne_d2_d0, ne_d2_d1, rd0, rd0a, rd0b, rd0c, rd0n, rd1, rd1a, rd1b, rd1c, rd1n, rd2, rd2a, rd2b, rd2c, rd2n]; done))
          replace d2_3 : w23.cell? ⟨w.heap.size + 1 + 1, 3, none⟩ = some (.int .i64 F'') := hx23.has (by first | exact d2_3 | (simp [go_sem, World.cell?_alloc_past, d0_0, d0_1, d0_2, d0_3, d1_0, d1_1, d1_2, d1_3, d2_0, d2_1, d2_2, d2_3, ne_d0_d1, ne_d0_d2, ne_d1_d0, ne_d1_d2, ne_d2_d0, ne_d2_d1, rd0, rd0a, rd0b, rd0c, rd0n, rd1, rd1a, rd1b, rd1c, rd1n, rd2, rd2a, rd2b, rd2c, rd2n]; done))
          have z23 := hx23.size
          try simp at z23
          replace rd0 : w.heap.size < w23.heap.size := by omega
          replace rd0a : w.heap.size < w23.heap.size + 1 := by omega
          replace rd0b : w.heap.size < w23.heap.size + 1 + 1 := by omega
          replace rd0c : w.heap.size < w23.heap.size + 1 + 1 + 1 := by omega
          replace rd0n : ¬ w.heap.size = w23.heap.size := by omega
          replace rd1 : w.heap.size + 1 < w23.heap.size := by omega
          replace rd1a : w.heap.size + 1 < w23.heap.size + 1 := by omega
          replace rd1b : w.heap.size + 1 < w23.heap.size + 1 + 1 := by omega
          replace rd1c : w.heap.size + 1 < w23.heap.size + 1 + 1 + 1 := by omega
          replace rd1n : ¬ w.heap.size + 1 = w23.heap.size := by omega
          replace rd2 : w.heap.size + 1 + 1 < w23.heap.size := by omega
          replace rd2a : w.heap.size + 1 + 1 < w23.heap.size + 1 := by omega
          replace rd2b : w.heap.size + 1 + 1 < w23.heap.size + 1 + 1 := by omega
          replace rd2c : w.heap.size + 1 + 1 < w23.heap.size + 1 + 1 + 1 := by omega
          replace rd2n : ¬ w.heap.size + 1 + 1 = w23.heap.size := by omega
          replace HS := Lib.hid (HS.out.ext (Ext.trans (by repeat (first | with_reducible exact Ext.refl _ | with_reducible refine Ext.drew ?_ | with_reducible refine Ext.drewN ?_ _ | with_reducible refine Ext.alloc ?_ _ | with_reducible refine Ext.setCell ?_ (by first | omega | (simp; done) | (simp; omega)) _)) hx23))
          have X23 : Hid (Ext w w23) := Lib.hid (Ext.trans (by repeat (first | with_reducible exact X22.out | with_reducible refine Ext.drew ?_ | with_reducible refine Ext.drewN ?_ _ | with_reducible refine Ext.alloc ?_ _ | with_reducible refine Ext.setCell ?_ (by first | omega | (simp; done) | (simp; omega)) _)) hx23)
          clear X22 hx23 z23
          go_wp2_with fail
          all_goals (go_ret; exact ⟨rfl, (by repeat (first | with_reducible exact X23.out | with_reducible refine Ext.drew ?_ | with_reducible refine Ext.drewN ?_ _ | with_reducible refine Ext.alloc ?_ _ | with_reducible refine Ext.setCell ?_ (by first | omega | (simp; done) | (simp; omega)) _))⟩)
        · obtain ⟨k, hk, C3⟩ := HC3.out (by decide) (by omega)
          have hkb : decide (k ≤ 0) = true := decide_eq_true hk
          have hnb : decide (0 < n) = false := decide_eq_false hn
          clear hn hk
          obtain ⟨rfl, rfl, rfl, rfl⟩ := Hm0.out.1 rfl
          clear Hm0
          go_wp2_with fail
          refine wp_region_held_drew (S := fun w' => w'.cell? ⟨w.heap.size, 0, none⟩ = some (.int .i64 V) ∧ w'.cell? ⟨w.heap.size, 1, none⟩ = some (.int .i64 S) ∧ w'.cell? ⟨w.heap.size, 2, none⟩ = some (.int .i64 P) ∧ w'.cell? ⟨w.heap.size, 3, none⟩ = some (.int .i64 F) ∧ w'.cell? ⟨w.heap.size + 1, 0, none⟩ = some (.int .i64 V) ∧ w'.cell? ⟨w.heap.size + 1, 1, none⟩ = some (.int .i64 S) ∧ w'.cell? ⟨w.heap.size + 1, 2, none⟩ = some (.int .i64 P) ∧ w'.cell? ⟨w.heap.size + 1, 3, none⟩ = some (.int .i64 F) ∧ w'.cell? ⟨w.heap.size + 1 + 1, 0, none⟩ = some (.int .i64 V'') ∧ w'.cell? ⟨w.heap.size + 1 + 1, 1, none⟩ = some (.int .i64 S'') ∧ w'.cell? ⟨w.heap.size + 1 + 1, 2, none⟩ = some (.int .i64 P'') ∧ w'.cell? ⟨w.heap.size + 1 + 1, 3, none⟩ = some (.int .i64 F'')) (by kernel_rfl) (by first | exact ⟨d0_0, d0_1, d0_2, d0_3, d1_0, d1_1, d1_2, d1_3, d2_0, d2_1, d2_2, d2_3⟩ | (simp [go_sem, World.cell?_alloc_past, d0_0, d0_1, d0_2, d0_3, rd0, rd0a, rd0b, rd0c, rd0n, d1_0, d1_1, d1_2, d1_3, rd1, rd1a, rd1b, rd1c, rd1n, d2_0, d2_1, d2_2, d2_3, rd2, rd2a, rd2b, rd2c, rd2n]; done)) (fun hHeld => ?_)
          (refine' take_in 0 rfl (by kernel_rfl) (by kernel_rfl) (by kernel_rfl) (fun _ _ _ h => h) (by rfl) (by assumption) ?_ ?_; rotate_left; focus (intro w hSw; (try dsimp only at hSw); go_simp; try with_reducible rfl)); try simp only [Act.put, List.setIfInBounds_toArray, List.set_cons_zero, List.set_cons_succ]
          (refine' take_in 1 rfl (by kernel_rfl) (by kernel_rfl) (by kernel_rfl) (fun _ _ _ h => h) (by rfl) (by assumption) ?_ ?_; rotate_left; focus (intro w hSw; (try dsimp only at hSw); go_simp; try with_reducible rfl)); try simp only [Act.put, List.setIfInBounds_toArray, List.set_cons_zero, List.set_cons_succ]
          (refine' take_in 3 rfl (by kernel_rfl) (by kernel_rfl) (by kernel_rfl) (fun _ _ _ h => h) (by rfl) (by assumption) ?_ ?_; rotate_left; focus (intro w hSw; (try dsimp only at hSw); go_simp; try with_reducible rfl)); try simp only [Act.put, List.setIfInBounds_toArray, List.set_cons_zero, List.set_cons_succ]
          (refine' take_in 4 rfl (by kernel_rfl) (by kernel_rfl) (by kernel_rfl) (fun _ _ _ h => h) (by rfl) (by assumption) ?_ ?_; rotate_left; focus (intro w hSw; (try dsimp only at hSw); go_simp; try with_reducible rfl)); try simp only [Act.put, List.setIfInBounds_toArray, List.set_cons_zero, List.set_cons_succ]
          refine' next_in 2 rfl (by kernel_rfl) (by rfl) (fun K hK => ?_)
          go_simp
          (with_reducible refine (C1.out _).mono ?_)
          rintro e w21 ⟨rfl, hx21⟩
          replace d0_0 : w21.cell? ⟨w.heap.size, 0, none⟩ = some (.int .i64 V) := hx21.has (by first | exact d0_0 | (simp [go_sem, World.cell?_alloc_past, d0_0, d0_1, d0_2, d0_3, rd0, rd0a, rd0b, rd0c, rd0n, d1_0, d1_1, d1_2, d1_3, rd1, rd1a, rd1b, rd1c, rd1n, d2_0, d2_1, d2_2, d2_3, rd2, rd2a, rd2b, rd2c, rd2n]; done))
          replace d0_1 : w21.cell? ⟨w.heap.size, 1, none⟩ = some (.int .i64 S) := hx21.has (by first | exact d0_1 | (simp [go_sem, World.cell?_alloc_past, d0_0, d0_1, d0_2, d0_3, rd0, rd0a, rd0b, rd0c, rd0n, d1_0, d1_1, d1_2, d1_3, rd1, rd1a, rd1b, rd1c, rd1n, d2_0, d2_1, d2_2, d2_3, rd2, rd2a, rd2b, rd2c, rd2n]; done))
          replace d0_2 : w21.cell? ⟨w.heap.size, 2, none⟩ = some (.int .i64 P) := hx21.has (by first | exact d0_2 | (simp [go_sem, World.cell?_alloc_past, d0_0, d0_1, d0_2, d0_3, rd0, rd0a, rd0b, rd0c, rd0n, d1_0, d1_1, d1_2, d1_3, rd1, rd1a, rd1b, rd1c, rd1n, d2_0, d2_1, d2_2, d2_3, rd2, rd2a, rd2b, rd2c, rd2n]; done))
          replace d0_3 : w21.cell? ⟨w.heap.size, 3, none⟩ = some (.int .i64 F) := hx21.has (by first | exact d0_3 | (simp [go_sem, World.cell?_alloc_past, d0_0, d0_1, d0_2, d0_3, rd0, rd0a, rd0b, rd0c, rd0n, d1_0, d1_1, d1_2, d1_3, rd1, rd1a, rd1b, rd1c, rd1n, d2_0, d2_1, d2_2, d2_3, rd2, rd2a, rd2b, rd2c, rd2n]; done))
          replace d1_0 : w21.cell? ⟨w.heap.size + 1, 0, none⟩ = some (.int .i64 V) := hx21.has (by first | exact d1_0 | (simp [go_sem, World.cell?_alloc_past, d0_0, d0_1, d0_2, d0_3, rd0, rd0a, rd0b, rd0c, rd0n, d1_0, d1_1, d1_2, d1_3, rd1, rd1a, rd1b, rd1c, rd1n, d2_0, d2_1, d2_2, d2_3, rd2, rd2a, rd2b, rd2c, rd2n]; done))
          replace d1_1 : w21.cell? ⟨w.heap.size + 1, 1, none⟩ = some (.int .i64 S) := hx21.has (by first | exact d1_1 | (simp [go_sem, World.cell?_alloc_past, d0_0, d0_1, d0_2, d0_3, rd0, rd0a, rd0b, rd0c, rd0n, d1_0, d1_1, d1_2, d1_3, rd1, rd1a, rd1b, rd1c, rd1n, d2_0, d2_1, d2_2, d2_3, rd2, rd2a, rd2b, rd2c, rd2n]; done))
          replace d1_2 : w21.cell? ⟨w.heap.size + 1, 2, none⟩ = some (.int .i64 P) := hx21.has (by first | exact d1_2 | (simp [go_sem, World.cell?_alloc_past, d0_0, d0_1, d0_2, d0_3, rd0, rd0a, rd0b, rd0c, rd0n, d1_0, d1_1, d1_2, d1_3, rd1, rd1a, rd1b, rd1c, rd1n, d2_0, d2_1, d2_2, d2_3, rd2, rd2a, rd2b, rd2c, rd2n]; done))
          replace d1_3 : w21.cell? ⟨w.heap.size + 1, 3, none⟩ = some (.int .i64 F) := hx21.has (by first | exact d1_3 | (simp [go_sem, World.cell?_alloc_past, d0_0, d0_1, d0_2, d0_3, rd0, rd0a, rd0b, rd0c, rd0n, d1_0, d1_1, d1_2, d1_3, rd1, rd1a, rd1b, rd1c, rd1n, d2_0, d2_1, d2_2, d2_3, rd2, rd2a, rd2b, rd2c, rd2n]; done))
          replace d2_0 : w21.cell? ⟨w.heap.size + 1 + 1, 0, none⟩ = some (.int .i64 V'') := hx21.has (by first | exact d2_0 | (simp [go_sem, World.cell?_alloc_past, d0_0, d0_1, d0_2, d0_3, rd0, rd0a, rd0b, rd0c, rd0n, d1_0, d1_1, d1_2, d1_3, rd1, rd1a, rd1b, rd1c, rd1n, d2_0, d2_1, d2_2, d2_3, rd2, rd2a, rd2b, rd2c, rd2n]; done))
          replace d2_1 : w21.cell? ⟨w.heap.size + 1 + 1, 1, none⟩ = some (.int .i64 S'') := hx21.has (by first | exact d2_1 | (simp [go_sem, World.cell?_alloc_past, d0_0, d0_1, d0_2, d0_3, rd0, rd0a, rd0b, rd0c, rd0n, d1_0, d1_1, d1_2, d1_3, rd1, rd1a, rd1b, rd1c, rd1n, d2_0, d2_1, d2_2, d2_3, rd2, rd2a, rd2b, rd2c, rd2n]; done))
          replace d2_2 : w21.cell? ⟨w.heap.size + 1 + 1, 2, none⟩ = some (.int .i64 P'') := hx21.has (by first | exact d2_2 | (simp [go_sem, World.cell?_alloc_past, d0_0, d0_1, d0_2, d0_3, rd0, rd0a, rd0b, rd0c, rd0n, d1_0, d1_1, d1_2, d1_3, rd1, rd1a, rd1b, rd1c, rd1n, d2_0, d2_1, d2_2, d2_3, rd2, rd2a, rd2b, rd2c, rd2n]; done))
          replace d2_3 : w21.cell? ⟨w.heap.size + 1 + 1, 3, none⟩ = some (.int .i64 F'') := hx21.has (by first | exact d2_3 | (simp [go_sem, World.cell?_alloc_past, d0_0, d0_1, d0_2, d0_3, rd0, rd0a, rd0b, rd0c, rd0n, d1_0, d1_1, d1_2, d1_3, rd1, rd1a, rd1b, rd1c, rd1n, d2_0, d2_1, d2_2, d2_3, rd2, rd2a, rd2b, rd2c, rd2n]; done))
          have z21 := hx21.size
          try simp at z21
          have ne_d0_d1 : ¬ w.heap.size = w.heap.size + 1 := by omega
          have ne_d0_d2 : ¬ w.heap.size = w.heap.size + 1 + 1 := by omega
          have ne_d1_d0 : ¬ w.heap.size + 1 = w.heap.size := by omega
          have ne_d1_d2 : ¬ w.heap.size + 1 = w.heap.size + 1 + 1 := by omega
          have ne_d2_d0 : ¬ w.heap.size + 1 + 1 = w.heap.size := by omega
          have ne_d2_d1 : ¬ w.heap.size + 1 + 1 = w.heap.size + 1 := by omega
          replace rd0 : w.heap.size < w21.heap.size := by omega
          replace rd0a : w.heap.size < w21.heap.size + 1 := by omega
          replace rd0b : w.heap.size < w21.heap.size + 1 + 1 := by omega
          replace rd0c : w.heap.size < w21.heap.size + 1 + 1 + 1 := by omega
          replace rd0n : ¬ w.heap.size = w21.heap.size := by omega
          replace rd1 : w.heap.size + 1 < w21.heap.size := by omega
          replace rd1a : w.heap.size + 1 < w21.heap.size + 1 := by omega
          replace rd1b : w.heap.size + 1 < w21.heap.size + 1 + 1 := by omega
          replace rd1c : w.heap.size + 1 < w21.heap.size + 1 + 1 + 1 := by omega
          replace rd1n : ¬ w.heap.size + 1 = w21.heap.size := by omega
          replace rd2 : w.heap.size + 1 + 1 < w21.heap.size := by omega
          replace rd2a : w.heap.size + 1 + 1 < w21.heap.size + 1 := by omega
          replace rd2b : w.heap.size + 1 + 1 < w21.heap.size + 1 + 1 := by omega
          replace rd2c : w.heap.size + 1 + 1 < w21.heap.size + 1 + 1 + 1 := by omega
          replace rd2n : ¬ w.heap.size + 1 + 1 = w21.heap.size := by omega
          replace HS := Lib.hid (HS.out.ext (Ext.trans (by repeat (first | with_reducible exact Ext.refl _ | with_reducible refine Ext.drew ?_ | with_reducible refine Ext.drewN ?_ _ | with_reducible refine Ext.alloc ?_ _ | with_reducible refine Ext.setCell ?_ (by first | omega | (simp; done) | (simp; omega)) _)) hx21))
          have X21 : Hid (Ext w w21) := Lib.hid (Ext.trans (by repeat (first | with_reducible exact XC.out | with_reducible refine Ext.drew ?_ | with_reducible refine Ext.drewN ?_ _ | with_reducible refine Ext.alloc ?_ _ | with_reducible refine Ext.setCell ?_ (by first | omega | (simp; done) | (simp; omega)) _)) hx21)
          clear XC hx21 z21
          refine hK.out _ _ (by (first | exact ⟨d0_0, d0_1, d0_2, d0_3, d1_0, d1_1, d1_2, d1_3, d2_0, d2_1, d2_2, d2_3⟩ | (simp [go_sem, World.cell?_alloc_past, d0_0, d0_1, d0_2, d0_3, d1_0, d1_1, d1_2, d1_3, d2_0, d2_1, d2_2, d2_3, ne_d0_d1, ne_d0_d2, ne_d1_d0, ne_d1_d2, ne_d2_d0, ne_d2_d1, rd0, rd0a, rd0b, rd0c, rd0n, rd1, rd1a, rd1b, rd1c, rd1n, rd2, rd2a, rd2b, rd2c, rd2n]; done))) (fun hHeld => ?_); clear hK K; try simp only [Act.put, List.setIfInBounds_toArray, List.set_cons_zero, List.set_cons_succ]
          refine' next_in 5 rfl (by kernel_rfl) (by rfl) (fun K hK => ?_)
          go_simp
          (with_reducible refine (C2.out _).mono ?_)
          rintro e w22 ⟨rfl, hx22⟩
          replace d0_0 : w22.cell? ⟨w.heap.size, 0, none⟩ = some (.int .i64 V) := hx22.has (by first | exact d0_0 | (simp [go_sem, World.cell?_alloc_past, d0_0, d0_1, d0_2, d0_3, d1_0, d1_1, d1_2, d1_3, d2_0, d2_1, d2_2, d2_3, ne_d0_d1, ne_d0_d2, ne_d1_d0, ne_d1_d2, ne_d2_d0, ne_d2_d1, rd0, rd0a, rd0b, rd0c, rd0n, rd1, rd1a, rd1b, rd1c, rd1n, rd2, rd2a, rd2b, rd2c, rd2n]; done))
          replace d0_1 : w22.cell? ⟨w.heap.size, 1, none⟩ = some (.int .i64 S) := hx22.has (by first | exact d0_1 | (simp [go_sem, World.cell?_alloc_past, d0_0, d0_1, d0_2, d0_3, d1_0, d1_1, d1_2, d1_3, d2_0, d2_1, d2_2, d2_3, ne_d0_d1, ne_d0_d2, ne_d1_d0, ne_d1_d2, ne_d2_d0, ne_d2_d1, rd0, rd0a, rd0b, rd0c, rd0n, rd1, rd1a, rd1b, rd1c, rd1n, rd2, rd2a, rd2b, rd2c, rd2n]; done))
          replace d0_2 : w22.cell? ⟨w.heap.size, 2, none⟩ = some (.int .i64 P) := hx22.has (by first | exact d0_2 | (simp [go_sem, World.cell?_alloc_past, d0_0, d0_1, d0_2, d0_3, d1_0, d1_1, d1_2, d1_3, d2_0, d2_1, d2_2, d2_3, ne_d0_d1, ne_d0_d2, ne_d1_d0, ne_d1_d2, ne_d2_d0, ne_d2_d1, rd0, rd0a, rd0b, rd0c, rd0n, rd1, rd1a, rd1b, rd1c, rd1n, rd2, rd2a, rd2b, rd2c, rd2n]; done))
          replace d0_3 : w22.cell? ⟨w.heap.size, 3, none⟩ = some (.int .i64 F) := hx22.has (by first | exact d0_3 | (simp [go_sem, World.cell?_alloc_past, d0_0, d0_1, d0_2, d0_3, d1_0, d1_1, d1_2, d1_3, d2_0, d2_1, d2_2, d2_3, ne_d0_d1, ne_d0_d2, ne_d1_d0, ne_d1_d2, ne_d2_d0, ne_d2_d1, rd0, rd0a, rd0b, rd0c, rd0n, rd1, rd1a, rd1b, rd1c, rd1n, rd2, rd2a, rd2b, rd2c, rd2n]; done))
          replace d1_0 : w22.cell? ⟨w.heap.size + 1, 0, none⟩ = some (.int .i64 V) := hx22.has (by first | exact d1_0 | (simp [go_sem, World.cell?_alloc_past, d0_0, d0_1, d0_2, d0_3, d1_0, d1_1, d1_2, d1_3, d2_0, d2_1, d2_2, d2_3, ne_d0_d1, ne_d0_d2, ne_d1_d0, ne_d1_d2, ne_d2_d0, ne_d2_d1, rd0, rd0a, rd0b, rd0c, rd0n, rd1, rd1a, rd1b, rd1c, rd1n, rd2, rd2a, rd2b, rd2c, rd2n]; done))
          replace d1_1 : w22.cell? ⟨w.heap.size + 1, 1, none⟩ = some (.int .i64 S) := hx22.has (by first | exact d1_1 | (simp [go_sem, World.cell?_alloc_past, d0_0, d0_1, d0_2, d0_3, d1_0, d1_1, d1_2, d1_3, d2_0, d2_1, d2_2, d2_3, ne_d0_d1, ne_d0_d2, ne_d1_d0, ne_d1_d2, ne_d2_d0, ne_d2_d1, rd0, rd0a, rd0b, rd0c, rd0n, rd1, rd1a, rd1b, rd1c, rd1n, rd2, rd2a, rd2b, rd2c, rd2n]; done))
          replace d1_2 : w22.cell? ⟨w.heap.size + 1, 2, none⟩ = some (.int .i64 P) := hx22.has (by first | exact d1_2 | (simp [go_sem, World.cell?_alloc_past, d0_0, d0_1, d0_2, d0_3, d1_0, d1_1, d1_2, d1_3, d2_0, d2_1, d2_2, d2_3, ne_d0_d1, ne_d0_d2, ne_d1_d0, ne_d1_d2, ne_d2_d0, ne_d2_d1, rd0, rd0a, rd0b, rd0c, rd0n, rd1, rd1a, rd1b, rd1c, rd1n, rd2, rd2a, rd2b, rd2c, rd2n]; done))
          replace d1_3 : w22.cell? ⟨w.heap.size + 1, 3, none⟩ = some (.int .i64 F) := hx22.has (by first | exact d1_3 | (simp [go_sem, World.cell?_alloc_past, d0_0, d0_1, d0_2, d0_3, d1_0, d1_1, d1_2, d1_3, d2_0, d2_1, d2_2, d2_3, ne_d0_d1, ne_d0_d2, ne_d1_d0, ne_d1_d2, ne_d2_d0, ne_d2_d1, rd0, rd0a, rd0b, rd0c, rd0n, rd1, rd1a, rd1b, rd1c, rd1n, rd2, rd2a, rd2b, rd2c, rd2n]; done))
          replace d2_0 : w22.cell? ⟨w.heap.size + 1 + 1, 0, none⟩ = some (.int .i64 V'') := hx22.has (by first | exact d2_0 | (simp [go_sem, World.cell?_alloc_past, d0_0, d0_1, d0_2, d0_3, d1_0, d1_1, d1_2, d1_3, d2_0, d2_1, d2_2, d2_3, ne_d0_d1, ne_d0_d2, ne_d1_d0, ne_d1_d2, ne_d2_d0, ne_d2_d1, rd0, rd0a, rd0b, rd0c, rd0n, rd1, rd1a, rd1b, rd1c, rd1n, rd2, rd2a, rd2b, rd2c, rd2n]; done))
          replace d2_1 : w22.cell? ⟨w.heap.size + 1 + 1, 1, none⟩ = some (.int .i64 S'') := hx22.has (by first | exact d2_1 | (simp [go_sem, World.cell?_alloc_past, d0_0, d0_1, d0_2, d0_3, d1_0, d1_1, d1_2, d1_3, d2_0, d2_1, d2_2, d2_3, ne_d0_d1, ne_d0_d2, ne_d1_d0, ne_d1_d2, ne_d2_d0, ne_d2_d1, rd0, rd0a, rd0b, rd0c, rd0n, rd1, rd1a, rd1b, rd1c, rd1n, rd2, rd2a, rd2b, rd2c, rd2n]; done))
          replace d2_2 : w22.cell? ⟨w.heap.size + 1 + 1, 2, none⟩ = some (.int .i64 P'') := hx22.has (by first | exact d2_2 | (simp [go_sem, World.cell?_alloc_past, d0_0, d0_1, d0_2, d0_3, d1_0, d1_1, d1_2, d1_3, d2_0, d2_1, d2_2, d2_3, ne_d0_d1, ne_d0_d2, ne_d1_d0, ne_d1_d2, ne_d2_d0, ne_d2_d1, rd0, rd0a, rd0b, rd0c, rd0n, rd1, rd1a, rd1b, rd1c, rd1n, rd2, rd2a, rd2b, rd2c, rd2n]; done))
          replace d2_3 : w22.cell? ⟨w.heap.size + 1 + 1, 3, none⟩ = some (.int .i64 F'') := hx22.has (by first | exact d2_3 | (simp [go_sem, World.cell?_alloc_past, d0_0, d0_1, d0_2, d0_3, d1_0, d1_1, d1_2, d1_3, d2_0, d2_1, d2_2, d2_3, ne_d0_d1, ne_d0_d2, ne_d1_d0, ne_d1_d2, ne_d2_d0, ne_d2_d1, rd0, rd0a, rd0b, rd0c, rd0n, rd1, rd1a, rd1b, rd1c, rd1n, rd2, rd2a, rd2b, rd2c, rd2n]; done))
          have z22 := hx22.size
          try simp at z22
          replace rd0 : w.heap.size < w22.heap.size := by omega
          replace rd0a : w.heap.size < w22.heap.size + 1 := by omega
          replace rd0b : w.heap.size < w22.heap.size + 1 + 1 := by omega
          replace rd0c : w.heap.size < w22.heap.size + 1 + 1 + 1 := by omega
          replace rd0n : ¬ w.heap.size = w22.heap.size := by omega
          replace rd1 : w.heap.size + 1 < w22.heap.size := by omega
          replace rd1a : w.heap.size + 1 < w22.heap.size + 1 := by omega
          replace rd1b : w.heap.size + 1 < w22.heap.size + 1 + 1 := by omega
          replace rd1c : w.heap.size + 1 < w22.heap.size + 1 + 1 + 1 := by omega
          replace rd1n : ¬ w.heap.size + 1 = w22.heap.size := by omega
          replace rd2 : w.heap.size + 1 + 1 < w22.heap.size := by omega
          replace rd2a : w.heap.size + 1 + 1 < w22.heap.size + 1 := by omega
          replace rd2b : w.heap.size + 1 + 1 < w22.heap.size + 1 + 1 := by omega
          replace rd2c : w.heap.size + 1 + 1 < w22.heap.size + 1 + 1 + 1 := by omega
          replace rd2n : ¬ w.heap.size + 1 + 1 = w22.heap.size := by omega
          replace HS := Lib.hid (HS.out.ext (Ext.trans (by repeat (first | with_reducible exact Ext.refl _ | with_reducible refine Ext.drew ?_ | with_reducible refine Ext.drewN ?_ _ | with_reducible refine Ext.alloc ?_ _ | with_reducible refine Ext.setCell ?_ (by first | omega | (simp; done) | (simp; omega)) _)) hx22))
          have X22 : Hid (Ext w w22) := Lib.hid (Ext.trans (by repeat (first | with_reducible exact X21.out | with_reducible refine Ext.drew ?_ | with_reducible refine Ext.drewN ?_ _ | with_reducible refine Ext.alloc ?_ _ | with_reducible refine Ext.setCell ?_ (by first | omega | (simp; done) | (simp; omega)) _)) hx22)
          clear X21 hx22 z22
          refine hK.out _ _ (by (first | exact ⟨d0_0, d0_1, d0_2, d0_3, d1_0, d1_1, d1_2, d1_3, d2_0, d2_1, d2_2, d2_3⟩ | (simp [go_sem, World.cell?_alloc_past, d0_0, d0_1, d0_2, d0_3, d1_0, d1_1, d1_2, d1_3, d2_0, d2_1, d2_2, d2_3, ne_d0_d1, ne_d0_d2, ne_d1_d0, ne_d1_d2, ne_d2_d0, ne_d2_d1, rd0, rd0a, rd0b, rd0c, rd0n, rd1, rd1a, rd1b, rd1c, rd1n, rd2, rd2a, rd2b, rd2c, rd2n]; done))) (fun hHeld => ?_); clear hK K; try simp only [Act.put, List.setIfInBounds_toArray, List.set_cons_zero, List.set_cons_succ]
          (refine' take_in 6 rfl (by kernel_rfl) (by kernel_rfl) (by kernel_rfl) (fun _ _ _ h => h) (by rfl) (by assumption) ?_ ?_; rotate_left; focus (intro w hSw; (try dsimp only at hSw); go_simp; try with_reducible rfl)); try simp only [Act.put, List.setIfInBounds_toArray, List.set_cons_zero, List.set_cons_succ]
          (refine' take_in 7 rfl (by kernel_rfl) (by kernel_rfl) (by kernel_rfl) (fun _ _ _ h => h) (by rfl) (by assumption) ?_ ?_; rotate_left; focus (intro w hSw; (try dsimp only at hSw); go_simp; try with_reducible rfl)); try simp only [Act.put, List.setIfInBounds_toArray, List.set_cons_zero, List.set_cons_succ]
          refine wpAnyH_done (by kernel_rfl) ?_ _
          go_wp2_with fail
          (with_reducible refine (C3.out _).mono ?_)
          rintro e w23 ⟨rfl, hx23⟩
          replace d0_0 : w23.cell? ⟨w.heap.size, 0, none⟩ = some (.int .i64 V) := hx23.has (by first | exact d0_0 | (simp [go_sem, World.cell?_alloc_past, d0_0, d0_1, d0_2, d0_3, d1_0, d1_1, d1_2, d1_3, d2_0, d2_1, d2_2, d2_3, ne_d0_d1, ne_d0_d2, ne_d1_d0, ne_d1_d2, ne_d2_d0, ne_d2_d1, rd0, rd0a, rd0b, rd0c, rd0n, rd1, rd1a, rd1b, rd1c, rd1n, rd2, rd2a, rd2b, rd2c, rd2n]; done))
          replace d0_1 : w23.cell? ⟨w.heap.size, 1, none⟩ = some (.int .i64 S) := hx23.has (by first | exact d0_1 | (simp [go_sem, World.cell?_alloc_past, d0_0, d0_1, d0_2, d0_3, d1_0, d1_1, d1_2, d1_3, d2_0, d2_1, d2_2, d2_3, ne_d0_d1, ne_d0_d2, ne_d1_d0, ne_d1_d2, ne_d2_d0, ne_d2_d1, rd0, rd0a, rd0b, rd0c, rd0n, rd1, rd1a, rd1b, rd1c, rd1n, rd2, rd2a, rd2b, rd2c, rd2n]; done))
          replace d0_2 : w23.cell? ⟨w.heap.size, 2, none⟩ = some (.int .i64 P) := hx23.has (by first | exact d0_2 | (simp [go_sem, World.cell?_alloc_past, d0_0, d0_1, d0_2, d0_3, d1_0, d1_1, d1_2, d1_3, d2_0, d2_1, d2_2, d2_3, ne_d0_d1, ne_d0_d2, ne_d1_d0, ne_d1_d2, ne_d2_d0, ne_d2_d1, rd0, rd0a, rd0b, rd0c, rd0n, rd1, rd1a, rd1b, rd1c, rd1n, rd2, rd2a, rd2b, rd2c, rd2n]; done))
          replace d0_3 : w23.cell? ⟨w.heap.size, 3, none⟩ = some (.int .i64 F) := hx23.has (by first | exact d0_3 | (simp [go_sem, World.cell?_alloc_past, d0_0, d0_1, d0_2, d0_3, d1_0, d1_1, d1_2, d1_3, d2_0, d2_1, d2_2, d2_3, ne_d0_d1, ne_d0_d2, ne_d1_d0, ne_d1_d2, ne_d2_d0, ne_d2_d1, rd0, rd0a, rd0b, rd0c, rd0n, rd1, rd1a, rd1b, rd1c, rd1n, rd2, rd2a, rd2b, rd2c, rd2n]; done))
          replace d1_0 : w23.cell? ⟨w.heap.size + 1, 0, none⟩ = some (.int .i64 V) := hx23.has (by first | exact d1_0 | (simp [go_sem, World.cell?_alloc_past, d0_0, d0_1, d0_2, d0_3, d1_0, d1_1, d1_2, d1_3, d2_0, d2_1, d2_2, d2_3, ne_d0_d1, ne_d0_d2, ne_d1_d0, ne_d1_d2, ne_d2_d0, ne_d2_d1, rd0, rd0a, rd0b, rd0c, rd0n, rd1, rd1a, rd1b, rd1c, rd1n, rd2, rd2a, rd2b, rd2c, rd2n]; done))
          replace d1_1 : w23.cell? ⟨w.heap.size + 1, 1, none⟩ = some (.int .i64 S) := hx23.has (by first | exact d1_1 | (simp [go_sem, World.cell?_alloc_past, d0_0, d0_1, d0_2, d0_3, d1_0, d1_1, d1_2, d1_3, d2_0, d2_1, d2_2, d2_3, ne_d0_d1, ne_d0_d2, ne_d1_d0, ne_d1_d2, ne_d2_d0, ne_d2_d1, rd0, rd0a, rd0b, rd0c, rd0n, rd1, rd1a, rd1b, rd1c, rd1n, rd2, rd2a, rd2b, rd2c, rd2n]; done))
          replace d1_2 : w23.cell? ⟨w.heap.size + 1, 2, none⟩ = some (.int .i64 P) := hx23.has (by first | exact d1_2 | (simp [go_sem, World.cell?_alloc_past, d0_0, d0_1, d0_2, d0_3, d1_0, d1_1, d1_2, d1_3, d2_0, d2_1, d2_2, d2_3, ne_d0_d1, ne_d0_d2, ne_d1_d0, ne_d1_d2, ne_d2_d0, ne_d2_d1, rd0, rd0a, rd0b, rd0c, rd0n, rd1, rd1a, rd1b, rd1c, rd1n, rd2, rd2a, rd2b, rd2c, rd2n]; done))
          replace d1_3 : w23.cell? ⟨w.heap.size + 1, 3, none⟩ = some (.int .i64 F) := hx23.has (by first | exact d1_3 | (simp [go_sem, World.cell?_alloc_past, d0_0, d0_1, d0_2, d0_3, d1_0, d1_1, d1_2, d1_3, d2_0, d2_1, d2_2, d2_3, ne_d0_d1, ne_d0_d2, ne_d1_d0, ne_d1_d2, ne_d2_d0, ne_d2_d1, rd0, rd0a, rd0b, rd0c, rd0n, rd1, rd1a, rd1b, rd1c, rd1n, rd2, rd2a, rd2b, rd2c, rd2n]; done))
          replace d2_0 : w23.cell? ⟨w.heap.size + 1 + 1, 0, none⟩ = some (.int .i64 V'') := hx23.has (by first | exact d2_0 | (simp [go_sem, World.cell?_alloc_past, d0_0, d0_1, d0_2, d0_3, d1_0, d1_1, d1_2, d1_3, d2_0, d2_1, d2_2, d2_3, ne_d0_d1, ne_d0_d2, ne_d1_d0, ne_d1_d2, ne_d2_d0, ne_d2_d1, rd0, rd0a, rd0b, rd0c, rd0n, rd1, rd1a, rd1b, rd1c, rd1n, rd2, rd2a, rd2b, rd2c, rd2n]; done))
          replace d2_1 : w23.cell? ⟨w.heap.size + 1 + 1, 1, none⟩ = some (.int .i64 S'') := hx23.has (by first | exact d2_1 | (simp [go_sem, World.cell?_alloc_past, d0_0, d0_1, d0_2, d0_3, d1_0, d1_1, d1_2, d1_3, d2_0, d2_1, d2_2, d2_3, ne_d0_d1, ne_d0_d2, ne_d1_d0, ne_d1_d2, ne_d2_d0, ne_d2_d1, rd0, rd0a, rd0b, rd0c, rd0n, rd1, rd1a, rd1b, rd1c, rd1n, rd2, rd2a, rd2b, rd2c, rd2n]; done))
          replace d2_2 : w23.cell? ⟨w.heap.size + 1 + 1, 2, none⟩ = some (.int .i64 P'') := hx23.has (by first | exact d2_2 | (simp [go_sem, World.cell?_alloc_past, d0_0, d0_1, d0_2, d0_3, d1_0, d1_1, d1_2, d1_3, d2_0, d2_1, d2_2, d2_3, ne_d0_d1, ne_d0_d2, ne_d1_d0, ne_d1_d2, ne_d2_d0, ne_d2_d1, rd0, rd0a, rd0b, rd0c, rd0n, rd1, rd1a, rd1b, rd1c, rd1n, rd2, rd2a, rd2b, rd2c, rd2n]; done))
          replace d2_3 : w23.cell? ⟨w.heap.size + 1 + 1, 3, none⟩ = some (.int .i64 F'') := hx23.has (by first | exact d2_3 | (simp [go_sem, World.cell?_alloc_past, d0_0, d0_1, d0_2, d0_3, d1_0, d1_1, d1_2, d1_3, d2_0, d2_1, d2_2, d2_3, ne_d0_d1, ne_d0_d2, ne_d1_d0, ne_d1_d2, ne_d2_d0, ne_d2_d1, rd0, rd0a, rd0b, rd0c, rd0n, rd1, rd1a, rd1b, rd1c, rd1n, rd2, rd2a, rd2b, rd2c, rd2n]; done))
          have z23 := hx23.size
          try simp at z23
          replace rd0 : w.heap.size < w23.heap.size := by omega
          replace rd0a : w.heap.size < w23.heap.size + 1 := by omega
          replace rd0b : w.heap.size < w23.heap.size + 1 + 1 := by omega
          replace rd0c : w.heap.size < w23.heap.size + 1 + 1 + 1 := by omega
          replace rd0n : ¬ w.heap.size = w23.heap.size := by omega
          replace rd1 : w.heap.size + 1 < w23.heap.size := by omega
          replace rd1a : w.heap.size + 1 < w23.heap.size + 1 := by omega
          replace rd1b : w.heap.size + 1 < w23.heap.size + 1 + 1 := by omega
          replace rd1c : w.heap.size + 1 < w23.heap.size + 1 + 1 + 1 := by omega
          replace rd1n : ¬ w.heap.size + 1 = w23.heap.size := by omega
          replace rd2 : w.heap.size + 1 + 1 < w23.heap.size := by omega
          replace rd2a : w.heap.size + 1 + 1 < w23.heap.size + 1 := by omega
          replace rd2b : w.heap.size + 1 + 1 < w23.heap.size + 1 + 1 := by omega
          replace rd2c : w.heap.size + 1 + 1 < w23.heap.size + 1 + 1 + 1 := by omega
          replace rd2n : ¬ w.heap.size + 1 + 1 = w23.heap.size := by omega
          replace HS := Lib.hid (HS.out.ext (Ext.trans (by repeat (first | with_reducible exact Ext.refl _ | with_reducible refine Ext.drew ?_ | with_reducible refine Ext.drewN ?_ _ | with_reducible refine Ext.alloc ?_ _ | with_reducible refine Ext.setCell ?_ (by first | omega | (simp; done) | (simp; omega)) _)) hx23))
          have X23 : Hid (Ext w w23) := Lib.hid (Ext.trans (by repeat (first | with_reducible exact X22.out | with_reducible refine Ext.drew ?_ | with_reducible refine Ext.drewN ?_ _ | with_reducible refine Ext.alloc ?_ _ | with_reducible refine Ext.setCell ?_ (by first | omega | (simp; done) | (simp; omega)) _)) hx23)
          clear X22 hx23 z23
          go_wp2_with fail
          (with_reducible refine (C4.out _).mono ?_)
          rintro e w24 ⟨rfl, hx24⟩
          replace d0_0 : w24.cell? ⟨w.heap.size, 0, none⟩ = some (.int .i64 V) := hx24.has (by first | exact d0_0 | (simp [go_sem, World.cell?_alloc_past, d0_0, d0_1, d0_2, d0_3, d1_0, d1_1, d1_2, d1_3, d2_0, d2_1, d2_2, d2_3, ne_d0_d1, ne_d0_d2, ne_d1_d0, ne_d1_d2, ne_d2_d0, ne_d2_d1, rd0, rd0a, rd0b, rd0c, rd0n, rd1, rd1a, rd1b, rd1c, rd1n, rd2, rd2a, rd2b, rd2c, rd2n]; done))
          replace d0_1 : w24.cell? ⟨w.heap.size, 1, none⟩ = some (.int .i64 S) := hx24.has (by first | exact d0_1 | (simp [go_sem, World.cell?_alloc_past, d0_0, d0_1, d0_2, d0_3, d1_0, d1_1, d1_2, d1_3, d2_0, d2_1, d2_2, d2_3, ne_d0_d1, ne_d0_d2, ne_d1_d0, ne_d1_d2, ne_d2_d0, ne_d2_d1, rd0, rd0a, rd0b, rd0c, rd0n, rd1, rd1a, rd1b, rd1c, rd1n, rd2, rd2a, rd2b, rd2c, rd2n]; done))
          replace d0_2 : w24.cell? ⟨w.heap.size, 2, none⟩ = some (.int .i64 P) := hx24.has (by first | exact d0_2 | (simp [go_sem, World.cell?_alloc_past, d0_0, d0_1, d0_2, d0_3, d1_0, d1_1, d1_2, d1_3, d2_0, d2_1, d2_2, d2_3, ne_d0_d1, ne_d0_d2, ne_d1_d0, ne_d1_d2, ne_d2_d0, ne_d2_d1, rd0, rd0a, rd0b, rd0c, rd0n, rd1, rd1a, rd1b, rd1c, rd1n, rd2, rd2a, rd2b, rd2c, rd2n]; done))
          replace d0_3 : w24.cell? ⟨w.heap.size, 3, none⟩ = some (.int .i64 F) := hx24.has (by first | exact d0_3 | (simp [go_sem, World.cell?_alloc_past, d0_0, d0_1, d0_2, d0_3, d1_0, d1_1, d1_2, d1_3, d2_0, d2_1, d2_2, d2_3, ne_d0_d1, ne_d0_d2, ne_d1_d0, ne_d1_d2, ne_d2_d0, ne_d2_d1, rd0, rd0a, rd0b, rd0c, rd0n, rd1, rd1a, rd1b, rd1c, rd1n, rd2, rd2a, rd2b, rd2c, rd2n]; done))
          replace d1_0 : w24.cell? ⟨w.heap.size + 1, 0, none⟩ = some (.int .i64 V) := hx24.has (by first | exact d1_0 | (simp [go_sem, World.cell?_alloc_past, d0_0, d0_1, d0_2, d0_3, d1_0, d1_1, d1_2, d1_3, d2_0, d2_1, d2_2, d2_3, ne_d0_d1, ne_d0_d2, ne_d1_d0, ne_d1_d2, ne_d2_d0, ne_d2_d1, rd0, rd0a, rd0b, rd0c, rd0n, rd1, rd1a, rd1b, rd1c, rd1n, rd2, rd2a, rd2b, rd2c, rd2n]; done))
          replace d1_1 : w24.cell? ⟨w.heap.size + 1, 1, none⟩ = some (.int .i64 S) := hx24.has (by first | exact d1_1 | (simp [go_sem, World.cell?_alloc_past, d0_0, d0_1, d0_2, d0_3, d1_0, d1_1, d1_2, d1_3, d2_0, d2_1, d2_2, d2_3, ne_d0_d1, ne_d0_d2, ne_d1_d0, ne_d1_d2, ne_d2_d0, ne_d2_d1, rd0, rd0a, rd0b, rd0c, rd0n, rd1, rd1a, rd1b, rd1c, rd1n, rd2, rd2a, rd2b, rd2c, rd2n]; done))
          replace d1_2 : w24.cell? ⟨w.heap.size + 1, 2, none⟩ = some (.int .i64 P) := hx24.has (by first | exact d1_2 | (simp [go_sem, World.cell?_alloc_past, d0_0, d0_1, d0_2, d0_3, d1_0, d1_1, d1_2, d1_3, d2_0, d2_1, d2_2, d2_3, ne_d0_d1, ne_d0_d2, ne_d1_d0, ne_d1_d2, ne_d2_d0, ne_d2_d1, rd0, rd0a, rd0b, rd0c, rd0n, rd1, rd1a, rd1b, rd1c, rd1n, rd2, rd2a, rd2b, rd2c, rd2n]; done))
          replace d1_3 : w24.cell? ⟨w.heap.size + 1, 3, none⟩ = some (.int .i64 F) := hx24.has (by first | exact d1_3 | (simp [go_sem, World.cell?_alloc_past, d0_0, d0_1, d0_2, d0_3, d1_0, d1_1, d1_2, d1_3, d2_0, d2_1, d2_2, d2_3, ne_d0_d1, ne_d0_d2, ne_d1_d0, ne_d1_d2, ne_d2_d0, ne_d2_d1, rd0, rd0a, rd0b, rd0c, rd0n, rd1, rd1a, rd1b, rd1c, rd1n, rd2, rd2a, rd2b, rd2c, rd2n]; done))
          have z24 := hx24.size
          try simp at z24
          replace rd0 : w.heap.size < w24.heap.size := by omega
          replace rd0a : w.heap.size < w24.heap.size + 1 := by omega
          replace rd0b : w.heap.size < w24.heap.size + 1 + 1 := by omega
          replace rd0c : w.heap.size < w24.heap.size + 1 + 1 + 1 := by omega
          replace rd0n : ¬ w.heap.size = w24.heap.size := by omega
          replace rd1 : w.heap.size + 1 < w24.heap.size := by omega
          replace rd1a : w.heap.size + 1 < w24.heap.size + 1 := by omega
          replace rd1b : w.heap.size + 1 < w24.heap.size + 1 + 1 := by omega
          replace rd1c : w.heap.size + 1 < w24.heap.size + 1 + 1 + 1 := by omega
          replace rd1n : ¬ w.heap.size + 1 = w24.heap.size := by omega
          replace HS := Lib.hid (HS.out.ext (Ext.trans (by repeat (first | with_reducible exact Ext.refl _ | with_reducible refine Ext.drew ?_ | with_reducible refine Ext.drewN ?_ _ | with_reducible refine Ext.alloc ?_ _ | with_reducible refine Ext.setCell ?_ (by first | omega | (simp; done) | (simp; omega)) _)) hx24))
          have X24 : Hid (Ext w w24) := Lib.hid (Ext.trans (by repeat (first | with_reducible exact X23.out | with_reducible refine Ext.drew ?_ | with_reducible refine Ext.drewN ?_ _ | with_reducible refine Ext.alloc ?_ _ | with_reducible refine Ext.setCell ?_ (by first | omega | (simp; done) | (simp; omega)) _)) hx24)
          clear d2_2 d2_1 d2_3 d2_0 rd2 rd2a rd2b rd2c rd2n X23 hx24 z24
          go_wp2_with fail
          all_goals (go_ret; exact ⟨rfl, (by repeat (first | with_reducible exact X24.out | with_reducible refine Ext.drew ?_ | with_reducible refine Ext.drewN ?_ _ | with_reducible refine Ext.alloc ?_ _ | with_reducible refine Ext.setCell ?_ (by first | omega | (simp; done) | (simp; omega)) _))⟩)
      · have hne : ¬ (V = V' ∧ S = S' ∧ P = P' ∧ F = F') := fun hh => absurd (Hm0.out.2 hh) (by decide)
        clear Hm0 HC3
        go_wp2_with fail
        refine wp_region_held_drew (S := fun w' => w'.cell? ⟨w.heap.size, 0, none⟩ = some (.int .i64 V) ∧ w'.cell? ⟨w.heap.size, 1, none⟩ = some (.int .i64 S) ∧ w'.cell? ⟨w.heap.size, 2, none⟩ = some (.int .i64 P) ∧ w'.cell? ⟨w.heap.size, 3, none⟩ = some (.int .i64 F) ∧ w'.cell? ⟨w.heap.size + 1, 0, none⟩ = some (.int .i64 V') ∧ w'.cell? ⟨w.heap.size + 1, 1, none⟩ = some (.int .i64 S') ∧ w'.cell? ⟨w.heap.size + 1, 2, none⟩ = some (.int .i64 P') ∧ w'.cell? ⟨w.heap.size + 1, 3, none⟩ = some (.int .i64 F') ∧ w'.cell? ⟨w.heap.size + 1 + 1, 0, none⟩ = some (.int .i64 V'') ∧ w'.cell? ⟨w.heap.size + 1 + 1, 1, none⟩ = some (.int .i64 S'') ∧ w'.cell? ⟨w.heap.size + 1 + 1, 2, none⟩ = some (.int .i64 P'') ∧ w'.cell? ⟨w.heap.size + 1 + 1, 3, none⟩ = some (.int .i64 F'')) (by kernel_rfl) (by first | exact ⟨d0_0, d0_1, d0_2, d0_3, d1_0, d1_1, d1_2, d1_3, d2_0, d2_1, d2_2, d2_3⟩ | (simp [go_sem, World.cell?_alloc_past, d0_0, d0_1, d0_2, d0_3, rd0, rd0a, rd0b, rd0c, rd0n, d1_0, d1_1, d1_2, d1_3, rd1, rd1a, rd1b, rd1c, rd1n, d2_0, d2_1, d2_2, d2_3, rd2, rd2a, rd2b, rd2c, rd2n]; done)) (fun hHeld => ?_)
        (refine' take_in 0 rfl (by kernel_rfl) (by kernel_rfl) (by kernel_rfl) (fun _ _ _ h => h) (by rfl) (by assumption) ?_ ?_; rotate_left; focus (intro w hSw; (try dsimp only at hSw); go_simp; try with_reducible rfl)); try simp only [Act.put, List.setIfInBounds_toArray, List.set_cons_zero, List.set_cons_succ]
        (refine' take_in 1 rfl (by kernel_rfl) (by kernel_rfl) (by kernel_rfl) (fun _ _ _ h => h) (by rfl) (by assumption) ?_ ?_; rotate_left; focus (intro w hSw; (try dsimp only at hSw); go_simp; try with_reducible rfl)); try simp only [Act.put, List.setIfInBounds_toArray, List.set_cons_zero, List.set_cons_succ]
        (refine' take_in 3 rfl (by kernel_rfl) (by kernel_rfl) (by kernel_rfl) (fun _ _ _ h => h) (by rfl) (by assumption) ?_ ?_; rotate_left; focus (intro w hSw; (try dsimp only at hSw); go_simp; try with_reducible rfl)); try simp only [Act.put, List.setIfInBounds_toArray, List.set_cons_zero, List.set_cons_succ]
        (refine' take_in 4 rfl (by kernel_rfl) (by kernel_rfl) (by kernel_rfl) (fun _ _ _ h => h) (by rfl) (by assumption) ?_ ?_; rotate_left; focus (intro w hSw; (try dsimp only at hSw); go_simp; try with_reducible rfl)); try simp only [Act.put, List.setIfInBounds_toArray, List.set_cons_zero, List.set_cons_succ]
        refine' next_in 2 rfl (by kernel_rfl) (by rfl) (fun K hK => ?_)
        go_simp
        (with_reducible refine (C1.out _).mono ?_)
        rintro e w21 ⟨rfl, hx21⟩
        replace d0_0 : w21.cell? ⟨w.heap.size, 0, none⟩ = some (.int .i64 V) := hx21.has (by first | exact d0_0 | (simp [go_sem, World.cell?_alloc_past, d0_0, d0_1, d0_2, d0_3, rd0, rd0a, rd0b, rd0c, rd0n, d1_0, d1_1, d1_2, d1_3, rd1, rd1a, rd1b, rd1c, rd1n, d2_0, d2_1, d2_2, d2_3, rd2, rd2a, rd2b, rd2c, rd2n]; done))
        replace d0_1 : w21.cell? ⟨w.heap.size, 1, none⟩ = some (.int .i64 S) := hx21.has (by first | exact d0_1 | (simp [go_sem, World.cell?_alloc_past, d0_0, d0_1, d0_2, d0_3, rd0, rd0a, rd0b, rd0c, rd0n, d1_0, d1_1, d1_2, d1_3, rd1, rd1a, rd1b, rd1c, rd1n, d2_0, d2_1, d2_2, d2_3, rd2, rd2a, rd2b, rd2c, rd2n]; done))
        replace d0_2 : w21.cell? ⟨w.heap.size, 2, none⟩ = some (.int .i64 P) := hx21.has (by first | exact d0_2 | (simp [go_sem, World.cell?_alloc_past, d0_0, d0_1, d0_2, d0_3, rd0, rd0a, rd0b, rd0c, rd0n, d1_0, d1_1, d1_2, d1_3, rd1, rd1a, rd1b, rd1c, rd1n, d2_0, d2_1, d2_2, d2_3, rd2, rd2a, rd2b, rd2c, rd2n]; done))
        replace d0_3 : w21.cell? ⟨w.heap.size, 3, none⟩ = some (.int .i64 F) := hx21.has (by first | exact d0_3 | (simp [go_sem, World.cell?_alloc_past, d0_0, d0_1, d0_2, d0_3, rd0, rd0a, rd0b, rd0c, rd0n, d1_0, d1_1, d1_2, d1_3, rd1, rd1a, rd1b, rd1c, rd1n, d2_0, d2_1, d2_2, d2_3, rd2, rd2a, rd2b, rd2c, rd2n]; done))
        replace d1_0 : w21.cell? ⟨w.heap.size + 1, 0, none⟩ = some (.int .i64 V') := hx21.has (by first | exact d1_0 | (simp [go_sem, World.cell?_alloc_past, d0_0, d0_1, d0_2, d0_3, rd0, rd0a, rd0b, rd0c, rd0n, d1_0, d1_1, d1_2, d1_3, rd1, rd1a, rd1b, rd1c, rd1n, d2_0, d2_1, d2_2, d2_3, rd2, rd2a, rd2b, rd2c, rd2n]; done))
        replace d1_1 : w21.cell? ⟨w.heap.size + 1, 1, none⟩ = some (.int .i64 S') := hx21.has (by first | exact d1_1 | (simp [go_sem, World.cell?_alloc_past, d0_0, d0_1, d0_2, d0_3, rd0, rd0a, rd0b, rd0c, rd0n, d1_0, d1_1, d1_2, d1_3, rd1, rd1a, rd1b, rd1c, rd1n, d2_0, d2_1, d2_2, d2_3, rd2, rd2a, rd2b, rd2c, rd2n]; done))
        replace d1_2 : w21.cell? ⟨w.heap.size + 1, 2, none⟩ = some (.int .i64 P') := hx21.has (by first | exact d1_2 | (simp [go_sem, World.cell?_alloc_past, d0_0, d0_1, d0_2, d0_3, rd0, rd0a, rd0b, rd0c, rd0n, d1_0, d1_1, d1_2, d1_3, rd1, rd1a, rd1b, rd1c, rd1n, d2_0, d2_1, d2_2, d2_3, rd2, rd2a, rd2b, rd2c, rd2n]; done))
        replace d1_3 : w21.cell? ⟨w.heap.size + 1, 3, none⟩ = some (.int .i64 F') := hx21.has (by first | exact d1_3 | (simp [go_sem, World.cell?_alloc_past, d0_0, d0_1, d0_2, d0_3, rd0, rd0a, rd0b, rd0c, rd0n, d1_0, d1_1, d1_2, d1_3, rd1, rd1a, rd1b, rd1c, rd1n, d2_0, d2_1, d2_2, d2_3, rd2, rd2a, rd2b, rd2c, rd2n]; done))
        replace d2_0 : w21.cell? ⟨w.heap.size + 1 + 1, 0, none⟩ = some (.int .i64 V'') := hx21.has (by first | exact d2_0 | (simp [go_sem, World.cell?_alloc_past, d0_0, d0_1, d0_2, d0_3, rd0, rd0a, rd0b, rd0c, rd0n, d1_0, d1_1, d1_2, d1_3, rd1, rd1a, rd1b, rd1c, rd1n, d2_0, d2_1, d2_2, d2_3, rd2, rd2a, rd2b, rd2c, rd2n]; done))
        replace d2_1 : w21.cell? ⟨w.heap.size + 1 + 1, 1, none⟩ = some (.int .i64 S'') := hx21.has (by first | exact d2_1 | (simp [go_sem, World.cell?_alloc_past, d0_0, d0_1, d0_2, d0_3, rd0, rd0a, rd0b, rd0c, rd0n, d1_0, d1_1, d1_2, d1_3, rd1, rd1a, rd1b, rd1c, rd1n, d2_0, d2_1, d2_2, d2_3, rd2, rd2a, rd2b, rd2c, rd2n]; done))
        replace d2_2 : w21.cell? ⟨w.heap.size + 1 + 1, 2, none⟩ = some (.int .i64 P'') := hx21.has (by first | exact d2_2 | (simp [go_sem, World.cell?_alloc_past, d0_0, d0_1, d0_2, d0_3, rd0, rd0a, rd0b, rd0c, rd0n, d1_0, d1_1, d1_2, d1_3, rd1, rd1a, rd1b, rd1c, rd1n, d2_0, d2_1, d2_2, d2_3, rd2, rd2a, rd2b, rd2c, rd2n]; done))
        replace d2_3 : w21.cell? ⟨w.heap.size + 1 + 1, 3, none⟩ = some (.int .i64 F'') := hx21.has (by first | exact d2_3 | (simp [go_sem, World.cell?_alloc_past, d0_0, d0_1, d0_2, d0_3, rd0, rd0a, rd0b, rd0c, rd0n, d1_0, d1_1, d1_2, d1_3, rd1, rd1a, rd1b, rd1c, rd1n, d2_0, d2_1, d2_2, d2_3, rd2, rd2a, rd2b, rd2c, rd2n]; done))
        have z21 := hx21.size
        try simp at z21
        have ne_d0_d1 : ¬ w.heap.size = w.heap.size + 1 := by omega
        have ne_d0_d2 : ¬ w.heap.size = w.heap.size + 1 + 1 := by omega
        have ne_d1_d0 : ¬ w.heap.size + 1 = w.heap.size := by omega
        have ne_d1_d2 : ¬ w.heap.size + 1 = w.heap.size + 1 + 1 := by omega
        have ne_d2_d0 : ¬ w.heap.size + 1 + 1 = w.heap.size := by omega
        have ne_d2_d1 : ¬ w.heap.size + 1 + 1 = w.heap.size + 1 := by omega
        replace rd0 : w.heap.size < w21.heap.size := by omega
        replace rd0a : w.heap.size < w21.heap.size + 1 := by omega
        replace rd0b : w.heap.size < w21.heap.size + 1 + 1 := by omega
        replace rd0c : w.heap.size < w21.heap.size + 1 + 1 + 1 := by omega
        replace rd0n : ¬ w.heap.size = w21.heap.size := by omega
        replace rd1 : w.heap.size + 1 < w21.heap.size := by omega
        replace rd1a : w.heap.size + 1 < w21.heap.size + 1 := by omega
        replace rd1b : w.heap.size + 1 < w21.heap.size + 1 + 1 := by omega
        replace rd1c : w.heap.size + 1 < w21.heap.size + 1 + 1 + 1 := by omega
        replace rd1n : ¬ w.heap.size + 1 = w21.heap.size := by omega
        replace rd2 : w.heap.size + 1 + 1 < w21.heap.size := by omega
        replace rd2a : w.heap.size + 1 + 1 < w21.heap.size + 1 := by omega
        replace rd2b : w.heap.size + 1 + 1 < w21.heap.size + 1 + 1 := by omega
        replace rd2c : w.heap.size + 1 + 1 < w21.heap.size + 1 + 1 + 1 := by omega
        replace rd2n : ¬ w.heap.size + 1 + 1 = w21.heap.size := by omega
        replace HS := Lib.hid (HS.out.ext (Ext.trans (by repeat (first | with_reducible exact Ext.refl _ | with_reducible refine Ext.drew ?_ | with_reducible refine Ext.drewN ?_ _ | with_reducible refine Ext.alloc ?_ _ | with_reducible refine Ext.setCell ?_ (by first | omega | (simp; done) | (simp; omega)) _)) hx21))
        have X21 : Hid (Ext w w21) := Lib.hid (Ext.trans (by repeat (first | with_reducible exact XC.out | with_reducible refine Ext.drew ?_ | with_reducible refine Ext.drewN ?_ _ | with_reducible refine Ext.alloc ?_ _ | with_reducible refine Ext.setCell ?_ (by first | omega | (simp; done) | (simp; omega)) _)) hx21)
        clear XC hx21 z21
        refine hK.out _ _ (by (first | exact ⟨d0_0, d0_1, d0_2, d0_3, d1_0, d1_1, d1_2, d1_3, d2_0, d2_1, d2_2, d2_3⟩ | (simp [go_sem, World.cell?_alloc_past, d0_0, d0_1, d0_2, d0_3, d1_0, d1_1, d1_2, d1_3, d2_0, d2_1, d2_2, d2_3, ne_d0_d1, ne_d0_d2, ne_d1_d0, ne_d1_d2, ne_d2_d0, ne_d2_d1, rd0, rd0a, rd0b, rd0c, rd0n, rd1, rd1a, rd1b, rd1c, rd1n, rd2, rd2a, rd2b, rd2c, rd2n]; done))) (fun hHeld => ?_); clear hK K; try simp only [Act.put, List.setIfInBounds_toArray, List.set_cons_zero, List.set_cons_succ]
        refine' next_in 5 rfl (by kernel_rfl) (by rfl) (fun K hK => ?_)
        go_simp
        (with_reducible refine (C2.out _).mono ?_)
        rintro e w22 ⟨rfl, hx22⟩
        replace d0_0 : w22.cell? ⟨w.heap.size, 0, none⟩ = some (.int .i64 V) := hx22.has (by first | exact d0_0 | (simp [go_sem, World.cell?_alloc_past, d0_0, d0_1, d0_2, d0_3, d1_0, d1_1, d1_2, d1_3, d2_0, d2_1, d2_2, d2_3, ne_d0_d1, ne_d0_d2, ne_d1_d0, ne_d1_d2, ne_d2_d0, ne_d2_d1, rd0, rd0a, rd0b, rd0c, rd0n, rd1, rd1a, rd1b, rd1c, rd1n, rd2, rd2a, rd2b, rd2c, rd2n]; done))
        replace d0_1 : w22.cell? ⟨w.heap.size, 1, none⟩ = some (.int .i64 S) := hx22.has (by first | exact d0_1 | (simp [go_sem, World.cell?_alloc_past, d0_0, d0_1, d0_2, d0_3, d1_0, d1_1, d1_2, d1_3, d2_0, d2_1, d2_2, d2_3, ne_d0_d1, ne_d0_d2, ne_d1_d0, ne_d1_d2, ne_d2_d0, ne_d2_d1, rd0, rd0a, rd0b, rd0c, rd0n, rd1, rd1a, rd1b, rd1c, rd1n, rd2, rd2a, rd2b, rd2c, rd2n]; done))
        replace d0_2 : w22.cell? ⟨w.heap.size, 2, none⟩ = some (.int .i64 P) := hx22.has (by first | exact d0_2 | (simp [go_sem, World.cell?_alloc_past, d0_0, d0_1, d0_2, d0_3, d1_0, d1_1, d1_2, d1_3, d2_0, d2_1, d2_2, d2_3, ne_d0_d1, ne_d0_d2, ne_d1_d0, ne_d1_d2, ne_d2_d0, ne_d2_d1, rd0, rd0a, rd0b, rd0c, rd0n, rd1, rd1a, rd1b, rd1c, rd1n, rd2, rd2a, rd2b, rd2c, rd2n]; done))
        replace d0_3 : w22.cell? ⟨w.heap.size, 3, none⟩ = some (.int .i64 F) := hx22.has (by first | exact d0_3 | (simp [go_sem, World.cell?_alloc_past, d0_0, d0_1, d0_2, d0_3, d1_0, d1_1, d1_2, d1_3, d2_0, d2_1, d2_2, d2_3, ne_d0_d1, ne_d0_d2, ne_d1_d0, ne_d1_d2, ne_d2_d0, ne_d2_d1, rd0, rd0a, rd0b, rd0c, rd0n, rd1, rd1a, rd1b, rd1c, rd1n, rd2, rd2a, rd2b, rd2c, rd2n]; done))
        replace d1_0 : w22.cell? ⟨w.heap.size + 1, 0, none⟩ = some (.int .i64 V') := hx22.has (by first | exact d1_0 | (simp [go_sem, World.cell?_alloc_past, d0_0, d0_1, d0_2, d0_3, d1_0, d1_1, d1_2, d1_3, d2_0, d2_1, d2_2, d2_3, ne_d0_d1, ne_d0_d2, ne_d1_d0, ne_d1_d2, ne_d2_d0, ne_d2_d1, rd0, rd0a, rd0b, rd0c, rd0n, rd1, rd1a, rd1b, rd1c, rd1n, rd2, rd2a, rd2b, rd2c, rd2n]; done))
        replace d1_1 : w22.cell? ⟨w.heap.size + 1, 1, none⟩ = some (.int .i64 S') := hx22.has (by first | exact d1_1 | (simp [go_sem, World.cell?_alloc_past, d0_0, d0_1, d0_2, d0_3, d1_0, d1_1, d1_2, d1_3, d2_0, d2_1, d2_2, d2_3, ne_d0_d1, ne_d0_d2, ne_d1_d0, ne_d1_d2, ne_d2_d0, ne_d2_d1, rd0, rd0a, rd0b, rd0c, rd0n, rd1, rd1a, rd1b, rd1c, rd1n, rd2, rd2a, rd2b, rd2c, rd2n]; done))
        replace d1_2 : w22.cell? ⟨w.heap.size + 1, 2, none⟩ = some (.int .i64 P') := hx22.has (by first | exact d1_2 | (simp [go_sem, World.cell?_alloc_past, d0_0, d0_1, d0_2, d0_3, d1_0, d1_1, d1_2, d1_3, d2_0, d2_1, d2_2, d2_3, ne_d0_d1, ne_d0_d2, ne_d1_d0, ne_d1_d2, ne_d2_d0, ne_d2_d1, rd0, rd0a, rd0b, rd0c, rd0n, rd1, rd1a, rd1b, rd1c, rd1n, rd2, rd2a, rd2b, rd2c, rd2n]; done))
        replace d1_3 : w22.cell? ⟨w.heap.size + 1, 3, none⟩ = some (.int .i64 F') := hx22.has (by first | exact d1_3 | (simp [go_sem, World.cell?_alloc_past, d0_0, d0_1, d0_2, d0_3, d1_0, d1_1, d1_2, d1_3, d2_0, d2_1, d2_2, d2_3, ne_d0_d1, ne_d0_d2, ne_d1_d0, ne_d1_d2, ne_d2_d0, ne_d2_d1, rd0, rd0a, rd0b, rd0c, rd0n, rd1, rd1a, rd1b, rd1c, rd1n, rd2, rd2a, rd2b, rd2c, rd2n]; done))
        replace d2_0 : w22.cell? ⟨w.heap.size + 1 + 1, 0, none⟩ = some (.int .i64 V'') := hx22.has (by first | exact d2_0 | (simp [go_sem, World.cell?_alloc_past, d0_0, d0_1, d0_2, d0_3, d1_0, d1_1, d1_2, d1_3, d2_0, d2_1, d2_2, d2_3, ne_d0_d1, ne_d0_d2, ne_d1_d0, ne_d1_d2, ne_d2_d0, ne_d2_d1, rd0, rd0a, rd0b, rd0c, rd0n, rd1, rd1a, rd1b, rd1c, rd1n, rd2, rd2a, rd2b, rd2c, rd2n]; done))
        replace d2_1 : w22.cell? ⟨w.heap.size + 1 + 1, 1, none⟩ = some (.int .i64 S'') := hx22.has (by first | exact d2_1 | (simp [go_sem, World.cell?_alloc_past, d0_0, d0_1, d0_2, d0_3, d1_0, d1_1, d1_2, d1_3, d2_0, d2_1, d2_2, d2_3, ne_d0_d1, ne_d0_d2, ne_d1_d0, ne_d1_d2, ne_d2_d0, ne_d2_d1, rd0, rd0a, rd0b, rd0c, rd0n, rd1, rd1a, rd1b, rd1c, rd1n, rd2, rd2a, rd2b, rd2c, rd2n]; done))
        replace d2_2 : w22.cell? ⟨w.heap.size + 1 + 1, 2, none⟩ = some (.int .i64 P'') := hx22.has (by first | exact d2_2 | (simp [go_sem, World.cell?_alloc_past, d0_0, d0_1, d0_2, d0_3, d1_0, d1_1, d1_2, d1_3, d2_0, d2_1, d2_2, d2_3, ne_d0_d1, ne_d0_d2, ne_d1_d0, ne_d1_d2, ne_d2_d0, ne_d2_d1, rd0, rd0a, rd0b, rd0c, rd0n, rd1, rd1a, rd1b, rd1c, rd1n, rd2, rd2a, rd2b, rd2c, rd2n]; done))
        replace d2_3 : w22.cell? ⟨w.heap.size + 1 + 1, 3, none⟩ = some (.int .i64 F'') := hx22.has (by first | exact d2_3 | (simp [go_sem, World.cell?_alloc_past, d0_0, d0_1, d0_2, d0_3, d1_0, d1_1, d1_2, d1_3, d2_0, d2_1, d2_2, d2_3, ne_d0_d1, ne_d0_d2, ne_d1_d0, ne_d1_d2, ne_d2_d0, ne_d2_d1, rd0, rd0a, rd0b, rd0c, rd0n, rd1, rd1a, rd1b, rd1c, rd1n, rd2, rd2a, rd2b, rd2c, rd2n]; done))
        have z22 := hx22.size
        try simp at z22
        replace rd0 : w.heap.size < w22.heap.size := by omega
        replace rd0a : w.heap.size < w22.heap.size + 1 := by omega
        replace rd0b : w.heap.size < w22.heap.size + 1 + 1 := by omega
        replace rd0c : w.heap.size < w22.heap.size + 1 + 1 + 1 := by omega
        replace rd0n : ¬ w.heap.size = w22.heap.size := by omega
        replace rd1 : w.heap.size + 1 < w22.heap.size := by omega
        replace rd1a : w.heap.size + 1 < w22.heap.size + 1 := by omega
        replace rd1b : w.heap.size + 1 < w22.heap.size + 1 + 1 := by omega
        replace rd1c : w.heap.size + 1 < w22.heap.size + 1 + 1 + 1 := by omega
        replace rd1n : ¬ w.heap.size + 1 = w22.heap.size := by omega
        replace rd2 : w.heap.size + 1 + 1 < w22.heap.size := by omega
        replace rd2a : w.heap.size + 1 + 1 < w22.heap.size + 1 := by omega
        replace rd2b : w.heap.size + 1 + 1 < w22.heap.size + 1 + 1 := by omega
        replace rd2c : w.heap.size + 1 + 1 < w22.heap.size + 1 + 1 + 1 := by omega
        replace rd2n : ¬ w.heap.size + 1 + 1 = w22.heap.size := by omega
        replace HS := Lib.hid (HS.out.ext (Ext.trans (by repeat (first | with_reducible exact Ext.refl _ | with_reducible refine Ext.drew ?_ | with_reducible refine Ext.drewN ?_ _ | with_reducible refine Ext.alloc ?_ _ | with_reducible refine Ext.setCell ?_ (by first | omega | (simp; done) | (simp; omega)) _)) hx22))
        have X22 : Hid (Ext w w22) := Lib.hid (Ext.trans (by repeat (first | with_reducible exact X21.out | with_reducible refine Ext.drew ?_ | with_reducible refine Ext.drewN ?_ _ | with_reducible refine Ext.alloc ?_ _ | with_reducible refine Ext.setCell ?_ (by first | omega | (simp; done) | (simp; omega)) _)) hx22)
        clear X21 hx22 z22
        refine hK.out _ _ (by (first | exact ⟨d0_0, d0_1, d0_2, d0_3, d1_0, d1_1, d1_2, d1_3, d2_0, d2_1, d2_2, d2_3⟩ | (simp [go_sem, World.cell?_alloc_past, d0_0, d0_1, d0_2, d0_3, d1_0, d1_1, d1_2, d1_3, d2_0, d2_1, d2_2, d2_3, ne_d0_d1, ne_d0_d2, ne_d1_d0, ne_d1_d2, ne_d2_d0, ne_d2_d1, rd0, rd0a, rd0b, rd0c, rd0n, rd1, rd1a, rd1b, rd1c, rd1n, rd2, rd2a, rd2b, rd2c, rd2n]; done))) (fun hHeld => ?_); clear hK K; try simp only [Act.put, List.setIfInBounds_toArray, List.set_cons_zero, List.set_cons_succ]
        (refine' take_in 6 rfl (by kernel_rfl) (by kernel_rfl) (by kernel_rfl) (fun _ _ _ h => h) (by rfl) (by assumption) ?_ ?_; rotate_left; focus (intro w hSw; (try dsimp only at hSw); go_simp; try with_reducible rfl)); try simp only [Act.put, List.setIfInBounds_toArray, List.set_cons_zero, List.set_cons_succ]
        (refine' take_in 7 rfl (by kernel_rfl) (by kernel_rfl) (by kernel_rfl) (fun _ _ _ h => h) (by rfl) (by assumption) ?_ ?_; rotate_left; focus (intro w hSw; (try dsimp only at hSw); go_simp; try with_reducible rfl)); try simp only [Act.put, List.setIfInBounds_toArray, List.set_cons_zero, List.set_cons_succ]
        refine wpAnyH_done (by kernel_rfl) ?_ _
        go_wp2_with fail
        (with_reducible refine (C4.out _).mono ?_)
        rintro e w23 ⟨rfl, hx23⟩
        replace d0_0 : w23.cell? ⟨w.heap.size, 0, none⟩ = some (.int .i64 V) := hx23.has (by first | exact d0_0 | (simp [go_sem, World.cell?_alloc_past, d0_0, d0_1, d0_2, d0_3, d1_0, d1_1, d1_2, d1_3, d2_0, d2_1, d2_2, d2_3, ne_d0_d1, ne_d0_d2, ne_d1_d0, ne_d1_d2, ne_d2_d0, ne_d2_d1, rd0, rd0a, rd0b, rd0c, rd0n, rd1, rd1a, rd1b, rd1c, rd1n, rd2, rd2a, rd2b, rd2c, rd2n]; done))
        replace d0_1 : w23.cell? ⟨w.heap.size, 1, none⟩ = some (.int .i64 S) := hx23.has (by first | exact d0_1 | (simp [go_sem, World.cell?_alloc_past, d0_0, d0_1, d0_2, d0_3, d1_0, d1_1, d1_2, d1_3, d2_0, d2_1, d2_2, d2_3, ne_d0_d1, ne_d0_d2, ne_d1_d0, ne_d1_d2, ne_d2_d0, ne_d2_d1, rd0, rd0a, rd0b, rd0c, rd0n, rd1, rd1a, rd1b, rd1c, rd1n, rd2, rd2a, rd2b, rd2c, rd2n]; done))
        replace d0_2 : w23.cell? ⟨w.heap.size, 2, none⟩ = some (.int .i64 P) := hx23.has (by first | exact d0_2 | (simp [go_sem, World.cell?_alloc_past, d0_0, d0_1, d0_2, d0_3, d1_0, d1_1, d1_2, d1_3, d2_0, d2_1, d2_2, d2_3, ne_d0_d1, ne_d0_d2, ne_d1_d0, ne_d1_d2, ne_d2_d0, ne_d2_d1, rd0, rd0a, rd0b, rd0c, rd0n, rd1, rd1a, rd1b, rd1c, rd1n, rd2, rd2a, rd2b, rd2c, rd2n]; done))
        replace d0_3 : w23.cell? ⟨w.heap.size, 3, none⟩ = some (.int .i64 F) := hx23.has (by first | exact d0_3 | (simp [go_sem, World.cell?_alloc_past, d0_0, d0_1, d0_2, d0_3, d1_0, d1_1, d1_2, d1_3, d2_0, d2_1, d2_2, d2_3, ne_d0_d1, ne_d0_d2, ne_d1_d0, ne_d1_d2, ne_d2_d0, ne_d2_d1, rd0, rd0a, rd0b, rd0c, rd0n, rd1, rd1a, rd1b, rd1c, rd1n, rd2, rd2a, rd2b, rd2c, rd2n]; done))
        replace d1_0 : w23.cell? ⟨w.heap.size + 1, 0, none⟩ = some (.int .i64 V') := hx23.has (by first | exact d1_0 | (simp [go_sem, World.cell?_alloc_past, d0_0, d0_1, d0_2, d0_3, d1_0, d1_1, d1_2, d1_3, d2_0, d2_1, d2_2, d2_3, ne_d0_d1, ne_d0_d2, ne_d1_d0, ne_d1_d2, ne_d2_d0, ne_d2_d1, rd0, rd0a, rd0b, rd0c, rd0n, rd1, rd1a, rd1b, rd1c, rd1n, rd2, rd2a, rd2b, rd2c, rd2n]; done))
        replace d1_1 : w23.cell? ⟨w.heap.size + 1, 1, none⟩ = some (.int .i64 S') := hx23.has (by first | exact d1_1 | (simp [go_sem, World.cell?_alloc_past, d0_0, d0_1, d0_2, d0_3, d1_0, d1_1, d1_2, d1_3, d2_0, d2_1, d2_2, d2_3, ne_d0_d1, ne_d0_d2, ne_d1_d0, ne_d1_d2, ne_d2_d0, ne_d2_d1, rd0, rd0a, rd0b, rd0c, rd0n, rd1, rd1a, rd1b, rd1c, rd1n, rd2, rd2a, rd2b, rd2c, rd2n]; done))
        replace d1_2 : w23.cell? ⟨w.heap.size + 1, 2, none⟩ = some (.int .i64 P') := hx23.has (by first | exact d1_2 | (simp [go_sem, World.cell?_alloc_past, d0_0, d0_1, d0_2, d0_3, d1_0, d1_1, d1_2, d1_3, d2_0, d2_1, d2_2, d2_3, ne_d0_d1, ne_d0_d2, ne_d1_d0, ne_d1_d2, ne_d2_d0, ne_d2_d1, rd0, rd0a, rd0b, rd0c, rd0n, rd1, rd1a, rd1b, rd1c, rd1n, rd2, rd2a, rd2b, rd2c, rd2n]; done))
        replace d1_3 : w23.cell? ⟨w.heap.size + 1, 3, none⟩ = some (.int .i64 F') := hx23.has (by first | exact d1_3 | (simp [go_sem, World.cell?_alloc_past, d0_0, d0_1, d0_2, d0_3, d1_0, d1_1, d1_2, d1_3, d2_0, d2_1, d2_2, d2_3, ne_d0_d1, ne_d0_d2, ne_d1_d0, ne_d1_d2, ne_d2_d0, ne_d2_d1, rd0, rd0a, rd0b, rd0c, rd0n, rd1, rd1a, rd1b, rd1c, rd1n, rd2, rd2a, rd2b, rd2c, rd2n]; done))
        replace d2_0 : w23.cell? ⟨w.heap.size + 1 + 1, 0, none⟩ = some (.int .i64 V'') := hx23.has (by first | exact d2_0 | (simp [go_sem, World.cell?_alloc_past, d0_0, d0_1, d0_2, d0_3, d1_0, d1_1, d1_2, d1_3, d2_0, d2_1, d2_2, d2_3, ne_d0_d1, ne_d0_d2, ne_d1_d0, ne_d1_d2, ne_d2_d0, ne_d2_d1, rd0, rd0a, rd0b, rd0c, rd0n, rd1, rd1a, rd1b, rd1c, rd1n, rd2, rd2a, rd2b, rd2c, rd2n]; done))
        replace d2_1 : w23.cell? ⟨w.heap.size + 1 + 1, 1, none⟩ = some (.int .i64 S'') := hx23.has (by first | exact d2_1 | (simp [go_sem, World.cell?_alloc_past, d0_0, d0_1, d0_2, d0_3, d1_0, d1_1, d1_2, d1_3, d2_0, d2_1, d2_2, d2_3, ne_d0_d1, ne_d0_d2, ne_d1_d0, ne_d1_d2, ne_d2_d0, ne_d2_d1, rd0, rd0a, rd0b, rd0c, rd0n, rd1, rd1a, rd1b, rd1c, rd1n, rd2, rd2a, rd2b, rd2c, rd2n]; done))
        replace d2_2 : w23.cell? ⟨w.heap.size + 1 + 1, 2, none⟩ = some (.int .i64 P'') := hx23.has (by first | exact d2_2 | (simp [go_sem, World.cell?_alloc_past, d0_0, d0_1, d0_2, d0_3, d1_0, d1_1, d1_2, d1_3, d2_0, d2_1, d2_2, d2_3, ne_d0_d1, ne_d0_d2, ne_d1_d0, ne_d1_d2, ne_d2_d0, ne_d2_d1, rd0, rd0a, rd0b, rd0c, rd0n, rd1, rd1a, rd1b, rd1c, rd1n, rd2, rd2a, rd2b, rd2c, rd2n]; done))
        replace d2_3 : w23.cell? ⟨w.heap.size + 1 + 1, 3, none⟩ = some (.int .i64 F'') := hx23.has (by first | exact d2_3 | (simp [go_sem, World.cell?_alloc_past, d0_0, d0_1, d0_2, d0_3, d1_0, d1_1, d1_2, d1_3, d2_0, d2_1, d2_2, d2_3, ne_d0_d1, ne_d0_d2, ne_d1_d0, ne_d1_d2, ne_d2_d0, ne_d2_d1, rd0, rd0a, rd0b, rd0c, rd0n, rd1, rd1a, rd1b, rd1c, rd1n, rd2, rd2a, rd2b, rd2c, rd2n]; done))
        have z23 := hx23.size
        try simp at z23
        replace rd0 : w.heap.size < w23.heap.size := by omega
        replace rd0a : w.heap.size < w23.heap.size + 1 := by omega
        replace rd0b : w.heap.size < w23.heap.size + 1 + 1 := by omega
        replace rd0c : w.heap.size < w23.heap.size + 1 + 1 + 1 := by omega
        replace rd0n : ¬ w.heap.size = w23.heap.size := by omega
        replace rd1 : w.heap.size + 1 < w23.heap.size := by omega
        replace rd1a : w.heap.size + 1 < w23.heap.size + 1 := by omega
        replace rd1b : w.heap.size + 1 < w23.heap.size + 1 + 1 := by omega
        replace rd1c : w.heap.size + 1 < w23.heap.size + 1 + 1 + 1 := by omega
        replace rd1n : ¬ w.heap.size + 1 = w23.heap.size := by omega
        replace rd2 : w.heap.size + 1 + 1 < w23.heap.size := by omega
        replace rd2a : w.heap.size + 1 + 1 < w23.heap.size + 1 := by omega
        replace rd2b : w.heap.size + 1 + 1 < w23.heap.size + 1 + 1 := by omega
        replace rd2c : w.heap.size + 1 + 1 < w23.heap.size + 1 + 1 + 1 := by omega
        replace rd2n : ¬ w.heap.size + 1 + 1 = w23.heap.size := by omega
        replace HS := Lib.hid (HS.out.ext (Ext.trans (by repeat (first | with_reducible exact Ext.refl _ | with_reducible refine Ext.drew ?_ | with_reducible refine Ext.drewN ?_ _ | with_reducible refine Ext.alloc ?_ _ | with_reducible refine Ext.setCell ?_ (by first | omega | (simp; done) | (simp; omega)) _)) hx23))
        have X23 : Hid (Ext w w23) := Lib.hid (Ext.trans (by repeat (first | with_reducible exact X22.out | with_reducible refine Ext.drew ?_ | with_reducible refine Ext.drewN ?_ _ | with_reducible refine Ext.alloc ?_ _ | with_reducible refine Ext.setCell ?_ (by first | omega | (simp; done) | (simp; omega)) _)) hx23)
        clear X22 hx23 z23
        go_wp2_with fail
        all_goals (go_ret; exact ⟨rfl, (by repeat (first | with_reducible exact X23.out | with_reducible refine Ext.drew ?_ | with_reducible refine Ext.drewN ?_ _ | with_reducible refine Ext.alloc ?_ _ | with_reducible refine Ext.setCell ?_ (by first | omega | (simp; done) | (simp; omega)) _))⟩)
theorem beq_and (a b : Int) : (a == b) = decide (a = b) := by
  by_cases h : a = b
  · subst h; simp
  · rw [beq_false_of_ne h, decide_eq_false h]
theorem rdS_fault {L : List Nat} : (rdS L).1 = 0 → (if (rdS L).1 = 0 then 0 else (rdS L).2) = 0 := fun h => if_pos h
set_option maxRecDepth 100000 in
theorem StampBack_any (V S P F : Int) (_ : Fits .i64 V) (_ : Fits .i64 S) (_ : Fits .i64 P) (_ : Fits .i64 F) (V' S' P' F' : Int) (_ : Fits .i64 V') (_ : Fits .i64 S') (_ : Fits .i64 P') (_ : Fits .i64 F') (V'' S'' P'' F'' : Int) (_ : Fits .i64 V'') (_ : Fits .i64 S'') (_ : Fits .i64 P'') (_ : Fits .i64 F'')
    (A2 : Option Addr) (c2 : Nat) (M : List Nat) (w : World) (hS2 : Sl w 1 A2 M.length c2 (by_ M)) (hM : Byt M) (hnil : A2 = none → c2 = 0) :
    Calls Try.prog 12 #[.agg #[.int .i64 V, .int .i64 S, .int .i64 P, .int .i64 F], .agg #[.int .i64 V', .int .i64 S', .int .i64 P', .int .i64 F'], .agg #[.int .i64 V'', .int .i64 S'', .int .i64 P'', .int .i64 F''], .slice A2 M.length c2] w fun r w' => r = .returned (.bool true) ∧ Ext w w' := by
  refine StampBack_w V S P F V' S' P' F' V'' S'' P'' F'' A2 c2 M (stB V S P F) (chkS V S P F) _ _ _ _ (rdS M).1 (if (rdS M).1 = 0 then 0 else (rdS M).2) (cmpL [(V, V'), (S, S'), (P, P'), (F, F')]) (cmpL [(V', V''), (S', S''), (P', P''), (F', F'')]) hM (byt_stB _ _ _ _) w hS2
    (Lib.hid fun w => tBytes_sl V S P F w) ?_ (Lib.hid fun w => tCheck_any V S P F w) (fun hl => Lib.hid fun w h => tRead_any A2 c2 M hM (by omega) hnil w h) rdS_fault ?_
    (Lib.hid fun w => tCompare_any _ _ _ _ _ _ _ _ w) (Lib.hid fun w => tCompare_any _ _ _ _ _ _ _ _ w) ?_ ?_ (cmp_three _) (cmp_zero _ _ _ _ _ _ _ _)
  · intro h
    refine Lib.hid fun A c w hn hs => ?_
    have hl := stB_len V S P F
    have C := tRead_any A c (stB V S P F) (byt_stB _ _ _ _) (by omega) hn w hs
    obtain ⟨e0, e1, e2, e3, e4⟩ := rdS_stB h
    rw [e1, e2, e3, e4, if_pos e0, e0] at C
    exact C
  · intro h
    obtain ⟨e0, e1⟩ := stB_rdS hM h
    refine Lib.hid fun w => ?_
    have C := tBytes_sl (tkA M (0, none)) (tkB M (0, none)) (tkC M (0, none) - 1) (tkD M (0, none)) w
    rw [e1, e0] at C
    unfold rdZ
    rw [if_pos h, if_pos h, if_pos h, if_pos h]
    exact C
  · intro h1 h2
    exact ⟨_, cmp_thru _ _ _ _ _ _ _ _ _ _ _ _ h1 h2, Lib.hid fun w => tCompare_any _ _ _ _ _ _ _ _ w⟩
  · refine Lib.hid fun w => ?_
    rw [cmp_turn V S P F V' S' P' F', Int.neg_neg]
    exact tCompare_any _ _ _ _ _ _ _ _ w
end Go.Proofs.Ythaknigljjnnaaa
