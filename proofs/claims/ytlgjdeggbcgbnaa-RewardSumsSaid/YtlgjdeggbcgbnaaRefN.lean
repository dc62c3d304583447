/- distraintref02's Reader: U and N. Conditions stand in each lemma. -/
import Derived.Test.YtlgjdeggbcgbnaaRefW
import Derived.Test.YtlgjdeggbcgbnaaHeld2
import Derived.WalkLawsBesides
set_option linter.unusedVariables false
set_option linter.unusedSimpArgs false
namespace Go.Proofs.Ytlgjdeggbcgbnaa
open Go.RowKit

theorem RRd.set {w : World} {g k : Nat} {L : List Nat} {f : Option (Int × Int)} (h : RRd w g L k f) {b o : Nat} (hg : g < b) (v : Value) : RRd (w.setCell ⟨b, o, none⟩ v) g L k f := by
  obtain ⟨A, c, h0, h1, h2⟩ := h.b
  obtain ⟨t, h3, h4, h5⟩ := h.c1
  obtain ⟨cs, z, h6⟩ := h.ty
  obtain ⟨cs1, z1, h7⟩ := heap_type_set (p := ⟨b, o, none⟩) (v := v) h6
  have cl : ∀ q, (w.setCell ⟨b, o, none⟩ v).cell? ⟨g, q, none⟩ = w.cell? ⟨g, q, none⟩ := fun q => cell_set_other (.inl (by omega))
  have fl : ∀ q, (w.setCell ⟨b, o, none⟩ v).frozen? ⟨g, q, none⟩ = w.frozen? ⟨g, q, none⟩ := fun q => by simp
  exact ⟨⟨A, c, (cl 0).trans h0, h1.setOther fun b' o' s e => by have := (h2 b' o' s e).1; omega, h2⟩, ⟨t, (cl 1).trans h3, h4, h5⟩, (cl 2).trans h.c2, (cl 3).trans h.c3, (fl 1).trans h.f1, (fl 2).trans h.f2, (fl 3).trans h.f3, by simpa using h.lt, h.le, h.byt, h.nz, cs1, z1, h7⟩
set_option maxRecDepth 100000 in
set_option maxHeartbeats 1000000 in
theorem rU_ok (g n c k : Nat) (A : Option Addr) (L : List Nat) (J : Nat) (hJ : J ≤ L.length) (N : Int) (w : World) (h : RRd w g L k none) (g_0 : w.cell? ⟨g, 0, none⟩ = some (.slice A n c)) (hS : Sl w 1 A n c (by_ L))
    (CG : Hid (∀ w, RRd w g L k none → Sl w 1 A n c (by_ L) → Calls Try.prog 74 #[.slice A n c, .int .i64 (k : Int)] w fun r w' => r = .returned (.tuple #[.int .u64 N, .int .i64 (J : Int), .agg #[.int .i64 0, .int .i64 0]]) ∧ Ext w w')) :
    Calls Try.prog 57 #[.pointer (some ⟨g, 0, none⟩)] w fun r w' => r = .returned (.int .u64 N) ∧ RRd w' g L J none ∧ But (· = g) w w' := by
  obtain ⟨t, g_1, _, ht⟩ := h.c1
  rw [ht rfl] at g_1
  have g_2 : w.cell? ⟨g, 2, none⟩ = some (.int .i64 0) := h.c2
  have g_3 : w.cell? ⟨g, 3, none⟩ = some (.int .i64 0) := h.c3
  have g_1f := h.f1
  have g_2f := h.f2
  have g_3f := h.f3
  have rg := h.lt
  have rga : g < w.heap.size + 1 := by omega
  have rgb : g < w.heap.size + 1 + 1 := by omega
  have rgc : g < w.heap.size + 1 + 1 + 1 := by omega
  have rgn : ¬ g = w.heap.size := by omega
  have HR := Lib.hid h
  have HS := Lib.hid hS
  clear h ht hS
  go_enter Try.func57, Try.ntmps57
  go_wp2_with fail
  refine wp_region_held_drew (S := fun w' => w'.cell? ⟨g, 0, none⟩ = some (.slice A n c) ∧ w'.cell? ⟨g, 1, none⟩ = some (.int .i64 (k : Int))) (by kernel_rfl) (by first | exact ⟨g_0, g_1⟩ | (simp [go_sem, World.cell?_alloc_past, g_0, g_1, g_1f, g_2, g_2f, g_3, g_3f, rg, rga, rgb, rgc, rgn]; done)) (fun hHeld => ?_)
  (refine' take_in 0 rfl (by kernel_rfl) (by kernel_rfl) (by kernel_rfl) (fun _ _ _ h => h) (by rfl) (by assumption) ?_ ?_; rotate_left; focus (intro w hSw; (try dsimp only at hSw); go_simp; try with_reducible rfl)); try simp only [Act.put, List.setIfInBounds_toArray, List.set_cons_zero, List.set_cons_succ]
  (refine' take_in 1 rfl (by kernel_rfl) (by kernel_rfl) (by kernel_rfl) (fun _ _ _ h => h) (by rfl) (by assumption) ?_ ?_; rotate_left; focus (intro w hSw; (try dsimp only at hSw); go_simp; try with_reducible rfl)); try simp only [Act.put, List.setIfInBounds_toArray, List.set_cons_zero, List.set_cons_succ]
  (refine' take_in 2 rfl (by kernel_rfl) (by kernel_rfl) (by kernel_rfl) (fun _ _ _ h => h) (by rfl) (by assumption) ?_ ?_; rotate_left; focus (intro w hSw; (try dsimp only at hSw); go_simp; try with_reducible rfl)); try simp only [Act.put, List.setIfInBounds_toArray, List.set_cons_zero, List.set_cons_succ]
  (refine' take_in 3 rfl (by kernel_rfl) (by kernel_rfl) (by kernel_rfl) (fun _ _ _ h => h) (by rfl) (by assumption) ?_ ?_; rotate_left; focus (intro w hSw; (try dsimp only at hSw); go_simp; try with_reducible rfl)); try simp only [Act.put, List.setIfInBounds_toArray, List.set_cons_zero, List.set_cons_succ]
  (refine' take_in 4 rfl (by kernel_rfl) (by kernel_rfl) (by kernel_rfl) (fun _ _ _ h => h) (by rfl) (by assumption) ?_ ?_; rotate_left; focus (intro w hSw; (try dsimp only at hSw); go_simp; try with_reducible rfl)); try simp only [Act.put, List.setIfInBounds_toArray, List.set_cons_zero, List.set_cons_succ]
  (refine' take_in 5 rfl (by kernel_rfl) (by kernel_rfl) (by kernel_rfl) (fun _ _ _ h => h) (by rfl) (by assumption) ?_ ?_; rotate_left; focus (intro w hSw; (try dsimp only at hSw); go_simp; try with_reducible rfl)); try simp only [Act.put, List.setIfInBounds_toArray, List.set_cons_zero, List.set_cons_succ]
  (refine' take_in 6 rfl (by kernel_rfl) (by kernel_rfl) (by kernel_rfl) (fun _ _ _ h => h) (by rfl) (by assumption) ?_ ?_; rotate_left; focus (intro w hSw; (try dsimp only at hSw); go_simp; try with_reducible rfl)); try simp only [Act.put, List.setIfInBounds_toArray, List.set_cons_zero, List.set_cons_succ]
  (refine' take_in 7 rfl (by kernel_rfl) (by kernel_rfl) (by kernel_rfl) (fun _ _ _ h => h) (by rfl) (by assumption) ?_ ?_; rotate_left; focus (intro w hSw; (try dsimp only at hSw); go_simp; try with_reducible rfl)); try simp only [Act.put, List.setIfInBounds_toArray, List.set_cons_zero, List.set_cons_succ]
  refine' next2_in 8 13 rfl rfl (by kernel_rfl) (by rfl) (by rfl) (fun K hK => ?_) (fun K hK => ?_)
  · go_simp
    (with_reducible refine (CG.out _ (HR.out.ext (by repeat (first | with_reducible exact Ext.refl _ | with_reducible refine Ext.drew ?_ | with_reducible refine Ext.drewN ?_ _ | with_reducible refine Ext.alloc ?_ _ | with_reducible refine Ext.setCell ?_ (by first | omega | (simp; done) | (simp; omega)) _))) (HS.out.ext (by repeat (first | with_reducible exact Ext.refl _ | with_reducible refine Ext.drew ?_ | with_reducible refine Ext.drewN ?_ _ | with_reducible refine Ext.alloc ?_ _ | with_reducible refine Ext.setCell ?_ (by first | omega | (simp; done) | (simp; omega)) _)))).mono ?_)
    rintro e w1 ⟨rfl, hx1⟩
    replace g_1f : w1.frozen? ⟨g, 1, none⟩ = false := hx1.froz (v := .int .i64 (k : Int)) (by first | exact g_1 | (simp [go_sem, World.cell?_alloc_past, g_0, g_1, g_1f, g_2, g_2f, g_3, g_3f, rg, rga, rgb, rgc, rgn]; done)) (by first | exact g_1f | (simp [go_sem, World.cell?_alloc_past, g_0, g_1, g_1f, g_2, g_2f, g_3, g_3f, rg, rga, rgb, rgc, rgn]; done))
    replace g_0 : w1.cell? ⟨g, 0, none⟩ = some (.slice A n c) := hx1.has (by first | exact g_0 | (simp [go_sem, World.cell?_alloc_past, g_0, g_1, g_1f, g_2, g_2f, g_3, g_3f, rg, rga, rgb, rgc, rgn]; done))
    replace g_1 : w1.cell? ⟨g, 1, none⟩ = some (.int .i64 (k : Int)) := hx1.has (by first | exact g_1 | (simp [go_sem, World.cell?_alloc_past, g_0, g_1, g_1f, g_2, g_2f, g_3, g_3f, rg, rga, rgb, rgc, rgn]; done))
    have z1 := hx1.size
    try simp at z1
    replace rg : g < w1.heap.size := by omega
    replace rga : g < w1.heap.size + 1 := by omega
    replace rgb : g < w1.heap.size + 1 + 1 := by omega
    replace rgc : g < w1.heap.size + 1 + 1 + 1 := by omega
    replace rgn : ¬ g = w1.heap.size := by omega
    replace HR := Lib.hid (HR.out.ext (Ext.trans (by repeat (first | with_reducible exact Ext.refl _ | with_reducible refine Ext.drew ?_ | with_reducible refine Ext.drewN ?_ _ | with_reducible refine Ext.alloc ?_ _ | with_reducible refine Ext.setCell ?_ (by first | omega | (simp; done) | (simp; omega)) _)) hx1))
    replace HS := Lib.hid (HS.out.ext (Ext.trans (by repeat (first | with_reducible exact Ext.refl _ | with_reducible refine Ext.drew ?_ | with_reducible refine Ext.drewN ?_ _ | with_reducible refine Ext.alloc ?_ _ | with_reducible refine Ext.setCell ?_ (by first | omega | (simp; done) | (simp; omega)) _)) hx1))
    have X1 : Hid (Ext w w1) := Lib.hid (Ext.trans (by repeat (first | with_reducible exact Ext.refl w | with_reducible refine Ext.drew ?_ | with_reducible refine Ext.drewN ?_ _ | with_reducible refine Ext.alloc ?_ _ | with_reducible refine Ext.setCell ?_ (by first | omega | (simp; done) | (simp; omega)) _)) hx1)
    clear g_2f g_2 g_3 g_3f hx1 z1
    refine hK.out _ _ (by (first | exact ⟨g_0, g_1⟩ | (simp [go_sem, World.cell?_alloc_past, g_1f, g_0, g_1, rg, rga, rgb, rgc, rgn]; done))) (fun hHeld => ?_); clear hK K; try simp only [Act.put, List.setIfInBounds_toArray, List.set_cons_zero, List.set_cons_succ]
    (refine' take_in 9 rfl (by kernel_rfl) (by kernel_rfl) (by kernel_rfl) (fun _ _ _ h => h) (by rfl) (by assumption) ?_ ?_; rotate_left; focus (intro w hSw; (try dsimp only at hSw); go_simp; try with_reducible rfl)); try simp only [Act.put, List.setIfInBounds_toArray, List.set_cons_zero, List.set_cons_succ]
    (refine' take_in 10 rfl (by kernel_rfl) (by kernel_rfl) (by kernel_rfl) (fun _ _ _ h => h) (by rfl) (by assumption) ?_ ?_; rotate_left; focus (intro w hSw; (try dsimp only at hSw); go_simp; try with_reducible rfl)); try simp only [Act.put, List.setIfInBounds_toArray, List.set_cons_zero, List.set_cons_succ]
    (refine' take_in 11 rfl (by kernel_rfl) (by kernel_rfl) (by kernel_rfl) (fun _ _ _ h => h) (by rfl) (by assumption) ?_ ?_; rotate_left; focus (intro w hSw; (try dsimp only at hSw); go_simp; try with_reducible rfl)); try simp only [Act.put, List.setIfInBounds_toArray, List.set_cons_zero, List.set_cons_succ]
    (refine' take_in 12 rfl (by kernel_rfl) (by kernel_rfl) (by kernel_rfl) (fun _ _ _ h => h) (by rfl) (by assumption) ?_ ?_; rotate_left; focus (intro w hSw; (try dsimp only at hSw); go_simp; try with_reducible rfl)); try simp only [Act.put, List.setIfInBounds_toArray, List.set_cons_zero, List.set_cons_succ]
    refine' next_in 13 rfl (by kernel_rfl) (by rfl) (fun K hK => ?_)
    go_simp
    refine hK.out _ _ (by (first | exact ⟨g_0, g_1⟩ | (simp [go_sem, World.cell?_alloc_past, g_1f, g_0, g_1, rg, rga, rgb, rgc, rgn]; done))) (fun hHeld => ?_); clear hK K; try simp only [Act.put, List.setIfInBounds_toArray, List.set_cons_zero, List.set_cons_succ]
    (refine' take_in 14 rfl (by kernel_rfl) (by kernel_rfl) (by kernel_rfl) (fun _ _ _ h => h) (by rfl) (by assumption) ?_ ?_; rotate_left; focus (intro w hSw; (try dsimp only at hSw); go_simp; try with_reducible rfl)); try simp only [Act.put, List.setIfInBounds_toArray, List.set_cons_zero, List.set_cons_succ]
    (refine' take_in 15 rfl (by kernel_rfl) (by kernel_rfl) (by kernel_rfl) (fun _ _ _ h => h) (by rfl) (by assumption) ?_ ?_; rotate_left; focus (intro w hSw; (try dsimp only at hSw); go_simp; try with_reducible rfl)); try simp only [Act.put, List.setIfInBounds_toArray, List.set_cons_zero, List.set_cons_succ]
    refine' next_in 16 rfl (by kernel_rfl) (by rfl) (fun K hK => ?_)
    go_simp
    refine hK.out _ _ (by (first | exact ⟨g_0, g_1⟩ | (simp [go_sem, World.cell?_alloc_past, g_1f, g_0, g_1, rg, rga, rgb, rgc, rgn]; done))) (fun hHeld => ?_); clear hK K; try simp only [Act.put, List.setIfInBounds_toArray, List.set_cons_zero, List.set_cons_succ]
    refine wpAnyH_done (by kernel_rfl) ?_ _
    go_wp2_with fail
    go_ret
    refine ⟨rfl, ?_, (by repeat (first | with_reducible exact But.ofExt X1.out | with_reducible refine But.drew ?_ | with_reducible refine But.drewN ?_ _ | with_reducible refine But.alloc ?_ _ | with_reducible refine But.setG ?_ _ | with_reducible refine But.setNew ?_ (by first | omega | (simp; done) | (simp; omega)) _))⟩
    repeat (first | with_reducible exact HR.out | with_reducible refine RRd.setTo (k := k) ?_ hJ | with_reducible refine RRd.set ?_ (by omega) _ | (with_reducible refine RRd.ext ?_ (Ext.alloc (Ext.refl _) _)))
  · go_simp
    refine hK.out _ _ (by (first | exact ⟨g_0, g_1⟩ | (simp [go_sem, World.cell?_alloc_past, g_0, g_1, g_1f, g_2, g_2f, g_3, g_3f, rg, rga, rgb, rgc, rgn]; done))) (fun hHeld => ?_); clear hK K; try simp only [Act.put, List.setIfInBounds_toArray, List.set_cons_zero, List.set_cons_succ]
    refine' next_in 8 rfl (by kernel_rfl) (by rfl) (fun K hK => ?_)
    go_simp
    (with_reducible refine (CG.out _ (HR.out.ext (by repeat (first | with_reducible exact Ext.refl _ | with_reducible refine Ext.drew ?_ | with_reducible refine Ext.drewN ?_ _ | with_reducible refine Ext.alloc ?_ _ | with_reducible refine Ext.setCell ?_ (by first | omega | (simp; done) | (simp; omega)) _))) (HS.out.ext (by repeat (first | with_reducible exact Ext.refl _ | with_reducible refine Ext.drew ?_ | with_reducible refine Ext.drewN ?_ _ | with_reducible refine Ext.alloc ?_ _ | with_reducible refine Ext.setCell ?_ (by first | omega | (simp; done) | (simp; omega)) _)))).mono ?_)
    rintro e w1 ⟨rfl, hx1⟩
    replace g_1f : w1.frozen? ⟨g, 1, none⟩ = false := hx1.froz (v := .int .i64 (k : Int)) (by first | exact g_1 | (simp [go_sem, World.cell?_alloc_past, g_0, g_1, g_1f, g_2, g_2f, g_3, g_3f, rg, rga, rgb, rgc, rgn]; done)) (by first | exact g_1f | (simp [go_sem, World.cell?_alloc_past, g_0, g_1, g_1f, g_2, g_2f, g_3, g_3f, rg, rga, rgb, rgc, rgn]; done))
    replace g_0 : w1.cell? ⟨g, 0, none⟩ = some (.slice A n c) := hx1.has (by first | exact g_0 | (simp [go_sem, World.cell?_alloc_past, g_0, g_1, g_1f, g_2, g_2f, g_3, g_3f, rg, rga, rgb, rgc, rgn]; done))
    replace g_1 : w1.cell? ⟨g, 1, none⟩ = some (.int .i64 (k : Int)) := hx1.has (by first | exact g_1 | (simp [go_sem, World.cell?_alloc_past, g_0, g_1, g_1f, g_2, g_2f, g_3, g_3f, rg, rga, rgb, rgc, rgn]; done))
    have c0_0f : w1.frozen? ⟨w.heap.size, 0, none⟩ = false := hx1.froz (v := .int .i64 0) (by first | fail | (simp [go_sem, World.cell?_alloc_past, g_0, g_1, g_1f, g_2, g_2f, g_3, g_3f, rg, rga, rgb, rgc, rgn]; done)) (by first | fail | (simp [go_sem, World.cell?_alloc_past, g_0, g_1, g_1f, g_2, g_2f, g_3, g_3f, rg, rga, rgb, rgc, rgn]; done))
    have c0_1f : w1.frozen? ⟨w.heap.size, 1, none⟩ = false := hx1.froz (v := .int .i64 0) (by first | fail | (simp [go_sem, World.cell?_alloc_past, g_0, g_1, g_1f, g_2, g_2f, g_3, g_3f, rg, rga, rgb, rgc, rgn]; done)) (by first | fail | (simp [go_sem, World.cell?_alloc_past, g_0, g_1, g_1f, g_2, g_2f, g_3, g_3f, rg, rga, rgb, rgc, rgn]; done))
    have c0_0 : w1.cell? ⟨w.heap.size, 0, none⟩ = some (.int .i64 0) := hx1.has (by first | fail | (simp [go_sem, World.cell?_alloc_past, g_0, g_1, g_1f, g_2, g_2f, g_3, g_3f, rg, rga, rgb, rgc, rgn]; done))
    have c0_1 : w1.cell? ⟨w.heap.size, 1, none⟩ = some (.int .i64 0) := hx1.has (by first | fail | (simp [go_sem, World.cell?_alloc_past, g_0, g_1, g_1f, g_2, g_2f, g_3, g_3f, rg, rga, rgb, rgc, rgn]; done))
    have z1 := hx1.size
    try simp at z1
    have lt_g_c0 : g < w.heap.size := by omega
    have ne_g_c0 : ¬ g = w.heap.size := by omega
    have ne_c0_g : ¬ w.heap.size = g := by omega
    replace rg : g < w1.heap.size := by omega
    replace rga : g < w1.heap.size + 1 := by omega
    replace rgb : g < w1.heap.size + 1 + 1 := by omega
    replace rgc : g < w1.heap.size + 1 + 1 + 1 := by omega
    replace rgn : ¬ g = w1.heap.size := by omega
    have rc0 : w.heap.size < w1.heap.size := by omega
    have rc0a : w.heap.size < w1.heap.size + 1 := by omega
    have rc0b : w.heap.size < w1.heap.size + 1 + 1 := by omega
    have rc0c : w.heap.size < w1.heap.size + 1 + 1 + 1 := by omega
    have rc0n : ¬ w.heap.size = w1.heap.size := by omega
    replace HR := Lib.hid (HR.out.ext (Ext.trans (by repeat (first | with_reducible exact Ext.refl _ | with_reducible refine Ext.drew ?_ | with_reducible refine Ext.drewN ?_ _ | with_reducible refine Ext.alloc ?_ _ | with_reducible refine Ext.setCell ?_ (by first | omega | (simp; done) | (simp; omega)) _)) hx1))
    replace HS := Lib.hid (HS.out.ext (Ext.trans (by repeat (first | with_reducible exact Ext.refl _ | with_reducible refine Ext.drew ?_ | with_reducible refine Ext.drewN ?_ _ | with_reducible refine Ext.alloc ?_ _ | with_reducible refine Ext.setCell ?_ (by first | omega | (simp; done) | (simp; omega)) _)) hx1))
    have X1 : Hid (Ext w w1) := Lib.hid (Ext.trans (by repeat (first | with_reducible exact Ext.refl w | with_reducible refine Ext.drew ?_ | with_reducible refine Ext.drewN ?_ _ | with_reducible refine Ext.alloc ?_ _ | with_reducible refine Ext.setCell ?_ (by first | omega | (simp; done) | (simp; omega)) _)) hx1)
    clear g_2f g_2 g_3 g_3f hx1 z1
    refine hK.out _ _ (by (first | exact ⟨g_0, g_1⟩ | (simp [go_sem, World.cell?_alloc_past, g_1f, g_0, g_1, c0_0f, c0_1f, c0_0, c0_1, ne_g_c0, ne_c0_g, rg, rga, rgb, rgc, rgn, rc0, rc0a, rc0b, rc0c, rc0n]; done))) (fun hHeld => ?_); clear hK K; try simp only [Act.put, List.setIfInBounds_toArray, List.set_cons_zero, List.set_cons_succ]
    (refine' take_in 9 rfl (by kernel_rfl) (by kernel_rfl) (by kernel_rfl) (fun _ _ _ h => h) (by rfl) (by assumption) ?_ ?_; rotate_left; focus (intro w hSw; (try dsimp only at hSw); go_simp; try with_reducible rfl)); try simp only [Act.put, List.setIfInBounds_toArray, List.set_cons_zero, List.set_cons_succ]
    (refine' take_in 10 rfl (by kernel_rfl) (by kernel_rfl) (by kernel_rfl) (fun _ _ _ h => h) (by rfl) (by assumption) ?_ ?_; rotate_left; focus (intro w hSw; (try dsimp only at hSw); go_simp; try with_reducible rfl)); try simp only [Act.put, List.setIfInBounds_toArray, List.set_cons_zero, List.set_cons_succ]
    (refine' take_in 11 rfl (by kernel_rfl) (by kernel_rfl) (by kernel_rfl) (fun _ _ _ h => h) (by rfl) (by assumption) ?_ ?_; rotate_left; focus (intro w hSw; (try dsimp only at hSw); go_simp; try with_reducible rfl)); try simp only [Act.put, List.setIfInBounds_toArray, List.set_cons_zero, List.set_cons_succ]
    (refine' take_in 12 rfl (by kernel_rfl) (by kernel_rfl) (by kernel_rfl) (fun _ _ _ h => h) (by rfl) (by assumption) ?_ ?_; rotate_left; focus (intro w hSw; (try dsimp only at hSw); go_simp; try with_reducible rfl)); try simp only [Act.put, List.setIfInBounds_toArray, List.set_cons_zero, List.set_cons_succ]
    (refine' take_in 14 rfl (by kernel_rfl) (by kernel_rfl) (by kernel_rfl) (fun _ _ _ h => h) (by rfl) (by assumption) ?_ ?_; rotate_left; focus (intro w hSw; (try dsimp only at hSw); go_simp; try with_reducible rfl)); try simp only [Act.put, List.setIfInBounds_toArray, List.set_cons_zero, List.set_cons_succ]
    (refine' take_in 15 rfl (by kernel_rfl) (by kernel_rfl) (by kernel_rfl) (fun _ _ _ h => h) (by rfl) (by assumption) ?_ ?_; rotate_left; focus (intro w hSw; (try dsimp only at hSw); go_simp; try with_reducible rfl)); try simp only [Act.put, List.setIfInBounds_toArray, List.set_cons_zero, List.set_cons_succ]
    refine' next_in 16 rfl (by kernel_rfl) (by rfl) (fun K hK => ?_)
    go_simp
    refine hK.out _ _ (by (first | exact ⟨g_0, g_1⟩ | (simp [go_sem, World.cell?_alloc_past, g_1f, g_0, g_1, c0_0f, c0_1f, c0_0, c0_1, ne_g_c0, ne_c0_g, rg, rga, rgb, rgc, rgn, rc0, rc0a, rc0b, rc0c, rc0n]; done))) (fun hHeld => ?_); clear hK K; try simp only [Act.put, List.setIfInBounds_toArray, List.set_cons_zero, List.set_cons_succ]
    refine wpAnyH_done (by kernel_rfl) ?_ _
    go_wp2_with fail
    go_ret
    refine ⟨rfl, ?_, (by repeat (first | with_reducible exact But.ofExt X1.out | with_reducible refine But.drew ?_ | with_reducible refine But.drewN ?_ _ | with_reducible refine But.alloc ?_ _ | with_reducible refine But.setG ?_ _ | with_reducible refine But.setNew ?_ (by first | omega | (simp; done) | (simp; omega)) _))⟩
    repeat (first | with_reducible exact HR.out | with_reducible refine RRd.setTo (k := k) ?_ hJ | with_reducible refine RRd.set ?_ (by omega) _ | (with_reducible refine RRd.ext ?_ (Ext.alloc (Ext.refl _) _)))
set_option maxRecDepth 100000 in
set_option maxHeartbeats 1000000 in
theorem rU_bad (g n c k : Nat) (A : Option Addr) (L : List Nat) (E : Int) (hE : (E == 0) = false) (hE2 : (E != 0) = true) (hE0 : Hid (¬ E = 0)) (w : World) (h : RRd w g L k none) (g_0 : w.cell? ⟨g, 0, none⟩ = some (.slice A n c)) (hS : Sl w 1 A n c (by_ L))
    (CG : Hid (∀ w, RRd w g L k none → Sl w 1 A n c (by_ L) → Calls Try.prog 74 #[.slice A n c, .int .i64 (k : Int)] w fun r w' => r = .returned (.tuple #[.int .u64 0, .int .i64 0, .agg #[.int .i64 E, .int .i64 (k : Int)]]) ∧ Ext w w')) :
    Calls Try.prog 57 #[.pointer (some ⟨g, 0, none⟩)] w fun r w' => r = .returned (.int .u64 0) ∧ RRd w' g L k (some (E, (k : Int))) ∧ But (· = g) w w' := by
  obtain ⟨t, g_1, _, ht⟩ := h.c1
  rw [ht rfl] at g_1
  have g_2 : w.cell? ⟨g, 2, none⟩ = some (.int .i64 0) := h.c2
  have g_3 : w.cell? ⟨g, 3, none⟩ = some (.int .i64 0) := h.c3
  have g_1f := h.f1
  have g_2f := h.f2
  have g_3f := h.f3
  have rg := h.lt
  have rga : g < w.heap.size + 1 := by omega
  have rgb : g < w.heap.size + 1 + 1 := by omega
  have rgc : g < w.heap.size + 1 + 1 + 1 := by omega
  have rgn : ¬ g = w.heap.size := by omega
  have HR := Lib.hid h
  have HS := Lib.hid hS
  clear h ht hS
  go_enter Try.func57, Try.ntmps57
  go_wp2_with fail
  refine wp_region_held_drew (S := fun w' => w'.cell? ⟨g, 0, none⟩ = some (.slice A n c) ∧ w'.cell? ⟨g, 1, none⟩ = some (.int .i64 (k : Int))) (by kernel_rfl) (by first | exact ⟨g_0, g_1⟩ | (simp [go_sem, World.cell?_alloc_past, g_0, g_1, g_1f, g_2, g_2f, g_3, g_3f, rg, rga, rgb, rgc, rgn]; done)) (fun hHeld => ?_)
  (refine' take_in 0 rfl (by kernel_rfl) (by kernel_rfl) (by kernel_rfl) (fun _ _ _ h => h) (by rfl) (by assumption) ?_ ?_; rotate_left; focus (intro w hSw; (try dsimp only at hSw); go_simp; try with_reducible rfl)); try simp only [Act.put, List.setIfInBounds_toArray, List.set_cons_zero, List.set_cons_succ]
  (refine' take_in 1 rfl (by kernel_rfl) (by kernel_rfl) (by kernel_rfl) (fun _ _ _ h => h) (by rfl) (by assumption) ?_ ?_; rotate_left; focus (intro w hSw; (try dsimp only at hSw); go_simp; try with_reducible rfl)); try simp only [Act.put, List.setIfInBounds_toArray, List.set_cons_zero, List.set_cons_succ]
  (refine' take_in 2 rfl (by kernel_rfl) (by kernel_rfl) (by kernel_rfl) (fun _ _ _ h => h) (by rfl) (by assumption) ?_ ?_; rotate_left; focus (intro w hSw; (try dsimp only at hSw); go_simp; try with_reducible rfl)); try simp only [Act.put, List.setIfInBounds_toArray, List.set_cons_zero, List.set_cons_succ]
  (refine' take_in 3 rfl (by kernel_rfl) (by kernel_rfl) (by kernel_rfl) (fun _ _ _ h => h) (by rfl) (by assumption) ?_ ?_; rotate_left; focus (intro w hSw; (try dsimp only at hSw); go_simp; try with_reducible rfl)); try simp only [Act.put, List.setIfInBounds_toArray, List.set_cons_zero, List.set_cons_succ]
  (refine' take_in 4 rfl (by kernel_rfl) (by kernel_rfl) (by kernel_rfl) (fun _ _ _ h => h) (by rfl) (by assumption) ?_ ?_; rotate_left; focus (intro w hSw; (try dsimp only at hSw); go_simp; try with_reducible rfl)); try simp only [Act.put, List.setIfInBounds_toArray, List.set_cons_zero, List.set_cons_succ]
  (refine' take_in 5 rfl (by kernel_rfl) (by kernel_rfl) (by kernel_rfl) (fun _ _ _ h => h) (by rfl) (by assumption) ?_ ?_; rotate_left; focus (intro w hSw; (try dsimp only at hSw); go_simp; try with_reducible rfl)); try simp only [Act.put, List.setIfInBounds_toArray, List.set_cons_zero, List.set_cons_succ]
  (refine' take_in 6 rfl (by kernel_rfl) (by kernel_rfl) (by kernel_rfl) (fun _ _ _ h => h) (by rfl) (by assumption) ?_ ?_; rotate_left; focus (intro w hSw; (try dsimp only at hSw); go_simp; try with_reducible rfl)); try simp only [Act.put, List.setIfInBounds_toArray, List.set_cons_zero, List.set_cons_succ]
  (refine' take_in 7 rfl (by kernel_rfl) (by kernel_rfl) (by kernel_rfl) (fun _ _ _ h => h) (by rfl) (by assumption) ?_ ?_; rotate_left; focus (intro w hSw; (try dsimp only at hSw); go_simp; try with_reducible rfl)); try simp only [Act.put, List.setIfInBounds_toArray, List.set_cons_zero, List.set_cons_succ]
  refine' next2_in 8 13 rfl rfl (by kernel_rfl) (by rfl) (by rfl) (fun K hK => ?_) (fun K hK => ?_)
  · go_simp
    (with_reducible refine (CG.out _ (HR.out.ext (by repeat (first | with_reducible exact Ext.refl _ | with_reducible refine Ext.drew ?_ | with_reducible refine Ext.drewN ?_ _ | with_reducible refine Ext.alloc ?_ _ | with_reducible refine Ext.setCell ?_ (by first | omega | (simp; done) | (simp; omega)) _))) (HS.out.ext (by repeat (first | with_reducible exact Ext.refl _ | with_reducible refine Ext.drew ?_ | with_reducible refine Ext.drewN ?_ _ | with_reducible refine Ext.alloc ?_ _ | with_reducible refine Ext.setCell ?_ (by first | omega | (simp; done) | (simp; omega)) _)))).mono ?_)
    rintro e w1 ⟨rfl, hx1⟩
    replace g_2f : w1.frozen? ⟨g, 2, none⟩ = false := hx1.froz (v := .int .i64 0) (by first | exact g_2 | (simp [go_sem, World.cell?_alloc_past, g_0, g_1, g_1f, g_2, g_2f, g_3, g_3f, rg, rga, rgb, rgc, rgn]; done)) (by first | exact g_2f | (simp [go_sem, World.cell?_alloc_past, g_0, g_1, g_1f, g_2, g_2f, g_3, g_3f, rg, rga, rgb, rgc, rgn]; done))
    replace g_3f : w1.frozen? ⟨g, 3, none⟩ = false := hx1.froz (v := .int .i64 0) (by first | exact g_3 | (simp [go_sem, World.cell?_alloc_past, g_0, g_1, g_1f, g_2, g_2f, g_3, g_3f, rg, rga, rgb, rgc, rgn]; done)) (by first | exact g_3f | (simp [go_sem, World.cell?_alloc_past, g_0, g_1, g_1f, g_2, g_2f, g_3, g_3f, rg, rga, rgb, rgc, rgn]; done))
    replace g_0 : w1.cell? ⟨g, 0, none⟩ = some (.slice A n c) := hx1.has (by first | exact g_0 | (simp [go_sem, World.cell?_alloc_past, g_0, g_1, g_1f, g_2, g_2f, g_3, g_3f, rg, rga, rgb, rgc, rgn]; done))
    replace g_1 : w1.cell? ⟨g, 1, none⟩ = some (.int .i64 (k : Int)) := hx1.has (by first | exact g_1 | (simp [go_sem, World.cell?_alloc_past, g_0, g_1, g_1f, g_2, g_2f, g_3, g_3f, rg, rga, rgb, rgc, rgn]; done))
    replace g_2 : w1.cell? ⟨g, 2, none⟩ = some (.int .i64 0) := hx1.has (by first | exact g_2 | (simp [go_sem, World.cell?_alloc_past, g_0, g_1, g_1f, g_2, g_2f, g_3, g_3f, rg, rga, rgb, rgc, rgn]; done))
    replace g_3 : w1.cell? ⟨g, 3, none⟩ = some (.int .i64 0) := hx1.has (by first | exact g_3 | (simp [go_sem, World.cell?_alloc_past, g_0, g_1, g_1f, g_2, g_2f, g_3, g_3f, rg, rga, rgb, rgc, rgn]; done))
    have z1 := hx1.size
    try simp at z1
    replace rg : g < w1.heap.size := by omega
    replace rga : g < w1.heap.size + 1 := by omega
    replace rgb : g < w1.heap.size + 1 + 1 := by omega
    replace rgc : g < w1.heap.size + 1 + 1 + 1 := by omega
    replace rgn : ¬ g = w1.heap.size := by omega
    replace HR := Lib.hid (HR.out.ext (Ext.trans (by repeat (first | with_reducible exact Ext.refl _ | with_reducible refine Ext.drew ?_ | with_reducible refine Ext.drewN ?_ _ | with_reducible refine Ext.alloc ?_ _ | with_reducible refine Ext.setCell ?_ (by first | omega | (simp; done) | (simp; omega)) _)) hx1))
    replace HS := Lib.hid (HS.out.ext (Ext.trans (by repeat (first | with_reducible exact Ext.refl _ | with_reducible refine Ext.drew ?_ | with_reducible refine Ext.drewN ?_ _ | with_reducible refine Ext.alloc ?_ _ | with_reducible refine Ext.setCell ?_ (by first | omega | (simp; done) | (simp; omega)) _)) hx1))
    have X1 : Hid (Ext w w1) := Lib.hid (Ext.trans (by repeat (first | with_reducible exact Ext.refl w | with_reducible refine Ext.drew ?_ | with_reducible refine Ext.drewN ?_ _ | with_reducible refine Ext.alloc ?_ _ | with_reducible refine Ext.setCell ?_ (by first | omega | (simp; done) | (simp; omega)) _)) hx1)
    clear g_1f hx1 z1
    refine hK.out _ _ (by (first | exact ⟨g_0, g_1⟩ | (simp [go_sem, World.cell?_alloc_past, g_2f, g_3f, g_0, g_1, g_2, g_3, rg, rga, rgb, rgc, rgn]; done))) (fun hHeld => ?_); clear hK K; try simp only [Act.put, List.setIfInBounds_toArray, List.set_cons_zero, List.set_cons_succ]
    (refine' take_in 9 rfl (by kernel_rfl) (by kernel_rfl) (by kernel_rfl) (fun _ _ _ h => h) (by rfl) (by assumption) ?_ ?_; rotate_left; focus (intro w hSw; (try dsimp only at hSw); go_simp; try with_reducible rfl)); try simp only [Act.put, List.setIfInBounds_toArray, List.set_cons_zero, List.set_cons_succ]
    (refine' take_in 10 rfl (by kernel_rfl) (by kernel_rfl) (by kernel_rfl) (fun _ _ _ h => h) (by rfl) (by assumption) ?_ ?_; rotate_left; focus (intro w hSw; (try dsimp only at hSw); go_simp; try with_reducible rfl)); try simp only [Act.put, List.setIfInBounds_toArray, List.set_cons_zero, List.set_cons_succ]
    (refine' take_in 11 rfl (by kernel_rfl) (by kernel_rfl) (by kernel_rfl) (fun _ _ _ h => h) (by rfl) (by assumption) ?_ ?_; rotate_left; focus (intro w hSw; (try dsimp only at hSw); go_simp; try with_reducible rfl)); try simp only [Act.put, List.setIfInBounds_toArray, List.set_cons_zero, List.set_cons_succ]
    (refine' take_in 12 rfl (by kernel_rfl) (by kernel_rfl) (by kernel_rfl) (fun _ _ _ h => h) (by rfl) (by assumption) ?_ ?_; rotate_left; focus (intro w hSw; (try dsimp only at hSw); go_simp; try with_reducible rfl)); try simp only [Act.put, List.setIfInBounds_toArray, List.set_cons_zero, List.set_cons_succ]
    refine' next_in 13 rfl (by kernel_rfl) (by rfl) (fun K hK => ?_)
    go_simp
    refine hK.out _ _ (by (first | exact ⟨g_0, g_1⟩ | (simp [go_sem, World.cell?_alloc_past, g_2f, g_3f, g_0, g_1, g_2, g_3, rg, rga, rgb, rgc, rgn]; done))) (fun hHeld => ?_); clear hK K; try simp only [Act.put, List.setIfInBounds_toArray, List.set_cons_zero, List.set_cons_succ]
    (refine' take_in 14 rfl (by kernel_rfl) (by kernel_rfl) (by kernel_rfl) (fun _ _ _ h => h) (by rfl) (by assumption) ?_ ?_; rotate_left; focus (intro w hSw; (try dsimp only at hSw); go_simp; try with_reducible rfl)); try simp only [Act.put, List.setIfInBounds_toArray, List.set_cons_zero, List.set_cons_succ]
    (refine' take_in 15 rfl (by kernel_rfl) (by kernel_rfl) (by kernel_rfl) (fun _ _ _ h => h) (by rfl) (by assumption) ?_ ?_; rotate_left; focus (intro w hSw; (try dsimp only at hSw); go_simp; try with_reducible rfl)); try simp only [Act.put, List.setIfInBounds_toArray, List.set_cons_zero, List.set_cons_succ]
    refine' next_in 16 rfl (by kernel_rfl) (by rfl) (fun K hK => ?_)
    go_simp
    refine hK.out _ _ (by (first | exact ⟨g_0, g_1⟩ | (simp [go_sem, World.cell?_alloc_past, g_2f, g_3f, g_0, g_1, g_2, g_3, rg, rga, rgb, rgc, rgn]; done))) (fun hHeld => ?_); clear hK K; try simp only [Act.put, List.setIfInBounds_toArray, List.set_cons_zero, List.set_cons_succ]
    refine wpAnyH_done (by kernel_rfl) ?_ _
    go_wp2_with fail
    go_ret
    refine ⟨rfl, ?_, (by repeat (first | with_reducible exact But.ofExt X1.out | with_reducible refine But.drew ?_ | with_reducible refine But.drewN ?_ _ | with_reducible refine But.alloc ?_ _ | with_reducible refine But.setG ?_ _ | with_reducible refine But.setNew ?_ (by first | omega | (simp; done) | (simp; omega)) _))⟩
    repeat (first | with_reducible exact HR.out | with_reducible refine RRd.setF (k := k) ?_ hE0.out | with_reducible refine RRd.set ?_ (by omega) _ | (with_reducible refine RRd.ext ?_ (Ext.alloc (Ext.refl _) _)))
  · go_simp
    refine hK.out _ _ (by (first | exact ⟨g_0, g_1⟩ | (simp [go_sem, World.cell?_alloc_past, g_0, g_1, g_1f, g_2, g_2f, g_3, g_3f, rg, rga, rgb, rgc, rgn]; done))) (fun hHeld => ?_); clear hK K; try simp only [Act.put, List.setIfInBounds_toArray, List.set_cons_zero, List.set_cons_succ]
    refine' next_in 8 rfl (by kernel_rfl) (by rfl) (fun K hK => ?_)
    go_simp
    (with_reducible refine (CG.out _ (HR.out.ext (by repeat (first | with_reducible exact Ext.refl _ | with_reducible refine Ext.drew ?_ | with_reducible refine Ext.drewN ?_ _ | with_reducible refine Ext.alloc ?_ _ | with_reducible refine Ext.setCell ?_ (by first | omega | (simp; done) | (simp; omega)) _))) (HS.out.ext (by repeat (first | with_reducible exact Ext.refl _ | with_reducible refine Ext.drew ?_ | with_reducible refine Ext.drewN ?_ _ | with_reducible refine Ext.alloc ?_ _ | with_reducible refine Ext.setCell ?_ (by first | omega | (simp; done) | (simp; omega)) _)))).mono ?_)
    rintro e w1 ⟨rfl, hx1⟩
    replace g_2f : w1.frozen? ⟨g, 2, none⟩ = false := hx1.froz (v := .int .i64 0) (by first | exact g_2 | (simp [go_sem, World.cell?_alloc_past, g_0, g_1, g_1f, g_2, g_2f, g_3, g_3f, rg, rga, rgb, rgc, rgn]; done)) (by first | exact g_2f | (simp [go_sem, World.cell?_alloc_past, g_0, g_1, g_1f, g_2, g_2f, g_3, g_3f, rg, rga, rgb, rgc, rgn]; done))
    replace g_3f : w1.frozen? ⟨g, 3, none⟩ = false := hx1.froz (v := .int .i64 0) (by first | exact g_3 | (simp [go_sem, World.cell?_alloc_past, g_0, g_1, g_1f, g_2, g_2f, g_3, g_3f, rg, rga, rgb, rgc, rgn]; done)) (by first | exact g_3f | (simp [go_sem, World.cell?_alloc_past, g_0, g_1, g_1f, g_2, g_2f, g_3, g_3f, rg, rga, rgb, rgc, rgn]; done))
    replace g_0 : w1.cell? ⟨g, 0, none⟩ = some (.slice A n c) := hx1.has (by first | exact g_0 | (simp [go_sem, World.cell?_alloc_past, g_0, g_1, g_1f, g_2, g_2f, g_3, g_3f, rg, rga, rgb, rgc, rgn]; done))
    replace g_1 : w1.cell? ⟨g, 1, none⟩ = some (.int .i64 (k : Int)) := hx1.has (by first | exact g_1 | (simp [go_sem, World.cell?_alloc_past, g_0, g_1, g_1f, g_2, g_2f, g_3, g_3f, rg, rga, rgb, rgc, rgn]; done))
    replace g_2 : w1.cell? ⟨g, 2, none⟩ = some (.int .i64 0) := hx1.has (by first | exact g_2 | (simp [go_sem, World.cell?_alloc_past, g_0, g_1, g_1f, g_2, g_2f, g_3, g_3f, rg, rga, rgb, rgc, rgn]; done))
    replace g_3 : w1.cell? ⟨g, 3, none⟩ = some (.int .i64 0) := hx1.has (by first | exact g_3 | (simp [go_sem, World.cell?_alloc_past, g_0, g_1, g_1f, g_2, g_2f, g_3, g_3f, rg, rga, rgb, rgc, rgn]; done))
    have c0_0f : w1.frozen? ⟨w.heap.size, 0, none⟩ = false := hx1.froz (v := .int .i64 0) (by first | fail | (simp [go_sem, World.cell?_alloc_past, g_0, g_1, g_1f, g_2, g_2f, g_3, g_3f, rg, rga, rgb, rgc, rgn]; done)) (by first | fail | (simp [go_sem, World.cell?_alloc_past, g_0, g_1, g_1f, g_2, g_2f, g_3, g_3f, rg, rga, rgb, rgc, rgn]; done))
    have c0_1f : w1.frozen? ⟨w.heap.size, 1, none⟩ = false := hx1.froz (v := .int .i64 0) (by first | fail | (simp [go_sem, World.cell?_alloc_past, g_0, g_1, g_1f, g_2, g_2f, g_3, g_3f, rg, rga, rgb, rgc, rgn]; done)) (by first | fail | (simp [go_sem, World.cell?_alloc_past, g_0, g_1, g_1f, g_2, g_2f, g_3, g_3f, rg, rga, rgb, rgc, rgn]; done))
    have c0_0 : w1.cell? ⟨w.heap.size, 0, none⟩ = some (.int .i64 0) := hx1.has (by first | fail | (simp [go_sem, World.cell?_alloc_past, g_0, g_1, g_1f, g_2, g_2f, g_3, g_3f, rg, rga, rgb, rgc, rgn]; done))
    have c0_1 : w1.cell? ⟨w.heap.size, 1, none⟩ = some (.int .i64 0) := hx1.has (by first | fail | (simp [go_sem, World.cell?_alloc_past, g_0, g_1, g_1f, g_2, g_2f, g_3, g_3f, rg, rga, rgb, rgc, rgn]; done))
    have z1 := hx1.size
    try simp at z1
    have lt_g_c0 : g < w.heap.size := by omega
    have ne_g_c0 : ¬ g = w.heap.size := by omega
    have ne_c0_g : ¬ w.heap.size = g := by omega
    replace rg : g < w1.heap.size := by omega
    replace rga : g < w1.heap.size + 1 := by omega
    replace rgb : g < w1.heap.size + 1 + 1 := by omega
    replace rgc : g < w1.heap.size + 1 + 1 + 1 := by omega
    replace rgn : ¬ g = w1.heap.size := by omega
    have rc0 : w.heap.size < w1.heap.size := by omega
    have rc0a : w.heap.size < w1.heap.size + 1 := by omega
    have rc0b : w.heap.size < w1.heap.size + 1 + 1 := by omega
    have rc0c : w.heap.size < w1.heap.size + 1 + 1 + 1 := by omega
    have rc0n : ¬ w.heap.size = w1.heap.size := by omega
    replace HR := Lib.hid (HR.out.ext (Ext.trans (by repeat (first | with_reducible exact Ext.refl _ | with_reducible refine Ext.drew ?_ | with_reducible refine Ext.drewN ?_ _ | with_reducible refine Ext.alloc ?_ _ | with_reducible refine Ext.setCell ?_ (by first | omega | (simp; done) | (simp; omega)) _)) hx1))
    replace HS := Lib.hid (HS.out.ext (Ext.trans (by repeat (first | with_reducible exact Ext.refl _ | with_reducible refine Ext.drew ?_ | with_reducible refine Ext.drewN ?_ _ | with_reducible refine Ext.alloc ?_ _ | with_reducible refine Ext.setCell ?_ (by first | omega | (simp; done) | (simp; omega)) _)) hx1))
    have X1 : Hid (Ext w w1) := Lib.hid (Ext.trans (by repeat (first | with_reducible exact Ext.refl w | with_reducible refine Ext.drew ?_ | with_reducible refine Ext.drewN ?_ _ | with_reducible refine Ext.alloc ?_ _ | with_reducible refine Ext.setCell ?_ (by first | omega | (simp; done) | (simp; omega)) _)) hx1)
    clear g_1f hx1 z1
    refine hK.out _ _ (by (first | exact ⟨g_0, g_1⟩ | (simp [go_sem, World.cell?_alloc_past, g_2f, g_3f, g_0, g_1, g_2, g_3, c0_0f, c0_1f, c0_0, c0_1, ne_g_c0, ne_c0_g, rg, rga, rgb, rgc, rgn, rc0, rc0a, rc0b, rc0c, rc0n]; done))) (fun hHeld => ?_); clear hK K; try simp only [Act.put, List.setIfInBounds_toArray, List.set_cons_zero, List.set_cons_succ]
    (refine' take_in 9 rfl (by kernel_rfl) (by kernel_rfl) (by kernel_rfl) (fun _ _ _ h => h) (by rfl) (by assumption) ?_ ?_; rotate_left; focus (intro w hSw; (try dsimp only at hSw); go_simp; try with_reducible rfl)); try simp only [Act.put, List.setIfInBounds_toArray, List.set_cons_zero, List.set_cons_succ]
    (refine' take_in 10 rfl (by kernel_rfl) (by kernel_rfl) (by kernel_rfl) (fun _ _ _ h => h) (by rfl) (by assumption) ?_ ?_; rotate_left; focus (intro w hSw; (try dsimp only at hSw); go_simp; try with_reducible rfl)); try simp only [Act.put, List.setIfInBounds_toArray, List.set_cons_zero, List.set_cons_succ]
    (refine' take_in 11 rfl (by kernel_rfl) (by kernel_rfl) (by kernel_rfl) (fun _ _ _ h => h) (by rfl) (by assumption) ?_ ?_; rotate_left; focus (intro w hSw; (try dsimp only at hSw); go_simp; try with_reducible rfl)); try simp only [Act.put, List.setIfInBounds_toArray, List.set_cons_zero, List.set_cons_succ]
    (refine' take_in 12 rfl (by kernel_rfl) (by kernel_rfl) (by kernel_rfl) (fun _ _ _ h => h) (by rfl) (by assumption) ?_ ?_; rotate_left; focus (intro w hSw; (try dsimp only at hSw); go_simp; try with_reducible rfl)); try simp only [Act.put, List.setIfInBounds_toArray, List.set_cons_zero, List.set_cons_succ]
    (refine' take_in 14 rfl (by kernel_rfl) (by kernel_rfl) (by kernel_rfl) (fun _ _ _ h => h) (by rfl) (by assumption) ?_ ?_; rotate_left; focus (intro w hSw; (try dsimp only at hSw); go_simp; try with_reducible rfl)); try simp only [Act.put, List.setIfInBounds_toArray, List.set_cons_zero, List.set_cons_succ]
    (refine' take_in 15 rfl (by kernel_rfl) (by kernel_rfl) (by kernel_rfl) (fun _ _ _ h => h) (by rfl) (by assumption) ?_ ?_; rotate_left; focus (intro w hSw; (try dsimp only at hSw); go_simp; try with_reducible rfl)); try simp only [Act.put, List.setIfInBounds_toArray, List.set_cons_zero, List.set_cons_succ]
    refine' next_in 16 rfl (by kernel_rfl) (by rfl) (fun K hK => ?_)
    go_simp
    refine hK.out _ _ (by (first | exact ⟨g_0, g_1⟩ | (simp [go_sem, World.cell?_alloc_past, g_2f, g_3f, g_0, g_1, g_2, g_3, c0_0f, c0_1f, c0_0, c0_1, ne_g_c0, ne_c0_g, rg, rga, rgb, rgc, rgn, rc0, rc0a, rc0b, rc0c, rc0n]; done))) (fun hHeld => ?_); clear hK K; try simp only [Act.put, List.setIfInBounds_toArray, List.set_cons_zero, List.set_cons_succ]
    refine wpAnyH_done (by kernel_rfl) ?_ _
    go_wp2_with fail
    go_ret
    refine ⟨rfl, ?_, (by repeat (first | with_reducible exact But.ofExt X1.out | with_reducible refine But.drew ?_ | with_reducible refine But.drewN ?_ _ | with_reducible refine But.alloc ?_ _ | with_reducible refine But.setG ?_ _ | with_reducible refine But.setNew ?_ (by first | omega | (simp; done) | (simp; omega)) _))⟩
    repeat (first | with_reducible exact HR.out | with_reducible refine RRd.setF (k := k) ?_ hE0.out | with_reducible refine RRd.set ?_ (by omega) _ | (with_reducible refine RRd.ext ?_ (Ext.alloc (Ext.refl _) _)))
theorem rU_old (g k : Nat) (L : List Nat) (x : Int × Int) (w : World) (h : RRd w g L k (some x)) :
    Calls Try.prog 57 #[.pointer (some ⟨g, 0, none⟩)] w fun r w' => r = .returned (.int .u64 0) ∧ w = w' := by
  have H2 := h.c2
  have hz : (fltE (some x) == 0) = false := beq_false_of_ne (h.nz x rfl)
  have hz2 : (fltE (some x) != 0) = true := by simpa [fltE] using h.nz x rfl
  generalize fltE (some x) = z at *
  clear h
  go_enter Try.func57, Try.ntmps57
  go_wp2
  go_ret
  exact ⟨rfl, rfl⟩
/-- the bytes of a number are bytes of the list -/
theorem numGo_le : ∀ (L : List Nat) (i acc n k : Nat), numGo L i acc = (n, k, 0) → k ≤ i + L.length := by
  intro L
  induction L with
  | nil => intro i acc n k h; simp [numGo] at h
  | cons c l ih =>
    intro i acc n k h
    rw [numGo] at h
    split at h
    · simp at h
    · split at h
      · simp at h; rw [List.length_cons]; omega
      · have := ih _ _ _ _ h; rw [List.length_cons]; omega
theorem numGo_bad : ∀ (L : List Nat) (i acc n k : Nat) (e : Int), numGo L i acc = (n, k, e) → ¬ e = 0 → n = 0 ∧ k = 0 := by
  intro L
  induction L with
  | nil => intro i acc n k e h _; simp [numGo] at h; omega
  | cons c l ih =>
    intro i acc n k e h he
    rw [numGo] at h
    split at h
    · simp at h; omega
    · split at h
      · simp at h; omega
      · exact ih _ _ _ _ _ h he
theorem rU_any (g k : Nat) (L : List Nat) (f : Option (Int × Int)) (hL : L.length < 1099511627776) (w : World) (h : RRd w g L k f) :
    Calls Try.prog 57 #[.pointer (some ⟨g, 0, none⟩)] w fun r w' => r = .returned (.int .u64 (ruV L k f)) ∧ RRd w' g L (ruK L k f) (ruF L k f) ∧ But (· = g) w w' := by
  cases f with
  | some x =>
    refine (rU_old g k L x w h).mono ?_
    rintro r w' ⟨rfl, rfl⟩
    unfold ruV ruK ruF
    exact ⟨by simp, by simpa using h, But.refl _ _⟩
  | none =>
    obtain ⟨A, c, H0, hs, _⟩ := h.b
    have hg := fun w' (h' : RRd w' g L k none) (hs' : Sl w' 1 A L.length c (by_ L)) => rGet_any A L.length c k L w' hs' h.byt h.le hL
    obtain ⟨n, j, e, hx⟩ : ∃ n j e, numGo (L.drop k) 0 0 = (n, j, e) := ⟨_, _, _, rfl⟩
    have hle := h.le
    unfold ruV ruK ruF ruE
    rw [hx] at hg ⊢
    by_cases he : e = 0
    · subst he
      have h1 := numGo_le _ _ _ _ _ hx
      rw [List.length_drop] at h1
      simp only [true_and, if_true]
      refine rU_ok g L.length c k A L (k + j) (by omega) n w h H0 hs (Lib.hid fun w' h' hs' => ?_)
      refine (hg w' h' hs').mono ?_
      rintro r w'' ⟨rfl, h2⟩
      exact ⟨by simp [gtV], h2⟩
    · obtain ⟨rfl, rfl⟩ := numGo_bad _ _ _ _ _ _ hx he
      simp only [true_and, if_neg he]
      have e1 : failF none e (k : Int) = some (e, (k : Int)) := by unfold failF; simp [he]
      simp only [if_true, e1]
      refine rU_bad g L.length c k A L e (beq_false_of_ne he) (by simpa using he) (Lib.hid he) w h H0 hs (Lib.hid fun w' h' hs' => ?_)
      refine (hg w' h' hs').mono ?_
      rintro r w'' ⟨rfl, h2⟩
      exact ⟨by simp [gtV, he], h2⟩
theorem RRd.anyK {w : World} {g k k' : Nat} {L : List Nat} {f : Option (Int × Int)} (h : RRd w g L k f) (hf : ¬ f = none) (hk : k' ≤ L.length) : RRd w g L k' f := by
  obtain ⟨t, h3, h4, h5⟩ := h.c1
  exact ⟨h.b, ⟨t, h3, h4, fun e => absurd e hf⟩, h.c2, h.c3, h.f1, h.f2, h.f3, h.lt, hk, h.byt, h.nz, h.ty⟩
theorem numGo_lt' : ∀ (L : List Nat) (i acc : Nat), i ≤ 9 → acc < 2 ^ (7 * i) → Byt L → (numGo L i acc).1 < 18446744073709551616 := by
  intro L
  induction L with
  | nil => intro i acc _ _ _; simp [numGo]
  | cons c l ih =>
    intro i acc hi ha hB
    have hc := hB c (List.mem_cons_self ..)
    rw [numGo]
    split
    · simp
    · rename_i hcond
      have hs := fun (h9 : i = 9 → c % 128 ≤ 1) => acc_small (c := c % 128) ha hi (by omega) h9
      split
      · rename_i h1
        exact (hs (by omega)).2
      · exact ih _ _ (by omega) (acc_step ha (by omega)) (fun x hx => hB x (List.mem_cons_of_mem _ hx))
set_option maxRecDepth 100000 in
set_option maxHeartbeats 1000000 in
theorem rN_flt (g k : Nat) (L : List Nat) (least most : Int) (h2 : 0 ≤ most) (h3 : most ≤ 9223372036854775807) (f : Option (Int × Int)) (x : Int × Int) (n : Int) (hx : (fltE (some x) == 0) = false) (hx2 : (fltE (some x) != 0) = true) (w : World) (h : RRd w g L k f)
    (CU : Hid (∀ w, RRd w g L k f → Calls Try.prog 57 #[.pointer (some ⟨g, 0, none⟩)] w fun r w' => r = .returned (.int .u64 n) ∧ RRd w' g L k (some x) ∧ But (· = g) w w')) :
    Calls Try.prog 56 #[.pointer (some ⟨g, 0, none⟩), .int .i64 least, .int .i64 most] w fun r w' => r = .returned (.int .i64 0) ∧ RRd w' g L k (some x) ∧ But (· = g) w w' := by
  obtain ⟨t, g1, _, ht⟩ := h.c1
  have H0 := Lib.hid h
  have hmax : ∀ ts t w, (Builtin.max_ ts t #[.int .i64 most, .int .i64 0]).run Try.prog w = .ok (.int .i64 most) w := by
    intro ts t w
    rw [run_max_int2, if_neg (by omega)]
  have hmn : decide (most < 0) = false := decide_eq_false (by omega)
  clear h ht
  go_enter Try.func56, Try.ntmps56
  go_wp2_with fail
  (with_reducible refine (CU.out _ H0.out).mono ?_)
  rintro r w1 ⟨rfl, hr1, hb1⟩
  have g2 := hr1.c2
  have HR := Lib.hid hr1
  have HB := Lib.hid hb1
  generalize fltE (some x) = z at *
  clear hr1 hb1 H0 CU
  go_wp2_with fail
  go_ret
  exact ⟨rfl, HR.out, HB.out⟩
set_option maxRecDepth 100000 in
set_option maxHeartbeats 1000000 in
theorem rN_ok (g k k1 : Nat) (L : List Nat) (least most : Int) (h2 : 0 ≤ most) (h3 : most ≤ 9223372036854775807) (n : Nat) (hn : n < 18446744073709551616) (hm : ¬ most < (n : Int)) (hl : decide (0 < least) = false ∨ (decide (0 < least) = true ∧ decide ((n : Int) < least) = false)) (hl2 : least ≤ 9223372036854775807) (hl5 : 0 ≤ least) (w : World) (h : RRd w g L k none)
    (CU : Hid (∀ w, RRd w g L k none → Calls Try.prog 57 #[.pointer (some ⟨g, 0, none⟩)] w fun r w' => r = .returned (.int .u64 (n : Int)) ∧ RRd w' g L k1 none ∧ But (· = g) w w')) :
    Calls Try.prog 56 #[.pointer (some ⟨g, 0, none⟩), .int .i64 least, .int .i64 most] w fun r w' => r = .returned (.int .i64 (n : Int)) ∧ RRd w' g L k1 none ∧ But (· = g) w w' := by
  obtain ⟨t, g1, _, ht⟩ := h.c1
  have H0 := Lib.hid h
  have hmax : ∀ ts t w, (Builtin.max_ ts t #[.int .i64 most, .int .i64 0]).run Try.prog w = .ok (.int .i64 most) w := by
    intro ts t w
    rw [run_max_int2, if_neg (by omega)]
  have hmn : decide (most < 0) = false := decide_eq_false (by omega)
  have hmb : decide (most < (n : Int)) = false := decide_eq_false hm
  have hn0 : (n : Int) ≤ 9223372036854775807 := by omega
  have hn1 : (0 : Int) ≤ (n : Int) := by omega
  clear h ht hm hn
  rcases hl with hl | ⟨hl, hl3⟩
  · go_enter Try.func56, Try.ntmps56
    go_wp2_with fail
    (with_reducible refine (CU.out _ H0.out).mono ?_)
    rintro r w1 ⟨rfl, hr1, hb1⟩
    have g2 := hr1.c2
    have HR := Lib.hid hr1
    have HB := Lib.hid hb1
    change w1.cell? ⟨g, 2, none⟩ = some (.int .i64 0) at g2
    clear hr1 hb1 H0 CU
    go_wp2_with fail
    go_ret
    exact ⟨rfl, HR.out, HB.out⟩
  · go_enter Try.func56, Try.ntmps56
    go_wp2_with fail
    (with_reducible refine (CU.out _ H0.out).mono ?_)
    rintro r w1 ⟨rfl, hr1, hb1⟩
    have g2 := hr1.c2
    have HR := Lib.hid hr1
    have HB := Lib.hid hb1
    change w1.cell? ⟨g, 2, none⟩ = some (.int .i64 0) at g2
    clear hr1 hb1 H0 CU
    go_wp2_with fail
    go_ret
    exact ⟨rfl, HR.out, HB.out⟩
set_option maxRecDepth 100000 in
set_option maxHeartbeats 1000000 in
theorem rN_hi (g k k1 : Nat) (L : List Nat) (least most : Int) (h2 : 0 ≤ most) (h3 : most ≤ 9223372036854775807) (n : Nat) (hn : n < 18446744073709551616) (hm : most < (n : Int)) (hk : k ≤ L.length) (w : World) (h : RRd w g L k none)
    (CU : Hid (∀ w, RRd w g L k none → Calls Try.prog 57 #[.pointer (some ⟨g, 0, none⟩)] w fun r w' => r = .returned (.int .u64 (n : Int)) ∧ RRd w' g L k1 none ∧ But (· = g) w w')) :
    Calls Try.prog 56 #[.pointer (some ⟨g, 0, none⟩), .int .i64 least, .int .i64 most] w fun r w' => r = .returned (.int .i64 0) ∧ RRd w' g L k (failF none 3 k) ∧ But (· = g) w w' := by
  obtain ⟨t, g1, _, ht⟩ := h.c1
  have H0 := Lib.hid h
  have hmax : ∀ ts t w, (Builtin.max_ ts t #[.int .i64 most, .int .i64 0]).run Try.prog w = .ok (.int .i64 most) w := by
    intro ts t w
    rw [run_max_int2, if_neg (by omega)]
  have hmn : decide (most < 0) = false := decide_eq_false (by omega)
  have hmb : decide (most < (n : Int)) = true := decide_eq_true hm
  have HT := Lib.hid (show t = k from ht rfl)
  have hn2 : (n : Int) < 18446744073709551616 := by omega
  clear h ht hm hn
  go_enter Try.func56, Try.ntmps56
  go_wp2_with fail
  (with_reducible refine (CU.out _ H0.out).mono ?_)
  rintro r w1 ⟨rfl, hr1, hb1⟩
  have g2 := hr1.c2
  have HR := Lib.hid hr1
  have HB := Lib.hid hb1
  change w1.cell? ⟨g, 2, none⟩ = some (.int .i64 0) at g2
  clear hr1 hb1 H0 CU
  go_wp2_with fail
  (with_reducible refine (rFail_any g k1 L none 3 _ _ HR.out).mono ?_)
  rintro r w2 ⟨⟨v, rfl⟩, hr2, hb2⟩
  have g3 := hr2.c2
  have H2 := Lib.hid (And.intro hr2 hb2)
  clear hr2 hb2
  change w2.cell? ⟨g, 2, none⟩ = some (.int .i64 3) at g3
  go_wp2_with fail
  go_ret
  refine ⟨rfl, ?_, HB.out.trans H2.out.2⟩
  have hh := H2.out.1
  rw [HT.out] at hh
  exact hh.anyK (by simp [failF]) hk
set_option maxRecDepth 100000 in
set_option maxHeartbeats 1000000 in
theorem rN_lo (g k k1 : Nat) (L : List Nat) (least most : Int) (h2 : 0 ≤ most) (h3 : most ≤ 9223372036854775807) (n : Nat) (hm : ¬ most < (n : Int)) (hl0 : 0 < least) (hl1 : (n : Int) < least) (hl2 : least ≤ 9223372036854775807) (hk : k ≤ L.length) (w : World) (h : RRd w g L k none)
    (CU : Hid (∀ w, RRd w g L k none → Calls Try.prog 57 #[.pointer (some ⟨g, 0, none⟩)] w fun r w' => r = .returned (.int .u64 (n : Int)) ∧ RRd w' g L k1 none ∧ But (· = g) w w')) :
    Calls Try.prog 56 #[.pointer (some ⟨g, 0, none⟩), .int .i64 least, .int .i64 most] w fun r w' => r = .returned (.int .i64 0) ∧ RRd w' g L k (failF none 3 k) ∧ But (· = g) w w' := by
  obtain ⟨t, g1, _, ht⟩ := h.c1
  have H0 := Lib.hid h
  have hmax : ∀ ts t w, (Builtin.max_ ts t #[.int .i64 most, .int .i64 0]).run Try.prog w = .ok (.int .i64 most) w := by
    intro ts t w
    rw [run_max_int2, if_neg (by omega)]
  have hmn : decide (most < 0) = false := decide_eq_false (by omega)
  have hmb : decide (most < (n : Int)) = false := decide_eq_false hm
  have hl3 : decide (0 < least) = true := decide_eq_true hl0
  have hl4 : decide ((n : Int) < least) = true := decide_eq_true hl1
  have hl5 : (0 : Int) ≤ least := by omega
  have HT := Lib.hid (show t = k from ht rfl)
  clear h ht hm hl0 hl1
  go_enter Try.func56, Try.ntmps56
  go_wp2_with fail
  (with_reducible refine (CU.out _ H0.out).mono ?_)
  rintro r w1 ⟨rfl, hr1, hb1⟩
  have g2 := hr1.c2
  have HR := Lib.hid hr1
  have HB := Lib.hid hb1
  change w1.cell? ⟨g, 2, none⟩ = some (.int .i64 0) at g2
  clear hr1 hb1 H0 CU
  go_wp2_with fail
  (with_reducible refine (rFail_any g k1 L none 3 _ _ HR.out).mono ?_)
  rintro r w2 ⟨⟨v, rfl⟩, hr2, hb2⟩
  have g3 := hr2.c2
  have H2 := Lib.hid (And.intro hr2 hb2)
  clear hr2 hb2
  change w2.cell? ⟨g, 2, none⟩ = some (.int .i64 3) at g3
  go_wp2_with fail
  go_ret
  refine ⟨rfl, ?_, HB.out.trans H2.out.2⟩
  have hh := H2.out.1
  rw [HT.out] at hh
  exact hh.anyK (by simp [failF]) hk
theorem rN_any (g k : Nat) (L : List Nat) (f : Option (Int × Int)) (least most : Int) (h0 : 0 ≤ least) (h1 : least ≤ 9223372036854775807) (h2 : 0 ≤ most) (h3 : most ≤ 9223372036854775807) (hL : L.length < 1099511627776) (w : World) (h : RRd w g L k f) :
    Calls Try.prog 56 #[.pointer (some ⟨g, 0, none⟩), .int .i64 least, .int .i64 most] w fun r w' => r = .returned (.int .i64 (rnV L k f least most)) ∧ RRd w' g L (rnK L k f least most) (rnF L k f least most) ∧ But (· = g) w w' := by
  have CU := fun w h => rU_any g k L f hL w h
  have hk := h.le
  cases f with
  | some x =>
    have e1 : ruV L k (some x) = 0 := by unfold ruV; simp
    have e2 : ruK L k (some x) = k := by unfold ruK; simp
    have e3 : ruF L k (some x) = some x := by unfold ruF; simp
    rw [e1, e2, e3] at CU
    have f1 : rnV L k (some x) least most = 0 := by unfold rnV; simp
    have f2 : rnK L k (some x) least most = k := by unfold rnK; simp
    rw [f1, f2, rnF_some]
    exact rN_flt g k L least most h2 h3 (some x) x 0 (beq_false_of_ne (h.nz x rfl)) (by simpa [fltE] using h.nz x rfl) w h (Lib.hid CU)
  | none =>
    obtain ⟨n, j, e, hx⟩ : ∃ n j e, numGo (L.drop k) 0 0 = (n, j, e) := ⟨_, _, _, rfl⟩
    have hn : n < 18446744073709551616 := by
      have := numGo_lt' (L.drop k) 0 0 (by decide) (by decide) (fun x hx => h.byt x (List.mem_of_mem_drop hx))
      rw [hx] at this
      exact this
    unfold rnV rnK rnF rnE
    unfold ruV ruK ruF ruE at CU
    rw [hx] at CU ⊢
    simp only [true_and, if_true] at CU ⊢
    by_cases he : e = 0
    · subst he
      simp only [if_true] at CU
      have e0 : failF none 0 (k : Int) = none := by simp [failF]
      rw [e0] at CU
      by_cases hb : bndE 0 n least most = 0
      · rw [hb]
        simp only [if_true]
        rw [e0]
        unfold bndE at hb
        simp only [if_true] at hb
        have hc : ¬ (most < (n : Int) ∨ (0 < least ∧ (n : Int) < least)) := by
          intro hh; rw [if_pos hh] at hb; omega
        refine rN_ok g k (k + j) L least most h2 h3 n hn (by omega) ?_ h1 h0 w h (Lib.hid CU)
        by_cases hl : 0 < least
        · exact .inr ⟨decide_eq_true hl, decide_eq_false (by omega)⟩
        · exact .inl (decide_eq_false hl)
      · have hb3 : bndE 0 n least most = 3 := by
          unfold bndE at hb ⊢
          simp only [if_true] at hb ⊢
          split <;> simp_all
        rw [if_neg hb, if_neg hb, hb3]
        have hc : most < (n : Int) ∨ (0 < least ∧ (n : Int) < least) := by
          unfold bndE at hb3
          simp only [if_true] at hb3
          split at hb3
          · assumption
          · omega
        by_cases hm : most < (n : Int)
        · exact rN_hi g k (k + j) L least most h2 h3 n hn hm hk w h (Lib.hid CU)
        · exact rN_lo g k (k + j) L least most h2 h3 n hm (by omega) (by omega) h1 hk w h (Lib.hid CU)
    · have hb : bndE e n least most = e := by unfold bndE; rw [if_neg he]
      rw [hb, if_neg he, if_neg he]
      rw [if_neg he, if_neg he] at CU
      have e1 : failF none e (k : Int) = some (e, (k : Int)) := by unfold failF; simp [he]
      rw [e1] at CU ⊢
      exact rN_flt g k L least most h2 h3 none (e, (k : Int)) _ (beq_false_of_ne he) (by simpa [fltE] using he) w h (Lib.hid CU)
end Go.Proofs.Ytlgjdeggbcgbnaa
