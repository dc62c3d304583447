/- stamp.Read: which stamp bytes are. Conditions stand in each lemma. -/
import Derived.Test.YthaknigljjnnaaaStampT
set_option linter.unusedVariables false
set_option linter.unusedSimpArgs false
namespace Go.Proofs.Ythaknigljjnnaaa
open Go.RowKit

set_option maxRecDepth 100000 in
set_option maxHeartbeats 2000000 in
theorem tRead_ok (A : Option Addr) (c n k : Nat) (L : List Nat) (V S P F E a : Int) (f : Option (Int × Int)) (w : World) (hs : Sl w 1 A n c (by_ L))
    (CN : Hid (∀ w, Sl w 1 A n c (by_ L) → Calls Try.prog 21 #[.slice A n c] w fun r w' => ∃ g, r = .returned (.pointer (some ⟨g, 0, none⟩)) ∧ w.heap.size ≤ g ∧ Rd w' g L 0 none ∧ Ext w w'))
    (CT : Hid (∀ g w, Rd w g L 0 none → Calls Try.prog 23 #[.pointer (some ⟨g, 0, none⟩)] w fun r w' => r = .returned (.agg #[.int .i64 V, .int .i64 S, .int .i64 P, .int .i64 F]) ∧ Rd w' g L k f ∧ But (· = g) w w'))
    (CE : Hid (∀ g w, Rd w g L k f → Calls Try.prog 29 #[.pointer (some ⟨g, 0, none⟩)] w fun r w' => r = .returned (.agg #[.int .i64 0, .int .i64 a]) ∧ Ext w w')) :
    Calls Try.prog 35 #[.slice A n c] w fun r w' => r = .returned (.tuple #[.agg #[.int .i64 V, .int .i64 S, .int .i64 P, .int .i64 F], .agg #[.int .i64 0, .int .i64 0]]) ∧ Ext w w' := by
  have HS := Lib.hid hs
  clear hs
  go_enter Try.func35, Try.ntmps35
  go_wp2_with fail
  refine (CN.out _ ((HS.out.ext ((Ext.refl w).alloc _)).ext ((Ext.refl _).alloc _))).mono ?_
  rintro r w1 ⟨g, rfl, hg, hr1, hx1⟩
  simp at hg
  have d0 : w1.cell? ⟨w.heap.size, 0, none⟩ = some (.int .i64 0) := hx1.has (by simp [go_sem, World.cell?_alloc_past])
  have e0 : w1.frozen? ⟨w.heap.size, 0, none⟩ = false := hx1.froz (v := .int .i64 0) (by simp [go_sem, World.cell?_alloc_past]) (by simp [go_sem])
  have d1 : w1.cell? ⟨w.heap.size, 1, none⟩ = some (.int .i64 0) := hx1.has (by simp [go_sem, World.cell?_alloc_past])
  have e1 : w1.frozen? ⟨w.heap.size, 1, none⟩ = false := hx1.froz (v := .int .i64 0) (by simp [go_sem, World.cell?_alloc_past]) (by simp [go_sem])
  have d2 : w1.cell? ⟨w.heap.size, 2, none⟩ = some (.int .i64 0) := hx1.has (by simp [go_sem, World.cell?_alloc_past])
  have e2 : w1.frozen? ⟨w.heap.size, 2, none⟩ = false := hx1.froz (v := .int .i64 0) (by simp [go_sem, World.cell?_alloc_past]) (by simp [go_sem])
  have d3 : w1.cell? ⟨w.heap.size, 3, none⟩ = some (.int .i64 0) := hx1.has (by simp [go_sem, World.cell?_alloc_past])
  have e3 : w1.frozen? ⟨w.heap.size, 3, none⟩ = false := hx1.froz (v := .int .i64 0) (by simp [go_sem, World.cell?_alloc_past]) (by simp [go_sem])
  have p0 : w1.cell? ⟨w.heap.size + 1, 0, none⟩ = some (.int .i64 0) := hx1.has (by simp [go_sem])
  have q0 : w1.frozen? ⟨w.heap.size + 1, 0, none⟩ = false := hx1.froz (v := .int .i64 0) (by simp [go_sem]) (by simp [go_sem])
  have p1 : w1.cell? ⟨w.heap.size + 1, 1, none⟩ = some (.int .i64 0) := hx1.has (by simp [go_sem])
  have q1 : w1.frozen? ⟨w.heap.size + 1, 1, none⟩ = false := hx1.froz (v := .int .i64 0) (by simp [go_sem]) (by simp [go_sem])
  have X1 := Lib.hid (show Ext w w1 from Ext.trans (((Ext.refl w).alloc _).alloc _) hx1)
  have H1 := Lib.hid hr1
  have ng0 : ¬ w.heap.size = g := by omega
  have ng1 : ¬ w.heap.size + 1 = g := by omega
  clear hr1 hx1 CN HS
  go_wp2_with fail
  refine (CT.out g _ H1.out).mono ?_
  rintro r w2 ⟨rfl, hr2, hb2⟩
  replace e0 := hb2.froz ng0 d0 e0
  replace d0 := hb2.has ng0 d0
  replace e1 := hb2.froz ng0 d1 e1
  replace d1 := hb2.has ng0 d1
  replace e2 := hb2.froz ng0 d2 e2
  replace d2 := hb2.has ng0 d2
  replace e3 := hb2.froz ng0 d3 e3
  replace d3 := hb2.has ng0 d3
  replace q0 := hb2.froz ng1 p0 q0
  replace p0 := hb2.has ng1 p0
  replace q1 := hb2.froz ng1 p1 q1
  replace p1 := hb2.has ng1 p1
  have X2 := Lib.hid (show Ext w w2 from Below.trans X1.out (hb2.below (Ext.size X1.out) (fun k hk hh => by omega)))
  have g2 : w.heap.size + 1 < w2.heap.size := by have := hr2.lt; omega
  have g1 : w.heap.size < w2.heap.size := by omega
  have H2 := Lib.hid (hr2.keep ((Below.refl _ w2).alloc (Nat.le_refl _) (.cells #[.int .i64 V, .int .i64 S, .int .i64 P, .int .i64 F] 34)))
  clear hr2 hb2 H1 X1 CT
  go_wp2_with fail
  refine (CE.out g _ H2.out).mono ?_
  rintro r w3 ⟨rfl, hx3⟩
  have hxx := Ext.trans ((Ext.refl w2).alloc (.cells #[.int .i64 V, .int .i64 S, .int .i64 P, .int .i64 F] 34)) hx3
  replace e0 := hxx.froz d0 e0
  replace d0 := hxx.has d0
  replace e1 := hxx.froz d1 e1
  replace d1 := hxx.has d1
  replace e2 := hxx.froz d2 e2
  replace d2 := hxx.has d2
  replace e3 := hxx.froz d3 e3
  replace d3 := hxx.has d3
  replace q0 := hxx.froz p0 q0
  replace p0 := hxx.has p0
  replace q1 := hxx.froz p1 q1
  replace p1 := hxx.has p1
  have s0 : w3.cell? ⟨w2.heap.size, 0, none⟩ = some (.int .i64 V) := hx3.has (by simp [go_sem])
  have s1 : w3.cell? ⟨w2.heap.size, 1, none⟩ = some (.int .i64 S) := hx3.has (by simp [go_sem])
  have s2 : w3.cell? ⟨w2.heap.size, 2, none⟩ = some (.int .i64 P) := hx3.has (by simp [go_sem])
  have s3 : w3.cell? ⟨w2.heap.size, 3, none⟩ = some (.int .i64 F) := hx3.has (by simp [go_sem])
  have z3 := hxx.size
  have z4 := hx3.size
  simp at z4
  have X3 := Lib.hid (X2.out.trans hxx)
  replace g1 : w.heap.size < w3.heap.size := by omega
  replace g2 : w.heap.size + 1 < w3.heap.size := by omega
  have g3 : w2.heap.size < w3.heap.size := by omega
  have n1 : ¬ w.heap.size + 1 = w.heap.size := by omega
  have n2 : ¬ w.heap.size = w.heap.size + 1 := by omega
  clear hx3 hxx H2 X2 CE z3 z4
  go_wp2_with fail
  refine bodyPost_ret (v := .tuple #[.agg #[.int .i64 V, .int .i64 S, .int .i64 P, .int .i64 F], .agg #[.int .i64 0, .int .i64 0]]) (by simp [results, Try.results35, go_sem, World.cell?_alloc_past, d0, d1, d2, d3, e0, e1, e2, e3, p0, p1, q0, q1, g1, g2, n1, n2]; try rfl) rfl ⟨rfl, ?_⟩
  have X := X3.out
  exact (by repeat (first | with_reducible exact X | with_reducible refine Ext.drew ?_ | with_reducible refine Ext.drewN ?_ _ | with_reducible refine Ext.alloc ?_ _ | with_reducible refine Ext.setCell ?_ (by first | omega | (simp; done) | (simp; omega)) _))
set_option maxRecDepth 100000 in
set_option maxHeartbeats 2000000 in
theorem tRead_bad (A : Option Addr) (c n k : Nat) (L : List Nat) (V S P F E a : Int) (f : Option (Int × Int)) (hE : (E == 0) = false) (hE2 : (E != 0) = true) (w : World) (hs : Sl w 1 A n c (by_ L))
    (CN : Hid (∀ w, Sl w 1 A n c (by_ L) → Calls Try.prog 21 #[.slice A n c] w fun r w' => ∃ g, r = .returned (.pointer (some ⟨g, 0, none⟩)) ∧ w.heap.size ≤ g ∧ Rd w' g L 0 none ∧ Ext w w'))
    (CT : Hid (∀ g w, Rd w g L 0 none → Calls Try.prog 23 #[.pointer (some ⟨g, 0, none⟩)] w fun r w' => r = .returned (.agg #[.int .i64 V, .int .i64 S, .int .i64 P, .int .i64 F]) ∧ Rd w' g L k f ∧ But (· = g) w w'))
    (CE : Hid (∀ g w, Rd w g L k f → Calls Try.prog 29 #[.pointer (some ⟨g, 0, none⟩)] w fun r w' => r = .returned (.agg #[.int .i64 E, .int .i64 a]) ∧ Ext w w')) :
    Calls Try.prog 35 #[.slice A n c] w fun r w' => r = .returned (.tuple #[.agg #[.int .i64 0, .int .i64 0, .int .i64 0, .int .i64 0], .agg #[.int .i64 E, .int .i64 a]]) ∧ Ext w w' := by
  have HS := Lib.hid hs
  clear hs
  go_enter Try.func35, Try.ntmps35
  go_wp2_with fail
  refine (CN.out _ ((HS.out.ext ((Ext.refl w).alloc _)).ext ((Ext.refl _).alloc _))).mono ?_
  rintro r w1 ⟨g, rfl, hg, hr1, hx1⟩
  simp at hg
  have d0 : w1.cell? ⟨w.heap.size, 0, none⟩ = some (.int .i64 0) := hx1.has (by simp [go_sem, World.cell?_alloc_past])
  have e0 : w1.frozen? ⟨w.heap.size, 0, none⟩ = false := hx1.froz (v := .int .i64 0) (by simp [go_sem, World.cell?_alloc_past]) (by simp [go_sem])
  have d1 : w1.cell? ⟨w.heap.size, 1, none⟩ = some (.int .i64 0) := hx1.has (by simp [go_sem, World.cell?_alloc_past])
  have e1 : w1.frozen? ⟨w.heap.size, 1, none⟩ = false := hx1.froz (v := .int .i64 0) (by simp [go_sem, World.cell?_alloc_past]) (by simp [go_sem])
  have d2 : w1.cell? ⟨w.heap.size, 2, none⟩ = some (.int .i64 0) := hx1.has (by simp [go_sem, World.cell?_alloc_past])
  have e2 : w1.frozen? ⟨w.heap.size, 2, none⟩ = false := hx1.froz (v := .int .i64 0) (by simp [go_sem, World.cell?_alloc_past]) (by simp [go_sem])
  have d3 : w1.cell? ⟨w.heap.size, 3, none⟩ = some (.int .i64 0) := hx1.has (by simp [go_sem, World.cell?_alloc_past])
  have e3 : w1.frozen? ⟨w.heap.size, 3, none⟩ = false := hx1.froz (v := .int .i64 0) (by simp [go_sem, World.cell?_alloc_past]) (by simp [go_sem])
  have p0 : w1.cell? ⟨w.heap.size + 1, 0, none⟩ = some (.int .i64 0) := hx1.has (by simp [go_sem])
  have q0 : w1.frozen? ⟨w.heap.size + 1, 0, none⟩ = false := hx1.froz (v := .int .i64 0) (by simp [go_sem]) (by simp [go_sem])
  have p1 : w1.cell? ⟨w.heap.size + 1, 1, none⟩ = some (.int .i64 0) := hx1.has (by simp [go_sem])
  have q1 : w1.frozen? ⟨w.heap.size + 1, 1, none⟩ = false := hx1.froz (v := .int .i64 0) (by simp [go_sem]) (by simp [go_sem])
  have X1 := Lib.hid (show Ext w w1 from Ext.trans (((Ext.refl w).alloc _).alloc _) hx1)
  have H1 := Lib.hid hr1
  have ng0 : ¬ w.heap.size = g := by omega
  have ng1 : ¬ w.heap.size + 1 = g := by omega
  clear hr1 hx1 CN HS
  go_wp2_with fail
  refine (CT.out g _ H1.out).mono ?_
  rintro r w2 ⟨rfl, hr2, hb2⟩
  replace e0 := hb2.froz ng0 d0 e0
  replace d0 := hb2.has ng0 d0
  replace e1 := hb2.froz ng0 d1 e1
  replace d1 := hb2.has ng0 d1
  replace e2 := hb2.froz ng0 d2 e2
  replace d2 := hb2.has ng0 d2
  replace e3 := hb2.froz ng0 d3 e3
  replace d3 := hb2.has ng0 d3
  replace q0 := hb2.froz ng1 p0 q0
  replace p0 := hb2.has ng1 p0
  replace q1 := hb2.froz ng1 p1 q1
  replace p1 := hb2.has ng1 p1
  have X2 := Lib.hid (show Ext w w2 from Below.trans X1.out (hb2.below (Ext.size X1.out) (fun k hk hh => by omega)))
  have g2 : w.heap.size + 1 < w2.heap.size := by have := hr2.lt; omega
  have g1 : w.heap.size < w2.heap.size := by omega
  have H2 := Lib.hid (hr2.keep ((Below.refl _ w2).alloc (Nat.le_refl _) (.cells #[.int .i64 V, .int .i64 S, .int .i64 P, .int .i64 F] 34)))
  clear hr2 hb2 H1 X1 CT
  go_wp2_with fail
  refine (CE.out g _ H2.out).mono ?_
  rintro r w3 ⟨rfl, hx3⟩
  have hxx := Ext.trans ((Ext.refl w2).alloc (.cells #[.int .i64 V, .int .i64 S, .int .i64 P, .int .i64 F] 34)) hx3
  replace e0 := hxx.froz d0 e0
  replace d0 := hxx.has d0
  replace e1 := hxx.froz d1 e1
  replace d1 := hxx.has d1
  replace e2 := hxx.froz d2 e2
  replace d2 := hxx.has d2
  replace e3 := hxx.froz d3 e3
  replace d3 := hxx.has d3
  replace q0 := hxx.froz p0 q0
  replace p0 := hxx.has p0
  replace q1 := hxx.froz p1 q1
  replace p1 := hxx.has p1
  have s0 : w3.cell? ⟨w2.heap.size, 0, none⟩ = some (.int .i64 V) := hx3.has (by simp [go_sem])
  have s1 : w3.cell? ⟨w2.heap.size, 1, none⟩ = some (.int .i64 S) := hx3.has (by simp [go_sem])
  have s2 : w3.cell? ⟨w2.heap.size, 2, none⟩ = some (.int .i64 P) := hx3.has (by simp [go_sem])
  have s3 : w3.cell? ⟨w2.heap.size, 3, none⟩ = some (.int .i64 F) := hx3.has (by simp [go_sem])
  have z3 := hxx.size
  have z4 := hx3.size
  simp at z4
  have X3 := Lib.hid (X2.out.trans hxx)
  replace g1 : w.heap.size < w3.heap.size := by omega
  replace g2 : w.heap.size + 1 < w3.heap.size := by omega
  have g3 : w2.heap.size < w3.heap.size := by omega
  have n1 : ¬ w.heap.size + 1 = w.heap.size := by omega
  have n2 : ¬ w.heap.size = w.heap.size + 1 := by omega
  clear hx3 hxx H2 X2 CE z3 z4
  go_wp2_with fail
  refine wp_region_held_drew (S := fun w' => w'.cell? ⟨w3.heap.size, 0, none⟩ = some (.int .i64 E) ∧ w'.cell? ⟨w3.heap.size, 1, none⟩ = some (.int .i64 a)) (by kernel_rfl) (by simp [go_sem]) (fun hHeld => ?_)
  (refine' take_in 0 rfl (by kernel_rfl) (by kernel_rfl) (by kernel_rfl) (fun _ _ _ h => h) (by rfl) (by assumption) ?_ ?_; rotate_left; focus (intro w hSw; (try dsimp only at hSw); go_simp; try with_reducible rfl)); try simp only [Act.put, List.setIfInBounds_toArray, List.set_cons_zero, List.set_cons_succ]
  (refine' take_in 1 rfl (by kernel_rfl) (by kernel_rfl) (by kernel_rfl) (fun _ _ _ h => h) (by rfl) (by assumption) ?_ ?_; rotate_left; focus (intro w hSw; (try dsimp only at hSw); go_simp; try with_reducible rfl)); try simp only [Act.put, List.setIfInBounds_toArray, List.set_cons_zero, List.set_cons_succ]
  refine' next_in 2 rfl (by kernel_rfl) (by rfl) (fun K hK => ?_)
  go_simp
  refine hK.out _ _ (by simp [go_sem, World.cell?_alloc_past, d0, d1, d2, d3, e0, e1, e2, e3, p0, p1, q0, q1, g1, g2, n1, n2]) (fun hHeld => ?_); clear hK K; try simp only [Act.put, List.setIfInBounds_toArray, List.set_cons_zero, List.set_cons_succ]
  refine' next_in 3 rfl (by kernel_rfl) (by rfl) (fun K hK => ?_)
  go_simp
  refine hK.out _ _ (by simp [go_sem, World.cell?_alloc_past, d0, d1, d2, d3, e0, e1, e2, e3, p0, p1, q0, q1, g1, g2, n1, n2]) (fun hHeld => ?_); clear hK K; try simp only [Act.put, List.setIfInBounds_toArray, List.set_cons_zero, List.set_cons_succ]
  refine wpAnyH_done (by kernel_rfl) ?_ _
  go_wp2
  refine bodyPost_ret (v := .tuple #[.agg #[.int .i64 0, .int .i64 0, .int .i64 0, .int .i64 0], .agg #[.int .i64 E, .int .i64 a]]) (by simp [results, Try.results35, go_sem, World.cell?_alloc_past, d0, d1, d2, d3, e0, e1, e2, e3, p0, p1, q0, q1, g1, g2, n1, n2]; try rfl) rfl ⟨rfl, ?_⟩
  have X := X3.out
  exact (by repeat (first | with_reducible exact X | with_reducible refine Ext.drew ?_ | with_reducible refine Ext.drewN ?_ _ | with_reducible refine Ext.alloc ?_ _ | with_reducible refine Ext.setCell ?_ (by first | omega | (simp; done) | (simp; omega)) _))
/-- what Read answers: the stamp, the fault -/
def rdS (L : List Nat) : Int × Int := endF (tkF L (0, none)) (tk4 L (0, none)).1 L.length
def rdZ (L : List Nat) (x : Int) : Int := if (rdS L).1 = 0 then x else 0
theorem rdS_zero {L : List Nat} (h : (rdS L).1 = 0) (ht : tkZ L (0, none) = true) : False := by
  unfold tkZ fltB at ht
  simp at ht
  exact ht.2 h
theorem tRead_any (A : Option Addr) (c : Nat) (L : List Nat) (hB : Byt L) (hL : L.length < 1099511627776) (hnil : A = none → c = 0) (w : World) (hs : Sl w 1 A L.length c (by_ L)) :
    Calls Try.prog 35 #[.slice A L.length c] w fun r w' => r = .returned (.tuple #[.agg #[.int .i64 (rdZ L (tkA L (0, none))), .int .i64 (rdZ L (tkB L (0, none))), .int .i64 (rdZ L (tkC L (0, none) - 1)), .int .i64 (rdZ L (tkD L (0, none)))],
      .agg #[.int .i64 (rdS L).1, .int .i64 (if (rdS L).1 = 0 then 0 else (rdS L).2)]]) ∧ Ext w w' := by
  have CN := Lib.hid (fun (w : World) (h : Sl w 1 A L.length c (by_ L)) => cNewReader_any A c L hB w h hL hnil)
  have CT := fun (g : Nat) (w : World) (h : Rd w g L 0 none) => tTake_any g 0 L none hL w h
  have CE := fun (g : Nat) (w : World) (h : Rd w g L (tk4 L (0, none)).1 (tkF L (0, none))) => cEnd_any g _ L _ w h hL
  unfold rdZ
  by_cases he : (rdS L).1 = 0
  · have hz : tkZ L (0, none) = false := by
      cases h : tkZ L (0, none)
      · rfl
      · exact (rdS_zero he h).elim
    rw [if_pos he, if_pos he, if_pos he, if_pos he, if_pos he, he]
    simp only [hz, Bool.false_eq_true, if_false] at CT
    change ∀ g w, _ → Calls _ _ _ _ (fun r w' => r = .returned (.agg #[.int .i64 (rdS L).1, .int .i64 (rdS L).2]) ∧ Ext w w') at CE
    rw [he] at CE
    exact tRead_ok A c L.length _ L _ _ _ _ 0 _ _ w hs CN (Lib.hid CT) (Lib.hid CE)
  · rw [if_neg he, if_neg he, if_neg he, if_neg he, if_neg he]
    exact tRead_bad A c L.length _ L _ _ _ _ (rdS L).1 (rdS L).2 _ (beq_false_of_ne he) (by simpa using he) w hs CN (Lib.hid CT) (Lib.hid CE)
end Go.Proofs.Ythaknigljjnnaaa
