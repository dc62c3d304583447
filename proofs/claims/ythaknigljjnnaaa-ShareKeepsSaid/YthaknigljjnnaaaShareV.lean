/- Value: the question 'check' of a pool is asked as a bound method. Conditions stand in each lemma. -/
import Derived.Test.YthaknigljjnnaaaShareJ
set_option linter.unusedVariables false
set_option linter.unusedSimpArgs false
namespace Go.Proofs.Ythaknigljjnnaaa
open Go.RowKit

set_option maxHeartbeats 1000000 in
/-- two questions: a pool's check, and one of 'so' -/
theorem sfirst_check (t s : Int) (ht : Word t) (hs : Word s) (b p q : Nat) (is : Bool) (e : Int) (w : World)
    (c1 : w.cell? ⟨b, 0, none⟩ = some (.func (.func 82) #[.agg #[.int .u64 t, .int .u64 s]] #[])) (c2 : w.cell? ⟨b, 1, none⟩ = some (clo p q))
    (h1 : w.cell? ⟨p, 0, none⟩ = some (.bool is)) (g1 : w.cell? ⟨q, 0, none⟩ = some (.int .i64 e)) :
    Calls Try.prog 81 #[.slice (some ⟨b, 0, none⟩) 2 2] w fun r w' => r = .returned (.int .i64 (if chkE t s = 0 then (if is = true then e else 0) else chkE t s)) ∧ Ext w w' := by
  have CK := scheck_any t s ht hs
  obtain ⟨c, hc⟩ : ∃ c, c = chkE t s := ⟨_, rfl⟩
  rw [← hc]
  simp only [← hc] at CK
  replace CK := Lib.hid CK
  have C := Lib.hid (fun w h1 h2 => sso1_any ⟨p, 0, none⟩ ⟨q, 0, none⟩ is e w h1 h2)
  obtain ⟨E, hE⟩ : ∃ c, c = if is = true then e else 0 := ⟨_, rfl⟩
  rw [← hE]
  simp only [← hE] at C
  replace C := Lib.hid C
  obtain ⟨V, hV⟩ : ∃ V, V = if c = 0 then E else c := ⟨_, rfl⟩
  rw [← hV]
  have HV := Lib.hid hV
  have H1 := Lib.hid h1
  have G1 := Lib.hid g1
  have C2 := Lib.hid c2
  clear hV hE hc ht hs h1 g1 c2
  go_enter Try.func81, Try.ntmps81
  go_wp2
  go_loopg [8] 2 (fun g i wx => g ≤ 2 ∧ Hid ((g = 1 → V = E) ∧ (g = 0 → V = 0)) ∧ i = .int .i64 ((2 - g : Nat) : Int) ∧ Ext w wx)
  case atStart => exact ⟨Nat.le_refl _, ⟨fun h => absurd h (by omega), fun h => absurd h (by omega)⟩, by simp, Ext.refl _⟩
  case round =>
    obtain ⟨hg, H, hi, hx⟩ := hrel
    subst hi
    match gk, hg with
    | 2, _ =>
      have d1 := hx.has c1
      clear c1
      by_cases hc : c = 0
      · subst hc
        have hv := Lib.hid (show V = E from HV.out)
        go_wp2_with fail
        refine (CK.out _).mono ?_
        rintro r w1 ⟨rfl, hx1⟩
        go_wp2_with fail
        go_roundg 1
        case measure => omega
        case rel => exact ⟨by omega, ⟨fun _ => hv.out, fun h => absurd h (by omega)⟩, rfl, hx.trans hx1⟩
      · obtain rfl : V = c := HV.out.trans (if_neg hc)
        have hc' : (V == 0) = false := by simpa using hc
        clear hc
        go_wp2_with fail
        refine (CK.out _).mono ?_
        rintro r w1 ⟨rfl, hx1⟩
        go_wp2_with fail
        go_ret
        exact ⟨rfl, hx.trans hx1⟩
    | 1, _ =>
      obtain rfl : V = E := H.out.1 rfl
      have d1 := hx.has C2.out
      have C3 := Lib.hid (C.out wr (hx.has H1.out) (hx.has G1.out))
      clear c1
      by_cases hc : V = 0
      · subst hc
        clear H HV C
        go_wp2_with fail
        refine C3.out.mono ?_
        rintro r w1 ⟨rfl, rfl⟩
        go_wp2_with fail
        go_roundg 0
        case measure => omega
        case rel => exact ⟨by omega, ⟨fun h => absurd h (by omega), fun _ => by first | rfl | trivial⟩, rfl, hx⟩
      · have hc' : (V == 0) = false := by simpa using hc
        clear hc H HV C
        go_wp2_with fail
        refine C3.out.mono ?_
        rintro r w1 ⟨rfl, rfl⟩
        go_wp2_with fail
        go_ret
        exact ⟨rfl, hx⟩
    | 0, _ =>
      obtain rfl : V = 0 := H.out.2 rfl
      clear c1
      go_wp2
      go_ret
      exact ⟨rfl, hx⟩
theorem sfirst_check' (t s : Int) (ht : Word t) (hs : Word s) (b p q : Nat) (is : Bool) (e : Int) {V : Int} (hV : Hid (V = if chkE t s = 0 then (if is = true then e else 0) else chkE t s)) (w : World)
    (c1 : w.cell? ⟨b, 0, none⟩ = some (.func (.func 82) #[.agg #[.int .u64 t, .int .u64 s]] #[])) (c2 : w.cell? ⟨b, 1, none⟩ = some (clo p q))
    (h1 : w.cell? ⟨p, 0, none⟩ = some (.bool is)) (g1 : w.cell? ⟨q, 0, none⟩ = some (.int .i64 e)) :
    Calls Try.prog 81 #[.slice (some ⟨b, 0, none⟩) 2 2] w fun r w' => r = .returned (.int .i64 V) ∧ Ext w w' := by
  rw [hV.out]
  exact sfirst_check t s ht hs b p q is e w c1 c2 h1 g1
set_option maxHeartbeats 2000000 in
theorem SValue_bad (t s x V : Int) (HW : Hid (Word t ∧ Word s)) (HV : Hid (V = if chkE t s = 0 then (if decide (s < x) = true then 13 else 0) else chkE t s)) (hc : ¬ V = 0) (w : World) :
    Calls Try.prog 39 #[.agg #[.int .u64 t, .int .u64 s], .int .u64 x] w fun r w' => r = .returned (.tuple #[.int .u64 0, .int .i64 V]) ∧ Ext w w' := by
  go_enter Try.func39, Try.ntmps39
  go_wp2_with
    (go_at_call 80; refine (sof_any _ _ _).mono ?_; rintro r w1 ⟨rfl, hx1⟩
     have hs1 := hx1.size
     simp at hs1
     have b1 : w1.cell? ⟨w.heap.size, 0, none⟩ = some (.int .u64 t) := hx1.has (by simp [go_sem])
     have b2 : w1.cell? ⟨w.heap.size, 1, none⟩ = some (.int .u64 s) := hx1.has (by simp [go_sem])
     have r1 : w.heap.size < w1.heap.size := by omega
     have r2 : w.heap.size < w1.heap.size + 1 := by omega
     have r3 : w.heap.size < w1.heap.size + 1 + 1 := by omega)
  go_region_held3 (fun w' => w'.cell? ⟨w.heap.size, 0, none⟩ = some (.int .u64 t) ∧ w'.cell? ⟨w.heap.size, 1, none⟩ = some (.int .u64 s) ∧ w'.cell? ⟨w1.heap.size, 0, none⟩ = some (.int .u64 t) ∧ w'.cell? ⟨w1.heap.size, 1, none⟩ = some (.int .u64 s))
    (first | assumption | (simp [go_sem, World.cell?_alloc_past, r1, r2, r3, b1, b2]; done) | (refine ⟨?_, ?_, ?_, ?_⟩ <;> first | assumption | (simp [go_sem, World.cell?_alloc_past, r1, r2, r3, b1, b2]; done)))
    (first
      | (go_at_call 83; refine (sso_any _ _ _).mono ?_; rintro r w4 ⟨rfl, rfl⟩)
      | (go_at_call 81
         refine (sfirst_check' t s HW.out.1 HW.out.2 _ (w1.heap.size + 1) (w1.heap.size + 1 + 1) (decide (s < x)) 13 HV _
           (by simp [go_sem]) (by simp [go_sem]) (by simp [go_sem]) (by simp [go_sem])).mono ?_
         rintro r w5 ⟨rfl, hx5⟩
         have hs5 := hx5.size
         simp at hs5
         have g1 : w5.cell? ⟨w1.heap.size, 0, none⟩ = some (.int .u64 t) := hx5.has (by simp [go_sem, World.cell?_alloc_past])
         have g2 : w5.cell? ⟨w1.heap.size, 1, none⟩ = some (.int .u64 s) := hx5.has (by simp [go_sem, World.cell?_alloc_past])
         have g3 : w5.cell? ⟨w.heap.size, 0, none⟩ = some (.int .u64 t) := hx5.has (by simp [go_sem, World.cell?_alloc_past, r1, r2, r3, b1, b2])
         have g4 : w5.cell? ⟨w.heap.size, 1, none⟩ = some (.int .u64 s) := hx5.has (by simp [go_sem, World.cell?_alloc_past, r1, r2, r3, b1, b2])))
  all_goals (go_wp2; go_ret2; exact ⟨rfl, (by repeat (first | assumption | exact Ext.refl _ | refine Ext.drew ?_ | refine Ext.drewN ?_ _ | refine Ext.alloc ?_ _ | refine Ext.setCell ?_ (by first | omega | (simp; done) | (simp; omega)) _ | refine Ext.trans ?_ (by assumption)))⟩)
set_option maxHeartbeats 2000000 in
theorem SValue_ok (t s x n V : Int) (HW : Hid (Word t ∧ Word s)) (HV : Hid (V = if chkE t s = 0 then (if decide (s < x) = true then 13 else 0) else chkE t s)) (hc : V = 0) (w : World)
    (C1 : Hid (∀ w, Calls Try.prog 84 #[.agg #[.int .u64 t, .int .u64 s], .int .u64 x] w fun r w' => r = .returned (.int .u64 n) ∧ Ext w w')) :
    Calls Try.prog 39 #[.agg #[.int .u64 t, .int .u64 s], .int .u64 x] w fun r w' => r = .returned (.tuple #[.int .u64 n, .int .i64 0]) ∧ Ext w w' := by
  subst hc
  go_enter Try.func39, Try.ntmps39
  go_wp2_with
    (go_at_call 80; refine (sof_any _ _ _).mono ?_; rintro r w1 ⟨rfl, hx1⟩
     have hs1 := hx1.size
     simp at hs1
     have b1 : w1.cell? ⟨w.heap.size, 0, none⟩ = some (.int .u64 t) := hx1.has (by simp [go_sem])
     have b2 : w1.cell? ⟨w.heap.size, 1, none⟩ = some (.int .u64 s) := hx1.has (by simp [go_sem])
     have r1 : w.heap.size < w1.heap.size := by omega
     have r2 : w.heap.size < w1.heap.size + 1 := by omega
     have r3 : w.heap.size < w1.heap.size + 1 + 1 := by omega)
  go_region_held3 (fun w' => w'.cell? ⟨w.heap.size, 0, none⟩ = some (.int .u64 t) ∧ w'.cell? ⟨w.heap.size, 1, none⟩ = some (.int .u64 s) ∧ w'.cell? ⟨w1.heap.size, 0, none⟩ = some (.int .u64 t) ∧ w'.cell? ⟨w1.heap.size, 1, none⟩ = some (.int .u64 s))
    (first | assumption | (simp [go_sem, World.cell?_alloc_past, r1, r2, r3, b1, b2]; done) | (refine ⟨?_, ?_, ?_, ?_⟩ <;> first | assumption | (simp [go_sem, World.cell?_alloc_past, r1, r2, r3, b1, b2]; done)))
    (first
      | (go_at_call 83; refine (sso_any _ _ _).mono ?_; rintro r w4 ⟨rfl, rfl⟩)
      | (go_at_call 81
         refine (sfirst_check' t s HW.out.1 HW.out.2 _ (w1.heap.size + 1) (w1.heap.size + 1 + 1) (decide (s < x)) 13 HV _
           (by simp [go_sem]) (by simp [go_sem]) (by simp [go_sem]) (by simp [go_sem])).mono ?_
         rintro r w5 ⟨rfl, hx5⟩
         have hs5 := hx5.size
         simp at hs5
         have g1 : w5.cell? ⟨w1.heap.size, 0, none⟩ = some (.int .u64 t) := hx5.has (by simp [go_sem, World.cell?_alloc_past])
         have g2 : w5.cell? ⟨w1.heap.size, 1, none⟩ = some (.int .u64 s) := hx5.has (by simp [go_sem, World.cell?_alloc_past])
         have g3 : w5.cell? ⟨w.heap.size, 0, none⟩ = some (.int .u64 t) := hx5.has (by simp [go_sem, World.cell?_alloc_past, r1, r2, r3, b1, b2])
         have g4 : w5.cell? ⟨w.heap.size, 1, none⟩ = some (.int .u64 s) := hx5.has (by simp [go_sem, World.cell?_alloc_past, r1, r2, r3, b1, b2])))
  all_goals (go_wp2_with (go_at_call 84; refine (C1.out _).mono ?_; rintro r w6 ⟨rfl, hx6⟩); go_ret2; exact ⟨rfl, (by repeat (first | assumption | exact Ext.refl _ | refine Ext.drew ?_ | refine Ext.drewN ?_ _ | refine Ext.alloc ?_ _ | refine Ext.setCell ?_ (by first | omega | (simp; done) | (simp; omega)) _ | refine Ext.trans ?_ (by assumption)))⟩)
end Go.Proofs.Ythaknigljjnnaaa
