/- roster: bools side by side, a status' name, heights until which one is jailed, the chapter's roster. Conditions stand in each lemma. -/
import Derived.Test.YtjdpgapmdmpjjaaRos7
set_option linter.unusedVariables false
set_option linter.unusedSimpArgs false
namespace Go.Proofs.Ytjdpgapmdmpjjaa
open Go.RowKit Go.ChangeShapes Go.WideShapes Go.Deep Go.Joins

/-- a status' name -/
def nameV (st : Int) : ByteArray := if st = 1 then ⟨#[105, 100, 108, 101]⟩ else if st = 2 then ⟨#[97, 99, 116, 105, 118, 101]⟩ else if st = 3 then ⟨#[106, 97, 105, 108, 101, 100]⟩ else if st = 4 then ⟨#[116, 111, 109, 98]⟩ else ⟨#[110, 111, 110, 101]⟩
set_option maxRecDepth 100000 in
theorem rosName_any (st : Int) (w : World) : Calls Try.prog 48 #[.int .i64 st] w fun e w' => e = .returned (.string (nameV st)) ∧ Ext w w' := by
  by_cases h1 : st = 1
  · subst h1
    go_enter Try.func48, Try.ntmps48
    go_wp2
    go_ret
    exact ⟨rfl, Ext.refl _⟩
  by_cases h2 : st = 2
  · subst h2
    go_enter Try.func48, Try.ntmps48
    go_wp2
    go_ret
    exact ⟨rfl, Ext.refl _⟩
  by_cases h3 : st = 3
  · subst h3
    go_enter Try.func48, Try.ntmps48
    go_wp2
    go_ret
    exact ⟨rfl, Ext.refl _⟩
  by_cases h4 : st = 4
  · subst h4
    go_enter Try.func48, Try.ntmps48
    go_wp2
    go_ret
    exact ⟨rfl, Ext.refl _⟩
  have e1 : (st == 1) = false := by simp [h1]
  have e2 : (st == 2) = false := by simp [h2]
  have e3 : (st == 3) = false := by simp [h3]
  have e4 : (st == 4) = false := by simp [h4]
  have hv : nameV st = ⟨#[110, 111, 110, 101]⟩ := by unfold nameV; rw [if_neg h1, if_neg h2, if_neg h3, if_neg h4]
  rw [hv]
  clear h1 h2 h3 h4 hv
  go_enter Try.func48, Try.ntmps48
  go_wp2
  go_ret
  exact ⟨rfl, Ext.refl _⟩
set_option maxRecDepth 100000 in
theorem rName16_any (st : Int) (w : World) : Calls Try.prog 49 #[.int .i64 st] w fun e w' => e = .returned (.string (nameV st)) ∧ Ext w w' := by
  by_cases h1 : st = 1
  · subst h1
    go_enter Try.func49, Try.ntmps49
    go_wp2
    go_ret
    exact ⟨rfl, Ext.refl _⟩
  by_cases h2 : st = 2
  · subst h2
    go_enter Try.func49, Try.ntmps49
    go_wp2
    go_ret
    exact ⟨rfl, Ext.refl _⟩
  by_cases h3 : st = 3
  · subst h3
    go_enter Try.func49, Try.ntmps49
    go_wp2
    go_ret
    exact ⟨rfl, Ext.refl _⟩
  by_cases h4 : st = 4
  · subst h4
    go_enter Try.func49, Try.ntmps49
    go_wp2
    go_ret
    exact ⟨rfl, Ext.refl _⟩
  have e1 : (st == 1) = false := by simp [h1]
  have e2 : (st == 2) = false := by simp [h2]
  have e3 : (st == 3) = false := by simp [h3]
  have e4 : (st == 4) = false := by simp [h4]
  have hv : nameV st = ⟨#[110, 111, 110, 101]⟩ := by unfold nameV; rw [if_neg h1, if_neg h2, if_neg h3, if_neg h4]
  rw [hv]
  clear h1 h2 h3 h4 hv
  go_enter Try.func49, Try.ntmps49
  go_wp2
  go_ret
  exact ⟨rfl, Ext.refl _⟩
set_option maxRecDepth 100000 in
theorem rosUntil_any (u : Int) (b : Bool) (w : World) (hb : b = decide (1 ≤ u ∧ u ≤ 4296015872)) : Calls Try.prog 105 #[.int .i64 u] w fun e w' => e = .returned (.bool b) ∧ Ext w w' := by
  by_cases h1 : u ≥ 1
  · by_cases h2 : u ≤ 4296015872
    · have e : b = true := by rw [hb]; exact decide_eq_true ⟨h1, h2⟩
      subst e
      clear hb
      go_enter Try.func105, Try.ntmps105
      go_wp2
      go_ret
      exact ⟨rfl, Ext.refl _⟩
    · have e : b = false := by rw [hb]; exact decide_eq_false (fun h => h2 h.2)
      subst e
      clear hb
      go_enter Try.func105, Try.ntmps105
      go_wp2
      go_ret
      exact ⟨rfl, Ext.refl _⟩
  · have e : b = false := by rw [hb]; exact decide_eq_false (fun h => h1 h.1)
    subst e
    clear hb
    go_enter Try.func105, Try.ntmps105
    go_wp2
    go_ret
    exact ⟨rfl, Ext.refl _⟩
theorem bool_take {l : List Bool} {k : Nat} {x : Bool} (h : l[k]? = some x) : l.take (k + 1) = l.take k ++ [x] := by
  obtain ⟨hk, rfl⟩ := List.getElem?_eq_some_iff.1 h
  rw [List.take_succ_eq_append_getElem hk]
set_option maxRecDepth 100000 in
set_option maxHeartbeats 2000000 in
theorem kSameBools_any (A B : Option Addr) (n c m d : Nat) (l r : List Bool) (w : World) (h1 : Sl w 1 A n c (l.map Value.bool)) (h2 : Sl w 1 B m d (r.map Value.bool)) :
    Calls Try.prog 41 #[.slice A n c, .slice B m d] w fun e w' => e = .returned (.bool (decide (l = r))) ∧ Ext w w' := by
  have hl : l.length = n := by have := h1.len; simpa using this
  have hr : r.length = m := by have := h2.len; simpa using this
  have s1 := h1.small
  have s2 := h2.small
  by_cases hnm : n = m
  · subst hnm
    have H1 := Lib.hid h1
    have H2 := Lib.hid h2
    have HL := Lib.hid (And.intro hl hr)
    have e0 : ((n : Int) == (n : Int)) = true := by simp
    obtain ⟨bb, hbb⟩ : ∃ b, b = decide (l = r) := ⟨_, rfl⟩
    rw [← hbb]
    have HBB := Lib.hid hbb
    clear h1 h2 hl hr hbb
    go_enter Try.func41, Try.ntmps41
    go_wp2
    go_loopg [5, 6] n (fun gh q i wx => gh ≤ n ∧ i = .int .i64 ((n - gh : Nat) : Int) ∧ (∃ b : Bool, q = .bool b ∧ Hid (b = decide (l.take (n - gh) = r.take (n - gh)))) ∧ Ext w wx)
    case atStart => exact ⟨Nat.le_refl _, by simp, ⟨true, rfl, by rw [Nat.sub_self]; exact Lib.hid (by simp)⟩, Ext.refl _⟩
    case round =>
      obtain ⟨hg, hi, ⟨b, rfl, hb⟩, hx⟩ := hrel
      obtain ⟨k, hk⟩ : ∃ k, k = n - gk := ⟨_, rfl⟩
      rw [← hk] at hi hb
      subst hi
      have XR := Lib.hid hx
      cases b
      · have hne : bb = false := by
          have h := hb.out
          rw [HBB.out]
          by_cases hlr : l = r
          · subst hlr; simp at h
          · exact decide_eq_false hlr
        subst hne
        clear hx hk hg hb
        go_wp2
        go_ret
        exact ⟨rfl, XR.out⟩
      · by_cases hz : gk = 0
        · have hkn : ¬ (k : Int) < n := by omega
          have hne : bb = true := by
            have h := hb.out
            rw [HBB.out]
            rw [List.take_of_length_le (by have := HL.out; omega), List.take_of_length_le (by have := HL.out; omega)] at h
            exact h.symm
          subst hne
          clear hx hk hg hb hz
          go_wp2
          go_ret
          exact ⟨rfl, XR.out⟩
        · have hkn : (k : Int) < n := by omega
          have hk1 : k < l.length := by have := HL.out; omega
          have hk2 : k < r.length := by have := HL.out; omega
          obtain ⟨b1, o1, rfl, hb1, hc1⟩ := H1.out.at_ (show 0 < n from by omega)
          obtain ⟨b2, o2, rfl, hb2, hc2⟩ := H2.out.at_ (show 0 < n from by omega)
          obtain ⟨x0, hxx⟩ : ∃ x, x = l[k] := ⟨_, rfl⟩
          obtain ⟨y0, hyy⟩ : ∃ y, y = r[k] := ⟨_, rfl⟩
          have hlk : l[k]? = some x0 := by rw [hxx]; exact List.getElem?_eq_getElem hk1
          have hrk : r[k]? = some y0 := by rw [hyy]; exact List.getElem?_eq_getElem hk2
          have x_0 : wr.cell? ⟨b1, o1 + k, none⟩ = some (.bool x0) := XR.out.has (hc1 k _ (by rw [List.getElem?_map, hlk]; rfl))
          have y_0 : wr.cell? ⟨b2, o2 + k, none⟩ = some (.bool y0) := XR.out.has (hc2 k _ (by rw [List.getElem?_map, hrk]; rfl))
          have t1 := bool_take hlk
          have t2 := bool_take hrk
          have hstep : Hid ((x0 == y0) = decide (l.take (k + 1) = r.take (k + 1))) := Lib.hid (by
            rw [t1, t2]
            have h := hb.out
            have h3 : l.take k = r.take k := by simpa using h.symm
            rw [h3]
            cases x0 <;> cases y0 <;> simp)
          have HK := Lib.hid (And.intro hk (And.intro hg hz))
          clear hx hk hg hb hz hc1 hc2 t1 t2 hxx hyy hk1 hk2 hlk hrk
          go_wp2_with fail
          refine wp_region_held_drew (S := fun w' => w'.cell? ⟨b1, o1 + k, none⟩ = some (.bool x0) ∧ w'.cell? ⟨b2, o2 + k, none⟩ = some (.bool y0)) (by kernel_rfl) (by first | exact ⟨x_0, y_0⟩ | (simp [go_sem, World.cell?_alloc_past, x_0, y_0]; done)) (fun hHeld => ?_)
          (refine' take_in 0 rfl (by kernel_rfl) (by kernel_rfl) (by kernel_rfl) (fun _ _ _ h => h) (by rfl) (by assumption) ?_ ?_; rotate_left; focus (intro w hSw; (try dsimp only at hSw); go_simp; try with_reducible rfl)); try simp only [Act.put, List.setIfInBounds_toArray, List.set_cons_zero, List.set_cons_succ]
          (refine' take_in 1 rfl (by kernel_rfl) (by kernel_rfl) (by kernel_rfl) (fun _ _ _ h => h) (by rfl) (by assumption) ?_ ?_; rotate_left; focus (intro w hSw; (try dsimp only at hSw); go_simp; try with_reducible rfl)); try simp only [Act.put, List.setIfInBounds_toArray, List.set_cons_zero, List.set_cons_succ]
          (refine' take_in 2 rfl (by kernel_rfl) (by kernel_rfl) (by kernel_rfl) (fun _ _ _ h => h) (by rfl) (by assumption) ?_ ?_; rotate_left; focus (intro w hSw; (try dsimp only at hSw); go_simp; try with_reducible rfl)); try simp only [Act.put, List.setIfInBounds_toArray, List.set_cons_zero, List.set_cons_succ]
          (refine' take_in 3 rfl (by kernel_rfl) (by kernel_rfl) (by kernel_rfl) (fun _ _ _ h => h) (by rfl) (by assumption) ?_ ?_; rotate_left; focus (intro w hSw; (try dsimp only at hSw); go_simp; try with_reducible rfl)); try simp only [Act.put, List.setIfInBounds_toArray, List.set_cons_zero, List.set_cons_succ]
          (refine' take_in 4 rfl (by kernel_rfl) (by kernel_rfl) (by kernel_rfl) (fun _ _ _ h => h) (by rfl) (by assumption) ?_ ?_; rotate_left; focus (intro w hSw; (try dsimp only at hSw); go_simp; try with_reducible rfl)); try simp only [Act.put, List.setIfInBounds_toArray, List.set_cons_zero, List.set_cons_succ]
          (refine' take_in 5 rfl (by kernel_rfl) (by kernel_rfl) (by kernel_rfl) (fun _ _ _ h => h) (by rfl) (by assumption) ?_ ?_; rotate_left; focus (intro w hSw; (try dsimp only at hSw); go_simp; try with_reducible rfl)); try simp only [Act.put, List.setIfInBounds_toArray, List.set_cons_zero, List.set_cons_succ]
          (refine' take_in 6 rfl (by kernel_rfl) (by kernel_rfl) (by kernel_rfl) (fun _ _ _ h => h) (by rfl) (by assumption) ?_ ?_; rotate_left; focus (intro w hSw; (try dsimp only at hSw); go_simp; try with_reducible rfl)); try simp only [Act.put, List.setIfInBounds_toArray, List.set_cons_zero, List.set_cons_succ]
          (refine' take_in 7 rfl (by kernel_rfl) (by kernel_rfl) (by kernel_rfl) (fun _ _ _ h => h) (by rfl) (by assumption) ?_ ?_; rotate_left; focus (intro w hSw; (try dsimp only at hSw); go_simp; try with_reducible rfl)); try simp only [Act.put, List.setIfInBounds_toArray, List.set_cons_zero, List.set_cons_succ]
          (refine' take_in 8 rfl (by kernel_rfl) (by kernel_rfl) (by kernel_rfl) (fun _ _ _ h => h) (by rfl) (by assumption) ?_ ?_; rotate_left; focus (intro w hSw; (try dsimp only at hSw); go_simp; try with_reducible rfl)); try simp only [Act.put, List.setIfInBounds_toArray, List.set_cons_zero, List.set_cons_succ]
          (refine' take_in 9 rfl (by kernel_rfl) (by kernel_rfl) (by kernel_rfl) (fun _ _ _ h => h) (by rfl) (by assumption) ?_ ?_; rotate_left; focus (intro w hSw; (try dsimp only at hSw); go_simp; try with_reducible rfl)); try simp only [Act.put, List.setIfInBounds_toArray, List.set_cons_zero, List.set_cons_succ]
          refine wpAnyH_done (by kernel_rfl) ?_ _
          go_wp2_with fail
          go_roundg (gk - 1)
          case measure => have := HK.out; omega
          case rel => exact ⟨by have := HK.out; omega, num_eq (by have := HK.out; omega), ⟨_, rfl, Lib.hid (by rw [show n - (gk - 1) = k + 1 from by have := HK.out; omega]; exact hstep.out)⟩, (by repeat (first | with_reducible exact XR.out | with_reducible refine Ext.drew ?_ | with_reducible refine Ext.drewN ?_ _ | with_reducible refine Ext.alloc ?_ _ | with_reducible refine Ext.setCell ?_ (by first | omega | (simp; done) | (simp; omega)) _))⟩
  · have hne : ¬ l = r := by rintro rfl; omega
    rw [decide_eq_false hne]
    have e0 : ((n : Int) == (m : Int)) = false := by simp; omega
    clear h1 h2 hl hr hne
    go_enter Try.func41, Try.ntmps41
    go_wp2
    go_loopg [5, 6] 0 (fun gh q i wx => q = .bool false ∧ i = .int .i64 0 ∧ wx = w)
    case atStart => exact ⟨rfl, rfl, rfl⟩
    case round =>
      obtain ⟨rfl, rfl, rfl⟩ := hrel
      go_wp2
      go_ret
      exact ⟨rfl, Ext.refl _⟩
end Go.Proofs.Ytjdpgapmdmpjjaa
