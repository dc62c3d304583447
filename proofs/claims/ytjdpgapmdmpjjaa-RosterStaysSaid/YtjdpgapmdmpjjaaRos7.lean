/- distraintref16: why a roster may not be, one more. Conditions stand in each lemma. -/
import Derived.Test.YtjdpgapmdmpjjaaRos6
set_option linter.unusedVariables false
set_option linter.unusedSimpArgs false
namespace Go.Proofs.Ytjdpgapmdmpjjaa
open Go.RowKit Go.ChangeShapes Go.WideShapes Go.Deep Go.Joins

theorem Sl.rtake {w : World} {A : Option Addr} {n c k : Nat} {l : List (Int × Int × Int × Int × Bool × Bool)} (h : Sl w 6 A n c (l.flatMap valC)) (hk : k ≤ n) : Sl w 6 A k c ((l.take k).flatMap valC) := by
  have hl := h.rlen valC_len (by decide)
  obtain ⟨h1, h2, h3, h4⟩ := h
  refine ⟨by rw [flat_len valC_len, List.length_take, Nat.min_eq_left (by omega)], by omega, h3, fun hp => ?_⟩
  obtain ⟨b, o, e, hb, hc⟩ := h4 (by omega)
  refine ⟨b, o, e, hb, fun j u hj => hc j u ?_⟩
  have e2 : l.flatMap valC = (l.take k).flatMap valC ++ (l.drop k).flatMap valC := by rw [← List.flatMap_append, List.take_append_drop]
  rw [e2, List.getElem?_append_left (List.getElem?_eq_some_iff.1 hj).1]
  exact hj
theorem fndV_mem (l : List (Int × Int × Int × Int × Bool × Bool)) (o : Int) : (fndV l o).2 = decide (o ∈ l.map (·.1)) := by
  by_cases h : o ∈ l.map (·.1)
  · rw [decide_eq_true h]
    unfold fndV
    split
    · rfl
    · rename_i hk
      rw [List.findIdx?_eq_none_iff] at hk
      obtain ⟨x, hx, rfl⟩ := List.mem_map.1 h
      have := hk x hx
      simp at this
  · rw [decide_eq_false h, fndV_none]
    intro j y hj hy e
    exact h (List.mem_map.2 ⟨y, List.mem_of_getElem? hy, e⟩)
theorem rOne16_ev (ev x0 x1 x2 x3 : Int) (x4 x5 : Bool) (A : Option Addr) (n c : Nat) (l : List (Int × Int × Int × Int × Bool × Bool)) (w : World) (h : Sl w 6 A n c (l.flatMap valC)) (he : ev = oneV x0 x1 x2 x3 x4 x5 (decide (x0 ∈ l.map (·.1)))) :
    Calls Try.prog 99 #[.agg #[.int .i64 x0, .int .u64 x1, .int .i64 x2, .int .i64 x3, .bool x4, .bool x5], .slice A n c] w fun e w' => e = .returned (.int .i64 ev) ∧ Ext w w' := by
  have h := rOne16_any x0 x1 x2 x3 x4 x5 A n c l w h
  rw [fndV_mem, ← he] at h
  exact h
set_option maxRecDepth 100000 in
set_option maxHeartbeats 2000000 in
theorem rCheck16_any (A : Option Addr) (n c : Nat) (l : List (Int × Int × Int × Int × Bool × Bool)) (w : World) (h : Sl w 6 A n c (l.flatMap valC)) :
    Calls Try.prog 38 #[.slice A n c] w fun e w' => e = .returned (.tuple #[.int .i64 (chkV l).1, .int .i64 (chkV l).2]) ∧ Ext w w' := by
  have hl := h.rlen valC_len (by decide)
  have s1 := h.small
  have hnc : n ≤ c := h.2.1
  have HS := Lib.hid h
  have HL := Lib.hid hl
  obtain ⟨⟨f1, f2⟩, hF⟩ : ∃ F, F = chkV l := ⟨_, rfl⟩
  rw [← hF]
  have HF := Lib.hid hF
  by_cases h32 : 32 < l.length
  · have hff : (f1, f2) = (4, 32) := by rw [hF]; exact chkV_long h32
    obtain ⟨rfl, rfl⟩ := Prod.mk.inj hff
    have e0 : (n : Int) > 32 := by omega
    clear h hl hF hff h32
    go_enter Try.func38, Try.ntmps38
    go_wp2
    refine bodyPost_ret (v := .tuple #[.int .i64 4, .int .i64 32]) (by simp [results, Try.results38]; try rfl) rfl ⟨rfl, Ext.refl _⟩
  have e0 : ¬ (n : Int) > 32 := by omega
  have HN := Lib.hid h32
  clear h hl hF h32
  go_enter Try.func38, Try.ntmps38
  go_wp2
  go_loopg [4] n (fun gh i wx => gh ≤ n ∧ i = .int .i64 ((n - gh : Nat) : Int) ∧ Hid (∀ j, j < n - gh → badV l j = 0) ∧ Ext w wx)
  case atStart => exact ⟨Nat.le_refl _, by simp, Lib.hid (by intro j hj; omega), Ext.refl _⟩
  case round =>
    obtain ⟨hg, hi, hp, hx⟩ := hrel
    obtain ⟨k, hk⟩ : ∃ k, k = n - gk := ⟨_, rfl⟩
    rw [← hk] at hi hp
    subst hi
    have XR := Lib.hid hx
    by_cases hz : gk = 0
    · have hkn : ¬ (k : Int) < n := by omega
      have hff : (f1, f2) = (0, 0) := by
        rw [HF.out]
        exact chkV_ok HN.out (fun j hj => hp.out j (by have := HL.out; omega))
      obtain ⟨rfl, rfl⟩ := Prod.mk.inj hff
      clear hx hk hg hz hff
      go_wp2
      refine bodyPost_ret (v := .tuple #[.int .i64 0, .int .i64 0]) (by simp [results, Try.results38]; try rfl) rfl ⟨rfl, XR.out⟩
    · have HT := Lib.hid ((HS.out.rtake (k := k) (by omega)).ext hx)
      have hkc : (k : Int) ≤ c := by omega
      have hkc2 : k ≤ c := by omega
      have hrm := Ext.size hx
      have hkn : (k : Int) < n := by omega
      have hk1 : k < l.length := by have := HL.out; omega
      obtain ⟨b1, o1, rfl, hb1, hc1⟩ := HS.out.rec_ valC_len (show 0 < n from by omega)
      have x_0 := XR.out.has (hc1 k _ (List.getElem?_eq_getElem hk1) 0 _ rfl)
      have x_1 := XR.out.has (hc1 k _ (List.getElem?_eq_getElem hk1) 1 _ rfl)
      have x_2 := XR.out.has (hc1 k _ (List.getElem?_eq_getElem hk1) 2 _ rfl)
      have x_3 := XR.out.has (hc1 k _ (List.getElem?_eq_getElem hk1) 3 _ rfl)
      have x_4 := XR.out.has (hc1 k _ (List.getElem?_eq_getElem hk1) 4 _ rfl)
      have x_5 := XR.out.has (hc1 k _ (List.getElem?_eq_getElem hk1) 5 _ rfl)
      obtain ⟨x, hxx⟩ : ∃ x, x = l[k] := ⟨_, rfl⟩
      have hlk : l[k]? = some x := by rw [hxx]; exact List.getElem?_eq_getElem hk1
      rw [← hxx] at x_0 x_1 x_2 x_3 x_4 x_5
      obtain ⟨x0, x1, x2, x3, x4, x5⟩ := x
      simp only at x_0 x_1 x_2 x_3 x_4 x_5
      rw [Nat.add_zero] at x_0
      rw [← Nat.add_assoc] at x_1 x_2 x_3 x_4 x_5
      have HQ := Lib.hid hlk
      have HK := Lib.hid (And.intro hk (And.intro hg hz))
      obtain ⟨ev, hev⟩ : ∃ e, e = oneV x0 x1 x2 x3 x4 x5 (decide (x0 ∈ (l.take k).map (·.1))) := ⟨_, rfl⟩
      have hbv : badV l k = ev := by unfold badV; rw [hlk]; exact hev.symm
      have HEV := Lib.hid hev
      have HBV := Lib.hid hbv
      by_cases hE : ev = 0
      · subst hE
        clear hx hk hg hz hc1 hxx hk1 hlk hev hbv
        go_wp2_with fail
        refine wp_region_held_drew (S := fun w' => w'.cell? ⟨b1, o1 + k * 6, none⟩ = some (.int .i64 x0) ∧ w'.cell? ⟨b1, o1 + k * 6 + 1, none⟩ = some (.int .u64 x1) ∧ w'.cell? ⟨b1, o1 + k * 6 + 2, none⟩ = some (.int .i64 x2) ∧ w'.cell? ⟨b1, o1 + k * 6 + 3, none⟩ = some (.int .i64 x3) ∧ w'.cell? ⟨b1, o1 + k * 6 + 4, none⟩ = some (.bool x4) ∧ w'.cell? ⟨b1, o1 + k * 6 + 5, none⟩ = some (.bool x5)) (by kernel_rfl) (by first | exact ⟨x_0, x_1, x_2, x_3, x_4, x_5⟩ | (simp [go_sem, World.cell?_alloc_past, x_0, x_1, x_2, x_3, x_4, x_5]; done)) (fun hHeld => ?_)
        (refine' take_in 0 rfl (by kernel_rfl) (by kernel_rfl) (by kernel_rfl) (fun _ _ _ h => h) (by rfl) (by assumption) ?_ ?_; rotate_left; focus (intro w hSw; (try dsimp only at hSw); go_simp; try with_reducible rfl)); try simp only [Act.put, List.setIfInBounds_toArray, List.set_cons_zero, List.set_cons_succ]
        (refine' take_in 1 rfl (by kernel_rfl) (by kernel_rfl) (by kernel_rfl) (fun _ _ _ h => h) (by rfl) (by assumption) ?_ ?_; rotate_left; focus (intro w hSw; (try dsimp only at hSw); go_simp; try with_reducible rfl)); try simp only [Act.put, List.setIfInBounds_toArray, List.set_cons_zero, List.set_cons_succ]
        (refine' take_in 2 rfl (by kernel_rfl) (by kernel_rfl) (by kernel_rfl) (fun _ _ _ h => h) (by rfl) (by assumption) ?_ ?_; rotate_left; focus (intro w hSw; (try dsimp only at hSw); go_simp; try with_reducible rfl)); try simp only [Act.put, List.setIfInBounds_toArray, List.set_cons_zero, List.set_cons_succ]
        (refine' take_in 3 rfl (by kernel_rfl) (by kernel_rfl) (by kernel_rfl) (fun _ _ _ h => h) (by rfl) (by assumption) ?_ ?_; rotate_left; focus (intro w hSw; (try dsimp only at hSw); go_simp; try with_reducible rfl)); try simp only [Act.put, List.setIfInBounds_toArray, List.set_cons_zero, List.set_cons_succ]
        (refine' take_in 4 rfl (by kernel_rfl) (by kernel_rfl) (by kernel_rfl) (fun _ _ _ h => h) (by rfl) (by assumption) ?_ ?_; rotate_left; focus (intro w hSw; (try dsimp only at hSw); go_simp; try with_reducible rfl)); try simp only [Act.put, List.setIfInBounds_toArray, List.set_cons_zero, List.set_cons_succ]
        (refine' take_in 5 rfl (by kernel_rfl) (by kernel_rfl) (by kernel_rfl) (fun _ _ _ h => h) (by rfl) (by assumption) ?_ ?_; rotate_left; focus (intro w hSw; (try dsimp only at hSw); go_simp; try with_reducible rfl)); try simp only [Act.put, List.setIfInBounds_toArray, List.set_cons_zero, List.set_cons_succ]
        (refine' take_in 6 rfl (by kernel_rfl) (by kernel_rfl) (by kernel_rfl) (fun _ _ _ h => h) (by rfl) (by assumption) ?_ ?_; rotate_left; focus (intro w hSw; (try dsimp only at hSw); go_simp; try with_reducible rfl)); try simp only [Act.put, List.setIfInBounds_toArray, List.set_cons_zero, List.set_cons_succ]
        refine' next_in 7 rfl (by kernel_rfl) (by rfl) (fun K hK => ?_)
        go_simp
        (with_reducible refine (rOne16_ev 0 x0 x1 x2 x3 x4 x5 (some ⟨b1, o1, none⟩) k c (l.take k) _ (HT.out.ext (by repeat (first | with_reducible exact Ext.refl _ | with_reducible refine Ext.drew ?_ | with_reducible refine Ext.drewN ?_ _ | with_reducible refine Ext.alloc ?_ _ | with_reducible refine Ext.setCell ?_ (by first | omega | (simp; done) | (simp; omega)) _))) HEV.out).mono ?_)
        rintro e w11 ⟨rfl, hx11⟩
        replace x_0 : w11.cell? ⟨b1, o1 + k * 6, none⟩ = some (.int .i64 x0) := hx11.has (by first | exact x_0 | (simp [go_sem, World.cell?_alloc_past, x_0, x_1, x_2, x_3, x_4, x_5]; done))
        replace x_1 : w11.cell? ⟨b1, o1 + k * 6 + 1, none⟩ = some (.int .u64 x1) := hx11.has (by first | exact x_1 | (simp [go_sem, World.cell?_alloc_past, x_0, x_1, x_2, x_3, x_4, x_5]; done))
        replace x_2 : w11.cell? ⟨b1, o1 + k * 6 + 2, none⟩ = some (.int .i64 x2) := hx11.has (by first | exact x_2 | (simp [go_sem, World.cell?_alloc_past, x_0, x_1, x_2, x_3, x_4, x_5]; done))
        replace x_3 : w11.cell? ⟨b1, o1 + k * 6 + 3, none⟩ = some (.int .i64 x3) := hx11.has (by first | exact x_3 | (simp [go_sem, World.cell?_alloc_past, x_0, x_1, x_2, x_3, x_4, x_5]; done))
        replace x_4 : w11.cell? ⟨b1, o1 + k * 6 + 4, none⟩ = some (.bool x4) := hx11.has (by first | exact x_4 | (simp [go_sem, World.cell?_alloc_past, x_0, x_1, x_2, x_3, x_4, x_5]; done))
        replace x_5 : w11.cell? ⟨b1, o1 + k * 6 + 5, none⟩ = some (.bool x5) := hx11.has (by first | exact x_5 | (simp [go_sem, World.cell?_alloc_past, x_0, x_1, x_2, x_3, x_4, x_5]; done))
        have z11 := hx11.size
        try simp at z11
        have rx : b1 < w11.heap.size := by omega
        have rxa : b1 < w11.heap.size + 1 := by omega
        have rxb : b1 < w11.heap.size + 1 + 1 := by omega
        have rxc : b1 < w11.heap.size + 1 + 1 + 1 := by omega
        have rxn : ¬ b1 = w11.heap.size := by omega
        replace HT := Lib.hid (HT.out.ext (Ext.trans (by repeat (first | with_reducible exact Ext.refl _ | with_reducible refine Ext.drew ?_ | with_reducible refine Ext.drewN ?_ _ | with_reducible refine Ext.alloc ?_ _ | with_reducible refine Ext.setCell ?_ (by first | omega | (simp; done) | (simp; omega)) _)) hx11))
        have X11 : Hid (Ext w w11) := Lib.hid (Ext.trans (by repeat (first | with_reducible exact XR.out | with_reducible refine Ext.drew ?_ | with_reducible refine Ext.drewN ?_ _ | with_reducible refine Ext.alloc ?_ _ | with_reducible refine Ext.setCell ?_ (by first | omega | (simp; done) | (simp; omega)) _)) hx11)
        clear XR hx11 z11
        refine hK.out _ _ (by (first | exact ⟨x_0, x_1, x_2, x_3, x_4, x_5⟩ | (simp [go_sem, World.cell?_alloc_past, x_0, x_1, x_2, x_3, x_4, x_5, rx, rxa, rxb, rxc, rxn]; done))) (fun hHeld => ?_); clear hK K; try simp only [Act.put, List.setIfInBounds_toArray, List.set_cons_zero, List.set_cons_succ]
        (refine' take_in 8 rfl (by kernel_rfl) (by kernel_rfl) (by kernel_rfl) (fun _ _ _ h => h) (by rfl) (by assumption) ?_ ?_; rotate_left; focus (intro w hSw; (try dsimp only at hSw); go_simp; try with_reducible rfl)); try simp only [Act.put, List.setIfInBounds_toArray, List.set_cons_zero, List.set_cons_succ]
        refine wpAnyH_done (by kernel_rfl) ?_ _
        go_wp2_with fail
        go_roundg (gk - 1)
        case measure => have := HK.out; omega
        case rel =>
          refine ⟨by have := HK.out; omega, num_eq (by have := HK.out; omega), Lib.hid ?_, (by repeat (first | with_reducible exact X11.out | with_reducible refine Ext.drew ?_ | with_reducible refine Ext.drewN ?_ _ | with_reducible refine Ext.alloc ?_ _ | with_reducible refine Ext.setCell ?_ (by first | omega | (simp; done) | (simp; omega)) _))⟩
          intro j hj
          rcases Nat.lt_or_ge j k with h | h
          · exact hp.out j h
          · have e : j = k := by have := HK.out; omega
            subst e
            exact HBV.out
      · have hff : (f1, f2) = (ev, ((k : Nat) : Int)) := by
          rw [HF.out, ← hbv]
          exact chkV_bad HN.out hk1 (by rw [hbv]; exact hE) hp.out
        obtain ⟨rfl, rfl⟩ := Prod.mk.inj hff
        have e7 : (f1 != 0) = true := by simpa using hE
        have e8 : (f1 == 0) = false := by simpa using hE
        clear hx hk hg hz hc1 hxx hk1 hlk hev hbv hE hff
        go_wp2_with fail
        refine wp_region_held_drew (S := fun w' => w'.cell? ⟨b1, o1 + k * 6, none⟩ = some (.int .i64 x0) ∧ w'.cell? ⟨b1, o1 + k * 6 + 1, none⟩ = some (.int .u64 x1) ∧ w'.cell? ⟨b1, o1 + k * 6 + 2, none⟩ = some (.int .i64 x2) ∧ w'.cell? ⟨b1, o1 + k * 6 + 3, none⟩ = some (.int .i64 x3) ∧ w'.cell? ⟨b1, o1 + k * 6 + 4, none⟩ = some (.bool x4) ∧ w'.cell? ⟨b1, o1 + k * 6 + 5, none⟩ = some (.bool x5)) (by kernel_rfl) (by first | exact ⟨x_0, x_1, x_2, x_3, x_4, x_5⟩ | (simp [go_sem, World.cell?_alloc_past, x_0, x_1, x_2, x_3, x_4, x_5]; done)) (fun hHeld => ?_)
        (refine' take_in 0 rfl (by kernel_rfl) (by kernel_rfl) (by kernel_rfl) (fun _ _ _ h => h) (by rfl) (by assumption) ?_ ?_; rotate_left; focus (intro w hSw; (try dsimp only at hSw); go_simp; try with_reducible rfl)); try simp only [Act.put, List.setIfInBounds_toArray, List.set_cons_zero, List.set_cons_succ]
        (refine' take_in 1 rfl (by kernel_rfl) (by kernel_rfl) (by kernel_rfl) (fun _ _ _ h => h) (by rfl) (by assumption) ?_ ?_; rotate_left; focus (intro w hSw; (try dsimp only at hSw); go_simp; try with_reducible rfl)); try simp only [Act.put, List.setIfInBounds_toArray, List.set_cons_zero, List.set_cons_succ]
        (refine' take_in 2 rfl (by kernel_rfl) (by kernel_rfl) (by kernel_rfl) (fun _ _ _ h => h) (by rfl) (by assumption) ?_ ?_; rotate_left; focus (intro w hSw; (try dsimp only at hSw); go_simp; try with_reducible rfl)); try simp only [Act.put, List.setIfInBounds_toArray, List.set_cons_zero, List.set_cons_succ]
        (refine' take_in 3 rfl (by kernel_rfl) (by kernel_rfl) (by kernel_rfl) (fun _ _ _ h => h) (by rfl) (by assumption) ?_ ?_; rotate_left; focus (intro w hSw; (try dsimp only at hSw); go_simp; try with_reducible rfl)); try simp only [Act.put, List.setIfInBounds_toArray, List.set_cons_zero, List.set_cons_succ]
        (refine' take_in 4 rfl (by kernel_rfl) (by kernel_rfl) (by kernel_rfl) (fun _ _ _ h => h) (by rfl) (by assumption) ?_ ?_; rotate_left; focus (intro w hSw; (try dsimp only at hSw); go_simp; try with_reducible rfl)); try simp only [Act.put, List.setIfInBounds_toArray, List.set_cons_zero, List.set_cons_succ]
        (refine' take_in 5 rfl (by kernel_rfl) (by kernel_rfl) (by kernel_rfl) (fun _ _ _ h => h) (by rfl) (by assumption) ?_ ?_; rotate_left; focus (intro w hSw; (try dsimp only at hSw); go_simp; try with_reducible rfl)); try simp only [Act.put, List.setIfInBounds_toArray, List.set_cons_zero, List.set_cons_succ]
        (refine' take_in 6 rfl (by kernel_rfl) (by kernel_rfl) (by kernel_rfl) (fun _ _ _ h => h) (by rfl) (by assumption) ?_ ?_; rotate_left; focus (intro w hSw; (try dsimp only at hSw); go_simp; try with_reducible rfl)); try simp only [Act.put, List.setIfInBounds_toArray, List.set_cons_zero, List.set_cons_succ]
        refine' next_in 7 rfl (by kernel_rfl) (by rfl) (fun K hK => ?_)
        go_simp
        (with_reducible refine (rOne16_ev f1 x0 x1 x2 x3 x4 x5 (some ⟨b1, o1, none⟩) k c (l.take k) _ (HT.out.ext (by repeat (first | with_reducible exact Ext.refl _ | with_reducible refine Ext.drew ?_ | with_reducible refine Ext.drewN ?_ _ | with_reducible refine Ext.alloc ?_ _ | with_reducible refine Ext.setCell ?_ (by first | omega | (simp; done) | (simp; omega)) _))) HEV.out).mono ?_)
        rintro e w11 ⟨rfl, hx11⟩
        replace x_0 : w11.cell? ⟨b1, o1 + k * 6, none⟩ = some (.int .i64 x0) := hx11.has (by first | exact x_0 | (simp [go_sem, World.cell?_alloc_past, x_0, x_1, x_2, x_3, x_4, x_5]; done))
        replace x_1 : w11.cell? ⟨b1, o1 + k * 6 + 1, none⟩ = some (.int .u64 x1) := hx11.has (by first | exact x_1 | (simp [go_sem, World.cell?_alloc_past, x_0, x_1, x_2, x_3, x_4, x_5]; done))
        replace x_2 : w11.cell? ⟨b1, o1 + k * 6 + 2, none⟩ = some (.int .i64 x2) := hx11.has (by first | exact x_2 | (simp [go_sem, World.cell?_alloc_past, x_0, x_1, x_2, x_3, x_4, x_5]; done))
        replace x_3 : w11.cell? ⟨b1, o1 + k * 6 + 3, none⟩ = some (.int .i64 x3) := hx11.has (by first | exact x_3 | (simp [go_sem, World.cell?_alloc_past, x_0, x_1, x_2, x_3, x_4, x_5]; done))
        replace x_4 : w11.cell? ⟨b1, o1 + k * 6 + 4, none⟩ = some (.bool x4) := hx11.has (by first | exact x_4 | (simp [go_sem, World.cell?_alloc_past, x_0, x_1, x_2, x_3, x_4, x_5]; done))
        replace x_5 : w11.cell? ⟨b1, o1 + k * 6 + 5, none⟩ = some (.bool x5) := hx11.has (by first | exact x_5 | (simp [go_sem, World.cell?_alloc_past, x_0, x_1, x_2, x_3, x_4, x_5]; done))
        have z11 := hx11.size
        try simp at z11
        have rx : b1 < w11.heap.size := by omega
        have rxa : b1 < w11.heap.size + 1 := by omega
        have rxb : b1 < w11.heap.size + 1 + 1 := by omega
        have rxc : b1 < w11.heap.size + 1 + 1 + 1 := by omega
        have rxn : ¬ b1 = w11.heap.size := by omega
        replace HT := Lib.hid (HT.out.ext (Ext.trans (by repeat (first | with_reducible exact Ext.refl _ | with_reducible refine Ext.drew ?_ | with_reducible refine Ext.drewN ?_ _ | with_reducible refine Ext.alloc ?_ _ | with_reducible refine Ext.setCell ?_ (by first | omega | (simp; done) | (simp; omega)) _)) hx11))
        have X11 : Hid (Ext w w11) := Lib.hid (Ext.trans (by repeat (first | with_reducible exact XR.out | with_reducible refine Ext.drew ?_ | with_reducible refine Ext.drewN ?_ _ | with_reducible refine Ext.alloc ?_ _ | with_reducible refine Ext.setCell ?_ (by first | omega | (simp; done) | (simp; omega)) _)) hx11)
        clear XR hx11 z11
        refine hK.out _ _ (by (first | exact ⟨x_0, x_1, x_2, x_3, x_4, x_5⟩ | (simp [go_sem, World.cell?_alloc_past, x_0, x_1, x_2, x_3, x_4, x_5, rx, rxa, rxb, rxc, rxn]; done))) (fun hHeld => ?_); clear hK K; try simp only [Act.put, List.setIfInBounds_toArray, List.set_cons_zero, List.set_cons_succ]
        (refine' take_in 8 rfl (by kernel_rfl) (by kernel_rfl) (by kernel_rfl) (fun _ _ _ h => h) (by rfl) (by assumption) ?_ ?_; rotate_left; focus (intro w hSw; (try dsimp only at hSw); go_simp; try with_reducible rfl)); try simp only [Act.put, List.setIfInBounds_toArray, List.set_cons_zero, List.set_cons_succ]
        refine wpAnyH_done (by kernel_rfl) ?_ _
        go_wp2_with fail
        refine bodyPost_ret (v := .tuple #[.int .i64 f1, .int .i64 (k : Int)]) (by simp [results, Try.results38]; try rfl) rfl ⟨rfl, ?_⟩
        exact (by repeat (first | with_reducible exact X11.out | with_reducible refine Ext.drew ?_ | with_reducible refine Ext.drewN ?_ _ | with_reducible refine Ext.alloc ?_ _ | with_reducible refine Ext.setCell ?_ (by first | omega | (simp; done) | (simp; omega)) _))
theorem rCheck16_ev (A : Option Addr) (n c : Nat) (l : List (Int × Int × Int × Int × Bool × Bool)) (f1 f2 : Int) (w : World) (h : Sl w 6 A n c (l.flatMap valC)) (hf : (f1, f2) = chkV l) :
    Calls Try.prog 38 #[.slice A n c] w fun e w' => e = .returned (.tuple #[.int .i64 f1, .int .i64 f2]) ∧ Ext w w' := by
  have h := rCheck16_any A n c l w h
  rw [← hf] at h
  exact h
set_option maxRecDepth 100000 in
theorem rCreate16_chk (A : Option Addr) (n c : Nat) (l : List (Int × Int × Int × Int × Bool × Bool)) (o m f1 f2 fi : Int) (fb : Bool) (w : World) (h : Sl w 6 A n c (l.flatMap valC)) (hf : (f1, f2) = chkV l) (hi : (fi, fb) = fndV l o) (hc : f1 ≠ 0) :
    Calls Try.prog 34 #[.slice A n c, .int .i64 o, .int .u64 m] w (RetV (creV l o m).1 [.int .i64 (creV l o m).2.1, .int .i64 (creV l o m).2.2] w) := by
  have hl := h.rlen valC_len (by decide)
  have s1 := h.small
  have hv : creV l o m = ([], 0, f1) := by
    unfold creV
    rw [← hf, ← hi]
    dsimp only
    rw [if_pos hc]
  rw [hv]
  dsimp only
  have e7 : (f1 != 0) = true := by simpa using hc
  have HS := Lib.hid h
  have HF := Lib.hid hf
  have HI := Lib.hid hi
  clear h hf hi hv hl
  go_enter Try.func34, Try.ntmps34
  go_wp2_with fail
  (with_reducible refine (rCheck16_ev A n c l f1 f2 _ (HS.out.ext (by repeat (first | with_reducible exact Ext.refl _ | with_reducible refine Ext.drew ?_ | with_reducible refine Ext.drewN ?_ _ | with_reducible refine Ext.alloc ?_ _ | with_reducible refine Ext.setCell ?_ (by first | omega | (simp; done) | (simp; omega)) _))) HF.out).mono ?_)
  rintro e w1 ⟨rfl, hx1⟩
  have z1 := hx1.size
  try simp at z1
  replace HS := Lib.hid (HS.out.ext (Ext.trans (by repeat (first | with_reducible exact Ext.refl _ | with_reducible refine Ext.drew ?_ | with_reducible refine Ext.drewN ?_ _ | with_reducible refine Ext.alloc ?_ _ | with_reducible refine Ext.setCell ?_ (by first | omega | (simp; done) | (simp; omega)) _)) hx1))
  have X1 : Hid (Ext w w1) := Lib.hid (Ext.trans (by repeat (first | with_reducible exact Ext.refl w | with_reducible refine Ext.drew ?_ | with_reducible refine Ext.drewN ?_ _ | with_reducible refine Ext.alloc ?_ _ | with_reducible refine Ext.setCell ?_ (by first | omega | (simp; done) | (simp; omega)) _)) hx1)
  clear hx1 z1
  go_wp2_with fail
  refine bodyPost_ret (v := .tuple #[.slice none 0 0, .int .i64 0, .int .i64 f1]) (by simp [results, Try.results34, go_sem, World.cell?_alloc_past]; try rfl) rfl (RetV.nil (xs := [.int .i64 0, .int .i64 f1]) ?_)
  exact (by repeat (first | with_reducible exact X1.out | with_reducible refine Ext.drew ?_ | with_reducible refine Ext.drewN ?_ _ | with_reducible refine Ext.alloc ?_ _ | with_reducible refine Ext.setCell ?_ (by first | omega | (simp; done) | (simp; omega)) _))
set_option maxRecDepth 100000 in
theorem rCreate16_neg (A : Option Addr) (n c : Nat) (l : List (Int × Int × Int × Int × Bool × Bool)) (o m f1 f2 fi : Int) (fb : Bool) (w : World) (h : Sl w 6 A n c (l.flatMap valC)) (hf : (f1, f2) = chkV l) (hi : (fi, fb) = fndV l o) (hc : f1 = 0) (ho : o < 0) :
    Calls Try.prog 34 #[.slice A n c, .int .i64 o, .int .u64 m] w (RetV (creV l o m).1 [.int .i64 (creV l o m).2.1, .int .i64 (creV l o m).2.2] w) := by
  have hl := h.rlen valC_len (by decide)
  have s1 := h.small
  have hv : creV l o m = ([], 0, 3) := by
    unfold creV
    rw [← hf, ← hi]
    dsimp only
    rw [if_neg (by simpa using hc), if_pos (Or.inl ho)]
  rw [hv]
  dsimp only
  subst hc
  have HS := Lib.hid h
  have HF := Lib.hid hf
  have HI := Lib.hid hi
  clear h hf hi hv hl
  go_enter Try.func34, Try.ntmps34
  go_wp2_with fail
  (with_reducible refine (rCheck16_ev A n c l 0 f2 _ (HS.out.ext (by repeat (first | with_reducible exact Ext.refl _ | with_reducible refine Ext.drew ?_ | with_reducible refine Ext.drewN ?_ _ | with_reducible refine Ext.alloc ?_ _ | with_reducible refine Ext.setCell ?_ (by first | omega | (simp; done) | (simp; omega)) _))) HF.out).mono ?_)
  rintro e w1 ⟨rfl, hx1⟩
  have z1 := hx1.size
  try simp at z1
  replace HS := Lib.hid (HS.out.ext (Ext.trans (by repeat (first | with_reducible exact Ext.refl _ | with_reducible refine Ext.drew ?_ | with_reducible refine Ext.drewN ?_ _ | with_reducible refine Ext.alloc ?_ _ | with_reducible refine Ext.setCell ?_ (by first | omega | (simp; done) | (simp; omega)) _)) hx1))
  have X1 : Hid (Ext w w1) := Lib.hid (Ext.trans (by repeat (first | with_reducible exact Ext.refl w | with_reducible refine Ext.drew ?_ | with_reducible refine Ext.drewN ?_ _ | with_reducible refine Ext.alloc ?_ _ | with_reducible refine Ext.setCell ?_ (by first | omega | (simp; done) | (simp; omega)) _)) hx1)
  clear hx1 z1
  go_wp2_with fail
  (with_reducible refine (rFind16_ev A n c l o fi fb _ (HS.out.ext (by repeat (first | with_reducible exact Ext.refl _ | with_reducible refine Ext.drew ?_ | with_reducible refine Ext.drewN ?_ _ | with_reducible refine Ext.alloc ?_ _ | with_reducible refine Ext.setCell ?_ (by first | omega | (simp; done) | (simp; omega)) _))) HI.out).mono ?_)
  rintro e w2 ⟨rfl, hx2⟩
  have z2 := hx2.size
  try simp at z2
  replace HS := Lib.hid (HS.out.ext (Ext.trans (by repeat (first | with_reducible exact Ext.refl _ | with_reducible refine Ext.drew ?_ | with_reducible refine Ext.drewN ?_ _ | with_reducible refine Ext.alloc ?_ _ | with_reducible refine Ext.setCell ?_ (by first | omega | (simp; done) | (simp; omega)) _)) hx2))
  have X2 : Hid (Ext w w2) := Lib.hid (Ext.trans (by repeat (first | with_reducible exact X1.out | with_reducible refine Ext.drew ?_ | with_reducible refine Ext.drewN ?_ _ | with_reducible refine Ext.alloc ?_ _ | with_reducible refine Ext.setCell ?_ (by first | omega | (simp; done) | (simp; omega)) _)) hx2)
  clear X1 hx2 z2
  go_wp2_with fail
  refine bodyPost_ret (v := .tuple #[.slice none 0 0, .int .i64 0, .int .i64 3]) (by simp [results, Try.results34, go_sem, World.cell?_alloc_past]; try rfl) rfl (RetV.nil (xs := [.int .i64 0, .int .i64 3]) ?_)
  exact (by repeat (first | with_reducible exact X2.out | with_reducible refine Ext.drew ?_ | with_reducible refine Ext.drewN ?_ _ | with_reducible refine Ext.alloc ?_ _ | with_reducible refine Ext.setCell ?_ (by first | omega | (simp; done) | (simp; omega)) _))
set_option maxRecDepth 100000 in
theorem rCreate16_big (A : Option Addr) (n c : Nat) (l : List (Int × Int × Int × Int × Bool × Bool)) (o m f1 f2 fi : Int) (fb : Bool) (w : World) (h : Sl w 6 A n c (l.flatMap valC)) (hf : (f1, f2) = chkV l) (hi : (fi, fb) = fndV l o) (hc : f1 = 0) (ho : o ≥ 64) :
    Calls Try.prog 34 #[.slice A n c, .int .i64 o, .int .u64 m] w (RetV (creV l o m).1 [.int .i64 (creV l o m).2.1, .int .i64 (creV l o m).2.2] w) := by
  have hl := h.rlen valC_len (by decide)
  have s1 := h.small
  have hv : creV l o m = ([], 0, 3) := by
    unfold creV
    rw [← hf, ← hi]
    dsimp only
    rw [if_neg (by simpa using hc), if_pos (Or.inr ho)]
  rw [hv]
  dsimp only
  subst hc
  have ho2 : ¬ o < 0 := by omega
  have HS := Lib.hid h
  have HF := Lib.hid hf
  have HI := Lib.hid hi
  clear h hf hi hv hl
  go_enter Try.func34, Try.ntmps34
  go_wp2_with fail
  (with_reducible refine (rCheck16_ev A n c l 0 f2 _ (HS.out.ext (by repeat (first | with_reducible exact Ext.refl _ | with_reducible refine Ext.drew ?_ | with_reducible refine Ext.drewN ?_ _ | with_reducible refine Ext.alloc ?_ _ | with_reducible refine Ext.setCell ?_ (by first | omega | (simp; done) | (simp; omega)) _))) HF.out).mono ?_)
  rintro e w1 ⟨rfl, hx1⟩
  have z1 := hx1.size
  try simp at z1
  replace HS := Lib.hid (HS.out.ext (Ext.trans (by repeat (first | with_reducible exact Ext.refl _ | with_reducible refine Ext.drew ?_ | with_reducible refine Ext.drewN ?_ _ | with_reducible refine Ext.alloc ?_ _ | with_reducible refine Ext.setCell ?_ (by first | omega | (simp; done) | (simp; omega)) _)) hx1))
  have X1 : Hid (Ext w w1) := Lib.hid (Ext.trans (by repeat (first | with_reducible exact Ext.refl w | with_reducible refine Ext.drew ?_ | with_reducible refine Ext.drewN ?_ _ | with_reducible refine Ext.alloc ?_ _ | with_reducible refine Ext.setCell ?_ (by first | omega | (simp; done) | (simp; omega)) _)) hx1)
  clear hx1 z1
  go_wp2_with fail
  (with_reducible refine (rFind16_ev A n c l o fi fb _ (HS.out.ext (by repeat (first | with_reducible exact Ext.refl _ | with_reducible refine Ext.drew ?_ | with_reducible refine Ext.drewN ?_ _ | with_reducible refine Ext.alloc ?_ _ | with_reducible refine Ext.setCell ?_ (by first | omega | (simp; done) | (simp; omega)) _))) HI.out).mono ?_)
  rintro e w2 ⟨rfl, hx2⟩
  have z2 := hx2.size
  try simp at z2
  replace HS := Lib.hid (HS.out.ext (Ext.trans (by repeat (first | with_reducible exact Ext.refl _ | with_reducible refine Ext.drew ?_ | with_reducible refine Ext.drewN ?_ _ | with_reducible refine Ext.alloc ?_ _ | with_reducible refine Ext.setCell ?_ (by first | omega | (simp; done) | (simp; omega)) _)) hx2))
  have X2 : Hid (Ext w w2) := Lib.hid (Ext.trans (by repeat (first | with_reducible exact X1.out | with_reducible refine Ext.drew ?_ | with_reducible refine Ext.drewN ?_ _ | with_reducible refine Ext.alloc ?_ _ | with_reducible refine Ext.setCell ?_ (by first | omega | (simp; done) | (simp; omega)) _)) hx2)
  clear X1 hx2 z2
  go_wp2_with fail
  refine bodyPost_ret (v := .tuple #[.slice none 0 0, .int .i64 0, .int .i64 3]) (by simp [results, Try.results34, go_sem, World.cell?_alloc_past]; try rfl) rfl (RetV.nil (xs := [.int .i64 0, .int .i64 3]) ?_)
  exact (by repeat (first | with_reducible exact X2.out | with_reducible refine Ext.drew ?_ | with_reducible refine Ext.drewN ?_ _ | with_reducible refine Ext.alloc ?_ _ | with_reducible refine Ext.setCell ?_ (by first | omega | (simp; done) | (simp; omega)) _))
set_option maxRecDepth 100000 in
theorem rCreate16_arg (A : Option Addr) (n c : Nat) (l : List (Int × Int × Int × Int × Bool × Bool)) (o m f1 f2 fi : Int) (fb : Bool) (w : World) (h : Sl w 6 A n c (l.flatMap valC)) (hf : (f1, f2) = chkV l) (hi : (fi, fb) = fndV l o) (hc : f1 = 0) (ho : ¬ o < 0) (ho2 : ¬ o ≥ 64) (hm : m = 0) :
    Calls Try.prog 34 #[.slice A n c, .int .i64 o, .int .u64 m] w (RetV (creV l o m).1 [.int .i64 (creV l o m).2.1, .int .i64 (creV l o m).2.2] w) := by
  have hl := h.rlen valC_len (by decide)
  have s1 := h.small
  have hv : creV l o m = ([], 0, 2) := by
    unfold creV
    rw [← hf, ← hi]
    dsimp only
    rw [if_neg (by simpa using hc), if_neg (by omega), if_pos hm]
  rw [hv]
  dsimp only
  subst hc
  subst hm
  have HS := Lib.hid h
  have HF := Lib.hid hf
  have HI := Lib.hid hi
  clear h hf hi hv hl
  go_enter Try.func34, Try.ntmps34
  go_wp2_with fail
  (with_reducible refine (rCheck16_ev A n c l 0 f2 _ (HS.out.ext (by repeat (first | with_reducible exact Ext.refl _ | with_reducible refine Ext.drew ?_ | with_reducible refine Ext.drewN ?_ _ | with_reducible refine Ext.alloc ?_ _ | with_reducible refine Ext.setCell ?_ (by first | omega | (simp; done) | (simp; omega)) _))) HF.out).mono ?_)
  rintro e w1 ⟨rfl, hx1⟩
  have z1 := hx1.size
  try simp at z1
  replace HS := Lib.hid (HS.out.ext (Ext.trans (by repeat (first | with_reducible exact Ext.refl _ | with_reducible refine Ext.drew ?_ | with_reducible refine Ext.drewN ?_ _ | with_reducible refine Ext.alloc ?_ _ | with_reducible refine Ext.setCell ?_ (by first | omega | (simp; done) | (simp; omega)) _)) hx1))
  have X1 : Hid (Ext w w1) := Lib.hid (Ext.trans (by repeat (first | with_reducible exact Ext.refl w | with_reducible refine Ext.drew ?_ | with_reducible refine Ext.drewN ?_ _ | with_reducible refine Ext.alloc ?_ _ | with_reducible refine Ext.setCell ?_ (by first | omega | (simp; done) | (simp; omega)) _)) hx1)
  clear hx1 z1
  go_wp2_with fail
  (with_reducible refine (rFind16_ev A n c l o fi fb _ (HS.out.ext (by repeat (first | with_reducible exact Ext.refl _ | with_reducible refine Ext.drew ?_ | with_reducible refine Ext.drewN ?_ _ | with_reducible refine Ext.alloc ?_ _ | with_reducible refine Ext.setCell ?_ (by first | omega | (simp; done) | (simp; omega)) _))) HI.out).mono ?_)
  rintro e w2 ⟨rfl, hx2⟩
  have z2 := hx2.size
  try simp at z2
  replace HS := Lib.hid (HS.out.ext (Ext.trans (by repeat (first | with_reducible exact Ext.refl _ | with_reducible refine Ext.drew ?_ | with_reducible refine Ext.drewN ?_ _ | with_reducible refine Ext.alloc ?_ _ | with_reducible refine Ext.setCell ?_ (by first | omega | (simp; done) | (simp; omega)) _)) hx2))
  have X2 : Hid (Ext w w2) := Lib.hid (Ext.trans (by repeat (first | with_reducible exact X1.out | with_reducible refine Ext.drew ?_ | with_reducible refine Ext.drewN ?_ _ | with_reducible refine Ext.alloc ?_ _ | with_reducible refine Ext.setCell ?_ (by first | omega | (simp; done) | (simp; omega)) _)) hx2)
  clear X1 hx2 z2
  go_wp2_with fail
  refine bodyPost_ret (v := .tuple #[.slice none 0 0, .int .i64 0, .int .i64 2]) (by simp [results, Try.results34, go_sem, World.cell?_alloc_past]; try rfl) rfl (RetV.nil (xs := [.int .i64 0, .int .i64 2]) ?_)
  exact (by repeat (first | with_reducible exact X2.out | with_reducible refine Ext.drew ?_ | with_reducible refine Ext.drewN ?_ _ | with_reducible refine Ext.alloc ?_ _ | with_reducible refine Ext.setCell ?_ (by first | omega | (simp; done) | (simp; omega)) _))
set_option maxRecDepth 100000 in
theorem rCreate16_dbl (A : Option Addr) (n c : Nat) (l : List (Int × Int × Int × Int × Bool × Bool)) (o m f1 f2 fi : Int) (fb : Bool) (w : World) (h : Sl w 6 A n c (l.flatMap valC)) (hf : (f1, f2) = chkV l) (hi : (fi, fb) = fndV l o) (hc : f1 = 0) (ho : ¬ o < 0) (ho2 : ¬ o ≥ 64) (hm : m ≠ 0) (hb : fb = true) :
    Calls Try.prog 34 #[.slice A n c, .int .i64 o, .int .u64 m] w (RetV (creV l o m).1 [.int .i64 (creV l o m).2.1, .int .i64 (creV l o m).2.2] w) := by
  have hl := h.rlen valC_len (by decide)
  have s1 := h.small
  have hv : creV l o m = ([], 0, 8) := by
    unfold creV
    rw [← hf, ← hi]
    dsimp only
    rw [if_neg (by simpa using hc), if_neg (by omega), if_neg hm, if_pos hb]
  rw [hv]
  dsimp only
  subst hc
  have e6 : (m == 0) = false := by simpa using hm
  subst hb
  have HS := Lib.hid h
  have HF := Lib.hid hf
  have HI := Lib.hid hi
  clear h hf hi hv hl
  go_enter Try.func34, Try.ntmps34
  go_wp2_with fail
  (with_reducible refine (rCheck16_ev A n c l 0 f2 _ (HS.out.ext (by repeat (first | with_reducible exact Ext.refl _ | with_reducible refine Ext.drew ?_ | with_reducible refine Ext.drewN ?_ _ | with_reducible refine Ext.alloc ?_ _ | with_reducible refine Ext.setCell ?_ (by first | omega | (simp; done) | (simp; omega)) _))) HF.out).mono ?_)
  rintro e w1 ⟨rfl, hx1⟩
  have z1 := hx1.size
  try simp at z1
  replace HS := Lib.hid (HS.out.ext (Ext.trans (by repeat (first | with_reducible exact Ext.refl _ | with_reducible refine Ext.drew ?_ | with_reducible refine Ext.drewN ?_ _ | with_reducible refine Ext.alloc ?_ _ | with_reducible refine Ext.setCell ?_ (by first | omega | (simp; done) | (simp; omega)) _)) hx1))
  have X1 : Hid (Ext w w1) := Lib.hid (Ext.trans (by repeat (first | with_reducible exact Ext.refl w | with_reducible refine Ext.drew ?_ | with_reducible refine Ext.drewN ?_ _ | with_reducible refine Ext.alloc ?_ _ | with_reducible refine Ext.setCell ?_ (by first | omega | (simp; done) | (simp; omega)) _)) hx1)
  clear hx1 z1
  go_wp2_with fail
  (with_reducible refine (rFind16_ev A n c l o fi true _ (HS.out.ext (by repeat (first | with_reducible exact Ext.refl _ | with_reducible refine Ext.drew ?_ | with_reducible refine Ext.drewN ?_ _ | with_reducible refine Ext.alloc ?_ _ | with_reducible refine Ext.setCell ?_ (by first | omega | (simp; done) | (simp; omega)) _))) HI.out).mono ?_)
  rintro e w2 ⟨rfl, hx2⟩
  have z2 := hx2.size
  try simp at z2
  replace HS := Lib.hid (HS.out.ext (Ext.trans (by repeat (first | with_reducible exact Ext.refl _ | with_reducible refine Ext.drew ?_ | with_reducible refine Ext.drewN ?_ _ | with_reducible refine Ext.alloc ?_ _ | with_reducible refine Ext.setCell ?_ (by first | omega | (simp; done) | (simp; omega)) _)) hx2))
  have X2 : Hid (Ext w w2) := Lib.hid (Ext.trans (by repeat (first | with_reducible exact X1.out | with_reducible refine Ext.drew ?_ | with_reducible refine Ext.drewN ?_ _ | with_reducible refine Ext.alloc ?_ _ | with_reducible refine Ext.setCell ?_ (by first | omega | (simp; done) | (simp; omega)) _)) hx2)
  clear X1 hx2 z2
  go_wp2_with fail
  refine bodyPost_ret (v := .tuple #[.slice none 0 0, .int .i64 0, .int .i64 8]) (by simp [results, Try.results34, go_sem, World.cell?_alloc_past]; try rfl) rfl (RetV.nil (xs := [.int .i64 0, .int .i64 8]) ?_)
  exact (by repeat (first | with_reducible exact X2.out | with_reducible refine Ext.drew ?_ | with_reducible refine Ext.drewN ?_ _ | with_reducible refine Ext.alloc ?_ _ | with_reducible refine Ext.setCell ?_ (by first | omega | (simp; done) | (simp; omega)) _))
set_option maxRecDepth 100000 in
theorem rCreate16_full (A : Option Addr) (n c : Nat) (l : List (Int × Int × Int × Int × Bool × Bool)) (o m f1 f2 fi : Int) (fb : Bool) (w : World) (h : Sl w 6 A n c (l.flatMap valC)) (hf : (f1, f2) = chkV l) (hi : (fi, fb) = fndV l o) (hc : f1 = 0) (ho : ¬ o < 0) (ho2 : ¬ o ≥ 64) (hm : m ≠ 0) (hb : fb = false) (hg : 32 ≤ l.length) :
    Calls Try.prog 34 #[.slice A n c, .int .i64 o, .int .u64 m] w (RetV (creV l o m).1 [.int .i64 (creV l o m).2.1, .int .i64 (creV l o m).2.2] w) := by
  have hl := h.rlen valC_len (by decide)
  have s1 := h.small
  have hv : creV l o m = ([], 0, 7) := by
    unfold creV
    rw [← hf, ← hi]
    dsimp only
    rw [if_neg (by simpa using hc), if_neg (by omega), if_neg hm, if_neg (by simp [hb]), if_pos hg]
  rw [hv]
  dsimp only
  subst hc
  have e6 : (m == 0) = false := by simpa using hm
  subst hb
  have hg2 : (n : Int) ≥ 32 := by omega
  have HS := Lib.hid h
  have HF := Lib.hid hf
  have HI := Lib.hid hi
  clear h hf hi hv hl
  go_enter Try.func34, Try.ntmps34
  go_wp2_with fail
  (with_reducible refine (rCheck16_ev A n c l 0 f2 _ (HS.out.ext (by repeat (first | with_reducible exact Ext.refl _ | with_reducible refine Ext.drew ?_ | with_reducible refine Ext.drewN ?_ _ | with_reducible refine Ext.alloc ?_ _ | with_reducible refine Ext.setCell ?_ (by first | omega | (simp; done) | (simp; omega)) _))) HF.out).mono ?_)
  rintro e w1 ⟨rfl, hx1⟩
  have z1 := hx1.size
  try simp at z1
  replace HS := Lib.hid (HS.out.ext (Ext.trans (by repeat (first | with_reducible exact Ext.refl _ | with_reducible refine Ext.drew ?_ | with_reducible refine Ext.drewN ?_ _ | with_reducible refine Ext.alloc ?_ _ | with_reducible refine Ext.setCell ?_ (by first | omega | (simp; done) | (simp; omega)) _)) hx1))
  have X1 : Hid (Ext w w1) := Lib.hid (Ext.trans (by repeat (first | with_reducible exact Ext.refl w | with_reducible refine Ext.drew ?_ | with_reducible refine Ext.drewN ?_ _ | with_reducible refine Ext.alloc ?_ _ | with_reducible refine Ext.setCell ?_ (by first | omega | (simp; done) | (simp; omega)) _)) hx1)
  clear hx1 z1
  go_wp2_with fail
  (with_reducible refine (rFind16_ev A n c l o fi false _ (HS.out.ext (by repeat (first | with_reducible exact Ext.refl _ | with_reducible refine Ext.drew ?_ | with_reducible refine Ext.drewN ?_ _ | with_reducible refine Ext.alloc ?_ _ | with_reducible refine Ext.setCell ?_ (by first | omega | (simp; done) | (simp; omega)) _))) HI.out).mono ?_)
  rintro e w2 ⟨rfl, hx2⟩
  have z2 := hx2.size
  try simp at z2
  replace HS := Lib.hid (HS.out.ext (Ext.trans (by repeat (first | with_reducible exact Ext.refl _ | with_reducible refine Ext.drew ?_ | with_reducible refine Ext.drewN ?_ _ | with_reducible refine Ext.alloc ?_ _ | with_reducible refine Ext.setCell ?_ (by first | omega | (simp; done) | (simp; omega)) _)) hx2))
  have X2 : Hid (Ext w w2) := Lib.hid (Ext.trans (by repeat (first | with_reducible exact X1.out | with_reducible refine Ext.drew ?_ | with_reducible refine Ext.drewN ?_ _ | with_reducible refine Ext.alloc ?_ _ | with_reducible refine Ext.setCell ?_ (by first | omega | (simp; done) | (simp; omega)) _)) hx2)
  clear X1 hx2 z2
  go_wp2_with fail
  refine bodyPost_ret (v := .tuple #[.slice none 0 0, .int .i64 0, .int .i64 7]) (by simp [results, Try.results34, go_sem, World.cell?_alloc_past]; try rfl) rfl (RetV.nil (xs := [.int .i64 0, .int .i64 7]) ?_)
  exact (by repeat (first | with_reducible exact X2.out | with_reducible refine Ext.drew ?_ | with_reducible refine Ext.drewN ?_ _ | with_reducible refine Ext.alloc ?_ _ | with_reducible refine Ext.setCell ?_ (by first | omega | (simp; done) | (simp; omega)) _))
set_option maxRecDepth 100000 in
theorem rCreate16_ok (A : Option Addr) (n c : Nat) (l : List (Int × Int × Int × Int × Bool × Bool)) (o m f1 f2 fi : Int) (fb : Bool) (w : World) (h : Sl w 6 A n c (l.flatMap valC)) (hf : (f1, f2) = chkV l) (hi : (fi, fb) = fndV l o) (hc : f1 = 0) (ho : ¬ o < 0) (ho2 : ¬ o ≥ 64) (hm : m ≠ 0) (hb : fb = false) (hg : ¬ 32 ≤ l.length) :
    Calls Try.prog 34 #[.slice A n c, .int .i64 o, .int .u64 m] w (RetV (creV l o m).1 [.int .i64 (creV l o m).2.1, .int .i64 (creV l o m).2.2] w) := by
  have hl := h.rlen valC_len (by decide)
  have s1 := h.small
  have hv : creV l o m = (l ++ [(o, m, 1, 0, false, false)], ((n : Nat) : Int), 0) := by
    unfold creV
    rw [← hf, ← hi]
    dsimp only
    rw [if_neg (by simpa using hc), if_neg (by omega), if_neg hm, if_neg (by simp [hb]), if_neg hg, hl]
  rw [hv]
  dsimp only
  subst hc
  subst hb
  have e6 : (m == 0) = false := by simpa using hm
  have hg2 : ¬ (n : Int) ≥ 32 := by omega
  subst hl
  obtain ⟨i0, hi0, hz0, hz1, hz2⟩ := info_parts val_info
  have HS := Lib.hid h
  have HF := Lib.hid hf
  have HI := Lib.hid hi
  clear h hf hi hv
  go_enter Try.func34, Try.ntmps34
  go_wp2_with fail
  (with_reducible refine (rCheck16_ev A l.length c l 0 f2 _ (HS.out.ext (by repeat (first | with_reducible exact Ext.refl _ | with_reducible refine Ext.drew ?_ | with_reducible refine Ext.drewN ?_ _ | with_reducible refine Ext.alloc ?_ _ | with_reducible refine Ext.setCell ?_ (by first | omega | (simp; done) | (simp; omega)) _))) HF.out).mono ?_)
  rintro e w1 ⟨rfl, hx1⟩
  have z1 := hx1.size
  try simp at z1
  replace HS := Lib.hid (HS.out.ext (Ext.trans (by repeat (first | with_reducible exact Ext.refl _ | with_reducible refine Ext.drew ?_ | with_reducible refine Ext.drewN ?_ _ | with_reducible refine Ext.alloc ?_ _ | with_reducible refine Ext.setCell ?_ (by first | omega | (simp; done) | (simp; omega)) _)) hx1))
  have X1 : Hid (Ext w w1) := Lib.hid (Ext.trans (by repeat (first | with_reducible exact Ext.refl w | with_reducible refine Ext.drew ?_ | with_reducible refine Ext.drewN ?_ _ | with_reducible refine Ext.alloc ?_ _ | with_reducible refine Ext.setCell ?_ (by first | omega | (simp; done) | (simp; omega)) _)) hx1)
  clear hx1 z1
  go_wp2_with fail
  (with_reducible refine (rFind16_ev A l.length c l o fi false _ (HS.out.ext (by repeat (first | with_reducible exact Ext.refl _ | with_reducible refine Ext.drew ?_ | with_reducible refine Ext.drewN ?_ _ | with_reducible refine Ext.alloc ?_ _ | with_reducible refine Ext.setCell ?_ (by first | omega | (simp; done) | (simp; omega)) _))) HI.out).mono ?_)
  rintro e w2 ⟨rfl, hx2⟩
  have z2 := hx2.size
  try simp at z2
  replace HS := Lib.hid (HS.out.ext (Ext.trans (by repeat (first | with_reducible exact Ext.refl _ | with_reducible refine Ext.drew ?_ | with_reducible refine Ext.drewN ?_ _ | with_reducible refine Ext.alloc ?_ _ | with_reducible refine Ext.setCell ?_ (by first | omega | (simp; done) | (simp; omega)) _)) hx2))
  have X2 : Hid (Ext w w2) := Lib.hid (Ext.trans (by repeat (first | with_reducible exact X1.out | with_reducible refine Ext.drew ?_ | with_reducible refine Ext.drewN ?_ _ | with_reducible refine Ext.alloc ?_ _ | with_reducible refine Ext.setCell ?_ (by first | omega | (simp; done) | (simp; omega)) _)) hx2)
  clear X1 hx2 z2
  go_wp2_with fail
  have hrm2 := Ext.size X2.out
  (with_reducible refine (kCopyVals_any A c l _ (HS.out.ext (by repeat (first | with_reducible exact Ext.refl _ | with_reducible refine Ext.drew ?_ | with_reducible refine Ext.drewN ?_ _ | with_reducible refine Ext.alloc ?_ _ | with_reducible refine Ext.setCell ?_ (by first | omega | (simp; done) | (simp; omega)) _))) (by omega)).mono ?_)
  rintro e w3 ⟨A3, c3, rfl, hA3, hO3, hx3⟩
  have z3 := hx3.size
  try simp at z3
  replace HS := Lib.hid (HS.out.ext (Ext.trans (by repeat (first | with_reducible exact Ext.refl _ | with_reducible refine Ext.drew ?_ | with_reducible refine Ext.drewN ?_ _ | with_reducible refine Ext.alloc ?_ _ | with_reducible refine Ext.setCell ?_ (by first | omega | (simp; done) | (simp; omega)) _)) hx3))
  have X3 : Hid (Ext w w3) := Lib.hid (Ext.trans (by repeat (first | with_reducible exact X2.out | with_reducible refine Ext.drew ?_ | with_reducible refine Ext.drewN ?_ _ | with_reducible refine Ext.alloc ?_ _ | with_reducible refine Ext.setCell ?_ (by first | omega | (simp; done) | (simp; omega)) _)) hx3)
  have HO := Lib.hid hO3
  clear X2 hx3 z3 hO3
  go_wp2_with (at_builtin; refine wpList_append_new _ rfl _ _ 40 rfl w.heap.size 96 i0 (.agg #[.int .i64 0, .int .u64 0, .int .i64 0, .int .i64 0, .bool false, .bool false]) 6 40 Try.underlying40 hi0 hz0 hz1 hz2 rfl (by decide) _ l.length _ (by rfl) (OwnVal.lower HO.out hrm2) #[.int .i64 o, .int .u64 m, .int .i64 1, .int .i64 0, .bool false, .bool false] 1 (by first | rfl | (simp [Act.eval]; done) | (simp [Act.eval, go_sem]; done)) rfl (by intro u hu; simp at hu; rcases hu with rfl | rfl | rfl | rfl | rfl | rfl <;> rfl) (by omega) (by decide) (by have := Ext.size X3.out; omega) ?_; intro v2 w4 hown2 hb2)
  have hown3 : OwnVal w4 w.heap.size v2 (l.length + 1) (l ++ [(o, m, 1, 0, false, false)]) := OwnVal.snoc hown2
  obtain ⟨A4, c4, rfl, h4, _⟩ := own_parts2 hown3
  refine bodyPost_ret (v := .tuple #[.slice A4 (l.length + 1) c4, .int .i64 (l.length : Nat), .int .i64 0]) (by simp [results, Try.results34]; try rfl) rfl (RetV.mk (xs := [.int .i64 (l.length : Nat), .int .i64 0]) hown3 (Ext.below X3.out hb2) (by simp))
theorem rCreate16_any (A : Option Addr) (n c : Nat) (l : List (Int × Int × Int × Int × Bool × Bool)) (o m : Int) (w : World) (h : Sl w 6 A n c (l.flatMap valC)) :
    Calls Try.prog 34 #[.slice A n c, .int .i64 o, .int .u64 m] w (RetV (creV l o m).1 [.int .i64 (creV l o m).2.1, .int .i64 (creV l o m).2.2] w) := by
  obtain ⟨⟨f1, f2⟩, hf⟩ : ∃ F, F = chkV l := ⟨_, rfl⟩
  obtain ⟨⟨fi, fb⟩, hi⟩ : ∃ F, F = fndV l o := ⟨_, rfl⟩
  by_cases hc : f1 = 0
  · by_cases h0 : o < 0
    · exact rCreate16_neg A n c l o m f1 f2 fi fb w h hf hi hc h0
    by_cases h1 : o ≥ 64
    · exact rCreate16_big A n c l o m f1 f2 fi fb w h hf hi hc h1
    by_cases hm : m = 0
    · exact rCreate16_arg A n c l o m f1 f2 fi fb w h hf hi hc h0 h1 hm
    by_cases hb : fb = true
    · exact rCreate16_dbl A n c l o m f1 f2 fi fb w h hf hi hc h0 h1 hm hb
    by_cases hg : 32 ≤ l.length
    · exact rCreate16_full A n c l o m f1 f2 fi fb w h hf hi hc h0 h1 hm (by simpa using hb) hg
    exact rCreate16_ok A n c l o m f1 f2 fi fb w h hf hi hc h0 h1 hm (by simpa using hb) hg
  · exact rCreate16_chk A n c l o m f1 f2 fi fb w h hf hi hc
end Go.Proofs.Ytjdpgapmdmpjjaa
