/- hops: why a list may not be, and where, on both sides. Conditions stand in each lemma. -/
import Derived.Test.YtjdpgapmdmpjjaaHop1
set_option linter.unusedVariables false
set_option linter.unusedSimpArgs false
namespace Go.Proofs.Ytjdpgapmdmpjjaa
open Go.RowKit Go.ChangeShapes Go.WideShapes Go.Deep Go.Joins

theorem Sl.htake {w : World} {A : Option Addr} {n c k : Nat} {l : List (Int × Int × Int × Int)} (h : Sl w 4 A n c (l.flatMap hopC)) (hk : k ≤ n) : Sl w 4 A k c ((l.take k).flatMap hopC) := by
  have h1 := h.take hk
  rwa [flat_take hopC_len] at h1
theorem hopMay_ev (x0 x1 x2 x3 e : Int) (A : Option Addr) (c n : Nat) (l : List (Int × Int × Int × Int)) (w : World) (hx : Fits .i64 x3) (h : Sl w 4 A n c (l.flatMap hopC)) (he : e = mayV (x0, x1, x2, x3) l) :
    Calls Try.prog 87 #[.agg #[.int .i64 x0, .int .i64 x1, .int .i64 x2, .int .i64 x3], .slice A n c] w fun r w' => r = .returned (.int .i64 e) ∧ Ext w w' := by
  rw [he]
  exact hopMay_any x0 x1 x2 x3 A c n l w hx h
theorem mayV_no {x : (Int × Int × Int × Int)} {l : List (Int × Int × Int × Int)} (h : ¬ MayH x) : mayV x l = 3 := if_pos h
theorem mayV_first {x : (Int × Int × Int × Int)} (h : MayH x) : mayV x [] = 0 := by unfold mayV; rw [if_neg (by simpa using h)]; rfl
theorem mayV_next {x y : (Int × Int × Int × Int)} {l : List (Int × Int × Int × Int)} {m : Nat} (h : MayH x) (hy : l[m]? = some y) : mayV x (l.take (m + 1)) = if x.2.2.2 < y.2.2.2 then 9 else 0 := by
  obtain ⟨hm, e⟩ := List.getElem?_eq_some_iff.1 hy
  unfold mayV
  rw [if_neg (by simpa using h), List.take_succ_eq_append_getElem hm, List.getLast?_append]
  simp [e]
set_option maxRecDepth 100000 in
set_option maxHeartbeats 4000000 in
theorem hopCheck_any (A : Option Addr) (n c : Nat) (l : List (Int × Int × Int × Int)) (w : World) (h : Sl w 4 A n c (l.flatMap hopC)) (hf : ∀ x ∈ l, Fits .i64 x.2.2.2) :
    Calls Try.prog 17 #[.slice A n c] w fun e w' => e = .returned (.tuple #[.int .i64 (chkH l).1, .int .i64 (chkH l).2]) ∧ Ext w w' := by
  have hl := h.rlen hopC_len (by decide)
  have s1 := h.small
  have hnc : n ≤ c := h.2.1
  have HS := Lib.hid h
  have HL := Lib.hid hl
  have HFt := Lib.hid hf
  obtain ⟨⟨f1, f2⟩, hF⟩ : ∃ F, F = chkH l := ⟨_, rfl⟩
  rw [← hF]
  have HF := Lib.hid hF
  by_cases h32 : 4096 < l.length
  · have hff : (f1, f2) = (4, 4096) := by rw [hF]; exact chkG_long h32
    obtain ⟨rfl, rfl⟩ := Prod.mk.inj hff
    have e0 : (n : Int) > 4096 := by omega
    clear h hl hF hff h32 hf
    go_enter Try.func17, Try.ntmps17
    go_wp2
    refine bodyPost_ret (v := .tuple #[.int .i64 4, .int .i64 4096]) (by simp [results, Try.results17]; try rfl) rfl ⟨rfl, Ext.refl _⟩
  have e0 : ¬ (n : Int) > 4096 := by omega
  have HN := Lib.hid h32
  have hn4 : n ≤ 4096 := by omega
  clear h hl hF h32 hf
  go_enter Try.func17, Try.ntmps17
  go_wp2
  go_loopg [12] n (fun gh i wx => gh ≤ n ∧ i = .int .i64 ((n - gh : Nat) : Int) ∧ Hid (∀ j, j < n - gh → badH l j = 0) ∧ Ext w wx)
  case atStart => exact ⟨Nat.le_refl _, by simp, Lib.hid (by intro j hj; omega), Ext.refl _⟩
  case round =>
    obtain ⟨hg, hi, hp, hx⟩ := hrel
    obtain ⟨k, hk⟩ : ∃ k, k = n - gk := ⟨_, rfl⟩
    rw [← hk] at hi hp
    subst hi
    have XR := Lib.hid hx
    by_cases hz : gk = 0
    · have hkn : ¬ (k : Int) < n := by omega
      have hff : (f1, f2) = (0, 0) := by
        rw [HF.out]
        exact chkG_ok HN.out (fun j hj => hp.out j (by have := HL.out; omega))
      obtain ⟨rfl, rfl⟩ := Prod.mk.inj hff
      clear hx hk hg hz hff
      go_wp2
      refine bodyPost_ret (v := .tuple #[.int .i64 0, .int .i64 0]) (by simp [results, Try.results17]; try rfl) rfl ⟨rfl, XR.out⟩
    · have HT := Lib.hid ((HS.out.htake (k := k) (by omega)).ext hx)
      have hkc : (k : Int) ≤ c := by omega
      have hkc2 : k ≤ c := by omega
      have hrm := Ext.size hx
      have hkn : (k : Int) < n := by omega
      have hk1 : k < l.length := by have := HL.out; omega
      obtain ⟨b1, o1, rfl, hb1, hc1⟩ := HS.out.rec_ hopC_len (show 0 < n from by omega)
      obtain ⟨xv, hxx⟩ : ∃ x, x = l[k] := ⟨_, rfl⟩
      have hlk : l[k]? = some xv := by rw [hxx]; exact List.getElem?_eq_getElem hk1
      have x_0 := XR.out.has (hc1 k xv hlk 0 _ rfl)
      have x_1 := XR.out.has (hc1 k xv hlk 1 _ rfl)
      have x_2 := XR.out.has (hc1 k xv hlk 2 _ rfl)
      have x_3 := XR.out.has (hc1 k xv hlk 3 _ rfl)
      have hfx := HFt.out xv (List.mem_of_getElem? hlk)
      have hbv : badH l k = mayV xv (l.take k) := by unfold badH; rw [hlk]
      obtain ⟨x0, x1, x2, x3⟩ := xv
      simp only at x_0 x_1 x_2 x_3 hfx
      rw [Nat.add_zero] at x_0
      rw [← Nat.add_assoc] at x_1 x_2 x_3
      have HK := Lib.hid (And.intro hk (And.intro hg hz))
      have HQ := Lib.hid hlk
      have HFX := Lib.hid hfx
      have hbw : b1 < wr.heap.size := by omega
      obtain ⟨ev, hev⟩ : ∃ e, e = mayV (x0, x1, x2, x3) (l.take k) := ⟨_, rfl⟩
      rw [← hev] at hbv
      have HEV := Lib.hid hev
      have HBV := Lib.hid hbv
      by_cases hE : ev = 0
      · subst hE
        clear hx hk hg hz hc1 hxx hk1 hlk hbv hfx hev
        go_wp2_with fail
        refine wp_region_held_drew (S := fun w' => w'.cell? ⟨wr.heap.size, 0, none⟩ = some (.int .i64 x0) ∧ w'.cell? ⟨wr.heap.size, 1, none⟩ = some (.int .i64 x1) ∧ w'.cell? ⟨wr.heap.size, 2, none⟩ = some (.int .i64 x2) ∧ w'.cell? ⟨wr.heap.size, 3, none⟩ = some (.int .i64 x3)) (by kernel_rfl) (by first | exact ⟨c0_0, c0_1, c0_2, c0_3⟩ | (simp [go_sem, World.cell?_alloc_past, x_0, x_1, x_2, x_3]; done)) (fun hHeld => ?_)
        (refine' take_in 0 rfl (by kernel_rfl) (by kernel_rfl) (by kernel_rfl) (fun _ _ _ h => h) (by rfl) (by assumption) ?_ ?_; rotate_left; focus (intro w hSw; (try dsimp only at hSw); go_simp; try with_reducible rfl)); try simp only [Act.put, List.setIfInBounds_toArray, List.set_cons_zero, List.set_cons_succ]
        (refine' take_in 1 rfl (by kernel_rfl) (by kernel_rfl) (by kernel_rfl) (fun _ _ _ h => h) (by rfl) (by assumption) ?_ ?_; rotate_left; focus (intro w hSw; (try dsimp only at hSw); go_simp; try with_reducible rfl)); try simp only [Act.put, List.setIfInBounds_toArray, List.set_cons_zero, List.set_cons_succ]
        (refine' take_in 2 rfl (by kernel_rfl) (by kernel_rfl) (by kernel_rfl) (fun _ _ _ h => h) (by rfl) (by assumption) ?_ ?_; rotate_left; focus (intro w hSw; (try dsimp only at hSw); go_simp; try with_reducible rfl)); try simp only [Act.put, List.setIfInBounds_toArray, List.set_cons_zero, List.set_cons_succ]
        (refine' take_in 3 rfl (by kernel_rfl) (by kernel_rfl) (by kernel_rfl) (fun _ _ _ h => h) (by rfl) (by assumption) ?_ ?_; rotate_left; focus (intro w hSw; (try dsimp only at hSw); go_simp; try with_reducible rfl)); try simp only [Act.put, List.setIfInBounds_toArray, List.set_cons_zero, List.set_cons_succ]
        refine' next_in 4 rfl (by kernel_rfl) (by rfl) (fun K hK => ?_)
        go_simp
        (with_reducible refine (hopMay_ev x0 x1 x2 x3 0 (some ⟨b1, o1, none⟩) c k (l.take k) _ HFX.out (HT.out.ext (by repeat (first | with_reducible exact Ext.refl _ | with_reducible refine Ext.drew ?_ | with_reducible refine Ext.drewN ?_ _ | with_reducible refine Ext.alloc ?_ _ | with_reducible refine Ext.setCell ?_ (by first | omega | (simp; done) | (simp; omega)) _))) HEV.out).mono ?_)
        rintro e w11 ⟨rfl, hx11⟩
        have c0_0 : w11.cell? ⟨wr.heap.size, 0, none⟩ = some (.int .i64 x0) := hx11.has (by first | fail | (simp [go_sem, World.cell?_alloc_past, x_0, x_1, x_2, x_3]; done))
        have c0_1 : w11.cell? ⟨wr.heap.size, 1, none⟩ = some (.int .i64 x1) := hx11.has (by first | fail | (simp [go_sem, World.cell?_alloc_past, x_0, x_1, x_2, x_3]; done))
        have c0_2 : w11.cell? ⟨wr.heap.size, 2, none⟩ = some (.int .i64 x2) := hx11.has (by first | fail | (simp [go_sem, World.cell?_alloc_past, x_0, x_1, x_2, x_3]; done))
        have c0_3 : w11.cell? ⟨wr.heap.size, 3, none⟩ = some (.int .i64 x3) := hx11.has (by first | fail | (simp [go_sem, World.cell?_alloc_past, x_0, x_1, x_2, x_3]; done))
        have z11 := hx11.size
        try simp at z11
        have rc0 : wr.heap.size < w11.heap.size := by omega
        have rc0a : wr.heap.size < w11.heap.size + 1 := by omega
        have rc0b : wr.heap.size < w11.heap.size + 1 + 1 := by omega
        have rc0c : wr.heap.size < w11.heap.size + 1 + 1 + 1 := by omega
        have rc0n : ¬ wr.heap.size = w11.heap.size := by omega
        replace HT := Lib.hid (HT.out.ext (Ext.trans (by repeat (first | with_reducible exact Ext.refl _ | with_reducible refine Ext.drew ?_ | with_reducible refine Ext.drewN ?_ _ | with_reducible refine Ext.alloc ?_ _ | with_reducible refine Ext.setCell ?_ (by first | omega | (simp; done) | (simp; omega)) _)) hx11))
        have X11 : Hid (Ext w w11) := Lib.hid (Ext.trans (by repeat (first | with_reducible exact XR.out | with_reducible refine Ext.drew ?_ | with_reducible refine Ext.drewN ?_ _ | with_reducible refine Ext.alloc ?_ _ | with_reducible refine Ext.setCell ?_ (by first | omega | (simp; done) | (simp; omega)) _)) hx11)
        clear x_1 x_0 x_3 x_2 XR hx11 z11
        refine hK.out _ _ (by (first | exact ⟨c0_0, c0_1, c0_2, c0_3⟩ | (simp [go_sem, World.cell?_alloc_past, c0_0, c0_1, c0_2, c0_3, rc0, rc0a, rc0b, rc0c, rc0n]; done))) (fun hHeld => ?_); clear hK K; try simp only [Act.put, List.setIfInBounds_toArray, List.set_cons_zero, List.set_cons_succ]
        (refine' take_in 5 rfl (by kernel_rfl) (by kernel_rfl) (by kernel_rfl) (fun _ _ _ h => h) (by rfl) (by assumption) ?_ ?_; rotate_left; focus (intro w hSw; (try dsimp only at hSw); go_simp; try with_reducible rfl)); try simp only [Act.put, List.setIfInBounds_toArray, List.set_cons_zero, List.set_cons_succ]
        refine wpAnyH_done (by kernel_rfl) ?_ _
        go_wp2_with fail
        go_roundg (gk - 1)
        case measure => have := HK.out; omega
        case rel =>
          refine ⟨by have := HK.out; omega, num_eq (by have := HK.out; omega), Lib.hid ?_, (by repeat (first | with_reducible exact X11.out | with_reducible refine Ext.drew ?_ | with_reducible refine Ext.drewN ?_ _ | with_reducible refine Ext.alloc ?_ _ | with_reducible refine Ext.setCell ?_ (by first | omega | (simp; done) | (simp; omega)) _))⟩
          intro j hj
          rcases Nat.lt_or_ge j k with h | h
          · exact hp.out j h
          · have e : j = k := by have := HK.out; omega
            subst e
            exact HBV.out
      · skip
        have hff : (f1, f2) = (ev, ((k : Nat) : Int)) := by
          rw [HF.out, ← hbv]
          exact chkG_bad HN.out hk1 (by rw [hbv]; exact hE) hp.out
        obtain ⟨rfl, rfl⟩ := Prod.mk.inj hff
        have e7 : (f1 != 0) = true := by simpa using hE
        have e8 : (f1 == 0) = false := by simpa using hE
        clear hx hk hg hz hc1 hxx hk1 hlk hbv hfx hev hE hff
        go_wp2_with fail
        refine wp_region_held_drew (S := fun w' => w'.cell? ⟨wr.heap.size, 0, none⟩ = some (.int .i64 x0) ∧ w'.cell? ⟨wr.heap.size, 1, none⟩ = some (.int .i64 x1) ∧ w'.cell? ⟨wr.heap.size, 2, none⟩ = some (.int .i64 x2) ∧ w'.cell? ⟨wr.heap.size, 3, none⟩ = some (.int .i64 x3)) (by kernel_rfl) (by first | exact ⟨c0_0, c0_1, c0_2, c0_3⟩ | (simp [go_sem, World.cell?_alloc_past, x_0, x_1, x_2, x_3]; done)) (fun hHeld => ?_)
        (refine' take_in 0 rfl (by kernel_rfl) (by kernel_rfl) (by kernel_rfl) (fun _ _ _ h => h) (by rfl) (by assumption) ?_ ?_; rotate_left; focus (intro w hSw; (try dsimp only at hSw); go_simp; try with_reducible rfl)); try simp only [Act.put, List.setIfInBounds_toArray, List.set_cons_zero, List.set_cons_succ]
        (refine' take_in 1 rfl (by kernel_rfl) (by kernel_rfl) (by kernel_rfl) (fun _ _ _ h => h) (by rfl) (by assumption) ?_ ?_; rotate_left; focus (intro w hSw; (try dsimp only at hSw); go_simp; try with_reducible rfl)); try simp only [Act.put, List.setIfInBounds_toArray, List.set_cons_zero, List.set_cons_succ]
        (refine' take_in 2 rfl (by kernel_rfl) (by kernel_rfl) (by kernel_rfl) (fun _ _ _ h => h) (by rfl) (by assumption) ?_ ?_; rotate_left; focus (intro w hSw; (try dsimp only at hSw); go_simp; try with_reducible rfl)); try simp only [Act.put, List.setIfInBounds_toArray, List.set_cons_zero, List.set_cons_succ]
        (refine' take_in 3 rfl (by kernel_rfl) (by kernel_rfl) (by kernel_rfl) (fun _ _ _ h => h) (by rfl) (by assumption) ?_ ?_; rotate_left; focus (intro w hSw; (try dsimp only at hSw); go_simp; try with_reducible rfl)); try simp only [Act.put, List.setIfInBounds_toArray, List.set_cons_zero, List.set_cons_succ]
        refine' next_in 4 rfl (by kernel_rfl) (by rfl) (fun K hK => ?_)
        go_simp
        (with_reducible refine (hopMay_ev x0 x1 x2 x3 f1 (some ⟨b1, o1, none⟩) c k (l.take k) _ HFX.out (HT.out.ext (by repeat (first | with_reducible exact Ext.refl _ | with_reducible refine Ext.drew ?_ | with_reducible refine Ext.drewN ?_ _ | with_reducible refine Ext.alloc ?_ _ | with_reducible refine Ext.setCell ?_ (by first | omega | (simp; done) | (simp; omega)) _))) HEV.out).mono ?_)
        rintro e w11 ⟨rfl, hx11⟩
        have c0_0 : w11.cell? ⟨wr.heap.size, 0, none⟩ = some (.int .i64 x0) := hx11.has (by first | fail | (simp [go_sem, World.cell?_alloc_past, x_0, x_1, x_2, x_3]; done))
        have c0_1 : w11.cell? ⟨wr.heap.size, 1, none⟩ = some (.int .i64 x1) := hx11.has (by first | fail | (simp [go_sem, World.cell?_alloc_past, x_0, x_1, x_2, x_3]; done))
        have c0_2 : w11.cell? ⟨wr.heap.size, 2, none⟩ = some (.int .i64 x2) := hx11.has (by first | fail | (simp [go_sem, World.cell?_alloc_past, x_0, x_1, x_2, x_3]; done))
        have c0_3 : w11.cell? ⟨wr.heap.size, 3, none⟩ = some (.int .i64 x3) := hx11.has (by first | fail | (simp [go_sem, World.cell?_alloc_past, x_0, x_1, x_2, x_3]; done))
        have z11 := hx11.size
        try simp at z11
        have rc0 : wr.heap.size < w11.heap.size := by omega
        have rc0a : wr.heap.size < w11.heap.size + 1 := by omega
        have rc0b : wr.heap.size < w11.heap.size + 1 + 1 := by omega
        have rc0c : wr.heap.size < w11.heap.size + 1 + 1 + 1 := by omega
        have rc0n : ¬ wr.heap.size = w11.heap.size := by omega
        replace HT := Lib.hid (HT.out.ext (Ext.trans (by repeat (first | with_reducible exact Ext.refl _ | with_reducible refine Ext.drew ?_ | with_reducible refine Ext.drewN ?_ _ | with_reducible refine Ext.alloc ?_ _ | with_reducible refine Ext.setCell ?_ (by first | omega | (simp; done) | (simp; omega)) _)) hx11))
        have X11 : Hid (Ext w w11) := Lib.hid (Ext.trans (by repeat (first | with_reducible exact XR.out | with_reducible refine Ext.drew ?_ | with_reducible refine Ext.drewN ?_ _ | with_reducible refine Ext.alloc ?_ _ | with_reducible refine Ext.setCell ?_ (by first | omega | (simp; done) | (simp; omega)) _)) hx11)
        clear x_1 x_0 x_3 x_2 XR hx11 z11
        refine hK.out _ _ (by (first | exact ⟨c0_0, c0_1, c0_2, c0_3⟩ | (simp [go_sem, World.cell?_alloc_past, c0_0, c0_1, c0_2, c0_3, rc0, rc0a, rc0b, rc0c, rc0n]; done))) (fun hHeld => ?_); clear hK K; try simp only [Act.put, List.setIfInBounds_toArray, List.set_cons_zero, List.set_cons_succ]
        (refine' take_in 5 rfl (by kernel_rfl) (by kernel_rfl) (by kernel_rfl) (fun _ _ _ h => h) (by rfl) (by assumption) ?_ ?_; rotate_left; focus (intro w hSw; (try dsimp only at hSw); go_simp; try with_reducible rfl)); try simp only [Act.put, List.setIfInBounds_toArray, List.set_cons_zero, List.set_cons_succ]
        refine wpAnyH_done (by kernel_rfl) ?_ _
        go_wp2_with fail
        refine bodyPost_ret (v := .tuple #[.int .i64 f1, .int .i64 (k : Int)]) (by simp [results, Try.results17]; try rfl) rfl ⟨rfl, ?_⟩
        exact (by repeat (first | with_reducible exact X11.out | with_reducible refine Ext.drew ?_ | with_reducible refine Ext.drewN ?_ _ | with_reducible refine Ext.alloc ?_ _ | with_reducible refine Ext.setCell ?_ (by first | omega | (simp; done) | (simp; omega)) _))
theorem hopCheck_ev (A : Option Addr) (n c : Nat) (l : List (Int × Int × Int × Int)) (f1 f2 : Int) (w : World) (h : Sl w 4 A n c (l.flatMap hopC)) (hf : ∀ x ∈ l, Fits .i64 x.2.2.2) (he : (f1, f2) = chkH l) :
    Calls Try.prog 17 #[.slice A n c] w fun e w' => e = .returned (.tuple #[.int .i64 f1, .int .i64 f2]) ∧ Ext w w' := by
  have h := hopCheck_any A n c l w h hf
  rw [← he] at h
  exact h
set_option maxRecDepth 100000 in
set_option maxHeartbeats 4000000 in
theorem rCheck15_any (A : Option Addr) (n c : Nat) (l : List (Int × Int × Int × Int)) (w : World) (h : Sl w 4 A n c (l.flatMap hopC)) (hf : ∀ x ∈ l, Fits .i64 x.2.2.2) :
    Calls Try.prog 18 #[.slice A n c] w fun e w' => e = .returned (.tuple #[.int .i64 (chkH l).1, .int .i64 (chkH l).2]) ∧ Ext w w' := by
  have hl := h.rlen hopC_len (by decide)
  have s1 := h.small
  have hnc : n ≤ c := h.2.1
  have HS := Lib.hid h
  have HL := Lib.hid hl
  have HFt := Lib.hid hf
  obtain ⟨⟨f1, f2⟩, hF⟩ : ∃ F, F = chkH l := ⟨_, rfl⟩
  rw [← hF]
  have HF := Lib.hid hF
  by_cases h32 : 4096 < l.length
  · have hff : (f1, f2) = (4, 4096) := by rw [hF]; exact chkG_long h32
    obtain ⟨rfl, rfl⟩ := Prod.mk.inj hff
    have e0 : (n : Int) > 4096 := by omega
    clear h hl hF hff h32 hf
    go_enter Try.func18, Try.ntmps18
    go_wp2
    refine bodyPost_ret (v := .tuple #[.int .i64 4, .int .i64 4096]) (by simp [results, Try.results18]; try rfl) rfl ⟨rfl, Ext.refl _⟩
  have e0 : ¬ (n : Int) > 4096 := by omega
  have HN := Lib.hid h32
  have hn4 : n ≤ 4096 := by omega
  clear h hl hF h32 hf
  go_enter Try.func18, Try.ntmps18
  go_wp2
  go_loopg [4] n (fun gh i wx => gh ≤ n ∧ i = .int .i64 ((n - gh : Nat) : Int) ∧ Hid (∀ j, j < n - gh → badH l j = 0) ∧ Ext w wx)
  case atStart => exact ⟨Nat.le_refl _, by simp, Lib.hid (by intro j hj; omega), Ext.refl _⟩
  case round =>
    obtain ⟨hg, hi, hp, hx⟩ := hrel
    obtain ⟨k, hk⟩ : ∃ k, k = n - gk := ⟨_, rfl⟩
    rw [← hk] at hi hp
    subst hi
    have XR := Lib.hid hx
    by_cases hz : gk = 0
    · have hkn : ¬ (k : Int) < n := by omega
      have hff : (f1, f2) = (0, 0) := by
        rw [HF.out]
        exact chkG_ok HN.out (fun j hj => hp.out j (by have := HL.out; omega))
      obtain ⟨rfl, rfl⟩ := Prod.mk.inj hff
      clear hx hk hg hz hff
      go_wp2
      refine bodyPost_ret (v := .tuple #[.int .i64 0, .int .i64 0]) (by simp [results, Try.results18]; try rfl) rfl ⟨rfl, XR.out⟩
    · have HT := Lib.hid ((HS.out.htake (k := k) (by omega)).ext hx)
      have hkc : (k : Int) ≤ c := by omega
      have hkc2 : k ≤ c := by omega
      have hrm := Ext.size hx
      have hkn : (k : Int) < n := by omega
      have hk1 : k < l.length := by have := HL.out; omega
      obtain ⟨b1, o1, rfl, hb1, hc1⟩ := HS.out.rec_ hopC_len (show 0 < n from by omega)
      obtain ⟨xv, hxx⟩ : ∃ x, x = l[k] := ⟨_, rfl⟩
      have hlk : l[k]? = some xv := by rw [hxx]; exact List.getElem?_eq_getElem hk1
      have x_0 := XR.out.has (hc1 k xv hlk 0 _ rfl)
      have x_1 := XR.out.has (hc1 k xv hlk 1 _ rfl)
      have x_2 := XR.out.has (hc1 k xv hlk 2 _ rfl)
      have x_3 := XR.out.has (hc1 k xv hlk 3 _ rfl)
      have hfx := HFt.out xv (List.mem_of_getElem? hlk)
      have hbv : badH l k = mayV xv (l.take k) := by unfold badH; rw [hlk]
      obtain ⟨x0, x1, x2, x3⟩ := xv
      simp only at x_0 x_1 x_2 x_3 hfx
      rw [Nat.add_zero] at x_0
      rw [← Nat.add_assoc] at x_1 x_2 x_3
      have HK := Lib.hid (And.intro hk (And.intro hg hz))
      have HQ := Lib.hid hlk
      have HFX := Lib.hid hfx
      have hbw : b1 < wr.heap.size := by omega
      by_cases hm : MayH (x0, x1, x2, x3)
      · have HM : Hid (true = decide (MayH (x0, x1, x2, x3))) := Lib.hid (decide_eq_true hm).symm
        by_cases hk0 : k = 0
        · have hb0 : badH l k = 0 := by rw [hbv, hk0]; exact mayV_first hm
          have HBV := Lib.hid hb0
          clear hx hk hg hz hc1 hxx hk1 hlk hbv hfx hb0 hm hkn hkc hkc2
          subst hk0
          simp only [Nat.zero_mul, Nat.add_zero] at x_0 x_1 x_2 x_3
          have hkn : (0 : Int) < n := by have := HK.out; omega
          go_wp2_with fail
          (with_reducible refine (rMay15_any x0 x1 x2 x3 true _ HM.out).mono ?_)
          rintro e w11 ⟨rfl, hx11⟩
          have z11 := hx11.size
          try simp at z11
          have X11 : Hid (Ext w w11) := Lib.hid (Ext.trans (by repeat (first | with_reducible exact XR.out | with_reducible refine Ext.drew ?_ | with_reducible refine Ext.drewN ?_ _ | with_reducible refine Ext.alloc ?_ _ | with_reducible refine Ext.setCell ?_ (by first | omega | (simp; done) | (simp; omega)) _)) hx11)
          clear x_1 x_0 x_3 x_2 XR hx11 z11
          go_wp2_with fail
          refine wp_region_held_drew (S := fun w' => True) (by kernel_rfl) (by first | exact trivial | (simp [go_sem, World.cell?_alloc_past]; done)) (fun hHeld => ?_)
          (refine' take_in 0 rfl (by kernel_rfl) (by kernel_rfl) (by kernel_rfl) (fun _ _ _ h => h) (by rfl) (by assumption) ?_ ?_; rotate_left; focus (intro w hSw; (try dsimp only at hSw); go_simp; try with_reducible rfl)); try simp only [Act.put, List.setIfInBounds_toArray, List.set_cons_zero, List.set_cons_succ]
          (refine' take_in 1 rfl (by kernel_rfl) (by kernel_rfl) (by kernel_rfl) (fun _ _ _ h => h) (by rfl) (by assumption) ?_ ?_; rotate_left; focus (intro w hSw; (try dsimp only at hSw); go_simp; try with_reducible rfl)); try simp only [Act.put, List.setIfInBounds_toArray, List.set_cons_zero, List.set_cons_succ]
          (refine' take_in 2 rfl (by kernel_rfl) (by kernel_rfl) (by kernel_rfl) (fun _ _ _ h => h) (by rfl) (by assumption) ?_ ?_; rotate_left; focus (intro w hSw; (try dsimp only at hSw); go_simp; try with_reducible rfl)); try simp only [Act.put, List.setIfInBounds_toArray, List.set_cons_zero, List.set_cons_succ]
          (refine' skip_in 3 rfl (by kernel_rfl) (by kernel_rfl) (by kernel_rfl) (fun _ _ _ h => h) (by rfl) (by assumption) ?_); try simp only [Act.put, List.setIfInBounds_toArray, List.set_cons_zero, List.set_cons_succ]
          (refine' skip_in 4 rfl (by kernel_rfl) (by kernel_rfl) (by kernel_rfl) (fun _ _ _ h => h) (by rfl) (by assumption) ?_); try simp only [Act.put, List.setIfInBounds_toArray, List.set_cons_zero, List.set_cons_succ]
          (refine' skip_in 5 rfl (by kernel_rfl) (by kernel_rfl) (by kernel_rfl) (fun _ _ _ h => h) (by rfl) (by assumption) ?_); try simp only [Act.put, List.setIfInBounds_toArray, List.set_cons_zero, List.set_cons_succ]
          (refine' skip_in 6 rfl (by kernel_rfl) (by kernel_rfl) (by kernel_rfl) (fun _ _ _ h => h) (by rfl) (by assumption) ?_); try simp only [Act.put, List.setIfInBounds_toArray, List.set_cons_zero, List.set_cons_succ]
          (refine' skip_in 7 rfl (by kernel_rfl) (by kernel_rfl) (by kernel_rfl) (fun _ _ _ h => h) (by rfl) (by assumption) ?_); try simp only [Act.put, List.setIfInBounds_toArray, List.set_cons_zero, List.set_cons_succ]
          (refine' skip_in 8 rfl (by kernel_rfl) (by kernel_rfl) (by kernel_rfl) (fun _ _ _ h => h) (by rfl) (by assumption) ?_); try simp only [Act.put, List.setIfInBounds_toArray, List.set_cons_zero, List.set_cons_succ]
          (refine' skip_in 9 rfl (by kernel_rfl) (by kernel_rfl) (by kernel_rfl) (fun _ _ _ h => h) (by rfl) (by assumption) ?_); try simp only [Act.put, List.setIfInBounds_toArray, List.set_cons_zero, List.set_cons_succ]
          (refine' skip_in 10 rfl (by kernel_rfl) (by kernel_rfl) (by kernel_rfl) (fun _ _ _ h => h) (by rfl) (by assumption) ?_); try simp only [Act.put, List.setIfInBounds_toArray, List.set_cons_zero, List.set_cons_succ]
          (refine' skip_in 11 rfl (by kernel_rfl) (by kernel_rfl) (by kernel_rfl) (fun _ _ _ h => h) (by rfl) (by assumption) ?_); try simp only [Act.put, List.setIfInBounds_toArray, List.set_cons_zero, List.set_cons_succ]
          (refine' skip_in 12 rfl (by kernel_rfl) (by kernel_rfl) (by kernel_rfl) (fun _ _ _ h => h) (by rfl) (by assumption) ?_); try simp only [Act.put, List.setIfInBounds_toArray, List.set_cons_zero, List.set_cons_succ]
          (refine' skip_in 13 rfl (by kernel_rfl) (by kernel_rfl) (by kernel_rfl) (fun _ _ _ h => h) (by rfl) (by assumption) ?_); try simp only [Act.put, List.setIfInBounds_toArray, List.set_cons_zero, List.set_cons_succ]
          (refine' skip_in 14 rfl (by kernel_rfl) (by kernel_rfl) (by kernel_rfl) (fun _ _ _ h => h) (by rfl) (by assumption) ?_); try simp only [Act.put, List.setIfInBounds_toArray, List.set_cons_zero, List.set_cons_succ]
          (refine' take_in 15 rfl (by kernel_rfl) (by kernel_rfl) (by kernel_rfl) (fun _ _ _ h => h) (by rfl) (by assumption) ?_ ?_; rotate_left; focus (intro w hSw; (try dsimp only at hSw); go_simp; try with_reducible rfl)); try simp only [Act.put, List.setIfInBounds_toArray, List.set_cons_zero, List.set_cons_succ]
          refine wpAnyH_done (by kernel_rfl) ?_ _
          go_wp2_with fail
          go_roundg (gk - 1)
          case measure => have := HK.out; omega
          case rel =>
            refine ⟨by have := HK.out; omega, num_eq (by have := HK.out; omega), Lib.hid ?_, (by repeat (first | with_reducible exact X11.out | with_reducible refine Ext.drew ?_ | with_reducible refine Ext.drewN ?_ _ | with_reducible refine Ext.alloc ?_ _ | with_reducible refine Ext.setCell ?_ (by first | omega | (simp; done) | (simp; omega)) _))⟩
            intro j hj
            rcases Nat.lt_or_ge j 0 with h | h
            · exact hp.out j h
            · have e : j = 0 := by have := HK.out; omega
              subst e
              exact HBV.out
        · obtain ⟨m, rfl⟩ : ∃ m, k = m + 1 := ⟨k - 1, by omega⟩
          have e22 : ((m + 1 : Nat) : Int) > 0 := by omega
          have hm1 : m < l.length := by omega
          obtain ⟨yv, hyy⟩ : ∃ x, x = l[m] := ⟨_, rfl⟩
          have hly : l[m]? = some yv := by rw [hyy]; exact List.getElem?_eq_getElem hm1
          have y_3 := XR.out.has (hc1 m yv hly 3 _ rfl)
          have hnx := hbv.trans (mayV_next hm hly)
          obtain ⟨y0, y1, y2, y3⟩ := yv
          simp only at y_3 hnx
          rw [← Nat.add_assoc] at y_3
          have hwm : IntKind.i64.wrap (((m + 1 : Nat) : Int) - 1) = (m : Int) := by rw [IntWalk.i64_in _ (by omega)]; omega
          have hwm2 : IntKind.i64.wrap (((m : Int) + 1) - 1) = (m : Int) := by rw [IntWalk.i64_in _ (by omega)]; omega
          have hwm3 : IntKind.i64.wrap (m : Int) = (m : Int) := IntWalk.i64_in _ (by omega)
          have hmn : (m : Int) < n := by omega
          have hmn2 : (m : Int) + 1 < n := by omega
          have hm0 : (0 : Int) ≤ (m : Int) + 1 := by omega
          have e23 : (m : Int) + 1 > 0 := by omega
          have e24 : (0 : Int) < (m : Int) + 1 := by omega
          have hwk : IntKind.i64.wrap ((m : Int) + 1 + 1) = (m : Int) + 1 + 1 := IntWalk.i64_in _ (by omega)
          by_cases hlt : x3 < y3
          · have hb9 : badH l (m + 1) = 9 := hnx.trans (if_pos hlt)
            have hff : (f1, f2) = (9, ((m + 1 : Nat) : Int)) := by
              rw [HF.out, ← hb9]
              exact chkG_bad HN.out hk1 (by rw [hb9]; decide) hp.out
            obtain ⟨rfl, rfl⟩ := Prod.mk.inj hff
            clear hx hk hg hz hc1 hxx hk1 hlk hbv hfx hb9 hm hnx hly hyy hff hk0
            go_wp2_with fail
            (with_reducible refine (rMay15_any x0 x1 x2 x3 true _ HM.out).mono ?_)
            rintro e w11 ⟨rfl, hx11⟩
            replace x_3 : w11.cell? ⟨b1, o1 + (m + 1) * 4 + 3, none⟩ = some (.int .i64 x3) := hx11.has (by first | exact x_3 | (simp [go_sem, World.cell?_alloc_past, x_0, x_1, x_2, x_3, y_3]; done))
            replace y_3 : w11.cell? ⟨b1, o1 + m * 4 + 3, none⟩ = some (.int .i64 y3) := hx11.has (by first | exact y_3 | (simp [go_sem, World.cell?_alloc_past, x_0, x_1, x_2, x_3, y_3]; done))
            have z11 := hx11.size
            try simp at z11
            have rx : b1 < w11.heap.size := by omega
            have rxa : b1 < w11.heap.size + 1 := by omega
            have rxb : b1 < w11.heap.size + 1 + 1 := by omega
            have rxc : b1 < w11.heap.size + 1 + 1 + 1 := by omega
            have rxn : ¬ b1 = w11.heap.size := by omega
            have X11 : Hid (Ext w w11) := Lib.hid (Ext.trans (by repeat (first | with_reducible exact XR.out | with_reducible refine Ext.drew ?_ | with_reducible refine Ext.drewN ?_ _ | with_reducible refine Ext.alloc ?_ _ | with_reducible refine Ext.setCell ?_ (by first | omega | (simp; done) | (simp; omega)) _)) hx11)
            clear x_1 x_2 x_0 XR hx11 z11
            go_wp2_with fail
            refine wp_region_held_drew (S := fun w' => w'.cell? ⟨b1, o1 + (m + 1) * 4 + 3, none⟩ = some (.int .i64 x3) ∧ w'.cell? ⟨b1, o1 + m * 4 + 3, none⟩ = some (.int .i64 y3)) (by kernel_rfl) (by first | exact ⟨x_3, y_3⟩ | (simp [go_sem, World.cell?_alloc_past, x_3, y_3, rx, rxa, rxb, rxc, rxn]; done)) (fun hHeld => ?_)
            (refine' take_in 0 rfl (by kernel_rfl) (by kernel_rfl) (by kernel_rfl) (fun _ _ _ h => h) (by rfl) (by assumption) ?_ ?_; rotate_left; focus (intro w hSw; (try dsimp only at hSw); go_simp; try with_reducible rfl)); try simp only [Act.put, List.setIfInBounds_toArray, List.set_cons_zero, List.set_cons_succ]
            (refine' take_in 1 rfl (by kernel_rfl) (by kernel_rfl) (by kernel_rfl) (fun _ _ _ h => h) (by rfl) (by assumption) ?_ ?_; rotate_left; focus (intro w hSw; (try dsimp only at hSw); go_simp; try with_reducible rfl)); try simp only [Act.put, List.setIfInBounds_toArray, List.set_cons_zero, List.set_cons_succ]
            (refine' take_in 2 rfl (by kernel_rfl) (by kernel_rfl) (by kernel_rfl) (fun _ _ _ h => h) (by rfl) (by assumption) ?_ ?_; rotate_left; focus (intro w hSw; (try dsimp only at hSw); go_simp; try with_reducible rfl)); try simp only [Act.put, List.setIfInBounds_toArray, List.set_cons_zero, List.set_cons_succ]
            (refine' take_in 3 rfl (by kernel_rfl) (by kernel_rfl) (by kernel_rfl) (fun _ _ _ h => h) (by rfl) (by assumption) ?_ ?_; rotate_left; focus (intro w hSw; (try dsimp only at hSw); go_simp; try with_reducible rfl)); try simp only [Act.put, List.setIfInBounds_toArray, List.set_cons_zero, List.set_cons_succ]
            (refine' take_in 4 rfl (by kernel_rfl) (by kernel_rfl) (by kernel_rfl) (fun _ _ _ h => h) (by rfl) (by assumption) ?_ ?_; rotate_left; focus (intro w hSw; (try dsimp only at hSw); go_simp; try with_reducible rfl)); try simp only [Act.put, List.setIfInBounds_toArray, List.set_cons_zero, List.set_cons_succ]
            (refine' take_in 5 rfl (by kernel_rfl) (by kernel_rfl) (by kernel_rfl) (fun _ _ _ h => h) (by rfl) (by assumption) ?_ ?_; rotate_left; focus (intro w hSw; (try dsimp only at hSw); go_simp; try with_reducible rfl)); try simp only [Act.put, List.setIfInBounds_toArray, List.set_cons_zero, List.set_cons_succ]
            (refine' take_in 6 rfl (by kernel_rfl) (by kernel_rfl) (by kernel_rfl) (fun _ _ _ h => h) (by rfl) (by assumption) ?_ ?_; rotate_left; focus (intro w hSw; (try dsimp only at hSw); go_simp; try with_reducible rfl)); try simp only [Act.put, List.setIfInBounds_toArray, List.set_cons_zero, List.set_cons_succ]
            (refine' take_in 7 rfl (by kernel_rfl) (by kernel_rfl) (by kernel_rfl) (fun _ _ _ h => h) (by rfl) (by assumption) ?_ ?_; rotate_left; focus (intro w hSw; (try dsimp only at hSw); go_simp; try with_reducible rfl)); try simp only [Act.put, List.setIfInBounds_toArray, List.set_cons_zero, List.set_cons_succ]
            (refine' take_in 8 rfl (by kernel_rfl) (by kernel_rfl) (by kernel_rfl) (fun _ _ _ h => h) (by rfl) (by assumption) ?_ ?_; rotate_left; focus (intro w hSw; (try dsimp only at hSw); go_simp; try with_reducible rfl)); try simp only [Act.put, List.setIfInBounds_toArray, List.set_cons_zero, List.set_cons_succ]
            (refine' take_in 9 rfl (by kernel_rfl) (by kernel_rfl) (by kernel_rfl) (fun _ _ _ h => h) (by rfl) (by assumption) ?_ ?_; rotate_left; focus (intro w hSw; (try dsimp only at hSw); go_simp; try with_reducible rfl)); try simp only [Act.put, List.setIfInBounds_toArray, List.set_cons_zero, List.set_cons_succ]
            (refine' take_in 10 rfl (by kernel_rfl) (by kernel_rfl) (by kernel_rfl) (fun _ _ _ h => h) (by rfl) (by assumption) ?_ ?_; rotate_left; focus (intro w hSw; (try dsimp only at hSw); go_simp; try with_reducible rfl)); try simp only [Act.put, List.setIfInBounds_toArray, List.set_cons_zero, List.set_cons_succ]
            (refine' take_in 11 rfl (by kernel_rfl) (by kernel_rfl) (by kernel_rfl) (fun _ _ _ h => h) (by rfl) (by assumption) ?_ ?_; rotate_left; focus (intro w hSw; (try dsimp only at hSw); go_simp; try with_reducible rfl)); try simp only [Act.put, List.setIfInBounds_toArray, List.set_cons_zero, List.set_cons_succ]
            (refine' take_in 12 rfl (by kernel_rfl) (by kernel_rfl) (by kernel_rfl) (fun _ _ _ h => h) (by rfl) (by assumption) ?_ ?_; rotate_left; focus (intro w hSw; (try dsimp only at hSw); go_simp; try with_reducible rfl)); try simp only [Act.put, List.setIfInBounds_toArray, List.set_cons_zero, List.set_cons_succ]
            (refine' take_in 13 rfl (by kernel_rfl) (by kernel_rfl) (by kernel_rfl) (fun _ _ _ h => h) (by rfl) (by assumption) ?_ ?_; rotate_left; focus (intro w hSw; (try dsimp only at hSw); go_simp; try with_reducible rfl)); try simp only [Act.put, List.setIfInBounds_toArray, List.set_cons_zero, List.set_cons_succ]
            (refine' take_in 14 rfl (by kernel_rfl) (by kernel_rfl) (by kernel_rfl) (fun _ _ _ h => h) (by rfl) (by assumption) ?_ ?_; rotate_left; focus (intro w hSw; (try dsimp only at hSw); go_simp; try with_reducible rfl)); try simp only [Act.put, List.setIfInBounds_toArray, List.set_cons_zero, List.set_cons_succ]
            (refine' take_in 15 rfl (by kernel_rfl) (by kernel_rfl) (by kernel_rfl) (fun _ _ _ h => h) (by rfl) (by assumption) ?_ ?_; rotate_left; focus (intro w hSw; (try dsimp only at hSw); go_simp; try with_reducible rfl)); try simp only [Act.put, List.setIfInBounds_toArray, List.set_cons_zero, List.set_cons_succ]
            refine wpAnyH_done (by kernel_rfl) ?_ _
            go_wp2_with fail
            refine bodyPost_ret (v := .tuple #[.int .i64 9, .int .i64 ((m + 1 : Nat) : Int)]) (by simp [results, Try.results18]; try rfl) rfl ⟨rfl, ?_⟩
            exact (by repeat (first | with_reducible exact X11.out | with_reducible refine Ext.drew ?_ | with_reducible refine Ext.drewN ?_ _ | with_reducible refine Ext.alloc ?_ _ | with_reducible refine Ext.setCell ?_ (by first | omega | (simp; done) | (simp; omega)) _))
          · have hb0 : badH l (m + 1) = 0 := hnx.trans (if_neg hlt)
            have HBV := Lib.hid hb0
            clear hx hk hg hz hc1 hxx hk1 hlk hbv hfx hb0 hm hnx hly hyy hk0
            go_wp2_with fail
            (with_reducible refine (rMay15_any x0 x1 x2 x3 true _ HM.out).mono ?_)
            rintro e w11 ⟨rfl, hx11⟩
            replace x_3 : w11.cell? ⟨b1, o1 + (m + 1) * 4 + 3, none⟩ = some (.int .i64 x3) := hx11.has (by first | exact x_3 | (simp [go_sem, World.cell?_alloc_past, x_0, x_1, x_2, x_3, y_3]; done))
            replace y_3 : w11.cell? ⟨b1, o1 + m * 4 + 3, none⟩ = some (.int .i64 y3) := hx11.has (by first | exact y_3 | (simp [go_sem, World.cell?_alloc_past, x_0, x_1, x_2, x_3, y_3]; done))
            have z11 := hx11.size
            try simp at z11
            have rx : b1 < w11.heap.size := by omega
            have rxa : b1 < w11.heap.size + 1 := by omega
            have rxb : b1 < w11.heap.size + 1 + 1 := by omega
            have rxc : b1 < w11.heap.size + 1 + 1 + 1 := by omega
            have rxn : ¬ b1 = w11.heap.size := by omega
            have X11 : Hid (Ext w w11) := Lib.hid (Ext.trans (by repeat (first | with_reducible exact XR.out | with_reducible refine Ext.drew ?_ | with_reducible refine Ext.drewN ?_ _ | with_reducible refine Ext.alloc ?_ _ | with_reducible refine Ext.setCell ?_ (by first | omega | (simp; done) | (simp; omega)) _)) hx11)
            clear x_1 x_2 x_0 XR hx11 z11
            go_wp2_with fail
            refine wp_region_held_drew (S := fun w' => w'.cell? ⟨b1, o1 + (m + 1) * 4 + 3, none⟩ = some (.int .i64 x3) ∧ w'.cell? ⟨b1, o1 + m * 4 + 3, none⟩ = some (.int .i64 y3)) (by kernel_rfl) (by first | exact ⟨x_3, y_3⟩ | (simp [go_sem, World.cell?_alloc_past, x_3, y_3, rx, rxa, rxb, rxc, rxn]; done)) (fun hHeld => ?_)
            (refine' take_in 0 rfl (by kernel_rfl) (by kernel_rfl) (by kernel_rfl) (fun _ _ _ h => h) (by rfl) (by assumption) ?_ ?_; rotate_left; focus (intro w hSw; (try dsimp only at hSw); go_simp; try with_reducible rfl)); try simp only [Act.put, List.setIfInBounds_toArray, List.set_cons_zero, List.set_cons_succ]
            (refine' take_in 1 rfl (by kernel_rfl) (by kernel_rfl) (by kernel_rfl) (fun _ _ _ h => h) (by rfl) (by assumption) ?_ ?_; rotate_left; focus (intro w hSw; (try dsimp only at hSw); go_simp; try with_reducible rfl)); try simp only [Act.put, List.setIfInBounds_toArray, List.set_cons_zero, List.set_cons_succ]
            (refine' take_in 2 rfl (by kernel_rfl) (by kernel_rfl) (by kernel_rfl) (fun _ _ _ h => h) (by rfl) (by assumption) ?_ ?_; rotate_left; focus (intro w hSw; (try dsimp only at hSw); go_simp; try with_reducible rfl)); try simp only [Act.put, List.setIfInBounds_toArray, List.set_cons_zero, List.set_cons_succ]
            (refine' take_in 3 rfl (by kernel_rfl) (by kernel_rfl) (by kernel_rfl) (fun _ _ _ h => h) (by rfl) (by assumption) ?_ ?_; rotate_left; focus (intro w hSw; (try dsimp only at hSw); go_simp; try with_reducible rfl)); try simp only [Act.put, List.setIfInBounds_toArray, List.set_cons_zero, List.set_cons_succ]
            (refine' take_in 4 rfl (by kernel_rfl) (by kernel_rfl) (by kernel_rfl) (fun _ _ _ h => h) (by rfl) (by assumption) ?_ ?_; rotate_left; focus (intro w hSw; (try dsimp only at hSw); go_simp; try with_reducible rfl)); try simp only [Act.put, List.setIfInBounds_toArray, List.set_cons_zero, List.set_cons_succ]
            (refine' take_in 5 rfl (by kernel_rfl) (by kernel_rfl) (by kernel_rfl) (fun _ _ _ h => h) (by rfl) (by assumption) ?_ ?_; rotate_left; focus (intro w hSw; (try dsimp only at hSw); go_simp; try with_reducible rfl)); try simp only [Act.put, List.setIfInBounds_toArray, List.set_cons_zero, List.set_cons_succ]
            (refine' take_in 6 rfl (by kernel_rfl) (by kernel_rfl) (by kernel_rfl) (fun _ _ _ h => h) (by rfl) (by assumption) ?_ ?_; rotate_left; focus (intro w hSw; (try dsimp only at hSw); go_simp; try with_reducible rfl)); try simp only [Act.put, List.setIfInBounds_toArray, List.set_cons_zero, List.set_cons_succ]
            (refine' take_in 7 rfl (by kernel_rfl) (by kernel_rfl) (by kernel_rfl) (fun _ _ _ h => h) (by rfl) (by assumption) ?_ ?_; rotate_left; focus (intro w hSw; (try dsimp only at hSw); go_simp; try with_reducible rfl)); try simp only [Act.put, List.setIfInBounds_toArray, List.set_cons_zero, List.set_cons_succ]
            (refine' take_in 8 rfl (by kernel_rfl) (by kernel_rfl) (by kernel_rfl) (fun _ _ _ h => h) (by rfl) (by assumption) ?_ ?_; rotate_left; focus (intro w hSw; (try dsimp only at hSw); go_simp; try with_reducible rfl)); try simp only [Act.put, List.setIfInBounds_toArray, List.set_cons_zero, List.set_cons_succ]
            (refine' take_in 9 rfl (by kernel_rfl) (by kernel_rfl) (by kernel_rfl) (fun _ _ _ h => h) (by rfl) (by assumption) ?_ ?_; rotate_left; focus (intro w hSw; (try dsimp only at hSw); go_simp; try with_reducible rfl)); try simp only [Act.put, List.setIfInBounds_toArray, List.set_cons_zero, List.set_cons_succ]
            (refine' take_in 10 rfl (by kernel_rfl) (by kernel_rfl) (by kernel_rfl) (fun _ _ _ h => h) (by rfl) (by assumption) ?_ ?_; rotate_left; focus (intro w hSw; (try dsimp only at hSw); go_simp; try with_reducible rfl)); try simp only [Act.put, List.setIfInBounds_toArray, List.set_cons_zero, List.set_cons_succ]
            (refine' take_in 11 rfl (by kernel_rfl) (by kernel_rfl) (by kernel_rfl) (fun _ _ _ h => h) (by rfl) (by assumption) ?_ ?_; rotate_left; focus (intro w hSw; (try dsimp only at hSw); go_simp; try with_reducible rfl)); try simp only [Act.put, List.setIfInBounds_toArray, List.set_cons_zero, List.set_cons_succ]
            (refine' take_in 12 rfl (by kernel_rfl) (by kernel_rfl) (by kernel_rfl) (fun _ _ _ h => h) (by rfl) (by assumption) ?_ ?_; rotate_left; focus (intro w hSw; (try dsimp only at hSw); go_simp; try with_reducible rfl)); try simp only [Act.put, List.setIfInBounds_toArray, List.set_cons_zero, List.set_cons_succ]
            (refine' take_in 13 rfl (by kernel_rfl) (by kernel_rfl) (by kernel_rfl) (fun _ _ _ h => h) (by rfl) (by assumption) ?_ ?_; rotate_left; focus (intro w hSw; (try dsimp only at hSw); go_simp; try with_reducible rfl)); try simp only [Act.put, List.setIfInBounds_toArray, List.set_cons_zero, List.set_cons_succ]
            (refine' take_in 14 rfl (by kernel_rfl) (by kernel_rfl) (by kernel_rfl) (fun _ _ _ h => h) (by rfl) (by assumption) ?_ ?_; rotate_left; focus (intro w hSw; (try dsimp only at hSw); go_simp; try with_reducible rfl)); try simp only [Act.put, List.setIfInBounds_toArray, List.set_cons_zero, List.set_cons_succ]
            (refine' take_in 15 rfl (by kernel_rfl) (by kernel_rfl) (by kernel_rfl) (fun _ _ _ h => h) (by rfl) (by assumption) ?_ ?_; rotate_left; focus (intro w hSw; (try dsimp only at hSw); go_simp; try with_reducible rfl)); try simp only [Act.put, List.setIfInBounds_toArray, List.set_cons_zero, List.set_cons_succ]
            refine wpAnyH_done (by kernel_rfl) ?_ _
            go_wp2_with fail
            go_roundg (gk - 1)
            case measure => have := HK.out; omega
            case rel =>
              refine ⟨by have := HK.out; omega, num_eq (by have := HK.out; omega), Lib.hid ?_, (by repeat (first | with_reducible exact X11.out | with_reducible refine Ext.drew ?_ | with_reducible refine Ext.drewN ?_ _ | with_reducible refine Ext.alloc ?_ _ | with_reducible refine Ext.setCell ?_ (by first | omega | (simp; done) | (simp; omega)) _))⟩
              intro j hj
              rcases Nat.lt_or_ge j (m + 1) with h | h
              · exact hp.out j h
              · have e : j = m + 1 := by have := HK.out; omega
                subst e
                exact HBV.out
      · have HM : Hid (false = decide (MayH (x0, x1, x2, x3))) := Lib.hid (decide_eq_false hm).symm
        have hb3 : badH l k = 3 := hbv.trans (mayV_no hm)
        have hff : (f1, f2) = (3, ((k : Nat) : Int)) := by
          rw [HF.out, ← hb3]
          exact chkG_bad HN.out hk1 (by rw [hb3]; decide) hp.out
        obtain ⟨rfl, rfl⟩ := Prod.mk.inj hff
        clear hx hk hg hz hc1 hxx hk1 hlk hbv hfx hb3 hm hff
        go_wp2_with fail
        (with_reducible refine (rMay15_any x0 x1 x2 x3 false _ HM.out).mono ?_)
        rintro e w11 ⟨rfl, hx11⟩
        have z11 := hx11.size
        try simp at z11
        have X11 : Hid (Ext w w11) := Lib.hid (Ext.trans (by repeat (first | with_reducible exact XR.out | with_reducible refine Ext.drew ?_ | with_reducible refine Ext.drewN ?_ _ | with_reducible refine Ext.alloc ?_ _ | with_reducible refine Ext.setCell ?_ (by first | omega | (simp; done) | (simp; omega)) _)) hx11)
        clear x_1 x_0 x_3 x_2 XR hx11 z11
        go_wp2_with fail
        refine bodyPost_ret (v := .tuple #[.int .i64 3, .int .i64 (k : Int)]) (by simp [results, Try.results18]; try rfl) rfl ⟨rfl, ?_⟩
        exact (by repeat (first | with_reducible exact X11.out | with_reducible refine Ext.drew ?_ | with_reducible refine Ext.drewN ?_ _ | with_reducible refine Ext.alloc ?_ _ | with_reducible refine Ext.setCell ?_ (by first | omega | (simp; done) | (simp; omega)) _))
theorem rCheck15_ev (A : Option Addr) (n c : Nat) (l : List (Int × Int × Int × Int)) (f1 f2 : Int) (w : World) (h : Sl w 4 A n c (l.flatMap hopC)) (hf : ∀ x ∈ l, Fits .i64 x.2.2.2) (he : (f1, f2) = chkH l) :
    Calls Try.prog 18 #[.slice A n c] w fun e w' => e = .returned (.tuple #[.int .i64 f1, .int .i64 f2]) ∧ Ext w w' := by
  have h := rCheck15_any A n c l w h hf
  rw [← he] at h
  exact h
end Go.Proofs.Ytjdpgapmdmpjjaa
