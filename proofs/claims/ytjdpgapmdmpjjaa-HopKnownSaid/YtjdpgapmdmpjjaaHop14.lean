/- hops: the reference's Read. Conditions stand in each lemma. -/
import Derived.Test.YtjdpgapmdmpjjaaHop13
import Derived.Test.YtjdpgapmdmpjjaaRefN
set_option linter.unusedVariables false
set_option linter.unusedSimpArgs false
namespace Go.Proofs.Ytjdpgapmdmpjjaa
open Go.RowKit Go.ChangeShapes Go.WideShapes Go.Deep Go.Joins

theorem FltNz.ifFail {f : Option (Int × Int)} (h : FltNz f) (c : Prop) [Decidable c] (e a : Int) : FltNz (if c then failF f e a else f) := by
  split
  · exact h.fail e a
  · exact h
theorem ifFail_some (c : Prop) [Decidable c] (x : Int × Int) (e a : Int) : (if c then failF (some x) e a else some x) = some x := by split <;> rfl
theorem fail_at {f2 f3 : Option (Int × Int)} {t : Int} {k2 : Nat} (e : Int) (h : f2 = none → t = k2) (hf : f3 = none → f2 = none) : failF f3 e t = failF f3 e (atF f2 k2) := by
  cases f3 with
  | some x => rfl
  | none => rw [hf rfl, h (hf rfl)]; rfl
theorem ifFail_none {c : Prop} [Decidable c] {f : Option (Int × Int)} {e a : Int} (he : e ≠ 0) (h : (if c then failF f e a else f) = none) : f = none ∧ ¬ c := by
  split at h
  · exact absurd (failF_none h).2 he
  · exact ⟨h, by assumption⟩
theorem hopRd1_nz {L : List Nat} {s : Nat × Option (Int × Int) × List (Int × Int × Int × Int)} (h : FltNz s.2.1) : FltNz (hopRd1 L s).2.1 := by
  unfold hopRd1
  exact (((((h.rn L s.1 0 63).rn L _ 0 31).rn L _ 0 31).ifFail _ _ _).rn L _ 1 4294967296).ifFail _ _ _
theorem hopRd_nz {L : List Nat} {s : Nat × Option (Int × Int) × List (Int × Int × Int × Int)} (h : FltNz s.2.1) : ∀ j, FltNz (hopRd L s j).2.1
  | 0 => h
  | j + 1 => hopRd1_nz (hopRd_nz h j)
theorem hopRd1_some {L : List Nat} {s : Nat × Option (Int × Int) × List (Int × Int × Int × Int)} {x : Int × Int} (h : s.2.1 = some x) : (hopRd1 L s).2.1 = some x := by
  unfold hopRd1
  simp only [h, rnF_some, ifFail_some]
theorem hopRd_some {L : List Nat} {s : Nat × Option (Int × Int) × List (Int × Int × Int × Int)} {x : Int × Int} {j : Nat} (h : (hopRd L s j).2.1 = some x) : ∀ m, (hopRd L s (j + m)).2.1 = some x
  | 0 => h
  | m + 1 => hopRd1_some (hopRd_some h m)
theorem hopEnd_some {L : List Nat} {s : Nat × Option (Int × Int) × List (Int × Int × Int × Int)} {x : Int × Int} (h : s.2.1 = some x) (hx : ¬ x.1 = 0) : hopEnd L s = ([], x) := by
  unfold hopEnd
  rw [h]
  exact if_neg hx
theorem hopS0_nz (L : List Nat) : FltNz (hopS0 L).2.1 := FltNz.none.rn L 0 0 4096
/-- a reader that has a fault is read no further -/
theorem hopRV_stop {L : List Nat} {j : Nat} (hj : j ≤ (rnV L 0 none 0 4096).toNat) (h : j = (rnV L 0 none 0 4096).toNat ∨ ¬ (hopRd L (hopS0 L) j).2.1 = none) : hopRV L = hopEnd L (hopRd L (hopS0 L) j) := by
  rcases h with h | h
  · unfold hopRV; rw [h]
  · obtain ⟨x, hx⟩ : ∃ x, (hopRd L (hopS0 L) j).2.1 = some x := by
      cases hf : (hopRd L (hopS0 L) j).2.1 with
      | none => exact absurd hf h
      | some x => exact ⟨x, rfl⟩
    have hz := hopRd_nz (hopS0_nz L) j x hx
    have hm := hopRd_some hx ((rnV L 0 none 0 4096).toNat - j)
    rw [show j + ((rnV L 0 none 0 4096).toNat - j) = (rnV L 0 none 0 4096).toNat from by omega] at hm
    rw [hopEnd_some hx hz]
    exact hopEnd_some hm hz
set_option maxRecDepth 100000 in
set_option maxHeartbeats 4000000 in
theorem rRead15_any (A : Option Addr) (c : Nat) (L : List Nat) (hB : Byt L) (hL : L.length < 1099511627776) (w : World) (hs : Sl w 1 A L.length c (by_ L)) :
    Calls Try.prog 66 #[.slice A L.length c] w (RetHopV (hopRV L).1 [.agg #[.int .i64 (hopRV L).2.1, .int .i64 (hopRV L).2.2]] w) := by
  have s1 := hs.small
  obtain ⟨R, hR⟩ : ∃ R, R = hopRV L := ⟨_, rfl⟩
  rw [← hR]
  have HR0 := Lib.hid hR
  obtain ⟨nn, hnn⟩ : ∃ v, v = rnV L 0 none 0 4096 := ⟨_, rfl⟩
  obtain ⟨hn0, hn1⟩ : 0 ≤ nn ∧ nn ≤ 4096 := by rw [hnn]; exact rnV_in L 0 none 0 4096 (by decide)
  obtain ⟨N, rfl⟩ : ∃ N : Nat, nn = (N : Int) := ⟨nn.toNat, by omega⟩
  have HNN := Lib.hid hnn
  have HBy := Lib.hid hB
  have HS := Lib.hid hs
  obtain ⟨i0, hi0, hz0, hz1, hz2⟩ := info_parts hop_info
  clear hs hR hnn hB
  go_enter Try.func66, Try.ntmps66
  go_wp2_with fail
  (with_reducible refine (rNewReader_any A c L HBy.out _ (HS.out.ext (by repeat (first | with_reducible exact Ext.refl _ | with_reducible refine Ext.drew ?_ | with_reducible refine Ext.drewN ?_ _ | with_reducible refine Ext.alloc ?_ _ | with_reducible refine Ext.setCell ?_ (by first | omega | (simp; done) | (simp; omega)) _))) hL).mono ?_)
  rintro e w1 ⟨g, rfl, hg, hRd, hx1⟩
  have c0_0f : w1.frozen? ⟨w.heap.size, 0, none⟩ = false := hx1.froz (v := .int .i64 0) (by first | fail | (simp [go_sem, World.cell?_alloc_past]; done)) (by first | fail | (simp [go_sem, World.cell?_alloc_past]; done))
  have c0_1f : w1.frozen? ⟨w.heap.size, 1, none⟩ = false := hx1.froz (v := .int .i64 0) (by first | fail | (simp [go_sem, World.cell?_alloc_past]; done)) (by first | fail | (simp [go_sem, World.cell?_alloc_past]; done))
  have c0_0 : w1.cell? ⟨w.heap.size, 0, none⟩ = some (.int .i64 0) := hx1.has (by first | fail | (simp [go_sem, World.cell?_alloc_past]; done))
  have c0_1 : w1.cell? ⟨w.heap.size, 1, none⟩ = some (.int .i64 0) := hx1.has (by first | fail | (simp [go_sem, World.cell?_alloc_past]; done))
  have z1 := hx1.size
  try simp at z1
  have rc0 : w.heap.size < w1.heap.size := by omega
  have rc0a : w.heap.size < w1.heap.size + 1 := by omega
  have rc0b : w.heap.size < w1.heap.size + 1 + 1 := by omega
  have rc0c : w.heap.size < w1.heap.size + 1 + 1 + 1 := by omega
  have rc0n : ¬ w.heap.size = w1.heap.size := by omega
  have X1 : Hid (Ext w w1) := Lib.hid (Ext.trans (by repeat (first | with_reducible exact Ext.refl w | with_reducible refine Ext.drew ?_ | with_reducible refine Ext.drewN ?_ _ | with_reducible refine Ext.alloc ?_ _ | with_reducible refine Ext.setCell ?_ (by first | omega | (simp; done) | (simp; omega)) _)) hx1)
  have HR := Lib.hid hRd
  clear HS hx1 z1 hRd
  have hgw : w.heap.size < g := by (try simp at hg); omega
  have hgl := HR.out.lt
  go_wp2_with fail
  (with_reducible refine (rN_e g 0 (hopS0 L).1 L none (hopS0 L).2.1 0 4096 (N : Int) (by decide) (by decide) (by decide) (by decide) hL HNN.out rfl rfl _ (HR.out.ext (by repeat (first | with_reducible exact Ext.refl _ | with_reducible refine Ext.drew ?_ | with_reducible refine Ext.drewN ?_ _ | with_reducible refine Ext.alloc ?_ _ | with_reducible refine Ext.setCell ?_ (by first | omega | (simp; done) | (simp; omega)) _)))).mono ?_)
  rintro e w2 ⟨rfl, hRd, hx2⟩
  have hsz2 := hx2.size
  try simp at hsz2
  replace c0_0f : w2.frozen? ⟨w.heap.size, 0, none⟩ = false := hx2.froz (by show ¬ _ = _; first | assumption | omega) (v := .int .i64 0) (by first | exact c0_0 | (simp [go_sem, World.cell?_alloc_past, c0_0f, c0_1f, c0_0, c0_1, rc0, rc0a, rc0b, rc0c, rc0n]; done)) (by first | exact c0_0f | (simp [go_sem, World.cell?_alloc_past, c0_0f, c0_1f, c0_0, c0_1, rc0, rc0a, rc0b, rc0c, rc0n]; done))
  replace c0_1f : w2.frozen? ⟨w.heap.size, 1, none⟩ = false := hx2.froz (by show ¬ _ = _; first | assumption | omega) (v := .int .i64 0) (by first | exact c0_1 | (simp [go_sem, World.cell?_alloc_past, c0_0f, c0_1f, c0_0, c0_1, rc0, rc0a, rc0b, rc0c, rc0n]; done)) (by first | exact c0_1f | (simp [go_sem, World.cell?_alloc_past, c0_0f, c0_1f, c0_0, c0_1, rc0, rc0a, rc0b, rc0c, rc0n]; done))
  replace c0_0 : w2.cell? ⟨w.heap.size, 0, none⟩ = some (.int .i64 0) := hx2.has (by show ¬ _ = _; first | assumption | omega) (by first | exact c0_0 | (simp [go_sem, World.cell?_alloc_past, c0_0f, c0_1f, c0_0, c0_1, rc0, rc0a, rc0b, rc0c, rc0n]; done))
  replace c0_1 : w2.cell? ⟨w.heap.size, 1, none⟩ = some (.int .i64 0) := hx2.has (by show ¬ _ = _; first | assumption | omega) (by first | exact c0_1 | (simp [go_sem, World.cell?_alloc_past, c0_0f, c0_1f, c0_0, c0_1, rc0, rc0a, rc0b, rc0c, rc0n]; done))
  have z2 := hx2.size
  try simp at z2
  replace rc0 : w.heap.size < w2.heap.size := by omega
  replace rc0a : w.heap.size < w2.heap.size + 1 := by omega
  replace rc0b : w.heap.size < w2.heap.size + 1 + 1 := by omega
  replace rc0c : w.heap.size < w2.heap.size + 1 + 1 + 1 := by omega
  replace rc0n : ¬ w.heap.size = w2.heap.size := by omega
  have X2 : Hid (Ext w w2) := Lib.hid (have hX := (show Ext w _ from (by repeat (first | with_reducible exact X1.out | with_reducible refine Ext.drew ?_ | with_reducible refine Ext.drewN ?_ _ | with_reducible refine Ext.alloc ?_ _ | with_reducible refine Ext.setCell ?_ (by first | omega | (simp; done) | (simp; omega)) _))); Below.trans hX (hx2.below (Ext.size hX) (fun k hk hh => by have hh2 : k = g := hh; omega)))
  clear HR
  have HR := Lib.hid hRd
  clear hsz2 X1 hx2 z2 hRd
  have hgl2 := HR.out.lt
  go_wp2_with fail
  go_loopg [5, 7] N (fun gh q i wx => gh ≤ N ∧ i = .int .i64 ((N - gh : Nat) : Int) ∧ Hid (RRd wx g L (hopRd L (hopS0 L) (N - gh)).1 (hopRd L (hopS0 L) (N - gh)).2.1) ∧ Hid (wx.ownsRow (g + 1) 24 4 q (hopRd L (hopS0 L) (N - gh)).2.2.length ((hopRd L (hopS0 L) (N - gh)).2.2.flatMap hopC)) ∧ (wx.cell? ⟨w.heap.size, 0, none⟩ = some (.int .i64 0) ∧ wx.cell? ⟨w.heap.size, 1, none⟩ = some (.int .i64 0) ∧ wx.frozen? ⟨w.heap.size, 0, none⟩ = false ∧ wx.frozen? ⟨w.heap.size, 1, none⟩ = false) ∧ Ext w wx)
  case atStart => exact ⟨Nat.le_refl _, by simp, by rw [Nat.sub_self]; exact HR, by rw [Nat.sub_self]; exact Lib.hid (World.ownsRow_nil _ _ _ _), ⟨c0_0, c0_1, c0_0f, c0_1f⟩, X2.out⟩
  case round =>
    obtain ⟨hg, hi, hr, ho, ⟨y_0, y_1, y_0f, y_1f⟩, hx⟩ := hrel
    obtain ⟨j, hj⟩ : ∃ j, j = N - gk := ⟨_, rfl⟩
    rw [← hj] at hi hr ho
    subst hi
    have XR := Lib.hid hx
    have hyr : w.heap.size < wr.heap.size := cell_lt y_0
    have hgr : g < wr.heap.size := hr.out.lt
    obtain ⟨s, hs⟩ : ∃ s, s = hopRd L (hopS0 L) j := ⟨_, rfl⟩
    rw [← hs] at hr ho
    have hlen : s.2.2.length = j := by rw [hs, hopRd_len]; simp [hopS0]
    have hjN : j ≤ N := by omega
    have gg_2 := hr.out.c2
    obtain ⟨E0, hE0⟩ : ∃ v, v = fltE s.2.1 := ⟨_, rfl⟩
    rw [← hE0] at gg_2
    have hnz := hr.out.nz
    have hNe : N = (rnV L 0 none 0 4096).toNat := by have := HNN.out; omega
    have hstop : (gk = 0 ∨ ¬ s.2.1 = none) → R = hopEnd L s := by
      intro hh
      rw [HR0.out, hs]
      refine hopRV_stop (by rw [← hNe]; omega) ?_
      rcases hh with hh | hh
      · exact .inl (by rw [← hNe]; omega)
      · exact .inr (by rw [← hs]; exact hh)
    by_cases hz : gk = 0
    · have hkn : ¬ (j : Int) < N := by omega
      obtain ⟨A9, c9, rfl, hA9, hSl9⟩ := own_parts2 ho.out
      obtain ⟨k, f, out⟩ := s
      obtain ⟨⟨e, a⟩, hea⟩ : ∃ E, E = endF f k L.length := ⟨_, rfl⟩
      have hE1 := hstop (.inl hz)
      unfold hopEnd at hE1
      simp only at hE1 hr ho hE0 hnz
      rw [← hea] at hE1
      have hz0 : e = 0 → a = 0 := by
        intro h0
        subst h0
        unfold endF at hea
        cases f with
        | some x => simp only at hea; exact absurd (congrArg Prod.fst hea).symm (hnz x rfl)
        | none =>
          simp only at hea
          split at hea
          · injection hea with h1 h2; exact absurd h1 (by decide)
          · injection hea with h1 h2
      have HEA := Lib.hid hea
      have HZ := Lib.hid hz0
      have HE := Lib.hid hE1
      have HRd := hr
      have HO := Lib.hid (OwnR.mk ho.out)
      clear hx hj hg hz hs hjN hlen hea hz0 hE1 hE0 hnz hstop hNe hSl9 hr ho gg_2
      go_wp2_with fail
      (with_reducible refine (rEnd_h g k L f e a _ (HRd.out.ext (by repeat (first | with_reducible exact Ext.refl _ | with_reducible refine Ext.drew ?_ | with_reducible refine Ext.drewN ?_ _ | with_reducible refine Ext.alloc ?_ _ | with_reducible refine Ext.setCell ?_ (by first | omega | (simp; done) | (simp; omega)) _))) hL HEA.out).mono ?_)
      rintro e w41 ⟨rfl, hx41⟩
      replace y_0f : w41.frozen? ⟨w.heap.size, 0, none⟩ = false := hx41.froz (v := .int .i64 0) (by first | exact y_0 | (simp [go_sem, World.cell?_alloc_past, y_0, y_0f, y_1, y_1f]; done)) (by first | exact y_0f | (simp [go_sem, World.cell?_alloc_past, y_0, y_0f, y_1, y_1f]; done))
      replace y_1f : w41.frozen? ⟨w.heap.size, 1, none⟩ = false := hx41.froz (v := .int .i64 0) (by first | exact y_1 | (simp [go_sem, World.cell?_alloc_past, y_0, y_0f, y_1, y_1f]; done)) (by first | exact y_1f | (simp [go_sem, World.cell?_alloc_past, y_0, y_0f, y_1, y_1f]; done))
      replace y_0 : w41.cell? ⟨w.heap.size, 0, none⟩ = some (.int .i64 0) := hx41.has (by first | exact y_0 | (simp [go_sem, World.cell?_alloc_past, y_0, y_0f, y_1, y_1f]; done))
      replace y_1 : w41.cell? ⟨w.heap.size, 1, none⟩ = some (.int .i64 0) := hx41.has (by first | exact y_1 | (simp [go_sem, World.cell?_alloc_past, y_0, y_0f, y_1, y_1f]; done))
      have z41 := hx41.size
      try simp at z41
      have ry : w.heap.size < w41.heap.size := by omega
      have rya : w.heap.size < w41.heap.size + 1 := by omega
      have ryb : w.heap.size < w41.heap.size + 1 + 1 := by omega
      have ryc : w.heap.size < w41.heap.size + 1 + 1 + 1 := by omega
      have ryn : ¬ w.heap.size = w41.heap.size := by omega
      replace HRd := Lib.hid (HRd.out.ext (Ext.trans (by repeat (first | with_reducible exact Ext.refl _ | with_reducible refine Ext.drew ?_ | with_reducible refine Ext.drewN ?_ _ | with_reducible refine Ext.alloc ?_ _ | with_reducible refine Ext.setCell ?_ (by first | omega | (simp; done) | (simp; omega)) _)) hx41))
      replace HO := Lib.hid (HO.out.ext (Ext.trans (by repeat (first | with_reducible exact Ext.refl _ | with_reducible refine Ext.drew ?_ | with_reducible refine Ext.drewN ?_ _ | with_reducible refine Ext.alloc ?_ _ | with_reducible refine Ext.setCell ?_ (by first | omega | (simp; done) | (simp; omega)) _)) hx41))
      have X41 : Hid (Ext w w41) := Lib.hid (Ext.trans (by repeat (first | with_reducible exact XR.out | with_reducible refine Ext.drew ?_ | with_reducible refine Ext.drewN ?_ _ | with_reducible refine Ext.alloc ?_ _ | with_reducible refine Ext.setCell ?_ (by first | omega | (simp; done) | (simp; omega)) _)) hx41)
      clear XR hx41 z41
      by_cases he : e ≠ 0
      · have e7 : (e != 0) = true := by simpa using he
        go_wp2_with fail
        refine wp_region_held_drew (S := fun w' => w'.cell? ⟨w41.heap.size, 0, none⟩ = some (.int .i64 e) ∧ w'.cell? ⟨w41.heap.size, 1, none⟩ = some (.int .i64 a)) (by kernel_rfl) (by first | exact ⟨c0_0, c0_1⟩ | (simp [go_sem, World.cell?_alloc_past, y_0f, y_1f, y_0, y_1, ry, rya, ryb, ryc, ryn]; done)) (fun hHeld => ?_)
        (refine' take_in 0 rfl (by kernel_rfl) (by kernel_rfl) (by kernel_rfl) (fun _ _ _ h => h) (by rfl) (by assumption) ?_ ?_; rotate_left; focus (intro w hSw; (try dsimp only at hSw); go_simp; try with_reducible rfl)); try simp only [Act.put, List.setIfInBounds_toArray, List.set_cons_zero, List.set_cons_succ]
        (refine' take_in 1 rfl (by kernel_rfl) (by kernel_rfl) (by kernel_rfl) (fun _ _ _ h => h) (by rfl) (by assumption) ?_ ?_; rotate_left; focus (intro w hSw; (try dsimp only at hSw); go_simp; try with_reducible rfl)); try simp only [Act.put, List.setIfInBounds_toArray, List.set_cons_zero, List.set_cons_succ]
        refine' next_in 2 rfl (by kernel_rfl) (by rfl) (fun K hK => ?_)
        go_simp
        refine hK.out _ _ (by (first | exact ⟨c0_0, c0_1⟩ | (simp [go_sem, World.cell?_alloc_past, y_0f, y_1f, y_0, y_1, ry, rya, ryb, ryc, ryn]; done))) (fun hHeld => ?_); clear hK K; try simp only [Act.put, List.setIfInBounds_toArray, List.set_cons_zero, List.set_cons_succ]
        refine wpAnyH_done (by kernel_rfl) ?_ _
        obtain rfl : R = ([], e, a) := HE.out.trans (if_neg he)
        go_wp2_with fail
        refine bodyPost_ret (v := .tuple #[.slice none 0 0, .agg #[.int .i64 e, .int .i64 a]]) (by simp [results, Try.results66, go_sem, World.cell?_alloc_past, y_0f, y_1f, y_0, y_1, ry, rya, ryb, ryc, ryn]; try rfl) rfl (RetHopV.nil (xs := [.agg #[.int .i64 e, .int .i64 a]]) ?_)
        exact (by repeat (first | with_reducible exact X41.out | with_reducible refine Ext.drew ?_ | with_reducible refine Ext.drewN ?_ _ | with_reducible refine Ext.alloc ?_ _ | with_reducible refine Ext.setCell ?_ (by first | omega | (simp; done) | (simp; omega)) _))
      · have he2 : e = 0 := by simpa using he
        have ha2 : a = 0 := HZ.out he2
        subst he2; subst ha2
        go_wp2_with fail
        refine wp_region_held_drew (S := fun w' => w'.cell? ⟨w41.heap.size, 0, none⟩ = some (.int .i64 0) ∧ w'.cell? ⟨w41.heap.size, 1, none⟩ = some (.int .i64 0)) (by kernel_rfl) (by first | exact ⟨c0_0, c0_1⟩ | (simp [go_sem, World.cell?_alloc_past, y_0f, y_1f, y_0, y_1, ry, rya, ryb, ryc, ryn]; done)) (fun hHeld => ?_)
        (refine' take_in 0 rfl (by kernel_rfl) (by kernel_rfl) (by kernel_rfl) (fun _ _ _ h => h) (by rfl) (by assumption) ?_ ?_; rotate_left; focus (intro w hSw; (try dsimp only at hSw); go_simp; try with_reducible rfl)); try simp only [Act.put, List.setIfInBounds_toArray, List.set_cons_zero, List.set_cons_succ]
        (refine' take_in 1 rfl (by kernel_rfl) (by kernel_rfl) (by kernel_rfl) (fun _ _ _ h => h) (by rfl) (by assumption) ?_ ?_; rotate_left; focus (intro w hSw; (try dsimp only at hSw); go_simp; try with_reducible rfl)); try simp only [Act.put, List.setIfInBounds_toArray, List.set_cons_zero, List.set_cons_succ]
        (refine' take_in 2 rfl (by kernel_rfl) (by kernel_rfl) (by kernel_rfl) (fun _ _ _ h => h) (by rfl) (by assumption) ?_ ?_; rotate_left; focus (intro w hSw; (try dsimp only at hSw); go_simp; try with_reducible rfl)); try simp only [Act.put, List.setIfInBounds_toArray, List.set_cons_zero, List.set_cons_succ]
        refine' next_in 3 rfl (by kernel_rfl) (by rfl) (fun K hK => ?_)
        go_simp
        refine hK.out _ _ (by (first | exact ⟨c0_0, c0_1⟩ | (simp [go_sem, World.cell?_alloc_past, y_0f, y_1f, y_0, y_1, ry, rya, ryb, ryc, ryn]; done))) (fun hHeld => ?_); clear hK K; try simp only [Act.put, List.setIfInBounds_toArray, List.set_cons_zero, List.set_cons_succ]
        refine wpAnyH_done (by kernel_rfl) ?_ _
        obtain rfl : R = (out, 0, 0) := by have h := HE.out; simpa using h
        go_wp2_with fail
        refine bodyPost_ret (v := .tuple #[.slice A9 out.length c9, .agg #[.int .i64 0, .int .i64 0]]) (by simp [results, Try.results66, go_sem, World.cell?_alloc_past, y_0f, y_1f, y_0, y_1, ry, rya, ryb, ryc, ryn]; try rfl) rfl (RetHopV.mk (n := out.length) (xs := [.agg #[.int .i64 0, .int .i64 0]]) ?_ (by repeat (first | with_reducible exact X41.out | with_reducible refine Ext.drew ?_ | with_reducible refine Ext.drewN ?_ _ | with_reducible refine Ext.alloc ?_ _ | with_reducible refine Ext.setCell ?_ (by first | omega | (simp; done) | (simp; omega)) _)) rfl)
        exact own_lower (own_but (S := fun j => j = w.heap.size ∨ w41.heap.size ≤ j) HO.out.own (by repeat (first | with_reducible exact But.refl _ _ | with_reducible refine But.drew ?_ | with_reducible refine But.drewN ?_ _ | with_reducible refine But.alloc ?_ _ | with_reducible refine But.setCell ?_ (by first | exact Or.inl rfl | (exact Or.inr (by (show _ ≤ _); omega))) _)) (fun j hj hh => by have h1 := own_block HO.out.own hj; rcases hh with hh | hh <;> omega)) (by omega)
    · have hkn : (j : Int) < N := by omega
      by_cases hfn : s.2.1 = none
      · skip
        have hE00 : E0 = 0 := by rw [hE0, hfn]; rfl
        subst hE00
        have hjs : (j : Int) ≤ 4096 := by omega
        have hnext : hopRd L (hopS0 L) (j + 1) = hopRd1 L s := by rw [hopRd, ← hs]
        obtain ⟨k, f, out⟩ := s
        simp only at hr ho hlen hfn
        subst hfn
        obtain ⟨x0, hx0⟩ : ∃ v, v = rnV L k none 0 63 := ⟨_, rfl⟩
        obtain ⟨k1, hk1⟩ : ∃ v, v = rnK L k none 0 63 := ⟨_, rfl⟩
        obtain ⟨f1, hf1⟩ : ∃ v, v = rnF L k none 0 63 := ⟨_, rfl⟩
        obtain ⟨x1, hx1⟩ : ∃ v, v = rnV L k1 f1 0 31 := ⟨_, rfl⟩
        obtain ⟨k2, hk2⟩ : ∃ v, v = rnK L k1 f1 0 31 := ⟨_, rfl⟩
        obtain ⟨f2, hf2⟩ : ∃ v, v = rnF L k1 f1 0 31 := ⟨_, rfl⟩
        obtain ⟨x2, hx2⟩ : ∃ v, v = rnV L k2 f2 0 31 := ⟨_, rfl⟩
        obtain ⟨k3, hk3⟩ : ∃ v, v = rnK L k2 f2 0 31 := ⟨_, rfl⟩
        obtain ⟨f3, hf3⟩ : ∃ v, v = rnF L k2 f2 0 31 := ⟨_, rfl⟩
        obtain ⟨f4, hf4⟩ : ∃ v, v = if x2 = x1 then failF f3 3 (atF f2 k2) else f3 := ⟨_, rfl⟩
        obtain ⟨x3, hx3⟩ : ∃ v, v = rnV L k3 f4 1 4294967296 := ⟨_, rfl⟩
        obtain ⟨k5, hk5⟩ : ∃ v, v = rnK L k3 f4 1 4294967296 := ⟨_, rfl⟩
        obtain ⟨f5, hf5⟩ : ∃ v, v = rnF L k3 f4 1 4294967296 := ⟨_, rfl⟩
        obtain ⟨f6, hf6⟩ : ∃ v, v = if ordB out x3 = true then failF f5 9 (atF f4 k3) else f5 := ⟨_, rfl⟩
        have hstep := hnext.trans (hopRd1_eq rfl hx0 hk1 hf1 hx1 hk2 hf2 hx2 hk3 hf3 hf4 hx3 hk5 hf5 hf6)
        have n32 : f3 = none → f2 = none := fun h => rnF_none (by rw [← hf3]; exact h)
        have n54 : f5 = none → f4 = none := fun h => rnF_none (by rw [← hf5]; exact h)
        have N32 := Lib.hid n32
        have N54 := Lib.hid n54
        have Gx0 := Lib.hid (And.intro hx0 (And.intro hk1 hf1))
        have Gx1 := Lib.hid (And.intro hx1 (And.intro hk2 hf2))
        have Gx2 := Lib.hid (And.intro hx2 (And.intro hk3 hf3))
        have Gx3 := Lib.hid (And.intro hx3 (And.intro hk5 hf5))
        have G4 := Lib.hid hf4
        have G6 := Lib.hid hf6
        have GS := Lib.hid hstep
        have GL := Lib.hid hlen
        have HK := Lib.hid (And.intro hj (And.intro hg hz))
        have HRd := hr
        have hOw := ho.out
        have HO := Lib.hid (OwnR.mk ho.out)
        have ry := hyr
        have rya : w.heap.size < wr.heap.size + 1 := by omega
        have ryb : w.heap.size < wr.heap.size + 1 + 1 := by omega
        have ryc : w.heap.size < wr.heap.size + 1 + 1 + 1 := by omega
        have ryn : ¬ w.heap.size = wr.heap.size := by omega
        clear hx hj hg hz hs hnext hr ho hlen hjN hE0 hnz hstop hNe hstep hf4 hf6 n32 n54 hx0 hk1 hf1 hx1 hk2 hf2 hx2 hk3 hf3 hx3 hk5 hf5
        by_cases hj0 : j = 0
        · subst hj0
          have HZ : Hid (ordB out x3 = false) := Lib.hid (by rw [List.eq_nil_of_length_eq_zero GL.out]; rfl)
          clear hOw
          go_wp2_with fail
          try clear gg_2
          (with_reducible refine (rN_e g k k1 L none f1 0 63 x0 (by decide) (by decide) (by decide) (by decide) hL Gx0.out.1 Gx0.out.2.1 Gx0.out.2.2 _ (RRd.butN HRd.out (by repeat (first | with_reducible exact But.refl _ _ | with_reducible refine But.drew ?_ | with_reducible refine But.drewN ?_ _ | with_reducible refine But.alloc ?_ _ | with_reducible refine But.setCell ?_ (by first | exact Nat.le_refl _ | (dsimp only; omega)) _ | with_reducible refine But.setNew ?_ (by first | omega | (simp; done) | (simp; omega)) _)))).mono ?_)
          rintro e w51 ⟨rfl, hRd, hx51⟩
          have hsz51 := hx51.size
          try simp at hsz51
          replace y_0f : w51.frozen? ⟨w.heap.size, 0, none⟩ = false := hx51.froz (by show ¬ _ = _; first | assumption | omega) (v := .int .i64 0) (by first | exact y_0 | (simp [go_sem, World.cell?_alloc_past, y_0, y_0f, y_1, y_1f, ry, rya, ryb, ryc, ryn]; done)) (by first | exact y_0f | (simp [go_sem, World.cell?_alloc_past, y_0, y_0f, y_1, y_1f, ry, rya, ryb, ryc, ryn]; done))
          replace y_1f : w51.frozen? ⟨w.heap.size, 1, none⟩ = false := hx51.froz (by show ¬ _ = _; first | assumption | omega) (v := .int .i64 0) (by first | exact y_1 | (simp [go_sem, World.cell?_alloc_past, y_0, y_0f, y_1, y_1f, ry, rya, ryb, ryc, ryn]; done)) (by first | exact y_1f | (simp [go_sem, World.cell?_alloc_past, y_0, y_0f, y_1, y_1f, ry, rya, ryb, ryc, ryn]; done))
          replace y_0 : w51.cell? ⟨w.heap.size, 0, none⟩ = some (.int .i64 0) := hx51.has (by show ¬ _ = _; first | assumption | omega) (by first | exact y_0 | (simp [go_sem, World.cell?_alloc_past, y_0, y_0f, y_1, y_1f, ry, rya, ryb, ryc, ryn]; done))
          replace y_1 : w51.cell? ⟨w.heap.size, 1, none⟩ = some (.int .i64 0) := hx51.has (by show ¬ _ = _; first | assumption | omega) (by first | exact y_1 | (simp [go_sem, World.cell?_alloc_past, y_0, y_0f, y_1, y_1f, ry, rya, ryb, ryc, ryn]; done))
          have z51 := hx51.size
          try simp at z51
          replace ry : w.heap.size < w51.heap.size := by omega
          replace rya : w.heap.size < w51.heap.size + 1 := by omega
          replace ryb : w.heap.size < w51.heap.size + 1 + 1 := by omega
          replace ryc : w.heap.size < w51.heap.size + 1 + 1 + 1 := by omega
          replace ryn : ¬ w.heap.size = w51.heap.size := by omega
          have X51 : Hid (Ext w w51) := Lib.hid (have hX := (show Ext w _ from (by repeat (first | with_reducible exact XR.out | with_reducible refine Ext.drew ?_ | with_reducible refine Ext.drewN ?_ _ | with_reducible refine Ext.alloc ?_ _ | with_reducible refine Ext.setCell ?_ (by first | omega | (simp; done) | (simp; omega)) _))); Below.trans hX (hx51.below (Ext.size hX) (fun k hk hh => by have hh2 : k = g := hh; omega)))
          replace HO := Lib.hid (OwnR.but (OwnR.butN HO.out (by repeat (first | with_reducible exact But.refl _ _ | with_reducible refine But.drew ?_ | with_reducible refine But.drewN ?_ _ | with_reducible refine But.alloc ?_ _ | with_reducible refine But.setCell ?_ (by first | exact Nat.le_refl _ | (dsimp only; omega)) _ | with_reducible refine But.setNew ?_ (by first | omega | (simp; done) | (simp; omega)) _))) hx51 (by intro j h1 h2 hh; have h3 : j = g := hh; omega))
          clear HRd
          have HRd := Lib.hid hRd
          clear hsz51 XR hx51 z51 hRd
          have hgl4 := HRd.out.lt
          replace HO := Lib.hid HO.out.raise
          go_wp2_with fail
          (with_reducible refine (rN_e g k1 k2 L f1 f2 0 31 x1 (by decide) (by decide) (by decide) (by decide) hL Gx1.out.1 Gx1.out.2.1 Gx1.out.2.2 _ (RRd.butN HRd.out (by repeat (first | with_reducible exact But.refl _ _ | with_reducible refine But.drew ?_ | with_reducible refine But.drewN ?_ _ | with_reducible refine But.alloc ?_ _ | with_reducible refine But.setCell ?_ (by first | exact Nat.le_refl _ | (dsimp only; omega)) _ | with_reducible refine But.setNew ?_ (by first | omega | (simp; done) | (simp; omega)) _)))).mono ?_)
          rintro e w52 ⟨rfl, hRd, hx52⟩
          have hsz52 := hx52.size
          try simp at hsz52
          replace y_0f : w52.frozen? ⟨w.heap.size, 0, none⟩ = false := hx52.froz (by show ¬ _ = _; first | assumption | omega) (v := .int .i64 0) (by first | exact y_0 | (simp [go_sem, World.cell?_alloc_past, y_0f, y_1f, y_0, y_1, ry, rya, ryb, ryc, ryn]; done)) (by first | exact y_0f | (simp [go_sem, World.cell?_alloc_past, y_0f, y_1f, y_0, y_1, ry, rya, ryb, ryc, ryn]; done))
          replace y_1f : w52.frozen? ⟨w.heap.size, 1, none⟩ = false := hx52.froz (by show ¬ _ = _; first | assumption | omega) (v := .int .i64 0) (by first | exact y_1 | (simp [go_sem, World.cell?_alloc_past, y_0f, y_1f, y_0, y_1, ry, rya, ryb, ryc, ryn]; done)) (by first | exact y_1f | (simp [go_sem, World.cell?_alloc_past, y_0f, y_1f, y_0, y_1, ry, rya, ryb, ryc, ryn]; done))
          replace y_0 : w52.cell? ⟨w.heap.size, 0, none⟩ = some (.int .i64 0) := hx52.has (by show ¬ _ = _; first | assumption | omega) (by first | exact y_0 | (simp [go_sem, World.cell?_alloc_past, y_0f, y_1f, y_0, y_1, ry, rya, ryb, ryc, ryn]; done))
          replace y_1 : w52.cell? ⟨w.heap.size, 1, none⟩ = some (.int .i64 0) := hx52.has (by show ¬ _ = _; first | assumption | omega) (by first | exact y_1 | (simp [go_sem, World.cell?_alloc_past, y_0f, y_1f, y_0, y_1, ry, rya, ryb, ryc, ryn]; done))
          have c0_1f : w52.frozen? ⟨w51.heap.size, 1, none⟩ = false := hx52.froz (by show ¬ _ = _; first | assumption | omega) (v := .int .i64 0) (by first | fail | (simp [go_sem, World.cell?_alloc_past, y_0f, y_1f, y_0, y_1, ry, rya, ryb, ryc, ryn]; done)) (by first | fail | (simp [go_sem, World.cell?_alloc_past, y_0f, y_1f, y_0, y_1, ry, rya, ryb, ryc, ryn]; done))
          have c0_2f : w52.frozen? ⟨w51.heap.size, 2, none⟩ = false := hx52.froz (by show ¬ _ = _; first | assumption | omega) (v := .int .i64 0) (by first | fail | (simp [go_sem, World.cell?_alloc_past, y_0f, y_1f, y_0, y_1, ry, rya, ryb, ryc, ryn]; done)) (by first | fail | (simp [go_sem, World.cell?_alloc_past, y_0f, y_1f, y_0, y_1, ry, rya, ryb, ryc, ryn]; done))
          have c0_3f : w52.frozen? ⟨w51.heap.size, 3, none⟩ = false := hx52.froz (by show ¬ _ = _; first | assumption | omega) (v := .int .i64 0) (by first | fail | (simp [go_sem, World.cell?_alloc_past, y_0f, y_1f, y_0, y_1, ry, rya, ryb, ryc, ryn]; done)) (by first | fail | (simp [go_sem, World.cell?_alloc_past, y_0f, y_1f, y_0, y_1, ry, rya, ryb, ryc, ryn]; done))
          have c0_0 : w52.cell? ⟨w51.heap.size, 0, none⟩ = some (.int .i64 x0) := hx52.has (by show ¬ _ = _; first | assumption | omega) (by first | fail | (simp [go_sem, World.cell?_alloc_past, y_0f, y_1f, y_0, y_1, ry, rya, ryb, ryc, ryn]; done))
          have c0_1 : w52.cell? ⟨w51.heap.size, 1, none⟩ = some (.int .i64 0) := hx52.has (by show ¬ _ = _; first | assumption | omega) (by first | fail | (simp [go_sem, World.cell?_alloc_past, y_0f, y_1f, y_0, y_1, ry, rya, ryb, ryc, ryn]; done))
          have c0_2 : w52.cell? ⟨w51.heap.size, 2, none⟩ = some (.int .i64 0) := hx52.has (by show ¬ _ = _; first | assumption | omega) (by first | fail | (simp [go_sem, World.cell?_alloc_past, y_0f, y_1f, y_0, y_1, ry, rya, ryb, ryc, ryn]; done))
          have c0_3 : w52.cell? ⟨w51.heap.size, 3, none⟩ = some (.int .i64 0) := hx52.has (by show ¬ _ = _; first | assumption | omega) (by first | fail | (simp [go_sem, World.cell?_alloc_past, y_0f, y_1f, y_0, y_1, ry, rya, ryb, ryc, ryn]; done))
          have z52 := hx52.size
          try simp at z52
          have lt_y_c0 : w.heap.size < w51.heap.size := by omega
          have ne_y_c0 : ¬ w.heap.size = w51.heap.size := by omega
          have ne_c0_y : ¬ w51.heap.size = w.heap.size := by omega
          replace ry : w.heap.size < w52.heap.size := by omega
          replace rya : w.heap.size < w52.heap.size + 1 := by omega
          replace ryb : w.heap.size < w52.heap.size + 1 + 1 := by omega
          replace ryc : w.heap.size < w52.heap.size + 1 + 1 + 1 := by omega
          replace ryn : ¬ w.heap.size = w52.heap.size := by omega
          have rc0 : w51.heap.size < w52.heap.size := by omega
          have rc0a : w51.heap.size < w52.heap.size + 1 := by omega
          have rc0b : w51.heap.size < w52.heap.size + 1 + 1 := by omega
          have rc0c : w51.heap.size < w52.heap.size + 1 + 1 + 1 := by omega
          have rc0n : ¬ w51.heap.size = w52.heap.size := by omega
          have X52 : Hid (Ext w w52) := Lib.hid (have hX := (show Ext w _ from (by repeat (first | with_reducible exact X51.out | with_reducible refine Ext.drew ?_ | with_reducible refine Ext.drewN ?_ _ | with_reducible refine Ext.alloc ?_ _ | with_reducible refine Ext.setCell ?_ (by first | omega | (simp; done) | (simp; omega)) _))); Below.trans hX (hx52.below (Ext.size hX) (fun k hk hh => by have hh2 : k = g := hh; omega)))
          replace HO := Lib.hid (OwnR.but (OwnR.butN HO.out (by repeat (first | with_reducible exact But.refl _ _ | with_reducible refine But.drew ?_ | with_reducible refine But.drewN ?_ _ | with_reducible refine But.alloc ?_ _ | with_reducible refine But.setCell ?_ (by first | exact Nat.le_refl _ | (dsimp only; omega)) _ | with_reducible refine But.setNew ?_ (by first | omega | (simp; done) | (simp; omega)) _))) hx52 (by intro j h1 h2 hh; have h3 : j = g := hh; omega))
          clear HRd
          have HRd := Lib.hid hRd
          clear hsz52 X51 hx52 z52 hRd
          obtain ⟨t1, gg_1, _, htt1⟩ := HRd.out.c1
          have Ht1 : Hid (f2 = none → (t1 : Int) = (k2 : Int)) := Lib.hid (fun h => by have := htt1 h; omega)
          clear htt1
          go_wp2_with fail
          try clear gg_1
          (with_reducible refine (rN_e g k2 k3 L f2 f3 0 31 x2 (by decide) (by decide) (by decide) (by decide) hL Gx2.out.1 Gx2.out.2.1 Gx2.out.2.2 _ (RRd.butN HRd.out (by repeat (first | with_reducible exact But.refl _ _ | with_reducible refine But.drew ?_ | with_reducible refine But.drewN ?_ _ | with_reducible refine But.alloc ?_ _ | with_reducible refine But.setCell ?_ (by first | exact Nat.le_refl _ | (dsimp only; omega)) _ | with_reducible refine But.setNew ?_ (by first | omega | (simp; done) | (simp; omega)) _)))).mono ?_)
          rintro e w53 ⟨rfl, hRd, hx53⟩
          have hsz53 := hx53.size
          try simp at hsz53
          replace y_0f : w53.frozen? ⟨w.heap.size, 0, none⟩ = false := hx53.froz (by show ¬ _ = _; first | assumption | omega) (v := .int .i64 0) (by first | exact y_0 | (simp [go_sem, World.cell?_alloc_past, y_0f, y_1f, y_0, y_1, c0_1f, c0_2f, c0_3f, c0_0, c0_1, c0_2, c0_3, ne_y_c0, ne_c0_y, ry, rya, ryb, ryc, ryn, rc0, rc0a, rc0b, rc0c, rc0n]; done)) (by first | exact y_0f | (simp [go_sem, World.cell?_alloc_past, y_0f, y_1f, y_0, y_1, c0_1f, c0_2f, c0_3f, c0_0, c0_1, c0_2, c0_3, ne_y_c0, ne_c0_y, ry, rya, ryb, ryc, ryn, rc0, rc0a, rc0b, rc0c, rc0n]; done))
          replace y_1f : w53.frozen? ⟨w.heap.size, 1, none⟩ = false := hx53.froz (by show ¬ _ = _; first | assumption | omega) (v := .int .i64 0) (by first | exact y_1 | (simp [go_sem, World.cell?_alloc_past, y_0f, y_1f, y_0, y_1, c0_1f, c0_2f, c0_3f, c0_0, c0_1, c0_2, c0_3, ne_y_c0, ne_c0_y, ry, rya, ryb, ryc, ryn, rc0, rc0a, rc0b, rc0c, rc0n]; done)) (by first | exact y_1f | (simp [go_sem, World.cell?_alloc_past, y_0f, y_1f, y_0, y_1, c0_1f, c0_2f, c0_3f, c0_0, c0_1, c0_2, c0_3, ne_y_c0, ne_c0_y, ry, rya, ryb, ryc, ryn, rc0, rc0a, rc0b, rc0c, rc0n]; done))
          replace y_0 : w53.cell? ⟨w.heap.size, 0, none⟩ = some (.int .i64 0) := hx53.has (by show ¬ _ = _; first | assumption | omega) (by first | exact y_0 | (simp [go_sem, World.cell?_alloc_past, y_0f, y_1f, y_0, y_1, c0_1f, c0_2f, c0_3f, c0_0, c0_1, c0_2, c0_3, ne_y_c0, ne_c0_y, ry, rya, ryb, ryc, ryn, rc0, rc0a, rc0b, rc0c, rc0n]; done))
          replace y_1 : w53.cell? ⟨w.heap.size, 1, none⟩ = some (.int .i64 0) := hx53.has (by show ¬ _ = _; first | assumption | omega) (by first | exact y_1 | (simp [go_sem, World.cell?_alloc_past, y_0f, y_1f, y_0, y_1, c0_1f, c0_2f, c0_3f, c0_0, c0_1, c0_2, c0_3, ne_y_c0, ne_c0_y, ry, rya, ryb, ryc, ryn, rc0, rc0a, rc0b, rc0c, rc0n]; done))
          replace c0_2f : w53.frozen? ⟨w51.heap.size, 2, none⟩ = false := hx53.froz (by show ¬ _ = _; first | assumption | omega) (v := .int .i64 0) (by first | exact c0_2 | (simp [go_sem, World.cell?_alloc_past, y_0f, y_1f, y_0, y_1, c0_1f, c0_2f, c0_3f, c0_0, c0_1, c0_2, c0_3, ne_y_c0, ne_c0_y, ry, rya, ryb, ryc, ryn, rc0, rc0a, rc0b, rc0c, rc0n]; done)) (by first | exact c0_2f | (simp [go_sem, World.cell?_alloc_past, y_0f, y_1f, y_0, y_1, c0_1f, c0_2f, c0_3f, c0_0, c0_1, c0_2, c0_3, ne_y_c0, ne_c0_y, ry, rya, ryb, ryc, ryn, rc0, rc0a, rc0b, rc0c, rc0n]; done))
          replace c0_3f : w53.frozen? ⟨w51.heap.size, 3, none⟩ = false := hx53.froz (by show ¬ _ = _; first | assumption | omega) (v := .int .i64 0) (by first | exact c0_3 | (simp [go_sem, World.cell?_alloc_past, y_0f, y_1f, y_0, y_1, c0_1f, c0_2f, c0_3f, c0_0, c0_1, c0_2, c0_3, ne_y_c0, ne_c0_y, ry, rya, ryb, ryc, ryn, rc0, rc0a, rc0b, rc0c, rc0n]; done)) (by first | exact c0_3f | (simp [go_sem, World.cell?_alloc_past, y_0f, y_1f, y_0, y_1, c0_1f, c0_2f, c0_3f, c0_0, c0_1, c0_2, c0_3, ne_y_c0, ne_c0_y, ry, rya, ryb, ryc, ryn, rc0, rc0a, rc0b, rc0c, rc0n]; done))
          replace c0_0 : w53.cell? ⟨w51.heap.size, 0, none⟩ = some (.int .i64 x0) := hx53.has (by show ¬ _ = _; first | assumption | omega) (by first | exact c0_0 | (simp [go_sem, World.cell?_alloc_past, y_0f, y_1f, y_0, y_1, c0_1f, c0_2f, c0_3f, c0_0, c0_1, c0_2, c0_3, ne_y_c0, ne_c0_y, ry, rya, ryb, ryc, ryn, rc0, rc0a, rc0b, rc0c, rc0n]; done))
          replace c0_1 : w53.cell? ⟨w51.heap.size, 1, none⟩ = some (.int .i64 x1) := hx53.has (by show ¬ _ = _; first | assumption | omega) (by first | exact c0_1 | (simp [go_sem, World.cell?_alloc_past, y_0f, y_1f, y_0, y_1, c0_1f, c0_2f, c0_3f, c0_0, c0_1, c0_2, c0_3, ne_y_c0, ne_c0_y, ry, rya, ryb, ryc, ryn, rc0, rc0a, rc0b, rc0c, rc0n]; done))
          replace c0_2 : w53.cell? ⟨w51.heap.size, 2, none⟩ = some (.int .i64 0) := hx53.has (by show ¬ _ = _; first | assumption | omega) (by first | exact c0_2 | (simp [go_sem, World.cell?_alloc_past, y_0f, y_1f, y_0, y_1, c0_1f, c0_2f, c0_3f, c0_0, c0_1, c0_2, c0_3, ne_y_c0, ne_c0_y, ry, rya, ryb, ryc, ryn, rc0, rc0a, rc0b, rc0c, rc0n]; done))
          replace c0_3 : w53.cell? ⟨w51.heap.size, 3, none⟩ = some (.int .i64 0) := hx53.has (by show ¬ _ = _; first | assumption | omega) (by first | exact c0_3 | (simp [go_sem, World.cell?_alloc_past, y_0f, y_1f, y_0, y_1, c0_1f, c0_2f, c0_3f, c0_0, c0_1, c0_2, c0_3, ne_y_c0, ne_c0_y, ry, rya, ryb, ryc, ryn, rc0, rc0a, rc0b, rc0c, rc0n]; done))
          have z53 := hx53.size
          try simp at z53
          replace ry : w.heap.size < w53.heap.size := by omega
          replace rya : w.heap.size < w53.heap.size + 1 := by omega
          replace ryb : w.heap.size < w53.heap.size + 1 + 1 := by omega
          replace ryc : w.heap.size < w53.heap.size + 1 + 1 + 1 := by omega
          replace ryn : ¬ w.heap.size = w53.heap.size := by omega
          replace rc0 : w51.heap.size < w53.heap.size := by omega
          replace rc0a : w51.heap.size < w53.heap.size + 1 := by omega
          replace rc0b : w51.heap.size < w53.heap.size + 1 + 1 := by omega
          replace rc0c : w51.heap.size < w53.heap.size + 1 + 1 + 1 := by omega
          replace rc0n : ¬ w51.heap.size = w53.heap.size := by omega
          have X53 : Hid (Ext w w53) := Lib.hid (have hX := (show Ext w _ from (by repeat (first | with_reducible exact X52.out | with_reducible refine Ext.drew ?_ | with_reducible refine Ext.drewN ?_ _ | with_reducible refine Ext.alloc ?_ _ | with_reducible refine Ext.setCell ?_ (by first | omega | (simp; done) | (simp; omega)) _))); Below.trans hX (hx53.below (Ext.size hX) (fun k hk hh => by have hh2 : k = g := hh; omega)))
          replace HO := Lib.hid (OwnR.but (OwnR.butN HO.out (by repeat (first | with_reducible exact But.refl _ _ | with_reducible refine But.drew ?_ | with_reducible refine But.drewN ?_ _ | with_reducible refine But.alloc ?_ _ | with_reducible refine But.setCell ?_ (by first | exact Nat.le_refl _ | (dsimp only; omega)) _ | with_reducible refine But.setNew ?_ (by first | omega | (simp; done) | (simp; omega)) _))) hx53 (by intro j h1 h2 hh; have h3 : j = g := hh; omega))
          clear HRd
          have HRd := Lib.hid hRd
          clear c0_1f hsz53 X52 hx53 z53 hRd
          obtain ⟨t2, gg_1, _, htt2⟩ := HRd.out.c1
          have Ht2 : Hid (f3 = none → (t2 : Int) = (k3 : Int)) := Lib.hid (fun h => by have := htt2 h; omega)
          clear htt2
          by_cases h12 : x2 = x1
          · have e12 : (x2 == x1) = true := by simpa using h12
            have H12 := Lib.hid h12
            clear h12
            go_wp2_with fail
            try clear gg_1
            (with_reducible refine (rFail_any g k3 L f3 3 (t1 : Int) _ (RRd.butN HRd.out (by repeat (first | with_reducible exact But.refl _ _ | with_reducible refine But.drew ?_ | with_reducible refine But.drewN ?_ _ | with_reducible refine But.alloc ?_ _ | with_reducible refine But.setCell ?_ (by first | exact Nat.le_refl _ | (dsimp only; omega)) _ | with_reducible refine But.setNew ?_ (by first | omega | (simp; done) | (simp; omega)) _)))).mono ?_)
            rintro e w54 ⟨⟨vv, rfl⟩, hRd, hx54⟩
            have hsz54 := hx54.size
            try simp at hsz54
            replace y_0f : w54.frozen? ⟨w.heap.size, 0, none⟩ = false := hx54.froz (by show ¬ _ = _; first | assumption | omega) (v := .int .i64 0) (by first | exact y_0 | (simp [go_sem, World.cell?_alloc_past, y_0f, y_1f, y_0, y_1, c0_2f, c0_3f, c0_0, c0_1, c0_2, c0_3, ne_y_c0, ne_c0_y, ry, rya, ryb, ryc, ryn, rc0, rc0a, rc0b, rc0c, rc0n]; done)) (by first | exact y_0f | (simp [go_sem, World.cell?_alloc_past, y_0f, y_1f, y_0, y_1, c0_2f, c0_3f, c0_0, c0_1, c0_2, c0_3, ne_y_c0, ne_c0_y, ry, rya, ryb, ryc, ryn, rc0, rc0a, rc0b, rc0c, rc0n]; done))
            replace y_1f : w54.frozen? ⟨w.heap.size, 1, none⟩ = false := hx54.froz (by show ¬ _ = _; first | assumption | omega) (v := .int .i64 0) (by first | exact y_1 | (simp [go_sem, World.cell?_alloc_past, y_0f, y_1f, y_0, y_1, c0_2f, c0_3f, c0_0, c0_1, c0_2, c0_3, ne_y_c0, ne_c0_y, ry, rya, ryb, ryc, ryn, rc0, rc0a, rc0b, rc0c, rc0n]; done)) (by first | exact y_1f | (simp [go_sem, World.cell?_alloc_past, y_0f, y_1f, y_0, y_1, c0_2f, c0_3f, c0_0, c0_1, c0_2, c0_3, ne_y_c0, ne_c0_y, ry, rya, ryb, ryc, ryn, rc0, rc0a, rc0b, rc0c, rc0n]; done))
            replace y_0 : w54.cell? ⟨w.heap.size, 0, none⟩ = some (.int .i64 0) := hx54.has (by show ¬ _ = _; first | assumption | omega) (by first | exact y_0 | (simp [go_sem, World.cell?_alloc_past, y_0f, y_1f, y_0, y_1, c0_2f, c0_3f, c0_0, c0_1, c0_2, c0_3, ne_y_c0, ne_c0_y, ry, rya, ryb, ryc, ryn, rc0, rc0a, rc0b, rc0c, rc0n]; done))
            replace y_1 : w54.cell? ⟨w.heap.size, 1, none⟩ = some (.int .i64 0) := hx54.has (by show ¬ _ = _; first | assumption | omega) (by first | exact y_1 | (simp [go_sem, World.cell?_alloc_past, y_0f, y_1f, y_0, y_1, c0_2f, c0_3f, c0_0, c0_1, c0_2, c0_3, ne_y_c0, ne_c0_y, ry, rya, ryb, ryc, ryn, rc0, rc0a, rc0b, rc0c, rc0n]; done))
            replace c0_3f : w54.frozen? ⟨w51.heap.size, 3, none⟩ = false := hx54.froz (by show ¬ _ = _; first | assumption | omega) (v := .int .i64 0) (by first | exact c0_3 | (simp [go_sem, World.cell?_alloc_past, y_0f, y_1f, y_0, y_1, c0_2f, c0_3f, c0_0, c0_1, c0_2, c0_3, ne_y_c0, ne_c0_y, ry, rya, ryb, ryc, ryn, rc0, rc0a, rc0b, rc0c, rc0n]; done)) (by first | exact c0_3f | (simp [go_sem, World.cell?_alloc_past, y_0f, y_1f, y_0, y_1, c0_2f, c0_3f, c0_0, c0_1, c0_2, c0_3, ne_y_c0, ne_c0_y, ry, rya, ryb, ryc, ryn, rc0, rc0a, rc0b, rc0c, rc0n]; done))
            replace c0_0 : w54.cell? ⟨w51.heap.size, 0, none⟩ = some (.int .i64 x0) := hx54.has (by show ¬ _ = _; first | assumption | omega) (by first | exact c0_0 | (simp [go_sem, World.cell?_alloc_past, y_0f, y_1f, y_0, y_1, c0_2f, c0_3f, c0_0, c0_1, c0_2, c0_3, ne_y_c0, ne_c0_y, ry, rya, ryb, ryc, ryn, rc0, rc0a, rc0b, rc0c, rc0n]; done))
            replace c0_1 : w54.cell? ⟨w51.heap.size, 1, none⟩ = some (.int .i64 x1) := hx54.has (by show ¬ _ = _; first | assumption | omega) (by first | exact c0_1 | (simp [go_sem, World.cell?_alloc_past, y_0f, y_1f, y_0, y_1, c0_2f, c0_3f, c0_0, c0_1, c0_2, c0_3, ne_y_c0, ne_c0_y, ry, rya, ryb, ryc, ryn, rc0, rc0a, rc0b, rc0c, rc0n]; done))
            replace c0_2 : w54.cell? ⟨w51.heap.size, 2, none⟩ = some (.int .i64 x2) := hx54.has (by show ¬ _ = _; first | assumption | omega) (by first | exact c0_2 | (simp [go_sem, World.cell?_alloc_past, y_0f, y_1f, y_0, y_1, c0_2f, c0_3f, c0_0, c0_1, c0_2, c0_3, ne_y_c0, ne_c0_y, ry, rya, ryb, ryc, ryn, rc0, rc0a, rc0b, rc0c, rc0n]; done))
            replace c0_3 : w54.cell? ⟨w51.heap.size, 3, none⟩ = some (.int .i64 0) := hx54.has (by show ¬ _ = _; first | assumption | omega) (by first | exact c0_3 | (simp [go_sem, World.cell?_alloc_past, y_0f, y_1f, y_0, y_1, c0_2f, c0_3f, c0_0, c0_1, c0_2, c0_3, ne_y_c0, ne_c0_y, ry, rya, ryb, ryc, ryn, rc0, rc0a, rc0b, rc0c, rc0n]; done))
            have z54 := hx54.size
            try simp at z54
            replace ry : w.heap.size < w54.heap.size := by omega
            replace rya : w.heap.size < w54.heap.size + 1 := by omega
            replace ryb : w.heap.size < w54.heap.size + 1 + 1 := by omega
            replace ryc : w.heap.size < w54.heap.size + 1 + 1 + 1 := by omega
            replace ryn : ¬ w.heap.size = w54.heap.size := by omega
            replace rc0 : w51.heap.size < w54.heap.size := by omega
            replace rc0a : w51.heap.size < w54.heap.size + 1 := by omega
            replace rc0b : w51.heap.size < w54.heap.size + 1 + 1 := by omega
            replace rc0c : w51.heap.size < w54.heap.size + 1 + 1 + 1 := by omega
            replace rc0n : ¬ w51.heap.size = w54.heap.size := by omega
            have X54 : Hid (Ext w w54) := Lib.hid (have hX := (show Ext w _ from (by repeat (first | with_reducible exact X53.out | with_reducible refine Ext.drew ?_ | with_reducible refine Ext.drewN ?_ _ | with_reducible refine Ext.alloc ?_ _ | with_reducible refine Ext.setCell ?_ (by first | omega | (simp; done) | (simp; omega)) _))); Below.trans hX (hx54.below (Ext.size hX) (fun k hk hh => by have hh2 : k = g := hh; omega)))
            replace HO := Lib.hid (OwnR.but (OwnR.butN HO.out (by repeat (first | with_reducible exact But.refl _ _ | with_reducible refine But.drew ?_ | with_reducible refine But.drewN ?_ _ | with_reducible refine But.alloc ?_ _ | with_reducible refine But.setCell ?_ (by first | exact Nat.le_refl _ | (dsimp only; omega)) _ | with_reducible refine But.setNew ?_ (by first | omega | (simp; done) | (simp; omega)) _))) hx54 (by intro j h1 h2 hh; have h3 : j = g := hh; omega))
            clear HRd
            have HRd := Lib.hid hRd
            clear c0_2f hsz54 X53 hx54 z54 hRd
            replace HRd : Hid (RRd _ g L k3 f4) := Lib.hid (by have h := HRd.out; rw [fail_at 3 (fun h => Ht1.out h) N32.out] at h; rw [G4.out, if_pos H12.out]; exact h)
            obtain ⟨t2, gg_1, _, htt2⟩ := HRd.out.c1
            have Ht2 : Hid (f4 = none → (t2 : Int) = (k3 : Int)) := Lib.hid (fun h => by have := htt2 h; omega)
            clear htt2
            go_wp2_with fail
            try clear gg_1
            (with_reducible refine (rN_e g k3 k5 L f4 f5 1 4294967296 x3 (by decide) (by decide) (by decide) (by decide) hL Gx3.out.1 Gx3.out.2.1 Gx3.out.2.2 _ (RRd.butN HRd.out (by repeat (first | with_reducible exact But.refl _ _ | with_reducible refine But.drew ?_ | with_reducible refine But.drewN ?_ _ | with_reducible refine But.alloc ?_ _ | with_reducible refine But.setCell ?_ (by first | exact Nat.le_refl _ | (dsimp only; omega)) _ | with_reducible refine But.setNew ?_ (by first | omega | (simp; done) | (simp; omega)) _)))).mono ?_)
            rintro e w55 ⟨rfl, hRd, hx55⟩
            have hsz55 := hx55.size
            try simp at hsz55
            replace y_0f : w55.frozen? ⟨w.heap.size, 0, none⟩ = false := hx55.froz (by show ¬ _ = _; first | assumption | omega) (v := .int .i64 0) (by first | exact y_0 | (simp [go_sem, World.cell?_alloc_past, y_0f, y_1f, y_0, y_1, c0_3f, c0_0, c0_1, c0_2, c0_3, ne_y_c0, ne_c0_y, ry, rya, ryb, ryc, ryn, rc0, rc0a, rc0b, rc0c, rc0n]; done)) (by first | exact y_0f | (simp [go_sem, World.cell?_alloc_past, y_0f, y_1f, y_0, y_1, c0_3f, c0_0, c0_1, c0_2, c0_3, ne_y_c0, ne_c0_y, ry, rya, ryb, ryc, ryn, rc0, rc0a, rc0b, rc0c, rc0n]; done))
            replace y_1f : w55.frozen? ⟨w.heap.size, 1, none⟩ = false := hx55.froz (by show ¬ _ = _; first | assumption | omega) (v := .int .i64 0) (by first | exact y_1 | (simp [go_sem, World.cell?_alloc_past, y_0f, y_1f, y_0, y_1, c0_3f, c0_0, c0_1, c0_2, c0_3, ne_y_c0, ne_c0_y, ry, rya, ryb, ryc, ryn, rc0, rc0a, rc0b, rc0c, rc0n]; done)) (by first | exact y_1f | (simp [go_sem, World.cell?_alloc_past, y_0f, y_1f, y_0, y_1, c0_3f, c0_0, c0_1, c0_2, c0_3, ne_y_c0, ne_c0_y, ry, rya, ryb, ryc, ryn, rc0, rc0a, rc0b, rc0c, rc0n]; done))
            replace y_0 : w55.cell? ⟨w.heap.size, 0, none⟩ = some (.int .i64 0) := hx55.has (by show ¬ _ = _; first | assumption | omega) (by first | exact y_0 | (simp [go_sem, World.cell?_alloc_past, y_0f, y_1f, y_0, y_1, c0_3f, c0_0, c0_1, c0_2, c0_3, ne_y_c0, ne_c0_y, ry, rya, ryb, ryc, ryn, rc0, rc0a, rc0b, rc0c, rc0n]; done))
            replace y_1 : w55.cell? ⟨w.heap.size, 1, none⟩ = some (.int .i64 0) := hx55.has (by show ¬ _ = _; first | assumption | omega) (by first | exact y_1 | (simp [go_sem, World.cell?_alloc_past, y_0f, y_1f, y_0, y_1, c0_3f, c0_0, c0_1, c0_2, c0_3, ne_y_c0, ne_c0_y, ry, rya, ryb, ryc, ryn, rc0, rc0a, rc0b, rc0c, rc0n]; done))
            replace c0_3f : w55.frozen? ⟨w51.heap.size, 3, none⟩ = false := hx55.froz (by show ¬ _ = _; first | assumption | omega) (v := .int .i64 0) (by first | exact c0_3 | (simp [go_sem, World.cell?_alloc_past, y_0f, y_1f, y_0, y_1, c0_3f, c0_0, c0_1, c0_2, c0_3, ne_y_c0, ne_c0_y, ry, rya, ryb, ryc, ryn, rc0, rc0a, rc0b, rc0c, rc0n]; done)) (by first | exact c0_3f | (simp [go_sem, World.cell?_alloc_past, y_0f, y_1f, y_0, y_1, c0_3f, c0_0, c0_1, c0_2, c0_3, ne_y_c0, ne_c0_y, ry, rya, ryb, ryc, ryn, rc0, rc0a, rc0b, rc0c, rc0n]; done))
            replace c0_0 : w55.cell? ⟨w51.heap.size, 0, none⟩ = some (.int .i64 x0) := hx55.has (by show ¬ _ = _; first | assumption | omega) (by first | exact c0_0 | (simp [go_sem, World.cell?_alloc_past, y_0f, y_1f, y_0, y_1, c0_3f, c0_0, c0_1, c0_2, c0_3, ne_y_c0, ne_c0_y, ry, rya, ryb, ryc, ryn, rc0, rc0a, rc0b, rc0c, rc0n]; done))
            replace c0_1 : w55.cell? ⟨w51.heap.size, 1, none⟩ = some (.int .i64 x1) := hx55.has (by show ¬ _ = _; first | assumption | omega) (by first | exact c0_1 | (simp [go_sem, World.cell?_alloc_past, y_0f, y_1f, y_0, y_1, c0_3f, c0_0, c0_1, c0_2, c0_3, ne_y_c0, ne_c0_y, ry, rya, ryb, ryc, ryn, rc0, rc0a, rc0b, rc0c, rc0n]; done))
            replace c0_2 : w55.cell? ⟨w51.heap.size, 2, none⟩ = some (.int .i64 x2) := hx55.has (by show ¬ _ = _; first | assumption | omega) (by first | exact c0_2 | (simp [go_sem, World.cell?_alloc_past, y_0f, y_1f, y_0, y_1, c0_3f, c0_0, c0_1, c0_2, c0_3, ne_y_c0, ne_c0_y, ry, rya, ryb, ryc, ryn, rc0, rc0a, rc0b, rc0c, rc0n]; done))
            replace c0_3 : w55.cell? ⟨w51.heap.size, 3, none⟩ = some (.int .i64 0) := hx55.has (by show ¬ _ = _; first | assumption | omega) (by first | exact c0_3 | (simp [go_sem, World.cell?_alloc_past, y_0f, y_1f, y_0, y_1, c0_3f, c0_0, c0_1, c0_2, c0_3, ne_y_c0, ne_c0_y, ry, rya, ryb, ryc, ryn, rc0, rc0a, rc0b, rc0c, rc0n]; done))
            have z55 := hx55.size
            try simp at z55
            replace ry : w.heap.size < w55.heap.size := by omega
            replace rya : w.heap.size < w55.heap.size + 1 := by omega
            replace ryb : w.heap.size < w55.heap.size + 1 + 1 := by omega
            replace ryc : w.heap.size < w55.heap.size + 1 + 1 + 1 := by omega
            replace ryn : ¬ w.heap.size = w55.heap.size := by omega
            replace rc0 : w51.heap.size < w55.heap.size := by omega
            replace rc0a : w51.heap.size < w55.heap.size + 1 := by omega
            replace rc0b : w51.heap.size < w55.heap.size + 1 + 1 := by omega
            replace rc0c : w51.heap.size < w55.heap.size + 1 + 1 + 1 := by omega
            replace rc0n : ¬ w51.heap.size = w55.heap.size := by omega
            have X55 : Hid (Ext w w55) := Lib.hid (have hX := (show Ext w _ from (by repeat (first | with_reducible exact X54.out | with_reducible refine Ext.drew ?_ | with_reducible refine Ext.drewN ?_ _ | with_reducible refine Ext.alloc ?_ _ | with_reducible refine Ext.setCell ?_ (by first | omega | (simp; done) | (simp; omega)) _))); Below.trans hX (hx55.below (Ext.size hX) (fun k hk hh => by have hh2 : k = g := hh; omega)))
            replace HO := Lib.hid (OwnR.but (OwnR.butN HO.out (by repeat (first | with_reducible exact But.refl _ _ | with_reducible refine But.drew ?_ | with_reducible refine But.drewN ?_ _ | with_reducible refine But.alloc ?_ _ | with_reducible refine But.setCell ?_ (by first | exact Nat.le_refl _ | (dsimp only; omega)) _ | with_reducible refine But.setNew ?_ (by first | omega | (simp; done) | (simp; omega)) _))) hx55 (by intro j h1 h2 hh; have h3 : j = g := hh; omega))
            clear HRd
            have HRd := Lib.hid hRd
            clear hsz55 X54 hx55 z55 hRd
            go_wp2_with fail
            refine wp_region_held_drew (S := fun w' => True) (by kernel_rfl) (by first | exact trivial | (simp [go_sem, World.cell?_alloc_past, y_0f, y_1f, y_0, y_1, c0_3f, c0_0, c0_1, c0_2, c0_3, ne_y_c0, ne_c0_y, ry, rya, ryb, ryc, ryn, rc0, rc0a, rc0b, rc0c, rc0n]; done)) (fun hHeld => ?_)
            (refine' take_in 0 rfl (by kernel_rfl) (by kernel_rfl) (by kernel_rfl) (fun _ _ _ h => h) (by rfl) (by assumption) ?_ ?_; rotate_left; focus (intro w hSw; (try dsimp only at hSw); go_simp; try with_reducible rfl)); try simp only [Act.put, List.setIfInBounds_toArray, List.set_cons_zero, List.set_cons_succ]
            (refine' take_in 1 rfl (by kernel_rfl) (by kernel_rfl) (by kernel_rfl) (fun _ _ _ h => h) (by rfl) (by assumption) ?_ ?_; rotate_left; focus (intro w hSw; (try dsimp only at hSw); go_simp; try with_reducible rfl)); try simp only [Act.put, List.setIfInBounds_toArray, List.set_cons_zero, List.set_cons_succ]
            (refine' take_in 2 rfl (by kernel_rfl) (by kernel_rfl) (by kernel_rfl) (fun _ _ _ h => h) (by rfl) (by assumption) ?_ ?_; rotate_left; focus (intro w hSw; (try dsimp only at hSw); go_simp; try with_reducible rfl)); try simp only [Act.put, List.setIfInBounds_toArray, List.set_cons_zero, List.set_cons_succ]
            (refine' skip_in 3 rfl (by kernel_rfl) (by kernel_rfl) (by kernel_rfl) (fun _ _ _ h => h) (by rfl) (by assumption) ?_); try simp only [Act.put, List.setIfInBounds_toArray, List.set_cons_zero, List.set_cons_succ]
            (refine' skip_in 4 rfl (by kernel_rfl) (by kernel_rfl) (by kernel_rfl) (fun _ _ _ h => h) (by rfl) (by assumption) ?_); try simp only [Act.put, List.setIfInBounds_toArray, List.set_cons_zero, List.set_cons_succ]
            (refine' skip_in 5 rfl (by kernel_rfl) (by kernel_rfl) (by kernel_rfl) (fun _ _ _ h => h) (by rfl) (by assumption) ?_); try simp only [Act.put, List.setIfInBounds_toArray, List.set_cons_zero, List.set_cons_succ]
            (refine' skip_in 6 rfl (by kernel_rfl) (by kernel_rfl) (by kernel_rfl) (fun _ _ _ h => h) (by rfl) (by assumption) ?_); try simp only [Act.put, List.setIfInBounds_toArray, List.set_cons_zero, List.set_cons_succ]
            (refine' skip_in 7 rfl (by kernel_rfl) (by kernel_rfl) (by kernel_rfl) (fun _ _ _ h => h) (by rfl) (by assumption) ?_); try simp only [Act.put, List.setIfInBounds_toArray, List.set_cons_zero, List.set_cons_succ]
            (refine' skip_in 8 rfl (by kernel_rfl) (by kernel_rfl) (by kernel_rfl) (fun _ _ _ h => h) (by rfl) (by assumption) ?_); try simp only [Act.put, List.setIfInBounds_toArray, List.set_cons_zero, List.set_cons_succ]
            (refine' skip_in 9 rfl (by kernel_rfl) (by kernel_rfl) (by kernel_rfl) (fun _ _ _ h => h) (by rfl) (by assumption) ?_); try simp only [Act.put, List.setIfInBounds_toArray, List.set_cons_zero, List.set_cons_succ]
            (refine' skip_in 10 rfl (by kernel_rfl) (by kernel_rfl) (by kernel_rfl) (fun _ _ _ h => h) (by rfl) (by assumption) ?_); try simp only [Act.put, List.setIfInBounds_toArray, List.set_cons_zero, List.set_cons_succ]
            (refine' skip_in 11 rfl (by kernel_rfl) (by kernel_rfl) (by kernel_rfl) (fun _ _ _ h => h) (by rfl) (by assumption) ?_); try simp only [Act.put, List.setIfInBounds_toArray, List.set_cons_zero, List.set_cons_succ]
            (refine' take_in 12 rfl (by kernel_rfl) (by kernel_rfl) (by kernel_rfl) (fun _ _ _ h => h) (by rfl) (by assumption) ?_ ?_; rotate_left; focus (intro w hSw; (try dsimp only at hSw); go_simp; try with_reducible rfl)); try simp only [Act.put, List.setIfInBounds_toArray, List.set_cons_zero, List.set_cons_succ]
            refine wpAnyH_done (by kernel_rfl) ?_ _
            have h65 : f6 = f5 := by rw [G6.out, HZ.out]; rfl
            have hnow : RRd (w55.setCell ⟨w51.heap.size, 3, none⟩ (.int .i64 x3)) g L k5 f5 := (RRd.butN HRd.out (by repeat (first | with_reducible exact But.refl _ _ | with_reducible refine But.drew ?_ | with_reducible refine But.drewN ?_ _ | with_reducible refine But.alloc ?_ _ | with_reducible refine But.setCell ?_ (by first | exact Nat.le_refl _ | (dsimp only; omega)) _ | with_reducible refine But.setNew ?_ (by first | omega | (simp; done) | (simp; omega)) _)))
            replace HRd : Hid (RRd (w55.setCell ⟨w51.heap.size, 3, none⟩ (.int .i64 x3)) g L k5 f6) := Lib.hid (by rw [h65]; exact hnow)
            clear h65 hnow
            have HRm : Hid (RRd (w55.setCell ⟨w51.heap.size, 3, none⟩ (.int .i64 x3)) g L k5 f6) := Lib.hid HRd.out
            have HOm := Lib.hid (show OwnR w51.heap.size (w55.setCell ⟨w51.heap.size, 3, none⟩ (.int .i64 x3)) (g + 1) 24 4 (u5) out.length (out.flatMap hopC) from (OwnR.butN HO.out (by repeat (first | with_reducible exact But.refl _ _ | with_reducible refine But.drew ?_ | with_reducible refine But.drewN ?_ _ | with_reducible refine But.alloc ?_ _ | with_reducible refine But.setCell ?_ (by first | exact Nat.le_refl _ | (dsimp only; omega)) _ | with_reducible refine But.setNew ?_ (by first | omega | (simp; done) | (simp; omega)) _)))).own
            have Xm : Hid (Ext w (w55.setCell ⟨w51.heap.size, 3, none⟩ (.int .i64 x3))) := Lib.hid (by repeat (first | with_reducible exact X55.out | with_reducible refine Ext.drew ?_ | with_reducible refine Ext.drewN ?_ _ | with_reducible refine Ext.alloc ?_ _ | with_reducible refine Ext.setCell ?_ (by first | omega | (simp; done) | (simp; omega)) _))
            have hgm := HRm.out.lt
            go_wp2_with (at_builtin; refine wpList_append_slB _ rfl _ _ 22 rfl (g + 1) 24 i0 (.agg #[.int .i64 0, .int .i64 0, .int .i64 0, .int .i64 0]) 4 32 Try.underlying22 hi0 hz0 hz1 hz2 rfl (by decide) (u5) out.length _ (by rfl) (HOm.out.alloc _) (some ⟨w55.heap.size, 0, none⟩) 1 1 (hopC (x0, x1, x2, x3)) (by first | rfl | (simp [Act.eval]; done) | (simp [Act.eval, go_sem]; done)) (Sl.addrH (sl_new _ 24 4 #[.int .i64 x0, .int .i64 x1, .int .i64 x2, .int .i64 x3] 1 rfl (by decide)) (by first | rfl | (simp; done))) (by intro u hu; simp [hopC] at hu; rcases hu with rfl | rfl | rfl | rfl <;> rfl) (by have := GL.out; omega) (by decide) (by simp at hgm ⊢; omega) ?_; intro v2 wn hown2 hb2 hn2)
            have HOa := own_keep HOm.out (Ext.drew ((Ext.refl _).alloc (.cells #[.int .i64 x0, .int .i64 x1, .int .i64 x2, .int .i64 x3] 24)))
            have hwb : ¬ (Value.ownBlock (u5) = some w.heap.size) := fun hh => by have := (own_block HOa hh).1; omega
            go_roundg (gk - 1)
            case measure => have := HK.out; omega
            case rel =>
              have e : N - (gk - 1) = 0 + 1 := by have := HK.out; omega
              rw [e, GS.out]
              refine ⟨by have := HK.out; omega, num_eq (by have := HK.out; omega), Lib.hid ?_, Lib.hid ?_, ⟨?_, ?_, ?_, ?_⟩, ?_⟩
              · exact (HRm.out.ext (Ext.drew ((Ext.refl _).alloc (.cells #[.int .i64 x0, .int .i64 x1, .int .i64 x2, .int .i64 x3] 24)))).butT hb2 (fun j _ hj => by have := (own_block HOa hj).1; omega)
              · simpa [List.flatMap_append] using hown2
              · exact hb2.has hwb ((Ext.drew ((Ext.refl _).alloc (.cells #[.int .i64 x0, .int .i64 x1, .int .i64 x2, .int .i64 x3] 24))).has (by first | exact y_0 | (simp [go_sem, World.cell?_alloc_past, y_0f, y_1f, y_0, y_1, c0_3f, c0_0, c0_1, c0_2, c0_3, ne_y_c0, ne_c0_y, ry, rya, ryb, ryc, ryn, rc0, rc0a, rc0b, rc0c, rc0n]; done)))
              · exact hb2.has hwb ((Ext.drew ((Ext.refl _).alloc (.cells #[.int .i64 x0, .int .i64 x1, .int .i64 x2, .int .i64 x3] 24))).has (by first | exact y_1 | (simp [go_sem, World.cell?_alloc_past, y_0f, y_1f, y_0, y_1, c0_3f, c0_0, c0_1, c0_2, c0_3, ne_y_c0, ne_c0_y, ry, rya, ryb, ryc, ryn, rc0, rc0a, rc0b, rc0c, rc0n]; done)))
              · exact hb2.froz hwb (v := .int .i64 0) ((Ext.drew ((Ext.refl _).alloc (.cells #[.int .i64 x0, .int .i64 x1, .int .i64 x2, .int .i64 x3] 24))).has (by first | exact y_0 | (simp [go_sem, World.cell?_alloc_past, y_0f, y_1f, y_0, y_1, c0_3f, c0_0, c0_1, c0_2, c0_3, ne_y_c0, ne_c0_y, ry, rya, ryb, ryc, ryn, rc0, rc0a, rc0b, rc0c, rc0n]; done))) ((Ext.drew ((Ext.refl _).alloc (.cells #[.int .i64 x0, .int .i64 x1, .int .i64 x2, .int .i64 x3] 24))).froz (v := .int .i64 0) (by first | exact y_0 | (simp [go_sem, World.cell?_alloc_past, y_0f, y_1f, y_0, y_1, c0_3f, c0_0, c0_1, c0_2, c0_3, ne_y_c0, ne_c0_y, ry, rya, ryb, ryc, ryn, rc0, rc0a, rc0b, rc0c, rc0n]; done)) (by first | exact y_0f | (simp [go_sem, World.cell?_alloc_past, y_0f, y_1f, y_0, y_1, c0_3f, c0_0, c0_1, c0_2, c0_3, ne_y_c0, ne_c0_y, ry, rya, ryb, ryc, ryn, rc0, rc0a, rc0b, rc0c, rc0n]; done)))
              · exact hb2.froz hwb (v := .int .i64 0) ((Ext.drew ((Ext.refl _).alloc (.cells #[.int .i64 x0, .int .i64 x1, .int .i64 x2, .int .i64 x3] 24))).has (by first | exact y_1 | (simp [go_sem, World.cell?_alloc_past, y_0f, y_1f, y_0, y_1, c0_3f, c0_0, c0_1, c0_2, c0_3, ne_y_c0, ne_c0_y, ry, rya, ryb, ryc, ryn, rc0, rc0a, rc0b, rc0c, rc0n]; done))) ((Ext.drew ((Ext.refl _).alloc (.cells #[.int .i64 x0, .int .i64 x1, .int .i64 x2, .int .i64 x3] 24))).froz (v := .int .i64 0) (by first | exact y_1 | (simp [go_sem, World.cell?_alloc_past, y_0f, y_1f, y_0, y_1, c0_3f, c0_0, c0_1, c0_2, c0_3, ne_y_c0, ne_c0_y, ry, rya, ryb, ryc, ryn, rc0, rc0a, rc0b, rc0c, rc0n]; done)) (by first | exact y_1f | (simp [go_sem, World.cell?_alloc_past, y_0f, y_1f, y_0, y_1, c0_3f, c0_0, c0_1, c0_2, c0_3, ne_y_c0, ne_c0_y, ry, rya, ryb, ryc, ryn, rc0, rc0a, rc0b, rc0c, rc0n]; done)))
              · refine (fun (hxa : Ext w _) => Below.trans hxa (hb2.below hxa.size (fun k hk hh => by have := (own_block HOa hh).1; omega))) ?_
                exact Ext.drew (Ext.alloc Xm.out _)
          · have e12 : (x2 == x1) = false := by simpa using h12
            have h43 : f4 = f3 := by rw [G4.out, if_neg h12]
            clear h12
            have hnow : RRd (w53.setCell ⟨w51.heap.size, 2, none⟩ (.int .i64 x2)) g L k3 f3 := (RRd.butN HRd.out (by repeat (first | with_reducible exact But.refl _ _ | with_reducible refine But.drew ?_ | with_reducible refine But.drewN ?_ _ | with_reducible refine But.alloc ?_ _ | with_reducible refine But.setCell ?_ (by first | exact Nat.le_refl _ | (dsimp only; omega)) _ | with_reducible refine But.setNew ?_ (by first | omega | (simp; done) | (simp; omega)) _)))
            replace HRd : Hid (RRd (w53.setCell ⟨w51.heap.size, 2, none⟩ (.int .i64 x2)) g L k3 f4) := Lib.hid (by rw [h43]; exact hnow)
            replace Ht2 : Hid (f4 = none → (t2 : Int) = (k3 : Int)) := Lib.hid (fun h => Ht2.out (by rw [← h43]; exact h))
            clear hnow h43
            go_wp2_with fail
            try clear gg_1
            (with_reducible refine (rN_e g k3 k5 L f4 f5 1 4294967296 x3 (by decide) (by decide) (by decide) (by decide) hL Gx3.out.1 Gx3.out.2.1 Gx3.out.2.2 _ HRd.out).mono ?_)
            rintro e w54 ⟨rfl, hRd, hx54⟩
            have hsz54 := hx54.size
            try simp at hsz54
            replace y_0f : w54.frozen? ⟨w.heap.size, 0, none⟩ = false := hx54.froz (by show ¬ _ = _; first | assumption | omega) (v := .int .i64 0) (by first | exact y_0 | (simp [go_sem, World.cell?_alloc_past, y_0f, y_1f, y_0, y_1, c0_2f, c0_3f, c0_0, c0_1, c0_2, c0_3, ne_y_c0, ne_c0_y, ry, rya, ryb, ryc, ryn, rc0, rc0a, rc0b, rc0c, rc0n]; done)) (by first | exact y_0f | (simp [go_sem, World.cell?_alloc_past, y_0f, y_1f, y_0, y_1, c0_2f, c0_3f, c0_0, c0_1, c0_2, c0_3, ne_y_c0, ne_c0_y, ry, rya, ryb, ryc, ryn, rc0, rc0a, rc0b, rc0c, rc0n]; done))
            replace y_1f : w54.frozen? ⟨w.heap.size, 1, none⟩ = false := hx54.froz (by show ¬ _ = _; first | assumption | omega) (v := .int .i64 0) (by first | exact y_1 | (simp [go_sem, World.cell?_alloc_past, y_0f, y_1f, y_0, y_1, c0_2f, c0_3f, c0_0, c0_1, c0_2, c0_3, ne_y_c0, ne_c0_y, ry, rya, ryb, ryc, ryn, rc0, rc0a, rc0b, rc0c, rc0n]; done)) (by first | exact y_1f | (simp [go_sem, World.cell?_alloc_past, y_0f, y_1f, y_0, y_1, c0_2f, c0_3f, c0_0, c0_1, c0_2, c0_3, ne_y_c0, ne_c0_y, ry, rya, ryb, ryc, ryn, rc0, rc0a, rc0b, rc0c, rc0n]; done))
            replace y_0 : w54.cell? ⟨w.heap.size, 0, none⟩ = some (.int .i64 0) := hx54.has (by show ¬ _ = _; first | assumption | omega) (by first | exact y_0 | (simp [go_sem, World.cell?_alloc_past, y_0f, y_1f, y_0, y_1, c0_2f, c0_3f, c0_0, c0_1, c0_2, c0_3, ne_y_c0, ne_c0_y, ry, rya, ryb, ryc, ryn, rc0, rc0a, rc0b, rc0c, rc0n]; done))
            replace y_1 : w54.cell? ⟨w.heap.size, 1, none⟩ = some (.int .i64 0) := hx54.has (by show ¬ _ = _; first | assumption | omega) (by first | exact y_1 | (simp [go_sem, World.cell?_alloc_past, y_0f, y_1f, y_0, y_1, c0_2f, c0_3f, c0_0, c0_1, c0_2, c0_3, ne_y_c0, ne_c0_y, ry, rya, ryb, ryc, ryn, rc0, rc0a, rc0b, rc0c, rc0n]; done))
            replace c0_3f : w54.frozen? ⟨w51.heap.size, 3, none⟩ = false := hx54.froz (by show ¬ _ = _; first | assumption | omega) (v := .int .i64 0) (by first | exact c0_3 | (simp [go_sem, World.cell?_alloc_past, y_0f, y_1f, y_0, y_1, c0_2f, c0_3f, c0_0, c0_1, c0_2, c0_3, ne_y_c0, ne_c0_y, ry, rya, ryb, ryc, ryn, rc0, rc0a, rc0b, rc0c, rc0n]; done)) (by first | exact c0_3f | (simp [go_sem, World.cell?_alloc_past, y_0f, y_1f, y_0, y_1, c0_2f, c0_3f, c0_0, c0_1, c0_2, c0_3, ne_y_c0, ne_c0_y, ry, rya, ryb, ryc, ryn, rc0, rc0a, rc0b, rc0c, rc0n]; done))
            replace c0_0 : w54.cell? ⟨w51.heap.size, 0, none⟩ = some (.int .i64 x0) := hx54.has (by show ¬ _ = _; first | assumption | omega) (by first | exact c0_0 | (simp [go_sem, World.cell?_alloc_past, y_0f, y_1f, y_0, y_1, c0_2f, c0_3f, c0_0, c0_1, c0_2, c0_3, ne_y_c0, ne_c0_y, ry, rya, ryb, ryc, ryn, rc0, rc0a, rc0b, rc0c, rc0n]; done))
            replace c0_1 : w54.cell? ⟨w51.heap.size, 1, none⟩ = some (.int .i64 x1) := hx54.has (by show ¬ _ = _; first | assumption | omega) (by first | exact c0_1 | (simp [go_sem, World.cell?_alloc_past, y_0f, y_1f, y_0, y_1, c0_2f, c0_3f, c0_0, c0_1, c0_2, c0_3, ne_y_c0, ne_c0_y, ry, rya, ryb, ryc, ryn, rc0, rc0a, rc0b, rc0c, rc0n]; done))
            replace c0_2 : w54.cell? ⟨w51.heap.size, 2, none⟩ = some (.int .i64 x2) := hx54.has (by show ¬ _ = _; first | assumption | omega) (by first | exact c0_2 | (simp [go_sem, World.cell?_alloc_past, y_0f, y_1f, y_0, y_1, c0_2f, c0_3f, c0_0, c0_1, c0_2, c0_3, ne_y_c0, ne_c0_y, ry, rya, ryb, ryc, ryn, rc0, rc0a, rc0b, rc0c, rc0n]; done))
            replace c0_3 : w54.cell? ⟨w51.heap.size, 3, none⟩ = some (.int .i64 0) := hx54.has (by show ¬ _ = _; first | assumption | omega) (by first | exact c0_3 | (simp [go_sem, World.cell?_alloc_past, y_0f, y_1f, y_0, y_1, c0_2f, c0_3f, c0_0, c0_1, c0_2, c0_3, ne_y_c0, ne_c0_y, ry, rya, ryb, ryc, ryn, rc0, rc0a, rc0b, rc0c, rc0n]; done))
            have z54 := hx54.size
            try simp at z54
            replace ry : w.heap.size < w54.heap.size := by omega
            replace rya : w.heap.size < w54.heap.size + 1 := by omega
            replace ryb : w.heap.size < w54.heap.size + 1 + 1 := by omega
            replace ryc : w.heap.size < w54.heap.size + 1 + 1 + 1 := by omega
            replace ryn : ¬ w.heap.size = w54.heap.size := by omega
            replace rc0 : w51.heap.size < w54.heap.size := by omega
            replace rc0a : w51.heap.size < w54.heap.size + 1 := by omega
            replace rc0b : w51.heap.size < w54.heap.size + 1 + 1 := by omega
            replace rc0c : w51.heap.size < w54.heap.size + 1 + 1 + 1 := by omega
            replace rc0n : ¬ w51.heap.size = w54.heap.size := by omega
            have X54 : Hid (Ext w w54) := Lib.hid (have hX := (show Ext w _ from (by repeat (first | with_reducible exact X53.out | with_reducible refine Ext.drew ?_ | with_reducible refine Ext.drewN ?_ _ | with_reducible refine Ext.alloc ?_ _ | with_reducible refine Ext.setCell ?_ (by first | omega | (simp; done) | (simp; omega)) _))); Below.trans hX (hx54.below (Ext.size hX) (fun k hk hh => by have hh2 : k = g := hh; omega)))
            replace HO := Lib.hid (OwnR.but (OwnR.butN HO.out (by repeat (first | with_reducible exact But.refl _ _ | with_reducible refine But.drew ?_ | with_reducible refine But.drewN ?_ _ | with_reducible refine But.alloc ?_ _ | with_reducible refine But.setCell ?_ (by first | exact Nat.le_refl _ | (dsimp only; omega)) _ | with_reducible refine But.setNew ?_ (by first | omega | (simp; done) | (simp; omega)) _))) hx54 (by intro j h1 h2 hh; have h3 : j = g := hh; omega))
            clear HRd
            have HRd := Lib.hid hRd
            clear c0_2f hsz54 X53 hx54 z54 hRd
            go_wp2_with fail
            refine wp_region_held_drew (S := fun w' => True) (by kernel_rfl) (by first | exact trivial | (simp [go_sem, World.cell?_alloc_past, y_0f, y_1f, y_0, y_1, c0_3f, c0_0, c0_1, c0_2, c0_3, ne_y_c0, ne_c0_y, ry, rya, ryb, ryc, ryn, rc0, rc0a, rc0b, rc0c, rc0n]; done)) (fun hHeld => ?_)
            (refine' take_in 0 rfl (by kernel_rfl) (by kernel_rfl) (by kernel_rfl) (fun _ _ _ h => h) (by rfl) (by assumption) ?_ ?_; rotate_left; focus (intro w hSw; (try dsimp only at hSw); go_simp; try with_reducible rfl)); try simp only [Act.put, List.setIfInBounds_toArray, List.set_cons_zero, List.set_cons_succ]
            (refine' take_in 1 rfl (by kernel_rfl) (by kernel_rfl) (by kernel_rfl) (fun _ _ _ h => h) (by rfl) (by assumption) ?_ ?_; rotate_left; focus (intro w hSw; (try dsimp only at hSw); go_simp; try with_reducible rfl)); try simp only [Act.put, List.setIfInBounds_toArray, List.set_cons_zero, List.set_cons_succ]
            (refine' take_in 2 rfl (by kernel_rfl) (by kernel_rfl) (by kernel_rfl) (fun _ _ _ h => h) (by rfl) (by assumption) ?_ ?_; rotate_left; focus (intro w hSw; (try dsimp only at hSw); go_simp; try with_reducible rfl)); try simp only [Act.put, List.setIfInBounds_toArray, List.set_cons_zero, List.set_cons_succ]
            (refine' skip_in 3 rfl (by kernel_rfl) (by kernel_rfl) (by kernel_rfl) (fun _ _ _ h => h) (by rfl) (by assumption) ?_); try simp only [Act.put, List.setIfInBounds_toArray, List.set_cons_zero, List.set_cons_succ]
            (refine' skip_in 4 rfl (by kernel_rfl) (by kernel_rfl) (by kernel_rfl) (fun _ _ _ h => h) (by rfl) (by assumption) ?_); try simp only [Act.put, List.setIfInBounds_toArray, List.set_cons_zero, List.set_cons_succ]
            (refine' skip_in 5 rfl (by kernel_rfl) (by kernel_rfl) (by kernel_rfl) (fun _ _ _ h => h) (by rfl) (by assumption) ?_); try simp only [Act.put, List.setIfInBounds_toArray, List.set_cons_zero, List.set_cons_succ]
            (refine' skip_in 6 rfl (by kernel_rfl) (by kernel_rfl) (by kernel_rfl) (fun _ _ _ h => h) (by rfl) (by assumption) ?_); try simp only [Act.put, List.setIfInBounds_toArray, List.set_cons_zero, List.set_cons_succ]
            (refine' skip_in 7 rfl (by kernel_rfl) (by kernel_rfl) (by kernel_rfl) (fun _ _ _ h => h) (by rfl) (by assumption) ?_); try simp only [Act.put, List.setIfInBounds_toArray, List.set_cons_zero, List.set_cons_succ]
            (refine' skip_in 8 rfl (by kernel_rfl) (by kernel_rfl) (by kernel_rfl) (fun _ _ _ h => h) (by rfl) (by assumption) ?_); try simp only [Act.put, List.setIfInBounds_toArray, List.set_cons_zero, List.set_cons_succ]
            (refine' skip_in 9 rfl (by kernel_rfl) (by kernel_rfl) (by kernel_rfl) (fun _ _ _ h => h) (by rfl) (by assumption) ?_); try simp only [Act.put, List.setIfInBounds_toArray, List.set_cons_zero, List.set_cons_succ]
            (refine' skip_in 10 rfl (by kernel_rfl) (by kernel_rfl) (by kernel_rfl) (fun _ _ _ h => h) (by rfl) (by assumption) ?_); try simp only [Act.put, List.setIfInBounds_toArray, List.set_cons_zero, List.set_cons_succ]
            (refine' skip_in 11 rfl (by kernel_rfl) (by kernel_rfl) (by kernel_rfl) (fun _ _ _ h => h) (by rfl) (by assumption) ?_); try simp only [Act.put, List.setIfInBounds_toArray, List.set_cons_zero, List.set_cons_succ]
            (refine' take_in 12 rfl (by kernel_rfl) (by kernel_rfl) (by kernel_rfl) (fun _ _ _ h => h) (by rfl) (by assumption) ?_ ?_; rotate_left; focus (intro w hSw; (try dsimp only at hSw); go_simp; try with_reducible rfl)); try simp only [Act.put, List.setIfInBounds_toArray, List.set_cons_zero, List.set_cons_succ]
            refine wpAnyH_done (by kernel_rfl) ?_ _
            have h65 : f6 = f5 := by rw [G6.out, HZ.out]; rfl
            have hnow : RRd (w54.setCell ⟨w51.heap.size, 3, none⟩ (.int .i64 x3)) g L k5 f5 := (RRd.butN HRd.out (by repeat (first | with_reducible exact But.refl _ _ | with_reducible refine But.drew ?_ | with_reducible refine But.drewN ?_ _ | with_reducible refine But.alloc ?_ _ | with_reducible refine But.setCell ?_ (by first | exact Nat.le_refl _ | (dsimp only; omega)) _ | with_reducible refine But.setNew ?_ (by first | omega | (simp; done) | (simp; omega)) _)))
            replace HRd : Hid (RRd (w54.setCell ⟨w51.heap.size, 3, none⟩ (.int .i64 x3)) g L k5 f6) := Lib.hid (by rw [h65]; exact hnow)
            clear h65 hnow
            have HRm : Hid (RRd (w54.setCell ⟨w51.heap.size, 3, none⟩ (.int .i64 x3)) g L k5 f6) := Lib.hid HRd.out
            have HOm := Lib.hid (show OwnR w51.heap.size (w54.setCell ⟨w51.heap.size, 3, none⟩ (.int .i64 x3)) (g + 1) 24 4 (u5) out.length (out.flatMap hopC) from (OwnR.butN HO.out (by repeat (first | with_reducible exact But.refl _ _ | with_reducible refine But.drew ?_ | with_reducible refine But.drewN ?_ _ | with_reducible refine But.alloc ?_ _ | with_reducible refine But.setCell ?_ (by first | exact Nat.le_refl _ | (dsimp only; omega)) _ | with_reducible refine But.setNew ?_ (by first | omega | (simp; done) | (simp; omega)) _)))).own
            have Xm : Hid (Ext w (w54.setCell ⟨w51.heap.size, 3, none⟩ (.int .i64 x3))) := Lib.hid (by repeat (first | with_reducible exact X54.out | with_reducible refine Ext.drew ?_ | with_reducible refine Ext.drewN ?_ _ | with_reducible refine Ext.alloc ?_ _ | with_reducible refine Ext.setCell ?_ (by first | omega | (simp; done) | (simp; omega)) _))
            have hgm := HRm.out.lt
            go_wp2_with (at_builtin; refine wpList_append_slB _ rfl _ _ 22 rfl (g + 1) 24 i0 (.agg #[.int .i64 0, .int .i64 0, .int .i64 0, .int .i64 0]) 4 32 Try.underlying22 hi0 hz0 hz1 hz2 rfl (by decide) (u5) out.length _ (by rfl) (HOm.out.alloc _) (some ⟨w54.heap.size, 0, none⟩) 1 1 (hopC (x0, x1, x2, x3)) (by first | rfl | (simp [Act.eval]; done) | (simp [Act.eval, go_sem]; done)) (Sl.addrH (sl_new _ 24 4 #[.int .i64 x0, .int .i64 x1, .int .i64 x2, .int .i64 x3] 1 rfl (by decide)) (by first | rfl | (simp; done))) (by intro u hu; simp [hopC] at hu; rcases hu with rfl | rfl | rfl | rfl <;> rfl) (by have := GL.out; omega) (by decide) (by simp at hgm ⊢; omega) ?_; intro v2 wn hown2 hb2 hn2)
            have HOa := own_keep HOm.out (Ext.drew ((Ext.refl _).alloc (.cells #[.int .i64 x0, .int .i64 x1, .int .i64 x2, .int .i64 x3] 24)))
            have hwb : ¬ (Value.ownBlock (u5) = some w.heap.size) := fun hh => by have := (own_block HOa hh).1; omega
            go_roundg (gk - 1)
            case measure => have := HK.out; omega
            case rel =>
              have e : N - (gk - 1) = 0 + 1 := by have := HK.out; omega
              rw [e, GS.out]
              refine ⟨by have := HK.out; omega, num_eq (by have := HK.out; omega), Lib.hid ?_, Lib.hid ?_, ⟨?_, ?_, ?_, ?_⟩, ?_⟩
              · exact (HRm.out.ext (Ext.drew ((Ext.refl _).alloc (.cells #[.int .i64 x0, .int .i64 x1, .int .i64 x2, .int .i64 x3] 24)))).butT hb2 (fun j _ hj => by have := (own_block HOa hj).1; omega)
              · simpa [List.flatMap_append] using hown2
              · exact hb2.has hwb ((Ext.drew ((Ext.refl _).alloc (.cells #[.int .i64 x0, .int .i64 x1, .int .i64 x2, .int .i64 x3] 24))).has (by first | exact y_0 | (simp [go_sem, World.cell?_alloc_past, y_0f, y_1f, y_0, y_1, c0_3f, c0_0, c0_1, c0_2, c0_3, ne_y_c0, ne_c0_y, ry, rya, ryb, ryc, ryn, rc0, rc0a, rc0b, rc0c, rc0n]; done)))
              · exact hb2.has hwb ((Ext.drew ((Ext.refl _).alloc (.cells #[.int .i64 x0, .int .i64 x1, .int .i64 x2, .int .i64 x3] 24))).has (by first | exact y_1 | (simp [go_sem, World.cell?_alloc_past, y_0f, y_1f, y_0, y_1, c0_3f, c0_0, c0_1, c0_2, c0_3, ne_y_c0, ne_c0_y, ry, rya, ryb, ryc, ryn, rc0, rc0a, rc0b, rc0c, rc0n]; done)))
              · exact hb2.froz hwb (v := .int .i64 0) ((Ext.drew ((Ext.refl _).alloc (.cells #[.int .i64 x0, .int .i64 x1, .int .i64 x2, .int .i64 x3] 24))).has (by first | exact y_0 | (simp [go_sem, World.cell?_alloc_past, y_0f, y_1f, y_0, y_1, c0_3f, c0_0, c0_1, c0_2, c0_3, ne_y_c0, ne_c0_y, ry, rya, ryb, ryc, ryn, rc0, rc0a, rc0b, rc0c, rc0n]; done))) ((Ext.drew ((Ext.refl _).alloc (.cells #[.int .i64 x0, .int .i64 x1, .int .i64 x2, .int .i64 x3] 24))).froz (v := .int .i64 0) (by first | exact y_0 | (simp [go_sem, World.cell?_alloc_past, y_0f, y_1f, y_0, y_1, c0_3f, c0_0, c0_1, c0_2, c0_3, ne_y_c0, ne_c0_y, ry, rya, ryb, ryc, ryn, rc0, rc0a, rc0b, rc0c, rc0n]; done)) (by first | exact y_0f | (simp [go_sem, World.cell?_alloc_past, y_0f, y_1f, y_0, y_1, c0_3f, c0_0, c0_1, c0_2, c0_3, ne_y_c0, ne_c0_y, ry, rya, ryb, ryc, ryn, rc0, rc0a, rc0b, rc0c, rc0n]; done)))
              · exact hb2.froz hwb (v := .int .i64 0) ((Ext.drew ((Ext.refl _).alloc (.cells #[.int .i64 x0, .int .i64 x1, .int .i64 x2, .int .i64 x3] 24))).has (by first | exact y_1 | (simp [go_sem, World.cell?_alloc_past, y_0f, y_1f, y_0, y_1, c0_3f, c0_0, c0_1, c0_2, c0_3, ne_y_c0, ne_c0_y, ry, rya, ryb, ryc, ryn, rc0, rc0a, rc0b, rc0c, rc0n]; done))) ((Ext.drew ((Ext.refl _).alloc (.cells #[.int .i64 x0, .int .i64 x1, .int .i64 x2, .int .i64 x3] 24))).froz (v := .int .i64 0) (by first | exact y_1 | (simp [go_sem, World.cell?_alloc_past, y_0f, y_1f, y_0, y_1, c0_3f, c0_0, c0_1, c0_2, c0_3, ne_y_c0, ne_c0_y, ry, rya, ryb, ryc, ryn, rc0, rc0a, rc0b, rc0c, rc0n]; done)) (by first | exact y_1f | (simp [go_sem, World.cell?_alloc_past, y_0f, y_1f, y_0, y_1, c0_3f, c0_0, c0_1, c0_2, c0_3, ne_y_c0, ne_c0_y, ry, rya, ryb, ryc, ryn, rc0, rc0a, rc0b, rc0c, rc0n]; done)))
              · refine (fun (hxa : Ext w _) => Below.trans hxa (hb2.below hxa.size (fun k hk hh => by have := (own_block HOa hh).1; omega))) ?_
                exact Ext.drew (Ext.alloc Xm.out _)
        · obtain ⟨m, rfl⟩ : ∃ m, j = m + 1 := ⟨j - 1, by omega⟩
          obtain ⟨bo, co, rfl, hbo, hco⟩ : ∃ bo co, u5 = .slice (some ⟨bo, 0, none⟩) out.length co ∧ (g + 1 ≤ bo ∧ bo < wr.heap.size ∧ out.length ≤ co) ∧ ∀ j u, (out.flatMap hopC)[j]? = some u → wr.cell? ⟨bo, j, none⟩ = some u := by
            rcases hOw.2 with ⟨_, h0⟩ | ⟨b9, cap, cur, e9, hb9, hg9, hn9, _⟩
            · have := GL.out; omega
            · subst e9
              refine ⟨b9, cap, rfl, ⟨hb9, (Array.getElem?_eq_some_iff.1 hg9).1, hn9⟩, fun j u hu => ?_⟩
              have h := World.ownsRow.cells hOw rfl j u hu
              rwa [addr_add, Nat.zero_add] at h
          have hml : m < out.length := by have := GL.out; omega
          obtain ⟨⟨z0, z1, z2, z3⟩, hz⟩ : ∃ z, out[m]? = some z := ⟨out[m], List.getElem?_eq_getElem hml⟩
          have z_3 : wr.cell? ⟨bo, m * 4 + 3, none⟩ = some (.int .i64 z3) := hco (m * 4 + 3) _ (by rw [flat_get hopC_len out m 3 _ hz (by decide)]; rfl)
          have HZ : Hid (ordB out x3 = decide (x3 < z3)) := Lib.hid (ordB_last x3 hz GL.out)
          obtain ⟨hbo1, hbo2, hbo3⟩ := hbo
          have rz := hbo2
          have rza : bo < wr.heap.size + 1 := by omega
          have rzb : bo < wr.heap.size + 1 + 1 := by omega
          have rzc : bo < wr.heap.size + 1 + 1 + 1 := by omega
          have rzn : ¬ bo = wr.heap.size := by omega
          have hwm : IntKind.i64.wrap (((m + 1 : Nat) : Int) - 1) = (m : Int) := by rw [IntWalk.i64_in _ (by omega)]; omega
          have hwm2 : IntKind.i64.wrap (((m : Int) + 1) - 1) = (m : Int) := by rw [IntWalk.i64_in _ (by omega)]; omega
          have hwm3 : IntKind.i64.wrap (m : Int) = (m : Int) := IntWalk.i64_in _ (by omega)
          have hmo : (m : Int) < (out.length : Int) := by omega
          have hm0 : (0 : Int) < (m : Int) + 1 := by omega
          have hm1 : (0 : Int) < ((m + 1 : Nat) : Int) := by omega
          clear hOw hco hz hml hbo2 hj0
          go_wp2_with fail
          try clear gg_2
          (with_reducible refine (rN_e g k k1 L none f1 0 63 x0 (by decide) (by decide) (by decide) (by decide) hL Gx0.out.1 Gx0.out.2.1 Gx0.out.2.2 _ (RRd.butN HRd.out (by repeat (first | with_reducible exact But.refl _ _ | with_reducible refine But.drew ?_ | with_reducible refine But.drewN ?_ _ | with_reducible refine But.alloc ?_ _ | with_reducible refine But.setCell ?_ (by first | exact Nat.le_refl _ | (dsimp only; omega)) _ | with_reducible refine But.setNew ?_ (by first | omega | (simp; done) | (simp; omega)) _)))).mono ?_)
          rintro e w51 ⟨rfl, hRd, hx51⟩
          have hsz51 := hx51.size
          try simp at hsz51
          replace y_0f : w51.frozen? ⟨w.heap.size, 0, none⟩ = false := hx51.froz (by show ¬ _ = _; first | assumption | omega) (v := .int .i64 0) (by first | exact y_0 | (simp [go_sem, World.cell?_alloc_past, y_0, y_0f, y_1, y_1f, ry, rya, ryb, ryc, ryn, z_3, rz, rza, rzb, rzc, rzn]; done)) (by first | exact y_0f | (simp [go_sem, World.cell?_alloc_past, y_0, y_0f, y_1, y_1f, ry, rya, ryb, ryc, ryn, z_3, rz, rza, rzb, rzc, rzn]; done))
          replace y_1f : w51.frozen? ⟨w.heap.size, 1, none⟩ = false := hx51.froz (by show ¬ _ = _; first | assumption | omega) (v := .int .i64 0) (by first | exact y_1 | (simp [go_sem, World.cell?_alloc_past, y_0, y_0f, y_1, y_1f, ry, rya, ryb, ryc, ryn, z_3, rz, rza, rzb, rzc, rzn]; done)) (by first | exact y_1f | (simp [go_sem, World.cell?_alloc_past, y_0, y_0f, y_1, y_1f, ry, rya, ryb, ryc, ryn, z_3, rz, rza, rzb, rzc, rzn]; done))
          replace y_0 : w51.cell? ⟨w.heap.size, 0, none⟩ = some (.int .i64 0) := hx51.has (by show ¬ _ = _; first | assumption | omega) (by first | exact y_0 | (simp [go_sem, World.cell?_alloc_past, y_0, y_0f, y_1, y_1f, ry, rya, ryb, ryc, ryn, z_3, rz, rza, rzb, rzc, rzn]; done))
          replace y_1 : w51.cell? ⟨w.heap.size, 1, none⟩ = some (.int .i64 0) := hx51.has (by show ¬ _ = _; first | assumption | omega) (by first | exact y_1 | (simp [go_sem, World.cell?_alloc_past, y_0, y_0f, y_1, y_1f, ry, rya, ryb, ryc, ryn, z_3, rz, rza, rzb, rzc, rzn]; done))
          replace z_3 : w51.cell? ⟨bo, m * 4 + 3, none⟩ = some (.int .i64 z3) := hx51.has (by show ¬ _ = _; first | assumption | omega) (by first | exact z_3 | (simp [go_sem, World.cell?_alloc_past, y_0, y_0f, y_1, y_1f, ry, rya, ryb, ryc, ryn, z_3, rz, rza, rzb, rzc, rzn]; done))
          have z51 := hx51.size
          try simp at z51
          have ne_y_z : ¬ w.heap.size = bo := by omega
          have ne_z_y : ¬ bo = w.heap.size := by omega
          replace ry : w.heap.size < w51.heap.size := by omega
          replace rya : w.heap.size < w51.heap.size + 1 := by omega
          replace ryb : w.heap.size < w51.heap.size + 1 + 1 := by omega
          replace ryc : w.heap.size < w51.heap.size + 1 + 1 + 1 := by omega
          replace ryn : ¬ w.heap.size = w51.heap.size := by omega
          replace rz : bo < w51.heap.size := by omega
          replace rza : bo < w51.heap.size + 1 := by omega
          replace rzb : bo < w51.heap.size + 1 + 1 := by omega
          replace rzc : bo < w51.heap.size + 1 + 1 + 1 := by omega
          replace rzn : ¬ bo = w51.heap.size := by omega
          have X51 : Hid (Ext w w51) := Lib.hid (have hX := (show Ext w _ from (by repeat (first | with_reducible exact XR.out | with_reducible refine Ext.drew ?_ | with_reducible refine Ext.drewN ?_ _ | with_reducible refine Ext.alloc ?_ _ | with_reducible refine Ext.setCell ?_ (by first | omega | (simp; done) | (simp; omega)) _))); Below.trans hX (hx51.below (Ext.size hX) (fun k hk hh => by have hh2 : k = g := hh; omega)))
          replace HO := Lib.hid (OwnR.but (OwnR.butN HO.out (by repeat (first | with_reducible exact But.refl _ _ | with_reducible refine But.drew ?_ | with_reducible refine But.drewN ?_ _ | with_reducible refine But.alloc ?_ _ | with_reducible refine But.setCell ?_ (by first | exact Nat.le_refl _ | (dsimp only; omega)) _ | with_reducible refine But.setNew ?_ (by first | omega | (simp; done) | (simp; omega)) _))) hx51 (by intro j h1 h2 hh; have h3 : j = g := hh; omega))
          clear HRd
          have HRd := Lib.hid hRd
          clear hsz51 XR hx51 z51 hRd
          have hgl4 := HRd.out.lt
          replace HO := Lib.hid HO.out.raise
          go_wp2_with fail
          (with_reducible refine (rN_e g k1 k2 L f1 f2 0 31 x1 (by decide) (by decide) (by decide) (by decide) hL Gx1.out.1 Gx1.out.2.1 Gx1.out.2.2 _ (RRd.butN HRd.out (by repeat (first | with_reducible exact But.refl _ _ | with_reducible refine But.drew ?_ | with_reducible refine But.drewN ?_ _ | with_reducible refine But.alloc ?_ _ | with_reducible refine But.setCell ?_ (by first | exact Nat.le_refl _ | (dsimp only; omega)) _ | with_reducible refine But.setNew ?_ (by first | omega | (simp; done) | (simp; omega)) _)))).mono ?_)
          rintro e w52 ⟨rfl, hRd, hx52⟩
          have hsz52 := hx52.size
          try simp at hsz52
          replace y_0f : w52.frozen? ⟨w.heap.size, 0, none⟩ = false := hx52.froz (by show ¬ _ = _; first | assumption | omega) (v := .int .i64 0) (by first | exact y_0 | (simp [go_sem, World.cell?_alloc_past, y_0f, y_1f, y_0, y_1, z_3, ne_y_z, ne_z_y, ry, rya, ryb, ryc, ryn, rz, rza, rzb, rzc, rzn]; done)) (by first | exact y_0f | (simp [go_sem, World.cell?_alloc_past, y_0f, y_1f, y_0, y_1, z_3, ne_y_z, ne_z_y, ry, rya, ryb, ryc, ryn, rz, rza, rzb, rzc, rzn]; done))
          replace y_1f : w52.frozen? ⟨w.heap.size, 1, none⟩ = false := hx52.froz (by show ¬ _ = _; first | assumption | omega) (v := .int .i64 0) (by first | exact y_1 | (simp [go_sem, World.cell?_alloc_past, y_0f, y_1f, y_0, y_1, z_3, ne_y_z, ne_z_y, ry, rya, ryb, ryc, ryn, rz, rza, rzb, rzc, rzn]; done)) (by first | exact y_1f | (simp [go_sem, World.cell?_alloc_past, y_0f, y_1f, y_0, y_1, z_3, ne_y_z, ne_z_y, ry, rya, ryb, ryc, ryn, rz, rza, rzb, rzc, rzn]; done))
          replace y_0 : w52.cell? ⟨w.heap.size, 0, none⟩ = some (.int .i64 0) := hx52.has (by show ¬ _ = _; first | assumption | omega) (by first | exact y_0 | (simp [go_sem, World.cell?_alloc_past, y_0f, y_1f, y_0, y_1, z_3, ne_y_z, ne_z_y, ry, rya, ryb, ryc, ryn, rz, rza, rzb, rzc, rzn]; done))
          replace y_1 : w52.cell? ⟨w.heap.size, 1, none⟩ = some (.int .i64 0) := hx52.has (by show ¬ _ = _; first | assumption | omega) (by first | exact y_1 | (simp [go_sem, World.cell?_alloc_past, y_0f, y_1f, y_0, y_1, z_3, ne_y_z, ne_z_y, ry, rya, ryb, ryc, ryn, rz, rza, rzb, rzc, rzn]; done))
          replace z_3 : w52.cell? ⟨bo, m * 4 + 3, none⟩ = some (.int .i64 z3) := hx52.has (by show ¬ _ = _; first | assumption | omega) (by first | exact z_3 | (simp [go_sem, World.cell?_alloc_past, y_0f, y_1f, y_0, y_1, z_3, ne_y_z, ne_z_y, ry, rya, ryb, ryc, ryn, rz, rza, rzb, rzc, rzn]; done))
          have c0_1f : w52.frozen? ⟨w51.heap.size, 1, none⟩ = false := hx52.froz (by show ¬ _ = _; first | assumption | omega) (v := .int .i64 0) (by first | fail | (simp [go_sem, World.cell?_alloc_past, y_0f, y_1f, y_0, y_1, z_3, ne_y_z, ne_z_y, ry, rya, ryb, ryc, ryn, rz, rza, rzb, rzc, rzn]; done)) (by first | fail | (simp [go_sem, World.cell?_alloc_past, y_0f, y_1f, y_0, y_1, z_3, ne_y_z, ne_z_y, ry, rya, ryb, ryc, ryn, rz, rza, rzb, rzc, rzn]; done))
          have c0_2f : w52.frozen? ⟨w51.heap.size, 2, none⟩ = false := hx52.froz (by show ¬ _ = _; first | assumption | omega) (v := .int .i64 0) (by first | fail | (simp [go_sem, World.cell?_alloc_past, y_0f, y_1f, y_0, y_1, z_3, ne_y_z, ne_z_y, ry, rya, ryb, ryc, ryn, rz, rza, rzb, rzc, rzn]; done)) (by first | fail | (simp [go_sem, World.cell?_alloc_past, y_0f, y_1f, y_0, y_1, z_3, ne_y_z, ne_z_y, ry, rya, ryb, ryc, ryn, rz, rza, rzb, rzc, rzn]; done))
          have c0_3f : w52.frozen? ⟨w51.heap.size, 3, none⟩ = false := hx52.froz (by show ¬ _ = _; first | assumption | omega) (v := .int .i64 0) (by first | fail | (simp [go_sem, World.cell?_alloc_past, y_0f, y_1f, y_0, y_1, z_3, ne_y_z, ne_z_y, ry, rya, ryb, ryc, ryn, rz, rza, rzb, rzc, rzn]; done)) (by first | fail | (simp [go_sem, World.cell?_alloc_past, y_0f, y_1f, y_0, y_1, z_3, ne_y_z, ne_z_y, ry, rya, ryb, ryc, ryn, rz, rza, rzb, rzc, rzn]; done))
          have c0_0 : w52.cell? ⟨w51.heap.size, 0, none⟩ = some (.int .i64 x0) := hx52.has (by show ¬ _ = _; first | assumption | omega) (by first | fail | (simp [go_sem, World.cell?_alloc_past, y_0f, y_1f, y_0, y_1, z_3, ne_y_z, ne_z_y, ry, rya, ryb, ryc, ryn, rz, rza, rzb, rzc, rzn]; done))
          have c0_1 : w52.cell? ⟨w51.heap.size, 1, none⟩ = some (.int .i64 0) := hx52.has (by show ¬ _ = _; first | assumption | omega) (by first | fail | (simp [go_sem, World.cell?_alloc_past, y_0f, y_1f, y_0, y_1, z_3, ne_y_z, ne_z_y, ry, rya, ryb, ryc, ryn, rz, rza, rzb, rzc, rzn]; done))
          have c0_2 : w52.cell? ⟨w51.heap.size, 2, none⟩ = some (.int .i64 0) := hx52.has (by show ¬ _ = _; first | assumption | omega) (by first | fail | (simp [go_sem, World.cell?_alloc_past, y_0f, y_1f, y_0, y_1, z_3, ne_y_z, ne_z_y, ry, rya, ryb, ryc, ryn, rz, rza, rzb, rzc, rzn]; done))
          have c0_3 : w52.cell? ⟨w51.heap.size, 3, none⟩ = some (.int .i64 0) := hx52.has (by show ¬ _ = _; first | assumption | omega) (by first | fail | (simp [go_sem, World.cell?_alloc_past, y_0f, y_1f, y_0, y_1, z_3, ne_y_z, ne_z_y, ry, rya, ryb, ryc, ryn, rz, rza, rzb, rzc, rzn]; done))
          have z52 := hx52.size
          try simp at z52
          have lt_y_c0 : w.heap.size < w51.heap.size := by omega
          have ne_y_c0 : ¬ w.heap.size = w51.heap.size := by omega
          have lt_z_c0 : bo < w51.heap.size := by omega
          have ne_z_c0 : ¬ bo = w51.heap.size := by omega
          have ne_c0_y : ¬ w51.heap.size = w.heap.size := by omega
          have ne_c0_z : ¬ w51.heap.size = bo := by omega
          replace ry : w.heap.size < w52.heap.size := by omega
          replace rya : w.heap.size < w52.heap.size + 1 := by omega
          replace ryb : w.heap.size < w52.heap.size + 1 + 1 := by omega
          replace ryc : w.heap.size < w52.heap.size + 1 + 1 + 1 := by omega
          replace ryn : ¬ w.heap.size = w52.heap.size := by omega
          replace rz : bo < w52.heap.size := by omega
          replace rza : bo < w52.heap.size + 1 := by omega
          replace rzb : bo < w52.heap.size + 1 + 1 := by omega
          replace rzc : bo < w52.heap.size + 1 + 1 + 1 := by omega
          replace rzn : ¬ bo = w52.heap.size := by omega
          have rc0 : w51.heap.size < w52.heap.size := by omega
          have rc0a : w51.heap.size < w52.heap.size + 1 := by omega
          have rc0b : w51.heap.size < w52.heap.size + 1 + 1 := by omega
          have rc0c : w51.heap.size < w52.heap.size + 1 + 1 + 1 := by omega
          have rc0n : ¬ w51.heap.size = w52.heap.size := by omega
          have X52 : Hid (Ext w w52) := Lib.hid (have hX := (show Ext w _ from (by repeat (first | with_reducible exact X51.out | with_reducible refine Ext.drew ?_ | with_reducible refine Ext.drewN ?_ _ | with_reducible refine Ext.alloc ?_ _ | with_reducible refine Ext.setCell ?_ (by first | omega | (simp; done) | (simp; omega)) _))); Below.trans hX (hx52.below (Ext.size hX) (fun k hk hh => by have hh2 : k = g := hh; omega)))
          replace HO := Lib.hid (OwnR.but (OwnR.butN HO.out (by repeat (first | with_reducible exact But.refl _ _ | with_reducible refine But.drew ?_ | with_reducible refine But.drewN ?_ _ | with_reducible refine But.alloc ?_ _ | with_reducible refine But.setCell ?_ (by first | exact Nat.le_refl _ | (dsimp only; omega)) _ | with_reducible refine But.setNew ?_ (by first | omega | (simp; done) | (simp; omega)) _))) hx52 (by intro j h1 h2 hh; have h3 : j = g := hh; omega))
          clear HRd
          have HRd := Lib.hid hRd
          clear hsz52 X51 hx52 z52 hRd
          obtain ⟨t1, gg_1, _, htt1⟩ := HRd.out.c1
          have Ht1 : Hid (f2 = none → (t1 : Int) = (k2 : Int)) := Lib.hid (fun h => by have := htt1 h; omega)
          clear htt1
          go_wp2_with fail
          try clear gg_1
          (with_reducible refine (rN_e g k2 k3 L f2 f3 0 31 x2 (by decide) (by decide) (by decide) (by decide) hL Gx2.out.1 Gx2.out.2.1 Gx2.out.2.2 _ (RRd.butN HRd.out (by repeat (first | with_reducible exact But.refl _ _ | with_reducible refine But.drew ?_ | with_reducible refine But.drewN ?_ _ | with_reducible refine But.alloc ?_ _ | with_reducible refine But.setCell ?_ (by first | exact Nat.le_refl _ | (dsimp only; omega)) _ | with_reducible refine But.setNew ?_ (by first | omega | (simp; done) | (simp; omega)) _)))).mono ?_)
          rintro e w53 ⟨rfl, hRd, hx53⟩
          have hsz53 := hx53.size
          try simp at hsz53
          replace y_0f : w53.frozen? ⟨w.heap.size, 0, none⟩ = false := hx53.froz (by show ¬ _ = _; first | assumption | omega) (v := .int .i64 0) (by first | exact y_0 | (simp [go_sem, World.cell?_alloc_past, y_0f, y_1f, y_0, y_1, z_3, c0_1f, c0_2f, c0_3f, c0_0, c0_1, c0_2, c0_3, ne_y_z, ne_y_c0, ne_z_y, ne_z_c0, ne_c0_y, ne_c0_z, ry, rya, ryb, ryc, ryn, rz, rza, rzb, rzc, rzn, rc0, rc0a, rc0b, rc0c, rc0n]; done)) (by first | exact y_0f | (simp [go_sem, World.cell?_alloc_past, y_0f, y_1f, y_0, y_1, z_3, c0_1f, c0_2f, c0_3f, c0_0, c0_1, c0_2, c0_3, ne_y_z, ne_y_c0, ne_z_y, ne_z_c0, ne_c0_y, ne_c0_z, ry, rya, ryb, ryc, ryn, rz, rza, rzb, rzc, rzn, rc0, rc0a, rc0b, rc0c, rc0n]; done))
          replace y_1f : w53.frozen? ⟨w.heap.size, 1, none⟩ = false := hx53.froz (by show ¬ _ = _; first | assumption | omega) (v := .int .i64 0) (by first | exact y_1 | (simp [go_sem, World.cell?_alloc_past, y_0f, y_1f, y_0, y_1, z_3, c0_1f, c0_2f, c0_3f, c0_0, c0_1, c0_2, c0_3, ne_y_z, ne_y_c0, ne_z_y, ne_z_c0, ne_c0_y, ne_c0_z, ry, rya, ryb, ryc, ryn, rz, rza, rzb, rzc, rzn, rc0, rc0a, rc0b, rc0c, rc0n]; done)) (by first | exact y_1f | (simp [go_sem, World.cell?_alloc_past, y_0f, y_1f, y_0, y_1, z_3, c0_1f, c0_2f, c0_3f, c0_0, c0_1, c0_2, c0_3, ne_y_z, ne_y_c0, ne_z_y, ne_z_c0, ne_c0_y, ne_c0_z, ry, rya, ryb, ryc, ryn, rz, rza, rzb, rzc, rzn, rc0, rc0a, rc0b, rc0c, rc0n]; done))
          replace y_0 : w53.cell? ⟨w.heap.size, 0, none⟩ = some (.int .i64 0) := hx53.has (by show ¬ _ = _; first | assumption | omega) (by first | exact y_0 | (simp [go_sem, World.cell?_alloc_past, y_0f, y_1f, y_0, y_1, z_3, c0_1f, c0_2f, c0_3f, c0_0, c0_1, c0_2, c0_3, ne_y_z, ne_y_c0, ne_z_y, ne_z_c0, ne_c0_y, ne_c0_z, ry, rya, ryb, ryc, ryn, rz, rza, rzb, rzc, rzn, rc0, rc0a, rc0b, rc0c, rc0n]; done))
          replace y_1 : w53.cell? ⟨w.heap.size, 1, none⟩ = some (.int .i64 0) := hx53.has (by show ¬ _ = _; first | assumption | omega) (by first | exact y_1 | (simp [go_sem, World.cell?_alloc_past, y_0f, y_1f, y_0, y_1, z_3, c0_1f, c0_2f, c0_3f, c0_0, c0_1, c0_2, c0_3, ne_y_z, ne_y_c0, ne_z_y, ne_z_c0, ne_c0_y, ne_c0_z, ry, rya, ryb, ryc, ryn, rz, rza, rzb, rzc, rzn, rc0, rc0a, rc0b, rc0c, rc0n]; done))
          replace z_3 : w53.cell? ⟨bo, m * 4 + 3, none⟩ = some (.int .i64 z3) := hx53.has (by show ¬ _ = _; first | assumption | omega) (by first | exact z_3 | (simp [go_sem, World.cell?_alloc_past, y_0f, y_1f, y_0, y_1, z_3, c0_1f, c0_2f, c0_3f, c0_0, c0_1, c0_2, c0_3, ne_y_z, ne_y_c0, ne_z_y, ne_z_c0, ne_c0_y, ne_c0_z, ry, rya, ryb, ryc, ryn, rz, rza, rzb, rzc, rzn, rc0, rc0a, rc0b, rc0c, rc0n]; done))
          replace c0_2f : w53.frozen? ⟨w51.heap.size, 2, none⟩ = false := hx53.froz (by show ¬ _ = _; first | assumption | omega) (v := .int .i64 0) (by first | exact c0_2 | (simp [go_sem, World.cell?_alloc_past, y_0f, y_1f, y_0, y_1, z_3, c0_1f, c0_2f, c0_3f, c0_0, c0_1, c0_2, c0_3, ne_y_z, ne_y_c0, ne_z_y, ne_z_c0, ne_c0_y, ne_c0_z, ry, rya, ryb, ryc, ryn, rz, rza, rzb, rzc, rzn, rc0, rc0a, rc0b, rc0c, rc0n]; done)) (by first | exact c0_2f | (simp [go_sem, World.cell?_alloc_past, y_0f, y_1f, y_0, y_1, z_3, c0_1f, c0_2f, c0_3f, c0_0, c0_1, c0_2, c0_3, ne_y_z, ne_y_c0, ne_z_y, ne_z_c0, ne_c0_y, ne_c0_z, ry, rya, ryb, ryc, ryn, rz, rza, rzb, rzc, rzn, rc0, rc0a, rc0b, rc0c, rc0n]; done))
          replace c0_3f : w53.frozen? ⟨w51.heap.size, 3, none⟩ = false := hx53.froz (by show ¬ _ = _; first | assumption | omega) (v := .int .i64 0) (by first | exact c0_3 | (simp [go_sem, World.cell?_alloc_past, y_0f, y_1f, y_0, y_1, z_3, c0_1f, c0_2f, c0_3f, c0_0, c0_1, c0_2, c0_3, ne_y_z, ne_y_c0, ne_z_y, ne_z_c0, ne_c0_y, ne_c0_z, ry, rya, ryb, ryc, ryn, rz, rza, rzb, rzc, rzn, rc0, rc0a, rc0b, rc0c, rc0n]; done)) (by first | exact c0_3f | (simp [go_sem, World.cell?_alloc_past, y_0f, y_1f, y_0, y_1, z_3, c0_1f, c0_2f, c0_3f, c0_0, c0_1, c0_2, c0_3, ne_y_z, ne_y_c0, ne_z_y, ne_z_c0, ne_c0_y, ne_c0_z, ry, rya, ryb, ryc, ryn, rz, rza, rzb, rzc, rzn, rc0, rc0a, rc0b, rc0c, rc0n]; done))
          replace c0_0 : w53.cell? ⟨w51.heap.size, 0, none⟩ = some (.int .i64 x0) := hx53.has (by show ¬ _ = _; first | assumption | omega) (by first | exact c0_0 | (simp [go_sem, World.cell?_alloc_past, y_0f, y_1f, y_0, y_1, z_3, c0_1f, c0_2f, c0_3f, c0_0, c0_1, c0_2, c0_3, ne_y_z, ne_y_c0, ne_z_y, ne_z_c0, ne_c0_y, ne_c0_z, ry, rya, ryb, ryc, ryn, rz, rza, rzb, rzc, rzn, rc0, rc0a, rc0b, rc0c, rc0n]; done))
          replace c0_1 : w53.cell? ⟨w51.heap.size, 1, none⟩ = some (.int .i64 x1) := hx53.has (by show ¬ _ = _; first | assumption | omega) (by first | exact c0_1 | (simp [go_sem, World.cell?_alloc_past, y_0f, y_1f, y_0, y_1, z_3, c0_1f, c0_2f, c0_3f, c0_0, c0_1, c0_2, c0_3, ne_y_z, ne_y_c0, ne_z_y, ne_z_c0, ne_c0_y, ne_c0_z, ry, rya, ryb, ryc, ryn, rz, rza, rzb, rzc, rzn, rc0, rc0a, rc0b, rc0c, rc0n]; done))
          replace c0_2 : w53.cell? ⟨w51.heap.size, 2, none⟩ = some (.int .i64 0) := hx53.has (by show ¬ _ = _; first | assumption | omega) (by first | exact c0_2 | (simp [go_sem, World.cell?_alloc_past, y_0f, y_1f, y_0, y_1, z_3, c0_1f, c0_2f, c0_3f, c0_0, c0_1, c0_2, c0_3, ne_y_z, ne_y_c0, ne_z_y, ne_z_c0, ne_c0_y, ne_c0_z, ry, rya, ryb, ryc, ryn, rz, rza, rzb, rzc, rzn, rc0, rc0a, rc0b, rc0c, rc0n]; done))
          replace c0_3 : w53.cell? ⟨w51.heap.size, 3, none⟩ = some (.int .i64 0) := hx53.has (by show ¬ _ = _; first | assumption | omega) (by first | exact c0_3 | (simp [go_sem, World.cell?_alloc_past, y_0f, y_1f, y_0, y_1, z_3, c0_1f, c0_2f, c0_3f, c0_0, c0_1, c0_2, c0_3, ne_y_z, ne_y_c0, ne_z_y, ne_z_c0, ne_c0_y, ne_c0_z, ry, rya, ryb, ryc, ryn, rz, rza, rzb, rzc, rzn, rc0, rc0a, rc0b, rc0c, rc0n]; done))
          have z53 := hx53.size
          try simp at z53
          replace ry : w.heap.size < w53.heap.size := by omega
          replace rya : w.heap.size < w53.heap.size + 1 := by omega
          replace ryb : w.heap.size < w53.heap.size + 1 + 1 := by omega
          replace ryc : w.heap.size < w53.heap.size + 1 + 1 + 1 := by omega
          replace ryn : ¬ w.heap.size = w53.heap.size := by omega
          replace rz : bo < w53.heap.size := by omega
          replace rza : bo < w53.heap.size + 1 := by omega
          replace rzb : bo < w53.heap.size + 1 + 1 := by omega
          replace rzc : bo < w53.heap.size + 1 + 1 + 1 := by omega
          replace rzn : ¬ bo = w53.heap.size := by omega
          replace rc0 : w51.heap.size < w53.heap.size := by omega
          replace rc0a : w51.heap.size < w53.heap.size + 1 := by omega
          replace rc0b : w51.heap.size < w53.heap.size + 1 + 1 := by omega
          replace rc0c : w51.heap.size < w53.heap.size + 1 + 1 + 1 := by omega
          replace rc0n : ¬ w51.heap.size = w53.heap.size := by omega
          have X53 : Hid (Ext w w53) := Lib.hid (have hX := (show Ext w _ from (by repeat (first | with_reducible exact X52.out | with_reducible refine Ext.drew ?_ | with_reducible refine Ext.drewN ?_ _ | with_reducible refine Ext.alloc ?_ _ | with_reducible refine Ext.setCell ?_ (by first | omega | (simp; done) | (simp; omega)) _))); Below.trans hX (hx53.below (Ext.size hX) (fun k hk hh => by have hh2 : k = g := hh; omega)))
          replace HO := Lib.hid (OwnR.but (OwnR.butN HO.out (by repeat (first | with_reducible exact But.refl _ _ | with_reducible refine But.drew ?_ | with_reducible refine But.drewN ?_ _ | with_reducible refine But.alloc ?_ _ | with_reducible refine But.setCell ?_ (by first | exact Nat.le_refl _ | (dsimp only; omega)) _ | with_reducible refine But.setNew ?_ (by first | omega | (simp; done) | (simp; omega)) _))) hx53 (by intro j h1 h2 hh; have h3 : j = g := hh; omega))
          clear HRd
          have HRd := Lib.hid hRd
          clear c0_1f hsz53 X52 hx53 z53 hRd
          obtain ⟨t2, gg_1, _, htt2⟩ := HRd.out.c1
          have Ht2 : Hid (f3 = none → (t2 : Int) = (k3 : Int)) := Lib.hid (fun h => by have := htt2 h; omega)
          clear htt2
          by_cases h12 : x2 = x1
          · have e12 : (x2 == x1) = true := by simpa using h12
            have H12 := Lib.hid h12
            clear h12
            go_wp2_with fail
            try clear gg_1
            (with_reducible refine (rFail_any g k3 L f3 3 (t1 : Int) _ (RRd.butN HRd.out (by repeat (first | with_reducible exact But.refl _ _ | with_reducible refine But.drew ?_ | with_reducible refine But.drewN ?_ _ | with_reducible refine But.alloc ?_ _ | with_reducible refine But.setCell ?_ (by first | exact Nat.le_refl _ | (dsimp only; omega)) _ | with_reducible refine But.setNew ?_ (by first | omega | (simp; done) | (simp; omega)) _)))).mono ?_)
            rintro e w54 ⟨⟨vv, rfl⟩, hRd, hx54⟩
            have hsz54 := hx54.size
            try simp at hsz54
            replace y_0f : w54.frozen? ⟨w.heap.size, 0, none⟩ = false := hx54.froz (by show ¬ _ = _; first | assumption | omega) (v := .int .i64 0) (by first | exact y_0 | (simp [go_sem, World.cell?_alloc_past, y_0f, y_1f, y_0, y_1, z_3, c0_2f, c0_3f, c0_0, c0_1, c0_2, c0_3, ne_y_z, ne_y_c0, ne_z_y, ne_z_c0, ne_c0_y, ne_c0_z, ry, rya, ryb, ryc, ryn, rz, rza, rzb, rzc, rzn, rc0, rc0a, rc0b, rc0c, rc0n]; done)) (by first | exact y_0f | (simp [go_sem, World.cell?_alloc_past, y_0f, y_1f, y_0, y_1, z_3, c0_2f, c0_3f, c0_0, c0_1, c0_2, c0_3, ne_y_z, ne_y_c0, ne_z_y, ne_z_c0, ne_c0_y, ne_c0_z, ry, rya, ryb, ryc, ryn, rz, rza, rzb, rzc, rzn, rc0, rc0a, rc0b, rc0c, rc0n]; done))
            replace y_1f : w54.frozen? ⟨w.heap.size, 1, none⟩ = false := hx54.froz (by show ¬ _ = _; first | assumption | omega) (v := .int .i64 0) (by first | exact y_1 | (simp [go_sem, World.cell?_alloc_past, y_0f, y_1f, y_0, y_1, z_3, c0_2f, c0_3f, c0_0, c0_1, c0_2, c0_3, ne_y_z, ne_y_c0, ne_z_y, ne_z_c0, ne_c0_y, ne_c0_z, ry, rya, ryb, ryc, ryn, rz, rza, rzb, rzc, rzn, rc0, rc0a, rc0b, rc0c, rc0n]; done)) (by first | exact y_1f | (simp [go_sem, World.cell?_alloc_past, y_0f, y_1f, y_0, y_1, z_3, c0_2f, c0_3f, c0_0, c0_1, c0_2, c0_3, ne_y_z, ne_y_c0, ne_z_y, ne_z_c0, ne_c0_y, ne_c0_z, ry, rya, ryb, ryc, ryn, rz, rza, rzb, rzc, rzn, rc0, rc0a, rc0b, rc0c, rc0n]; done))
            replace y_0 : w54.cell? ⟨w.heap.size, 0, none⟩ = some (.int .i64 0) := hx54.has (by show ¬ _ = _; first | assumption | omega) (by first | exact y_0 | (simp [go_sem, World.cell?_alloc_past, y_0f, y_1f, y_0, y_1, z_3, c0_2f, c0_3f, c0_0, c0_1, c0_2, c0_3, ne_y_z, ne_y_c0, ne_z_y, ne_z_c0, ne_c0_y, ne_c0_z, ry, rya, ryb, ryc, ryn, rz, rza, rzb, rzc, rzn, rc0, rc0a, rc0b, rc0c, rc0n]; done))
            replace y_1 : w54.cell? ⟨w.heap.size, 1, none⟩ = some (.int .i64 0) := hx54.has (by show ¬ _ = _; first | assumption | omega) (by first | exact y_1 | (simp [go_sem, World.cell?_alloc_past, y_0f, y_1f, y_0, y_1, z_3, c0_2f, c0_3f, c0_0, c0_1, c0_2, c0_3, ne_y_z, ne_y_c0, ne_z_y, ne_z_c0, ne_c0_y, ne_c0_z, ry, rya, ryb, ryc, ryn, rz, rza, rzb, rzc, rzn, rc0, rc0a, rc0b, rc0c, rc0n]; done))
            replace z_3 : w54.cell? ⟨bo, m * 4 + 3, none⟩ = some (.int .i64 z3) := hx54.has (by show ¬ _ = _; first | assumption | omega) (by first | exact z_3 | (simp [go_sem, World.cell?_alloc_past, y_0f, y_1f, y_0, y_1, z_3, c0_2f, c0_3f, c0_0, c0_1, c0_2, c0_3, ne_y_z, ne_y_c0, ne_z_y, ne_z_c0, ne_c0_y, ne_c0_z, ry, rya, ryb, ryc, ryn, rz, rza, rzb, rzc, rzn, rc0, rc0a, rc0b, rc0c, rc0n]; done))
            replace c0_3f : w54.frozen? ⟨w51.heap.size, 3, none⟩ = false := hx54.froz (by show ¬ _ = _; first | assumption | omega) (v := .int .i64 0) (by first | exact c0_3 | (simp [go_sem, World.cell?_alloc_past, y_0f, y_1f, y_0, y_1, z_3, c0_2f, c0_3f, c0_0, c0_1, c0_2, c0_3, ne_y_z, ne_y_c0, ne_z_y, ne_z_c0, ne_c0_y, ne_c0_z, ry, rya, ryb, ryc, ryn, rz, rza, rzb, rzc, rzn, rc0, rc0a, rc0b, rc0c, rc0n]; done)) (by first | exact c0_3f | (simp [go_sem, World.cell?_alloc_past, y_0f, y_1f, y_0, y_1, z_3, c0_2f, c0_3f, c0_0, c0_1, c0_2, c0_3, ne_y_z, ne_y_c0, ne_z_y, ne_z_c0, ne_c0_y, ne_c0_z, ry, rya, ryb, ryc, ryn, rz, rza, rzb, rzc, rzn, rc0, rc0a, rc0b, rc0c, rc0n]; done))
            replace c0_0 : w54.cell? ⟨w51.heap.size, 0, none⟩ = some (.int .i64 x0) := hx54.has (by show ¬ _ = _; first | assumption | omega) (by first | exact c0_0 | (simp [go_sem, World.cell?_alloc_past, y_0f, y_1f, y_0, y_1, z_3, c0_2f, c0_3f, c0_0, c0_1, c0_2, c0_3, ne_y_z, ne_y_c0, ne_z_y, ne_z_c0, ne_c0_y, ne_c0_z, ry, rya, ryb, ryc, ryn, rz, rza, rzb, rzc, rzn, rc0, rc0a, rc0b, rc0c, rc0n]; done))
            replace c0_1 : w54.cell? ⟨w51.heap.size, 1, none⟩ = some (.int .i64 x1) := hx54.has (by show ¬ _ = _; first | assumption | omega) (by first | exact c0_1 | (simp [go_sem, World.cell?_alloc_past, y_0f, y_1f, y_0, y_1, z_3, c0_2f, c0_3f, c0_0, c0_1, c0_2, c0_3, ne_y_z, ne_y_c0, ne_z_y, ne_z_c0, ne_c0_y, ne_c0_z, ry, rya, ryb, ryc, ryn, rz, rza, rzb, rzc, rzn, rc0, rc0a, rc0b, rc0c, rc0n]; done))
            replace c0_2 : w54.cell? ⟨w51.heap.size, 2, none⟩ = some (.int .i64 x2) := hx54.has (by show ¬ _ = _; first | assumption | omega) (by first | exact c0_2 | (simp [go_sem, World.cell?_alloc_past, y_0f, y_1f, y_0, y_1, z_3, c0_2f, c0_3f, c0_0, c0_1, c0_2, c0_3, ne_y_z, ne_y_c0, ne_z_y, ne_z_c0, ne_c0_y, ne_c0_z, ry, rya, ryb, ryc, ryn, rz, rza, rzb, rzc, rzn, rc0, rc0a, rc0b, rc0c, rc0n]; done))
            replace c0_3 : w54.cell? ⟨w51.heap.size, 3, none⟩ = some (.int .i64 0) := hx54.has (by show ¬ _ = _; first | assumption | omega) (by first | exact c0_3 | (simp [go_sem, World.cell?_alloc_past, y_0f, y_1f, y_0, y_1, z_3, c0_2f, c0_3f, c0_0, c0_1, c0_2, c0_3, ne_y_z, ne_y_c0, ne_z_y, ne_z_c0, ne_c0_y, ne_c0_z, ry, rya, ryb, ryc, ryn, rz, rza, rzb, rzc, rzn, rc0, rc0a, rc0b, rc0c, rc0n]; done))
            have z54 := hx54.size
            try simp at z54
            replace ry : w.heap.size < w54.heap.size := by omega
            replace rya : w.heap.size < w54.heap.size + 1 := by omega
            replace ryb : w.heap.size < w54.heap.size + 1 + 1 := by omega
            replace ryc : w.heap.size < w54.heap.size + 1 + 1 + 1 := by omega
            replace ryn : ¬ w.heap.size = w54.heap.size := by omega
            replace rz : bo < w54.heap.size := by omega
            replace rza : bo < w54.heap.size + 1 := by omega
            replace rzb : bo < w54.heap.size + 1 + 1 := by omega
            replace rzc : bo < w54.heap.size + 1 + 1 + 1 := by omega
            replace rzn : ¬ bo = w54.heap.size := by omega
            replace rc0 : w51.heap.size < w54.heap.size := by omega
            replace rc0a : w51.heap.size < w54.heap.size + 1 := by omega
            replace rc0b : w51.heap.size < w54.heap.size + 1 + 1 := by omega
            replace rc0c : w51.heap.size < w54.heap.size + 1 + 1 + 1 := by omega
            replace rc0n : ¬ w51.heap.size = w54.heap.size := by omega
            have X54 : Hid (Ext w w54) := Lib.hid (have hX := (show Ext w _ from (by repeat (first | with_reducible exact X53.out | with_reducible refine Ext.drew ?_ | with_reducible refine Ext.drewN ?_ _ | with_reducible refine Ext.alloc ?_ _ | with_reducible refine Ext.setCell ?_ (by first | omega | (simp; done) | (simp; omega)) _))); Below.trans hX (hx54.below (Ext.size hX) (fun k hk hh => by have hh2 : k = g := hh; omega)))
            replace HO := Lib.hid (OwnR.but (OwnR.butN HO.out (by repeat (first | with_reducible exact But.refl _ _ | with_reducible refine But.drew ?_ | with_reducible refine But.drewN ?_ _ | with_reducible refine But.alloc ?_ _ | with_reducible refine But.setCell ?_ (by first | exact Nat.le_refl _ | (dsimp only; omega)) _ | with_reducible refine But.setNew ?_ (by first | omega | (simp; done) | (simp; omega)) _))) hx54 (by intro j h1 h2 hh; have h3 : j = g := hh; omega))
            clear HRd
            have HRd := Lib.hid hRd
            clear c0_2f hsz54 X53 hx54 z54 hRd
            replace HRd : Hid (RRd _ g L k3 f4) := Lib.hid (by have h := HRd.out; rw [fail_at 3 (fun h => Ht1.out h) N32.out] at h; rw [G4.out, if_pos H12.out]; exact h)
            obtain ⟨t2, gg_1, _, htt2⟩ := HRd.out.c1
            have Ht2 : Hid (f4 = none → (t2 : Int) = (k3 : Int)) := Lib.hid (fun h => by have := htt2 h; omega)
            clear htt2
            go_wp2_with fail
            try clear gg_1
            (with_reducible refine (rN_e g k3 k5 L f4 f5 1 4294967296 x3 (by decide) (by decide) (by decide) (by decide) hL Gx3.out.1 Gx3.out.2.1 Gx3.out.2.2 _ (RRd.butN HRd.out (by repeat (first | with_reducible exact But.refl _ _ | with_reducible refine But.drew ?_ | with_reducible refine But.drewN ?_ _ | with_reducible refine But.alloc ?_ _ | with_reducible refine But.setCell ?_ (by first | exact Nat.le_refl _ | (dsimp only; omega)) _ | with_reducible refine But.setNew ?_ (by first | omega | (simp; done) | (simp; omega)) _)))).mono ?_)
            rintro e w55 ⟨rfl, hRd, hx55⟩
            have hsz55 := hx55.size
            try simp at hsz55
            replace y_0f : w55.frozen? ⟨w.heap.size, 0, none⟩ = false := hx55.froz (by show ¬ _ = _; first | assumption | omega) (v := .int .i64 0) (by first | exact y_0 | (simp [go_sem, World.cell?_alloc_past, y_0f, y_1f, y_0, y_1, z_3, c0_3f, c0_0, c0_1, c0_2, c0_3, ne_y_z, ne_y_c0, ne_z_y, ne_z_c0, ne_c0_y, ne_c0_z, ry, rya, ryb, ryc, ryn, rz, rza, rzb, rzc, rzn, rc0, rc0a, rc0b, rc0c, rc0n]; done)) (by first | exact y_0f | (simp [go_sem, World.cell?_alloc_past, y_0f, y_1f, y_0, y_1, z_3, c0_3f, c0_0, c0_1, c0_2, c0_3, ne_y_z, ne_y_c0, ne_z_y, ne_z_c0, ne_c0_y, ne_c0_z, ry, rya, ryb, ryc, ryn, rz, rza, rzb, rzc, rzn, rc0, rc0a, rc0b, rc0c, rc0n]; done))
            replace y_1f : w55.frozen? ⟨w.heap.size, 1, none⟩ = false := hx55.froz (by show ¬ _ = _; first | assumption | omega) (v := .int .i64 0) (by first | exact y_1 | (simp [go_sem, World.cell?_alloc_past, y_0f, y_1f, y_0, y_1, z_3, c0_3f, c0_0, c0_1, c0_2, c0_3, ne_y_z, ne_y_c0, ne_z_y, ne_z_c0, ne_c0_y, ne_c0_z, ry, rya, ryb, ryc, ryn, rz, rza, rzb, rzc, rzn, rc0, rc0a, rc0b, rc0c, rc0n]; done)) (by first | exact y_1f | (simp [go_sem, World.cell?_alloc_past, y_0f, y_1f, y_0, y_1, z_3, c0_3f, c0_0, c0_1, c0_2, c0_3, ne_y_z, ne_y_c0, ne_z_y, ne_z_c0, ne_c0_y, ne_c0_z, ry, rya, ryb, ryc, ryn, rz, rza, rzb, rzc, rzn, rc0, rc0a, rc0b, rc0c, rc0n]; done))
            replace y_0 : w55.cell? ⟨w.heap.size, 0, none⟩ = some (.int .i64 0) := hx55.has (by show ¬ _ = _; first | assumption | omega) (by first | exact y_0 | (simp [go_sem, World.cell?_alloc_past, y_0f, y_1f, y_0, y_1, z_3, c0_3f, c0_0, c0_1, c0_2, c0_3, ne_y_z, ne_y_c0, ne_z_y, ne_z_c0, ne_c0_y, ne_c0_z, ry, rya, ryb, ryc, ryn, rz, rza, rzb, rzc, rzn, rc0, rc0a, rc0b, rc0c, rc0n]; done))
            replace y_1 : w55.cell? ⟨w.heap.size, 1, none⟩ = some (.int .i64 0) := hx55.has (by show ¬ _ = _; first | assumption | omega) (by first | exact y_1 | (simp [go_sem, World.cell?_alloc_past, y_0f, y_1f, y_0, y_1, z_3, c0_3f, c0_0, c0_1, c0_2, c0_3, ne_y_z, ne_y_c0, ne_z_y, ne_z_c0, ne_c0_y, ne_c0_z, ry, rya, ryb, ryc, ryn, rz, rza, rzb, rzc, rzn, rc0, rc0a, rc0b, rc0c, rc0n]; done))
            replace z_3 : w55.cell? ⟨bo, m * 4 + 3, none⟩ = some (.int .i64 z3) := hx55.has (by show ¬ _ = _; first | assumption | omega) (by first | exact z_3 | (simp [go_sem, World.cell?_alloc_past, y_0f, y_1f, y_0, y_1, z_3, c0_3f, c0_0, c0_1, c0_2, c0_3, ne_y_z, ne_y_c0, ne_z_y, ne_z_c0, ne_c0_y, ne_c0_z, ry, rya, ryb, ryc, ryn, rz, rza, rzb, rzc, rzn, rc0, rc0a, rc0b, rc0c, rc0n]; done))
            replace c0_3f : w55.frozen? ⟨w51.heap.size, 3, none⟩ = false := hx55.froz (by show ¬ _ = _; first | assumption | omega) (v := .int .i64 0) (by first | exact c0_3 | (simp [go_sem, World.cell?_alloc_past, y_0f, y_1f, y_0, y_1, z_3, c0_3f, c0_0, c0_1, c0_2, c0_3, ne_y_z, ne_y_c0, ne_z_y, ne_z_c0, ne_c0_y, ne_c0_z, ry, rya, ryb, ryc, ryn, rz, rza, rzb, rzc, rzn, rc0, rc0a, rc0b, rc0c, rc0n]; done)) (by first | exact c0_3f | (simp [go_sem, World.cell?_alloc_past, y_0f, y_1f, y_0, y_1, z_3, c0_3f, c0_0, c0_1, c0_2, c0_3, ne_y_z, ne_y_c0, ne_z_y, ne_z_c0, ne_c0_y, ne_c0_z, ry, rya, ryb, ryc, ryn, rz, rza, rzb, rzc, rzn, rc0, rc0a, rc0b, rc0c, rc0n]; done))
            replace c0_0 : w55.cell? ⟨w51.heap.size, 0, none⟩ = some (.int .i64 x0) := hx55.has (by show ¬ _ = _; first | assumption | omega) (by first | exact c0_0 | (simp [go_sem, World.cell?_alloc_past, y_0f, y_1f, y_0, y_1, z_3, c0_3f, c0_0, c0_1, c0_2, c0_3, ne_y_z, ne_y_c0, ne_z_y, ne_z_c0, ne_c0_y, ne_c0_z, ry, rya, ryb, ryc, ryn, rz, rza, rzb, rzc, rzn, rc0, rc0a, rc0b, rc0c, rc0n]; done))
            replace c0_1 : w55.cell? ⟨w51.heap.size, 1, none⟩ = some (.int .i64 x1) := hx55.has (by show ¬ _ = _; first | assumption | omega) (by first | exact c0_1 | (simp [go_sem, World.cell?_alloc_past, y_0f, y_1f, y_0, y_1, z_3, c0_3f, c0_0, c0_1, c0_2, c0_3, ne_y_z, ne_y_c0, ne_z_y, ne_z_c0, ne_c0_y, ne_c0_z, ry, rya, ryb, ryc, ryn, rz, rza, rzb, rzc, rzn, rc0, rc0a, rc0b, rc0c, rc0n]; done))
            replace c0_2 : w55.cell? ⟨w51.heap.size, 2, none⟩ = some (.int .i64 x2) := hx55.has (by show ¬ _ = _; first | assumption | omega) (by first | exact c0_2 | (simp [go_sem, World.cell?_alloc_past, y_0f, y_1f, y_0, y_1, z_3, c0_3f, c0_0, c0_1, c0_2, c0_3, ne_y_z, ne_y_c0, ne_z_y, ne_z_c0, ne_c0_y, ne_c0_z, ry, rya, ryb, ryc, ryn, rz, rza, rzb, rzc, rzn, rc0, rc0a, rc0b, rc0c, rc0n]; done))
            replace c0_3 : w55.cell? ⟨w51.heap.size, 3, none⟩ = some (.int .i64 0) := hx55.has (by show ¬ _ = _; first | assumption | omega) (by first | exact c0_3 | (simp [go_sem, World.cell?_alloc_past, y_0f, y_1f, y_0, y_1, z_3, c0_3f, c0_0, c0_1, c0_2, c0_3, ne_y_z, ne_y_c0, ne_z_y, ne_z_c0, ne_c0_y, ne_c0_z, ry, rya, ryb, ryc, ryn, rz, rza, rzb, rzc, rzn, rc0, rc0a, rc0b, rc0c, rc0n]; done))
            have z55 := hx55.size
            try simp at z55
            replace ry : w.heap.size < w55.heap.size := by omega
            replace rya : w.heap.size < w55.heap.size + 1 := by omega
            replace ryb : w.heap.size < w55.heap.size + 1 + 1 := by omega
            replace ryc : w.heap.size < w55.heap.size + 1 + 1 + 1 := by omega
            replace ryn : ¬ w.heap.size = w55.heap.size := by omega
            replace rz : bo < w55.heap.size := by omega
            replace rza : bo < w55.heap.size + 1 := by omega
            replace rzb : bo < w55.heap.size + 1 + 1 := by omega
            replace rzc : bo < w55.heap.size + 1 + 1 + 1 := by omega
            replace rzn : ¬ bo = w55.heap.size := by omega
            replace rc0 : w51.heap.size < w55.heap.size := by omega
            replace rc0a : w51.heap.size < w55.heap.size + 1 := by omega
            replace rc0b : w51.heap.size < w55.heap.size + 1 + 1 := by omega
            replace rc0c : w51.heap.size < w55.heap.size + 1 + 1 + 1 := by omega
            replace rc0n : ¬ w51.heap.size = w55.heap.size := by omega
            have X55 : Hid (Ext w w55) := Lib.hid (have hX := (show Ext w _ from (by repeat (first | with_reducible exact X54.out | with_reducible refine Ext.drew ?_ | with_reducible refine Ext.drewN ?_ _ | with_reducible refine Ext.alloc ?_ _ | with_reducible refine Ext.setCell ?_ (by first | omega | (simp; done) | (simp; omega)) _))); Below.trans hX (hx55.below (Ext.size hX) (fun k hk hh => by have hh2 : k = g := hh; omega)))
            replace HO := Lib.hid (OwnR.but (OwnR.butN HO.out (by repeat (first | with_reducible exact But.refl _ _ | with_reducible refine But.drew ?_ | with_reducible refine But.drewN ?_ _ | with_reducible refine But.alloc ?_ _ | with_reducible refine But.setCell ?_ (by first | exact Nat.le_refl _ | (dsimp only; omega)) _ | with_reducible refine But.setNew ?_ (by first | omega | (simp; done) | (simp; omega)) _))) hx55 (by intro j h1 h2 hh; have h3 : j = g := hh; omega))
            clear HRd
            have HRd := Lib.hid hRd
            clear hsz55 X54 hx55 z55 hRd
            go_wp2_with fail
            refine wp_region_held_drew (S := fun w' => w'.cell? ⟨w51.heap.size, 3, none⟩ = some (.int .i64 x3) ∧ w'.cell? ⟨bo, m * 4 + 3, none⟩ = some (.int .i64 z3)) (by kernel_rfl) (by first | exact ⟨c0_3, z_3⟩ | (simp [go_sem, World.cell?_alloc_past, y_0f, y_1f, y_0, y_1, z_3, c0_3f, c0_0, c0_1, c0_2, c0_3, ne_y_z, ne_y_c0, ne_z_y, ne_z_c0, ne_c0_y, ne_c0_z, ry, rya, ryb, ryc, ryn, rz, rza, rzb, rzc, rzn, rc0, rc0a, rc0b, rc0c, rc0n]; done)) (fun hHeld => ?_)
            (refine' take_in 0 rfl (by kernel_rfl) (by kernel_rfl) (by kernel_rfl) (fun _ _ _ h => h) (by rfl) (by assumption) ?_ ?_; rotate_left; focus (intro w hSw; (try dsimp only at hSw); go_simp; try with_reducible rfl)); try simp only [Act.put, List.setIfInBounds_toArray, List.set_cons_zero, List.set_cons_succ]
            (refine' take_in 1 rfl (by kernel_rfl) (by kernel_rfl) (by kernel_rfl) (fun _ _ _ h => h) (by rfl) (by assumption) ?_ ?_; rotate_left; focus (intro w hSw; (try dsimp only at hSw); go_simp; try with_reducible rfl)); try simp only [Act.put, List.setIfInBounds_toArray, List.set_cons_zero, List.set_cons_succ]
            (refine' take_in 2 rfl (by kernel_rfl) (by kernel_rfl) (by kernel_rfl) (fun _ _ _ h => h) (by rfl) (by assumption) ?_ ?_; rotate_left; focus (intro w hSw; (try dsimp only at hSw); go_simp; try with_reducible rfl)); try simp only [Act.put, List.setIfInBounds_toArray, List.set_cons_zero, List.set_cons_succ]
            (refine' take_in 3 rfl (by kernel_rfl) (by kernel_rfl) (by kernel_rfl) (fun _ _ _ h => h) (by rfl) (by assumption) ?_ ?_; rotate_left; focus (intro w hSw; (try dsimp only at hSw); go_simp; try with_reducible rfl)); try simp only [Act.put, List.setIfInBounds_toArray, List.set_cons_zero, List.set_cons_succ]
            (refine' take_in 4 rfl (by kernel_rfl) (by kernel_rfl) (by kernel_rfl) (fun _ _ _ h => h) (by rfl) (by assumption) ?_ ?_; rotate_left; focus (intro w hSw; (try dsimp only at hSw); go_simp; try with_reducible rfl)); try simp only [Act.put, List.setIfInBounds_toArray, List.set_cons_zero, List.set_cons_succ]
            (refine' take_in 5 rfl (by kernel_rfl) (by kernel_rfl) (by kernel_rfl) (fun _ _ _ h => h) (by rfl) (by assumption) ?_ ?_; rotate_left; focus (intro w hSw; (try dsimp only at hSw); go_simp; try with_reducible rfl)); try simp only [Act.put, List.setIfInBounds_toArray, List.set_cons_zero, List.set_cons_succ]
            (refine' take_in 6 rfl (by kernel_rfl) (by kernel_rfl) (by kernel_rfl) (fun _ _ _ h => h) (by rfl) (by assumption) ?_ ?_; rotate_left; focus (intro w hSw; (try dsimp only at hSw); go_simp; try with_reducible rfl)); try simp only [Act.put, List.setIfInBounds_toArray, List.set_cons_zero, List.set_cons_succ]
            (refine' take_in 7 rfl (by kernel_rfl) (by kernel_rfl) (by kernel_rfl) (fun _ _ _ h => h) (by rfl) (by assumption) ?_ ?_; rotate_left; focus (intro w hSw; (try dsimp only at hSw); go_simp; try with_reducible rfl)); try simp only [Act.put, List.setIfInBounds_toArray, List.set_cons_zero, List.set_cons_succ]
            (refine' take_in 8 rfl (by kernel_rfl) (by kernel_rfl) (by kernel_rfl) (fun _ _ _ h => h) (by rfl) (by assumption) ?_ ?_; rotate_left; focus (intro w hSw; (try dsimp only at hSw); go_simp; try with_reducible rfl)); try simp only [Act.put, List.setIfInBounds_toArray, List.set_cons_zero, List.set_cons_succ]
            (refine' take_in 9 rfl (by kernel_rfl) (by kernel_rfl) (by kernel_rfl) (fun _ _ _ h => h) (by rfl) (by assumption) ?_ ?_; rotate_left; focus (intro w hSw; (try dsimp only at hSw); go_simp; try with_reducible rfl)); try simp only [Act.put, List.setIfInBounds_toArray, List.set_cons_zero, List.set_cons_succ]
            (refine' take_in 10 rfl (by kernel_rfl) (by kernel_rfl) (by kernel_rfl) (fun _ _ _ h => h) (by rfl) (by assumption) ?_ ?_; rotate_left; focus (intro w hSw; (try dsimp only at hSw); go_simp; try with_reducible rfl)); try simp only [Act.put, List.setIfInBounds_toArray, List.set_cons_zero, List.set_cons_succ]
            (refine' take_in 11 rfl (by kernel_rfl) (by kernel_rfl) (by kernel_rfl) (fun _ _ _ h => h) (by rfl) (by assumption) ?_ ?_; rotate_left; focus (intro w hSw; (try dsimp only at hSw); go_simp; try with_reducible rfl)); try simp only [Act.put, List.setIfInBounds_toArray, List.set_cons_zero, List.set_cons_succ]
            (refine' take_in 12 rfl (by kernel_rfl) (by kernel_rfl) (by kernel_rfl) (fun _ _ _ h => h) (by rfl) (by assumption) ?_ ?_; rotate_left; focus (intro w hSw; (try dsimp only at hSw); go_simp; try with_reducible rfl)); try simp only [Act.put, List.setIfInBounds_toArray, List.set_cons_zero, List.set_cons_succ]
            refine wpAnyH_done (by kernel_rfl) ?_ _
            by_cases hlt : x3 < z3
            · have hor : ordB out x3 = true := by rw [HZ.out]; exact decide_eq_true hlt
              go_wp2_with fail
              (with_reducible refine (rFail_any g k5 L f5 9 (t2 : Int) _ (RRd.butN HRd.out (by repeat (first | with_reducible exact But.refl _ _ | with_reducible refine But.drew ?_ | with_reducible refine But.drewN ?_ _ | with_reducible refine But.alloc ?_ _ | with_reducible refine But.setCell ?_ (by first | exact Nat.le_refl _ | (dsimp only; omega)) _ | with_reducible refine But.setNew ?_ (by first | omega | (simp; done) | (simp; omega)) _)))).mono ?_)
              rintro e w56 ⟨⟨vv, rfl⟩, hRd, hx56⟩
              have hsz56 := hx56.size
              try simp at hsz56
              replace y_0f : w56.frozen? ⟨w.heap.size, 0, none⟩ = false := hx56.froz (by show ¬ _ = _; first | assumption | omega) (v := .int .i64 0) (by first | exact y_0 | (simp [go_sem, World.cell?_alloc_past, y_0f, y_1f, y_0, y_1, z_3, c0_3f, c0_0, c0_1, c0_2, c0_3, ne_y_z, ne_y_c0, ne_z_y, ne_z_c0, ne_c0_y, ne_c0_z, ry, rya, ryb, ryc, ryn, rz, rza, rzb, rzc, rzn, rc0, rc0a, rc0b, rc0c, rc0n]; done)) (by first | exact y_0f | (simp [go_sem, World.cell?_alloc_past, y_0f, y_1f, y_0, y_1, z_3, c0_3f, c0_0, c0_1, c0_2, c0_3, ne_y_z, ne_y_c0, ne_z_y, ne_z_c0, ne_c0_y, ne_c0_z, ry, rya, ryb, ryc, ryn, rz, rza, rzb, rzc, rzn, rc0, rc0a, rc0b, rc0c, rc0n]; done))
              replace y_1f : w56.frozen? ⟨w.heap.size, 1, none⟩ = false := hx56.froz (by show ¬ _ = _; first | assumption | omega) (v := .int .i64 0) (by first | exact y_1 | (simp [go_sem, World.cell?_alloc_past, y_0f, y_1f, y_0, y_1, z_3, c0_3f, c0_0, c0_1, c0_2, c0_3, ne_y_z, ne_y_c0, ne_z_y, ne_z_c0, ne_c0_y, ne_c0_z, ry, rya, ryb, ryc, ryn, rz, rza, rzb, rzc, rzn, rc0, rc0a, rc0b, rc0c, rc0n]; done)) (by first | exact y_1f | (simp [go_sem, World.cell?_alloc_past, y_0f, y_1f, y_0, y_1, z_3, c0_3f, c0_0, c0_1, c0_2, c0_3, ne_y_z, ne_y_c0, ne_z_y, ne_z_c0, ne_c0_y, ne_c0_z, ry, rya, ryb, ryc, ryn, rz, rza, rzb, rzc, rzn, rc0, rc0a, rc0b, rc0c, rc0n]; done))
              replace y_0 : w56.cell? ⟨w.heap.size, 0, none⟩ = some (.int .i64 0) := hx56.has (by show ¬ _ = _; first | assumption | omega) (by first | exact y_0 | (simp [go_sem, World.cell?_alloc_past, y_0f, y_1f, y_0, y_1, z_3, c0_3f, c0_0, c0_1, c0_2, c0_3, ne_y_z, ne_y_c0, ne_z_y, ne_z_c0, ne_c0_y, ne_c0_z, ry, rya, ryb, ryc, ryn, rz, rza, rzb, rzc, rzn, rc0, rc0a, rc0b, rc0c, rc0n]; done))
              replace y_1 : w56.cell? ⟨w.heap.size, 1, none⟩ = some (.int .i64 0) := hx56.has (by show ¬ _ = _; first | assumption | omega) (by first | exact y_1 | (simp [go_sem, World.cell?_alloc_past, y_0f, y_1f, y_0, y_1, z_3, c0_3f, c0_0, c0_1, c0_2, c0_3, ne_y_z, ne_y_c0, ne_z_y, ne_z_c0, ne_c0_y, ne_c0_z, ry, rya, ryb, ryc, ryn, rz, rza, rzb, rzc, rzn, rc0, rc0a, rc0b, rc0c, rc0n]; done))
              replace z_3 : w56.cell? ⟨bo, m * 4 + 3, none⟩ = some (.int .i64 z3) := hx56.has (by show ¬ _ = _; first | assumption | omega) (by first | exact z_3 | (simp [go_sem, World.cell?_alloc_past, y_0f, y_1f, y_0, y_1, z_3, c0_3f, c0_0, c0_1, c0_2, c0_3, ne_y_z, ne_y_c0, ne_z_y, ne_z_c0, ne_c0_y, ne_c0_z, ry, rya, ryb, ryc, ryn, rz, rza, rzb, rzc, rzn, rc0, rc0a, rc0b, rc0c, rc0n]; done))
              replace c0_0 : w56.cell? ⟨w51.heap.size, 0, none⟩ = some (.int .i64 x0) := hx56.has (by show ¬ _ = _; first | assumption | omega) (by first | exact c0_0 | (simp [go_sem, World.cell?_alloc_past, y_0f, y_1f, y_0, y_1, z_3, c0_3f, c0_0, c0_1, c0_2, c0_3, ne_y_z, ne_y_c0, ne_z_y, ne_z_c0, ne_c0_y, ne_c0_z, ry, rya, ryb, ryc, ryn, rz, rza, rzb, rzc, rzn, rc0, rc0a, rc0b, rc0c, rc0n]; done))
              replace c0_1 : w56.cell? ⟨w51.heap.size, 1, none⟩ = some (.int .i64 x1) := hx56.has (by show ¬ _ = _; first | assumption | omega) (by first | exact c0_1 | (simp [go_sem, World.cell?_alloc_past, y_0f, y_1f, y_0, y_1, z_3, c0_3f, c0_0, c0_1, c0_2, c0_3, ne_y_z, ne_y_c0, ne_z_y, ne_z_c0, ne_c0_y, ne_c0_z, ry, rya, ryb, ryc, ryn, rz, rza, rzb, rzc, rzn, rc0, rc0a, rc0b, rc0c, rc0n]; done))
              replace c0_2 : w56.cell? ⟨w51.heap.size, 2, none⟩ = some (.int .i64 x2) := hx56.has (by show ¬ _ = _; first | assumption | omega) (by first | exact c0_2 | (simp [go_sem, World.cell?_alloc_past, y_0f, y_1f, y_0, y_1, z_3, c0_3f, c0_0, c0_1, c0_2, c0_3, ne_y_z, ne_y_c0, ne_z_y, ne_z_c0, ne_c0_y, ne_c0_z, ry, rya, ryb, ryc, ryn, rz, rza, rzb, rzc, rzn, rc0, rc0a, rc0b, rc0c, rc0n]; done))
              replace c0_3 : w56.cell? ⟨w51.heap.size, 3, none⟩ = some (.int .i64 x3) := hx56.has (by show ¬ _ = _; first | assumption | omega) (by first | exact c0_3 | (simp [go_sem, World.cell?_alloc_past, y_0f, y_1f, y_0, y_1, z_3, c0_3f, c0_0, c0_1, c0_2, c0_3, ne_y_z, ne_y_c0, ne_z_y, ne_z_c0, ne_c0_y, ne_c0_z, ry, rya, ryb, ryc, ryn, rz, rza, rzb, rzc, rzn, rc0, rc0a, rc0b, rc0c, rc0n]; done))
              have z56 := hx56.size
              try simp at z56
              replace ry : w.heap.size < w56.heap.size := by omega
              replace rya : w.heap.size < w56.heap.size + 1 := by omega
              replace ryb : w.heap.size < w56.heap.size + 1 + 1 := by omega
              replace ryc : w.heap.size < w56.heap.size + 1 + 1 + 1 := by omega
              replace ryn : ¬ w.heap.size = w56.heap.size := by omega
              replace rz : bo < w56.heap.size := by omega
              replace rza : bo < w56.heap.size + 1 := by omega
              replace rzb : bo < w56.heap.size + 1 + 1 := by omega
              replace rzc : bo < w56.heap.size + 1 + 1 + 1 := by omega
              replace rzn : ¬ bo = w56.heap.size := by omega
              replace rc0 : w51.heap.size < w56.heap.size := by omega
              replace rc0a : w51.heap.size < w56.heap.size + 1 := by omega
              replace rc0b : w51.heap.size < w56.heap.size + 1 + 1 := by omega
              replace rc0c : w51.heap.size < w56.heap.size + 1 + 1 + 1 := by omega
              replace rc0n : ¬ w51.heap.size = w56.heap.size := by omega
              have X56 : Hid (Ext w w56) := Lib.hid (have hX := (show Ext w _ from (by repeat (first | with_reducible exact X55.out | with_reducible refine Ext.drew ?_ | with_reducible refine Ext.drewN ?_ _ | with_reducible refine Ext.alloc ?_ _ | with_reducible refine Ext.setCell ?_ (by first | omega | (simp; done) | (simp; omega)) _))); Below.trans hX (hx56.below (Ext.size hX) (fun k hk hh => by have hh2 : k = g := hh; omega)))
              replace HO := Lib.hid (OwnR.but (OwnR.butN HO.out (by repeat (first | with_reducible exact But.refl _ _ | with_reducible refine But.drew ?_ | with_reducible refine But.drewN ?_ _ | with_reducible refine But.alloc ?_ _ | with_reducible refine But.setCell ?_ (by first | exact Nat.le_refl _ | (dsimp only; omega)) _ | with_reducible refine But.setNew ?_ (by first | omega | (simp; done) | (simp; omega)) _))) hx56 (by intro j h1 h2 hh; have h3 : j = g := hh; omega))
              clear HRd
              have HRd := Lib.hid hRd
              clear c0_3f hsz56 X55 hx56 z56 hRd
              replace HRd : Hid (RRd _ g L k5 f6) := Lib.hid (by have h := HRd.out; rw [fail_at 9 (fun h => Ht2.out h) N54.out] at h; rw [G6.out, if_pos hor]; exact h)
              have HRm : Hid (RRd w56 g L k5 f6) := Lib.hid (RRd.butN HRd.out (by repeat (first | with_reducible exact But.refl _ _ | with_reducible refine But.drew ?_ | with_reducible refine But.drewN ?_ _ | with_reducible refine But.alloc ?_ _ | with_reducible refine But.setCell ?_ (by first | exact Nat.le_refl _ | (dsimp only; omega)) _ | with_reducible refine But.setNew ?_ (by first | omega | (simp; done) | (simp; omega)) _)))
              have HOm := Lib.hid (show OwnR w51.heap.size w56 (g + 1) 24 4 (.slice (some ⟨bo, 0, none⟩) out.length co) out.length (out.flatMap hopC) from (OwnR.butN HO.out (by repeat (first | with_reducible exact But.refl _ _ | with_reducible refine But.drew ?_ | with_reducible refine But.drewN ?_ _ | with_reducible refine But.alloc ?_ _ | with_reducible refine But.setCell ?_ (by first | exact Nat.le_refl _ | (dsimp only; omega)) _ | with_reducible refine But.setNew ?_ (by first | omega | (simp; done) | (simp; omega)) _)))).own
              have Xm : Hid (Ext w w56) := Lib.hid (by repeat (first | with_reducible exact X56.out | with_reducible refine Ext.drew ?_ | with_reducible refine Ext.drewN ?_ _ | with_reducible refine Ext.alloc ?_ _ | with_reducible refine Ext.setCell ?_ (by first | omega | (simp; done) | (simp; omega)) _))
              have hgm := HRm.out.lt
              go_wp2_with (at_builtin; refine wpList_append_slB _ rfl _ _ 22 rfl (g + 1) 24 i0 (.agg #[.int .i64 0, .int .i64 0, .int .i64 0, .int .i64 0]) 4 32 Try.underlying22 hi0 hz0 hz1 hz2 rfl (by decide) (.slice (some ⟨bo, 0, none⟩) out.length co) out.length _ (by rfl) (HOm.out.alloc _) (some ⟨w56.heap.size, 0, none⟩) 1 1 (hopC (x0, x1, x2, x3)) (by first | rfl | (simp [Act.eval]; done) | (simp [Act.eval, go_sem]; done)) (Sl.addrH (sl_new _ 24 4 #[.int .i64 x0, .int .i64 x1, .int .i64 x2, .int .i64 x3] 1 rfl (by decide)) (by first | rfl | (simp; done))) (by intro u hu; simp [hopC] at hu; rcases hu with rfl | rfl | rfl | rfl <;> rfl) (by have := GL.out; omega) (by decide) (by simp at hgm ⊢; omega) ?_; intro v2 wn hown2 hb2 hn2)
              have HOa := own_keep HOm.out ((Ext.refl _).alloc (.cells #[.int .i64 x0, .int .i64 x1, .int .i64 x2, .int .i64 x3] 24))
              have hwb : ¬ (Value.ownBlock (.slice (some ⟨bo, 0, none⟩) out.length co) = some w.heap.size) := fun hh => by have := (own_block HOa hh).1; omega
              go_roundg (gk - 1)
              case measure => have := HK.out; omega
              case rel =>
                have e : N - (gk - 1) = m + 1 + 1 := by have := HK.out; omega
                rw [e, GS.out]
                refine ⟨by have := HK.out; omega, num_eq (by have := HK.out; omega), Lib.hid ?_, Lib.hid ?_, ⟨?_, ?_, ?_, ?_⟩, ?_⟩
                · exact (HRm.out.ext ((Ext.refl _).alloc (.cells #[.int .i64 x0, .int .i64 x1, .int .i64 x2, .int .i64 x3] 24))).butT hb2 (fun j _ hj => by have := (own_block HOa hj).1; omega)
                · simpa [List.flatMap_append] using hown2
                · exact hb2.has hwb (((Ext.refl _).alloc (.cells #[.int .i64 x0, .int .i64 x1, .int .i64 x2, .int .i64 x3] 24)).has (by first | exact y_0 | (simp [go_sem, World.cell?_alloc_past, y_0f, y_1f, y_0, y_1, z_3, c0_0, c0_1, c0_2, c0_3, ne_y_z, ne_y_c0, ne_z_y, ne_z_c0, ne_c0_y, ne_c0_z, ry, rya, ryb, ryc, ryn, rz, rza, rzb, rzc, rzn, rc0, rc0a, rc0b, rc0c, rc0n]; done)))
                · exact hb2.has hwb (((Ext.refl _).alloc (.cells #[.int .i64 x0, .int .i64 x1, .int .i64 x2, .int .i64 x3] 24)).has (by first | exact y_1 | (simp [go_sem, World.cell?_alloc_past, y_0f, y_1f, y_0, y_1, z_3, c0_0, c0_1, c0_2, c0_3, ne_y_z, ne_y_c0, ne_z_y, ne_z_c0, ne_c0_y, ne_c0_z, ry, rya, ryb, ryc, ryn, rz, rza, rzb, rzc, rzn, rc0, rc0a, rc0b, rc0c, rc0n]; done)))
                · exact hb2.froz hwb (v := .int .i64 0) (((Ext.refl _).alloc (.cells #[.int .i64 x0, .int .i64 x1, .int .i64 x2, .int .i64 x3] 24)).has (by first | exact y_0 | (simp [go_sem, World.cell?_alloc_past, y_0f, y_1f, y_0, y_1, z_3, c0_0, c0_1, c0_2, c0_3, ne_y_z, ne_y_c0, ne_z_y, ne_z_c0, ne_c0_y, ne_c0_z, ry, rya, ryb, ryc, ryn, rz, rza, rzb, rzc, rzn, rc0, rc0a, rc0b, rc0c, rc0n]; done))) (((Ext.refl _).alloc (.cells #[.int .i64 x0, .int .i64 x1, .int .i64 x2, .int .i64 x3] 24)).froz (v := .int .i64 0) (by first | exact y_0 | (simp [go_sem, World.cell?_alloc_past, y_0f, y_1f, y_0, y_1, z_3, c0_0, c0_1, c0_2, c0_3, ne_y_z, ne_y_c0, ne_z_y, ne_z_c0, ne_c0_y, ne_c0_z, ry, rya, ryb, ryc, ryn, rz, rza, rzb, rzc, rzn, rc0, rc0a, rc0b, rc0c, rc0n]; done)) (by first | exact y_0f | (simp [go_sem, World.cell?_alloc_past, y_0f, y_1f, y_0, y_1, z_3, c0_0, c0_1, c0_2, c0_3, ne_y_z, ne_y_c0, ne_z_y, ne_z_c0, ne_c0_y, ne_c0_z, ry, rya, ryb, ryc, ryn, rz, rza, rzb, rzc, rzn, rc0, rc0a, rc0b, rc0c, rc0n]; done)))
                · exact hb2.froz hwb (v := .int .i64 0) (((Ext.refl _).alloc (.cells #[.int .i64 x0, .int .i64 x1, .int .i64 x2, .int .i64 x3] 24)).has (by first | exact y_1 | (simp [go_sem, World.cell?_alloc_past, y_0f, y_1f, y_0, y_1, z_3, c0_0, c0_1, c0_2, c0_3, ne_y_z, ne_y_c0, ne_z_y, ne_z_c0, ne_c0_y, ne_c0_z, ry, rya, ryb, ryc, ryn, rz, rza, rzb, rzc, rzn, rc0, rc0a, rc0b, rc0c, rc0n]; done))) (((Ext.refl _).alloc (.cells #[.int .i64 x0, .int .i64 x1, .int .i64 x2, .int .i64 x3] 24)).froz (v := .int .i64 0) (by first | exact y_1 | (simp [go_sem, World.cell?_alloc_past, y_0f, y_1f, y_0, y_1, z_3, c0_0, c0_1, c0_2, c0_3, ne_y_z, ne_y_c0, ne_z_y, ne_z_c0, ne_c0_y, ne_c0_z, ry, rya, ryb, ryc, ryn, rz, rza, rzb, rzc, rzn, rc0, rc0a, rc0b, rc0c, rc0n]; done)) (by first | exact y_1f | (simp [go_sem, World.cell?_alloc_past, y_0f, y_1f, y_0, y_1, z_3, c0_0, c0_1, c0_2, c0_3, ne_y_z, ne_y_c0, ne_z_y, ne_z_c0, ne_c0_y, ne_c0_z, ry, rya, ryb, ryc, ryn, rz, rza, rzb, rzc, rzn, rc0, rc0a, rc0b, rc0c, rc0n]; done)))
                · refine (fun (hxa : Ext w _) => Below.trans hxa (hb2.below hxa.size (fun k hk hh => by have := (own_block HOa hh).1; omega))) ?_
                  exact Ext.alloc Xm.out _
            · have hor : ¬ ordB out x3 = true := by rw [HZ.out]; simpa using hlt
              have h65 : f6 = f5 := by rw [G6.out, if_neg hor]
              have hnow : RRd (w55.setCell ⟨w51.heap.size, 3, none⟩ (.int .i64 x3)) g L k5 f5 := (RRd.butN HRd.out (by repeat (first | with_reducible exact But.refl _ _ | with_reducible refine But.drew ?_ | with_reducible refine But.drewN ?_ _ | with_reducible refine But.alloc ?_ _ | with_reducible refine But.setCell ?_ (by first | exact Nat.le_refl _ | (dsimp only; omega)) _ | with_reducible refine But.setNew ?_ (by first | omega | (simp; done) | (simp; omega)) _)))
              replace HRd : Hid (RRd (w55.setCell ⟨w51.heap.size, 3, none⟩ (.int .i64 x3)) g L k5 f6) := Lib.hid (by rw [h65]; exact hnow)
              clear h65 hnow
              have HRm : Hid (RRd (w55.setCell ⟨w51.heap.size, 3, none⟩ (.int .i64 x3)) g L k5 f6) := Lib.hid HRd.out
              have HOm := Lib.hid (show OwnR w51.heap.size (w55.setCell ⟨w51.heap.size, 3, none⟩ (.int .i64 x3)) (g + 1) 24 4 (.slice (some ⟨bo, 0, none⟩) out.length co) out.length (out.flatMap hopC) from (OwnR.butN HO.out (by repeat (first | with_reducible exact But.refl _ _ | with_reducible refine But.drew ?_ | with_reducible refine But.drewN ?_ _ | with_reducible refine But.alloc ?_ _ | with_reducible refine But.setCell ?_ (by first | exact Nat.le_refl _ | (dsimp only; omega)) _ | with_reducible refine But.setNew ?_ (by first | omega | (simp; done) | (simp; omega)) _)))).own
              have Xm : Hid (Ext w (w55.setCell ⟨w51.heap.size, 3, none⟩ (.int .i64 x3))) := Lib.hid (by repeat (first | with_reducible exact X55.out | with_reducible refine Ext.drew ?_ | with_reducible refine Ext.drewN ?_ _ | with_reducible refine Ext.alloc ?_ _ | with_reducible refine Ext.setCell ?_ (by first | omega | (simp; done) | (simp; omega)) _))
              have hgm := HRm.out.lt
              go_wp2_with (at_builtin; refine wpList_append_slB _ rfl _ _ 22 rfl (g + 1) 24 i0 (.agg #[.int .i64 0, .int .i64 0, .int .i64 0, .int .i64 0]) 4 32 Try.underlying22 hi0 hz0 hz1 hz2 rfl (by decide) (.slice (some ⟨bo, 0, none⟩) out.length co) out.length _ (by rfl) (HOm.out.alloc _) (some ⟨w55.heap.size, 0, none⟩) 1 1 (hopC (x0, x1, x2, x3)) (by first | rfl | (simp [Act.eval]; done) | (simp [Act.eval, go_sem]; done)) (Sl.addrH (sl_new _ 24 4 #[.int .i64 x0, .int .i64 x1, .int .i64 x2, .int .i64 x3] 1 rfl (by decide)) (by first | rfl | (simp; done))) (by intro u hu; simp [hopC] at hu; rcases hu with rfl | rfl | rfl | rfl <;> rfl) (by have := GL.out; omega) (by decide) (by simp at hgm ⊢; omega) ?_; intro v2 wn hown2 hb2 hn2)
              have HOa := own_keep HOm.out (Ext.drew ((Ext.refl _).alloc (.cells #[.int .i64 x0, .int .i64 x1, .int .i64 x2, .int .i64 x3] 24)))
              have hwb : ¬ (Value.ownBlock (.slice (some ⟨bo, 0, none⟩) out.length co) = some w.heap.size) := fun hh => by have := (own_block HOa hh).1; omega
              go_roundg (gk - 1)
              case measure => have := HK.out; omega
              case rel =>
                have e : N - (gk - 1) = m + 1 + 1 := by have := HK.out; omega
                rw [e, GS.out]
                refine ⟨by have := HK.out; omega, num_eq (by have := HK.out; omega), Lib.hid ?_, Lib.hid ?_, ⟨?_, ?_, ?_, ?_⟩, ?_⟩
                · exact (HRm.out.ext (Ext.drew ((Ext.refl _).alloc (.cells #[.int .i64 x0, .int .i64 x1, .int .i64 x2, .int .i64 x3] 24)))).butT hb2 (fun j _ hj => by have := (own_block HOa hj).1; omega)
                · simpa [List.flatMap_append] using hown2
                · exact hb2.has hwb ((Ext.drew ((Ext.refl _).alloc (.cells #[.int .i64 x0, .int .i64 x1, .int .i64 x2, .int .i64 x3] 24))).has (by first | exact y_0 | (simp [go_sem, World.cell?_alloc_past, y_0f, y_1f, y_0, y_1, z_3, c0_3f, c0_0, c0_1, c0_2, c0_3, ne_y_z, ne_y_c0, ne_z_y, ne_z_c0, ne_c0_y, ne_c0_z, ry, rya, ryb, ryc, ryn, rz, rza, rzb, rzc, rzn, rc0, rc0a, rc0b, rc0c, rc0n]; done)))
                · exact hb2.has hwb ((Ext.drew ((Ext.refl _).alloc (.cells #[.int .i64 x0, .int .i64 x1, .int .i64 x2, .int .i64 x3] 24))).has (by first | exact y_1 | (simp [go_sem, World.cell?_alloc_past, y_0f, y_1f, y_0, y_1, z_3, c0_3f, c0_0, c0_1, c0_2, c0_3, ne_y_z, ne_y_c0, ne_z_y, ne_z_c0, ne_c0_y, ne_c0_z, ry, rya, ryb, ryc, ryn, rz, rza, rzb, rzc, rzn, rc0, rc0a, rc0b, rc0c, rc0n]; done)))
                · exact hb2.froz hwb (v := .int .i64 0) ((Ext.drew ((Ext.refl _).alloc (.cells #[.int .i64 x0, .int .i64 x1, .int .i64 x2, .int .i64 x3] 24))).has (by first | exact y_0 | (simp [go_sem, World.cell?_alloc_past, y_0f, y_1f, y_0, y_1, z_3, c0_3f, c0_0, c0_1, c0_2, c0_3, ne_y_z, ne_y_c0, ne_z_y, ne_z_c0, ne_c0_y, ne_c0_z, ry, rya, ryb, ryc, ryn, rz, rza, rzb, rzc, rzn, rc0, rc0a, rc0b, rc0c, rc0n]; done))) ((Ext.drew ((Ext.refl _).alloc (.cells #[.int .i64 x0, .int .i64 x1, .int .i64 x2, .int .i64 x3] 24))).froz (v := .int .i64 0) (by first | exact y_0 | (simp [go_sem, World.cell?_alloc_past, y_0f, y_1f, y_0, y_1, z_3, c0_3f, c0_0, c0_1, c0_2, c0_3, ne_y_z, ne_y_c0, ne_z_y, ne_z_c0, ne_c0_y, ne_c0_z, ry, rya, ryb, ryc, ryn, rz, rza, rzb, rzc, rzn, rc0, rc0a, rc0b, rc0c, rc0n]; done)) (by first | exact y_0f | (simp [go_sem, World.cell?_alloc_past, y_0f, y_1f, y_0, y_1, z_3, c0_3f, c0_0, c0_1, c0_2, c0_3, ne_y_z, ne_y_c0, ne_z_y, ne_z_c0, ne_c0_y, ne_c0_z, ry, rya, ryb, ryc, ryn, rz, rza, rzb, rzc, rzn, rc0, rc0a, rc0b, rc0c, rc0n]; done)))
                · exact hb2.froz hwb (v := .int .i64 0) ((Ext.drew ((Ext.refl _).alloc (.cells #[.int .i64 x0, .int .i64 x1, .int .i64 x2, .int .i64 x3] 24))).has (by first | exact y_1 | (simp [go_sem, World.cell?_alloc_past, y_0f, y_1f, y_0, y_1, z_3, c0_3f, c0_0, c0_1, c0_2, c0_3, ne_y_z, ne_y_c0, ne_z_y, ne_z_c0, ne_c0_y, ne_c0_z, ry, rya, ryb, ryc, ryn, rz, rza, rzb, rzc, rzn, rc0, rc0a, rc0b, rc0c, rc0n]; done))) ((Ext.drew ((Ext.refl _).alloc (.cells #[.int .i64 x0, .int .i64 x1, .int .i64 x2, .int .i64 x3] 24))).froz (v := .int .i64 0) (by first | exact y_1 | (simp [go_sem, World.cell?_alloc_past, y_0f, y_1f, y_0, y_1, z_3, c0_3f, c0_0, c0_1, c0_2, c0_3, ne_y_z, ne_y_c0, ne_z_y, ne_z_c0, ne_c0_y, ne_c0_z, ry, rya, ryb, ryc, ryn, rz, rza, rzb, rzc, rzn, rc0, rc0a, rc0b, rc0c, rc0n]; done)) (by first | exact y_1f | (simp [go_sem, World.cell?_alloc_past, y_0f, y_1f, y_0, y_1, z_3, c0_3f, c0_0, c0_1, c0_2, c0_3, ne_y_z, ne_y_c0, ne_z_y, ne_z_c0, ne_c0_y, ne_c0_z, ry, rya, ryb, ryc, ryn, rz, rza, rzb, rzc, rzn, rc0, rc0a, rc0b, rc0c, rc0n]; done)))
                · refine (fun (hxa : Ext w _) => Below.trans hxa (hb2.below hxa.size (fun k hk hh => by have := (own_block HOa hh).1; omega))) ?_
                  exact Ext.drew (Ext.alloc Xm.out _)
          · have e12 : (x2 == x1) = false := by simpa using h12
            have h43 : f4 = f3 := by rw [G4.out, if_neg h12]
            clear h12
            have hnow : RRd (w53.setCell ⟨w51.heap.size, 2, none⟩ (.int .i64 x2)) g L k3 f3 := (RRd.butN HRd.out (by repeat (first | with_reducible exact But.refl _ _ | with_reducible refine But.drew ?_ | with_reducible refine But.drewN ?_ _ | with_reducible refine But.alloc ?_ _ | with_reducible refine But.setCell ?_ (by first | exact Nat.le_refl _ | (dsimp only; omega)) _ | with_reducible refine But.setNew ?_ (by first | omega | (simp; done) | (simp; omega)) _)))
            replace HRd : Hid (RRd (w53.setCell ⟨w51.heap.size, 2, none⟩ (.int .i64 x2)) g L k3 f4) := Lib.hid (by rw [h43]; exact hnow)
            replace Ht2 : Hid (f4 = none → (t2 : Int) = (k3 : Int)) := Lib.hid (fun h => Ht2.out (by rw [← h43]; exact h))
            clear hnow h43
            go_wp2_with fail
            try clear gg_1
            (with_reducible refine (rN_e g k3 k5 L f4 f5 1 4294967296 x3 (by decide) (by decide) (by decide) (by decide) hL Gx3.out.1 Gx3.out.2.1 Gx3.out.2.2 _ HRd.out).mono ?_)
            rintro e w54 ⟨rfl, hRd, hx54⟩
            have hsz54 := hx54.size
            try simp at hsz54
            replace y_0f : w54.frozen? ⟨w.heap.size, 0, none⟩ = false := hx54.froz (by show ¬ _ = _; first | assumption | omega) (v := .int .i64 0) (by first | exact y_0 | (simp [go_sem, World.cell?_alloc_past, y_0f, y_1f, y_0, y_1, z_3, c0_2f, c0_3f, c0_0, c0_1, c0_2, c0_3, ne_y_z, ne_y_c0, ne_z_y, ne_z_c0, ne_c0_y, ne_c0_z, ry, rya, ryb, ryc, ryn, rz, rza, rzb, rzc, rzn, rc0, rc0a, rc0b, rc0c, rc0n]; done)) (by first | exact y_0f | (simp [go_sem, World.cell?_alloc_past, y_0f, y_1f, y_0, y_1, z_3, c0_2f, c0_3f, c0_0, c0_1, c0_2, c0_3, ne_y_z, ne_y_c0, ne_z_y, ne_z_c0, ne_c0_y, ne_c0_z, ry, rya, ryb, ryc, ryn, rz, rza, rzb, rzc, rzn, rc0, rc0a, rc0b, rc0c, rc0n]; done))
            replace y_1f : w54.frozen? ⟨w.heap.size, 1, none⟩ = false := hx54.froz (by show ¬ _ = _; first | assumption | omega) (v := .int .i64 0) (by first | exact y_1 | (simp [go_sem, World.cell?_alloc_past, y_0f, y_1f, y_0, y_1, z_3, c0_2f, c0_3f, c0_0, c0_1, c0_2, c0_3, ne_y_z, ne_y_c0, ne_z_y, ne_z_c0, ne_c0_y, ne_c0_z, ry, rya, ryb, ryc, ryn, rz, rza, rzb, rzc, rzn, rc0, rc0a, rc0b, rc0c, rc0n]; done)) (by first | exact y_1f | (simp [go_sem, World.cell?_alloc_past, y_0f, y_1f, y_0, y_1, z_3, c0_2f, c0_3f, c0_0, c0_1, c0_2, c0_3, ne_y_z, ne_y_c0, ne_z_y, ne_z_c0, ne_c0_y, ne_c0_z, ry, rya, ryb, ryc, ryn, rz, rza, rzb, rzc, rzn, rc0, rc0a, rc0b, rc0c, rc0n]; done))
            replace y_0 : w54.cell? ⟨w.heap.size, 0, none⟩ = some (.int .i64 0) := hx54.has (by show ¬ _ = _; first | assumption | omega) (by first | exact y_0 | (simp [go_sem, World.cell?_alloc_past, y_0f, y_1f, y_0, y_1, z_3, c0_2f, c0_3f, c0_0, c0_1, c0_2, c0_3, ne_y_z, ne_y_c0, ne_z_y, ne_z_c0, ne_c0_y, ne_c0_z, ry, rya, ryb, ryc, ryn, rz, rza, rzb, rzc, rzn, rc0, rc0a, rc0b, rc0c, rc0n]; done))
            replace y_1 : w54.cell? ⟨w.heap.size, 1, none⟩ = some (.int .i64 0) := hx54.has (by show ¬ _ = _; first | assumption | omega) (by first | exact y_1 | (simp [go_sem, World.cell?_alloc_past, y_0f, y_1f, y_0, y_1, z_3, c0_2f, c0_3f, c0_0, c0_1, c0_2, c0_3, ne_y_z, ne_y_c0, ne_z_y, ne_z_c0, ne_c0_y, ne_c0_z, ry, rya, ryb, ryc, ryn, rz, rza, rzb, rzc, rzn, rc0, rc0a, rc0b, rc0c, rc0n]; done))
            replace z_3 : w54.cell? ⟨bo, m * 4 + 3, none⟩ = some (.int .i64 z3) := hx54.has (by show ¬ _ = _; first | assumption | omega) (by first | exact z_3 | (simp [go_sem, World.cell?_alloc_past, y_0f, y_1f, y_0, y_1, z_3, c0_2f, c0_3f, c0_0, c0_1, c0_2, c0_3, ne_y_z, ne_y_c0, ne_z_y, ne_z_c0, ne_c0_y, ne_c0_z, ry, rya, ryb, ryc, ryn, rz, rza, rzb, rzc, rzn, rc0, rc0a, rc0b, rc0c, rc0n]; done))
            replace c0_3f : w54.frozen? ⟨w51.heap.size, 3, none⟩ = false := hx54.froz (by show ¬ _ = _; first | assumption | omega) (v := .int .i64 0) (by first | exact c0_3 | (simp [go_sem, World.cell?_alloc_past, y_0f, y_1f, y_0, y_1, z_3, c0_2f, c0_3f, c0_0, c0_1, c0_2, c0_3, ne_y_z, ne_y_c0, ne_z_y, ne_z_c0, ne_c0_y, ne_c0_z, ry, rya, ryb, ryc, ryn, rz, rza, rzb, rzc, rzn, rc0, rc0a, rc0b, rc0c, rc0n]; done)) (by first | exact c0_3f | (simp [go_sem, World.cell?_alloc_past, y_0f, y_1f, y_0, y_1, z_3, c0_2f, c0_3f, c0_0, c0_1, c0_2, c0_3, ne_y_z, ne_y_c0, ne_z_y, ne_z_c0, ne_c0_y, ne_c0_z, ry, rya, ryb, ryc, ryn, rz, rza, rzb, rzc, rzn, rc0, rc0a, rc0b, rc0c, rc0n]; done))
            replace c0_0 : w54.cell? ⟨w51.heap.size, 0, none⟩ = some (.int .i64 x0) := hx54.has (by show ¬ _ = _; first | assumption | omega) (by first | exact c0_0 | (simp [go_sem, World.cell?_alloc_past, y_0f, y_1f, y_0, y_1, z_3, c0_2f, c0_3f, c0_0, c0_1, c0_2, c0_3, ne_y_z, ne_y_c0, ne_z_y, ne_z_c0, ne_c0_y, ne_c0_z, ry, rya, ryb, ryc, ryn, rz, rza, rzb, rzc, rzn, rc0, rc0a, rc0b, rc0c, rc0n]; done))
            replace c0_1 : w54.cell? ⟨w51.heap.size, 1, none⟩ = some (.int .i64 x1) := hx54.has (by show ¬ _ = _; first | assumption | omega) (by first | exact c0_1 | (simp [go_sem, World.cell?_alloc_past, y_0f, y_1f, y_0, y_1, z_3, c0_2f, c0_3f, c0_0, c0_1, c0_2, c0_3, ne_y_z, ne_y_c0, ne_z_y, ne_z_c0, ne_c0_y, ne_c0_z, ry, rya, ryb, ryc, ryn, rz, rza, rzb, rzc, rzn, rc0, rc0a, rc0b, rc0c, rc0n]; done))
            replace c0_2 : w54.cell? ⟨w51.heap.size, 2, none⟩ = some (.int .i64 x2) := hx54.has (by show ¬ _ = _; first | assumption | omega) (by first | exact c0_2 | (simp [go_sem, World.cell?_alloc_past, y_0f, y_1f, y_0, y_1, z_3, c0_2f, c0_3f, c0_0, c0_1, c0_2, c0_3, ne_y_z, ne_y_c0, ne_z_y, ne_z_c0, ne_c0_y, ne_c0_z, ry, rya, ryb, ryc, ryn, rz, rza, rzb, rzc, rzn, rc0, rc0a, rc0b, rc0c, rc0n]; done))
            replace c0_3 : w54.cell? ⟨w51.heap.size, 3, none⟩ = some (.int .i64 0) := hx54.has (by show ¬ _ = _; first | assumption | omega) (by first | exact c0_3 | (simp [go_sem, World.cell?_alloc_past, y_0f, y_1f, y_0, y_1, z_3, c0_2f, c0_3f, c0_0, c0_1, c0_2, c0_3, ne_y_z, ne_y_c0, ne_z_y, ne_z_c0, ne_c0_y, ne_c0_z, ry, rya, ryb, ryc, ryn, rz, rza, rzb, rzc, rzn, rc0, rc0a, rc0b, rc0c, rc0n]; done))
            have z54 := hx54.size
            try simp at z54
            replace ry : w.heap.size < w54.heap.size := by omega
            replace rya : w.heap.size < w54.heap.size + 1 := by omega
            replace ryb : w.heap.size < w54.heap.size + 1 + 1 := by omega
            replace ryc : w.heap.size < w54.heap.size + 1 + 1 + 1 := by omega
            replace ryn : ¬ w.heap.size = w54.heap.size := by omega
            replace rz : bo < w54.heap.size := by omega
            replace rza : bo < w54.heap.size + 1 := by omega
            replace rzb : bo < w54.heap.size + 1 + 1 := by omega
            replace rzc : bo < w54.heap.size + 1 + 1 + 1 := by omega
            replace rzn : ¬ bo = w54.heap.size := by omega
            replace rc0 : w51.heap.size < w54.heap.size := by omega
            replace rc0a : w51.heap.size < w54.heap.size + 1 := by omega
            replace rc0b : w51.heap.size < w54.heap.size + 1 + 1 := by omega
            replace rc0c : w51.heap.size < w54.heap.size + 1 + 1 + 1 := by omega
            replace rc0n : ¬ w51.heap.size = w54.heap.size := by omega
            have X54 : Hid (Ext w w54) := Lib.hid (have hX := (show Ext w _ from (by repeat (first | with_reducible exact X53.out | with_reducible refine Ext.drew ?_ | with_reducible refine Ext.drewN ?_ _ | with_reducible refine Ext.alloc ?_ _ | with_reducible refine Ext.setCell ?_ (by first | omega | (simp; done) | (simp; omega)) _))); Below.trans hX (hx54.below (Ext.size hX) (fun k hk hh => by have hh2 : k = g := hh; omega)))
            replace HO := Lib.hid (OwnR.but (OwnR.butN HO.out (by repeat (first | with_reducible exact But.refl _ _ | with_reducible refine But.drew ?_ | with_reducible refine But.drewN ?_ _ | with_reducible refine But.alloc ?_ _ | with_reducible refine But.setCell ?_ (by first | exact Nat.le_refl _ | (dsimp only; omega)) _ | with_reducible refine But.setNew ?_ (by first | omega | (simp; done) | (simp; omega)) _))) hx54 (by intro j h1 h2 hh; have h3 : j = g := hh; omega))
            clear HRd
            have HRd := Lib.hid hRd
            clear c0_2f hsz54 X53 hx54 z54 hRd
            go_wp2_with fail
            refine wp_region_held_drew (S := fun w' => w'.cell? ⟨w51.heap.size, 3, none⟩ = some (.int .i64 x3) ∧ w'.cell? ⟨bo, m * 4 + 3, none⟩ = some (.int .i64 z3)) (by kernel_rfl) (by first | exact ⟨c0_3, z_3⟩ | (simp [go_sem, World.cell?_alloc_past, y_0f, y_1f, y_0, y_1, z_3, c0_3f, c0_0, c0_1, c0_2, c0_3, ne_y_z, ne_y_c0, ne_z_y, ne_z_c0, ne_c0_y, ne_c0_z, ry, rya, ryb, ryc, ryn, rz, rza, rzb, rzc, rzn, rc0, rc0a, rc0b, rc0c, rc0n]; done)) (fun hHeld => ?_)
            (refine' take_in 0 rfl (by kernel_rfl) (by kernel_rfl) (by kernel_rfl) (fun _ _ _ h => h) (by rfl) (by assumption) ?_ ?_; rotate_left; focus (intro w hSw; (try dsimp only at hSw); go_simp; try with_reducible rfl)); try simp only [Act.put, List.setIfInBounds_toArray, List.set_cons_zero, List.set_cons_succ]
            (refine' take_in 1 rfl (by kernel_rfl) (by kernel_rfl) (by kernel_rfl) (fun _ _ _ h => h) (by rfl) (by assumption) ?_ ?_; rotate_left; focus (intro w hSw; (try dsimp only at hSw); go_simp; try with_reducible rfl)); try simp only [Act.put, List.setIfInBounds_toArray, List.set_cons_zero, List.set_cons_succ]
            (refine' take_in 2 rfl (by kernel_rfl) (by kernel_rfl) (by kernel_rfl) (fun _ _ _ h => h) (by rfl) (by assumption) ?_ ?_; rotate_left; focus (intro w hSw; (try dsimp only at hSw); go_simp; try with_reducible rfl)); try simp only [Act.put, List.setIfInBounds_toArray, List.set_cons_zero, List.set_cons_succ]
            (refine' take_in 3 rfl (by kernel_rfl) (by kernel_rfl) (by kernel_rfl) (fun _ _ _ h => h) (by rfl) (by assumption) ?_ ?_; rotate_left; focus (intro w hSw; (try dsimp only at hSw); go_simp; try with_reducible rfl)); try simp only [Act.put, List.setIfInBounds_toArray, List.set_cons_zero, List.set_cons_succ]
            (refine' take_in 4 rfl (by kernel_rfl) (by kernel_rfl) (by kernel_rfl) (fun _ _ _ h => h) (by rfl) (by assumption) ?_ ?_; rotate_left; focus (intro w hSw; (try dsimp only at hSw); go_simp; try with_reducible rfl)); try simp only [Act.put, List.setIfInBounds_toArray, List.set_cons_zero, List.set_cons_succ]
            (refine' take_in 5 rfl (by kernel_rfl) (by kernel_rfl) (by kernel_rfl) (fun _ _ _ h => h) (by rfl) (by assumption) ?_ ?_; rotate_left; focus (intro w hSw; (try dsimp only at hSw); go_simp; try with_reducible rfl)); try simp only [Act.put, List.setIfInBounds_toArray, List.set_cons_zero, List.set_cons_succ]
            (refine' take_in 6 rfl (by kernel_rfl) (by kernel_rfl) (by kernel_rfl) (fun _ _ _ h => h) (by rfl) (by assumption) ?_ ?_; rotate_left; focus (intro w hSw; (try dsimp only at hSw); go_simp; try with_reducible rfl)); try simp only [Act.put, List.setIfInBounds_toArray, List.set_cons_zero, List.set_cons_succ]
            (refine' take_in 7 rfl (by kernel_rfl) (by kernel_rfl) (by kernel_rfl) (fun _ _ _ h => h) (by rfl) (by assumption) ?_ ?_; rotate_left; focus (intro w hSw; (try dsimp only at hSw); go_simp; try with_reducible rfl)); try simp only [Act.put, List.setIfInBounds_toArray, List.set_cons_zero, List.set_cons_succ]
            (refine' take_in 8 rfl (by kernel_rfl) (by kernel_rfl) (by kernel_rfl) (fun _ _ _ h => h) (by rfl) (by assumption) ?_ ?_; rotate_left; focus (intro w hSw; (try dsimp only at hSw); go_simp; try with_reducible rfl)); try simp only [Act.put, List.setIfInBounds_toArray, List.set_cons_zero, List.set_cons_succ]
            (refine' take_in 9 rfl (by kernel_rfl) (by kernel_rfl) (by kernel_rfl) (fun _ _ _ h => h) (by rfl) (by assumption) ?_ ?_; rotate_left; focus (intro w hSw; (try dsimp only at hSw); go_simp; try with_reducible rfl)); try simp only [Act.put, List.setIfInBounds_toArray, List.set_cons_zero, List.set_cons_succ]
            (refine' take_in 10 rfl (by kernel_rfl) (by kernel_rfl) (by kernel_rfl) (fun _ _ _ h => h) (by rfl) (by assumption) ?_ ?_; rotate_left; focus (intro w hSw; (try dsimp only at hSw); go_simp; try with_reducible rfl)); try simp only [Act.put, List.setIfInBounds_toArray, List.set_cons_zero, List.set_cons_succ]
            (refine' take_in 11 rfl (by kernel_rfl) (by kernel_rfl) (by kernel_rfl) (fun _ _ _ h => h) (by rfl) (by assumption) ?_ ?_; rotate_left; focus (intro w hSw; (try dsimp only at hSw); go_simp; try with_reducible rfl)); try simp only [Act.put, List.setIfInBounds_toArray, List.set_cons_zero, List.set_cons_succ]
            (refine' take_in 12 rfl (by kernel_rfl) (by kernel_rfl) (by kernel_rfl) (fun _ _ _ h => h) (by rfl) (by assumption) ?_ ?_; rotate_left; focus (intro w hSw; (try dsimp only at hSw); go_simp; try with_reducible rfl)); try simp only [Act.put, List.setIfInBounds_toArray, List.set_cons_zero, List.set_cons_succ]
            refine wpAnyH_done (by kernel_rfl) ?_ _
            by_cases hlt : x3 < z3
            · have hor : ordB out x3 = true := by rw [HZ.out]; exact decide_eq_true hlt
              go_wp2_with fail
              (with_reducible refine (rFail_any g k5 L f5 9 (t2 : Int) _ (RRd.butN HRd.out (by repeat (first | with_reducible exact But.refl _ _ | with_reducible refine But.drew ?_ | with_reducible refine But.drewN ?_ _ | with_reducible refine But.alloc ?_ _ | with_reducible refine But.setCell ?_ (by first | exact Nat.le_refl _ | (dsimp only; omega)) _ | with_reducible refine But.setNew ?_ (by first | omega | (simp; done) | (simp; omega)) _)))).mono ?_)
              rintro e w55 ⟨⟨vv, rfl⟩, hRd, hx55⟩
              have hsz55 := hx55.size
              try simp at hsz55
              replace y_0f : w55.frozen? ⟨w.heap.size, 0, none⟩ = false := hx55.froz (by show ¬ _ = _; first | assumption | omega) (v := .int .i64 0) (by first | exact y_0 | (simp [go_sem, World.cell?_alloc_past, y_0f, y_1f, y_0, y_1, z_3, c0_3f, c0_0, c0_1, c0_2, c0_3, ne_y_z, ne_y_c0, ne_z_y, ne_z_c0, ne_c0_y, ne_c0_z, ry, rya, ryb, ryc, ryn, rz, rza, rzb, rzc, rzn, rc0, rc0a, rc0b, rc0c, rc0n]; done)) (by first | exact y_0f | (simp [go_sem, World.cell?_alloc_past, y_0f, y_1f, y_0, y_1, z_3, c0_3f, c0_0, c0_1, c0_2, c0_3, ne_y_z, ne_y_c0, ne_z_y, ne_z_c0, ne_c0_y, ne_c0_z, ry, rya, ryb, ryc, ryn, rz, rza, rzb, rzc, rzn, rc0, rc0a, rc0b, rc0c, rc0n]; done))
              replace y_1f : w55.frozen? ⟨w.heap.size, 1, none⟩ = false := hx55.froz (by show ¬ _ = _; first | assumption | omega) (v := .int .i64 0) (by first | exact y_1 | (simp [go_sem, World.cell?_alloc_past, y_0f, y_1f, y_0, y_1, z_3, c0_3f, c0_0, c0_1, c0_2, c0_3, ne_y_z, ne_y_c0, ne_z_y, ne_z_c0, ne_c0_y, ne_c0_z, ry, rya, ryb, ryc, ryn, rz, rza, rzb, rzc, rzn, rc0, rc0a, rc0b, rc0c, rc0n]; done)) (by first | exact y_1f | (simp [go_sem, World.cell?_alloc_past, y_0f, y_1f, y_0, y_1, z_3, c0_3f, c0_0, c0_1, c0_2, c0_3, ne_y_z, ne_y_c0, ne_z_y, ne_z_c0, ne_c0_y, ne_c0_z, ry, rya, ryb, ryc, ryn, rz, rza, rzb, rzc, rzn, rc0, rc0a, rc0b, rc0c, rc0n]; done))
              replace y_0 : w55.cell? ⟨w.heap.size, 0, none⟩ = some (.int .i64 0) := hx55.has (by show ¬ _ = _; first | assumption | omega) (by first | exact y_0 | (simp [go_sem, World.cell?_alloc_past, y_0f, y_1f, y_0, y_1, z_3, c0_3f, c0_0, c0_1, c0_2, c0_3, ne_y_z, ne_y_c0, ne_z_y, ne_z_c0, ne_c0_y, ne_c0_z, ry, rya, ryb, ryc, ryn, rz, rza, rzb, rzc, rzn, rc0, rc0a, rc0b, rc0c, rc0n]; done))
              replace y_1 : w55.cell? ⟨w.heap.size, 1, none⟩ = some (.int .i64 0) := hx55.has (by show ¬ _ = _; first | assumption | omega) (by first | exact y_1 | (simp [go_sem, World.cell?_alloc_past, y_0f, y_1f, y_0, y_1, z_3, c0_3f, c0_0, c0_1, c0_2, c0_3, ne_y_z, ne_y_c0, ne_z_y, ne_z_c0, ne_c0_y, ne_c0_z, ry, rya, ryb, ryc, ryn, rz, rza, rzb, rzc, rzn, rc0, rc0a, rc0b, rc0c, rc0n]; done))
              replace z_3 : w55.cell? ⟨bo, m * 4 + 3, none⟩ = some (.int .i64 z3) := hx55.has (by show ¬ _ = _; first | assumption | omega) (by first | exact z_3 | (simp [go_sem, World.cell?_alloc_past, y_0f, y_1f, y_0, y_1, z_3, c0_3f, c0_0, c0_1, c0_2, c0_3, ne_y_z, ne_y_c0, ne_z_y, ne_z_c0, ne_c0_y, ne_c0_z, ry, rya, ryb, ryc, ryn, rz, rza, rzb, rzc, rzn, rc0, rc0a, rc0b, rc0c, rc0n]; done))
              replace c0_3f : w55.frozen? ⟨w51.heap.size, 3, none⟩ = false := hx55.froz (by show ¬ _ = _; first | assumption | omega) (v := .int .i64 x3) (by first | exact c0_3 | (simp [go_sem, World.cell?_alloc_past, y_0f, y_1f, y_0, y_1, z_3, c0_3f, c0_0, c0_1, c0_2, c0_3, ne_y_z, ne_y_c0, ne_z_y, ne_z_c0, ne_c0_y, ne_c0_z, ry, rya, ryb, ryc, ryn, rz, rza, rzb, rzc, rzn, rc0, rc0a, rc0b, rc0c, rc0n]; done)) (by first | exact c0_3f | (simp [go_sem, World.cell?_alloc_past, y_0f, y_1f, y_0, y_1, z_3, c0_3f, c0_0, c0_1, c0_2, c0_3, ne_y_z, ne_y_c0, ne_z_y, ne_z_c0, ne_c0_y, ne_c0_z, ry, rya, ryb, ryc, ryn, rz, rza, rzb, rzc, rzn, rc0, rc0a, rc0b, rc0c, rc0n]; done))
              replace c0_0 : w55.cell? ⟨w51.heap.size, 0, none⟩ = some (.int .i64 x0) := hx55.has (by show ¬ _ = _; first | assumption | omega) (by first | exact c0_0 | (simp [go_sem, World.cell?_alloc_past, y_0f, y_1f, y_0, y_1, z_3, c0_3f, c0_0, c0_1, c0_2, c0_3, ne_y_z, ne_y_c0, ne_z_y, ne_z_c0, ne_c0_y, ne_c0_z, ry, rya, ryb, ryc, ryn, rz, rza, rzb, rzc, rzn, rc0, rc0a, rc0b, rc0c, rc0n]; done))
              replace c0_1 : w55.cell? ⟨w51.heap.size, 1, none⟩ = some (.int .i64 x1) := hx55.has (by show ¬ _ = _; first | assumption | omega) (by first | exact c0_1 | (simp [go_sem, World.cell?_alloc_past, y_0f, y_1f, y_0, y_1, z_3, c0_3f, c0_0, c0_1, c0_2, c0_3, ne_y_z, ne_y_c0, ne_z_y, ne_z_c0, ne_c0_y, ne_c0_z, ry, rya, ryb, ryc, ryn, rz, rza, rzb, rzc, rzn, rc0, rc0a, rc0b, rc0c, rc0n]; done))
              replace c0_2 : w55.cell? ⟨w51.heap.size, 2, none⟩ = some (.int .i64 x2) := hx55.has (by show ¬ _ = _; first | assumption | omega) (by first | exact c0_2 | (simp [go_sem, World.cell?_alloc_past, y_0f, y_1f, y_0, y_1, z_3, c0_3f, c0_0, c0_1, c0_2, c0_3, ne_y_z, ne_y_c0, ne_z_y, ne_z_c0, ne_c0_y, ne_c0_z, ry, rya, ryb, ryc, ryn, rz, rza, rzb, rzc, rzn, rc0, rc0a, rc0b, rc0c, rc0n]; done))
              replace c0_3 : w55.cell? ⟨w51.heap.size, 3, none⟩ = some (.int .i64 x3) := hx55.has (by show ¬ _ = _; first | assumption | omega) (by first | exact c0_3 | (simp [go_sem, World.cell?_alloc_past, y_0f, y_1f, y_0, y_1, z_3, c0_3f, c0_0, c0_1, c0_2, c0_3, ne_y_z, ne_y_c0, ne_z_y, ne_z_c0, ne_c0_y, ne_c0_z, ry, rya, ryb, ryc, ryn, rz, rza, rzb, rzc, rzn, rc0, rc0a, rc0b, rc0c, rc0n]; done))
              have z55 := hx55.size
              try simp at z55
              replace ry : w.heap.size < w55.heap.size := by omega
              replace rya : w.heap.size < w55.heap.size + 1 := by omega
              replace ryb : w.heap.size < w55.heap.size + 1 + 1 := by omega
              replace ryc : w.heap.size < w55.heap.size + 1 + 1 + 1 := by omega
              replace ryn : ¬ w.heap.size = w55.heap.size := by omega
              replace rz : bo < w55.heap.size := by omega
              replace rza : bo < w55.heap.size + 1 := by omega
              replace rzb : bo < w55.heap.size + 1 + 1 := by omega
              replace rzc : bo < w55.heap.size + 1 + 1 + 1 := by omega
              replace rzn : ¬ bo = w55.heap.size := by omega
              replace rc0 : w51.heap.size < w55.heap.size := by omega
              replace rc0a : w51.heap.size < w55.heap.size + 1 := by omega
              replace rc0b : w51.heap.size < w55.heap.size + 1 + 1 := by omega
              replace rc0c : w51.heap.size < w55.heap.size + 1 + 1 + 1 := by omega
              replace rc0n : ¬ w51.heap.size = w55.heap.size := by omega
              have X55 : Hid (Ext w w55) := Lib.hid (have hX := (show Ext w _ from (by repeat (first | with_reducible exact X54.out | with_reducible refine Ext.drew ?_ | with_reducible refine Ext.drewN ?_ _ | with_reducible refine Ext.alloc ?_ _ | with_reducible refine Ext.setCell ?_ (by first | omega | (simp; done) | (simp; omega)) _))); Below.trans hX (hx55.below (Ext.size hX) (fun k hk hh => by have hh2 : k = g := hh; omega)))
              replace HO := Lib.hid (OwnR.but (OwnR.butN HO.out (by repeat (first | with_reducible exact But.refl _ _ | with_reducible refine But.drew ?_ | with_reducible refine But.drewN ?_ _ | with_reducible refine But.alloc ?_ _ | with_reducible refine But.setCell ?_ (by first | exact Nat.le_refl _ | (dsimp only; omega)) _ | with_reducible refine But.setNew ?_ (by first | omega | (simp; done) | (simp; omega)) _))) hx55 (by intro j h1 h2 hh; have h3 : j = g := hh; omega))
              clear HRd
              have HRd := Lib.hid hRd
              clear hsz55 X54 hx55 z55 hRd
              replace HRd : Hid (RRd _ g L k5 f6) := Lib.hid (by have h := HRd.out; rw [fail_at 9 (fun h => Ht2.out h) N54.out] at h; rw [G6.out, if_pos hor]; exact h)
              have HRm : Hid (RRd w55 g L k5 f6) := Lib.hid (RRd.butN HRd.out (by repeat (first | with_reducible exact But.refl _ _ | with_reducible refine But.drew ?_ | with_reducible refine But.drewN ?_ _ | with_reducible refine But.alloc ?_ _ | with_reducible refine But.setCell ?_ (by first | exact Nat.le_refl _ | (dsimp only; omega)) _ | with_reducible refine But.setNew ?_ (by first | omega | (simp; done) | (simp; omega)) _)))
              have HOm := Lib.hid (show OwnR w51.heap.size w55 (g + 1) 24 4 (.slice (some ⟨bo, 0, none⟩) out.length co) out.length (out.flatMap hopC) from (OwnR.butN HO.out (by repeat (first | with_reducible exact But.refl _ _ | with_reducible refine But.drew ?_ | with_reducible refine But.drewN ?_ _ | with_reducible refine But.alloc ?_ _ | with_reducible refine But.setCell ?_ (by first | exact Nat.le_refl _ | (dsimp only; omega)) _ | with_reducible refine But.setNew ?_ (by first | omega | (simp; done) | (simp; omega)) _)))).own
              have Xm : Hid (Ext w w55) := Lib.hid (by repeat (first | with_reducible exact X55.out | with_reducible refine Ext.drew ?_ | with_reducible refine Ext.drewN ?_ _ | with_reducible refine Ext.alloc ?_ _ | with_reducible refine Ext.setCell ?_ (by first | omega | (simp; done) | (simp; omega)) _))
              have hgm := HRm.out.lt
              go_wp2_with (at_builtin; refine wpList_append_slB _ rfl _ _ 22 rfl (g + 1) 24 i0 (.agg #[.int .i64 0, .int .i64 0, .int .i64 0, .int .i64 0]) 4 32 Try.underlying22 hi0 hz0 hz1 hz2 rfl (by decide) (.slice (some ⟨bo, 0, none⟩) out.length co) out.length _ (by rfl) (HOm.out.alloc _) (some ⟨w55.heap.size, 0, none⟩) 1 1 (hopC (x0, x1, x2, x3)) (by first | rfl | (simp [Act.eval]; done) | (simp [Act.eval, go_sem]; done)) (Sl.addrH (sl_new _ 24 4 #[.int .i64 x0, .int .i64 x1, .int .i64 x2, .int .i64 x3] 1 rfl (by decide)) (by first | rfl | (simp; done))) (by intro u hu; simp [hopC] at hu; rcases hu with rfl | rfl | rfl | rfl <;> rfl) (by have := GL.out; omega) (by decide) (by simp at hgm ⊢; omega) ?_; intro v2 wn hown2 hb2 hn2)
              have HOa := own_keep HOm.out ((Ext.refl _).alloc (.cells #[.int .i64 x0, .int .i64 x1, .int .i64 x2, .int .i64 x3] 24))
              have hwb : ¬ (Value.ownBlock (.slice (some ⟨bo, 0, none⟩) out.length co) = some w.heap.size) := fun hh => by have := (own_block HOa hh).1; omega
              go_roundg (gk - 1)
              case measure => have := HK.out; omega
              case rel =>
                have e : N - (gk - 1) = m + 1 + 1 := by have := HK.out; omega
                rw [e, GS.out]
                refine ⟨by have := HK.out; omega, num_eq (by have := HK.out; omega), Lib.hid ?_, Lib.hid ?_, ⟨?_, ?_, ?_, ?_⟩, ?_⟩
                · exact (HRm.out.ext ((Ext.refl _).alloc (.cells #[.int .i64 x0, .int .i64 x1, .int .i64 x2, .int .i64 x3] 24))).butT hb2 (fun j _ hj => by have := (own_block HOa hj).1; omega)
                · simpa [List.flatMap_append] using hown2
                · exact hb2.has hwb (((Ext.refl _).alloc (.cells #[.int .i64 x0, .int .i64 x1, .int .i64 x2, .int .i64 x3] 24)).has (by first | exact y_0 | (simp [go_sem, World.cell?_alloc_past, y_0f, y_1f, y_0, y_1, z_3, c0_3f, c0_0, c0_1, c0_2, c0_3, ne_y_z, ne_y_c0, ne_z_y, ne_z_c0, ne_c0_y, ne_c0_z, ry, rya, ryb, ryc, ryn, rz, rza, rzb, rzc, rzn, rc0, rc0a, rc0b, rc0c, rc0n]; done)))
                · exact hb2.has hwb (((Ext.refl _).alloc (.cells #[.int .i64 x0, .int .i64 x1, .int .i64 x2, .int .i64 x3] 24)).has (by first | exact y_1 | (simp [go_sem, World.cell?_alloc_past, y_0f, y_1f, y_0, y_1, z_3, c0_3f, c0_0, c0_1, c0_2, c0_3, ne_y_z, ne_y_c0, ne_z_y, ne_z_c0, ne_c0_y, ne_c0_z, ry, rya, ryb, ryc, ryn, rz, rza, rzb, rzc, rzn, rc0, rc0a, rc0b, rc0c, rc0n]; done)))
                · exact hb2.froz hwb (v := .int .i64 0) (((Ext.refl _).alloc (.cells #[.int .i64 x0, .int .i64 x1, .int .i64 x2, .int .i64 x3] 24)).has (by first | exact y_0 | (simp [go_sem, World.cell?_alloc_past, y_0f, y_1f, y_0, y_1, z_3, c0_3f, c0_0, c0_1, c0_2, c0_3, ne_y_z, ne_y_c0, ne_z_y, ne_z_c0, ne_c0_y, ne_c0_z, ry, rya, ryb, ryc, ryn, rz, rza, rzb, rzc, rzn, rc0, rc0a, rc0b, rc0c, rc0n]; done))) (((Ext.refl _).alloc (.cells #[.int .i64 x0, .int .i64 x1, .int .i64 x2, .int .i64 x3] 24)).froz (v := .int .i64 0) (by first | exact y_0 | (simp [go_sem, World.cell?_alloc_past, y_0f, y_1f, y_0, y_1, z_3, c0_3f, c0_0, c0_1, c0_2, c0_3, ne_y_z, ne_y_c0, ne_z_y, ne_z_c0, ne_c0_y, ne_c0_z, ry, rya, ryb, ryc, ryn, rz, rza, rzb, rzc, rzn, rc0, rc0a, rc0b, rc0c, rc0n]; done)) (by first | exact y_0f | (simp [go_sem, World.cell?_alloc_past, y_0f, y_1f, y_0, y_1, z_3, c0_3f, c0_0, c0_1, c0_2, c0_3, ne_y_z, ne_y_c0, ne_z_y, ne_z_c0, ne_c0_y, ne_c0_z, ry, rya, ryb, ryc, ryn, rz, rza, rzb, rzc, rzn, rc0, rc0a, rc0b, rc0c, rc0n]; done)))
                · exact hb2.froz hwb (v := .int .i64 0) (((Ext.refl _).alloc (.cells #[.int .i64 x0, .int .i64 x1, .int .i64 x2, .int .i64 x3] 24)).has (by first | exact y_1 | (simp [go_sem, World.cell?_alloc_past, y_0f, y_1f, y_0, y_1, z_3, c0_3f, c0_0, c0_1, c0_2, c0_3, ne_y_z, ne_y_c0, ne_z_y, ne_z_c0, ne_c0_y, ne_c0_z, ry, rya, ryb, ryc, ryn, rz, rza, rzb, rzc, rzn, rc0, rc0a, rc0b, rc0c, rc0n]; done))) (((Ext.refl _).alloc (.cells #[.int .i64 x0, .int .i64 x1, .int .i64 x2, .int .i64 x3] 24)).froz (v := .int .i64 0) (by first | exact y_1 | (simp [go_sem, World.cell?_alloc_past, y_0f, y_1f, y_0, y_1, z_3, c0_3f, c0_0, c0_1, c0_2, c0_3, ne_y_z, ne_y_c0, ne_z_y, ne_z_c0, ne_c0_y, ne_c0_z, ry, rya, ryb, ryc, ryn, rz, rza, rzb, rzc, rzn, rc0, rc0a, rc0b, rc0c, rc0n]; done)) (by first | exact y_1f | (simp [go_sem, World.cell?_alloc_past, y_0f, y_1f, y_0, y_1, z_3, c0_3f, c0_0, c0_1, c0_2, c0_3, ne_y_z, ne_y_c0, ne_z_y, ne_z_c0, ne_c0_y, ne_c0_z, ry, rya, ryb, ryc, ryn, rz, rza, rzb, rzc, rzn, rc0, rc0a, rc0b, rc0c, rc0n]; done)))
                · refine (fun (hxa : Ext w _) => Below.trans hxa (hb2.below hxa.size (fun k hk hh => by have := (own_block HOa hh).1; omega))) ?_
                  exact Ext.alloc Xm.out _
            · have hor : ¬ ordB out x3 = true := by rw [HZ.out]; simpa using hlt
              have h65 : f6 = f5 := by rw [G6.out, if_neg hor]
              have hnow : RRd (w54.setCell ⟨w51.heap.size, 3, none⟩ (.int .i64 x3)) g L k5 f5 := (RRd.butN HRd.out (by repeat (first | with_reducible exact But.refl _ _ | with_reducible refine But.drew ?_ | with_reducible refine But.drewN ?_ _ | with_reducible refine But.alloc ?_ _ | with_reducible refine But.setCell ?_ (by first | exact Nat.le_refl _ | (dsimp only; omega)) _ | with_reducible refine But.setNew ?_ (by first | omega | (simp; done) | (simp; omega)) _)))
              replace HRd : Hid (RRd (w54.setCell ⟨w51.heap.size, 3, none⟩ (.int .i64 x3)) g L k5 f6) := Lib.hid (by rw [h65]; exact hnow)
              clear h65 hnow
              have HRm : Hid (RRd (w54.setCell ⟨w51.heap.size, 3, none⟩ (.int .i64 x3)) g L k5 f6) := Lib.hid HRd.out
              have HOm := Lib.hid (show OwnR w51.heap.size (w54.setCell ⟨w51.heap.size, 3, none⟩ (.int .i64 x3)) (g + 1) 24 4 (.slice (some ⟨bo, 0, none⟩) out.length co) out.length (out.flatMap hopC) from (OwnR.butN HO.out (by repeat (first | with_reducible exact But.refl _ _ | with_reducible refine But.drew ?_ | with_reducible refine But.drewN ?_ _ | with_reducible refine But.alloc ?_ _ | with_reducible refine But.setCell ?_ (by first | exact Nat.le_refl _ | (dsimp only; omega)) _ | with_reducible refine But.setNew ?_ (by first | omega | (simp; done) | (simp; omega)) _)))).own
              have Xm : Hid (Ext w (w54.setCell ⟨w51.heap.size, 3, none⟩ (.int .i64 x3))) := Lib.hid (by repeat (first | with_reducible exact X54.out | with_reducible refine Ext.drew ?_ | with_reducible refine Ext.drewN ?_ _ | with_reducible refine Ext.alloc ?_ _ | with_reducible refine Ext.setCell ?_ (by first | omega | (simp; done) | (simp; omega)) _))
              have hgm := HRm.out.lt
              go_wp2_with (at_builtin; refine wpList_append_slB _ rfl _ _ 22 rfl (g + 1) 24 i0 (.agg #[.int .i64 0, .int .i64 0, .int .i64 0, .int .i64 0]) 4 32 Try.underlying22 hi0 hz0 hz1 hz2 rfl (by decide) (.slice (some ⟨bo, 0, none⟩) out.length co) out.length _ (by rfl) (HOm.out.alloc _) (some ⟨w54.heap.size, 0, none⟩) 1 1 (hopC (x0, x1, x2, x3)) (by first | rfl | (simp [Act.eval]; done) | (simp [Act.eval, go_sem]; done)) (Sl.addrH (sl_new _ 24 4 #[.int .i64 x0, .int .i64 x1, .int .i64 x2, .int .i64 x3] 1 rfl (by decide)) (by first | rfl | (simp; done))) (by intro u hu; simp [hopC] at hu; rcases hu with rfl | rfl | rfl | rfl <;> rfl) (by have := GL.out; omega) (by decide) (by simp at hgm ⊢; omega) ?_; intro v2 wn hown2 hb2 hn2)
              have HOa := own_keep HOm.out (Ext.drew ((Ext.refl _).alloc (.cells #[.int .i64 x0, .int .i64 x1, .int .i64 x2, .int .i64 x3] 24)))
              have hwb : ¬ (Value.ownBlock (.slice (some ⟨bo, 0, none⟩) out.length co) = some w.heap.size) := fun hh => by have := (own_block HOa hh).1; omega
              go_roundg (gk - 1)
              case measure => have := HK.out; omega
              case rel =>
                have e : N - (gk - 1) = m + 1 + 1 := by have := HK.out; omega
                rw [e, GS.out]
                refine ⟨by have := HK.out; omega, num_eq (by have := HK.out; omega), Lib.hid ?_, Lib.hid ?_, ⟨?_, ?_, ?_, ?_⟩, ?_⟩
                · exact (HRm.out.ext (Ext.drew ((Ext.refl _).alloc (.cells #[.int .i64 x0, .int .i64 x1, .int .i64 x2, .int .i64 x3] 24)))).butT hb2 (fun j _ hj => by have := (own_block HOa hj).1; omega)
                · simpa [List.flatMap_append] using hown2
                · exact hb2.has hwb ((Ext.drew ((Ext.refl _).alloc (.cells #[.int .i64 x0, .int .i64 x1, .int .i64 x2, .int .i64 x3] 24))).has (by first | exact y_0 | (simp [go_sem, World.cell?_alloc_past, y_0f, y_1f, y_0, y_1, z_3, c0_3f, c0_0, c0_1, c0_2, c0_3, ne_y_z, ne_y_c0, ne_z_y, ne_z_c0, ne_c0_y, ne_c0_z, ry, rya, ryb, ryc, ryn, rz, rza, rzb, rzc, rzn, rc0, rc0a, rc0b, rc0c, rc0n]; done)))
                · exact hb2.has hwb ((Ext.drew ((Ext.refl _).alloc (.cells #[.int .i64 x0, .int .i64 x1, .int .i64 x2, .int .i64 x3] 24))).has (by first | exact y_1 | (simp [go_sem, World.cell?_alloc_past, y_0f, y_1f, y_0, y_1, z_3, c0_3f, c0_0, c0_1, c0_2, c0_3, ne_y_z, ne_y_c0, ne_z_y, ne_z_c0, ne_c0_y, ne_c0_z, ry, rya, ryb, ryc, ryn, rz, rza, rzb, rzc, rzn, rc0, rc0a, rc0b, rc0c, rc0n]; done)))
                · exact hb2.froz hwb (v := .int .i64 0) ((Ext.drew ((Ext.refl _).alloc (.cells #[.int .i64 x0, .int .i64 x1, .int .i64 x2, .int .i64 x3] 24))).has (by first | exact y_0 | (simp [go_sem, World.cell?_alloc_past, y_0f, y_1f, y_0, y_1, z_3, c0_3f, c0_0, c0_1, c0_2, c0_3, ne_y_z, ne_y_c0, ne_z_y, ne_z_c0, ne_c0_y, ne_c0_z, ry, rya, ryb, ryc, ryn, rz, rza, rzb, rzc, rzn, rc0, rc0a, rc0b, rc0c, rc0n]; done))) ((Ext.drew ((Ext.refl _).alloc (.cells #[.int .i64 x0, .int .i64 x1, .int .i64 x2, .int .i64 x3] 24))).froz (v := .int .i64 0) (by first | exact y_0 | (simp [go_sem, World.cell?_alloc_past, y_0f, y_1f, y_0, y_1, z_3, c0_3f, c0_0, c0_1, c0_2, c0_3, ne_y_z, ne_y_c0, ne_z_y, ne_z_c0, ne_c0_y, ne_c0_z, ry, rya, ryb, ryc, ryn, rz, rza, rzb, rzc, rzn, rc0, rc0a, rc0b, rc0c, rc0n]; done)) (by first | exact y_0f | (simp [go_sem, World.cell?_alloc_past, y_0f, y_1f, y_0, y_1, z_3, c0_3f, c0_0, c0_1, c0_2, c0_3, ne_y_z, ne_y_c0, ne_z_y, ne_z_c0, ne_c0_y, ne_c0_z, ry, rya, ryb, ryc, ryn, rz, rza, rzb, rzc, rzn, rc0, rc0a, rc0b, rc0c, rc0n]; done)))
                · exact hb2.froz hwb (v := .int .i64 0) ((Ext.drew ((Ext.refl _).alloc (.cells #[.int .i64 x0, .int .i64 x1, .int .i64 x2, .int .i64 x3] 24))).has (by first | exact y_1 | (simp [go_sem, World.cell?_alloc_past, y_0f, y_1f, y_0, y_1, z_3, c0_3f, c0_0, c0_1, c0_2, c0_3, ne_y_z, ne_y_c0, ne_z_y, ne_z_c0, ne_c0_y, ne_c0_z, ry, rya, ryb, ryc, ryn, rz, rza, rzb, rzc, rzn, rc0, rc0a, rc0b, rc0c, rc0n]; done))) ((Ext.drew ((Ext.refl _).alloc (.cells #[.int .i64 x0, .int .i64 x1, .int .i64 x2, .int .i64 x3] 24))).froz (v := .int .i64 0) (by first | exact y_1 | (simp [go_sem, World.cell?_alloc_past, y_0f, y_1f, y_0, y_1, z_3, c0_3f, c0_0, c0_1, c0_2, c0_3, ne_y_z, ne_y_c0, ne_z_y, ne_z_c0, ne_c0_y, ne_c0_z, ry, rya, ryb, ryc, ryn, rz, rza, rzb, rzc, rzn, rc0, rc0a, rc0b, rc0c, rc0n]; done)) (by first | exact y_1f | (simp [go_sem, World.cell?_alloc_past, y_0f, y_1f, y_0, y_1, z_3, c0_3f, c0_0, c0_1, c0_2, c0_3, ne_y_z, ne_y_c0, ne_z_y, ne_z_c0, ne_c0_y, ne_c0_z, ry, rya, ryb, ryc, ryn, rz, rza, rzb, rzc, rzn, rc0, rc0a, rc0b, rc0c, rc0n]; done)))
                · refine (fun (hxa : Ext w _) => Below.trans hxa (hb2.below hxa.size (fun k hk hh => by have := (own_block HOa hh).1; omega))) ?_
                  exact Ext.drew (Ext.alloc Xm.out _)
      · have hE00 : ¬ E0 = 0 := by rw [hE0]; exact fltE_nz hnz hfn
        have e25 : (E0 == 0) = false := by simpa using hE00
        obtain ⟨A9, c9, rfl, hA9, hSl9⟩ := own_parts2 ho.out
        obtain ⟨k, f, out⟩ := s
        obtain ⟨⟨e, a⟩, hea⟩ : ∃ E, E = endF f k L.length := ⟨_, rfl⟩
        have hE1 := hstop (.inr hfn)
        unfold hopEnd at hE1
        simp only at hE1 hr ho hE0 hnz
        rw [← hea] at hE1
        have hz0 : e = 0 → a = 0 := by
          intro h0
          subst h0
          unfold endF at hea
          cases f with
          | some x => simp only at hea; exact absurd (congrArg Prod.fst hea).symm (hnz x rfl)
          | none =>
            simp only at hea
            split at hea
            · injection hea with h1 h2; exact absurd h1 (by decide)
            · injection hea with h1 h2
        have HEA := Lib.hid hea
        have HZ := Lib.hid hz0
        have HE := Lib.hid hE1
        have HRd := hr
        have HO := Lib.hid (OwnR.mk ho.out)
        clear hx hj hg hz hs hjN hlen hea hz0 hE1 hE0 hnz hstop hNe hSl9 hr ho hfn hE00
        go_wp2_with fail
        (with_reducible refine (rEnd_h g k L f e a _ (HRd.out.ext (by repeat (first | with_reducible exact Ext.refl _ | with_reducible refine Ext.drew ?_ | with_reducible refine Ext.drewN ?_ _ | with_reducible refine Ext.alloc ?_ _ | with_reducible refine Ext.setCell ?_ (by first | omega | (simp; done) | (simp; omega)) _))) hL HEA.out).mono ?_)
        rintro e w41 ⟨rfl, hx41⟩
        replace y_0f : w41.frozen? ⟨w.heap.size, 0, none⟩ = false := hx41.froz (v := .int .i64 0) (by first | exact y_0 | (simp [go_sem, World.cell?_alloc_past, y_0, y_0f, y_1, y_1f]; done)) (by first | exact y_0f | (simp [go_sem, World.cell?_alloc_past, y_0, y_0f, y_1, y_1f]; done))
        replace y_1f : w41.frozen? ⟨w.heap.size, 1, none⟩ = false := hx41.froz (v := .int .i64 0) (by first | exact y_1 | (simp [go_sem, World.cell?_alloc_past, y_0, y_0f, y_1, y_1f]; done)) (by first | exact y_1f | (simp [go_sem, World.cell?_alloc_past, y_0, y_0f, y_1, y_1f]; done))
        replace y_0 : w41.cell? ⟨w.heap.size, 0, none⟩ = some (.int .i64 0) := hx41.has (by first | exact y_0 | (simp [go_sem, World.cell?_alloc_past, y_0, y_0f, y_1, y_1f]; done))
        replace y_1 : w41.cell? ⟨w.heap.size, 1, none⟩ = some (.int .i64 0) := hx41.has (by first | exact y_1 | (simp [go_sem, World.cell?_alloc_past, y_0, y_0f, y_1, y_1f]; done))
        have z41 := hx41.size
        try simp at z41
        have ry : w.heap.size < w41.heap.size := by omega
        have rya : w.heap.size < w41.heap.size + 1 := by omega
        have ryb : w.heap.size < w41.heap.size + 1 + 1 := by omega
        have ryc : w.heap.size < w41.heap.size + 1 + 1 + 1 := by omega
        have ryn : ¬ w.heap.size = w41.heap.size := by omega
        replace HRd := Lib.hid (HRd.out.ext (Ext.trans (by repeat (first | with_reducible exact Ext.refl _ | with_reducible refine Ext.drew ?_ | with_reducible refine Ext.drewN ?_ _ | with_reducible refine Ext.alloc ?_ _ | with_reducible refine Ext.setCell ?_ (by first | omega | (simp; done) | (simp; omega)) _)) hx41))
        replace HO := Lib.hid (HO.out.ext (Ext.trans (by repeat (first | with_reducible exact Ext.refl _ | with_reducible refine Ext.drew ?_ | with_reducible refine Ext.drewN ?_ _ | with_reducible refine Ext.alloc ?_ _ | with_reducible refine Ext.setCell ?_ (by first | omega | (simp; done) | (simp; omega)) _)) hx41))
        have X41 : Hid (Ext w w41) := Lib.hid (Ext.trans (by repeat (first | with_reducible exact XR.out | with_reducible refine Ext.drew ?_ | with_reducible refine Ext.drewN ?_ _ | with_reducible refine Ext.alloc ?_ _ | with_reducible refine Ext.setCell ?_ (by first | omega | (simp; done) | (simp; omega)) _)) hx41)
        clear XR hx41 z41
        by_cases he : e ≠ 0
        · have e7 : (e != 0) = true := by simpa using he
          go_wp2_with fail
          refine wp_region_held_drew (S := fun w' => w'.cell? ⟨w41.heap.size, 0, none⟩ = some (.int .i64 e) ∧ w'.cell? ⟨w41.heap.size, 1, none⟩ = some (.int .i64 a)) (by kernel_rfl) (by first | exact ⟨c0_0, c0_1⟩ | (simp [go_sem, World.cell?_alloc_past, y_0f, y_1f, y_0, y_1, ry, rya, ryb, ryc, ryn]; done)) (fun hHeld => ?_)
          (refine' take_in 0 rfl (by kernel_rfl) (by kernel_rfl) (by kernel_rfl) (fun _ _ _ h => h) (by rfl) (by assumption) ?_ ?_; rotate_left; focus (intro w hSw; (try dsimp only at hSw); go_simp; try with_reducible rfl)); try simp only [Act.put, List.setIfInBounds_toArray, List.set_cons_zero, List.set_cons_succ]
          (refine' take_in 1 rfl (by kernel_rfl) (by kernel_rfl) (by kernel_rfl) (fun _ _ _ h => h) (by rfl) (by assumption) ?_ ?_; rotate_left; focus (intro w hSw; (try dsimp only at hSw); go_simp; try with_reducible rfl)); try simp only [Act.put, List.setIfInBounds_toArray, List.set_cons_zero, List.set_cons_succ]
          refine' next_in 2 rfl (by kernel_rfl) (by rfl) (fun K hK => ?_)
          go_simp
          refine hK.out _ _ (by (first | exact ⟨c0_0, c0_1⟩ | (simp [go_sem, World.cell?_alloc_past, y_0f, y_1f, y_0, y_1, ry, rya, ryb, ryc, ryn]; done))) (fun hHeld => ?_); clear hK K; try simp only [Act.put, List.setIfInBounds_toArray, List.set_cons_zero, List.set_cons_succ]
          refine wpAnyH_done (by kernel_rfl) ?_ _
          obtain rfl : R = ([], e, a) := HE.out.trans (if_neg he)
          go_wp2_with fail
          refine bodyPost_ret (v := .tuple #[.slice none 0 0, .agg #[.int .i64 e, .int .i64 a]]) (by simp [results, Try.results66, go_sem, World.cell?_alloc_past, y_0f, y_1f, y_0, y_1, ry, rya, ryb, ryc, ryn]; try rfl) rfl (RetHopV.nil (xs := [.agg #[.int .i64 e, .int .i64 a]]) ?_)
          exact (by repeat (first | with_reducible exact X41.out | with_reducible refine Ext.drew ?_ | with_reducible refine Ext.drewN ?_ _ | with_reducible refine Ext.alloc ?_ _ | with_reducible refine Ext.setCell ?_ (by first | omega | (simp; done) | (simp; omega)) _))
        · have he2 : e = 0 := by simpa using he
          have ha2 : a = 0 := HZ.out he2
          subst he2; subst ha2
          go_wp2_with fail
          refine wp_region_held_drew (S := fun w' => w'.cell? ⟨w41.heap.size, 0, none⟩ = some (.int .i64 0) ∧ w'.cell? ⟨w41.heap.size, 1, none⟩ = some (.int .i64 0)) (by kernel_rfl) (by first | exact ⟨c0_0, c0_1⟩ | (simp [go_sem, World.cell?_alloc_past, y_0f, y_1f, y_0, y_1, ry, rya, ryb, ryc, ryn]; done)) (fun hHeld => ?_)
          (refine' take_in 0 rfl (by kernel_rfl) (by kernel_rfl) (by kernel_rfl) (fun _ _ _ h => h) (by rfl) (by assumption) ?_ ?_; rotate_left; focus (intro w hSw; (try dsimp only at hSw); go_simp; try with_reducible rfl)); try simp only [Act.put, List.setIfInBounds_toArray, List.set_cons_zero, List.set_cons_succ]
          (refine' take_in 1 rfl (by kernel_rfl) (by kernel_rfl) (by kernel_rfl) (fun _ _ _ h => h) (by rfl) (by assumption) ?_ ?_; rotate_left; focus (intro w hSw; (try dsimp only at hSw); go_simp; try with_reducible rfl)); try simp only [Act.put, List.setIfInBounds_toArray, List.set_cons_zero, List.set_cons_succ]
          (refine' take_in 2 rfl (by kernel_rfl) (by kernel_rfl) (by kernel_rfl) (fun _ _ _ h => h) (by rfl) (by assumption) ?_ ?_; rotate_left; focus (intro w hSw; (try dsimp only at hSw); go_simp; try with_reducible rfl)); try simp only [Act.put, List.setIfInBounds_toArray, List.set_cons_zero, List.set_cons_succ]
          refine' next_in 3 rfl (by kernel_rfl) (by rfl) (fun K hK => ?_)
          go_simp
          refine hK.out _ _ (by (first | exact ⟨c0_0, c0_1⟩ | (simp [go_sem, World.cell?_alloc_past, y_0f, y_1f, y_0, y_1, ry, rya, ryb, ryc, ryn]; done))) (fun hHeld => ?_); clear hK K; try simp only [Act.put, List.setIfInBounds_toArray, List.set_cons_zero, List.set_cons_succ]
          refine wpAnyH_done (by kernel_rfl) ?_ _
          obtain rfl : R = (out, 0, 0) := by have h := HE.out; simpa using h
          go_wp2_with fail
          refine bodyPost_ret (v := .tuple #[.slice A9 out.length c9, .agg #[.int .i64 0, .int .i64 0]]) (by simp [results, Try.results66, go_sem, World.cell?_alloc_past, y_0f, y_1f, y_0, y_1, ry, rya, ryb, ryc, ryn]; try rfl) rfl (RetHopV.mk (n := out.length) (xs := [.agg #[.int .i64 0, .int .i64 0]]) ?_ (by repeat (first | with_reducible exact X41.out | with_reducible refine Ext.drew ?_ | with_reducible refine Ext.drewN ?_ _ | with_reducible refine Ext.alloc ?_ _ | with_reducible refine Ext.setCell ?_ (by first | omega | (simp; done) | (simp; omega)) _)) rfl)
          exact own_lower (own_but (S := fun j => j = w.heap.size ∨ w41.heap.size ≤ j) HO.out.own (by repeat (first | with_reducible exact But.refl _ _ | with_reducible refine But.drew ?_ | with_reducible refine But.drewN ?_ _ | with_reducible refine But.alloc ?_ _ | with_reducible refine But.setCell ?_ (by first | exact Or.inl rfl | (exact Or.inr (by (show _ ≤ _); omega))) _)) (fun j hj hh => by have h1 := own_block HO.out.own hj; rcases hh with hh | hh <;> omega)) (by omega)
end Go.Proofs.Ytjdpgapmdmpjjaa
