/- roster: the reference's Read. Conditions stand in each lemma. -/
import Derived.Test.YtjdpgapmdmpjjaaRosR
set_option linter.unusedVariables false
set_option linter.unusedSimpArgs false
namespace Go.Proofs.Ytjdpgapmdmpjjaa
open Go.RowKit Go.ChangeShapes Go.WideShapes Go.Deep Go.Joins Go.Maps

theorem Sl.addr {w : World} {sz n c : Nat} {A B : Option Addr} {xs : List Value} (h : Sl w sz A n c xs) (e : A = B) : Sl w sz B n c xs := e ▸ h
theorem FltNz.ru {f : Option (Int × Int)} (h : FltNz f) (L : List Nat) (k : Nat) : FltNz (ruF L k f) := by
  unfold ruF
  split
  · exact FltNz.none.fail _ _
  · exact h
theorem rosRd1_nz {L : List Nat} {s : Nat × Option (Int × Int) × List (Int × Int × Int × Int × Bool × Bool)} (h : FltNz s.2.1) : FltNz (rosRd1 L s).2.1 := by
  unfold rosRd1
  exact ((((((h.rn L s.1 0 63).ru L _).rn L _ 1 4).rn L _ 0 4296015872).rn L _ 0 3).fail _ _)
theorem rosRd_nz {L : List Nat} {s : Nat × Option (Int × Int) × List (Int × Int × Int × Int × Bool × Bool)} (h : FltNz s.2.1) : ∀ j, FltNz (rosRd L s j).2.1
  | 0 => h
  | j + 1 => rosRd1_nz (rosRd_nz h j)
theorem ruF_some (L : List Nat) (k : Nat) (x : Int × Int) : ruF L k (some x) = some x := by unfold ruF; rw [if_neg (by simp)]
theorem rosRd1_some {L : List Nat} {s : Nat × Option (Int × Int) × List (Int × Int × Int × Int × Bool × Bool)} {x : Int × Int} (h : s.2.1 = some x) : (rosRd1 L s).2.1 = some x := by
  unfold rosRd1
  simp only [h, rnF_some, ruF_some]
  rfl
theorem rosRd_some {L : List Nat} {s : Nat × Option (Int × Int) × List (Int × Int × Int × Int × Bool × Bool)} {x : Int × Int} {j : Nat} (h : (rosRd L s j).2.1 = some x) : ∀ m, (rosRd L s (j + m)).2.1 = some x
  | 0 => h
  | m + 1 => rosRd1_some (rosRd_some h m)
theorem rosEnd_some {L : List Nat} {s : Nat × Option (Int × Int) × List (Int × Int × Int × Int × Bool × Bool)} {x : Int × Int} (h : s.2.1 = some x) (hx : ¬ x.1 = 0) : rosEnd L s = ([], x) := by
  unfold rosEnd
  rw [h]
  exact if_neg hx
theorem rosS0_nz (L : List Nat) : FltNz (rosS0 L).2.1 := FltNz.none.rn L 0 0 32
/-- a reader that has a fault is read no further -/
theorem rosRV_stop {L : List Nat} {j : Nat} (hj : j ≤ (rnV L 0 none 0 32).toNat) (h : j = (rnV L 0 none 0 32).toNat ∨ ¬ (rosRd L (rosS0 L) j).2.1 = none) : rosRV L = rosEnd L (rosRd L (rosS0 L) j) := by
  rcases h with h | h
  · unfold rosRV; rw [h]
  · obtain ⟨x, hx⟩ : ∃ x, (rosRd L (rosS0 L) j).2.1 = some x := by
      cases hf : (rosRd L (rosS0 L) j).2.1 with
      | none => exact absurd hf h
      | some x => exact ⟨x, rfl⟩
    have hz := rosRd_nz (rosS0_nz L) j x hx
    have hm := rosRd_some hx ((rnV L 0 none 0 32).toNat - j)
    rw [show j + ((rnV L 0 none 0 32).toNat - j) = (rnV L 0 none 0 32).toNat from by omega] at hm
    rw [rosEnd_some hx hz]
    exact rosEnd_some hm hz
set_option maxRecDepth 100000 in
set_option maxHeartbeats 4000000 in
theorem rRead16_any (A : Option Addr) (c : Nat) (L : List Nat) (hB : Byt L) (hL : L.length < 1099511627776) (w : World) (hs : Sl w 1 A L.length c (by_ L)) :
    Calls Try.prog 79 #[.slice A L.length c] w (RetV (rosRV L).1 [.agg #[.int .i64 (rosRV L).2.1, .int .i64 (rosRV L).2.2]] w) := by
  have s1 := hs.small
  obtain ⟨R, hR⟩ : ∃ R, R = rosRV L := ⟨_, rfl⟩
  rw [← hR]
  have HR0 := Lib.hid hR
  obtain ⟨nn, hnn⟩ : ∃ v, v = rnV L 0 none 0 32 := ⟨_, rfl⟩
  obtain ⟨hn0, hn1⟩ : 0 ≤ nn ∧ nn ≤ 32 := by rw [hnn]; exact rnV_in L 0 none 0 32 (by decide)
  obtain ⟨N, rfl⟩ : ∃ N : Nat, nn = (N : Int) := ⟨nn.toNat, by omega⟩
  have HNN := Lib.hid hnn
  have HBy := Lib.hid hB
  have HS := Lib.hid hs
  obtain ⟨i0, hi0, hz0, hz1, hz2⟩ := info_parts val_info
  have qn := flt_neq
  have qg := flt_eqg
  clear hs hR hnn hB
  go_enter Try.func79, Try.ntmps79
  go_wp2_with fail
  (with_reducible refine (rNewReader_any A c L HBy.out _ (HS.out.ext (by repeat (first | with_reducible exact Ext.refl _ | with_reducible refine Ext.drew ?_ | with_reducible refine Ext.drewN ?_ _ | with_reducible refine Ext.alloc ?_ _ | with_reducible refine Ext.setCell ?_ (by first | omega | (simp; done) | (simp; omega)) _))) hL).mono ?_)
  rintro e w1 ⟨g, rfl, hg, hRd, hx1⟩
  have c0_0f : w1.frozen? ⟨w.heap.size, 0, none⟩ = false := hx1.froz (v := .int .i64 0) (by first | fail | (simp [go_sem, World.cell?_alloc_past]; done)) (by first | fail | (simp [go_sem, World.cell?_alloc_past]; done))
  have c0_1f : w1.frozen? ⟨w.heap.size, 1, none⟩ = false := hx1.froz (v := .int .i64 0) (by first | fail | (simp [go_sem, World.cell?_alloc_past]; done)) (by first | fail | (simp [go_sem, World.cell?_alloc_past]; done))
  have c0_0 : w1.cell? ⟨w.heap.size, 0, none⟩ = some (.int .i64 0) := hx1.has (by first | fail | (simp [go_sem, World.cell?_alloc_past]; done))
  have c0_1 : w1.cell? ⟨w.heap.size, 1, none⟩ = some (.int .i64 0) := hx1.has (by first | fail | (simp [go_sem, World.cell?_alloc_past]; done))
  have z1 := hx1.size
  try simp at z1
  have rc0 : w.heap.size < w1.heap.size := by omega
  have rc0a : w.heap.size < w1.heap.size + 1 := by omega
  have rc0b : w.heap.size < w1.heap.size + 1 + 1 := by omega
  have rc0c : w.heap.size < w1.heap.size + 1 + 1 + 1 := by omega
  have rc0n : ¬ w.heap.size = w1.heap.size := by omega
  have X1 : Hid (Ext w w1) := Lib.hid (Ext.trans (by repeat (first | with_reducible exact Ext.refl w | with_reducible refine Ext.drew ?_ | with_reducible refine Ext.drewN ?_ _ | with_reducible refine Ext.alloc ?_ _ | with_reducible refine Ext.setCell ?_ (by first | omega | (simp; done) | (simp; omega)) _)) hx1)
  have HR := Lib.hid hRd
  clear HS hx1 z1 hRd
  have hgw : w.heap.size < g := by (try simp at hg); omega
  have hgl := HR.out.lt
  go_wp2_with fail
  (with_reducible refine (rN_e g 0 (rosS0 L).1 L none (rosS0 L).2.1 0 32 (N : Int) (by decide) (by decide) (by decide) (by decide) hL HNN.out rfl rfl _ (HR.out.ext (by repeat (first | with_reducible exact Ext.refl _ | with_reducible refine Ext.drew ?_ | with_reducible refine Ext.drewN ?_ _ | with_reducible refine Ext.alloc ?_ _ | with_reducible refine Ext.setCell ?_ (by first | omega | (simp; done) | (simp; omega)) _)))).mono ?_)
  rintro e w2 ⟨rfl, hRd, hx2⟩
  have hsz2 := hx2.size
  try simp at hsz2
  replace c0_0f : w2.frozen? ⟨w.heap.size, 0, none⟩ = false := hx2.froz (by show ¬ _ = _; first | assumption | omega) (v := .int .i64 0) (by first | exact c0_0 | (simp [go_sem, World.cell?_alloc_past, c0_0f, c0_1f, c0_0, c0_1, rc0, rc0a, rc0b, rc0c, rc0n]; done)) (by first | exact c0_0f | (simp [go_sem, World.cell?_alloc_past, c0_0f, c0_1f, c0_0, c0_1, rc0, rc0a, rc0b, rc0c, rc0n]; done))
  replace c0_1f : w2.frozen? ⟨w.heap.size, 1, none⟩ = false := hx2.froz (by show ¬ _ = _; first | assumption | omega) (v := .int .i64 0) (by first | exact c0_1 | (simp [go_sem, World.cell?_alloc_past, c0_0f, c0_1f, c0_0, c0_1, rc0, rc0a, rc0b, rc0c, rc0n]; done)) (by first | exact c0_1f | (simp [go_sem, World.cell?_alloc_past, c0_0f, c0_1f, c0_0, c0_1, rc0, rc0a, rc0b, rc0c, rc0n]; done))
  replace c0_0 : w2.cell? ⟨w.heap.size, 0, none⟩ = some (.int .i64 0) := hx2.has (by show ¬ _ = _; first | assumption | omega) (by first | exact c0_0 | (simp [go_sem, World.cell?_alloc_past, c0_0f, c0_1f, c0_0, c0_1, rc0, rc0a, rc0b, rc0c, rc0n]; done))
  replace c0_1 : w2.cell? ⟨w.heap.size, 1, none⟩ = some (.int .i64 0) := hx2.has (by show ¬ _ = _; first | assumption | omega) (by first | exact c0_1 | (simp [go_sem, World.cell?_alloc_past, c0_0f, c0_1f, c0_0, c0_1, rc0, rc0a, rc0b, rc0c, rc0n]; done))
  have z2 := hx2.size
  try simp at z2
  replace rc0 : w.heap.size < w2.heap.size := by omega
  replace rc0a : w.heap.size < w2.heap.size + 1 := by omega
  replace rc0b : w.heap.size < w2.heap.size + 1 + 1 := by omega
  replace rc0c : w.heap.size < w2.heap.size + 1 + 1 + 1 := by omega
  replace rc0n : ¬ w.heap.size = w2.heap.size := by omega
  have X2 : Hid (Ext w w2) := Lib.hid (have hX := (show Ext w _ from (by repeat (first | with_reducible exact X1.out | with_reducible refine Ext.drew ?_ | with_reducible refine Ext.drewN ?_ _ | with_reducible refine Ext.alloc ?_ _ | with_reducible refine Ext.setCell ?_ (by first | omega | (simp; done) | (simp; omega)) _))); Below.trans hX (hx2.below (Ext.size hX) (fun k hk hh => by have hh2 : k = g := hh; omega)))
  clear HR
  have HR := Lib.hid hRd
  clear hsz2 X1 hx2 z2 hRd
  have hgl2 := HR.out.lt
  go_wp2_with fail
  go_loopg [6, 7] N (fun gh q i wx => gh ≤ N ∧ i = .int .i64 ((N - gh : Nat) : Int) ∧ Hid (RRd wx g L (rosRd L (rosS0 L) (N - gh)).1 (rosRd L (rosS0 L) (N - gh)).2.1) ∧ Hid (wx.ownsRow (g + 1) 96 6 q (rosRd L (rosS0 L) (N - gh)).2.2.length ((rosRd L (rosS0 L) (N - gh)).2.2.flatMap valC)) ∧ (wx.cell? ⟨w.heap.size, 0, none⟩ = some (.int .i64 0) ∧ wx.cell? ⟨w.heap.size, 1, none⟩ = some (.int .i64 0) ∧ wx.frozen? ⟨w.heap.size, 0, none⟩ = false ∧ wx.frozen? ⟨w.heap.size, 1, none⟩ = false) ∧ Ext w wx)
  case atStart => exact ⟨Nat.le_refl _, by simp, by rw [Nat.sub_self]; exact HR, by rw [Nat.sub_self]; exact Lib.hid (World.ownsRow_nil _ _ _ _), ⟨c0_0, c0_1, c0_0f, c0_1f⟩, X2.out⟩
  case round =>
    obtain ⟨hg, hi, hr, ho, ⟨y_0, y_1, y_0f, y_1f⟩, hx⟩ := hrel
    obtain ⟨j, hj⟩ : ∃ j, j = N - gk := ⟨_, rfl⟩
    rw [← hj] at hi hr ho
    subst hi
    have XR := Lib.hid hx
    have hyr : w.heap.size < wr.heap.size := cell_lt y_0
    have hgr : g < wr.heap.size := hr.out.lt
    obtain ⟨s, hs⟩ : ∃ s, s = rosRd L (rosS0 L) j := ⟨_, rfl⟩
    rw [← hs] at hr ho
    have hlen : s.2.2.length = j := by rw [hs, rosRd_len]; simp [rosS0]
    have hjN : j ≤ N := by omega
    have gg_2 := hr.out.c2
    obtain ⟨E0, hE0⟩ : ∃ v, v = fltE s.2.1 := ⟨_, rfl⟩
    rw [← hE0] at gg_2
    have hnz := hr.out.nz
    obtain ⟨A9, c9, rfl, hA9, hSl9⟩ := own_parts2 ho.out
    have hNe : N = (rnV L 0 none 0 32).toNat := by have := HNN.out; omega
    have hstop : (gk = 0 ∨ ¬ s.2.1 = none) → R = rosEnd L s := by
      intro hh
      rw [HR0.out, hs]
      refine rosRV_stop (by rw [← hNe]; omega) ?_
      rcases hh with hh | hh
      · exact .inl (by rw [← hNe]; omega)
      · exact .inr (by rw [← hs]; exact hh)
    by_cases hz : gk = 0
    · have hkn : ¬ (j : Int) < N := by omega
      obtain ⟨k, f, out⟩ := s
      obtain ⟨⟨e, a⟩, hea⟩ : ∃ E, E = endF f k L.length := ⟨_, rfl⟩
      have hE1 := hstop (.inl hz)
      unfold rosEnd at hE1
      simp only at hE1 hr ho hE0 hnz
      rw [← hea] at hE1
      have hz0 : e = 0 → a = 0 := by
        intro h0
        subst h0
        unfold endF at hea
        cases f with
        | some x => simp only at hea; exact absurd (congrArg Prod.fst hea).symm (hnz x rfl)
        | none =>
          simp only at hea
          split at hea
          · injection hea with h1 h2; exact absurd h1 (by decide)
          · injection hea with h1 h2
      have HEA := Lib.hid hea
      have HZ := Lib.hid hz0
      have HE := Lib.hid hE1
      have HRd := hr
      have HO := Lib.hid (OwnR.mk ho.out)
      clear hx hj hg hz hs hjN hlen hea hz0 hE1 hE0 hnz hstop hNe hSl9 hr ho gg_2
      go_wp2_with fail
      (with_reducible refine (rEnd_e g k L f e a _ (HRd.out.ext (by repeat (first | with_reducible exact Ext.refl _ | with_reducible refine Ext.drew ?_ | with_reducible refine Ext.drewN ?_ _ | with_reducible refine Ext.alloc ?_ _ | with_reducible refine Ext.setCell ?_ (by first | omega | (simp; done) | (simp; omega)) _))) hL HEA.out).mono ?_)
      rintro e w41 ⟨rfl, hx41⟩
      replace y_0f : w41.frozen? ⟨w.heap.size, 0, none⟩ = false := hx41.froz (v := .int .i64 0) (by first | exact y_0 | (simp [go_sem, World.cell?_alloc_past, y_0, y_0f, y_1, y_1f]; done)) (by first | exact y_0f | (simp [go_sem, World.cell?_alloc_past, y_0, y_0f, y_1, y_1f]; done))
      replace y_1f : w41.frozen? ⟨w.heap.size, 1, none⟩ = false := hx41.froz (v := .int .i64 0) (by first | exact y_1 | (simp [go_sem, World.cell?_alloc_past, y_0, y_0f, y_1, y_1f]; done)) (by first | exact y_1f | (simp [go_sem, World.cell?_alloc_past, y_0, y_0f, y_1, y_1f]; done))
      replace y_0 : w41.cell? ⟨w.heap.size, 0, none⟩ = some (.int .i64 0) := hx41.has (by first | exact y_0 | (simp [go_sem, World.cell?_alloc_past, y_0, y_0f, y_1, y_1f]; done))
      replace y_1 : w41.cell? ⟨w.heap.size, 1, none⟩ = some (.int .i64 0) := hx41.has (by first | exact y_1 | (simp [go_sem, World.cell?_alloc_past, y_0, y_0f, y_1, y_1f]; done))
      have z41 := hx41.size
      try simp at z41
      have ry : w.heap.size < w41.heap.size := by omega
      have rya : w.heap.size < w41.heap.size + 1 := by omega
      have ryb : w.heap.size < w41.heap.size + 1 + 1 := by omega
      have ryc : w.heap.size < w41.heap.size + 1 + 1 + 1 := by omega
      have ryn : ¬ w.heap.size = w41.heap.size := by omega
      replace HRd := Lib.hid (HRd.out.ext (Ext.trans (by repeat (first | with_reducible exact Ext.refl _ | with_reducible refine Ext.drew ?_ | with_reducible refine Ext.drewN ?_ _ | with_reducible refine Ext.alloc ?_ _ | with_reducible refine Ext.setCell ?_ (by first | omega | (simp; done) | (simp; omega)) _)) hx41))
      replace HO := Lib.hid (HO.out.ext (Ext.trans (by repeat (first | with_reducible exact Ext.refl _ | with_reducible refine Ext.drew ?_ | with_reducible refine Ext.drewN ?_ _ | with_reducible refine Ext.alloc ?_ _ | with_reducible refine Ext.setCell ?_ (by first | omega | (simp; done) | (simp; omega)) _)) hx41))
      have X41 : Hid (Ext w w41) := Lib.hid (Ext.trans (by repeat (first | with_reducible exact XR.out | with_reducible refine Ext.drew ?_ | with_reducible refine Ext.drewN ?_ _ | with_reducible refine Ext.alloc ?_ _ | with_reducible refine Ext.setCell ?_ (by first | omega | (simp; done) | (simp; omega)) _)) hx41)
      clear XR hx41 z41
      by_cases he : e ≠ 0
      · have e7 : (!(e == 0 && a == 0)) = true := by simp [he]
        go_wp2_with fail
        refine wp_region_held_drew (S := fun w' => w'.cell? ⟨w41.heap.size, 0, none⟩ = some (.int .i64 e) ∧ w'.cell? ⟨w41.heap.size, 1, none⟩ = some (.int .i64 a)) (by kernel_rfl) (by first | exact ⟨c0_0, c0_1⟩ | (simp [go_sem, World.cell?_alloc_past, y_0f, y_1f, y_0, y_1, ry, rya, ryb, ryc, ryn]; done)) (fun hHeld => ?_)
        (refine' take_in 0 rfl (by kernel_rfl) (by kernel_rfl) (by kernel_rfl) (fun _ _ _ h => h) (by rfl) (by assumption) ?_ ?_; rotate_left; focus (intro w hSw; (try dsimp only at hSw); go_simp; try with_reducible rfl)); try simp only [Act.put, List.setIfInBounds_toArray, List.set_cons_zero, List.set_cons_succ]
        (refine' take_in 1 rfl (by kernel_rfl) (by kernel_rfl) (by kernel_rfl) (fun _ _ _ h => h) (by rfl) (by assumption) ?_ ?_; rotate_left; focus (intro w hSw; (try dsimp only at hSw); go_simp; try with_reducible rfl)); try simp only [Act.put, List.setIfInBounds_toArray, List.set_cons_zero, List.set_cons_succ]
        refine' next_in 2 rfl (by kernel_rfl) (by rfl) (fun K hK => ?_)
        go_simp
        refine hK.out _ _ (by (first | exact ⟨c0_0, c0_1⟩ | (simp [go_sem, World.cell?_alloc_past, y_0f, y_1f, y_0, y_1, ry, rya, ryb, ryc, ryn]; done))) (fun hHeld => ?_); clear hK K; try simp only [Act.put, List.setIfInBounds_toArray, List.set_cons_zero, List.set_cons_succ]
        refine wpAnyH_done (by kernel_rfl) ?_ _
        obtain rfl : R = ([], e, a) := HE.out.trans (if_neg he)
        go_wp2_with fail
        refine bodyPost_ret (v := .tuple #[.slice none 0 0, .agg #[.int .i64 e, .int .i64 a]]) (by simp [results, Try.results79, go_sem, World.cell?_alloc_past, y_0f, y_1f, y_0, y_1, ry, rya, ryb, ryc, ryn]; try rfl) rfl (RetV.nil (xs := [.agg #[.int .i64 e, .int .i64 a]]) ?_)
        exact (by repeat (first | with_reducible exact X41.out | with_reducible refine Ext.drew ?_ | with_reducible refine Ext.drewN ?_ _ | with_reducible refine Ext.alloc ?_ _ | with_reducible refine Ext.setCell ?_ (by first | omega | (simp; done) | (simp; omega)) _))
      · have he2 : e = 0 := by simpa using he
        have ha2 : a = 0 := HZ.out he2
        subst he2; subst ha2
        obtain rfl : R = (out, 0, 0) := HE.out.trans (if_pos rfl)
        go_wp2_with fail
        refine bodyPost_ret (v := .tuple #[.slice A9 out.length c9, .agg #[.int .i64 0, .int .i64 0]]) (by simp [results, Try.results79, go_sem, World.cell?_alloc_past, y_0f, y_1f, y_0, y_1, ry, rya, ryb, ryc, ryn]; try rfl) rfl (RetV.mk (n := out.length) (xs := [.agg #[.int .i64 0, .int .i64 0]]) ?_ (by repeat (first | with_reducible exact X41.out | with_reducible refine Ext.drew ?_ | with_reducible refine Ext.drewN ?_ _ | with_reducible refine Ext.alloc ?_ _ | with_reducible refine Ext.setCell ?_ (by first | omega | (simp; done) | (simp; omega)) _)) rfl)
        exact own_lower (own_but (S := fun j => j = w.heap.size ∨ w41.heap.size ≤ j) HO.out.own (by repeat (first | with_reducible exact But.refl _ _ | with_reducible refine But.drew ?_ | with_reducible refine But.drewN ?_ _ | with_reducible refine But.alloc ?_ _ | with_reducible refine But.setCell ?_ (by first | exact Or.inl rfl | (exact Or.inr (by (show _ ≤ _); omega))) _)) (fun j hj hh => by have h1 := own_block HO.out.own hj; rcases hh with hh | hh <;> omega)) (by omega)
    · have hkn : (j : Int) < N := by omega
      by_cases hfn : s.2.1 = none
      · skip
        have hE00 : E0 = 0 := by rw [hE0, hfn]; rfl
        subst hE00
        have hjs : (j : Int) ≤ 32 := by omega
        have hnext : rosRd L (rosS0 L) (j + 1) = rosRd1 L s := by rw [rosRd, ← hs]
        obtain ⟨k, f, out⟩ := s
        simp only at hr ho hlen hfn hSl9
        subst hfn
        obtain ⟨x0, hx0⟩ : ∃ v, v = rnV L k none 0 63 := ⟨_, rfl⟩
        obtain ⟨k1, hk1⟩ : ∃ v, v = rnK L k none 0 63 := ⟨_, rfl⟩
        obtain ⟨f1, hf1⟩ : ∃ v, v = rnF L k none 0 63 := ⟨_, rfl⟩
        obtain ⟨x1, hx1⟩ : ∃ v, v = ruV L k1 f1  := ⟨_, rfl⟩
        obtain ⟨k2, hk2⟩ : ∃ v, v = ruK L k1 f1  := ⟨_, rfl⟩
        obtain ⟨f2, hf2⟩ : ∃ v, v = ruF L k1 f1  := ⟨_, rfl⟩
        obtain ⟨x2, hx2⟩ : ∃ v, v = rnV L k2 f2 1 4 := ⟨_, rfl⟩
        obtain ⟨k3, hk3⟩ : ∃ v, v = rnK L k2 f2 1 4 := ⟨_, rfl⟩
        obtain ⟨f3, hf3⟩ : ∃ v, v = rnF L k2 f2 1 4 := ⟨_, rfl⟩
        obtain ⟨x3, hx3⟩ : ∃ v, v = rnV L k3 f3 0 4296015872 := ⟨_, rfl⟩
        obtain ⟨k4, hk4⟩ : ∃ v, v = rnK L k3 f3 0 4296015872 := ⟨_, rfl⟩
        obtain ⟨f4, hf4⟩ : ∃ v, v = rnF L k3 f3 0 4296015872 := ⟨_, rfl⟩
        obtain ⟨n, hn⟩ : ∃ v, v = rnV L k4 f4 0 3 := ⟨_, rfl⟩
        obtain ⟨k5, hk5⟩ : ∃ v, v = rnK L k4 f4 0 3 := ⟨_, rfl⟩
        obtain ⟨f5, hf5⟩ : ∃ v, v = rnF L k4 f4 0 3 := ⟨_, rfl⟩
        obtain ⟨hna, hnb⟩ : 0 ≤ n ∧ n ≤ 3 := by rw [hn]; exact rnV_in L k4 f4 0 3 (by decide)
        obtain ⟨x4, hx4⟩ : ∃ b, b = decide (n % 2 = 1) := ⟨_, rfl⟩
        obtain ⟨x5, hx5⟩ : ∃ b, b = decide (2 ≤ n) := ⟨_, rfl⟩
        have q3 : (n % 2 == 1) = x4 := by rw [hx4]; rfl
        have q4 : decide (2 ≤ n) = x5 := hx5.symm
        obtain ⟨ev, hev⟩ : ∃ v, v = oneV x0 x1 x2 x3 x4 x5 (decide (x0 ∈ out.map (·.1))) := ⟨_, rfl⟩
        have hstep := hnext.trans (rosRd1_eq rfl hx0 hk1 hf1 hx1 hk2 hf2 hx2 hk3 hf3 hx3 hk4 hf4 hn hk5 hf5 hx4 hx5 hev)
        obtain ⟨E5, hE5⟩ : ∃ v, v = fltE f5 := ⟨_, rfl⟩
        have hnz5 : FltNz f5 := by rw [hf5, hf4, hf3, hf2, hf1]; exact (((((FltNz.none.rn L k 0 63).ru L _).rn L _ 1 4).rn L _ 0 4296015872).rn L _ 0 3)
        have Gx0 := Lib.hid (And.intro hx0 (And.intro hk1 hf1))
        have Gx1 := Lib.hid (And.intro hx1 (And.intro hk2 hf2))
        have Gx2 := Lib.hid (And.intro hx2 (And.intro hk3 hf3))
        have Gx3 := Lib.hid (And.intro hx3 (And.intro hk4 hf4))
        have Gn := Lib.hid (And.intro hn (And.intro hk5 hf5))
        have GE := Lib.hid hev
        have GS := Lib.hid hstep
        have GL := Lib.hid hlen
        have GN := Lib.hid hnz5
        have G5 := Lib.hid hE5
        have HK := Lib.hid (And.intro hj (And.intro hg hz))
        have HRd := hr
        have HO := Lib.hid (OwnR.mk ho.out)
        have ry := hyr
        have rya : w.heap.size < wr.heap.size + 1 := by omega
        have ryb : w.heap.size < wr.heap.size + 1 + 1 := by omega
        have ryc : w.heap.size < wr.heap.size + 1 + 1 + 1 := by omega
        have ryn : ¬ w.heap.size = wr.heap.size := by omega
        clear hx hj hg hz hs hnext hr ho hlen hx4 hx5 hev hstep hjN hE0 hnz hstop hNe hSl9 hnz5 hE5 hx0 hk1 hf1 hx1 hk2 hf2 hx2 hk3 hf3 hx3 hk4 hf4 hn hk5 hf5
        go_wp2_with fail
        (with_reducible refine (rAt_any g k L none _ (RRd.butN HRd.out (by repeat (first | with_reducible exact But.refl _ _ | with_reducible refine But.drew ?_ | with_reducible refine But.drewN ?_ _ | with_reducible refine But.alloc ?_ _ | with_reducible refine But.setCell ?_ (by first | exact Nat.le_refl _ | (dsimp only; omega)) _ | with_reducible refine But.setNew ?_ (by first | omega | (simp; done) | (simp; omega)) _)))).mono ?_)
        rintro e w_1 ⟨rfl, rfl⟩
        go_wp2_with fail
        try clear gg_2
        (with_reducible refine (rN_e g k k1 L none f1 0 63 x0 (by decide) (by decide) (by decide) (by decide) hL Gx0.out.1 Gx0.out.2.1 Gx0.out.2.2 _ (RRd.butN HRd.out (by repeat (first | with_reducible exact But.refl _ _ | with_reducible refine But.drew ?_ | with_reducible refine But.drewN ?_ _ | with_reducible refine But.alloc ?_ _ | with_reducible refine But.setCell ?_ (by first | exact Nat.le_refl _ | (dsimp only; omega)) _ | with_reducible refine But.setNew ?_ (by first | omega | (simp; done) | (simp; omega)) _)))).mono ?_)
        rintro e w51 ⟨rfl, hRd, hx51⟩
        have hsz51 := hx51.size
        try simp at hsz51
        replace y_0f : w51.frozen? ⟨w.heap.size, 0, none⟩ = false := hx51.froz (by show ¬ _ = _; first | assumption | omega) (v := .int .i64 0) (by first | exact y_0 | (simp [go_sem, World.cell?_alloc_past, y_0, y_0f, y_1, y_1f, ry, rya, ryb, ryc, ryn]; done)) (by first | exact y_0f | (simp [go_sem, World.cell?_alloc_past, y_0, y_0f, y_1, y_1f, ry, rya, ryb, ryc, ryn]; done))
        replace y_1f : w51.frozen? ⟨w.heap.size, 1, none⟩ = false := hx51.froz (by show ¬ _ = _; first | assumption | omega) (v := .int .i64 0) (by first | exact y_1 | (simp [go_sem, World.cell?_alloc_past, y_0, y_0f, y_1, y_1f, ry, rya, ryb, ryc, ryn]; done)) (by first | exact y_1f | (simp [go_sem, World.cell?_alloc_past, y_0, y_0f, y_1, y_1f, ry, rya, ryb, ryc, ryn]; done))
        replace y_0 : w51.cell? ⟨w.heap.size, 0, none⟩ = some (.int .i64 0) := hx51.has (by show ¬ _ = _; first | assumption | omega) (by first | exact y_0 | (simp [go_sem, World.cell?_alloc_past, y_0, y_0f, y_1, y_1f, ry, rya, ryb, ryc, ryn]; done))
        replace y_1 : w51.cell? ⟨w.heap.size, 1, none⟩ = some (.int .i64 0) := hx51.has (by show ¬ _ = _; first | assumption | omega) (by first | exact y_1 | (simp [go_sem, World.cell?_alloc_past, y_0, y_0f, y_1, y_1f, ry, rya, ryb, ryc, ryn]; done))
        have c0_0f : w51.frozen? ⟨wr.heap.size, 0, none⟩ = false := hx51.froz (by show ¬ _ = _; first | assumption | omega) (v := .int .i64 0) (by first | fail | (simp [go_sem, World.cell?_alloc_past, y_0, y_0f, y_1, y_1f, ry, rya, ryb, ryc, ryn]; done)) (by first | fail | (simp [go_sem, World.cell?_alloc_past, y_0, y_0f, y_1, y_1f, ry, rya, ryb, ryc, ryn]; done))
        have c0_1f : w51.frozen? ⟨wr.heap.size, 1, none⟩ = false := hx51.froz (by show ¬ _ = _; first | assumption | omega) (v := .int .u64 0) (by first | fail | (simp [go_sem, World.cell?_alloc_past, y_0, y_0f, y_1, y_1f, ry, rya, ryb, ryc, ryn]; done)) (by first | fail | (simp [go_sem, World.cell?_alloc_past, y_0, y_0f, y_1, y_1f, ry, rya, ryb, ryc, ryn]; done))
        have c0_2f : w51.frozen? ⟨wr.heap.size, 2, none⟩ = false := hx51.froz (by show ¬ _ = _; first | assumption | omega) (v := .int .i64 0) (by first | fail | (simp [go_sem, World.cell?_alloc_past, y_0, y_0f, y_1, y_1f, ry, rya, ryb, ryc, ryn]; done)) (by first | fail | (simp [go_sem, World.cell?_alloc_past, y_0, y_0f, y_1, y_1f, ry, rya, ryb, ryc, ryn]; done))
        have c0_3f : w51.frozen? ⟨wr.heap.size, 3, none⟩ = false := hx51.froz (by show ¬ _ = _; first | assumption | omega) (v := .int .i64 0) (by first | fail | (simp [go_sem, World.cell?_alloc_past, y_0, y_0f, y_1, y_1f, ry, rya, ryb, ryc, ryn]; done)) (by first | fail | (simp [go_sem, World.cell?_alloc_past, y_0, y_0f, y_1, y_1f, ry, rya, ryb, ryc, ryn]; done))
        have c0_4f : w51.frozen? ⟨wr.heap.size, 4, none⟩ = false := hx51.froz (by show ¬ _ = _; first | assumption | omega) (v := .bool false) (by first | fail | (simp [go_sem, World.cell?_alloc_past, y_0, y_0f, y_1, y_1f, ry, rya, ryb, ryc, ryn]; done)) (by first | fail | (simp [go_sem, World.cell?_alloc_past, y_0, y_0f, y_1, y_1f, ry, rya, ryb, ryc, ryn]; done))
        have c0_5f : w51.frozen? ⟨wr.heap.size, 5, none⟩ = false := hx51.froz (by show ¬ _ = _; first | assumption | omega) (v := .bool false) (by first | fail | (simp [go_sem, World.cell?_alloc_past, y_0, y_0f, y_1, y_1f, ry, rya, ryb, ryc, ryn]; done)) (by first | fail | (simp [go_sem, World.cell?_alloc_past, y_0, y_0f, y_1, y_1f, ry, rya, ryb, ryc, ryn]; done))
        have c0_0 : w51.cell? ⟨wr.heap.size, 0, none⟩ = some (.int .i64 0) := hx51.has (by show ¬ _ = _; first | assumption | omega) (by first | fail | (simp [go_sem, World.cell?_alloc_past, y_0, y_0f, y_1, y_1f, ry, rya, ryb, ryc, ryn]; done))
        have c0_1 : w51.cell? ⟨wr.heap.size, 1, none⟩ = some (.int .u64 0) := hx51.has (by show ¬ _ = _; first | assumption | omega) (by first | fail | (simp [go_sem, World.cell?_alloc_past, y_0, y_0f, y_1, y_1f, ry, rya, ryb, ryc, ryn]; done))
        have c0_2 : w51.cell? ⟨wr.heap.size, 2, none⟩ = some (.int .i64 0) := hx51.has (by show ¬ _ = _; first | assumption | omega) (by first | fail | (simp [go_sem, World.cell?_alloc_past, y_0, y_0f, y_1, y_1f, ry, rya, ryb, ryc, ryn]; done))
        have c0_3 : w51.cell? ⟨wr.heap.size, 3, none⟩ = some (.int .i64 0) := hx51.has (by show ¬ _ = _; first | assumption | omega) (by first | fail | (simp [go_sem, World.cell?_alloc_past, y_0, y_0f, y_1, y_1f, ry, rya, ryb, ryc, ryn]; done))
        have c0_4 : w51.cell? ⟨wr.heap.size, 4, none⟩ = some (.bool false) := hx51.has (by show ¬ _ = _; first | assumption | omega) (by first | fail | (simp [go_sem, World.cell?_alloc_past, y_0, y_0f, y_1, y_1f, ry, rya, ryb, ryc, ryn]; done))
        have c0_5 : w51.cell? ⟨wr.heap.size, 5, none⟩ = some (.bool false) := hx51.has (by show ¬ _ = _; first | assumption | omega) (by first | fail | (simp [go_sem, World.cell?_alloc_past, y_0, y_0f, y_1, y_1f, ry, rya, ryb, ryc, ryn]; done))
        have z51 := hx51.size
        try simp at z51
        have lt_y_c0 : w.heap.size < wr.heap.size := by omega
        have ne_y_c0 : ¬ w.heap.size = wr.heap.size := by omega
        have ne_c0_y : ¬ wr.heap.size = w.heap.size := by omega
        replace ry : w.heap.size < w51.heap.size := by omega
        replace rya : w.heap.size < w51.heap.size + 1 := by omega
        replace ryb : w.heap.size < w51.heap.size + 1 + 1 := by omega
        replace ryc : w.heap.size < w51.heap.size + 1 + 1 + 1 := by omega
        replace ryn : ¬ w.heap.size = w51.heap.size := by omega
        have rc0 : wr.heap.size < w51.heap.size := by omega
        have rc0a : wr.heap.size < w51.heap.size + 1 := by omega
        have rc0b : wr.heap.size < w51.heap.size + 1 + 1 := by omega
        have rc0c : wr.heap.size < w51.heap.size + 1 + 1 + 1 := by omega
        have rc0n : ¬ wr.heap.size = w51.heap.size := by omega
        have X51 : Hid (Ext w w51) := Lib.hid (have hX := (show Ext w _ from (by repeat (first | with_reducible exact XR.out | with_reducible refine Ext.drew ?_ | with_reducible refine Ext.drewN ?_ _ | with_reducible refine Ext.alloc ?_ _ | with_reducible refine Ext.setCell ?_ (by first | omega | (simp; done) | (simp; omega)) _))); Below.trans hX (hx51.below (Ext.size hX) (fun k hk hh => by have hh2 : k = g := hh; omega)))
        replace HO := Lib.hid (OwnR.but (OwnR.butN HO.out (by repeat (first | with_reducible exact But.refl _ _ | with_reducible refine But.drew ?_ | with_reducible refine But.drewN ?_ _ | with_reducible refine But.alloc ?_ _ | with_reducible refine But.setCell ?_ (by first | exact Nat.le_refl _ | (dsimp only; omega)) _ | with_reducible refine But.setNew ?_ (by first | omega | (simp; done) | (simp; omega)) _))) hx51 (by intro j h1 h2 hh; have h3 : j = g := hh; omega))
        clear HRd
        have HRd := Lib.hid hRd
        clear hsz51 XR hx51 z51 hRd
        go_wp2_with fail
        (with_reducible refine (rU_e g k1 k2 L f1 f2 x1 hL Gx1.out.1 Gx1.out.2.1 Gx1.out.2.2 _ (RRd.butN HRd.out (by repeat (first | with_reducible exact But.refl _ _ | with_reducible refine But.drew ?_ | with_reducible refine But.drewN ?_ _ | with_reducible refine But.alloc ?_ _ | with_reducible refine But.setCell ?_ (by first | exact Nat.le_refl _ | (dsimp only; omega)) _ | with_reducible refine But.setNew ?_ (by first | omega | (simp; done) | (simp; omega)) _)))).mono ?_)
        rintro e w52 ⟨rfl, hRd, hx52⟩
        have hsz52 := hx52.size
        try simp at hsz52
        replace y_0f : w52.frozen? ⟨w.heap.size, 0, none⟩ = false := hx52.froz (by show ¬ _ = _; first | assumption | omega) (v := .int .i64 0) (by first | exact y_0 | (simp [go_sem, World.cell?_alloc_past, y_0f, y_1f, y_0, y_1, c0_0f, c0_1f, c0_2f, c0_3f, c0_4f, c0_5f, c0_0, c0_1, c0_2, c0_3, c0_4, c0_5, ne_y_c0, ne_c0_y, ry, rya, ryb, ryc, ryn, rc0, rc0a, rc0b, rc0c, rc0n]; done)) (by first | exact y_0f | (simp [go_sem, World.cell?_alloc_past, y_0f, y_1f, y_0, y_1, c0_0f, c0_1f, c0_2f, c0_3f, c0_4f, c0_5f, c0_0, c0_1, c0_2, c0_3, c0_4, c0_5, ne_y_c0, ne_c0_y, ry, rya, ryb, ryc, ryn, rc0, rc0a, rc0b, rc0c, rc0n]; done))
        replace y_1f : w52.frozen? ⟨w.heap.size, 1, none⟩ = false := hx52.froz (by show ¬ _ = _; first | assumption | omega) (v := .int .i64 0) (by first | exact y_1 | (simp [go_sem, World.cell?_alloc_past, y_0f, y_1f, y_0, y_1, c0_0f, c0_1f, c0_2f, c0_3f, c0_4f, c0_5f, c0_0, c0_1, c0_2, c0_3, c0_4, c0_5, ne_y_c0, ne_c0_y, ry, rya, ryb, ryc, ryn, rc0, rc0a, rc0b, rc0c, rc0n]; done)) (by first | exact y_1f | (simp [go_sem, World.cell?_alloc_past, y_0f, y_1f, y_0, y_1, c0_0f, c0_1f, c0_2f, c0_3f, c0_4f, c0_5f, c0_0, c0_1, c0_2, c0_3, c0_4, c0_5, ne_y_c0, ne_c0_y, ry, rya, ryb, ryc, ryn, rc0, rc0a, rc0b, rc0c, rc0n]; done))
        replace y_0 : w52.cell? ⟨w.heap.size, 0, none⟩ = some (.int .i64 0) := hx52.has (by show ¬ _ = _; first | assumption | omega) (by first | exact y_0 | (simp [go_sem, World.cell?_alloc_past, y_0f, y_1f, y_0, y_1, c0_0f, c0_1f, c0_2f, c0_3f, c0_4f, c0_5f, c0_0, c0_1, c0_2, c0_3, c0_4, c0_5, ne_y_c0, ne_c0_y, ry, rya, ryb, ryc, ryn, rc0, rc0a, rc0b, rc0c, rc0n]; done))
        replace y_1 : w52.cell? ⟨w.heap.size, 1, none⟩ = some (.int .i64 0) := hx52.has (by show ¬ _ = _; first | assumption | omega) (by first | exact y_1 | (simp [go_sem, World.cell?_alloc_past, y_0f, y_1f, y_0, y_1, c0_0f, c0_1f, c0_2f, c0_3f, c0_4f, c0_5f, c0_0, c0_1, c0_2, c0_3, c0_4, c0_5, ne_y_c0, ne_c0_y, ry, rya, ryb, ryc, ryn, rc0, rc0a, rc0b, rc0c, rc0n]; done))
        replace c0_1f : w52.frozen? ⟨wr.heap.size, 1, none⟩ = false := hx52.froz (by show ¬ _ = _; first | assumption | omega) (v := .int .u64 0) (by first | exact c0_1 | (simp [go_sem, World.cell?_alloc_past, y_0f, y_1f, y_0, y_1, c0_0f, c0_1f, c0_2f, c0_3f, c0_4f, c0_5f, c0_0, c0_1, c0_2, c0_3, c0_4, c0_5, ne_y_c0, ne_c0_y, ry, rya, ryb, ryc, ryn, rc0, rc0a, rc0b, rc0c, rc0n]; done)) (by first | exact c0_1f | (simp [go_sem, World.cell?_alloc_past, y_0f, y_1f, y_0, y_1, c0_0f, c0_1f, c0_2f, c0_3f, c0_4f, c0_5f, c0_0, c0_1, c0_2, c0_3, c0_4, c0_5, ne_y_c0, ne_c0_y, ry, rya, ryb, ryc, ryn, rc0, rc0a, rc0b, rc0c, rc0n]; done))
        replace c0_2f : w52.frozen? ⟨wr.heap.size, 2, none⟩ = false := hx52.froz (by show ¬ _ = _; first | assumption | omega) (v := .int .i64 0) (by first | exact c0_2 | (simp [go_sem, World.cell?_alloc_past, y_0f, y_1f, y_0, y_1, c0_0f, c0_1f, c0_2f, c0_3f, c0_4f, c0_5f, c0_0, c0_1, c0_2, c0_3, c0_4, c0_5, ne_y_c0, ne_c0_y, ry, rya, ryb, ryc, ryn, rc0, rc0a, rc0b, rc0c, rc0n]; done)) (by first | exact c0_2f | (simp [go_sem, World.cell?_alloc_past, y_0f, y_1f, y_0, y_1, c0_0f, c0_1f, c0_2f, c0_3f, c0_4f, c0_5f, c0_0, c0_1, c0_2, c0_3, c0_4, c0_5, ne_y_c0, ne_c0_y, ry, rya, ryb, ryc, ryn, rc0, rc0a, rc0b, rc0c, rc0n]; done))
        replace c0_3f : w52.frozen? ⟨wr.heap.size, 3, none⟩ = false := hx52.froz (by show ¬ _ = _; first | assumption | omega) (v := .int .i64 0) (by first | exact c0_3 | (simp [go_sem, World.cell?_alloc_past, y_0f, y_1f, y_0, y_1, c0_0f, c0_1f, c0_2f, c0_3f, c0_4f, c0_5f, c0_0, c0_1, c0_2, c0_3, c0_4, c0_5, ne_y_c0, ne_c0_y, ry, rya, ryb, ryc, ryn, rc0, rc0a, rc0b, rc0c, rc0n]; done)) (by first | exact c0_3f | (simp [go_sem, World.cell?_alloc_past, y_0f, y_1f, y_0, y_1, c0_0f, c0_1f, c0_2f, c0_3f, c0_4f, c0_5f, c0_0, c0_1, c0_2, c0_3, c0_4, c0_5, ne_y_c0, ne_c0_y, ry, rya, ryb, ryc, ryn, rc0, rc0a, rc0b, rc0c, rc0n]; done))
        replace c0_4f : w52.frozen? ⟨wr.heap.size, 4, none⟩ = false := hx52.froz (by show ¬ _ = _; first | assumption | omega) (v := .bool false) (by first | exact c0_4 | (simp [go_sem, World.cell?_alloc_past, y_0f, y_1f, y_0, y_1, c0_0f, c0_1f, c0_2f, c0_3f, c0_4f, c0_5f, c0_0, c0_1, c0_2, c0_3, c0_4, c0_5, ne_y_c0, ne_c0_y, ry, rya, ryb, ryc, ryn, rc0, rc0a, rc0b, rc0c, rc0n]; done)) (by first | exact c0_4f | (simp [go_sem, World.cell?_alloc_past, y_0f, y_1f, y_0, y_1, c0_0f, c0_1f, c0_2f, c0_3f, c0_4f, c0_5f, c0_0, c0_1, c0_2, c0_3, c0_4, c0_5, ne_y_c0, ne_c0_y, ry, rya, ryb, ryc, ryn, rc0, rc0a, rc0b, rc0c, rc0n]; done))
        replace c0_5f : w52.frozen? ⟨wr.heap.size, 5, none⟩ = false := hx52.froz (by show ¬ _ = _; first | assumption | omega) (v := .bool false) (by first | exact c0_5 | (simp [go_sem, World.cell?_alloc_past, y_0f, y_1f, y_0, y_1, c0_0f, c0_1f, c0_2f, c0_3f, c0_4f, c0_5f, c0_0, c0_1, c0_2, c0_3, c0_4, c0_5, ne_y_c0, ne_c0_y, ry, rya, ryb, ryc, ryn, rc0, rc0a, rc0b, rc0c, rc0n]; done)) (by first | exact c0_5f | (simp [go_sem, World.cell?_alloc_past, y_0f, y_1f, y_0, y_1, c0_0f, c0_1f, c0_2f, c0_3f, c0_4f, c0_5f, c0_0, c0_1, c0_2, c0_3, c0_4, c0_5, ne_y_c0, ne_c0_y, ry, rya, ryb, ryc, ryn, rc0, rc0a, rc0b, rc0c, rc0n]; done))
        replace c0_0 : w52.cell? ⟨wr.heap.size, 0, none⟩ = some (.int .i64 x0) := hx52.has (by show ¬ _ = _; first | assumption | omega) (by first | exact c0_0 | (simp [go_sem, World.cell?_alloc_past, y_0f, y_1f, y_0, y_1, c0_0f, c0_1f, c0_2f, c0_3f, c0_4f, c0_5f, c0_0, c0_1, c0_2, c0_3, c0_4, c0_5, ne_y_c0, ne_c0_y, ry, rya, ryb, ryc, ryn, rc0, rc0a, rc0b, rc0c, rc0n]; done))
        replace c0_1 : w52.cell? ⟨wr.heap.size, 1, none⟩ = some (.int .u64 0) := hx52.has (by show ¬ _ = _; first | assumption | omega) (by first | exact c0_1 | (simp [go_sem, World.cell?_alloc_past, y_0f, y_1f, y_0, y_1, c0_0f, c0_1f, c0_2f, c0_3f, c0_4f, c0_5f, c0_0, c0_1, c0_2, c0_3, c0_4, c0_5, ne_y_c0, ne_c0_y, ry, rya, ryb, ryc, ryn, rc0, rc0a, rc0b, rc0c, rc0n]; done))
        replace c0_2 : w52.cell? ⟨wr.heap.size, 2, none⟩ = some (.int .i64 0) := hx52.has (by show ¬ _ = _; first | assumption | omega) (by first | exact c0_2 | (simp [go_sem, World.cell?_alloc_past, y_0f, y_1f, y_0, y_1, c0_0f, c0_1f, c0_2f, c0_3f, c0_4f, c0_5f, c0_0, c0_1, c0_2, c0_3, c0_4, c0_5, ne_y_c0, ne_c0_y, ry, rya, ryb, ryc, ryn, rc0, rc0a, rc0b, rc0c, rc0n]; done))
        replace c0_3 : w52.cell? ⟨wr.heap.size, 3, none⟩ = some (.int .i64 0) := hx52.has (by show ¬ _ = _; first | assumption | omega) (by first | exact c0_3 | (simp [go_sem, World.cell?_alloc_past, y_0f, y_1f, y_0, y_1, c0_0f, c0_1f, c0_2f, c0_3f, c0_4f, c0_5f, c0_0, c0_1, c0_2, c0_3, c0_4, c0_5, ne_y_c0, ne_c0_y, ry, rya, ryb, ryc, ryn, rc0, rc0a, rc0b, rc0c, rc0n]; done))
        replace c0_4 : w52.cell? ⟨wr.heap.size, 4, none⟩ = some (.bool false) := hx52.has (by show ¬ _ = _; first | assumption | omega) (by first | exact c0_4 | (simp [go_sem, World.cell?_alloc_past, y_0f, y_1f, y_0, y_1, c0_0f, c0_1f, c0_2f, c0_3f, c0_4f, c0_5f, c0_0, c0_1, c0_2, c0_3, c0_4, c0_5, ne_y_c0, ne_c0_y, ry, rya, ryb, ryc, ryn, rc0, rc0a, rc0b, rc0c, rc0n]; done))
        replace c0_5 : w52.cell? ⟨wr.heap.size, 5, none⟩ = some (.bool false) := hx52.has (by show ¬ _ = _; first | assumption | omega) (by first | exact c0_5 | (simp [go_sem, World.cell?_alloc_past, y_0f, y_1f, y_0, y_1, c0_0f, c0_1f, c0_2f, c0_3f, c0_4f, c0_5f, c0_0, c0_1, c0_2, c0_3, c0_4, c0_5, ne_y_c0, ne_c0_y, ry, rya, ryb, ryc, ryn, rc0, rc0a, rc0b, rc0c, rc0n]; done))
        have z52 := hx52.size
        try simp at z52
        replace ry : w.heap.size < w52.heap.size := by omega
        replace rya : w.heap.size < w52.heap.size + 1 := by omega
        replace ryb : w.heap.size < w52.heap.size + 1 + 1 := by omega
        replace ryc : w.heap.size < w52.heap.size + 1 + 1 + 1 := by omega
        replace ryn : ¬ w.heap.size = w52.heap.size := by omega
        replace rc0 : wr.heap.size < w52.heap.size := by omega
        replace rc0a : wr.heap.size < w52.heap.size + 1 := by omega
        replace rc0b : wr.heap.size < w52.heap.size + 1 + 1 := by omega
        replace rc0c : wr.heap.size < w52.heap.size + 1 + 1 + 1 := by omega
        replace rc0n : ¬ wr.heap.size = w52.heap.size := by omega
        have X52 : Hid (Ext w w52) := Lib.hid (have hX := (show Ext w _ from (by repeat (first | with_reducible exact X51.out | with_reducible refine Ext.drew ?_ | with_reducible refine Ext.drewN ?_ _ | with_reducible refine Ext.alloc ?_ _ | with_reducible refine Ext.setCell ?_ (by first | omega | (simp; done) | (simp; omega)) _))); Below.trans hX (hx52.below (Ext.size hX) (fun k hk hh => by have hh2 : k = g := hh; omega)))
        replace HO := Lib.hid (OwnR.but (OwnR.butN HO.out (by repeat (first | with_reducible exact But.refl _ _ | with_reducible refine But.drew ?_ | with_reducible refine But.drewN ?_ _ | with_reducible refine But.alloc ?_ _ | with_reducible refine But.setCell ?_ (by first | exact Nat.le_refl _ | (dsimp only; omega)) _ | with_reducible refine But.setNew ?_ (by first | omega | (simp; done) | (simp; omega)) _))) hx52 (by intro j h1 h2 hh; have h3 : j = g := hh; omega))
        clear HRd
        have HRd := Lib.hid hRd
        clear c0_0f hsz52 X51 hx52 z52 hRd
        go_wp2_with fail
        (with_reducible refine (rN_e g k2 k3 L f2 f3 1 4 x2 (by decide) (by decide) (by decide) (by decide) hL Gx2.out.1 Gx2.out.2.1 Gx2.out.2.2 _ (RRd.butN HRd.out (by repeat (first | with_reducible exact But.refl _ _ | with_reducible refine But.drew ?_ | with_reducible refine But.drewN ?_ _ | with_reducible refine But.alloc ?_ _ | with_reducible refine But.setCell ?_ (by first | exact Nat.le_refl _ | (dsimp only; omega)) _ | with_reducible refine But.setNew ?_ (by first | omega | (simp; done) | (simp; omega)) _)))).mono ?_)
        rintro e w53 ⟨rfl, hRd, hx53⟩
        have hsz53 := hx53.size
        try simp at hsz53
        replace y_0f : w53.frozen? ⟨w.heap.size, 0, none⟩ = false := hx53.froz (by show ¬ _ = _; first | assumption | omega) (v := .int .i64 0) (by first | exact y_0 | (simp [go_sem, World.cell?_alloc_past, y_0f, y_1f, y_0, y_1, c0_1f, c0_2f, c0_3f, c0_4f, c0_5f, c0_0, c0_1, c0_2, c0_3, c0_4, c0_5, ne_y_c0, ne_c0_y, ry, rya, ryb, ryc, ryn, rc0, rc0a, rc0b, rc0c, rc0n]; done)) (by first | exact y_0f | (simp [go_sem, World.cell?_alloc_past, y_0f, y_1f, y_0, y_1, c0_1f, c0_2f, c0_3f, c0_4f, c0_5f, c0_0, c0_1, c0_2, c0_3, c0_4, c0_5, ne_y_c0, ne_c0_y, ry, rya, ryb, ryc, ryn, rc0, rc0a, rc0b, rc0c, rc0n]; done))
        replace y_1f : w53.frozen? ⟨w.heap.size, 1, none⟩ = false := hx53.froz (by show ¬ _ = _; first | assumption | omega) (v := .int .i64 0) (by first | exact y_1 | (simp [go_sem, World.cell?_alloc_past, y_0f, y_1f, y_0, y_1, c0_1f, c0_2f, c0_3f, c0_4f, c0_5f, c0_0, c0_1, c0_2, c0_3, c0_4, c0_5, ne_y_c0, ne_c0_y, ry, rya, ryb, ryc, ryn, rc0, rc0a, rc0b, rc0c, rc0n]; done)) (by first | exact y_1f | (simp [go_sem, World.cell?_alloc_past, y_0f, y_1f, y_0, y_1, c0_1f, c0_2f, c0_3f, c0_4f, c0_5f, c0_0, c0_1, c0_2, c0_3, c0_4, c0_5, ne_y_c0, ne_c0_y, ry, rya, ryb, ryc, ryn, rc0, rc0a, rc0b, rc0c, rc0n]; done))
        replace y_0 : w53.cell? ⟨w.heap.size, 0, none⟩ = some (.int .i64 0) := hx53.has (by show ¬ _ = _; first | assumption | omega) (by first | exact y_0 | (simp [go_sem, World.cell?_alloc_past, y_0f, y_1f, y_0, y_1, c0_1f, c0_2f, c0_3f, c0_4f, c0_5f, c0_0, c0_1, c0_2, c0_3, c0_4, c0_5, ne_y_c0, ne_c0_y, ry, rya, ryb, ryc, ryn, rc0, rc0a, rc0b, rc0c, rc0n]; done))
        replace y_1 : w53.cell? ⟨w.heap.size, 1, none⟩ = some (.int .i64 0) := hx53.has (by show ¬ _ = _; first | assumption | omega) (by first | exact y_1 | (simp [go_sem, World.cell?_alloc_past, y_0f, y_1f, y_0, y_1, c0_1f, c0_2f, c0_3f, c0_4f, c0_5f, c0_0, c0_1, c0_2, c0_3, c0_4, c0_5, ne_y_c0, ne_c0_y, ry, rya, ryb, ryc, ryn, rc0, rc0a, rc0b, rc0c, rc0n]; done))
        replace c0_2f : w53.frozen? ⟨wr.heap.size, 2, none⟩ = false := hx53.froz (by show ¬ _ = _; first | assumption | omega) (v := .int .i64 0) (by first | exact c0_2 | (simp [go_sem, World.cell?_alloc_past, y_0f, y_1f, y_0, y_1, c0_1f, c0_2f, c0_3f, c0_4f, c0_5f, c0_0, c0_1, c0_2, c0_3, c0_4, c0_5, ne_y_c0, ne_c0_y, ry, rya, ryb, ryc, ryn, rc0, rc0a, rc0b, rc0c, rc0n]; done)) (by first | exact c0_2f | (simp [go_sem, World.cell?_alloc_past, y_0f, y_1f, y_0, y_1, c0_1f, c0_2f, c0_3f, c0_4f, c0_5f, c0_0, c0_1, c0_2, c0_3, c0_4, c0_5, ne_y_c0, ne_c0_y, ry, rya, ryb, ryc, ryn, rc0, rc0a, rc0b, rc0c, rc0n]; done))
        replace c0_3f : w53.frozen? ⟨wr.heap.size, 3, none⟩ = false := hx53.froz (by show ¬ _ = _; first | assumption | omega) (v := .int .i64 0) (by first | exact c0_3 | (simp [go_sem, World.cell?_alloc_past, y_0f, y_1f, y_0, y_1, c0_1f, c0_2f, c0_3f, c0_4f, c0_5f, c0_0, c0_1, c0_2, c0_3, c0_4, c0_5, ne_y_c0, ne_c0_y, ry, rya, ryb, ryc, ryn, rc0, rc0a, rc0b, rc0c, rc0n]; done)) (by first | exact c0_3f | (simp [go_sem, World.cell?_alloc_past, y_0f, y_1f, y_0, y_1, c0_1f, c0_2f, c0_3f, c0_4f, c0_5f, c0_0, c0_1, c0_2, c0_3, c0_4, c0_5, ne_y_c0, ne_c0_y, ry, rya, ryb, ryc, ryn, rc0, rc0a, rc0b, rc0c, rc0n]; done))
        replace c0_4f : w53.frozen? ⟨wr.heap.size, 4, none⟩ = false := hx53.froz (by show ¬ _ = _; first | assumption | omega) (v := .bool false) (by first | exact c0_4 | (simp [go_sem, World.cell?_alloc_past, y_0f, y_1f, y_0, y_1, c0_1f, c0_2f, c0_3f, c0_4f, c0_5f, c0_0, c0_1, c0_2, c0_3, c0_4, c0_5, ne_y_c0, ne_c0_y, ry, rya, ryb, ryc, ryn, rc0, rc0a, rc0b, rc0c, rc0n]; done)) (by first | exact c0_4f | (simp [go_sem, World.cell?_alloc_past, y_0f, y_1f, y_0, y_1, c0_1f, c0_2f, c0_3f, c0_4f, c0_5f, c0_0, c0_1, c0_2, c0_3, c0_4, c0_5, ne_y_c0, ne_c0_y, ry, rya, ryb, ryc, ryn, rc0, rc0a, rc0b, rc0c, rc0n]; done))
        replace c0_5f : w53.frozen? ⟨wr.heap.size, 5, none⟩ = false := hx53.froz (by show ¬ _ = _; first | assumption | omega) (v := .bool false) (by first | exact c0_5 | (simp [go_sem, World.cell?_alloc_past, y_0f, y_1f, y_0, y_1, c0_1f, c0_2f, c0_3f, c0_4f, c0_5f, c0_0, c0_1, c0_2, c0_3, c0_4, c0_5, ne_y_c0, ne_c0_y, ry, rya, ryb, ryc, ryn, rc0, rc0a, rc0b, rc0c, rc0n]; done)) (by first | exact c0_5f | (simp [go_sem, World.cell?_alloc_past, y_0f, y_1f, y_0, y_1, c0_1f, c0_2f, c0_3f, c0_4f, c0_5f, c0_0, c0_1, c0_2, c0_3, c0_4, c0_5, ne_y_c0, ne_c0_y, ry, rya, ryb, ryc, ryn, rc0, rc0a, rc0b, rc0c, rc0n]; done))
        replace c0_0 : w53.cell? ⟨wr.heap.size, 0, none⟩ = some (.int .i64 x0) := hx53.has (by show ¬ _ = _; first | assumption | omega) (by first | exact c0_0 | (simp [go_sem, World.cell?_alloc_past, y_0f, y_1f, y_0, y_1, c0_1f, c0_2f, c0_3f, c0_4f, c0_5f, c0_0, c0_1, c0_2, c0_3, c0_4, c0_5, ne_y_c0, ne_c0_y, ry, rya, ryb, ryc, ryn, rc0, rc0a, rc0b, rc0c, rc0n]; done))
        replace c0_1 : w53.cell? ⟨wr.heap.size, 1, none⟩ = some (.int .u64 x1) := hx53.has (by show ¬ _ = _; first | assumption | omega) (by first | exact c0_1 | (simp [go_sem, World.cell?_alloc_past, y_0f, y_1f, y_0, y_1, c0_1f, c0_2f, c0_3f, c0_4f, c0_5f, c0_0, c0_1, c0_2, c0_3, c0_4, c0_5, ne_y_c0, ne_c0_y, ry, rya, ryb, ryc, ryn, rc0, rc0a, rc0b, rc0c, rc0n]; done))
        replace c0_2 : w53.cell? ⟨wr.heap.size, 2, none⟩ = some (.int .i64 0) := hx53.has (by show ¬ _ = _; first | assumption | omega) (by first | exact c0_2 | (simp [go_sem, World.cell?_alloc_past, y_0f, y_1f, y_0, y_1, c0_1f, c0_2f, c0_3f, c0_4f, c0_5f, c0_0, c0_1, c0_2, c0_3, c0_4, c0_5, ne_y_c0, ne_c0_y, ry, rya, ryb, ryc, ryn, rc0, rc0a, rc0b, rc0c, rc0n]; done))
        replace c0_3 : w53.cell? ⟨wr.heap.size, 3, none⟩ = some (.int .i64 0) := hx53.has (by show ¬ _ = _; first | assumption | omega) (by first | exact c0_3 | (simp [go_sem, World.cell?_alloc_past, y_0f, y_1f, y_0, y_1, c0_1f, c0_2f, c0_3f, c0_4f, c0_5f, c0_0, c0_1, c0_2, c0_3, c0_4, c0_5, ne_y_c0, ne_c0_y, ry, rya, ryb, ryc, ryn, rc0, rc0a, rc0b, rc0c, rc0n]; done))
        replace c0_4 : w53.cell? ⟨wr.heap.size, 4, none⟩ = some (.bool false) := hx53.has (by show ¬ _ = _; first | assumption | omega) (by first | exact c0_4 | (simp [go_sem, World.cell?_alloc_past, y_0f, y_1f, y_0, y_1, c0_1f, c0_2f, c0_3f, c0_4f, c0_5f, c0_0, c0_1, c0_2, c0_3, c0_4, c0_5, ne_y_c0, ne_c0_y, ry, rya, ryb, ryc, ryn, rc0, rc0a, rc0b, rc0c, rc0n]; done))
        replace c0_5 : w53.cell? ⟨wr.heap.size, 5, none⟩ = some (.bool false) := hx53.has (by show ¬ _ = _; first | assumption | omega) (by first | exact c0_5 | (simp [go_sem, World.cell?_alloc_past, y_0f, y_1f, y_0, y_1, c0_1f, c0_2f, c0_3f, c0_4f, c0_5f, c0_0, c0_1, c0_2, c0_3, c0_4, c0_5, ne_y_c0, ne_c0_y, ry, rya, ryb, ryc, ryn, rc0, rc0a, rc0b, rc0c, rc0n]; done))
        have z53 := hx53.size
        try simp at z53
        replace ry : w.heap.size < w53.heap.size := by omega
        replace rya : w.heap.size < w53.heap.size + 1 := by omega
        replace ryb : w.heap.size < w53.heap.size + 1 + 1 := by omega
        replace ryc : w.heap.size < w53.heap.size + 1 + 1 + 1 := by omega
        replace ryn : ¬ w.heap.size = w53.heap.size := by omega
        replace rc0 : wr.heap.size < w53.heap.size := by omega
        replace rc0a : wr.heap.size < w53.heap.size + 1 := by omega
        replace rc0b : wr.heap.size < w53.heap.size + 1 + 1 := by omega
        replace rc0c : wr.heap.size < w53.heap.size + 1 + 1 + 1 := by omega
        replace rc0n : ¬ wr.heap.size = w53.heap.size := by omega
        have X53 : Hid (Ext w w53) := Lib.hid (have hX := (show Ext w _ from (by repeat (first | with_reducible exact X52.out | with_reducible refine Ext.drew ?_ | with_reducible refine Ext.drewN ?_ _ | with_reducible refine Ext.alloc ?_ _ | with_reducible refine Ext.setCell ?_ (by first | omega | (simp; done) | (simp; omega)) _))); Below.trans hX (hx53.below (Ext.size hX) (fun k hk hh => by have hh2 : k = g := hh; omega)))
        replace HO := Lib.hid (OwnR.but (OwnR.butN HO.out (by repeat (first | with_reducible exact But.refl _ _ | with_reducible refine But.drew ?_ | with_reducible refine But.drewN ?_ _ | with_reducible refine But.alloc ?_ _ | with_reducible refine But.setCell ?_ (by first | exact Nat.le_refl _ | (dsimp only; omega)) _ | with_reducible refine But.setNew ?_ (by first | omega | (simp; done) | (simp; omega)) _))) hx53 (by intro j h1 h2 hh; have h3 : j = g := hh; omega))
        clear HRd
        have HRd := Lib.hid hRd
        clear c0_1f hsz53 X52 hx53 z53 hRd
        go_wp2_with fail
        (with_reducible refine (rN_e g k3 k4 L f3 f4 0 4296015872 x3 (by decide) (by decide) (by decide) (by decide) hL Gx3.out.1 Gx3.out.2.1 Gx3.out.2.2 _ (RRd.butN HRd.out (by repeat (first | with_reducible exact But.refl _ _ | with_reducible refine But.drew ?_ | with_reducible refine But.drewN ?_ _ | with_reducible refine But.alloc ?_ _ | with_reducible refine But.setCell ?_ (by first | exact Nat.le_refl _ | (dsimp only; omega)) _ | with_reducible refine But.setNew ?_ (by first | omega | (simp; done) | (simp; omega)) _)))).mono ?_)
        rintro e w54 ⟨rfl, hRd, hx54⟩
        have hsz54 := hx54.size
        try simp at hsz54
        replace y_0f : w54.frozen? ⟨w.heap.size, 0, none⟩ = false := hx54.froz (by show ¬ _ = _; first | assumption | omega) (v := .int .i64 0) (by first | exact y_0 | (simp [go_sem, World.cell?_alloc_past, y_0f, y_1f, y_0, y_1, c0_2f, c0_3f, c0_4f, c0_5f, c0_0, c0_1, c0_2, c0_3, c0_4, c0_5, ne_y_c0, ne_c0_y, ry, rya, ryb, ryc, ryn, rc0, rc0a, rc0b, rc0c, rc0n]; done)) (by first | exact y_0f | (simp [go_sem, World.cell?_alloc_past, y_0f, y_1f, y_0, y_1, c0_2f, c0_3f, c0_4f, c0_5f, c0_0, c0_1, c0_2, c0_3, c0_4, c0_5, ne_y_c0, ne_c0_y, ry, rya, ryb, ryc, ryn, rc0, rc0a, rc0b, rc0c, rc0n]; done))
        replace y_1f : w54.frozen? ⟨w.heap.size, 1, none⟩ = false := hx54.froz (by show ¬ _ = _; first | assumption | omega) (v := .int .i64 0) (by first | exact y_1 | (simp [go_sem, World.cell?_alloc_past, y_0f, y_1f, y_0, y_1, c0_2f, c0_3f, c0_4f, c0_5f, c0_0, c0_1, c0_2, c0_3, c0_4, c0_5, ne_y_c0, ne_c0_y, ry, rya, ryb, ryc, ryn, rc0, rc0a, rc0b, rc0c, rc0n]; done)) (by first | exact y_1f | (simp [go_sem, World.cell?_alloc_past, y_0f, y_1f, y_0, y_1, c0_2f, c0_3f, c0_4f, c0_5f, c0_0, c0_1, c0_2, c0_3, c0_4, c0_5, ne_y_c0, ne_c0_y, ry, rya, ryb, ryc, ryn, rc0, rc0a, rc0b, rc0c, rc0n]; done))
        replace y_0 : w54.cell? ⟨w.heap.size, 0, none⟩ = some (.int .i64 0) := hx54.has (by show ¬ _ = _; first | assumption | omega) (by first | exact y_0 | (simp [go_sem, World.cell?_alloc_past, y_0f, y_1f, y_0, y_1, c0_2f, c0_3f, c0_4f, c0_5f, c0_0, c0_1, c0_2, c0_3, c0_4, c0_5, ne_y_c0, ne_c0_y, ry, rya, ryb, ryc, ryn, rc0, rc0a, rc0b, rc0c, rc0n]; done))
        replace y_1 : w54.cell? ⟨w.heap.size, 1, none⟩ = some (.int .i64 0) := hx54.has (by show ¬ _ = _; first | assumption | omega) (by first | exact y_1 | (simp [go_sem, World.cell?_alloc_past, y_0f, y_1f, y_0, y_1, c0_2f, c0_3f, c0_4f, c0_5f, c0_0, c0_1, c0_2, c0_3, c0_4, c0_5, ne_y_c0, ne_c0_y, ry, rya, ryb, ryc, ryn, rc0, rc0a, rc0b, rc0c, rc0n]; done))
        replace c0_3f : w54.frozen? ⟨wr.heap.size, 3, none⟩ = false := hx54.froz (by show ¬ _ = _; first | assumption | omega) (v := .int .i64 0) (by first | exact c0_3 | (simp [go_sem, World.cell?_alloc_past, y_0f, y_1f, y_0, y_1, c0_2f, c0_3f, c0_4f, c0_5f, c0_0, c0_1, c0_2, c0_3, c0_4, c0_5, ne_y_c0, ne_c0_y, ry, rya, ryb, ryc, ryn, rc0, rc0a, rc0b, rc0c, rc0n]; done)) (by first | exact c0_3f | (simp [go_sem, World.cell?_alloc_past, y_0f, y_1f, y_0, y_1, c0_2f, c0_3f, c0_4f, c0_5f, c0_0, c0_1, c0_2, c0_3, c0_4, c0_5, ne_y_c0, ne_c0_y, ry, rya, ryb, ryc, ryn, rc0, rc0a, rc0b, rc0c, rc0n]; done))
        replace c0_4f : w54.frozen? ⟨wr.heap.size, 4, none⟩ = false := hx54.froz (by show ¬ _ = _; first | assumption | omega) (v := .bool false) (by first | exact c0_4 | (simp [go_sem, World.cell?_alloc_past, y_0f, y_1f, y_0, y_1, c0_2f, c0_3f, c0_4f, c0_5f, c0_0, c0_1, c0_2, c0_3, c0_4, c0_5, ne_y_c0, ne_c0_y, ry, rya, ryb, ryc, ryn, rc0, rc0a, rc0b, rc0c, rc0n]; done)) (by first | exact c0_4f | (simp [go_sem, World.cell?_alloc_past, y_0f, y_1f, y_0, y_1, c0_2f, c0_3f, c0_4f, c0_5f, c0_0, c0_1, c0_2, c0_3, c0_4, c0_5, ne_y_c0, ne_c0_y, ry, rya, ryb, ryc, ryn, rc0, rc0a, rc0b, rc0c, rc0n]; done))
        replace c0_5f : w54.frozen? ⟨wr.heap.size, 5, none⟩ = false := hx54.froz (by show ¬ _ = _; first | assumption | omega) (v := .bool false) (by first | exact c0_5 | (simp [go_sem, World.cell?_alloc_past, y_0f, y_1f, y_0, y_1, c0_2f, c0_3f, c0_4f, c0_5f, c0_0, c0_1, c0_2, c0_3, c0_4, c0_5, ne_y_c0, ne_c0_y, ry, rya, ryb, ryc, ryn, rc0, rc0a, rc0b, rc0c, rc0n]; done)) (by first | exact c0_5f | (simp [go_sem, World.cell?_alloc_past, y_0f, y_1f, y_0, y_1, c0_2f, c0_3f, c0_4f, c0_5f, c0_0, c0_1, c0_2, c0_3, c0_4, c0_5, ne_y_c0, ne_c0_y, ry, rya, ryb, ryc, ryn, rc0, rc0a, rc0b, rc0c, rc0n]; done))
        replace c0_0 : w54.cell? ⟨wr.heap.size, 0, none⟩ = some (.int .i64 x0) := hx54.has (by show ¬ _ = _; first | assumption | omega) (by first | exact c0_0 | (simp [go_sem, World.cell?_alloc_past, y_0f, y_1f, y_0, y_1, c0_2f, c0_3f, c0_4f, c0_5f, c0_0, c0_1, c0_2, c0_3, c0_4, c0_5, ne_y_c0, ne_c0_y, ry, rya, ryb, ryc, ryn, rc0, rc0a, rc0b, rc0c, rc0n]; done))
        replace c0_1 : w54.cell? ⟨wr.heap.size, 1, none⟩ = some (.int .u64 x1) := hx54.has (by show ¬ _ = _; first | assumption | omega) (by first | exact c0_1 | (simp [go_sem, World.cell?_alloc_past, y_0f, y_1f, y_0, y_1, c0_2f, c0_3f, c0_4f, c0_5f, c0_0, c0_1, c0_2, c0_3, c0_4, c0_5, ne_y_c0, ne_c0_y, ry, rya, ryb, ryc, ryn, rc0, rc0a, rc0b, rc0c, rc0n]; done))
        replace c0_2 : w54.cell? ⟨wr.heap.size, 2, none⟩ = some (.int .i64 x2) := hx54.has (by show ¬ _ = _; first | assumption | omega) (by first | exact c0_2 | (simp [go_sem, World.cell?_alloc_past, y_0f, y_1f, y_0, y_1, c0_2f, c0_3f, c0_4f, c0_5f, c0_0, c0_1, c0_2, c0_3, c0_4, c0_5, ne_y_c0, ne_c0_y, ry, rya, ryb, ryc, ryn, rc0, rc0a, rc0b, rc0c, rc0n]; done))
        replace c0_3 : w54.cell? ⟨wr.heap.size, 3, none⟩ = some (.int .i64 0) := hx54.has (by show ¬ _ = _; first | assumption | omega) (by first | exact c0_3 | (simp [go_sem, World.cell?_alloc_past, y_0f, y_1f, y_0, y_1, c0_2f, c0_3f, c0_4f, c0_5f, c0_0, c0_1, c0_2, c0_3, c0_4, c0_5, ne_y_c0, ne_c0_y, ry, rya, ryb, ryc, ryn, rc0, rc0a, rc0b, rc0c, rc0n]; done))
        replace c0_4 : w54.cell? ⟨wr.heap.size, 4, none⟩ = some (.bool false) := hx54.has (by show ¬ _ = _; first | assumption | omega) (by first | exact c0_4 | (simp [go_sem, World.cell?_alloc_past, y_0f, y_1f, y_0, y_1, c0_2f, c0_3f, c0_4f, c0_5f, c0_0, c0_1, c0_2, c0_3, c0_4, c0_5, ne_y_c0, ne_c0_y, ry, rya, ryb, ryc, ryn, rc0, rc0a, rc0b, rc0c, rc0n]; done))
        replace c0_5 : w54.cell? ⟨wr.heap.size, 5, none⟩ = some (.bool false) := hx54.has (by show ¬ _ = _; first | assumption | omega) (by first | exact c0_5 | (simp [go_sem, World.cell?_alloc_past, y_0f, y_1f, y_0, y_1, c0_2f, c0_3f, c0_4f, c0_5f, c0_0, c0_1, c0_2, c0_3, c0_4, c0_5, ne_y_c0, ne_c0_y, ry, rya, ryb, ryc, ryn, rc0, rc0a, rc0b, rc0c, rc0n]; done))
        have z54 := hx54.size
        try simp at z54
        replace ry : w.heap.size < w54.heap.size := by omega
        replace rya : w.heap.size < w54.heap.size + 1 := by omega
        replace ryb : w.heap.size < w54.heap.size + 1 + 1 := by omega
        replace ryc : w.heap.size < w54.heap.size + 1 + 1 + 1 := by omega
        replace ryn : ¬ w.heap.size = w54.heap.size := by omega
        replace rc0 : wr.heap.size < w54.heap.size := by omega
        replace rc0a : wr.heap.size < w54.heap.size + 1 := by omega
        replace rc0b : wr.heap.size < w54.heap.size + 1 + 1 := by omega
        replace rc0c : wr.heap.size < w54.heap.size + 1 + 1 + 1 := by omega
        replace rc0n : ¬ wr.heap.size = w54.heap.size := by omega
        have X54 : Hid (Ext w w54) := Lib.hid (have hX := (show Ext w _ from (by repeat (first | with_reducible exact X53.out | with_reducible refine Ext.drew ?_ | with_reducible refine Ext.drewN ?_ _ | with_reducible refine Ext.alloc ?_ _ | with_reducible refine Ext.setCell ?_ (by first | omega | (simp; done) | (simp; omega)) _))); Below.trans hX (hx54.below (Ext.size hX) (fun k hk hh => by have hh2 : k = g := hh; omega)))
        replace HO := Lib.hid (OwnR.but (OwnR.butN HO.out (by repeat (first | with_reducible exact But.refl _ _ | with_reducible refine But.drew ?_ | with_reducible refine But.drewN ?_ _ | with_reducible refine But.alloc ?_ _ | with_reducible refine But.setCell ?_ (by first | exact Nat.le_refl _ | (dsimp only; omega)) _ | with_reducible refine But.setNew ?_ (by first | omega | (simp; done) | (simp; omega)) _))) hx54 (by intro j h1 h2 hh; have h3 : j = g := hh; omega))
        clear HRd
        have HRd := Lib.hid hRd
        clear c0_2f hsz54 X53 hx54 z54 hRd
        go_wp2_with fail
        (with_reducible refine (rN_e g k4 k5 L f4 f5 0 3 n (by decide) (by decide) (by decide) (by decide) hL Gn.out.1 Gn.out.2.1 Gn.out.2.2 _ (RRd.butN HRd.out (by repeat (first | with_reducible exact But.refl _ _ | with_reducible refine But.drew ?_ | with_reducible refine But.drewN ?_ _ | with_reducible refine But.alloc ?_ _ | with_reducible refine But.setCell ?_ (by first | exact Nat.le_refl _ | (dsimp only; omega)) _ | with_reducible refine But.setNew ?_ (by first | omega | (simp; done) | (simp; omega)) _)))).mono ?_)
        rintro e w55 ⟨rfl, hRd, hx55⟩
        have hsz55 := hx55.size
        try simp at hsz55
        replace y_0f : w55.frozen? ⟨w.heap.size, 0, none⟩ = false := hx55.froz (by show ¬ _ = _; first | assumption | omega) (v := .int .i64 0) (by first | exact y_0 | (simp [go_sem, World.cell?_alloc_past, y_0f, y_1f, y_0, y_1, c0_3f, c0_4f, c0_5f, c0_0, c0_1, c0_2, c0_3, c0_4, c0_5, ne_y_c0, ne_c0_y, ry, rya, ryb, ryc, ryn, rc0, rc0a, rc0b, rc0c, rc0n]; done)) (by first | exact y_0f | (simp [go_sem, World.cell?_alloc_past, y_0f, y_1f, y_0, y_1, c0_3f, c0_4f, c0_5f, c0_0, c0_1, c0_2, c0_3, c0_4, c0_5, ne_y_c0, ne_c0_y, ry, rya, ryb, ryc, ryn, rc0, rc0a, rc0b, rc0c, rc0n]; done))
        replace y_1f : w55.frozen? ⟨w.heap.size, 1, none⟩ = false := hx55.froz (by show ¬ _ = _; first | assumption | omega) (v := .int .i64 0) (by first | exact y_1 | (simp [go_sem, World.cell?_alloc_past, y_0f, y_1f, y_0, y_1, c0_3f, c0_4f, c0_5f, c0_0, c0_1, c0_2, c0_3, c0_4, c0_5, ne_y_c0, ne_c0_y, ry, rya, ryb, ryc, ryn, rc0, rc0a, rc0b, rc0c, rc0n]; done)) (by first | exact y_1f | (simp [go_sem, World.cell?_alloc_past, y_0f, y_1f, y_0, y_1, c0_3f, c0_4f, c0_5f, c0_0, c0_1, c0_2, c0_3, c0_4, c0_5, ne_y_c0, ne_c0_y, ry, rya, ryb, ryc, ryn, rc0, rc0a, rc0b, rc0c, rc0n]; done))
        replace y_0 : w55.cell? ⟨w.heap.size, 0, none⟩ = some (.int .i64 0) := hx55.has (by show ¬ _ = _; first | assumption | omega) (by first | exact y_0 | (simp [go_sem, World.cell?_alloc_past, y_0f, y_1f, y_0, y_1, c0_3f, c0_4f, c0_5f, c0_0, c0_1, c0_2, c0_3, c0_4, c0_5, ne_y_c0, ne_c0_y, ry, rya, ryb, ryc, ryn, rc0, rc0a, rc0b, rc0c, rc0n]; done))
        replace y_1 : w55.cell? ⟨w.heap.size, 1, none⟩ = some (.int .i64 0) := hx55.has (by show ¬ _ = _; first | assumption | omega) (by first | exact y_1 | (simp [go_sem, World.cell?_alloc_past, y_0f, y_1f, y_0, y_1, c0_3f, c0_4f, c0_5f, c0_0, c0_1, c0_2, c0_3, c0_4, c0_5, ne_y_c0, ne_c0_y, ry, rya, ryb, ryc, ryn, rc0, rc0a, rc0b, rc0c, rc0n]; done))
        replace c0_4f : w55.frozen? ⟨wr.heap.size, 4, none⟩ = false := hx55.froz (by show ¬ _ = _; first | assumption | omega) (v := .bool false) (by first | exact c0_4 | (simp [go_sem, World.cell?_alloc_past, y_0f, y_1f, y_0, y_1, c0_3f, c0_4f, c0_5f, c0_0, c0_1, c0_2, c0_3, c0_4, c0_5, ne_y_c0, ne_c0_y, ry, rya, ryb, ryc, ryn, rc0, rc0a, rc0b, rc0c, rc0n]; done)) (by first | exact c0_4f | (simp [go_sem, World.cell?_alloc_past, y_0f, y_1f, y_0, y_1, c0_3f, c0_4f, c0_5f, c0_0, c0_1, c0_2, c0_3, c0_4, c0_5, ne_y_c0, ne_c0_y, ry, rya, ryb, ryc, ryn, rc0, rc0a, rc0b, rc0c, rc0n]; done))
        replace c0_5f : w55.frozen? ⟨wr.heap.size, 5, none⟩ = false := hx55.froz (by show ¬ _ = _; first | assumption | omega) (v := .bool false) (by first | exact c0_5 | (simp [go_sem, World.cell?_alloc_past, y_0f, y_1f, y_0, y_1, c0_3f, c0_4f, c0_5f, c0_0, c0_1, c0_2, c0_3, c0_4, c0_5, ne_y_c0, ne_c0_y, ry, rya, ryb, ryc, ryn, rc0, rc0a, rc0b, rc0c, rc0n]; done)) (by first | exact c0_5f | (simp [go_sem, World.cell?_alloc_past, y_0f, y_1f, y_0, y_1, c0_3f, c0_4f, c0_5f, c0_0, c0_1, c0_2, c0_3, c0_4, c0_5, ne_y_c0, ne_c0_y, ry, rya, ryb, ryc, ryn, rc0, rc0a, rc0b, rc0c, rc0n]; done))
        replace c0_0 : w55.cell? ⟨wr.heap.size, 0, none⟩ = some (.int .i64 x0) := hx55.has (by show ¬ _ = _; first | assumption | omega) (by first | exact c0_0 | (simp [go_sem, World.cell?_alloc_past, y_0f, y_1f, y_0, y_1, c0_3f, c0_4f, c0_5f, c0_0, c0_1, c0_2, c0_3, c0_4, c0_5, ne_y_c0, ne_c0_y, ry, rya, ryb, ryc, ryn, rc0, rc0a, rc0b, rc0c, rc0n]; done))
        replace c0_1 : w55.cell? ⟨wr.heap.size, 1, none⟩ = some (.int .u64 x1) := hx55.has (by show ¬ _ = _; first | assumption | omega) (by first | exact c0_1 | (simp [go_sem, World.cell?_alloc_past, y_0f, y_1f, y_0, y_1, c0_3f, c0_4f, c0_5f, c0_0, c0_1, c0_2, c0_3, c0_4, c0_5, ne_y_c0, ne_c0_y, ry, rya, ryb, ryc, ryn, rc0, rc0a, rc0b, rc0c, rc0n]; done))
        replace c0_2 : w55.cell? ⟨wr.heap.size, 2, none⟩ = some (.int .i64 x2) := hx55.has (by show ¬ _ = _; first | assumption | omega) (by first | exact c0_2 | (simp [go_sem, World.cell?_alloc_past, y_0f, y_1f, y_0, y_1, c0_3f, c0_4f, c0_5f, c0_0, c0_1, c0_2, c0_3, c0_4, c0_5, ne_y_c0, ne_c0_y, ry, rya, ryb, ryc, ryn, rc0, rc0a, rc0b, rc0c, rc0n]; done))
        replace c0_3 : w55.cell? ⟨wr.heap.size, 3, none⟩ = some (.int .i64 x3) := hx55.has (by show ¬ _ = _; first | assumption | omega) (by first | exact c0_3 | (simp [go_sem, World.cell?_alloc_past, y_0f, y_1f, y_0, y_1, c0_3f, c0_4f, c0_5f, c0_0, c0_1, c0_2, c0_3, c0_4, c0_5, ne_y_c0, ne_c0_y, ry, rya, ryb, ryc, ryn, rc0, rc0a, rc0b, rc0c, rc0n]; done))
        replace c0_4 : w55.cell? ⟨wr.heap.size, 4, none⟩ = some (.bool false) := hx55.has (by show ¬ _ = _; first | assumption | omega) (by first | exact c0_4 | (simp [go_sem, World.cell?_alloc_past, y_0f, y_1f, y_0, y_1, c0_3f, c0_4f, c0_5f, c0_0, c0_1, c0_2, c0_3, c0_4, c0_5, ne_y_c0, ne_c0_y, ry, rya, ryb, ryc, ryn, rc0, rc0a, rc0b, rc0c, rc0n]; done))
        replace c0_5 : w55.cell? ⟨wr.heap.size, 5, none⟩ = some (.bool false) := hx55.has (by show ¬ _ = _; first | assumption | omega) (by first | exact c0_5 | (simp [go_sem, World.cell?_alloc_past, y_0f, y_1f, y_0, y_1, c0_3f, c0_4f, c0_5f, c0_0, c0_1, c0_2, c0_3, c0_4, c0_5, ne_y_c0, ne_c0_y, ry, rya, ryb, ryc, ryn, rc0, rc0a, rc0b, rc0c, rc0n]; done))
        have z55 := hx55.size
        try simp at z55
        replace ry : w.heap.size < w55.heap.size := by omega
        replace rya : w.heap.size < w55.heap.size + 1 := by omega
        replace ryb : w.heap.size < w55.heap.size + 1 + 1 := by omega
        replace ryc : w.heap.size < w55.heap.size + 1 + 1 + 1 := by omega
        replace ryn : ¬ w.heap.size = w55.heap.size := by omega
        replace rc0 : wr.heap.size < w55.heap.size := by omega
        replace rc0a : wr.heap.size < w55.heap.size + 1 := by omega
        replace rc0b : wr.heap.size < w55.heap.size + 1 + 1 := by omega
        replace rc0c : wr.heap.size < w55.heap.size + 1 + 1 + 1 := by omega
        replace rc0n : ¬ wr.heap.size = w55.heap.size := by omega
        have X55 : Hid (Ext w w55) := Lib.hid (have hX := (show Ext w _ from (by repeat (first | with_reducible exact X54.out | with_reducible refine Ext.drew ?_ | with_reducible refine Ext.drewN ?_ _ | with_reducible refine Ext.alloc ?_ _ | with_reducible refine Ext.setCell ?_ (by first | omega | (simp; done) | (simp; omega)) _))); Below.trans hX (hx55.below (Ext.size hX) (fun k hk hh => by have hh2 : k = g := hh; omega)))
        replace HO := Lib.hid (OwnR.but (OwnR.butN HO.out (by repeat (first | with_reducible exact But.refl _ _ | with_reducible refine But.drew ?_ | with_reducible refine But.drewN ?_ _ | with_reducible refine But.alloc ?_ _ | with_reducible refine But.setCell ?_ (by first | exact Nat.le_refl _ | (dsimp only; omega)) _ | with_reducible refine But.setNew ?_ (by first | omega | (simp; done) | (simp; omega)) _))) hx55 (by intro j h1 h2 hh; have h3 : j = g := hh; omega))
        clear HRd
        have HRd := Lib.hid hRd
        clear c0_3f hsz55 X54 hx55 z55 hRd
        have gg_2 := HRd.out.c2
        rw [← G5.out] at gg_2
        by_cases h5n : f5 = none
        · have E50 : E5 = 0 := by rw [G5.out, h5n]; rfl
          have e57 : (E5 == 0) = true := by simp [E50]
          subst h5n
          go_wp2_with fail
          (with_reducible refine (rOne16_ev ev x0 x1 x2 x3 x4 x5 A9 out.length c9 out _ (Sl.own (OwnR.butN HO.out (by repeat (first | with_reducible exact But.refl _ _ | with_reducible refine But.drew ?_ | with_reducible refine But.drewN ?_ _ | with_reducible refine But.alloc ?_ _ | with_reducible refine But.setCell ?_ (by first | exact Nat.le_refl _ | (dsimp only; omega)) _ | with_reducible refine But.setNew ?_ (by first | omega | (simp; done) | (simp; omega)) _))).own) GE.out).mono ?_)
          rintro e w56 ⟨rfl, hx56⟩
          replace y_0f : w56.frozen? ⟨w.heap.size, 0, none⟩ = false := hx56.froz (v := .int .i64 0) (by first | exact y_0 | (simp [go_sem, World.cell?_alloc_past, y_0f, y_1f, y_0, y_1, c0_4f, c0_5f, c0_0, c0_1, c0_2, c0_3, c0_4, c0_5, ne_y_c0, ne_c0_y, ry, rya, ryb, ryc, ryn, rc0, rc0a, rc0b, rc0c, rc0n, gg_2]; done)) (by first | exact y_0f | (simp [go_sem, World.cell?_alloc_past, y_0f, y_1f, y_0, y_1, c0_4f, c0_5f, c0_0, c0_1, c0_2, c0_3, c0_4, c0_5, ne_y_c0, ne_c0_y, ry, rya, ryb, ryc, ryn, rc0, rc0a, rc0b, rc0c, rc0n, gg_2]; done))
          replace y_1f : w56.frozen? ⟨w.heap.size, 1, none⟩ = false := hx56.froz (v := .int .i64 0) (by first | exact y_1 | (simp [go_sem, World.cell?_alloc_past, y_0f, y_1f, y_0, y_1, c0_4f, c0_5f, c0_0, c0_1, c0_2, c0_3, c0_4, c0_5, ne_y_c0, ne_c0_y, ry, rya, ryb, ryc, ryn, rc0, rc0a, rc0b, rc0c, rc0n, gg_2]; done)) (by first | exact y_1f | (simp [go_sem, World.cell?_alloc_past, y_0f, y_1f, y_0, y_1, c0_4f, c0_5f, c0_0, c0_1, c0_2, c0_3, c0_4, c0_5, ne_y_c0, ne_c0_y, ry, rya, ryb, ryc, ryn, rc0, rc0a, rc0b, rc0c, rc0n, gg_2]; done))
          replace y_0 : w56.cell? ⟨w.heap.size, 0, none⟩ = some (.int .i64 0) := hx56.has (by first | exact y_0 | (simp [go_sem, World.cell?_alloc_past, y_0f, y_1f, y_0, y_1, c0_4f, c0_5f, c0_0, c0_1, c0_2, c0_3, c0_4, c0_5, ne_y_c0, ne_c0_y, ry, rya, ryb, ryc, ryn, rc0, rc0a, rc0b, rc0c, rc0n, gg_2]; done))
          replace y_1 : w56.cell? ⟨w.heap.size, 1, none⟩ = some (.int .i64 0) := hx56.has (by first | exact y_1 | (simp [go_sem, World.cell?_alloc_past, y_0f, y_1f, y_0, y_1, c0_4f, c0_5f, c0_0, c0_1, c0_2, c0_3, c0_4, c0_5, ne_y_c0, ne_c0_y, ry, rya, ryb, ryc, ryn, rc0, rc0a, rc0b, rc0c, rc0n, gg_2]; done))
          replace c0_0 : w56.cell? ⟨wr.heap.size, 0, none⟩ = some (.int .i64 x0) := hx56.has (by first | exact c0_0 | (simp [go_sem, World.cell?_alloc_past, y_0f, y_1f, y_0, y_1, c0_4f, c0_5f, c0_0, c0_1, c0_2, c0_3, c0_4, c0_5, ne_y_c0, ne_c0_y, ry, rya, ryb, ryc, ryn, rc0, rc0a, rc0b, rc0c, rc0n, gg_2]; done))
          replace c0_1 : w56.cell? ⟨wr.heap.size, 1, none⟩ = some (.int .u64 x1) := hx56.has (by first | exact c0_1 | (simp [go_sem, World.cell?_alloc_past, y_0f, y_1f, y_0, y_1, c0_4f, c0_5f, c0_0, c0_1, c0_2, c0_3, c0_4, c0_5, ne_y_c0, ne_c0_y, ry, rya, ryb, ryc, ryn, rc0, rc0a, rc0b, rc0c, rc0n, gg_2]; done))
          replace c0_2 : w56.cell? ⟨wr.heap.size, 2, none⟩ = some (.int .i64 x2) := hx56.has (by first | exact c0_2 | (simp [go_sem, World.cell?_alloc_past, y_0f, y_1f, y_0, y_1, c0_4f, c0_5f, c0_0, c0_1, c0_2, c0_3, c0_4, c0_5, ne_y_c0, ne_c0_y, ry, rya, ryb, ryc, ryn, rc0, rc0a, rc0b, rc0c, rc0n, gg_2]; done))
          replace c0_3 : w56.cell? ⟨wr.heap.size, 3, none⟩ = some (.int .i64 x3) := hx56.has (by first | exact c0_3 | (simp [go_sem, World.cell?_alloc_past, y_0f, y_1f, y_0, y_1, c0_4f, c0_5f, c0_0, c0_1, c0_2, c0_3, c0_4, c0_5, ne_y_c0, ne_c0_y, ry, rya, ryb, ryc, ryn, rc0, rc0a, rc0b, rc0c, rc0n, gg_2]; done))
          replace c0_4 : w56.cell? ⟨wr.heap.size, 4, none⟩ = some (.bool x4) := hx56.has (by first | exact c0_4 | (simp [go_sem, World.cell?_alloc_past, y_0f, y_1f, y_0, y_1, c0_4f, c0_5f, c0_0, c0_1, c0_2, c0_3, c0_4, c0_5, ne_y_c0, ne_c0_y, ry, rya, ryb, ryc, ryn, rc0, rc0a, rc0b, rc0c, rc0n, gg_2]; done))
          replace c0_5 : w56.cell? ⟨wr.heap.size, 5, none⟩ = some (.bool x5) := hx56.has (by first | exact c0_5 | (simp [go_sem, World.cell?_alloc_past, y_0f, y_1f, y_0, y_1, c0_4f, c0_5f, c0_0, c0_1, c0_2, c0_3, c0_4, c0_5, ne_y_c0, ne_c0_y, ry, rya, ryb, ryc, ryn, rc0, rc0a, rc0b, rc0c, rc0n, gg_2]; done))
          have z56 := hx56.size
          try simp at z56
          replace ry : w.heap.size < w56.heap.size := by omega
          replace rya : w.heap.size < w56.heap.size + 1 := by omega
          replace ryb : w.heap.size < w56.heap.size + 1 + 1 := by omega
          replace ryc : w.heap.size < w56.heap.size + 1 + 1 + 1 := by omega
          replace ryn : ¬ w.heap.size = w56.heap.size := by omega
          replace rc0 : wr.heap.size < w56.heap.size := by omega
          replace rc0a : wr.heap.size < w56.heap.size + 1 := by omega
          replace rc0b : wr.heap.size < w56.heap.size + 1 + 1 := by omega
          replace rc0c : wr.heap.size < w56.heap.size + 1 + 1 + 1 := by omega
          replace rc0n : ¬ wr.heap.size = w56.heap.size := by omega
          replace HO := Lib.hid ((OwnR.butN HO.out (by repeat (first | with_reducible exact But.refl _ _ | with_reducible refine But.drew ?_ | with_reducible refine But.drewN ?_ _ | with_reducible refine But.alloc ?_ _ | with_reducible refine But.setCell ?_ (by first | exact Nat.le_refl _ | (dsimp only; omega)) _ | with_reducible refine But.setNew ?_ (by first | omega | (simp; done) | (simp; omega)) _))).ext hx56)
          replace HRd := Lib.hid ((RRd.butN HRd.out (by repeat (first | with_reducible exact But.refl _ _ | with_reducible refine But.drew ?_ | with_reducible refine But.drewN ?_ _ | with_reducible refine But.alloc ?_ _ | with_reducible refine But.setCell ?_ (by first | exact Nat.le_refl _ | (dsimp only; omega)) _ | with_reducible refine But.setNew ?_ (by first | omega | (simp; done) | (simp; omega)) _))).ext hx56)
          have X56 : Hid (Ext w w56) := Lib.hid (Ext.trans (by repeat (first | with_reducible exact X55.out | with_reducible refine Ext.drew ?_ | with_reducible refine Ext.drewN ?_ _ | with_reducible refine Ext.alloc ?_ _ | with_reducible refine Ext.setCell ?_ (by first | omega | (simp; done) | (simp; omega)) _)) hx56)
          clear gg_2 c0_4f c0_5f X55 hx56 z56
          go_wp2_with fail
          try clear gg_2
          (with_reducible refine (rFail_any g k5 L none ev (atF none k) _ (RRd.butN HRd.out (by repeat (first | with_reducible exact But.refl _ _ | with_reducible refine But.drew ?_ | with_reducible refine But.drewN ?_ _ | with_reducible refine But.alloc ?_ _ | with_reducible refine But.setCell ?_ (by first | exact Nat.le_refl _ | (dsimp only; omega)) _ | with_reducible refine But.setNew ?_ (by first | omega | (simp; done) | (simp; omega)) _)))).mono ?_)
          rintro e w57 ⟨⟨vv, rfl⟩, hRd, hx57⟩
          have hsz57 := hx57.size
          try simp at hsz57
          replace y_0f : w57.frozen? ⟨w.heap.size, 0, none⟩ = false := hx57.froz (by show ¬ _ = _; first | assumption | omega) (v := .int .i64 0) (by first | exact y_0 | (simp [go_sem, World.cell?_alloc_past, y_0f, y_1f, y_0, y_1, c0_0, c0_1, c0_2, c0_3, c0_4, c0_5, ne_y_c0, ne_c0_y, ry, rya, ryb, ryc, ryn, rc0, rc0a, rc0b, rc0c, rc0n]; done)) (by first | exact y_0f | (simp [go_sem, World.cell?_alloc_past, y_0f, y_1f, y_0, y_1, c0_0, c0_1, c0_2, c0_3, c0_4, c0_5, ne_y_c0, ne_c0_y, ry, rya, ryb, ryc, ryn, rc0, rc0a, rc0b, rc0c, rc0n]; done))
          replace y_1f : w57.frozen? ⟨w.heap.size, 1, none⟩ = false := hx57.froz (by show ¬ _ = _; first | assumption | omega) (v := .int .i64 0) (by first | exact y_1 | (simp [go_sem, World.cell?_alloc_past, y_0f, y_1f, y_0, y_1, c0_0, c0_1, c0_2, c0_3, c0_4, c0_5, ne_y_c0, ne_c0_y, ry, rya, ryb, ryc, ryn, rc0, rc0a, rc0b, rc0c, rc0n]; done)) (by first | exact y_1f | (simp [go_sem, World.cell?_alloc_past, y_0f, y_1f, y_0, y_1, c0_0, c0_1, c0_2, c0_3, c0_4, c0_5, ne_y_c0, ne_c0_y, ry, rya, ryb, ryc, ryn, rc0, rc0a, rc0b, rc0c, rc0n]; done))
          replace y_0 : w57.cell? ⟨w.heap.size, 0, none⟩ = some (.int .i64 0) := hx57.has (by show ¬ _ = _; first | assumption | omega) (by first | exact y_0 | (simp [go_sem, World.cell?_alloc_past, y_0f, y_1f, y_0, y_1, c0_0, c0_1, c0_2, c0_3, c0_4, c0_5, ne_y_c0, ne_c0_y, ry, rya, ryb, ryc, ryn, rc0, rc0a, rc0b, rc0c, rc0n]; done))
          replace y_1 : w57.cell? ⟨w.heap.size, 1, none⟩ = some (.int .i64 0) := hx57.has (by show ¬ _ = _; first | assumption | omega) (by first | exact y_1 | (simp [go_sem, World.cell?_alloc_past, y_0f, y_1f, y_0, y_1, c0_0, c0_1, c0_2, c0_3, c0_4, c0_5, ne_y_c0, ne_c0_y, ry, rya, ryb, ryc, ryn, rc0, rc0a, rc0b, rc0c, rc0n]; done))
          replace c0_0 : w57.cell? ⟨wr.heap.size, 0, none⟩ = some (.int .i64 x0) := hx57.has (by show ¬ _ = _; first | assumption | omega) (by first | exact c0_0 | (simp [go_sem, World.cell?_alloc_past, y_0f, y_1f, y_0, y_1, c0_0, c0_1, c0_2, c0_3, c0_4, c0_5, ne_y_c0, ne_c0_y, ry, rya, ryb, ryc, ryn, rc0, rc0a, rc0b, rc0c, rc0n]; done))
          replace c0_1 : w57.cell? ⟨wr.heap.size, 1, none⟩ = some (.int .u64 x1) := hx57.has (by show ¬ _ = _; first | assumption | omega) (by first | exact c0_1 | (simp [go_sem, World.cell?_alloc_past, y_0f, y_1f, y_0, y_1, c0_0, c0_1, c0_2, c0_3, c0_4, c0_5, ne_y_c0, ne_c0_y, ry, rya, ryb, ryc, ryn, rc0, rc0a, rc0b, rc0c, rc0n]; done))
          replace c0_2 : w57.cell? ⟨wr.heap.size, 2, none⟩ = some (.int .i64 x2) := hx57.has (by show ¬ _ = _; first | assumption | omega) (by first | exact c0_2 | (simp [go_sem, World.cell?_alloc_past, y_0f, y_1f, y_0, y_1, c0_0, c0_1, c0_2, c0_3, c0_4, c0_5, ne_y_c0, ne_c0_y, ry, rya, ryb, ryc, ryn, rc0, rc0a, rc0b, rc0c, rc0n]; done))
          replace c0_3 : w57.cell? ⟨wr.heap.size, 3, none⟩ = some (.int .i64 x3) := hx57.has (by show ¬ _ = _; first | assumption | omega) (by first | exact c0_3 | (simp [go_sem, World.cell?_alloc_past, y_0f, y_1f, y_0, y_1, c0_0, c0_1, c0_2, c0_3, c0_4, c0_5, ne_y_c0, ne_c0_y, ry, rya, ryb, ryc, ryn, rc0, rc0a, rc0b, rc0c, rc0n]; done))
          replace c0_4 : w57.cell? ⟨wr.heap.size, 4, none⟩ = some (.bool x4) := hx57.has (by show ¬ _ = _; first | assumption | omega) (by first | exact c0_4 | (simp [go_sem, World.cell?_alloc_past, y_0f, y_1f, y_0, y_1, c0_0, c0_1, c0_2, c0_3, c0_4, c0_5, ne_y_c0, ne_c0_y, ry, rya, ryb, ryc, ryn, rc0, rc0a, rc0b, rc0c, rc0n]; done))
          replace c0_5 : w57.cell? ⟨wr.heap.size, 5, none⟩ = some (.bool x5) := hx57.has (by show ¬ _ = _; first | assumption | omega) (by first | exact c0_5 | (simp [go_sem, World.cell?_alloc_past, y_0f, y_1f, y_0, y_1, c0_0, c0_1, c0_2, c0_3, c0_4, c0_5, ne_y_c0, ne_c0_y, ry, rya, ryb, ryc, ryn, rc0, rc0a, rc0b, rc0c, rc0n]; done))
          have z57 := hx57.size
          try simp at z57
          replace ry : w.heap.size < w57.heap.size := by omega
          replace rya : w.heap.size < w57.heap.size + 1 := by omega
          replace ryb : w.heap.size < w57.heap.size + 1 + 1 := by omega
          replace ryc : w.heap.size < w57.heap.size + 1 + 1 + 1 := by omega
          replace ryn : ¬ w.heap.size = w57.heap.size := by omega
          replace rc0 : wr.heap.size < w57.heap.size := by omega
          replace rc0a : wr.heap.size < w57.heap.size + 1 := by omega
          replace rc0b : wr.heap.size < w57.heap.size + 1 + 1 := by omega
          replace rc0c : wr.heap.size < w57.heap.size + 1 + 1 + 1 := by omega
          replace rc0n : ¬ wr.heap.size = w57.heap.size := by omega
          have X57 : Hid (Ext w w57) := Lib.hid (have hX := (show Ext w _ from (by repeat (first | with_reducible exact X56.out | with_reducible refine Ext.drew ?_ | with_reducible refine Ext.drewN ?_ _ | with_reducible refine Ext.alloc ?_ _ | with_reducible refine Ext.setCell ?_ (by first | omega | (simp; done) | (simp; omega)) _))); Below.trans hX (hx57.below (Ext.size hX) (fun k hk hh => by have hh2 : k = g := hh; omega)))
          replace HO := Lib.hid (OwnR.but (OwnR.butN HO.out (by repeat (first | with_reducible exact But.refl _ _ | with_reducible refine But.drew ?_ | with_reducible refine But.drewN ?_ _ | with_reducible refine But.alloc ?_ _ | with_reducible refine But.setCell ?_ (by first | exact Nat.le_refl _ | (dsimp only; omega)) _ | with_reducible refine But.setNew ?_ (by first | omega | (simp; done) | (simp; omega)) _))) hx57 (by intro j h1 h2 hh; have h3 : j = g := hh; omega))
          clear HRd
          have HRd := Lib.hid hRd
          clear hsz57 X56 hx57 z57 hRd
          skip
          go_wp2_with (at_builtin; refine wpList_append_slB _ rfl _ _ 40 rfl (g + 1) 96 i0 (.agg #[.int .i64 0, .int .u64 0, .int .i64 0, .int .i64 0, .bool false, .bool false]) 6 40 Try.underlying40 hi0 hz0 hz1 hz2 rfl (by decide) (.slice A9 out.length c9) out.length _ (by rfl) ((OwnR.butN HO.out (by repeat (first | with_reducible exact But.refl _ _ | with_reducible refine But.drew ?_ | with_reducible refine But.drewN ?_ _ | with_reducible refine But.alloc ?_ _ | with_reducible refine But.setCell ?_ (by first | exact Nat.le_refl _ | (dsimp only; omega)) _ | with_reducible refine But.setNew ?_ (by first | omega | (simp; done) | (simp; omega)) _))).own.alloc _) (some ⟨w57.heap.size, 0, none⟩) 1 1 (valC (x0, x1, x2, x3, x4, x5)) (by first | rfl | (simp [Act.eval]; done) | (simp [Act.eval, go_sem]; done)) (Sl.addr (sl_new _ 96 6 #[.int .i64 x0, .int .u64 x1, .int .i64 x2, .int .i64 x3, .bool x4, .bool x5] 1 rfl (by decide)) (by first | rfl | (simp; done))) (by intro u hu; simp [valC] at hu; rcases hu with rfl | rfl | rfl | rfl | rfl | rfl <;> rfl) (by have := GL.out; omega) (by decide) (by simp; omega) ?_; intro v2 wn hown2 hb2 hn2)
          have HOa := (OwnR.butN HO.out (by repeat (first | with_reducible exact But.refl _ _ | with_reducible refine But.drew ?_ | with_reducible refine But.drewN ?_ _ | with_reducible refine But.alloc ?_ _ | with_reducible refine But.setCell ?_ (by first | exact Nat.le_refl _ | (dsimp only; omega)) _ | with_reducible refine But.setNew ?_ (by first | omega | (simp; done) | (simp; omega)) _))).own.alloc (.cells #[.int .i64 x0, .int .u64 x1, .int .i64 x2, .int .i64 x3, .bool x4, .bool x5] 96)
          have hwb : ¬ (Value.slice A9 out.length c9).ownBlock = some w.heap.size := fun hh => by have := (own_block HOa hh).1; omega
          go_roundg (gk - 1)
          case measure => have := HK.out; omega
          case rel =>
            have e : N - (gk - 1) = j + 1 := by have := HK.out; omega
            rw [e, GS.out]
            refine ⟨by have := HK.out; omega, num_eq (by have := HK.out; omega), Lib.hid ?_, Lib.hid ?_, ⟨?_, ?_, ?_, ?_⟩, ?_⟩
            · have hh := RRd.butT (RRd.ext (RRd.butN HRd.out (by repeat (first | with_reducible exact But.refl _ _ | with_reducible refine But.drew ?_ | with_reducible refine But.drewN ?_ _ | with_reducible refine But.alloc ?_ _ | with_reducible refine But.setCell ?_ (by first | exact Nat.le_refl _ | (dsimp only; omega)) _ | with_reducible refine But.setNew ?_ (by first | omega | (simp; done) | (simp; omega)) _))) ((Ext.refl _).alloc (.cells #[.int .i64 x0, .int .u64 x1, .int .i64 x2, .int .i64 x3, .bool x4, .bool x5] 96))) hb2 (fun j _ hj => by have := (own_block HOa hj).1; omega)
              exact hh
            · simpa [List.flatMap_append] using hown2
            · exact hb2.has hwb (((Ext.refl _).alloc (.cells #[.int .i64 x0, .int .u64 x1, .int .i64 x2, .int .i64 x3, .bool x4, .bool x5] 96)).has (by first | exact y_0 | (simp [go_sem, World.cell?_alloc_past, y_0f, y_1f, y_0, y_1, c0_0, c0_1, c0_2, c0_3, c0_4, c0_5, ne_y_c0, ne_c0_y, ry, rya, ryb, ryc, ryn, rc0, rc0a, rc0b, rc0c, rc0n]; done)))
            · exact hb2.has hwb (((Ext.refl _).alloc (.cells #[.int .i64 x0, .int .u64 x1, .int .i64 x2, .int .i64 x3, .bool x4, .bool x5] 96)).has (by first | exact y_1 | (simp [go_sem, World.cell?_alloc_past, y_0f, y_1f, y_0, y_1, c0_0, c0_1, c0_2, c0_3, c0_4, c0_5, ne_y_c0, ne_c0_y, ry, rya, ryb, ryc, ryn, rc0, rc0a, rc0b, rc0c, rc0n]; done)))
            · exact hb2.froz hwb (v := .int .i64 0) (((Ext.refl _).alloc (.cells #[.int .i64 x0, .int .u64 x1, .int .i64 x2, .int .i64 x3, .bool x4, .bool x5] 96)).has (by first | exact y_0 | (simp [go_sem, World.cell?_alloc_past, y_0f, y_1f, y_0, y_1, c0_0, c0_1, c0_2, c0_3, c0_4, c0_5, ne_y_c0, ne_c0_y, ry, rya, ryb, ryc, ryn, rc0, rc0a, rc0b, rc0c, rc0n]; done))) (((Ext.refl _).alloc (.cells #[.int .i64 x0, .int .u64 x1, .int .i64 x2, .int .i64 x3, .bool x4, .bool x5] 96)).froz (v := .int .i64 0) (by first | exact y_0 | (simp [go_sem, World.cell?_alloc_past, y_0f, y_1f, y_0, y_1, c0_0, c0_1, c0_2, c0_3, c0_4, c0_5, ne_y_c0, ne_c0_y, ry, rya, ryb, ryc, ryn, rc0, rc0a, rc0b, rc0c, rc0n]; done)) (by first | exact y_0f | (simp [go_sem, World.cell?_alloc_past, y_0f, y_1f, y_0, y_1, c0_0, c0_1, c0_2, c0_3, c0_4, c0_5, ne_y_c0, ne_c0_y, ry, rya, ryb, ryc, ryn, rc0, rc0a, rc0b, rc0c, rc0n]; done)))
            · exact hb2.froz hwb (v := .int .i64 0) (((Ext.refl _).alloc (.cells #[.int .i64 x0, .int .u64 x1, .int .i64 x2, .int .i64 x3, .bool x4, .bool x5] 96)).has (by first | exact y_1 | (simp [go_sem, World.cell?_alloc_past, y_0f, y_1f, y_0, y_1, c0_0, c0_1, c0_2, c0_3, c0_4, c0_5, ne_y_c0, ne_c0_y, ry, rya, ryb, ryc, ryn, rc0, rc0a, rc0b, rc0c, rc0n]; done))) (((Ext.refl _).alloc (.cells #[.int .i64 x0, .int .u64 x1, .int .i64 x2, .int .i64 x3, .bool x4, .bool x5] 96)).froz (v := .int .i64 0) (by first | exact y_1 | (simp [go_sem, World.cell?_alloc_past, y_0f, y_1f, y_0, y_1, c0_0, c0_1, c0_2, c0_3, c0_4, c0_5, ne_y_c0, ne_c0_y, ry, rya, ryb, ryc, ryn, rc0, rc0a, rc0b, rc0c, rc0n]; done)) (by first | exact y_1f | (simp [go_sem, World.cell?_alloc_past, y_0f, y_1f, y_0, y_1, c0_0, c0_1, c0_2, c0_3, c0_4, c0_5, ne_y_c0, ne_c0_y, ry, rya, ryb, ryc, ryn, rc0, rc0a, rc0b, rc0c, rc0n]; done)))
            · refine (fun (hxa : Ext w _) => Below.trans hxa (hb2.below hxa.size (fun k hk hh => by have := (own_block HOa hh).1; omega))) ?_
              exact Ext.alloc (by repeat (first | with_reducible exact X57.out | with_reducible refine Ext.drew ?_ | with_reducible refine Ext.drewN ?_ _ | with_reducible refine Ext.alloc ?_ _ | with_reducible refine Ext.setCell ?_ (by first | omega | (simp; done) | (simp; omega)) _)) _
        · have E50 : ¬ E5 = 0 := by rw [G5.out]; exact fltE_nz GN.out h5n
          have e57 : (E5 == 0) = false := by simpa using E50
          skip
          go_wp2_with (at_builtin; refine wpList_append_slB _ rfl _ _ 40 rfl (g + 1) 96 i0 (.agg #[.int .i64 0, .int .u64 0, .int .i64 0, .int .i64 0, .bool false, .bool false]) 6 40 Try.underlying40 hi0 hz0 hz1 hz2 rfl (by decide) (.slice A9 out.length c9) out.length _ (by rfl) ((OwnR.butN HO.out (by repeat (first | with_reducible exact But.refl _ _ | with_reducible refine But.drew ?_ | with_reducible refine But.drewN ?_ _ | with_reducible refine But.alloc ?_ _ | with_reducible refine But.setCell ?_ (by first | exact Nat.le_refl _ | (dsimp only; omega)) _ | with_reducible refine But.setNew ?_ (by first | omega | (simp; done) | (simp; omega)) _))).own.alloc _) (some ⟨w55.heap.size, 0, none⟩) 1 1 (valC (x0, x1, x2, x3, x4, x5)) (by first | rfl | (simp [Act.eval]; done) | (simp [Act.eval, go_sem]; done)) (Sl.addr (sl_new _ 96 6 #[.int .i64 x0, .int .u64 x1, .int .i64 x2, .int .i64 x3, .bool x4, .bool x5] 1 rfl (by decide)) (by first | rfl | (simp; done))) (by intro u hu; simp [valC] at hu; rcases hu with rfl | rfl | rfl | rfl | rfl | rfl <;> rfl) (by have := GL.out; omega) (by decide) (by simp; omega) ?_; intro v2 wn hown2 hb2 hn2)
          have HOa := (OwnR.butN HO.out (by repeat (first | with_reducible exact But.refl _ _ | with_reducible refine But.drew ?_ | with_reducible refine But.drewN ?_ _ | with_reducible refine But.alloc ?_ _ | with_reducible refine But.setCell ?_ (by first | exact Nat.le_refl _ | (dsimp only; omega)) _ | with_reducible refine But.setNew ?_ (by first | omega | (simp; done) | (simp; omega)) _))).own.alloc (.cells #[.int .i64 x0, .int .u64 x1, .int .i64 x2, .int .i64 x3, .bool x4, .bool x5] 96)
          have hwb : ¬ (Value.slice A9 out.length c9).ownBlock = some w.heap.size := fun hh => by have := (own_block HOa hh).1; omega
          go_roundg (gk - 1)
          case measure => have := HK.out; omega
          case rel =>
            have e : N - (gk - 1) = j + 1 := by have := HK.out; omega
            rw [e, GS.out]
            refine ⟨by have := HK.out; omega, num_eq (by have := HK.out; omega), Lib.hid ?_, Lib.hid ?_, ⟨?_, ?_, ?_, ?_⟩, ?_⟩
            · have hh := RRd.butT (RRd.ext (RRd.butN HRd.out (by repeat (first | with_reducible exact But.refl _ _ | with_reducible refine But.drew ?_ | with_reducible refine But.drewN ?_ _ | with_reducible refine But.alloc ?_ _ | with_reducible refine But.setCell ?_ (by first | exact Nat.le_refl _ | (dsimp only; omega)) _ | with_reducible refine But.setNew ?_ (by first | omega | (simp; done) | (simp; omega)) _))) ((Ext.refl _).alloc (.cells #[.int .i64 x0, .int .u64 x1, .int .i64 x2, .int .i64 x3, .bool x4, .bool x5] 96))) hb2 (fun j _ hj => by have := (own_block HOa hj).1; omega)
              exact (by have h2 : failF f5 ev (atF none k) = f5 := (by cases f5 with | none => exact absurd rfl h5n | some x => rfl); rw [h2]; exact hh)
            · simpa [List.flatMap_append] using hown2
            · exact hb2.has hwb (((Ext.refl _).alloc (.cells #[.int .i64 x0, .int .u64 x1, .int .i64 x2, .int .i64 x3, .bool x4, .bool x5] 96)).has (by first | exact y_0 | (simp [go_sem, World.cell?_alloc_past, y_0f, y_1f, y_0, y_1, c0_4f, c0_5f, c0_0, c0_1, c0_2, c0_3, c0_4, c0_5, ne_y_c0, ne_c0_y, ry, rya, ryb, ryc, ryn, rc0, rc0a, rc0b, rc0c, rc0n, gg_2]; done)))
            · exact hb2.has hwb (((Ext.refl _).alloc (.cells #[.int .i64 x0, .int .u64 x1, .int .i64 x2, .int .i64 x3, .bool x4, .bool x5] 96)).has (by first | exact y_1 | (simp [go_sem, World.cell?_alloc_past, y_0f, y_1f, y_0, y_1, c0_4f, c0_5f, c0_0, c0_1, c0_2, c0_3, c0_4, c0_5, ne_y_c0, ne_c0_y, ry, rya, ryb, ryc, ryn, rc0, rc0a, rc0b, rc0c, rc0n, gg_2]; done)))
            · exact hb2.froz hwb (v := .int .i64 0) (((Ext.refl _).alloc (.cells #[.int .i64 x0, .int .u64 x1, .int .i64 x2, .int .i64 x3, .bool x4, .bool x5] 96)).has (by first | exact y_0 | (simp [go_sem, World.cell?_alloc_past, y_0f, y_1f, y_0, y_1, c0_4f, c0_5f, c0_0, c0_1, c0_2, c0_3, c0_4, c0_5, ne_y_c0, ne_c0_y, ry, rya, ryb, ryc, ryn, rc0, rc0a, rc0b, rc0c, rc0n, gg_2]; done))) (((Ext.refl _).alloc (.cells #[.int .i64 x0, .int .u64 x1, .int .i64 x2, .int .i64 x3, .bool x4, .bool x5] 96)).froz (v := .int .i64 0) (by first | exact y_0 | (simp [go_sem, World.cell?_alloc_past, y_0f, y_1f, y_0, y_1, c0_4f, c0_5f, c0_0, c0_1, c0_2, c0_3, c0_4, c0_5, ne_y_c0, ne_c0_y, ry, rya, ryb, ryc, ryn, rc0, rc0a, rc0b, rc0c, rc0n, gg_2]; done)) (by first | exact y_0f | (simp [go_sem, World.cell?_alloc_past, y_0f, y_1f, y_0, y_1, c0_4f, c0_5f, c0_0, c0_1, c0_2, c0_3, c0_4, c0_5, ne_y_c0, ne_c0_y, ry, rya, ryb, ryc, ryn, rc0, rc0a, rc0b, rc0c, rc0n, gg_2]; done)))
            · exact hb2.froz hwb (v := .int .i64 0) (((Ext.refl _).alloc (.cells #[.int .i64 x0, .int .u64 x1, .int .i64 x2, .int .i64 x3, .bool x4, .bool x5] 96)).has (by first | exact y_1 | (simp [go_sem, World.cell?_alloc_past, y_0f, y_1f, y_0, y_1, c0_4f, c0_5f, c0_0, c0_1, c0_2, c0_3, c0_4, c0_5, ne_y_c0, ne_c0_y, ry, rya, ryb, ryc, ryn, rc0, rc0a, rc0b, rc0c, rc0n, gg_2]; done))) (((Ext.refl _).alloc (.cells #[.int .i64 x0, .int .u64 x1, .int .i64 x2, .int .i64 x3, .bool x4, .bool x5] 96)).froz (v := .int .i64 0) (by first | exact y_1 | (simp [go_sem, World.cell?_alloc_past, y_0f, y_1f, y_0, y_1, c0_4f, c0_5f, c0_0, c0_1, c0_2, c0_3, c0_4, c0_5, ne_y_c0, ne_c0_y, ry, rya, ryb, ryc, ryn, rc0, rc0a, rc0b, rc0c, rc0n, gg_2]; done)) (by first | exact y_1f | (simp [go_sem, World.cell?_alloc_past, y_0f, y_1f, y_0, y_1, c0_4f, c0_5f, c0_0, c0_1, c0_2, c0_3, c0_4, c0_5, ne_y_c0, ne_c0_y, ry, rya, ryb, ryc, ryn, rc0, rc0a, rc0b, rc0c, rc0n, gg_2]; done)))
            · refine (fun (hxa : Ext w _) => Below.trans hxa (hb2.below hxa.size (fun k hk hh => by have := (own_block HOa hh).1; omega))) ?_
              exact Ext.alloc (by repeat (first | with_reducible exact X55.out | with_reducible refine Ext.drew ?_ | with_reducible refine Ext.drewN ?_ _ | with_reducible refine Ext.alloc ?_ _ | with_reducible refine Ext.setCell ?_ (by first | omega | (simp; done) | (simp; omega)) _)) _
      · have hE00 : ¬ E0 = 0 := by rw [hE0]; exact fltE_nz hnz hfn
        have e25 : (E0 == 0) = false := by simpa using hE00
        obtain ⟨k, f, out⟩ := s
        obtain ⟨⟨e, a⟩, hea⟩ : ∃ E, E = endF f k L.length := ⟨_, rfl⟩
        have hE1 := hstop (.inr hfn)
        unfold rosEnd at hE1
        simp only at hE1 hr ho hE0 hnz
        rw [← hea] at hE1
        have hz0 : e = 0 → a = 0 := by
          intro h0
          subst h0
          unfold endF at hea
          cases f with
          | some x => simp only at hea; exact absurd (congrArg Prod.fst hea).symm (hnz x rfl)
          | none =>
            simp only at hea
            split at hea
            · injection hea with h1 h2; exact absurd h1 (by decide)
            · injection hea with h1 h2
        have HEA := Lib.hid hea
        have HZ := Lib.hid hz0
        have HE := Lib.hid hE1
        have HRd := hr
        have HO := Lib.hid (OwnR.mk ho.out)
        clear hx hj hg hz hs hjN hlen hea hz0 hE1 hE0 hnz hstop hNe hSl9 hr ho hfn hE00
        go_wp2_with fail
        (with_reducible refine (rEnd_e g k L f e a _ (HRd.out.ext (by repeat (first | with_reducible exact Ext.refl _ | with_reducible refine Ext.drew ?_ | with_reducible refine Ext.drewN ?_ _ | with_reducible refine Ext.alloc ?_ _ | with_reducible refine Ext.setCell ?_ (by first | omega | (simp; done) | (simp; omega)) _))) hL HEA.out).mono ?_)
        rintro e w41 ⟨rfl, hx41⟩
        replace y_0f : w41.frozen? ⟨w.heap.size, 0, none⟩ = false := hx41.froz (v := .int .i64 0) (by first | exact y_0 | (simp [go_sem, World.cell?_alloc_past, y_0, y_0f, y_1, y_1f]; done)) (by first | exact y_0f | (simp [go_sem, World.cell?_alloc_past, y_0, y_0f, y_1, y_1f]; done))
        replace y_1f : w41.frozen? ⟨w.heap.size, 1, none⟩ = false := hx41.froz (v := .int .i64 0) (by first | exact y_1 | (simp [go_sem, World.cell?_alloc_past, y_0, y_0f, y_1, y_1f]; done)) (by first | exact y_1f | (simp [go_sem, World.cell?_alloc_past, y_0, y_0f, y_1, y_1f]; done))
        replace y_0 : w41.cell? ⟨w.heap.size, 0, none⟩ = some (.int .i64 0) := hx41.has (by first | exact y_0 | (simp [go_sem, World.cell?_alloc_past, y_0, y_0f, y_1, y_1f]; done))
        replace y_1 : w41.cell? ⟨w.heap.size, 1, none⟩ = some (.int .i64 0) := hx41.has (by first | exact y_1 | (simp [go_sem, World.cell?_alloc_past, y_0, y_0f, y_1, y_1f]; done))
        have z41 := hx41.size
        try simp at z41
        have ry : w.heap.size < w41.heap.size := by omega
        have rya : w.heap.size < w41.heap.size + 1 := by omega
        have ryb : w.heap.size < w41.heap.size + 1 + 1 := by omega
        have ryc : w.heap.size < w41.heap.size + 1 + 1 + 1 := by omega
        have ryn : ¬ w.heap.size = w41.heap.size := by omega
        replace HRd := Lib.hid (HRd.out.ext (Ext.trans (by repeat (first | with_reducible exact Ext.refl _ | with_reducible refine Ext.drew ?_ | with_reducible refine Ext.drewN ?_ _ | with_reducible refine Ext.alloc ?_ _ | with_reducible refine Ext.setCell ?_ (by first | omega | (simp; done) | (simp; omega)) _)) hx41))
        replace HO := Lib.hid (HO.out.ext (Ext.trans (by repeat (first | with_reducible exact Ext.refl _ | with_reducible refine Ext.drew ?_ | with_reducible refine Ext.drewN ?_ _ | with_reducible refine Ext.alloc ?_ _ | with_reducible refine Ext.setCell ?_ (by first | omega | (simp; done) | (simp; omega)) _)) hx41))
        have X41 : Hid (Ext w w41) := Lib.hid (Ext.trans (by repeat (first | with_reducible exact XR.out | with_reducible refine Ext.drew ?_ | with_reducible refine Ext.drewN ?_ _ | with_reducible refine Ext.alloc ?_ _ | with_reducible refine Ext.setCell ?_ (by first | omega | (simp; done) | (simp; omega)) _)) hx41)
        clear XR hx41 z41
        by_cases he : e ≠ 0
        · have e7 : (!(e == 0 && a == 0)) = true := by simp [he]
          go_wp2_with fail
          refine wp_region_held_drew (S := fun w' => w'.cell? ⟨w41.heap.size, 0, none⟩ = some (.int .i64 e) ∧ w'.cell? ⟨w41.heap.size, 1, none⟩ = some (.int .i64 a)) (by kernel_rfl) (by first | exact ⟨c0_0, c0_1⟩ | (simp [go_sem, World.cell?_alloc_past, y_0f, y_1f, y_0, y_1, ry, rya, ryb, ryc, ryn]; done)) (fun hHeld => ?_)
          (refine' take_in 0 rfl (by kernel_rfl) (by kernel_rfl) (by kernel_rfl) (fun _ _ _ h => h) (by rfl) (by assumption) ?_ ?_; rotate_left; focus (intro w hSw; (try dsimp only at hSw); go_simp; try with_reducible rfl)); try simp only [Act.put, List.setIfInBounds_toArray, List.set_cons_zero, List.set_cons_succ]
          (refine' take_in 1 rfl (by kernel_rfl) (by kernel_rfl) (by kernel_rfl) (fun _ _ _ h => h) (by rfl) (by assumption) ?_ ?_; rotate_left; focus (intro w hSw; (try dsimp only at hSw); go_simp; try with_reducible rfl)); try simp only [Act.put, List.setIfInBounds_toArray, List.set_cons_zero, List.set_cons_succ]
          refine' next_in 2 rfl (by kernel_rfl) (by rfl) (fun K hK => ?_)
          go_simp
          refine hK.out _ _ (by (first | exact ⟨c0_0, c0_1⟩ | (simp [go_sem, World.cell?_alloc_past, y_0f, y_1f, y_0, y_1, ry, rya, ryb, ryc, ryn]; done))) (fun hHeld => ?_); clear hK K; try simp only [Act.put, List.setIfInBounds_toArray, List.set_cons_zero, List.set_cons_succ]
          refine wpAnyH_done (by kernel_rfl) ?_ _
          obtain rfl : R = ([], e, a) := HE.out.trans (if_neg he)
          go_wp2_with fail
          refine bodyPost_ret (v := .tuple #[.slice none 0 0, .agg #[.int .i64 e, .int .i64 a]]) (by simp [results, Try.results79, go_sem, World.cell?_alloc_past, y_0f, y_1f, y_0, y_1, ry, rya, ryb, ryc, ryn]; try rfl) rfl (RetV.nil (xs := [.agg #[.int .i64 e, .int .i64 a]]) ?_)
          exact (by repeat (first | with_reducible exact X41.out | with_reducible refine Ext.drew ?_ | with_reducible refine Ext.drewN ?_ _ | with_reducible refine Ext.alloc ?_ _ | with_reducible refine Ext.setCell ?_ (by first | omega | (simp; done) | (simp; omega)) _))
        · have he2 : e = 0 := by simpa using he
          have ha2 : a = 0 := HZ.out he2
          subst he2; subst ha2
          obtain rfl : R = (out, 0, 0) := HE.out.trans (if_pos rfl)
          go_wp2_with fail
          refine bodyPost_ret (v := .tuple #[.slice A9 out.length c9, .agg #[.int .i64 0, .int .i64 0]]) (by simp [results, Try.results79, go_sem, World.cell?_alloc_past, y_0f, y_1f, y_0, y_1, ry, rya, ryb, ryc, ryn]; try rfl) rfl (RetV.mk (n := out.length) (xs := [.agg #[.int .i64 0, .int .i64 0]]) ?_ (by repeat (first | with_reducible exact X41.out | with_reducible refine Ext.drew ?_ | with_reducible refine Ext.drewN ?_ _ | with_reducible refine Ext.alloc ?_ _ | with_reducible refine Ext.setCell ?_ (by first | omega | (simp; done) | (simp; omega)) _)) rfl)
          exact own_lower (own_but (S := fun j => j = w.heap.size ∨ w41.heap.size ≤ j) HO.out.own (by repeat (first | with_reducible exact But.refl _ _ | with_reducible refine But.drew ?_ | with_reducible refine But.drewN ?_ _ | with_reducible refine But.alloc ?_ _ | with_reducible refine But.setCell ?_ (by first | exact Or.inl rfl | (exact Or.inr (by (show _ ≤ _); omega))) _)) (fun j hj hh => by have h1 := own_block HO.out.own hj; rcases hh with hh | hh <;> omega)) (by omega)
end Go.Proofs.Ytjdpgapmdmpjjaa
