/- reward: the reference's Credit and Claim. Conditions stand in each lemma. -/
import Derived.Test.YtlgjdeggbcgbnaaRew5
set_option linter.unusedVariables false
set_option linter.unusedSimpArgs false
namespace Go.Proofs.Ytlgjdeggbcgbnaa
open Go.RowKit Go.Shelf

theorem OwnWord.set {w : World} {base g n d : Nat} {l : List Int} (h : OwnWord w base (.slice (some ⟨g, 0, none⟩) n d) n l) (k : Nat) (x : Int) : OwnWord (w.setCell ⟨g, k, none⟩ (.int .u64 x)) base (.slice (some ⟨g, 0, none⟩) n d) n (l.set k x) := by
  have h4 := (World.ownsRow.stored h k (.int .u64 x)).1
  have h5 : (iv .u64 l).set k (.int .u64 x) = iv .u64 (l.set k x) := by simp [iv, List.map_set]
  rw [h5] at h4
  exact h4
theorem OwnWord.blk {w : World} {base n d k : Nat} {A : Option Addr} {l : List Int} (h : OwnWord w base (.slice A n d) n l) (hk : k < n) : ∃ g u0, A = some ⟨g, 0, none⟩ ∧ base ≤ g ∧ g < w.heap.size ∧ w.cell? ⟨g, k, none⟩ = some u0 ∧ w.frozen? ⟨g, k, none⟩ = false := by
  rcases h.2 with ⟨h', h0⟩ | ⟨g, cap, cur, h', hbg, _⟩
  · exfalso
    injection h' with h1 h2 h3
    omega
  · injection h' with h1 h2 h3
    subst h1; subst h3
    have hl := (OwnWord.sl h).ilen
    have hi2 : k < (iv .u64 l).length := by rw [iv_len]; omega
    exact ⟨g, _, rfl, hbg, World.ownsRow.lt h g rfl |>.2, (World.ownsRow.cellAt h k (by omega)).trans (List.getElem?_eq_getElem hi2), World.ownsRow.frozenAt h k⟩
theorem chkR_set {l : List Int} {k : Nat} {u a : Int} (h : chkR l = 0) (hk : k < l.length) (hu : u = l.getD k 0) : chkR (l.set k (u + a)) = if 4611686018427387904 - sumL l < a then 12 else 0 := by
  obtain ⟨h1, h2, _, _⟩ := chkR_zero h
  unfold chkR totV
  rw [List.length_set, if_neg (by omega), sumL_set hk, ← hu]
  by_cases h3 : 4611686018427387904 - sumL l < a
  · rw [if_pos h3, if_neg (by omega)]
  · rw [if_neg h3, if_pos (by omega)]
set_option maxRecDepth 100000 in
set_option maxHeartbeats 2000000 in
theorem rCredit24_any (A : Option Addr) (c : Nat) (l : List Int) (i a : Int) (w : World) (h : Sl w 1 A l.length c (iv .u64 l)) (hw : ∀ x ∈ l, Word x) (ha : Word a) :
    Calls Try.prog 11 #[.slice A l.length c, .int .i64 i, .int .u64 a] w (RetWs (crdV l i a).1 [.int .i64 (crdV l i a).2] w) := by
  have hs := h.small
  unfold crdV
  obtain ⟨q, hq⟩ : ∃ q, plV l i = q := ⟨_, rfl⟩
  rcases plV_split hq with ⟨h1, h2⟩ | ⟨h1, rfl, h2⟩ | ⟨h1, rfl, h2, h3⟩ | ⟨h1, rfl, h2, h3⟩
  · have C := Lib.hid (rCheck24_ev A l.length c l q w h hw h2)
    rw [hq, if_pos (by rw [← h2]; exact h1)]
    have hd : (q != 0) = true := by rw [← h2]; simpa using h1
    clear h hw hq h2 h1
    go_enter Try.func11, Try.ntmps11
    go_wp2_with fail
    refine C.out.mono ?_
    rintro e w1 ⟨rfl, hX⟩
    go_wp2_with fail
    go_ret2
    exact RetWs.nil (xs := [.int .i64 q]) hX
  · have C := Lib.hid (rCheck24_ev A l.length c l 0 w h hw h1)
    rw [hq, if_pos (by decide)]
    clear h hw hq h1
    go_enter Try.func11, Try.ntmps11
    go_wp2_with fail
    refine C.out.mono ?_
    rintro e w1 ⟨rfl, hX⟩
    go_wp2_with fail
    go_ret2
    exact RetWs.nil (xs := [.int .i64 10]) hX
  · have C := Lib.hid (rCheck24_ev A l.length c l 0 w h hw h1)
    rw [hq, if_pos (by decide)]
    have hd : ¬ i < 0 := by omega
    clear h hw hq h1
    go_enter Try.func11, Try.ntmps11
    go_wp2_with fail
    refine C.out.mono ?_
    rintro e w1 ⟨rfl, hX⟩
    go_wp2_with fail
    go_ret2
    exact RetWs.nil (xs := [.int .i64 10]) hX
  · rw [if_neg (by simp [hq])]
    obtain ⟨h4, h5, h6, h7⟩ := chkR_zero h1
    obtain ⟨k, rfl⟩ : ∃ k : Nat, i = k := ⟨i.toNat, by omega⟩
    have hk : k < l.length := by omega
    rw [Int.toNat_natCast]
    have C := Lib.hid (rCheck24_ev A l.length c l 0 w h hw h1)
    obtain ⟨u, hu⟩ : ∃ u, u = l.getD k 0 := ⟨_, rfl⟩
    have hcs := fun a => chkR_set (a := a) h1 hk hu
    have HS := Lib.hid h
    have hum : u ∈ l := by rw [hu, List.getD_eq_getElem?_getD, List.getElem?_eq_getElem hk]; exact List.getElem_mem _
    have hu1 := hw u hum
    have hu2 := mem_le_sum hw hum
    obtain ⟨b1, o1, rfl, hb1, hc1⟩ := h.cell hk
    have x_0 := hc1 k hk
    rw [← hu] at x_0 ⊢
    obtain ⟨N, hN⟩ : ∃ N, addN u a = N := ⟨_, rfl⟩
    obtain ⟨E, hE⟩ : ∃ E, addE u a = E := ⟨_, rfl⟩
    have AD := Lib.hid (rAdd_any u a hu1 ha)
    rw [hN, hE] at AD
    have CP := Lib.hid (fun w h => kCopyWords_any (some ⟨b1, o1, none⟩) l.length c l w h (by omega))
    have hkn : (k : Int) < (l.length : Int) := by omega
    have hk0 : ¬ (k : Int) < 0 := by omega
    obtain ⟨a1, a2⟩ := ha
    have hNw : Word N := by
      rw [← hN]; unfold addN
      split
      · exact ⟨by have := hu1.1; omega, by omega⟩
      · exact ⟨by omega, by omega⟩
    have HWS := Lib.hid (word_set (k := k) hw hNw)
    have hkz : ∀ (w2 : World), w2.heap.size ≤ w2.heap.size := fun _ => Nat.le_refl _
    by_cases hov : u + a < 18446744073709551616
    · have e1 : E = 0 := by rw [← hE]; exact if_pos hov
      have e2 : N = u + a := by rw [← hN]; exact if_pos hov
      subst e1; subst e2
      have hcs2 := hcs a
      obtain ⟨q, hq2⟩ : ∃ q, chkR (l.set k (u + a)) = q := ⟨_, rfl⟩
      rw [hq2] at hcs2
      have HQ := Lib.hid hq2
      have HV := Lib.hid (show (if 4611686018427387904 - sumL l < a then (([] : List Int), (12 : Int)) else (l.set k (u + a), 0)) = if q ≠ 0 then ([], 12) else (l.set k (u + a), 0) from by rw [hcs2]; split <;> simp)
      rw [HV.out]
      clear h hw hq h1 hc1 hu hum hN hE hcs hcs2 hq2 hu1 hNw hkz h6
      have hll : (l.set k (u + a)).length = l.length := List.length_set
      by_cases hq0 : q = 0
      · subst hq0
        rw [if_neg (by simp)]
        go_enter Try.func11, Try.ntmps11
        go_wp2_with fail
        refine C.out.mono ?_
        rintro e w1 ⟨rfl, hX⟩
        have y_0 := hX.has x_0
        clear x_0
        have hz1 := hX.size
        go_wp2_with fail
        refine (AD.out w1).mono ?_
        rintro e w2 ⟨rfl, rfl⟩
        go_wp2_with fail
        refine (CP.out w1 (HS.out.ext hX)).mono ?_
        rintro e w2 ⟨B, d, rfl, hb, hO, hX2⟩
        obtain ⟨g, u0, rfl, hg, hg2, c0, f0⟩ := OwnWord.blk hO hk
        have hX3 := hX.trans hX2
        have HO := Lib.hid (OwnWord.lower (OwnWord.set hO k (u + a)) (Nat.le_trans hz1 (Nat.le_refl _)))
        have HX : Hid (Ext w (w2.setCell ⟨g, k, none⟩ (.int .u64 (u + a)))) := Lib.hid (Below.setCell (p := ⟨g, k, none⟩) hX3 (show w.heap.size ≤ g by omega) (.int .u64 (u + a)))
        have hsz := (Sl.own hO).small
        clear hO hX hX2 hX3 hb y_0
        go_wp2_with fail
        refine (rCheck24_ev _ _ _ _ 0 _ (OwnWord.sl HO.out) HWS.out HQ.out).mono ?_
        rintro e w3 ⟨rfl, hX4⟩
        have R := Lib.hid (show RetWs (l.set k (u + a)) [.int .i64 0] w (.returned (.tuple (.slice (some ⟨g, 0, none⟩) l.length d :: [.int .i64 0]).toArray)) w3 from RetWs.mk (OwnWord.ext HO.out hX4) (Ext.trans HX.out hX4) hll.symm)
        clear hX4 HO HX
        go_wp2_with fail
        go_ret2
        exact R.out
      · rw [if_pos hq0]
        have hd : (q != 0) = true := by simpa using hq0
        go_enter Try.func11, Try.ntmps11
        go_wp2_with fail
        refine C.out.mono ?_
        rintro e w1 ⟨rfl, hX⟩
        have y_0 := hX.has x_0
        clear x_0
        have hz1 := hX.size
        go_wp2_with fail
        refine (AD.out w1).mono ?_
        rintro e w2 ⟨rfl, rfl⟩
        go_wp2_with fail
        refine (CP.out w1 (HS.out.ext hX)).mono ?_
        rintro e w2 ⟨B, d, rfl, hb, hO, hX2⟩
        obtain ⟨g, u0, rfl, hg, hg2, c0, f0⟩ := OwnWord.blk hO hk
        have hX3 := hX.trans hX2
        have HO := Lib.hid (OwnWord.lower (OwnWord.set hO k (u + a)) (Nat.le_trans hz1 (Nat.le_refl _)))
        have HX : Hid (Ext w (w2.setCell ⟨g, k, none⟩ (.int .u64 (u + a)))) := Lib.hid (Below.setCell (p := ⟨g, k, none⟩) hX3 (show w.heap.size ≤ g by omega) (.int .u64 (u + a)))
        have hsz := (Sl.own hO).small
        clear hO hX hX2 hX3 hb y_0
        go_wp2_with fail
        refine (rCheck24_ev _ _ _ _ q _ (OwnWord.sl HO.out) HWS.out HQ.out).mono ?_
        rintro e w3 ⟨rfl, hX4⟩
        have R := Lib.hid (show Ext w w3 from Ext.trans HX.out hX4)
        clear hX4 HO HX
        go_wp2_with fail
        go_ret2
        exact RetWs.nil (xs := [.int .i64 12]) R.out
    · have e1 : E = 12 := by rw [← hE]; exact if_neg hov
      have e2 : N = 0 := by rw [← hN]; exact if_neg hov
      subst e1; subst e2
      rw [if_pos (by omega)]
      clear h hw hq h1 hc1 hu hum hN hE hcs hu1 hNw hkz h6
      go_enter Try.func11, Try.ntmps11
      go_wp2_with fail
      refine C.out.mono ?_
      rintro e w1 ⟨rfl, hX⟩
      have y_0 := hX.has x_0
      clear x_0
      have hz1 := hX.size
      go_wp2_with fail
      refine (AD.out w1).mono ?_
      rintro e w2 ⟨rfl, rfl⟩
      go_wp2_with fail
      refine (CP.out w1 (HS.out.ext hX)).mono ?_
      rintro e w2 ⟨B, d, rfl, hb, hO, hX2⟩
      obtain ⟨g, u0, rfl, hg, hg2, c0, f0⟩ := OwnWord.blk hO hk
      have hX3 := hX.trans hX2
      have HX : Hid (Ext w (w2.setCell ⟨g, k, none⟩ (.int .u64 0))) := Lib.hid (Below.setCell (p := ⟨g, k, none⟩) hX3 (show w.heap.size ≤ g by omega) (.int .u64 0))
      have hsz := (Sl.own hO).small
      clear hO hX hX2 hX3 hb y_0
      go_wp2_with fail
      go_ret2
      exact RetWs.nil (xs := [.int .i64 12]) HX.out
set_option maxRecDepth 100000 in
set_option maxHeartbeats 2000000 in
theorem rClaim24_any (A : Option Addr) (c : Nat) (l : List Int) (i : Int) (w : World) (h : Sl w 1 A l.length c (iv .u64 l)) (hw : ∀ x ∈ l, Word x) :
    Calls Try.prog 15 #[.slice A l.length c, .int .i64 i] w (RetWs (clmV l i).1 [.int .u64 (clmV l i).2.1, .int .i64 (clmV l i).2.2] w) := by
  have hs := h.small
  unfold clmV
  obtain ⟨q, hq⟩ : ∃ q, plV l i = q := ⟨_, rfl⟩
  rcases plV_split hq with ⟨h1, h2⟩ | ⟨h1, rfl, h2⟩ | ⟨h1, rfl, h2, h3⟩ | ⟨h1, rfl, h2, h3⟩
  · have C := Lib.hid (rCheck24_ev A l.length c l q w h hw h2)
    rw [hq, if_pos (by rw [← h2]; exact h1)]
    have hd : (q != 0) = true := by rw [← h2]; simpa using h1
    clear h hw hq h2 h1
    go_enter Try.func15, Try.ntmps15
    go_wp2_with fail
    refine C.out.mono ?_
    rintro e w1 ⟨rfl, hX⟩
    go_wp2_with fail
    refine bodyPost_ret (v := .tuple #[.slice none 0 0, .int .u64 0, .int .i64 q]) (by simp [results, Try.results15]; try rfl) rfl ?_
    exact RetWs.nil (xs := [.int .u64 0, .int .i64 q]) hX
  · have C := Lib.hid (rCheck24_ev A l.length c l 0 w h hw h1)
    rw [hq, if_pos (by decide)]
    clear h hw hq h1
    go_enter Try.func15, Try.ntmps15
    go_wp2_with fail
    refine C.out.mono ?_
    rintro e w1 ⟨rfl, hX⟩
    go_wp2_with fail
    refine bodyPost_ret (v := .tuple #[.slice none 0 0, .int .u64 0, .int .i64 10]) (by simp [results, Try.results15]; try rfl) rfl ?_
    exact RetWs.nil (xs := [.int .u64 0, .int .i64 10]) hX
  · have C := Lib.hid (rCheck24_ev A l.length c l 0 w h hw h1)
    rw [hq, if_pos (by decide)]
    have hd : ¬ i < 0 := by omega
    clear h hw hq h1
    go_enter Try.func15, Try.ntmps15
    go_wp2_with fail
    refine C.out.mono ?_
    rintro e w1 ⟨rfl, hX⟩
    go_wp2_with fail
    refine bodyPost_ret (v := .tuple #[.slice none 0 0, .int .u64 0, .int .i64 10]) (by simp [results, Try.results15]; try rfl) rfl ?_
    exact RetWs.nil (xs := [.int .u64 0, .int .i64 10]) hX
  · rw [if_neg (by simp [hq])]
    obtain ⟨h4, h5, h6, h7⟩ := chkR_zero h1
    obtain ⟨k, rfl⟩ : ∃ k : Nat, i = k := ⟨i.toNat, by omega⟩
    have hk : k < l.length := by omega
    rw [Int.toNat_natCast]
    have C := Lib.hid (rCheck24_ev A l.length c l 0 w h hw h1)
    obtain ⟨u, hu⟩ : ∃ u, u = l.getD k 0 := ⟨_, rfl⟩
    have HS := Lib.hid h
    obtain ⟨b1, o1, rfl, hb1, hc1⟩ := h.cell hk
    have x_0 := hc1 k hk
    rw [← hu] at x_0 ⊢
    have CP := Lib.hid (fun w h => kCopyWords_any (some ⟨b1, o1, none⟩) l.length c l w h (by omega))
    have hkn : (k : Int) < (l.length : Int) := by omega
    have hk0 : ¬ (k : Int) < 0 := by omega
    clear h hw hq h1 hc1 hu h6
    by_cases hz : u = 0
    · subst hz
      rw [if_pos rfl]
      go_enter Try.func15, Try.ntmps15
      go_wp2_with fail
      refine C.out.mono ?_
      rintro e w1 ⟨rfl, hX⟩
      have y_0 := hX.has x_0
      clear x_0
      go_wp2_with fail
      refine bodyPost_ret (v := .tuple #[.slice none 0 0, .int .u64 0, .int .i64 13]) (by simp [results, Try.results15]; try rfl) rfl ?_
      exact RetWs.nil (xs := [.int .u64 0, .int .i64 13]) hX
    · rw [if_neg hz]
      have e7 : (u == 0) = false := by simpa using hz
      have hll : (l.set k 0).length = l.length := List.length_set
      go_enter Try.func15, Try.ntmps15
      go_wp2_with fail
      refine C.out.mono ?_
      rintro e w1 ⟨rfl, hX⟩
      have y_0 := hX.has x_0
      clear x_0
      have hz1 := hX.size
      go_wp2_with fail
      refine (CP.out w1 (HS.out.ext hX)).mono ?_
      rintro e w2 ⟨B, d, rfl, hb, hO, hX2⟩
      obtain ⟨g, u0, rfl, hg, hg2, c0, f0⟩ := OwnWord.blk hO hk
      have x_0 := hX2.has y_0
      have hX3 := hX.trans hX2
      have hbw := hX.size
      have hne : ¬ b1 = g := by omega
      have HO := Lib.hid (OwnWord.lower (OwnWord.set hO k 0) (Nat.le_trans hz1 (Nat.le_refl _)))
      have HX : Hid (Ext w (w2.setCell ⟨g, k, none⟩ (.int .u64 0))) := Lib.hid (Below.setCell (p := ⟨g, k, none⟩) hX3 (show w.heap.size ≤ g by omega) (.int .u64 0))
      have hsz := (Sl.own hO).small
      have R := Lib.hid (show ∀ W, Ext (w2.setCell ⟨g, k, none⟩ (.int .u64 0)) W → RetWs (l.set k 0) [.int .u64 u, .int .i64 0] w (.returned (.tuple (.slice (some ⟨g, 0, none⟩) l.length d :: [.int .u64 u, .int .i64 0]).toArray)) W from fun W hW => RetWs.mk (OwnWord.ext HO.out hW) (Ext.trans HX.out hW) hll.symm)
      clear hO hX hX2 hX3 hb y_0 HO HX
      go_wp2_with fail
      go_region
      all_goals go_wp2_with fail
      all_goals (refine bodyPost_ret (v := .tuple #[.slice (some ⟨g, 0, none⟩) l.length d, .int .u64 u, .int .i64 0]) (by simp [results, Try.results15]; try rfl) rfl ?_)
      all_goals exact R.out _ (Below.drew (Ext.refl _))
end Go.Proofs.Ytlgjdeggbcgbnaa
