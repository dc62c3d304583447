/- reward: what bytes are read as; Read, on both sides. Conditions stand in each lemma. -/
import Derived.Test.YtlgjdeggbcgbnaaRew8
import Derived.Test.YtlgjdeggbcgbnaaRdK
import Derived.Test.YtlgjdeggbcgbnaaKitC
import Derived.Test.YtlgjdeggbcgbnaaRefN
set_option linter.unusedVariables false
set_option linter.unusedSimpArgs false
namespace Go.Proofs.Ytlgjdeggbcgbnaa
open Go.RowKit Go.ChangeShapes Go.WideShapes Go.Deep

theorem ruF_some (L : List Nat) (k : Nat) (x : Int × Int) : ruF L k (some x) = some x := by unfold ruF; rw [if_neg (by simp)]
theorem ruF_none {L : List Nat} {k : Nat} {f : Option (Int × Int)} (h : ruF L k f = none) : f = none := by
  cases f with
  | none => rfl
  | some x => rw [ruF_some] at h; cases h
theorem ru_nz {L : List Nat} {k : Nat} {f : Option (Int × Int)} (h : FltNz f) : FltNz (ruF L k f) := by
  unfold ruF
  split
  · exact FltNz.none.fail _ _
  · exact h
/-- one number is read -/
def crRd1 (L : List Nat) (s : (Nat × Option (Int × Int) × List Int)) : (Nat × Option (Int × Int) × List Int) := (ruK L s.1 s.2.1, ruF L s.1 s.2.1, s.2.2 ++ [ruV L s.1 s.2.1])
def crRd (L : List Nat) (s : (Nat × Option (Int × Int) × List Int)) : Nat → (Nat × Option (Int × Int) × List Int)
  | 0 => s
  | j + 1 => crRd1 L (crRd L s j)
theorem crRd_len (L : List Nat) (s : (Nat × Option (Int × Int) × List Int)) : ∀ j, (crRd L s j).2.2.length = s.2.2.length + j
  | 0 => rfl
  | j + 1 => by rw [crRd, crRd1]; simp only [List.length_append, crRd_len L s j, List.length_singleton]; omega
/-- the state behind the count -/
def crS0 (L : List Nat) : (Nat × Option (Int × Int) × List Int) := (rnK L 0 none 1 64, rnF L 0 none 1 64, [])
def crEnd (L : List Nat) (s : (Nat × Option (Int × Int) × List Int)) : List Int × Int × Int := if (endF s.2.1 s.1 L.length).1 ≠ 0 then ([], endF s.2.1 s.1 L.length) else if (totV s.2.2).2 ≠ 0 then ([], 12, 0) else (s.2.2, 0, 0)
def crRV (L : List Nat) : List Int × Int × Int := crEnd L (crRd L (crS0 L) (rnV L 0 none 1 64).toNat)
theorem crRd_nz {L : List Nat} {s : (Nat × Option (Int × Int) × List Int)} (h : FltNz s.2.1) : ∀ j, FltNz (crRd L s j).2.1
  | 0 => h
  | j + 1 => ru_nz (crRd_nz h j)
theorem crRd_none {L : List Nat} {s : (Nat × Option (Int × Int) × List Int)} : ∀ j, (crRd L s j).2.1 = none → s.2.1 = none
  | 0, h => h
  | j + 1, h => crRd_none j (ruF_none h)
theorem crS0_nz (L : List Nat) : FltNz (crS0 L).2.1 := FltNz.none.rn L 0 1 64
theorem rn_one {L : List Nat} (h : (crS0 L).2.1 = none) : 1 ≤ rnV L 0 none 1 64 := by
  have h1 : failF none (rnE L 0 1 64) (0 : Nat) = none := by
    have h2 : rnF L 0 none 1 64 = none := h
    unfold rnF at h2
    rwa [if_pos rfl] at h2
  have h2 := (failF_none h1).2
  unfold rnV
  rw [if_pos ⟨rfl, h2⟩]
  unfold rnE bndE at h2
  split at h2
  · split at h2
    · omega
    · omega
  · contradiction
/-- where reading ends without a fault -/
theorem end_zero {f : Option (Int × Int)} {k n : Nat} {e a : Int} (hz : FltNz f) (h : (e, a) = endF f k n) (he : e = 0) : a = 0 ∧ f = none := by
  unfold endF at h
  cases f with
  | some x => simp only at h; exact absurd ((congrArg Prod.fst h).symm.trans he) (hz x rfl)
  | none =>
    simp only at h
    split at h
    · injection h with h1 h2; omega
    · injection h with h1 h2; exact ⟨h2, rfl⟩
theorem ru_word (L : List Nat) (k : Nat) (f : Option (Int × Int)) : Word (ruV L k f) := by
  unfold ruV
  split
  · have hn := numGo_lt (L.drop k) 0 0 (by decide) (by decide)
    exact ⟨by omega, by omega⟩
  · exact ⟨by omega, by omega⟩
theorem crRd_word {L : List Nat} {s : (Nat × Option (Int × Int) × List Int)} (h : ∀ x ∈ s.2.2, Word x) : ∀ j, ∀ x ∈ (crRd L s j).2.2, Word x
  | 0 => h
  | j + 1 => by
    intro x hx
    have hx2 : x ∈ (crRd L s j).2.2 ++ [ruV L (crRd L s j).1 (crRd L s j).2.1] := hx
    rcases List.mem_append.1 hx2 with h1 | h1
    · exact crRd_word h j x h1
    · rw [List.mem_singleton.1 h1]; exact ru_word _ _ _
theorem totV_err {l : List Int} (h : (totV l).2 ≠ 0) : (totV l).2 = 12 := by
  unfold totV at h ⊢
  split
  · rename_i h1; rw [if_pos h1] at h; exact absurd rfl h
  · rfl
theorem cEnd_h (g k : Nat) (L : List Nat) (flt : Option (Int × Int)) (e a : Int) (w : World) (h : Rd w g L k flt) (hL : L.length < 1099511627776) (he : (e, a) = endF flt k L.length) :
    Calls Try.prog 54 #[.pointer (some ⟨g, 0, none⟩)] w fun r w' => r = .returned (.agg #[.int .i64 e, .int .i64 a]) ∧ Ext w w' := by
  have h := cEnd_any g k L flt w h hL
  rw [← he] at h
  exact h
theorem rEnd_h (g k : Nat) (L : List Nat) (flt : Option (Int × Int)) (e a : Int) (w : World) (h : RRd w g L k flt) (hL : L.length < 1099511627776) (he : (e, a) = endF flt k L.length) :
    Calls Try.prog 58 #[.pointer (some ⟨g, 0, none⟩)] w fun r w' => r = .returned (.agg #[.int .i64 e, .int .i64 a]) ∧ Ext w w' := by
  have h := rEnd_any g k L flt w h hL
  rw [← he] at h
  exact h
theorem rewTot_e (A : Option Addr) (n c : Nat) (l : List Int) (t e : Int) (w : World) (h : Sl w 1 A n c (iv .u64 l)) (hw : ∀ x ∈ l, Word x) (ht : (t, e) = totV l) :
    Calls Try.prog 40 #[.slice A n c] w fun r w' => r = .returned (.tuple #[.int .u64 t, .int .i64 e]) ∧ Ext w w' := by
  have := rewTot_any A n c l w h hw
  rwa [← ht] at this
set_option maxRecDepth 100000 in
set_option maxHeartbeats 4000000 in
theorem rewRead_any (A : Option Addr) (c : Nat) (L : List Nat) (hB : Byt L) (hL : L.length < 1099511627776) (hnil : A = none → c = 0) (w : World) (hs : Sl w 1 A L.length c (by_ L)) :
    Calls Try.prog 29 #[.slice A L.length c] w (RetWs (crRV L).1 [.agg #[.int .i64 (crRV L).2.1, .int .i64 (crRV L).2.2]] w) := by
  have s1 := hs.small
  obtain ⟨R, hR⟩ : ∃ R, R = crRV L := ⟨_, rfl⟩
  rw [← hR]
  have HR0 := Lib.hid hR
  obtain ⟨nn, hnn⟩ : ∃ v, v = rnV L 0 none 1 64 := ⟨_, rfl⟩
  obtain ⟨hn0, hn1⟩ : 0 ≤ nn ∧ nn ≤ 64 := by rw [hnn]; exact rnV_in L 0 none 1 64 (by decide)
  obtain ⟨N, rfl⟩ : ∃ N : Nat, nn = (N : Int) := ⟨nn.toNat, by omega⟩
  have HNN := Lib.hid hnn
  have HBy := Lib.hid hB
  have HS := Lib.hid hs
  obtain ⟨i0, hi0, hz0, hz1, hz2⟩ := info_parts infoWord
  clear hs hR hnn hB
  go_enter Try.func29, Try.ntmps29
  go_wp2_with fail
  (with_reducible refine (cNewReader_any A c L HBy.out _ (HS.out.ext (by repeat (first | with_reducible exact Ext.refl _ | with_reducible refine Ext.drew ?_ | with_reducible refine Ext.drewN ?_ _ | with_reducible refine Ext.alloc ?_ _ | with_reducible refine Ext.setCell ?_ (by first | omega | (simp; done) | (simp; omega)) _))) hL hnil).mono ?_)
  rintro e w1 ⟨g, rfl, hg, hRd, hx1⟩
  have c0_0f : w1.frozen? ⟨w.heap.size, 0, none⟩ = false := hx1.froz (v := .int .i64 0) (by first | fail | (simp [go_sem, World.cell?_alloc_past]; done)) (by first | fail | (simp [go_sem, World.cell?_alloc_past]; done))
  have c0_1f : w1.frozen? ⟨w.heap.size, 1, none⟩ = false := hx1.froz (v := .int .i64 0) (by first | fail | (simp [go_sem, World.cell?_alloc_past]; done)) (by first | fail | (simp [go_sem, World.cell?_alloc_past]; done))
  have c0_0 : w1.cell? ⟨w.heap.size, 0, none⟩ = some (.int .i64 0) := hx1.has (by first | fail | (simp [go_sem, World.cell?_alloc_past]; done))
  have c0_1 : w1.cell? ⟨w.heap.size, 1, none⟩ = some (.int .i64 0) := hx1.has (by first | fail | (simp [go_sem, World.cell?_alloc_past]; done))
  have z1 := hx1.size
  try simp at z1
  have rc0 : w.heap.size < w1.heap.size := by omega
  have rc0a : w.heap.size < w1.heap.size + 1 := by omega
  have rc0b : w.heap.size < w1.heap.size + 1 + 1 := by omega
  have rc0c : w.heap.size < w1.heap.size + 1 + 1 + 1 := by omega
  have rc0n : ¬ w.heap.size = w1.heap.size := by omega
  have X1 : Hid (Ext w w1) := Lib.hid (Ext.trans (by repeat (first | with_reducible exact Ext.refl w | with_reducible refine Ext.drew ?_ | with_reducible refine Ext.drewN ?_ _ | with_reducible refine Ext.alloc ?_ _ | with_reducible refine Ext.setCell ?_ (by first | omega | (simp; done) | (simp; omega)) _)) hx1)
  have HR := Lib.hid hRd
  clear HS hx1 z1 hRd
  have hgw : w.heap.size < g := by (try simp at hg); omega
  have hgl := HR.out.lt
  go_wp2_with fail
  (with_reducible refine (cRN_e g 0 (crS0 L).1 L none (crS0 L).2.1 1 64 (N : Int) (by decide) (by decide) (by decide) (by decide) hL HNN.out rfl rfl _ (HR.out.ext (by repeat (first | with_reducible exact Ext.refl _ | with_reducible refine Ext.drew ?_ | with_reducible refine Ext.drewN ?_ _ | with_reducible refine Ext.alloc ?_ _ | with_reducible refine Ext.setCell ?_ (by first | omega | (simp; done) | (simp; omega)) _)))).mono ?_)
  rintro e w2 ⟨rfl, hRd, hx2⟩
  have hsz2 := hx2.size
  try simp at hsz2
  replace c0_0f : w2.frozen? ⟨w.heap.size, 0, none⟩ = false := hx2.froz (by show ¬ _ = _; first | assumption | omega) (v := .int .i64 0) (by first | exact c0_0 | (simp [go_sem, World.cell?_alloc_past, c0_0f, c0_1f, c0_0, c0_1, rc0, rc0a, rc0b, rc0c, rc0n]; done)) (by first | exact c0_0f | (simp [go_sem, World.cell?_alloc_past, c0_0f, c0_1f, c0_0, c0_1, rc0, rc0a, rc0b, rc0c, rc0n]; done))
  replace c0_1f : w2.frozen? ⟨w.heap.size, 1, none⟩ = false := hx2.froz (by show ¬ _ = _; first | assumption | omega) (v := .int .i64 0) (by first | exact c0_1 | (simp [go_sem, World.cell?_alloc_past, c0_0f, c0_1f, c0_0, c0_1, rc0, rc0a, rc0b, rc0c, rc0n]; done)) (by first | exact c0_1f | (simp [go_sem, World.cell?_alloc_past, c0_0f, c0_1f, c0_0, c0_1, rc0, rc0a, rc0b, rc0c, rc0n]; done))
  replace c0_0 : w2.cell? ⟨w.heap.size, 0, none⟩ = some (.int .i64 0) := hx2.has (by show ¬ _ = _; first | assumption | omega) (by first | exact c0_0 | (simp [go_sem, World.cell?_alloc_past, c0_0f, c0_1f, c0_0, c0_1, rc0, rc0a, rc0b, rc0c, rc0n]; done))
  replace c0_1 : w2.cell? ⟨w.heap.size, 1, none⟩ = some (.int .i64 0) := hx2.has (by show ¬ _ = _; first | assumption | omega) (by first | exact c0_1 | (simp [go_sem, World.cell?_alloc_past, c0_0f, c0_1f, c0_0, c0_1, rc0, rc0a, rc0b, rc0c, rc0n]; done))
  have z2 := hx2.size
  try simp at z2
  replace rc0 : w.heap.size < w2.heap.size := by omega
  replace rc0a : w.heap.size < w2.heap.size + 1 := by omega
  replace rc0b : w.heap.size < w2.heap.size + 1 + 1 := by omega
  replace rc0c : w.heap.size < w2.heap.size + 1 + 1 + 1 := by omega
  replace rc0n : ¬ w.heap.size = w2.heap.size := by omega
  have X2 : Hid (Ext w w2) := Lib.hid (have hX := (show Ext w _ from (by repeat (first | with_reducible exact X1.out | with_reducible refine Ext.drew ?_ | with_reducible refine Ext.drewN ?_ _ | with_reducible refine Ext.alloc ?_ _ | with_reducible refine Ext.setCell ?_ (by first | omega | (simp; done) | (simp; omega)) _))); Below.trans hX (hx2.below (Ext.size hX) (fun k hk hh => by have hh2 : k = g := hh; omega)))
  clear HR
  have HR := Lib.hid hRd
  clear hsz2 X1 hx2 z2 hRd
  have hgl2 := HR.out.lt
  go_wp2_with fail
  go_loopg [5, 11] N (fun gh q i wx => gh ≤ N ∧ i = .int .i64 ((N - gh : Nat) : Int) ∧ Hid (Rd wx g L (crRd L (crS0 L) (N - gh)).1 (crRd L (crS0 L) (N - gh)).2.1) ∧ Hid (wx.ownsRow (g + 1) 23 1 q (crRd L (crS0 L) (N - gh)).2.2.length (iv .u64 (crRd L (crS0 L) (N - gh)).2.2)) ∧ (wx.cell? ⟨w.heap.size, 0, none⟩ = some (.int .i64 0) ∧ wx.cell? ⟨w.heap.size, 1, none⟩ = some (.int .i64 0) ∧ wx.frozen? ⟨w.heap.size, 0, none⟩ = false ∧ wx.frozen? ⟨w.heap.size, 1, none⟩ = false) ∧ Ext w wx)
  case atStart => exact ⟨Nat.le_refl _, by simp, by rw [Nat.sub_self]; exact HR, by rw [Nat.sub_self]; exact Lib.hid (World.ownsRow_nil _ _ _ _), ⟨c0_0, c0_1, c0_0f, c0_1f⟩, X2.out⟩
  case round =>
    obtain ⟨hg, hi, hr, ho, ⟨y_0, y_1, y_0f, y_1f⟩, hx⟩ := hrel
    obtain ⟨j, hj⟩ : ∃ j, j = N - gk := ⟨_, rfl⟩
    rw [← hj] at hi hr ho
    subst hi
    have XR := Lib.hid hx
    have hyr : w.heap.size < wr.heap.size := cell_lt y_0
    have hgr : g < wr.heap.size := hr.out.lt
    obtain ⟨s, hs⟩ : ∃ s, s = crRd L (crS0 L) j := ⟨_, rfl⟩
    rw [← hs] at hr ho
    have hlen : s.2.2.length = j := by rw [hs, crRd_len]; simp [crS0]
    have hwd : ∀ x ∈ s.2.2, Word x := by rw [hs]; exact crRd_word (by intro x hx; simp [crS0] at hx) j
    by_cases hz : gk = 0
    · have hkn : ¬ (j : Int) < N := by omega
      have hjn : j = N := by omega
      have hE0 : R = crEnd L s := by rw [HR0.out, hs, hjn]; unfold crRV; rw [← HNN.out, show ((N : Int)).toNat = N from by simp]
      have hnz : FltNz s.2.1 := by rw [hs]; exact crRd_nz (crS0_nz L) j
      have hn1 : s.2.1 = none → 1 ≤ N := fun h => by have := rn_one (crRd_none j (by rw [← hs]; exact h)); have := HNN.out; omega
      obtain ⟨k, f, out⟩ := s
      obtain ⟨⟨e, a⟩, hea⟩ : ∃ E, E = endF f k L.length := ⟨_, rfl⟩
      obtain ⟨⟨t, te⟩, htt⟩ : ∃ E, E = totV out := ⟨_, rfl⟩
      unfold crEnd at hE0
      simp only at hE0 hr ho hlen hwd hnz hn1
      rw [← hea, ← htt] at hE0
      have hez : e = 0 → a = 0 ∧ 1 ≤ N := fun he => by have h := end_zero hnz hea he; exact ⟨h.1, hn1 h.2⟩
      have hte : te ≠ 0 → te = 12 := fun h => by have h2 := totV_err (l := out) (by rw [← htt]; exact h); rw [← htt] at h2; exact h2
      have hch : 1 ≤ N → chkR out = te := fun h => by unfold chkR; rw [if_neg (by omega), ← htt]
      have HCH := Lib.hid hch
      have HEA := Lib.hid hea
      have HTT := Lib.hid htt
      have HEZ := Lib.hid hez
      have HTE := Lib.hid hte
      have HE := Lib.hid hE0
      have HWD := Lib.hid hwd
      have HRd := hr
      obtain ⟨A9, c9, rfl, hA9, hSl9⟩ := own_parts2 ho.out
      have HSl := Lib.hid hSl9
      have HO := Lib.hid (OwnR.mk ho.out)
      clear hx hj hg hz hs hjn hlen hea hE0 hr ho hwd hnz hn1 hez hte htt hch hSl9
      go_wp2_with fail
      (with_reducible refine (cEnd_h g k L f e a _ (HRd.out.ext (by repeat (first | with_reducible exact Ext.refl _ | with_reducible refine Ext.drew ?_ | with_reducible refine Ext.drewN ?_ _ | with_reducible refine Ext.alloc ?_ _ | with_reducible refine Ext.setCell ?_ (by first | omega | (simp; done) | (simp; omega)) _))) hL HEA.out).mono ?_)
      rintro e w41 ⟨rfl, hx41⟩
      replace y_0f : w41.frozen? ⟨w.heap.size, 0, none⟩ = false := hx41.froz (v := .int .i64 0) (by first | exact y_0 | (simp [go_sem, World.cell?_alloc_past, y_0, y_0f, y_1, y_1f]; done)) (by first | exact y_0f | (simp [go_sem, World.cell?_alloc_past, y_0, y_0f, y_1, y_1f]; done))
      replace y_1f : w41.frozen? ⟨w.heap.size, 1, none⟩ = false := hx41.froz (v := .int .i64 0) (by first | exact y_1 | (simp [go_sem, World.cell?_alloc_past, y_0, y_0f, y_1, y_1f]; done)) (by first | exact y_1f | (simp [go_sem, World.cell?_alloc_past, y_0, y_0f, y_1, y_1f]; done))
      replace y_0 : w41.cell? ⟨w.heap.size, 0, none⟩ = some (.int .i64 0) := hx41.has (by first | exact y_0 | (simp [go_sem, World.cell?_alloc_past, y_0, y_0f, y_1, y_1f]; done))
      replace y_1 : w41.cell? ⟨w.heap.size, 1, none⟩ = some (.int .i64 0) := hx41.has (by first | exact y_1 | (simp [go_sem, World.cell?_alloc_past, y_0, y_0f, y_1, y_1f]; done))
      have z41 := hx41.size
      try simp at z41
      have ry : w.heap.size < w41.heap.size := by omega
      have rya : w.heap.size < w41.heap.size + 1 := by omega
      have ryb : w.heap.size < w41.heap.size + 1 + 1 := by omega
      have ryc : w.heap.size < w41.heap.size + 1 + 1 + 1 := by omega
      have ryn : ¬ w.heap.size = w41.heap.size := by omega
      replace HRd := Lib.hid (HRd.out.ext (Ext.trans (by repeat (first | with_reducible exact Ext.refl _ | with_reducible refine Ext.drew ?_ | with_reducible refine Ext.drewN ?_ _ | with_reducible refine Ext.alloc ?_ _ | with_reducible refine Ext.setCell ?_ (by first | omega | (simp; done) | (simp; omega)) _)) hx41))
      replace HO := Lib.hid (HO.out.ext (Ext.trans (by repeat (first | with_reducible exact Ext.refl _ | with_reducible refine Ext.drew ?_ | with_reducible refine Ext.drewN ?_ _ | with_reducible refine Ext.alloc ?_ _ | with_reducible refine Ext.setCell ?_ (by first | omega | (simp; done) | (simp; omega)) _)) hx41))
      replace HSl := Lib.hid (HSl.out.ext (Ext.trans (by repeat (first | with_reducible exact Ext.refl _ | with_reducible refine Ext.drew ?_ | with_reducible refine Ext.drewN ?_ _ | with_reducible refine Ext.alloc ?_ _ | with_reducible refine Ext.setCell ?_ (by first | omega | (simp; done) | (simp; omega)) _)) hx41))
      have X41 : Hid (Ext w w41) := Lib.hid (Ext.trans (by repeat (first | with_reducible exact XR.out | with_reducible refine Ext.drew ?_ | with_reducible refine Ext.drewN ?_ _ | with_reducible refine Ext.alloc ?_ _ | with_reducible refine Ext.setCell ?_ (by first | omega | (simp; done) | (simp; omega)) _)) hx41)
      clear XR hx41
      by_cases he : ¬ e ≠ 0
      · have he9 : e = 0 := by simpa using he
        have e7 : (e == 0) = true := by simpa using he9
        have ha2 : a = 0 := (HEZ.out he9).1
        subst he9; subst ha2
        clear e7
        go_wp2_with fail
        (with_reducible refine (rewTot_e A9 out.length c9 out t te _ (HSl.out.ext (by repeat (first | with_reducible exact Ext.refl _ | with_reducible refine Ext.drew ?_ | with_reducible refine Ext.drewN ?_ _ | with_reducible refine Ext.alloc ?_ _ | with_reducible refine Ext.setCell ?_ (by first | omega | (simp; done) | (simp; omega)) _))) HWD.out HTT.out).mono ?_)
        rintro e w42 ⟨rfl, hx42⟩
        replace y_0f : w42.frozen? ⟨w.heap.size, 0, none⟩ = false := hx42.froz (v := .int .i64 0) (by first | exact y_0 | (simp [go_sem, World.cell?_alloc_past, y_0f, y_1f, y_0, y_1, ry, rya, ryb, ryc, ryn]; done)) (by first | exact y_0f | (simp [go_sem, World.cell?_alloc_past, y_0f, y_1f, y_0, y_1, ry, rya, ryb, ryc, ryn]; done))
        replace y_1f : w42.frozen? ⟨w.heap.size, 1, none⟩ = false := hx42.froz (v := .int .i64 0) (by first | exact y_1 | (simp [go_sem, World.cell?_alloc_past, y_0f, y_1f, y_0, y_1, ry, rya, ryb, ryc, ryn]; done)) (by first | exact y_1f | (simp [go_sem, World.cell?_alloc_past, y_0f, y_1f, y_0, y_1, ry, rya, ryb, ryc, ryn]; done))
        replace y_0 : w42.cell? ⟨w.heap.size, 0, none⟩ = some (.int .i64 0) := hx42.has (by first | exact y_0 | (simp [go_sem, World.cell?_alloc_past, y_0f, y_1f, y_0, y_1, ry, rya, ryb, ryc, ryn]; done))
        replace y_1 : w42.cell? ⟨w.heap.size, 1, none⟩ = some (.int .i64 0) := hx42.has (by first | exact y_1 | (simp [go_sem, World.cell?_alloc_past, y_0f, y_1f, y_0, y_1, ry, rya, ryb, ryc, ryn]; done))
        have c0_0f : w42.frozen? ⟨w41.heap.size, 0, none⟩ = false := hx42.froz (v := .int .i64 0) (by first | fail | (simp [go_sem, World.cell?_alloc_past, y_0f, y_1f, y_0, y_1, ry, rya, ryb, ryc, ryn]; done)) (by first | fail | (simp [go_sem, World.cell?_alloc_past, y_0f, y_1f, y_0, y_1, ry, rya, ryb, ryc, ryn]; done))
        have c0_0 : w42.cell? ⟨w41.heap.size, 0, none⟩ = some (.int .i64 0) := hx42.has (by first | fail | (simp [go_sem, World.cell?_alloc_past, y_0f, y_1f, y_0, y_1, ry, rya, ryb, ryc, ryn]; done))
        have c0_1 : w42.cell? ⟨w41.heap.size, 1, none⟩ = some (.int .i64 0) := hx42.has (by first | fail | (simp [go_sem, World.cell?_alloc_past, y_0f, y_1f, y_0, y_1, ry, rya, ryb, ryc, ryn]; done))
        have z42 := hx42.size
        try simp at z42
        have lt_y_c0 : w.heap.size < w41.heap.size := by omega
        have ne_y_c0 : ¬ w.heap.size = w41.heap.size := by omega
        have ne_c0_y : ¬ w41.heap.size = w.heap.size := by omega
        replace ry : w.heap.size < w42.heap.size := by omega
        replace rya : w.heap.size < w42.heap.size + 1 := by omega
        replace ryb : w.heap.size < w42.heap.size + 1 + 1 := by omega
        replace ryc : w.heap.size < w42.heap.size + 1 + 1 + 1 := by omega
        replace ryn : ¬ w.heap.size = w42.heap.size := by omega
        have rc0 : w41.heap.size < w42.heap.size := by omega
        have rc0a : w41.heap.size < w42.heap.size + 1 := by omega
        have rc0b : w41.heap.size < w42.heap.size + 1 + 1 := by omega
        have rc0c : w41.heap.size < w42.heap.size + 1 + 1 + 1 := by omega
        have rc0n : ¬ w41.heap.size = w42.heap.size := by omega
        replace HRd := Lib.hid (HRd.out.ext (Ext.trans (by repeat (first | with_reducible exact Ext.refl _ | with_reducible refine Ext.drew ?_ | with_reducible refine Ext.drewN ?_ _ | with_reducible refine Ext.alloc ?_ _ | with_reducible refine Ext.setCell ?_ (by first | omega | (simp; done) | (simp; omega)) _)) hx42))
        replace HO := Lib.hid (HO.out.ext (Ext.trans (by repeat (first | with_reducible exact Ext.refl _ | with_reducible refine Ext.drew ?_ | with_reducible refine Ext.drewN ?_ _ | with_reducible refine Ext.alloc ?_ _ | with_reducible refine Ext.setCell ?_ (by first | omega | (simp; done) | (simp; omega)) _)) hx42))
        replace HSl := Lib.hid (HSl.out.ext (Ext.trans (by repeat (first | with_reducible exact Ext.refl _ | with_reducible refine Ext.drew ?_ | with_reducible refine Ext.drewN ?_ _ | with_reducible refine Ext.alloc ?_ _ | with_reducible refine Ext.setCell ?_ (by first | omega | (simp; done) | (simp; omega)) _)) hx42))
        have X42 : Hid (Ext w w42) := Lib.hid (Ext.trans (by repeat (first | with_reducible exact X41.out | with_reducible refine Ext.drew ?_ | with_reducible refine Ext.drewN ?_ _ | with_reducible refine Ext.alloc ?_ _ | with_reducible refine Ext.setCell ?_ (by first | omega | (simp; done) | (simp; omega)) _)) hx42)
        clear X41 hx42
        by_cases ht : te ≠ 0
        · have e9 : (te != 0) = true := by simpa using ht
          go_wp2_with fail
          refine wp_region_held_drew (S := fun w' => w'.cell? ⟨w41.heap.size, 0, none⟩ = some (.int .i64 te) ∧ w'.cell? ⟨w41.heap.size, 1, none⟩ = some (.int .i64 0)) (by kernel_rfl) (by first | exact ⟨c0_0, c0_1⟩ | (simp [go_sem, World.cell?_alloc_past, y_0f, y_1f, y_0, y_1, c0_0f, c0_0, c0_1, ne_y_c0, ne_c0_y, ry, rya, ryb, ryc, ryn, rc0, rc0a, rc0b, rc0c, rc0n]; done)) (fun hHeld => ?_)
          (refine' take_in 0 rfl (by kernel_rfl) (by kernel_rfl) (by kernel_rfl) (fun _ _ _ h => h) (by rfl) (by assumption) ?_ ?_; rotate_left; focus (intro w hSw; (try dsimp only at hSw); go_simp; try with_reducible rfl)); try simp only [Act.put, List.setIfInBounds_toArray, List.set_cons_zero, List.set_cons_succ]
          (refine' take_in 1 rfl (by kernel_rfl) (by kernel_rfl) (by kernel_rfl) (fun _ _ _ h => h) (by rfl) (by assumption) ?_ ?_; rotate_left; focus (intro w hSw; (try dsimp only at hSw); go_simp; try with_reducible rfl)); try simp only [Act.put, List.setIfInBounds_toArray, List.set_cons_zero, List.set_cons_succ]
          refine' next_in 2 rfl (by kernel_rfl) (by rfl) (fun K hK => ?_)
          go_simp
          refine hK.out _ _ (by (first | exact ⟨c0_0, c0_1⟩ | (simp [go_sem, World.cell?_alloc_past, y_0f, y_1f, y_0, y_1, c0_0f, c0_0, c0_1, ne_y_c0, ne_c0_y, ry, rya, ryb, ryc, ryn, rc0, rc0a, rc0b, rc0c, rc0n]; done))) (fun hHeld => ?_); clear hK K; try simp only [Act.put, List.setIfInBounds_toArray, List.set_cons_zero, List.set_cons_succ]
          refine wpAnyH_done (by kernel_rfl) ?_ _
          have ht12 := HTE.out ht
          subst ht12
          obtain rfl : R = ([], 12, 0) := by have h := HE.out; simpa using h
          go_wp2_with fail
          refine bodyPost_ret (v := .tuple #[.slice none 0 0, .agg #[.int .i64 12, .int .i64 0]]) (by simp [results, Try.results29, go_sem, World.cell?_alloc_past, y_0f, y_1f, y_0, y_1, c0_0f, c0_0, c0_1, ne_y_c0, ne_c0_y, ry, rya, ryb, ryc, ryn, rc0, rc0a, rc0b, rc0c, rc0n]; try rfl) rfl (RetWs.nil (xs := [.agg #[.int .i64 12, .int .i64 0]]) ?_)
          exact (by repeat (first | with_reducible exact X42.out | with_reducible refine Ext.drew ?_ | with_reducible refine Ext.drewN ?_ _ | with_reducible refine Ext.alloc ?_ _ | with_reducible refine Ext.setCell ?_ (by first | omega | (simp; done) | (simp; omega)) _))
        · have e9 : (te != 0) = false := by simpa using ht
          go_wp2_with fail
          refine wp_region_held_drew (S := fun w' => w'.cell? ⟨w41.heap.size, 0, none⟩ = some (.int .i64 te) ∧ w'.cell? ⟨w41.heap.size, 1, none⟩ = some (.int .i64 0)) (by kernel_rfl) (by first | exact ⟨c0_0, c0_1⟩ | (simp [go_sem, World.cell?_alloc_past, y_0f, y_1f, y_0, y_1, c0_0f, c0_0, c0_1, ne_y_c0, ne_c0_y, ry, rya, ryb, ryc, ryn, rc0, rc0a, rc0b, rc0c, rc0n]; done)) (fun hHeld => ?_)
          (refine' take_in 0 rfl (by kernel_rfl) (by kernel_rfl) (by kernel_rfl) (fun _ _ _ h => h) (by rfl) (by assumption) ?_ ?_; rotate_left; focus (intro w hSw; (try dsimp only at hSw); go_simp; try with_reducible rfl)); try simp only [Act.put, List.setIfInBounds_toArray, List.set_cons_zero, List.set_cons_succ]
          (refine' take_in 1 rfl (by kernel_rfl) (by kernel_rfl) (by kernel_rfl) (fun _ _ _ h => h) (by rfl) (by assumption) ?_ ?_; rotate_left; focus (intro w hSw; (try dsimp only at hSw); go_simp; try with_reducible rfl)); try simp only [Act.put, List.setIfInBounds_toArray, List.set_cons_zero, List.set_cons_succ]
          (refine' take_in 2 rfl (by kernel_rfl) (by kernel_rfl) (by kernel_rfl) (fun _ _ _ h => h) (by rfl) (by assumption) ?_ ?_; rotate_left; focus (intro w hSw; (try dsimp only at hSw); go_simp; try with_reducible rfl)); try simp only [Act.put, List.setIfInBounds_toArray, List.set_cons_zero, List.set_cons_succ]
          refine' next_in 3 rfl (by kernel_rfl) (by rfl) (fun K hK => ?_)
          go_simp
          refine hK.out _ _ (by (first | exact ⟨c0_0, c0_1⟩ | (simp [go_sem, World.cell?_alloc_past, y_0f, y_1f, y_0, y_1, c0_0f, c0_0, c0_1, ne_y_c0, ne_c0_y, ry, rya, ryb, ryc, ryn, rc0, rc0a, rc0b, rc0c, rc0n]; done))) (fun hHeld => ?_); clear hK K; try simp only [Act.put, List.setIfInBounds_toArray, List.set_cons_zero, List.set_cons_succ]
          refine wpAnyH_done (by kernel_rfl) ?_ _
          have ht0 : te = 0 := by simpa using ht
          subst ht0
          obtain rfl : R = (out, 0, 0) := by have h := HE.out; simpa using h
          go_wp2_with fail
          refine bodyPost_ret (v := .tuple #[.slice A9 out.length c9, .agg #[.int .i64 0, .int .i64 0]]) (by simp [results, Try.results29, go_sem, World.cell?_alloc_past, y_0f, y_1f, y_0, y_1, c0_0f, c0_0, c0_1, ne_y_c0, ne_c0_y, ry, rya, ryb, ryc, ryn, rc0, rc0a, rc0b, rc0c, rc0n]; try rfl) rfl (RetWs.mk (n := out.length) (xs := [.agg #[.int .i64 0, .int .i64 0]]) ?_ (by repeat (first | with_reducible exact X42.out | with_reducible refine Ext.drew ?_ | with_reducible refine Ext.drewN ?_ _ | with_reducible refine Ext.alloc ?_ _ | with_reducible refine Ext.setCell ?_ (by first | omega | (simp; done) | (simp; omega)) _)) rfl)
          exact own_lower (own_but (S := fun j => j = w.heap.size ∨ wr.heap.size ≤ j) (show OwnR wr.heap.size w42 _ _ _ _ _ _ from HO.out).own (by repeat (first | with_reducible exact But.refl _ _ | with_reducible refine But.drew ?_ | with_reducible refine But.drewN ?_ _ | with_reducible refine But.alloc ?_ _ | with_reducible refine But.setCell ?_ (by first | exact Or.inl rfl | (exact Or.inr (by (show _ ≤ _); omega))) _)) (fun j hj hh => by have h1 := own_block (show OwnR wr.heap.size w42 _ _ _ _ _ _ from HO.out).own hj; have h2 := (show OwnR wr.heap.size w42 _ _ _ _ _ _ from HO.out).2 j hj; rcases hh with hh | hh <;> omega)) (by omega)
      · have he8 : e ≠ 0 := by simpa using he
        have e7 : (e == 0) = false := by simpa using he8
        have e8 : (e != 0) = true := by simpa using he8
        go_wp2_with fail
        refine wp_region_held_drew (S := fun w' => w'.cell? ⟨w41.heap.size, 0, none⟩ = some (.int .i64 e) ∧ w'.cell? ⟨w41.heap.size, 1, none⟩ = some (.int .i64 a)) (by kernel_rfl) (by first | exact ⟨c0_0, c0_1⟩ | (simp [go_sem, World.cell?_alloc_past, y_0f, y_1f, y_0, y_1, ry, rya, ryb, ryc, ryn]; done)) (fun hHeld => ?_)
        (refine' take_in 0 rfl (by kernel_rfl) (by kernel_rfl) (by kernel_rfl) (fun _ _ _ h => h) (by rfl) (by assumption) ?_ ?_; rotate_left; focus (intro w hSw; (try dsimp only at hSw); go_simp; try with_reducible rfl)); try simp only [Act.put, List.setIfInBounds_toArray, List.set_cons_zero, List.set_cons_succ]
        (refine' take_in 1 rfl (by kernel_rfl) (by kernel_rfl) (by kernel_rfl) (fun _ _ _ h => h) (by rfl) (by assumption) ?_ ?_; rotate_left; focus (intro w hSw; (try dsimp only at hSw); go_simp; try with_reducible rfl)); try simp only [Act.put, List.setIfInBounds_toArray, List.set_cons_zero, List.set_cons_succ]
        refine' next_in 2 rfl (by kernel_rfl) (by rfl) (fun K hK => ?_)
        go_simp
        refine hK.out _ _ (by (first | exact ⟨c0_0, c0_1⟩ | (simp [go_sem, World.cell?_alloc_past, y_0f, y_1f, y_0, y_1, ry, rya, ryb, ryc, ryn]; done))) (fun hHeld => ?_); clear hK K; try simp only [Act.put, List.setIfInBounds_toArray, List.set_cons_zero, List.set_cons_succ]
        refine wpAnyH_done (by kernel_rfl) ?_ _
        obtain rfl : R = ([], e, a) := HE.out.trans (if_pos he8)
        go_wp2_with fail
        refine bodyPost_ret (v := .tuple #[.slice none 0 0, .agg #[.int .i64 e, .int .i64 a]]) (by simp [results, Try.results29, go_sem, World.cell?_alloc_past, y_0f, y_1f, y_0, y_1, ry, rya, ryb, ryc, ryn]; try rfl) rfl (RetWs.nil (xs := [.agg #[.int .i64 e, .int .i64 a]]) ?_)
        exact (by repeat (first | with_reducible exact X41.out | with_reducible refine Ext.drew ?_ | with_reducible refine Ext.drewN ?_ _ | with_reducible refine Ext.alloc ?_ _ | with_reducible refine Ext.setCell ?_ (by first | omega | (simp; done) | (simp; omega)) _))
    · have hkn : (j : Int) < N := by omega
      have hjs : (j : Int) ≤ 64 := by omega
      have hnext : crRd L (crS0 L) (j + 1) = crRd1 L s := by rw [crRd, ← hs]
      obtain ⟨k, f, out⟩ := s
      simp only at hr ho hlen
      obtain ⟨x, hxv⟩ : ∃ v, v = ruV L k f := ⟨_, rfl⟩
      obtain ⟨k1, hk1⟩ : ∃ v, v = ruK L k f := ⟨_, rfl⟩
      obtain ⟨f1, hf1⟩ : ∃ v, v = ruF L k f := ⟨_, rfl⟩
      have hstep : crRd L (crS0 L) (j + 1) = (k1, f1, out ++ [x]) := by rw [hnext, hxv, hk1, hf1]; rfl
      have GS := Lib.hid hstep
      have GL := Lib.hid hlen
      have HK := Lib.hid (And.intro hj (And.intro hg hz))
      have CU := Lib.hid (fun w h => cU_e g k k1 L f f1 x hL hxv hk1 hf1 w h)
      have HRd := hr
      have HO := ho
      clear hx hj hg hz hs hnext hr ho hlen hstep hxv hk1 hf1 hwd
      go_wp2_with fail
      (with_reducible refine (CU.out _ HRd.out).mono ?_)
      rintro e w50 ⟨rfl, hRd, hb⟩
      have hz50 := hb.size
      have HR50 := Lib.hid hRd
      have HO50 := Lib.hid (own_but HO.out hb (fun j hj hh => by have h1 := own_block HO.out hj; have h2 : j = g := hh; omega))
      have x_0 := hb.has (by show ¬ _ = _; omega) y_0
      have x_1 := hb.has (by show ¬ _ = _; omega) y_1
      have x_0f := hb.froz (by show ¬ _ = _; omega) (v := .int .i64 0) y_0 y_0f
      have x_1f := hb.froz (by show ¬ _ = _; omega) (v := .int .i64 0) y_1 y_1f
      have X50 : Hid (Ext w w50) := Lib.hid (have hX := XR.out; Below.trans hX (hb.below (Ext.size hX) (fun k hk hh => by have hh2 : k = g := hh; omega)))
      have hgm := HR50.out.lt
      clear hb hRd HRd HO y_0 y_1 y_0f y_1f CU XR
      go_wp2_with (at_builtin; refine wpList_append_slB (w50.alloc (.cells #[.int .u64 x] 23)) rfl _ _ 59 rfl (g + 1) 23 i0 (.int .u64 0) 1 8 Try.underlying59 hi0 hz0 hz1 hz2 rfl (by decide) u5 out.length _ (by rfl) (own_keep HO50.out ((Ext.refl _).alloc _)) (some ⟨w50.heap.size, 0, none⟩) 1 1 [.int .u64 x] (by first | rfl | (simp [Act.eval]; done) | (simp [Act.eval, go_sem]; done)) (sl_new _ 23 1 #[.int .u64 x] 1 rfl (by decide)) (by intro u hu; simp at hu; subst hu; rfl) (by have := GL.out; omega) (by decide) (by simp; omega) ?_; intro v2 wn hown2 hb2 hn2)
      have EA : Ext w50 (w50.alloc (.cells #[.int .u64 x] 23)) := (Ext.refl _).alloc _
      have HOa := own_keep HO50.out EA
      have hwb : ¬ (Value.ownBlock u5 = some w.heap.size) := fun hh => by have := (own_block HOa hh).1; omega
      go_roundg (gk - 1)
      case measure => have := HK.out; omega
      case rel =>
        have e : N - (gk - 1) = j + 1 := by have := HK.out; omega
        rw [e, GS.out]
        refine ⟨by have := HK.out; omega, num_eq (by have := HK.out; omega), Lib.hid ?_, Lib.hid ?_, ⟨?_, ?_, ?_, ?_⟩, ?_⟩
        · exact (HR50.out.ext EA).butT hb2 (own_ne_fault HOa (by omega) (by decide))
        · rw [iv_snoc] at hown2
          simpa using hown2
        · exact hb2.has hwb (EA.has x_0)
        · exact hb2.has hwb (EA.has x_1)
        · exact hb2.froz hwb (v := .int .i64 0) (EA.has x_0) (EA.froz (v := .int .i64 0) x_0 x_0f)
        · exact hb2.froz hwb (v := .int .i64 0) (EA.has x_1) (EA.froz (v := .int .i64 0) x_1 x_1f)
        · exact (fun (hxa : Ext w _) => Below.trans hxa (hb2.below hxa.size (fun k hk hh => by have := (own_block HOa hh).1; omega))) (Ext.alloc X50.out _)
set_option maxRecDepth 100000 in
set_option maxHeartbeats 4000000 in
theorem rRead24_any (A : Option Addr) (c : Nat) (L : List Nat) (hB : Byt L) (hL : L.length < 1099511627776) (w : World) (hs : Sl w 1 A L.length c (by_ L)) :
    Calls Try.prog 30 #[.slice A L.length c] w (RetWs (crRV L).1 [.agg #[.int .i64 (crRV L).2.1, .int .i64 (crRV L).2.2]] w) := by
  have s1 := hs.small
  have qn := flt_neq
  have qg := flt_eqg
  obtain ⟨R, hR⟩ : ∃ R, R = crRV L := ⟨_, rfl⟩
  rw [← hR]
  have HR0 := Lib.hid hR
  obtain ⟨nn, hnn⟩ : ∃ v, v = rnV L 0 none 1 64 := ⟨_, rfl⟩
  obtain ⟨hn0, hn1⟩ : 0 ≤ nn ∧ nn ≤ 64 := by rw [hnn]; exact rnV_in L 0 none 1 64 (by decide)
  obtain ⟨N, rfl⟩ : ∃ N : Nat, nn = (N : Int) := ⟨nn.toNat, by omega⟩
  have HNN := Lib.hid hnn
  have HBy := Lib.hid hB
  have HS := Lib.hid hs
  obtain ⟨i0, hi0, hz0, hz1, hz2⟩ := info_parts infoWord
  clear hs hR hnn hB
  go_enter Try.func30, Try.ntmps30
  go_wp2_with fail
  (with_reducible refine (rNewReader_any A c L HBy.out _ (HS.out.ext (by repeat (first | with_reducible exact Ext.refl _ | with_reducible refine Ext.drew ?_ | with_reducible refine Ext.drewN ?_ _ | with_reducible refine Ext.alloc ?_ _ | with_reducible refine Ext.setCell ?_ (by first | omega | (simp; done) | (simp; omega)) _))) hL).mono ?_)
  rintro e w1 ⟨g, rfl, hg, hRd, hx1⟩
  have c0_0f : w1.frozen? ⟨w.heap.size, 0, none⟩ = false := hx1.froz (v := .int .i64 0) (by first | fail | (simp [go_sem, World.cell?_alloc_past]; done)) (by first | fail | (simp [go_sem, World.cell?_alloc_past]; done))
  have c0_1f : w1.frozen? ⟨w.heap.size, 1, none⟩ = false := hx1.froz (v := .int .i64 0) (by first | fail | (simp [go_sem, World.cell?_alloc_past]; done)) (by first | fail | (simp [go_sem, World.cell?_alloc_past]; done))
  have c0_0 : w1.cell? ⟨w.heap.size, 0, none⟩ = some (.int .i64 0) := hx1.has (by first | fail | (simp [go_sem, World.cell?_alloc_past]; done))
  have c0_1 : w1.cell? ⟨w.heap.size, 1, none⟩ = some (.int .i64 0) := hx1.has (by first | fail | (simp [go_sem, World.cell?_alloc_past]; done))
  have z1 := hx1.size
  try simp at z1
  have rc0 : w.heap.size < w1.heap.size := by omega
  have rc0a : w.heap.size < w1.heap.size + 1 := by omega
  have rc0b : w.heap.size < w1.heap.size + 1 + 1 := by omega
  have rc0c : w.heap.size < w1.heap.size + 1 + 1 + 1 := by omega
  have rc0n : ¬ w.heap.size = w1.heap.size := by omega
  have X1 : Hid (Ext w w1) := Lib.hid (Ext.trans (by repeat (first | with_reducible exact Ext.refl w | with_reducible refine Ext.drew ?_ | with_reducible refine Ext.drewN ?_ _ | with_reducible refine Ext.alloc ?_ _ | with_reducible refine Ext.setCell ?_ (by first | omega | (simp; done) | (simp; omega)) _)) hx1)
  have HR := Lib.hid hRd
  clear HS hx1 z1 hRd
  have hgw : w.heap.size < g := by (try simp at hg); omega
  have hgl := HR.out.lt
  go_wp2_with fail
  (with_reducible refine (rN_e g 0 (crS0 L).1 L none (crS0 L).2.1 1 64 (N : Int) (by decide) (by decide) (by decide) (by decide) hL HNN.out rfl rfl _ (HR.out.ext (by repeat (first | with_reducible exact Ext.refl _ | with_reducible refine Ext.drew ?_ | with_reducible refine Ext.drewN ?_ _ | with_reducible refine Ext.alloc ?_ _ | with_reducible refine Ext.setCell ?_ (by first | omega | (simp; done) | (simp; omega)) _)))).mono ?_)
  rintro e w2 ⟨rfl, hRd, hx2⟩
  have hsz2 := hx2.size
  try simp at hsz2
  replace c0_0f : w2.frozen? ⟨w.heap.size, 0, none⟩ = false := hx2.froz (by show ¬ _ = _; first | assumption | omega) (v := .int .i64 0) (by first | exact c0_0 | (simp [go_sem, World.cell?_alloc_past, c0_0f, c0_1f, c0_0, c0_1, rc0, rc0a, rc0b, rc0c, rc0n]; done)) (by first | exact c0_0f | (simp [go_sem, World.cell?_alloc_past, c0_0f, c0_1f, c0_0, c0_1, rc0, rc0a, rc0b, rc0c, rc0n]; done))
  replace c0_1f : w2.frozen? ⟨w.heap.size, 1, none⟩ = false := hx2.froz (by show ¬ _ = _; first | assumption | omega) (v := .int .i64 0) (by first | exact c0_1 | (simp [go_sem, World.cell?_alloc_past, c0_0f, c0_1f, c0_0, c0_1, rc0, rc0a, rc0b, rc0c, rc0n]; done)) (by first | exact c0_1f | (simp [go_sem, World.cell?_alloc_past, c0_0f, c0_1f, c0_0, c0_1, rc0, rc0a, rc0b, rc0c, rc0n]; done))
  replace c0_0 : w2.cell? ⟨w.heap.size, 0, none⟩ = some (.int .i64 0) := hx2.has (by show ¬ _ = _; first | assumption | omega) (by first | exact c0_0 | (simp [go_sem, World.cell?_alloc_past, c0_0f, c0_1f, c0_0, c0_1, rc0, rc0a, rc0b, rc0c, rc0n]; done))
  replace c0_1 : w2.cell? ⟨w.heap.size, 1, none⟩ = some (.int .i64 0) := hx2.has (by show ¬ _ = _; first | assumption | omega) (by first | exact c0_1 | (simp [go_sem, World.cell?_alloc_past, c0_0f, c0_1f, c0_0, c0_1, rc0, rc0a, rc0b, rc0c, rc0n]; done))
  have z2 := hx2.size
  try simp at z2
  replace rc0 : w.heap.size < w2.heap.size := by omega
  replace rc0a : w.heap.size < w2.heap.size + 1 := by omega
  replace rc0b : w.heap.size < w2.heap.size + 1 + 1 := by omega
  replace rc0c : w.heap.size < w2.heap.size + 1 + 1 + 1 := by omega
  replace rc0n : ¬ w.heap.size = w2.heap.size := by omega
  have X2 : Hid (Ext w w2) := Lib.hid (have hX := (show Ext w _ from (by repeat (first | with_reducible exact X1.out | with_reducible refine Ext.drew ?_ | with_reducible refine Ext.drewN ?_ _ | with_reducible refine Ext.alloc ?_ _ | with_reducible refine Ext.setCell ?_ (by first | omega | (simp; done) | (simp; omega)) _))); Below.trans hX (hx2.below (Ext.size hX) (fun k hk hh => by have hh2 : k = g := hh; omega)))
  clear HR
  have HR := Lib.hid hRd
  clear hsz2 X1 hx2 z2 hRd
  have hgl2 := HR.out.lt
  go_wp2_with fail
  go_loopg [6, 7] N (fun gh q i wx => gh ≤ N ∧ i = .int .i64 ((N - gh : Nat) : Int) ∧ Hid (RRd wx g L (crRd L (crS0 L) (N - gh)).1 (crRd L (crS0 L) (N - gh)).2.1) ∧ Hid (wx.ownsRow (g + 1) 23 1 q (crRd L (crS0 L) (N - gh)).2.2.length (iv .u64 (crRd L (crS0 L) (N - gh)).2.2)) ∧ (wx.cell? ⟨w.heap.size, 0, none⟩ = some (.int .i64 0) ∧ wx.cell? ⟨w.heap.size, 1, none⟩ = some (.int .i64 0) ∧ wx.frozen? ⟨w.heap.size, 0, none⟩ = false ∧ wx.frozen? ⟨w.heap.size, 1, none⟩ = false) ∧ Ext w wx)
  case atStart => exact ⟨Nat.le_refl _, by simp, by rw [Nat.sub_self]; exact HR, by rw [Nat.sub_self]; exact Lib.hid (World.ownsRow_nil _ _ _ _), ⟨c0_0, c0_1, c0_0f, c0_1f⟩, X2.out⟩
  case round =>
    obtain ⟨hg, hi, hr, ho, ⟨y_0, y_1, y_0f, y_1f⟩, hx⟩ := hrel
    obtain ⟨j, hj⟩ : ∃ j, j = N - gk := ⟨_, rfl⟩
    rw [← hj] at hi hr ho
    subst hi
    have XR := Lib.hid hx
    have hyr : w.heap.size < wr.heap.size := cell_lt y_0
    have hgr : g < wr.heap.size := hr.out.lt
    obtain ⟨s, hs⟩ : ∃ s, s = crRd L (crS0 L) j := ⟨_, rfl⟩
    rw [← hs] at hr ho
    have hlen : s.2.2.length = j := by rw [hs, crRd_len]; simp [crS0]
    have hwd : ∀ x ∈ s.2.2, Word x := by rw [hs]; exact crRd_word (by intro x hx; simp [crS0] at hx) j
    by_cases hz : gk = 0
    · have hkn : ¬ (j : Int) < N := by omega
      have hjn : j = N := by omega
      have hE0 : R = crEnd L s := by rw [HR0.out, hs, hjn]; unfold crRV; rw [← HNN.out, show ((N : Int)).toNat = N from by simp]
      have hnz : FltNz s.2.1 := by rw [hs]; exact crRd_nz (crS0_nz L) j
      have hn1 : s.2.1 = none → 1 ≤ N := fun h => by have := rn_one (crRd_none j (by rw [← hs]; exact h)); have := HNN.out; omega
      obtain ⟨k, f, out⟩ := s
      obtain ⟨⟨e, a⟩, hea⟩ : ∃ E, E = endF f k L.length := ⟨_, rfl⟩
      obtain ⟨⟨t, te⟩, htt⟩ : ∃ E, E = totV out := ⟨_, rfl⟩
      unfold crEnd at hE0
      simp only at hE0 hr ho hlen hwd hnz hn1
      rw [← hea, ← htt] at hE0
      have hez : e = 0 → a = 0 ∧ 1 ≤ N := fun he => by have h := end_zero hnz hea he; exact ⟨h.1, hn1 h.2⟩
      have hte : te ≠ 0 → te = 12 := fun h => by have h2 := totV_err (l := out) (by rw [← htt]; exact h); rw [← htt] at h2; exact h2
      have hch : 1 ≤ N → chkR out = te := fun h => by unfold chkR; rw [if_neg (by omega), ← htt]
      have HCH := Lib.hid hch
      have HEA := Lib.hid hea
      have HTT := Lib.hid htt
      have HEZ := Lib.hid hez
      have HTE := Lib.hid hte
      have HE := Lib.hid hE0
      have HWD := Lib.hid hwd
      have HRd := hr
      obtain ⟨A9, c9, rfl, hA9, hSl9⟩ := own_parts2 ho.out
      have HSl := Lib.hid hSl9
      have HO := Lib.hid (OwnR.mk ho.out)
      clear hx hj hg hz hs hjn hlen hea hE0 hr ho hwd hnz hn1 hez hte htt hch hSl9
      go_wp2_with fail
      (with_reducible refine (rEnd_h g k L f e a _ (HRd.out.ext (by repeat (first | with_reducible exact Ext.refl _ | with_reducible refine Ext.drew ?_ | with_reducible refine Ext.drewN ?_ _ | with_reducible refine Ext.alloc ?_ _ | with_reducible refine Ext.setCell ?_ (by first | omega | (simp; done) | (simp; omega)) _))) hL HEA.out).mono ?_)
      rintro e w41 ⟨rfl, hx41⟩
      replace y_0f : w41.frozen? ⟨w.heap.size, 0, none⟩ = false := hx41.froz (v := .int .i64 0) (by first | exact y_0 | (simp [go_sem, World.cell?_alloc_past, y_0, y_0f, y_1, y_1f]; done)) (by first | exact y_0f | (simp [go_sem, World.cell?_alloc_past, y_0, y_0f, y_1, y_1f]; done))
      replace y_1f : w41.frozen? ⟨w.heap.size, 1, none⟩ = false := hx41.froz (v := .int .i64 0) (by first | exact y_1 | (simp [go_sem, World.cell?_alloc_past, y_0, y_0f, y_1, y_1f]; done)) (by first | exact y_1f | (simp [go_sem, World.cell?_alloc_past, y_0, y_0f, y_1, y_1f]; done))
      replace y_0 : w41.cell? ⟨w.heap.size, 0, none⟩ = some (.int .i64 0) := hx41.has (by first | exact y_0 | (simp [go_sem, World.cell?_alloc_past, y_0, y_0f, y_1, y_1f]; done))
      replace y_1 : w41.cell? ⟨w.heap.size, 1, none⟩ = some (.int .i64 0) := hx41.has (by first | exact y_1 | (simp [go_sem, World.cell?_alloc_past, y_0, y_0f, y_1, y_1f]; done))
      have z41 := hx41.size
      try simp at z41
      have ry : w.heap.size < w41.heap.size := by omega
      have rya : w.heap.size < w41.heap.size + 1 := by omega
      have ryb : w.heap.size < w41.heap.size + 1 + 1 := by omega
      have ryc : w.heap.size < w41.heap.size + 1 + 1 + 1 := by omega
      have ryn : ¬ w.heap.size = w41.heap.size := by omega
      replace HRd := Lib.hid (HRd.out.ext (Ext.trans (by repeat (first | with_reducible exact Ext.refl _ | with_reducible refine Ext.drew ?_ | with_reducible refine Ext.drewN ?_ _ | with_reducible refine Ext.alloc ?_ _ | with_reducible refine Ext.setCell ?_ (by first | omega | (simp; done) | (simp; omega)) _)) hx41))
      replace HO := Lib.hid (HO.out.ext (Ext.trans (by repeat (first | with_reducible exact Ext.refl _ | with_reducible refine Ext.drew ?_ | with_reducible refine Ext.drewN ?_ _ | with_reducible refine Ext.alloc ?_ _ | with_reducible refine Ext.setCell ?_ (by first | omega | (simp; done) | (simp; omega)) _)) hx41))
      replace HSl := Lib.hid (HSl.out.ext (Ext.trans (by repeat (first | with_reducible exact Ext.refl _ | with_reducible refine Ext.drew ?_ | with_reducible refine Ext.drewN ?_ _ | with_reducible refine Ext.alloc ?_ _ | with_reducible refine Ext.setCell ?_ (by first | omega | (simp; done) | (simp; omega)) _)) hx41))
      have X41 : Hid (Ext w w41) := Lib.hid (Ext.trans (by repeat (first | with_reducible exact XR.out | with_reducible refine Ext.drew ?_ | with_reducible refine Ext.drewN ?_ _ | with_reducible refine Ext.alloc ?_ _ | with_reducible refine Ext.setCell ?_ (by first | omega | (simp; done) | (simp; omega)) _)) hx41)
      clear XR hx41
      by_cases he : e ≠ 0
      · have e7 : (e == 0) = false := by simpa using he
        go_wp2_with fail
        refine wp_region_held_drew (S := fun w' => w'.cell? ⟨w41.heap.size, 0, none⟩ = some (.int .i64 e) ∧ w'.cell? ⟨w41.heap.size, 1, none⟩ = some (.int .i64 a)) (by kernel_rfl) (by first | exact ⟨c0_0, c0_1⟩ | (simp [go_sem, World.cell?_alloc_past, y_0f, y_1f, y_0, y_1, ry, rya, ryb, ryc, ryn]; done)) (fun hHeld => ?_)
        (refine' take_in 0 rfl (by kernel_rfl) (by kernel_rfl) (by kernel_rfl) (fun _ _ _ h => h) (by rfl) (by assumption) ?_ ?_; rotate_left; focus (intro w hSw; (try dsimp only at hSw); go_simp; try with_reducible rfl)); try simp only [Act.put, List.setIfInBounds_toArray, List.set_cons_zero, List.set_cons_succ]
        (refine' take_in 1 rfl (by kernel_rfl) (by kernel_rfl) (by kernel_rfl) (fun _ _ _ h => h) (by rfl) (by assumption) ?_ ?_; rotate_left; focus (intro w hSw; (try dsimp only at hSw); go_simp; try with_reducible rfl)); try simp only [Act.put, List.setIfInBounds_toArray, List.set_cons_zero, List.set_cons_succ]
        refine' next_in 2 rfl (by kernel_rfl) (by rfl) (fun K hK => ?_)
        go_simp
        refine hK.out _ _ (by (first | exact ⟨c0_0, c0_1⟩ | (simp [go_sem, World.cell?_alloc_past, y_0f, y_1f, y_0, y_1, ry, rya, ryb, ryc, ryn]; done))) (fun hHeld => ?_); clear hK K; try simp only [Act.put, List.setIfInBounds_toArray, List.set_cons_zero, List.set_cons_succ]
        refine wpAnyH_done (by kernel_rfl) ?_ _
        obtain rfl : R = ([], e, a) := HE.out.trans (if_pos he)
        go_wp2_with fail
        refine bodyPost_ret (v := .tuple #[.slice none 0 0, .agg #[.int .i64 e, .int .i64 a]]) (by simp [results, Try.results30, go_sem, World.cell?_alloc_past, y_0f, y_1f, y_0, y_1, ry, rya, ryb, ryc, ryn]; try rfl) rfl (RetWs.nil (xs := [.agg #[.int .i64 e, .int .i64 a]]) ?_)
        exact (by repeat (first | with_reducible exact X41.out | with_reducible refine Ext.drew ?_ | with_reducible refine Ext.drewN ?_ _ | with_reducible refine Ext.alloc ?_ _ | with_reducible refine Ext.setCell ?_ (by first | omega | (simp; done) | (simp; omega)) _))
      · have he2 : e = 0 := by simpa using he
        have ha2 : a = 0 := (HEZ.out he2).1
        have hN1 := (HEZ.out he2).2
        subst he2; subst ha2
        go_wp2_with fail
        (with_reducible refine (rCheck24_ev A9 out.length c9 out te _ (HSl.out.ext (by repeat (first | with_reducible exact Ext.refl _ | with_reducible refine Ext.drew ?_ | with_reducible refine Ext.drewN ?_ _ | with_reducible refine Ext.alloc ?_ _ | with_reducible refine Ext.setCell ?_ (by first | omega | (simp; done) | (simp; omega)) _))) HWD.out (HCH.out hN1)).mono ?_)
        rintro e w42 ⟨rfl, hx42⟩
        replace y_0f : w42.frozen? ⟨w.heap.size, 0, none⟩ = false := hx42.froz (v := .int .i64 0) (by first | exact y_0 | (simp [go_sem, World.cell?_alloc_past, y_0f, y_1f, y_0, y_1, ry, rya, ryb, ryc, ryn]; done)) (by first | exact y_0f | (simp [go_sem, World.cell?_alloc_past, y_0f, y_1f, y_0, y_1, ry, rya, ryb, ryc, ryn]; done))
        replace y_1f : w42.frozen? ⟨w.heap.size, 1, none⟩ = false := hx42.froz (v := .int .i64 0) (by first | exact y_1 | (simp [go_sem, World.cell?_alloc_past, y_0f, y_1f, y_0, y_1, ry, rya, ryb, ryc, ryn]; done)) (by first | exact y_1f | (simp [go_sem, World.cell?_alloc_past, y_0f, y_1f, y_0, y_1, ry, rya, ryb, ryc, ryn]; done))
        replace y_0 : w42.cell? ⟨w.heap.size, 0, none⟩ = some (.int .i64 0) := hx42.has (by first | exact y_0 | (simp [go_sem, World.cell?_alloc_past, y_0f, y_1f, y_0, y_1, ry, rya, ryb, ryc, ryn]; done))
        replace y_1 : w42.cell? ⟨w.heap.size, 1, none⟩ = some (.int .i64 0) := hx42.has (by first | exact y_1 | (simp [go_sem, World.cell?_alloc_past, y_0f, y_1f, y_0, y_1, ry, rya, ryb, ryc, ryn]; done))
        have c0_0 : w42.cell? ⟨w41.heap.size, 0, none⟩ = some (.int .i64 0) := hx42.has (by first | fail | (simp [go_sem, World.cell?_alloc_past, y_0f, y_1f, y_0, y_1, ry, rya, ryb, ryc, ryn]; done))
        have c0_1 : w42.cell? ⟨w41.heap.size, 1, none⟩ = some (.int .i64 0) := hx42.has (by first | fail | (simp [go_sem, World.cell?_alloc_past, y_0f, y_1f, y_0, y_1, ry, rya, ryb, ryc, ryn]; done))
        have z42 := hx42.size
        try simp at z42
        have lt_y_c0 : w.heap.size < w41.heap.size := by omega
        have ne_y_c0 : ¬ w.heap.size = w41.heap.size := by omega
        have ne_c0_y : ¬ w41.heap.size = w.heap.size := by omega
        replace ry : w.heap.size < w42.heap.size := by omega
        replace rya : w.heap.size < w42.heap.size + 1 := by omega
        replace ryb : w.heap.size < w42.heap.size + 1 + 1 := by omega
        replace ryc : w.heap.size < w42.heap.size + 1 + 1 + 1 := by omega
        replace ryn : ¬ w.heap.size = w42.heap.size := by omega
        have rc0 : w41.heap.size < w42.heap.size := by omega
        have rc0a : w41.heap.size < w42.heap.size + 1 := by omega
        have rc0b : w41.heap.size < w42.heap.size + 1 + 1 := by omega
        have rc0c : w41.heap.size < w42.heap.size + 1 + 1 + 1 := by omega
        have rc0n : ¬ w41.heap.size = w42.heap.size := by omega
        replace HRd := Lib.hid (HRd.out.ext (Ext.trans (by repeat (first | with_reducible exact Ext.refl _ | with_reducible refine Ext.drew ?_ | with_reducible refine Ext.drewN ?_ _ | with_reducible refine Ext.alloc ?_ _ | with_reducible refine Ext.setCell ?_ (by first | omega | (simp; done) | (simp; omega)) _)) hx42))
        replace HO := Lib.hid (HO.out.ext (Ext.trans (by repeat (first | with_reducible exact Ext.refl _ | with_reducible refine Ext.drew ?_ | with_reducible refine Ext.drewN ?_ _ | with_reducible refine Ext.alloc ?_ _ | with_reducible refine Ext.setCell ?_ (by first | omega | (simp; done) | (simp; omega)) _)) hx42))
        replace HSl := Lib.hid (HSl.out.ext (Ext.trans (by repeat (first | with_reducible exact Ext.refl _ | with_reducible refine Ext.drew ?_ | with_reducible refine Ext.drewN ?_ _ | with_reducible refine Ext.alloc ?_ _ | with_reducible refine Ext.setCell ?_ (by first | omega | (simp; done) | (simp; omega)) _)) hx42))
        have X42 : Hid (Ext w w42) := Lib.hid (Ext.trans (by repeat (first | with_reducible exact X41.out | with_reducible refine Ext.drew ?_ | with_reducible refine Ext.drewN ?_ _ | with_reducible refine Ext.alloc ?_ _ | with_reducible refine Ext.setCell ?_ (by first | omega | (simp; done) | (simp; omega)) _)) hx42)
        clear X41 hx42
        by_cases ht : te ≠ 0
        · have e9 : (te != 0) = true := by simpa using ht
          have ht12 := HTE.out ht
          subst ht12
          obtain rfl : R = ([], 12, 0) := by have h := HE.out; simpa using h
          go_wp2_with fail
          refine bodyPost_ret (v := .tuple #[.slice none 0 0, .agg #[.int .i64 12, .int .i64 0]]) (by simp [results, Try.results30, go_sem, World.cell?_alloc_past, y_0f, y_1f, y_0, y_1, c0_0, c0_1, ne_y_c0, ne_c0_y, ry, rya, ryb, ryc, ryn, rc0, rc0a, rc0b, rc0c, rc0n]; try rfl) rfl (RetWs.nil (xs := [.agg #[.int .i64 12, .int .i64 0]]) ?_)
          exact (by repeat (first | with_reducible exact X42.out | with_reducible refine Ext.drew ?_ | with_reducible refine Ext.drewN ?_ _ | with_reducible refine Ext.alloc ?_ _ | with_reducible refine Ext.setCell ?_ (by first | omega | (simp; done) | (simp; omega)) _))
        · have e9 : (te != 0) = false := by simpa using ht
          have ht0 : te = 0 := by simpa using ht
          subst ht0
          obtain rfl : R = (out, 0, 0) := by have h := HE.out; simpa using h
          go_wp2_with fail
          refine bodyPost_ret (v := .tuple #[.slice A9 out.length c9, .agg #[.int .i64 0, .int .i64 0]]) (by simp [results, Try.results30, go_sem, World.cell?_alloc_past, y_0f, y_1f, y_0, y_1, c0_0, c0_1, ne_y_c0, ne_c0_y, ry, rya, ryb, ryc, ryn, rc0, rc0a, rc0b, rc0c, rc0n]; try rfl) rfl (RetWs.mk (n := out.length) (xs := [.agg #[.int .i64 0, .int .i64 0]]) ?_ (by repeat (first | with_reducible exact X42.out | with_reducible refine Ext.drew ?_ | with_reducible refine Ext.drewN ?_ _ | with_reducible refine Ext.alloc ?_ _ | with_reducible refine Ext.setCell ?_ (by first | omega | (simp; done) | (simp; omega)) _)) rfl)
          exact own_lower (own_but (S := fun j => j = w.heap.size ∨ wr.heap.size ≤ j) (show OwnR wr.heap.size w42 _ _ _ _ _ _ from HO.out).own (by repeat (first | with_reducible exact But.refl _ _ | with_reducible refine But.drew ?_ | with_reducible refine But.drewN ?_ _ | with_reducible refine But.alloc ?_ _ | with_reducible refine But.setCell ?_ (by first | exact Or.inl rfl | (exact Or.inr (by (show _ ≤ _); omega))) _)) (fun j hj hh => by have h1 := own_block (show OwnR wr.heap.size w42 _ _ _ _ _ _ from HO.out).own hj; have h2 := (show OwnR wr.heap.size w42 _ _ _ _ _ _ from HO.out).2 j hj; rcases hh with hh | hh <;> omega)) (by omega)
    · have hkn : (j : Int) < N := by omega
      have hjs : (j : Int) ≤ 64 := by omega
      have hnext : crRd L (crS0 L) (j + 1) = crRd1 L s := by rw [crRd, ← hs]
      obtain ⟨k, f, out⟩ := s
      simp only at hr ho hlen
      obtain ⟨x, hxv⟩ : ∃ v, v = ruV L k f := ⟨_, rfl⟩
      obtain ⟨k1, hk1⟩ : ∃ v, v = ruK L k f := ⟨_, rfl⟩
      obtain ⟨f1, hf1⟩ : ∃ v, v = ruF L k f := ⟨_, rfl⟩
      have hstep : crRd L (crS0 L) (j + 1) = (k1, f1, out ++ [x]) := by rw [hnext, hxv, hk1, hf1]; rfl
      have GS := Lib.hid hstep
      have GL := Lib.hid hlen
      have HK := Lib.hid (And.intro hj (And.intro hg hz))
      have CU := Lib.hid (fun w h => rU_e g k k1 L f f1 x hL hxv hk1 hf1 w h)
      have HRd := hr
      have HO := ho
      clear hx hj hg hz hs hnext hr ho hlen hstep hxv hk1 hf1 hwd
      go_wp2_with fail
      (with_reducible refine (CU.out _ HRd.out).mono ?_)
      rintro e w50 ⟨rfl, hRd, hb⟩
      have hz50 := hb.size
      have HR50 := Lib.hid hRd
      have HO50 := Lib.hid (own_but HO.out hb (fun j hj hh => by have h1 := own_block HO.out hj; have h2 : j = g := hh; omega))
      have x_0 := hb.has (by show ¬ _ = _; omega) y_0
      have x_1 := hb.has (by show ¬ _ = _; omega) y_1
      have x_0f := hb.froz (by show ¬ _ = _; omega) (v := .int .i64 0) y_0 y_0f
      have x_1f := hb.froz (by show ¬ _ = _; omega) (v := .int .i64 0) y_1 y_1f
      have X50 : Hid (Ext w w50) := Lib.hid (have hX := XR.out; Below.trans hX (hb.below (Ext.size hX) (fun k hk hh => by have hh2 : k = g := hh; omega)))
      have hgm := HR50.out.lt
      clear hb hRd HRd HO y_0 y_1 y_0f y_1f CU XR
      go_wp2_with (at_builtin; refine wpList_append_slB (w50.alloc (.cells #[.int .u64 x] 23)) rfl _ _ 22 rfl (g + 1) 23 i0 (.int .u64 0) 1 8 Try.underlying22 hi0 hz0 hz1 hz2 rfl (by decide) u6 out.length _ (by rfl) (own_keep HO50.out ((Ext.refl _).alloc _)) (some ⟨w50.heap.size, 0, none⟩) 1 1 [.int .u64 x] (by first | rfl | (simp [Act.eval]; done) | (simp [Act.eval, go_sem]; done)) (sl_new _ 23 1 #[.int .u64 x] 1 rfl (by decide)) (by intro u hu; simp at hu; subst hu; rfl) (by have := GL.out; omega) (by decide) (by simp; omega) ?_; intro v2 wn hown2 hb2 hn2)
      have EA : Ext w50 (w50.alloc (.cells #[.int .u64 x] 23)) := (Ext.refl _).alloc _
      have HOa := own_keep HO50.out EA
      have hwb : ¬ (Value.ownBlock u6 = some w.heap.size) := fun hh => by have := (own_block HOa hh).1; omega
      go_roundg (gk - 1)
      case measure => have := HK.out; omega
      case rel =>
        have e : N - (gk - 1) = j + 1 := by have := HK.out; omega
        rw [e, GS.out]
        refine ⟨by have := HK.out; omega, num_eq (by have := HK.out; omega), Lib.hid ?_, Lib.hid ?_, ⟨?_, ?_, ?_, ?_⟩, ?_⟩
        · exact (HR50.out.ext EA).butT hb2 (fun j _ hj => by have := (own_block HOa hj).1; omega)
        · rw [iv_snoc] at hown2
          simpa using hown2
        · exact hb2.has hwb (EA.has x_0)
        · exact hb2.has hwb (EA.has x_1)
        · exact hb2.froz hwb (v := .int .i64 0) (EA.has x_0) (EA.froz (v := .int .i64 0) x_0 x_0f)
        · exact hb2.froz hwb (v := .int .i64 0) (EA.has x_1) (EA.froz (v := .int .i64 0) x_1 x_1f)
        · exact (fun (hxa : Ext w _) => Below.trans hxa (hb2.below hxa.size (fun k hk hh => by have := (own_block HOa hh).1; omega))) (Ext.alloc X50.out _)
end Go.Proofs.Ytlgjdeggbcgbnaa
