/- What the law HopBack rests on, part 3 of 3: Hop13, Hop14, HopM, HopBytesW, HopKnownW, HopMade, HopMadeW, HopBackW. Conditions stand in each lemma. -/
import Derived.WalkKit
import Derived.Deep.QuietTactic
import Derived.Deep.Draws
import Derived.Laws.OwnMore
import Derived.Laws.AppendOwn
import Derived.OwnWalk
import Derived.RangeFuncBox
import Derived.RangeFuncLeaves
import Derived.Shelf.Abstract
import Derived.OwnWalkIn
import Derived.TacticsInMore
import Derived.LoopNIn
import Derived.LoopIn
import Derived.Maps.AppendAt
import Derived.Test.YtjdpgapmdmpjjaaRows
import Derived.Lib.Hide
import Derived.Deep.Onto
import Derived.ProofKit
import Derived.ChangeOld
import Derived.OpenShut
import Derived.Deep.Slices
import Derived.BigQuiet
import Derived.IntWalk
import Derived.Lib.SliceRun
import Derived.Deep.LoopGhost
import Derived.WalkSpells
import Derived.WalkLawsBesides
import Derived.Laws.BytesArg
import Derived.Deep.RegionHeld3
import Derived.Lib.SmallJoins
import Derived.ArgAppend
import Derived.Laws.StructEq
import Derived.WalkMore
import Derived.Maps.OwnSet
import Derived.WideKeyEntry
import Derived.DeepKeys5
import Derived.Test.YtjdpgapmdmpjjaaSlHopBack2
set_option linter.unusedVariables false
set_option linter.unusedSimpArgs false
namespace Go.Proofs.Ytjdpgapmdmpjjaa
section
open Go.RowKit Go.ChangeShapes Go.WideShapes Go.Deep Go.Joins
/-- is a height below the last one's -/
def ordB (out : List (Int × Int × Int × Int)) (x3 : Int) : Bool := match out.getLast? with | some y => decide (x3 < y.2.2.2) | none => false
/-- one hop is read -/
def hopRd1 (L : List Nat) (s : Nat × Option (Int × Int) × List (Int × Int × Int × Int)) : Nat × Option (Int × Int) × List (Int × Int × Int × Int) :=
  let x0 := rnV L s.1 s.2.1 0 63; let k1 := rnK L s.1 s.2.1 0 63; let f1 := rnF L s.1 s.2.1 0 63
  let x1 := rnV L k1 f1 0 31; let k2 := rnK L k1 f1 0 31; let f2 := rnF L k1 f1 0 31
  let x2 := rnV L k2 f2 0 31; let k3 := rnK L k2 f2 0 31; let f3 := rnF L k2 f2 0 31
  let f4 := if x2 = x1 then failF f3 3 (atF f2 k2) else f3
  let x3 := rnV L k3 f4 1 4294967296; let k5 := rnK L k3 f4 1 4294967296; let f5 := rnF L k3 f4 1 4294967296
  let f6 := if ordB s.2.2 x3 = true then failF f5 9 (atF f4 k3) else f5
  (k5, f6, s.2.2 ++ [(x0, x1, x2, x3)])
theorem hopRd1_eq {L : List Nat} {s : Nat × Option (Int × Int) × List (Int × Int × Int × Int)} {k k1 k2 k3 k5 : Nat} {f f1 f2 f3 f4 f5 f6 : Option (Int × Int)} {out : List (Int × Int × Int × Int)} {x0 x1 x2 x3 : Int} (hs : s = (k, f, out))
    (a1 : x0 = rnV L k f 0 63) (a2 : k1 = rnK L k f 0 63) (a3 : f1 = rnF L k f 0 63) (b1 : x1 = rnV L k1 f1 0 31) (b2 : k2 = rnK L k1 f1 0 31) (b3 : f2 = rnF L k1 f1 0 31) (c1 : x2 = rnV L k2 f2 0 31) (c2 : k3 = rnK L k2 f2 0 31) (c3 : f3 = rnF L k2 f2 0 31)
    (d : f4 = if x2 = x1 then failF f3 3 (atF f2 k2) else f3) (e1 : x3 = rnV L k3 f4 1 4294967296) (e2 : k5 = rnK L k3 f4 1 4294967296) (e3 : f5 = rnF L k3 f4 1 4294967296)
    (g : f6 = if ordB out x3 = true then failF f5 9 (atF f4 k3) else f5) : hopRd1 L s = (k5, f6, out ++ [(x0, x1, x2, x3)]) := by
  subst hs; subst a1; subst a2; subst a3; subst b1; subst b2; subst b3; subst c1; subst c2; subst c3; subst d; subst e1; subst e2; subst e3; subst g
  rfl
def hopRd (L : List Nat) (s : Nat × Option (Int × Int) × List (Int × Int × Int × Int)) : Nat → Nat × Option (Int × Int) × List (Int × Int × Int × Int)
  | 0 => s
  | j + 1 => hopRd1 L (hopRd L s j)
theorem hopRd_len (L : List Nat) (s : Nat × Option (Int × Int) × List (Int × Int × Int × Int)) : ∀ j, (hopRd L s j).2.2.length = s.2.2.length + j
  | 0 => rfl
  | j + 1 => by rw [hopRd, hopRd1]; simp only [List.length_append, hopRd_len L s j, List.length_singleton]; omega
/-- the state behind the count -/
def hopS0 (L : List Nat) : Nat × Option (Int × Int) × List (Int × Int × Int × Int) := (rnK L 0 none 0 4096, rnF L 0 none 0 4096, [])
def hopEnd (L : List Nat) (s : Nat × Option (Int × Int) × List (Int × Int × Int × Int)) : List (Int × Int × Int × Int) × Int × Int := if (endF s.2.1 s.1 L.length).1 = 0 then (s.2.2, 0, 0) else ([], endF s.2.1 s.1 L.length)
def hopRV (L : List Nat) : List (Int × Int × Int × Int) × Int × Int := hopEnd L (hopRd L (hopS0 L) (rnV L 0 none 0 4096).toNat)
theorem cEnd_h (g k : Nat) (L : List Nat) (flt : Option (Int × Int)) (e a : Int) (w : World) (h : Rd w g L k flt) (hL : L.length < 1099511627776) (he : (e, a) = endF flt k L.length) :
    Calls Try.prog 115 #[.pointer (some ⟨g, 0, none⟩)] w fun r w' => r = .returned (.agg #[.int .i64 e, .int .i64 a]) ∧ Ext w w' := by
  have h := cEnd_any g k L flt w h hL
  rw [← he] at h
  exact h
theorem Sl.addrH {w : World} {sz n c : Nat} {A B : Option Addr} {xs : List Value} (h : Sl w sz A n c xs) (e : A = B) : Sl w sz B n c xs := e ▸ h
theorem ordB_last {out : List (Int × Int × Int × Int)} {m : Nat} {y : (Int × Int × Int × Int)} (x3 : Int) (h : out[m]? = some y) (hl : out.length = m + 1) : ordB out x3 = decide (x3 < y.2.2.2) := by
  unfold ordB
  rw [getLast_at h hl]
set_option maxRecDepth 100000 in
set_option maxHeartbeats 4000000 in
theorem hopRead_any (A : Option Addr) (c : Nat) (L : List Nat) (hB : Byt L) (hL : L.length < 1099511627776) (hnil : A = none → c = 0) (w : World) (hs : Sl w 1 A L.length c (by_ L)) :
    Calls Try.prog 65 #[.slice A L.length c] w (RetHopV (hopRV L).1 [.agg #[.int .i64 (hopRV L).2.1, .int .i64 (hopRV L).2.2]] w) := by
  have s1 := hs.small
  obtain ⟨R, hR⟩ : ∃ R, R = hopRV L := ⟨_, rfl⟩
  rw [← hR]
  have HR0 := Lib.hid hR
  obtain ⟨nn, hnn⟩ : ∃ v, v = rnV L 0 none 0 4096 := ⟨_, rfl⟩
  obtain ⟨hn0, hn1⟩ : 0 ≤ nn ∧ nn ≤ 4096 := by rw [hnn]; exact rnV_in L 0 none 0 4096 (by decide)
  obtain ⟨N, rfl⟩ : ∃ N : Nat, nn = (N : Int) := ⟨nn.toNat, by omega⟩
  have HNN := Lib.hid hnn
  have HBy := Lib.hid hB
  have HS := Lib.hid hs
  obtain ⟨i0, hi0, hz0, hz1, hz2⟩ := info_parts hop_info
  clear hs hR hnn hB
  go_enter Try.func65, Try.ntmps65
  go_wp2_with fail
  (with_reducible refine (cNewReader_any A c L HBy.out _ (HS.out.ext (by repeat (first | with_reducible exact Ext.refl _ | with_reducible refine Ext.drew ?_ | with_reducible refine Ext.drewN ?_ _ | with_reducible refine Ext.alloc ?_ _ | with_reducible refine Ext.setCell ?_ (by first | omega | (simp; done) | (simp; omega)) _))) hL hnil).mono ?_)
  rintro e w1 ⟨g, rfl, hg, hRd, hx1⟩
  have c0_0f : w1.frozen? ⟨w.heap.size, 0, none⟩ = false := hx1.froz (v := .int .i64 0) (by first | fail | (simp [go_sem, World.cell?_alloc_past]; done)) (by first | fail | (simp [go_sem, World.cell?_alloc_past]; done))
  have c0_1f : w1.frozen? ⟨w.heap.size, 1, none⟩ = false := hx1.froz (v := .int .i64 0) (by first | fail | (simp [go_sem, World.cell?_alloc_past]; done)) (by first | fail | (simp [go_sem, World.cell?_alloc_past]; done))
  have c0_0 : w1.cell? ⟨w.heap.size, 0, none⟩ = some (.int .i64 0) := hx1.has (by first | fail | (simp [go_sem, World.cell?_alloc_past]; done))
  have c0_1 : w1.cell? ⟨w.heap.size, 1, none⟩ = some (.int .i64 0) := hx1.has (by first | fail | (simp [go_sem, World.cell?_alloc_past]; done))
  have z1 := hx1.size
  try simp at z1
  have rc0 : w.heap.size < w1.heap.size := by omega
  have rc0a : w.heap.size < w1.heap.size + 1 := by omega
  have rc0b : w.heap.size < w1.heap.size + 1 + 1 := by omega
  have rc0c : w.heap.size < w1.heap.size + 1 + 1 + 1 := by omega
  have rc0n : ¬ w.heap.size = w1.heap.size := by omega
  have X1 : Hid (Ext w w1) := Lib.hid (Ext.trans (by repeat (first | with_reducible exact Ext.refl w | with_reducible refine Ext.drew ?_ | with_reducible refine Ext.drewN ?_ _ | with_reducible refine Ext.alloc ?_ _ | with_reducible refine Ext.setCell ?_ (by first | omega | (simp; done) | (simp; omega)) _)) hx1)
  have HR := Lib.hid hRd
  clear HS hx1 z1 hRd
  have hgw : w.heap.size < g := by (try simp at hg); omega
  have hgl := HR.out.lt
  go_wp2_with fail
  (with_reducible refine (cRN_e g 0 (hopS0 L).1 L none (hopS0 L).2.1 0 4096 (N : Int) (by decide) (by decide) (by decide) (by decide) hL HNN.out rfl rfl _ (HR.out.ext (by repeat (first | with_reducible exact Ext.refl _ | with_reducible refine Ext.drew ?_ | with_reducible refine Ext.drewN ?_ _ | with_reducible refine Ext.alloc ?_ _ | with_reducible refine Ext.setCell ?_ (by first | omega | (simp; done) | (simp; omega)) _)))).mono ?_)
  rintro e w2 ⟨rfl, hRd, hx2⟩
  have hsz2 := hx2.size
  try simp at hsz2
  replace c0_0f : w2.frozen? ⟨w.heap.size, 0, none⟩ = false := hx2.froz (by show ¬ _ = _; first | assumption | omega) (v := .int .i64 0) (by first | exact c0_0 | (simp [go_sem, World.cell?_alloc_past, c0_0f, c0_1f, c0_0, c0_1, rc0, rc0a, rc0b, rc0c, rc0n]; done)) (by first | exact c0_0f | (simp [go_sem, World.cell?_alloc_past, c0_0f, c0_1f, c0_0, c0_1, rc0, rc0a, rc0b, rc0c, rc0n]; done))
  replace c0_1f : w2.frozen? ⟨w.heap.size, 1, none⟩ = false := hx2.froz (by show ¬ _ = _; first | assumption | omega) (v := .int .i64 0) (by first | exact c0_1 | (simp [go_sem, World.cell?_alloc_past, c0_0f, c0_1f, c0_0, c0_1, rc0, rc0a, rc0b, rc0c, rc0n]; done)) (by first | exact c0_1f | (simp [go_sem, World.cell?_alloc_past, c0_0f, c0_1f, c0_0, c0_1, rc0, rc0a, rc0b, rc0c, rc0n]; done))
  replace c0_0 : w2.cell? ⟨w.heap.size, 0, none⟩ = some (.int .i64 0) := hx2.has (by show ¬ _ = _; first | assumption | omega) (by first | exact c0_0 | (simp [go_sem, World.cell?_alloc_past, c0_0f, c0_1f, c0_0, c0_1, rc0, rc0a, rc0b, rc0c, rc0n]; done))
  replace c0_1 : w2.cell? ⟨w.heap.size, 1, none⟩ = some (.int .i64 0) := hx2.has (by show ¬ _ = _; first | assumption | omega) (by first | exact c0_1 | (simp [go_sem, World.cell?_alloc_past, c0_0f, c0_1f, c0_0, c0_1, rc0, rc0a, rc0b, rc0c, rc0n]; done))
  have z2 := hx2.size
  try simp at z2
  replace rc0 : w.heap.size < w2.heap.size := by omega
  replace rc0a : w.heap.size < w2.heap.size + 1 := by omega
  replace rc0b : w.heap.size < w2.heap.size + 1 + 1 := by omega
  replace rc0c : w.heap.size < w2.heap.size + 1 + 1 + 1 := by omega
  replace rc0n : ¬ w.heap.size = w2.heap.size := by omega
  have X2 : Hid (Ext w w2) := Lib.hid (have hX := (show Ext w _ from (by repeat (first | with_reducible exact X1.out | with_reducible refine Ext.drew ?_ | with_reducible refine Ext.drewN ?_ _ | with_reducible refine Ext.alloc ?_ _ | with_reducible refine Ext.setCell ?_ (by first | omega | (simp; done) | (simp; omega)) _))); Below.trans hX (hx2.below (Ext.size hX) (fun k hk hh => by have hh2 : k = g := hh; omega)))
  clear HR
  have HR := Lib.hid hRd
  clear hsz2 X1 hx2 z2 hRd
  have hgl2 := HR.out.lt
  go_wp2_with fail
  go_loopg [5, 14] N (fun gh q i wx => gh ≤ N ∧ i = .int .i64 ((N - gh : Nat) : Int) ∧ Hid (Rd wx g L (hopRd L (hopS0 L) (N - gh)).1 (hopRd L (hopS0 L) (N - gh)).2.1) ∧ Hid (wx.ownsRow (g + 1) 24 4 q (hopRd L (hopS0 L) (N - gh)).2.2.length ((hopRd L (hopS0 L) (N - gh)).2.2.flatMap hopC)) ∧ (wx.cell? ⟨w.heap.size, 0, none⟩ = some (.int .i64 0) ∧ wx.cell? ⟨w.heap.size, 1, none⟩ = some (.int .i64 0) ∧ wx.frozen? ⟨w.heap.size, 0, none⟩ = false ∧ wx.frozen? ⟨w.heap.size, 1, none⟩ = false) ∧ Ext w wx)
  case atStart => exact ⟨Nat.le_refl _, by simp, by rw [Nat.sub_self]; exact HR, by rw [Nat.sub_self]; exact Lib.hid (World.ownsRow_nil _ _ _ _), ⟨c0_0, c0_1, c0_0f, c0_1f⟩, X2.out⟩
  case round =>
    obtain ⟨hg, hi, hr, ho, ⟨y_0, y_1, y_0f, y_1f⟩, hx⟩ := hrel
    obtain ⟨j, hj⟩ : ∃ j, j = N - gk := ⟨_, rfl⟩
    rw [← hj] at hi hr ho
    subst hi
    have XR := Lib.hid hx
    have hyr : w.heap.size < wr.heap.size := cell_lt y_0
    have hgr : g < wr.heap.size := hr.out.lt
    obtain ⟨s, hs⟩ : ∃ s, s = hopRd L (hopS0 L) j := ⟨_, rfl⟩
    rw [← hs] at hr ho
    have hlen : s.2.2.length = j := by rw [hs, hopRd_len]; simp [hopS0]
    by_cases hz : gk = 0
    · have hkn : ¬ (j : Int) < N := by omega
      have hjn : j = N := by omega
      have hE0 : R = hopEnd L s := by rw [HR0.out, hs, hjn]; unfold hopRV; rw [← HNN.out, show ((N : Int)).toNat = N from by simp]
      obtain ⟨k, f, out⟩ := s
      obtain ⟨⟨e, a⟩, hea⟩ : ∃ E, E = endF f k L.length := ⟨_, rfl⟩
      unfold hopEnd at hE0
      simp only at hE0 hr ho
      rw [← hea] at hE0
      have HEA := Lib.hid hea
      have HE := Lib.hid hE0
      have HRd := hr
      have HO := Lib.hid (OwnR.mk ho.out)
      clear hx hj hg hz hs hjn hlen hea hE0 hr ho
      go_wp2_with fail
      (with_reducible refine (cEnd_h g k L f e a _ (HRd.out.ext (by repeat (first | with_reducible exact Ext.refl _ | with_reducible refine Ext.drew ?_ | with_reducible refine Ext.drewN ?_ _ | with_reducible refine Ext.alloc ?_ _ | with_reducible refine Ext.setCell ?_ (by first | omega | (simp; done) | (simp; omega)) _))) hL HEA.out).mono ?_)
      rintro e w41 ⟨rfl, hx41⟩
      replace y_0f : w41.frozen? ⟨w.heap.size, 0, none⟩ = false := hx41.froz (v := .int .i64 0) (by first | exact y_0 | (simp [go_sem, World.cell?_alloc_past, y_0, y_0f, y_1, y_1f]; done)) (by first | exact y_0f | (simp [go_sem, World.cell?_alloc_past, y_0, y_0f, y_1, y_1f]; done))
      replace y_1f : w41.frozen? ⟨w.heap.size, 1, none⟩ = false := hx41.froz (v := .int .i64 0) (by first | exact y_1 | (simp [go_sem, World.cell?_alloc_past, y_0, y_0f, y_1, y_1f]; done)) (by first | exact y_1f | (simp [go_sem, World.cell?_alloc_past, y_0, y_0f, y_1, y_1f]; done))
      replace y_0 : w41.cell? ⟨w.heap.size, 0, none⟩ = some (.int .i64 0) := hx41.has (by first | exact y_0 | (simp [go_sem, World.cell?_alloc_past, y_0, y_0f, y_1, y_1f]; done))
      replace y_1 : w41.cell? ⟨w.heap.size, 1, none⟩ = some (.int .i64 0) := hx41.has (by first | exact y_1 | (simp [go_sem, World.cell?_alloc_past, y_0, y_0f, y_1, y_1f]; done))
      have z41 := hx41.size
      try simp at z41
      have ry : w.heap.size < w41.heap.size := by omega
      have rya : w.heap.size < w41.heap.size + 1 := by omega
      have ryb : w.heap.size < w41.heap.size + 1 + 1 := by omega
      have ryc : w.heap.size < w41.heap.size + 1 + 1 + 1 := by omega
      have ryn : ¬ w.heap.size = w41.heap.size := by omega
      replace HRd := Lib.hid (HRd.out.ext (Ext.trans (by repeat (first | with_reducible exact Ext.refl _ | with_reducible refine Ext.drew ?_ | with_reducible refine Ext.drewN ?_ _ | with_reducible refine Ext.alloc ?_ _ | with_reducible refine Ext.setCell ?_ (by first | omega | (simp; done) | (simp; omega)) _)) hx41))
      replace HO := Lib.hid (HO.out.ext (Ext.trans (by repeat (first | with_reducible exact Ext.refl _ | with_reducible refine Ext.drew ?_ | with_reducible refine Ext.drewN ?_ _ | with_reducible refine Ext.alloc ?_ _ | with_reducible refine Ext.setCell ?_ (by first | omega | (simp; done) | (simp; omega)) _)) hx41))
      have X41 : Hid (Ext w w41) := Lib.hid (Ext.trans (by repeat (first | with_reducible exact XR.out | with_reducible refine Ext.drew ?_ | with_reducible refine Ext.drewN ?_ _ | with_reducible refine Ext.alloc ?_ _ | with_reducible refine Ext.setCell ?_ (by first | omega | (simp; done) | (simp; omega)) _)) hx41)
      clear XR hx41 z41
      by_cases he : e ≠ 0
      · have e7 : (e != 0) = true := by simpa using he
        go_wp2_with fail
        refine wp_region_held_drew (S := fun w' => w'.cell? ⟨w41.heap.size, 0, none⟩ = some (.int .i64 e) ∧ w'.cell? ⟨w41.heap.size, 1, none⟩ = some (.int .i64 a)) (by kernel_rfl) (by first | exact ⟨c0_0, c0_1⟩ | (simp [go_sem, World.cell?_alloc_past, y_0f, y_1f, y_0, y_1, ry, rya, ryb, ryc, ryn]; done)) (fun hHeld => ?_)
        (refine' take_in 0 rfl (by kernel_rfl) (by kernel_rfl) (by kernel_rfl) (fun _ _ _ h => h) (by rfl) (by assumption) ?_ ?_; rotate_left; focus (intro w hSw; (try dsimp only at hSw); go_simp; try with_reducible rfl)); try simp only [Act.put, List.setIfInBounds_toArray, List.set_cons_zero, List.set_cons_succ]
        (refine' take_in 1 rfl (by kernel_rfl) (by kernel_rfl) (by kernel_rfl) (fun _ _ _ h => h) (by rfl) (by assumption) ?_ ?_; rotate_left; focus (intro w hSw; (try dsimp only at hSw); go_simp; try with_reducible rfl)); try simp only [Act.put, List.setIfInBounds_toArray, List.set_cons_zero, List.set_cons_succ]
        refine' next_in 2 rfl (by kernel_rfl) (by rfl) (fun K hK => ?_)
        go_simp
        refine hK.out _ _ (by (first | exact ⟨c0_0, c0_1⟩ | (simp [go_sem, World.cell?_alloc_past, y_0f, y_1f, y_0, y_1, ry, rya, ryb, ryc, ryn]; done))) (fun hHeld => ?_); clear hK K; try simp only [Act.put, List.setIfInBounds_toArray, List.set_cons_zero, List.set_cons_succ]
        refine wpAnyH_done (by kernel_rfl) ?_ _
        obtain rfl : R = ([], e, a) := HE.out.trans (if_neg he)
        go_wp2_with fail
        refine bodyPost_ret (v := .tuple #[.slice none 0 0, .agg #[.int .i64 e, .int .i64 a]]) (by simp [results, Try.results65, go_sem, World.cell?_alloc_past, y_0f, y_1f, y_0, y_1, ry, rya, ryb, ryc, ryn]; try rfl) rfl (RetHopV.nil (xs := [.agg #[.int .i64 e, .int .i64 a]]) ?_)
        exact (by repeat (first | with_reducible exact X41.out | with_reducible refine Ext.drew ?_ | with_reducible refine Ext.drewN ?_ _ | with_reducible refine Ext.alloc ?_ _ | with_reducible refine Ext.setCell ?_ (by first | omega | (simp; done) | (simp; omega)) _))
      · have e7 : (e != 0) = false := by simpa using he
        obtain rfl : R = (out, 0, 0) := HE.out.trans (if_pos (by simpa using he))
        go_wp2_with fail
        refine bodyPost_ret (v := .tuple #[u5, .agg #[.int .i64 0, .int .i64 0]]) (by simp [results, Try.results65, go_sem, World.cell?_alloc_past, y_0f, y_1f, y_0, y_1, ry, rya, ryb, ryc, ryn]; try rfl) rfl (RetHopV.mk (n := out.length) (xs := [.agg #[.int .i64 0, .int .i64 0]]) ?_ (by repeat (first | with_reducible exact X41.out | with_reducible refine Ext.drew ?_ | with_reducible refine Ext.drewN ?_ _ | with_reducible refine Ext.alloc ?_ _ | with_reducible refine Ext.setCell ?_ (by first | omega | (simp; done) | (simp; omega)) _)) rfl)
        exact own_lower (own_but (S := fun j => j = w.heap.size ∨ w41.heap.size ≤ j) HO.out.own (by repeat (first | with_reducible exact But.refl _ _ | with_reducible refine But.drew ?_ | with_reducible refine But.drewN ?_ _ | with_reducible refine But.alloc ?_ _ | with_reducible refine But.setCell ?_ (by first | exact Or.inl rfl | (exact Or.inr (by (show _ ≤ _); omega))) _)) (fun j hj hh => by have h1 := own_block HO.out.own hj; rcases hh with hh | hh <;> omega)) (by omega)
    · have hkn : (j : Int) < N := by omega
      have hjs : (j : Int) ≤ 4096 := by omega
      have hnext : hopRd L (hopS0 L) (j + 1) = hopRd1 L s := by rw [hopRd, ← hs]
      obtain ⟨k, f, out⟩ := s
      simp only at hr ho hlen
      obtain ⟨x0, hx0⟩ : ∃ v, v = rnV L k f 0 63 := ⟨_, rfl⟩
      obtain ⟨k1, hk1⟩ : ∃ v, v = rnK L k f 0 63 := ⟨_, rfl⟩
      obtain ⟨f1, hf1⟩ : ∃ v, v = rnF L k f 0 63 := ⟨_, rfl⟩
      obtain ⟨x1, hx1⟩ : ∃ v, v = rnV L k1 f1 0 31 := ⟨_, rfl⟩
      obtain ⟨k2, hk2⟩ : ∃ v, v = rnK L k1 f1 0 31 := ⟨_, rfl⟩
      obtain ⟨f2, hf2⟩ : ∃ v, v = rnF L k1 f1 0 31 := ⟨_, rfl⟩
      obtain ⟨x2, hx2⟩ : ∃ v, v = rnV L k2 f2 0 31 := ⟨_, rfl⟩
      obtain ⟨k3, hk3⟩ : ∃ v, v = rnK L k2 f2 0 31 := ⟨_, rfl⟩
      obtain ⟨f3, hf3⟩ : ∃ v, v = rnF L k2 f2 0 31 := ⟨_, rfl⟩
      obtain ⟨f4, hf4⟩ : ∃ v, v = if x2 = x1 then failF f3 3 (atF f2 k2) else f3 := ⟨_, rfl⟩
      obtain ⟨x3, hx3⟩ : ∃ v, v = rnV L k3 f4 1 4294967296 := ⟨_, rfl⟩
      obtain ⟨k5, hk5⟩ : ∃ v, v = rnK L k3 f4 1 4294967296 := ⟨_, rfl⟩
      obtain ⟨f5, hf5⟩ : ∃ v, v = rnF L k3 f4 1 4294967296 := ⟨_, rfl⟩
      obtain ⟨f6, hf6⟩ : ∃ v, v = if ordB out x3 = true then failF f5 9 (atF f4 k3) else f5 := ⟨_, rfl⟩
      have hstep := hnext.trans (hopRd1_eq rfl hx0 hk1 hf1 hx1 hk2 hf2 hx2 hk3 hf3 hf4 hx3 hk5 hf5 hf6)
      have Gx0 := Lib.hid (And.intro hx0 (And.intro hk1 hf1))
      have Gx1 := Lib.hid (And.intro hx1 (And.intro hk2 hf2))
      have Gx2 := Lib.hid (And.intro hx2 (And.intro hk3 hf3))
      have Gx3 := Lib.hid (And.intro hx3 (And.intro hk5 hf5))
      have G4 := Lib.hid hf4
      have G6 := Lib.hid hf6
      have GS := Lib.hid hstep
      have GL := Lib.hid hlen
      have HK := Lib.hid (And.intro hj (And.intro hg hz))
      have HRd := hr
      have hOw := ho.out
      have HO := Lib.hid (OwnR.mk ho.out)
      clear hx hj hg hz hs hnext hr ho hlen hstep hf4 hf6 hx0 hk1 hf1 hx1 hk2 hf2 hx2 hk3 hf3 hx3 hk5 hf5
      by_cases hj0 : j = 0
      · subst hj0
        have HZ : Hid (ordB out x3 = false) := Lib.hid (by rw [List.eq_nil_of_length_eq_zero GL.out]; rfl)
        clear hOw
        go_wp2_with fail
        (with_reducible refine (cRN_e g k k1 L f f1 0 63 x0 (by decide) (by decide) (by decide) (by decide) hL Gx0.out.1 Gx0.out.2.1 Gx0.out.2.2 _ (HRd.out.ext (by repeat (first | with_reducible exact Ext.refl _ | with_reducible refine Ext.drew ?_ | with_reducible refine Ext.drewN ?_ _ | with_reducible refine Ext.alloc ?_ _ | with_reducible refine Ext.setCell ?_ (by first | omega | (simp; done) | (simp; omega)) _)))).mono ?_)
        rintro e w51 ⟨rfl, hRd, hx51⟩
        have hsz51 := hx51.size
        try simp at hsz51
        replace y_0f : w51.frozen? ⟨w.heap.size, 0, none⟩ = false := hx51.froz (by show ¬ _ = _; first | assumption | omega) (v := .int .i64 0) (by first | exact y_0 | (simp [go_sem, World.cell?_alloc_past, y_0, y_0f, y_1, y_1f]; done)) (by first | exact y_0f | (simp [go_sem, World.cell?_alloc_past, y_0, y_0f, y_1, y_1f]; done))
        replace y_1f : w51.frozen? ⟨w.heap.size, 1, none⟩ = false := hx51.froz (by show ¬ _ = _; first | assumption | omega) (v := .int .i64 0) (by first | exact y_1 | (simp [go_sem, World.cell?_alloc_past, y_0, y_0f, y_1, y_1f]; done)) (by first | exact y_1f | (simp [go_sem, World.cell?_alloc_past, y_0, y_0f, y_1, y_1f]; done))
        replace y_0 : w51.cell? ⟨w.heap.size, 0, none⟩ = some (.int .i64 0) := hx51.has (by show ¬ _ = _; first | assumption | omega) (by first | exact y_0 | (simp [go_sem, World.cell?_alloc_past, y_0, y_0f, y_1, y_1f]; done))
        replace y_1 : w51.cell? ⟨w.heap.size, 1, none⟩ = some (.int .i64 0) := hx51.has (by show ¬ _ = _; first | assumption | omega) (by first | exact y_1 | (simp [go_sem, World.cell?_alloc_past, y_0, y_0f, y_1, y_1f]; done))
        have z51 := hx51.size
        try simp at z51
        have ry : w.heap.size < w51.heap.size := by omega
        have rya : w.heap.size < w51.heap.size + 1 := by omega
        have ryb : w.heap.size < w51.heap.size + 1 + 1 := by omega
        have ryc : w.heap.size < w51.heap.size + 1 + 1 + 1 := by omega
        have ryn : ¬ w.heap.size = w51.heap.size := by omega
        have X51 : Hid (Ext w w51) := Lib.hid (have hX := (show Ext w _ from (by repeat (first | with_reducible exact XR.out | with_reducible refine Ext.drew ?_ | with_reducible refine Ext.drewN ?_ _ | with_reducible refine Ext.alloc ?_ _ | with_reducible refine Ext.setCell ?_ (by first | omega | (simp; done) | (simp; omega)) _))); Below.trans hX (hx51.below (Ext.size hX) (fun k hk hh => by have hh2 : k = g := hh; omega)))
        replace HO := Lib.hid (OwnR.but (OwnR.butN HO.out (by repeat (first | with_reducible exact But.refl _ _ | with_reducible refine But.drew ?_ | with_reducible refine But.drewN ?_ _ | with_reducible refine But.alloc ?_ _ | with_reducible refine But.setCell ?_ (by first | exact Nat.le_refl _ | (dsimp only; omega)) _ | with_reducible refine But.setNew ?_ (by first | omega | (simp; done) | (simp; omega)) _))) hx51 (by intro j h1 h2 hh; have h3 : j = g := hh; omega))
        clear HRd
        have HRd := Lib.hid hRd
        clear hsz51 XR hx51 z51 hRd
        go_wp2_with fail
        (with_reducible refine (cRN_e g k1 k2 L f1 f2 0 31 x1 (by decide) (by decide) (by decide) (by decide) hL Gx1.out.1 Gx1.out.2.1 Gx1.out.2.2 _ (HRd.out.ext (by repeat (first | with_reducible exact Ext.refl _ | with_reducible refine Ext.drew ?_ | with_reducible refine Ext.drewN ?_ _ | with_reducible refine Ext.alloc ?_ _ | with_reducible refine Ext.setCell ?_ (by first | omega | (simp; done) | (simp; omega)) _)))).mono ?_)
        rintro e w52 ⟨rfl, hRd, hx52⟩
        have hsz52 := hx52.size
        try simp at hsz52
        replace y_0f : w52.frozen? ⟨w.heap.size, 0, none⟩ = false := hx52.froz (by show ¬ _ = _; first | assumption | omega) (v := .int .i64 0) (by first | exact y_0 | (simp [go_sem, World.cell?_alloc_past, y_0f, y_1f, y_0, y_1, ry, rya, ryb, ryc, ryn]; done)) (by first | exact y_0f | (simp [go_sem, World.cell?_alloc_past, y_0f, y_1f, y_0, y_1, ry, rya, ryb, ryc, ryn]; done))
        replace y_1f : w52.frozen? ⟨w.heap.size, 1, none⟩ = false := hx52.froz (by show ¬ _ = _; first | assumption | omega) (v := .int .i64 0) (by first | exact y_1 | (simp [go_sem, World.cell?_alloc_past, y_0f, y_1f, y_0, y_1, ry, rya, ryb, ryc, ryn]; done)) (by first | exact y_1f | (simp [go_sem, World.cell?_alloc_past, y_0f, y_1f, y_0, y_1, ry, rya, ryb, ryc, ryn]; done))
        replace y_0 : w52.cell? ⟨w.heap.size, 0, none⟩ = some (.int .i64 0) := hx52.has (by show ¬ _ = _; first | assumption | omega) (by first | exact y_0 | (simp [go_sem, World.cell?_alloc_past, y_0f, y_1f, y_0, y_1, ry, rya, ryb, ryc, ryn]; done))
        replace y_1 : w52.cell? ⟨w.heap.size, 1, none⟩ = some (.int .i64 0) := hx52.has (by show ¬ _ = _; first | assumption | omega) (by first | exact y_1 | (simp [go_sem, World.cell?_alloc_past, y_0f, y_1f, y_0, y_1, ry, rya, ryb, ryc, ryn]; done))
        have z52 := hx52.size
        try simp at z52
        replace ry : w.heap.size < w52.heap.size := by omega
        replace rya : w.heap.size < w52.heap.size + 1 := by omega
        replace ryb : w.heap.size < w52.heap.size + 1 + 1 := by omega
        replace ryc : w.heap.size < w52.heap.size + 1 + 1 + 1 := by omega
        replace ryn : ¬ w.heap.size = w52.heap.size := by omega
        have X52 : Hid (Ext w w52) := Lib.hid (have hX := (show Ext w _ from (by repeat (first | with_reducible exact X51.out | with_reducible refine Ext.drew ?_ | with_reducible refine Ext.drewN ?_ _ | with_reducible refine Ext.alloc ?_ _ | with_reducible refine Ext.setCell ?_ (by first | omega | (simp; done) | (simp; omega)) _))); Below.trans hX (hx52.below (Ext.size hX) (fun k hk hh => by have hh2 : k = g := hh; omega)))
        replace HO := Lib.hid (OwnR.but (OwnR.butN HO.out (by repeat (first | with_reducible exact But.refl _ _ | with_reducible refine But.drew ?_ | with_reducible refine But.drewN ?_ _ | with_reducible refine But.alloc ?_ _ | with_reducible refine But.setCell ?_ (by first | exact Nat.le_refl _ | (dsimp only; omega)) _ | with_reducible refine But.setNew ?_ (by first | omega | (simp; done) | (simp; omega)) _))) hx52 (by intro j h1 h2 hh; have h3 : j = g := hh; omega))
        clear HRd
        have HRd := Lib.hid hRd
        clear hsz52 X51 hx52 z52 hRd
        have hgl4 := HRd.out.lt
        replace HO := Lib.hid HO.out.raise
        go_wp2_with fail
        (with_reducible refine (cAt_any g k2 L f2 _ (RdT.rd (q := w52.heap.size) (by repeat (first | with_reducible exact RdT.new HRd.out _ _ (by decide) | with_reducible refine RdT.set ?_ (by first | rfl | omega) _)))).mono ?_)
        rintro e w_1 ⟨rfl, rfl⟩
        go_wp2_with fail
        (with_reducible refine (cRN_Te (w52.heap.size) g k2 k3 L f2 f3 0 31 x2 (by decide) (by decide) (by decide) (by decide) hL Gx2.out.1 Gx2.out.2.1 Gx2.out.2.2 _ (by repeat (first | with_reducible exact RdT.new HRd.out _ _ (by decide) | with_reducible refine RdT.set ?_ (by first | rfl | omega) _))).mono ?_)
        rintro e w53 ⟨rfl, hRd, hx53⟩
        have hsz53 := hx53.size
        try simp at hsz53
        replace y_0f : w53.frozen? ⟨w.heap.size, 0, none⟩ = false := hx53.froz (by show ¬ _ = _; first | assumption | omega) (v := .int .i64 0) (by first | exact y_0 | (simp [go_sem, World.cell?_alloc_past, y_0f, y_1f, y_0, y_1, ry, rya, ryb, ryc, ryn]; done)) (by first | exact y_0f | (simp [go_sem, World.cell?_alloc_past, y_0f, y_1f, y_0, y_1, ry, rya, ryb, ryc, ryn]; done))
        replace y_1f : w53.frozen? ⟨w.heap.size, 1, none⟩ = false := hx53.froz (by show ¬ _ = _; first | assumption | omega) (v := .int .i64 0) (by first | exact y_1 | (simp [go_sem, World.cell?_alloc_past, y_0f, y_1f, y_0, y_1, ry, rya, ryb, ryc, ryn]; done)) (by first | exact y_1f | (simp [go_sem, World.cell?_alloc_past, y_0f, y_1f, y_0, y_1, ry, rya, ryb, ryc, ryn]; done))
        replace y_0 : w53.cell? ⟨w.heap.size, 0, none⟩ = some (.int .i64 0) := hx53.has (by show ¬ _ = _; first | assumption | omega) (by first | exact y_0 | (simp [go_sem, World.cell?_alloc_past, y_0f, y_1f, y_0, y_1, ry, rya, ryb, ryc, ryn]; done))
        replace y_1 : w53.cell? ⟨w.heap.size, 1, none⟩ = some (.int .i64 0) := hx53.has (by show ¬ _ = _; first | assumption | omega) (by first | exact y_1 | (simp [go_sem, World.cell?_alloc_past, y_0f, y_1f, y_0, y_1, ry, rya, ryb, ryc, ryn]; done))
        have c0_2f : w53.frozen? ⟨w52.heap.size, 2, none⟩ = false := hx53.froz (by show ¬ _ = _; first | assumption | omega) (v := .int .i64 0) (by first | fail | (simp [go_sem, World.cell?_alloc_past, y_0f, y_1f, y_0, y_1, ry, rya, ryb, ryc, ryn]; done)) (by first | fail | (simp [go_sem, World.cell?_alloc_past, y_0f, y_1f, y_0, y_1, ry, rya, ryb, ryc, ryn]; done))
        have c0_3f : w53.frozen? ⟨w52.heap.size, 3, none⟩ = false := hx53.froz (by show ¬ _ = _; first | assumption | omega) (v := .int .i64 0) (by first | fail | (simp [go_sem, World.cell?_alloc_past, y_0f, y_1f, y_0, y_1, ry, rya, ryb, ryc, ryn]; done)) (by first | fail | (simp [go_sem, World.cell?_alloc_past, y_0f, y_1f, y_0, y_1, ry, rya, ryb, ryc, ryn]; done))
        have c0_0 : w53.cell? ⟨w52.heap.size, 0, none⟩ = some (.int .i64 x0) := hx53.has (by show ¬ _ = _; first | assumption | omega) (by first | fail | (simp [go_sem, World.cell?_alloc_past, y_0f, y_1f, y_0, y_1, ry, rya, ryb, ryc, ryn]; done))
        have c0_1 : w53.cell? ⟨w52.heap.size, 1, none⟩ = some (.int .i64 x1) := hx53.has (by show ¬ _ = _; first | assumption | omega) (by first | fail | (simp [go_sem, World.cell?_alloc_past, y_0f, y_1f, y_0, y_1, ry, rya, ryb, ryc, ryn]; done))
        have c0_2 : w53.cell? ⟨w52.heap.size, 2, none⟩ = some (.int .i64 0) := hx53.has (by show ¬ _ = _; first | assumption | omega) (by first | fail | (simp [go_sem, World.cell?_alloc_past, y_0f, y_1f, y_0, y_1, ry, rya, ryb, ryc, ryn]; done))
        have c0_3 : w53.cell? ⟨w52.heap.size, 3, none⟩ = some (.int .i64 0) := hx53.has (by show ¬ _ = _; first | assumption | omega) (by first | fail | (simp [go_sem, World.cell?_alloc_past, y_0f, y_1f, y_0, y_1, ry, rya, ryb, ryc, ryn]; done))
        have z53 := hx53.size
        try simp at z53
        have lt_y_c0 : w.heap.size < w52.heap.size := by omega
        have ne_y_c0 : ¬ w.heap.size = w52.heap.size := by omega
        have ne_c0_y : ¬ w52.heap.size = w.heap.size := by omega
        replace ry : w.heap.size < w53.heap.size := by omega
        replace rya : w.heap.size < w53.heap.size + 1 := by omega
        replace ryb : w.heap.size < w53.heap.size + 1 + 1 := by omega
        replace ryc : w.heap.size < w53.heap.size + 1 + 1 + 1 := by omega
        replace ryn : ¬ w.heap.size = w53.heap.size := by omega
        have rc0 : w52.heap.size < w53.heap.size := by omega
        have rc0a : w52.heap.size < w53.heap.size + 1 := by omega
        have rc0b : w52.heap.size < w53.heap.size + 1 + 1 := by omega
        have rc0c : w52.heap.size < w53.heap.size + 1 + 1 + 1 := by omega
        have rc0n : ¬ w52.heap.size = w53.heap.size := by omega
        have X53 : Hid (Ext w w53) := Lib.hid (have hX := (show Ext w _ from (by repeat (first | with_reducible exact X52.out | with_reducible refine Ext.drew ?_ | with_reducible refine Ext.drewN ?_ _ | with_reducible refine Ext.alloc ?_ _ | with_reducible refine Ext.setCell ?_ (by first | omega | (simp; done) | (simp; omega)) _))); Below.trans hX (hx53.below (Ext.size hX) (fun k hk hh => by have hh2 : k = g := hh; omega)))
        replace HO := Lib.hid (OwnR.but (OwnR.butN HO.out (by repeat (first | with_reducible exact But.refl _ _ | with_reducible refine But.drew ?_ | with_reducible refine But.drewN ?_ _ | with_reducible refine But.alloc ?_ _ | with_reducible refine But.setCell ?_ (by first | exact Nat.le_refl _ | (dsimp only; omega)) _ | with_reducible refine But.setNew ?_ (by first | omega | (simp; done) | (simp; omega)) _))) hx53 (by intro j h1 h2 hh; have h3 : j = g := hh; omega))
        have HT := Lib.hid hRd
        clear HRd hsz53 X52 hx53 z53 hRd
        by_cases h12 : x2 = x1
        · have e12 : (x2 == x1) = true := by simpa using h12
          have H12 := Lib.hid h12
          clear h12
          go_wp2_with fail
          (with_reducible refine (cFail_T (w52.heap.size) g k3 L f3 3 (atF f2 k2) _ (by repeat (first | with_reducible exact HT.out | with_reducible refine RdT.set ?_ (by omega) _ | with_reducible refine RdT.ext ?_ (Ext.alloc (Ext.refl _) _) | with_reducible refine RdT.ext ?_ (Ext.drew (Ext.refl _)) | with_reducible refine RdT.drewN ?_ _))).mono ?_)
          rintro e w54 ⟨⟨vv, rfl⟩, hRd, hx54⟩
          have hsz54 := hx54.size
          try simp at hsz54
          replace y_0f : w54.frozen? ⟨w.heap.size, 0, none⟩ = false := hx54.froz (by show ¬ _ = _; first | assumption | omega) (v := .int .i64 0) (by first | exact y_0 | (simp [go_sem, World.cell?_alloc_past, y_0f, y_1f, y_0, y_1, c0_2f, c0_3f, c0_0, c0_1, c0_2, c0_3, ne_y_c0, ne_c0_y, ry, rya, ryb, ryc, ryn, rc0, rc0a, rc0b, rc0c, rc0n]; done)) (by first | exact y_0f | (simp [go_sem, World.cell?_alloc_past, y_0f, y_1f, y_0, y_1, c0_2f, c0_3f, c0_0, c0_1, c0_2, c0_3, ne_y_c0, ne_c0_y, ry, rya, ryb, ryc, ryn, rc0, rc0a, rc0b, rc0c, rc0n]; done))
          replace y_1f : w54.frozen? ⟨w.heap.size, 1, none⟩ = false := hx54.froz (by show ¬ _ = _; first | assumption | omega) (v := .int .i64 0) (by first | exact y_1 | (simp [go_sem, World.cell?_alloc_past, y_0f, y_1f, y_0, y_1, c0_2f, c0_3f, c0_0, c0_1, c0_2, c0_3, ne_y_c0, ne_c0_y, ry, rya, ryb, ryc, ryn, rc0, rc0a, rc0b, rc0c, rc0n]; done)) (by first | exact y_1f | (simp [go_sem, World.cell?_alloc_past, y_0f, y_1f, y_0, y_1, c0_2f, c0_3f, c0_0, c0_1, c0_2, c0_3, ne_y_c0, ne_c0_y, ry, rya, ryb, ryc, ryn, rc0, rc0a, rc0b, rc0c, rc0n]; done))
          replace y_0 : w54.cell? ⟨w.heap.size, 0, none⟩ = some (.int .i64 0) := hx54.has (by show ¬ _ = _; first | assumption | omega) (by first | exact y_0 | (simp [go_sem, World.cell?_alloc_past, y_0f, y_1f, y_0, y_1, c0_2f, c0_3f, c0_0, c0_1, c0_2, c0_3, ne_y_c0, ne_c0_y, ry, rya, ryb, ryc, ryn, rc0, rc0a, rc0b, rc0c, rc0n]; done))
          replace y_1 : w54.cell? ⟨w.heap.size, 1, none⟩ = some (.int .i64 0) := hx54.has (by show ¬ _ = _; first | assumption | omega) (by first | exact y_1 | (simp [go_sem, World.cell?_alloc_past, y_0f, y_1f, y_0, y_1, c0_2f, c0_3f, c0_0, c0_1, c0_2, c0_3, ne_y_c0, ne_c0_y, ry, rya, ryb, ryc, ryn, rc0, rc0a, rc0b, rc0c, rc0n]; done))
          replace c0_3f : w54.frozen? ⟨w52.heap.size, 3, none⟩ = false := hx54.froz (by show ¬ _ = _; first | assumption | omega) (v := .int .i64 0) (by first | exact c0_3 | (simp [go_sem, World.cell?_alloc_past, y_0f, y_1f, y_0, y_1, c0_2f, c0_3f, c0_0, c0_1, c0_2, c0_3, ne_y_c0, ne_c0_y, ry, rya, ryb, ryc, ryn, rc0, rc0a, rc0b, rc0c, rc0n]; done)) (by first | exact c0_3f | (simp [go_sem, World.cell?_alloc_past, y_0f, y_1f, y_0, y_1, c0_2f, c0_3f, c0_0, c0_1, c0_2, c0_3, ne_y_c0, ne_c0_y, ry, rya, ryb, ryc, ryn, rc0, rc0a, rc0b, rc0c, rc0n]; done))
          replace c0_0 : w54.cell? ⟨w52.heap.size, 0, none⟩ = some (.int .i64 x0) := hx54.has (by show ¬ _ = _; first | assumption | omega) (by first | exact c0_0 | (simp [go_sem, World.cell?_alloc_past, y_0f, y_1f, y_0, y_1, c0_2f, c0_3f, c0_0, c0_1, c0_2, c0_3, ne_y_c0, ne_c0_y, ry, rya, ryb, ryc, ryn, rc0, rc0a, rc0b, rc0c, rc0n]; done))
          replace c0_1 : w54.cell? ⟨w52.heap.size, 1, none⟩ = some (.int .i64 x1) := hx54.has (by show ¬ _ = _; first | assumption | omega) (by first | exact c0_1 | (simp [go_sem, World.cell?_alloc_past, y_0f, y_1f, y_0, y_1, c0_2f, c0_3f, c0_0, c0_1, c0_2, c0_3, ne_y_c0, ne_c0_y, ry, rya, ryb, ryc, ryn, rc0, rc0a, rc0b, rc0c, rc0n]; done))
          replace c0_2 : w54.cell? ⟨w52.heap.size, 2, none⟩ = some (.int .i64 x2) := hx54.has (by show ¬ _ = _; first | assumption | omega) (by first | exact c0_2 | (simp [go_sem, World.cell?_alloc_past, y_0f, y_1f, y_0, y_1, c0_2f, c0_3f, c0_0, c0_1, c0_2, c0_3, ne_y_c0, ne_c0_y, ry, rya, ryb, ryc, ryn, rc0, rc0a, rc0b, rc0c, rc0n]; done))
          replace c0_3 : w54.cell? ⟨w52.heap.size, 3, none⟩ = some (.int .i64 0) := hx54.has (by show ¬ _ = _; first | assumption | omega) (by first | exact c0_3 | (simp [go_sem, World.cell?_alloc_past, y_0f, y_1f, y_0, y_1, c0_2f, c0_3f, c0_0, c0_1, c0_2, c0_3, ne_y_c0, ne_c0_y, ry, rya, ryb, ryc, ryn, rc0, rc0a, rc0b, rc0c, rc0n]; done))
          have z54 := hx54.size
          try simp at z54
          replace ry : w.heap.size < w54.heap.size := by omega
          replace rya : w.heap.size < w54.heap.size + 1 := by omega
          replace ryb : w.heap.size < w54.heap.size + 1 + 1 := by omega
          replace ryc : w.heap.size < w54.heap.size + 1 + 1 + 1 := by omega
          replace ryn : ¬ w.heap.size = w54.heap.size := by omega
          replace rc0 : w52.heap.size < w54.heap.size := by omega
          replace rc0a : w52.heap.size < w54.heap.size + 1 := by omega
          replace rc0b : w52.heap.size < w54.heap.size + 1 + 1 := by omega
          replace rc0c : w52.heap.size < w54.heap.size + 1 + 1 + 1 := by omega
          replace rc0n : ¬ w52.heap.size = w54.heap.size := by omega
          have X54 : Hid (Ext w w54) := Lib.hid (have hX := (show Ext w _ from (by repeat (first | with_reducible exact X53.out | with_reducible refine Ext.drew ?_ | with_reducible refine Ext.drewN ?_ _ | with_reducible refine Ext.alloc ?_ _ | with_reducible refine Ext.setCell ?_ (by first | omega | (simp; done) | (simp; omega)) _))); Below.trans hX (hx54.below (Ext.size hX) (fun k hk hh => by have hh2 : k = g := hh; omega)))
          replace HO := Lib.hid (OwnR.but (OwnR.butN HO.out (by repeat (first | with_reducible exact But.refl _ _ | with_reducible refine But.drew ?_ | with_reducible refine But.drewN ?_ _ | with_reducible refine But.alloc ?_ _ | with_reducible refine But.setCell ?_ (by first | exact Nat.le_refl _ | (dsimp only; omega)) _ | with_reducible refine But.setNew ?_ (by first | omega | (simp; done) | (simp; omega)) _))) hx54 (by intro j h1 h2 hh; have h3 : j = g := hh; omega))
          clear HT
          have HT := Lib.hid hRd
          clear c0_2f hsz54 X53 hx54 z54 hRd
          replace HT : Hid (RdT w52.heap.size _ g L k3 f4) := Lib.hid (by rw [G4.out, if_pos H12.out]; exact HT.out)
          go_wp2_with fail
          (with_reducible refine (cAt_any g k3 L f4 _ (RdT.rd (q := w52.heap.size) (by repeat (first | with_reducible exact HT.out | with_reducible refine RdT.set ?_ (by omega) _ | with_reducible refine RdT.ext ?_ (Ext.alloc (Ext.refl _) _) | with_reducible refine RdT.ext ?_ (Ext.drew (Ext.refl _)) | with_reducible refine RdT.drewN ?_ _)))).mono ?_)
          rintro e w_2 ⟨rfl, rfl⟩
          go_wp2_with fail
          (with_reducible refine (cRN_Te (w52.heap.size) g k3 k5 L f4 f5 1 4294967296 x3 (by decide) (by decide) (by decide) (by decide) hL Gx3.out.1 Gx3.out.2.1 Gx3.out.2.2 _ (by repeat (first | with_reducible exact HT.out | with_reducible refine RdT.set ?_ (by omega) _ | with_reducible refine RdT.ext ?_ (Ext.alloc (Ext.refl _) _) | with_reducible refine RdT.ext ?_ (Ext.drew (Ext.refl _)) | with_reducible refine RdT.drewN ?_ _))).mono ?_)
          rintro e w55 ⟨rfl, hRd, hx55⟩
          have hsz55 := hx55.size
          try simp at hsz55
          replace y_0f : w55.frozen? ⟨w.heap.size, 0, none⟩ = false := hx55.froz (by show ¬ _ = _; first | assumption | omega) (v := .int .i64 0) (by first | exact y_0 | (simp [go_sem, World.cell?_alloc_past, y_0f, y_1f, y_0, y_1, c0_3f, c0_0, c0_1, c0_2, c0_3, ne_y_c0, ne_c0_y, ry, rya, ryb, ryc, ryn, rc0, rc0a, rc0b, rc0c, rc0n]; done)) (by first | exact y_0f | (simp [go_sem, World.cell?_alloc_past, y_0f, y_1f, y_0, y_1, c0_3f, c0_0, c0_1, c0_2, c0_3, ne_y_c0, ne_c0_y, ry, rya, ryb, ryc, ryn, rc0, rc0a, rc0b, rc0c, rc0n]; done))
          replace y_1f : w55.frozen? ⟨w.heap.size, 1, none⟩ = false := hx55.froz (by show ¬ _ = _; first | assumption | omega) (v := .int .i64 0) (by first | exact y_1 | (simp [go_sem, World.cell?_alloc_past, y_0f, y_1f, y_0, y_1, c0_3f, c0_0, c0_1, c0_2, c0_3, ne_y_c0, ne_c0_y, ry, rya, ryb, ryc, ryn, rc0, rc0a, rc0b, rc0c, rc0n]; done)) (by first | exact y_1f | (simp [go_sem, World.cell?_alloc_past, y_0f, y_1f, y_0, y_1, c0_3f, c0_0, c0_1, c0_2, c0_3, ne_y_c0, ne_c0_y, ry, rya, ryb, ryc, ryn, rc0, rc0a, rc0b, rc0c, rc0n]; done))
          replace y_0 : w55.cell? ⟨w.heap.size, 0, none⟩ = some (.int .i64 0) := hx55.has (by show ¬ _ = _; first | assumption | omega) (by first | exact y_0 | (simp [go_sem, World.cell?_alloc_past, y_0f, y_1f, y_0, y_1, c0_3f, c0_0, c0_1, c0_2, c0_3, ne_y_c0, ne_c0_y, ry, rya, ryb, ryc, ryn, rc0, rc0a, rc0b, rc0c, rc0n]; done))
          replace y_1 : w55.cell? ⟨w.heap.size, 1, none⟩ = some (.int .i64 0) := hx55.has (by show ¬ _ = _; first | assumption | omega) (by first | exact y_1 | (simp [go_sem, World.cell?_alloc_past, y_0f, y_1f, y_0, y_1, c0_3f, c0_0, c0_1, c0_2, c0_3, ne_y_c0, ne_c0_y, ry, rya, ryb, ryc, ryn, rc0, rc0a, rc0b, rc0c, rc0n]; done))
          replace c0_3f : w55.frozen? ⟨w52.heap.size, 3, none⟩ = false := hx55.froz (by show ¬ _ = _; first | assumption | omega) (v := .int .i64 0) (by first | exact c0_3 | (simp [go_sem, World.cell?_alloc_past, y_0f, y_1f, y_0, y_1, c0_3f, c0_0, c0_1, c0_2, c0_3, ne_y_c0, ne_c0_y, ry, rya, ryb, ryc, ryn, rc0, rc0a, rc0b, rc0c, rc0n]; done)) (by first | exact c0_3f | (simp [go_sem, World.cell?_alloc_past, y_0f, y_1f, y_0, y_1, c0_3f, c0_0, c0_1, c0_2, c0_3, ne_y_c0, ne_c0_y, ry, rya, ryb, ryc, ryn, rc0, rc0a, rc0b, rc0c, rc0n]; done))
          replace c0_0 : w55.cell? ⟨w52.heap.size, 0, none⟩ = some (.int .i64 x0) := hx55.has (by show ¬ _ = _; first | assumption | omega) (by first | exact c0_0 | (simp [go_sem, World.cell?_alloc_past, y_0f, y_1f, y_0, y_1, c0_3f, c0_0, c0_1, c0_2, c0_3, ne_y_c0, ne_c0_y, ry, rya, ryb, ryc, ryn, rc0, rc0a, rc0b, rc0c, rc0n]; done))
          replace c0_1 : w55.cell? ⟨w52.heap.size, 1, none⟩ = some (.int .i64 x1) := hx55.has (by show ¬ _ = _; first | assumption | omega) (by first | exact c0_1 | (simp [go_sem, World.cell?_alloc_past, y_0f, y_1f, y_0, y_1, c0_3f, c0_0, c0_1, c0_2, c0_3, ne_y_c0, ne_c0_y, ry, rya, ryb, ryc, ryn, rc0, rc0a, rc0b, rc0c, rc0n]; done))
          replace c0_2 : w55.cell? ⟨w52.heap.size, 2, none⟩ = some (.int .i64 x2) := hx55.has (by show ¬ _ = _; first | assumption | omega) (by first | exact c0_2 | (simp [go_sem, World.cell?_alloc_past, y_0f, y_1f, y_0, y_1, c0_3f, c0_0, c0_1, c0_2, c0_3, ne_y_c0, ne_c0_y, ry, rya, ryb, ryc, ryn, rc0, rc0a, rc0b, rc0c, rc0n]; done))
          replace c0_3 : w55.cell? ⟨w52.heap.size, 3, none⟩ = some (.int .i64 0) := hx55.has (by show ¬ _ = _; first | assumption | omega) (by first | exact c0_3 | (simp [go_sem, World.cell?_alloc_past, y_0f, y_1f, y_0, y_1, c0_3f, c0_0, c0_1, c0_2, c0_3, ne_y_c0, ne_c0_y, ry, rya, ryb, ryc, ryn, rc0, rc0a, rc0b, rc0c, rc0n]; done))
          have z55 := hx55.size
          try simp at z55
          replace ry : w.heap.size < w55.heap.size := by omega
          replace rya : w.heap.size < w55.heap.size + 1 := by omega
          replace ryb : w.heap.size < w55.heap.size + 1 + 1 := by omega
          replace ryc : w.heap.size < w55.heap.size + 1 + 1 + 1 := by omega
          replace ryn : ¬ w.heap.size = w55.heap.size := by omega
          replace rc0 : w52.heap.size < w55.heap.size := by omega
          replace rc0a : w52.heap.size < w55.heap.size + 1 := by omega
          replace rc0b : w52.heap.size < w55.heap.size + 1 + 1 := by omega
          replace rc0c : w52.heap.size < w55.heap.size + 1 + 1 + 1 := by omega
          replace rc0n : ¬ w52.heap.size = w55.heap.size := by omega
          have X55 : Hid (Ext w w55) := Lib.hid (have hX := (show Ext w _ from (by repeat (first | with_reducible exact X54.out | with_reducible refine Ext.drew ?_ | with_reducible refine Ext.drewN ?_ _ | with_reducible refine Ext.alloc ?_ _ | with_reducible refine Ext.setCell ?_ (by first | omega | (simp; done) | (simp; omega)) _))); Below.trans hX (hx55.below (Ext.size hX) (fun k hk hh => by have hh2 : k = g := hh; omega)))
          replace HO := Lib.hid (OwnR.but (OwnR.butN HO.out (by repeat (first | with_reducible exact But.refl _ _ | with_reducible refine But.drew ?_ | with_reducible refine But.drewN ?_ _ | with_reducible refine But.alloc ?_ _ | with_reducible refine But.setCell ?_ (by first | exact Nat.le_refl _ | (dsimp only; omega)) _ | with_reducible refine But.setNew ?_ (by first | omega | (simp; done) | (simp; omega)) _))) hx55 (by intro j h1 h2 hh; have h3 : j = g := hh; omega))
          clear HT
          have HT := Lib.hid hRd
          clear hsz55 X54 hx55 z55 hRd
          go_wp2_with fail
          refine wp_region_held_drew (S := fun w' => True) (by kernel_rfl) (by first | exact trivial | (simp [go_sem, World.cell?_alloc_past, y_0f, y_1f, y_0, y_1, c0_3f, c0_0, c0_1, c0_2, c0_3, ne_y_c0, ne_c0_y, ry, rya, ryb, ryc, ryn, rc0, rc0a, rc0b, rc0c, rc0n]; done)) (fun hHeld => ?_)
          (refine' take_in 0 rfl (by kernel_rfl) (by kernel_rfl) (by kernel_rfl) (fun _ _ _ h => h) (by rfl) (by assumption) ?_ ?_; rotate_left; focus (intro w hSw; (try dsimp only at hSw); go_simp; try with_reducible rfl)); try simp only [Act.put, List.setIfInBounds_toArray, List.set_cons_zero, List.set_cons_succ]
          (refine' take_in 1 rfl (by kernel_rfl) (by kernel_rfl) (by kernel_rfl) (fun _ _ _ h => h) (by rfl) (by assumption) ?_ ?_; rotate_left; focus (intro w hSw; (try dsimp only at hSw); go_simp; try with_reducible rfl)); try simp only [Act.put, List.setIfInBounds_toArray, List.set_cons_zero, List.set_cons_succ]
          (refine' take_in 2 rfl (by kernel_rfl) (by kernel_rfl) (by kernel_rfl) (fun _ _ _ h => h) (by rfl) (by assumption) ?_ ?_; rotate_left; focus (intro w hSw; (try dsimp only at hSw); go_simp; try with_reducible rfl)); try simp only [Act.put, List.setIfInBounds_toArray, List.set_cons_zero, List.set_cons_succ]
          (refine' skip_in 3 rfl (by kernel_rfl) (by kernel_rfl) (by kernel_rfl) (fun _ _ _ h => h) (by rfl) (by assumption) ?_); try simp only [Act.put, List.setIfInBounds_toArray, List.set_cons_zero, List.set_cons_succ]
          (refine' skip_in 4 rfl (by kernel_rfl) (by kernel_rfl) (by kernel_rfl) (fun _ _ _ h => h) (by rfl) (by assumption) ?_); try simp only [Act.put, List.setIfInBounds_toArray, List.set_cons_zero, List.set_cons_succ]
          (refine' skip_in 5 rfl (by kernel_rfl) (by kernel_rfl) (by kernel_rfl) (fun _ _ _ h => h) (by rfl) (by assumption) ?_); try simp only [Act.put, List.setIfInBounds_toArray, List.set_cons_zero, List.set_cons_succ]
          (refine' skip_in 6 rfl (by kernel_rfl) (by kernel_rfl) (by kernel_rfl) (fun _ _ _ h => h) (by rfl) (by assumption) ?_); try simp only [Act.put, List.setIfInBounds_toArray, List.set_cons_zero, List.set_cons_succ]
          (refine' skip_in 7 rfl (by kernel_rfl) (by kernel_rfl) (by kernel_rfl) (fun _ _ _ h => h) (by rfl) (by assumption) ?_); try simp only [Act.put, List.setIfInBounds_toArray, List.set_cons_zero, List.set_cons_succ]
          (refine' skip_in 8 rfl (by kernel_rfl) (by kernel_rfl) (by kernel_rfl) (fun _ _ _ h => h) (by rfl) (by assumption) ?_); try simp only [Act.put, List.setIfInBounds_toArray, List.set_cons_zero, List.set_cons_succ]
          (refine' skip_in 9 rfl (by kernel_rfl) (by kernel_rfl) (by kernel_rfl) (fun _ _ _ h => h) (by rfl) (by assumption) ?_); try simp only [Act.put, List.setIfInBounds_toArray, List.set_cons_zero, List.set_cons_succ]
          (refine' skip_in 10 rfl (by kernel_rfl) (by kernel_rfl) (by kernel_rfl) (fun _ _ _ h => h) (by rfl) (by assumption) ?_); try simp only [Act.put, List.setIfInBounds_toArray, List.set_cons_zero, List.set_cons_succ]
          (refine' skip_in 11 rfl (by kernel_rfl) (by kernel_rfl) (by kernel_rfl) (fun _ _ _ h => h) (by rfl) (by assumption) ?_); try simp only [Act.put, List.setIfInBounds_toArray, List.set_cons_zero, List.set_cons_succ]
          (refine' take_in 12 rfl (by kernel_rfl) (by kernel_rfl) (by kernel_rfl) (fun _ _ _ h => h) (by rfl) (by assumption) ?_ ?_; rotate_left; focus (intro w hSw; (try dsimp only at hSw); go_simp; try with_reducible rfl)); try simp only [Act.put, List.setIfInBounds_toArray, List.set_cons_zero, List.set_cons_succ]
          refine wpAnyH_done (by kernel_rfl) ?_ _
          have h65 : f6 = f5 := by rw [G6.out, HZ.out]; rfl
          replace HT : Hid (RdT w52.heap.size (w55.setCell ⟨w52.heap.size, 3, none⟩ (.int .i64 x3)) g L k5 f6) := Lib.hid (by rw [h65]; exact (by repeat (first | with_reducible exact HT.out | with_reducible refine RdT.set ?_ (by omega) _ | with_reducible refine RdT.ext ?_ (Ext.alloc (Ext.refl _) _) | with_reducible refine RdT.ext ?_ (Ext.drew (Ext.refl _)) | with_reducible refine RdT.drewN ?_ _)))
          clear h65
          have HRm := Lib.hid (show RdT w52.heap.size (w55.setCell ⟨w52.heap.size, 3, none⟩ (.int .i64 x3)) g L k5 f6 from HT.out).rd
          have HOm := Lib.hid (show OwnR w52.heap.size (w55.setCell ⟨w52.heap.size, 3, none⟩ (.int .i64 x3)) (g + 1) 24 4 (u5) out.length (out.flatMap hopC) from (OwnR.butN HO.out (by repeat (first | with_reducible exact But.refl _ _ | with_reducible refine But.drew ?_ | with_reducible refine But.drewN ?_ _ | with_reducible refine But.alloc ?_ _ | with_reducible refine But.setCell ?_ (by first | exact Nat.le_refl _ | (dsimp only; omega)) _ | with_reducible refine But.setNew ?_ (by first | omega | (simp; done) | (simp; omega)) _)))).own
          have Xm : Hid (Ext w (w55.setCell ⟨w52.heap.size, 3, none⟩ (.int .i64 x3))) := Lib.hid (by repeat (first | with_reducible exact X55.out | with_reducible refine Ext.drew ?_ | with_reducible refine Ext.drewN ?_ _ | with_reducible refine Ext.alloc ?_ _ | with_reducible refine Ext.setCell ?_ (by first | omega | (simp; done) | (simp; omega)) _))
          have hgm := HRm.out.lt
          go_wp2_with (at_builtin; refine wpList_append_slB _ rfl _ _ 22 rfl (g + 1) 24 i0 (.agg #[.int .i64 0, .int .i64 0, .int .i64 0, .int .i64 0]) 4 32 Try.underlying22 hi0 hz0 hz1 hz2 rfl (by decide) (u5) out.length _ (by rfl) (HOm.out.alloc _) (some ⟨w55.heap.size, 0, none⟩) 1 1 (hopC (x0, x1, x2, x3)) (by first | rfl | (simp [Act.eval]; done) | (simp [Act.eval, go_sem]; done)) (Sl.addrH (sl_new _ 24 4 #[.int .i64 x0, .int .i64 x1, .int .i64 x2, .int .i64 x3] 1 rfl (by decide)) (by first | rfl | (simp; done))) (by intro u hu; simp [hopC] at hu; rcases hu with rfl | rfl | rfl | rfl <;> rfl) (by have := GL.out; omega) (by decide) (by simp at hgm ⊢; omega) ?_; intro v2 wn hown2 hb2 hn2)
          have HOa := own_keep HOm.out (Ext.drew ((Ext.refl _).alloc (.cells #[.int .i64 x0, .int .i64 x1, .int .i64 x2, .int .i64 x3] 24)))
          have hwb : ¬ (Value.ownBlock (u5) = some w.heap.size) := fun hh => by have := (own_block HOa hh).1; omega
          go_roundg (gk - 1)
          case measure => have := HK.out; omega
          case rel =>
            have e : N - (gk - 1) = 0 + 1 := by have := HK.out; omega
            rw [e, GS.out]
            refine ⟨by have := HK.out; omega, num_eq (by have := HK.out; omega), Lib.hid ?_, Lib.hid ?_, ⟨?_, ?_, ?_, ?_⟩, ?_⟩
            · exact (HRm.out.ext (Ext.drew ((Ext.refl _).alloc (.cells #[.int .i64 x0, .int .i64 x1, .int .i64 x2, .int .i64 x3] 24)))).butT hb2 (own_ne_fault HOa (by omega) (by decide))
            · simpa [List.flatMap_append] using hown2
            · exact hb2.has hwb ((Ext.drew ((Ext.refl _).alloc (.cells #[.int .i64 x0, .int .i64 x1, .int .i64 x2, .int .i64 x3] 24))).has (by first | exact y_0 | (simp [go_sem, World.cell?_alloc_past, y_0f, y_1f, y_0, y_1, c0_3f, c0_0, c0_1, c0_2, c0_3, ne_y_c0, ne_c0_y, ry, rya, ryb, ryc, ryn, rc0, rc0a, rc0b, rc0c, rc0n]; done)))
            · exact hb2.has hwb ((Ext.drew ((Ext.refl _).alloc (.cells #[.int .i64 x0, .int .i64 x1, .int .i64 x2, .int .i64 x3] 24))).has (by first | exact y_1 | (simp [go_sem, World.cell?_alloc_past, y_0f, y_1f, y_0, y_1, c0_3f, c0_0, c0_1, c0_2, c0_3, ne_y_c0, ne_c0_y, ry, rya, ryb, ryc, ryn, rc0, rc0a, rc0b, rc0c, rc0n]; done)))
            · exact hb2.froz hwb (v := .int .i64 0) ((Ext.drew ((Ext.refl _).alloc (.cells #[.int .i64 x0, .int .i64 x1, .int .i64 x2, .int .i64 x3] 24))).has (by first | exact y_0 | (simp [go_sem, World.cell?_alloc_past, y_0f, y_1f, y_0, y_1, c0_3f, c0_0, c0_1, c0_2, c0_3, ne_y_c0, ne_c0_y, ry, rya, ryb, ryc, ryn, rc0, rc0a, rc0b, rc0c, rc0n]; done))) ((Ext.drew ((Ext.refl _).alloc (.cells #[.int .i64 x0, .int .i64 x1, .int .i64 x2, .int .i64 x3] 24))).froz (v := .int .i64 0) (by first | exact y_0 | (simp [go_sem, World.cell?_alloc_past, y_0f, y_1f, y_0, y_1, c0_3f, c0_0, c0_1, c0_2, c0_3, ne_y_c0, ne_c0_y, ry, rya, ryb, ryc, ryn, rc0, rc0a, rc0b, rc0c, rc0n]; done)) (by first | exact y_0f | (simp [go_sem, World.cell?_alloc_past, y_0f, y_1f, y_0, y_1, c0_3f, c0_0, c0_1, c0_2, c0_3, ne_y_c0, ne_c0_y, ry, rya, ryb, ryc, ryn, rc0, rc0a, rc0b, rc0c, rc0n]; done)))
            · exact hb2.froz hwb (v := .int .i64 0) ((Ext.drew ((Ext.refl _).alloc (.cells #[.int .i64 x0, .int .i64 x1, .int .i64 x2, .int .i64 x3] 24))).has (by first | exact y_1 | (simp [go_sem, World.cell?_alloc_past, y_0f, y_1f, y_0, y_1, c0_3f, c0_0, c0_1, c0_2, c0_3, ne_y_c0, ne_c0_y, ry, rya, ryb, ryc, ryn, rc0, rc0a, rc0b, rc0c, rc0n]; done))) ((Ext.drew ((Ext.refl _).alloc (.cells #[.int .i64 x0, .int .i64 x1, .int .i64 x2, .int .i64 x3] 24))).froz (v := .int .i64 0) (by first | exact y_1 | (simp [go_sem, World.cell?_alloc_past, y_0f, y_1f, y_0, y_1, c0_3f, c0_0, c0_1, c0_2, c0_3, ne_y_c0, ne_c0_y, ry, rya, ryb, ryc, ryn, rc0, rc0a, rc0b, rc0c, rc0n]; done)) (by first | exact y_1f | (simp [go_sem, World.cell?_alloc_past, y_0f, y_1f, y_0, y_1, c0_3f, c0_0, c0_1, c0_2, c0_3, ne_y_c0, ne_c0_y, ry, rya, ryb, ryc, ryn, rc0, rc0a, rc0b, rc0c, rc0n]; done)))
            · refine (fun (hxa : Ext w _) => Below.trans hxa (hb2.below hxa.size (fun k hk hh => by have := (own_block HOa hh).1; omega))) ?_
              exact Ext.drew (Ext.alloc Xm.out _)
        · have e12 : (x2 == x1) = false := by simpa using h12
          have h43 : f4 = f3 := by rw [G4.out, if_neg h12]
          clear h12
          replace HT : Hid (RdT w52.heap.size (w53.setCell ⟨w52.heap.size, 2, none⟩ (.int .i64 x2)) g L k3 f4) := Lib.hid (by rw [h43]; exact (by repeat (first | with_reducible exact HT.out | with_reducible refine RdT.set ?_ (by omega) _ | with_reducible refine RdT.ext ?_ (Ext.alloc (Ext.refl _) _) | with_reducible refine RdT.ext ?_ (Ext.drew (Ext.refl _)) | with_reducible refine RdT.drewN ?_ _)))
          clear h43
          go_wp2_with fail
          (with_reducible refine (cAt_any g k3 L f4 _ (RdT.rd (q := w52.heap.size) (by repeat (first | with_reducible exact HT.out | with_reducible refine RdT.set ?_ (by omega) _ | with_reducible refine RdT.ext ?_ (Ext.alloc (Ext.refl _) _) | with_reducible refine RdT.ext ?_ (Ext.drew (Ext.refl _)) | with_reducible refine RdT.drewN ?_ _)))).mono ?_)
          rintro e w_2 ⟨rfl, rfl⟩
          go_wp2_with fail
          (with_reducible refine (cRN_Te (w52.heap.size) g k3 k5 L f4 f5 1 4294967296 x3 (by decide) (by decide) (by decide) (by decide) hL Gx3.out.1 Gx3.out.2.1 Gx3.out.2.2 _ (by repeat (first | with_reducible exact HT.out | with_reducible refine RdT.set ?_ (by omega) _ | with_reducible refine RdT.ext ?_ (Ext.alloc (Ext.refl _) _) | with_reducible refine RdT.ext ?_ (Ext.drew (Ext.refl _)) | with_reducible refine RdT.drewN ?_ _))).mono ?_)
          rintro e w54 ⟨rfl, hRd, hx54⟩
          have hsz54 := hx54.size
          try simp at hsz54
          replace y_0f : w54.frozen? ⟨w.heap.size, 0, none⟩ = false := hx54.froz (by show ¬ _ = _; first | assumption | omega) (v := .int .i64 0) (by first | exact y_0 | (simp [go_sem, World.cell?_alloc_past, y_0f, y_1f, y_0, y_1, c0_2f, c0_3f, c0_0, c0_1, c0_2, c0_3, ne_y_c0, ne_c0_y, ry, rya, ryb, ryc, ryn, rc0, rc0a, rc0b, rc0c, rc0n]; done)) (by first | exact y_0f | (simp [go_sem, World.cell?_alloc_past, y_0f, y_1f, y_0, y_1, c0_2f, c0_3f, c0_0, c0_1, c0_2, c0_3, ne_y_c0, ne_c0_y, ry, rya, ryb, ryc, ryn, rc0, rc0a, rc0b, rc0c, rc0n]; done))
          replace y_1f : w54.frozen? ⟨w.heap.size, 1, none⟩ = false := hx54.froz (by show ¬ _ = _; first | assumption | omega) (v := .int .i64 0) (by first | exact y_1 | (simp [go_sem, World.cell?_alloc_past, y_0f, y_1f, y_0, y_1, c0_2f, c0_3f, c0_0, c0_1, c0_2, c0_3, ne_y_c0, ne_c0_y, ry, rya, ryb, ryc, ryn, rc0, rc0a, rc0b, rc0c, rc0n]; done)) (by first | exact y_1f | (simp [go_sem, World.cell?_alloc_past, y_0f, y_1f, y_0, y_1, c0_2f, c0_3f, c0_0, c0_1, c0_2, c0_3, ne_y_c0, ne_c0_y, ry, rya, ryb, ryc, ryn, rc0, rc0a, rc0b, rc0c, rc0n]; done))
          replace y_0 : w54.cell? ⟨w.heap.size, 0, none⟩ = some (.int .i64 0) := hx54.has (by show ¬ _ = _; first | assumption | omega) (by first | exact y_0 | (simp [go_sem, World.cell?_alloc_past, y_0f, y_1f, y_0, y_1, c0_2f, c0_3f, c0_0, c0_1, c0_2, c0_3, ne_y_c0, ne_c0_y, ry, rya, ryb, ryc, ryn, rc0, rc0a, rc0b, rc0c, rc0n]; done))
          replace y_1 : w54.cell? ⟨w.heap.size, 1, none⟩ = some (.int .i64 0) := hx54.has (by show ¬ _ = _; first | assumption | omega) (by first | exact y_1 | (simp [go_sem, World.cell?_alloc_past, y_0f, y_1f, y_0, y_1, c0_2f, c0_3f, c0_0, c0_1, c0_2, c0_3, ne_y_c0, ne_c0_y, ry, rya, ryb, ryc, ryn, rc0, rc0a, rc0b, rc0c, rc0n]; done))
          replace c0_3f : w54.frozen? ⟨w52.heap.size, 3, none⟩ = false := hx54.froz (by show ¬ _ = _; first | assumption | omega) (v := .int .i64 0) (by first | exact c0_3 | (simp [go_sem, World.cell?_alloc_past, y_0f, y_1f, y_0, y_1, c0_2f, c0_3f, c0_0, c0_1, c0_2, c0_3, ne_y_c0, ne_c0_y, ry, rya, ryb, ryc, ryn, rc0, rc0a, rc0b, rc0c, rc0n]; done)) (by first | exact c0_3f | (simp [go_sem, World.cell?_alloc_past, y_0f, y_1f, y_0, y_1, c0_2f, c0_3f, c0_0, c0_1, c0_2, c0_3, ne_y_c0, ne_c0_y, ry, rya, ryb, ryc, ryn, rc0, rc0a, rc0b, rc0c, rc0n]; done))
          replace c0_0 : w54.cell? ⟨w52.heap.size, 0, none⟩ = some (.int .i64 x0) := hx54.has (by show ¬ _ = _; first | assumption | omega) (by first | exact c0_0 | (simp [go_sem, World.cell?_alloc_past, y_0f, y_1f, y_0, y_1, c0_2f, c0_3f, c0_0, c0_1, c0_2, c0_3, ne_y_c0, ne_c0_y, ry, rya, ryb, ryc, ryn, rc0, rc0a, rc0b, rc0c, rc0n]; done))
          replace c0_1 : w54.cell? ⟨w52.heap.size, 1, none⟩ = some (.int .i64 x1) := hx54.has (by show ¬ _ = _; first | assumption | omega) (by first | exact c0_1 | (simp [go_sem, World.cell?_alloc_past, y_0f, y_1f, y_0, y_1, c0_2f, c0_3f, c0_0, c0_1, c0_2, c0_3, ne_y_c0, ne_c0_y, ry, rya, ryb, ryc, ryn, rc0, rc0a, rc0b, rc0c, rc0n]; done))
          replace c0_2 : w54.cell? ⟨w52.heap.size, 2, none⟩ = some (.int .i64 x2) := hx54.has (by show ¬ _ = _; first | assumption | omega) (by first | exact c0_2 | (simp [go_sem, World.cell?_alloc_past, y_0f, y_1f, y_0, y_1, c0_2f, c0_3f, c0_0, c0_1, c0_2, c0_3, ne_y_c0, ne_c0_y, ry, rya, ryb, ryc, ryn, rc0, rc0a, rc0b, rc0c, rc0n]; done))
          replace c0_3 : w54.cell? ⟨w52.heap.size, 3, none⟩ = some (.int .i64 0) := hx54.has (by show ¬ _ = _; first | assumption | omega) (by first | exact c0_3 | (simp [go_sem, World.cell?_alloc_past, y_0f, y_1f, y_0, y_1, c0_2f, c0_3f, c0_0, c0_1, c0_2, c0_3, ne_y_c0, ne_c0_y, ry, rya, ryb, ryc, ryn, rc0, rc0a, rc0b, rc0c, rc0n]; done))
          have z54 := hx54.size
          try simp at z54
          replace ry : w.heap.size < w54.heap.size := by omega
          replace rya : w.heap.size < w54.heap.size + 1 := by omega
          replace ryb : w.heap.size < w54.heap.size + 1 + 1 := by omega
          replace ryc : w.heap.size < w54.heap.size + 1 + 1 + 1 := by omega
          replace ryn : ¬ w.heap.size = w54.heap.size := by omega
          replace rc0 : w52.heap.size < w54.heap.size := by omega
          replace rc0a : w52.heap.size < w54.heap.size + 1 := by omega
          replace rc0b : w52.heap.size < w54.heap.size + 1 + 1 := by omega
          replace rc0c : w52.heap.size < w54.heap.size + 1 + 1 + 1 := by omega
          replace rc0n : ¬ w52.heap.size = w54.heap.size := by omega
          have X54 : Hid (Ext w w54) := Lib.hid (have hX := (show Ext w _ from (by repeat (first | with_reducible exact X53.out | with_reducible refine Ext.drew ?_ | with_reducible refine Ext.drewN ?_ _ | with_reducible refine Ext.alloc ?_ _ | with_reducible refine Ext.setCell ?_ (by first | omega | (simp; done) | (simp; omega)) _))); Below.trans hX (hx54.below (Ext.size hX) (fun k hk hh => by have hh2 : k = g := hh; omega)))
          replace HO := Lib.hid (OwnR.but (OwnR.butN HO.out (by repeat (first | with_reducible exact But.refl _ _ | with_reducible refine But.drew ?_ | with_reducible refine But.drewN ?_ _ | with_reducible refine But.alloc ?_ _ | with_reducible refine But.setCell ?_ (by first | exact Nat.le_refl _ | (dsimp only; omega)) _ | with_reducible refine But.setNew ?_ (by first | omega | (simp; done) | (simp; omega)) _))) hx54 (by intro j h1 h2 hh; have h3 : j = g := hh; omega))
          clear HT
          have HT := Lib.hid hRd
          clear c0_2f hsz54 X53 hx54 z54 hRd
          go_wp2_with fail
          refine wp_region_held_drew (S := fun w' => True) (by kernel_rfl) (by first | exact trivial | (simp [go_sem, World.cell?_alloc_past, y_0f, y_1f, y_0, y_1, c0_3f, c0_0, c0_1, c0_2, c0_3, ne_y_c0, ne_c0_y, ry, rya, ryb, ryc, ryn, rc0, rc0a, rc0b, rc0c, rc0n]; done)) (fun hHeld => ?_)
          (refine' take_in 0 rfl (by kernel_rfl) (by kernel_rfl) (by kernel_rfl) (fun _ _ _ h => h) (by rfl) (by assumption) ?_ ?_; rotate_left; focus (intro w hSw; (try dsimp only at hSw); go_simp; try with_reducible rfl)); try simp only [Act.put, List.setIfInBounds_toArray, List.set_cons_zero, List.set_cons_succ]
          (refine' take_in 1 rfl (by kernel_rfl) (by kernel_rfl) (by kernel_rfl) (fun _ _ _ h => h) (by rfl) (by assumption) ?_ ?_; rotate_left; focus (intro w hSw; (try dsimp only at hSw); go_simp; try with_reducible rfl)); try simp only [Act.put, List.setIfInBounds_toArray, List.set_cons_zero, List.set_cons_succ]
          (refine' take_in 2 rfl (by kernel_rfl) (by kernel_rfl) (by kernel_rfl) (fun _ _ _ h => h) (by rfl) (by assumption) ?_ ?_; rotate_left; focus (intro w hSw; (try dsimp only at hSw); go_simp; try with_reducible rfl)); try simp only [Act.put, List.setIfInBounds_toArray, List.set_cons_zero, List.set_cons_succ]
          (refine' skip_in 3 rfl (by kernel_rfl) (by kernel_rfl) (by kernel_rfl) (fun _ _ _ h => h) (by rfl) (by assumption) ?_); try simp only [Act.put, List.setIfInBounds_toArray, List.set_cons_zero, List.set_cons_succ]
          (refine' skip_in 4 rfl (by kernel_rfl) (by kernel_rfl) (by kernel_rfl) (fun _ _ _ h => h) (by rfl) (by assumption) ?_); try simp only [Act.put, List.setIfInBounds_toArray, List.set_cons_zero, List.set_cons_succ]
          (refine' skip_in 5 rfl (by kernel_rfl) (by kernel_rfl) (by kernel_rfl) (fun _ _ _ h => h) (by rfl) (by assumption) ?_); try simp only [Act.put, List.setIfInBounds_toArray, List.set_cons_zero, List.set_cons_succ]
          (refine' skip_in 6 rfl (by kernel_rfl) (by kernel_rfl) (by kernel_rfl) (fun _ _ _ h => h) (by rfl) (by assumption) ?_); try simp only [Act.put, List.setIfInBounds_toArray, List.set_cons_zero, List.set_cons_succ]
          (refine' skip_in 7 rfl (by kernel_rfl) (by kernel_rfl) (by kernel_rfl) (fun _ _ _ h => h) (by rfl) (by assumption) ?_); try simp only [Act.put, List.setIfInBounds_toArray, List.set_cons_zero, List.set_cons_succ]
          (refine' skip_in 8 rfl (by kernel_rfl) (by kernel_rfl) (by kernel_rfl) (fun _ _ _ h => h) (by rfl) (by assumption) ?_); try simp only [Act.put, List.setIfInBounds_toArray, List.set_cons_zero, List.set_cons_succ]
          (refine' skip_in 9 rfl (by kernel_rfl) (by kernel_rfl) (by kernel_rfl) (fun _ _ _ h => h) (by rfl) (by assumption) ?_); try simp only [Act.put, List.setIfInBounds_toArray, List.set_cons_zero, List.set_cons_succ]
          (refine' skip_in 10 rfl (by kernel_rfl) (by kernel_rfl) (by kernel_rfl) (fun _ _ _ h => h) (by rfl) (by assumption) ?_); try simp only [Act.put, List.setIfInBounds_toArray, List.set_cons_zero, List.set_cons_succ]
          (refine' skip_in 11 rfl (by kernel_rfl) (by kernel_rfl) (by kernel_rfl) (fun _ _ _ h => h) (by rfl) (by assumption) ?_); try simp only [Act.put, List.setIfInBounds_toArray, List.set_cons_zero, List.set_cons_succ]
          (refine' take_in 12 rfl (by kernel_rfl) (by kernel_rfl) (by kernel_rfl) (fun _ _ _ h => h) (by rfl) (by assumption) ?_ ?_; rotate_left; focus (intro w hSw; (try dsimp only at hSw); go_simp; try with_reducible rfl)); try simp only [Act.put, List.setIfInBounds_toArray, List.set_cons_zero, List.set_cons_succ]
          refine wpAnyH_done (by kernel_rfl) ?_ _
          have h65 : f6 = f5 := by rw [G6.out, HZ.out]; rfl
          replace HT : Hid (RdT w52.heap.size (w54.setCell ⟨w52.heap.size, 3, none⟩ (.int .i64 x3)) g L k5 f6) := Lib.hid (by rw [h65]; exact (by repeat (first | with_reducible exact HT.out | with_reducible refine RdT.set ?_ (by omega) _ | with_reducible refine RdT.ext ?_ (Ext.alloc (Ext.refl _) _) | with_reducible refine RdT.ext ?_ (Ext.drew (Ext.refl _)) | with_reducible refine RdT.drewN ?_ _)))
          clear h65
          have HRm := Lib.hid (show RdT w52.heap.size (w54.setCell ⟨w52.heap.size, 3, none⟩ (.int .i64 x3)) g L k5 f6 from HT.out).rd
          have HOm := Lib.hid (show OwnR w52.heap.size (w54.setCell ⟨w52.heap.size, 3, none⟩ (.int .i64 x3)) (g + 1) 24 4 (u5) out.length (out.flatMap hopC) from (OwnR.butN HO.out (by repeat (first | with_reducible exact But.refl _ _ | with_reducible refine But.drew ?_ | with_reducible refine But.drewN ?_ _ | with_reducible refine But.alloc ?_ _ | with_reducible refine But.setCell ?_ (by first | exact Nat.le_refl _ | (dsimp only; omega)) _ | with_reducible refine But.setNew ?_ (by first | omega | (simp; done) | (simp; omega)) _)))).own
          have Xm : Hid (Ext w (w54.setCell ⟨w52.heap.size, 3, none⟩ (.int .i64 x3))) := Lib.hid (by repeat (first | with_reducible exact X54.out | with_reducible refine Ext.drew ?_ | with_reducible refine Ext.drewN ?_ _ | with_reducible refine Ext.alloc ?_ _ | with_reducible refine Ext.setCell ?_ (by first | omega | (simp; done) | (simp; omega)) _))
          have hgm := HRm.out.lt
          go_wp2_with (at_builtin; refine wpList_append_slB _ rfl _ _ 22 rfl (g + 1) 24 i0 (.agg #[.int .i64 0, .int .i64 0, .int .i64 0, .int .i64 0]) 4 32 Try.underlying22 hi0 hz0 hz1 hz2 rfl (by decide) (u5) out.length _ (by rfl) (HOm.out.alloc _) (some ⟨w54.heap.size, 0, none⟩) 1 1 (hopC (x0, x1, x2, x3)) (by first | rfl | (simp [Act.eval]; done) | (simp [Act.eval, go_sem]; done)) (Sl.addrH (sl_new _ 24 4 #[.int .i64 x0, .int .i64 x1, .int .i64 x2, .int .i64 x3] 1 rfl (by decide)) (by first | rfl | (simp; done))) (by intro u hu; simp [hopC] at hu; rcases hu with rfl | rfl | rfl | rfl <;> rfl) (by have := GL.out; omega) (by decide) (by simp at hgm ⊢; omega) ?_; intro v2 wn hown2 hb2 hn2)
          have HOa := own_keep HOm.out (Ext.drew ((Ext.refl _).alloc (.cells #[.int .i64 x0, .int .i64 x1, .int .i64 x2, .int .i64 x3] 24)))
          have hwb : ¬ (Value.ownBlock (u5) = some w.heap.size) := fun hh => by have := (own_block HOa hh).1; omega
          go_roundg (gk - 1)
          case measure => have := HK.out; omega
          case rel =>
            have e : N - (gk - 1) = 0 + 1 := by have := HK.out; omega
            rw [e, GS.out]
            refine ⟨by have := HK.out; omega, num_eq (by have := HK.out; omega), Lib.hid ?_, Lib.hid ?_, ⟨?_, ?_, ?_, ?_⟩, ?_⟩
            · exact (HRm.out.ext (Ext.drew ((Ext.refl _).alloc (.cells #[.int .i64 x0, .int .i64 x1, .int .i64 x2, .int .i64 x3] 24)))).butT hb2 (own_ne_fault HOa (by omega) (by decide))
            · simpa [List.flatMap_append] using hown2
            · exact hb2.has hwb ((Ext.drew ((Ext.refl _).alloc (.cells #[.int .i64 x0, .int .i64 x1, .int .i64 x2, .int .i64 x3] 24))).has (by first | exact y_0 | (simp [go_sem, World.cell?_alloc_past, y_0f, y_1f, y_0, y_1, c0_3f, c0_0, c0_1, c0_2, c0_3, ne_y_c0, ne_c0_y, ry, rya, ryb, ryc, ryn, rc0, rc0a, rc0b, rc0c, rc0n]; done)))
            · exact hb2.has hwb ((Ext.drew ((Ext.refl _).alloc (.cells #[.int .i64 x0, .int .i64 x1, .int .i64 x2, .int .i64 x3] 24))).has (by first | exact y_1 | (simp [go_sem, World.cell?_alloc_past, y_0f, y_1f, y_0, y_1, c0_3f, c0_0, c0_1, c0_2, c0_3, ne_y_c0, ne_c0_y, ry, rya, ryb, ryc, ryn, rc0, rc0a, rc0b, rc0c, rc0n]; done)))
            · exact hb2.froz hwb (v := .int .i64 0) ((Ext.drew ((Ext.refl _).alloc (.cells #[.int .i64 x0, .int .i64 x1, .int .i64 x2, .int .i64 x3] 24))).has (by first | exact y_0 | (simp [go_sem, World.cell?_alloc_past, y_0f, y_1f, y_0, y_1, c0_3f, c0_0, c0_1, c0_2, c0_3, ne_y_c0, ne_c0_y, ry, rya, ryb, ryc, ryn, rc0, rc0a, rc0b, rc0c, rc0n]; done))) ((Ext.drew ((Ext.refl _).alloc (.cells #[.int .i64 x0, .int .i64 x1, .int .i64 x2, .int .i64 x3] 24))).froz (v := .int .i64 0) (by first | exact y_0 | (simp [go_sem, World.cell?_alloc_past, y_0f, y_1f, y_0, y_1, c0_3f, c0_0, c0_1, c0_2, c0_3, ne_y_c0, ne_c0_y, ry, rya, ryb, ryc, ryn, rc0, rc0a, rc0b, rc0c, rc0n]; done)) (by first | exact y_0f | (simp [go_sem, World.cell?_alloc_past, y_0f, y_1f, y_0, y_1, c0_3f, c0_0, c0_1, c0_2, c0_3, ne_y_c0, ne_c0_y, ry, rya, ryb, ryc, ryn, rc0, rc0a, rc0b, rc0c, rc0n]; done)))
            · exact hb2.froz hwb (v := .int .i64 0) ((Ext.drew ((Ext.refl _).alloc (.cells #[.int .i64 x0, .int .i64 x1, .int .i64 x2, .int .i64 x3] 24))).has (by first | exact y_1 | (simp [go_sem, World.cell?_alloc_past, y_0f, y_1f, y_0, y_1, c0_3f, c0_0, c0_1, c0_2, c0_3, ne_y_c0, ne_c0_y, ry, rya, ryb, ryc, ryn, rc0, rc0a, rc0b, rc0c, rc0n]; done))) ((Ext.drew ((Ext.refl _).alloc (.cells #[.int .i64 x0, .int .i64 x1, .int .i64 x2, .int .i64 x3] 24))).froz (v := .int .i64 0) (by first | exact y_1 | (simp [go_sem, World.cell?_alloc_past, y_0f, y_1f, y_0, y_1, c0_3f, c0_0, c0_1, c0_2, c0_3, ne_y_c0, ne_c0_y, ry, rya, ryb, ryc, ryn, rc0, rc0a, rc0b, rc0c, rc0n]; done)) (by first | exact y_1f | (simp [go_sem, World.cell?_alloc_past, y_0f, y_1f, y_0, y_1, c0_3f, c0_0, c0_1, c0_2, c0_3, ne_y_c0, ne_c0_y, ry, rya, ryb, ryc, ryn, rc0, rc0a, rc0b, rc0c, rc0n]; done)))
            · refine (fun (hxa : Ext w _) => Below.trans hxa (hb2.below hxa.size (fun k hk hh => by have := (own_block HOa hh).1; omega))) ?_
              exact Ext.drew (Ext.alloc Xm.out _)
      · obtain ⟨m, rfl⟩ : ∃ m, j = m + 1 := ⟨j - 1, by omega⟩
        obtain ⟨bo, co, rfl, hbo, hco⟩ : ∃ bo co, u5 = .slice (some ⟨bo, 0, none⟩) out.length co ∧ (g + 1 ≤ bo ∧ bo < wr.heap.size ∧ out.length ≤ co) ∧ ∀ j u, (out.flatMap hopC)[j]? = some u → wr.cell? ⟨bo, j, none⟩ = some u := by
          rcases hOw.2 with ⟨_, h0⟩ | ⟨b9, cap, cur, e9, hb9, hg9, hn9, _⟩
          · have := GL.out; omega
          · subst e9
            refine ⟨b9, cap, rfl, ⟨hb9, (Array.getElem?_eq_some_iff.1 hg9).1, hn9⟩, fun j u hu => ?_⟩
            have h := World.ownsRow.cells hOw rfl j u hu
            rwa [addr_add, Nat.zero_add] at h
        have hml : m < out.length := by have := GL.out; omega
        obtain ⟨⟨z0, z1, z2, z3⟩, hz⟩ : ∃ z, out[m]? = some z := ⟨out[m], List.getElem?_eq_getElem hml⟩
        have z_3 : wr.cell? ⟨bo, m * 4 + 3, none⟩ = some (.int .i64 z3) := hco (m * 4 + 3) _ (by rw [flat_get hopC_len out m 3 _ hz (by decide)]; rfl)
        have HZ : Hid (ordB out x3 = decide (x3 < z3)) := Lib.hid (ordB_last x3 hz GL.out)
        obtain ⟨hbo1, hbo2, hbo3⟩ := hbo
        have rz := hbo2
        have rza : bo < wr.heap.size + 1 := by omega
        have rzb : bo < wr.heap.size + 1 + 1 := by omega
        have rzc : bo < wr.heap.size + 1 + 1 + 1 := by omega
        have rzn : ¬ bo = wr.heap.size := by omega
        have hwm : IntKind.i64.wrap (((m + 1 : Nat) : Int) - 1) = (m : Int) := by rw [IntWalk.i64_in _ (by omega)]; omega
        have hwm2 : IntKind.i64.wrap (((m : Int) + 1) - 1) = (m : Int) := by rw [IntWalk.i64_in _ (by omega)]; omega
        have hwm3 : IntKind.i64.wrap (m : Int) = (m : Int) := IntWalk.i64_in _ (by omega)
        have hmo : (m : Int) < (out.length : Int) := by omega
        have hmm2 : (m : Int) < (m : Int) + 1 := by omega
        have hmm : (m : Int) < ((m + 1 : Nat) : Int) := by omega
        have hm0 : (0 : Int) < (m : Int) + 1 := by omega
        have hm1 : (0 : Int) < ((m + 1 : Nat) : Int) := by omega
        clear hOw hco hz hml hbo2 hj0
        go_wp2_with fail
        (with_reducible refine (cRN_e g k k1 L f f1 0 63 x0 (by decide) (by decide) (by decide) (by decide) hL Gx0.out.1 Gx0.out.2.1 Gx0.out.2.2 _ (HRd.out.ext (by repeat (first | with_reducible exact Ext.refl _ | with_reducible refine Ext.drew ?_ | with_reducible refine Ext.drewN ?_ _ | with_reducible refine Ext.alloc ?_ _ | with_reducible refine Ext.setCell ?_ (by first | omega | (simp; done) | (simp; omega)) _)))).mono ?_)
        rintro e w51 ⟨rfl, hRd, hx51⟩
        have hsz51 := hx51.size
        try simp at hsz51
        replace y_0f : w51.frozen? ⟨w.heap.size, 0, none⟩ = false := hx51.froz (by show ¬ _ = _; first | assumption | omega) (v := .int .i64 0) (by first | exact y_0 | (simp [go_sem, World.cell?_alloc_past, y_0, y_0f, y_1, y_1f, z_3, rz, rza, rzb, rzc, rzn]; done)) (by first | exact y_0f | (simp [go_sem, World.cell?_alloc_past, y_0, y_0f, y_1, y_1f, z_3, rz, rza, rzb, rzc, rzn]; done))
        replace y_1f : w51.frozen? ⟨w.heap.size, 1, none⟩ = false := hx51.froz (by show ¬ _ = _; first | assumption | omega) (v := .int .i64 0) (by first | exact y_1 | (simp [go_sem, World.cell?_alloc_past, y_0, y_0f, y_1, y_1f, z_3, rz, rza, rzb, rzc, rzn]; done)) (by first | exact y_1f | (simp [go_sem, World.cell?_alloc_past, y_0, y_0f, y_1, y_1f, z_3, rz, rza, rzb, rzc, rzn]; done))
        replace y_0 : w51.cell? ⟨w.heap.size, 0, none⟩ = some (.int .i64 0) := hx51.has (by show ¬ _ = _; first | assumption | omega) (by first | exact y_0 | (simp [go_sem, World.cell?_alloc_past, y_0, y_0f, y_1, y_1f, z_3, rz, rza, rzb, rzc, rzn]; done))
        replace y_1 : w51.cell? ⟨w.heap.size, 1, none⟩ = some (.int .i64 0) := hx51.has (by show ¬ _ = _; first | assumption | omega) (by first | exact y_1 | (simp [go_sem, World.cell?_alloc_past, y_0, y_0f, y_1, y_1f, z_3, rz, rza, rzb, rzc, rzn]; done))
        replace z_3 : w51.cell? ⟨bo, m * 4 + 3, none⟩ = some (.int .i64 z3) := hx51.has (by show ¬ _ = _; first | assumption | omega) (by first | exact z_3 | (simp [go_sem, World.cell?_alloc_past, y_0, y_0f, y_1, y_1f, z_3, rz, rza, rzb, rzc, rzn]; done))
        have z51 := hx51.size
        try simp at z51
        have ne_y_z : ¬ w.heap.size = bo := by omega
        have ne_z_y : ¬ bo = w.heap.size := by omega
        have ry : w.heap.size < w51.heap.size := by omega
        have rya : w.heap.size < w51.heap.size + 1 := by omega
        have ryb : w.heap.size < w51.heap.size + 1 + 1 := by omega
        have ryc : w.heap.size < w51.heap.size + 1 + 1 + 1 := by omega
        have ryn : ¬ w.heap.size = w51.heap.size := by omega
        replace rz : bo < w51.heap.size := by omega
        replace rza : bo < w51.heap.size + 1 := by omega
        replace rzb : bo < w51.heap.size + 1 + 1 := by omega
        replace rzc : bo < w51.heap.size + 1 + 1 + 1 := by omega
        replace rzn : ¬ bo = w51.heap.size := by omega
        have X51 : Hid (Ext w w51) := Lib.hid (have hX := (show Ext w _ from (by repeat (first | with_reducible exact XR.out | with_reducible refine Ext.drew ?_ | with_reducible refine Ext.drewN ?_ _ | with_reducible refine Ext.alloc ?_ _ | with_reducible refine Ext.setCell ?_ (by first | omega | (simp; done) | (simp; omega)) _))); Below.trans hX (hx51.below (Ext.size hX) (fun k hk hh => by have hh2 : k = g := hh; omega)))
        replace HO := Lib.hid (OwnR.but (OwnR.butN HO.out (by repeat (first | with_reducible exact But.refl _ _ | with_reducible refine But.drew ?_ | with_reducible refine But.drewN ?_ _ | with_reducible refine But.alloc ?_ _ | with_reducible refine But.setCell ?_ (by first | exact Nat.le_refl _ | (dsimp only; omega)) _ | with_reducible refine But.setNew ?_ (by first | omega | (simp; done) | (simp; omega)) _))) hx51 (by intro j h1 h2 hh; have h3 : j = g := hh; omega))
        clear HRd
        have HRd := Lib.hid hRd
        clear hsz51 XR hx51 z51 hRd
        go_wp2_with fail
        (with_reducible refine (cRN_e g k1 k2 L f1 f2 0 31 x1 (by decide) (by decide) (by decide) (by decide) hL Gx1.out.1 Gx1.out.2.1 Gx1.out.2.2 _ (HRd.out.ext (by repeat (first | with_reducible exact Ext.refl _ | with_reducible refine Ext.drew ?_ | with_reducible refine Ext.drewN ?_ _ | with_reducible refine Ext.alloc ?_ _ | with_reducible refine Ext.setCell ?_ (by first | omega | (simp; done) | (simp; omega)) _)))).mono ?_)
        rintro e w52 ⟨rfl, hRd, hx52⟩
        have hsz52 := hx52.size
        try simp at hsz52
        replace y_0f : w52.frozen? ⟨w.heap.size, 0, none⟩ = false := hx52.froz (by show ¬ _ = _; first | assumption | omega) (v := .int .i64 0) (by first | exact y_0 | (simp [go_sem, World.cell?_alloc_past, y_0f, y_1f, y_0, y_1, z_3, ne_y_z, ne_z_y, ry, rya, ryb, ryc, ryn, rz, rza, rzb, rzc, rzn]; done)) (by first | exact y_0f | (simp [go_sem, World.cell?_alloc_past, y_0f, y_1f, y_0, y_1, z_3, ne_y_z, ne_z_y, ry, rya, ryb, ryc, ryn, rz, rza, rzb, rzc, rzn]; done))
        replace y_1f : w52.frozen? ⟨w.heap.size, 1, none⟩ = false := hx52.froz (by show ¬ _ = _; first | assumption | omega) (v := .int .i64 0) (by first | exact y_1 | (simp [go_sem, World.cell?_alloc_past, y_0f, y_1f, y_0, y_1, z_3, ne_y_z, ne_z_y, ry, rya, ryb, ryc, ryn, rz, rza, rzb, rzc, rzn]; done)) (by first | exact y_1f | (simp [go_sem, World.cell?_alloc_past, y_0f, y_1f, y_0, y_1, z_3, ne_y_z, ne_z_y, ry, rya, ryb, ryc, ryn, rz, rza, rzb, rzc, rzn]; done))
        replace y_0 : w52.cell? ⟨w.heap.size, 0, none⟩ = some (.int .i64 0) := hx52.has (by show ¬ _ = _; first | assumption | omega) (by first | exact y_0 | (simp [go_sem, World.cell?_alloc_past, y_0f, y_1f, y_0, y_1, z_3, ne_y_z, ne_z_y, ry, rya, ryb, ryc, ryn, rz, rza, rzb, rzc, rzn]; done))
        replace y_1 : w52.cell? ⟨w.heap.size, 1, none⟩ = some (.int .i64 0) := hx52.has (by show ¬ _ = _; first | assumption | omega) (by first | exact y_1 | (simp [go_sem, World.cell?_alloc_past, y_0f, y_1f, y_0, y_1, z_3, ne_y_z, ne_z_y, ry, rya, ryb, ryc, ryn, rz, rza, rzb, rzc, rzn]; done))
        replace z_3 : w52.cell? ⟨bo, m * 4 + 3, none⟩ = some (.int .i64 z3) := hx52.has (by show ¬ _ = _; first | assumption | omega) (by first | exact z_3 | (simp [go_sem, World.cell?_alloc_past, y_0f, y_1f, y_0, y_1, z_3, ne_y_z, ne_z_y, ry, rya, ryb, ryc, ryn, rz, rza, rzb, rzc, rzn]; done))
        have z52 := hx52.size
        try simp at z52
        replace ry : w.heap.size < w52.heap.size := by omega
        replace rya : w.heap.size < w52.heap.size + 1 := by omega
        replace ryb : w.heap.size < w52.heap.size + 1 + 1 := by omega
        replace ryc : w.heap.size < w52.heap.size + 1 + 1 + 1 := by omega
        replace ryn : ¬ w.heap.size = w52.heap.size := by omega
        replace rz : bo < w52.heap.size := by omega
        replace rza : bo < w52.heap.size + 1 := by omega
        replace rzb : bo < w52.heap.size + 1 + 1 := by omega
        replace rzc : bo < w52.heap.size + 1 + 1 + 1 := by omega
        replace rzn : ¬ bo = w52.heap.size := by omega
        have X52 : Hid (Ext w w52) := Lib.hid (have hX := (show Ext w _ from (by repeat (first | with_reducible exact X51.out | with_reducible refine Ext.drew ?_ | with_reducible refine Ext.drewN ?_ _ | with_reducible refine Ext.alloc ?_ _ | with_reducible refine Ext.setCell ?_ (by first | omega | (simp; done) | (simp; omega)) _))); Below.trans hX (hx52.below (Ext.size hX) (fun k hk hh => by have hh2 : k = g := hh; omega)))
        replace HO := Lib.hid (OwnR.but (OwnR.butN HO.out (by repeat (first | with_reducible exact But.refl _ _ | with_reducible refine But.drew ?_ | with_reducible refine But.drewN ?_ _ | with_reducible refine But.alloc ?_ _ | with_reducible refine But.setCell ?_ (by first | exact Nat.le_refl _ | (dsimp only; omega)) _ | with_reducible refine But.setNew ?_ (by first | omega | (simp; done) | (simp; omega)) _))) hx52 (by intro j h1 h2 hh; have h3 : j = g := hh; omega))
        clear HRd
        have HRd := Lib.hid hRd
        clear hsz52 X51 hx52 z52 hRd
        have hgl4 := HRd.out.lt
        replace HO := Lib.hid HO.out.raise
        go_wp2_with fail
        (with_reducible refine (cAt_any g k2 L f2 _ (RdT.rd (q := w52.heap.size) (by repeat (first | with_reducible exact RdT.new HRd.out _ _ (by decide) | with_reducible refine RdT.set ?_ (by first | rfl | omega) _)))).mono ?_)
        rintro e w_1 ⟨rfl, rfl⟩
        go_wp2_with fail
        (with_reducible refine (cRN_Te (w52.heap.size) g k2 k3 L f2 f3 0 31 x2 (by decide) (by decide) (by decide) (by decide) hL Gx2.out.1 Gx2.out.2.1 Gx2.out.2.2 _ (by repeat (first | with_reducible exact RdT.new HRd.out _ _ (by decide) | with_reducible refine RdT.set ?_ (by first | rfl | omega) _))).mono ?_)
        rintro e w53 ⟨rfl, hRd, hx53⟩
        have hsz53 := hx53.size
        try simp at hsz53
        replace y_0f : w53.frozen? ⟨w.heap.size, 0, none⟩ = false := hx53.froz (by show ¬ _ = _; first | assumption | omega) (v := .int .i64 0) (by first | exact y_0 | (simp [go_sem, World.cell?_alloc_past, y_0f, y_1f, y_0, y_1, z_3, ne_y_z, ne_z_y, ry, rya, ryb, ryc, ryn, rz, rza, rzb, rzc, rzn]; done)) (by first | exact y_0f | (simp [go_sem, World.cell?_alloc_past, y_0f, y_1f, y_0, y_1, z_3, ne_y_z, ne_z_y, ry, rya, ryb, ryc, ryn, rz, rza, rzb, rzc, rzn]; done))
        replace y_1f : w53.frozen? ⟨w.heap.size, 1, none⟩ = false := hx53.froz (by show ¬ _ = _; first | assumption | omega) (v := .int .i64 0) (by first | exact y_1 | (simp [go_sem, World.cell?_alloc_past, y_0f, y_1f, y_0, y_1, z_3, ne_y_z, ne_z_y, ry, rya, ryb, ryc, ryn, rz, rza, rzb, rzc, rzn]; done)) (by first | exact y_1f | (simp [go_sem, World.cell?_alloc_past, y_0f, y_1f, y_0, y_1, z_3, ne_y_z, ne_z_y, ry, rya, ryb, ryc, ryn, rz, rza, rzb, rzc, rzn]; done))
        replace y_0 : w53.cell? ⟨w.heap.size, 0, none⟩ = some (.int .i64 0) := hx53.has (by show ¬ _ = _; first | assumption | omega) (by first | exact y_0 | (simp [go_sem, World.cell?_alloc_past, y_0f, y_1f, y_0, y_1, z_3, ne_y_z, ne_z_y, ry, rya, ryb, ryc, ryn, rz, rza, rzb, rzc, rzn]; done))
        replace y_1 : w53.cell? ⟨w.heap.size, 1, none⟩ = some (.int .i64 0) := hx53.has (by show ¬ _ = _; first | assumption | omega) (by first | exact y_1 | (simp [go_sem, World.cell?_alloc_past, y_0f, y_1f, y_0, y_1, z_3, ne_y_z, ne_z_y, ry, rya, ryb, ryc, ryn, rz, rza, rzb, rzc, rzn]; done))
        replace z_3 : w53.cell? ⟨bo, m * 4 + 3, none⟩ = some (.int .i64 z3) := hx53.has (by show ¬ _ = _; first | assumption | omega) (by first | exact z_3 | (simp [go_sem, World.cell?_alloc_past, y_0f, y_1f, y_0, y_1, z_3, ne_y_z, ne_z_y, ry, rya, ryb, ryc, ryn, rz, rza, rzb, rzc, rzn]; done))
        have c0_2f : w53.frozen? ⟨w52.heap.size, 2, none⟩ = false := hx53.froz (by show ¬ _ = _; first | assumption | omega) (v := .int .i64 0) (by first | fail | (simp [go_sem, World.cell?_alloc_past, y_0f, y_1f, y_0, y_1, z_3, ne_y_z, ne_z_y, ry, rya, ryb, ryc, ryn, rz, rza, rzb, rzc, rzn]; done)) (by first | fail | (simp [go_sem, World.cell?_alloc_past, y_0f, y_1f, y_0, y_1, z_3, ne_y_z, ne_z_y, ry, rya, ryb, ryc, ryn, rz, rza, rzb, rzc, rzn]; done))
        have c0_3f : w53.frozen? ⟨w52.heap.size, 3, none⟩ = false := hx53.froz (by show ¬ _ = _; first | assumption | omega) (v := .int .i64 0) (by first | fail | (simp [go_sem, World.cell?_alloc_past, y_0f, y_1f, y_0, y_1, z_3, ne_y_z, ne_z_y, ry, rya, ryb, ryc, ryn, rz, rza, rzb, rzc, rzn]; done)) (by first | fail | (simp [go_sem, World.cell?_alloc_past, y_0f, y_1f, y_0, y_1, z_3, ne_y_z, ne_z_y, ry, rya, ryb, ryc, ryn, rz, rza, rzb, rzc, rzn]; done))
        have c0_0 : w53.cell? ⟨w52.heap.size, 0, none⟩ = some (.int .i64 x0) := hx53.has (by show ¬ _ = _; first | assumption | omega) (by first | fail | (simp [go_sem, World.cell?_alloc_past, y_0f, y_1f, y_0, y_1, z_3, ne_y_z, ne_z_y, ry, rya, ryb, ryc, ryn, rz, rza, rzb, rzc, rzn]; done))
        have c0_1 : w53.cell? ⟨w52.heap.size, 1, none⟩ = some (.int .i64 x1) := hx53.has (by show ¬ _ = _; first | assumption | omega) (by first | fail | (simp [go_sem, World.cell?_alloc_past, y_0f, y_1f, y_0, y_1, z_3, ne_y_z, ne_z_y, ry, rya, ryb, ryc, ryn, rz, rza, rzb, rzc, rzn]; done))
        have c0_2 : w53.cell? ⟨w52.heap.size, 2, none⟩ = some (.int .i64 0) := hx53.has (by show ¬ _ = _; first | assumption | omega) (by first | fail | (simp [go_sem, World.cell?_alloc_past, y_0f, y_1f, y_0, y_1, z_3, ne_y_z, ne_z_y, ry, rya, ryb, ryc, ryn, rz, rza, rzb, rzc, rzn]; done))
        have c0_3 : w53.cell? ⟨w52.heap.size, 3, none⟩ = some (.int .i64 0) := hx53.has (by show ¬ _ = _; first | assumption | omega) (by first | fail | (simp [go_sem, World.cell?_alloc_past, y_0f, y_1f, y_0, y_1, z_3, ne_y_z, ne_z_y, ry, rya, ryb, ryc, ryn, rz, rza, rzb, rzc, rzn]; done))
        have z53 := hx53.size
        try simp at z53
        have lt_y_c0 : w.heap.size < w52.heap.size := by omega
        have ne_y_c0 : ¬ w.heap.size = w52.heap.size := by omega
        have lt_z_c0 : bo < w52.heap.size := by omega
        have ne_z_c0 : ¬ bo = w52.heap.size := by omega
        have ne_c0_y : ¬ w52.heap.size = w.heap.size := by omega
        have ne_c0_z : ¬ w52.heap.size = bo := by omega
        replace ry : w.heap.size < w53.heap.size := by omega
        replace rya : w.heap.size < w53.heap.size + 1 := by omega
        replace ryb : w.heap.size < w53.heap.size + 1 + 1 := by omega
        replace ryc : w.heap.size < w53.heap.size + 1 + 1 + 1 := by omega
        replace ryn : ¬ w.heap.size = w53.heap.size := by omega
        replace rz : bo < w53.heap.size := by omega
        replace rza : bo < w53.heap.size + 1 := by omega
        replace rzb : bo < w53.heap.size + 1 + 1 := by omega
        replace rzc : bo < w53.heap.size + 1 + 1 + 1 := by omega
        replace rzn : ¬ bo = w53.heap.size := by omega
        have rc0 : w52.heap.size < w53.heap.size := by omega
        have rc0a : w52.heap.size < w53.heap.size + 1 := by omega
        have rc0b : w52.heap.size < w53.heap.size + 1 + 1 := by omega
        have rc0c : w52.heap.size < w53.heap.size + 1 + 1 + 1 := by omega
        have rc0n : ¬ w52.heap.size = w53.heap.size := by omega
        have X53 : Hid (Ext w w53) := Lib.hid (have hX := (show Ext w _ from (by repeat (first | with_reducible exact X52.out | with_reducible refine Ext.drew ?_ | with_reducible refine Ext.drewN ?_ _ | with_reducible refine Ext.alloc ?_ _ | with_reducible refine Ext.setCell ?_ (by first | omega | (simp; done) | (simp; omega)) _))); Below.trans hX (hx53.below (Ext.size hX) (fun k hk hh => by have hh2 : k = g := hh; omega)))
        replace HO := Lib.hid (OwnR.but (OwnR.butN HO.out (by repeat (first | with_reducible exact But.refl _ _ | with_reducible refine But.drew ?_ | with_reducible refine But.drewN ?_ _ | with_reducible refine But.alloc ?_ _ | with_reducible refine But.setCell ?_ (by first | exact Nat.le_refl _ | (dsimp only; omega)) _ | with_reducible refine But.setNew ?_ (by first | omega | (simp; done) | (simp; omega)) _))) hx53 (by intro j h1 h2 hh; have h3 : j = g := hh; omega))
        have HT := Lib.hid hRd
        clear HRd hsz53 X52 hx53 z53 hRd
        by_cases h12 : x2 = x1
        · have e12 : (x2 == x1) = true := by simpa using h12
          have H12 := Lib.hid h12
          clear h12
          go_wp2_with fail
          (with_reducible refine (cFail_T (w52.heap.size) g k3 L f3 3 (atF f2 k2) _ (by repeat (first | with_reducible exact HT.out | with_reducible refine RdT.set ?_ (by omega) _ | with_reducible refine RdT.ext ?_ (Ext.alloc (Ext.refl _) _) | with_reducible refine RdT.ext ?_ (Ext.drew (Ext.refl _)) | with_reducible refine RdT.drewN ?_ _))).mono ?_)
          rintro e w54 ⟨⟨vv, rfl⟩, hRd, hx54⟩
          have hsz54 := hx54.size
          try simp at hsz54
          replace y_0f : w54.frozen? ⟨w.heap.size, 0, none⟩ = false := hx54.froz (by show ¬ _ = _; first | assumption | omega) (v := .int .i64 0) (by first | exact y_0 | (simp [go_sem, World.cell?_alloc_past, y_0f, y_1f, y_0, y_1, z_3, c0_2f, c0_3f, c0_0, c0_1, c0_2, c0_3, ne_y_z, ne_y_c0, ne_z_y, ne_z_c0, ne_c0_y, ne_c0_z, ry, rya, ryb, ryc, ryn, rz, rza, rzb, rzc, rzn, rc0, rc0a, rc0b, rc0c, rc0n]; done)) (by first | exact y_0f | (simp [go_sem, World.cell?_alloc_past, y_0f, y_1f, y_0, y_1, z_3, c0_2f, c0_3f, c0_0, c0_1, c0_2, c0_3, ne_y_z, ne_y_c0, ne_z_y, ne_z_c0, ne_c0_y, ne_c0_z, ry, rya, ryb, ryc, ryn, rz, rza, rzb, rzc, rzn, rc0, rc0a, rc0b, rc0c, rc0n]; done))
          replace y_1f : w54.frozen? ⟨w.heap.size, 1, none⟩ = false := hx54.froz (by show ¬ _ = _; first | assumption | omega) (v := .int .i64 0) (by first | exact y_1 | (simp [go_sem, World.cell?_alloc_past, y_0f, y_1f, y_0, y_1, z_3, c0_2f, c0_3f, c0_0, c0_1, c0_2, c0_3, ne_y_z, ne_y_c0, ne_z_y, ne_z_c0, ne_c0_y, ne_c0_z, ry, rya, ryb, ryc, ryn, rz, rza, rzb, rzc, rzn, rc0, rc0a, rc0b, rc0c, rc0n]; done)) (by first | exact y_1f | (simp [go_sem, World.cell?_alloc_past, y_0f, y_1f, y_0, y_1, z_3, c0_2f, c0_3f, c0_0, c0_1, c0_2, c0_3, ne_y_z, ne_y_c0, ne_z_y, ne_z_c0, ne_c0_y, ne_c0_z, ry, rya, ryb, ryc, ryn, rz, rza, rzb, rzc, rzn, rc0, rc0a, rc0b, rc0c, rc0n]; done))
          replace y_0 : w54.cell? ⟨w.heap.size, 0, none⟩ = some (.int .i64 0) := hx54.has (by show ¬ _ = _; first | assumption | omega) (by first | exact y_0 | (simp [go_sem, World.cell?_alloc_past, y_0f, y_1f, y_0, y_1, z_3, c0_2f, c0_3f, c0_0, c0_1, c0_2, c0_3, ne_y_z, ne_y_c0, ne_z_y, ne_z_c0, ne_c0_y, ne_c0_z, ry, rya, ryb, ryc, ryn, rz, rza, rzb, rzc, rzn, rc0, rc0a, rc0b, rc0c, rc0n]; done))
          replace y_1 : w54.cell? ⟨w.heap.size, 1, none⟩ = some (.int .i64 0) := hx54.has (by show ¬ _ = _; first | assumption | omega) (by first | exact y_1 | (simp [go_sem, World.cell?_alloc_past, y_0f, y_1f, y_0, y_1, z_3, c0_2f, c0_3f, c0_0, c0_1, c0_2, c0_3, ne_y_z, ne_y_c0, ne_z_y, ne_z_c0, ne_c0_y, ne_c0_z, ry, rya, ryb, ryc, ryn, rz, rza, rzb, rzc, rzn, rc0, rc0a, rc0b, rc0c, rc0n]; done))
          replace z_3 : w54.cell? ⟨bo, m * 4 + 3, none⟩ = some (.int .i64 z3) := hx54.has (by show ¬ _ = _; first | assumption | omega) (by first | exact z_3 | (simp [go_sem, World.cell?_alloc_past, y_0f, y_1f, y_0, y_1, z_3, c0_2f, c0_3f, c0_0, c0_1, c0_2, c0_3, ne_y_z, ne_y_c0, ne_z_y, ne_z_c0, ne_c0_y, ne_c0_z, ry, rya, ryb, ryc, ryn, rz, rza, rzb, rzc, rzn, rc0, rc0a, rc0b, rc0c, rc0n]; done))
          replace c0_3f : w54.frozen? ⟨w52.heap.size, 3, none⟩ = false := hx54.froz (by show ¬ _ = _; first | assumption | omega) (v := .int .i64 0) (by first | exact c0_3 | (simp [go_sem, World.cell?_alloc_past, y_0f, y_1f, y_0, y_1, z_3, c0_2f, c0_3f, c0_0, c0_1, c0_2, c0_3, ne_y_z, ne_y_c0, ne_z_y, ne_z_c0, ne_c0_y, ne_c0_z, ry, rya, ryb, ryc, ryn, rz, rza, rzb, rzc, rzn, rc0, rc0a, rc0b, rc0c, rc0n]; done)) (by first | exact c0_3f | (simp [go_sem, World.cell?_alloc_past, y_0f, y_1f, y_0, y_1, z_3, c0_2f, c0_3f, c0_0, c0_1, c0_2, c0_3, ne_y_z, ne_y_c0, ne_z_y, ne_z_c0, ne_c0_y, ne_c0_z, ry, rya, ryb, ryc, ryn, rz, rza, rzb, rzc, rzn, rc0, rc0a, rc0b, rc0c, rc0n]; done))
          replace c0_0 : w54.cell? ⟨w52.heap.size, 0, none⟩ = some (.int .i64 x0) := hx54.has (by show ¬ _ = _; first | assumption | omega) (by first | exact c0_0 | (simp [go_sem, World.cell?_alloc_past, y_0f, y_1f, y_0, y_1, z_3, c0_2f, c0_3f, c0_0, c0_1, c0_2, c0_3, ne_y_z, ne_y_c0, ne_z_y, ne_z_c0, ne_c0_y, ne_c0_z, ry, rya, ryb, ryc, ryn, rz, rza, rzb, rzc, rzn, rc0, rc0a, rc0b, rc0c, rc0n]; done))
          replace c0_1 : w54.cell? ⟨w52.heap.size, 1, none⟩ = some (.int .i64 x1) := hx54.has (by show ¬ _ = _; first | assumption | omega) (by first | exact c0_1 | (simp [go_sem, World.cell?_alloc_past, y_0f, y_1f, y_0, y_1, z_3, c0_2f, c0_3f, c0_0, c0_1, c0_2, c0_3, ne_y_z, ne_y_c0, ne_z_y, ne_z_c0, ne_c0_y, ne_c0_z, ry, rya, ryb, ryc, ryn, rz, rza, rzb, rzc, rzn, rc0, rc0a, rc0b, rc0c, rc0n]; done))
          replace c0_2 : w54.cell? ⟨w52.heap.size, 2, none⟩ = some (.int .i64 x2) := hx54.has (by show ¬ _ = _; first | assumption | omega) (by first | exact c0_2 | (simp [go_sem, World.cell?_alloc_past, y_0f, y_1f, y_0, y_1, z_3, c0_2f, c0_3f, c0_0, c0_1, c0_2, c0_3, ne_y_z, ne_y_c0, ne_z_y, ne_z_c0, ne_c0_y, ne_c0_z, ry, rya, ryb, ryc, ryn, rz, rza, rzb, rzc, rzn, rc0, rc0a, rc0b, rc0c, rc0n]; done))
          replace c0_3 : w54.cell? ⟨w52.heap.size, 3, none⟩ = some (.int .i64 0) := hx54.has (by show ¬ _ = _; first | assumption | omega) (by first | exact c0_3 | (simp [go_sem, World.cell?_alloc_past, y_0f, y_1f, y_0, y_1, z_3, c0_2f, c0_3f, c0_0, c0_1, c0_2, c0_3, ne_y_z, ne_y_c0, ne_z_y, ne_z_c0, ne_c0_y, ne_c0_z, ry, rya, ryb, ryc, ryn, rz, rza, rzb, rzc, rzn, rc0, rc0a, rc0b, rc0c, rc0n]; done))
          have z54 := hx54.size
          try simp at z54
          replace ry : w.heap.size < w54.heap.size := by omega
          replace rya : w.heap.size < w54.heap.size + 1 := by omega
          replace ryb : w.heap.size < w54.heap.size + 1 + 1 := by omega
          replace ryc : w.heap.size < w54.heap.size + 1 + 1 + 1 := by omega
          replace ryn : ¬ w.heap.size = w54.heap.size := by omega
          replace rz : bo < w54.heap.size := by omega
          replace rza : bo < w54.heap.size + 1 := by omega
          replace rzb : bo < w54.heap.size + 1 + 1 := by omega
          replace rzc : bo < w54.heap.size + 1 + 1 + 1 := by omega
          replace rzn : ¬ bo = w54.heap.size := by omega
          replace rc0 : w52.heap.size < w54.heap.size := by omega
          replace rc0a : w52.heap.size < w54.heap.size + 1 := by omega
          replace rc0b : w52.heap.size < w54.heap.size + 1 + 1 := by omega
          replace rc0c : w52.heap.size < w54.heap.size + 1 + 1 + 1 := by omega
          replace rc0n : ¬ w52.heap.size = w54.heap.size := by omega
          have X54 : Hid (Ext w w54) := Lib.hid (have hX := (show Ext w _ from (by repeat (first | with_reducible exact X53.out | with_reducible refine Ext.drew ?_ | with_reducible refine Ext.drewN ?_ _ | with_reducible refine Ext.alloc ?_ _ | with_reducible refine Ext.setCell ?_ (by first | omega | (simp; done) | (simp; omega)) _))); Below.trans hX (hx54.below (Ext.size hX) (fun k hk hh => by have hh2 : k = g := hh; omega)))
          replace HO := Lib.hid (OwnR.but (OwnR.butN HO.out (by repeat (first | with_reducible exact But.refl _ _ | with_reducible refine But.drew ?_ | with_reducible refine But.drewN ?_ _ | with_reducible refine But.alloc ?_ _ | with_reducible refine But.setCell ?_ (by first | exact Nat.le_refl _ | (dsimp only; omega)) _ | with_reducible refine But.setNew ?_ (by first | omega | (simp; done) | (simp; omega)) _))) hx54 (by intro j h1 h2 hh; have h3 : j = g := hh; omega))
          clear HT
          have HT := Lib.hid hRd
          clear c0_2f hsz54 X53 hx54 z54 hRd
          replace HT : Hid (RdT w52.heap.size _ g L k3 f4) := Lib.hid (by rw [G4.out, if_pos H12.out]; exact HT.out)
          go_wp2_with fail
          (with_reducible refine (cAt_any g k3 L f4 _ (RdT.rd (q := w52.heap.size) (by repeat (first | with_reducible exact HT.out | with_reducible refine RdT.set ?_ (by omega) _ | with_reducible refine RdT.ext ?_ (Ext.alloc (Ext.refl _) _) | with_reducible refine RdT.ext ?_ (Ext.drew (Ext.refl _)) | with_reducible refine RdT.drewN ?_ _)))).mono ?_)
          rintro e w_2 ⟨rfl, rfl⟩
          go_wp2_with fail
          (with_reducible refine (cRN_Te (w52.heap.size) g k3 k5 L f4 f5 1 4294967296 x3 (by decide) (by decide) (by decide) (by decide) hL Gx3.out.1 Gx3.out.2.1 Gx3.out.2.2 _ (by repeat (first | with_reducible exact HT.out | with_reducible refine RdT.set ?_ (by omega) _ | with_reducible refine RdT.ext ?_ (Ext.alloc (Ext.refl _) _) | with_reducible refine RdT.ext ?_ (Ext.drew (Ext.refl _)) | with_reducible refine RdT.drewN ?_ _))).mono ?_)
          rintro e w55 ⟨rfl, hRd, hx55⟩
          have hsz55 := hx55.size
          try simp at hsz55
          replace y_0f : w55.frozen? ⟨w.heap.size, 0, none⟩ = false := hx55.froz (by show ¬ _ = _; first | assumption | omega) (v := .int .i64 0) (by first | exact y_0 | (simp [go_sem, World.cell?_alloc_past, y_0f, y_1f, y_0, y_1, z_3, c0_3f, c0_0, c0_1, c0_2, c0_3, ne_y_z, ne_y_c0, ne_z_y, ne_z_c0, ne_c0_y, ne_c0_z, ry, rya, ryb, ryc, ryn, rz, rza, rzb, rzc, rzn, rc0, rc0a, rc0b, rc0c, rc0n]; done)) (by first | exact y_0f | (simp [go_sem, World.cell?_alloc_past, y_0f, y_1f, y_0, y_1, z_3, c0_3f, c0_0, c0_1, c0_2, c0_3, ne_y_z, ne_y_c0, ne_z_y, ne_z_c0, ne_c0_y, ne_c0_z, ry, rya, ryb, ryc, ryn, rz, rza, rzb, rzc, rzn, rc0, rc0a, rc0b, rc0c, rc0n]; done))
          replace y_1f : w55.frozen? ⟨w.heap.size, 1, none⟩ = false := hx55.froz (by show ¬ _ = _; first | assumption | omega) (v := .int .i64 0) (by first | exact y_1 | (simp [go_sem, World.cell?_alloc_past, y_0f, y_1f, y_0, y_1, z_3, c0_3f, c0_0, c0_1, c0_2, c0_3, ne_y_z, ne_y_c0, ne_z_y, ne_z_c0, ne_c0_y, ne_c0_z, ry, rya, ryb, ryc, ryn, rz, rza, rzb, rzc, rzn, rc0, rc0a, rc0b, rc0c, rc0n]; done)) (by first | exact y_1f | (simp [go_sem, World.cell?_alloc_past, y_0f, y_1f, y_0, y_1, z_3, c0_3f, c0_0, c0_1, c0_2, c0_3, ne_y_z, ne_y_c0, ne_z_y, ne_z_c0, ne_c0_y, ne_c0_z, ry, rya, ryb, ryc, ryn, rz, rza, rzb, rzc, rzn, rc0, rc0a, rc0b, rc0c, rc0n]; done))
          replace y_0 : w55.cell? ⟨w.heap.size, 0, none⟩ = some (.int .i64 0) := hx55.has (by show ¬ _ = _; first | assumption | omega) (by first | exact y_0 | (simp [go_sem, World.cell?_alloc_past, y_0f, y_1f, y_0, y_1, z_3, c0_3f, c0_0, c0_1, c0_2, c0_3, ne_y_z, ne_y_c0, ne_z_y, ne_z_c0, ne_c0_y, ne_c0_z, ry, rya, ryb, ryc, ryn, rz, rza, rzb, rzc, rzn, rc0, rc0a, rc0b, rc0c, rc0n]; done))
          replace y_1 : w55.cell? ⟨w.heap.size, 1, none⟩ = some (.int .i64 0) := hx55.has (by show ¬ _ = _; first | assumption | omega) (by first | exact y_1 | (simp [go_sem, World.cell?_alloc_past, y_0f, y_1f, y_0, y_1, z_3, c0_3f, c0_0, c0_1, c0_2, c0_3, ne_y_z, ne_y_c0, ne_z_y, ne_z_c0, ne_c0_y, ne_c0_z, ry, rya, ryb, ryc, ryn, rz, rza, rzb, rzc, rzn, rc0, rc0a, rc0b, rc0c, rc0n]; done))
          replace z_3 : w55.cell? ⟨bo, m * 4 + 3, none⟩ = some (.int .i64 z3) := hx55.has (by show ¬ _ = _; first | assumption | omega) (by first | exact z_3 | (simp [go_sem, World.cell?_alloc_past, y_0f, y_1f, y_0, y_1, z_3, c0_3f, c0_0, c0_1, c0_2, c0_3, ne_y_z, ne_y_c0, ne_z_y, ne_z_c0, ne_c0_y, ne_c0_z, ry, rya, ryb, ryc, ryn, rz, rza, rzb, rzc, rzn, rc0, rc0a, rc0b, rc0c, rc0n]; done))
          replace c0_3f : w55.frozen? ⟨w52.heap.size, 3, none⟩ = false := hx55.froz (by show ¬ _ = _; first | assumption | omega) (v := .int .i64 0) (by first | exact c0_3 | (simp [go_sem, World.cell?_alloc_past, y_0f, y_1f, y_0, y_1, z_3, c0_3f, c0_0, c0_1, c0_2, c0_3, ne_y_z, ne_y_c0, ne_z_y, ne_z_c0, ne_c0_y, ne_c0_z, ry, rya, ryb, ryc, ryn, rz, rza, rzb, rzc, rzn, rc0, rc0a, rc0b, rc0c, rc0n]; done)) (by first | exact c0_3f | (simp [go_sem, World.cell?_alloc_past, y_0f, y_1f, y_0, y_1, z_3, c0_3f, c0_0, c0_1, c0_2, c0_3, ne_y_z, ne_y_c0, ne_z_y, ne_z_c0, ne_c0_y, ne_c0_z, ry, rya, ryb, ryc, ryn, rz, rza, rzb, rzc, rzn, rc0, rc0a, rc0b, rc0c, rc0n]; done))
          replace c0_0 : w55.cell? ⟨w52.heap.size, 0, none⟩ = some (.int .i64 x0) := hx55.has (by show ¬ _ = _; first | assumption | omega) (by first | exact c0_0 | (simp [go_sem, World.cell?_alloc_past, y_0f, y_1f, y_0, y_1, z_3, c0_3f, c0_0, c0_1, c0_2, c0_3, ne_y_z, ne_y_c0, ne_z_y, ne_z_c0, ne_c0_y, ne_c0_z, ry, rya, ryb, ryc, ryn, rz, rza, rzb, rzc, rzn, rc0, rc0a, rc0b, rc0c, rc0n]; done))
          replace c0_1 : w55.cell? ⟨w52.heap.size, 1, none⟩ = some (.int .i64 x1) := hx55.has (by show ¬ _ = _; first | assumption | omega) (by first | exact c0_1 | (simp [go_sem, World.cell?_alloc_past, y_0f, y_1f, y_0, y_1, z_3, c0_3f, c0_0, c0_1, c0_2, c0_3, ne_y_z, ne_y_c0, ne_z_y, ne_z_c0, ne_c0_y, ne_c0_z, ry, rya, ryb, ryc, ryn, rz, rza, rzb, rzc, rzn, rc0, rc0a, rc0b, rc0c, rc0n]; done))
          replace c0_2 : w55.cell? ⟨w52.heap.size, 2, none⟩ = some (.int .i64 x2) := hx55.has (by show ¬ _ = _; first | assumption | omega) (by first | exact c0_2 | (simp [go_sem, World.cell?_alloc_past, y_0f, y_1f, y_0, y_1, z_3, c0_3f, c0_0, c0_1, c0_2, c0_3, ne_y_z, ne_y_c0, ne_z_y, ne_z_c0, ne_c0_y, ne_c0_z, ry, rya, ryb, ryc, ryn, rz, rza, rzb, rzc, rzn, rc0, rc0a, rc0b, rc0c, rc0n]; done))
          replace c0_3 : w55.cell? ⟨w52.heap.size, 3, none⟩ = some (.int .i64 0) := hx55.has (by show ¬ _ = _; first | assumption | omega) (by first | exact c0_3 | (simp [go_sem, World.cell?_alloc_past, y_0f, y_1f, y_0, y_1, z_3, c0_3f, c0_0, c0_1, c0_2, c0_3, ne_y_z, ne_y_c0, ne_z_y, ne_z_c0, ne_c0_y, ne_c0_z, ry, rya, ryb, ryc, ryn, rz, rza, rzb, rzc, rzn, rc0, rc0a, rc0b, rc0c, rc0n]; done))
          have z55 := hx55.size
          try simp at z55
          replace ry : w.heap.size < w55.heap.size := by omega
          replace rya : w.heap.size < w55.heap.size + 1 := by omega
          replace ryb : w.heap.size < w55.heap.size + 1 + 1 := by omega
          replace ryc : w.heap.size < w55.heap.size + 1 + 1 + 1 := by omega
          replace ryn : ¬ w.heap.size = w55.heap.size := by omega
          replace rz : bo < w55.heap.size := by omega
          replace rza : bo < w55.heap.size + 1 := by omega
          replace rzb : bo < w55.heap.size + 1 + 1 := by omega
          replace rzc : bo < w55.heap.size + 1 + 1 + 1 := by omega
          replace rzn : ¬ bo = w55.heap.size := by omega
          replace rc0 : w52.heap.size < w55.heap.size := by omega
          replace rc0a : w52.heap.size < w55.heap.size + 1 := by omega
          replace rc0b : w52.heap.size < w55.heap.size + 1 + 1 := by omega
          replace rc0c : w52.heap.size < w55.heap.size + 1 + 1 + 1 := by omega
          replace rc0n : ¬ w52.heap.size = w55.heap.size := by omega
          have X55 : Hid (Ext w w55) := Lib.hid (have hX := (show Ext w _ from (by repeat (first | with_reducible exact X54.out | with_reducible refine Ext.drew ?_ | with_reducible refine Ext.drewN ?_ _ | with_reducible refine Ext.alloc ?_ _ | with_reducible refine Ext.setCell ?_ (by first | omega | (simp; done) | (simp; omega)) _))); Below.trans hX (hx55.below (Ext.size hX) (fun k hk hh => by have hh2 : k = g := hh; omega)))
          replace HO := Lib.hid (OwnR.but (OwnR.butN HO.out (by repeat (first | with_reducible exact But.refl _ _ | with_reducible refine But.drew ?_ | with_reducible refine But.drewN ?_ _ | with_reducible refine But.alloc ?_ _ | with_reducible refine But.setCell ?_ (by first | exact Nat.le_refl _ | (dsimp only; omega)) _ | with_reducible refine But.setNew ?_ (by first | omega | (simp; done) | (simp; omega)) _))) hx55 (by intro j h1 h2 hh; have h3 : j = g := hh; omega))
          clear HT
          have HT := Lib.hid hRd
          clear hsz55 X54 hx55 z55 hRd
          go_wp2_with fail
          refine wp_region_held_drew (S := fun w' => w'.cell? ⟨w52.heap.size, 3, none⟩ = some (.int .i64 x3) ∧ w'.cell? ⟨bo, m * 4 + 3, none⟩ = some (.int .i64 z3)) (by kernel_rfl) (by first | exact ⟨c0_3, z_3⟩ | (simp [go_sem, World.cell?_alloc_past, y_0f, y_1f, y_0, y_1, z_3, c0_3f, c0_0, c0_1, c0_2, c0_3, ne_y_z, ne_y_c0, ne_z_y, ne_z_c0, ne_c0_y, ne_c0_z, ry, rya, ryb, ryc, ryn, rz, rza, rzb, rzc, rzn, rc0, rc0a, rc0b, rc0c, rc0n]; done)) (fun hHeld => ?_)
          (refine' take_in 0 rfl (by kernel_rfl) (by kernel_rfl) (by kernel_rfl) (fun _ _ _ h => h) (by rfl) (by assumption) ?_ ?_; rotate_left; focus (intro w hSw; (try dsimp only at hSw); go_simp; try with_reducible rfl)); try simp only [Act.put, List.setIfInBounds_toArray, List.set_cons_zero, List.set_cons_succ]
          (refine' take_in 1 rfl (by kernel_rfl) (by kernel_rfl) (by kernel_rfl) (fun _ _ _ h => h) (by rfl) (by assumption) ?_ ?_; rotate_left; focus (intro w hSw; (try dsimp only at hSw); go_simp; try with_reducible rfl)); try simp only [Act.put, List.setIfInBounds_toArray, List.set_cons_zero, List.set_cons_succ]
          (refine' take_in 2 rfl (by kernel_rfl) (by kernel_rfl) (by kernel_rfl) (fun _ _ _ h => h) (by rfl) (by assumption) ?_ ?_; rotate_left; focus (intro w hSw; (try dsimp only at hSw); go_simp; try with_reducible rfl)); try simp only [Act.put, List.setIfInBounds_toArray, List.set_cons_zero, List.set_cons_succ]
          (refine' take_in 3 rfl (by kernel_rfl) (by kernel_rfl) (by kernel_rfl) (fun _ _ _ h => h) (by rfl) (by assumption) ?_ ?_; rotate_left; focus (intro w hSw; (try dsimp only at hSw); go_simp; try with_reducible rfl)); try simp only [Act.put, List.setIfInBounds_toArray, List.set_cons_zero, List.set_cons_succ]
          (refine' take_in 4 rfl (by kernel_rfl) (by kernel_rfl) (by kernel_rfl) (fun _ _ _ h => h) (by rfl) (by assumption) ?_ ?_; rotate_left; focus (intro w hSw; (try dsimp only at hSw); go_simp; try with_reducible rfl)); try simp only [Act.put, List.setIfInBounds_toArray, List.set_cons_zero, List.set_cons_succ]
          (refine' take_in 5 rfl (by kernel_rfl) (by kernel_rfl) (by kernel_rfl) (fun _ _ _ h => h) (by rfl) (by assumption) ?_ ?_; rotate_left; focus (intro w hSw; (try dsimp only at hSw); go_simp; try with_reducible rfl)); try simp only [Act.put, List.setIfInBounds_toArray, List.set_cons_zero, List.set_cons_succ]
          (refine' take_in 6 rfl (by kernel_rfl) (by kernel_rfl) (by kernel_rfl) (fun _ _ _ h => h) (by rfl) (by assumption) ?_ ?_; rotate_left; focus (intro w hSw; (try dsimp only at hSw); go_simp; try with_reducible rfl)); try simp only [Act.put, List.setIfInBounds_toArray, List.set_cons_zero, List.set_cons_succ]
          (refine' take_in 7 rfl (by kernel_rfl) (by kernel_rfl) (by kernel_rfl) (fun _ _ _ h => h) (by rfl) (by assumption) ?_ ?_; rotate_left; focus (intro w hSw; (try dsimp only at hSw); go_simp; try with_reducible rfl)); try simp only [Act.put, List.setIfInBounds_toArray, List.set_cons_zero, List.set_cons_succ]
          (refine' take_in 8 rfl (by kernel_rfl) (by kernel_rfl) (by kernel_rfl) (fun _ _ _ h => h) (by rfl) (by assumption) ?_ ?_; rotate_left; focus (intro w hSw; (try dsimp only at hSw); go_simp; try with_reducible rfl)); try simp only [Act.put, List.setIfInBounds_toArray, List.set_cons_zero, List.set_cons_succ]
          (refine' take_in 9 rfl (by kernel_rfl) (by kernel_rfl) (by kernel_rfl) (fun _ _ _ h => h) (by rfl) (by assumption) ?_ ?_; rotate_left; focus (intro w hSw; (try dsimp only at hSw); go_simp; try with_reducible rfl)); try simp only [Act.put, List.setIfInBounds_toArray, List.set_cons_zero, List.set_cons_succ]
          (refine' take_in 10 rfl (by kernel_rfl) (by kernel_rfl) (by kernel_rfl) (fun _ _ _ h => h) (by rfl) (by assumption) ?_ ?_; rotate_left; focus (intro w hSw; (try dsimp only at hSw); go_simp; try with_reducible rfl)); try simp only [Act.put, List.setIfInBounds_toArray, List.set_cons_zero, List.set_cons_succ]
          (refine' take_in 11 rfl (by kernel_rfl) (by kernel_rfl) (by kernel_rfl) (fun _ _ _ h => h) (by rfl) (by assumption) ?_ ?_; rotate_left; focus (intro w hSw; (try dsimp only at hSw); go_simp; try with_reducible rfl)); try simp only [Act.put, List.setIfInBounds_toArray, List.set_cons_zero, List.set_cons_succ]
          (refine' take_in 12 rfl (by kernel_rfl) (by kernel_rfl) (by kernel_rfl) (fun _ _ _ h => h) (by rfl) (by assumption) ?_ ?_; rotate_left; focus (intro w hSw; (try dsimp only at hSw); go_simp; try with_reducible rfl)); try simp only [Act.put, List.setIfInBounds_toArray, List.set_cons_zero, List.set_cons_succ]
          refine wpAnyH_done (by kernel_rfl) ?_ _
          by_cases hlt : x3 < z3
          · have hor : ordB out x3 = true := by rw [HZ.out]; exact decide_eq_true hlt
            go_wp2_with fail
            (with_reducible refine (cFail_T (w52.heap.size) g k5 L f5 9 (atF f4 k3) _ (by repeat (first | with_reducible exact HT.out | with_reducible refine RdT.set ?_ (by omega) _ | with_reducible refine RdT.ext ?_ (Ext.alloc (Ext.refl _) _) | with_reducible refine RdT.ext ?_ (Ext.drew (Ext.refl _)) | with_reducible refine RdT.drewN ?_ _))).mono ?_)
            rintro e w56 ⟨⟨vv, rfl⟩, hRd, hx56⟩
            have hsz56 := hx56.size
            try simp at hsz56
            replace y_0f : w56.frozen? ⟨w.heap.size, 0, none⟩ = false := hx56.froz (by show ¬ _ = _; first | assumption | omega) (v := .int .i64 0) (by first | exact y_0 | (simp [go_sem, World.cell?_alloc_past, y_0f, y_1f, y_0, y_1, z_3, c0_3f, c0_0, c0_1, c0_2, c0_3, ne_y_z, ne_y_c0, ne_z_y, ne_z_c0, ne_c0_y, ne_c0_z, ry, rya, ryb, ryc, ryn, rz, rza, rzb, rzc, rzn, rc0, rc0a, rc0b, rc0c, rc0n]; done)) (by first | exact y_0f | (simp [go_sem, World.cell?_alloc_past, y_0f, y_1f, y_0, y_1, z_3, c0_3f, c0_0, c0_1, c0_2, c0_3, ne_y_z, ne_y_c0, ne_z_y, ne_z_c0, ne_c0_y, ne_c0_z, ry, rya, ryb, ryc, ryn, rz, rza, rzb, rzc, rzn, rc0, rc0a, rc0b, rc0c, rc0n]; done))
            replace y_1f : w56.frozen? ⟨w.heap.size, 1, none⟩ = false := hx56.froz (by show ¬ _ = _; first | assumption | omega) (v := .int .i64 0) (by first | exact y_1 | (simp [go_sem, World.cell?_alloc_past, y_0f, y_1f, y_0, y_1, z_3, c0_3f, c0_0, c0_1, c0_2, c0_3, ne_y_z, ne_y_c0, ne_z_y, ne_z_c0, ne_c0_y, ne_c0_z, ry, rya, ryb, ryc, ryn, rz, rza, rzb, rzc, rzn, rc0, rc0a, rc0b, rc0c, rc0n]; done)) (by first | exact y_1f | (simp [go_sem, World.cell?_alloc_past, y_0f, y_1f, y_0, y_1, z_3, c0_3f, c0_0, c0_1, c0_2, c0_3, ne_y_z, ne_y_c0, ne_z_y, ne_z_c0, ne_c0_y, ne_c0_z, ry, rya, ryb, ryc, ryn, rz, rza, rzb, rzc, rzn, rc0, rc0a, rc0b, rc0c, rc0n]; done))
            replace y_0 : w56.cell? ⟨w.heap.size, 0, none⟩ = some (.int .i64 0) := hx56.has (by show ¬ _ = _; first | assumption | omega) (by first | exact y_0 | (simp [go_sem, World.cell?_alloc_past, y_0f, y_1f, y_0, y_1, z_3, c0_3f, c0_0, c0_1, c0_2, c0_3, ne_y_z, ne_y_c0, ne_z_y, ne_z_c0, ne_c0_y, ne_c0_z, ry, rya, ryb, ryc, ryn, rz, rza, rzb, rzc, rzn, rc0, rc0a, rc0b, rc0c, rc0n]; done))
            replace y_1 : w56.cell? ⟨w.heap.size, 1, none⟩ = some (.int .i64 0) := hx56.has (by show ¬ _ = _; first | assumption | omega) (by first | exact y_1 | (simp [go_sem, World.cell?_alloc_past, y_0f, y_1f, y_0, y_1, z_3, c0_3f, c0_0, c0_1, c0_2, c0_3, ne_y_z, ne_y_c0, ne_z_y, ne_z_c0, ne_c0_y, ne_c0_z, ry, rya, ryb, ryc, ryn, rz, rza, rzb, rzc, rzn, rc0, rc0a, rc0b, rc0c, rc0n]; done))
            replace z_3 : w56.cell? ⟨bo, m * 4 + 3, none⟩ = some (.int .i64 z3) := hx56.has (by show ¬ _ = _; first | assumption | omega) (by first | exact z_3 | (simp [go_sem, World.cell?_alloc_past, y_0f, y_1f, y_0, y_1, z_3, c0_3f, c0_0, c0_1, c0_2, c0_3, ne_y_z, ne_y_c0, ne_z_y, ne_z_c0, ne_c0_y, ne_c0_z, ry, rya, ryb, ryc, ryn, rz, rza, rzb, rzc, rzn, rc0, rc0a, rc0b, rc0c, rc0n]; done))
            replace c0_0 : w56.cell? ⟨w52.heap.size, 0, none⟩ = some (.int .i64 x0) := hx56.has (by show ¬ _ = _; first | assumption | omega) (by first | exact c0_0 | (simp [go_sem, World.cell?_alloc_past, y_0f, y_1f, y_0, y_1, z_3, c0_3f, c0_0, c0_1, c0_2, c0_3, ne_y_z, ne_y_c0, ne_z_y, ne_z_c0, ne_c0_y, ne_c0_z, ry, rya, ryb, ryc, ryn, rz, rza, rzb, rzc, rzn, rc0, rc0a, rc0b, rc0c, rc0n]; done))
            replace c0_1 : w56.cell? ⟨w52.heap.size, 1, none⟩ = some (.int .i64 x1) := hx56.has (by show ¬ _ = _; first | assumption | omega) (by first | exact c0_1 | (simp [go_sem, World.cell?_alloc_past, y_0f, y_1f, y_0, y_1, z_3, c0_3f, c0_0, c0_1, c0_2, c0_3, ne_y_z, ne_y_c0, ne_z_y, ne_z_c0, ne_c0_y, ne_c0_z, ry, rya, ryb, ryc, ryn, rz, rza, rzb, rzc, rzn, rc0, rc0a, rc0b, rc0c, rc0n]; done))
            replace c0_2 : w56.cell? ⟨w52.heap.size, 2, none⟩ = some (.int .i64 x2) := hx56.has (by show ¬ _ = _; first | assumption | omega) (by first | exact c0_2 | (simp [go_sem, World.cell?_alloc_past, y_0f, y_1f, y_0, y_1, z_3, c0_3f, c0_0, c0_1, c0_2, c0_3, ne_y_z, ne_y_c0, ne_z_y, ne_z_c0, ne_c0_y, ne_c0_z, ry, rya, ryb, ryc, ryn, rz, rza, rzb, rzc, rzn, rc0, rc0a, rc0b, rc0c, rc0n]; done))
            replace c0_3 : w56.cell? ⟨w52.heap.size, 3, none⟩ = some (.int .i64 x3) := hx56.has (by show ¬ _ = _; first | assumption | omega) (by first | exact c0_3 | (simp [go_sem, World.cell?_alloc_past, y_0f, y_1f, y_0, y_1, z_3, c0_3f, c0_0, c0_1, c0_2, c0_3, ne_y_z, ne_y_c0, ne_z_y, ne_z_c0, ne_c0_y, ne_c0_z, ry, rya, ryb, ryc, ryn, rz, rza, rzb, rzc, rzn, rc0, rc0a, rc0b, rc0c, rc0n]; done))
            have z56 := hx56.size
            try simp at z56
            replace ry : w.heap.size < w56.heap.size := by omega
            replace rya : w.heap.size < w56.heap.size + 1 := by omega
            replace ryb : w.heap.size < w56.heap.size + 1 + 1 := by omega
            replace ryc : w.heap.size < w56.heap.size + 1 + 1 + 1 := by omega
            replace ryn : ¬ w.heap.size = w56.heap.size := by omega
            replace rz : bo < w56.heap.size := by omega
            replace rza : bo < w56.heap.size + 1 := by omega
            replace rzb : bo < w56.heap.size + 1 + 1 := by omega
            replace rzc : bo < w56.heap.size + 1 + 1 + 1 := by omega
            replace rzn : ¬ bo = w56.heap.size := by omega
            replace rc0 : w52.heap.size < w56.heap.size := by omega
            replace rc0a : w52.heap.size < w56.heap.size + 1 := by omega
            replace rc0b : w52.heap.size < w56.heap.size + 1 + 1 := by omega
            replace rc0c : w52.heap.size < w56.heap.size + 1 + 1 + 1 := by omega
            replace rc0n : ¬ w52.heap.size = w56.heap.size := by omega
            have X56 : Hid (Ext w w56) := Lib.hid (have hX := (show Ext w _ from (by repeat (first | with_reducible exact X55.out | with_reducible refine Ext.drew ?_ | with_reducible refine Ext.drewN ?_ _ | with_reducible refine Ext.alloc ?_ _ | with_reducible refine Ext.setCell ?_ (by first | omega | (simp; done) | (simp; omega)) _))); Below.trans hX (hx56.below (Ext.size hX) (fun k hk hh => by have hh2 : k = g := hh; omega)))
            replace HO := Lib.hid (OwnR.but (OwnR.butN HO.out (by repeat (first | with_reducible exact But.refl _ _ | with_reducible refine But.drew ?_ | with_reducible refine But.drewN ?_ _ | with_reducible refine But.alloc ?_ _ | with_reducible refine But.setCell ?_ (by first | exact Nat.le_refl _ | (dsimp only; omega)) _ | with_reducible refine But.setNew ?_ (by first | omega | (simp; done) | (simp; omega)) _))) hx56 (by intro j h1 h2 hh; have h3 : j = g := hh; omega))
            clear HT
            have HT := Lib.hid hRd
            clear c0_3f hsz56 X55 hx56 z56 hRd
            replace HT : Hid (RdT w52.heap.size _ g L k5 f6) := Lib.hid (by rw [G6.out, if_pos hor]; exact HT.out)
            have HRm := Lib.hid (show RdT w52.heap.size w56 g L k5 f6 from (by repeat (first | with_reducible exact HT.out | with_reducible refine RdT.set ?_ (by omega) _ | with_reducible refine RdT.ext ?_ (Ext.alloc (Ext.refl _) _) | with_reducible refine RdT.ext ?_ (Ext.drew (Ext.refl _)) | with_reducible refine RdT.drewN ?_ _))).rd
            have HOm := Lib.hid (show OwnR w52.heap.size w56 (g + 1) 24 4 (.slice (some ⟨bo, 0, none⟩) out.length co) out.length (out.flatMap hopC) from (OwnR.butN HO.out (by repeat (first | with_reducible exact But.refl _ _ | with_reducible refine But.drew ?_ | with_reducible refine But.drewN ?_ _ | with_reducible refine But.alloc ?_ _ | with_reducible refine But.setCell ?_ (by first | exact Nat.le_refl _ | (dsimp only; omega)) _ | with_reducible refine But.setNew ?_ (by first | omega | (simp; done) | (simp; omega)) _)))).own
            have Xm : Hid (Ext w w56) := Lib.hid (by repeat (first | with_reducible exact X56.out | with_reducible refine Ext.drew ?_ | with_reducible refine Ext.drewN ?_ _ | with_reducible refine Ext.alloc ?_ _ | with_reducible refine Ext.setCell ?_ (by first | omega | (simp; done) | (simp; omega)) _))
            have hgm := HRm.out.lt
            go_wp2_with (at_builtin; refine wpList_append_slB _ rfl _ _ 22 rfl (g + 1) 24 i0 (.agg #[.int .i64 0, .int .i64 0, .int .i64 0, .int .i64 0]) 4 32 Try.underlying22 hi0 hz0 hz1 hz2 rfl (by decide) (.slice (some ⟨bo, 0, none⟩) out.length co) out.length _ (by rfl) (HOm.out.alloc _) (some ⟨w56.heap.size, 0, none⟩) 1 1 (hopC (x0, x1, x2, x3)) (by first | rfl | (simp [Act.eval]; done) | (simp [Act.eval, go_sem]; done)) (Sl.addrH (sl_new _ 24 4 #[.int .i64 x0, .int .i64 x1, .int .i64 x2, .int .i64 x3] 1 rfl (by decide)) (by first | rfl | (simp; done))) (by intro u hu; simp [hopC] at hu; rcases hu with rfl | rfl | rfl | rfl <;> rfl) (by have := GL.out; omega) (by decide) (by simp at hgm ⊢; omega) ?_; intro v2 wn hown2 hb2 hn2)
            have HOa := own_keep HOm.out ((Ext.refl _).alloc (.cells #[.int .i64 x0, .int .i64 x1, .int .i64 x2, .int .i64 x3] 24))
            have hwb : ¬ (Value.ownBlock (.slice (some ⟨bo, 0, none⟩) out.length co) = some w.heap.size) := fun hh => by have := (own_block HOa hh).1; omega
            go_roundg (gk - 1)
            case measure => have := HK.out; omega
            case rel =>
              have e : N - (gk - 1) = m + 1 + 1 := by have := HK.out; omega
              rw [e, GS.out]
              refine ⟨by have := HK.out; omega, num_eq (by have := HK.out; omega), Lib.hid ?_, Lib.hid ?_, ⟨?_, ?_, ?_, ?_⟩, ?_⟩
              · exact (HRm.out.ext ((Ext.refl _).alloc (.cells #[.int .i64 x0, .int .i64 x1, .int .i64 x2, .int .i64 x3] 24))).butT hb2 (own_ne_fault HOa (by omega) (by decide))
              · simpa [List.flatMap_append] using hown2
              · exact hb2.has hwb (((Ext.refl _).alloc (.cells #[.int .i64 x0, .int .i64 x1, .int .i64 x2, .int .i64 x3] 24)).has (by first | exact y_0 | (simp [go_sem, World.cell?_alloc_past, y_0f, y_1f, y_0, y_1, z_3, c0_0, c0_1, c0_2, c0_3, ne_y_z, ne_y_c0, ne_z_y, ne_z_c0, ne_c0_y, ne_c0_z, ry, rya, ryb, ryc, ryn, rz, rza, rzb, rzc, rzn, rc0, rc0a, rc0b, rc0c, rc0n]; done)))
              · exact hb2.has hwb (((Ext.refl _).alloc (.cells #[.int .i64 x0, .int .i64 x1, .int .i64 x2, .int .i64 x3] 24)).has (by first | exact y_1 | (simp [go_sem, World.cell?_alloc_past, y_0f, y_1f, y_0, y_1, z_3, c0_0, c0_1, c0_2, c0_3, ne_y_z, ne_y_c0, ne_z_y, ne_z_c0, ne_c0_y, ne_c0_z, ry, rya, ryb, ryc, ryn, rz, rza, rzb, rzc, rzn, rc0, rc0a, rc0b, rc0c, rc0n]; done)))
              · exact hb2.froz hwb (v := .int .i64 0) (((Ext.refl _).alloc (.cells #[.int .i64 x0, .int .i64 x1, .int .i64 x2, .int .i64 x3] 24)).has (by first | exact y_0 | (simp [go_sem, World.cell?_alloc_past, y_0f, y_1f, y_0, y_1, z_3, c0_0, c0_1, c0_2, c0_3, ne_y_z, ne_y_c0, ne_z_y, ne_z_c0, ne_c0_y, ne_c0_z, ry, rya, ryb, ryc, ryn, rz, rza, rzb, rzc, rzn, rc0, rc0a, rc0b, rc0c, rc0n]; done))) (((Ext.refl _).alloc (.cells #[.int .i64 x0, .int .i64 x1, .int .i64 x2, .int .i64 x3] 24)).froz (v := .int .i64 0) (by first | exact y_0 | (simp [go_sem, World.cell?_alloc_past, y_0f, y_1f, y_0, y_1, z_3, c0_0, c0_1, c0_2, c0_3, ne_y_z, ne_y_c0, ne_z_y, ne_z_c0, ne_c0_y, ne_c0_z, ry, rya, ryb, ryc, ryn, rz, rza, rzb, rzc, rzn, rc0, rc0a, rc0b, rc0c, rc0n]; done)) (by first | exact y_0f | (simp [go_sem, World.cell?_alloc_past, y_0f, y_1f, y_0, y_1, z_3, c0_0, c0_1, c0_2, c0_3, ne_y_z, ne_y_c0, ne_z_y, ne_z_c0, ne_c0_y, ne_c0_z, ry, rya, ryb, ryc, ryn, rz, rza, rzb, rzc, rzn, rc0, rc0a, rc0b, rc0c, rc0n]; done)))
              · exact hb2.froz hwb (v := .int .i64 0) (((Ext.refl _).alloc (.cells #[.int .i64 x0, .int .i64 x1, .int .i64 x2, .int .i64 x3] 24)).has (by first | exact y_1 | (simp [go_sem, World.cell?_alloc_past, y_0f, y_1f, y_0, y_1, z_3, c0_0, c0_1, c0_2, c0_3, ne_y_z, ne_y_c0, ne_z_y, ne_z_c0, ne_c0_y, ne_c0_z, ry, rya, ryb, ryc, ryn, rz, rza, rzb, rzc, rzn, rc0, rc0a, rc0b, rc0c, rc0n]; done))) (((Ext.refl _).alloc (.cells #[.int .i64 x0, .int .i64 x1, .int .i64 x2, .int .i64 x3] 24)).froz (v := .int .i64 0) (by first | exact y_1 | (simp [go_sem, World.cell?_alloc_past, y_0f, y_1f, y_0, y_1, z_3, c0_0, c0_1, c0_2, c0_3, ne_y_z, ne_y_c0, ne_z_y, ne_z_c0, ne_c0_y, ne_c0_z, ry, rya, ryb, ryc, ryn, rz, rza, rzb, rzc, rzn, rc0, rc0a, rc0b, rc0c, rc0n]; done)) (by first | exact y_1f | (simp [go_sem, World.cell?_alloc_past, y_0f, y_1f, y_0, y_1, z_3, c0_0, c0_1, c0_2, c0_3, ne_y_z, ne_y_c0, ne_z_y, ne_z_c0, ne_c0_y, ne_c0_z, ry, rya, ryb, ryc, ryn, rz, rza, rzb, rzc, rzn, rc0, rc0a, rc0b, rc0c, rc0n]; done)))
              · refine (fun (hxa : Ext w _) => Below.trans hxa (hb2.below hxa.size (fun k hk hh => by have := (own_block HOa hh).1; omega))) ?_
                exact Ext.alloc Xm.out _
          · have hor : ¬ ordB out x3 = true := by rw [HZ.out]; simpa using hlt
            have h65 : f6 = f5 := by rw [G6.out, if_neg hor]
            replace HT : Hid (RdT w52.heap.size (w55.setCell ⟨w52.heap.size, 3, none⟩ (.int .i64 x3)) g L k5 f6) := Lib.hid (by rw [h65]; exact (by repeat (first | with_reducible exact HT.out | with_reducible refine RdT.set ?_ (by omega) _ | with_reducible refine RdT.ext ?_ (Ext.alloc (Ext.refl _) _) | with_reducible refine RdT.ext ?_ (Ext.drew (Ext.refl _)) | with_reducible refine RdT.drewN ?_ _)))
            clear h65
            have HRm := Lib.hid (show RdT w52.heap.size (w55.setCell ⟨w52.heap.size, 3, none⟩ (.int .i64 x3)) g L k5 f6 from HT.out).rd
            have HOm := Lib.hid (show OwnR w52.heap.size (w55.setCell ⟨w52.heap.size, 3, none⟩ (.int .i64 x3)) (g + 1) 24 4 (.slice (some ⟨bo, 0, none⟩) out.length co) out.length (out.flatMap hopC) from (OwnR.butN HO.out (by repeat (first | with_reducible exact But.refl _ _ | with_reducible refine But.drew ?_ | with_reducible refine But.drewN ?_ _ | with_reducible refine But.alloc ?_ _ | with_reducible refine But.setCell ?_ (by first | exact Nat.le_refl _ | (dsimp only; omega)) _ | with_reducible refine But.setNew ?_ (by first | omega | (simp; done) | (simp; omega)) _)))).own
            have Xm : Hid (Ext w (w55.setCell ⟨w52.heap.size, 3, none⟩ (.int .i64 x3))) := Lib.hid (by repeat (first | with_reducible exact X55.out | with_reducible refine Ext.drew ?_ | with_reducible refine Ext.drewN ?_ _ | with_reducible refine Ext.alloc ?_ _ | with_reducible refine Ext.setCell ?_ (by first | omega | (simp; done) | (simp; omega)) _))
            have hgm := HRm.out.lt
            go_wp2_with (at_builtin; refine wpList_append_slB _ rfl _ _ 22 rfl (g + 1) 24 i0 (.agg #[.int .i64 0, .int .i64 0, .int .i64 0, .int .i64 0]) 4 32 Try.underlying22 hi0 hz0 hz1 hz2 rfl (by decide) (.slice (some ⟨bo, 0, none⟩) out.length co) out.length _ (by rfl) (HOm.out.alloc _) (some ⟨w55.heap.size, 0, none⟩) 1 1 (hopC (x0, x1, x2, x3)) (by first | rfl | (simp [Act.eval]; done) | (simp [Act.eval, go_sem]; done)) (Sl.addrH (sl_new _ 24 4 #[.int .i64 x0, .int .i64 x1, .int .i64 x2, .int .i64 x3] 1 rfl (by decide)) (by first | rfl | (simp; done))) (by intro u hu; simp [hopC] at hu; rcases hu with rfl | rfl | rfl | rfl <;> rfl) (by have := GL.out; omega) (by decide) (by simp at hgm ⊢; omega) ?_; intro v2 wn hown2 hb2 hn2)
            have HOa := own_keep HOm.out (Ext.drew ((Ext.refl _).alloc (.cells #[.int .i64 x0, .int .i64 x1, .int .i64 x2, .int .i64 x3] 24)))
            have hwb : ¬ (Value.ownBlock (.slice (some ⟨bo, 0, none⟩) out.length co) = some w.heap.size) := fun hh => by have := (own_block HOa hh).1; omega
            go_roundg (gk - 1)
            case measure => have := HK.out; omega
            case rel =>
              have e : N - (gk - 1) = m + 1 + 1 := by have := HK.out; omega
              rw [e, GS.out]
              refine ⟨by have := HK.out; omega, num_eq (by have := HK.out; omega), Lib.hid ?_, Lib.hid ?_, ⟨?_, ?_, ?_, ?_⟩, ?_⟩
              · exact (HRm.out.ext (Ext.drew ((Ext.refl _).alloc (.cells #[.int .i64 x0, .int .i64 x1, .int .i64 x2, .int .i64 x3] 24)))).butT hb2 (own_ne_fault HOa (by omega) (by decide))
              · simpa [List.flatMap_append] using hown2
              · exact hb2.has hwb ((Ext.drew ((Ext.refl _).alloc (.cells #[.int .i64 x0, .int .i64 x1, .int .i64 x2, .int .i64 x3] 24))).has (by first | exact y_0 | (simp [go_sem, World.cell?_alloc_past, y_0f, y_1f, y_0, y_1, z_3, c0_3f, c0_0, c0_1, c0_2, c0_3, ne_y_z, ne_y_c0, ne_z_y, ne_z_c0, ne_c0_y, ne_c0_z, ry, rya, ryb, ryc, ryn, rz, rza, rzb, rzc, rzn, rc0, rc0a, rc0b, rc0c, rc0n]; done)))
              · exact hb2.has hwb ((Ext.drew ((Ext.refl _).alloc (.cells #[.int .i64 x0, .int .i64 x1, .int .i64 x2, .int .i64 x3] 24))).has (by first | exact y_1 | (simp [go_sem, World.cell?_alloc_past, y_0f, y_1f, y_0, y_1, z_3, c0_3f, c0_0, c0_1, c0_2, c0_3, ne_y_z, ne_y_c0, ne_z_y, ne_z_c0, ne_c0_y, ne_c0_z, ry, rya, ryb, ryc, ryn, rz, rza, rzb, rzc, rzn, rc0, rc0a, rc0b, rc0c, rc0n]; done)))
              · exact hb2.froz hwb (v := .int .i64 0) ((Ext.drew ((Ext.refl _).alloc (.cells #[.int .i64 x0, .int .i64 x1, .int .i64 x2, .int .i64 x3] 24))).has (by first | exact y_0 | (simp [go_sem, World.cell?_alloc_past, y_0f, y_1f, y_0, y_1, z_3, c0_3f, c0_0, c0_1, c0_2, c0_3, ne_y_z, ne_y_c0, ne_z_y, ne_z_c0, ne_c0_y, ne_c0_z, ry, rya, ryb, ryc, ryn, rz, rza, rzb, rzc, rzn, rc0, rc0a, rc0b, rc0c, rc0n]; done))) ((Ext.drew ((Ext.refl _).alloc (.cells #[.int .i64 x0, .int .i64 x1, .int .i64 x2, .int .i64 x3] 24))).froz (v := .int .i64 0) (by first | exact y_0 | (simp [go_sem, World.cell?_alloc_past, y_0f, y_1f, y_0, y_1, z_3, c0_3f, c0_0, c0_1, c0_2, c0_3, ne_y_z, ne_y_c0, ne_z_y, ne_z_c0, ne_c0_y, ne_c0_z, ry, rya, ryb, ryc, ryn, rz, rza, rzb, rzc, rzn, rc0, rc0a, rc0b, rc0c, rc0n]; done)) (by first | exact y_0f | (simp [go_sem, World.cell?_alloc_past, y_0f, y_1f, y_0, y_1, z_3, c0_3f, c0_0, c0_1, c0_2, c0_3, ne_y_z, ne_y_c0, ne_z_y, ne_z_c0, ne_c0_y, ne_c0_z, ry, rya, ryb, ryc, ryn, rz, rza, rzb, rzc, rzn, rc0, rc0a, rc0b, rc0c, rc0n]; done)))
              · exact hb2.froz hwb (v := .int .i64 0) ((Ext.drew ((Ext.refl _).alloc (.cells #[.int .i64 x0, .int .i64 x1, .int .i64 x2, .int .i64 x3] 24))).has (by first | exact y_1 | (simp [go_sem, World.cell?_alloc_past, y_0f, y_1f, y_0, y_1, z_3, c0_3f, c0_0, c0_1, c0_2, c0_3, ne_y_z, ne_y_c0, ne_z_y, ne_z_c0, ne_c0_y, ne_c0_z, ry, rya, ryb, ryc, ryn, rz, rza, rzb, rzc, rzn, rc0, rc0a, rc0b, rc0c, rc0n]; done))) ((Ext.drew ((Ext.refl _).alloc (.cells #[.int .i64 x0, .int .i64 x1, .int .i64 x2, .int .i64 x3] 24))).froz (v := .int .i64 0) (by first | exact y_1 | (simp [go_sem, World.cell?_alloc_past, y_0f, y_1f, y_0, y_1, z_3, c0_3f, c0_0, c0_1, c0_2, c0_3, ne_y_z, ne_y_c0, ne_z_y, ne_z_c0, ne_c0_y, ne_c0_z, ry, rya, ryb, ryc, ryn, rz, rza, rzb, rzc, rzn, rc0, rc0a, rc0b, rc0c, rc0n]; done)) (by first | exact y_1f | (simp [go_sem, World.cell?_alloc_past, y_0f, y_1f, y_0, y_1, z_3, c0_3f, c0_0, c0_1, c0_2, c0_3, ne_y_z, ne_y_c0, ne_z_y, ne_z_c0, ne_c0_y, ne_c0_z, ry, rya, ryb, ryc, ryn, rz, rza, rzb, rzc, rzn, rc0, rc0a, rc0b, rc0c, rc0n]; done)))
              · refine (fun (hxa : Ext w _) => Below.trans hxa (hb2.below hxa.size (fun k hk hh => by have := (own_block HOa hh).1; omega))) ?_
                exact Ext.drew (Ext.alloc Xm.out _)
        · have e12 : (x2 == x1) = false := by simpa using h12
          have h43 : f4 = f3 := by rw [G4.out, if_neg h12]
          clear h12
          replace HT : Hid (RdT w52.heap.size (w53.setCell ⟨w52.heap.size, 2, none⟩ (.int .i64 x2)) g L k3 f4) := Lib.hid (by rw [h43]; exact (by repeat (first | with_reducible exact HT.out | with_reducible refine RdT.set ?_ (by omega) _ | with_reducible refine RdT.ext ?_ (Ext.alloc (Ext.refl _) _) | with_reducible refine RdT.ext ?_ (Ext.drew (Ext.refl _)) | with_reducible refine RdT.drewN ?_ _)))
          clear h43
          go_wp2_with fail
          (with_reducible refine (cAt_any g k3 L f4 _ (RdT.rd (q := w52.heap.size) (by repeat (first | with_reducible exact HT.out | with_reducible refine RdT.set ?_ (by omega) _ | with_reducible refine RdT.ext ?_ (Ext.alloc (Ext.refl _) _) | with_reducible refine RdT.ext ?_ (Ext.drew (Ext.refl _)) | with_reducible refine RdT.drewN ?_ _)))).mono ?_)
          rintro e w_2 ⟨rfl, rfl⟩
          go_wp2_with fail
          (with_reducible refine (cRN_Te (w52.heap.size) g k3 k5 L f4 f5 1 4294967296 x3 (by decide) (by decide) (by decide) (by decide) hL Gx3.out.1 Gx3.out.2.1 Gx3.out.2.2 _ (by repeat (first | with_reducible exact HT.out | with_reducible refine RdT.set ?_ (by omega) _ | with_reducible refine RdT.ext ?_ (Ext.alloc (Ext.refl _) _) | with_reducible refine RdT.ext ?_ (Ext.drew (Ext.refl _)) | with_reducible refine RdT.drewN ?_ _))).mono ?_)
          rintro e w54 ⟨rfl, hRd, hx54⟩
          have hsz54 := hx54.size
          try simp at hsz54
          replace y_0f : w54.frozen? ⟨w.heap.size, 0, none⟩ = false := hx54.froz (by show ¬ _ = _; first | assumption | omega) (v := .int .i64 0) (by first | exact y_0 | (simp [go_sem, World.cell?_alloc_past, y_0f, y_1f, y_0, y_1, z_3, c0_2f, c0_3f, c0_0, c0_1, c0_2, c0_3, ne_y_z, ne_y_c0, ne_z_y, ne_z_c0, ne_c0_y, ne_c0_z, ry, rya, ryb, ryc, ryn, rz, rza, rzb, rzc, rzn, rc0, rc0a, rc0b, rc0c, rc0n]; done)) (by first | exact y_0f | (simp [go_sem, World.cell?_alloc_past, y_0f, y_1f, y_0, y_1, z_3, c0_2f, c0_3f, c0_0, c0_1, c0_2, c0_3, ne_y_z, ne_y_c0, ne_z_y, ne_z_c0, ne_c0_y, ne_c0_z, ry, rya, ryb, ryc, ryn, rz, rza, rzb, rzc, rzn, rc0, rc0a, rc0b, rc0c, rc0n]; done))
          replace y_1f : w54.frozen? ⟨w.heap.size, 1, none⟩ = false := hx54.froz (by show ¬ _ = _; first | assumption | omega) (v := .int .i64 0) (by first | exact y_1 | (simp [go_sem, World.cell?_alloc_past, y_0f, y_1f, y_0, y_1, z_3, c0_2f, c0_3f, c0_0, c0_1, c0_2, c0_3, ne_y_z, ne_y_c0, ne_z_y, ne_z_c0, ne_c0_y, ne_c0_z, ry, rya, ryb, ryc, ryn, rz, rza, rzb, rzc, rzn, rc0, rc0a, rc0b, rc0c, rc0n]; done)) (by first | exact y_1f | (simp [go_sem, World.cell?_alloc_past, y_0f, y_1f, y_0, y_1, z_3, c0_2f, c0_3f, c0_0, c0_1, c0_2, c0_3, ne_y_z, ne_y_c0, ne_z_y, ne_z_c0, ne_c0_y, ne_c0_z, ry, rya, ryb, ryc, ryn, rz, rza, rzb, rzc, rzn, rc0, rc0a, rc0b, rc0c, rc0n]; done))
          replace y_0 : w54.cell? ⟨w.heap.size, 0, none⟩ = some (.int .i64 0) := hx54.has (by show ¬ _ = _; first | assumption | omega) (by first | exact y_0 | (simp [go_sem, World.cell?_alloc_past, y_0f, y_1f, y_0, y_1, z_3, c0_2f, c0_3f, c0_0, c0_1, c0_2, c0_3, ne_y_z, ne_y_c0, ne_z_y, ne_z_c0, ne_c0_y, ne_c0_z, ry, rya, ryb, ryc, ryn, rz, rza, rzb, rzc, rzn, rc0, rc0a, rc0b, rc0c, rc0n]; done))
          replace y_1 : w54.cell? ⟨w.heap.size, 1, none⟩ = some (.int .i64 0) := hx54.has (by show ¬ _ = _; first | assumption | omega) (by first | exact y_1 | (simp [go_sem, World.cell?_alloc_past, y_0f, y_1f, y_0, y_1, z_3, c0_2f, c0_3f, c0_0, c0_1, c0_2, c0_3, ne_y_z, ne_y_c0, ne_z_y, ne_z_c0, ne_c0_y, ne_c0_z, ry, rya, ryb, ryc, ryn, rz, rza, rzb, rzc, rzn, rc0, rc0a, rc0b, rc0c, rc0n]; done))
          replace z_3 : w54.cell? ⟨bo, m * 4 + 3, none⟩ = some (.int .i64 z3) := hx54.has (by show ¬ _ = _; first | assumption | omega) (by first | exact z_3 | (simp [go_sem, World.cell?_alloc_past, y_0f, y_1f, y_0, y_1, z_3, c0_2f, c0_3f, c0_0, c0_1, c0_2, c0_3, ne_y_z, ne_y_c0, ne_z_y, ne_z_c0, ne_c0_y, ne_c0_z, ry, rya, ryb, ryc, ryn, rz, rza, rzb, rzc, rzn, rc0, rc0a, rc0b, rc0c, rc0n]; done))
          replace c0_3f : w54.frozen? ⟨w52.heap.size, 3, none⟩ = false := hx54.froz (by show ¬ _ = _; first | assumption | omega) (v := .int .i64 0) (by first | exact c0_3 | (simp [go_sem, World.cell?_alloc_past, y_0f, y_1f, y_0, y_1, z_3, c0_2f, c0_3f, c0_0, c0_1, c0_2, c0_3, ne_y_z, ne_y_c0, ne_z_y, ne_z_c0, ne_c0_y, ne_c0_z, ry, rya, ryb, ryc, ryn, rz, rza, rzb, rzc, rzn, rc0, rc0a, rc0b, rc0c, rc0n]; done)) (by first | exact c0_3f | (simp [go_sem, World.cell?_alloc_past, y_0f, y_1f, y_0, y_1, z_3, c0_2f, c0_3f, c0_0, c0_1, c0_2, c0_3, ne_y_z, ne_y_c0, ne_z_y, ne_z_c0, ne_c0_y, ne_c0_z, ry, rya, ryb, ryc, ryn, rz, rza, rzb, rzc, rzn, rc0, rc0a, rc0b, rc0c, rc0n]; done))
          replace c0_0 : w54.cell? ⟨w52.heap.size, 0, none⟩ = some (.int .i64 x0) := hx54.has (by show ¬ _ = _; first | assumption | omega) (by first | exact c0_0 | (simp [go_sem, World.cell?_alloc_past, y_0f, y_1f, y_0, y_1, z_3, c0_2f, c0_3f, c0_0, c0_1, c0_2, c0_3, ne_y_z, ne_y_c0, ne_z_y, ne_z_c0, ne_c0_y, ne_c0_z, ry, rya, ryb, ryc, ryn, rz, rza, rzb, rzc, rzn, rc0, rc0a, rc0b, rc0c, rc0n]; done))
          replace c0_1 : w54.cell? ⟨w52.heap.size, 1, none⟩ = some (.int .i64 x1) := hx54.has (by show ¬ _ = _; first | assumption | omega) (by first | exact c0_1 | (simp [go_sem, World.cell?_alloc_past, y_0f, y_1f, y_0, y_1, z_3, c0_2f, c0_3f, c0_0, c0_1, c0_2, c0_3, ne_y_z, ne_y_c0, ne_z_y, ne_z_c0, ne_c0_y, ne_c0_z, ry, rya, ryb, ryc, ryn, rz, rza, rzb, rzc, rzn, rc0, rc0a, rc0b, rc0c, rc0n]; done))
          replace c0_2 : w54.cell? ⟨w52.heap.size, 2, none⟩ = some (.int .i64 x2) := hx54.has (by show ¬ _ = _; first | assumption | omega) (by first | exact c0_2 | (simp [go_sem, World.cell?_alloc_past, y_0f, y_1f, y_0, y_1, z_3, c0_2f, c0_3f, c0_0, c0_1, c0_2, c0_3, ne_y_z, ne_y_c0, ne_z_y, ne_z_c0, ne_c0_y, ne_c0_z, ry, rya, ryb, ryc, ryn, rz, rza, rzb, rzc, rzn, rc0, rc0a, rc0b, rc0c, rc0n]; done))
          replace c0_3 : w54.cell? ⟨w52.heap.size, 3, none⟩ = some (.int .i64 0) := hx54.has (by show ¬ _ = _; first | assumption | omega) (by first | exact c0_3 | (simp [go_sem, World.cell?_alloc_past, y_0f, y_1f, y_0, y_1, z_3, c0_2f, c0_3f, c0_0, c0_1, c0_2, c0_3, ne_y_z, ne_y_c0, ne_z_y, ne_z_c0, ne_c0_y, ne_c0_z, ry, rya, ryb, ryc, ryn, rz, rza, rzb, rzc, rzn, rc0, rc0a, rc0b, rc0c, rc0n]; done))
          have z54 := hx54.size
          try simp at z54
          replace ry : w.heap.size < w54.heap.size := by omega
          replace rya : w.heap.size < w54.heap.size + 1 := by omega
          replace ryb : w.heap.size < w54.heap.size + 1 + 1 := by omega
          replace ryc : w.heap.size < w54.heap.size + 1 + 1 + 1 := by omega
          replace ryn : ¬ w.heap.size = w54.heap.size := by omega
          replace rz : bo < w54.heap.size := by omega
          replace rza : bo < w54.heap.size + 1 := by omega
          replace rzb : bo < w54.heap.size + 1 + 1 := by omega
          replace rzc : bo < w54.heap.size + 1 + 1 + 1 := by omega
          replace rzn : ¬ bo = w54.heap.size := by omega
          replace rc0 : w52.heap.size < w54.heap.size := by omega
          replace rc0a : w52.heap.size < w54.heap.size + 1 := by omega
          replace rc0b : w52.heap.size < w54.heap.size + 1 + 1 := by omega
          replace rc0c : w52.heap.size < w54.heap.size + 1 + 1 + 1 := by omega
          replace rc0n : ¬ w52.heap.size = w54.heap.size := by omega
          have X54 : Hid (Ext w w54) := Lib.hid (have hX := (show Ext w _ from (by repeat (first | with_reducible exact X53.out | with_reducible refine Ext.drew ?_ | with_reducible refine Ext.drewN ?_ _ | with_reducible refine Ext.alloc ?_ _ | with_reducible refine Ext.setCell ?_ (by first | omega | (simp; done) | (simp; omega)) _))); Below.trans hX (hx54.below (Ext.size hX) (fun k hk hh => by have hh2 : k = g := hh; omega)))
          replace HO := Lib.hid (OwnR.but (OwnR.butN HO.out (by repeat (first | with_reducible exact But.refl _ _ | with_reducible refine But.drew ?_ | with_reducible refine But.drewN ?_ _ | with_reducible refine But.alloc ?_ _ | with_reducible refine But.setCell ?_ (by first | exact Nat.le_refl _ | (dsimp only; omega)) _ | with_reducible refine But.setNew ?_ (by first | omega | (simp; done) | (simp; omega)) _))) hx54 (by intro j h1 h2 hh; have h3 : j = g := hh; omega))
          clear HT
          have HT := Lib.hid hRd
          clear c0_2f hsz54 X53 hx54 z54 hRd
          go_wp2_with fail
          refine wp_region_held_drew (S := fun w' => w'.cell? ⟨w52.heap.size, 3, none⟩ = some (.int .i64 x3) ∧ w'.cell? ⟨bo, m * 4 + 3, none⟩ = some (.int .i64 z3)) (by kernel_rfl) (by first | exact ⟨c0_3, z_3⟩ | (simp [go_sem, World.cell?_alloc_past, y_0f, y_1f, y_0, y_1, z_3, c0_3f, c0_0, c0_1, c0_2, c0_3, ne_y_z, ne_y_c0, ne_z_y, ne_z_c0, ne_c0_y, ne_c0_z, ry, rya, ryb, ryc, ryn, rz, rza, rzb, rzc, rzn, rc0, rc0a, rc0b, rc0c, rc0n]; done)) (fun hHeld => ?_)
          (refine' take_in 0 rfl (by kernel_rfl) (by kernel_rfl) (by kernel_rfl) (fun _ _ _ h => h) (by rfl) (by assumption) ?_ ?_; rotate_left; focus (intro w hSw; (try dsimp only at hSw); go_simp; try with_reducible rfl)); try simp only [Act.put, List.setIfInBounds_toArray, List.set_cons_zero, List.set_cons_succ]
          (refine' take_in 1 rfl (by kernel_rfl) (by kernel_rfl) (by kernel_rfl) (fun _ _ _ h => h) (by rfl) (by assumption) ?_ ?_; rotate_left; focus (intro w hSw; (try dsimp only at hSw); go_simp; try with_reducible rfl)); try simp only [Act.put, List.setIfInBounds_toArray, List.set_cons_zero, List.set_cons_succ]
          (refine' take_in 2 rfl (by kernel_rfl) (by kernel_rfl) (by kernel_rfl) (fun _ _ _ h => h) (by rfl) (by assumption) ?_ ?_; rotate_left; focus (intro w hSw; (try dsimp only at hSw); go_simp; try with_reducible rfl)); try simp only [Act.put, List.setIfInBounds_toArray, List.set_cons_zero, List.set_cons_succ]
          (refine' take_in 3 rfl (by kernel_rfl) (by kernel_rfl) (by kernel_rfl) (fun _ _ _ h => h) (by rfl) (by assumption) ?_ ?_; rotate_left; focus (intro w hSw; (try dsimp only at hSw); go_simp; try with_reducible rfl)); try simp only [Act.put, List.setIfInBounds_toArray, List.set_cons_zero, List.set_cons_succ]
          (refine' take_in 4 rfl (by kernel_rfl) (by kernel_rfl) (by kernel_rfl) (fun _ _ _ h => h) (by rfl) (by assumption) ?_ ?_; rotate_left; focus (intro w hSw; (try dsimp only at hSw); go_simp; try with_reducible rfl)); try simp only [Act.put, List.setIfInBounds_toArray, List.set_cons_zero, List.set_cons_succ]
          (refine' take_in 5 rfl (by kernel_rfl) (by kernel_rfl) (by kernel_rfl) (fun _ _ _ h => h) (by rfl) (by assumption) ?_ ?_; rotate_left; focus (intro w hSw; (try dsimp only at hSw); go_simp; try with_reducible rfl)); try simp only [Act.put, List.setIfInBounds_toArray, List.set_cons_zero, List.set_cons_succ]
          (refine' take_in 6 rfl (by kernel_rfl) (by kernel_rfl) (by kernel_rfl) (fun _ _ _ h => h) (by rfl) (by assumption) ?_ ?_; rotate_left; focus (intro w hSw; (try dsimp only at hSw); go_simp; try with_reducible rfl)); try simp only [Act.put, List.setIfInBounds_toArray, List.set_cons_zero, List.set_cons_succ]
          (refine' take_in 7 rfl (by kernel_rfl) (by kernel_rfl) (by kernel_rfl) (fun _ _ _ h => h) (by rfl) (by assumption) ?_ ?_; rotate_left; focus (intro w hSw; (try dsimp only at hSw); go_simp; try with_reducible rfl)); try simp only [Act.put, List.setIfInBounds_toArray, List.set_cons_zero, List.set_cons_succ]
          (refine' take_in 8 rfl (by kernel_rfl) (by kernel_rfl) (by kernel_rfl) (fun _ _ _ h => h) (by rfl) (by assumption) ?_ ?_; rotate_left; focus (intro w hSw; (try dsimp only at hSw); go_simp; try with_reducible rfl)); try simp only [Act.put, List.setIfInBounds_toArray, List.set_cons_zero, List.set_cons_succ]
          (refine' take_in 9 rfl (by kernel_rfl) (by kernel_rfl) (by kernel_rfl) (fun _ _ _ h => h) (by rfl) (by assumption) ?_ ?_; rotate_left; focus (intro w hSw; (try dsimp only at hSw); go_simp; try with_reducible rfl)); try simp only [Act.put, List.setIfInBounds_toArray, List.set_cons_zero, List.set_cons_succ]
          (refine' take_in 10 rfl (by kernel_rfl) (by kernel_rfl) (by kernel_rfl) (fun _ _ _ h => h) (by rfl) (by assumption) ?_ ?_; rotate_left; focus (intro w hSw; (try dsimp only at hSw); go_simp; try with_reducible rfl)); try simp only [Act.put, List.setIfInBounds_toArray, List.set_cons_zero, List.set_cons_succ]
          (refine' take_in 11 rfl (by kernel_rfl) (by kernel_rfl) (by kernel_rfl) (fun _ _ _ h => h) (by rfl) (by assumption) ?_ ?_; rotate_left; focus (intro w hSw; (try dsimp only at hSw); go_simp; try with_reducible rfl)); try simp only [Act.put, List.setIfInBounds_toArray, List.set_cons_zero, List.set_cons_succ]
          (refine' take_in 12 rfl (by kernel_rfl) (by kernel_rfl) (by kernel_rfl) (fun _ _ _ h => h) (by rfl) (by assumption) ?_ ?_; rotate_left; focus (intro w hSw; (try dsimp only at hSw); go_simp; try with_reducible rfl)); try simp only [Act.put, List.setIfInBounds_toArray, List.set_cons_zero, List.set_cons_succ]
          refine wpAnyH_done (by kernel_rfl) ?_ _
          by_cases hlt : x3 < z3
          · have hor : ordB out x3 = true := by rw [HZ.out]; exact decide_eq_true hlt
            go_wp2_with fail
            (with_reducible refine (cFail_T (w52.heap.size) g k5 L f5 9 (atF f4 k3) _ (by repeat (first | with_reducible exact HT.out | with_reducible refine RdT.set ?_ (by omega) _ | with_reducible refine RdT.ext ?_ (Ext.alloc (Ext.refl _) _) | with_reducible refine RdT.ext ?_ (Ext.drew (Ext.refl _)) | with_reducible refine RdT.drewN ?_ _))).mono ?_)
            rintro e w55 ⟨⟨vv, rfl⟩, hRd, hx55⟩
            have hsz55 := hx55.size
            try simp at hsz55
            replace y_0f : w55.frozen? ⟨w.heap.size, 0, none⟩ = false := hx55.froz (by show ¬ _ = _; first | assumption | omega) (v := .int .i64 0) (by first | exact y_0 | (simp [go_sem, World.cell?_alloc_past, y_0f, y_1f, y_0, y_1, z_3, c0_3f, c0_0, c0_1, c0_2, c0_3, ne_y_z, ne_y_c0, ne_z_y, ne_z_c0, ne_c0_y, ne_c0_z, ry, rya, ryb, ryc, ryn, rz, rza, rzb, rzc, rzn, rc0, rc0a, rc0b, rc0c, rc0n]; done)) (by first | exact y_0f | (simp [go_sem, World.cell?_alloc_past, y_0f, y_1f, y_0, y_1, z_3, c0_3f, c0_0, c0_1, c0_2, c0_3, ne_y_z, ne_y_c0, ne_z_y, ne_z_c0, ne_c0_y, ne_c0_z, ry, rya, ryb, ryc, ryn, rz, rza, rzb, rzc, rzn, rc0, rc0a, rc0b, rc0c, rc0n]; done))
            replace y_1f : w55.frozen? ⟨w.heap.size, 1, none⟩ = false := hx55.froz (by show ¬ _ = _; first | assumption | omega) (v := .int .i64 0) (by first | exact y_1 | (simp [go_sem, World.cell?_alloc_past, y_0f, y_1f, y_0, y_1, z_3, c0_3f, c0_0, c0_1, c0_2, c0_3, ne_y_z, ne_y_c0, ne_z_y, ne_z_c0, ne_c0_y, ne_c0_z, ry, rya, ryb, ryc, ryn, rz, rza, rzb, rzc, rzn, rc0, rc0a, rc0b, rc0c, rc0n]; done)) (by first | exact y_1f | (simp [go_sem, World.cell?_alloc_past, y_0f, y_1f, y_0, y_1, z_3, c0_3f, c0_0, c0_1, c0_2, c0_3, ne_y_z, ne_y_c0, ne_z_y, ne_z_c0, ne_c0_y, ne_c0_z, ry, rya, ryb, ryc, ryn, rz, rza, rzb, rzc, rzn, rc0, rc0a, rc0b, rc0c, rc0n]; done))
            replace y_0 : w55.cell? ⟨w.heap.size, 0, none⟩ = some (.int .i64 0) := hx55.has (by show ¬ _ = _; first | assumption | omega) (by first | exact y_0 | (simp [go_sem, World.cell?_alloc_past, y_0f, y_1f, y_0, y_1, z_3, c0_3f, c0_0, c0_1, c0_2, c0_3, ne_y_z, ne_y_c0, ne_z_y, ne_z_c0, ne_c0_y, ne_c0_z, ry, rya, ryb, ryc, ryn, rz, rza, rzb, rzc, rzn, rc0, rc0a, rc0b, rc0c, rc0n]; done))
            replace y_1 : w55.cell? ⟨w.heap.size, 1, none⟩ = some (.int .i64 0) := hx55.has (by show ¬ _ = _; first | assumption | omega) (by first | exact y_1 | (simp [go_sem, World.cell?_alloc_past, y_0f, y_1f, y_0, y_1, z_3, c0_3f, c0_0, c0_1, c0_2, c0_3, ne_y_z, ne_y_c0, ne_z_y, ne_z_c0, ne_c0_y, ne_c0_z, ry, rya, ryb, ryc, ryn, rz, rza, rzb, rzc, rzn, rc0, rc0a, rc0b, rc0c, rc0n]; done))
            replace z_3 : w55.cell? ⟨bo, m * 4 + 3, none⟩ = some (.int .i64 z3) := hx55.has (by show ¬ _ = _; first | assumption | omega) (by first | exact z_3 | (simp [go_sem, World.cell?_alloc_past, y_0f, y_1f, y_0, y_1, z_3, c0_3f, c0_0, c0_1, c0_2, c0_3, ne_y_z, ne_y_c0, ne_z_y, ne_z_c0, ne_c0_y, ne_c0_z, ry, rya, ryb, ryc, ryn, rz, rza, rzb, rzc, rzn, rc0, rc0a, rc0b, rc0c, rc0n]; done))
            replace c0_3f : w55.frozen? ⟨w52.heap.size, 3, none⟩ = false := hx55.froz (by show ¬ _ = _; first | assumption | omega) (v := .int .i64 x3) (by first | exact c0_3 | (simp [go_sem, World.cell?_alloc_past, y_0f, y_1f, y_0, y_1, z_3, c0_3f, c0_0, c0_1, c0_2, c0_3, ne_y_z, ne_y_c0, ne_z_y, ne_z_c0, ne_c0_y, ne_c0_z, ry, rya, ryb, ryc, ryn, rz, rza, rzb, rzc, rzn, rc0, rc0a, rc0b, rc0c, rc0n]; done)) (by first | exact c0_3f | (simp [go_sem, World.cell?_alloc_past, y_0f, y_1f, y_0, y_1, z_3, c0_3f, c0_0, c0_1, c0_2, c0_3, ne_y_z, ne_y_c0, ne_z_y, ne_z_c0, ne_c0_y, ne_c0_z, ry, rya, ryb, ryc, ryn, rz, rza, rzb, rzc, rzn, rc0, rc0a, rc0b, rc0c, rc0n]; done))
            replace c0_0 : w55.cell? ⟨w52.heap.size, 0, none⟩ = some (.int .i64 x0) := hx55.has (by show ¬ _ = _; first | assumption | omega) (by first | exact c0_0 | (simp [go_sem, World.cell?_alloc_past, y_0f, y_1f, y_0, y_1, z_3, c0_3f, c0_0, c0_1, c0_2, c0_3, ne_y_z, ne_y_c0, ne_z_y, ne_z_c0, ne_c0_y, ne_c0_z, ry, rya, ryb, ryc, ryn, rz, rza, rzb, rzc, rzn, rc0, rc0a, rc0b, rc0c, rc0n]; done))
            replace c0_1 : w55.cell? ⟨w52.heap.size, 1, none⟩ = some (.int .i64 x1) := hx55.has (by show ¬ _ = _; first | assumption | omega) (by first | exact c0_1 | (simp [go_sem, World.cell?_alloc_past, y_0f, y_1f, y_0, y_1, z_3, c0_3f, c0_0, c0_1, c0_2, c0_3, ne_y_z, ne_y_c0, ne_z_y, ne_z_c0, ne_c0_y, ne_c0_z, ry, rya, ryb, ryc, ryn, rz, rza, rzb, rzc, rzn, rc0, rc0a, rc0b, rc0c, rc0n]; done))
            replace c0_2 : w55.cell? ⟨w52.heap.size, 2, none⟩ = some (.int .i64 x2) := hx55.has (by show ¬ _ = _; first | assumption | omega) (by first | exact c0_2 | (simp [go_sem, World.cell?_alloc_past, y_0f, y_1f, y_0, y_1, z_3, c0_3f, c0_0, c0_1, c0_2, c0_3, ne_y_z, ne_y_c0, ne_z_y, ne_z_c0, ne_c0_y, ne_c0_z, ry, rya, ryb, ryc, ryn, rz, rza, rzb, rzc, rzn, rc0, rc0a, rc0b, rc0c, rc0n]; done))
            replace c0_3 : w55.cell? ⟨w52.heap.size, 3, none⟩ = some (.int .i64 x3) := hx55.has (by show ¬ _ = _; first | assumption | omega) (by first | exact c0_3 | (simp [go_sem, World.cell?_alloc_past, y_0f, y_1f, y_0, y_1, z_3, c0_3f, c0_0, c0_1, c0_2, c0_3, ne_y_z, ne_y_c0, ne_z_y, ne_z_c0, ne_c0_y, ne_c0_z, ry, rya, ryb, ryc, ryn, rz, rza, rzb, rzc, rzn, rc0, rc0a, rc0b, rc0c, rc0n]; done))
            have z55 := hx55.size
            try simp at z55
            replace ry : w.heap.size < w55.heap.size := by omega
            replace rya : w.heap.size < w55.heap.size + 1 := by omega
            replace ryb : w.heap.size < w55.heap.size + 1 + 1 := by omega
            replace ryc : w.heap.size < w55.heap.size + 1 + 1 + 1 := by omega
            replace ryn : ¬ w.heap.size = w55.heap.size := by omega
            replace rz : bo < w55.heap.size := by omega
            replace rza : bo < w55.heap.size + 1 := by omega
            replace rzb : bo < w55.heap.size + 1 + 1 := by omega
            replace rzc : bo < w55.heap.size + 1 + 1 + 1 := by omega
            replace rzn : ¬ bo = w55.heap.size := by omega
            replace rc0 : w52.heap.size < w55.heap.size := by omega
            replace rc0a : w52.heap.size < w55.heap.size + 1 := by omega
            replace rc0b : w52.heap.size < w55.heap.size + 1 + 1 := by omega
            replace rc0c : w52.heap.size < w55.heap.size + 1 + 1 + 1 := by omega
            replace rc0n : ¬ w52.heap.size = w55.heap.size := by omega
            have X55 : Hid (Ext w w55) := Lib.hid (have hX := (show Ext w _ from (by repeat (first | with_reducible exact X54.out | with_reducible refine Ext.drew ?_ | with_reducible refine Ext.drewN ?_ _ | with_reducible refine Ext.alloc ?_ _ | with_reducible refine Ext.setCell ?_ (by first | omega | (simp; done) | (simp; omega)) _))); Below.trans hX (hx55.below (Ext.size hX) (fun k hk hh => by have hh2 : k = g := hh; omega)))
            replace HO := Lib.hid (OwnR.but (OwnR.butN HO.out (by repeat (first | with_reducible exact But.refl _ _ | with_reducible refine But.drew ?_ | with_reducible refine But.drewN ?_ _ | with_reducible refine But.alloc ?_ _ | with_reducible refine But.setCell ?_ (by first | exact Nat.le_refl _ | (dsimp only; omega)) _ | with_reducible refine But.setNew ?_ (by first | omega | (simp; done) | (simp; omega)) _))) hx55 (by intro j h1 h2 hh; have h3 : j = g := hh; omega))
            clear HT
            have HT := Lib.hid hRd
            clear hsz55 X54 hx55 z55 hRd
            replace HT : Hid (RdT w52.heap.size _ g L k5 f6) := Lib.hid (by rw [G6.out, if_pos hor]; exact HT.out)
            have HRm := Lib.hid (show RdT w52.heap.size w55 g L k5 f6 from (by repeat (first | with_reducible exact HT.out | with_reducible refine RdT.set ?_ (by omega) _ | with_reducible refine RdT.ext ?_ (Ext.alloc (Ext.refl _) _) | with_reducible refine RdT.ext ?_ (Ext.drew (Ext.refl _)) | with_reducible refine RdT.drewN ?_ _))).rd
            have HOm := Lib.hid (show OwnR w52.heap.size w55 (g + 1) 24 4 (.slice (some ⟨bo, 0, none⟩) out.length co) out.length (out.flatMap hopC) from (OwnR.butN HO.out (by repeat (first | with_reducible exact But.refl _ _ | with_reducible refine But.drew ?_ | with_reducible refine But.drewN ?_ _ | with_reducible refine But.alloc ?_ _ | with_reducible refine But.setCell ?_ (by first | exact Nat.le_refl _ | (dsimp only; omega)) _ | with_reducible refine But.setNew ?_ (by first | omega | (simp; done) | (simp; omega)) _)))).own
            have Xm : Hid (Ext w w55) := Lib.hid (by repeat (first | with_reducible exact X55.out | with_reducible refine Ext.drew ?_ | with_reducible refine Ext.drewN ?_ _ | with_reducible refine Ext.alloc ?_ _ | with_reducible refine Ext.setCell ?_ (by first | omega | (simp; done) | (simp; omega)) _))
            have hgm := HRm.out.lt
            go_wp2_with (at_builtin; refine wpList_append_slB _ rfl _ _ 22 rfl (g + 1) 24 i0 (.agg #[.int .i64 0, .int .i64 0, .int .i64 0, .int .i64 0]) 4 32 Try.underlying22 hi0 hz0 hz1 hz2 rfl (by decide) (.slice (some ⟨bo, 0, none⟩) out.length co) out.length _ (by rfl) (HOm.out.alloc _) (some ⟨w55.heap.size, 0, none⟩) 1 1 (hopC (x0, x1, x2, x3)) (by first | rfl | (simp [Act.eval]; done) | (simp [Act.eval, go_sem]; done)) (Sl.addrH (sl_new _ 24 4 #[.int .i64 x0, .int .i64 x1, .int .i64 x2, .int .i64 x3] 1 rfl (by decide)) (by first | rfl | (simp; done))) (by intro u hu; simp [hopC] at hu; rcases hu with rfl | rfl | rfl | rfl <;> rfl) (by have := GL.out; omega) (by decide) (by simp at hgm ⊢; omega) ?_; intro v2 wn hown2 hb2 hn2)
            have HOa := own_keep HOm.out ((Ext.refl _).alloc (.cells #[.int .i64 x0, .int .i64 x1, .int .i64 x2, .int .i64 x3] 24))
            have hwb : ¬ (Value.ownBlock (.slice (some ⟨bo, 0, none⟩) out.length co) = some w.heap.size) := fun hh => by have := (own_block HOa hh).1; omega
            go_roundg (gk - 1)
            case measure => have := HK.out; omega
            case rel =>
              have e : N - (gk - 1) = m + 1 + 1 := by have := HK.out; omega
              rw [e, GS.out]
              refine ⟨by have := HK.out; omega, num_eq (by have := HK.out; omega), Lib.hid ?_, Lib.hid ?_, ⟨?_, ?_, ?_, ?_⟩, ?_⟩
              · exact (HRm.out.ext ((Ext.refl _).alloc (.cells #[.int .i64 x0, .int .i64 x1, .int .i64 x2, .int .i64 x3] 24))).butT hb2 (own_ne_fault HOa (by omega) (by decide))
              · simpa [List.flatMap_append] using hown2
              · exact hb2.has hwb (((Ext.refl _).alloc (.cells #[.int .i64 x0, .int .i64 x1, .int .i64 x2, .int .i64 x3] 24)).has (by first | exact y_0 | (simp [go_sem, World.cell?_alloc_past, y_0f, y_1f, y_0, y_1, z_3, c0_3f, c0_0, c0_1, c0_2, c0_3, ne_y_z, ne_y_c0, ne_z_y, ne_z_c0, ne_c0_y, ne_c0_z, ry, rya, ryb, ryc, ryn, rz, rza, rzb, rzc, rzn, rc0, rc0a, rc0b, rc0c, rc0n]; done)))
              · exact hb2.has hwb (((Ext.refl _).alloc (.cells #[.int .i64 x0, .int .i64 x1, .int .i64 x2, .int .i64 x3] 24)).has (by first | exact y_1 | (simp [go_sem, World.cell?_alloc_past, y_0f, y_1f, y_0, y_1, z_3, c0_3f, c0_0, c0_1, c0_2, c0_3, ne_y_z, ne_y_c0, ne_z_y, ne_z_c0, ne_c0_y, ne_c0_z, ry, rya, ryb, ryc, ryn, rz, rza, rzb, rzc, rzn, rc0, rc0a, rc0b, rc0c, rc0n]; done)))
              · exact hb2.froz hwb (v := .int .i64 0) (((Ext.refl _).alloc (.cells #[.int .i64 x0, .int .i64 x1, .int .i64 x2, .int .i64 x3] 24)).has (by first | exact y_0 | (simp [go_sem, World.cell?_alloc_past, y_0f, y_1f, y_0, y_1, z_3, c0_3f, c0_0, c0_1, c0_2, c0_3, ne_y_z, ne_y_c0, ne_z_y, ne_z_c0, ne_c0_y, ne_c0_z, ry, rya, ryb, ryc, ryn, rz, rza, rzb, rzc, rzn, rc0, rc0a, rc0b, rc0c, rc0n]; done))) (((Ext.refl _).alloc (.cells #[.int .i64 x0, .int .i64 x1, .int .i64 x2, .int .i64 x3] 24)).froz (v := .int .i64 0) (by first | exact y_0 | (simp [go_sem, World.cell?_alloc_past, y_0f, y_1f, y_0, y_1, z_3, c0_3f, c0_0, c0_1, c0_2, c0_3, ne_y_z, ne_y_c0, ne_z_y, ne_z_c0, ne_c0_y, ne_c0_z, ry, rya, ryb, ryc, ryn, rz, rza, rzb, rzc, rzn, rc0, rc0a, rc0b, rc0c, rc0n]; done)) (by first | exact y_0f | (simp [go_sem, World.cell?_alloc_past, y_0f, y_1f, y_0, y_1, z_3, c0_3f, c0_0, c0_1, c0_2, c0_3, ne_y_z, ne_y_c0, ne_z_y, ne_z_c0, ne_c0_y, ne_c0_z, ry, rya, ryb, ryc, ryn, rz, rza, rzb, rzc, rzn, rc0, rc0a, rc0b, rc0c, rc0n]; done)))
              · exact hb2.froz hwb (v := .int .i64 0) (((Ext.refl _).alloc (.cells #[.int .i64 x0, .int .i64 x1, .int .i64 x2, .int .i64 x3] 24)).has (by first | exact y_1 | (simp [go_sem, World.cell?_alloc_past, y_0f, y_1f, y_0, y_1, z_3, c0_3f, c0_0, c0_1, c0_2, c0_3, ne_y_z, ne_y_c0, ne_z_y, ne_z_c0, ne_c0_y, ne_c0_z, ry, rya, ryb, ryc, ryn, rz, rza, rzb, rzc, rzn, rc0, rc0a, rc0b, rc0c, rc0n]; done))) (((Ext.refl _).alloc (.cells #[.int .i64 x0, .int .i64 x1, .int .i64 x2, .int .i64 x3] 24)).froz (v := .int .i64 0) (by first | exact y_1 | (simp [go_sem, World.cell?_alloc_past, y_0f, y_1f, y_0, y_1, z_3, c0_3f, c0_0, c0_1, c0_2, c0_3, ne_y_z, ne_y_c0, ne_z_y, ne_z_c0, ne_c0_y, ne_c0_z, ry, rya, ryb, ryc, ryn, rz, rza, rzb, rzc, rzn, rc0, rc0a, rc0b, rc0c, rc0n]; done)) (by first | exact y_1f | (simp [go_sem, World.cell?_alloc_past, y_0f, y_1f, y_0, y_1, z_3, c0_3f, c0_0, c0_1, c0_2, c0_3, ne_y_z, ne_y_c0, ne_z_y, ne_z_c0, ne_c0_y, ne_c0_z, ry, rya, ryb, ryc, ryn, rz, rza, rzb, rzc, rzn, rc0, rc0a, rc0b, rc0c, rc0n]; done)))
              · refine (fun (hxa : Ext w _) => Below.trans hxa (hb2.below hxa.size (fun k hk hh => by have := (own_block HOa hh).1; omega))) ?_
                exact Ext.alloc Xm.out _
          · have hor : ¬ ordB out x3 = true := by rw [HZ.out]; simpa using hlt
            have h65 : f6 = f5 := by rw [G6.out, if_neg hor]
            replace HT : Hid (RdT w52.heap.size (w54.setCell ⟨w52.heap.size, 3, none⟩ (.int .i64 x3)) g L k5 f6) := Lib.hid (by rw [h65]; exact (by repeat (first | with_reducible exact HT.out | with_reducible refine RdT.set ?_ (by omega) _ | with_reducible refine RdT.ext ?_ (Ext.alloc (Ext.refl _) _) | with_reducible refine RdT.ext ?_ (Ext.drew (Ext.refl _)) | with_reducible refine RdT.drewN ?_ _)))
            clear h65
            have HRm := Lib.hid (show RdT w52.heap.size (w54.setCell ⟨w52.heap.size, 3, none⟩ (.int .i64 x3)) g L k5 f6 from HT.out).rd
            have HOm := Lib.hid (show OwnR w52.heap.size (w54.setCell ⟨w52.heap.size, 3, none⟩ (.int .i64 x3)) (g + 1) 24 4 (.slice (some ⟨bo, 0, none⟩) out.length co) out.length (out.flatMap hopC) from (OwnR.butN HO.out (by repeat (first | with_reducible exact But.refl _ _ | with_reducible refine But.drew ?_ | with_reducible refine But.drewN ?_ _ | with_reducible refine But.alloc ?_ _ | with_reducible refine But.setCell ?_ (by first | exact Nat.le_refl _ | (dsimp only; omega)) _ | with_reducible refine But.setNew ?_ (by first | omega | (simp; done) | (simp; omega)) _)))).own
            have Xm : Hid (Ext w (w54.setCell ⟨w52.heap.size, 3, none⟩ (.int .i64 x3))) := Lib.hid (by repeat (first | with_reducible exact X54.out | with_reducible refine Ext.drew ?_ | with_reducible refine Ext.drewN ?_ _ | with_reducible refine Ext.alloc ?_ _ | with_reducible refine Ext.setCell ?_ (by first | omega | (simp; done) | (simp; omega)) _))
            have hgm := HRm.out.lt
            go_wp2_with (at_builtin; refine wpList_append_slB _ rfl _ _ 22 rfl (g + 1) 24 i0 (.agg #[.int .i64 0, .int .i64 0, .int .i64 0, .int .i64 0]) 4 32 Try.underlying22 hi0 hz0 hz1 hz2 rfl (by decide) (.slice (some ⟨bo, 0, none⟩) out.length co) out.length _ (by rfl) (HOm.out.alloc _) (some ⟨w54.heap.size, 0, none⟩) 1 1 (hopC (x0, x1, x2, x3)) (by first | rfl | (simp [Act.eval]; done) | (simp [Act.eval, go_sem]; done)) (Sl.addrH (sl_new _ 24 4 #[.int .i64 x0, .int .i64 x1, .int .i64 x2, .int .i64 x3] 1 rfl (by decide)) (by first | rfl | (simp; done))) (by intro u hu; simp [hopC] at hu; rcases hu with rfl | rfl | rfl | rfl <;> rfl) (by have := GL.out; omega) (by decide) (by simp at hgm ⊢; omega) ?_; intro v2 wn hown2 hb2 hn2)
            have HOa := own_keep HOm.out (Ext.drew ((Ext.refl _).alloc (.cells #[.int .i64 x0, .int .i64 x1, .int .i64 x2, .int .i64 x3] 24)))
            have hwb : ¬ (Value.ownBlock (.slice (some ⟨bo, 0, none⟩) out.length co) = some w.heap.size) := fun hh => by have := (own_block HOa hh).1; omega
            go_roundg (gk - 1)
            case measure => have := HK.out; omega
            case rel =>
              have e : N - (gk - 1) = m + 1 + 1 := by have := HK.out; omega
              rw [e, GS.out]
              refine ⟨by have := HK.out; omega, num_eq (by have := HK.out; omega), Lib.hid ?_, Lib.hid ?_, ⟨?_, ?_, ?_, ?_⟩, ?_⟩
              · exact (HRm.out.ext (Ext.drew ((Ext.refl _).alloc (.cells #[.int .i64 x0, .int .i64 x1, .int .i64 x2, .int .i64 x3] 24)))).butT hb2 (own_ne_fault HOa (by omega) (by decide))
              · simpa [List.flatMap_append] using hown2
              · exact hb2.has hwb ((Ext.drew ((Ext.refl _).alloc (.cells #[.int .i64 x0, .int .i64 x1, .int .i64 x2, .int .i64 x3] 24))).has (by first | exact y_0 | (simp [go_sem, World.cell?_alloc_past, y_0f, y_1f, y_0, y_1, z_3, c0_3f, c0_0, c0_1, c0_2, c0_3, ne_y_z, ne_y_c0, ne_z_y, ne_z_c0, ne_c0_y, ne_c0_z, ry, rya, ryb, ryc, ryn, rz, rza, rzb, rzc, rzn, rc0, rc0a, rc0b, rc0c, rc0n]; done)))
              · exact hb2.has hwb ((Ext.drew ((Ext.refl _).alloc (.cells #[.int .i64 x0, .int .i64 x1, .int .i64 x2, .int .i64 x3] 24))).has (by first | exact y_1 | (simp [go_sem, World.cell?_alloc_past, y_0f, y_1f, y_0, y_1, z_3, c0_3f, c0_0, c0_1, c0_2, c0_3, ne_y_z, ne_y_c0, ne_z_y, ne_z_c0, ne_c0_y, ne_c0_z, ry, rya, ryb, ryc, ryn, rz, rza, rzb, rzc, rzn, rc0, rc0a, rc0b, rc0c, rc0n]; done)))
              · exact hb2.froz hwb (v := .int .i64 0) ((Ext.drew ((Ext.refl _).alloc (.cells #[.int .i64 x0, .int .i64 x1, .int .i64 x2, .int .i64 x3] 24))).has (by first | exact y_0 | (simp [go_sem, World.cell?_alloc_past, y_0f, y_1f, y_0, y_1, z_3, c0_3f, c0_0, c0_1, c0_2, c0_3, ne_y_z, ne_y_c0, ne_z_y, ne_z_c0, ne_c0_y, ne_c0_z, ry, rya, ryb, ryc, ryn, rz, rza, rzb, rzc, rzn, rc0, rc0a, rc0b, rc0c, rc0n]; done))) ((Ext.drew ((Ext.refl _).alloc (.cells #[.int .i64 x0, .int .i64 x1, .int .i64 x2, .int .i64 x3] 24))).froz (v := .int .i64 0) (by first | exact y_0 | (simp [go_sem, World.cell?_alloc_past, y_0f, y_1f, y_0, y_1, z_3, c0_3f, c0_0, c0_1, c0_2, c0_3, ne_y_z, ne_y_c0, ne_z_y, ne_z_c0, ne_c0_y, ne_c0_z, ry, rya, ryb, ryc, ryn, rz, rza, rzb, rzc, rzn, rc0, rc0a, rc0b, rc0c, rc0n]; done)) (by first | exact y_0f | (simp [go_sem, World.cell?_alloc_past, y_0f, y_1f, y_0, y_1, z_3, c0_3f, c0_0, c0_1, c0_2, c0_3, ne_y_z, ne_y_c0, ne_z_y, ne_z_c0, ne_c0_y, ne_c0_z, ry, rya, ryb, ryc, ryn, rz, rza, rzb, rzc, rzn, rc0, rc0a, rc0b, rc0c, rc0n]; done)))
              · exact hb2.froz hwb (v := .int .i64 0) ((Ext.drew ((Ext.refl _).alloc (.cells #[.int .i64 x0, .int .i64 x1, .int .i64 x2, .int .i64 x3] 24))).has (by first | exact y_1 | (simp [go_sem, World.cell?_alloc_past, y_0f, y_1f, y_0, y_1, z_3, c0_3f, c0_0, c0_1, c0_2, c0_3, ne_y_z, ne_y_c0, ne_z_y, ne_z_c0, ne_c0_y, ne_c0_z, ry, rya, ryb, ryc, ryn, rz, rza, rzb, rzc, rzn, rc0, rc0a, rc0b, rc0c, rc0n]; done))) ((Ext.drew ((Ext.refl _).alloc (.cells #[.int .i64 x0, .int .i64 x1, .int .i64 x2, .int .i64 x3] 24))).froz (v := .int .i64 0) (by first | exact y_1 | (simp [go_sem, World.cell?_alloc_past, y_0f, y_1f, y_0, y_1, z_3, c0_3f, c0_0, c0_1, c0_2, c0_3, ne_y_z, ne_y_c0, ne_z_y, ne_z_c0, ne_c0_y, ne_c0_z, ry, rya, ryb, ryc, ryn, rz, rza, rzb, rzc, rzn, rc0, rc0a, rc0b, rc0c, rc0n]; done)) (by first | exact y_1f | (simp [go_sem, World.cell?_alloc_past, y_0f, y_1f, y_0, y_1, z_3, c0_3f, c0_0, c0_1, c0_2, c0_3, ne_y_z, ne_y_c0, ne_z_y, ne_z_c0, ne_c0_y, ne_c0_z, ry, rya, ryb, ryc, ryn, rz, rza, rzb, rzc, rzn, rc0, rc0a, rc0b, rc0c, rc0n]; done)))
              · refine (fun (hxa : Ext w _) => Below.trans hxa (hb2.below hxa.size (fun k hk hh => by have := (own_block HOa hh).1; omega))) ?_
                exact Ext.drew (Ext.alloc Xm.out _)
end
section
open Go.RowKit Go.ChangeShapes Go.WideShapes Go.Deep Go.Joins
theorem FltNz.ifFail {f : Option (Int × Int)} (h : FltNz f) (c : Prop) [Decidable c] (e a : Int) : FltNz (if c then failF f e a else f) := by
  split
  · exact h.fail e a
  · exact h
theorem ifFail_some (c : Prop) [Decidable c] (x : Int × Int) (e a : Int) : (if c then failF (some x) e a else some x) = some x := by split <;> rfl
theorem ifFail_none {c : Prop} [Decidable c] {f : Option (Int × Int)} {e a : Int} (he : e ≠ 0) (h : (if c then failF f e a else f) = none) : f = none ∧ ¬ c := by
  split at h
  · exact absurd (failF_none h).2 he
  · exact ⟨h, by assumption⟩
theorem hopRd1_nz {L : List Nat} {s : Nat × Option (Int × Int) × List (Int × Int × Int × Int)} (h : FltNz s.2.1) : FltNz (hopRd1 L s).2.1 := by
  unfold hopRd1
  exact (((((h.rn L s.1 0 63).rn L _ 0 31).rn L _ 0 31).ifFail _ _ _).rn L _ 1 4294967296).ifFail _ _ _
theorem hopRd_nz {L : List Nat} {s : Nat × Option (Int × Int) × List (Int × Int × Int × Int)} (h : FltNz s.2.1) : ∀ j, FltNz (hopRd L s j).2.1
  | 0 => h
  | j + 1 => hopRd1_nz (hopRd_nz h j)
theorem hopRd1_some {L : List Nat} {s : Nat × Option (Int × Int) × List (Int × Int × Int × Int)} {x : Int × Int} (h : s.2.1 = some x) : (hopRd1 L s).2.1 = some x := by
  unfold hopRd1
  simp only [h, rnF_some, ifFail_some]
theorem hopS0_nz (L : List Nat) : FltNz (hopS0 L).2.1 := FltNz.none.rn L 0 0 4096
end
section
open Go.RowKit
theorem take_putH {L p rest : List Nat} {k : Nat} (h : L.drop k = p ++ rest) : L.take (k + p.length) = L.take k ++ p ∧ L.drop (k + p.length) = rest := by
  refine ⟨?_, ?_⟩
  · rw [List.take_add, h, List.take_left]
  · rw [← List.drop_drop, h, List.drop_left]
theorem hopB4 (x : Int × Int × Int × Int) : hopB x = putL x.1.toNat ++ (putL x.2.1.toNat ++ (putL x.2.2.1.toNat ++ putL x.2.2.2.toNat)) := by
  unfold hopB numB hopN
  simp
theorem mayV_iff {x : Int × Int × Int × Int} {out : List (Int × Int × Int × Int)} : mayV x out = 0 ↔ MayH x ∧ ordB out x.2.2.2 = false := by
  constructor
  · intro h
    have hm := mayV_may h
    refine ⟨hm, ?_⟩
    unfold mayV at h
    rw [if_neg (by simpa using hm)] at h
    unfold ordB
    split at h
    · rename_i y hy
      rw [hy]
      split at h
      · cases h
      · rename_i h2
        simpa using h2
    · rename_i hy
      rw [hy]
  · rintro ⟨hm, ho⟩
    unfold mayV
    rw [if_neg (by simpa using hm)]
    unfold ordB at ho
    split
    · rename_i y hy
      rw [hy] at ho
      rw [if_neg (by simpa using ho)]
    · rfl
/-- one hop that was written is read -/
theorem hopRd1_put {L rest : List Nat} {k : Nat} {out : List (Int × Int × Int × Int)} {x : Int × Int × Int × Int} (hL : L.drop k = hopB x ++ rest) (h : mayV x out = 0) : hopRd1 L (k, none, out) = (k + (hopB x).length, none, out ++ [x]) := by
  obtain ⟨⟨h1, h2, h3, h0, h4⟩, ho⟩ := mayV_iff.1 h
  obtain ⟨x0, x1, x2, x3⟩ := x
  simp only at h0 h1 h2 h3 h4 ho
  rw [hopB4] at hL
  simp only [List.append_assoc] at hL
  obtain ⟨v1, k1, f1⟩ := rn_put (lo := 0) (hi := 63) hL (by omega) (by omega) (by omega)
  have d1 := (take_putH hL).2
  obtain ⟨v2, k2, f2⟩ := rn_put (lo := 0) (hi := 31) d1 (by omega) (by omega) (by omega)
  have d2 := (take_putH d1).2
  obtain ⟨v3, k3, f3⟩ := rn_put (lo := 0) (hi := 31) d2 (by omega) (by omega) (by omega)
  have d3 := (take_putH d2).2
  obtain ⟨v4, k4, f4⟩ := rn_put (lo := 1) (hi := 4294967296) d3 (by omega) (by omega) (by omega)
  have e0 : ((x0.toNat : Nat) : Int) = x0 := Int.toNat_of_nonneg (by omega)
  have e1 : ((x1.toNat : Nat) : Int) = x1 := Int.toNat_of_nonneg (by omega)
  have e2 : ((x2.toNat : Nat) : Int) = x2 := Int.toNat_of_nonneg (by omega)
  have e3 : ((x3.toNat : Nat) : Int) = x3 := Int.toNat_of_nonneg (by omega)
  have hne : ¬ x2 = x1 := fun h => h3 h.symm
  refine (hopRd1_eq (f := none) (f1 := none) (f2 := none) (f3 := none) (f4 := none) (f5 := none) (f6 := none) (k1 := k + (putL x0.toNat).length) (k2 := k + (putL x0.toNat).length + (putL x1.toNat).length) (k3 := k + (putL x0.toNat).length + (putL x1.toNat).length + (putL x2.toNat).length) (k5 := k + (putL x0.toNat).length + (putL x1.toNat).length + (putL x2.toNat).length + (putL x3.toNat).length) rfl (x0 := x0) (x1 := x1) (x2 := x2) (x3 := x3)
    (by rw [v1, e0]) k1.symm f1.symm (by rw [v2, e1]) k2.symm f2.symm (by rw [v3, e2]) k3.symm f3.symm (by rw [if_neg hne]) (by rw [v4, e3]) k4.symm f4.symm (by rw [ho]; rfl)).trans ?_
  rw [hopB4]
  simp only [List.length_append, Prod.mk.injEq, and_true]
  omega
theorem hopRd_put {l : List (Int × Int × Int × Int)} (hc : (chkH l).1 = 0) : ∀ j, j ≤ l.length → hopRd (lstB l) (hopS0 (lstB l)) j = ((putL l.length ++ (l.take j).flatMap hopB).length, none, l.take j)
  | 0, _ => by
    obtain ⟨_, h32, _⟩ := chkH_zero hc
    have hB : lstB l = putL l.length ++ l.flatMap hopB := by unfold lstB; exact if_pos hc
    obtain ⟨v, k, f⟩ := rn_put (L := lstB l) (k := 0) (lo := 0) (hi := 4096) (by rw [List.drop_zero]; exact hB) (by omega) (by omega) (by omega)
    show hopS0 (lstB l) = _
    unfold hopS0
    rw [k, f]
    simp
  | j + 1, hj => by
    obtain ⟨_, h32, hbad⟩ := chkH_zero hc
    have hB : lstB l = putL l.length ++ l.flatMap hopB := by unfold lstB; exact if_pos hc
    have hlt : j < l.length := by omega
    have hx := List.getElem?_eq_getElem hlt
    rw [hopRd, hopRd_put hc j (by omega)]
    have hd : (lstB l).drop (putL l.length ++ (l.take j).flatMap hopB).length = hopB l[j] ++ (l.drop (j + 1)).flatMap hopB := by
      have e : lstB l = (putL l.length ++ (l.take j).flatMap hopB) ++ (hopB l[j] ++ (l.drop (j + 1)).flatMap hopB) := by
        have e1 : l = l.take j ++ l[j] :: l.drop (j + 1) := by rw [← List.drop_eq_getElem_cons hlt, List.take_append_drop]
        have e2 : l.flatMap hopB = (l.take j).flatMap hopB ++ (hopB l[j] ++ (l.drop (j + 1)).flatMap hopB) := by
          conv => lhs; rw [e1]
          rw [List.flatMap_append, List.flatMap_cons]
        rw [hB, e2, List.append_assoc]
      rw [e, List.drop_left]
    rw [hopRd1_put hd (hbad j _ hx), List.take_succ_eq_append_getElem hlt]
    refine Prod.ext ?_ rfl
    simp only [List.flatMap_append, List.flatMap_cons, List.flatMap_nil, List.append_nil, List.length_append]
    omega
/-- what was written is read -/
theorem hopRV_put {l : List (Int × Int × Int × Int)} (hc : (chkH l).1 = 0) : hopRV (lstB l) = (l, 0, 0) := by
  obtain ⟨_, h32, _⟩ := chkH_zero hc
  have hB : lstB l = putL l.length ++ l.flatMap hopB := by unfold lstB; exact if_pos hc
  obtain ⟨v, _, _⟩ := rn_put (L := lstB l) (k := 0) (lo := 0) (hi := 4096) (by rw [List.drop_zero]; exact hB) (by omega) (by omega) (by omega)
  unfold hopRV
  rw [v, show ((l.length : Nat) : Int).toNat = l.length from by simp, hopRd_put hc l.length (Nat.le_refl _), List.take_length, ← hB]
  unfold hopEnd endF
  simp
/-- one hop that was read -/
theorem hopRd1_back {L : List Nat} (hB : Byt L) {k : Nat} {out : List (Int × Int × Int × Int)} (h : (hopRd1 L (k, none, out)).2.1 = none) : ∃ x : Int × Int × Int × Int, hopRd1 L (k, none, out) = (k + (hopB x).length, none, out ++ [x]) ∧ L.take (k + (hopB x).length) = L.take k ++ hopB x ∧ mayV x out = 0 := by
  unfold hopRd1 at h
  simp only at h
  obtain ⟨g5, hord⟩ := ifFail_none (by decide) h
  have g4 := rnF_none g5
  obtain ⟨g3, hne⟩ := ifFail_none (by decide) g4
  have g2 := rnF_none g3
  have g1 := rnF_none g2
  obtain ⟨m1, r1, d1, v1, k1, b1, c1⟩ := rn_back hB (by decide) g1
  rw [g1, k1] at g2 g3 g4 g5 hord hne
  obtain ⟨m2, r2, d2, v2, k2, b2, c2⟩ := rn_back hB (by decide) g2
  rw [g2, k2] at g3 g4 g5 hord hne
  obtain ⟨m3, r3, d3, v3, k3, b3, c3⟩ := rn_back hB (by decide) g3
  rw [v2, v3] at hne
  rw [g3, k3, v2, v3, if_neg hne] at g5 hord
  obtain ⟨m4, r4, d4, v4, k4, b4, c4⟩ := rn_back hB (by decide) g5
  rw [v4] at hord
  have ho : ordB out (m4 : Int) = false := by
    cases hh : ordB out (m4 : Int) with
    | false => rfl
    | true => exact absurd hh hord
  have hvb : hopB ((m1 : Int), (m2 : Int), (m3 : Int), (m4 : Int)) = putL m1 ++ (putL m2 ++ (putL m3 ++ putL m4)) := by rw [hopB4]; simp
  have hlen : (hopB ((m1 : Int), (m2 : Int), (m3 : Int), (m4 : Int))).length = (putL m1).length + ((putL m2).length + ((putL m3).length + (putL m4).length)) := by rw [hvb]; simp only [List.length_append]
  have hmay : mayV ((m1 : Int), (m2 : Int), (m3 : Int), (m4 : Int)) out = 0 := by
    refine mayV_iff.2 ⟨⟨⟨?_, ?_⟩, ⟨?_, ?_⟩, fun h => hne h.symm, ⟨?_, ?_⟩, ?_, ?_⟩, ho⟩ <;> dsimp only <;> omega
  refine ⟨((m1 : Int), (m2 : Int), (m3 : Int), (m4 : Int)), ?_, ?_, hmay⟩
  · refine (hopRd1_eq (f := none) (f1 := none) (f2 := none) (f3 := none) (f4 := none) (f5 := none) (f6 := none) rfl v1.symm k1.symm g1.symm v2.symm k2.symm g2.symm v3.symm k3.symm g3.symm (by rw [if_neg hne]) v4.symm k4.symm g5.symm (by rw [ho]; rfl)).trans ?_
    rw [hlen]
    simp only [Prod.mk.injEq, and_true]
    omega
  · have t1 := (take_putH d1).1
    have t2 := (take_putH d2).1
    have t3 := (take_putH d3).1
    have t4 := (take_putH d4).1
    rw [t3, t2, t1] at t4
    rw [hlen, show k + ((putL m1).length + ((putL m2).length + ((putL m3).length + (putL m4).length))) = k + (putL m1).length + (putL m2).length + (putL m3).length + (putL m4).length from by omega, t4, hvb]
    simp only [List.append_assoc]
theorem badH_old {out : List (Int × Int × Int × Int)} {x : Int × Int × Int × Int} {i : Nat} (hi : i < out.length) : badH (out ++ [x]) i = badH out i := by
  unfold badH
  rw [List.getElem?_append_left hi, List.take_append_of_le_length (by omega)]
theorem badH_new {out : List (Int × Int × Int × Int)} {x : Int × Int × Int × Int} : badH (out ++ [x]) out.length = mayV x out := by
  unfold badH
  rw [List.getElem?_append_right (Nat.le_refl _), Nat.sub_self, List.take_left']
  · rfl
  · rfl
theorem hopRd_back {L : List Nat} (hB : Byt L) : ∀ j, (hopRd L (hopS0 L) j).2.1 = none → ∃ k out, hopRd L (hopS0 L) j = (k, none, out) ∧ L.take k = putL (rnV L 0 none 0 4096).toNat ++ out.flatMap hopB ∧ out.length = j ∧ (∀ i, i < j → badH out i = 0)
  | 0, h => by
    have h' : rnF L 0 none 0 4096 = none := h
    obtain ⟨m, rest, d, v, k, _, _⟩ := rn_back hB (by decide) h'
    refine ⟨rnK L 0 none 0 4096, [], ?_, ?_, rfl, fun i hi => absurd hi (by omega)⟩
    · show hopS0 L = _
      unfold hopS0
      rw [h']
    · rw [k, v, (take_putH d).1]
      simp
  | j + 1, h => by
    have h1 : (hopRd L (hopS0 L) j).2.1 = none := by
      cases hf : (hopRd L (hopS0 L) j).2.1 with
      | none => rfl
      | some x => rw [hopRd, hopRd1_some hf] at h; cases h
    obtain ⟨k, out, e, ht, hl, hb⟩ := hopRd_back hB j h1
    rw [hopRd, e] at h
    obtain ⟨x, e2, ht2, hev⟩ := hopRd1_back hB h
    refine ⟨_, _, by rw [hopRd, e, e2], ?_, by simp [hl], ?_⟩
    · rw [ht2, ht, List.flatMap_append]
      simp
    · intro i hi
      rcases Nat.lt_or_ge i j with hij | hij
      · rw [badH_old (by omega)]
        exact hb i hij
      · have : i = out.length := by omega
        subst this
        rw [badH_new]
        exact hev
theorem may_fits {x : Int × Int × Int × Int} (h : MayH x) : FitsH x := by
  obtain ⟨h1, h2, _, h3, h4⟩ := h
  have hb : ∀ y : Int, 0 ≤ y → y ≤ 4294967296 → Fits .i64 y := by
    intro y h0 h1
    unfold Fits
    simp [Lit.wf, IntKind.min, IntKind.max, IntKind.bits, IntKind.signed]
    omega
  exact ⟨hb _ (by omega) (by omega), hb _ (by omega) (by omega), hb _ (by omega) (by omega), hb _ (by omega) (by omega)⟩
/-- what is read was written -/
theorem hopRV_back {L : List Nat} (hB : Byt L) (h : (hopRV L).2.1 = 0) : (chkH (hopRV L).1).1 = 0 ∧ lstB (hopRV L).1 = L ∧ (hopRV L).2.2 = 0 := by
  have hn := rnV_in L 0 none 0 4096 (by decide)
  have hz : FltNz (hopRd L (hopS0 L) (rnV L 0 none 0 4096).toNat).2.1 := hopRd_nz (hopS0_nz L) _
  have hE : (endF (hopRd L (hopS0 L) (rnV L 0 none 0 4096).toNat).2.1 (hopRd L (hopS0 L) (rnV L 0 none 0 4096).toNat).1 L.length).1 = 0 := by
    unfold hopRV hopEnd at h
    split at h
    · assumption
    · exact h
  have e : hopRV L = ((hopRd L (hopS0 L) (rnV L 0 none 0 4096).toNat).2.2, 0, 0) := by
    unfold hopRV hopEnd
    rw [if_pos hE]
  obtain ⟨hf, hk⟩ := endF_zero hz hE
  obtain ⟨k, out, e1, ht, hl, hb⟩ := hopRd_back hB _ hf
  rw [e1] at e hk
  simp only at e hk
  rw [e]
  have hc : chkH out = (0, 0) := chkG_ok (by omega) (fun j hj => hb j (by omega))
  have hc1 : (chkH out).1 = 0 := by rw [hc]
  refine ⟨hc1, ?_, rfl⟩
  have hR : lstB out = putL out.length ++ out.flatMap hopB := by unfold lstB; exact if_pos hc1
  show lstB out = L
  rw [hR, hl, ← ht, List.take_of_length_le hk]
theorem hopRV_nil {L : List Nat} (h : (hopRV L).2.1 ≠ 0) : (hopRV L).1 = [] := by
  unfold hopRV hopEnd at h ⊢
  split
  · rename_i h0; rw [if_pos h0] at h; exact absurd rfl h
  · rfl
/-- what is read may be -/
theorem hopRV_fits {L : List Nat} (hB : Byt L) : ∀ x ∈ (hopRV L).1, FitsH x := by
  by_cases h : (hopRV L).2.1 = 0
  · exact fun x hx => may_fits (chkH_may (hopRV_back hB h).1 x hx)
  · rw [hopRV_nil h]
    intro x hx
    simp at hx
end
section
open Go.RowKit Go.ChangeShapes Go.WideShapes Go.Deep Go.Joins
theorem hopRead_ev (A : Option Addr) (c : Nat) (L : List Nat) (R : List (Int × Int × Int × Int)) (e a : Int) (hB : Byt L) (hL : L.length < 1099511627776) (hnil : A = none → c = 0) (w : World) (hs : Sl w 1 A L.length c (by_ L)) (hF : (R, e, a) = hopRV L) :
    Calls Try.prog 65 #[.slice A L.length c] w fun r w' => ∃ A c, r = .returned (.tuple #[.slice A R.length c, .agg #[.int .i64 e, .int .i64 a]]) ∧ (A = none → c = 0) ∧ OwnHop w' w.heap.size (.slice A R.length c) R.length R ∧ Ext w w' := by
  have h := hopRead_any A c L hB hL hnil w hs
  rw [← hF] at h
  exact h
end
section
open Go.RowKit Go.ChangeShapes Go.WideShapes Go.Deep Go.Joins
theorem by_new (w : World) (L : List Nat) (n : Nat) (hl : L.length = n) (hn : n ≤ 1000000) : Sl (w.alloc (.cells (by_ L).toArray 5)) 1 (some ⟨w.heap.size, 0, none⟩) n n (by_ L) := by
  have := sl_new w 5 1 (by_ L).toArray n (by rw [List.size_toArray, by_len, hl]; omega) hn
  simpa using this
theorem byt_of {L : List Nat} (h : L.all (fun x => decide (x < 256)) = true) : Byt L := by
  intro x hx
  have h1 := List.all_eq_true.1 h x hx
  simpa using h1
set_option maxRecDepth 100000 in
set_option maxHeartbeats 4000000 in
theorem reads15_ev (A : Option Addr) (n c : Nat) (L : List Nat) (R : List (Int × Int × Int × Int)) (e a : Int) (w : World) (hB : Byt L) (hs : Sl w 1 A n c (by_ L)) (hn : L.length = n) (hL : L.length < 1000000) (hnil : A = none → c = 0) (hF : (R, e, a) = hopRV L) :
    Calls Try.prog 71 #[.slice A n c] w fun r w' => r = .returned (.agg #[.int .i64 e, .int .i64 a]) ∧ Ext w w' := by
  subst hn
  have HS := Lib.hid hs
  have HB := Lib.hid hB
  have HN := Lib.hid hnil
  have HF := Lib.hid hF
  clear hs hB hnil hF
  go_enter Try.func71, Try.ntmps71
  go_wp2_with fail
  (with_reducible refine (hopRead_ev A c L R e a HB.out (by omega) HN.out _ (HS.out.ext (by repeat (first | with_reducible exact Ext.refl _ | with_reducible refine Ext.drew ?_ | with_reducible refine Ext.drewN ?_ _ | with_reducible refine Ext.alloc ?_ _ | with_reducible refine Ext.setCell ?_ (by first | omega | (simp; done) | (simp; omega)) _))) HF.out).mono ?_)
  rintro e w1 ⟨A2, c2, rfl, _, _, hx1⟩
  have c0_0f : w1.frozen? ⟨w.heap.size, 0, none⟩ = false := hx1.froz (v := .int .i64 0) (by first | fail | (simp [go_sem, World.cell?_alloc_past]; done)) (by first | fail | (simp [go_sem, World.cell?_alloc_past]; done))
  have c0_1f : w1.frozen? ⟨w.heap.size, 1, none⟩ = false := hx1.froz (v := .int .i64 0) (by first | fail | (simp [go_sem, World.cell?_alloc_past]; done)) (by first | fail | (simp [go_sem, World.cell?_alloc_past]; done))
  have c0_0 : w1.cell? ⟨w.heap.size, 0, none⟩ = some (.int .i64 0) := hx1.has (by first | fail | (simp [go_sem, World.cell?_alloc_past]; done))
  have c0_1 : w1.cell? ⟨w.heap.size, 1, none⟩ = some (.int .i64 0) := hx1.has (by first | fail | (simp [go_sem, World.cell?_alloc_past]; done))
  have z1 := hx1.size
  try simp at z1
  have rc0 : w.heap.size < w1.heap.size := by omega
  have rc0a : w.heap.size < w1.heap.size + 1 := by omega
  have rc0b : w.heap.size < w1.heap.size + 1 + 1 := by omega
  have rc0c : w.heap.size < w1.heap.size + 1 + 1 + 1 := by omega
  have rc0n : ¬ w.heap.size = w1.heap.size := by omega
  replace HS := Lib.hid (HS.out.ext (Ext.trans (by repeat (first | with_reducible exact Ext.refl _ | with_reducible refine Ext.drew ?_ | with_reducible refine Ext.drewN ?_ _ | with_reducible refine Ext.alloc ?_ _ | with_reducible refine Ext.setCell ?_ (by first | omega | (simp; done) | (simp; omega)) _)) hx1))
  have X1 : Hid (Ext w w1) := Lib.hid (Ext.trans (by repeat (first | with_reducible exact Ext.refl w | with_reducible refine Ext.drew ?_ | with_reducible refine Ext.drewN ?_ _ | with_reducible refine Ext.alloc ?_ _ | with_reducible refine Ext.setCell ?_ (by first | omega | (simp; done) | (simp; omega)) _)) hx1)
  clear hx1 z1
  go_wp2_with fail
  refine bodyPost_ret (v := .agg #[.int .i64 e, .int .i64 a]) (by simp [results, Try.results71, go_sem, World.cell?_alloc_past, c0_0f, c0_1f, c0_0, c0_1, rc0, rc0a, rc0b, rc0c, rc0n]; try rfl) rfl ⟨rfl, ?_⟩
  exact (by repeat (first | with_reducible exact X1.out | with_reducible refine Ext.drew ?_ | with_reducible refine Ext.drewN ?_ _ | with_reducible refine Ext.alloc ?_ _ | with_reducible refine Ext.setCell ?_ (by first | omega | (simp; done) | (simp; omega)) _))
theorem hopBytes_evn (A : Option Addr) (c n m : Nat) (l : List (Int × Int × Int × Int)) (L : List Nat) (E : Int) (w : World) (hs : Sl w 4 A n c (l.flatMap hopC)) (hw : ∀ x ∈ l, FitsH x) (hL : L = lstB l) (hE : E = (chkH l).1) (hn : l.length = n) (hm : L.length = m) : Calls Try.prog 51 #[.slice A n c] w fun r w' => ∃ A c, r = .returned (.tuple #[.slice A m c, .int .i64 E]) ∧ (A = none → c = 0) ∧ OwnN w' w.heap.size (.slice A m c) m L ∧ Ext w w' := by
  subst hn hm
  exact hopBytes_ev A c l L E w hs hw hL hE
theorem lst_300 : [1, 0, 1, 2, 172, 2] = lstB [(0, 1, 2, 300)] := by
  unfold lstB
  rw [if_pos (by rfl)]
  simp [hopB4, putL_lt, putL_ge]
set_option maxRecDepth 100000 in
set_option maxHeartbeats 4000000 in
theorem HopKnown_any (w : World) : Calls Try.prog 8 #[] w fun r w' => r = .returned (.bool true) ∧ Ext w w' := by
  have qe := flt_eql
  have qg := flt_eqg
  go_enter Try.func8, Try.ntmps8
  go_wp2_with fail
  (with_reducible refine (one15_any 0 1 2 5 _).mono ?_)
  rintro e w1 ⟨rfl, hx1⟩
  have z1 := hx1.size
  try simp at z1
  have X1 : Hid (Ext w w1) := Lib.hid (Ext.trans (by repeat (first | with_reducible exact Ext.refl w | with_reducible refine Ext.drew ?_ | with_reducible refine Ext.drewN ?_ _ | with_reducible refine Ext.alloc ?_ _ | with_reducible refine Ext.setCell ?_ (by first | omega | (simp; done) | (simp; omega)) _)) hx1)
  clear hx1 z1
  go_wp2_with fail
  (with_reducible refine (one15_any 0 1 2 4 _).mono ?_)
  rintro e w2 ⟨rfl, hx2⟩
  have z2 := hx2.size
  try simp at z2
  have X2 : Hid (Ext w w2) := Lib.hid (Ext.trans (by repeat (first | with_reducible exact X1.out | with_reducible refine Ext.drew ?_ | with_reducible refine Ext.drewN ?_ _ | with_reducible refine Ext.alloc ?_ _ | with_reducible refine Ext.setCell ?_ (by first | omega | (simp; done) | (simp; omega)) _)) hx2)
  clear X1 hx2 z2
  go_wp2_with fail
  (with_reducible refine (list15_any _ 2 2 _).mono ?_)
  rintro e w3 ⟨rfl, hx3⟩
  have z3 := hx3.size
  try simp at z3
  have X3 : Hid (Ext w w3) := Lib.hid (Ext.trans (by repeat (first | with_reducible exact X2.out | with_reducible refine Ext.drew ?_ | with_reducible refine Ext.drewN ?_ _ | with_reducible refine Ext.alloc ?_ _ | with_reducible refine Ext.setCell ?_ (by first | omega | (simp; done) | (simp; omega)) _)) hx3)
  have H1 := Lib.hid ((hops_new w2 [(0, 1, 2, 5), (0, 1, 2, 4)] 2 rfl (by omega)).ext hx3)
  clear X2 hx3 z3
  go_wp2_with fail
  (with_reducible refine (checks15_t _ 2 2 [(0, 1, 2, 5), (0, 1, 2, 4)] 9 1 _ (H1.out.ext (by repeat (first | with_reducible exact Ext.refl _ | with_reducible refine Ext.drew ?_ | with_reducible refine Ext.drewN ?_ _ | with_reducible refine Ext.alloc ?_ _ | with_reducible refine Ext.setCell ?_ (by first | omega | (simp; done) | (simp; omega)) _))) (fitsH_of rfl) rfl).mono ?_)
  rintro e w4 ⟨rfl, hx4⟩
  have z4 := hx4.size
  try simp at z4
  have X4 : Hid (Ext w w4) := Lib.hid (Ext.trans (by repeat (first | with_reducible exact X3.out | with_reducible refine Ext.drew ?_ | with_reducible refine Ext.drewN ?_ _ | with_reducible refine Ext.alloc ?_ _ | with_reducible refine Ext.setCell ?_ (by first | omega | (simp; done) | (simp; omega)) _)) hx4)
  clear H1 X3 hx4 z4
  go_wp2_with fail
  (with_reducible refine (one15_any 0 1 1 5 _).mono ?_)
  rintro e w5 ⟨rfl, hx5⟩
  have z5 := hx5.size
  try simp at z5
  have X5 : Hid (Ext w w5) := Lib.hid (Ext.trans (by repeat (first | with_reducible exact X4.out | with_reducible refine Ext.drew ?_ | with_reducible refine Ext.drewN ?_ _ | with_reducible refine Ext.alloc ?_ _ | with_reducible refine Ext.setCell ?_ (by first | omega | (simp; done) | (simp; omega)) _)) hx5)
  clear X4 hx5 z5
  go_wp2_with fail
  (with_reducible refine (list15_any _ 1 1 _).mono ?_)
  rintro e w6 ⟨rfl, hx6⟩
  have z6 := hx6.size
  try simp at z6
  have X6 : Hid (Ext w w6) := Lib.hid (Ext.trans (by repeat (first | with_reducible exact X5.out | with_reducible refine Ext.drew ?_ | with_reducible refine Ext.drewN ?_ _ | with_reducible refine Ext.alloc ?_ _ | with_reducible refine Ext.setCell ?_ (by first | omega | (simp; done) | (simp; omega)) _)) hx6)
  have H2 := Lib.hid ((hops_new w5 [(0, 1, 1, 5)] 1 rfl (by omega)).ext hx6)
  clear X5 hx6 z6
  go_wp2_with fail
  (with_reducible refine (checks15_t _ 1 1 [(0, 1, 1, 5)] 3 0 _ (H2.out.ext (by repeat (first | with_reducible exact Ext.refl _ | with_reducible refine Ext.drew ?_ | with_reducible refine Ext.drewN ?_ _ | with_reducible refine Ext.alloc ?_ _ | with_reducible refine Ext.setCell ?_ (by first | omega | (simp; done) | (simp; omega)) _))) (fitsH_of rfl) rfl).mono ?_)
  rintro e w7 ⟨rfl, hx7⟩
  have z7 := hx7.size
  try simp at z7
  have X7 : Hid (Ext w w7) := Lib.hid (Ext.trans (by repeat (first | with_reducible exact X6.out | with_reducible refine Ext.drew ?_ | with_reducible refine Ext.drewN ?_ _ | with_reducible refine Ext.alloc ?_ _ | with_reducible refine Ext.setCell ?_ (by first | omega | (simp; done) | (simp; omega)) _)) hx7)
  clear H2 X6 hx7 z7
  go_wp2_with fail
  (with_reducible refine (one15_any 0 1 2 5 _).mono ?_)
  rintro e w8 ⟨rfl, hx8⟩
  have z8 := hx8.size
  try simp at z8
  have X8 : Hid (Ext w w8) := Lib.hid (Ext.trans (by repeat (first | with_reducible exact X7.out | with_reducible refine Ext.drew ?_ | with_reducible refine Ext.drewN ?_ _ | with_reducible refine Ext.alloc ?_ _ | with_reducible refine Ext.setCell ?_ (by first | omega | (simp; done) | (simp; omega)) _)) hx8)
  clear X7 hx8 z8
  go_wp2_with fail
  (with_reducible refine (one15_any 64 1 2 4 _).mono ?_)
  rintro e w9 ⟨rfl, hx9⟩
  have z9 := hx9.size
  try simp at z9
  have X9 : Hid (Ext w w9) := Lib.hid (Ext.trans (by repeat (first | with_reducible exact X8.out | with_reducible refine Ext.drew ?_ | with_reducible refine Ext.drewN ?_ _ | with_reducible refine Ext.alloc ?_ _ | with_reducible refine Ext.setCell ?_ (by first | omega | (simp; done) | (simp; omega)) _)) hx9)
  clear X8 hx9 z9
  go_wp2_with fail
  (with_reducible refine (list15_any _ 2 2 _).mono ?_)
  rintro e w10 ⟨rfl, hx10⟩
  have z10 := hx10.size
  try simp at z10
  have X10 : Hid (Ext w w10) := Lib.hid (Ext.trans (by repeat (first | with_reducible exact X9.out | with_reducible refine Ext.drew ?_ | with_reducible refine Ext.drewN ?_ _ | with_reducible refine Ext.alloc ?_ _ | with_reducible refine Ext.setCell ?_ (by first | omega | (simp; done) | (simp; omega)) _)) hx10)
  have H3 := Lib.hid ((hops_new w9 [(0, 1, 2, 5), (64, 1, 2, 4)] 2 rfl (by omega)).ext hx10)
  clear X9 hx10 z10
  go_wp2_with fail
  (with_reducible refine (checks15_t _ 2 2 [(0, 1, 2, 5), (64, 1, 2, 4)] 3 1 _ (H3.out.ext (by repeat (first | with_reducible exact Ext.refl _ | with_reducible refine Ext.drew ?_ | with_reducible refine Ext.drewN ?_ _ | with_reducible refine Ext.alloc ?_ _ | with_reducible refine Ext.setCell ?_ (by first | omega | (simp; done) | (simp; omega)) _))) (fitsH_of rfl) rfl).mono ?_)
  rintro e w11 ⟨rfl, hx11⟩
  have z11 := hx11.size
  try simp at z11
  have X11 : Hid (Ext w w11) := Lib.hid (Ext.trans (by repeat (first | with_reducible exact X10.out | with_reducible refine Ext.drew ?_ | with_reducible refine Ext.drewN ?_ _ | with_reducible refine Ext.alloc ?_ _ | with_reducible refine Ext.setCell ?_ (by first | omega | (simp; done) | (simp; omega)) _)) hx11)
  clear H3 X10 hx11 z11
  go_wp2_with fail
  (with_reducible refine (one15_any 0 1 2 5 _).mono ?_)
  rintro e w12 ⟨rfl, hx12⟩
  have z12 := hx12.size
  try simp at z12
  have X12 : Hid (Ext w w12) := Lib.hid (Ext.trans (by repeat (first | with_reducible exact X11.out | with_reducible refine Ext.drew ?_ | with_reducible refine Ext.drewN ?_ _ | with_reducible refine Ext.alloc ?_ _ | with_reducible refine Ext.setCell ?_ (by first | omega | (simp; done) | (simp; omega)) _)) hx12)
  clear X11 hx12 z12
  go_wp2_with fail
  (with_reducible refine (list15_any _ 1 1 _).mono ?_)
  rintro e w13 ⟨rfl, hx13⟩
  have z13 := hx13.size
  try simp at z13
  have X13 : Hid (Ext w w13) := Lib.hid (Ext.trans (by repeat (first | with_reducible exact X12.out | with_reducible refine Ext.drew ?_ | with_reducible refine Ext.drewN ?_ _ | with_reducible refine Ext.alloc ?_ _ | with_reducible refine Ext.setCell ?_ (by first | omega | (simp; done) | (simp; omega)) _)) hx13)
  have H4 := Lib.hid ((hops_new w12 [(0, 1, 2, 5)] 1 rfl (by omega)).ext hx13)
  clear X12 hx13 z13
  go_wp2_with fail
  (with_reducible refine (one15_any 0 1 3 4 _).mono ?_)
  rintro e w14 ⟨rfl, hx14⟩
  have z14 := hx14.size
  try simp at z14
  replace H4 := Lib.hid (H4.out.ext (Ext.trans (by repeat (first | with_reducible exact Ext.refl _ | with_reducible refine Ext.drew ?_ | with_reducible refine Ext.drewN ?_ _ | with_reducible refine Ext.alloc ?_ _ | with_reducible refine Ext.setCell ?_ (by first | omega | (simp; done) | (simp; omega)) _)) hx14))
  have X14 : Hid (Ext w w14) := Lib.hid (Ext.trans (by repeat (first | with_reducible exact X13.out | with_reducible refine Ext.drew ?_ | with_reducible refine Ext.drewN ?_ _ | with_reducible refine Ext.alloc ?_ _ | with_reducible refine Ext.setCell ?_ (by first | omega | (simp; done) | (simp; omega)) _)) hx14)
  clear X13 hx14 z14
  go_wp2_with fail
  (with_reducible refine (adds15_ev _ 1 1 [(0, 1, 2, 5)] [] 0 1 3 4 1 9 _ (H4.out.ext (by repeat (first | with_reducible exact Ext.refl _ | with_reducible refine Ext.drew ?_ | with_reducible refine Ext.drewN ?_ _ | with_reducible refine Ext.alloc ?_ _ | with_reducible refine Ext.setCell ?_ (by first | omega | (simp; done) | (simp; omega)) _))) (by omega) (fitsH_of rfl) (fitsH_one rfl) (fun h => by cases h) rfl).mono ?_)
  rintro e w15 ⟨rfl, hx15⟩
  have z15 := hx15.size
  try simp at z15
  have X15 : Hid (Ext w w15) := Lib.hid (Ext.trans (by repeat (first | with_reducible exact X14.out | with_reducible refine Ext.drew ?_ | with_reducible refine Ext.drewN ?_ _ | with_reducible refine Ext.alloc ?_ _ | with_reducible refine Ext.setCell ?_ (by first | omega | (simp; done) | (simp; omega)) _)) hx15)
  clear H4 X14 hx15 z15
  go_wp2_with fail
  (with_reducible refine (one15_any 0 1 2 5 _).mono ?_)
  rintro e w16 ⟨rfl, hx16⟩
  have z16 := hx16.size
  try simp at z16
  have X16 : Hid (Ext w w16) := Lib.hid (Ext.trans (by repeat (first | with_reducible exact X15.out | with_reducible refine Ext.drew ?_ | with_reducible refine Ext.drewN ?_ _ | with_reducible refine Ext.alloc ?_ _ | with_reducible refine Ext.setCell ?_ (by first | omega | (simp; done) | (simp; omega)) _)) hx16)
  clear X15 hx16 z16
  go_wp2_with fail
  (with_reducible refine (adds15_ev none 0 0 [] [] 0 1 2 5 17 3 _ (Sl.nil _ _) (by omega) (fitsH_of rfl) (fitsH_one rfl) (fun _ => rfl) rfl).mono ?_)
  rintro e w17 ⟨rfl, hx17⟩
  have z17 := hx17.size
  try simp at z17
  have X17 : Hid (Ext w w17) := Lib.hid (Ext.trans (by repeat (first | with_reducible exact X16.out | with_reducible refine Ext.drew ?_ | with_reducible refine Ext.drewN ?_ _ | with_reducible refine Ext.alloc ?_ _ | with_reducible refine Ext.setCell ?_ (by first | omega | (simp; done) | (simp; omega)) _)) hx17)
  clear X16 hx17 z17
  go_wp2_with fail
  (with_reducible refine (one15_any 0 1 2 5 _).mono ?_)
  rintro e w18 ⟨rfl, hx18⟩
  have z18 := hx18.size
  try simp at z18
  have X18 : Hid (Ext w w18) := Lib.hid (Ext.trans (by repeat (first | with_reducible exact X17.out | with_reducible refine Ext.drew ?_ | with_reducible refine Ext.drewN ?_ _ | with_reducible refine Ext.alloc ?_ _ | with_reducible refine Ext.setCell ?_ (by first | omega | (simp; done) | (simp; omega)) _)) hx18)
  clear X17 hx18 z18
  go_wp2_with fail
  (with_reducible refine (list15_any _ 1 1 _).mono ?_)
  rintro e w19 ⟨rfl, hx19⟩
  have z19 := hx19.size
  try simp at z19
  have X19 : Hid (Ext w w19) := Lib.hid (Ext.trans (by repeat (first | with_reducible exact X18.out | with_reducible refine Ext.drew ?_ | with_reducible refine Ext.drewN ?_ _ | with_reducible refine Ext.alloc ?_ _ | with_reducible refine Ext.setCell ?_ (by first | omega | (simp; done) | (simp; omega)) _)) hx19)
  have H5 := Lib.hid ((hops_new w18 [(0, 1, 2, 5)] 1 rfl (by omega)).ext hx19)
  clear X18 hx19 z19
  go_wp2_with fail
  (with_reducible refine (hopRipe_ev _ 1 1 [(0, 1, 2, 5)] [] [] 0 10 3 _ (H5.out.ext (by repeat (first | with_reducible exact Ext.refl _ | with_reducible refine Ext.drew ?_ | with_reducible refine Ext.drewN ?_ _ | with_reducible refine Ext.alloc ?_ _ | with_reducible refine Ext.setCell ?_ (by first | omega | (simp; done) | (simp; omega)) _))) (by omega) (fitsH_of rfl) (fun h => by cases h) rfl).mono ?_)
  rintro e w20 ⟨Aa, ca, Ab, cb, rfl, _, _, _, _, _, hx20⟩
  have z20 := hx20.size
  try simp at z20
  have X20 : Hid (Ext w w20) := Lib.hid (Ext.trans (by repeat (first | with_reducible exact X19.out | with_reducible refine Ext.drew ?_ | with_reducible refine Ext.drewN ?_ _ | with_reducible refine Ext.alloc ?_ _ | with_reducible refine Ext.setCell ?_ (by first | omega | (simp; done) | (simp; omega)) _)) hx20)
  clear H5 X19 hx20 z20
  go_wp2_with fail
  (with_reducible refine (one15_any 0 1 2 5 _).mono ?_)
  rintro e w21 ⟨rfl, hx21⟩
  have z21 := hx21.size
  try simp at z21
  have X21 : Hid (Ext w w21) := Lib.hid (Ext.trans (by repeat (first | with_reducible exact X20.out | with_reducible refine Ext.drew ?_ | with_reducible refine Ext.drewN ?_ _ | with_reducible refine Ext.alloc ?_ _ | with_reducible refine Ext.setCell ?_ (by first | omega | (simp; done) | (simp; omega)) _)) hx21)
  clear X20 hx21 z21
  go_wp2_with fail
  (with_reducible refine (one15_any 0 1 2 6 _).mono ?_)
  rintro e w22 ⟨rfl, hx22⟩
  have z22 := hx22.size
  try simp at z22
  have X22 : Hid (Ext w w22) := Lib.hid (Ext.trans (by repeat (first | with_reducible exact X21.out | with_reducible refine Ext.drew ?_ | with_reducible refine Ext.drewN ?_ _ | with_reducible refine Ext.alloc ?_ _ | with_reducible refine Ext.setCell ?_ (by first | omega | (simp; done) | (simp; omega)) _)) hx22)
  clear X21 hx22 z22
  go_wp2_with fail
  (with_reducible refine (one15_any 0 2 1 7 _).mono ?_)
  rintro e w23 ⟨rfl, hx23⟩
  have z23 := hx23.size
  try simp at z23
  have X23 : Hid (Ext w w23) := Lib.hid (Ext.trans (by repeat (first | with_reducible exact X22.out | with_reducible refine Ext.drew ?_ | with_reducible refine Ext.drewN ?_ _ | with_reducible refine Ext.alloc ?_ _ | with_reducible refine Ext.setCell ?_ (by first | omega | (simp; done) | (simp; omega)) _)) hx23)
  clear X22 hx23 z23
  go_wp2_with fail
  (with_reducible refine (list15_any _ 3 3 _).mono ?_)
  rintro e w24 ⟨rfl, hx24⟩
  have z24 := hx24.size
  try simp at z24
  have X24 : Hid (Ext w w24) := Lib.hid (Ext.trans (by repeat (first | with_reducible exact X23.out | with_reducible refine Ext.drew ?_ | with_reducible refine Ext.drewN ?_ _ | with_reducible refine Ext.alloc ?_ _ | with_reducible refine Ext.setCell ?_ (by first | omega | (simp; done) | (simp; omega)) _)) hx24)
  have H6 := Lib.hid ((hops_new w23 [(0, 1, 2, 5), (0, 1, 2, 6), (0, 2, 1, 7)] 3 rfl (by omega)).ext hx24)
  clear X23 hx24 z24
  go_wp2_with fail
  refine wp_region_held_drew (S := fun w' => True) (by kernel_rfl) (by first | exact trivial | (simp [go_sem, World.cell?_alloc_past]; done)) (fun hHeld => ?_)
  (refine' take_in 0 rfl (by kernel_rfl) (by kernel_rfl) (by kernel_rfl) (fun _ _ _ h => h) (by rfl) (by assumption) ?_ ?_; rotate_left; focus (intro w hSw; (try dsimp only at hSw); go_simp; try with_reducible rfl)); try simp only [Act.put, List.setIfInBounds_toArray, List.set_cons_zero, List.set_cons_succ]
  refine' next_in 1 rfl (by kernel_rfl) (by rfl) (fun K hK => ?_)
  go_simp
  (with_reducible refine (hopCount_ev _ 3 3 [(0, 1, 2, 5), (0, 1, 2, 6), (0, 2, 1, 7)] 0 1 2 2 _ (H6.out.ext (by repeat (first | with_reducible exact Ext.refl _ | with_reducible refine Ext.drew ?_ | with_reducible refine Ext.drewN ?_ _ | with_reducible refine Ext.alloc ?_ _ | with_reducible refine Ext.setCell ?_ (by first | omega | (simp; done) | (simp; omega)) _))) (by omega) (fitsH_of rfl) (small_fits (by decide) (by decide)) (small_fits (by decide) (by decide)) (small_fits (by decide) (by decide)) rfl).mono ?_)
  rintro e w25 ⟨rfl, hx25⟩
  have z25 := hx25.size
  try simp at z25
  replace H6 := Lib.hid (H6.out.ext (Ext.trans (by repeat (first | with_reducible exact Ext.refl _ | with_reducible refine Ext.drew ?_ | with_reducible refine Ext.drewN ?_ _ | with_reducible refine Ext.alloc ?_ _ | with_reducible refine Ext.setCell ?_ (by first | omega | (simp; done) | (simp; omega)) _)) hx25))
  have X25 : Hid (Ext w w25) := Lib.hid (Ext.trans (by repeat (first | with_reducible exact X24.out | with_reducible refine Ext.drew ?_ | with_reducible refine Ext.drewN ?_ _ | with_reducible refine Ext.alloc ?_ _ | with_reducible refine Ext.setCell ?_ (by first | omega | (simp; done) | (simp; omega)) _)) hx25)
  clear X24 hx25 z25
  refine hK.out _ _ (by (first | exact trivial | (simp [go_sem, World.cell?_alloc_past]; done))) (fun hHeld => ?_); clear hK K; try simp only [Act.put, List.setIfInBounds_toArray, List.set_cons_zero, List.set_cons_succ]
  (refine' take_in 2 rfl (by kernel_rfl) (by kernel_rfl) (by kernel_rfl) (fun _ _ _ h => h) (by rfl) (by assumption) ?_ ?_; rotate_left; focus (intro w hSw; (try dsimp only at hSw); go_simp; try with_reducible rfl)); try simp only [Act.put, List.setIfInBounds_toArray, List.set_cons_zero, List.set_cons_succ]
  (refine' take_in 3 rfl (by kernel_rfl) (by kernel_rfl) (by kernel_rfl) (fun _ _ _ h => h) (by rfl) (by assumption) ?_ ?_; rotate_left; focus (intro w hSw; (try dsimp only at hSw); go_simp; try with_reducible rfl)); try simp only [Act.put, List.setIfInBounds_toArray, List.set_cons_zero, List.set_cons_succ]
  (refine' take_in 4 rfl (by kernel_rfl) (by kernel_rfl) (by kernel_rfl) (fun _ _ _ h => h) (by rfl) (by assumption) ?_ ?_; rotate_left; focus (intro w hSw; (try dsimp only at hSw); go_simp; try with_reducible rfl)); try simp only [Act.put, List.setIfInBounds_toArray, List.set_cons_zero, List.set_cons_succ]
  (refine' take_in 6 rfl (by kernel_rfl) (by kernel_rfl) (by kernel_rfl) (fun _ _ _ h => h) (by rfl) (by assumption) ?_ ?_; rotate_left; focus (intro w hSw; (try dsimp only at hSw); go_simp; try with_reducible rfl)); try simp only [Act.put, List.setIfInBounds_toArray, List.set_cons_zero, List.set_cons_succ]
  (refine' take_in 7 rfl (by kernel_rfl) (by kernel_rfl) (by kernel_rfl) (fun _ _ _ h => h) (by rfl) (by assumption) ?_ ?_; rotate_left; focus (intro w hSw; (try dsimp only at hSw); go_simp; try with_reducible rfl)); try simp only [Act.put, List.setIfInBounds_toArray, List.set_cons_zero, List.set_cons_succ]
  refine' next_in 5 rfl (by kernel_rfl) (by rfl) (fun K hK => ?_)
  go_simp
  (with_reducible refine (hopInto_ev _ 3 3 [(0, 1, 2, 5), (0, 1, 2, 6), (0, 2, 1, 7)] [(0, 2, 1, 7)] 0 1 _ (H6.out.ext (by repeat (first | with_reducible exact Ext.refl _ | with_reducible refine Ext.drew ?_ | with_reducible refine Ext.drewN ?_ _ | with_reducible refine Ext.alloc ?_ _ | with_reducible refine Ext.setCell ?_ (by first | omega | (simp; done) | (simp; omega)) _))) (by omega) rfl).mono ?_)
  rintro e w26 ⟨A8, c8, rfl, _, hO8, hx26⟩
  have z26 := hx26.size
  try simp at z26
  replace H6 := Lib.hid (H6.out.ext (Ext.trans (by repeat (first | with_reducible exact Ext.refl _ | with_reducible refine Ext.drew ?_ | with_reducible refine Ext.drewN ?_ _ | with_reducible refine Ext.alloc ?_ _ | with_reducible refine Ext.setCell ?_ (by first | omega | (simp; done) | (simp; omega)) _)) hx26))
  have X26 : Hid (Ext w w26) := Lib.hid (Ext.trans (by repeat (first | with_reducible exact X25.out | with_reducible refine Ext.drew ?_ | with_reducible refine Ext.drewN ?_ _ | with_reducible refine Ext.alloc ?_ _ | with_reducible refine Ext.setCell ?_ (by first | omega | (simp; done) | (simp; omega)) _)) hx26)
  have H8 := Lib.hid hO8
  clear X25 hx26 z26 hO8
  refine hK.out _ _ (by (first | exact trivial | (simp [go_sem, World.cell?_alloc_past]; done))) (fun hHeld => ?_); clear hK K; try simp only [Act.put, List.setIfInBounds_toArray, List.set_cons_zero, List.set_cons_succ]
  refine' next_in 8 rfl (by kernel_rfl) (by rfl) (fun K hK => ?_)
  go_simp
  (with_reducible refine (kSameHops_eq A8 (some ⟨w23.heap.size, 8, none⟩) 1 c8 1 1 [(0, 2, 1, 7)] _ (H8.out.ext (by repeat (first | with_reducible exact Ext.refl _ | with_reducible refine Ext.drew ?_ | with_reducible refine Ext.drewN ?_ _ | with_reducible refine Ext.alloc ?_ _ | with_reducible refine Ext.setCell ?_ (by first | omega | (simp; done) | (simp; omega)) _))).sl (by have h := Sl.hdrop (H6.out.ext (by repeat (first | with_reducible exact Ext.refl _ | with_reducible refine Ext.drew ?_ | with_reducible refine Ext.drewN ?_ _ | with_reducible refine Ext.alloc ?_ _ | with_reducible refine Ext.setCell ?_ (by first | omega | (simp; done) | (simp; omega)) _))) (show 2 ≤ 3 by omega); simpa [Addr.add] using h)).mono ?_)
  rintro e w27 ⟨rfl, hx27⟩
  have z27 := hx27.size
  try simp at z27
  have X27 : Hid (Ext w w27) := Lib.hid (Ext.trans (by repeat (first | with_reducible exact X26.out | with_reducible refine Ext.drew ?_ | with_reducible refine Ext.drewN ?_ _ | with_reducible refine Ext.alloc ?_ _ | with_reducible refine Ext.setCell ?_ (by first | omega | (simp; done) | (simp; omega)) _)) hx27)
  clear H6 H8 X26 hx27 z27
  refine hK.out _ _ (by (first | exact trivial | (simp [go_sem, World.cell?_alloc_past]; done))) (fun hHeld => ?_); clear hK K; try simp only [Act.put, List.setIfInBounds_toArray, List.set_cons_zero, List.set_cons_succ]
  (refine' take_in 9 rfl (by kernel_rfl) (by kernel_rfl) (by kernel_rfl) (fun _ _ _ h => h) (by rfl) (by assumption) ?_ ?_; rotate_left; focus (intro w hSw; (try dsimp only at hSw); go_simp; try with_reducible rfl)); try simp only [Act.put, List.setIfInBounds_toArray, List.set_cons_zero, List.set_cons_succ]
  (refine' take_in 10 rfl (by kernel_rfl) (by kernel_rfl) (by kernel_rfl) (fun _ _ _ h => h) (by rfl) (by assumption) ?_ ?_; rotate_left; focus (intro w hSw; (try dsimp only at hSw); go_simp; try with_reducible rfl)); try simp only [Act.put, List.setIfInBounds_toArray, List.set_cons_zero, List.set_cons_succ]
  refine wpAnyH_done (by kernel_rfl) ?_ _
  go_wp2_with fail
  (with_reducible refine (one15_any 0 1 2 300 _).mono ?_)
  rintro e w28 ⟨rfl, hx28⟩
  have z28 := hx28.size
  try simp at z28
  have X28 : Hid (Ext w w28) := Lib.hid (Ext.trans (by repeat (first | with_reducible exact X27.out | with_reducible refine Ext.drew ?_ | with_reducible refine Ext.drewN ?_ _ | with_reducible refine Ext.alloc ?_ _ | with_reducible refine Ext.setCell ?_ (by first | omega | (simp; done) | (simp; omega)) _)) hx28)
  clear X27 hx28 z28
  go_wp2_with fail
  (with_reducible refine (list15_any _ 1 1 _).mono ?_)
  rintro e w29 ⟨rfl, hx29⟩
  have z29 := hx29.size
  try simp at z29
  have X29 : Hid (Ext w w29) := Lib.hid (Ext.trans (by repeat (first | with_reducible exact X28.out | with_reducible refine Ext.drew ?_ | with_reducible refine Ext.drewN ?_ _ | with_reducible refine Ext.alloc ?_ _ | with_reducible refine Ext.setCell ?_ (by first | omega | (simp; done) | (simp; omega)) _)) hx29)
  have H9 := Lib.hid ((hops_new w28 [(0, 1, 2, 300)] 1 rfl (by omega)).ext hx29)
  clear X28 hx29 z29
  go_wp2_with fail
  (with_reducible refine (hopBytes_evn _ 1 1 6 [(0, 1, 2, 300)] [1, 0, 1, 2, 172, 2] 0 _ (H9.out.ext (by repeat (first | with_reducible exact Ext.refl _ | with_reducible refine Ext.drew ?_ | with_reducible refine Ext.drewN ?_ _ | with_reducible refine Ext.alloc ?_ _ | with_reducible refine Ext.setCell ?_ (by first | omega | (simp; done) | (simp; omega)) _))) (fitsH_of rfl) lst_300 rfl rfl rfl).mono ?_)
  rintro e w30 ⟨A9, c9, rfl, _, hO9, hx30⟩
  have z30 := hx30.size
  try simp at z30
  have X30 : Hid (Ext w w30) := Lib.hid (Ext.trans (by repeat (first | with_reducible exact X29.out | with_reducible refine Ext.drew ?_ | with_reducible refine Ext.drewN ?_ _ | with_reducible refine Ext.alloc ?_ _ | with_reducible refine Ext.setCell ?_ (by first | omega | (simp; done) | (simp; omega)) _)) hx30)
  have HY := Lib.hid hO9
  clear H9 X29 hx30 z30 hO9
  go_wp2_with fail
  have hN0 : Sl (w30.alloc (.cells #[.int .u8 1, .int .u8 0, .int .u8 1, .int .u8 2, .int .u8 172, .int .u8 2] 5)) 1 (some ⟨w30.heap.size, 0, none⟩) 6 6 (by_ [1, 0, 1, 2, 172, 2]) := by_new w30 [1, 0, 1, 2, 172, 2] 6 rfl (by omega)
  (with_reducible refine (kSameBytes_eq A9 _ 6 c9 6 6 [1, 0, 1, 2, 172, 2] (byt_of rfl) _ (HY.out.ext (by repeat (first | with_reducible exact Ext.refl _ | with_reducible refine Ext.drew ?_ | with_reducible refine Ext.drewN ?_ _ | with_reducible refine Ext.alloc ?_ _ | with_reducible refine Ext.setCell ?_ (by first | omega | (simp; done) | (simp; omega)) _))).sl hN0).mono ?_)
  rintro e w_1 ⟨rfl, rfl⟩
  clear hN0
  go_wp2_with fail
  have hN1 : Sl ((w30.alloc (.cells #[.int .u8 1, .int .u8 0, .int .u8 1, .int .u8 2, .int .u8 172, .int .u8 2] 5)).alloc (.cells #[.int .u8 1, .int .u8 0, .int .u8 1, .int .u8 1, .int .u8 5] 5)) 1 (some ⟨w30.heap.size + 1, 0, none⟩) 5 5 (by_ [1, 0, 1, 1, 5]) := (by have h := by_new (w30.alloc (.cells #[.int .u8 1, .int .u8 0, .int .u8 1, .int .u8 2, .int .u8 172, .int .u8 2] 5)) [1, 0, 1, 1, 5] 5 rfl (by omega); rwa [show (w30.alloc (.cells #[.int .u8 1, .int .u8 0, .int .u8 1, .int .u8 2, .int .u8 172, .int .u8 2] 5)).heap.size = w30.heap.size + 1 from by simp] at h)
  (with_reducible refine (reads15_ev _ 5 5 [1, 0, 1, 1, 5] [] 3 3 _ (byt_of rfl) hN1 rfl (by decide) (fun h => by cases h) rfl).mono ?_)
  rintro e w31 ⟨rfl, hx31⟩
  have z31 := hx31.size
  try simp at z31
  replace HY := Lib.hid (HY.out.ext (Ext.trans (by repeat (first | with_reducible exact Ext.refl _ | with_reducible refine Ext.drew ?_ | with_reducible refine Ext.drewN ?_ _ | with_reducible refine Ext.alloc ?_ _ | with_reducible refine Ext.setCell ?_ (by first | omega | (simp; done) | (simp; omega)) _)) hx31))
  have X31 : Hid (Ext w w31) := Lib.hid (Ext.trans (by repeat (first | with_reducible exact X30.out | with_reducible refine Ext.drew ?_ | with_reducible refine Ext.drewN ?_ _ | with_reducible refine Ext.alloc ?_ _ | with_reducible refine Ext.setCell ?_ (by first | omega | (simp; done) | (simp; omega)) _)) hx31)
  clear X30 hx31 z31
  clear hN1
  go_wp2_with fail
  have hN2 : Sl (w31.alloc (.cells #[.int .u8 2, .int .u8 0, .int .u8 1, .int .u8 2, .int .u8 5, .int .u8 0, .int .u8 1, .int .u8 2, .int .u8 4] 5)) 1 (some ⟨w31.heap.size, 0, none⟩) 9 9 (by_ [2, 0, 1, 2, 5, 0, 1, 2, 4]) := by_new w31 [2, 0, 1, 2, 5, 0, 1, 2, 4] 9 rfl (by omega)
  (with_reducible refine (reads15_ev _ 9 9 [2, 0, 1, 2, 5, 0, 1, 2, 4] [] 9 8 _ (byt_of rfl) hN2 rfl (by decide) (fun h => by cases h) rfl).mono ?_)
  rintro e w32 ⟨rfl, hx32⟩
  have z32 := hx32.size
  try simp at z32
  replace HY := Lib.hid (HY.out.ext (Ext.trans (by repeat (first | with_reducible exact Ext.refl _ | with_reducible refine Ext.drew ?_ | with_reducible refine Ext.drewN ?_ _ | with_reducible refine Ext.alloc ?_ _ | with_reducible refine Ext.setCell ?_ (by first | omega | (simp; done) | (simp; omega)) _)) hx32))
  have X32 : Hid (Ext w w32) := Lib.hid (Ext.trans (by repeat (first | with_reducible exact X31.out | with_reducible refine Ext.drew ?_ | with_reducible refine Ext.drewN ?_ _ | with_reducible refine Ext.alloc ?_ _ | with_reducible refine Ext.setCell ?_ (by first | omega | (simp; done) | (simp; omega)) _)) hx32)
  clear X31 hx32 z32
  clear hN2
  go_wp2_with fail
  have hN3 : Sl (w32.alloc (.cells #[.int .u8 1, .int .u8 64] 5)) 1 (some ⟨w32.heap.size, 0, none⟩) 2 2 (by_ [1, 64]) := by_new w32 [1, 64] 2 rfl (by omega)
  (with_reducible refine (reads15_ev _ 2 2 [1, 64] [] 3 1 _ (byt_of rfl) hN3 rfl (by decide) (fun h => by cases h) rfl).mono ?_)
  rintro e w33 ⟨rfl, hx33⟩
  have z33 := hx33.size
  try simp at z33
  replace HY := Lib.hid (HY.out.ext (Ext.trans (by repeat (first | with_reducible exact Ext.refl _ | with_reducible refine Ext.drew ?_ | with_reducible refine Ext.drewN ?_ _ | with_reducible refine Ext.alloc ?_ _ | with_reducible refine Ext.setCell ?_ (by first | omega | (simp; done) | (simp; omega)) _)) hx33))
  have X33 : Hid (Ext w w33) := Lib.hid (Ext.trans (by repeat (first | with_reducible exact X32.out | with_reducible refine Ext.drew ?_ | with_reducible refine Ext.drewN ?_ _ | with_reducible refine Ext.alloc ?_ _ | with_reducible refine Ext.setCell ?_ (by first | omega | (simp; done) | (simp; omega)) _)) hx33)
  clear X32 hx33 z33
  clear hN3
  go_wp2_with fail
  (with_reducible refine (awake15_any _).mono ?_)
  rintro e w34 ⟨rfl, hx34⟩
  have z34 := hx34.size
  try simp at z34
  replace HY := Lib.hid (HY.out.ext (Ext.trans (by repeat (first | with_reducible exact Ext.refl _ | with_reducible refine Ext.drew ?_ | with_reducible refine Ext.drewN ?_ _ | with_reducible refine Ext.alloc ?_ _ | with_reducible refine Ext.setCell ?_ (by first | omega | (simp; done) | (simp; omega)) _)) hx34))
  have X34 : Hid (Ext w w34) := Lib.hid (Ext.trans (by repeat (first | with_reducible exact X33.out | with_reducible refine Ext.drew ?_ | with_reducible refine Ext.drewN ?_ _ | with_reducible refine Ext.alloc ?_ _ | with_reducible refine Ext.setCell ?_ (by first | omega | (simp; done) | (simp; omega)) _)) hx34)
  clear X33 hx34 z34
  go_wp2_with fail
  go_ret
  exact ⟨rfl, (by repeat (first | with_reducible exact X34.out | with_reducible refine Ext.drew ?_ | with_reducible refine Ext.drewN ?_ _ | with_reducible refine Ext.alloc ?_ _ | with_reducible refine Ext.setCell ?_ (by first | omega | (simp; done) | (simp; omega)) _))⟩
end
section
open Go.RowKit
/-- a list that was added to one by one -/
structure MadeH (l : List (Int × Int × Int × Int)) (mo at_ : Int) (n : Nat) : Prop where
  chk : (chkH l).1 = 0
  len : l.length ≤ n
  at_ : ∀ x ∈ l, x.2.2.2 ≤ at_
  cap : ∀ o s d, cntL l o s d ≤ mo
theorem MadeH.nil {mo at_ : Int} (h : 0 ≤ mo) (n : Nat) : MadeH [] mo at_ n := ⟨rfl, Nat.zero_le _, (by intro x hx; simp at hx), (by intro o s d; simpa [cntL] using h)⟩
theorem MadeH.weak {l : List (Int × Int × Int × Int)} {mo a b : Int} {n m : Nat} (h : MadeH l mo a n) (hab : a ≤ b) (hn : n ≤ m) : MadeH l mo b m := ⟨h.chk, Nat.le_trans h.len hn, fun x hx => Int.le_trans (h.at_ x hx) hab, h.cap⟩
theorem MadeH.fits {l : List (Int × Int × Int × Int)} {mo at_ : Int} {n : Nat} (h : MadeH l mo at_ n) : ∀ x ∈ l, FitsH x := fun x hx => may_fits (chkH_may h.chk x hx)
theorem MadeH.ord {l : List (Int × Int × Int × Int)} {mo at_ : Int} {n : Nat} (h : MadeH l mo at_ n) {x3 : Int} (hx : at_ ≤ x3) : ordB l x3 = false := by
  unfold ordB
  split
  · rename_i y hy
    have := h.at_ y (List.mem_of_getLast? hy)
    simp
    omega
  · rfl
/-- what comes of one more -/
theorem MadeH.addE {l : List (Int × Int × Int × Int)} {mo at_ : Int} {n : Nat} (h : MadeH l mo at_ n) (hn : n ≤ 4000) {x : Int × Int × Int × Int} (hx : MayH x) (ha : at_ ≤ x.2.2.2) (h1 : 1 ≤ mo) (h16 : mo ≤ 16) : addE l x mo = if mo ≤ cntL l x.1 x.2.1 x.2.2.1 then 22 else 0 := by
  have hm : mayV x l = 0 := mayV_iff.2 ⟨hx, h.ord ha⟩
  have hl := h.len
  unfold Go.Proofs.Ytjdpgapmdmpjjaa.addE
  rw [if_neg (by rw [h.chk]; simp), if_neg (by rw [hm]; omega), if_neg (by rw [hm]; simp)]
  split
  · rfl
  · rw [if_neg (by omega)]
theorem MadeH.add {l : List (Int × Int × Int × Int)} {mo at_ : Int} {n : Nat} (h : MadeH l mo at_ n) (hn : n < 4000) {x : Int × Int × Int × Int} (hx : MayH x) (ha : at_ ≤ x.2.2.2) (hc : ¬ mo ≤ cntL l x.1 x.2.1 x.2.2.1) : MadeH (l ++ [x]) mo x.2.2.2 (n + 1) := by
  have hm : mayV x l = 0 := mayV_iff.2 ⟨hx, h.ord ha⟩
  obtain ⟨_, _, hz⟩ := chkH_zero h.chk
  refine ⟨?_, ?_, ?_, ?_⟩
  · have hl := h.len
    have : chkH (l ++ [x]) = (0, 0) := by
      refine chkG_ok (by simp; omega) (fun j hj => ?_)
      rw [List.length_append, List.length_singleton] at hj
      rcases Nat.lt_or_ge j l.length with hjl | hjl
      · rw [badH_old hjl]
        unfold badH
        rw [List.getElem?_eq_getElem hjl]
        exact hz j _ (List.getElem?_eq_getElem hjl)
      · obtain rfl : j = l.length := by omega
        rw [badH_new]
        exact hm
    rw [this]
  · have := h.len
    rw [List.length_append, List.length_singleton]
    omega
  · intro y hy
    rcases List.mem_append.1 hy with hy | hy
    · exact Int.le_trans (h.at_ y hy) ha
    · obtain rfl := List.mem_singleton.1 hy
      exact Int.le_refl _
  · intro o s d
    rw [cntL_add]
    split
    · rename_i he
      obtain ⟨rfl, rfl, rfl⟩ := he
      omega
    · have := h.cap o s d
      omega
end
section
open Go.RowKit Go.ChangeShapes Go.WideShapes Go.Deep Go.Joins
set_option maxRecDepth 100000 in
set_option maxHeartbeats 4000000 in
theorem made15_any (A : Option Addr) (n c : Nat) (l : List Int) (mo : Int) (w : World) (h : Sl w 1 A n c (iv .i64 l)) (hf : ∀ x ∈ l, Fits .i64 x) (hn : n ≤ 60) (h1 : 1 ≤ mo) (h16 : mo ≤ 16) :
    Calls Try.prog 72 #[.slice A n c, .int .i64 mo] w fun e w' => ∃ A' c' L, e = .returned (.tuple #[.slice A' L.length c', .bool true]) ∧ (A' = none → c' = 0) ∧ Sl w' 4 A' L.length c' (L.flatMap hopC) ∧ MadeH L mo 200 60 ∧ Ext w w' := by
  have s1 := h.small
  have hl := h.ilen
  have HS := Lib.hid h
  have HL := Lib.hid hl
  have HF := Lib.hid hf
  clear h hl hf
  go_enter Try.func72, Try.ntmps72
  go_wp2
  go_loopg [6, 7, 8] n (fun gh q at_ i wx => gh ≤ n ∧ i = .int .i64 ((n - gh : Nat) : Int) ∧ (∃ (A1 : Option Addr) (c1 : Nat) (L : List (Int × Int × Int × Int)) (a : Int), q = .slice A1 L.length c1 ∧ at_ = .int .i64 a ∧ 1 ≤ a ∧ a ≤ 1 + 3 * ((n - gh : Nat) : Int) ∧ Hid ((A1 = none → c1 = 0) ∧ Sl wx 4 A1 L.length c1 (L.flatMap hopC) ∧ MadeH L mo a (n - gh))) ∧ Hid (Sl wx 1 A n c (iv .i64 l)) ∧ Ext w wx)
  case atStart => exact ⟨Nat.le_refl _, by simp, ⟨none, 0, [], 1, rfl, rfl, by omega, by omega, Lib.hid ⟨fun _ => rfl, Sl.nil _ _, MadeH.nil (by omega) _⟩⟩, HS, Ext.refl _⟩
  case round =>
    obtain ⟨hg, hi, ⟨A1, c1, L, a, rfl, rfl, ha1, ha2, hM⟩, hs, hx⟩ := hrel
    obtain ⟨k, hk⟩ : ∃ k, k = n - gk := ⟨_, rfl⟩
    rw [← hk] at hi ha2 hM
    subst hi
    have XR := Lib.hid hx
    by_cases hz : gk = 0
    · have hkn : ¬ (k : Int) < n := by omega
      have hM2 := Lib.hid (hM.out.2.2.weak (b := 200) (m := 60) (by omega) (by omega))
      clear hx hk hg hz hs HS ha1 ha2
      go_wp2
      go_ret2
      exact ⟨A1, c1, L, rfl, hM.out.1, hM.out.2.1, hM2.out, XR.out⟩
    · have hkn : (k : Int) < n := by omega
      have hk1 : k < n := by omega
      obtain ⟨b1, o1, rfl, hb1, hc1⟩ := hs.out.cell hk1
      have x_0 := hc1 k hk1
      obtain ⟨y, hy⟩ : ∃ y, y = l.getD k 0 := ⟨_, rfl⟩
      rw [← hy] at x_0
      have hfy : Fits .i64 y := HF.out y (by rw [hy, List.getD_eq_getElem?_getD, List.getElem?_eq_getElem (by have := HL.out; omega)]; exact List.getElem_mem _)
      obtain ⟨p, hp⟩ : ∃ p, p = y % 4000 := ⟨_, rfl⟩
      have p0 : 0 ≤ p := by rw [hp]; exact Int.emod_nonneg y (by decide)
      have p1 : p < 4000 := by rw [hp]; exact Int.emod_lt_of_pos y (by decide)
      have HP : Hid (∀ w, Calls Try.prog 50 #[.int .i64 y, .int .i64 4000] w fun e w' => e = .returned (.int .i64 p) ∧ w = w') := Lib.hid (fun w => by rw [hp]; exact kPick_any y 4000 hfy.i64.1 hfy.i64.2 (by decide) (by decide) w)
      obtain ⟨a2, ha⟩ : ∃ a2, a2 = a + p % 4 := ⟨_, rfl⟩
      have hwr : IntKind.i64.wrap (a + p % 4) = a2 := by rw [ha]; exact IntWalk.i64_in _ (by omega)
      have hwr2 : Go.RowKit.wrap64 (a + p % 4) = a2 := by rw [← IntWalk.i64_left]; exact hwr
      have hwr3 : a + p % 4 = a2 := ha.symm
      have hmay : MayH (p / 4 % 3, p / 12 % 3, 3 + p / 36 % 2, a2) := by
        refine ⟨⟨?_, ?_⟩, ⟨?_, ?_⟩, ?_, ⟨?_, ?_⟩, ?_, ?_⟩ <;> dsimp only <;> omega
      have hft := may_fits hmay
      have hsm := hM.out.2.2
      have hL60 : L.length ≤ 60 := by have := hsm.len; omega
      have hE := hsm.addE (by omega) hmay (by dsimp only; omega) h1 h16
      dsimp only at hE
      obtain ⟨cv, hcv⟩ : ∃ cv, cv = cntL L (p / 4 % 3) (p / 12 % 3) (3 + p / 36 % 2) := ⟨_, rfl⟩
      rw [← hcv] at hE
      have HM := Lib.hid hM.out.1
      have HSL := Lib.hid hM.out.2.1
      have HFT := Lib.hid hft
      have HCV := Lib.hid hcv
      have HFL := Lib.hid hsm.fits
      have HSk := hs
      have HK := Lib.hid (And.intro hk (And.intro hg hz))
      have HA := Lib.hid (And.intro ha1 (And.intro ha2 ha))
      have HMD := Lib.hid hsm
      have HMY := Lib.hid hmay
      clear hx hk hg hz hs hc1 hy hp hfy hmay hft hsm ha hcv hM hb1 HS
      by_cases hcp : mo ≤ cv
      · have hv : ([], 22) = addV L (p / 4 % 3, p / 12 % 3, 3 + p / 36 % 2, a2) mo := (addV_no (e := 22) (by rw [hE, if_pos hcp]) (by decide)).symm
        have HV := Lib.hid hv
        have e57 : decide (mo ≤ cv) = true := decide_eq_true hcp
        clear hv hE
        go_wp2_with fail
        (with_reducible refine (HP.out _).mono ?_)
        rintro e w_1 ⟨rfl, rfl⟩
        go_wp2_with fail
        (with_reducible refine (one15_any (p / 4 % 3) (p / 12 % 3) (3 + p / 36 % 2) a2 _).mono ?_)
        rintro e w51 ⟨rfl, hx51⟩
        have z51 := hx51.size
        try simp at z51
        replace HSL := Lib.hid (HSL.out.ext (Ext.trans (by repeat (first | with_reducible exact Ext.refl _ | with_reducible refine Ext.drew ?_ | with_reducible refine Ext.drewN ?_ _ | with_reducible refine Ext.alloc ?_ _ | with_reducible refine Ext.setCell ?_ (by first | omega | (simp; done) | (simp; omega)) _)) hx51))
        replace HSk := Lib.hid (HSk.out.ext (Ext.trans (by repeat (first | with_reducible exact Ext.refl _ | with_reducible refine Ext.drew ?_ | with_reducible refine Ext.drewN ?_ _ | with_reducible refine Ext.alloc ?_ _ | with_reducible refine Ext.setCell ?_ (by first | omega | (simp; done) | (simp; omega)) _)) hx51))
        have X51 : Hid (Ext w w51) := Lib.hid (Ext.trans (by repeat (first | with_reducible exact XR.out | with_reducible refine Ext.drew ?_ | with_reducible refine Ext.drewN ?_ _ | with_reducible refine Ext.alloc ?_ _ | with_reducible refine Ext.setCell ?_ (by first | omega | (simp; done) | (simp; omega)) _)) hx51)
        clear x_0 XR hx51 z51
        go_wp2_with fail
        (with_reducible refine (hopAdd_ev A1 L.length c1 L [] (p / 4 % 3) (p / 12 % 3) (3 + p / 36 % 2) a2 mo 22 _ (HSL.out.ext (by repeat (first | with_reducible exact Ext.refl _ | with_reducible refine Ext.drew ?_ | with_reducible refine Ext.drewN ?_ _ | with_reducible refine Ext.alloc ?_ _ | with_reducible refine Ext.setCell ?_ (by first | omega | (simp; done) | (simp; omega)) _))) (by omega) HFL.out HFT.out HM.out HV.out).mono ?_)
        rintro e w52 ⟨A2, c2, rfl, hn2, hO2, hx52⟩
        have c0_0 : w52.cell? ⟨w51.heap.size, 0, none⟩ = some (.int .i64 (p / 4 % 3)) := hx52.has (by first | fail | (simp [go_sem, World.cell?_alloc_past]; done))
        have c0_1 : w52.cell? ⟨w51.heap.size, 1, none⟩ = some (.int .i64 (p / 12 % 3)) := hx52.has (by first | fail | (simp [go_sem, World.cell?_alloc_past]; done))
        have c0_2 : w52.cell? ⟨w51.heap.size, 2, none⟩ = some (.int .i64 (3 + p / 36 % 2)) := hx52.has (by first | fail | (simp [go_sem, World.cell?_alloc_past]; done))
        have z52 := hx52.size
        try simp at z52
        have rc0 : w51.heap.size < w52.heap.size := by omega
        have rc0a : w51.heap.size < w52.heap.size + 1 := by omega
        have rc0b : w51.heap.size < w52.heap.size + 1 + 1 := by omega
        have rc0c : w51.heap.size < w52.heap.size + 1 + 1 + 1 := by omega
        have rc0n : ¬ w51.heap.size = w52.heap.size := by omega
        replace HSL := Lib.hid (HSL.out.ext (Ext.trans (by repeat (first | with_reducible exact Ext.refl _ | with_reducible refine Ext.drew ?_ | with_reducible refine Ext.drewN ?_ _ | with_reducible refine Ext.alloc ?_ _ | with_reducible refine Ext.setCell ?_ (by first | omega | (simp; done) | (simp; omega)) _)) hx52))
        replace HSk := Lib.hid (HSk.out.ext (Ext.trans (by repeat (first | with_reducible exact Ext.refl _ | with_reducible refine Ext.drew ?_ | with_reducible refine Ext.drewN ?_ _ | with_reducible refine Ext.alloc ?_ _ | with_reducible refine Ext.setCell ?_ (by first | omega | (simp; done) | (simp; omega)) _)) hx52))
        have X52 : Hid (Ext w w52) := Lib.hid (Ext.trans (by repeat (first | with_reducible exact X51.out | with_reducible refine Ext.drew ?_ | with_reducible refine Ext.drewN ?_ _ | with_reducible refine Ext.alloc ?_ _ | with_reducible refine Ext.setCell ?_ (by first | omega | (simp; done) | (simp; omega)) _)) hx52)
        clear X51 hx52 z52
        clear hn2 hO2
        go_wp2_with fail
        (with_reducible refine (hopCount_ev A1 L.length c1 L (p / 4 % 3) (p / 12 % 3) (3 + p / 36 % 2) cv _ (HSL.out.ext (by repeat (first | with_reducible exact Ext.refl _ | with_reducible refine Ext.drew ?_ | with_reducible refine Ext.drewN ?_ _ | with_reducible refine Ext.alloc ?_ _ | with_reducible refine Ext.setCell ?_ (by first | omega | (simp; done) | (simp; omega)) _))) (by omega) HFL.out (fits_x HFT.out).1 (fits_x HFT.out).2.1 (fits_x HFT.out).2.2.1 HCV.out).mono ?_)
        rintro e w53 ⟨rfl, hx53⟩
        have z53 := hx53.size
        try simp at z53
        replace HSL := Lib.hid (HSL.out.ext (Ext.trans (by repeat (first | with_reducible exact Ext.refl _ | with_reducible refine Ext.drew ?_ | with_reducible refine Ext.drewN ?_ _ | with_reducible refine Ext.alloc ?_ _ | with_reducible refine Ext.setCell ?_ (by first | omega | (simp; done) | (simp; omega)) _)) hx53))
        replace HSk := Lib.hid (HSk.out.ext (Ext.trans (by repeat (first | with_reducible exact Ext.refl _ | with_reducible refine Ext.drew ?_ | with_reducible refine Ext.drewN ?_ _ | with_reducible refine Ext.alloc ?_ _ | with_reducible refine Ext.setCell ?_ (by first | omega | (simp; done) | (simp; omega)) _)) hx53))
        have X53 : Hid (Ext w w53) := Lib.hid (Ext.trans (by repeat (first | with_reducible exact X52.out | with_reducible refine Ext.drew ?_ | with_reducible refine Ext.drewN ?_ _ | with_reducible refine Ext.alloc ?_ _ | with_reducible refine Ext.setCell ?_ (by first | omega | (simp; done) | (simp; omega)) _)) hx53)
        clear c0_0 c0_2 c0_1 rc0 rc0a rc0b rc0c rc0n X52 hx53 z53
        go_wp2_with fail
        go_roundg (gk - 1)
        case measure => have := HK.out; omega
        case rel => exact ⟨by have := HK.out; omega, num_eq (by have := HK.out; omega), ⟨A1, c1, L, a2, rfl, rfl, by have := HA.out; omega, by have := HA.out; have := HK.out; omega, Lib.hid ⟨HM.out, (HSL.out.ext (by repeat (first | with_reducible exact Ext.refl _ | with_reducible refine Ext.drew ?_ | with_reducible refine Ext.drewN ?_ _ | with_reducible refine Ext.alloc ?_ _ | with_reducible refine Ext.setCell ?_ (by first | omega | (simp; done) | (simp; omega)) _))), HMD.out.weak (by have := HA.out; omega) (by have := HK.out; omega)⟩⟩, Lib.hid (HSk.out.ext (by repeat (first | with_reducible exact Ext.refl _ | with_reducible refine Ext.drew ?_ | with_reducible refine Ext.drewN ?_ _ | with_reducible refine Ext.alloc ?_ _ | with_reducible refine Ext.setCell ?_ (by first | omega | (simp; done) | (simp; omega)) _))), (by repeat (first | with_reducible exact X53.out | with_reducible refine Ext.drew ?_ | with_reducible refine Ext.drewN ?_ _ | with_reducible refine Ext.alloc ?_ _ | with_reducible refine Ext.setCell ?_ (by first | omega | (simp; done) | (simp; omega)) _))⟩
      · have hv : (L ++ [(p / 4 % 3, p / 12 % 3, 3 + p / 36 % 2, a2)], 0) = addV L (p / 4 % 3, p / 12 % 3, 3 + p / 36 % 2, a2) mo := (addV_ok (by rw [hE, if_neg hcp])).symm
        have HV := Lib.hid hv
        have HCP := Lib.hid hcp
        have e57 : decide (mo ≤ cv) = false := decide_eq_false hcp
        clear hv hE
        go_wp2_with fail
        (with_reducible refine (HP.out _).mono ?_)
        rintro e w_1 ⟨rfl, rfl⟩
        go_wp2_with fail
        (with_reducible refine (one15_any (p / 4 % 3) (p / 12 % 3) (3 + p / 36 % 2) a2 _).mono ?_)
        rintro e w51 ⟨rfl, hx51⟩
        have z51 := hx51.size
        try simp at z51
        replace HSL := Lib.hid (HSL.out.ext (Ext.trans (by repeat (first | with_reducible exact Ext.refl _ | with_reducible refine Ext.drew ?_ | with_reducible refine Ext.drewN ?_ _ | with_reducible refine Ext.alloc ?_ _ | with_reducible refine Ext.setCell ?_ (by first | omega | (simp; done) | (simp; omega)) _)) hx51))
        replace HSk := Lib.hid (HSk.out.ext (Ext.trans (by repeat (first | with_reducible exact Ext.refl _ | with_reducible refine Ext.drew ?_ | with_reducible refine Ext.drewN ?_ _ | with_reducible refine Ext.alloc ?_ _ | with_reducible refine Ext.setCell ?_ (by first | omega | (simp; done) | (simp; omega)) _)) hx51))
        have X51 : Hid (Ext w w51) := Lib.hid (Ext.trans (by repeat (first | with_reducible exact XR.out | with_reducible refine Ext.drew ?_ | with_reducible refine Ext.drewN ?_ _ | with_reducible refine Ext.alloc ?_ _ | with_reducible refine Ext.setCell ?_ (by first | omega | (simp; done) | (simp; omega)) _)) hx51)
        clear x_0 XR hx51 z51
        go_wp2_with fail
        (with_reducible refine (hopAdd_ev A1 L.length c1 L (L ++ [(p / 4 % 3, p / 12 % 3, 3 + p / 36 % 2, a2)]) (p / 4 % 3) (p / 12 % 3) (3 + p / 36 % 2) a2 mo 0 _ (HSL.out.ext (by repeat (first | with_reducible exact Ext.refl _ | with_reducible refine Ext.drew ?_ | with_reducible refine Ext.drewN ?_ _ | with_reducible refine Ext.alloc ?_ _ | with_reducible refine Ext.setCell ?_ (by first | omega | (simp; done) | (simp; omega)) _))) (by omega) HFL.out HFT.out HM.out HV.out).mono ?_)
        rintro e w52 ⟨A2, c2, rfl, hn2, hO2, hx52⟩
        have c0_0 : w52.cell? ⟨w51.heap.size, 0, none⟩ = some (.int .i64 (p / 4 % 3)) := hx52.has (by first | fail | (simp [go_sem, World.cell?_alloc_past]; done))
        have c0_1 : w52.cell? ⟨w51.heap.size, 1, none⟩ = some (.int .i64 (p / 12 % 3)) := hx52.has (by first | fail | (simp [go_sem, World.cell?_alloc_past]; done))
        have c0_2 : w52.cell? ⟨w51.heap.size, 2, none⟩ = some (.int .i64 (3 + p / 36 % 2)) := hx52.has (by first | fail | (simp [go_sem, World.cell?_alloc_past]; done))
        have z52 := hx52.size
        try simp at z52
        have rc0 : w51.heap.size < w52.heap.size := by omega
        have rc0a : w51.heap.size < w52.heap.size + 1 := by omega
        have rc0b : w51.heap.size < w52.heap.size + 1 + 1 := by omega
        have rc0c : w51.heap.size < w52.heap.size + 1 + 1 + 1 := by omega
        have rc0n : ¬ w51.heap.size = w52.heap.size := by omega
        replace HSL := Lib.hid (HSL.out.ext (Ext.trans (by repeat (first | with_reducible exact Ext.refl _ | with_reducible refine Ext.drew ?_ | with_reducible refine Ext.drewN ?_ _ | with_reducible refine Ext.alloc ?_ _ | with_reducible refine Ext.setCell ?_ (by first | omega | (simp; done) | (simp; omega)) _)) hx52))
        replace HSk := Lib.hid (HSk.out.ext (Ext.trans (by repeat (first | with_reducible exact Ext.refl _ | with_reducible refine Ext.drew ?_ | with_reducible refine Ext.drewN ?_ _ | with_reducible refine Ext.alloc ?_ _ | with_reducible refine Ext.setCell ?_ (by first | omega | (simp; done) | (simp; omega)) _)) hx52))
        have X52 : Hid (Ext w w52) := Lib.hid (Ext.trans (by repeat (first | with_reducible exact X51.out | with_reducible refine Ext.drew ?_ | with_reducible refine Ext.drewN ?_ _ | with_reducible refine Ext.alloc ?_ _ | with_reducible refine Ext.setCell ?_ (by first | omega | (simp; done) | (simp; omega)) _)) hx52)
        have HO := Lib.hid hO2.sl
        clear X51 hx52 z52
        have HN2 := Lib.hid hn2
        clear hn2 hO2
        go_wp2_with fail
        (with_reducible refine (hopCount_ev A1 L.length c1 L (p / 4 % 3) (p / 12 % 3) (3 + p / 36 % 2) cv _ (HSL.out.ext (by repeat (first | with_reducible exact Ext.refl _ | with_reducible refine Ext.drew ?_ | with_reducible refine Ext.drewN ?_ _ | with_reducible refine Ext.alloc ?_ _ | with_reducible refine Ext.setCell ?_ (by first | omega | (simp; done) | (simp; omega)) _))) (by omega) HFL.out (fits_x HFT.out).1 (fits_x HFT.out).2.1 (fits_x HFT.out).2.2.1 HCV.out).mono ?_)
        rintro e w53 ⟨rfl, hx53⟩
        have z53 := hx53.size
        try simp at z53
        replace HSL := Lib.hid (HSL.out.ext (Ext.trans (by repeat (first | with_reducible exact Ext.refl _ | with_reducible refine Ext.drew ?_ | with_reducible refine Ext.drewN ?_ _ | with_reducible refine Ext.alloc ?_ _ | with_reducible refine Ext.setCell ?_ (by first | omega | (simp; done) | (simp; omega)) _)) hx53))
        replace HSk := Lib.hid (HSk.out.ext (Ext.trans (by repeat (first | with_reducible exact Ext.refl _ | with_reducible refine Ext.drew ?_ | with_reducible refine Ext.drewN ?_ _ | with_reducible refine Ext.alloc ?_ _ | with_reducible refine Ext.setCell ?_ (by first | omega | (simp; done) | (simp; omega)) _)) hx53))
        replace HO := Lib.hid (HO.out.ext (Ext.trans (by repeat (first | with_reducible exact Ext.refl _ | with_reducible refine Ext.drew ?_ | with_reducible refine Ext.drewN ?_ _ | with_reducible refine Ext.alloc ?_ _ | with_reducible refine Ext.setCell ?_ (by first | omega | (simp; done) | (simp; omega)) _)) hx53))
        have X53 : Hid (Ext w w53) := Lib.hid (Ext.trans (by repeat (first | with_reducible exact X52.out | with_reducible refine Ext.drew ?_ | with_reducible refine Ext.drewN ?_ _ | with_reducible refine Ext.alloc ?_ _ | with_reducible refine Ext.setCell ?_ (by first | omega | (simp; done) | (simp; omega)) _)) hx53)
        clear c0_0 c0_2 c0_1 rc0 rc0a rc0b rc0c rc0n X52 hx53 z53
        go_wp2_with fail
        go_roundg (gk - 1)
        case measure => have := HK.out; omega
        case rel => exact ⟨by have := HK.out; omega, num_eq (by have := HK.out; omega), ⟨A2, c2, L ++ [(p / 4 % 3, p / 12 % 3, 3 + p / 36 % 2, a2)], a2, by simp, rfl, by have := HA.out; omega, by have := HA.out; have := HK.out; omega, Lib.hid ⟨HN2.out, (HO.out.ext (by repeat (first | with_reducible exact Ext.refl _ | with_reducible refine Ext.drew ?_ | with_reducible refine Ext.drewN ?_ _ | with_reducible refine Ext.alloc ?_ _ | with_reducible refine Ext.setCell ?_ (by first | omega | (simp; done) | (simp; omega)) _))), (HMD.out.add (by omega) HMY.out (by have := HA.out; dsimp only; omega) (by have h := HCP.out; rw [HCV.out] at h; dsimp only; omega)).weak (by dsimp only; omega) (by have := HK.out; omega)⟩⟩, Lib.hid (HSk.out.ext (by repeat (first | with_reducible exact Ext.refl _ | with_reducible refine Ext.drew ?_ | with_reducible refine Ext.drewN ?_ _ | with_reducible refine Ext.alloc ?_ _ | with_reducible refine Ext.setCell ?_ (by first | omega | (simp; done) | (simp; omega)) _))), (by repeat (first | with_reducible exact X53.out | with_reducible refine Ext.drew ?_ | with_reducible refine Ext.drewN ?_ _ | with_reducible refine Ext.alloc ?_ _ | with_reducible refine Ext.setCell ?_ (by first | omega | (simp; done) | (simp; omega)) _))⟩
end
section
open Go.RowKit Go.ChangeShapes Go.WideShapes Go.Deep Go.Joins
theorem lst_small {l : List (Int × Int × Int × Int)} (h : (chkH l).1 = 0) : (lstB l).length ≤ 163850 := by
  have h1 := lst_fit h l.length
  rw [List.take_length] at h1
  unfold lstB
  rw [if_pos h]
  exact h1
set_option maxRecDepth 100000 in
set_option maxHeartbeats 4000000 in
theorem HopBack_long (A A1 : Option Addr) (c n c1 n1 : Nat) (w : World) (hl : ¬ n ≤ 60 ∨ ¬ n1 ≤ 600) (hs : n ≤ 9223372036854775807) (hs1 : n1 ≤ 9223372036854775807) :
    Calls Try.prog 10 #[.slice A n c, .slice A1 n1 c1] w fun r w' => r = .returned (.bool true) ∧ Ext w w' := by
  go_enter Try.func10, Try.ntmps10
  go_wp2_with fail
  (with_reducible refine (HopKnown_any _).mono ?_)
  rintro e w1 ⟨rfl, hx1⟩
  have z1 := hx1.size
  try simp at z1
  have X1 : Hid (Ext w w1) := Lib.hid (Ext.trans (by repeat (first | with_reducible exact Ext.refl w | with_reducible refine Ext.drew ?_ | with_reducible refine Ext.drewN ?_ _ | with_reducible refine Ext.alloc ?_ _ | with_reducible refine Ext.setCell ?_ (by first | omega | (simp; done) | (simp; omega)) _)) hx1)
  clear hx1 z1
  by_cases h0 : (60 : Int) < (n : Int)
  · skip
    go_wp2_with fail
    go_ret
    exact ⟨rfl, (by repeat (first | with_reducible exact X1.out | with_reducible refine Ext.drew ?_ | with_reducible refine Ext.drewN ?_ _ | with_reducible refine Ext.alloc ?_ _ | with_reducible refine Ext.setCell ?_ (by first | omega | (simp; done) | (simp; omega)) _))⟩
  · have h1 : (600 : Int) < (n1 : Int) := by omega
    go_wp2_with fail
    go_ret
    exact ⟨rfl, (by repeat (first | with_reducible exact X1.out | with_reducible refine Ext.drew ?_ | with_reducible refine Ext.drewN ?_ _ | with_reducible refine Ext.alloc ?_ _ | with_reducible refine Ext.setCell ?_ (by first | omega | (simp; done) | (simp; omega)) _))⟩
set_option maxRecDepth 100000 in
set_option maxHeartbeats 4000000 in
theorem HopBack_ok (A A0 : Option Addr) (n c c0 : Nat) (l : List Int) (R : List (Int × Int × Int × Int)) (M : List Nat) (re ra : Int) (w : World) (hs : Sl w 1 A n c (iv .i64 l)) (hf : ∀ x ∈ l, Fits .i64 x) (hb : Sl w 1 A0 M.length c0 (by_ M)) (hM : Byt M) (hnil0 : A0 = none → c0 = 0) (hl : n ≤ 60) (hl0 : M.length ≤ 600) (h3 : (R, re, ra) = hopRV M) (he : re = 0) :
    Calls Try.prog 10 #[.slice A n c, .slice A0 M.length c0] w fun r w' => r = .returned (.bool true) ∧ Ext w w' := by
  have hMd : ¬ (60 : Int) < (n : Int) := by omega
  have hMe : ¬ (600 : Int) < (M.length : Int) := by omega
  have s1 := hs.small
  have s2 := hb.small
  have hre : re = (hopRV M).2.1 := by rw [← h3]
  have hR1 : R = (hopRV M).1 := by rw [← h3]
  have hbk := hopRV_back hM (by rw [← hre]; exact he)
  have HB1 : Hid (M = lstB R) := Lib.hid (by rw [hR1]; exact hbk.2.1.symm)
  have HB2 : Hid ((0 : Int) = (chkH R).1) := Lib.hid (by rw [hR1]; exact hbk.1.symm)
  have HB3 : Hid (∀ x ∈ R, FitsH x) := Lib.hid (by rw [hR1]; exact hopRV_fits hM)
  subst he
  have HS := Lib.hid hs
  have HF := Lib.hid hf
  have HB := Lib.hid hb
  have F3 := Lib.hid h3
  have HM := Lib.hid hM
  have HN0 := Lib.hid hnil0
  have qn := flt_neq
  have qg := flt_eqg
  clear hs hf hb h3 hM hnil0 hre hR1 hbk
  go_enter Try.func10, Try.ntmps10
  go_wp2_with fail
  (with_reducible refine (HopKnown_any _).mono ?_)
  rintro e w1 ⟨rfl, hx1⟩
  have z1 := hx1.size
  try simp at z1
  replace HS := Lib.hid (HS.out.ext (Ext.trans (by repeat (first | with_reducible exact Ext.refl _ | with_reducible refine Ext.drew ?_ | with_reducible refine Ext.drewN ?_ _ | with_reducible refine Ext.alloc ?_ _ | with_reducible refine Ext.setCell ?_ (by first | omega | (simp; done) | (simp; omega)) _)) hx1))
  replace HB := Lib.hid (HB.out.ext (Ext.trans (by repeat (first | with_reducible exact Ext.refl _ | with_reducible refine Ext.drew ?_ | with_reducible refine Ext.drewN ?_ _ | with_reducible refine Ext.alloc ?_ _ | with_reducible refine Ext.setCell ?_ (by first | omega | (simp; done) | (simp; omega)) _)) hx1))
  have X1 : Hid (Ext w w1) := Lib.hid (Ext.trans (by repeat (first | with_reducible exact Ext.refl w | with_reducible refine Ext.drew ?_ | with_reducible refine Ext.drewN ?_ _ | with_reducible refine Ext.alloc ?_ _ | with_reducible refine Ext.setCell ?_ (by first | omega | (simp; done) | (simp; omega)) _)) hx1)
  clear hx1 z1
  go_wp2_with fail
  (with_reducible refine (made15_any A n c l 16 _ (HS.out.ext (by repeat (first | with_reducible exact Ext.refl _ | with_reducible refine Ext.drew ?_ | with_reducible refine Ext.drewN ?_ _ | with_reducible refine Ext.alloc ?_ _ | with_reducible refine Ext.setCell ?_ (by first | omega | (simp; done) | (simp; omega)) _))) HF.out hl (by decide) (by decide)).mono ?_)
  rintro e w2 ⟨A2, c2, L, rfl, hn2, hS2, hM2, hx2⟩
  have z2 := hx2.size
  try simp at z2
  replace HS := Lib.hid (HS.out.ext (Ext.trans (by repeat (first | with_reducible exact Ext.refl _ | with_reducible refine Ext.drew ?_ | with_reducible refine Ext.drewN ?_ _ | with_reducible refine Ext.alloc ?_ _ | with_reducible refine Ext.setCell ?_ (by first | omega | (simp; done) | (simp; omega)) _)) hx2))
  replace HB := Lib.hid (HB.out.ext (Ext.trans (by repeat (first | with_reducible exact Ext.refl _ | with_reducible refine Ext.drew ?_ | with_reducible refine Ext.drewN ?_ _ | with_reducible refine Ext.alloc ?_ _ | with_reducible refine Ext.setCell ?_ (by first | omega | (simp; done) | (simp; omega)) _)) hx2))
  have X2 : Hid (Ext w w2) := Lib.hid (Ext.trans (by repeat (first | with_reducible exact X1.out | with_reducible refine Ext.drew ?_ | with_reducible refine Ext.drewN ?_ _ | with_reducible refine Ext.alloc ?_ _ | with_reducible refine Ext.setCell ?_ (by first | omega | (simp; done) | (simp; omega)) _)) hx2)
  have HL := Lib.hid hS2
  clear X1 hx2 z2 hS2
  have HN2 := Lib.hid hn2
  have HMD := Lib.hid hM2
  have hL60 := hM2.len
  clear hn2 hM2
  go_wp2_with fail
  (with_reducible refine (hopBytes_ev A2 c2 L (lstB L) 0 _ (HL.out.ext (by repeat (first | with_reducible exact Ext.refl _ | with_reducible refine Ext.drew ?_ | with_reducible refine Ext.drewN ?_ _ | with_reducible refine Ext.alloc ?_ _ | with_reducible refine Ext.setCell ?_ (by first | omega | (simp; done) | (simp; omega)) _))) HMD.out.fits rfl HMD.out.chk.symm).mono ?_)
  rintro e w3 ⟨A3, c3, rfl, hn3, hO3, hx3⟩
  have z3 := hx3.size
  try simp at z3
  replace HS := Lib.hid (HS.out.ext (Ext.trans (by repeat (first | with_reducible exact Ext.refl _ | with_reducible refine Ext.drew ?_ | with_reducible refine Ext.drewN ?_ _ | with_reducible refine Ext.alloc ?_ _ | with_reducible refine Ext.setCell ?_ (by first | omega | (simp; done) | (simp; omega)) _)) hx3))
  replace HB := Lib.hid (HB.out.ext (Ext.trans (by repeat (first | with_reducible exact Ext.refl _ | with_reducible refine Ext.drew ?_ | with_reducible refine Ext.drewN ?_ _ | with_reducible refine Ext.alloc ?_ _ | with_reducible refine Ext.setCell ?_ (by first | omega | (simp; done) | (simp; omega)) _)) hx3))
  replace HL := Lib.hid (HL.out.ext (Ext.trans (by repeat (first | with_reducible exact Ext.refl _ | with_reducible refine Ext.drew ?_ | with_reducible refine Ext.drewN ?_ _ | with_reducible refine Ext.alloc ?_ _ | with_reducible refine Ext.setCell ?_ (by first | omega | (simp; done) | (simp; omega)) _)) hx3))
  have X3 : Hid (Ext w w3) := Lib.hid (Ext.trans (by repeat (first | with_reducible exact X2.out | with_reducible refine Ext.drew ?_ | with_reducible refine Ext.drewN ?_ _ | with_reducible refine Ext.alloc ?_ _ | with_reducible refine Ext.setCell ?_ (by first | omega | (simp; done) | (simp; omega)) _)) hx3)
  have HY := Lib.hid hO3
  clear X2 hx3 z3 hO3
  have HN3 := Lib.hid hn3
  clear hn3
  go_wp2_with fail
  (with_reducible refine (hopRead_ev A3 c3 (lstB L) L 0 0 (byt_lst L) (by have := lst_small HMD.out.chk; omega) HN3.out _ (HY.out.ext (by repeat (first | with_reducible exact Ext.refl _ | with_reducible refine Ext.drew ?_ | with_reducible refine Ext.drewN ?_ _ | with_reducible refine Ext.alloc ?_ _ | with_reducible refine Ext.setCell ?_ (by first | omega | (simp; done) | (simp; omega)) _))).sl (hopRV_put HMD.out.chk).symm).mono ?_)
  rintro e w4 ⟨A4, c4, rfl, _, hO4, hx4⟩
  have z4 := hx4.size
  try simp at z4
  replace HS := Lib.hid (HS.out.ext (Ext.trans (by repeat (first | with_reducible exact Ext.refl _ | with_reducible refine Ext.drew ?_ | with_reducible refine Ext.drewN ?_ _ | with_reducible refine Ext.alloc ?_ _ | with_reducible refine Ext.setCell ?_ (by first | omega | (simp; done) | (simp; omega)) _)) hx4))
  replace HB := Lib.hid (HB.out.ext (Ext.trans (by repeat (first | with_reducible exact Ext.refl _ | with_reducible refine Ext.drew ?_ | with_reducible refine Ext.drewN ?_ _ | with_reducible refine Ext.alloc ?_ _ | with_reducible refine Ext.setCell ?_ (by first | omega | (simp; done) | (simp; omega)) _)) hx4))
  replace HL := Lib.hid (HL.out.ext (Ext.trans (by repeat (first | with_reducible exact Ext.refl _ | with_reducible refine Ext.drew ?_ | with_reducible refine Ext.drewN ?_ _ | with_reducible refine Ext.alloc ?_ _ | with_reducible refine Ext.setCell ?_ (by first | omega | (simp; done) | (simp; omega)) _)) hx4))
  replace HY := Lib.hid (HY.out.ext (Ext.trans (by repeat (first | with_reducible exact Ext.refl _ | with_reducible refine Ext.drew ?_ | with_reducible refine Ext.drewN ?_ _ | with_reducible refine Ext.alloc ?_ _ | with_reducible refine Ext.setCell ?_ (by first | omega | (simp; done) | (simp; omega)) _)) hx4))
  have X4 : Hid (Ext w w4) := Lib.hid (Ext.trans (by repeat (first | with_reducible exact X3.out | with_reducible refine Ext.drew ?_ | with_reducible refine Ext.drewN ?_ _ | with_reducible refine Ext.alloc ?_ _ | with_reducible refine Ext.setCell ?_ (by first | omega | (simp; done) | (simp; omega)) _)) hx4)
  have HP := Lib.hid hO4
  clear X3 hx4 z4 hO4
  go_wp2_with fail
  (with_reducible refine (kSameHops_eq A2 A4 _ c2 _ c4 L _ (HL.out.ext (by repeat (first | with_reducible exact Ext.refl _ | with_reducible refine Ext.drew ?_ | with_reducible refine Ext.drewN ?_ _ | with_reducible refine Ext.alloc ?_ _ | with_reducible refine Ext.setCell ?_ (by first | omega | (simp; done) | (simp; omega)) _))) (HP.out.ext (by repeat (first | with_reducible exact Ext.refl _ | with_reducible refine Ext.drew ?_ | with_reducible refine Ext.drewN ?_ _ | with_reducible refine Ext.alloc ?_ _ | with_reducible refine Ext.setCell ?_ (by first | omega | (simp; done) | (simp; omega)) _))).sl).mono ?_)
  rintro e w5 ⟨rfl, hx5⟩
  have z5 := hx5.size
  try simp at z5
  replace HS := Lib.hid (HS.out.ext (Ext.trans (by repeat (first | with_reducible exact Ext.refl _ | with_reducible refine Ext.drew ?_ | with_reducible refine Ext.drewN ?_ _ | with_reducible refine Ext.alloc ?_ _ | with_reducible refine Ext.setCell ?_ (by first | omega | (simp; done) | (simp; omega)) _)) hx5))
  replace HB := Lib.hid (HB.out.ext (Ext.trans (by repeat (first | with_reducible exact Ext.refl _ | with_reducible refine Ext.drew ?_ | with_reducible refine Ext.drewN ?_ _ | with_reducible refine Ext.alloc ?_ _ | with_reducible refine Ext.setCell ?_ (by first | omega | (simp; done) | (simp; omega)) _)) hx5))
  replace HL := Lib.hid (HL.out.ext (Ext.trans (by repeat (first | with_reducible exact Ext.refl _ | with_reducible refine Ext.drew ?_ | with_reducible refine Ext.drewN ?_ _ | with_reducible refine Ext.alloc ?_ _ | with_reducible refine Ext.setCell ?_ (by first | omega | (simp; done) | (simp; omega)) _)) hx5))
  replace HY := Lib.hid (HY.out.ext (Ext.trans (by repeat (first | with_reducible exact Ext.refl _ | with_reducible refine Ext.drew ?_ | with_reducible refine Ext.drewN ?_ _ | with_reducible refine Ext.alloc ?_ _ | with_reducible refine Ext.setCell ?_ (by first | omega | (simp; done) | (simp; omega)) _)) hx5))
  replace HP := Lib.hid (HP.out.ext (Ext.trans (by repeat (first | with_reducible exact Ext.refl _ | with_reducible refine Ext.drew ?_ | with_reducible refine Ext.drewN ?_ _ | with_reducible refine Ext.alloc ?_ _ | with_reducible refine Ext.setCell ?_ (by first | omega | (simp; done) | (simp; omega)) _)) hx5))
  have X5 : Hid (Ext w w5) := Lib.hid (Ext.trans (by repeat (first | with_reducible exact X4.out | with_reducible refine Ext.drew ?_ | with_reducible refine Ext.drewN ?_ _ | with_reducible refine Ext.alloc ?_ _ | with_reducible refine Ext.setCell ?_ (by first | omega | (simp; done) | (simp; omega)) _)) hx5)
  clear X4 hx5 z5
  go_wp2_with fail
  (with_reducible refine (hopRead_ev A0 c0 M R 0 ra HM.out (by omega) HN0.out _ (HB.out.ext (by repeat (first | with_reducible exact Ext.refl _ | with_reducible refine Ext.drew ?_ | with_reducible refine Ext.drewN ?_ _ | with_reducible refine Ext.alloc ?_ _ | with_reducible refine Ext.setCell ?_ (by first | omega | (simp; done) | (simp; omega)) _))) F3.out).mono ?_)
  rintro e w6 ⟨A5, c5, rfl, _, hO5, hx6⟩
  have z6 := hx6.size
  try simp at z6
  replace HS := Lib.hid (HS.out.ext (Ext.trans (by repeat (first | with_reducible exact Ext.refl _ | with_reducible refine Ext.drew ?_ | with_reducible refine Ext.drewN ?_ _ | with_reducible refine Ext.alloc ?_ _ | with_reducible refine Ext.setCell ?_ (by first | omega | (simp; done) | (simp; omega)) _)) hx6))
  replace HB := Lib.hid (HB.out.ext (Ext.trans (by repeat (first | with_reducible exact Ext.refl _ | with_reducible refine Ext.drew ?_ | with_reducible refine Ext.drewN ?_ _ | with_reducible refine Ext.alloc ?_ _ | with_reducible refine Ext.setCell ?_ (by first | omega | (simp; done) | (simp; omega)) _)) hx6))
  replace HL := Lib.hid (HL.out.ext (Ext.trans (by repeat (first | with_reducible exact Ext.refl _ | with_reducible refine Ext.drew ?_ | with_reducible refine Ext.drewN ?_ _ | with_reducible refine Ext.alloc ?_ _ | with_reducible refine Ext.setCell ?_ (by first | omega | (simp; done) | (simp; omega)) _)) hx6))
  replace HY := Lib.hid (HY.out.ext (Ext.trans (by repeat (first | with_reducible exact Ext.refl _ | with_reducible refine Ext.drew ?_ | with_reducible refine Ext.drewN ?_ _ | with_reducible refine Ext.alloc ?_ _ | with_reducible refine Ext.setCell ?_ (by first | omega | (simp; done) | (simp; omega)) _)) hx6))
  replace HP := Lib.hid (HP.out.ext (Ext.trans (by repeat (first | with_reducible exact Ext.refl _ | with_reducible refine Ext.drew ?_ | with_reducible refine Ext.drewN ?_ _ | with_reducible refine Ext.alloc ?_ _ | with_reducible refine Ext.setCell ?_ (by first | omega | (simp; done) | (simp; omega)) _)) hx6))
  have X6 : Hid (Ext w w6) := Lib.hid (Ext.trans (by repeat (first | with_reducible exact X5.out | with_reducible refine Ext.drew ?_ | with_reducible refine Ext.drewN ?_ _ | with_reducible refine Ext.alloc ?_ _ | with_reducible refine Ext.setCell ?_ (by first | omega | (simp; done) | (simp; omega)) _)) hx6)
  have HQ := Lib.hid hO5
  clear X5 hx6 z6 hO5
  go_wp2_with fail
  (with_reducible refine (hopBytes_ev A5 c5 R M 0 _ (HQ.out.ext (by repeat (first | with_reducible exact Ext.refl _ | with_reducible refine Ext.drew ?_ | with_reducible refine Ext.drewN ?_ _ | with_reducible refine Ext.alloc ?_ _ | with_reducible refine Ext.setCell ?_ (by first | omega | (simp; done) | (simp; omega)) _))).sl HB3.out HB1.out HB2.out).mono ?_)
  rintro e w7 ⟨A6, c6, rfl, _, hO6, hx7⟩
  have z7 := hx7.size
  try simp at z7
  replace HS := Lib.hid (HS.out.ext (Ext.trans (by repeat (first | with_reducible exact Ext.refl _ | with_reducible refine Ext.drew ?_ | with_reducible refine Ext.drewN ?_ _ | with_reducible refine Ext.alloc ?_ _ | with_reducible refine Ext.setCell ?_ (by first | omega | (simp; done) | (simp; omega)) _)) hx7))
  replace HB := Lib.hid (HB.out.ext (Ext.trans (by repeat (first | with_reducible exact Ext.refl _ | with_reducible refine Ext.drew ?_ | with_reducible refine Ext.drewN ?_ _ | with_reducible refine Ext.alloc ?_ _ | with_reducible refine Ext.setCell ?_ (by first | omega | (simp; done) | (simp; omega)) _)) hx7))
  replace HL := Lib.hid (HL.out.ext (Ext.trans (by repeat (first | with_reducible exact Ext.refl _ | with_reducible refine Ext.drew ?_ | with_reducible refine Ext.drewN ?_ _ | with_reducible refine Ext.alloc ?_ _ | with_reducible refine Ext.setCell ?_ (by first | omega | (simp; done) | (simp; omega)) _)) hx7))
  replace HY := Lib.hid (HY.out.ext (Ext.trans (by repeat (first | with_reducible exact Ext.refl _ | with_reducible refine Ext.drew ?_ | with_reducible refine Ext.drewN ?_ _ | with_reducible refine Ext.alloc ?_ _ | with_reducible refine Ext.setCell ?_ (by first | omega | (simp; done) | (simp; omega)) _)) hx7))
  replace HP := Lib.hid (HP.out.ext (Ext.trans (by repeat (first | with_reducible exact Ext.refl _ | with_reducible refine Ext.drew ?_ | with_reducible refine Ext.drewN ?_ _ | with_reducible refine Ext.alloc ?_ _ | with_reducible refine Ext.setCell ?_ (by first | omega | (simp; done) | (simp; omega)) _)) hx7))
  replace HQ := Lib.hid (HQ.out.ext (Ext.trans (by repeat (first | with_reducible exact Ext.refl _ | with_reducible refine Ext.drew ?_ | with_reducible refine Ext.drewN ?_ _ | with_reducible refine Ext.alloc ?_ _ | with_reducible refine Ext.setCell ?_ (by first | omega | (simp; done) | (simp; omega)) _)) hx7))
  have X7 : Hid (Ext w w7) := Lib.hid (Ext.trans (by repeat (first | with_reducible exact X6.out | with_reducible refine Ext.drew ?_ | with_reducible refine Ext.drewN ?_ _ | with_reducible refine Ext.alloc ?_ _ | with_reducible refine Ext.setCell ?_ (by first | omega | (simp; done) | (simp; omega)) _)) hx7)
  have HZ := Lib.hid hO6
  clear X6 hx7 z7 hO6
  go_wp2_with fail
  (with_reducible refine (kSameBytes_eq A6 A0 _ c6 _ c0 M HM.out _ (HZ.out.ext (by repeat (first | with_reducible exact Ext.refl _ | with_reducible refine Ext.drew ?_ | with_reducible refine Ext.drewN ?_ _ | with_reducible refine Ext.alloc ?_ _ | with_reducible refine Ext.setCell ?_ (by first | omega | (simp; done) | (simp; omega)) _))).sl (HB.out.ext (by repeat (first | with_reducible exact Ext.refl _ | with_reducible refine Ext.drew ?_ | with_reducible refine Ext.drewN ?_ _ | with_reducible refine Ext.alloc ?_ _ | with_reducible refine Ext.setCell ?_ (by first | omega | (simp; done) | (simp; omega)) _)))).mono ?_)
  rintro e w_1 ⟨rfl, rfl⟩
  go_wp2_with fail
  go_ret
  exact ⟨rfl, (by repeat (first | with_reducible exact X7.out | with_reducible refine Ext.drew ?_ | with_reducible refine Ext.drewN ?_ _ | with_reducible refine Ext.alloc ?_ _ | with_reducible refine Ext.setCell ?_ (by first | omega | (simp; done) | (simp; omega)) _))⟩
set_option maxRecDepth 100000 in
set_option maxHeartbeats 4000000 in
theorem HopBack_bad (A A0 : Option Addr) (n c c0 : Nat) (l : List Int) (R : List (Int × Int × Int × Int)) (M : List Nat) (re ra : Int) (w : World) (hs : Sl w 1 A n c (iv .i64 l)) (hf : ∀ x ∈ l, Fits .i64 x) (hb : Sl w 1 A0 M.length c0 (by_ M)) (hM : Byt M) (hnil0 : A0 = none → c0 = 0) (hl : n ≤ 60) (hl0 : M.length ≤ 600) (h3 : (R, re, ra) = hopRV M) (he : ¬ re = 0) :
    Calls Try.prog 10 #[.slice A n c, .slice A0 M.length c0] w fun r w' => r = .returned (.bool true) ∧ Ext w w' := by
  have hMd : ¬ (60 : Int) < (n : Int) := by omega
  have hMe : ¬ (600 : Int) < (M.length : Int) := by omega
  have s1 := hs.small
  have s2 := hb.small
  have hre : re = (hopRV M).2.1 := by rw [← h3]
  have hR1 : R = (hopRV M).1 := by rw [← h3]
  have hnl : R = [] := by rw [hR1]; exact hopRV_nil (by rw [← hre]; exact he)
  subst hnl
  have e65 : (re != 0) = true := by simpa using he
  have HS := Lib.hid hs
  have HF := Lib.hid hf
  have HB := Lib.hid hb
  have F3 := Lib.hid h3
  have HM := Lib.hid hM
  have HN0 := Lib.hid hnil0
  have qn := flt_neq
  have qg := flt_eqg
  clear hs hf hb h3 hM hnil0 hre hR1 he
  go_enter Try.func10, Try.ntmps10
  go_wp2_with fail
  (with_reducible refine (HopKnown_any _).mono ?_)
  rintro e w1 ⟨rfl, hx1⟩
  have z1 := hx1.size
  try simp at z1
  replace HS := Lib.hid (HS.out.ext (Ext.trans (by repeat (first | with_reducible exact Ext.refl _ | with_reducible refine Ext.drew ?_ | with_reducible refine Ext.drewN ?_ _ | with_reducible refine Ext.alloc ?_ _ | with_reducible refine Ext.setCell ?_ (by first | omega | (simp; done) | (simp; omega)) _)) hx1))
  replace HB := Lib.hid (HB.out.ext (Ext.trans (by repeat (first | with_reducible exact Ext.refl _ | with_reducible refine Ext.drew ?_ | with_reducible refine Ext.drewN ?_ _ | with_reducible refine Ext.alloc ?_ _ | with_reducible refine Ext.setCell ?_ (by first | omega | (simp; done) | (simp; omega)) _)) hx1))
  have X1 : Hid (Ext w w1) := Lib.hid (Ext.trans (by repeat (first | with_reducible exact Ext.refl w | with_reducible refine Ext.drew ?_ | with_reducible refine Ext.drewN ?_ _ | with_reducible refine Ext.alloc ?_ _ | with_reducible refine Ext.setCell ?_ (by first | omega | (simp; done) | (simp; omega)) _)) hx1)
  clear hx1 z1
  go_wp2_with fail
  (with_reducible refine (made15_any A n c l 16 _ (HS.out.ext (by repeat (first | with_reducible exact Ext.refl _ | with_reducible refine Ext.drew ?_ | with_reducible refine Ext.drewN ?_ _ | with_reducible refine Ext.alloc ?_ _ | with_reducible refine Ext.setCell ?_ (by first | omega | (simp; done) | (simp; omega)) _))) HF.out hl (by decide) (by decide)).mono ?_)
  rintro e w2 ⟨A2, c2, L, rfl, hn2, hS2, hM2, hx2⟩
  have z2 := hx2.size
  try simp at z2
  replace HS := Lib.hid (HS.out.ext (Ext.trans (by repeat (first | with_reducible exact Ext.refl _ | with_reducible refine Ext.drew ?_ | with_reducible refine Ext.drewN ?_ _ | with_reducible refine Ext.alloc ?_ _ | with_reducible refine Ext.setCell ?_ (by first | omega | (simp; done) | (simp; omega)) _)) hx2))
  replace HB := Lib.hid (HB.out.ext (Ext.trans (by repeat (first | with_reducible exact Ext.refl _ | with_reducible refine Ext.drew ?_ | with_reducible refine Ext.drewN ?_ _ | with_reducible refine Ext.alloc ?_ _ | with_reducible refine Ext.setCell ?_ (by first | omega | (simp; done) | (simp; omega)) _)) hx2))
  have X2 : Hid (Ext w w2) := Lib.hid (Ext.trans (by repeat (first | with_reducible exact X1.out | with_reducible refine Ext.drew ?_ | with_reducible refine Ext.drewN ?_ _ | with_reducible refine Ext.alloc ?_ _ | with_reducible refine Ext.setCell ?_ (by first | omega | (simp; done) | (simp; omega)) _)) hx2)
  have HL := Lib.hid hS2
  clear X1 hx2 z2 hS2
  have HN2 := Lib.hid hn2
  have HMD := Lib.hid hM2
  have hL60 := hM2.len
  clear hn2 hM2
  go_wp2_with fail
  (with_reducible refine (hopBytes_ev A2 c2 L (lstB L) 0 _ (HL.out.ext (by repeat (first | with_reducible exact Ext.refl _ | with_reducible refine Ext.drew ?_ | with_reducible refine Ext.drewN ?_ _ | with_reducible refine Ext.alloc ?_ _ | with_reducible refine Ext.setCell ?_ (by first | omega | (simp; done) | (simp; omega)) _))) HMD.out.fits rfl HMD.out.chk.symm).mono ?_)
  rintro e w3 ⟨A3, c3, rfl, hn3, hO3, hx3⟩
  have z3 := hx3.size
  try simp at z3
  replace HS := Lib.hid (HS.out.ext (Ext.trans (by repeat (first | with_reducible exact Ext.refl _ | with_reducible refine Ext.drew ?_ | with_reducible refine Ext.drewN ?_ _ | with_reducible refine Ext.alloc ?_ _ | with_reducible refine Ext.setCell ?_ (by first | omega | (simp; done) | (simp; omega)) _)) hx3))
  replace HB := Lib.hid (HB.out.ext (Ext.trans (by repeat (first | with_reducible exact Ext.refl _ | with_reducible refine Ext.drew ?_ | with_reducible refine Ext.drewN ?_ _ | with_reducible refine Ext.alloc ?_ _ | with_reducible refine Ext.setCell ?_ (by first | omega | (simp; done) | (simp; omega)) _)) hx3))
  replace HL := Lib.hid (HL.out.ext (Ext.trans (by repeat (first | with_reducible exact Ext.refl _ | with_reducible refine Ext.drew ?_ | with_reducible refine Ext.drewN ?_ _ | with_reducible refine Ext.alloc ?_ _ | with_reducible refine Ext.setCell ?_ (by first | omega | (simp; done) | (simp; omega)) _)) hx3))
  have X3 : Hid (Ext w w3) := Lib.hid (Ext.trans (by repeat (first | with_reducible exact X2.out | with_reducible refine Ext.drew ?_ | with_reducible refine Ext.drewN ?_ _ | with_reducible refine Ext.alloc ?_ _ | with_reducible refine Ext.setCell ?_ (by first | omega | (simp; done) | (simp; omega)) _)) hx3)
  have HY := Lib.hid hO3
  clear X2 hx3 z3 hO3
  have HN3 := Lib.hid hn3
  clear hn3
  go_wp2_with fail
  (with_reducible refine (hopRead_ev A3 c3 (lstB L) L 0 0 (byt_lst L) (by have := lst_small HMD.out.chk; omega) HN3.out _ (HY.out.ext (by repeat (first | with_reducible exact Ext.refl _ | with_reducible refine Ext.drew ?_ | with_reducible refine Ext.drewN ?_ _ | with_reducible refine Ext.alloc ?_ _ | with_reducible refine Ext.setCell ?_ (by first | omega | (simp; done) | (simp; omega)) _))).sl (hopRV_put HMD.out.chk).symm).mono ?_)
  rintro e w4 ⟨A4, c4, rfl, _, hO4, hx4⟩
  have z4 := hx4.size
  try simp at z4
  replace HS := Lib.hid (HS.out.ext (Ext.trans (by repeat (first | with_reducible exact Ext.refl _ | with_reducible refine Ext.drew ?_ | with_reducible refine Ext.drewN ?_ _ | with_reducible refine Ext.alloc ?_ _ | with_reducible refine Ext.setCell ?_ (by first | omega | (simp; done) | (simp; omega)) _)) hx4))
  replace HB := Lib.hid (HB.out.ext (Ext.trans (by repeat (first | with_reducible exact Ext.refl _ | with_reducible refine Ext.drew ?_ | with_reducible refine Ext.drewN ?_ _ | with_reducible refine Ext.alloc ?_ _ | with_reducible refine Ext.setCell ?_ (by first | omega | (simp; done) | (simp; omega)) _)) hx4))
  replace HL := Lib.hid (HL.out.ext (Ext.trans (by repeat (first | with_reducible exact Ext.refl _ | with_reducible refine Ext.drew ?_ | with_reducible refine Ext.drewN ?_ _ | with_reducible refine Ext.alloc ?_ _ | with_reducible refine Ext.setCell ?_ (by first | omega | (simp; done) | (simp; omega)) _)) hx4))
  replace HY := Lib.hid (HY.out.ext (Ext.trans (by repeat (first | with_reducible exact Ext.refl _ | with_reducible refine Ext.drew ?_ | with_reducible refine Ext.drewN ?_ _ | with_reducible refine Ext.alloc ?_ _ | with_reducible refine Ext.setCell ?_ (by first | omega | (simp; done) | (simp; omega)) _)) hx4))
  have X4 : Hid (Ext w w4) := Lib.hid (Ext.trans (by repeat (first | with_reducible exact X3.out | with_reducible refine Ext.drew ?_ | with_reducible refine Ext.drewN ?_ _ | with_reducible refine Ext.alloc ?_ _ | with_reducible refine Ext.setCell ?_ (by first | omega | (simp; done) | (simp; omega)) _)) hx4)
  have HP := Lib.hid hO4
  clear X3 hx4 z4 hO4
  go_wp2_with fail
  (with_reducible refine (kSameHops_eq A2 A4 _ c2 _ c4 L _ (HL.out.ext (by repeat (first | with_reducible exact Ext.refl _ | with_reducible refine Ext.drew ?_ | with_reducible refine Ext.drewN ?_ _ | with_reducible refine Ext.alloc ?_ _ | with_reducible refine Ext.setCell ?_ (by first | omega | (simp; done) | (simp; omega)) _))) (HP.out.ext (by repeat (first | with_reducible exact Ext.refl _ | with_reducible refine Ext.drew ?_ | with_reducible refine Ext.drewN ?_ _ | with_reducible refine Ext.alloc ?_ _ | with_reducible refine Ext.setCell ?_ (by first | omega | (simp; done) | (simp; omega)) _))).sl).mono ?_)
  rintro e w5 ⟨rfl, hx5⟩
  have z5 := hx5.size
  try simp at z5
  replace HS := Lib.hid (HS.out.ext (Ext.trans (by repeat (first | with_reducible exact Ext.refl _ | with_reducible refine Ext.drew ?_ | with_reducible refine Ext.drewN ?_ _ | with_reducible refine Ext.alloc ?_ _ | with_reducible refine Ext.setCell ?_ (by first | omega | (simp; done) | (simp; omega)) _)) hx5))
  replace HB := Lib.hid (HB.out.ext (Ext.trans (by repeat (first | with_reducible exact Ext.refl _ | with_reducible refine Ext.drew ?_ | with_reducible refine Ext.drewN ?_ _ | with_reducible refine Ext.alloc ?_ _ | with_reducible refine Ext.setCell ?_ (by first | omega | (simp; done) | (simp; omega)) _)) hx5))
  replace HL := Lib.hid (HL.out.ext (Ext.trans (by repeat (first | with_reducible exact Ext.refl _ | with_reducible refine Ext.drew ?_ | with_reducible refine Ext.drewN ?_ _ | with_reducible refine Ext.alloc ?_ _ | with_reducible refine Ext.setCell ?_ (by first | omega | (simp; done) | (simp; omega)) _)) hx5))
  replace HY := Lib.hid (HY.out.ext (Ext.trans (by repeat (first | with_reducible exact Ext.refl _ | with_reducible refine Ext.drew ?_ | with_reducible refine Ext.drewN ?_ _ | with_reducible refine Ext.alloc ?_ _ | with_reducible refine Ext.setCell ?_ (by first | omega | (simp; done) | (simp; omega)) _)) hx5))
  replace HP := Lib.hid (HP.out.ext (Ext.trans (by repeat (first | with_reducible exact Ext.refl _ | with_reducible refine Ext.drew ?_ | with_reducible refine Ext.drewN ?_ _ | with_reducible refine Ext.alloc ?_ _ | with_reducible refine Ext.setCell ?_ (by first | omega | (simp; done) | (simp; omega)) _)) hx5))
  have X5 : Hid (Ext w w5) := Lib.hid (Ext.trans (by repeat (first | with_reducible exact X4.out | with_reducible refine Ext.drew ?_ | with_reducible refine Ext.drewN ?_ _ | with_reducible refine Ext.alloc ?_ _ | with_reducible refine Ext.setCell ?_ (by first | omega | (simp; done) | (simp; omega)) _)) hx5)
  clear X4 hx5 z5
  go_wp2_with fail
  (with_reducible refine (hopRead_ev A0 c0 M [] re ra HM.out (by omega) HN0.out _ (HB.out.ext (by repeat (first | with_reducible exact Ext.refl _ | with_reducible refine Ext.drew ?_ | with_reducible refine Ext.drewN ?_ _ | with_reducible refine Ext.alloc ?_ _ | with_reducible refine Ext.setCell ?_ (by first | omega | (simp; done) | (simp; omega)) _))) F3.out).mono ?_)
  rintro e w6 ⟨A5, c5, rfl, _, hO5, hx6⟩
  have z6 := hx6.size
  try simp at z6
  replace HS := Lib.hid (HS.out.ext (Ext.trans (by repeat (first | with_reducible exact Ext.refl _ | with_reducible refine Ext.drew ?_ | with_reducible refine Ext.drewN ?_ _ | with_reducible refine Ext.alloc ?_ _ | with_reducible refine Ext.setCell ?_ (by first | omega | (simp; done) | (simp; omega)) _)) hx6))
  replace HB := Lib.hid (HB.out.ext (Ext.trans (by repeat (first | with_reducible exact Ext.refl _ | with_reducible refine Ext.drew ?_ | with_reducible refine Ext.drewN ?_ _ | with_reducible refine Ext.alloc ?_ _ | with_reducible refine Ext.setCell ?_ (by first | omega | (simp; done) | (simp; omega)) _)) hx6))
  replace HL := Lib.hid (HL.out.ext (Ext.trans (by repeat (first | with_reducible exact Ext.refl _ | with_reducible refine Ext.drew ?_ | with_reducible refine Ext.drewN ?_ _ | with_reducible refine Ext.alloc ?_ _ | with_reducible refine Ext.setCell ?_ (by first | omega | (simp; done) | (simp; omega)) _)) hx6))
  replace HY := Lib.hid (HY.out.ext (Ext.trans (by repeat (first | with_reducible exact Ext.refl _ | with_reducible refine Ext.drew ?_ | with_reducible refine Ext.drewN ?_ _ | with_reducible refine Ext.alloc ?_ _ | with_reducible refine Ext.setCell ?_ (by first | omega | (simp; done) | (simp; omega)) _)) hx6))
  replace HP := Lib.hid (HP.out.ext (Ext.trans (by repeat (first | with_reducible exact Ext.refl _ | with_reducible refine Ext.drew ?_ | with_reducible refine Ext.drewN ?_ _ | with_reducible refine Ext.alloc ?_ _ | with_reducible refine Ext.setCell ?_ (by first | omega | (simp; done) | (simp; omega)) _)) hx6))
  have X6 : Hid (Ext w w6) := Lib.hid (Ext.trans (by repeat (first | with_reducible exact X5.out | with_reducible refine Ext.drew ?_ | with_reducible refine Ext.drewN ?_ _ | with_reducible refine Ext.alloc ?_ _ | with_reducible refine Ext.setCell ?_ (by first | omega | (simp; done) | (simp; omega)) _)) hx6)
  have HQ := Lib.hid hO5
  clear X5 hx6 z6 hO5
  go_wp2_with fail
  go_ret
  exact ⟨rfl, (by repeat (first | with_reducible exact X6.out | with_reducible refine Ext.drew ?_ | with_reducible refine Ext.drewN ?_ _ | with_reducible refine Ext.alloc ?_ _ | with_reducible refine Ext.setCell ?_ (by first | omega | (simp; done) | (simp; omega)) _))⟩
theorem HopBack_any (A : Option Addr) (n c : Nat) (l : List Int) (A0 : Option Addr) (c0 : Nat) (M : List Nat) (w : World) (hs : Sl w 1 A n c (iv .i64 l)) (hf : ∀ x ∈ l, Fits .i64 x) (hb : Sl w 1 A0 M.length c0 (by_ M)) (hM : Byt M) (hnil0 : A0 = none → c0 = 0) :
    Calls Try.prog 10 #[.slice A n c, .slice A0 M.length c0] w fun r w' => r = .returned (.bool true) ∧ Ext w w' := by
  by_cases hl : n ≤ 60 ∧ M.length ≤ 600
  · by_cases he : (hopRV M).2.1 = 0
    · exact HopBack_ok A A0 n c c0 l (hopRV M).1 M (hopRV M).2.1 (hopRV M).2.2 w hs hf hb hM hnil0 hl.1 hl.2 rfl he
    · exact HopBack_bad A A0 n c c0 l (hopRV M).1 M (hopRV M).2.1 (hopRV M).2.2 w hs hf hb hM hnil0 hl.1 hl.2 rfl he
  · exact HopBack_long A A0 c n c0 M.length w (by omega) hs.small hb.small
end
end Go.Proofs.Ytjdpgapmdmpjjaa
