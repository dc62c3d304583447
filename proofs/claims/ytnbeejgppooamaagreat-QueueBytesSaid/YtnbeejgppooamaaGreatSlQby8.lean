/- What the law Qby rests on, part 8 of 8: Q18, BytesM, Q15, EntOpen, Q11, KitB, KitC, QBytesW. Conditions stand in each lemma. -/
import Derived.WalkKit
import Derived.Deep.QuietTactic
import Derived.Deep.Draws
import Derived.Laws.OwnMore
import Derived.Laws.AppendOwn
import Derived.OwnWalk
import Derived.RangeFuncBox
import Derived.RangeFuncLeaves
import Derived.Shelf.Abstract
import Derived.OwnWalkIn
import Derived.TacticsInMore
import Derived.LoopNIn
import Derived.LoopIn
import Derived.Maps.AppendAt
import Derived.Test.YtnbeejgppooamaaGreatRows
import Derived.Lib.Hide
import Derived.Deep.Onto
import Derived.ProofKit
import Derived.ChangeOld
import Derived.OpenShut
import Derived.Deep.Slices
import Derived.BigQuiet
import Derived.IntWalk
import Derived.Lib.SliceRun
import Derived.Deep.LoopGhost
import Derived.WalkSpells
import Derived.WalkLawsBesides
import Derived.Deep.RegionHeld3
import Derived.Lib.SmallJoins
import Derived.ArgAppend
import Derived.Test.YtnbeejgppooamaaGreatShelf
import Derived.Test.YtnbeejgppooamaaGreatDivNorm
import Derived.Deep.DeepCutAuto
import Derived.Deep.CutBlock
import Derived.Shelf.Spec.BitsCarry
import Derived.Test.YtnbeejgppooamaaGreatFixRefMath
import Derived.Test.YtnbeejgppooamaaGreatFixDivideMath
import Derived.WalkMore
import Derived.Laws.StructEq
import Derived.Laws.BytesArg
import Derived.Test.YtnbeejgppooamaaGreatSlQby7
set_option linter.unusedVariables false
set_option linter.unusedSimpArgs false
namespace Go.Proofs.YtnbeejgppooamaaGreat
section
open Go.RowKit Go.ChangeShapes Go.WideShapes Go.Deep Go.Joins
theorem QI.brk2 {L : List Nat} {j k k5 : Nat} {f : Option (Int × Int)} {x : Int × Int} {y : (Int × Int × Int × Int × Int × Int × Int × Int)} {out : List (Int × Int × Int × Int × Int × Int × Int × Int)} (h : QI L j k f out) (hx : qRdX L k f = (k5, some x, y)) : QI L (j + 1) k5 (some x) (out ++ [y]) := by
  obtain ⟨h1, h2, h3, h4, h5⟩ := QI.brk (n := j + 1) h hx (by omega)
  refine ⟨h1, (fun h => by cases h), by rw [List.length_append]; have := h.2.2.1; simp only [List.length_singleton]; omega, fun z hz => ?_, h5⟩
  rcases List.mem_append.1 hz with hz | hz
  · exact h4 z hz
  · rw [List.mem_singleton.1 hz]
    have := qRdX_fits L k f
    rw [hx] at this
    exact this
theorem QI.late {L : List Nat} {j k N : Nat} {f : Option (Int × Int)} {out : List (Int × Int × Int × Int × Int × Int × Int × Int)} (h : QI L j k f out) (hf : ¬ f = none) (hN : j ≤ N) : QI L N k f out := by
  obtain ⟨h1, h2, h3, h4, h5⟩ := h
  cases f with
  | none => exact absurd rfl hf
  | some x => exact ⟨qRd_some h1 hN, (fun h => by cases h), by omega, h4, h5⟩
theorem Sl.addrQ {w : World} {sz n c : Nat} {A B : Option Addr} {xs : List Value} (h : Sl w sz A n c xs) (e : A = B) : Sl w sz B n c xs := e ▸ h
theorem rsum14_e (A : Option Addr) (n c : Nat) (l : List (Int × Int × Int × Int × Int × Int × Int × Int)) (u : Int) (f : Bool) (w : World) (h : Sl w 8 A n c (l.flatMap entC)) (hn : n ≤ 100000) (hf : ∀ x ∈ l, FitsQ x) (hu : u = if totB l ≤ 4611686018427387904 then totB l else 0) (hf2 : f = decide (totB l ≤ 4611686018427387904)) :
    Calls Tryz.prog 50 #[.slice A n c] w fun e w' => e = .returned (.tuple #[.int .u64 u, .bool f]) ∧ Ext w w' := rsum14_ev A n c l u f w h hn hf hu hf2
set_option maxRecDepth 100000 in
set_option maxHeartbeats 4000000 in
theorem rRead14_any (A : Option Addr) (c : Nat) (L : List Nat) (hB : Byt L) (hL : L.length < 1099511627776) (w : World) (hs : Sl w 1 A L.length c (by_ L)) :
    Calls Tryz.prog 11 #[.slice A L.length c] w (RetEntV (queRV L).1 [.agg #[.int .i64 (queRV L).2.1, .int .i64 (queRV L).2.2]] w) := by
  have s1 := hs.small
  obtain ⟨R, hR⟩ : ∃ R, R = queRV L := ⟨_, rfl⟩
  rw [← hR]
  obtain ⟨nn, hnn⟩ : ∃ v, v = rnV L 0 none 0 32768 := ⟨_, rfl⟩
  obtain ⟨hn0, hn1⟩ : 0 ≤ nn ∧ nn ≤ 32768 := by rw [hnn]; exact rnV_in L 0 none 0 32768 (by decide)
  obtain ⟨N, rfl⟩ : ∃ N : Nat, nn = (N : Int) := ⟨nn.toNat, by omega⟩
  have HR0 : Hid (R = qEnd L (qRd L (qS0 L) N)) := Lib.hid (by rw [hR]; unfold queRV; rw [← hnn, show ((N : Int)).toNat = N from by simp])
  have HNN := Lib.hid hnn
  have HBy := Lib.hid hB
  have HS := Lib.hid hs
  have qn := flt_neq
  have qg := flt_eqg
  obtain ⟨i0, hi0, hz0, hz1, hz2⟩ := ent_infoP
  clear hs hR hnn hB
  go_enter Tryz.func11, Tryz.ntmps11
  go_wp2_with fail
  (with_reducible refine (rNewReader_any A c L HBy.out _ (HS.out.ext (by repeat (first | with_reducible exact Ext.refl _ | with_reducible refine Ext.drew ?_ | with_reducible refine Ext.drewN ?_ _ | with_reducible refine Ext.alloc ?_ _ | with_reducible refine Ext.setCell ?_ (by first | omega | (simp; done) | (simp; omega)) _))) hL).mono ?_)
  rintro e w1 ⟨g, rfl, hg, hRd, hx1⟩
  have c0_0f : w1.frozen? ⟨w.heap.size, 0, none⟩ = false := hx1.froz (v := .int .i64 0) (by first | fail | (simp [go_sem, World.cell?_alloc_past]; done) | fail) (by first | fail | (simp [go_sem, World.cell?_alloc_past]; done) | fail)
  have c0_1f : w1.frozen? ⟨w.heap.size, 1, none⟩ = false := hx1.froz (v := .int .i64 0) (by first | fail | (simp [go_sem, World.cell?_alloc_past]; done) | fail) (by first | fail | (simp [go_sem, World.cell?_alloc_past]; done) | fail)
  have c0_0 : w1.cell? ⟨w.heap.size, 0, none⟩ = some (.int .i64 0) := hx1.has (by first | fail | (simp [go_sem, World.cell?_alloc_past]; done) | fail)
  have c0_1 : w1.cell? ⟨w.heap.size, 1, none⟩ = some (.int .i64 0) := hx1.has (by first | fail | (simp [go_sem, World.cell?_alloc_past]; done) | fail)
  have z1 := hx1.size
  try simp at z1
  have rc0 : w.heap.size < w1.heap.size := by omega
  have rc0a : w.heap.size < w1.heap.size + 1 := by omega
  have rc0b : w.heap.size < w1.heap.size + 1 + 1 := by omega
  have rc0c : w.heap.size < w1.heap.size + 1 + 1 + 1 := by omega
  have rc0n : ¬ w.heap.size = w1.heap.size := by omega
  have X1 : Hid (Ext w w1) := Lib.hid (Ext.trans (by repeat (first | with_reducible exact Ext.refl w | with_reducible refine Ext.drew ?_ | with_reducible refine Ext.drewN ?_ _ | with_reducible refine Ext.alloc ?_ _ | with_reducible refine Ext.setCell ?_ (by first | omega | (simp; done) | (simp; omega)) _)) hx1)
  have HR := Lib.hid hRd
  clear HS hx1 z1 hRd
  have hgw : w.heap.size < g := by (try simp at hg); omega
  have hgl := HR.out.lt
  go_wp2_with fail
  (with_reducible refine (rN_e g 0 (qS0 L).1 L none (qS0 L).2.1 0 32768 (N : Int) (by decide) (by decide) (by decide) (by decide) hL HNN.out rfl rfl _ (HR.out.ext (by repeat (first | with_reducible exact Ext.refl _ | with_reducible refine Ext.drew ?_ | with_reducible refine Ext.drewN ?_ _ | with_reducible refine Ext.alloc ?_ _ | with_reducible refine Ext.setCell ?_ (by first | omega | (simp; done) | (simp; omega)) _)))).mono ?_)
  rintro e w2 ⟨rfl, hRd, hx2⟩
  have hsz2 := hx2.size
  try simp at hsz2
  replace c0_0f : w2.frozen? ⟨w.heap.size, 0, none⟩ = false := hx2.froz (by show ¬ _ = _; first | assumption | omega) (v := .int .i64 0) (by first | with_reducible exact c0_0 | (simp [go_sem, World.cell?_alloc_past, c0_0f, c0_1f, c0_0, c0_1, rc0, rc0a, rc0b, rc0c, rc0n]; done) | exact c0_0) (by first | with_reducible exact c0_0f | (simp [go_sem, World.cell?_alloc_past, c0_0f, c0_1f, c0_0, c0_1, rc0, rc0a, rc0b, rc0c, rc0n]; done) | exact c0_0f)
  replace c0_1f : w2.frozen? ⟨w.heap.size, 1, none⟩ = false := hx2.froz (by show ¬ _ = _; first | assumption | omega) (v := .int .i64 0) (by first | with_reducible exact c0_1 | (simp [go_sem, World.cell?_alloc_past, c0_0f, c0_1f, c0_0, c0_1, rc0, rc0a, rc0b, rc0c, rc0n]; done) | exact c0_1) (by first | with_reducible exact c0_1f | (simp [go_sem, World.cell?_alloc_past, c0_0f, c0_1f, c0_0, c0_1, rc0, rc0a, rc0b, rc0c, rc0n]; done) | exact c0_1f)
  replace c0_0 : w2.cell? ⟨w.heap.size, 0, none⟩ = some (.int .i64 0) := hx2.has (by show ¬ _ = _; first | assumption | omega) (by first | with_reducible exact c0_0 | (simp [go_sem, World.cell?_alloc_past, c0_0f, c0_1f, c0_0, c0_1, rc0, rc0a, rc0b, rc0c, rc0n]; done) | exact c0_0)
  replace c0_1 : w2.cell? ⟨w.heap.size, 1, none⟩ = some (.int .i64 0) := hx2.has (by show ¬ _ = _; first | assumption | omega) (by first | with_reducible exact c0_1 | (simp [go_sem, World.cell?_alloc_past, c0_0f, c0_1f, c0_0, c0_1, rc0, rc0a, rc0b, rc0c, rc0n]; done) | exact c0_1)
  have z2 := hx2.size
  try simp at z2
  replace rc0 : w.heap.size < w2.heap.size := by omega
  replace rc0a : w.heap.size < w2.heap.size + 1 := by omega
  replace rc0b : w.heap.size < w2.heap.size + 1 + 1 := by omega
  replace rc0c : w.heap.size < w2.heap.size + 1 + 1 + 1 := by omega
  replace rc0n : ¬ w.heap.size = w2.heap.size := by omega
  have X2 : Hid (Ext w w2) := Lib.hid (have hX := (show Ext w _ from (by repeat (first | with_reducible exact X1.out | with_reducible refine Ext.drew ?_ | with_reducible refine Ext.drewN ?_ _ | with_reducible refine Ext.alloc ?_ _ | with_reducible refine Ext.setCell ?_ (by first | omega | (simp; done) | (simp; omega)) _))); Below.trans hX (hx2.below (Ext.size hX) (fun k hk hh => by have hh2 : k = g := hh; omega)))
  clear HR
  have HR := Lib.hid hRd
  clear hsz2 X1 hx2 z2 hRd
  have hgl2 := HR.out.lt
  go_wp2_with fail
  go_loopg [6, 7] N (fun gh q i wx => gh ≤ N ∧ i = .int .i64 ((N - gh : Nat) : Int) ∧ (∃ k f out, Hid (RRd wx g L k f) ∧ Hid (OwnEnt wx (g + 1) q out.length out) ∧ Hid (QI L (N - gh) k f out)) ∧ (wx.cell? ⟨w.heap.size, 0, none⟩ = some (.int .i64 0) ∧ wx.cell? ⟨w.heap.size, 1, none⟩ = some (.int .i64 0) ∧ wx.frozen? ⟨w.heap.size, 0, none⟩ = false ∧ wx.frozen? ⟨w.heap.size, 1, none⟩ = false) ∧ Ext w wx)
  case atStart => exact ⟨Nat.le_refl _, by simp, ⟨_, _, _, HR, Lib.hid (OwnEnt.nil _ _), by rw [Nat.sub_self]; exact Lib.hid (QI.start L)⟩, ⟨c0_0, c0_1, c0_0f, c0_1f⟩, X2.out⟩
  case round =>
    obtain ⟨hg, hi, ⟨k, f, out, hr, ho, hq⟩, ⟨y_0, y_1, y_0f, y_1f⟩, hx⟩ := hrel
    obtain ⟨j, hj⟩ : ∃ j, j = N - gk := ⟨_, rfl⟩
    rw [← hj] at hi hq
    subst hi
    have XR := Lib.hid hx
    have hyr : w.heap.size < wr.heap.size := cell_lt y_0
    have hgr : g < wr.heap.size := hr.out.lt
    have hlen := hq.out.2.2.1
    have hjN : j ≤ N := by omega
    have hln : out.length ≤ 100000 := by omega
    have gg_2 := hr.out.c2
    obtain ⟨E0, hE0⟩ : ∃ v, v = fltE f := ⟨_, rfl⟩
    rw [← hE0] at gg_2
    obtain ⟨A9, c9, rfl, hA9, hSl9⟩ := own_parts2 ho.out
    clear hA9 hSl9
    by_cases hz : gk = 0
    · have hkn : ¬ (j : Int) < N := by omega
      have hQN : QI L N k f out := by rw [show N = j from by omega]; exact hq.out
      obtain ⟨⟨e, a⟩, hea⟩ : ∃ E, E = endF f k L.length := ⟨_, rfl⟩
      have HE := Lib.hid (QI.end_ (e := e) (a := a) hQN hea HR0.out)
      have HEA := Lib.hid hea
      have HFQ := Lib.hid hQN.2.2.2.1
      obtain ⟨sm, hsm⟩ : ∃ s, s = if totB out ≤ 4611686018427387904 then totB out else 0 := ⟨_, rfl⟩
      obtain ⟨fb, hfb⟩ : ∃ s, s = decide (totB out ≤ 4611686018427387904) := ⟨_, rfl⟩
      have HSM := Lib.hid hsm
      have HFB := Lib.hid hfb
      have HRd := hr
      have HO := Lib.hid (OwnR.mk (show World.ownsRow _ _ 53 8 _ _ _ from ho.out))
      clear hx hj hg hz hjN hlen hea hr ho hq hsm hfb hE0 hQN
      go_wp2_with fail
      (with_reducible refine (rEnd_q g k L f e a _ (HRd.out.ext (by repeat (first | with_reducible exact Ext.refl _ | with_reducible refine Ext.drew ?_ | with_reducible refine Ext.drewN ?_ _ | with_reducible refine Ext.alloc ?_ _ | with_reducible refine Ext.setCell ?_ (by first | omega | (simp; done) | (simp; omega)) _))) hL HEA.out).mono ?_)
      rintro e w41 ⟨rfl, hx41⟩
      replace y_0f : w41.frozen? ⟨w.heap.size, 0, none⟩ = false := hx41.froz (v := .int .i64 0) (by first | with_reducible exact y_0 | (simp [go_sem, World.cell?_alloc_past, y_0, y_0f, y_1, y_1f]; done) | exact y_0) (by first | with_reducible exact y_0f | (simp [go_sem, World.cell?_alloc_past, y_0, y_0f, y_1, y_1f]; done) | exact y_0f)
      replace y_1f : w41.frozen? ⟨w.heap.size, 1, none⟩ = false := hx41.froz (v := .int .i64 0) (by first | with_reducible exact y_1 | (simp [go_sem, World.cell?_alloc_past, y_0, y_0f, y_1, y_1f]; done) | exact y_1) (by first | with_reducible exact y_1f | (simp [go_sem, World.cell?_alloc_past, y_0, y_0f, y_1, y_1f]; done) | exact y_1f)
      replace y_0 : w41.cell? ⟨w.heap.size, 0, none⟩ = some (.int .i64 0) := hx41.has (by first | with_reducible exact y_0 | (simp [go_sem, World.cell?_alloc_past, y_0, y_0f, y_1, y_1f]; done) | exact y_0)
      replace y_1 : w41.cell? ⟨w.heap.size, 1, none⟩ = some (.int .i64 0) := hx41.has (by first | with_reducible exact y_1 | (simp [go_sem, World.cell?_alloc_past, y_0, y_0f, y_1, y_1f]; done) | exact y_1)
      have z41 := hx41.size
      try simp at z41
      have ry : w.heap.size < w41.heap.size := by omega
      have rya : w.heap.size < w41.heap.size + 1 := by omega
      have ryb : w.heap.size < w41.heap.size + 1 + 1 := by omega
      have ryc : w.heap.size < w41.heap.size + 1 + 1 + 1 := by omega
      have ryn : ¬ w.heap.size = w41.heap.size := by omega
      replace HRd := Lib.hid (HRd.out.ext (Ext.trans (by repeat (first | with_reducible exact Ext.refl _ | with_reducible refine Ext.drew ?_ | with_reducible refine Ext.drewN ?_ _ | with_reducible refine Ext.alloc ?_ _ | with_reducible refine Ext.setCell ?_ (by first | omega | (simp; done) | (simp; omega)) _)) hx41))
      replace HO := Lib.hid ((OwnR.butN HO.out (by repeat (first | with_reducible exact But.refl _ _ | with_reducible refine But.drew ?_ | with_reducible refine But.drewN ?_ _ | with_reducible refine But.alloc ?_ _ | with_reducible refine But.setCell ?_ (by first | exact Nat.le_refl _ | (dsimp only; omega)) _ | with_reducible refine But.setNew ?_ (by first | omega | (simp; done) | (simp; omega)) _))).ext hx41)
      have X41 : Hid (Ext w w41) := Lib.hid (Ext.trans (by repeat (first | with_reducible exact XR.out | with_reducible refine Ext.drew ?_ | with_reducible refine Ext.drewN ?_ _ | with_reducible refine Ext.alloc ?_ _ | with_reducible refine Ext.setCell ?_ (by first | omega | (simp; done) | (simp; omega)) _)) hx41)
      clear XR hx41
      by_cases he : ¬ e = 0
      · have e7 : (!(e == 0 && a == 0)) = true := by simp [he]
        go_wp2_with fail
        refine wp_region_held_drew (S := fun w' => w'.cell? ⟨w41.heap.size, 0, none⟩ = some (.int .i64 e) ∧ w'.cell? ⟨w41.heap.size, 1, none⟩ = some (.int .i64 a)) (by kernel_rfl) (by first | exact ⟨c0_0, c0_1⟩ | (simp [go_sem, World.cell?_alloc_past, y_0f, y_1f, y_0, y_1, ry, rya, ryb, ryc, ryn]; done)) (fun hHeld => ?_)
        (refine' take_in 0 rfl (by kernel_rfl) (by kernel_rfl) (by kernel_rfl) (fun _ _ _ h => h) (by rfl) (by assumption) ?_ ?_; rotate_left; focus (intro w hSw; (try dsimp only at hSw); go_simp; try with_reducible rfl)); try simp only [Act.put, List.setIfInBounds_toArray, List.set_cons_zero, List.set_cons_succ]
        (refine' take_in 1 rfl (by kernel_rfl) (by kernel_rfl) (by kernel_rfl) (fun _ _ _ h => h) (by rfl) (by assumption) ?_ ?_; rotate_left; focus (intro w hSw; (try dsimp only at hSw); go_simp; try with_reducible rfl)); try simp only [Act.put, List.setIfInBounds_toArray, List.set_cons_zero, List.set_cons_succ]
        refine' next_in 2 rfl (by kernel_rfl) (by rfl) (fun K hK => ?_)
        go_simp
        refine hK.out _ _ (by (first | exact ⟨c0_0, c0_1⟩ | (simp [go_sem, World.cell?_alloc_past, y_0f, y_1f, y_0, y_1, ry, rya, ryb, ryc, ryn]; done))) (fun hHeld => ?_); clear hK K; try simp only [Act.put, List.setIfInBounds_toArray, List.set_cons_zero, List.set_cons_succ]
        refine wpAnyH_done (by kernel_rfl) ?_ _
        obtain rfl : R = ([], e, a) := HE.out.1 he
        go_wp2_with fail
        refine bodyPost_ret (v := .tuple #[.slice none 0 0, .agg #[.int .i64 e, .int .i64 a]]) (by simp [results, Tryz.results11, go_sem, World.cell?_alloc_past, y_0f, y_1f, y_0, y_1, ry, rya, ryb, ryc, ryn]; try rfl) rfl (RetEntV.nil (xs := [.agg #[.int .i64 e, .int .i64 a]]) ?_)
        exact (by repeat (first | with_reducible exact X41.out | with_reducible refine Ext.drew ?_ | with_reducible refine Ext.drewN ?_ _ | with_reducible refine Ext.alloc ?_ _ | with_reducible refine Ext.setCell ?_ (by first | omega | (simp; done) | (simp; omega)) _))
      · have he2 : e = 0 := Classical.not_not.1 he
        have ha2 : a = 0 := (HE.out.2 he2).1
        have HE2 := Lib.hid (HE.out.2 he2).2
        clear HE he
        subst he2; subst ha2
        go_wp2_with fail
        (with_reducible refine (rsum14_e A9 out.length c9 out sm fb _ (Sl.own (OwnR.own (OwnR.butN HO.out (by repeat (first | with_reducible exact But.refl _ _ | with_reducible refine But.drew ?_ | with_reducible refine But.drewN ?_ _ | with_reducible refine But.alloc ?_ _ | with_reducible refine But.setCell ?_ (by first | exact Nat.le_refl _ | (dsimp only; omega)) _ | with_reducible refine But.setNew ?_ (by first | omega | (simp; done) | (simp; omega)) _))))) hln HFQ.out HSM.out HFB.out).mono ?_)
        rintro e w42 ⟨rfl, hx42⟩
        replace y_0f : w42.frozen? ⟨w.heap.size, 0, none⟩ = false := hx42.froz (v := .int .i64 0) (by first | with_reducible exact y_0 | (simp [go_sem, World.cell?_alloc_past, y_0f, y_1f, y_0, y_1, ry, rya, ryb, ryc, ryn]; done) | exact y_0) (by first | with_reducible exact y_0f | (simp [go_sem, World.cell?_alloc_past, y_0f, y_1f, y_0, y_1, ry, rya, ryb, ryc, ryn]; done) | exact y_0f)
        replace y_1f : w42.frozen? ⟨w.heap.size, 1, none⟩ = false := hx42.froz (v := .int .i64 0) (by first | with_reducible exact y_1 | (simp [go_sem, World.cell?_alloc_past, y_0f, y_1f, y_0, y_1, ry, rya, ryb, ryc, ryn]; done) | exact y_1) (by first | with_reducible exact y_1f | (simp [go_sem, World.cell?_alloc_past, y_0f, y_1f, y_0, y_1, ry, rya, ryb, ryc, ryn]; done) | exact y_1f)
        replace y_0 : w42.cell? ⟨w.heap.size, 0, none⟩ = some (.int .i64 0) := hx42.has (by first | with_reducible exact y_0 | (simp [go_sem, World.cell?_alloc_past, y_0f, y_1f, y_0, y_1, ry, rya, ryb, ryc, ryn]; done) | exact y_0)
        replace y_1 : w42.cell? ⟨w.heap.size, 1, none⟩ = some (.int .i64 0) := hx42.has (by first | with_reducible exact y_1 | (simp [go_sem, World.cell?_alloc_past, y_0f, y_1f, y_0, y_1, ry, rya, ryb, ryc, ryn]; done) | exact y_1)
        have c0_0 : w42.cell? ⟨w41.heap.size, 0, none⟩ = some (.int .i64 0) := hx42.has (by first | fail | (simp [go_sem, World.cell?_alloc_past, y_0f, y_1f, y_0, y_1, ry, rya, ryb, ryc, ryn]; done) | fail)
        have c0_1 : w42.cell? ⟨w41.heap.size, 1, none⟩ = some (.int .i64 0) := hx42.has (by first | fail | (simp [go_sem, World.cell?_alloc_past, y_0f, y_1f, y_0, y_1, ry, rya, ryb, ryc, ryn]; done) | fail)
        have z42 := hx42.size
        try simp at z42
        have lt_y_c0 : w.heap.size < w41.heap.size := by omega
        have ne_y_c0 : ¬ w.heap.size = w41.heap.size := by omega
        have ne_c0_y : ¬ w41.heap.size = w.heap.size := by omega
        replace ry : w.heap.size < w42.heap.size := by omega
        replace rya : w.heap.size < w42.heap.size + 1 := by omega
        replace ryb : w.heap.size < w42.heap.size + 1 + 1 := by omega
        replace ryc : w.heap.size < w42.heap.size + 1 + 1 + 1 := by omega
        replace ryn : ¬ w.heap.size = w42.heap.size := by omega
        have rc0 : w41.heap.size < w42.heap.size := by omega
        have rc0a : w41.heap.size < w42.heap.size + 1 := by omega
        have rc0b : w41.heap.size < w42.heap.size + 1 + 1 := by omega
        have rc0c : w41.heap.size < w42.heap.size + 1 + 1 + 1 := by omega
        have rc0n : ¬ w41.heap.size = w42.heap.size := by omega
        replace HRd := Lib.hid (HRd.out.ext (Ext.trans (by repeat (first | with_reducible exact Ext.refl _ | with_reducible refine Ext.drew ?_ | with_reducible refine Ext.drewN ?_ _ | with_reducible refine Ext.alloc ?_ _ | with_reducible refine Ext.setCell ?_ (by first | omega | (simp; done) | (simp; omega)) _)) hx42))
        replace HO := Lib.hid ((OwnR.butN HO.out (by repeat (first | with_reducible exact But.refl _ _ | with_reducible refine But.drew ?_ | with_reducible refine But.drewN ?_ _ | with_reducible refine But.alloc ?_ _ | with_reducible refine But.setCell ?_ (by first | exact Nat.le_refl _ | (dsimp only; omega)) _ | with_reducible refine But.setNew ?_ (by first | omega | (simp; done) | (simp; omega)) _))).ext hx42)
        have X42 : Hid (Ext w w42) := Lib.hid (Ext.trans (by repeat (first | with_reducible exact X41.out | with_reducible refine Ext.drew ?_ | with_reducible refine Ext.drewN ?_ _ | with_reducible refine Ext.alloc ?_ _ | with_reducible refine Ext.setCell ?_ (by first | omega | (simp; done) | (simp; omega)) _)) hx42)
        clear X41 hx42
        cases fb
        · obtain rfl : R = ([], 12, 0) := HE2.out.2 (by have h := HFB.out; have := of_decide_eq_false h.symm; omega)
          go_wp2_with fail
          refine bodyPost_ret (v := .tuple #[.slice none 0 0, .agg #[.int .i64 12, .int .i64 0]]) (by simp [results, Tryz.results11, go_sem, World.cell?_alloc_past, y_0f, y_1f, y_0, y_1, c0_0, c0_1, ne_y_c0, ne_c0_y, ry, rya, ryb, ryc, ryn, rc0, rc0a, rc0b, rc0c, rc0n]; try rfl) rfl (RetEntV.nil (xs := [.agg #[.int .i64 12, .int .i64 0]]) ?_)
          exact (by repeat (first | with_reducible exact X42.out | with_reducible refine Ext.drew ?_ | with_reducible refine Ext.drewN ?_ _ | with_reducible refine Ext.alloc ?_ _ | with_reducible refine Ext.setCell ?_ (by first | omega | (simp; done) | (simp; omega)) _))
        · obtain rfl : R = (out, 0, 0) := HE2.out.1 (of_decide_eq_true HFB.out.symm)
          go_wp2_with fail
          refine bodyPost_ret (v := .tuple #[.slice A9 out.length c9, .agg #[.int .i64 0, .int .i64 0]]) (by simp [results, Tryz.results11, go_sem, World.cell?_alloc_past, y_0f, y_1f, y_0, y_1, c0_0, c0_1, ne_y_c0, ne_c0_y, ry, rya, ryb, ryc, ryn, rc0, rc0a, rc0b, rc0c, rc0n]; try rfl) rfl (RetEntV.mk (n := out.length) (xs := [.agg #[.int .i64 0, .int .i64 0]]) ?_ (by repeat (first | with_reducible exact X42.out | with_reducible refine Ext.drew ?_ | with_reducible refine Ext.drewN ?_ _ | with_reducible refine Ext.alloc ?_ _ | with_reducible refine Ext.setCell ?_ (by first | omega | (simp; done) | (simp; omega)) _)) rfl)
          exact own_lower (own_but (S := fun j => j = w.heap.size ∨ wr.heap.size ≤ j) (show OwnR wr.heap.size w42 _ _ _ _ _ _ from HO.out).own (by repeat (first | with_reducible exact But.refl _ _ | with_reducible refine But.drew ?_ | with_reducible refine But.drewN ?_ _ | with_reducible refine But.alloc ?_ _ | with_reducible refine But.setCell ?_ (by first | exact Or.inl rfl | (exact Or.inr (by (show _ ≤ _); omega))) _)) (fun j hj hh => by have h1 := own_block (show OwnR wr.heap.size w42 _ _ _ _ _ _ from HO.out).own hj; have h2 := (show OwnR wr.heap.size w42 _ _ _ _ _ _ from HO.out).2 j hj; rcases hh with hh | hh <;> omega)) (by omega)
    · have hkn : (j : Int) < N := by omega
      by_cases hfn : f = none
      · skip
        have hE00 : E0 = 0 := by rw [hE0, hfn]; rfl
        subst hE00
        have hjs : (j : Int) ≤ 32768 := by omega
        subst hfn
        obtain ⟨xo, hxo⟩ : ∃ v, v = rnV L k none 0 63 := ⟨_, rfl⟩
        obtain ⟨k1, hk1⟩ : ∃ v, v = rnK L k none 0 63 := ⟨_, rfl⟩
        obtain ⟨f1, hf1⟩ : ∃ v, v = rnF L k none 0 63 := ⟨_, rfl⟩
        obtain ⟨xv, hxv⟩ : ∃ v, v = if tkZ L (k1, f1) = true then 0 else tkA L (k1, f1) := ⟨_, rfl⟩
        obtain ⟨xs, hxs⟩ : ∃ v, v = if tkZ L (k1, f1) = true then 0 else tkB L (k1, f1) := ⟨_, rfl⟩
        obtain ⟨xp, hxp⟩ : ∃ v, v = if tkZ L (k1, f1) = true then 0 else tkC L (k1, f1) - 1 := ⟨_, rfl⟩
        obtain ⟨xf, hxf⟩ : ∃ v, v = if tkZ L (k1, f1) = true then 0 else tkD L (k1, f1) := ⟨_, rfl⟩
        obtain ⟨k2, hk2⟩ : ∃ v, v = (tk4 L (k1, f1)).1 := ⟨_, rfl⟩
        obtain ⟨f2, hf2⟩ : ∃ v, v = tkF L (k1, f1) := ⟨_, rfl⟩
        obtain ⟨xc, hxc⟩ : ∃ v, v = rnV L k2 f2 1 4294967296 := ⟨_, rfl⟩
        obtain ⟨k3, hk3⟩ : ∃ v, v = rnK L k2 f2 1 4294967296 := ⟨_, rfl⟩
        obtain ⟨f3, hf3⟩ : ∃ v, v = rnF L k2 f2 1 4294967296 := ⟨_, rfl⟩
        obtain ⟨xi, hxi⟩ : ∃ v, v = ruV L k3 f3 := ⟨_, rfl⟩
        obtain ⟨k4, hk4⟩ : ∃ v, v = ruK L k3 f3 := ⟨_, rfl⟩
        obtain ⟨f4, hf4⟩ : ∃ v, v = ruF L k3 f3 := ⟨_, rfl⟩
        obtain ⟨xb, hxb⟩ : ∃ v, v = ruV L k4 f4 := ⟨_, rfl⟩
        obtain ⟨k5, hk5⟩ : ∃ v, v = ruK L k4 f4 := ⟨_, rfl⟩
        obtain ⟨f5, hf5⟩ : ∃ v, v = ruF L k4 f4 := ⟨_, rfl⟩
        have hstep := qRdX_eq hxo hk1 hf1 hxv hxs hxp hxf hk2 hf2 hxc hk3 hf3 hxi hk4 hf4 hxb hk5 hf5
        have hfz : FltNz f5 := by have := qRdX_nz (L := L) (k := k) FltNz.none; rw [hstep] at this; exact this
        obtain ⟨ev, hev⟩ : ∃ v, v = oneQ (xo, xv, xs, xp, xf, xc, xi, xb) (lastQ out) := ⟨_, rfl⟩
        obtain ⟨E5, hE5⟩ : ∃ v, v = fltE f5 := ⟨_, rfl⟩
        have Gxo := Lib.hid hxo
        have Gk1 := Lib.hid hk1
        have Gf1 := Lib.hid hf1
        have Gxv := Lib.hid hxv
        have Gxs := Lib.hid hxs
        have Gxp := Lib.hid hxp
        have Gxf := Lib.hid hxf
        have Gk2 := Lib.hid hk2
        have Gf2 := Lib.hid hf2
        have Gxc := Lib.hid hxc
        have Gk3 := Lib.hid hk3
        have Gf3 := Lib.hid hf3
        have Gxi := Lib.hid hxi
        have Gk4 := Lib.hid hk4
        have Gf4 := Lib.hid hf4
        have Gxb := Lib.hid hxb
        have Gk5 := Lib.hid hk5
        have Gf5 := Lib.hid hf5
        have GS := Lib.hid hstep
        have GN := Lib.hid hfz
        have GE := Lib.hid hev
        have GG := Lib.hid (show oneG xo (chkS xv xs xp xf) xc xs (lastQ out) xi xb = ev from hev.symm)
        have G5 := Lib.hid hE5
        have GQ := hq
        have HK := Lib.hid (And.intro hj (And.intro hg hz))
        have HRd := hr
        have HO := Lib.hid (OwnR.mk (show World.ownsRow _ _ 53 8 _ _ _ from ho.out))
        have ry := hyr
        have rya : w.heap.size < wr.heap.size + 1 := by omega
        have ryb : w.heap.size < wr.heap.size + 1 + 1 := by omega
        have ryc : w.heap.size < wr.heap.size + 1 + 1 + 1 := by omega
        have ryn : ¬ w.heap.size = wr.heap.size := by omega
        clear hx hj hg hz hr ho hq hlen hjN hstep hfz hev hE5 hE0 hxo hk1 hf1 hxv hxs hxp hxf hk2 hf2 hxc hk3 hf3 hxi hk4 hf4 hxb hk5 hf5
        go_wp2_with fail
        (with_reducible refine (rAt_any g k L none _ (RRd.butN HRd.out (by repeat (first | with_reducible exact But.refl _ _ | with_reducible refine But.drew ?_ | with_reducible refine But.drewN ?_ _ | with_reducible refine But.alloc ?_ _ | with_reducible refine But.setCell ?_ (by first | exact Nat.le_refl _ | (dsimp only; omega)) _ | with_reducible refine But.setNew ?_ (by first | omega | (simp; done) | (simp; omega)) _)))).mono ?_)
        rintro e w_1 ⟨rfl, rfl⟩
        go_wp2_with fail
        try clear gg_2
        (with_reducible refine (rN_e g k k1 L none f1 0 63 xo (by decide) (by decide) (by decide) (by decide) hL Gxo.out Gk1.out Gf1.out _ (RRd.butN HRd.out (by repeat (first | with_reducible exact But.refl _ _ | with_reducible refine But.drew ?_ | with_reducible refine But.drewN ?_ _ | with_reducible refine But.alloc ?_ _ | with_reducible refine But.setCell ?_ (by first | exact Nat.le_refl _ | (dsimp only; omega)) _ | with_reducible refine But.setNew ?_ (by first | omega | (simp; done) | (simp; omega)) _)))).mono ?_)
        rintro e w51 ⟨rfl, hRd, hx51⟩
        have hsz51 := hx51.size
        try simp at hsz51
        replace y_0f : w51.frozen? ⟨w.heap.size, 0, none⟩ = false := hx51.froz (by show ¬ _ = _; first | assumption | omega) (v := .int .i64 0) (by first | with_reducible exact y_0 | (simp [go_sem, World.cell?_alloc_past, y_0, y_0f, y_1, y_1f, ry, rya, ryb, ryc, ryn]; done) | exact y_0) (by first | with_reducible exact y_0f | (simp [go_sem, World.cell?_alloc_past, y_0, y_0f, y_1, y_1f, ry, rya, ryb, ryc, ryn]; done) | exact y_0f)
        replace y_1f : w51.frozen? ⟨w.heap.size, 1, none⟩ = false := hx51.froz (by show ¬ _ = _; first | assumption | omega) (v := .int .i64 0) (by first | with_reducible exact y_1 | (simp [go_sem, World.cell?_alloc_past, y_0, y_0f, y_1, y_1f, ry, rya, ryb, ryc, ryn]; done) | exact y_1) (by first | with_reducible exact y_1f | (simp [go_sem, World.cell?_alloc_past, y_0, y_0f, y_1, y_1f, ry, rya, ryb, ryc, ryn]; done) | exact y_1f)
        replace y_0 : w51.cell? ⟨w.heap.size, 0, none⟩ = some (.int .i64 0) := hx51.has (by show ¬ _ = _; first | assumption | omega) (by first | with_reducible exact y_0 | (simp [go_sem, World.cell?_alloc_past, y_0, y_0f, y_1, y_1f, ry, rya, ryb, ryc, ryn]; done) | exact y_0)
        replace y_1 : w51.cell? ⟨w.heap.size, 1, none⟩ = some (.int .i64 0) := hx51.has (by show ¬ _ = _; first | assumption | omega) (by first | with_reducible exact y_1 | (simp [go_sem, World.cell?_alloc_past, y_0, y_0f, y_1, y_1f, ry, rya, ryb, ryc, ryn]; done) | exact y_1)
        have c0_0f : w51.frozen? ⟨wr.heap.size, 0, none⟩ = false := hx51.froz (by show ¬ _ = _; first | assumption | omega) (v := .int .i64 0) (by first | fail | (simp [go_sem, World.cell?_alloc_past, y_0, y_0f, y_1, y_1f, ry, rya, ryb, ryc, ryn]; done) | fail) (by first | fail | (simp [go_sem, World.cell?_alloc_past, y_0, y_0f, y_1, y_1f, ry, rya, ryb, ryc, ryn]; done) | fail)
        have c0_1f : w51.frozen? ⟨wr.heap.size, 1, none⟩ = false := hx51.froz (by show ¬ _ = _; first | assumption | omega) (v := .int .i64 0) (by first | fail | (simp [go_sem, World.cell?_alloc_past, y_0, y_0f, y_1, y_1f, ry, rya, ryb, ryc, ryn]; done) | fail) (by first | fail | (simp [go_sem, World.cell?_alloc_past, y_0, y_0f, y_1, y_1f, ry, rya, ryb, ryc, ryn]; done) | fail)
        have c0_2f : w51.frozen? ⟨wr.heap.size, 2, none⟩ = false := hx51.froz (by show ¬ _ = _; first | assumption | omega) (v := .int .i64 0) (by first | fail | (simp [go_sem, World.cell?_alloc_past, y_0, y_0f, y_1, y_1f, ry, rya, ryb, ryc, ryn]; done) | fail) (by first | fail | (simp [go_sem, World.cell?_alloc_past, y_0, y_0f, y_1, y_1f, ry, rya, ryb, ryc, ryn]; done) | fail)
        have c0_3f : w51.frozen? ⟨wr.heap.size, 3, none⟩ = false := hx51.froz (by show ¬ _ = _; first | assumption | omega) (v := .int .i64 0) (by first | fail | (simp [go_sem, World.cell?_alloc_past, y_0, y_0f, y_1, y_1f, ry, rya, ryb, ryc, ryn]; done) | fail) (by first | fail | (simp [go_sem, World.cell?_alloc_past, y_0, y_0f, y_1, y_1f, ry, rya, ryb, ryc, ryn]; done) | fail)
        have c0_4f : w51.frozen? ⟨wr.heap.size, 4, none⟩ = false := hx51.froz (by show ¬ _ = _; first | assumption | omega) (v := .int .i64 0) (by first | fail | (simp [go_sem, World.cell?_alloc_past, y_0, y_0f, y_1, y_1f, ry, rya, ryb, ryc, ryn]; done) | fail) (by first | fail | (simp [go_sem, World.cell?_alloc_past, y_0, y_0f, y_1, y_1f, ry, rya, ryb, ryc, ryn]; done) | fail)
        have c0_5f : w51.frozen? ⟨wr.heap.size, 5, none⟩ = false := hx51.froz (by show ¬ _ = _; first | assumption | omega) (v := .int .i64 0) (by first | fail | (simp [go_sem, World.cell?_alloc_past, y_0, y_0f, y_1, y_1f, ry, rya, ryb, ryc, ryn]; done) | fail) (by first | fail | (simp [go_sem, World.cell?_alloc_past, y_0, y_0f, y_1, y_1f, ry, rya, ryb, ryc, ryn]; done) | fail)
        have c0_6f : w51.frozen? ⟨wr.heap.size, 6, none⟩ = false := hx51.froz (by show ¬ _ = _; first | assumption | omega) (v := .int .u64 0) (by first | fail | (simp [go_sem, World.cell?_alloc_past, y_0, y_0f, y_1, y_1f, ry, rya, ryb, ryc, ryn]; done) | fail) (by first | fail | (simp [go_sem, World.cell?_alloc_past, y_0, y_0f, y_1, y_1f, ry, rya, ryb, ryc, ryn]; done) | fail)
        have c0_7f : w51.frozen? ⟨wr.heap.size, 7, none⟩ = false := hx51.froz (by show ¬ _ = _; first | assumption | omega) (v := .int .u64 0) (by first | fail | (simp [go_sem, World.cell?_alloc_past, y_0, y_0f, y_1, y_1f, ry, rya, ryb, ryc, ryn]; done) | fail) (by first | fail | (simp [go_sem, World.cell?_alloc_past, y_0, y_0f, y_1, y_1f, ry, rya, ryb, ryc, ryn]; done) | fail)
        have c0_0 : w51.cell? ⟨wr.heap.size, 0, none⟩ = some (.int .i64 0) := hx51.has (by show ¬ _ = _; first | assumption | omega) (by first | fail | (simp [go_sem, World.cell?_alloc_past, y_0, y_0f, y_1, y_1f, ry, rya, ryb, ryc, ryn]; done) | fail)
        have c0_1 : w51.cell? ⟨wr.heap.size, 1, none⟩ = some (.int .i64 0) := hx51.has (by show ¬ _ = _; first | assumption | omega) (by first | fail | (simp [go_sem, World.cell?_alloc_past, y_0, y_0f, y_1, y_1f, ry, rya, ryb, ryc, ryn]; done) | fail)
        have c0_2 : w51.cell? ⟨wr.heap.size, 2, none⟩ = some (.int .i64 0) := hx51.has (by show ¬ _ = _; first | assumption | omega) (by first | fail | (simp [go_sem, World.cell?_alloc_past, y_0, y_0f, y_1, y_1f, ry, rya, ryb, ryc, ryn]; done) | fail)
        have c0_3 : w51.cell? ⟨wr.heap.size, 3, none⟩ = some (.int .i64 0) := hx51.has (by show ¬ _ = _; first | assumption | omega) (by first | fail | (simp [go_sem, World.cell?_alloc_past, y_0, y_0f, y_1, y_1f, ry, rya, ryb, ryc, ryn]; done) | fail)
        have c0_4 : w51.cell? ⟨wr.heap.size, 4, none⟩ = some (.int .i64 0) := hx51.has (by show ¬ _ = _; first | assumption | omega) (by first | fail | (simp [go_sem, World.cell?_alloc_past, y_0, y_0f, y_1, y_1f, ry, rya, ryb, ryc, ryn]; done) | fail)
        have c0_5 : w51.cell? ⟨wr.heap.size, 5, none⟩ = some (.int .i64 0) := hx51.has (by show ¬ _ = _; first | assumption | omega) (by first | fail | (simp [go_sem, World.cell?_alloc_past, y_0, y_0f, y_1, y_1f, ry, rya, ryb, ryc, ryn]; done) | fail)
        have c0_6 : w51.cell? ⟨wr.heap.size, 6, none⟩ = some (.int .u64 0) := hx51.has (by show ¬ _ = _; first | assumption | omega) (by first | fail | (simp [go_sem, World.cell?_alloc_past, y_0, y_0f, y_1, y_1f, ry, rya, ryb, ryc, ryn]; done) | fail)
        have c0_7 : w51.cell? ⟨wr.heap.size, 7, none⟩ = some (.int .u64 0) := hx51.has (by show ¬ _ = _; first | assumption | omega) (by first | fail | (simp [go_sem, World.cell?_alloc_past, y_0, y_0f, y_1, y_1f, ry, rya, ryb, ryc, ryn]; done) | fail)
        have z51 := hx51.size
        try simp at z51
        have lt_y_c0 : w.heap.size < wr.heap.size := by omega
        have ne_y_c0 : ¬ w.heap.size = wr.heap.size := by omega
        have ne_c0_y : ¬ wr.heap.size = w.heap.size := by omega
        replace ry : w.heap.size < w51.heap.size := by omega
        replace rya : w.heap.size < w51.heap.size + 1 := by omega
        replace ryb : w.heap.size < w51.heap.size + 1 + 1 := by omega
        replace ryc : w.heap.size < w51.heap.size + 1 + 1 + 1 := by omega
        replace ryn : ¬ w.heap.size = w51.heap.size := by omega
        have rc0 : wr.heap.size < w51.heap.size := by omega
        have rc0a : wr.heap.size < w51.heap.size + 1 := by omega
        have rc0b : wr.heap.size < w51.heap.size + 1 + 1 := by omega
        have rc0c : wr.heap.size < w51.heap.size + 1 + 1 + 1 := by omega
        have rc0n : ¬ wr.heap.size = w51.heap.size := by omega
        have X51 : Hid (Ext w w51) := Lib.hid (have hX := (show Ext w _ from (by repeat (first | with_reducible exact XR.out | with_reducible refine Ext.drew ?_ | with_reducible refine Ext.drewN ?_ _ | with_reducible refine Ext.alloc ?_ _ | with_reducible refine Ext.setCell ?_ (by first | omega | (simp; done) | (simp; omega)) _))); Below.trans hX (hx51.below (Ext.size hX) (fun k hk hh => by have hh2 : k = g := hh; omega)))
        replace HO := Lib.hid (OwnR.but (OwnR.butN HO.out (by repeat (first | with_reducible exact But.refl _ _ | with_reducible refine But.drew ?_ | with_reducible refine But.drewN ?_ _ | with_reducible refine But.alloc ?_ _ | with_reducible refine But.setCell ?_ (by first | exact Nat.le_refl _ | (dsimp only; omega)) _ | with_reducible refine But.setNew ?_ (by first | omega | (simp; done) | (simp; omega)) _))) hx51 (by intro j h1 h2 hh; have h3 : j = g := hh; omega))
        clear HRd
        have HRd := Lib.hid hRd
        clear hsz51 XR hx51 z51 hRd
        go_wp2_with fail
        (with_reducible refine (rTake12_e g k1 k2 L f1 f2 xv xs xp xf hL Gxv.out Gxs.out Gxp.out Gxf.out Gk2.out Gf2.out _ (RRd.butN HRd.out (by repeat (first | with_reducible exact But.refl _ _ | with_reducible refine But.drew ?_ | with_reducible refine But.drewN ?_ _ | with_reducible refine But.alloc ?_ _ | with_reducible refine But.setCell ?_ (by first | exact Nat.le_refl _ | (dsimp only; omega)) _ | with_reducible refine But.setNew ?_ (by first | omega | (simp; done) | (simp; omega)) _)))).mono ?_)
        rintro e w52 ⟨rfl, hRd, hx52⟩
        have hsz52 := hx52.size
        try simp at hsz52
        replace y_0f : w52.frozen? ⟨w.heap.size, 0, none⟩ = false := hx52.froz (by show ¬ _ = _; first | assumption | omega) (v := .int .i64 0) (by first | with_reducible exact y_0 | (simp [go_sem, World.cell?_alloc_past, y_0f, y_1f, y_0, y_1, c0_0f, c0_1f, c0_2f, c0_3f, c0_4f, c0_5f, c0_6f, c0_7f, c0_0, c0_1, c0_2, c0_3, c0_4, c0_5, c0_6, c0_7, ne_y_c0, ne_c0_y, ry, rya, ryb, ryc, ryn, rc0, rc0a, rc0b, rc0c, rc0n]; done) | exact y_0) (by first | with_reducible exact y_0f | (simp [go_sem, World.cell?_alloc_past, y_0f, y_1f, y_0, y_1, c0_0f, c0_1f, c0_2f, c0_3f, c0_4f, c0_5f, c0_6f, c0_7f, c0_0, c0_1, c0_2, c0_3, c0_4, c0_5, c0_6, c0_7, ne_y_c0, ne_c0_y, ry, rya, ryb, ryc, ryn, rc0, rc0a, rc0b, rc0c, rc0n]; done) | exact y_0f)
        replace y_1f : w52.frozen? ⟨w.heap.size, 1, none⟩ = false := hx52.froz (by show ¬ _ = _; first | assumption | omega) (v := .int .i64 0) (by first | with_reducible exact y_1 | (simp [go_sem, World.cell?_alloc_past, y_0f, y_1f, y_0, y_1, c0_0f, c0_1f, c0_2f, c0_3f, c0_4f, c0_5f, c0_6f, c0_7f, c0_0, c0_1, c0_2, c0_3, c0_4, c0_5, c0_6, c0_7, ne_y_c0, ne_c0_y, ry, rya, ryb, ryc, ryn, rc0, rc0a, rc0b, rc0c, rc0n]; done) | exact y_1) (by first | with_reducible exact y_1f | (simp [go_sem, World.cell?_alloc_past, y_0f, y_1f, y_0, y_1, c0_0f, c0_1f, c0_2f, c0_3f, c0_4f, c0_5f, c0_6f, c0_7f, c0_0, c0_1, c0_2, c0_3, c0_4, c0_5, c0_6, c0_7, ne_y_c0, ne_c0_y, ry, rya, ryb, ryc, ryn, rc0, rc0a, rc0b, rc0c, rc0n]; done) | exact y_1f)
        replace y_0 : w52.cell? ⟨w.heap.size, 0, none⟩ = some (.int .i64 0) := hx52.has (by show ¬ _ = _; first | assumption | omega) (by first | with_reducible exact y_0 | (simp [go_sem, World.cell?_alloc_past, y_0f, y_1f, y_0, y_1, c0_0f, c0_1f, c0_2f, c0_3f, c0_4f, c0_5f, c0_6f, c0_7f, c0_0, c0_1, c0_2, c0_3, c0_4, c0_5, c0_6, c0_7, ne_y_c0, ne_c0_y, ry, rya, ryb, ryc, ryn, rc0, rc0a, rc0b, rc0c, rc0n]; done) | exact y_0)
        replace y_1 : w52.cell? ⟨w.heap.size, 1, none⟩ = some (.int .i64 0) := hx52.has (by show ¬ _ = _; first | assumption | omega) (by first | with_reducible exact y_1 | (simp [go_sem, World.cell?_alloc_past, y_0f, y_1f, y_0, y_1, c0_0f, c0_1f, c0_2f, c0_3f, c0_4f, c0_5f, c0_6f, c0_7f, c0_0, c0_1, c0_2, c0_3, c0_4, c0_5, c0_6, c0_7, ne_y_c0, ne_c0_y, ry, rya, ryb, ryc, ryn, rc0, rc0a, rc0b, rc0c, rc0n]; done) | exact y_1)
        replace c0_1f : w52.frozen? ⟨wr.heap.size, 1, none⟩ = false := hx52.froz (by show ¬ _ = _; first | assumption | omega) (v := .int .i64 0) (by first | with_reducible exact c0_1 | (simp [go_sem, World.cell?_alloc_past, y_0f, y_1f, y_0, y_1, c0_0f, c0_1f, c0_2f, c0_3f, c0_4f, c0_5f, c0_6f, c0_7f, c0_0, c0_1, c0_2, c0_3, c0_4, c0_5, c0_6, c0_7, ne_y_c0, ne_c0_y, ry, rya, ryb, ryc, ryn, rc0, rc0a, rc0b, rc0c, rc0n]; done) | exact c0_1) (by first | with_reducible exact c0_1f | (simp [go_sem, World.cell?_alloc_past, y_0f, y_1f, y_0, y_1, c0_0f, c0_1f, c0_2f, c0_3f, c0_4f, c0_5f, c0_6f, c0_7f, c0_0, c0_1, c0_2, c0_3, c0_4, c0_5, c0_6, c0_7, ne_y_c0, ne_c0_y, ry, rya, ryb, ryc, ryn, rc0, rc0a, rc0b, rc0c, rc0n]; done) | exact c0_1f)
        replace c0_2f : w52.frozen? ⟨wr.heap.size, 2, none⟩ = false := hx52.froz (by show ¬ _ = _; first | assumption | omega) (v := .int .i64 0) (by first | with_reducible exact c0_2 | (simp [go_sem, World.cell?_alloc_past, y_0f, y_1f, y_0, y_1, c0_0f, c0_1f, c0_2f, c0_3f, c0_4f, c0_5f, c0_6f, c0_7f, c0_0, c0_1, c0_2, c0_3, c0_4, c0_5, c0_6, c0_7, ne_y_c0, ne_c0_y, ry, rya, ryb, ryc, ryn, rc0, rc0a, rc0b, rc0c, rc0n]; done) | exact c0_2) (by first | with_reducible exact c0_2f | (simp [go_sem, World.cell?_alloc_past, y_0f, y_1f, y_0, y_1, c0_0f, c0_1f, c0_2f, c0_3f, c0_4f, c0_5f, c0_6f, c0_7f, c0_0, c0_1, c0_2, c0_3, c0_4, c0_5, c0_6, c0_7, ne_y_c0, ne_c0_y, ry, rya, ryb, ryc, ryn, rc0, rc0a, rc0b, rc0c, rc0n]; done) | exact c0_2f)
        replace c0_3f : w52.frozen? ⟨wr.heap.size, 3, none⟩ = false := hx52.froz (by show ¬ _ = _; first | assumption | omega) (v := .int .i64 0) (by first | with_reducible exact c0_3 | (simp [go_sem, World.cell?_alloc_past, y_0f, y_1f, y_0, y_1, c0_0f, c0_1f, c0_2f, c0_3f, c0_4f, c0_5f, c0_6f, c0_7f, c0_0, c0_1, c0_2, c0_3, c0_4, c0_5, c0_6, c0_7, ne_y_c0, ne_c0_y, ry, rya, ryb, ryc, ryn, rc0, rc0a, rc0b, rc0c, rc0n]; done) | exact c0_3) (by first | with_reducible exact c0_3f | (simp [go_sem, World.cell?_alloc_past, y_0f, y_1f, y_0, y_1, c0_0f, c0_1f, c0_2f, c0_3f, c0_4f, c0_5f, c0_6f, c0_7f, c0_0, c0_1, c0_2, c0_3, c0_4, c0_5, c0_6, c0_7, ne_y_c0, ne_c0_y, ry, rya, ryb, ryc, ryn, rc0, rc0a, rc0b, rc0c, rc0n]; done) | exact c0_3f)
        replace c0_4f : w52.frozen? ⟨wr.heap.size, 4, none⟩ = false := hx52.froz (by show ¬ _ = _; first | assumption | omega) (v := .int .i64 0) (by first | with_reducible exact c0_4 | (simp [go_sem, World.cell?_alloc_past, y_0f, y_1f, y_0, y_1, c0_0f, c0_1f, c0_2f, c0_3f, c0_4f, c0_5f, c0_6f, c0_7f, c0_0, c0_1, c0_2, c0_3, c0_4, c0_5, c0_6, c0_7, ne_y_c0, ne_c0_y, ry, rya, ryb, ryc, ryn, rc0, rc0a, rc0b, rc0c, rc0n]; done) | exact c0_4) (by first | with_reducible exact c0_4f | (simp [go_sem, World.cell?_alloc_past, y_0f, y_1f, y_0, y_1, c0_0f, c0_1f, c0_2f, c0_3f, c0_4f, c0_5f, c0_6f, c0_7f, c0_0, c0_1, c0_2, c0_3, c0_4, c0_5, c0_6, c0_7, ne_y_c0, ne_c0_y, ry, rya, ryb, ryc, ryn, rc0, rc0a, rc0b, rc0c, rc0n]; done) | exact c0_4f)
        replace c0_5f : w52.frozen? ⟨wr.heap.size, 5, none⟩ = false := hx52.froz (by show ¬ _ = _; first | assumption | omega) (v := .int .i64 0) (by first | with_reducible exact c0_5 | (simp [go_sem, World.cell?_alloc_past, y_0f, y_1f, y_0, y_1, c0_0f, c0_1f, c0_2f, c0_3f, c0_4f, c0_5f, c0_6f, c0_7f, c0_0, c0_1, c0_2, c0_3, c0_4, c0_5, c0_6, c0_7, ne_y_c0, ne_c0_y, ry, rya, ryb, ryc, ryn, rc0, rc0a, rc0b, rc0c, rc0n]; done) | exact c0_5) (by first | with_reducible exact c0_5f | (simp [go_sem, World.cell?_alloc_past, y_0f, y_1f, y_0, y_1, c0_0f, c0_1f, c0_2f, c0_3f, c0_4f, c0_5f, c0_6f, c0_7f, c0_0, c0_1, c0_2, c0_3, c0_4, c0_5, c0_6, c0_7, ne_y_c0, ne_c0_y, ry, rya, ryb, ryc, ryn, rc0, rc0a, rc0b, rc0c, rc0n]; done) | exact c0_5f)
        replace c0_6f : w52.frozen? ⟨wr.heap.size, 6, none⟩ = false := hx52.froz (by show ¬ _ = _; first | assumption | omega) (v := .int .u64 0) (by first | with_reducible exact c0_6 | (simp [go_sem, World.cell?_alloc_past, y_0f, y_1f, y_0, y_1, c0_0f, c0_1f, c0_2f, c0_3f, c0_4f, c0_5f, c0_6f, c0_7f, c0_0, c0_1, c0_2, c0_3, c0_4, c0_5, c0_6, c0_7, ne_y_c0, ne_c0_y, ry, rya, ryb, ryc, ryn, rc0, rc0a, rc0b, rc0c, rc0n]; done) | exact c0_6) (by first | with_reducible exact c0_6f | (simp [go_sem, World.cell?_alloc_past, y_0f, y_1f, y_0, y_1, c0_0f, c0_1f, c0_2f, c0_3f, c0_4f, c0_5f, c0_6f, c0_7f, c0_0, c0_1, c0_2, c0_3, c0_4, c0_5, c0_6, c0_7, ne_y_c0, ne_c0_y, ry, rya, ryb, ryc, ryn, rc0, rc0a, rc0b, rc0c, rc0n]; done) | exact c0_6f)
        replace c0_7f : w52.frozen? ⟨wr.heap.size, 7, none⟩ = false := hx52.froz (by show ¬ _ = _; first | assumption | omega) (v := .int .u64 0) (by first | with_reducible exact c0_7 | (simp [go_sem, World.cell?_alloc_past, y_0f, y_1f, y_0, y_1, c0_0f, c0_1f, c0_2f, c0_3f, c0_4f, c0_5f, c0_6f, c0_7f, c0_0, c0_1, c0_2, c0_3, c0_4, c0_5, c0_6, c0_7, ne_y_c0, ne_c0_y, ry, rya, ryb, ryc, ryn, rc0, rc0a, rc0b, rc0c, rc0n]; done) | exact c0_7) (by first | with_reducible exact c0_7f | (simp [go_sem, World.cell?_alloc_past, y_0f, y_1f, y_0, y_1, c0_0f, c0_1f, c0_2f, c0_3f, c0_4f, c0_5f, c0_6f, c0_7f, c0_0, c0_1, c0_2, c0_3, c0_4, c0_5, c0_6, c0_7, ne_y_c0, ne_c0_y, ry, rya, ryb, ryc, ryn, rc0, rc0a, rc0b, rc0c, rc0n]; done) | exact c0_7f)
        replace c0_0 : w52.cell? ⟨wr.heap.size, 0, none⟩ = some (.int .i64 xo) := hx52.has (by show ¬ _ = _; first | assumption | omega) (by first | with_reducible exact c0_0 | (simp [go_sem, World.cell?_alloc_past, y_0f, y_1f, y_0, y_1, c0_0f, c0_1f, c0_2f, c0_3f, c0_4f, c0_5f, c0_6f, c0_7f, c0_0, c0_1, c0_2, c0_3, c0_4, c0_5, c0_6, c0_7, ne_y_c0, ne_c0_y, ry, rya, ryb, ryc, ryn, rc0, rc0a, rc0b, rc0c, rc0n]; done) | exact c0_0)
        replace c0_1 : w52.cell? ⟨wr.heap.size, 1, none⟩ = some (.int .i64 0) := hx52.has (by show ¬ _ = _; first | assumption | omega) (by first | with_reducible exact c0_1 | (simp [go_sem, World.cell?_alloc_past, y_0f, y_1f, y_0, y_1, c0_0f, c0_1f, c0_2f, c0_3f, c0_4f, c0_5f, c0_6f, c0_7f, c0_0, c0_1, c0_2, c0_3, c0_4, c0_5, c0_6, c0_7, ne_y_c0, ne_c0_y, ry, rya, ryb, ryc, ryn, rc0, rc0a, rc0b, rc0c, rc0n]; done) | exact c0_1)
        replace c0_2 : w52.cell? ⟨wr.heap.size, 2, none⟩ = some (.int .i64 0) := hx52.has (by show ¬ _ = _; first | assumption | omega) (by first | with_reducible exact c0_2 | (simp [go_sem, World.cell?_alloc_past, y_0f, y_1f, y_0, y_1, c0_0f, c0_1f, c0_2f, c0_3f, c0_4f, c0_5f, c0_6f, c0_7f, c0_0, c0_1, c0_2, c0_3, c0_4, c0_5, c0_6, c0_7, ne_y_c0, ne_c0_y, ry, rya, ryb, ryc, ryn, rc0, rc0a, rc0b, rc0c, rc0n]; done) | exact c0_2)
        replace c0_3 : w52.cell? ⟨wr.heap.size, 3, none⟩ = some (.int .i64 0) := hx52.has (by show ¬ _ = _; first | assumption | omega) (by first | with_reducible exact c0_3 | (simp [go_sem, World.cell?_alloc_past, y_0f, y_1f, y_0, y_1, c0_0f, c0_1f, c0_2f, c0_3f, c0_4f, c0_5f, c0_6f, c0_7f, c0_0, c0_1, c0_2, c0_3, c0_4, c0_5, c0_6, c0_7, ne_y_c0, ne_c0_y, ry, rya, ryb, ryc, ryn, rc0, rc0a, rc0b, rc0c, rc0n]; done) | exact c0_3)
        replace c0_4 : w52.cell? ⟨wr.heap.size, 4, none⟩ = some (.int .i64 0) := hx52.has (by show ¬ _ = _; first | assumption | omega) (by first | with_reducible exact c0_4 | (simp [go_sem, World.cell?_alloc_past, y_0f, y_1f, y_0, y_1, c0_0f, c0_1f, c0_2f, c0_3f, c0_4f, c0_5f, c0_6f, c0_7f, c0_0, c0_1, c0_2, c0_3, c0_4, c0_5, c0_6, c0_7, ne_y_c0, ne_c0_y, ry, rya, ryb, ryc, ryn, rc0, rc0a, rc0b, rc0c, rc0n]; done) | exact c0_4)
        replace c0_5 : w52.cell? ⟨wr.heap.size, 5, none⟩ = some (.int .i64 0) := hx52.has (by show ¬ _ = _; first | assumption | omega) (by first | with_reducible exact c0_5 | (simp [go_sem, World.cell?_alloc_past, y_0f, y_1f, y_0, y_1, c0_0f, c0_1f, c0_2f, c0_3f, c0_4f, c0_5f, c0_6f, c0_7f, c0_0, c0_1, c0_2, c0_3, c0_4, c0_5, c0_6, c0_7, ne_y_c0, ne_c0_y, ry, rya, ryb, ryc, ryn, rc0, rc0a, rc0b, rc0c, rc0n]; done) | exact c0_5)
        replace c0_6 : w52.cell? ⟨wr.heap.size, 6, none⟩ = some (.int .u64 0) := hx52.has (by show ¬ _ = _; first | assumption | omega) (by first | with_reducible exact c0_6 | (simp [go_sem, World.cell?_alloc_past, y_0f, y_1f, y_0, y_1, c0_0f, c0_1f, c0_2f, c0_3f, c0_4f, c0_5f, c0_6f, c0_7f, c0_0, c0_1, c0_2, c0_3, c0_4, c0_5, c0_6, c0_7, ne_y_c0, ne_c0_y, ry, rya, ryb, ryc, ryn, rc0, rc0a, rc0b, rc0c, rc0n]; done) | exact c0_6)
        replace c0_7 : w52.cell? ⟨wr.heap.size, 7, none⟩ = some (.int .u64 0) := hx52.has (by show ¬ _ = _; first | assumption | omega) (by first | with_reducible exact c0_7 | (simp [go_sem, World.cell?_alloc_past, y_0f, y_1f, y_0, y_1, c0_0f, c0_1f, c0_2f, c0_3f, c0_4f, c0_5f, c0_6f, c0_7f, c0_0, c0_1, c0_2, c0_3, c0_4, c0_5, c0_6, c0_7, ne_y_c0, ne_c0_y, ry, rya, ryb, ryc, ryn, rc0, rc0a, rc0b, rc0c, rc0n]; done) | exact c0_7)
        have z52 := hx52.size
        try simp at z52
        replace ry : w.heap.size < w52.heap.size := by omega
        replace rya : w.heap.size < w52.heap.size + 1 := by omega
        replace ryb : w.heap.size < w52.heap.size + 1 + 1 := by omega
        replace ryc : w.heap.size < w52.heap.size + 1 + 1 + 1 := by omega
        replace ryn : ¬ w.heap.size = w52.heap.size := by omega
        replace rc0 : wr.heap.size < w52.heap.size := by omega
        replace rc0a : wr.heap.size < w52.heap.size + 1 := by omega
        replace rc0b : wr.heap.size < w52.heap.size + 1 + 1 := by omega
        replace rc0c : wr.heap.size < w52.heap.size + 1 + 1 + 1 := by omega
        replace rc0n : ¬ wr.heap.size = w52.heap.size := by omega
        have X52 : Hid (Ext w w52) := Lib.hid (have hX := (show Ext w _ from (by repeat (first | with_reducible exact X51.out | with_reducible refine Ext.drew ?_ | with_reducible refine Ext.drewN ?_ _ | with_reducible refine Ext.alloc ?_ _ | with_reducible refine Ext.setCell ?_ (by first | omega | (simp; done) | (simp; omega)) _))); Below.trans hX (hx52.below (Ext.size hX) (fun k hk hh => by have hh2 : k = g := hh; omega)))
        replace HO := Lib.hid (OwnR.but (OwnR.butN HO.out (by repeat (first | with_reducible exact But.refl _ _ | with_reducible refine But.drew ?_ | with_reducible refine But.drewN ?_ _ | with_reducible refine But.alloc ?_ _ | with_reducible refine But.setCell ?_ (by first | exact Nat.le_refl _ | (dsimp only; omega)) _ | with_reducible refine But.setNew ?_ (by first | omega | (simp; done) | (simp; omega)) _))) hx52 (by intro j h1 h2 hh; have h3 : j = g := hh; omega))
        clear HRd
        have HRd := Lib.hid hRd
        clear c0_0f hsz52 X51 hx52 z52 hRd
        go_wp2_with fail
        (with_reducible refine (rN_e g k2 k3 L f2 f3 1 4294967296 xc (by decide) (by decide) (by decide) (by decide) hL Gxc.out Gk3.out Gf3.out _ (RRd.butN HRd.out (by repeat (first | with_reducible exact But.refl _ _ | with_reducible refine But.drew ?_ | with_reducible refine But.drewN ?_ _ | with_reducible refine But.alloc ?_ _ | with_reducible refine But.setCell ?_ (by first | exact Nat.le_refl _ | (dsimp only; omega)) _ | with_reducible refine But.setNew ?_ (by first | omega | (simp; done) | (simp; omega)) _)))).mono ?_)
        rintro e w53 ⟨rfl, hRd, hx53⟩
        have hsz53 := hx53.size
        try simp at hsz53
        replace y_0f : w53.frozen? ⟨w.heap.size, 0, none⟩ = false := hx53.froz (by show ¬ _ = _; first | assumption | omega) (v := .int .i64 0) (by first | with_reducible exact y_0 | (simp [go_sem, World.cell?_alloc_past, y_0f, y_1f, y_0, y_1, c0_1f, c0_2f, c0_3f, c0_4f, c0_5f, c0_6f, c0_7f, c0_0, c0_1, c0_2, c0_3, c0_4, c0_5, c0_6, c0_7, ne_y_c0, ne_c0_y, ry, rya, ryb, ryc, ryn, rc0, rc0a, rc0b, rc0c, rc0n]; done) | exact y_0) (by first | with_reducible exact y_0f | (simp [go_sem, World.cell?_alloc_past, y_0f, y_1f, y_0, y_1, c0_1f, c0_2f, c0_3f, c0_4f, c0_5f, c0_6f, c0_7f, c0_0, c0_1, c0_2, c0_3, c0_4, c0_5, c0_6, c0_7, ne_y_c0, ne_c0_y, ry, rya, ryb, ryc, ryn, rc0, rc0a, rc0b, rc0c, rc0n]; done) | exact y_0f)
        replace y_1f : w53.frozen? ⟨w.heap.size, 1, none⟩ = false := hx53.froz (by show ¬ _ = _; first | assumption | omega) (v := .int .i64 0) (by first | with_reducible exact y_1 | (simp [go_sem, World.cell?_alloc_past, y_0f, y_1f, y_0, y_1, c0_1f, c0_2f, c0_3f, c0_4f, c0_5f, c0_6f, c0_7f, c0_0, c0_1, c0_2, c0_3, c0_4, c0_5, c0_6, c0_7, ne_y_c0, ne_c0_y, ry, rya, ryb, ryc, ryn, rc0, rc0a, rc0b, rc0c, rc0n]; done) | exact y_1) (by first | with_reducible exact y_1f | (simp [go_sem, World.cell?_alloc_past, y_0f, y_1f, y_0, y_1, c0_1f, c0_2f, c0_3f, c0_4f, c0_5f, c0_6f, c0_7f, c0_0, c0_1, c0_2, c0_3, c0_4, c0_5, c0_6, c0_7, ne_y_c0, ne_c0_y, ry, rya, ryb, ryc, ryn, rc0, rc0a, rc0b, rc0c, rc0n]; done) | exact y_1f)
        replace y_0 : w53.cell? ⟨w.heap.size, 0, none⟩ = some (.int .i64 0) := hx53.has (by show ¬ _ = _; first | assumption | omega) (by first | with_reducible exact y_0 | (simp [go_sem, World.cell?_alloc_past, y_0f, y_1f, y_0, y_1, c0_1f, c0_2f, c0_3f, c0_4f, c0_5f, c0_6f, c0_7f, c0_0, c0_1, c0_2, c0_3, c0_4, c0_5, c0_6, c0_7, ne_y_c0, ne_c0_y, ry, rya, ryb, ryc, ryn, rc0, rc0a, rc0b, rc0c, rc0n]; done) | exact y_0)
        replace y_1 : w53.cell? ⟨w.heap.size, 1, none⟩ = some (.int .i64 0) := hx53.has (by show ¬ _ = _; first | assumption | omega) (by first | with_reducible exact y_1 | (simp [go_sem, World.cell?_alloc_past, y_0f, y_1f, y_0, y_1, c0_1f, c0_2f, c0_3f, c0_4f, c0_5f, c0_6f, c0_7f, c0_0, c0_1, c0_2, c0_3, c0_4, c0_5, c0_6, c0_7, ne_y_c0, ne_c0_y, ry, rya, ryb, ryc, ryn, rc0, rc0a, rc0b, rc0c, rc0n]; done) | exact y_1)
        replace c0_5f : w53.frozen? ⟨wr.heap.size, 5, none⟩ = false := hx53.froz (by show ¬ _ = _; first | assumption | omega) (v := .int .i64 0) (by first | with_reducible exact c0_5 | (simp [go_sem, World.cell?_alloc_past, y_0f, y_1f, y_0, y_1, c0_1f, c0_2f, c0_3f, c0_4f, c0_5f, c0_6f, c0_7f, c0_0, c0_1, c0_2, c0_3, c0_4, c0_5, c0_6, c0_7, ne_y_c0, ne_c0_y, ry, rya, ryb, ryc, ryn, rc0, rc0a, rc0b, rc0c, rc0n]; done) | exact c0_5) (by first | with_reducible exact c0_5f | (simp [go_sem, World.cell?_alloc_past, y_0f, y_1f, y_0, y_1, c0_1f, c0_2f, c0_3f, c0_4f, c0_5f, c0_6f, c0_7f, c0_0, c0_1, c0_2, c0_3, c0_4, c0_5, c0_6, c0_7, ne_y_c0, ne_c0_y, ry, rya, ryb, ryc, ryn, rc0, rc0a, rc0b, rc0c, rc0n]; done) | exact c0_5f)
        replace c0_6f : w53.frozen? ⟨wr.heap.size, 6, none⟩ = false := hx53.froz (by show ¬ _ = _; first | assumption | omega) (v := .int .u64 0) (by first | with_reducible exact c0_6 | (simp [go_sem, World.cell?_alloc_past, y_0f, y_1f, y_0, y_1, c0_1f, c0_2f, c0_3f, c0_4f, c0_5f, c0_6f, c0_7f, c0_0, c0_1, c0_2, c0_3, c0_4, c0_5, c0_6, c0_7, ne_y_c0, ne_c0_y, ry, rya, ryb, ryc, ryn, rc0, rc0a, rc0b, rc0c, rc0n]; done) | exact c0_6) (by first | with_reducible exact c0_6f | (simp [go_sem, World.cell?_alloc_past, y_0f, y_1f, y_0, y_1, c0_1f, c0_2f, c0_3f, c0_4f, c0_5f, c0_6f, c0_7f, c0_0, c0_1, c0_2, c0_3, c0_4, c0_5, c0_6, c0_7, ne_y_c0, ne_c0_y, ry, rya, ryb, ryc, ryn, rc0, rc0a, rc0b, rc0c, rc0n]; done) | exact c0_6f)
        replace c0_7f : w53.frozen? ⟨wr.heap.size, 7, none⟩ = false := hx53.froz (by show ¬ _ = _; first | assumption | omega) (v := .int .u64 0) (by first | with_reducible exact c0_7 | (simp [go_sem, World.cell?_alloc_past, y_0f, y_1f, y_0, y_1, c0_1f, c0_2f, c0_3f, c0_4f, c0_5f, c0_6f, c0_7f, c0_0, c0_1, c0_2, c0_3, c0_4, c0_5, c0_6, c0_7, ne_y_c0, ne_c0_y, ry, rya, ryb, ryc, ryn, rc0, rc0a, rc0b, rc0c, rc0n]; done) | exact c0_7) (by first | with_reducible exact c0_7f | (simp [go_sem, World.cell?_alloc_past, y_0f, y_1f, y_0, y_1, c0_1f, c0_2f, c0_3f, c0_4f, c0_5f, c0_6f, c0_7f, c0_0, c0_1, c0_2, c0_3, c0_4, c0_5, c0_6, c0_7, ne_y_c0, ne_c0_y, ry, rya, ryb, ryc, ryn, rc0, rc0a, rc0b, rc0c, rc0n]; done) | exact c0_7f)
        replace c0_0 : w53.cell? ⟨wr.heap.size, 0, none⟩ = some (.int .i64 xo) := hx53.has (by show ¬ _ = _; first | assumption | omega) (by first | with_reducible exact c0_0 | (simp [go_sem, World.cell?_alloc_past, y_0f, y_1f, y_0, y_1, c0_1f, c0_2f, c0_3f, c0_4f, c0_5f, c0_6f, c0_7f, c0_0, c0_1, c0_2, c0_3, c0_4, c0_5, c0_6, c0_7, ne_y_c0, ne_c0_y, ry, rya, ryb, ryc, ryn, rc0, rc0a, rc0b, rc0c, rc0n]; done) | exact c0_0)
        replace c0_1 : w53.cell? ⟨wr.heap.size, 1, none⟩ = some (.int .i64 xv) := hx53.has (by show ¬ _ = _; first | assumption | omega) (by first | with_reducible exact c0_1 | (simp [go_sem, World.cell?_alloc_past, y_0f, y_1f, y_0, y_1, c0_1f, c0_2f, c0_3f, c0_4f, c0_5f, c0_6f, c0_7f, c0_0, c0_1, c0_2, c0_3, c0_4, c0_5, c0_6, c0_7, ne_y_c0, ne_c0_y, ry, rya, ryb, ryc, ryn, rc0, rc0a, rc0b, rc0c, rc0n]; done) | exact c0_1)
        replace c0_2 : w53.cell? ⟨wr.heap.size, 2, none⟩ = some (.int .i64 xs) := hx53.has (by show ¬ _ = _; first | assumption | omega) (by first | with_reducible exact c0_2 | (simp [go_sem, World.cell?_alloc_past, y_0f, y_1f, y_0, y_1, c0_1f, c0_2f, c0_3f, c0_4f, c0_5f, c0_6f, c0_7f, c0_0, c0_1, c0_2, c0_3, c0_4, c0_5, c0_6, c0_7, ne_y_c0, ne_c0_y, ry, rya, ryb, ryc, ryn, rc0, rc0a, rc0b, rc0c, rc0n]; done) | exact c0_2)
        replace c0_3 : w53.cell? ⟨wr.heap.size, 3, none⟩ = some (.int .i64 xp) := hx53.has (by show ¬ _ = _; first | assumption | omega) (by first | with_reducible exact c0_3 | (simp [go_sem, World.cell?_alloc_past, y_0f, y_1f, y_0, y_1, c0_1f, c0_2f, c0_3f, c0_4f, c0_5f, c0_6f, c0_7f, c0_0, c0_1, c0_2, c0_3, c0_4, c0_5, c0_6, c0_7, ne_y_c0, ne_c0_y, ry, rya, ryb, ryc, ryn, rc0, rc0a, rc0b, rc0c, rc0n]; done) | exact c0_3)
        replace c0_4 : w53.cell? ⟨wr.heap.size, 4, none⟩ = some (.int .i64 xf) := hx53.has (by show ¬ _ = _; first | assumption | omega) (by first | with_reducible exact c0_4 | (simp [go_sem, World.cell?_alloc_past, y_0f, y_1f, y_0, y_1, c0_1f, c0_2f, c0_3f, c0_4f, c0_5f, c0_6f, c0_7f, c0_0, c0_1, c0_2, c0_3, c0_4, c0_5, c0_6, c0_7, ne_y_c0, ne_c0_y, ry, rya, ryb, ryc, ryn, rc0, rc0a, rc0b, rc0c, rc0n]; done) | exact c0_4)
        replace c0_5 : w53.cell? ⟨wr.heap.size, 5, none⟩ = some (.int .i64 0) := hx53.has (by show ¬ _ = _; first | assumption | omega) (by first | with_reducible exact c0_5 | (simp [go_sem, World.cell?_alloc_past, y_0f, y_1f, y_0, y_1, c0_1f, c0_2f, c0_3f, c0_4f, c0_5f, c0_6f, c0_7f, c0_0, c0_1, c0_2, c0_3, c0_4, c0_5, c0_6, c0_7, ne_y_c0, ne_c0_y, ry, rya, ryb, ryc, ryn, rc0, rc0a, rc0b, rc0c, rc0n]; done) | exact c0_5)
        replace c0_6 : w53.cell? ⟨wr.heap.size, 6, none⟩ = some (.int .u64 0) := hx53.has (by show ¬ _ = _; first | assumption | omega) (by first | with_reducible exact c0_6 | (simp [go_sem, World.cell?_alloc_past, y_0f, y_1f, y_0, y_1, c0_1f, c0_2f, c0_3f, c0_4f, c0_5f, c0_6f, c0_7f, c0_0, c0_1, c0_2, c0_3, c0_4, c0_5, c0_6, c0_7, ne_y_c0, ne_c0_y, ry, rya, ryb, ryc, ryn, rc0, rc0a, rc0b, rc0c, rc0n]; done) | exact c0_6)
        replace c0_7 : w53.cell? ⟨wr.heap.size, 7, none⟩ = some (.int .u64 0) := hx53.has (by show ¬ _ = _; first | assumption | omega) (by first | with_reducible exact c0_7 | (simp [go_sem, World.cell?_alloc_past, y_0f, y_1f, y_0, y_1, c0_1f, c0_2f, c0_3f, c0_4f, c0_5f, c0_6f, c0_7f, c0_0, c0_1, c0_2, c0_3, c0_4, c0_5, c0_6, c0_7, ne_y_c0, ne_c0_y, ry, rya, ryb, ryc, ryn, rc0, rc0a, rc0b, rc0c, rc0n]; done) | exact c0_7)
        have z53 := hx53.size
        try simp at z53
        replace ry : w.heap.size < w53.heap.size := by omega
        replace rya : w.heap.size < w53.heap.size + 1 := by omega
        replace ryb : w.heap.size < w53.heap.size + 1 + 1 := by omega
        replace ryc : w.heap.size < w53.heap.size + 1 + 1 + 1 := by omega
        replace ryn : ¬ w.heap.size = w53.heap.size := by omega
        replace rc0 : wr.heap.size < w53.heap.size := by omega
        replace rc0a : wr.heap.size < w53.heap.size + 1 := by omega
        replace rc0b : wr.heap.size < w53.heap.size + 1 + 1 := by omega
        replace rc0c : wr.heap.size < w53.heap.size + 1 + 1 + 1 := by omega
        replace rc0n : ¬ wr.heap.size = w53.heap.size := by omega
        have X53 : Hid (Ext w w53) := Lib.hid (have hX := (show Ext w _ from (by repeat (first | with_reducible exact X52.out | with_reducible refine Ext.drew ?_ | with_reducible refine Ext.drewN ?_ _ | with_reducible refine Ext.alloc ?_ _ | with_reducible refine Ext.setCell ?_ (by first | omega | (simp; done) | (simp; omega)) _))); Below.trans hX (hx53.below (Ext.size hX) (fun k hk hh => by have hh2 : k = g := hh; omega)))
        replace HO := Lib.hid (OwnR.but (OwnR.butN HO.out (by repeat (first | with_reducible exact But.refl _ _ | with_reducible refine But.drew ?_ | with_reducible refine But.drewN ?_ _ | with_reducible refine But.alloc ?_ _ | with_reducible refine But.setCell ?_ (by first | exact Nat.le_refl _ | (dsimp only; omega)) _ | with_reducible refine But.setNew ?_ (by first | omega | (simp; done) | (simp; omega)) _))) hx53 (by intro j h1 h2 hh; have h3 : j = g := hh; omega))
        clear HRd
        have HRd := Lib.hid hRd
        clear c0_4f c0_1f c0_2f c0_3f hsz53 X52 hx53 z53 hRd
        go_wp2_with fail
        (with_reducible refine (rU_e g k3 k4 L f3 f4 xi hL Gxi.out Gk4.out Gf4.out _ (RRd.butN HRd.out (by repeat (first | with_reducible exact But.refl _ _ | with_reducible refine But.drew ?_ | with_reducible refine But.drewN ?_ _ | with_reducible refine But.alloc ?_ _ | with_reducible refine But.setCell ?_ (by first | exact Nat.le_refl _ | (dsimp only; omega)) _ | with_reducible refine But.setNew ?_ (by first | omega | (simp; done) | (simp; omega)) _)))).mono ?_)
        rintro e w54 ⟨rfl, hRd, hx54⟩
        have hsz54 := hx54.size
        try simp at hsz54
        replace y_0f : w54.frozen? ⟨w.heap.size, 0, none⟩ = false := hx54.froz (by show ¬ _ = _; first | assumption | omega) (v := .int .i64 0) (by first | with_reducible exact y_0 | (simp [go_sem, World.cell?_alloc_past, y_0f, y_1f, y_0, y_1, c0_5f, c0_6f, c0_7f, c0_0, c0_1, c0_2, c0_3, c0_4, c0_5, c0_6, c0_7, ne_y_c0, ne_c0_y, ry, rya, ryb, ryc, ryn, rc0, rc0a, rc0b, rc0c, rc0n]; done) | exact y_0) (by first | with_reducible exact y_0f | (simp [go_sem, World.cell?_alloc_past, y_0f, y_1f, y_0, y_1, c0_5f, c0_6f, c0_7f, c0_0, c0_1, c0_2, c0_3, c0_4, c0_5, c0_6, c0_7, ne_y_c0, ne_c0_y, ry, rya, ryb, ryc, ryn, rc0, rc0a, rc0b, rc0c, rc0n]; done) | exact y_0f)
        replace y_1f : w54.frozen? ⟨w.heap.size, 1, none⟩ = false := hx54.froz (by show ¬ _ = _; first | assumption | omega) (v := .int .i64 0) (by first | with_reducible exact y_1 | (simp [go_sem, World.cell?_alloc_past, y_0f, y_1f, y_0, y_1, c0_5f, c0_6f, c0_7f, c0_0, c0_1, c0_2, c0_3, c0_4, c0_5, c0_6, c0_7, ne_y_c0, ne_c0_y, ry, rya, ryb, ryc, ryn, rc0, rc0a, rc0b, rc0c, rc0n]; done) | exact y_1) (by first | with_reducible exact y_1f | (simp [go_sem, World.cell?_alloc_past, y_0f, y_1f, y_0, y_1, c0_5f, c0_6f, c0_7f, c0_0, c0_1, c0_2, c0_3, c0_4, c0_5, c0_6, c0_7, ne_y_c0, ne_c0_y, ry, rya, ryb, ryc, ryn, rc0, rc0a, rc0b, rc0c, rc0n]; done) | exact y_1f)
        replace y_0 : w54.cell? ⟨w.heap.size, 0, none⟩ = some (.int .i64 0) := hx54.has (by show ¬ _ = _; first | assumption | omega) (by first | with_reducible exact y_0 | (simp [go_sem, World.cell?_alloc_past, y_0f, y_1f, y_0, y_1, c0_5f, c0_6f, c0_7f, c0_0, c0_1, c0_2, c0_3, c0_4, c0_5, c0_6, c0_7, ne_y_c0, ne_c0_y, ry, rya, ryb, ryc, ryn, rc0, rc0a, rc0b, rc0c, rc0n]; done) | exact y_0)
        replace y_1 : w54.cell? ⟨w.heap.size, 1, none⟩ = some (.int .i64 0) := hx54.has (by show ¬ _ = _; first | assumption | omega) (by first | with_reducible exact y_1 | (simp [go_sem, World.cell?_alloc_past, y_0f, y_1f, y_0, y_1, c0_5f, c0_6f, c0_7f, c0_0, c0_1, c0_2, c0_3, c0_4, c0_5, c0_6, c0_7, ne_y_c0, ne_c0_y, ry, rya, ryb, ryc, ryn, rc0, rc0a, rc0b, rc0c, rc0n]; done) | exact y_1)
        replace c0_6f : w54.frozen? ⟨wr.heap.size, 6, none⟩ = false := hx54.froz (by show ¬ _ = _; first | assumption | omega) (v := .int .u64 0) (by first | with_reducible exact c0_6 | (simp [go_sem, World.cell?_alloc_past, y_0f, y_1f, y_0, y_1, c0_5f, c0_6f, c0_7f, c0_0, c0_1, c0_2, c0_3, c0_4, c0_5, c0_6, c0_7, ne_y_c0, ne_c0_y, ry, rya, ryb, ryc, ryn, rc0, rc0a, rc0b, rc0c, rc0n]; done) | exact c0_6) (by first | with_reducible exact c0_6f | (simp [go_sem, World.cell?_alloc_past, y_0f, y_1f, y_0, y_1, c0_5f, c0_6f, c0_7f, c0_0, c0_1, c0_2, c0_3, c0_4, c0_5, c0_6, c0_7, ne_y_c0, ne_c0_y, ry, rya, ryb, ryc, ryn, rc0, rc0a, rc0b, rc0c, rc0n]; done) | exact c0_6f)
        replace c0_7f : w54.frozen? ⟨wr.heap.size, 7, none⟩ = false := hx54.froz (by show ¬ _ = _; first | assumption | omega) (v := .int .u64 0) (by first | with_reducible exact c0_7 | (simp [go_sem, World.cell?_alloc_past, y_0f, y_1f, y_0, y_1, c0_5f, c0_6f, c0_7f, c0_0, c0_1, c0_2, c0_3, c0_4, c0_5, c0_6, c0_7, ne_y_c0, ne_c0_y, ry, rya, ryb, ryc, ryn, rc0, rc0a, rc0b, rc0c, rc0n]; done) | exact c0_7) (by first | with_reducible exact c0_7f | (simp [go_sem, World.cell?_alloc_past, y_0f, y_1f, y_0, y_1, c0_5f, c0_6f, c0_7f, c0_0, c0_1, c0_2, c0_3, c0_4, c0_5, c0_6, c0_7, ne_y_c0, ne_c0_y, ry, rya, ryb, ryc, ryn, rc0, rc0a, rc0b, rc0c, rc0n]; done) | exact c0_7f)
        replace c0_0 : w54.cell? ⟨wr.heap.size, 0, none⟩ = some (.int .i64 xo) := hx54.has (by show ¬ _ = _; first | assumption | omega) (by first | with_reducible exact c0_0 | (simp [go_sem, World.cell?_alloc_past, y_0f, y_1f, y_0, y_1, c0_5f, c0_6f, c0_7f, c0_0, c0_1, c0_2, c0_3, c0_4, c0_5, c0_6, c0_7, ne_y_c0, ne_c0_y, ry, rya, ryb, ryc, ryn, rc0, rc0a, rc0b, rc0c, rc0n]; done) | exact c0_0)
        replace c0_1 : w54.cell? ⟨wr.heap.size, 1, none⟩ = some (.int .i64 xv) := hx54.has (by show ¬ _ = _; first | assumption | omega) (by first | with_reducible exact c0_1 | (simp [go_sem, World.cell?_alloc_past, y_0f, y_1f, y_0, y_1, c0_5f, c0_6f, c0_7f, c0_0, c0_1, c0_2, c0_3, c0_4, c0_5, c0_6, c0_7, ne_y_c0, ne_c0_y, ry, rya, ryb, ryc, ryn, rc0, rc0a, rc0b, rc0c, rc0n]; done) | exact c0_1)
        replace c0_2 : w54.cell? ⟨wr.heap.size, 2, none⟩ = some (.int .i64 xs) := hx54.has (by show ¬ _ = _; first | assumption | omega) (by first | with_reducible exact c0_2 | (simp [go_sem, World.cell?_alloc_past, y_0f, y_1f, y_0, y_1, c0_5f, c0_6f, c0_7f, c0_0, c0_1, c0_2, c0_3, c0_4, c0_5, c0_6, c0_7, ne_y_c0, ne_c0_y, ry, rya, ryb, ryc, ryn, rc0, rc0a, rc0b, rc0c, rc0n]; done) | exact c0_2)
        replace c0_3 : w54.cell? ⟨wr.heap.size, 3, none⟩ = some (.int .i64 xp) := hx54.has (by show ¬ _ = _; first | assumption | omega) (by first | with_reducible exact c0_3 | (simp [go_sem, World.cell?_alloc_past, y_0f, y_1f, y_0, y_1, c0_5f, c0_6f, c0_7f, c0_0, c0_1, c0_2, c0_3, c0_4, c0_5, c0_6, c0_7, ne_y_c0, ne_c0_y, ry, rya, ryb, ryc, ryn, rc0, rc0a, rc0b, rc0c, rc0n]; done) | exact c0_3)
        replace c0_4 : w54.cell? ⟨wr.heap.size, 4, none⟩ = some (.int .i64 xf) := hx54.has (by show ¬ _ = _; first | assumption | omega) (by first | with_reducible exact c0_4 | (simp [go_sem, World.cell?_alloc_past, y_0f, y_1f, y_0, y_1, c0_5f, c0_6f, c0_7f, c0_0, c0_1, c0_2, c0_3, c0_4, c0_5, c0_6, c0_7, ne_y_c0, ne_c0_y, ry, rya, ryb, ryc, ryn, rc0, rc0a, rc0b, rc0c, rc0n]; done) | exact c0_4)
        replace c0_5 : w54.cell? ⟨wr.heap.size, 5, none⟩ = some (.int .i64 xc) := hx54.has (by show ¬ _ = _; first | assumption | omega) (by first | with_reducible exact c0_5 | (simp [go_sem, World.cell?_alloc_past, y_0f, y_1f, y_0, y_1, c0_5f, c0_6f, c0_7f, c0_0, c0_1, c0_2, c0_3, c0_4, c0_5, c0_6, c0_7, ne_y_c0, ne_c0_y, ry, rya, ryb, ryc, ryn, rc0, rc0a, rc0b, rc0c, rc0n]; done) | exact c0_5)
        replace c0_6 : w54.cell? ⟨wr.heap.size, 6, none⟩ = some (.int .u64 0) := hx54.has (by show ¬ _ = _; first | assumption | omega) (by first | with_reducible exact c0_6 | (simp [go_sem, World.cell?_alloc_past, y_0f, y_1f, y_0, y_1, c0_5f, c0_6f, c0_7f, c0_0, c0_1, c0_2, c0_3, c0_4, c0_5, c0_6, c0_7, ne_y_c0, ne_c0_y, ry, rya, ryb, ryc, ryn, rc0, rc0a, rc0b, rc0c, rc0n]; done) | exact c0_6)
        replace c0_7 : w54.cell? ⟨wr.heap.size, 7, none⟩ = some (.int .u64 0) := hx54.has (by show ¬ _ = _; first | assumption | omega) (by first | with_reducible exact c0_7 | (simp [go_sem, World.cell?_alloc_past, y_0f, y_1f, y_0, y_1, c0_5f, c0_6f, c0_7f, c0_0, c0_1, c0_2, c0_3, c0_4, c0_5, c0_6, c0_7, ne_y_c0, ne_c0_y, ry, rya, ryb, ryc, ryn, rc0, rc0a, rc0b, rc0c, rc0n]; done) | exact c0_7)
        have z54 := hx54.size
        try simp at z54
        replace ry : w.heap.size < w54.heap.size := by omega
        replace rya : w.heap.size < w54.heap.size + 1 := by omega
        replace ryb : w.heap.size < w54.heap.size + 1 + 1 := by omega
        replace ryc : w.heap.size < w54.heap.size + 1 + 1 + 1 := by omega
        replace ryn : ¬ w.heap.size = w54.heap.size := by omega
        replace rc0 : wr.heap.size < w54.heap.size := by omega
        replace rc0a : wr.heap.size < w54.heap.size + 1 := by omega
        replace rc0b : wr.heap.size < w54.heap.size + 1 + 1 := by omega
        replace rc0c : wr.heap.size < w54.heap.size + 1 + 1 + 1 := by omega
        replace rc0n : ¬ wr.heap.size = w54.heap.size := by omega
        have X54 : Hid (Ext w w54) := Lib.hid (have hX := (show Ext w _ from (by repeat (first | with_reducible exact X53.out | with_reducible refine Ext.drew ?_ | with_reducible refine Ext.drewN ?_ _ | with_reducible refine Ext.alloc ?_ _ | with_reducible refine Ext.setCell ?_ (by first | omega | (simp; done) | (simp; omega)) _))); Below.trans hX (hx54.below (Ext.size hX) (fun k hk hh => by have hh2 : k = g := hh; omega)))
        replace HO := Lib.hid (OwnR.but (OwnR.butN HO.out (by repeat (first | with_reducible exact But.refl _ _ | with_reducible refine But.drew ?_ | with_reducible refine But.drewN ?_ _ | with_reducible refine But.alloc ?_ _ | with_reducible refine But.setCell ?_ (by first | exact Nat.le_refl _ | (dsimp only; omega)) _ | with_reducible refine But.setNew ?_ (by first | omega | (simp; done) | (simp; omega)) _))) hx54 (by intro j h1 h2 hh; have h3 : j = g := hh; omega))
        clear HRd
        have HRd := Lib.hid hRd
        clear c0_5f hsz54 X53 hx54 z54 hRd
        go_wp2_with fail
        (with_reducible refine (rU_e g k4 k5 L f4 f5 xb hL Gxb.out Gk5.out Gf5.out _ (RRd.butN HRd.out (by repeat (first | with_reducible exact But.refl _ _ | with_reducible refine But.drew ?_ | with_reducible refine But.drewN ?_ _ | with_reducible refine But.alloc ?_ _ | with_reducible refine But.setCell ?_ (by first | exact Nat.le_refl _ | (dsimp only; omega)) _ | with_reducible refine But.setNew ?_ (by first | omega | (simp; done) | (simp; omega)) _)))).mono ?_)
        rintro e w55 ⟨rfl, hRd, hx55⟩
        have hsz55 := hx55.size
        try simp at hsz55
        replace y_0f : w55.frozen? ⟨w.heap.size, 0, none⟩ = false := hx55.froz (by show ¬ _ = _; first | assumption | omega) (v := .int .i64 0) (by first | with_reducible exact y_0 | (simp [go_sem, World.cell?_alloc_past, y_0f, y_1f, y_0, y_1, c0_6f, c0_7f, c0_0, c0_1, c0_2, c0_3, c0_4, c0_5, c0_6, c0_7, ne_y_c0, ne_c0_y, ry, rya, ryb, ryc, ryn, rc0, rc0a, rc0b, rc0c, rc0n]; done) | exact y_0) (by first | with_reducible exact y_0f | (simp [go_sem, World.cell?_alloc_past, y_0f, y_1f, y_0, y_1, c0_6f, c0_7f, c0_0, c0_1, c0_2, c0_3, c0_4, c0_5, c0_6, c0_7, ne_y_c0, ne_c0_y, ry, rya, ryb, ryc, ryn, rc0, rc0a, rc0b, rc0c, rc0n]; done) | exact y_0f)
        replace y_1f : w55.frozen? ⟨w.heap.size, 1, none⟩ = false := hx55.froz (by show ¬ _ = _; first | assumption | omega) (v := .int .i64 0) (by first | with_reducible exact y_1 | (simp [go_sem, World.cell?_alloc_past, y_0f, y_1f, y_0, y_1, c0_6f, c0_7f, c0_0, c0_1, c0_2, c0_3, c0_4, c0_5, c0_6, c0_7, ne_y_c0, ne_c0_y, ry, rya, ryb, ryc, ryn, rc0, rc0a, rc0b, rc0c, rc0n]; done) | exact y_1) (by first | with_reducible exact y_1f | (simp [go_sem, World.cell?_alloc_past, y_0f, y_1f, y_0, y_1, c0_6f, c0_7f, c0_0, c0_1, c0_2, c0_3, c0_4, c0_5, c0_6, c0_7, ne_y_c0, ne_c0_y, ry, rya, ryb, ryc, ryn, rc0, rc0a, rc0b, rc0c, rc0n]; done) | exact y_1f)
        replace y_0 : w55.cell? ⟨w.heap.size, 0, none⟩ = some (.int .i64 0) := hx55.has (by show ¬ _ = _; first | assumption | omega) (by first | with_reducible exact y_0 | (simp [go_sem, World.cell?_alloc_past, y_0f, y_1f, y_0, y_1, c0_6f, c0_7f, c0_0, c0_1, c0_2, c0_3, c0_4, c0_5, c0_6, c0_7, ne_y_c0, ne_c0_y, ry, rya, ryb, ryc, ryn, rc0, rc0a, rc0b, rc0c, rc0n]; done) | exact y_0)
        replace y_1 : w55.cell? ⟨w.heap.size, 1, none⟩ = some (.int .i64 0) := hx55.has (by show ¬ _ = _; first | assumption | omega) (by first | with_reducible exact y_1 | (simp [go_sem, World.cell?_alloc_past, y_0f, y_1f, y_0, y_1, c0_6f, c0_7f, c0_0, c0_1, c0_2, c0_3, c0_4, c0_5, c0_6, c0_7, ne_y_c0, ne_c0_y, ry, rya, ryb, ryc, ryn, rc0, rc0a, rc0b, rc0c, rc0n]; done) | exact y_1)
        replace c0_7f : w55.frozen? ⟨wr.heap.size, 7, none⟩ = false := hx55.froz (by show ¬ _ = _; first | assumption | omega) (v := .int .u64 0) (by first | with_reducible exact c0_7 | (simp [go_sem, World.cell?_alloc_past, y_0f, y_1f, y_0, y_1, c0_6f, c0_7f, c0_0, c0_1, c0_2, c0_3, c0_4, c0_5, c0_6, c0_7, ne_y_c0, ne_c0_y, ry, rya, ryb, ryc, ryn, rc0, rc0a, rc0b, rc0c, rc0n]; done) | exact c0_7) (by first | with_reducible exact c0_7f | (simp [go_sem, World.cell?_alloc_past, y_0f, y_1f, y_0, y_1, c0_6f, c0_7f, c0_0, c0_1, c0_2, c0_3, c0_4, c0_5, c0_6, c0_7, ne_y_c0, ne_c0_y, ry, rya, ryb, ryc, ryn, rc0, rc0a, rc0b, rc0c, rc0n]; done) | exact c0_7f)
        replace c0_0 : w55.cell? ⟨wr.heap.size, 0, none⟩ = some (.int .i64 xo) := hx55.has (by show ¬ _ = _; first | assumption | omega) (by first | with_reducible exact c0_0 | (simp [go_sem, World.cell?_alloc_past, y_0f, y_1f, y_0, y_1, c0_6f, c0_7f, c0_0, c0_1, c0_2, c0_3, c0_4, c0_5, c0_6, c0_7, ne_y_c0, ne_c0_y, ry, rya, ryb, ryc, ryn, rc0, rc0a, rc0b, rc0c, rc0n]; done) | exact c0_0)
        replace c0_1 : w55.cell? ⟨wr.heap.size, 1, none⟩ = some (.int .i64 xv) := hx55.has (by show ¬ _ = _; first | assumption | omega) (by first | with_reducible exact c0_1 | (simp [go_sem, World.cell?_alloc_past, y_0f, y_1f, y_0, y_1, c0_6f, c0_7f, c0_0, c0_1, c0_2, c0_3, c0_4, c0_5, c0_6, c0_7, ne_y_c0, ne_c0_y, ry, rya, ryb, ryc, ryn, rc0, rc0a, rc0b, rc0c, rc0n]; done) | exact c0_1)
        replace c0_2 : w55.cell? ⟨wr.heap.size, 2, none⟩ = some (.int .i64 xs) := hx55.has (by show ¬ _ = _; first | assumption | omega) (by first | with_reducible exact c0_2 | (simp [go_sem, World.cell?_alloc_past, y_0f, y_1f, y_0, y_1, c0_6f, c0_7f, c0_0, c0_1, c0_2, c0_3, c0_4, c0_5, c0_6, c0_7, ne_y_c0, ne_c0_y, ry, rya, ryb, ryc, ryn, rc0, rc0a, rc0b, rc0c, rc0n]; done) | exact c0_2)
        replace c0_3 : w55.cell? ⟨wr.heap.size, 3, none⟩ = some (.int .i64 xp) := hx55.has (by show ¬ _ = _; first | assumption | omega) (by first | with_reducible exact c0_3 | (simp [go_sem, World.cell?_alloc_past, y_0f, y_1f, y_0, y_1, c0_6f, c0_7f, c0_0, c0_1, c0_2, c0_3, c0_4, c0_5, c0_6, c0_7, ne_y_c0, ne_c0_y, ry, rya, ryb, ryc, ryn, rc0, rc0a, rc0b, rc0c, rc0n]; done) | exact c0_3)
        replace c0_4 : w55.cell? ⟨wr.heap.size, 4, none⟩ = some (.int .i64 xf) := hx55.has (by show ¬ _ = _; first | assumption | omega) (by first | with_reducible exact c0_4 | (simp [go_sem, World.cell?_alloc_past, y_0f, y_1f, y_0, y_1, c0_6f, c0_7f, c0_0, c0_1, c0_2, c0_3, c0_4, c0_5, c0_6, c0_7, ne_y_c0, ne_c0_y, ry, rya, ryb, ryc, ryn, rc0, rc0a, rc0b, rc0c, rc0n]; done) | exact c0_4)
        replace c0_5 : w55.cell? ⟨wr.heap.size, 5, none⟩ = some (.int .i64 xc) := hx55.has (by show ¬ _ = _; first | assumption | omega) (by first | with_reducible exact c0_5 | (simp [go_sem, World.cell?_alloc_past, y_0f, y_1f, y_0, y_1, c0_6f, c0_7f, c0_0, c0_1, c0_2, c0_3, c0_4, c0_5, c0_6, c0_7, ne_y_c0, ne_c0_y, ry, rya, ryb, ryc, ryn, rc0, rc0a, rc0b, rc0c, rc0n]; done) | exact c0_5)
        replace c0_6 : w55.cell? ⟨wr.heap.size, 6, none⟩ = some (.int .u64 xi) := hx55.has (by show ¬ _ = _; first | assumption | omega) (by first | with_reducible exact c0_6 | (simp [go_sem, World.cell?_alloc_past, y_0f, y_1f, y_0, y_1, c0_6f, c0_7f, c0_0, c0_1, c0_2, c0_3, c0_4, c0_5, c0_6, c0_7, ne_y_c0, ne_c0_y, ry, rya, ryb, ryc, ryn, rc0, rc0a, rc0b, rc0c, rc0n]; done) | exact c0_6)
        replace c0_7 : w55.cell? ⟨wr.heap.size, 7, none⟩ = some (.int .u64 0) := hx55.has (by show ¬ _ = _; first | assumption | omega) (by first | with_reducible exact c0_7 | (simp [go_sem, World.cell?_alloc_past, y_0f, y_1f, y_0, y_1, c0_6f, c0_7f, c0_0, c0_1, c0_2, c0_3, c0_4, c0_5, c0_6, c0_7, ne_y_c0, ne_c0_y, ry, rya, ryb, ryc, ryn, rc0, rc0a, rc0b, rc0c, rc0n]; done) | exact c0_7)
        have z55 := hx55.size
        try simp at z55
        replace ry : w.heap.size < w55.heap.size := by omega
        replace rya : w.heap.size < w55.heap.size + 1 := by omega
        replace ryb : w.heap.size < w55.heap.size + 1 + 1 := by omega
        replace ryc : w.heap.size < w55.heap.size + 1 + 1 + 1 := by omega
        replace ryn : ¬ w.heap.size = w55.heap.size := by omega
        replace rc0 : wr.heap.size < w55.heap.size := by omega
        replace rc0a : wr.heap.size < w55.heap.size + 1 := by omega
        replace rc0b : wr.heap.size < w55.heap.size + 1 + 1 := by omega
        replace rc0c : wr.heap.size < w55.heap.size + 1 + 1 + 1 := by omega
        replace rc0n : ¬ wr.heap.size = w55.heap.size := by omega
        have X55 : Hid (Ext w w55) := Lib.hid (have hX := (show Ext w _ from (by repeat (first | with_reducible exact X54.out | with_reducible refine Ext.drew ?_ | with_reducible refine Ext.drewN ?_ _ | with_reducible refine Ext.alloc ?_ _ | with_reducible refine Ext.setCell ?_ (by first | omega | (simp; done) | (simp; omega)) _))); Below.trans hX (hx55.below (Ext.size hX) (fun k hk hh => by have hh2 : k = g := hh; omega)))
        replace HO := Lib.hid (OwnR.but (OwnR.butN HO.out (by repeat (first | with_reducible exact But.refl _ _ | with_reducible refine But.drew ?_ | with_reducible refine But.drewN ?_ _ | with_reducible refine But.alloc ?_ _ | with_reducible refine But.setCell ?_ (by first | exact Nat.le_refl _ | (dsimp only; omega)) _ | with_reducible refine But.setNew ?_ (by first | omega | (simp; done) | (simp; omega)) _))) hx55 (by intro j h1 h2 hh; have h3 : j = g := hh; omega))
        clear HRd
        have HRd := Lib.hid hRd
        clear c0_6f hsz55 X54 hx55 z55 hRd
        have gg_2 := HRd.out.c2
        rw [← G5.out] at gg_2
        by_cases h5n : f5 = none
        · have E50 : E5 = 0 := by rw [G5.out, h5n]; rfl
          have e57 : (E5 == 0) = true := by simp [E50]
          have GN2 := Lib.hid (QI.go GQ.out (by have h := GS.out; rw [h5n] at h; exact h) GE.out)
          subst h5n
          go_wp2_with fail
          refine wp_region_held_drew (S := fun w' => w'.cell? ⟨wr.heap.size, 0, none⟩ = some (.int .i64 xo) ∧ w'.cell? ⟨wr.heap.size, 1, none⟩ = some (.int .i64 xv) ∧ w'.cell? ⟨wr.heap.size, 2, none⟩ = some (.int .i64 xs) ∧ w'.cell? ⟨wr.heap.size, 3, none⟩ = some (.int .i64 xp) ∧ w'.cell? ⟨wr.heap.size, 4, none⟩ = some (.int .i64 xf) ∧ w'.cell? ⟨wr.heap.size, 5, none⟩ = some (.int .i64 xc) ∧ w'.cell? ⟨wr.heap.size, 6, none⟩ = some (.int .u64 xi) ∧ w'.cell? ⟨wr.heap.size, 7, none⟩ = some (.int .u64 xb)) (by kernel_rfl) (by first | exact ⟨c0_0, c0_1, c0_2, c0_3, c0_4, c0_5, c0_6, c0_7⟩ | (simp [go_sem, World.cell?_alloc_past, y_0f, y_1f, y_0, y_1, c0_7f, c0_0, c0_1, c0_2, c0_3, c0_4, c0_5, c0_6, c0_7, ne_y_c0, ne_c0_y, ry, rya, ryb, ryc, ryn, rc0, rc0a, rc0b, rc0c, rc0n, gg_2]; done)) (fun hHeld => ?_)
          (refine' take_in 0 rfl (by kernel_rfl) (by kernel_rfl) (by kernel_rfl) (fun _ _ _ h => h) (by rfl) (by assumption) ?_ ?_; rotate_left; focus (intro w hSw; (try dsimp only at hSw); go_simp; try with_reducible rfl)); try simp only [Act.put, List.setIfInBounds_toArray, List.set_cons_zero, List.set_cons_succ]
          (refine' take_in 1 rfl (by kernel_rfl) (by kernel_rfl) (by kernel_rfl) (fun _ _ _ h => h) (by rfl) (by assumption) ?_ ?_; rotate_left; focus (intro w hSw; (try dsimp only at hSw); go_simp; try with_reducible rfl)); try simp only [Act.put, List.setIfInBounds_toArray, List.set_cons_zero, List.set_cons_succ]
          (refine' take_in 2 rfl (by kernel_rfl) (by kernel_rfl) (by kernel_rfl) (fun _ _ _ h => h) (by rfl) (by assumption) ?_ ?_; rotate_left; focus (intro w hSw; (try dsimp only at hSw); go_simp; try with_reducible rfl)); try simp only [Act.put, List.setIfInBounds_toArray, List.set_cons_zero, List.set_cons_succ]
          (refine' take_in 5 rfl (by kernel_rfl) (by kernel_rfl) (by kernel_rfl) (fun _ _ _ h => h) (by rfl) (by assumption) ?_ ?_; rotate_left; focus (intro w hSw; (try dsimp only at hSw); go_simp; try with_reducible rfl)); try simp only [Act.put, List.setIfInBounds_toArray, List.set_cons_zero, List.set_cons_succ]
          refine' next_in 3 rfl (by kernel_rfl) (by rfl) (fun K hK => ?_)
          go_simp
          (with_reducible refine (rLast_ev A9 out.length c9 out (lastQ out) _ (Sl.own (OwnR.own (OwnR.butN HO.out (by repeat (first | with_reducible exact But.refl _ _ | with_reducible refine But.drew ?_ | with_reducible refine But.drewN ?_ _ | with_reducible refine But.alloc ?_ _ | with_reducible refine But.setCell ?_ (by first | exact Nat.le_refl _ | (dsimp only; omega)) _ | with_reducible refine But.setNew ?_ (by first | omega | (simp; done) | (simp; omega)) _))))) rfl).mono ?_)
          rintro e w_2 ⟨rfl, rfl⟩
          refine hK.out _ _ (by (first | exact ⟨c0_0, c0_1, c0_2, c0_3, c0_4, c0_5, c0_6, c0_7⟩ | (simp [go_sem, World.cell?_alloc_past, y_0f, y_1f, y_0, y_1, c0_7f, c0_0, c0_1, c0_2, c0_3, c0_4, c0_5, c0_6, c0_7, ne_y_c0, ne_c0_y, ry, rya, ryb, ryc, ryn, rc0, rc0a, rc0b, rc0c, rc0n, gg_2]; done))) (fun hHeld => ?_); clear hK K; try simp only [Act.put, List.setIfInBounds_toArray, List.set_cons_zero, List.set_cons_succ]
          refine' next_in 4 rfl (by kernel_rfl) (by rfl) (fun K hK => ?_)
          go_simp
          (with_reducible refine (rOne_ev xo xv xs xp xf xc xi xb (chkS xv xs xp xf) (lastQ out) ev _ rfl GG.out).mono ?_)
          rintro e w56 ⟨rfl, hx56⟩
          replace y_0f : w56.frozen? ⟨w.heap.size, 0, none⟩ = false := hx56.froz (v := .int .i64 0) (by first | with_reducible exact y_0 | (simp [go_sem, World.cell?_alloc_past, y_0f, y_1f, y_0, y_1, c0_7f, c0_0, c0_1, c0_2, c0_3, c0_4, c0_5, c0_6, c0_7, ne_y_c0, ne_c0_y, ry, rya, ryb, ryc, ryn, rc0, rc0a, rc0b, rc0c, rc0n, gg_2]; done) | exact y_0) (by first | with_reducible exact y_0f | (simp [go_sem, World.cell?_alloc_past, y_0f, y_1f, y_0, y_1, c0_7f, c0_0, c0_1, c0_2, c0_3, c0_4, c0_5, c0_6, c0_7, ne_y_c0, ne_c0_y, ry, rya, ryb, ryc, ryn, rc0, rc0a, rc0b, rc0c, rc0n, gg_2]; done) | exact y_0f)
          replace y_1f : w56.frozen? ⟨w.heap.size, 1, none⟩ = false := hx56.froz (v := .int .i64 0) (by first | with_reducible exact y_1 | (simp [go_sem, World.cell?_alloc_past, y_0f, y_1f, y_0, y_1, c0_7f, c0_0, c0_1, c0_2, c0_3, c0_4, c0_5, c0_6, c0_7, ne_y_c0, ne_c0_y, ry, rya, ryb, ryc, ryn, rc0, rc0a, rc0b, rc0c, rc0n, gg_2]; done) | exact y_1) (by first | with_reducible exact y_1f | (simp [go_sem, World.cell?_alloc_past, y_0f, y_1f, y_0, y_1, c0_7f, c0_0, c0_1, c0_2, c0_3, c0_4, c0_5, c0_6, c0_7, ne_y_c0, ne_c0_y, ry, rya, ryb, ryc, ryn, rc0, rc0a, rc0b, rc0c, rc0n, gg_2]; done) | exact y_1f)
          replace y_0 : w56.cell? ⟨w.heap.size, 0, none⟩ = some (.int .i64 0) := hx56.has (by first | with_reducible exact y_0 | (simp [go_sem, World.cell?_alloc_past, y_0f, y_1f, y_0, y_1, c0_7f, c0_0, c0_1, c0_2, c0_3, c0_4, c0_5, c0_6, c0_7, ne_y_c0, ne_c0_y, ry, rya, ryb, ryc, ryn, rc0, rc0a, rc0b, rc0c, rc0n, gg_2]; done) | exact y_0)
          replace y_1 : w56.cell? ⟨w.heap.size, 1, none⟩ = some (.int .i64 0) := hx56.has (by first | with_reducible exact y_1 | (simp [go_sem, World.cell?_alloc_past, y_0f, y_1f, y_0, y_1, c0_7f, c0_0, c0_1, c0_2, c0_3, c0_4, c0_5, c0_6, c0_7, ne_y_c0, ne_c0_y, ry, rya, ryb, ryc, ryn, rc0, rc0a, rc0b, rc0c, rc0n, gg_2]; done) | exact y_1)
          replace c0_0 : w56.cell? ⟨wr.heap.size, 0, none⟩ = some (.int .i64 xo) := hx56.has (by first | with_reducible exact c0_0 | (simp [go_sem, World.cell?_alloc_past, y_0f, y_1f, y_0, y_1, c0_7f, c0_0, c0_1, c0_2, c0_3, c0_4, c0_5, c0_6, c0_7, ne_y_c0, ne_c0_y, ry, rya, ryb, ryc, ryn, rc0, rc0a, rc0b, rc0c, rc0n, gg_2]; done) | exact c0_0)
          replace c0_1 : w56.cell? ⟨wr.heap.size, 1, none⟩ = some (.int .i64 xv) := hx56.has (by first | with_reducible exact c0_1 | (simp [go_sem, World.cell?_alloc_past, y_0f, y_1f, y_0, y_1, c0_7f, c0_0, c0_1, c0_2, c0_3, c0_4, c0_5, c0_6, c0_7, ne_y_c0, ne_c0_y, ry, rya, ryb, ryc, ryn, rc0, rc0a, rc0b, rc0c, rc0n, gg_2]; done) | exact c0_1)
          replace c0_2 : w56.cell? ⟨wr.heap.size, 2, none⟩ = some (.int .i64 xs) := hx56.has (by first | with_reducible exact c0_2 | (simp [go_sem, World.cell?_alloc_past, y_0f, y_1f, y_0, y_1, c0_7f, c0_0, c0_1, c0_2, c0_3, c0_4, c0_5, c0_6, c0_7, ne_y_c0, ne_c0_y, ry, rya, ryb, ryc, ryn, rc0, rc0a, rc0b, rc0c, rc0n, gg_2]; done) | exact c0_2)
          replace c0_3 : w56.cell? ⟨wr.heap.size, 3, none⟩ = some (.int .i64 xp) := hx56.has (by first | with_reducible exact c0_3 | (simp [go_sem, World.cell?_alloc_past, y_0f, y_1f, y_0, y_1, c0_7f, c0_0, c0_1, c0_2, c0_3, c0_4, c0_5, c0_6, c0_7, ne_y_c0, ne_c0_y, ry, rya, ryb, ryc, ryn, rc0, rc0a, rc0b, rc0c, rc0n, gg_2]; done) | exact c0_3)
          replace c0_4 : w56.cell? ⟨wr.heap.size, 4, none⟩ = some (.int .i64 xf) := hx56.has (by first | with_reducible exact c0_4 | (simp [go_sem, World.cell?_alloc_past, y_0f, y_1f, y_0, y_1, c0_7f, c0_0, c0_1, c0_2, c0_3, c0_4, c0_5, c0_6, c0_7, ne_y_c0, ne_c0_y, ry, rya, ryb, ryc, ryn, rc0, rc0a, rc0b, rc0c, rc0n, gg_2]; done) | exact c0_4)
          replace c0_5 : w56.cell? ⟨wr.heap.size, 5, none⟩ = some (.int .i64 xc) := hx56.has (by first | with_reducible exact c0_5 | (simp [go_sem, World.cell?_alloc_past, y_0f, y_1f, y_0, y_1, c0_7f, c0_0, c0_1, c0_2, c0_3, c0_4, c0_5, c0_6, c0_7, ne_y_c0, ne_c0_y, ry, rya, ryb, ryc, ryn, rc0, rc0a, rc0b, rc0c, rc0n, gg_2]; done) | exact c0_5)
          replace c0_6 : w56.cell? ⟨wr.heap.size, 6, none⟩ = some (.int .u64 xi) := hx56.has (by first | with_reducible exact c0_6 | (simp [go_sem, World.cell?_alloc_past, y_0f, y_1f, y_0, y_1, c0_7f, c0_0, c0_1, c0_2, c0_3, c0_4, c0_5, c0_6, c0_7, ne_y_c0, ne_c0_y, ry, rya, ryb, ryc, ryn, rc0, rc0a, rc0b, rc0c, rc0n, gg_2]; done) | exact c0_6)
          replace c0_7 : w56.cell? ⟨wr.heap.size, 7, none⟩ = some (.int .u64 xb) := hx56.has (by first | with_reducible exact c0_7 | (simp [go_sem, World.cell?_alloc_past, y_0f, y_1f, y_0, y_1, c0_7f, c0_0, c0_1, c0_2, c0_3, c0_4, c0_5, c0_6, c0_7, ne_y_c0, ne_c0_y, ry, rya, ryb, ryc, ryn, rc0, rc0a, rc0b, rc0c, rc0n, gg_2]; done) | exact c0_7)
          have z56 := hx56.size
          try simp at z56
          replace ry : w.heap.size < w56.heap.size := by omega
          replace rya : w.heap.size < w56.heap.size + 1 := by omega
          replace ryb : w.heap.size < w56.heap.size + 1 + 1 := by omega
          replace ryc : w.heap.size < w56.heap.size + 1 + 1 + 1 := by omega
          replace ryn : ¬ w.heap.size = w56.heap.size := by omega
          replace rc0 : wr.heap.size < w56.heap.size := by omega
          replace rc0a : wr.heap.size < w56.heap.size + 1 := by omega
          replace rc0b : wr.heap.size < w56.heap.size + 1 + 1 := by omega
          replace rc0c : wr.heap.size < w56.heap.size + 1 + 1 + 1 := by omega
          replace rc0n : ¬ wr.heap.size = w56.heap.size := by omega
          replace HO := Lib.hid ((OwnR.butN HO.out (by repeat (first | with_reducible exact But.refl _ _ | with_reducible refine But.drew ?_ | with_reducible refine But.drewN ?_ _ | with_reducible refine But.alloc ?_ _ | with_reducible refine But.setCell ?_ (by first | exact Nat.le_refl _ | (dsimp only; omega)) _ | with_reducible refine But.setNew ?_ (by first | omega | (simp; done) | (simp; omega)) _))).ext hx56)
          replace HRd := Lib.hid ((RRd.butN HRd.out (by repeat (first | with_reducible exact But.refl _ _ | with_reducible refine But.drew ?_ | with_reducible refine But.drewN ?_ _ | with_reducible refine But.alloc ?_ _ | with_reducible refine But.setCell ?_ (by first | exact Nat.le_refl _ | (dsimp only; omega)) _ | with_reducible refine But.setNew ?_ (by first | omega | (simp; done) | (simp; omega)) _))).ext hx56)
          have X56 : Hid (Ext w w56) := Lib.hid (Ext.trans (by repeat (first | with_reducible exact X55.out | with_reducible refine Ext.drew ?_ | with_reducible refine Ext.drewN ?_ _ | with_reducible refine Ext.alloc ?_ _ | with_reducible refine Ext.setCell ?_ (by first | omega | (simp; done) | (simp; omega)) _)) hx56)
          clear gg_2 c0_7f X55 hx56 z56
          refine hK.out _ _ (by (first | exact ⟨c0_0, c0_1, c0_2, c0_3, c0_4, c0_5, c0_6, c0_7⟩ | (simp [go_sem, World.cell?_alloc_past, y_0f, y_1f, y_0, y_1, c0_0, c0_1, c0_2, c0_3, c0_4, c0_5, c0_6, c0_7, ne_y_c0, ne_c0_y, ry, rya, ryb, ryc, ryn, rc0, rc0a, rc0b, rc0c, rc0n]; done))) (fun hHeld => ?_); clear hK K; try simp only [Act.put, List.setIfInBounds_toArray, List.set_cons_zero, List.set_cons_succ]
          refine' next_in 6 rfl (by kernel_rfl) (by rfl) (fun K hK => ?_)
          go_simp
          try clear gg_2
          (with_reducible refine (rFail_any g k5 L none ev (atF none k) _ (RRd.butN HRd.out (by repeat (first | with_reducible exact But.refl _ _ | with_reducible refine But.drew ?_ | with_reducible refine But.drewN ?_ _ | with_reducible refine But.alloc ?_ _ | with_reducible refine But.setCell ?_ (by first | exact Nat.le_refl _ | (dsimp only; omega)) _ | with_reducible refine But.setNew ?_ (by first | omega | (simp; done) | (simp; omega)) _)))).mono ?_)
          rintro e w57 ⟨⟨vv, rfl⟩, hRd, hx57⟩
          have hsz57 := hx57.size
          try simp at hsz57
          replace y_0f : w57.frozen? ⟨w.heap.size, 0, none⟩ = false := hx57.froz (by show ¬ _ = _; first | assumption | omega) (v := .int .i64 0) (by first | with_reducible exact y_0 | (simp [go_sem, World.cell?_alloc_past, y_0f, y_1f, y_0, y_1, c0_0, c0_1, c0_2, c0_3, c0_4, c0_5, c0_6, c0_7, ne_y_c0, ne_c0_y, ry, rya, ryb, ryc, ryn, rc0, rc0a, rc0b, rc0c, rc0n]; done) | exact y_0) (by first | with_reducible exact y_0f | (simp [go_sem, World.cell?_alloc_past, y_0f, y_1f, y_0, y_1, c0_0, c0_1, c0_2, c0_3, c0_4, c0_5, c0_6, c0_7, ne_y_c0, ne_c0_y, ry, rya, ryb, ryc, ryn, rc0, rc0a, rc0b, rc0c, rc0n]; done) | exact y_0f)
          replace y_1f : w57.frozen? ⟨w.heap.size, 1, none⟩ = false := hx57.froz (by show ¬ _ = _; first | assumption | omega) (v := .int .i64 0) (by first | with_reducible exact y_1 | (simp [go_sem, World.cell?_alloc_past, y_0f, y_1f, y_0, y_1, c0_0, c0_1, c0_2, c0_3, c0_4, c0_5, c0_6, c0_7, ne_y_c0, ne_c0_y, ry, rya, ryb, ryc, ryn, rc0, rc0a, rc0b, rc0c, rc0n]; done) | exact y_1) (by first | with_reducible exact y_1f | (simp [go_sem, World.cell?_alloc_past, y_0f, y_1f, y_0, y_1, c0_0, c0_1, c0_2, c0_3, c0_4, c0_5, c0_6, c0_7, ne_y_c0, ne_c0_y, ry, rya, ryb, ryc, ryn, rc0, rc0a, rc0b, rc0c, rc0n]; done) | exact y_1f)
          replace y_0 : w57.cell? ⟨w.heap.size, 0, none⟩ = some (.int .i64 0) := hx57.has (by show ¬ _ = _; first | assumption | omega) (by first | with_reducible exact y_0 | (simp [go_sem, World.cell?_alloc_past, y_0f, y_1f, y_0, y_1, c0_0, c0_1, c0_2, c0_3, c0_4, c0_5, c0_6, c0_7, ne_y_c0, ne_c0_y, ry, rya, ryb, ryc, ryn, rc0, rc0a, rc0b, rc0c, rc0n]; done) | exact y_0)
          replace y_1 : w57.cell? ⟨w.heap.size, 1, none⟩ = some (.int .i64 0) := hx57.has (by show ¬ _ = _; first | assumption | omega) (by first | with_reducible exact y_1 | (simp [go_sem, World.cell?_alloc_past, y_0f, y_1f, y_0, y_1, c0_0, c0_1, c0_2, c0_3, c0_4, c0_5, c0_6, c0_7, ne_y_c0, ne_c0_y, ry, rya, ryb, ryc, ryn, rc0, rc0a, rc0b, rc0c, rc0n]; done) | exact y_1)
          replace c0_0 : w57.cell? ⟨wr.heap.size, 0, none⟩ = some (.int .i64 xo) := hx57.has (by show ¬ _ = _; first | assumption | omega) (by first | with_reducible exact c0_0 | (simp [go_sem, World.cell?_alloc_past, y_0f, y_1f, y_0, y_1, c0_0, c0_1, c0_2, c0_3, c0_4, c0_5, c0_6, c0_7, ne_y_c0, ne_c0_y, ry, rya, ryb, ryc, ryn, rc0, rc0a, rc0b, rc0c, rc0n]; done) | exact c0_0)
          replace c0_1 : w57.cell? ⟨wr.heap.size, 1, none⟩ = some (.int .i64 xv) := hx57.has (by show ¬ _ = _; first | assumption | omega) (by first | with_reducible exact c0_1 | (simp [go_sem, World.cell?_alloc_past, y_0f, y_1f, y_0, y_1, c0_0, c0_1, c0_2, c0_3, c0_4, c0_5, c0_6, c0_7, ne_y_c0, ne_c0_y, ry, rya, ryb, ryc, ryn, rc0, rc0a, rc0b, rc0c, rc0n]; done) | exact c0_1)
          replace c0_2 : w57.cell? ⟨wr.heap.size, 2, none⟩ = some (.int .i64 xs) := hx57.has (by show ¬ _ = _; first | assumption | omega) (by first | with_reducible exact c0_2 | (simp [go_sem, World.cell?_alloc_past, y_0f, y_1f, y_0, y_1, c0_0, c0_1, c0_2, c0_3, c0_4, c0_5, c0_6, c0_7, ne_y_c0, ne_c0_y, ry, rya, ryb, ryc, ryn, rc0, rc0a, rc0b, rc0c, rc0n]; done) | exact c0_2)
          replace c0_3 : w57.cell? ⟨wr.heap.size, 3, none⟩ = some (.int .i64 xp) := hx57.has (by show ¬ _ = _; first | assumption | omega) (by first | with_reducible exact c0_3 | (simp [go_sem, World.cell?_alloc_past, y_0f, y_1f, y_0, y_1, c0_0, c0_1, c0_2, c0_3, c0_4, c0_5, c0_6, c0_7, ne_y_c0, ne_c0_y, ry, rya, ryb, ryc, ryn, rc0, rc0a, rc0b, rc0c, rc0n]; done) | exact c0_3)
          replace c0_4 : w57.cell? ⟨wr.heap.size, 4, none⟩ = some (.int .i64 xf) := hx57.has (by show ¬ _ = _; first | assumption | omega) (by first | with_reducible exact c0_4 | (simp [go_sem, World.cell?_alloc_past, y_0f, y_1f, y_0, y_1, c0_0, c0_1, c0_2, c0_3, c0_4, c0_5, c0_6, c0_7, ne_y_c0, ne_c0_y, ry, rya, ryb, ryc, ryn, rc0, rc0a, rc0b, rc0c, rc0n]; done) | exact c0_4)
          replace c0_5 : w57.cell? ⟨wr.heap.size, 5, none⟩ = some (.int .i64 xc) := hx57.has (by show ¬ _ = _; first | assumption | omega) (by first | with_reducible exact c0_5 | (simp [go_sem, World.cell?_alloc_past, y_0f, y_1f, y_0, y_1, c0_0, c0_1, c0_2, c0_3, c0_4, c0_5, c0_6, c0_7, ne_y_c0, ne_c0_y, ry, rya, ryb, ryc, ryn, rc0, rc0a, rc0b, rc0c, rc0n]; done) | exact c0_5)
          replace c0_6 : w57.cell? ⟨wr.heap.size, 6, none⟩ = some (.int .u64 xi) := hx57.has (by show ¬ _ = _; first | assumption | omega) (by first | with_reducible exact c0_6 | (simp [go_sem, World.cell?_alloc_past, y_0f, y_1f, y_0, y_1, c0_0, c0_1, c0_2, c0_3, c0_4, c0_5, c0_6, c0_7, ne_y_c0, ne_c0_y, ry, rya, ryb, ryc, ryn, rc0, rc0a, rc0b, rc0c, rc0n]; done) | exact c0_6)
          replace c0_7 : w57.cell? ⟨wr.heap.size, 7, none⟩ = some (.int .u64 xb) := hx57.has (by show ¬ _ = _; first | assumption | omega) (by first | with_reducible exact c0_7 | (simp [go_sem, World.cell?_alloc_past, y_0f, y_1f, y_0, y_1, c0_0, c0_1, c0_2, c0_3, c0_4, c0_5, c0_6, c0_7, ne_y_c0, ne_c0_y, ry, rya, ryb, ryc, ryn, rc0, rc0a, rc0b, rc0c, rc0n]; done) | exact c0_7)
          have z57 := hx57.size
          try simp at z57
          replace ry : w.heap.size < w57.heap.size := by omega
          replace rya : w.heap.size < w57.heap.size + 1 := by omega
          replace ryb : w.heap.size < w57.heap.size + 1 + 1 := by omega
          replace ryc : w.heap.size < w57.heap.size + 1 + 1 + 1 := by omega
          replace ryn : ¬ w.heap.size = w57.heap.size := by omega
          replace rc0 : wr.heap.size < w57.heap.size := by omega
          replace rc0a : wr.heap.size < w57.heap.size + 1 := by omega
          replace rc0b : wr.heap.size < w57.heap.size + 1 + 1 := by omega
          replace rc0c : wr.heap.size < w57.heap.size + 1 + 1 + 1 := by omega
          replace rc0n : ¬ wr.heap.size = w57.heap.size := by omega
          have X57 : Hid (Ext w w57) := Lib.hid (have hX := (show Ext w _ from (by repeat (first | with_reducible exact X56.out | with_reducible refine Ext.drew ?_ | with_reducible refine Ext.drewN ?_ _ | with_reducible refine Ext.alloc ?_ _ | with_reducible refine Ext.setCell ?_ (by first | omega | (simp; done) | (simp; omega)) _))); Below.trans hX (hx57.below (Ext.size hX) (fun k hk hh => by have hh2 : k = g := hh; omega)))
          replace HO := Lib.hid (OwnR.but (OwnR.butN HO.out (by repeat (first | with_reducible exact But.refl _ _ | with_reducible refine But.drew ?_ | with_reducible refine But.drewN ?_ _ | with_reducible refine But.alloc ?_ _ | with_reducible refine But.setCell ?_ (by first | exact Nat.le_refl _ | (dsimp only; omega)) _ | with_reducible refine But.setNew ?_ (by first | omega | (simp; done) | (simp; omega)) _))) hx57 (by intro j h1 h2 hh; have h3 : j = g := hh; omega))
          clear HRd
          have HRd := Lib.hid hRd
          clear hsz57 X56 hx57 z57 hRd
          refine hK.out _ _ (by (first | exact ⟨c0_0, c0_1, c0_2, c0_3, c0_4, c0_5, c0_6, c0_7⟩ | (simp [go_sem, World.cell?_alloc_past, y_0f, y_1f, y_0, y_1, c0_0, c0_1, c0_2, c0_3, c0_4, c0_5, c0_6, c0_7, ne_y_c0, ne_c0_y, ry, rya, ryb, ryc, ryn, rc0, rc0a, rc0b, rc0c, rc0n]; done))) (fun hHeld => ?_); clear hK K; try simp only [Act.put, List.setIfInBounds_toArray, List.set_cons_zero, List.set_cons_succ]
          refine wpAnyH_done (by kernel_rfl) ?_ _
          go_wp2_with (at_builtin; refine wpList_append_slB _ rfl _ _ 22 rfl (g + 1) 53 i0 (.agg #[.int .i64 0, .int .i64 0, .int .i64 0, .int .i64 0, .int .i64 0, .int .i64 0, .int .u64 0, .int .u64 0]) 8 64 Tryz.underlying22 hi0 hz0 hz1 hz2 rfl (by decide) (.slice A9 out.length c9) out.length _ (by rfl) ((OwnR.butN HO.out (by repeat (first | with_reducible exact But.refl _ _ | with_reducible refine But.drew ?_ | with_reducible refine But.drewN ?_ _ | with_reducible refine But.alloc ?_ _ | with_reducible refine But.setCell ?_ (by first | exact Nat.le_refl _ | (dsimp only; omega)) _ | with_reducible refine But.setNew ?_ (by first | omega | (simp; done) | (simp; omega)) _))).own.alloc _) (some ⟨w57.heap.size, 0, none⟩) 1 1 (entC (xo, xv, xs, xp, xf, xc, xi, xb)) (by first | rfl | (simp [Act.eval]; done) | (simp [Act.eval, go_sem]; done)) (Sl.addrQ (sl_new _ 53 8 #[.int .i64 xo, .int .i64 xv, .int .i64 xs, .int .i64 xp, .int .i64 xf, .int .i64 xc, .int .u64 xi, .int .u64 xb] 1 rfl (by decide)) (by first | rfl | (simp; done))) (by intro u hu; simp [entC] at hu; rcases hu with rfl | rfl | rfl | rfl | rfl | rfl | rfl | rfl <;> rfl) (by omega) (by decide) (by simp; omega) ?_; intro v2 wn hown2 hb2 hn2)
          have HOa := (OwnR.butN HO.out (by repeat (first | with_reducible exact But.refl _ _ | with_reducible refine But.drew ?_ | with_reducible refine But.drewN ?_ _ | with_reducible refine But.alloc ?_ _ | with_reducible refine But.setCell ?_ (by first | exact Nat.le_refl _ | (dsimp only; omega)) _ | with_reducible refine But.setNew ?_ (by first | omega | (simp; done) | (simp; omega)) _))).own.alloc (.cells #[.int .i64 xo, .int .i64 xv, .int .i64 xs, .int .i64 xp, .int .i64 xf, .int .i64 xc, .int .u64 xi, .int .u64 xb] 53)
          have hwb : ¬ (Value.slice A9 out.length c9).ownBlock = some w.heap.size := fun hh => by have := (own_block HOa hh).1; omega
          go_roundg (gk - 1)
          case measure => have := HK.out; omega
          case rel =>
            have e : N - (gk - 1) = j + 1 := by have := HK.out; omega
            rw [e]
            refine ⟨by have := HK.out; omega, num_eq (by have := HK.out; omega), ⟨_, _, _, Lib.hid ?_, Lib.hid ?_, GN2⟩, ⟨?_, ?_, ?_, ?_⟩, ?_⟩
            · exact RRd.butT (RRd.ext (RRd.butN HRd.out (by repeat (first | with_reducible exact But.refl _ _ | with_reducible refine But.drew ?_ | with_reducible refine But.drewN ?_ _ | with_reducible refine But.alloc ?_ _ | with_reducible refine But.setCell ?_ (by first | exact Nat.le_refl _ | (dsimp only; omega)) _ | with_reducible refine But.setNew ?_ (by first | omega | (simp; done) | (simp; omega)) _))) ((Ext.refl _).alloc (.cells #[.int .i64 xo, .int .i64 xv, .int .i64 xs, .int .i64 xp, .int .i64 xf, .int .i64 xc, .int .u64 xi, .int .u64 xb] 53))) hb2 (fun j _ hj => by have := (own_block HOa hj).1; omega)
            · rw [List.length_append]
              unfold OwnEnt
              rw [List.flatMap_append]
              simpa using hown2
            · exact hb2.has hwb (((Ext.refl _).alloc (.cells #[.int .i64 xo, .int .i64 xv, .int .i64 xs, .int .i64 xp, .int .i64 xf, .int .i64 xc, .int .u64 xi, .int .u64 xb] 53)).has (by first | with_reducible exact y_0 | (simp [go_sem, World.cell?_alloc_past, y_0f, y_1f, y_0, y_1, c0_0, c0_1, c0_2, c0_3, c0_4, c0_5, c0_6, c0_7, ne_y_c0, ne_c0_y, ry, rya, ryb, ryc, ryn, rc0, rc0a, rc0b, rc0c, rc0n]; done) | exact y_0))
            · exact hb2.has hwb (((Ext.refl _).alloc (.cells #[.int .i64 xo, .int .i64 xv, .int .i64 xs, .int .i64 xp, .int .i64 xf, .int .i64 xc, .int .u64 xi, .int .u64 xb] 53)).has (by first | with_reducible exact y_1 | (simp [go_sem, World.cell?_alloc_past, y_0f, y_1f, y_0, y_1, c0_0, c0_1, c0_2, c0_3, c0_4, c0_5, c0_6, c0_7, ne_y_c0, ne_c0_y, ry, rya, ryb, ryc, ryn, rc0, rc0a, rc0b, rc0c, rc0n]; done) | exact y_1))
            · exact hb2.froz hwb (v := .int .i64 0) (((Ext.refl _).alloc (.cells #[.int .i64 xo, .int .i64 xv, .int .i64 xs, .int .i64 xp, .int .i64 xf, .int .i64 xc, .int .u64 xi, .int .u64 xb] 53)).has (by first | with_reducible exact y_0 | (simp [go_sem, World.cell?_alloc_past, y_0f, y_1f, y_0, y_1, c0_0, c0_1, c0_2, c0_3, c0_4, c0_5, c0_6, c0_7, ne_y_c0, ne_c0_y, ry, rya, ryb, ryc, ryn, rc0, rc0a, rc0b, rc0c, rc0n]; done) | exact y_0)) (((Ext.refl _).alloc (.cells #[.int .i64 xo, .int .i64 xv, .int .i64 xs, .int .i64 xp, .int .i64 xf, .int .i64 xc, .int .u64 xi, .int .u64 xb] 53)).froz (v := .int .i64 0) (by first | with_reducible exact y_0 | (simp [go_sem, World.cell?_alloc_past, y_0f, y_1f, y_0, y_1, c0_0, c0_1, c0_2, c0_3, c0_4, c0_5, c0_6, c0_7, ne_y_c0, ne_c0_y, ry, rya, ryb, ryc, ryn, rc0, rc0a, rc0b, rc0c, rc0n]; done) | exact y_0) (by first | with_reducible exact y_0f | (simp [go_sem, World.cell?_alloc_past, y_0f, y_1f, y_0, y_1, c0_0, c0_1, c0_2, c0_3, c0_4, c0_5, c0_6, c0_7, ne_y_c0, ne_c0_y, ry, rya, ryb, ryc, ryn, rc0, rc0a, rc0b, rc0c, rc0n]; done) | exact y_0f))
            · exact hb2.froz hwb (v := .int .i64 0) (((Ext.refl _).alloc (.cells #[.int .i64 xo, .int .i64 xv, .int .i64 xs, .int .i64 xp, .int .i64 xf, .int .i64 xc, .int .u64 xi, .int .u64 xb] 53)).has (by first | with_reducible exact y_1 | (simp [go_sem, World.cell?_alloc_past, y_0f, y_1f, y_0, y_1, c0_0, c0_1, c0_2, c0_3, c0_4, c0_5, c0_6, c0_7, ne_y_c0, ne_c0_y, ry, rya, ryb, ryc, ryn, rc0, rc0a, rc0b, rc0c, rc0n]; done) | exact y_1)) (((Ext.refl _).alloc (.cells #[.int .i64 xo, .int .i64 xv, .int .i64 xs, .int .i64 xp, .int .i64 xf, .int .i64 xc, .int .u64 xi, .int .u64 xb] 53)).froz (v := .int .i64 0) (by first | with_reducible exact y_1 | (simp [go_sem, World.cell?_alloc_past, y_0f, y_1f, y_0, y_1, c0_0, c0_1, c0_2, c0_3, c0_4, c0_5, c0_6, c0_7, ne_y_c0, ne_c0_y, ry, rya, ryb, ryc, ryn, rc0, rc0a, rc0b, rc0c, rc0n]; done) | exact y_1) (by first | with_reducible exact y_1f | (simp [go_sem, World.cell?_alloc_past, y_0f, y_1f, y_0, y_1, c0_0, c0_1, c0_2, c0_3, c0_4, c0_5, c0_6, c0_7, ne_y_c0, ne_c0_y, ry, rya, ryb, ryc, ryn, rc0, rc0a, rc0b, rc0c, rc0n]; done) | exact y_1f))
            · refine (fun (hxa : Ext w _) => Below.trans hxa (hb2.below hxa.size (fun k hk hh => by have := (own_block HOa hh).1; omega))) ?_
              exact Ext.alloc (by repeat (first | with_reducible exact X57.out | with_reducible refine Ext.drew ?_ | with_reducible refine Ext.drewN ?_ _ | with_reducible refine Ext.alloc ?_ _ | with_reducible refine Ext.setCell ?_ (by first | omega | (simp; done) | (simp; omega)) _)) _
        · have E50 : ¬ E5 = 0 := by rw [G5.out]; exact fltE_nz GN.out h5n
          have e57 : (E5 == 0) = false := by simpa using E50
          have GN2 : Hid (QI L (j + 1) k5 f5 (out ++ [(xo, xv, xs, xp, xf, xc, xi, xb)])) := Lib.hid (by cases hf5 : f5 with | none => exact absurd hf5 h5n | some x => exact QI.brk2 GQ.out (by have h := GS.out; rw [hf5] at h; exact h))
          go_wp2_with (at_builtin; refine wpList_append_slB _ rfl _ _ 22 rfl (g + 1) 53 i0 (.agg #[.int .i64 0, .int .i64 0, .int .i64 0, .int .i64 0, .int .i64 0, .int .i64 0, .int .u64 0, .int .u64 0]) 8 64 Tryz.underlying22 hi0 hz0 hz1 hz2 rfl (by decide) (.slice A9 out.length c9) out.length _ (by rfl) ((OwnR.butN HO.out (by repeat (first | with_reducible exact But.refl _ _ | with_reducible refine But.drew ?_ | with_reducible refine But.drewN ?_ _ | with_reducible refine But.alloc ?_ _ | with_reducible refine But.setCell ?_ (by first | exact Nat.le_refl _ | (dsimp only; omega)) _ | with_reducible refine But.setNew ?_ (by first | omega | (simp; done) | (simp; omega)) _))).own.alloc _) (some ⟨w55.heap.size, 0, none⟩) 1 1 (entC (xo, xv, xs, xp, xf, xc, xi, xb)) (by first | rfl | (simp [Act.eval]; done) | (simp [Act.eval, go_sem]; done)) (Sl.addrQ (sl_new _ 53 8 #[.int .i64 xo, .int .i64 xv, .int .i64 xs, .int .i64 xp, .int .i64 xf, .int .i64 xc, .int .u64 xi, .int .u64 xb] 1 rfl (by decide)) (by first | rfl | (simp; done))) (by intro u hu; simp [entC] at hu; rcases hu with rfl | rfl | rfl | rfl | rfl | rfl | rfl | rfl <;> rfl) (by omega) (by decide) (by simp; omega) ?_; intro v2 wn hown2 hb2 hn2)
          have HOa := (OwnR.butN HO.out (by repeat (first | with_reducible exact But.refl _ _ | with_reducible refine But.drew ?_ | with_reducible refine But.drewN ?_ _ | with_reducible refine But.alloc ?_ _ | with_reducible refine But.setCell ?_ (by first | exact Nat.le_refl _ | (dsimp only; omega)) _ | with_reducible refine But.setNew ?_ (by first | omega | (simp; done) | (simp; omega)) _))).own.alloc (.cells #[.int .i64 xo, .int .i64 xv, .int .i64 xs, .int .i64 xp, .int .i64 xf, .int .i64 xc, .int .u64 xi, .int .u64 xb] 53)
          have hwb : ¬ (Value.slice A9 out.length c9).ownBlock = some w.heap.size := fun hh => by have := (own_block HOa hh).1; omega
          go_roundg (gk - 1)
          case measure => have := HK.out; omega
          case rel =>
            have e : N - (gk - 1) = j + 1 := by have := HK.out; omega
            rw [e]
            refine ⟨by have := HK.out; omega, num_eq (by have := HK.out; omega), ⟨_, _, _, Lib.hid ?_, Lib.hid ?_, GN2⟩, ⟨?_, ?_, ?_, ?_⟩, ?_⟩
            · exact RRd.butT (RRd.ext (RRd.butN HRd.out (by repeat (first | with_reducible exact But.refl _ _ | with_reducible refine But.drew ?_ | with_reducible refine But.drewN ?_ _ | with_reducible refine But.alloc ?_ _ | with_reducible refine But.setCell ?_ (by first | exact Nat.le_refl _ | (dsimp only; omega)) _ | with_reducible refine But.setNew ?_ (by first | omega | (simp; done) | (simp; omega)) _))) ((Ext.refl _).alloc (.cells #[.int .i64 xo, .int .i64 xv, .int .i64 xs, .int .i64 xp, .int .i64 xf, .int .i64 xc, .int .u64 xi, .int .u64 xb] 53))) hb2 (fun j _ hj => by have := (own_block HOa hj).1; omega)
            · rw [List.length_append]
              unfold OwnEnt
              rw [List.flatMap_append]
              simpa using hown2
            · exact hb2.has hwb (((Ext.refl _).alloc (.cells #[.int .i64 xo, .int .i64 xv, .int .i64 xs, .int .i64 xp, .int .i64 xf, .int .i64 xc, .int .u64 xi, .int .u64 xb] 53)).has (by first | with_reducible exact y_0 | (simp [go_sem, World.cell?_alloc_past, y_0f, y_1f, y_0, y_1, c0_7f, c0_0, c0_1, c0_2, c0_3, c0_4, c0_5, c0_6, c0_7, ne_y_c0, ne_c0_y, ry, rya, ryb, ryc, ryn, rc0, rc0a, rc0b, rc0c, rc0n, gg_2]; done) | exact y_0))
            · exact hb2.has hwb (((Ext.refl _).alloc (.cells #[.int .i64 xo, .int .i64 xv, .int .i64 xs, .int .i64 xp, .int .i64 xf, .int .i64 xc, .int .u64 xi, .int .u64 xb] 53)).has (by first | with_reducible exact y_1 | (simp [go_sem, World.cell?_alloc_past, y_0f, y_1f, y_0, y_1, c0_7f, c0_0, c0_1, c0_2, c0_3, c0_4, c0_5, c0_6, c0_7, ne_y_c0, ne_c0_y, ry, rya, ryb, ryc, ryn, rc0, rc0a, rc0b, rc0c, rc0n, gg_2]; done) | exact y_1))
            · exact hb2.froz hwb (v := .int .i64 0) (((Ext.refl _).alloc (.cells #[.int .i64 xo, .int .i64 xv, .int .i64 xs, .int .i64 xp, .int .i64 xf, .int .i64 xc, .int .u64 xi, .int .u64 xb] 53)).has (by first | with_reducible exact y_0 | (simp [go_sem, World.cell?_alloc_past, y_0f, y_1f, y_0, y_1, c0_7f, c0_0, c0_1, c0_2, c0_3, c0_4, c0_5, c0_6, c0_7, ne_y_c0, ne_c0_y, ry, rya, ryb, ryc, ryn, rc0, rc0a, rc0b, rc0c, rc0n, gg_2]; done) | exact y_0)) (((Ext.refl _).alloc (.cells #[.int .i64 xo, .int .i64 xv, .int .i64 xs, .int .i64 xp, .int .i64 xf, .int .i64 xc, .int .u64 xi, .int .u64 xb] 53)).froz (v := .int .i64 0) (by first | with_reducible exact y_0 | (simp [go_sem, World.cell?_alloc_past, y_0f, y_1f, y_0, y_1, c0_7f, c0_0, c0_1, c0_2, c0_3, c0_4, c0_5, c0_6, c0_7, ne_y_c0, ne_c0_y, ry, rya, ryb, ryc, ryn, rc0, rc0a, rc0b, rc0c, rc0n, gg_2]; done) | exact y_0) (by first | with_reducible exact y_0f | (simp [go_sem, World.cell?_alloc_past, y_0f, y_1f, y_0, y_1, c0_7f, c0_0, c0_1, c0_2, c0_3, c0_4, c0_5, c0_6, c0_7, ne_y_c0, ne_c0_y, ry, rya, ryb, ryc, ryn, rc0, rc0a, rc0b, rc0c, rc0n, gg_2]; done) | exact y_0f))
            · exact hb2.froz hwb (v := .int .i64 0) (((Ext.refl _).alloc (.cells #[.int .i64 xo, .int .i64 xv, .int .i64 xs, .int .i64 xp, .int .i64 xf, .int .i64 xc, .int .u64 xi, .int .u64 xb] 53)).has (by first | with_reducible exact y_1 | (simp [go_sem, World.cell?_alloc_past, y_0f, y_1f, y_0, y_1, c0_7f, c0_0, c0_1, c0_2, c0_3, c0_4, c0_5, c0_6, c0_7, ne_y_c0, ne_c0_y, ry, rya, ryb, ryc, ryn, rc0, rc0a, rc0b, rc0c, rc0n, gg_2]; done) | exact y_1)) (((Ext.refl _).alloc (.cells #[.int .i64 xo, .int .i64 xv, .int .i64 xs, .int .i64 xp, .int .i64 xf, .int .i64 xc, .int .u64 xi, .int .u64 xb] 53)).froz (v := .int .i64 0) (by first | with_reducible exact y_1 | (simp [go_sem, World.cell?_alloc_past, y_0f, y_1f, y_0, y_1, c0_7f, c0_0, c0_1, c0_2, c0_3, c0_4, c0_5, c0_6, c0_7, ne_y_c0, ne_c0_y, ry, rya, ryb, ryc, ryn, rc0, rc0a, rc0b, rc0c, rc0n, gg_2]; done) | exact y_1) (by first | with_reducible exact y_1f | (simp [go_sem, World.cell?_alloc_past, y_0f, y_1f, y_0, y_1, c0_7f, c0_0, c0_1, c0_2, c0_3, c0_4, c0_5, c0_6, c0_7, ne_y_c0, ne_c0_y, ry, rya, ryb, ryc, ryn, rc0, rc0a, rc0b, rc0c, rc0n, gg_2]; done) | exact y_1f))
            · refine (fun (hxa : Ext w _) => Below.trans hxa (hb2.below hxa.size (fun k hk hh => by have := (own_block HOa hh).1; omega))) ?_
              exact Ext.alloc (by repeat (first | with_reducible exact X55.out | with_reducible refine Ext.drew ?_ | with_reducible refine Ext.drewN ?_ _ | with_reducible refine Ext.alloc ?_ _ | with_reducible refine Ext.setCell ?_ (by first | omega | (simp; done) | (simp; omega)) _)) _
      · have hE00 : ¬ E0 = 0 := by rw [hE0]; exact fltE_nz hq.out.2.2.2.2 hfn
        have e25 : (E0 == 0) = false := by simpa using hE00
        have hQN : QI L N k f out := QI.late hq.out hfn hjN
        obtain ⟨⟨e, a⟩, hea⟩ : ∃ E, E = endF f k L.length := ⟨_, rfl⟩
        have HE := Lib.hid (QI.end_ (e := e) (a := a) hQN hea HR0.out)
        have HEA := Lib.hid hea
        have HFQ := Lib.hid hQN.2.2.2.1
        obtain ⟨sm, hsm⟩ : ∃ s, s = if totB out ≤ 4611686018427387904 then totB out else 0 := ⟨_, rfl⟩
        obtain ⟨fb, hfb⟩ : ∃ s, s = decide (totB out ≤ 4611686018427387904) := ⟨_, rfl⟩
        have HSM := Lib.hid hsm
        have HFB := Lib.hid hfb
        have HRd := hr
        have HO := Lib.hid (OwnR.mk (show World.ownsRow _ _ 53 8 _ _ _ from ho.out))
        clear hx hj hg hz hjN hlen hea hr ho hq hsm hfb hE0 hQN
        go_wp2_with fail
        (with_reducible refine (rEnd_q g k L f e a _ (HRd.out.ext (by repeat (first | with_reducible exact Ext.refl _ | with_reducible refine Ext.drew ?_ | with_reducible refine Ext.drewN ?_ _ | with_reducible refine Ext.alloc ?_ _ | with_reducible refine Ext.setCell ?_ (by first | omega | (simp; done) | (simp; omega)) _))) hL HEA.out).mono ?_)
        rintro e w41 ⟨rfl, hx41⟩
        replace y_0f : w41.frozen? ⟨w.heap.size, 0, none⟩ = false := hx41.froz (v := .int .i64 0) (by first | with_reducible exact y_0 | (simp [go_sem, World.cell?_alloc_past, y_0, y_0f, y_1, y_1f]; done) | exact y_0) (by first | with_reducible exact y_0f | (simp [go_sem, World.cell?_alloc_past, y_0, y_0f, y_1, y_1f]; done) | exact y_0f)
        replace y_1f : w41.frozen? ⟨w.heap.size, 1, none⟩ = false := hx41.froz (v := .int .i64 0) (by first | with_reducible exact y_1 | (simp [go_sem, World.cell?_alloc_past, y_0, y_0f, y_1, y_1f]; done) | exact y_1) (by first | with_reducible exact y_1f | (simp [go_sem, World.cell?_alloc_past, y_0, y_0f, y_1, y_1f]; done) | exact y_1f)
        replace y_0 : w41.cell? ⟨w.heap.size, 0, none⟩ = some (.int .i64 0) := hx41.has (by first | with_reducible exact y_0 | (simp [go_sem, World.cell?_alloc_past, y_0, y_0f, y_1, y_1f]; done) | exact y_0)
        replace y_1 : w41.cell? ⟨w.heap.size, 1, none⟩ = some (.int .i64 0) := hx41.has (by first | with_reducible exact y_1 | (simp [go_sem, World.cell?_alloc_past, y_0, y_0f, y_1, y_1f]; done) | exact y_1)
        have z41 := hx41.size
        try simp at z41
        have ry : w.heap.size < w41.heap.size := by omega
        have rya : w.heap.size < w41.heap.size + 1 := by omega
        have ryb : w.heap.size < w41.heap.size + 1 + 1 := by omega
        have ryc : w.heap.size < w41.heap.size + 1 + 1 + 1 := by omega
        have ryn : ¬ w.heap.size = w41.heap.size := by omega
        replace HRd := Lib.hid (HRd.out.ext (Ext.trans (by repeat (first | with_reducible exact Ext.refl _ | with_reducible refine Ext.drew ?_ | with_reducible refine Ext.drewN ?_ _ | with_reducible refine Ext.alloc ?_ _ | with_reducible refine Ext.setCell ?_ (by first | omega | (simp; done) | (simp; omega)) _)) hx41))
        replace HO := Lib.hid ((OwnR.butN HO.out (by repeat (first | with_reducible exact But.refl _ _ | with_reducible refine But.drew ?_ | with_reducible refine But.drewN ?_ _ | with_reducible refine But.alloc ?_ _ | with_reducible refine But.setCell ?_ (by first | exact Nat.le_refl _ | (dsimp only; omega)) _ | with_reducible refine But.setNew ?_ (by first | omega | (simp; done) | (simp; omega)) _))).ext hx41)
        have X41 : Hid (Ext w w41) := Lib.hid (Ext.trans (by repeat (first | with_reducible exact XR.out | with_reducible refine Ext.drew ?_ | with_reducible refine Ext.drewN ?_ _ | with_reducible refine Ext.alloc ?_ _ | with_reducible refine Ext.setCell ?_ (by first | omega | (simp; done) | (simp; omega)) _)) hx41)
        clear XR hx41
        by_cases he : ¬ e = 0
        · have e7 : (!(e == 0 && a == 0)) = true := by simp [he]
          go_wp2_with fail
          refine wp_region_held_drew (S := fun w' => w'.cell? ⟨w41.heap.size, 0, none⟩ = some (.int .i64 e) ∧ w'.cell? ⟨w41.heap.size, 1, none⟩ = some (.int .i64 a)) (by kernel_rfl) (by first | exact ⟨c0_0, c0_1⟩ | (simp [go_sem, World.cell?_alloc_past, y_0f, y_1f, y_0, y_1, ry, rya, ryb, ryc, ryn]; done)) (fun hHeld => ?_)
          (refine' take_in 0 rfl (by kernel_rfl) (by kernel_rfl) (by kernel_rfl) (fun _ _ _ h => h) (by rfl) (by assumption) ?_ ?_; rotate_left; focus (intro w hSw; (try dsimp only at hSw); go_simp; try with_reducible rfl)); try simp only [Act.put, List.setIfInBounds_toArray, List.set_cons_zero, List.set_cons_succ]
          (refine' take_in 1 rfl (by kernel_rfl) (by kernel_rfl) (by kernel_rfl) (fun _ _ _ h => h) (by rfl) (by assumption) ?_ ?_; rotate_left; focus (intro w hSw; (try dsimp only at hSw); go_simp; try with_reducible rfl)); try simp only [Act.put, List.setIfInBounds_toArray, List.set_cons_zero, List.set_cons_succ]
          refine' next_in 2 rfl (by kernel_rfl) (by rfl) (fun K hK => ?_)
          go_simp
          refine hK.out _ _ (by (first | exact ⟨c0_0, c0_1⟩ | (simp [go_sem, World.cell?_alloc_past, y_0f, y_1f, y_0, y_1, ry, rya, ryb, ryc, ryn]; done))) (fun hHeld => ?_); clear hK K; try simp only [Act.put, List.setIfInBounds_toArray, List.set_cons_zero, List.set_cons_succ]
          refine wpAnyH_done (by kernel_rfl) ?_ _
          obtain rfl : R = ([], e, a) := HE.out.1 he
          go_wp2_with fail
          refine bodyPost_ret (v := .tuple #[.slice none 0 0, .agg #[.int .i64 e, .int .i64 a]]) (by simp [results, Tryz.results11, go_sem, World.cell?_alloc_past, y_0f, y_1f, y_0, y_1, ry, rya, ryb, ryc, ryn]; try rfl) rfl (RetEntV.nil (xs := [.agg #[.int .i64 e, .int .i64 a]]) ?_)
          exact (by repeat (first | with_reducible exact X41.out | with_reducible refine Ext.drew ?_ | with_reducible refine Ext.drewN ?_ _ | with_reducible refine Ext.alloc ?_ _ | with_reducible refine Ext.setCell ?_ (by first | omega | (simp; done) | (simp; omega)) _))
        · have he2 : e = 0 := Classical.not_not.1 he
          have ha2 : a = 0 := (HE.out.2 he2).1
          have HE2 := Lib.hid (HE.out.2 he2).2
          clear HE he
          subst he2; subst ha2
          go_wp2_with fail
          (with_reducible refine (rsum14_e A9 out.length c9 out sm fb _ (Sl.own (OwnR.own (OwnR.butN HO.out (by repeat (first | with_reducible exact But.refl _ _ | with_reducible refine But.drew ?_ | with_reducible refine But.drewN ?_ _ | with_reducible refine But.alloc ?_ _ | with_reducible refine But.setCell ?_ (by first | exact Nat.le_refl _ | (dsimp only; omega)) _ | with_reducible refine But.setNew ?_ (by first | omega | (simp; done) | (simp; omega)) _))))) hln HFQ.out HSM.out HFB.out).mono ?_)
          rintro e w42 ⟨rfl, hx42⟩
          replace y_0f : w42.frozen? ⟨w.heap.size, 0, none⟩ = false := hx42.froz (v := .int .i64 0) (by first | with_reducible exact y_0 | (simp [go_sem, World.cell?_alloc_past, y_0f, y_1f, y_0, y_1, ry, rya, ryb, ryc, ryn]; done) | exact y_0) (by first | with_reducible exact y_0f | (simp [go_sem, World.cell?_alloc_past, y_0f, y_1f, y_0, y_1, ry, rya, ryb, ryc, ryn]; done) | exact y_0f)
          replace y_1f : w42.frozen? ⟨w.heap.size, 1, none⟩ = false := hx42.froz (v := .int .i64 0) (by first | with_reducible exact y_1 | (simp [go_sem, World.cell?_alloc_past, y_0f, y_1f, y_0, y_1, ry, rya, ryb, ryc, ryn]; done) | exact y_1) (by first | with_reducible exact y_1f | (simp [go_sem, World.cell?_alloc_past, y_0f, y_1f, y_0, y_1, ry, rya, ryb, ryc, ryn]; done) | exact y_1f)
          replace y_0 : w42.cell? ⟨w.heap.size, 0, none⟩ = some (.int .i64 0) := hx42.has (by first | with_reducible exact y_0 | (simp [go_sem, World.cell?_alloc_past, y_0f, y_1f, y_0, y_1, ry, rya, ryb, ryc, ryn]; done) | exact y_0)
          replace y_1 : w42.cell? ⟨w.heap.size, 1, none⟩ = some (.int .i64 0) := hx42.has (by first | with_reducible exact y_1 | (simp [go_sem, World.cell?_alloc_past, y_0f, y_1f, y_0, y_1, ry, rya, ryb, ryc, ryn]; done) | exact y_1)
          have c0_0 : w42.cell? ⟨w41.heap.size, 0, none⟩ = some (.int .i64 0) := hx42.has (by first | fail | (simp [go_sem, World.cell?_alloc_past, y_0f, y_1f, y_0, y_1, ry, rya, ryb, ryc, ryn]; done) | fail)
          have c0_1 : w42.cell? ⟨w41.heap.size, 1, none⟩ = some (.int .i64 0) := hx42.has (by first | fail | (simp [go_sem, World.cell?_alloc_past, y_0f, y_1f, y_0, y_1, ry, rya, ryb, ryc, ryn]; done) | fail)
          have z42 := hx42.size
          try simp at z42
          have lt_y_c0 : w.heap.size < w41.heap.size := by omega
          have ne_y_c0 : ¬ w.heap.size = w41.heap.size := by omega
          have ne_c0_y : ¬ w41.heap.size = w.heap.size := by omega
          replace ry : w.heap.size < w42.heap.size := by omega
          replace rya : w.heap.size < w42.heap.size + 1 := by omega
          replace ryb : w.heap.size < w42.heap.size + 1 + 1 := by omega
          replace ryc : w.heap.size < w42.heap.size + 1 + 1 + 1 := by omega
          replace ryn : ¬ w.heap.size = w42.heap.size := by omega
          have rc0 : w41.heap.size < w42.heap.size := by omega
          have rc0a : w41.heap.size < w42.heap.size + 1 := by omega
          have rc0b : w41.heap.size < w42.heap.size + 1 + 1 := by omega
          have rc0c : w41.heap.size < w42.heap.size + 1 + 1 + 1 := by omega
          have rc0n : ¬ w41.heap.size = w42.heap.size := by omega
          replace HRd := Lib.hid (HRd.out.ext (Ext.trans (by repeat (first | with_reducible exact Ext.refl _ | with_reducible refine Ext.drew ?_ | with_reducible refine Ext.drewN ?_ _ | with_reducible refine Ext.alloc ?_ _ | with_reducible refine Ext.setCell ?_ (by first | omega | (simp; done) | (simp; omega)) _)) hx42))
          replace HO := Lib.hid ((OwnR.butN HO.out (by repeat (first | with_reducible exact But.refl _ _ | with_reducible refine But.drew ?_ | with_reducible refine But.drewN ?_ _ | with_reducible refine But.alloc ?_ _ | with_reducible refine But.setCell ?_ (by first | exact Nat.le_refl _ | (dsimp only; omega)) _ | with_reducible refine But.setNew ?_ (by first | omega | (simp; done) | (simp; omega)) _))).ext hx42)
          have X42 : Hid (Ext w w42) := Lib.hid (Ext.trans (by repeat (first | with_reducible exact X41.out | with_reducible refine Ext.drew ?_ | with_reducible refine Ext.drewN ?_ _ | with_reducible refine Ext.alloc ?_ _ | with_reducible refine Ext.setCell ?_ (by first | omega | (simp; done) | (simp; omega)) _)) hx42)
          clear X41 hx42
          cases fb
          · obtain rfl : R = ([], 12, 0) := HE2.out.2 (by have h := HFB.out; have := of_decide_eq_false h.symm; omega)
            go_wp2_with fail
            refine bodyPost_ret (v := .tuple #[.slice none 0 0, .agg #[.int .i64 12, .int .i64 0]]) (by simp [results, Tryz.results11, go_sem, World.cell?_alloc_past, y_0f, y_1f, y_0, y_1, c0_0, c0_1, ne_y_c0, ne_c0_y, ry, rya, ryb, ryc, ryn, rc0, rc0a, rc0b, rc0c, rc0n]; try rfl) rfl (RetEntV.nil (xs := [.agg #[.int .i64 12, .int .i64 0]]) ?_)
            exact (by repeat (first | with_reducible exact X42.out | with_reducible refine Ext.drew ?_ | with_reducible refine Ext.drewN ?_ _ | with_reducible refine Ext.alloc ?_ _ | with_reducible refine Ext.setCell ?_ (by first | omega | (simp; done) | (simp; omega)) _))
          · obtain rfl : R = (out, 0, 0) := HE2.out.1 (of_decide_eq_true HFB.out.symm)
            go_wp2_with fail
            refine bodyPost_ret (v := .tuple #[.slice A9 out.length c9, .agg #[.int .i64 0, .int .i64 0]]) (by simp [results, Tryz.results11, go_sem, World.cell?_alloc_past, y_0f, y_1f, y_0, y_1, c0_0, c0_1, ne_y_c0, ne_c0_y, ry, rya, ryb, ryc, ryn, rc0, rc0a, rc0b, rc0c, rc0n]; try rfl) rfl (RetEntV.mk (n := out.length) (xs := [.agg #[.int .i64 0, .int .i64 0]]) ?_ (by repeat (first | with_reducible exact X42.out | with_reducible refine Ext.drew ?_ | with_reducible refine Ext.drewN ?_ _ | with_reducible refine Ext.alloc ?_ _ | with_reducible refine Ext.setCell ?_ (by first | omega | (simp; done) | (simp; omega)) _)) rfl)
            exact own_lower (own_but (S := fun j => j = w.heap.size ∨ wr.heap.size ≤ j) (show OwnR wr.heap.size w42 _ _ _ _ _ _ from HO.out).own (by repeat (first | with_reducible exact But.refl _ _ | with_reducible refine But.drew ?_ | with_reducible refine But.drewN ?_ _ | with_reducible refine But.alloc ?_ _ | with_reducible refine But.setCell ?_ (by first | exact Or.inl rfl | (exact Or.inr (by (show _ ≤ _); omega))) _)) (fun j hj hh => by have h1 := own_block (show OwnR wr.heap.size w42 _ _ _ _ _ _ from HO.out).own hj; have h2 := (show OwnR wr.heap.size w42 _ _ _ _ _ _ from HO.out).2 j hj; rcases hh with hh | hh <;> omega)) (by omega)
end
section
open Go.RowKit Go.ChangeShapes Go.WideShapes
def bs_ (L : List Nat) : List Int := L.map fun (x : Nat) => (x : Int)
theorem bs_inj {L M : List Nat} (hL : Byt L) (hM : Byt M) (h : strOfNums (bs_ L) = strOfNums (bs_ M)) : L = M := by
  have h1 := congrArg (fun s : ByteArray => s.data.toList.map fun u => u.toNat) h
  simp only [strOfNums_data, bs_, List.map_map] at h1
  have e : ∀ K : List Nat, Byt K → K.map ((fun u : UInt8 => u.toNat) ∘ (fun n : Int => UInt8.ofNat n.toNat) ∘ fun (x : Nat) => (x : Int)) = K := by
    intro K hK
    induction K with
    | nil => rfl
    | cons x K ih =>
      have hx := hK x (List.mem_cons_self ..)
      rw [List.map_cons, ih fun y hy => hK y (List.mem_cons_of_mem _ hy)]
      simp
      omega
  rw [e L hL, e M hM] at h1
  exact h1
theorem conv_by {A : Option Addr} {n c : Nat} {L : List Nat} {w : World} (h : Sl w 1 A n c (by_ L)) :
    (convert 23 9 (.slice A n c)).run Tryz.prog w = .ok (.string (strOfNums (bs_ L))) w := by
  have hl : L.length = n := by simpa [by_] using h.len
  cases n with
  | zero =>
    have hL : L = [] := List.eq_nil_of_length_eq_zero hl
    subst hL
    cases A with
    | none =>
      rw [run_convert_bytes_nil w 23 5 (by kernel_rfl) (by kernel_rfl) 0 c 9 (by kernel_rfl)]
      rfl
    | some a =>
      rw [run_convert_bytes_string w 23 9 5 (some a) 0 c (by kernel_rfl) (by kernel_rfl) (by kernel_rfl), run_bytesToString w a 0 c [] (by
        have := run_loadCells_list (P := Tryz.prog) w a [] (fun j v hj => by simp at hj)
        simpa using this)]
      rfl
  | succ m =>
    obtain ⟨b, o, rfl, hb, hc⟩ := h.at_ (Nat.succ_pos m)
    refine run_convert_bytes_arg w 23 5 (by kernel_rfl) (by kernel_rfl) b o (m + 1) c (bs_ L) (by simpa [bs_] using hl) (fun i hi => ?_) 9 (by kernel_rfl)
    refine hc i _ ?_
    have hi' : i < L.length := by omega
    simp [by_, bs_, List.getD, hi']
theorem kSameBytes_any (A B : Option Addr) (n c m d : Nat) (L M : List Nat) (hL : Byt L) (hM : Byt M) (w : World) (h1 : Sl w 1 A n c (by_ L)) (h2 : Sl w 1 B m d (by_ M)) :
    Calls Tryz.prog 7 #[.slice A n c, .slice B m d] w fun r w' => r = .returned (.bool (decide (L = M))) ∧ w = w' := by
  have c1 := conv_by h1
  have c2 := conv_by h2
  have he : ((strOfNums (bs_ L)).toList == (strOfNums (bs_ M)).toList) = decide (L = M) := by
    rw [ByteArray.toList_eq, ByteArray.toList_eq]
    by_cases h : L = M
    · subst h
      simp
    · rw [decide_eq_false h]
      exact beq_false_of_ne fun e => h (bs_inj hL hM (by
        have := congrArg List.toArray e
        exact ByteArray.ext (by simpa using e)))
  go_enter Tryz.func7, Tryz.ntmps7
  go_wp2
  go_ret
  exact ⟨by simp [he], rfl⟩
theorem byt_putL : ∀ (b n : Nat), n ≤ b → Byt (putL n) := by
  intro b
  induction b with
  | zero => intro n hn; rw [putL_lt (by omega)]; intro x hx; simp at hx; omega
  | succ b ih =>
    intro n hn
    by_cases h : n < 128
    · rw [putL_lt h]; intro x hx; simp at hx; omega
    · rw [putL_ge h]
      intro x hx
      rcases List.mem_cons.1 hx with rfl | hx
      · omega
      · exact ih (n / 128) (by omega) x hx
theorem kSameBytes_eq (A B : Option Addr) (n c m d : Nat) (L : List Nat) (hL : Byt L) (w : World) (h1 : Sl w 1 A n c (by_ L)) (h2 : Sl w 1 B m d (by_ L)) :
    Calls Tryz.prog 7 #[.slice A n c, .slice B m d] w fun r w' => r = .returned (.bool true) ∧ w = w' := by
  refine (kSameBytes_any A B n c m d L L hL hL w h1 h2).mono ?_
  rintro r w' ⟨rfl, rfl⟩
  exact ⟨by simp, rfl⟩
/-- bytes that came in -/
theorem open_bytes {H : Type} {enc : TypeId × Value → H} {w : World} {base : Nat} {spare : Nat → Bool} {held : Bool} {n c : Nat} {A : Option Addr} {d : DataW H} {p : List MemPlace}
    (h : DataW.Trod enc Tryz.prog w base spare held 23 (.slice A n c) d p) : ∃ M : List Nat, n = M.length ∧ Sl w 1 A M.length c (by_ M) ∧ Byt M ∧ (A = none → c = 0) := by
  have hlt : ∀ x ∈ p, x.block < w.heap.size := by obtain ⟨m, hm⟩ := h; exact DataW.trod_lt m _ _ _ hm
  obtain ⟨l, hs, hf⟩ := open_sl Tryz.underlying23 Tryz.underlying5 (by kernel_rfl) h hlt
  have hl := hs.ilen
  have hb : ∀ x ∈ l, 0 ≤ x ∧ x < 256 := fun x hx => by
    have := hf x hx
    unfold Fits at this
    have := bounds_u8 (n := x) this
    omega
  have e : by_ (l.map Int.toNat) = iv .u8 l := by
    unfold by_ iv
    rw [List.map_map]
    apply List.map_congr_left
    intro x hx
    have := hb x hx
    simp only [Function.comp]
    rw [Int.toNat_of_nonneg this.1]
  refine ⟨l.map Int.toNat, by simpa using hl.symm, ?_, ?_, ?_⟩
  · rw [e, List.length_map, hl]; exact hs
  · intro x hx
    obtain ⟨y, hy, rfl⟩ := List.mem_map.1 hx
    have := hb y hy
    omega
  · intro hA
    subst hA
    obtain ⟨fuel, hf⟩ := h
    rcases Go.Deep.open_slice Tryz.underlying23 (show DataW.trod enc Tryz.prog w base spare held fuel 23 [.slice none n c] = some _ by simpa [Value.cells] using hf) with ⟨h0, _⟩ | ⟨a, len, cap, m, n', D, Pl, hcs, _⟩
    · simp at h0; exact h0.2
    · simp at hcs
end
section
open Go.RowKit
theorem nuB_byt {l : List Int} : Byt (nuB l) := by
  intro x hx
  obtain ⟨n, _, h⟩ := List.mem_flatMap.1 hx
  exact byt_putL _ _ (Nat.le_refl _) x h
theorem queB_byt (l : List (Int × Int × Int × Int × Int × Int × Int × Int)) : Byt (queB l) := by
  unfold queB
  split
  · intro x hx
    rcases List.mem_append.1 hx with h | h
    · exact byt_putL _ _ (Nat.le_refl _) x h
    · obtain ⟨y, _, h⟩ := List.mem_flatMap.1 h
      exact nuB_byt x h
  · intro x hx; cases hx
end
section
open Go.RowKit Go.ChangeShapes Go.WideShapes Go.Deep Go.Joins
theorem none_capE {H : Type} {enc : TypeId × Value → H} {P : Program} {w : World} {base : Nat} {spare : Nat → Bool} {held : Bool} {t e : TypeId} {n c : Nat} {A : Option Addr} {d : DataW H} {p : List MemPlace} (ht : P.underlying t = some (.slice e)) (h : DataW.Trod enc P w base spare held t (.slice A n c) d p) : A = none → c = 0 := by
  intro hA
  subst hA
  obtain ⟨fuel, hf⟩ := h
  rcases Go.Deep.open_slice ht (show DataW.trod enc P w base spare held fuel t [.slice none n c] = some _ by simpa [Value.cells] using hf) with ⟨h0, _⟩ | ⟨a, len, cap, m, n', D, Pl, hcs, _⟩
  · simp at h0; exact h0.2
  · simp at hcs
theorem word_fits {x : Int} (h : Fits .u64 x) : Word x := by
  unfold Fits at h
  simp [Lit.wf, IntKind.min, IntKind.max, IntKind.bits, IntKind.signed] at h
  unfold Word
  omega
set_option maxRecDepth 100000 in
/-- an entry's cells -/
theorem ent_rec {H : Type} {enc : TypeId × Value → H} {w : World} {base : Nat} {spare : Nat → Bool} {held : Bool} {cs : List Value} {m : Nat} {y : DataW H × List MemPlace}
    (h : DataW.trod enc Tryz.prog w base spare held m 53 cs = some y) (hl : cs.length = 8) : ∃ x : Int × Int × Int × Int × Int × Int × Int × Int, cs = entC x ∧ FitsQ x := by
  obtain ⟨xs, n, _, rfl, _, hlen, hf⟩ := DataW.trod_struct Tryz.underlying53 h
  have ci : Tryz.prog.cellsOf 3 = 1 := by kernel_rfl
  have cu : Tryz.prog.cellsOf 39 = 1 := by kernel_rfl
  have ct : Tryz.prog.cellsOf 51 = 4 := by kernel_rfl
  have g0 := hf 0 _ rfl
  have g1 := hf 1 _ rfl
  have g2 := hf 2 _ rfl
  have g3 := hf 3 _ rfl
  have g4 := hf 4 _ rfl
  match cs, hl with
  | [v0, v1, v2, v3, v4, v5, v6, v7], _ =>
    match xs, hlen with
    | [y0, y1, y2, y3, y4], _ =>
      simp [ci, cu, ct] at g0 g1 g2 g3 g4
      obtain ⟨a, ha, _, wa⟩ := DataW.trod_int Tryz.underlying3 g0
      obtain ⟨b, hb, w1, w2, w3, w4⟩ := rec4 (k0 := .i64) (k1 := .i64) (k2 := .i64) (k3 := .i64) Tryz.underlying51 (by kernel_rfl) Tryz.underlying3 Tryz.underlying3 Tryz.underlying3 Tryz.underlying3 g1 rfl
      obtain ⟨c, hc, _, wc⟩ := DataW.trod_int Tryz.underlying3 g2
      obtain ⟨d, hd, _, wd⟩ := DataW.trod_int Tryz.underlying39 g3
      obtain ⟨e, he, _, we⟩ := DataW.trod_int Tryz.underlying39 g4
      simp at ha hb hc hd he
      obtain ⟨rfl, rfl, rfl, rfl⟩ := hb
      subst ha; subst hc; subst hd; subst he
      exact ⟨(a, b.1, b.2.1, b.2.2.1, b.2.2.2, c, d, e), rfl, wa, w1, w2, w3, w4, wc, word_fits wd, word_fits we⟩
/-- entries that came in -/
theorem open_ents {H : Type} {enc : TypeId × Value → H} {w : World} {base : Nat} {spare : Nat → Bool} {held : Bool} {n c : Nat} {A : Option Addr} {d : DataW H} {p : List MemPlace}
    (h : DataW.Trod enc Tryz.prog w base spare held 22 (.slice A n c) d p) : ∃ l : List (Int × Int × Int × Int × Int × Int × Int × Int), n = l.length ∧ Sl w 8 A l.length c (l.flatMap entC) ∧ (∀ x ∈ l, FitsQ x) ∧ (A = none → c = 0) := by
  obtain ⟨l, h1, h2, h3⟩ := open_rec (f := entC) (sz := 8) (Good := FitsQ) Tryz.underlying22 (by kernel_rfl) (by decide) (fun cs m y h hl => ent_rec h hl) h
  subst h2
  exact ⟨l, rfl, h1, h3, none_capE Tryz.underlying22 h⟩
end
section
open Go.RowKit Go.ChangeShapes Go.WideShapes Go.Deep Go.Joins
theorem OwnEnt.but {S : Nat → Prop} {w w' : World} {base n c m : Nat} {A : Option Addr} {l : List (Int × Int × Int × Int × Int × Int × Int × Int)} (h : OwnEnt w base (.slice A m c) n l) (hx : But S w w') (hS : ∀ k o s, A = some ⟨k, o, s⟩ → ¬ S k) : OwnEnt w' base (.slice A m c) n l := by
  refine own_but1Word h hx (fun j hj => ?_)
  cases A with
  | none => cases hj
  | some a => obtain ⟨b, o, s⟩ := a
              injection hj with hj
              have hj2 : b = j := hj
              subst hj2
              exact hS b o s rfl
theorem OwnShave.but {S : Nat → Prop} {w w' : World} {base n c m : Nat} {A : Option Addr} {l : List (Int × Int)} (h : OwnShave w base (.slice A m c) n l) (hx : But S w w') (hS : ∀ k o s, A = some ⟨k, o, s⟩ → ¬ S k) : OwnShave w' base (.slice A m c) n l := by
  refine own_but1Word h hx (fun j hj => ?_)
  cases A with
  | none => cases hj
  | some a => obtain ⟨b, o, s⟩ := a
              injection hj with hj
              have hj2 : b = j := hj
              subst hj2
              exact hS b o s rfl
theorem kSameEntries_eq (A B : Option Addr) (n c m d : Nat) (l : List (Int × Int × Int × Int × Int × Int × Int × Int)) (w : World) (h1 : Sl w 8 A n c (l.flatMap entC)) (h2 : Sl w 8 B m d (l.flatMap entC)) :
    Calls Tryz.prog 12 #[.slice A n c, .slice B m d] w fun e w' => e = .returned (.bool true) ∧ Ext w w' := by
  have := kSameEntries_any A B n c m d l l w h1 h2
  simpa using this
end
section
open Go.RowKit
theorem xor_all : ∀ r : Fin 256, 0 ≤ bits .xor .u8 (r.1 : Int) 165 ∧ bits .xor .u8 (r.1 : Int) 165 < 256 := by decide +kernel
theorem by_set (M : List Nat) (k x : Nat) : (by_ M).set k (.int .u8 (x : Int)) = by_ (M.set k x) := by
  unfold by_
  rw [List.map_set]
theorem byt_set {M : List Nat} (h : Byt M) {k x : Nat} (hx : x < 256) : Byt (M.set k x) := by
  intro y hy
  rcases List.mem_or_eq_of_mem_set hy with h1 | h1
  · exact h y h1
  · omega
set_option maxHeartbeats 1000000 in
theorem kOverBytes_some (g c : Nat) (M : List Nat) (hB : Byt M) (base : Nat) (w : World) (h : w.ownsRow base 5 1 (.slice (some ⟨g, 0, none⟩) M.length c) M.length (by_ M)) :
    Calls Tryz.prog 8 #[.slice (some ⟨g, 0, none⟩) M.length c] w fun r w' => (∃ v, r = .returned v) ∧ But (· = g) w w' := by
  have hs := (Sl.own h).small
  have HO := Lib.hid (And.intro h hB)
  clear h hB
  generalize hn : M.length = n at *
  replace hn := Lib.hid hn
  go_enter Tryz.func8, Tryz.ntmps8
  go_wp2
  go_loopg [2] n (fun gh i wx => gh ≤ n ∧ i = .int .i64 ((n - gh : Nat) : Int) ∧ ∃ M', wx.ownsRow base 5 1 (.slice (some ⟨g, 0, none⟩) n c) n (by_ M') ∧ Byt M' ∧ But (· = g) w wx)
  case atStart => exact ⟨Nat.le_refl _, by simp, M, HO.out.1, HO.out.2, But.refl _ _⟩
  case round =>
    obtain ⟨hg, hi, M', hw, hB', hb⟩ := hrel
    have hl := (Sl.own hw).len
    rw [by_len] at hl
    have HW := Lib.hid hw
    have HBB := Lib.hid (And.intro hB' hb)
    obtain ⟨k, hk⟩ : ∃ k, k = n - gk := ⟨_, rfl⟩
    rw [← hk] at hi
    subst hi
    by_cases hz : gk = 0
    · have hkn : ¬ (k : Int) < n := by omega
      clear hw hB' hb hl hg hk hz
      go_wp2
      go_end0
      exact ⟨⟨_, rfl⟩, HBB.out.2⟩
    · have hkn : (k : Int) < n := by omega
      have hkl : k < M'.length := by omega
      have hc := (hw.cellAt k (by omega)).trans (by_get M' k hkl)
      have hf := hw.frozenAt k
      have hcb := hB'.get k
      obtain ⟨x, hx⟩ : ∃ x : Nat, bits .xor .u8 (M'.getD k 0 : Int) 165 = (x : Int) ∧ x < 256 := by
        have := xor_all ⟨M'.getD k 0, hcb⟩
        simp only at this
        exact ⟨(bits .xor .u8 (M'.getD k 0 : Int) 165).toNat, by omega, by omega⟩
      have HX := Lib.hid hx
      have HK := Lib.hid (And.intro hk (And.intro hg hz))
      generalize M'.getD k 0 = y at *
      have hy0 : (0 : Int) ≤ (y : Int) := by omega
      have hy1 : (y : Int) < 256 := by omega
      clear hx hw hB' hb hl hk hg hz hkl hcb
      go_wp2
      go_roundg (gk - 1)
      case measure => have := HK.out; omega
      case rel =>
        refine ⟨by have := HK.out; omega, num_eq (by have := HK.out; omega), M'.set k x, ?_, byt_set HBB.out.1 HX.out.2, HBB.out.2.setCell (p := ⟨g, k, none⟩) rfl _⟩
        have h2 := HW.out.stored k (.int .u8 (x : Int))
        rw [by_set] at h2
        rw [HX.out.1]
        exact h2.1
def lentT : List Nat := [201, 202, 203, 204]
set_option maxRecDepth 100000 in
set_option maxHeartbeats 1000000 in
theorem kLentBytes_any (A : Option Addr) (c : Nat) (L : List Nat) (w : World) (h : Sl w 1 A L.length c (by_ L)) (hn : L.length < 1099511627000) :
    Calls Tryz.prog 9 #[.slice A L.length c] w fun r w' => ∃ p : Nat × Nat, r = .returned (.slice (some ⟨p.1, 0, none⟩) L.length p.2) ∧ w'.ownsRow w.heap.size 5 1 (.slice (some ⟨p.1, 0, none⟩) (L.length + 4) p.2) (L.length + 4) (by_ (L ++ lentT)) ∧ Ext w w' := by
  obtain ⟨i0, hi, hz0, hz1, hz2⟩ := info_parts u8_info
  have HS := Lib.hid h
  clear h
  generalize hL : L.length = n at *
  replace hL := Lib.hid hL
  go_enter Tryz.func9, Tryz.ntmps9
  go_wp2_with (first | (at_builtin; have hst := X1; clear hst; refine wpList_append_sl (w1.alloc (.cells #[.int .u8 201, .int .u8 202, .int .u8 203, .int .u8 204] 5)) rfl _ _ 23 rfl w.heap.size 5 i0 (.int .u8 0) 1 1 Tryz.underlying23 hi hz0 hz1 hz2 rfl (by decide) _ n (by_ L) (by rfl) (own_keep H1.out ((Ext.refl _).alloc _)) (some ⟨w1.heap.size, 0, none⟩) 4 4 (by_ lentT) (by rfl) (sl_new w1 5 1 #[.int .u8 201, .int .u8 202, .int .u8 203, .int .u8 204] 4 rfl (by decide)) by_one (by omega) (by decide) (by simp; omega) ?_; intro v2 w2 hown2 hb2; rw [by_append] at hown2; obtain ⟨g, cap, rfl⟩ := ownsRow_succ hown2; have H2 := Lib.hid hown2; have X2 := Lib.hid ((X1.out.alloc _).below hb2); have q0 := (Sl.own hown2).small; have q1 := (Sl.own hown2).2.1; have q2 := (Sl.own hown2).2.2.1; unfold maxLen at q2; clear hown2 hb2) | (at_builtin; refine wpList_append_sl (w.alloc (.cells #[] 5)) rfl _ _ 23 rfl w.heap.size 5 i0 (.int .u8 0) 1 1 Tryz.underlying23 hi hz0 hz1 hz2 rfl (by decide) _ 0 [] (by rfl) (own_empty w _ _) A n c (by_ L) (by rfl) (HS.out.ext ((Ext.refl _).alloc _)) by_one (by omega) (by decide) (by simp) ?_; intro v1 w1 hown1 hb1; simp only [Nat.zero_add, List.nil_append] at hown1; obtain ⟨A1, c1, rfl, s1⟩ := own_parts hown1; have H1 := Lib.hid hown1; have X1 := Lib.hid (((Ext.refl w).alloc (.cells #[] 5)).below hb1); have z1 := X1.out.size; clear hown1 hb1 s1))
  go_wp2_with fail
  go_ret
  exact ⟨(g, cap), rfl, H2.out, X2.out⟩
theorem conv_all {L : List Nat} {n : Nat} {c : Nat} {A : Option Addr} : ∀ w', Sl w' 1 A n c (by_ L) → (convert 23 9 (.slice A n c)).run Tryz.prog w' = .ok (.string (strOfNums (bs_ L))) w' := fun w' h => conv_by h
set_option maxRecDepth 100000 in
set_option maxHeartbeats 2000000 in
theorem kKeptBytes_any (g cap : Nat) (A : Option Addr) (c : Nat) (L : List Nat) (base : Nat) (w : World) (h : w.ownsRow base 5 1 (.slice (some ⟨g, 0, none⟩) (L.length + 4) cap) (L.length + 4) (by_ (L ++ lentT))) (hb : Sl w 1 A L.length c (by_ L)) :
    Calls Tryz.prog 14 #[.slice (some ⟨g, 0, none⟩) L.length cap, .slice A L.length c] w fun r w' => r = .returned (.bool true) ∧ Ext w w' := by
  have hs0 := Sl.own h
  have q0 := hs0.small
  have q1 := hs0.2.1
  have q2 := hs0.2.2.1
  unfold maxLen at q2
  obtain ⟨s1, hs1⟩ : ∃ s, s = strOfNums (bs_ L) := ⟨_, rfl⟩
  obtain ⟨s4, hs4⟩ : ∃ s, s = strOfNums (bs_ lentT) := ⟨_, rfl⟩
  have cv1 := conv_all (L := L) (n := L.length) (c := cap) (A := some ⟨g, 0, none⟩)
  have cv2 := conv_all (L := L) (n := L.length) (c := c) (A := A)
  have cv3 := conv_all (L := lentT) (n := 4) (c := cap - L.length) (A := some ⟨g, L.length, none⟩)
  have cv4 := conv_all (L := lentT) (n := 4) (c := 4) (A := some ⟨w.heap.size, 0, none⟩) (w.alloc (.cells #[.int .u8 201, .int .u8 202, .int .u8 203, .int .u8 204] 5)).drew ((sl_new w 5 1 #[.int .u8 201, .int .u8 202, .int .u8 203, .int .u8 204] 4 rfl (by decide)).ext ((Ext.refl _).drew))
  rw [← hs1] at cv1 cv2
  rw [← hs4] at cv3 cv4
  have t1 : Sl w 1 (some ⟨g, 0, none⟩) L.length cap (by_ L) := by
    have := hs0.take (m := L.length) (by omega)
    rw [Nat.mul_one] at this
    rwa [show (by_ (L ++ lentT)).take L.length = by_ L from by rw [← by_append, List.take_left' (by_len L)]] at this
  have t3 : Sl w 1 (some ⟨g, L.length, none⟩) 4 (cap - L.length) (by_ lentT) := by
    have := hs0.drop (k := L.length) (by omega)
    rw [if_neg (by omega), Nat.mul_one, show (by_ (L ++ lentT)).drop L.length = by_ lentT from by rw [← by_append, List.drop_left' (by_len L)], show L.length + 4 - L.length = 4 from by omega] at this
    simpa [addr_add] using this
  have t2 := hb
  clear h hb hs0 hs1 hs4
  generalize L.length = n at *
  have e1 : IntKind.i64.wrap ((n : Int) + 4) = (n : Int) + 4 := IntWalk.i64_in _ (by omega)
  have e2 : decide ((n : Int) + 4 ≤ (cap : Int)) = true := decide_eq_true (by omega)
  have e3 : (0 : Int) ≤ (n : Int) + 4 := by omega
  have e4 : ((n : Int) + 4).toNat = n + 4 := by omega
  have e5 : (n : Int) + 4 ≤ (cap : Int) := by omega
  have e6 : (n : Int) ≤ (n : Int) + 4 := by omega
  have e7 : ¬ cap = n := by omega
  go_enter Tryz.func14, Tryz.ntmps14
  go_wp2_with fail
  refine wp_region_held_drew (S := fun w' => Sl w' 1 (some ⟨g, 0, none⟩) n cap (by_ L) ∧ Sl w' 1 A n c (by_ L) ∧ Sl w' 1 (some ⟨g, n, none⟩) 4 (cap - n) (by_ lentT)) (by kernel_rfl) (by first | exact ⟨t1, t2, t3⟩ | exact ⟨t1.ext ((Ext.refl _).drew), t2.ext ((Ext.refl _).drew), t3.ext ((Ext.refl _).drew)⟩ | exact ⟨t1.ext (((Ext.refl _).drew).alloc _), t2.ext (((Ext.refl _).drew).alloc _), t3.ext (((Ext.refl _).drew).alloc _)⟩ | exact ⟨t1.ext (((Ext.refl _).alloc _).drew), t2.ext (((Ext.refl _).alloc _).drew), t3.ext (((Ext.refl _).alloc _).drew)⟩) (fun hHeld => ?_)
  (refine' take_in 0 rfl (by kernel_rfl) (by kernel_rfl) (by kernel_rfl) (fun _ _ _ h => h) (by rfl) (by assumption) ?_ ?_; rotate_left; focus (intro w hSw; (try dsimp only at hSw); go_simp; try with_reducible rfl)); try simp only [Act.put, List.setIfInBounds_toArray, List.set_cons_zero, List.set_cons_succ]
  (refine' take_in 1 rfl (by kernel_rfl) (by kernel_rfl) (by kernel_rfl) (fun _ _ _ h => h) (by rfl) (by assumption) ?_ ?_; rotate_left; focus (intro w hSw; (try dsimp only at hSw); go_simp; try with_reducible rfl)); try simp only [Act.put, List.setIfInBounds_toArray, List.set_cons_zero, List.set_cons_succ]
  (refine' take_in 2 rfl (by kernel_rfl) (by kernel_rfl) (by kernel_rfl) (fun _ _ _ h => h) (by rfl) (by assumption) ?_ ?_; rotate_left; focus (intro w hSw; (try dsimp only at hSw); go_simp; try with_reducible rfl)); try simp only [Act.put, List.setIfInBounds_toArray, List.set_cons_zero, List.set_cons_succ]
  (refine' take_in 3 rfl (by kernel_rfl) (by kernel_rfl) (by kernel_rfl) (fun _ _ _ h => h) (by rfl) (by assumption) ?_ ?_; rotate_left; focus (intro w hSw; (try dsimp only at hSw); go_simp; try with_reducible rfl)); try simp only [Act.put, List.setIfInBounds_toArray, List.set_cons_zero, List.set_cons_succ]
  (refine' take_in 4 rfl (by kernel_rfl) (by kernel_rfl) (by kernel_rfl) (fun _ _ _ h => h) (by rfl) (by assumption) ?_ ?_; rotate_left; focus (intro w hSw; (try dsimp only at hSw); go_simp; try with_reducible rfl)); try simp only [Act.put, List.setIfInBounds_toArray, List.set_cons_zero, List.set_cons_succ]
  (refine' take_in 5 rfl (by kernel_rfl) (by kernel_rfl) (by kernel_rfl) (fun _ _ _ h => h) (by rfl) (by assumption) ?_ ?_; rotate_left; focus (intro w hSw; (try dsimp only at hSw); go_simp; try with_reducible rfl)); try simp only [Act.put, List.setIfInBounds_toArray, List.set_cons_zero, List.set_cons_succ]
  (refine' take_in 6 rfl (by kernel_rfl) (by kernel_rfl) (by kernel_rfl) (fun _ _ _ h => h) (by rfl) (by assumption) ?_ ?_; rotate_left; focus (intro w hSw; (try dsimp only at hSw); go_simp; try with_reducible rfl)); try simp only [Act.put, List.setIfInBounds_toArray, List.set_cons_zero, List.set_cons_succ]
  (refine' take_in 7 rfl (by kernel_rfl) (by kernel_rfl) (by kernel_rfl) (fun _ _ _ h => h) (by rfl) (by assumption) ?_ ?_; rotate_left; focus (intro w hSw; (try dsimp only at hSw); go_simp; try with_reducible rfl)); try simp only [Act.put, List.setIfInBounds_toArray, List.set_cons_zero, List.set_cons_succ]
  (refine' take_in 8 rfl (by kernel_rfl) (by kernel_rfl) (by kernel_rfl) (fun _ _ _ h => h) (by rfl) (by assumption) ?_ ?_; rotate_left; focus (intro w hSw; (try dsimp only at hSw); go_simp; try with_reducible rfl)); try simp only [Act.put, List.setIfInBounds_toArray, List.set_cons_zero, List.set_cons_succ]
  (refine' take_in 9 rfl (by kernel_rfl) (by kernel_rfl) (by kernel_rfl) (fun _ _ _ h => h) (by rfl) (by assumption) ?_ ?_; rotate_left; focus (intro w hSw; (try dsimp only at hSw); go_simp; try with_reducible rfl)); try simp only [Act.put, List.setIfInBounds_toArray, List.set_cons_zero, List.set_cons_succ]
  (refine' take_in 10 rfl (by kernel_rfl) (by kernel_rfl) (by kernel_rfl) (fun _ _ _ h => h) (by rfl) (by assumption) ?_ ?_; rotate_left; focus (intro w hSw; (try dsimp only at hSw); go_simp; try with_reducible rfl)); try simp only [Act.put, List.setIfInBounds_toArray, List.set_cons_zero, List.set_cons_succ]
  (refine' take_in 11 rfl (by kernel_rfl) (by kernel_rfl) (by kernel_rfl) (fun _ _ _ h => h) (by rfl) (by assumption) ?_ ?_; rotate_left; focus (intro w hSw; (try dsimp only at hSw); go_simp; try with_reducible rfl)); try simp only [Act.put, List.setIfInBounds_toArray, List.set_cons_zero, List.set_cons_succ]
  (refine' take_in 12 rfl (by kernel_rfl) (by kernel_rfl) (by kernel_rfl) (fun _ _ _ h => h) (by rfl) (by assumption) ?_ ?_; rotate_left; focus (intro w hSw; (try dsimp only at hSw); go_simp; try with_reducible rfl)); try simp only [Act.put, List.setIfInBounds_toArray, List.set_cons_zero, List.set_cons_succ]
  (refine' take_in 13 rfl (by kernel_rfl) (by kernel_rfl) (by kernel_rfl) (fun _ _ _ h => h) (by rfl) (by assumption) ?_ ?_; rotate_left; focus (intro w hSw; (try dsimp only at hSw); go_simp; try with_reducible rfl)); try simp only [Act.put, List.setIfInBounds_toArray, List.set_cons_zero, List.set_cons_succ]
  (refine' take_in 14 rfl (by kernel_rfl) (by kernel_rfl) (by kernel_rfl) (fun _ _ _ h => h) (by rfl) (by assumption) ?_ ?_; rotate_left; focus (intro w hSw; (try dsimp only at hSw); go_simp; try with_reducible rfl)); try simp only [Act.put, List.setIfInBounds_toArray, List.set_cons_zero, List.set_cons_succ]
  (refine' take_in 15 rfl (by kernel_rfl) (by kernel_rfl) (by kernel_rfl) (fun _ _ _ h => h) (by rfl) (by assumption) ?_ ?_; rotate_left; focus (intro w hSw; (try dsimp only at hSw); go_simp; try with_reducible rfl)); try simp only [Act.put, List.setIfInBounds_toArray, List.set_cons_zero, List.set_cons_succ]
  (refine' take_in 16 rfl (by kernel_rfl) (by kernel_rfl) (by kernel_rfl) (fun _ _ _ h => h) (by rfl) (by assumption) ?_ ?_; rotate_left; focus (intro w hSw; (try dsimp only at hSw); go_simp; try with_reducible rfl)); try simp only [Act.put, List.setIfInBounds_toArray, List.set_cons_zero, List.set_cons_succ]
  (refine' take_in 17 rfl (by kernel_rfl) (by kernel_rfl) (by kernel_rfl) (fun _ _ _ h => h) (by rfl) (by assumption) ?_ ?_; rotate_left; focus (intro w hSw; (try dsimp only at hSw); go_simp; try with_reducible rfl)); try simp only [Act.put, List.setIfInBounds_toArray, List.set_cons_zero, List.set_cons_succ]
  (refine' take_in 18 rfl (by kernel_rfl) (by kernel_rfl) (by kernel_rfl) (fun _ _ _ h => h) (by rfl) (by assumption) ?_ ?_; rotate_left; focus (intro w hSw; (try dsimp only at hSw); go_simp; try with_reducible rfl)); try simp only [Act.put, List.setIfInBounds_toArray, List.set_cons_zero, List.set_cons_succ]
  (refine' take_in 19 rfl (by kernel_rfl) (by kernel_rfl) (by kernel_rfl) (fun _ _ _ h => h) (by rfl) (by assumption) ?_ ?_; rotate_left; focus (intro w hSw; (try dsimp only at hSw); go_simp; try with_reducible rfl)); try simp only [Act.put, List.setIfInBounds_toArray, List.set_cons_zero, List.set_cons_succ]
  (refine' take_in 20 rfl (by kernel_rfl) (by kernel_rfl) (by kernel_rfl) (fun _ _ _ h => h) (by rfl) (by assumption) ?_ ?_; rotate_left; focus (intro w hSw; (try dsimp only at hSw); go_simp; try with_reducible rfl)); try simp only [Act.put, List.setIfInBounds_toArray, List.set_cons_zero, List.set_cons_succ]
  (refine' take_in 21 rfl (by kernel_rfl) (by kernel_rfl) (by kernel_rfl) (fun _ _ _ h => h) (by rfl) (by assumption) ?_ ?_; rotate_left; focus (intro w hSw; (try dsimp only at hSw); go_simp; try with_reducible rfl)); try simp only [Act.put, List.setIfInBounds_toArray, List.set_cons_zero, List.set_cons_succ]
  (refine' take_in 22 rfl (by kernel_rfl) (by kernel_rfl) (by kernel_rfl) (fun _ _ _ h => h) (by rfl) (by assumption) ?_ ?_; rotate_left; focus (intro w hSw; (try dsimp only at hSw); go_simp; try with_reducible rfl)); try simp only [Act.put, List.setIfInBounds_toArray, List.set_cons_zero, List.set_cons_succ]
  (refine' take_in 23 rfl (by kernel_rfl) (by kernel_rfl) (by kernel_rfl) (fun _ _ _ h => h) (by rfl) (by assumption) ?_ ?_; rotate_left; focus (intro w hSw; (try dsimp only at hSw); go_simp; try with_reducible rfl)); try simp only [Act.put, List.setIfInBounds_toArray, List.set_cons_zero, List.set_cons_succ]
  (refine' take_in 24 rfl (by kernel_rfl) (by kernel_rfl) (by kernel_rfl) (fun _ _ _ h => h) (by rfl) (by assumption) ?_ ?_; rotate_left; focus (intro w hSw; (try dsimp only at hSw); go_simp; try with_reducible rfl)); try simp only [Act.put, List.setIfInBounds_toArray, List.set_cons_zero, List.set_cons_succ]
  (refine' take_in 25 rfl (by kernel_rfl) (by kernel_rfl) (by kernel_rfl) (fun _ _ _ h => h) (by rfl) (by assumption) ?_ ?_; rotate_left; focus (intro w hSw; (try dsimp only at hSw); go_simp; try with_reducible rfl)); try simp only [Act.put, List.setIfInBounds_toArray, List.set_cons_zero, List.set_cons_succ]
  (refine' take_in 26 rfl (by kernel_rfl) (by kernel_rfl) (by kernel_rfl) (fun _ _ _ h => h) (by rfl) (by assumption) ?_ ?_; rotate_left; focus (intro w hSw; (try dsimp only at hSw); go_simp; try with_reducible rfl)); try simp only [Act.put, List.setIfInBounds_toArray, List.set_cons_zero, List.set_cons_succ]
  (refine' take_in 27 rfl (by kernel_rfl) (by kernel_rfl) (by kernel_rfl) (fun _ _ _ h => h) (by rfl) (by assumption) ?_ ?_; rotate_left; focus (intro w hSw; (try dsimp only at hSw); go_simp; try with_reducible rfl)); try simp only [Act.put, List.setIfInBounds_toArray, List.set_cons_zero, List.set_cons_succ]
  (refine' take_in 28 rfl (by kernel_rfl) (by kernel_rfl) (by kernel_rfl) (fun _ _ _ h => h) (by rfl) (by assumption) ?_ ?_; rotate_left; focus (intro w hSw; (try dsimp only at hSw); go_simp; try with_reducible rfl)); try simp only [Act.put, List.setIfInBounds_toArray, List.set_cons_zero, List.set_cons_succ]
  refine' next_in 29 rfl (by kernel_rfl) (by rfl) (fun K hK => ?_)
  go_simp
  refine hK.out _ _ (by (first | exact ⟨t1, t2, t3⟩ | exact ⟨t1.ext ((Ext.refl _).drew), t2.ext ((Ext.refl _).drew), t3.ext ((Ext.refl _).drew)⟩ | exact ⟨t1.ext (((Ext.refl _).drew).alloc _), t2.ext (((Ext.refl _).drew).alloc _), t3.ext (((Ext.refl _).drew).alloc _)⟩ | exact ⟨t1.ext (((Ext.refl _).alloc _).drew), t2.ext (((Ext.refl _).alloc _).drew), t3.ext (((Ext.refl _).alloc _).drew)⟩)) (fun hHeld => ?_); clear hK K; try simp only [Act.put, List.setIfInBounds_toArray, List.set_cons_zero, List.set_cons_succ]
  refine' next_in 30 rfl (by kernel_rfl) (by rfl) (fun K hK => ?_)
  go_simp
  refine hK.out _ _ (by (first | exact ⟨t1, t2, t3⟩ | exact ⟨t1.ext ((Ext.refl _).drew), t2.ext ((Ext.refl _).drew), t3.ext ((Ext.refl _).drew)⟩ | exact ⟨t1.ext (((Ext.refl _).drew).alloc _), t2.ext (((Ext.refl _).drew).alloc _), t3.ext (((Ext.refl _).drew).alloc _)⟩ | exact ⟨t1.ext (((Ext.refl _).alloc _).drew), t2.ext (((Ext.refl _).alloc _).drew), t3.ext (((Ext.refl _).alloc _).drew)⟩)) (fun hHeld => ?_); clear hK K; try simp only [Act.put, List.setIfInBounds_toArray, List.set_cons_zero, List.set_cons_succ]
  (refine' take_in 31 rfl (by kernel_rfl) (by kernel_rfl) (by kernel_rfl) (fun _ _ _ h => h) (by rfl) (by assumption) ?_ ?_; rotate_left; focus (intro w hSw; (try dsimp only at hSw); go_simp; try with_reducible rfl)); try simp only [Act.put, List.setIfInBounds_toArray, List.set_cons_zero, List.set_cons_succ]
  (refine' take_in 32 rfl (by kernel_rfl) (by kernel_rfl) (by kernel_rfl) (fun _ _ _ h => h) (by rfl) (by assumption) ?_ ?_; rotate_left; focus (intro w hSw; (try dsimp only at hSw); go_simp; try with_reducible rfl)); try simp only [Act.put, List.setIfInBounds_toArray, List.set_cons_zero, List.set_cons_succ]
  (refine' take_in 33 rfl (by kernel_rfl) (by kernel_rfl) (by kernel_rfl) (fun _ _ _ h => h) (by rfl) (by assumption) ?_ ?_; rotate_left; focus (intro w hSw; (try dsimp only at hSw); go_simp; try with_reducible rfl)); try simp only [Act.put, List.setIfInBounds_toArray, List.set_cons_zero, List.set_cons_succ]
  refine wpAnyH_done (by kernel_rfl) ?_ _
  go_wp2_with fail
  go_ret
  exact ⟨rfl, (by repeat (first | with_reducible exact Ext.refl w | with_reducible refine Ext.drew ?_ | with_reducible refine Ext.drewN ?_ _ | with_reducible refine Ext.alloc ?_ _ | with_reducible refine Ext.setCell ?_ (by first | omega | (simp; done) | (simp; omega)) _))⟩
end
section
open Go.RowKit
/-- a row of bytes of one's own -/
def OwnN (w : World) (base : Nat) (v : Value) (n : Nat) (L : List Nat) : Prop := w.ownsRow base 5 1 v n (by_ L)
theorem OwnN.ext {w w' : World} {base n : Nat} {v : Value} {L : List Nat} (h : OwnN w base v n L) (hx : Ext w w') : OwnN w' base v n L := own_keep h hx
theorem OwnN.sl {w : World} {base n c : Nat} {A : Option Addr} {L : List Nat} (h : OwnN w base (.slice A n c) n L) : Sl w 1 A n c (by_ L) := Sl.own h
theorem OwnN.in_ {w : World} {base n c : Nat} {A : Option Addr} {L : List Nat} (h : OwnN w base (.slice A n c) n L) : ∀ k o s, A = some ⟨k, o, s⟩ → base ≤ k ∧ k < w.heap.size := by
  intro k o s e'
  subst e'
  exact World.ownsRow.lt h k rfl
theorem own_out {w : World} {L : List Nat} {E : Int} {r : Ending} {w' : World} (h : ByErr L E w r w') : ∃ A c, r = .returned (.tuple #[.slice A L.length c, .int .i64 E]) ∧ (A = none → c = 0) ∧ OwnN w' w.heap.size (.slice A L.length c) L.length L ∧ Ext w w' := by
  obtain ⟨v, rfl, hown, hx⟩ := h
  obtain ⟨A, c, rfl, h1, h2⟩ := own_parts2 hown
  exact ⟨A, c, rfl, h1, hown, hx⟩
theorem kOverBytes_own (A : Option Addr) (c : Nat) (L : List Nat) (hB : Byt L) (base : Nat) (w : World) (h : OwnN w base (.slice A L.length c) L.length L) :
    Calls Tryz.prog 8 #[.slice A L.length c] w fun r w' => (∃ v, r = .returned v) ∧ But (fun k => ∃ o s, A = some ⟨k, o, s⟩) w w' := by
  rcases h.2 with ⟨h', h0⟩ | ⟨g, cap, cur, h', hbg, _⟩
  · injection h' with h1 h2 h3
    subst h1; subst h3
    rw [h2]
    go_enter Tryz.func8, Tryz.ntmps8
    go_wp2
    go_loopg [2] 0 (fun gh i wx => i = .int .i64 0 ∧ wx = w)
    case atStart => exact ⟨rfl, rfl⟩
    case round =>
      obtain ⟨rfl, rfl⟩ := hrel
      go_wp2
      go_end0
      exact ⟨⟨_, rfl⟩, But.refl _ _⟩
  · injection h' with h1 h2 h3
    subst h1; subst h3
    refine (kOverBytes_some g c L hB base w h).mono ?_
    rintro r w' ⟨h1, h2⟩
    exact ⟨h1, h2.mono fun k _ hk => ⟨0, none, by have hk2 : k = g := hk; rw [hk2]⟩⟩
/-- what was lent reads as the bytes -/
theorem lent_sl {w : World} {base g cap : Nat} {L : List Nat} (h : OwnN w base (.slice (some ⟨g, 0, none⟩) (L.length + 4) cap) (L.length + 4) (L ++ lentT)) : Sl w 1 (some ⟨g, 0, none⟩) L.length cap (by_ L) := by
  have := (Sl.own h).take (m := L.length) (by omega)
  rw [Nat.mul_one] at this
  rwa [show (by_ (L ++ lentT)).take L.length = by_ L from by rw [← by_append, List.take_left' (by_len L)]] at this
theorem lent_slR {w : World} {base g cap : Nat} {L : List Nat} (h : w.ownsRow base 5 1 (.slice (some ⟨g, 0, none⟩) (L.length + 4) cap) (L.length + 4) (by_ (L ++ lentT))) : Sl w 1 (some ⟨g, 0, none⟩) L.length cap (by_ L) := lent_sl h
end
section
open Go.RowKit Go.ChangeShapes Go.WideShapes Go.Deep Go.Joins
theorem qRead_z (A : Option Addr) (c : Nat) (L : List Nat) (R : List (Int × Int × Int × Int × Int × Int × Int × Int)) (e a : Int) (hB : Byt L) (hL : L.length < 1099511627776) (hnil : A = none → c = 0) (w : World) (hs : Sl w 1 A L.length c (by_ L)) (hF : (R, e, a) = queRV L) :
    Calls Tryz.prog 10 #[.slice A L.length c] w fun r w' => ∃ A c, r = .returned (.tuple #[.slice A R.length c, .agg #[.int .i64 e, .int .i64 a]]) ∧ (A = none → c = 0) ∧ OwnEnt w' w.heap.size (.slice A R.length c) R.length R ∧ Ext w w' := by
  have h := qRead_any A c L hB hL hnil w hs
  rw [← hF] at h
  exact h
theorem rRead14_z (A : Option Addr) (c : Nat) (L : List Nat) (R : List (Int × Int × Int × Int × Int × Int × Int × Int)) (e a : Int) (hB : Byt L) (hL : L.length < 1099511627776) (w : World) (hs : Sl w 1 A L.length c (by_ L)) (hF : (R, e, a) = queRV L) :
    Calls Tryz.prog 11 #[.slice A L.length c] w fun r w' => ∃ A c, r = .returned (.tuple #[.slice A R.length c, .agg #[.int .i64 e, .int .i64 a]]) ∧ (A = none → c = 0) ∧ OwnEnt w' w.heap.size (.slice A R.length c) R.length R ∧ Ext w w' := by
  have h := rRead14_any A c L hB hL w hs
  rw [← hF] at h
  exact h
theorem qBytes_z (A : Option Addr) (c : Nat) (l : List (Int × Int × Int × Int × Int × Int × Int × Int)) (BL : List Nat) (e : Int) (w : World) (hs : Sl w 8 A l.length c (l.flatMap entC)) (hw : ∀ x ∈ l, FitsQ x) (hl : l.length ≤ 100) (hF : (BL, e) = (queB l, (chkQ l).1)) :
    Calls Tryz.prog 5 #[.slice A l.length c] w fun r w' => ∃ A c, r = .returned (.tuple #[.slice A BL.length c, .int .i64 e]) ∧ (A = none → c = 0) ∧ OwnN w' w.heap.size (.slice A BL.length c) BL.length BL ∧ Ext w w' := by
  obtain ⟨h1, h2⟩ := Prod.mk.inj hF
  rw [h1, h2]
  exact (qBytes_any A c l w hs hw hl).mono fun r w' h => own_out h
theorem rBytes14_z (A : Option Addr) (c : Nat) (l : List (Int × Int × Int × Int × Int × Int × Int × Int)) (BL : List Nat) (e : Int) (w : World) (hs : Sl w 8 A l.length c (l.flatMap entC)) (hw : ∀ x ∈ l, FitsQ x) (hl : l.length ≤ 100) (hF : (BL, e) = (queB l, (chkQ l).1)) :
    Calls Tryz.prog 6 #[.slice A l.length c] w fun r w' => ∃ A c, r = .returned (.tuple #[.slice A BL.length c, .int .i64 e]) ∧ (A = none → c = 0) ∧ OwnN w' w.heap.size (.slice A BL.length c) BL.length BL ∧ Ext w w' := by
  obtain ⟨h1, h2⟩ := Prod.mk.inj hF
  rw [h1, h2]
  exact (r14Bytes_any A c l w hs hw hl).mono fun r w' h => own_out h
set_option maxRecDepth 100000 in
theorem QueueBytes_long (A A1 : Option Addr) (c n c1 n1 : Nat) (w : World) (hl : ¬ n ≤ 60 ∨ ¬ n1 ≤ 600) (hs : n ≤ 9223372036854775807) (hs1 : n1 ≤ 9223372036854775807) :
    Calls Tryz.prog 3 #[.slice A n c, .slice A1 n1 c1] w fun r w' => r = .returned (.bool true) ∧ Ext w w' := by
  go_enter Tryz.func3, Tryz.ntmps3
  by_cases h0 : (60 : Int) < (n : Int)
  · skip
    go_wp2_with fail
    (with_reducible refine (awake14_any _).mono ?_)
    rintro e w1 ⟨rfl, hx1⟩
    have z1 := hx1.size
    try simp at z1
    have X1 : Hid (Ext w w1) := Lib.hid (Ext.trans (by repeat (first | with_reducible exact Ext.refl w | with_reducible refine Ext.drew ?_ | with_reducible refine Ext.drewN ?_ _ | with_reducible refine Ext.alloc ?_ _ | with_reducible refine Ext.setCell ?_ (by first | omega | (simp; done) | (simp; omega)) _)) hx1)
    clear hx1 z1
    go_wp2_with fail
    go_ret
    exact ⟨rfl, (by repeat (first | with_reducible exact X1.out | with_reducible refine Ext.drew ?_ | with_reducible refine Ext.drewN ?_ _ | with_reducible refine Ext.alloc ?_ _ | with_reducible refine Ext.setCell ?_ (by first | omega | (simp; done) | (simp; omega)) _))⟩
  · have h1 : (600 : Int) < (n1 : Int) := by omega
    go_wp2_with fail
    (with_reducible refine (awake14_any _).mono ?_)
    rintro e w1 ⟨rfl, hx1⟩
    have z1 := hx1.size
    try simp at z1
    have X1 : Hid (Ext w w1) := Lib.hid (Ext.trans (by repeat (first | with_reducible exact Ext.refl w | with_reducible refine Ext.drew ?_ | with_reducible refine Ext.drewN ?_ _ | with_reducible refine Ext.alloc ?_ _ | with_reducible refine Ext.setCell ?_ (by first | omega | (simp; done) | (simp; omega)) _)) hx1)
    clear hx1 z1
    go_wp2_with fail
    go_ret
    exact ⟨rfl, (by repeat (first | with_reducible exact X1.out | with_reducible refine Ext.drew ?_ | with_reducible refine Ext.drewN ?_ _ | with_reducible refine Ext.alloc ?_ _ | with_reducible refine Ext.setCell ?_ (by first | omega | (simp; done) | (simp; omega)) _))⟩
set_option maxRecDepth 100000 in
set_option maxHeartbeats 4000000 in
theorem QueueBytes_main (A A0 : Option Addr) (c c0 : Nat) (l RL : List (Int × Int × Int × Int × Int × Int × Int × Int)) (M BL : List Nat) (be re ra : Int) (w : World) (hs : Sl w 8 A l.length c (l.flatMap entC)) (hb : Sl w 1 A0 M.length c0 (by_ M)) (hM : Byt M) (hw : ∀ x ∈ l, FitsQ x) (hl : l.length ≤ 60) (hl0 : M.length ≤ 600) (h1 : (BL, be) = (queB l, (chkQ l).1)) (h2 : (RL, re, ra) = queRV M) (hBL : Byt BL) :
    Calls Tryz.prog 3 #[.slice A l.length c, .slice A0 M.length c0] w fun r w' => r = .returned (.bool true) ∧ Ext w w' := by
  have hMd : ¬ (60 : Int) < (l.length : Int) := by omega
  have hMe : ¬ (600 : Int) < (M.length : Int) := by omega
  have s1 := hs.small
  have s2 := hb.small
  have HS := Lib.hid hs.low
  have HB := Lib.hid hb.low
  have HW := Lib.hid hw
  have F1 := Lib.hid h1
  have F2 := Lib.hid h2
  have HM := Lib.hid (And.intro hM hBL)
  have qe := flt_eql
  have qg := flt_eqg
  clear hs hw hb h1 h2 hM hBL
  go_enter Tryz.func3, Tryz.ntmps3
  go_wp2_with fail
  replace HS := Lib.hid HS.out.raise
  replace HB := Lib.hid HB.out.raise
  (with_reducible refine (qBytes_z A c l BL be _ (HS.out.ext (by repeat (first | with_reducible exact Ext.refl _ | with_reducible refine Ext.drew ?_ | with_reducible refine Ext.drewN ?_ _ | with_reducible refine Ext.alloc ?_ _ | with_reducible refine Ext.setCell ?_ (by first | omega | (simp; done) | (simp; omega)) _))).sl HW.out (by omega) F1.out).mono ?_)
  rintro e w1 ⟨A1, c1, rfl, _, hO, hx1⟩
  have z1 := hx1.size
  try simp at z1
  replace HS := Lib.hid (HS.out.ext (Ext.trans (by repeat (first | with_reducible exact Ext.refl _ | with_reducible refine Ext.drew ?_ | with_reducible refine Ext.drewN ?_ _ | with_reducible refine Ext.alloc ?_ _ | with_reducible refine Ext.setCell ?_ (by first | omega | (simp; done) | (simp; omega)) _)) hx1))
  replace HB := Lib.hid (HB.out.ext (Ext.trans (by repeat (first | with_reducible exact Ext.refl _ | with_reducible refine Ext.drew ?_ | with_reducible refine Ext.drewN ?_ _ | with_reducible refine Ext.alloc ?_ _ | with_reducible refine Ext.setCell ?_ (by first | omega | (simp; done) | (simp; omega)) _)) hx1))
  have X1 : Hid (Ext w w1) := Lib.hid (Ext.trans (by repeat (first | with_reducible exact Ext.refl w | with_reducible refine Ext.drew ?_ | with_reducible refine Ext.drewN ?_ _ | with_reducible refine Ext.alloc ?_ _ | with_reducible refine Ext.setCell ?_ (by first | omega | (simp; done) | (simp; omega)) _)) hx1)
  have HA := Lib.hid hO
  clear hx1 z1 hO
  have HAi : Hid (∀ k o s, A1 = some ⟨k, o, s⟩ → w.heap.size ≤ k) := Lib.hid (fun k o s e => by have h := HA.out.in_ k o s e; (try simp at h); omega)
  go_wp2_with fail
  (with_reducible refine (rBytes14_z A c l BL be _ (HS.out.ext (by repeat (first | with_reducible exact Ext.refl _ | with_reducible refine Ext.drew ?_ | with_reducible refine Ext.drewN ?_ _ | with_reducible refine Ext.alloc ?_ _ | with_reducible refine Ext.setCell ?_ (by first | omega | (simp; done) | (simp; omega)) _))).sl HW.out (by omega) F1.out).mono ?_)
  rintro e w2 ⟨A2, c2, rfl, _, hO, hx2⟩
  have z2 := hx2.size
  try simp at z2
  replace HS := Lib.hid (HS.out.ext (Ext.trans (by repeat (first | with_reducible exact Ext.refl _ | with_reducible refine Ext.drew ?_ | with_reducible refine Ext.drewN ?_ _ | with_reducible refine Ext.alloc ?_ _ | with_reducible refine Ext.setCell ?_ (by first | omega | (simp; done) | (simp; omega)) _)) hx2))
  replace HB := Lib.hid (HB.out.ext (Ext.trans (by repeat (first | with_reducible exact Ext.refl _ | with_reducible refine Ext.drew ?_ | with_reducible refine Ext.drewN ?_ _ | with_reducible refine Ext.alloc ?_ _ | with_reducible refine Ext.setCell ?_ (by first | omega | (simp; done) | (simp; omega)) _)) hx2))
  replace HA := Lib.hid (HA.out.ext (Ext.trans (by repeat (first | with_reducible exact Ext.refl _ | with_reducible refine Ext.drew ?_ | with_reducible refine Ext.drewN ?_ _ | with_reducible refine Ext.alloc ?_ _ | with_reducible refine Ext.setCell ?_ (by first | omega | (simp; done) | (simp; omega)) _)) hx2))
  have X2 : Hid (Ext w w2) := Lib.hid (Ext.trans (by repeat (first | with_reducible exact X1.out | with_reducible refine Ext.drew ?_ | with_reducible refine Ext.drewN ?_ _ | with_reducible refine Ext.alloc ?_ _ | with_reducible refine Ext.setCell ?_ (by first | omega | (simp; done) | (simp; omega)) _)) hx2)
  have HD := Lib.hid hO
  clear X1 hx2 z2 hO
  go_wp2_with fail
  (with_reducible refine (kSameBytes_eq A1 A2 _ c1 _ c2 BL HM.out.2 _ (HA.out.ext (by repeat (first | with_reducible exact Ext.refl _ | with_reducible refine Ext.drew ?_ | with_reducible refine Ext.drewN ?_ _ | with_reducible refine Ext.alloc ?_ _ | with_reducible refine Ext.setCell ?_ (by first | omega | (simp; done) | (simp; omega)) _))).sl (HD.out.ext (by repeat (first | with_reducible exact Ext.refl _ | with_reducible refine Ext.drew ?_ | with_reducible refine Ext.drewN ?_ _ | with_reducible refine Ext.alloc ?_ _ | with_reducible refine Ext.setCell ?_ (by first | omega | (simp; done) | (simp; omega)) _))).sl).mono ?_)
  rintro e w_1 ⟨rfl, rfl⟩
  go_wp2_with fail
  (with_reducible refine (kOverBytes_own A1 c1 BL HM.out.2 _ _ (HA.out.ext (by repeat (first | with_reducible exact Ext.refl _ | with_reducible refine Ext.drew ?_ | with_reducible refine Ext.drewN ?_ _ | with_reducible refine Ext.alloc ?_ _ | with_reducible refine Ext.setCell ?_ (by first | omega | (simp; done) | (simp; omega)) _)))).mono ?_)
  rintro e w3 ⟨⟨vv, rfl⟩, hx3⟩
  have hsz3 := hx3.size
  try simp at hsz3
  have z3 := hx3.size
  try simp at z3
  have X3 : Hid (Ext w w3) := Lib.hid (have hX := (show Ext w _ from (by repeat (first | with_reducible exact X2.out | with_reducible refine Ext.drew ?_ | with_reducible refine Ext.drewN ?_ _ | with_reducible refine Ext.alloc ?_ _ | with_reducible refine Ext.setCell ?_ (by first | omega | (simp; done) | (simp; omega)) _))); Below.trans hX (hx3.below (Ext.size hX) (fun k hk hh => by obtain ⟨o, s, e⟩ := hh; have := HAi.out k o s e; omega)))
  replace HS := Lib.hid ((HS.out.ext (by repeat (first | with_reducible exact Ext.refl _ | with_reducible refine Ext.drew ?_ | with_reducible refine Ext.drewN ?_ _ | with_reducible refine Ext.alloc ?_ _ | with_reducible refine Ext.setCell ?_ (by first | omega | (simp; done) | (simp; omega)) _))).but hx3 (fun k hk => by obtain ⟨o, s, e⟩ := hk; have := HAi.out k o s e; omega))
  replace HB := Lib.hid ((HB.out.ext (by repeat (first | with_reducible exact Ext.refl _ | with_reducible refine Ext.drew ?_ | with_reducible refine Ext.drewN ?_ _ | with_reducible refine Ext.alloc ?_ _ | with_reducible refine Ext.setCell ?_ (by first | omega | (simp; done) | (simp; omega)) _))).but hx3 (fun k hk => by obtain ⟨o, s, e⟩ := hk; have := HAi.out k o s e; omega))
  clear HA HD hsz3 X2 hx3 z3
  clear HAi
  go_wp2_with fail
  (with_reducible refine (kLentBytes_any A0 c0 M _ (HB.out.ext (by repeat (first | with_reducible exact Ext.refl _ | with_reducible refine Ext.drew ?_ | with_reducible refine Ext.drewN ?_ _ | with_reducible refine Ext.alloc ?_ _ | with_reducible refine Ext.setCell ?_ (by first | omega | (simp; done) | (simp; omega)) _))).sl (by omega)).mono ?_)
  rintro e w4 ⟨p, rfl, hk, hx4⟩
  have z4 := hx4.size
  try simp at z4
  replace HS := Lib.hid (HS.out.ext (Ext.trans (by repeat (first | with_reducible exact Ext.refl _ | with_reducible refine Ext.drew ?_ | with_reducible refine Ext.drewN ?_ _ | with_reducible refine Ext.alloc ?_ _ | with_reducible refine Ext.setCell ?_ (by first | omega | (simp; done) | (simp; omega)) _)) hx4))
  replace HB := Lib.hid (HB.out.ext (Ext.trans (by repeat (first | with_reducible exact Ext.refl _ | with_reducible refine Ext.drew ?_ | with_reducible refine Ext.drewN ?_ _ | with_reducible refine Ext.alloc ?_ _ | with_reducible refine Ext.setCell ?_ (by first | omega | (simp; done) | (simp; omega)) _)) hx4))
  have X4 : Hid (Ext w w4) := Lib.hid (Ext.trans (by repeat (first | with_reducible exact X3.out | with_reducible refine Ext.drew ?_ | with_reducible refine Ext.drewN ?_ _ | with_reducible refine Ext.alloc ?_ _ | with_reducible refine Ext.setCell ?_ (by first | omega | (simp; done) | (simp; omega)) _)) hx4)
  have HK := Lib.hid (OwnR.mk (show OwnN _ _ _ _ _ from hk))
  clear X3 hx4 z4
  clear hk
  go_wp2_with fail
  have hsz4 := Ext.size X4.out
  replace HS := Lib.hid HS.out.raise
  replace HB := Lib.hid HB.out.raise
  replace HK := Lib.hid HK.out.raise
  (with_reducible refine (qRead_z (some ⟨p.1, 0, none⟩) p.2 M RL re ra HM.out.1 (by omega) (by intro hh; cases hh) _ (lent_slR (OwnR.butN HK.out (by repeat (first | with_reducible exact But.refl _ _ | with_reducible refine But.drew ?_ | with_reducible refine But.drewN ?_ _ | with_reducible refine But.alloc ?_ _ | with_reducible refine But.setCell ?_ (by first | exact Nat.le_refl _ | (dsimp only; omega)) _ | with_reducible refine But.setNew ?_ (by first | omega | (simp; done) | (simp; omega)) _))).own) F2.out).mono ?_)
  rintro e w5 ⟨A3, c3, rfl, _, hO, hx5⟩
  have z5 := hx5.size
  try simp at z5
  replace HS := Lib.hid (HS.out.ext (Ext.trans (by repeat (first | with_reducible exact Ext.refl _ | with_reducible refine Ext.drew ?_ | with_reducible refine Ext.drewN ?_ _ | with_reducible refine Ext.alloc ?_ _ | with_reducible refine Ext.setCell ?_ (by first | omega | (simp; done) | (simp; omega)) _)) hx5))
  replace HB := Lib.hid (HB.out.ext (Ext.trans (by repeat (first | with_reducible exact Ext.refl _ | with_reducible refine Ext.drew ?_ | with_reducible refine Ext.drewN ?_ _ | with_reducible refine Ext.alloc ?_ _ | with_reducible refine Ext.setCell ?_ (by first | omega | (simp; done) | (simp; omega)) _)) hx5))
  replace HK := Lib.hid ((OwnR.butN HK.out (by repeat (first | with_reducible exact But.refl _ _ | with_reducible refine But.drew ?_ | with_reducible refine But.drewN ?_ _ | with_reducible refine But.alloc ?_ _ | with_reducible refine But.setCell ?_ (by first | exact Nat.le_refl _ | (dsimp only; omega)) _ | with_reducible refine But.setNew ?_ (by first | omega | (simp; done) | (simp; omega)) _))).ext hx5)
  have X5 : Hid (Ext w w5) := Lib.hid (Ext.trans (by repeat (first | with_reducible exact X4.out | with_reducible refine Ext.drew ?_ | with_reducible refine Ext.drewN ?_ _ | with_reducible refine Ext.alloc ?_ _ | with_reducible refine Ext.setCell ?_ (by first | omega | (simp; done) | (simp; omega)) _)) hx5)
  have HA := Lib.hid hO
  clear X4 hx5 z5 hO
  have HAi : Hid (∀ k o s, A3 = some ⟨k, o, s⟩ → w4.heap.size ≤ k) := Lib.hid (fun k o s e => by have h := HA.out.in_ k o s e; (try simp at h); omega)
  go_wp2_with fail
  (with_reducible refine (rRead14_z A0 c0 M RL re ra HM.out.1 (by omega) _ (HB.out.ext (by repeat (first | with_reducible exact Ext.refl _ | with_reducible refine Ext.drew ?_ | with_reducible refine Ext.drewN ?_ _ | with_reducible refine Ext.alloc ?_ _ | with_reducible refine Ext.setCell ?_ (by first | omega | (simp; done) | (simp; omega)) _))).sl F2.out).mono ?_)
  rintro e w6 ⟨A4, c4, rfl, _, hO, hx6⟩
  have c0_0 : w6.cell? ⟨w5.heap.size, 0, none⟩ = some (.int .i64 re) := hx6.has (by first | fail | (simp [go_sem, World.cell?_alloc_past]; done) | fail)
  have c0_1 : w6.cell? ⟨w5.heap.size, 1, none⟩ = some (.int .i64 ra) := hx6.has (by first | fail | (simp [go_sem, World.cell?_alloc_past]; done) | fail)
  have z6 := hx6.size
  try simp at z6
  have rc0 : w5.heap.size < w6.heap.size := by omega
  have rc0a : w5.heap.size < w6.heap.size + 1 := by omega
  have rc0b : w5.heap.size < w6.heap.size + 1 + 1 := by omega
  have rc0c : w5.heap.size < w6.heap.size + 1 + 1 + 1 := by omega
  have rc0n : ¬ w5.heap.size = w6.heap.size := by omega
  replace HS := Lib.hid (HS.out.ext (Ext.trans (by repeat (first | with_reducible exact Ext.refl _ | with_reducible refine Ext.drew ?_ | with_reducible refine Ext.drewN ?_ _ | with_reducible refine Ext.alloc ?_ _ | with_reducible refine Ext.setCell ?_ (by first | omega | (simp; done) | (simp; omega)) _)) hx6))
  replace HB := Lib.hid (HB.out.ext (Ext.trans (by repeat (first | with_reducible exact Ext.refl _ | with_reducible refine Ext.drew ?_ | with_reducible refine Ext.drewN ?_ _ | with_reducible refine Ext.alloc ?_ _ | with_reducible refine Ext.setCell ?_ (by first | omega | (simp; done) | (simp; omega)) _)) hx6))
  replace HK := Lib.hid ((OwnR.butN HK.out (by repeat (first | with_reducible exact But.refl _ _ | with_reducible refine But.drew ?_ | with_reducible refine But.drewN ?_ _ | with_reducible refine But.alloc ?_ _ | with_reducible refine But.setCell ?_ (by first | exact Nat.le_refl _ | (dsimp only; omega)) _ | with_reducible refine But.setNew ?_ (by first | omega | (simp; done) | (simp; omega)) _))).ext hx6)
  replace HA := Lib.hid (HA.out.ext (Ext.trans (by repeat (first | with_reducible exact Ext.refl _ | with_reducible refine Ext.drew ?_ | with_reducible refine Ext.drewN ?_ _ | with_reducible refine Ext.alloc ?_ _ | with_reducible refine Ext.setCell ?_ (by first | omega | (simp; done) | (simp; omega)) _)) hx6))
  have X6 : Hid (Ext w w6) := Lib.hid (Ext.trans (by repeat (first | with_reducible exact X5.out | with_reducible refine Ext.drew ?_ | with_reducible refine Ext.drewN ?_ _ | with_reducible refine Ext.alloc ?_ _ | with_reducible refine Ext.setCell ?_ (by first | omega | (simp; done) | (simp; omega)) _)) hx6)
  have HD := Lib.hid hO
  clear X5 hx6 z6 hO
  go_wp2_with fail
  (with_reducible refine (kSameEntries_eq A3 A4 _ c3 _ c4 RL _ (OwnEnt.sl (HA.out.ext (by repeat (first | with_reducible exact Ext.refl _ | with_reducible refine Ext.drew ?_ | with_reducible refine Ext.drewN ?_ _ | with_reducible refine Ext.alloc ?_ _ | with_reducible refine Ext.setCell ?_ (by first | omega | (simp; done) | (simp; omega)) _)))) (OwnEnt.sl (HD.out.ext (by repeat (first | with_reducible exact Ext.refl _ | with_reducible refine Ext.drew ?_ | with_reducible refine Ext.drewN ?_ _ | with_reducible refine Ext.alloc ?_ _ | with_reducible refine Ext.setCell ?_ (by first | omega | (simp; done) | (simp; omega)) _))))).mono ?_)
  rintro e w7 ⟨rfl, hx7⟩
  replace c0_0 : w7.cell? ⟨w5.heap.size, 0, none⟩ = some (.int .i64 re) := hx7.has (by first | with_reducible exact c0_0 | (simp [go_sem, World.cell?_alloc_past, c0_0, c0_1, rc0, rc0a, rc0b, rc0c, rc0n]; done) | exact c0_0)
  replace c0_1 : w7.cell? ⟨w5.heap.size, 1, none⟩ = some (.int .i64 ra) := hx7.has (by first | with_reducible exact c0_1 | (simp [go_sem, World.cell?_alloc_past, c0_0, c0_1, rc0, rc0a, rc0b, rc0c, rc0n]; done) | exact c0_1)
  have c1_0 : w7.cell? ⟨w6.heap.size, 0, none⟩ = some (.int .i64 re) := hx7.has (by first | fail | (simp [go_sem, World.cell?_alloc_past, c0_0, c0_1, rc0, rc0a, rc0b, rc0c, rc0n]; done) | fail)
  have c1_1 : w7.cell? ⟨w6.heap.size, 1, none⟩ = some (.int .i64 ra) := hx7.has (by first | fail | (simp [go_sem, World.cell?_alloc_past, c0_0, c0_1, rc0, rc0a, rc0b, rc0c, rc0n]; done) | fail)
  have z7 := hx7.size
  try simp at z7
  have lt_c0_c1 : w5.heap.size < w6.heap.size := by omega
  have ne_c0_c1 : ¬ w5.heap.size = w6.heap.size := by omega
  have ne_c1_c0 : ¬ w6.heap.size = w5.heap.size := by omega
  replace rc0 : w5.heap.size < w7.heap.size := by omega
  replace rc0a : w5.heap.size < w7.heap.size + 1 := by omega
  replace rc0b : w5.heap.size < w7.heap.size + 1 + 1 := by omega
  replace rc0c : w5.heap.size < w7.heap.size + 1 + 1 + 1 := by omega
  replace rc0n : ¬ w5.heap.size = w7.heap.size := by omega
  have rc1 : w6.heap.size < w7.heap.size := by omega
  have rc1a : w6.heap.size < w7.heap.size + 1 := by omega
  have rc1b : w6.heap.size < w7.heap.size + 1 + 1 := by omega
  have rc1c : w6.heap.size < w7.heap.size + 1 + 1 + 1 := by omega
  have rc1n : ¬ w6.heap.size = w7.heap.size := by omega
  replace HS := Lib.hid (HS.out.ext (Ext.trans (by repeat (first | with_reducible exact Ext.refl _ | with_reducible refine Ext.drew ?_ | with_reducible refine Ext.drewN ?_ _ | with_reducible refine Ext.alloc ?_ _ | with_reducible refine Ext.setCell ?_ (by first | omega | (simp; done) | (simp; omega)) _)) hx7))
  replace HB := Lib.hid (HB.out.ext (Ext.trans (by repeat (first | with_reducible exact Ext.refl _ | with_reducible refine Ext.drew ?_ | with_reducible refine Ext.drewN ?_ _ | with_reducible refine Ext.alloc ?_ _ | with_reducible refine Ext.setCell ?_ (by first | omega | (simp; done) | (simp; omega)) _)) hx7))
  replace HK := Lib.hid ((OwnR.butN HK.out (by repeat (first | with_reducible exact But.refl _ _ | with_reducible refine But.drew ?_ | with_reducible refine But.drewN ?_ _ | with_reducible refine But.alloc ?_ _ | with_reducible refine But.setCell ?_ (by first | exact Nat.le_refl _ | (dsimp only; omega)) _ | with_reducible refine But.setNew ?_ (by first | omega | (simp; done) | (simp; omega)) _))).ext hx7)
  replace HA := Lib.hid (HA.out.ext (Ext.trans (by repeat (first | with_reducible exact Ext.refl _ | with_reducible refine Ext.drew ?_ | with_reducible refine Ext.drewN ?_ _ | with_reducible refine Ext.alloc ?_ _ | with_reducible refine Ext.setCell ?_ (by first | omega | (simp; done) | (simp; omega)) _)) hx7))
  have X7 : Hid (Ext w w7) := Lib.hid (Ext.trans (by repeat (first | with_reducible exact X6.out | with_reducible refine Ext.drew ?_ | with_reducible refine Ext.drewN ?_ _ | with_reducible refine Ext.alloc ?_ _ | with_reducible refine Ext.setCell ?_ (by first | omega | (simp; done) | (simp; omega)) _)) hx7)
  clear HD X6 hx7 z7
  go_wp2_with fail
  (with_reducible refine (kOverEntries_own A3 c3 RL _ _ (HA.out.ext (by repeat (first | with_reducible exact Ext.refl _ | with_reducible refine Ext.drew ?_ | with_reducible refine Ext.drewN ?_ _ | with_reducible refine Ext.alloc ?_ _ | with_reducible refine Ext.setCell ?_ (by first | omega | (simp; done) | (simp; omega)) _)))).mono ?_)
  rintro e w8 ⟨⟨v9, rfl⟩, hx8⟩
  have hsz8 := hx8.size
  try simp at hsz8
  have z8 := hx8.size
  try simp at z8
  have X8 : Hid (Ext w w8) := Lib.hid (have hX := (show Ext w _ from (by repeat (first | with_reducible exact X7.out | with_reducible refine Ext.drew ?_ | with_reducible refine Ext.drewN ?_ _ | with_reducible refine Ext.alloc ?_ _ | with_reducible refine Ext.setCell ?_ (by first | omega | (simp; done) | (simp; omega)) _))); Below.trans hX (hx8.below (Ext.size hX) (fun k hk hh => by obtain ⟨o, s, e⟩ := hh; have := HAi.out k o s e; omega)))
  replace HS := Lib.hid ((HS.out.ext (by repeat (first | with_reducible exact Ext.refl _ | with_reducible refine Ext.drew ?_ | with_reducible refine Ext.drewN ?_ _ | with_reducible refine Ext.alloc ?_ _ | with_reducible refine Ext.setCell ?_ (by first | omega | (simp; done) | (simp; omega)) _))).but hx8 (fun k hk => by obtain ⟨o, s, e⟩ := hk; have := HAi.out k o s e; omega))
  replace HB := Lib.hid ((HB.out.ext (by repeat (first | with_reducible exact Ext.refl _ | with_reducible refine Ext.drew ?_ | with_reducible refine Ext.drewN ?_ _ | with_reducible refine Ext.alloc ?_ _ | with_reducible refine Ext.setCell ?_ (by first | omega | (simp; done) | (simp; omega)) _))).but hx8 (fun k hk => by obtain ⟨o, s, e⟩ := hk; have := HAi.out k o s e; omega))
  replace HK := Lib.hid (OwnR.but (OwnR.butN HK.out (by repeat (first | with_reducible exact But.refl _ _ | with_reducible refine But.drew ?_ | with_reducible refine But.drewN ?_ _ | with_reducible refine But.alloc ?_ _ | with_reducible refine But.setCell ?_ (by first | exact Nat.le_refl _ | (dsimp only; omega)) _ | with_reducible refine But.setNew ?_ (by first | omega | (simp; done) | (simp; omega)) _))) hx8 (fun j h1 h2 hk => by obtain ⟨o, s, e⟩ := hk; have := HAi.out j o s e; omega))
  clear c0_0 c0_1 c1_0 c1_1 rc1 rc1a rc1b rc1c rc1n rc0 rc0a rc0b rc0c rc0n HA hsz8 X7 hx8 z8
  go_wp2_with fail
  (with_reducible refine (kKeptBytes_any p.1 p.2 A0 c0 M _ _ (OwnR.butN HK.out (by repeat (first | with_reducible exact But.refl _ _ | with_reducible refine But.drew ?_ | with_reducible refine But.drewN ?_ _ | with_reducible refine But.alloc ?_ _ | with_reducible refine But.setCell ?_ (by first | exact Nat.le_refl _ | (dsimp only; omega)) _ | with_reducible refine But.setNew ?_ (by first | omega | (simp; done) | (simp; omega)) _))).own (HB.out.ext (by repeat (first | with_reducible exact Ext.refl _ | with_reducible refine Ext.drew ?_ | with_reducible refine Ext.drewN ?_ _ | with_reducible refine Ext.alloc ?_ _ | with_reducible refine Ext.setCell ?_ (by first | omega | (simp; done) | (simp; omega)) _))).sl).mono ?_)
  rintro e w9 ⟨rfl, hx9⟩
  have z9 := hx9.size
  try simp at z9
  replace HS := Lib.hid (HS.out.ext (Ext.trans (by repeat (first | with_reducible exact Ext.refl _ | with_reducible refine Ext.drew ?_ | with_reducible refine Ext.drewN ?_ _ | with_reducible refine Ext.alloc ?_ _ | with_reducible refine Ext.setCell ?_ (by first | omega | (simp; done) | (simp; omega)) _)) hx9))
  replace HB := Lib.hid (HB.out.ext (Ext.trans (by repeat (first | with_reducible exact Ext.refl _ | with_reducible refine Ext.drew ?_ | with_reducible refine Ext.drewN ?_ _ | with_reducible refine Ext.alloc ?_ _ | with_reducible refine Ext.setCell ?_ (by first | omega | (simp; done) | (simp; omega)) _)) hx9))
  have X9 : Hid (Ext w w9) := Lib.hid (Ext.trans (by repeat (first | with_reducible exact X8.out | with_reducible refine Ext.drew ?_ | with_reducible refine Ext.drewN ?_ _ | with_reducible refine Ext.alloc ?_ _ | with_reducible refine Ext.setCell ?_ (by first | omega | (simp; done) | (simp; omega)) _)) hx9)
  clear HK X8 hx9 z9
  go_wp2_with fail
  (with_reducible refine (awake14_any _).mono ?_)
  rintro e w10 ⟨rfl, hx10⟩
  have z10 := hx10.size
  try simp at z10
  replace HS := Lib.hid (HS.out.ext (Ext.trans (by repeat (first | with_reducible exact Ext.refl _ | with_reducible refine Ext.drew ?_ | with_reducible refine Ext.drewN ?_ _ | with_reducible refine Ext.alloc ?_ _ | with_reducible refine Ext.setCell ?_ (by first | omega | (simp; done) | (simp; omega)) _)) hx10))
  replace HB := Lib.hid (HB.out.ext (Ext.trans (by repeat (first | with_reducible exact Ext.refl _ | with_reducible refine Ext.drew ?_ | with_reducible refine Ext.drewN ?_ _ | with_reducible refine Ext.alloc ?_ _ | with_reducible refine Ext.setCell ?_ (by first | omega | (simp; done) | (simp; omega)) _)) hx10))
  have X10 : Hid (Ext w w10) := Lib.hid (Ext.trans (by repeat (first | with_reducible exact X9.out | with_reducible refine Ext.drew ?_ | with_reducible refine Ext.drewN ?_ _ | with_reducible refine Ext.alloc ?_ _ | with_reducible refine Ext.setCell ?_ (by first | omega | (simp; done) | (simp; omega)) _)) hx10)
  clear X9 hx10 z10
  go_wp2_with fail
  go_ret
  exact ⟨rfl, (by repeat (first | with_reducible exact X10.out | with_reducible refine Ext.drew ?_ | with_reducible refine Ext.drewN ?_ _ | with_reducible refine Ext.alloc ?_ _ | with_reducible refine Ext.setCell ?_ (by first | omega | (simp; done) | (simp; omega)) _))⟩
theorem QueueBytes_any (A : Option Addr) (c : Nat) (l : List (Int × Int × Int × Int × Int × Int × Int × Int)) (A0 : Option Addr) (c0 : Nat) (M : List Nat) (w : World) (hs : Sl w 8 A l.length c (l.flatMap entC)) (hw : ∀ x ∈ l, FitsQ x) (_ : A = none → c = 0) (hb : Sl w 1 A0 M.length c0 (by_ M)) (hM : Byt M) (hnil0 : A0 = none → c0 = 0) :
    Calls Tryz.prog 3 #[.slice A l.length c, .slice A0 M.length c0] w fun r w' => r = .returned (.bool true) ∧ Ext w w' := by
  by_cases hl : l.length ≤ 60 ∧ M.length ≤ 600
  · exact QueueBytes_main A A0 c c0 l (queRV M).1 M (queB l) (chkQ l).1 (queRV M).2.1 (queRV M).2.2 w hs hb hM hw hl.1 hl.2 rfl rfl (queB_byt l)
  · exact QueueBytes_long A A0 c l.length c0 M.length w (by omega) hs.small hb.small
end
end Go.Proofs.YtnbeejgppooamaaGreat
