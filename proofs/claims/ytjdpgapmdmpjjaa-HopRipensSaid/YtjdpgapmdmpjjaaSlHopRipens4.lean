/- What the law HopRipens rests on, part 4 of 4: HopRipensW. Conditions stand in each lemma. -/
import Derived.WalkKit
import Derived.Deep.QuietTactic
import Derived.Deep.Draws
import Derived.Laws.OwnMore
import Derived.Laws.AppendOwn
import Derived.OwnWalk
import Derived.RangeFuncBox
import Derived.RangeFuncLeaves
import Derived.Shelf.Abstract
import Derived.OwnWalkIn
import Derived.TacticsInMore
import Derived.LoopNIn
import Derived.LoopIn
import Derived.Maps.AppendAt
import Derived.Test.YtjdpgapmdmpjjaaRows
import Derived.Lib.Hide
import Derived.Deep.Onto
import Derived.ProofKit
import Derived.ChangeOld
import Derived.OpenShut
import Derived.Deep.Slices
import Derived.BigQuiet
import Derived.IntWalk
import Derived.Lib.SliceRun
import Derived.Deep.LoopGhost
import Derived.WalkSpells
import Derived.WalkLawsBesides
import Derived.Laws.BytesArg
import Derived.Deep.RegionHeld3
import Derived.Lib.SmallJoins
import Derived.ArgAppend
import Derived.Laws.StructEq
import Derived.WalkMore
import Derived.Maps.OwnSet
import Derived.WideKeyEntry
import Derived.DeepKeys5
import Derived.Test.YtjdpgapmdmpjjaaSlHopRipens3
set_option linter.unusedVariables false
set_option linter.unusedSimpArgs false
namespace Go.Proofs.Ytjdpgapmdmpjjaa
section
open Go.RowKit Go.ChangeShapes Go.WideShapes Go.Deep Go.Joins
theorem pick_e (x n p : Int) (hx : Fits .i64 x) (hn : 0 < n) (hn2 : n ≤ 9223372036854775807) (hp : p = x % n) (w : World) :
    Calls Try.prog 50 #[.int .i64 x, .int .i64 n] w fun e w' => e = .returned (.int .i64 p) ∧ w = w' := by
  rw [hp]
  exact kPick_any x n hx.i64.1 hx.i64.2 hn hn2 w
theorem ripV_len {l S1 S2 : List (Int × Int × Int × Int)} {hh u e : Int} (h : (S1, S2, e) = ripV l hh u) : S1.length ≤ l.length := by
  have h5 : S1 = (ripV l hh u).1 := by rw [← h]
  rw [h5]
  unfold ripV
  split
  · exact List.length_filter_le _ _
  · exact Nat.zero_le _
theorem ripes15_fe (A : Option Addr) (n c : Nat) (l R1 R2 : List (Int × Int × Int × Int)) (hh u : Int) (w : World) (h : Sl w 4 A n c (l.flatMap hopC)) (hn : n < 1099511627776) (hw : ∀ x ∈ l, FitsH x) (hnil : A = none → c = 0) (hv : (R1, R2, 0) = ripV l hh u) (hne : R1 ≠ []) :
    Calls Try.prog 73 #[.slice A n c, .int .i64 hh, .int .i64 u, .int .i64 0] w fun r w' => r = .returned (.bool false) ∧ Ext w w' := ripes15_f A n c l R1 R2 hh u w h hn hw hnil hv hne
/-- what the law's steps come to -/
structure RipP (L P1 P2 Q1 Q2 S1 S2 : List (Int × Int × Int × Int)) (mo u h1 h2 : Int) : Prop where
  v1 : (P1, P2, 0) = ripV L h1 u
  v2 : (Q1, Q2, 0) = ripV P2 h2 u
  v3 : (S1, S2, 0) = ripV L h2 u
  e1 : P1 ++ Q1 = S1
  e2 : Q2 = S2
  e3 : P1 ++ P2 = L
  le : P1.length ≤ L.length
  q : ∀ (k : Nat) x, L[k]? = some x → (x.2.2.2 + u ≤ h1 ↔ k < P1.length)
theorem ripP_mk {L : List (Int × Int × Int × Int)} {mo at_ u h1 h2 : Int} {n : Nat} (hL : MadeH L mo at_ n) (hu : 1 ≤ u) (hu2 : u ≤ 1048576) (h11 : 1 ≤ h1) (h12 : h1 ≤ h2) (h22 : h2 ≤ 4294967296) : ∃ P1 P2 Q1 Q2 S1 S2, RipP L P1 P2 Q1 Q2 S1 S2 mo u h1 h2 := by
  obtain ⟨m1, l1, r1, q1⟩ := rip_split hL.chk h11 (by omega) hu hu2
  obtain ⟨m2, l2, r2, q2⟩ := rip_split (chkH_drop hL.chk m1) (show 1 ≤ h2 by omega) h22 hu hu2
  obtain ⟨m, l3, r3, q3⟩ := rip_split hL.chk (show 1 ≤ h2 by omega) h22 hu hu2
  rw [List.length_drop] at l2
  have hm := rip_two h12 l1 l3 l2 q1 q3 q2
  subst hm
  refine ⟨_, _, _, _, _, _, r1.symm, r2.symm, r3.symm, ?_, ?_, List.take_append_drop _ _, ?_, ?_⟩
  · rw [List.take_add]
  · rw [List.drop_drop]
  · rw [List.length_take]; omega
  · intro k x hk
    rw [q1 k x hk, List.length_take]
    omega
/-- the first is ripe at its height, not earlier -/
theorem rip_first {L : List (Int × Int × Int × Int)} {x : (Int × Int × Int × Int)} {u : Int} (h : (chkH L).1 = 0) (hx : L[0]? = some x) (hu : 1 ≤ u) (hu2 : u ≤ 1048576) (h1 : 2 ≤ x.2.2.2 + u) (h2 : x.2.2.2 + u ≤ 4294967296) : ([], L, 0) = ripV L (x.2.2.2 + u - 1) u ∧ ∃ R1 R2, (R1, R2, 0) = ripV L (x.2.2.2 + u) u ∧ R1 ≠ [] := by
  obtain ⟨m, l1, r1, q1⟩ := rip_split h (hh := x.2.2.2 + u - 1) (u := u) (by omega) (by omega) hu hu2
  obtain ⟨m2, l2, r2, q2⟩ := rip_split h (hh := x.2.2.2 + u) (u := u) (by omega) h2 hu hu2
  have a := q1 0 x hx
  have b := (q2 0 x hx).1 (by omega)
  have hm : m = 0 := by
    apply Classical.byContradiction
    intro hh
    have := a.2 (by omega)
    omega
  subst hm
  refine ⟨by rw [r1]; rfl, _, _, r2.symm, ?_⟩
  intro hh
  have hl := congrArg List.length hh
  rw [List.length_take] at hl
  simp at hl
  have := (List.getElem?_eq_some_iff.1 hx).1
  rcases hl with hl | hl
  · omega
  · rw [hl] at this; simp at this
set_option maxRecDepth 100000 in
set_option maxHeartbeats 4000000 in
theorem HopRipens_long (A : Option Addr) (c n : Nat) (mo0 u0 f0 t0 : Int) (w : World) (hl : ¬ n ≤ 60) (hs : n ≤ 9223372036854775807) :
    Calls Try.prog 9 #[.slice A n c, .int .i64 mo0, .int .i64 u0, .int .i64 f0, .int .i64 t0] w fun r w' => r = .returned (.bool true) ∧ Ext w w' := by
  have hMd : (60 : Int) < (n : Int) := by omega
  clear hl
  go_enter Try.func9, Try.ntmps9
  go_wp2_with fail
  (with_reducible refine (HopKnown_any _).mono ?_)
  rintro e w1 ⟨rfl, hx1⟩
  have z1 := hx1.size
  try simp at z1
  have X1 : Hid (Ext w w1) := Lib.hid (Ext.trans (by repeat (first | with_reducible exact Ext.refl w | with_reducible refine Ext.drew ?_ | with_reducible refine Ext.drewN ?_ _ | with_reducible refine Ext.alloc ?_ _ | with_reducible refine Ext.setCell ?_ (by first | omega | (simp; done) | (simp; omega)) _)) hx1)
  clear hx1 z1
  go_wp2_with fail
  go_ret
  exact ⟨rfl, (by repeat (first | with_reducible exact X1.out | with_reducible refine Ext.drew ?_ | with_reducible refine Ext.drewN ?_ _ | with_reducible refine Ext.alloc ?_ _ | with_reducible refine Ext.setCell ?_ (by first | omega | (simp; done) | (simp; omega)) _))⟩
set_option maxRecDepth 100000 in
set_option maxHeartbeats 4000000 in
theorem HopRipens_main (A : Option Addr) (n c : Nat) (l : List Int) (mo0 u0 f0 t0 p1 p2 p3 p4 mo u h1 h2 : Int) (w : World) (hs : Sl w 1 A n c (iv .i64 l)) (hf : ∀ x ∈ l, Fits .i64 x) (hl : n ≤ 60)
    (hp1 : ∀ w, Calls Try.prog 50 #[.int .i64 mo0, .int .i64 16] w fun e w' => e = .returned (.int .i64 p1) ∧ w = w') (hp2 : ∀ w, Calls Try.prog 50 #[.int .i64 u0, .int .i64 40] w fun e w' => e = .returned (.int .i64 p2) ∧ w = w')
    (hp3 : ∀ w, Calls Try.prog 50 #[.int .i64 f0, .int .i64 200] w fun e w' => e = .returned (.int .i64 p3) ∧ w = w') (hp4 : ∀ w, Calls Try.prog 50 #[.int .i64 t0, .int .i64 100] w fun e w' => e = .returned (.int .i64 p4) ∧ w = w')
    (b1 : 0 ≤ p1 ∧ p1 < 16) (b2 : 0 ≤ p2 ∧ p2 < 40) (b3 : 0 ≤ p3 ∧ p3 < 200) (b4 : 0 ≤ p4 ∧ p4 < 100) (e1 : 1 + p1 = mo) (e2 : 1 + p2 = u) (e3 : 1 + p3 = h1) (e4 : h1 + p4 = h2) :
    Calls Try.prog 9 #[.slice A n c, .int .i64 mo0, .int .i64 u0, .int .i64 f0, .int .i64 t0] w fun r w' => r = .returned (.bool true) ∧ Ext w w' := by
  have hMd : ¬ (60 : Int) < (n : Int) := by omega
  have s1 := hs.small
  have HS := Lib.hid hs
  have HF := Lib.hid hf
  have HP1 := Lib.hid hp1
  have HP2 := Lib.hid hp2
  have HP3 := Lib.hid hp3
  have HP4 := Lib.hid hp4
  have w1a : IntKind.i64.wrap (1 + p1) = mo := by rw [IntWalk.i64_in _ (by omega)]; exact e1
  have w1b : Go.RowKit.wrap64 (1 + p1) = mo := by rw [← IntWalk.i64_left]; exact w1a
  have w1c : IntKind.i64.wrap mo = mo := IntWalk.i64_in _ (by omega)
  have w1d : Go.RowKit.wrap64 mo = mo := by rw [← IntWalk.i64_left]; exact w1c
  have w2a : IntKind.i64.wrap (1 + p2) = u := by rw [IntWalk.i64_in _ (by omega)]; exact e2
  have w2b : Go.RowKit.wrap64 (1 + p2) = u := by rw [← IntWalk.i64_left]; exact w2a
  have w2c : IntKind.i64.wrap u = u := IntWalk.i64_in _ (by omega)
  have w2d : Go.RowKit.wrap64 u = u := by rw [← IntWalk.i64_left]; exact w2c
  have w3a : IntKind.i64.wrap (1 + p3) = h1 := by rw [IntWalk.i64_in _ (by omega)]; exact e3
  have w3b : Go.RowKit.wrap64 (1 + p3) = h1 := by rw [← IntWalk.i64_left]; exact w3a
  have w3c : IntKind.i64.wrap h1 = h1 := IntWalk.i64_in _ (by omega)
  have w3d : Go.RowKit.wrap64 h1 = h1 := by rw [← IntWalk.i64_left]; exact w3c
  have w4a : IntKind.i64.wrap (h1 + p4) = h2 := by rw [IntWalk.i64_in _ (by omega)]; exact e4
  have w4b : Go.RowKit.wrap64 (h1 + p4) = h2 := by rw [← IntWalk.i64_left]; exact w4a
  have w4c : IntKind.i64.wrap h2 = h2 := IntWalk.i64_in _ (by omega)
  have w4d : Go.RowKit.wrap64 h2 = h2 := by rw [← IntWalk.i64_left]; exact w4c
  have HB := Lib.hid (show 1 ≤ mo ∧ mo ≤ 16 ∧ 1 ≤ u ∧ u ≤ 40 ∧ 1 ≤ h1 ∧ h1 ≤ 200 ∧ h1 ≤ h2 ∧ h2 ≤ 300 by omega)
  obtain ⟨i0, hi0, hz0, hz1, hz2⟩ := info_parts hop_info
  clear hs hf hp1 hp2 hp3 hp4 b1 b2 b3 b4
  go_enter Try.func9, Try.ntmps9
  go_wp2_with fail
  (with_reducible refine (HopKnown_any _).mono ?_)
  rintro e w1 ⟨rfl, hx1⟩
  have z1 := hx1.size
  try simp at z1
  replace HS := Lib.hid (HS.out.ext (Ext.trans (by repeat (first | with_reducible exact Ext.refl _ | with_reducible refine Ext.drew ?_ | with_reducible refine Ext.drewN ?_ _ | with_reducible refine Ext.alloc ?_ _ | with_reducible refine Ext.setCell ?_ (by first | omega | (simp; done) | (simp; omega)) _)) hx1))
  have X1 : Hid (Ext w w1) := Lib.hid (Ext.trans (by repeat (first | with_reducible exact Ext.refl w | with_reducible refine Ext.drew ?_ | with_reducible refine Ext.drewN ?_ _ | with_reducible refine Ext.alloc ?_ _ | with_reducible refine Ext.setCell ?_ (by first | omega | (simp; done) | (simp; omega)) _)) hx1)
  clear hx1
  go_wp2_with fail
  (with_reducible refine (HP1.out _).mono ?_)
  rintro e w_1 ⟨rfl, rfl⟩
  go_wp2_with fail
  (with_reducible refine (HP2.out _).mono ?_)
  rintro e w_2 ⟨rfl, rfl⟩
  go_wp2_with fail
  (with_reducible refine (made15_any A n c l mo _ (HS.out.ext (by repeat (first | with_reducible exact Ext.refl _ | with_reducible refine Ext.drew ?_ | with_reducible refine Ext.drewN ?_ _ | with_reducible refine Ext.alloc ?_ _ | with_reducible refine Ext.setCell ?_ (by first | omega | (simp; done) | (simp; omega)) _))) HF.out hl (by have := HB.out; omega) (by have := HB.out; omega)).mono ?_)
  rintro e w2 ⟨A2, c2, L, rfl, hn2, hS2, hM2, hx2⟩
  have z2 := hx2.size
  try simp at z2
  have X2 : Hid (Ext w w2) := Lib.hid (Ext.trans (by repeat (first | with_reducible exact X1.out | with_reducible refine Ext.drew ?_ | with_reducible refine Ext.drewN ?_ _ | with_reducible refine Ext.alloc ?_ _ | with_reducible refine Ext.setCell ?_ (by first | omega | (simp; done) | (simp; omega)) _)) hx2)
  have HL := Lib.hid hS2.low
  clear HS X1 hx2
  have HN2 := Lib.hid hn2
  have HMD := Lib.hid hM2
  have hL60 := hM2.len
  obtain ⟨P1, P2, Q1, Q2, S1, S2, hrip⟩ := ripP_mk (u := u) (h1 := h1) (h2 := h2) hM2 (by have := HB.out; omega) (by have := HB.out; omega) (by have := HB.out; omega) (by have := HB.out; omega) (by have := HB.out; omega)
  have HR := Lib.hid hrip
  have hP1 : P1.length ≤ 60 := Nat.le_trans hrip.le hL60
  have hP2 : P2.length ≤ 60 := by have h := congrArg List.length hrip.e3; rw [List.length_append] at h; omega
  have HFP : Hid (∀ x ∈ P2, FitsH x) := Lib.hid (fun x hx => hM2.fits x (by rw [← hrip.e3]; exact List.mem_append_right _ hx))
  clear hn2 hM2 hrip
  go_wp2_with fail
  (with_reducible refine (HP3.out _).mono ?_)
  rintro e w_3 ⟨rfl, rfl⟩
  go_wp2_with fail
  (with_reducible refine (HP4.out _).mono ?_)
  rintro e w_4 ⟨rfl, rfl⟩
  go_wp2_with fail
  (with_reducible refine (hopRipe_ev A2 L.length c2 L P1 P2 h1 u 0 _ (HL.out.ext (by repeat (first | with_reducible exact Ext.refl _ | with_reducible refine Ext.drew ?_ | with_reducible refine Ext.drewN ?_ _ | with_reducible refine Ext.alloc ?_ _ | with_reducible refine Ext.setCell ?_ (by first | omega | (simp; done) | (simp; omega)) _))).sl (by omega) HMD.out.fits HN2.out HR.out.v1).mono ?_)
  rintro e w3 ⟨A3, c3, A4, c4, rfl, hn3, hn4, hO3, hO4, _, hx3⟩
  have z3 := hx3.size
  try simp at z3
  replace HL := Lib.hid (HL.out.ext (Ext.trans (by repeat (first | with_reducible exact Ext.refl _ | with_reducible refine Ext.drew ?_ | with_reducible refine Ext.drewN ?_ _ | with_reducible refine Ext.alloc ?_ _ | with_reducible refine Ext.setCell ?_ (by first | omega | (simp; done) | (simp; omega)) _)) hx3))
  have X3 : Hid (Ext w w3) := Lib.hid (Ext.trans (by repeat (first | with_reducible exact X2.out | with_reducible refine Ext.drew ?_ | with_reducible refine Ext.drewN ?_ _ | with_reducible refine Ext.alloc ?_ _ | with_reducible refine Ext.setCell ?_ (by first | omega | (simp; done) | (simp; omega)) _)) hx3)
  have H3 := Lib.hid hO3
  have H4 := Lib.hid hO4
  clear X2 hx3 hO3 hO4
  have HN4 := Lib.hid hn4
  have H3i : Hid (∀ k o s, A3 = some ⟨k, o, s⟩ → w2.heap.size ≤ k ∧ k < w3.heap.size) := Lib.hid (fun k o s e => by have h := H3.out.in_ k o s e; (try simp at h); omega)
  have H4i : Hid (∀ k o s, A4 = some ⟨k, o, s⟩ → w2.heap.size ≤ k ∧ k < w3.heap.size) := Lib.hid (fun k o s e => by have h := H4.out.in_ k o s e; (try simp at h); omega)
  clear hn3 hn4
  go_wp2_with fail
  (with_reducible refine (hopRipe_ev A4 P2.length c4 P2 Q1 Q2 h2 u 0 _ (H4.out.ext (by repeat (first | with_reducible exact Ext.refl _ | with_reducible refine Ext.drew ?_ | with_reducible refine Ext.drewN ?_ _ | with_reducible refine Ext.alloc ?_ _ | with_reducible refine Ext.setCell ?_ (by first | omega | (simp; done) | (simp; omega)) _))).sl (by omega) HFP.out HN4.out HR.out.v2).mono ?_)
  rintro e w4 ⟨A5, c5, A6, c6, rfl, hn5, hn6, hO5, hO6, _, hx4⟩
  have z4 := hx4.size
  try simp at z4
  replace HL := Lib.hid (HL.out.ext (Ext.trans (by repeat (first | with_reducible exact Ext.refl _ | with_reducible refine Ext.drew ?_ | with_reducible refine Ext.drewN ?_ _ | with_reducible refine Ext.alloc ?_ _ | with_reducible refine Ext.setCell ?_ (by first | omega | (simp; done) | (simp; omega)) _)) hx4))
  replace H3 := Lib.hid (H3.out.ext (Ext.trans (by repeat (first | with_reducible exact Ext.refl _ | with_reducible refine Ext.drew ?_ | with_reducible refine Ext.drewN ?_ _ | with_reducible refine Ext.alloc ?_ _ | with_reducible refine Ext.setCell ?_ (by first | omega | (simp; done) | (simp; omega)) _)) hx4))
  replace H4 := Lib.hid (H4.out.ext (Ext.trans (by repeat (first | with_reducible exact Ext.refl _ | with_reducible refine Ext.drew ?_ | with_reducible refine Ext.drewN ?_ _ | with_reducible refine Ext.alloc ?_ _ | with_reducible refine Ext.setCell ?_ (by first | omega | (simp; done) | (simp; omega)) _)) hx4))
  have X4 : Hid (Ext w w4) := Lib.hid (Ext.trans (by repeat (first | with_reducible exact X3.out | with_reducible refine Ext.drew ?_ | with_reducible refine Ext.drewN ?_ _ | with_reducible refine Ext.alloc ?_ _ | with_reducible refine Ext.setCell ?_ (by first | omega | (simp; done) | (simp; omega)) _)) hx4)
  have H5 := Lib.hid hO5
  have H6 := Lib.hid hO6
  clear X3 hx4 hO5 hO6
  have H5i : Hid (∀ k o s, A5 = some ⟨k, o, s⟩ → w3.heap.size ≤ k ∧ k < w4.heap.size) := Lib.hid (fun k o s e => by have h := H5.out.in_ k o s e; (try simp at h); omega)
  have H6i : Hid (∀ k o s, A6 = some ⟨k, o, s⟩ → w3.heap.size ≤ k ∧ k < w4.heap.size) := Lib.hid (fun k o s e => by have h := H6.out.in_ k o s e; (try simp at h); omega)
  have hQ1 : Q1.length ≤ 60 := by have h := congrArg List.length HR.out.e1; have h3 := HR.out.v3; have h4 : S1.length ≤ L.length := ripV_len h3; rw [List.length_append] at h; omega
  clear hn5 hn6
  go_wp2_with fail
  (with_reducible refine (hopRipe_ev A2 L.length c2 L S1 S2 h2 u 0 _ (HL.out.ext (by repeat (first | with_reducible exact Ext.refl _ | with_reducible refine Ext.drew ?_ | with_reducible refine Ext.drewN ?_ _ | with_reducible refine Ext.alloc ?_ _ | with_reducible refine Ext.setCell ?_ (by first | omega | (simp; done) | (simp; omega)) _))).sl (by omega) HMD.out.fits HN2.out HR.out.v3).mono ?_)
  rintro e w5 ⟨A7, c7, A8, c8, rfl, hn7, hn8, hO7, hO8, _, hx5⟩
  have z5 := hx5.size
  try simp at z5
  replace HL := Lib.hid (HL.out.ext (Ext.trans (by repeat (first | with_reducible exact Ext.refl _ | with_reducible refine Ext.drew ?_ | with_reducible refine Ext.drewN ?_ _ | with_reducible refine Ext.alloc ?_ _ | with_reducible refine Ext.setCell ?_ (by first | omega | (simp; done) | (simp; omega)) _)) hx5))
  replace H3 := Lib.hid (H3.out.ext (Ext.trans (by repeat (first | with_reducible exact Ext.refl _ | with_reducible refine Ext.drew ?_ | with_reducible refine Ext.drewN ?_ _ | with_reducible refine Ext.alloc ?_ _ | with_reducible refine Ext.setCell ?_ (by first | omega | (simp; done) | (simp; omega)) _)) hx5))
  replace H4 := Lib.hid (H4.out.ext (Ext.trans (by repeat (first | with_reducible exact Ext.refl _ | with_reducible refine Ext.drew ?_ | with_reducible refine Ext.drewN ?_ _ | with_reducible refine Ext.alloc ?_ _ | with_reducible refine Ext.setCell ?_ (by first | omega | (simp; done) | (simp; omega)) _)) hx5))
  replace H5 := Lib.hid (H5.out.ext (Ext.trans (by repeat (first | with_reducible exact Ext.refl _ | with_reducible refine Ext.drew ?_ | with_reducible refine Ext.drewN ?_ _ | with_reducible refine Ext.alloc ?_ _ | with_reducible refine Ext.setCell ?_ (by first | omega | (simp; done) | (simp; omega)) _)) hx5))
  replace H6 := Lib.hid (H6.out.ext (Ext.trans (by repeat (first | with_reducible exact Ext.refl _ | with_reducible refine Ext.drew ?_ | with_reducible refine Ext.drewN ?_ _ | with_reducible refine Ext.alloc ?_ _ | with_reducible refine Ext.setCell ?_ (by first | omega | (simp; done) | (simp; omega)) _)) hx5))
  have X5 : Hid (Ext w w5) := Lib.hid (Ext.trans (by repeat (first | with_reducible exact X4.out | with_reducible refine Ext.drew ?_ | with_reducible refine Ext.drewN ?_ _ | with_reducible refine Ext.alloc ?_ _ | with_reducible refine Ext.setCell ?_ (by first | omega | (simp; done) | (simp; omega)) _)) hx5)
  have H7 := Lib.hid hO7
  have H8 := Lib.hid hO8
  clear X4 hx5 hO7 hO8
  have H7i : Hid (∀ k o s, A7 = some ⟨k, o, s⟩ → w4.heap.size ≤ k ∧ k < w5.heap.size) := Lib.hid (fun k o s e => by have h := H7.out.in_ k o s e; (try simp at h); omega)
  have H8i : Hid (∀ k o s, A8 = some ⟨k, o, s⟩ → w4.heap.size ≤ k ∧ k < w5.heap.size) := Lib.hid (fun k o s e => by have h := H8.out.in_ k o s e; (try simp at h); omega)
  clear hn7 hn8
  go_wp2_with fail
  (with_reducible refine (kCopyHops_any A3 c3 P1 _ (H3.out.ext (by repeat (first | with_reducible exact Ext.refl _ | with_reducible refine Ext.drew ?_ | with_reducible refine Ext.drewN ?_ _ | with_reducible refine Ext.alloc ?_ _ | with_reducible refine Ext.setCell ?_ (by first | omega | (simp; done) | (simp; omega)) _))).sl (by omega)).mono ?_)
  rintro e w6 ⟨A9, c9, rfl, hn9, hO9, hx6⟩
  have z6 := hx6.size
  try simp at z6
  replace HL := Lib.hid (HL.out.ext (Ext.trans (by repeat (first | with_reducible exact Ext.refl _ | with_reducible refine Ext.drew ?_ | with_reducible refine Ext.drewN ?_ _ | with_reducible refine Ext.alloc ?_ _ | with_reducible refine Ext.setCell ?_ (by first | omega | (simp; done) | (simp; omega)) _)) hx6))
  replace H3 := Lib.hid (H3.out.ext (Ext.trans (by repeat (first | with_reducible exact Ext.refl _ | with_reducible refine Ext.drew ?_ | with_reducible refine Ext.drewN ?_ _ | with_reducible refine Ext.alloc ?_ _ | with_reducible refine Ext.setCell ?_ (by first | omega | (simp; done) | (simp; omega)) _)) hx6))
  replace H4 := Lib.hid (H4.out.ext (Ext.trans (by repeat (first | with_reducible exact Ext.refl _ | with_reducible refine Ext.drew ?_ | with_reducible refine Ext.drewN ?_ _ | with_reducible refine Ext.alloc ?_ _ | with_reducible refine Ext.setCell ?_ (by first | omega | (simp; done) | (simp; omega)) _)) hx6))
  replace H5 := Lib.hid (H5.out.ext (Ext.trans (by repeat (first | with_reducible exact Ext.refl _ | with_reducible refine Ext.drew ?_ | with_reducible refine Ext.drewN ?_ _ | with_reducible refine Ext.alloc ?_ _ | with_reducible refine Ext.setCell ?_ (by first | omega | (simp; done) | (simp; omega)) _)) hx6))
  replace H6 := Lib.hid (H6.out.ext (Ext.trans (by repeat (first | with_reducible exact Ext.refl _ | with_reducible refine Ext.drew ?_ | with_reducible refine Ext.drewN ?_ _ | with_reducible refine Ext.alloc ?_ _ | with_reducible refine Ext.setCell ?_ (by first | omega | (simp; done) | (simp; omega)) _)) hx6))
  replace H7 := Lib.hid (H7.out.ext (Ext.trans (by repeat (first | with_reducible exact Ext.refl _ | with_reducible refine Ext.drew ?_ | with_reducible refine Ext.drewN ?_ _ | with_reducible refine Ext.alloc ?_ _ | with_reducible refine Ext.setCell ?_ (by first | omega | (simp; done) | (simp; omega)) _)) hx6))
  replace H8 := Lib.hid (H8.out.ext (Ext.trans (by repeat (first | with_reducible exact Ext.refl _ | with_reducible refine Ext.drew ?_ | with_reducible refine Ext.drewN ?_ _ | with_reducible refine Ext.alloc ?_ _ | with_reducible refine Ext.setCell ?_ (by first | omega | (simp; done) | (simp; omega)) _)) hx6))
  have X6 : Hid (Ext w w6) := Lib.hid (Ext.trans (by repeat (first | with_reducible exact X5.out | with_reducible refine Ext.drew ?_ | with_reducible refine Ext.drewN ?_ _ | with_reducible refine Ext.alloc ?_ _ | with_reducible refine Ext.setCell ?_ (by first | omega | (simp; done) | (simp; omega)) _)) hx6)
  have H9 := Lib.hid hO9
  clear X5 hx6 hO9
  have H9i : Hid (∀ k o s, A9 = some ⟨k, o, s⟩ → w5.heap.size ≤ k ∧ k < w6.heap.size) := Lib.hid (fun k o s e => by have h := H9.out.in_ k o s e; (try simp at h); omega)
  clear hn9
  go_wp2_with (at_builtin; refine wpList_ungd (by first | rfl | (simp [Region.wanted, yielded]; done)) ?_; refine wpList_append_slB _ rfl _ _ 22 rfl w.heap.size 24 i0 (.agg #[.int .i64 0, .int .i64 0, .int .i64 0, .int .i64 0]) 4 32 Try.underlying22 hi0 hz0 hz1 hz2 rfl (by decide) (.slice A9 P1.length c9) P1.length _ (by rfl) (OwnHop.lower (H9.out.ext (by repeat (first | with_reducible exact Ext.refl _ | with_reducible refine Ext.drew ?_ | with_reducible refine Ext.drewN ?_ _ | with_reducible refine Ext.alloc ?_ _ | with_reducible refine Ext.setCell ?_ (by first | omega | (simp; done) | (simp; omega)) _))) (by omega)) A5 Q1.length c5 (Q1.flatMap hopC) (by rfl) ((H5.out.ext (by repeat (first | with_reducible exact Ext.refl _ | with_reducible refine Ext.drew ?_ | with_reducible refine Ext.drewN ?_ _ | with_reducible refine Ext.alloc ?_ _ | with_reducible refine Ext.setCell ?_ (by first | omega | (simp; done) | (simp; omega)) _))).sl) hopC_one (by omega) (by decide) (by omega) ?_; intro va7 w7 hown7 hb7 hf7)
  have hlo7 := World.ownsRow.lt H9.out
  obtain ⟨Ar7, cr7, rfl, hnr7, _⟩ := own_parts2 hown7
  have hro7 : OwnHop w7 w.heap.size (.slice Ar7 (P1.length + Q1.length) cr7) (P1.length + Q1.length) S1 := (by unfold OwnHop; rw [← HR.out.e1, List.flatMap_append]; exact hown7)
  clear hown7 hnr7 hf7
  have hsz7 := hb7.size
  try simp at hsz7
  have z7 := hb7.size
  try simp at z7
  have X7 : Hid (Ext w w7) := Lib.hid (have hX := (show Ext w _ from (by repeat (first | with_reducible exact X6.out | with_reducible refine Ext.drew ?_ | with_reducible refine Ext.drewN ?_ _ | with_reducible refine Ext.alloc ?_ _ | with_reducible refine Ext.setCell ?_ (by first | omega | (simp; done) | (simp; omega)) _))); Below.trans hX (hb7.below (Ext.size hX) (fun k hk hh => by have h2 := (hlo7 k hh).1; omega)))
  replace HL := Lib.hid ((HL.out.ext (by repeat (first | with_reducible exact Ext.refl _ | with_reducible refine Ext.drew ?_ | with_reducible refine Ext.drewN ?_ _ | with_reducible refine Ext.alloc ?_ _ | with_reducible refine Ext.setCell ?_ (by first | omega | (simp; done) | (simp; omega)) _))).but hb7 (fun k hk => by have h2 := (hlo7 k hk).1; omega))
  replace H3 := Lib.hid ((H3.out.ext (by repeat (first | with_reducible exact Ext.refl _ | with_reducible refine Ext.drew ?_ | with_reducible refine Ext.drewN ?_ _ | with_reducible refine Ext.alloc ?_ _ | with_reducible refine Ext.setCell ?_ (by first | omega | (simp; done) | (simp; omega)) _))).but hb7 (fun k o s e hk => by have h1 := H3i.out k o s e; have h2 := (hlo7 k hk).1; omega))
  replace H4 := Lib.hid ((H4.out.ext (by repeat (first | with_reducible exact Ext.refl _ | with_reducible refine Ext.drew ?_ | with_reducible refine Ext.drewN ?_ _ | with_reducible refine Ext.alloc ?_ _ | with_reducible refine Ext.setCell ?_ (by first | omega | (simp; done) | (simp; omega)) _))).but hb7 (fun k o s e hk => by have h1 := H4i.out k o s e; have h2 := (hlo7 k hk).1; omega))
  replace H6 := Lib.hid ((H6.out.ext (by repeat (first | with_reducible exact Ext.refl _ | with_reducible refine Ext.drew ?_ | with_reducible refine Ext.drewN ?_ _ | with_reducible refine Ext.alloc ?_ _ | with_reducible refine Ext.setCell ?_ (by first | omega | (simp; done) | (simp; omega)) _))).but hb7 (fun k o s e hk => by have h1 := H6i.out k o s e; have h2 := (hlo7 k hk).1; omega))
  replace H7 := Lib.hid ((H7.out.ext (by repeat (first | with_reducible exact Ext.refl _ | with_reducible refine Ext.drew ?_ | with_reducible refine Ext.drewN ?_ _ | with_reducible refine Ext.alloc ?_ _ | with_reducible refine Ext.setCell ?_ (by first | omega | (simp; done) | (simp; omega)) _))).but hb7 (fun k o s e hk => by have h1 := H7i.out k o s e; have h2 := (hlo7 k hk).1; omega))
  replace H8 := Lib.hid ((H8.out.ext (by repeat (first | with_reducible exact Ext.refl _ | with_reducible refine Ext.drew ?_ | with_reducible refine Ext.drewN ?_ _ | with_reducible refine Ext.alloc ?_ _ | with_reducible refine Ext.setCell ?_ (by first | omega | (simp; done) | (simp; omega)) _))).but hb7 (fun k o s e hk => by have h1 := H8i.out k o s e; have h2 := (hlo7 k hk).1; omega))
  have Hx1 := Lib.hid hro7
  clear H9 H5 hsz7 X6 hb7 hro7
  clear hlo7
  go_wp2_with fail
  (with_reducible refine (kSameHops_eq Ar7 A7 _ cr7 _ c7 S1 _ (Hx1.out.ext (by repeat (first | with_reducible exact Ext.refl _ | with_reducible refine Ext.drew ?_ | with_reducible refine Ext.drewN ?_ _ | with_reducible refine Ext.alloc ?_ _ | with_reducible refine Ext.setCell ?_ (by first | omega | (simp; done) | (simp; omega)) _))).sl (H7.out.ext (by repeat (first | with_reducible exact Ext.refl _ | with_reducible refine Ext.drew ?_ | with_reducible refine Ext.drewN ?_ _ | with_reducible refine Ext.alloc ?_ _ | with_reducible refine Ext.setCell ?_ (by first | omega | (simp; done) | (simp; omega)) _))).sl).mono ?_)
  rintro e w8 ⟨rfl, hx8⟩
  have z8 := hx8.size
  try simp at z8
  replace HL := Lib.hid (HL.out.ext (Ext.trans (by repeat (first | with_reducible exact Ext.refl _ | with_reducible refine Ext.drew ?_ | with_reducible refine Ext.drewN ?_ _ | with_reducible refine Ext.alloc ?_ _ | with_reducible refine Ext.setCell ?_ (by first | omega | (simp; done) | (simp; omega)) _)) hx8))
  replace H3 := Lib.hid (H3.out.ext (Ext.trans (by repeat (first | with_reducible exact Ext.refl _ | with_reducible refine Ext.drew ?_ | with_reducible refine Ext.drewN ?_ _ | with_reducible refine Ext.alloc ?_ _ | with_reducible refine Ext.setCell ?_ (by first | omega | (simp; done) | (simp; omega)) _)) hx8))
  replace H4 := Lib.hid (H4.out.ext (Ext.trans (by repeat (first | with_reducible exact Ext.refl _ | with_reducible refine Ext.drew ?_ | with_reducible refine Ext.drewN ?_ _ | with_reducible refine Ext.alloc ?_ _ | with_reducible refine Ext.setCell ?_ (by first | omega | (simp; done) | (simp; omega)) _)) hx8))
  replace H6 := Lib.hid (H6.out.ext (Ext.trans (by repeat (first | with_reducible exact Ext.refl _ | with_reducible refine Ext.drew ?_ | with_reducible refine Ext.drewN ?_ _ | with_reducible refine Ext.alloc ?_ _ | with_reducible refine Ext.setCell ?_ (by first | omega | (simp; done) | (simp; omega)) _)) hx8))
  replace H8 := Lib.hid (H8.out.ext (Ext.trans (by repeat (first | with_reducible exact Ext.refl _ | with_reducible refine Ext.drew ?_ | with_reducible refine Ext.drewN ?_ _ | with_reducible refine Ext.alloc ?_ _ | with_reducible refine Ext.setCell ?_ (by first | omega | (simp; done) | (simp; omega)) _)) hx8))
  have X8 : Hid (Ext w w8) := Lib.hid (Ext.trans (by repeat (first | with_reducible exact X7.out | with_reducible refine Ext.drew ?_ | with_reducible refine Ext.drewN ?_ _ | with_reducible refine Ext.alloc ?_ _ | with_reducible refine Ext.setCell ?_ (by first | omega | (simp; done) | (simp; omega)) _)) hx8)
  clear Hx1 H7 X7 hx8
  clear H7i
  go_wp2_with fail
  (with_reducible refine (kSameHops_eq A6 A8 _ c6 _ c8 S2 _ (by rw [← HR.out.e2]; exact (H6.out.ext (by repeat (first | with_reducible exact Ext.refl _ | with_reducible refine Ext.drew ?_ | with_reducible refine Ext.drewN ?_ _ | with_reducible refine Ext.alloc ?_ _ | with_reducible refine Ext.setCell ?_ (by first | omega | (simp; done) | (simp; omega)) _))).sl) (H8.out.ext (by repeat (first | with_reducible exact Ext.refl _ | with_reducible refine Ext.drew ?_ | with_reducible refine Ext.drewN ?_ _ | with_reducible refine Ext.alloc ?_ _ | with_reducible refine Ext.setCell ?_ (by first | omega | (simp; done) | (simp; omega)) _))).sl).mono ?_)
  rintro e w9 ⟨rfl, hx9⟩
  have z9 := hx9.size
  try simp at z9
  replace HL := Lib.hid (HL.out.ext (Ext.trans (by repeat (first | with_reducible exact Ext.refl _ | with_reducible refine Ext.drew ?_ | with_reducible refine Ext.drewN ?_ _ | with_reducible refine Ext.alloc ?_ _ | with_reducible refine Ext.setCell ?_ (by first | omega | (simp; done) | (simp; omega)) _)) hx9))
  replace H3 := Lib.hid (H3.out.ext (Ext.trans (by repeat (first | with_reducible exact Ext.refl _ | with_reducible refine Ext.drew ?_ | with_reducible refine Ext.drewN ?_ _ | with_reducible refine Ext.alloc ?_ _ | with_reducible refine Ext.setCell ?_ (by first | omega | (simp; done) | (simp; omega)) _)) hx9))
  replace H4 := Lib.hid (H4.out.ext (Ext.trans (by repeat (first | with_reducible exact Ext.refl _ | with_reducible refine Ext.drew ?_ | with_reducible refine Ext.drewN ?_ _ | with_reducible refine Ext.alloc ?_ _ | with_reducible refine Ext.setCell ?_ (by first | omega | (simp; done) | (simp; omega)) _)) hx9))
  have X9 : Hid (Ext w w9) := Lib.hid (Ext.trans (by repeat (first | with_reducible exact X8.out | with_reducible refine Ext.drew ?_ | with_reducible refine Ext.drewN ?_ _ | with_reducible refine Ext.alloc ?_ _ | with_reducible refine Ext.setCell ?_ (by first | omega | (simp; done) | (simp; omega)) _)) hx9)
  clear H6 H8 X8 hx9
  clear H6i H8i
  go_wp2_with fail
  (with_reducible refine (kCopyHops_any A3 c3 P1 _ (H3.out.ext (by repeat (first | with_reducible exact Ext.refl _ | with_reducible refine Ext.drew ?_ | with_reducible refine Ext.drewN ?_ _ | with_reducible refine Ext.alloc ?_ _ | with_reducible refine Ext.setCell ?_ (by first | omega | (simp; done) | (simp; omega)) _))).sl (by omega)).mono ?_)
  rintro e w10 ⟨A13, c13, rfl, hn13, hO13, hx10⟩
  have z10 := hx10.size
  try simp at z10
  replace HL := Lib.hid (HL.out.ext (Ext.trans (by repeat (first | with_reducible exact Ext.refl _ | with_reducible refine Ext.drew ?_ | with_reducible refine Ext.drewN ?_ _ | with_reducible refine Ext.alloc ?_ _ | with_reducible refine Ext.setCell ?_ (by first | omega | (simp; done) | (simp; omega)) _)) hx10))
  replace H3 := Lib.hid (H3.out.ext (Ext.trans (by repeat (first | with_reducible exact Ext.refl _ | with_reducible refine Ext.drew ?_ | with_reducible refine Ext.drewN ?_ _ | with_reducible refine Ext.alloc ?_ _ | with_reducible refine Ext.setCell ?_ (by first | omega | (simp; done) | (simp; omega)) _)) hx10))
  replace H4 := Lib.hid (H4.out.ext (Ext.trans (by repeat (first | with_reducible exact Ext.refl _ | with_reducible refine Ext.drew ?_ | with_reducible refine Ext.drewN ?_ _ | with_reducible refine Ext.alloc ?_ _ | with_reducible refine Ext.setCell ?_ (by first | omega | (simp; done) | (simp; omega)) _)) hx10))
  have X10 : Hid (Ext w w10) := Lib.hid (Ext.trans (by repeat (first | with_reducible exact X9.out | with_reducible refine Ext.drew ?_ | with_reducible refine Ext.drewN ?_ _ | with_reducible refine Ext.alloc ?_ _ | with_reducible refine Ext.setCell ?_ (by first | omega | (simp; done) | (simp; omega)) _)) hx10)
  have H13 := Lib.hid hO13
  clear X9 hx10 hO13
  have H13i : Hid (∀ k o s, A13 = some ⟨k, o, s⟩ → w9.heap.size ≤ k ∧ k < w10.heap.size) := Lib.hid (fun k o s e => by have h := H13.out.in_ k o s e; (try simp at h); omega)
  clear hn13
  go_wp2_with (at_builtin; refine wpList_ungd (by first | rfl | (simp [Region.wanted, yielded]; done)) ?_; refine wpList_append_slB _ rfl _ _ 22 rfl w.heap.size 24 i0 (.agg #[.int .i64 0, .int .i64 0, .int .i64 0, .int .i64 0]) 4 32 Try.underlying22 hi0 hz0 hz1 hz2 rfl (by decide) (.slice A13 P1.length c13) P1.length _ (by rfl) (OwnHop.lower (H13.out.ext (by repeat (first | with_reducible exact Ext.refl _ | with_reducible refine Ext.drew ?_ | with_reducible refine Ext.drewN ?_ _ | with_reducible refine Ext.alloc ?_ _ | with_reducible refine Ext.setCell ?_ (by first | omega | (simp; done) | (simp; omega)) _))) (by omega)) A4 P2.length c4 (P2.flatMap hopC) (by rfl) ((H4.out.ext (by repeat (first | with_reducible exact Ext.refl _ | with_reducible refine Ext.drew ?_ | with_reducible refine Ext.drewN ?_ _ | with_reducible refine Ext.alloc ?_ _ | with_reducible refine Ext.setCell ?_ (by first | omega | (simp; done) | (simp; omega)) _))).sl) hopC_one (by omega) (by decide) (by omega) ?_; intro va11 w11 hown11 hb11 hf11)
  have hlo11 := World.ownsRow.lt H13.out
  obtain ⟨Ar11, cr11, rfl, hnr11, _⟩ := own_parts2 hown11
  have hro11 : OwnHop w11 w.heap.size (.slice Ar11 (P1.length + P2.length) cr11) (P1.length + P2.length) L := (by unfold OwnHop; rw [← HR.out.e3, List.flatMap_append]; exact hown11)
  clear hown11 hnr11 hf11
  have hsz11 := hb11.size
  try simp at hsz11
  have z11 := hb11.size
  try simp at z11
  have X11 : Hid (Ext w w11) := Lib.hid (have hX := (show Ext w _ from (by repeat (first | with_reducible exact X10.out | with_reducible refine Ext.drew ?_ | with_reducible refine Ext.drewN ?_ _ | with_reducible refine Ext.alloc ?_ _ | with_reducible refine Ext.setCell ?_ (by first | omega | (simp; done) | (simp; omega)) _))); Below.trans hX (hb11.below (Ext.size hX) (fun k hk hh => by have h2 := (hlo11 k hh).1; omega)))
  replace HL := Lib.hid ((HL.out.ext (by repeat (first | with_reducible exact Ext.refl _ | with_reducible refine Ext.drew ?_ | with_reducible refine Ext.drewN ?_ _ | with_reducible refine Ext.alloc ?_ _ | with_reducible refine Ext.setCell ?_ (by first | omega | (simp; done) | (simp; omega)) _))).but hb11 (fun k hk => by have h2 := (hlo11 k hk).1; omega))
  have Hx2 := Lib.hid hro11
  clear H13 H4 H3 hsz11 X10 hb11 hro11
  clear hlo11
  go_wp2_with fail
  (with_reducible refine (kSameHops_eq Ar11 A2 _ cr11 _ c2 L _ (Hx2.out.ext (by repeat (first | with_reducible exact Ext.refl _ | with_reducible refine Ext.drew ?_ | with_reducible refine Ext.drewN ?_ _ | with_reducible refine Ext.alloc ?_ _ | with_reducible refine Ext.setCell ?_ (by first | omega | (simp; done) | (simp; omega)) _))).sl (HL.out.ext (by repeat (first | with_reducible exact Ext.refl _ | with_reducible refine Ext.drew ?_ | with_reducible refine Ext.drewN ?_ _ | with_reducible refine Ext.alloc ?_ _ | with_reducible refine Ext.setCell ?_ (by first | omega | (simp; done) | (simp; omega)) _))).sl).mono ?_)
  rintro e w12 ⟨rfl, hx12⟩
  have z12 := hx12.size
  try simp at z12
  replace HL := Lib.hid (HL.out.ext (Ext.trans (by repeat (first | with_reducible exact Ext.refl _ | with_reducible refine Ext.drew ?_ | with_reducible refine Ext.drewN ?_ _ | with_reducible refine Ext.alloc ?_ _ | with_reducible refine Ext.setCell ?_ (by first | omega | (simp; done) | (simp; omega)) _)) hx12))
  have X12 : Hid (Ext w w12) := Lib.hid (Ext.trans (by repeat (first | with_reducible exact X11.out | with_reducible refine Ext.drew ?_ | with_reducible refine Ext.drewN ?_ _ | with_reducible refine Ext.alloc ?_ _ | with_reducible refine Ext.setCell ?_ (by first | omega | (simp; done) | (simp; omega)) _)) hx12)
  clear Hx2 X11 hx12
  go_wp2_with fail
  clear z1 z2 z3 z4 z5 z6 z7 z8 z9 z10 z11 z12
  go_loopg [23] L.length (fun gh i wx => gh ≤ L.length ∧ i = .int .i64 ((L.length - gh : Nat) : Int) ∧ Hid (Sl wx 4 A2 L.length c2 (L.flatMap hopC)) ∧ Ext w wx)
  case atStart => exact ⟨Nat.le_refl _, by simp, Lib.hid HL.out.sl, X12.out⟩
  case round =>
    obtain ⟨hg, hi, hs, hx⟩ := hrel
    obtain ⟨k, hk⟩ : ∃ k, k = L.length - gk := ⟨_, rfl⟩
    rw [← hk] at hi
    subst hi
    have XR := Lib.hid hx
    by_cases hz : gk = 0
    · have hkn : ¬ (k : Int) < L.length := by omega
      have HSk := hs
      clear hx hk hg hz hs HL
      by_cases hL0 : L = []
      · subst hL0
        have HNX : Hid (((0 : Int), false) = nxtV [] u) := Lib.hid (nxt_none (u := u)).symm
        simp only [List.length_nil] at hkn HSk
        clear HMD hL60 HR HFP
        go_wp2_with fail
        (with_reducible refine (hopNext_ev A2 0 c2 [] u 0 false _ (HSk.out.ext (by repeat (first | with_reducible exact Ext.refl _ | with_reducible refine Ext.drew ?_ | with_reducible refine Ext.drewN ?_ _ | with_reducible refine Ext.alloc ?_ _ | with_reducible refine Ext.setCell ?_ (by first | omega | (simp; done) | (simp; omega)) _))) (by intro x hx; simp at hx) HNX.out).mono ?_)
        rintro e w41 ⟨rfl, hx41⟩
        have z41 := hx41.size
        try simp at z41
        replace HSk := Lib.hid (HSk.out.ext (Ext.trans (by repeat (first | with_reducible exact Ext.refl _ | with_reducible refine Ext.drew ?_ | with_reducible refine Ext.drewN ?_ _ | with_reducible refine Ext.alloc ?_ _ | with_reducible refine Ext.setCell ?_ (by first | omega | (simp; done) | (simp; omega)) _)) hx41))
        have X41 : Hid (Ext w w41) := Lib.hid (Ext.trans (by repeat (first | with_reducible exact XR.out | with_reducible refine Ext.drew ?_ | with_reducible refine Ext.drewN ?_ _ | with_reducible refine Ext.alloc ?_ _ | with_reducible refine Ext.setCell ?_ (by first | omega | (simp; done) | (simp; omega)) _)) hx41)
        clear XR hx41 z41
        go_wp2_with fail
        go_ret
        exact ⟨rfl, (by repeat (first | with_reducible exact X41.out | with_reducible refine Ext.drew ?_ | with_reducible refine Ext.drewN ?_ _ | with_reducible refine Ext.alloc ?_ _ | with_reducible refine Ext.setCell ?_ (by first | omega | (simp; done) | (simp; omega)) _))⟩
      · have hl0 : 0 < L.length := List.length_pos_iff.2 hL0
        obtain ⟨x, hx⟩ : ∃ x, L[0]? = some x := ⟨L[0], List.getElem?_eq_getElem hl0⟩
        have hb := HB.out
        have hmy := chkH_may HMD.out.chk x (List.mem_of_getElem? hx)
        have hc1 := hmy.2.2.2.2.1
        have hc2 := HMD.out.at_ x (List.mem_of_getElem? hx)
        obtain ⟨y, hy⟩ : ∃ y, y = x.2.2.2 + u := ⟨_, rfl⟩
        obtain ⟨hv1, R1, R2, hv2, hne⟩ := rip_first (u := u) HMD.out.chk hx (by omega) (by omega) (by omega) (by omega)
        rw [← hy] at hv1 hv2
        have hnx := nxt_some HMD.out.chk hx (u := u) (by omega) (by omega)
        rw [← hy] at hnx
        have HV1 := Lib.hid hv1
        have HV2 := Lib.hid hv2
        have HNE := Lib.hid hne
        have HNX := Lib.hid hnx.symm
        have hl0i : (0 : Int) < (L.length : Int) := by omega
        have hl0d : decide (0 < L.length) = true := decide_eq_true hl0
        have hl0e : decide ((0 : Int) < (L.length : Int)) = true := decide_eq_true hl0i
        have wy1 : IntKind.i64.wrap (y - 1) = y - 1 := IntWalk.i64_in _ (by omega)
        have wy2 : Go.RowKit.wrap64 (y - 1) = y - 1 := by rw [← IntWalk.i64_left]; exact wy1
        clear hx hb hmy hc1 hc2 hy hv1 hv2 hne hnx hL0 hl0
        go_wp2_with fail
        (with_reducible refine (hopNext_ev A2 L.length c2 L u y true _ (HSk.out.ext (by repeat (first | with_reducible exact Ext.refl _ | with_reducible refine Ext.drew ?_ | with_reducible refine Ext.drewN ?_ _ | with_reducible refine Ext.alloc ?_ _ | with_reducible refine Ext.setCell ?_ (by first | omega | (simp; done) | (simp; omega)) _))) (fits_t HMD.out.fits) HNX.out).mono ?_)
        rintro e w41 ⟨rfl, hx41⟩
        have z41 := hx41.size
        try simp at z41
        replace HSk := Lib.hid (HSk.out.ext (Ext.trans (by repeat (first | with_reducible exact Ext.refl _ | with_reducible refine Ext.drew ?_ | with_reducible refine Ext.drewN ?_ _ | with_reducible refine Ext.alloc ?_ _ | with_reducible refine Ext.setCell ?_ (by first | omega | (simp; done) | (simp; omega)) _)) hx41))
        have X41 : Hid (Ext w w41) := Lib.hid (Ext.trans (by repeat (first | with_reducible exact XR.out | with_reducible refine Ext.drew ?_ | with_reducible refine Ext.drewN ?_ _ | with_reducible refine Ext.alloc ?_ _ | with_reducible refine Ext.setCell ?_ (by first | omega | (simp; done) | (simp; omega)) _)) hx41)
        clear XR hx41 z41
        go_wp2_with fail
        (with_reducible refine (ripes15_tm 0 A2 L.length c2 L [] L (y - 1) u _ (HSk.out.ext (by repeat (first | with_reducible exact Ext.refl _ | with_reducible refine Ext.drew ?_ | with_reducible refine Ext.drewN ?_ _ | with_reducible refine Ext.alloc ?_ _ | with_reducible refine Ext.setCell ?_ (by first | omega | (simp; done) | (simp; omega)) _))) (by omega) HMD.out.fits HN2.out HV1.out 0 (Nat.zero_le _) rfl rfl rfl).mono ?_)
        rintro e w42 ⟨rfl, hx42⟩
        have z42 := hx42.size
        try simp at z42
        replace HSk := Lib.hid (HSk.out.ext (Ext.trans (by repeat (first | with_reducible exact Ext.refl _ | with_reducible refine Ext.drew ?_ | with_reducible refine Ext.drewN ?_ _ | with_reducible refine Ext.alloc ?_ _ | with_reducible refine Ext.setCell ?_ (by first | omega | (simp; done) | (simp; omega)) _)) hx42))
        have X42 : Hid (Ext w w42) := Lib.hid (Ext.trans (by repeat (first | with_reducible exact X41.out | with_reducible refine Ext.drew ?_ | with_reducible refine Ext.drewN ?_ _ | with_reducible refine Ext.alloc ?_ _ | with_reducible refine Ext.setCell ?_ (by first | omega | (simp; done) | (simp; omega)) _)) hx42)
        clear X41 hx42 z42
        go_wp2_with fail
        (with_reducible refine (ripes15_fe A2 L.length c2 L R1 R2 y u _ (HSk.out.ext (by repeat (first | with_reducible exact Ext.refl _ | with_reducible refine Ext.drew ?_ | with_reducible refine Ext.drewN ?_ _ | with_reducible refine Ext.alloc ?_ _ | with_reducible refine Ext.setCell ?_ (by first | omega | (simp; done) | (simp; omega)) _))) (by omega) HMD.out.fits HN2.out HV2.out HNE.out).mono ?_)
        rintro e w43 ⟨rfl, hx43⟩
        have z43 := hx43.size
        try simp at z43
        replace HSk := Lib.hid (HSk.out.ext (Ext.trans (by repeat (first | with_reducible exact Ext.refl _ | with_reducible refine Ext.drew ?_ | with_reducible refine Ext.drewN ?_ _ | with_reducible refine Ext.alloc ?_ _ | with_reducible refine Ext.setCell ?_ (by first | omega | (simp; done) | (simp; omega)) _)) hx43))
        have X43 : Hid (Ext w w43) := Lib.hid (Ext.trans (by repeat (first | with_reducible exact X42.out | with_reducible refine Ext.drew ?_ | with_reducible refine Ext.drewN ?_ _ | with_reducible refine Ext.alloc ?_ _ | with_reducible refine Ext.setCell ?_ (by first | omega | (simp; done) | (simp; omega)) _)) hx43)
        clear X42 hx43 z43
        go_wp2_with fail
        go_ret
        exact ⟨rfl, (by repeat (first | with_reducible exact X43.out | with_reducible refine Ext.drew ?_ | with_reducible refine Ext.drewN ?_ _ | with_reducible refine Ext.alloc ?_ _ | with_reducible refine Ext.setCell ?_ (by first | omega | (simp; done) | (simp; omega)) _))⟩
    · have hkn : (k : Int) < L.length := by omega
      have hk1 : k < L.length := by omega
      obtain ⟨b1, o1, rfl, hb1, hc1⟩ := hs.out.rec_ hopC_len (show 0 < L.length from by omega)
      obtain ⟨xv, hxx⟩ : ∃ x, x = L[k] := ⟨_, rfl⟩
      have hlk : L[k]? = some xv := by rw [hxx]; exact List.getElem?_eq_getElem hk1
      have x_0 := hc1 k xv hlk 0 _ rfl
      have x_1 := hc1 k xv hlk 1 _ rfl
      have x_2 := hc1 k xv hlk 2 _ rfl
      have x_3 := hc1 k xv hlk 3 _ rfl
      have hq := HR.out.q k xv hlk
      have hmy := chkH_may HMD.out.chk xv (List.mem_of_getElem? hlk)
      have hc2 := HMD.out.at_ xv (List.mem_of_getElem? hlk)
      have hfx := HMD.out.fits xv (List.mem_of_getElem? hlk)
      have hcap := HMD.out.cap xv.1 xv.2.1 xv.2.2.1
      have hb := HB.out
      obtain ⟨x0, x1, x2, x3⟩ := xv
      simp only at x_0 x_1 x_2 x_3 hq hc2 hcap
      rw [Nat.add_zero] at x_0
      rw [← Nat.add_assoc] at x_1 x_2 x_3
      obtain ⟨cv, hcv⟩ : ∃ cv, cv = cntL L x0 x1 x2 := ⟨_, rfl⟩
      rw [← hcv] at hcap
      have hc3 : 1 ≤ x3 := hmy.2.2.2.2.1
      obtain ⟨y, hy⟩ : ∃ y, y = x3 + u := ⟨_, rfl⟩
      have hwr : IntKind.i64.wrap (x3 + u) = y := by rw [hy]; exact IntWalk.i64_in _ (by omega)
      have hwr2 : Go.RowKit.wrap64 (x3 + u) = y := by rw [← IntWalk.i64_left]; exact hwr
      rw [← hy] at hq
      have hncv : ¬ mo < cv := by omega
      have HCV := Lib.hid hcv
      have HFX := Lib.hid hfx
      have HSk := hs
      have HK := Lib.hid (And.intro hk (And.intro hg hz))
      have rx := hb1
      have rxa : b1 < wr.heap.size + 1 := by omega
      have rxb : b1 < wr.heap.size + 1 + 1 := by omega
      have rxc : b1 < wr.heap.size + 1 + 1 + 1 := by omega
      have rxn : ¬ b1 = wr.heap.size := by omega
      clear hx hk hg hz hs hc1 hxx hk1 hlk hmy hc2 hfx hcap hb hcv hc3 hy HL
      by_cases hpp : k < P1.length
      · have hpi : (k : Int) < (P1.length : Int) := by omega
        have hyh := hq.2 hpp
        clear hq hpp
        go_wp2_with fail
        refine wp_region_held_drew (S := fun w' => w'.cell? ⟨b1, o1 + k * 4, none⟩ = some (.int .i64 x0) ∧ w'.cell? ⟨b1, o1 + k * 4 + 1, none⟩ = some (.int .i64 x1) ∧ w'.cell? ⟨b1, o1 + k * 4 + 2, none⟩ = some (.int .i64 x2) ∧ w'.cell? ⟨b1, o1 + k * 4 + 3, none⟩ = some (.int .i64 x3)) (by kernel_rfl) (by first | exact ⟨x_0, x_1, x_2, x_3⟩ | (simp [go_sem, World.cell?_alloc_past, x_0, x_1, x_2, x_3, rx, rxa, rxb, rxc, rxn]; done)) (fun hHeld => ?_)
        (refine' take_in 0 rfl (by kernel_rfl) (by kernel_rfl) (by kernel_rfl) (fun _ _ _ h => h) (by rfl) (by assumption) ?_ ?_; rotate_left; focus (intro w hSw; (try dsimp only at hSw); go_simp; try with_reducible rfl)); try simp only [Act.put, List.setIfInBounds_toArray, List.set_cons_zero, List.set_cons_succ]
        (refine' take_in 1 rfl (by kernel_rfl) (by kernel_rfl) (by kernel_rfl) (fun _ _ _ h => h) (by rfl) (by assumption) ?_ ?_; rotate_left; focus (intro w hSw; (try dsimp only at hSw); go_simp; try with_reducible rfl)); try simp only [Act.put, List.setIfInBounds_toArray, List.set_cons_zero, List.set_cons_succ]
        (refine' take_in 2 rfl (by kernel_rfl) (by kernel_rfl) (by kernel_rfl) (fun _ _ _ h => h) (by rfl) (by assumption) ?_ ?_; rotate_left; focus (intro w hSw; (try dsimp only at hSw); go_simp; try with_reducible rfl)); try simp only [Act.put, List.setIfInBounds_toArray, List.set_cons_zero, List.set_cons_succ]
        (refine' take_in 3 rfl (by kernel_rfl) (by kernel_rfl) (by kernel_rfl) (fun _ _ _ h => h) (by rfl) (by assumption) ?_ ?_; rotate_left; focus (intro w hSw; (try dsimp only at hSw); go_simp; try with_reducible rfl)); try simp only [Act.put, List.setIfInBounds_toArray, List.set_cons_zero, List.set_cons_succ]
        (refine' take_in 4 rfl (by kernel_rfl) (by kernel_rfl) (by kernel_rfl) (fun _ _ _ h => h) (by rfl) (by assumption) ?_ ?_; rotate_left; focus (intro w hSw; (try dsimp only at hSw); go_simp; try with_reducible rfl)); try simp only [Act.put, List.setIfInBounds_toArray, List.set_cons_zero, List.set_cons_succ]
        (refine' take_in 5 rfl (by kernel_rfl) (by kernel_rfl) (by kernel_rfl) (fun _ _ _ h => h) (by rfl) (by assumption) ?_ ?_; rotate_left; focus (intro w hSw; (try dsimp only at hSw); go_simp; try with_reducible rfl)); try simp only [Act.put, List.setIfInBounds_toArray, List.set_cons_zero, List.set_cons_succ]
        (refine' take_in 6 rfl (by kernel_rfl) (by kernel_rfl) (by kernel_rfl) (fun _ _ _ h => h) (by rfl) (by assumption) ?_ ?_; rotate_left; focus (intro w hSw; (try dsimp only at hSw); go_simp; try with_reducible rfl)); try simp only [Act.put, List.setIfInBounds_toArray, List.set_cons_zero, List.set_cons_succ]
        (refine' take_in 7 rfl (by kernel_rfl) (by kernel_rfl) (by kernel_rfl) (fun _ _ _ h => h) (by rfl) (by assumption) ?_ ?_; rotate_left; focus (intro w hSw; (try dsimp only at hSw); go_simp; try with_reducible rfl)); try simp only [Act.put, List.setIfInBounds_toArray, List.set_cons_zero, List.set_cons_succ]
        (refine' take_in 8 rfl (by kernel_rfl) (by kernel_rfl) (by kernel_rfl) (fun _ _ _ h => h) (by rfl) (by assumption) ?_ ?_; rotate_left; focus (intro w hSw; (try dsimp only at hSw); go_simp; try with_reducible rfl)); try simp only [Act.put, List.setIfInBounds_toArray, List.set_cons_zero, List.set_cons_succ]
        (refine' take_in 9 rfl (by kernel_rfl) (by kernel_rfl) (by kernel_rfl) (fun _ _ _ h => h) (by rfl) (by assumption) ?_ ?_; rotate_left; focus (intro w hSw; (try dsimp only at hSw); go_simp; try with_reducible rfl)); try simp only [Act.put, List.setIfInBounds_toArray, List.set_cons_zero, List.set_cons_succ]
        (refine' take_in 10 rfl (by kernel_rfl) (by kernel_rfl) (by kernel_rfl) (fun _ _ _ h => h) (by rfl) (by assumption) ?_ ?_; rotate_left; focus (intro w hSw; (try dsimp only at hSw); go_simp; try with_reducible rfl)); try simp only [Act.put, List.setIfInBounds_toArray, List.set_cons_zero, List.set_cons_succ]
        (refine' take_in 11 rfl (by kernel_rfl) (by kernel_rfl) (by kernel_rfl) (fun _ _ _ h => h) (by rfl) (by assumption) ?_ ?_; rotate_left; focus (intro w hSw; (try dsimp only at hSw); go_simp; try with_reducible rfl)); try simp only [Act.put, List.setIfInBounds_toArray, List.set_cons_zero, List.set_cons_succ]
        (refine' take_in 12 rfl (by kernel_rfl) (by kernel_rfl) (by kernel_rfl) (fun _ _ _ h => h) (by rfl) (by assumption) ?_ ?_; rotate_left; focus (intro w hSw; (try dsimp only at hSw); go_simp; try with_reducible rfl)); try simp only [Act.put, List.setIfInBounds_toArray, List.set_cons_zero, List.set_cons_succ]
        (refine' take_in 13 rfl (by kernel_rfl) (by kernel_rfl) (by kernel_rfl) (fun _ _ _ h => h) (by rfl) (by assumption) ?_ ?_; rotate_left; focus (intro w hSw; (try dsimp only at hSw); go_simp; try with_reducible rfl)); try simp only [Act.put, List.setIfInBounds_toArray, List.set_cons_zero, List.set_cons_succ]
        (refine' take_in 14 rfl (by kernel_rfl) (by kernel_rfl) (by kernel_rfl) (fun _ _ _ h => h) (by rfl) (by assumption) ?_ ?_; rotate_left; focus (intro w hSw; (try dsimp only at hSw); go_simp; try with_reducible rfl)); try simp only [Act.put, List.setIfInBounds_toArray, List.set_cons_zero, List.set_cons_succ]
        (refine' take_in 15 rfl (by kernel_rfl) (by kernel_rfl) (by kernel_rfl) (fun _ _ _ h => h) (by rfl) (by assumption) ?_ ?_; rotate_left; focus (intro w hSw; (try dsimp only at hSw); go_simp; try with_reducible rfl)); try simp only [Act.put, List.setIfInBounds_toArray, List.set_cons_zero, List.set_cons_succ]
        (refine' take_in 16 rfl (by kernel_rfl) (by kernel_rfl) (by kernel_rfl) (fun _ _ _ h => h) (by rfl) (by assumption) ?_ ?_; rotate_left; focus (intro w hSw; (try dsimp only at hSw); go_simp; try with_reducible rfl)); try simp only [Act.put, List.setIfInBounds_toArray, List.set_cons_zero, List.set_cons_succ]
        (refine' take_in 17 rfl (by kernel_rfl) (by kernel_rfl) (by kernel_rfl) (fun _ _ _ h => h) (by rfl) (by assumption) ?_ ?_; rotate_left; focus (intro w hSw; (try dsimp only at hSw); go_simp; try with_reducible rfl)); try simp only [Act.put, List.setIfInBounds_toArray, List.set_cons_zero, List.set_cons_succ]
        (refine' take_in 18 rfl (by kernel_rfl) (by kernel_rfl) (by kernel_rfl) (fun _ _ _ h => h) (by rfl) (by assumption) ?_ ?_; rotate_left; focus (intro w hSw; (try dsimp only at hSw); go_simp; try with_reducible rfl)); try simp only [Act.put, List.setIfInBounds_toArray, List.set_cons_zero, List.set_cons_succ]
        (refine' take_in 19 rfl (by kernel_rfl) (by kernel_rfl) (by kernel_rfl) (fun _ _ _ h => h) (by rfl) (by assumption) ?_ ?_; rotate_left; focus (intro w hSw; (try dsimp only at hSw); go_simp; try with_reducible rfl)); try simp only [Act.put, List.setIfInBounds_toArray, List.set_cons_zero, List.set_cons_succ]
        (refine' take_in 20 rfl (by kernel_rfl) (by kernel_rfl) (by kernel_rfl) (fun _ _ _ h => h) (by rfl) (by assumption) ?_ ?_; rotate_left; focus (intro w hSw; (try dsimp only at hSw); go_simp; try with_reducible rfl)); try simp only [Act.put, List.setIfInBounds_toArray, List.set_cons_zero, List.set_cons_succ]
        (refine' take_in 21 rfl (by kernel_rfl) (by kernel_rfl) (by kernel_rfl) (fun _ _ _ h => h) (by rfl) (by assumption) ?_ ?_; rotate_left; focus (intro w hSw; (try dsimp only at hSw); go_simp; try with_reducible rfl)); try simp only [Act.put, List.setIfInBounds_toArray, List.set_cons_zero, List.set_cons_succ]
        (refine' take_in 22 rfl (by kernel_rfl) (by kernel_rfl) (by kernel_rfl) (fun _ _ _ h => h) (by rfl) (by assumption) ?_ ?_; rotate_left; focus (intro w hSw; (try dsimp only at hSw); go_simp; try with_reducible rfl)); try simp only [Act.put, List.setIfInBounds_toArray, List.set_cons_zero, List.set_cons_succ]
        (refine' take_in 23 rfl (by kernel_rfl) (by kernel_rfl) (by kernel_rfl) (fun _ _ _ h => h) (by rfl) (by assumption) ?_ ?_; rotate_left; focus (intro w hSw; (try dsimp only at hSw); go_simp; try with_reducible rfl)); try simp only [Act.put, List.setIfInBounds_toArray, List.set_cons_zero, List.set_cons_succ]
        (refine' take_in 24 rfl (by kernel_rfl) (by kernel_rfl) (by kernel_rfl) (fun _ _ _ h => h) (by rfl) (by assumption) ?_ ?_; rotate_left; focus (intro w hSw; (try dsimp only at hSw); go_simp; try with_reducible rfl)); try simp only [Act.put, List.setIfInBounds_toArray, List.set_cons_zero, List.set_cons_succ]
        (refine' take_in 25 rfl (by kernel_rfl) (by kernel_rfl) (by kernel_rfl) (fun _ _ _ h => h) (by rfl) (by assumption) ?_ ?_; rotate_left; focus (intro w hSw; (try dsimp only at hSw); go_simp; try with_reducible rfl)); try simp only [Act.put, List.setIfInBounds_toArray, List.set_cons_zero, List.set_cons_succ]
        (refine' take_in 26 rfl (by kernel_rfl) (by kernel_rfl) (by kernel_rfl) (fun _ _ _ h => h) (by rfl) (by assumption) ?_ ?_; rotate_left; focus (intro w hSw; (try dsimp only at hSw); go_simp; try with_reducible rfl)); try simp only [Act.put, List.setIfInBounds_toArray, List.set_cons_zero, List.set_cons_succ]
        (refine' take_in 27 rfl (by kernel_rfl) (by kernel_rfl) (by kernel_rfl) (fun _ _ _ h => h) (by rfl) (by assumption) ?_ ?_; rotate_left; focus (intro w hSw; (try dsimp only at hSw); go_simp; try with_reducible rfl)); try simp only [Act.put, List.setIfInBounds_toArray, List.set_cons_zero, List.set_cons_succ]
        (refine' take_in 28 rfl (by kernel_rfl) (by kernel_rfl) (by kernel_rfl) (fun _ _ _ h => h) (by rfl) (by assumption) ?_ ?_; rotate_left; focus (intro w hSw; (try dsimp only at hSw); go_simp; try with_reducible rfl)); try simp only [Act.put, List.setIfInBounds_toArray, List.set_cons_zero, List.set_cons_succ]
        (refine' take_in 29 rfl (by kernel_rfl) (by kernel_rfl) (by kernel_rfl) (fun _ _ _ h => h) (by rfl) (by assumption) ?_ ?_; rotate_left; focus (intro w hSw; (try dsimp only at hSw); go_simp; try with_reducible rfl)); try simp only [Act.put, List.setIfInBounds_toArray, List.set_cons_zero, List.set_cons_succ]
        (refine' take_in 30 rfl (by kernel_rfl) (by kernel_rfl) (by kernel_rfl) (fun _ _ _ h => h) (by rfl) (by assumption) ?_ ?_; rotate_left; focus (intro w hSw; (try dsimp only at hSw); go_simp; try with_reducible rfl)); try simp only [Act.put, List.setIfInBounds_toArray, List.set_cons_zero, List.set_cons_succ]
        (refine' take_in 32 rfl (by kernel_rfl) (by kernel_rfl) (by kernel_rfl) (fun _ _ _ h => h) (by rfl) (by assumption) ?_ ?_; rotate_left; focus (intro w hSw; (try dsimp only at hSw); go_simp; try with_reducible rfl)); try simp only [Act.put, List.setIfInBounds_toArray, List.set_cons_zero, List.set_cons_succ]
        refine' next_in 31 rfl (by kernel_rfl) (by rfl) (fun K hK => ?_)
        go_simp
        (with_reducible refine (hopCount_ev (some ⟨b1, o1, none⟩) L.length c2 L x0 x1 x2 cv _ (HSk.out.ext (by repeat (first | with_reducible exact Ext.refl _ | with_reducible refine Ext.drew ?_ | with_reducible refine Ext.drewN ?_ _ | with_reducible refine Ext.alloc ?_ _ | with_reducible refine Ext.setCell ?_ (by first | omega | (simp; done) | (simp; omega)) _))) (by omega) HMD.out.fits (fits_x HFX.out).1 (fits_x HFX.out).2.1 (fits_x HFX.out).2.2.1 HCV.out).mono ?_)
        rintro e w51 ⟨rfl, hx51⟩
        replace x_0 : w51.cell? ⟨b1, o1 + k * 4, none⟩ = some (.int .i64 x0) := hx51.has (by first | exact x_0 | (simp [go_sem, World.cell?_alloc_past, x_0, x_1, x_2, x_3, rx, rxa, rxb, rxc, rxn]; done))
        replace x_1 : w51.cell? ⟨b1, o1 + k * 4 + 1, none⟩ = some (.int .i64 x1) := hx51.has (by first | exact x_1 | (simp [go_sem, World.cell?_alloc_past, x_0, x_1, x_2, x_3, rx, rxa, rxb, rxc, rxn]; done))
        replace x_2 : w51.cell? ⟨b1, o1 + k * 4 + 2, none⟩ = some (.int .i64 x2) := hx51.has (by first | exact x_2 | (simp [go_sem, World.cell?_alloc_past, x_0, x_1, x_2, x_3, rx, rxa, rxb, rxc, rxn]; done))
        replace x_3 : w51.cell? ⟨b1, o1 + k * 4 + 3, none⟩ = some (.int .i64 x3) := hx51.has (by first | exact x_3 | (simp [go_sem, World.cell?_alloc_past, x_0, x_1, x_2, x_3, rx, rxa, rxb, rxc, rxn]; done))
        have z51 := hx51.size
        try simp at z51
        replace rx : b1 < w51.heap.size := by omega
        replace rxa : b1 < w51.heap.size + 1 := by omega
        replace rxb : b1 < w51.heap.size + 1 + 1 := by omega
        replace rxc : b1 < w51.heap.size + 1 + 1 + 1 := by omega
        replace rxn : ¬ b1 = w51.heap.size := by omega
        replace HSk := Lib.hid (HSk.out.ext (Ext.trans (by repeat (first | with_reducible exact Ext.refl _ | with_reducible refine Ext.drew ?_ | with_reducible refine Ext.drewN ?_ _ | with_reducible refine Ext.alloc ?_ _ | with_reducible refine Ext.setCell ?_ (by first | omega | (simp; done) | (simp; omega)) _)) hx51))
        have X51 : Hid (Ext w w51) := Lib.hid (Ext.trans (by repeat (first | with_reducible exact XR.out | with_reducible refine Ext.drew ?_ | with_reducible refine Ext.drewN ?_ _ | with_reducible refine Ext.alloc ?_ _ | with_reducible refine Ext.setCell ?_ (by first | omega | (simp; done) | (simp; omega)) _)) hx51)
        clear XR hx51 z51
        refine hK.out _ _ (by (first | exact ⟨x_0, x_1, x_2, x_3⟩ | (simp [go_sem, World.cell?_alloc_past, x_0, x_1, x_2, x_3, rx, rxa, rxb, rxc, rxn]; done))) (fun hHeld => ?_); clear hK K; try simp only [Act.put, List.setIfInBounds_toArray, List.set_cons_zero, List.set_cons_succ]
        (refine' take_in 33 rfl (by kernel_rfl) (by kernel_rfl) (by kernel_rfl) (fun _ _ _ h => h) (by rfl) (by assumption) ?_ ?_; rotate_left; focus (intro w hSw; (try dsimp only at hSw); go_simp; try with_reducible rfl)); try simp only [Act.put, List.setIfInBounds_toArray, List.set_cons_zero, List.set_cons_succ]
        (refine' take_in 34 rfl (by kernel_rfl) (by kernel_rfl) (by kernel_rfl) (fun _ _ _ h => h) (by rfl) (by assumption) ?_ ?_; rotate_left; focus (intro w hSw; (try dsimp only at hSw); go_simp; try with_reducible rfl)); try simp only [Act.put, List.setIfInBounds_toArray, List.set_cons_zero, List.set_cons_succ]
        refine wpAnyH_done (by kernel_rfl) ?_ _
        go_wp2_with fail
        go_roundg (gk - 1)
        case measure => have := HK.out; omega
        case rel => exact ⟨by have := HK.out; omega, num_eq (by have := HK.out; omega), Lib.hid (HSk.out.ext (by repeat (first | with_reducible exact Ext.refl _ | with_reducible refine Ext.drew ?_ | with_reducible refine Ext.drewN ?_ _ | with_reducible refine Ext.alloc ?_ _ | with_reducible refine Ext.setCell ?_ (by first | omega | (simp; done) | (simp; omega)) _))), (by repeat (first | with_reducible exact X51.out | with_reducible refine Ext.drew ?_ | with_reducible refine Ext.drewN ?_ _ | with_reducible refine Ext.alloc ?_ _ | with_reducible refine Ext.setCell ?_ (by first | omega | (simp; done) | (simp; omega)) _))⟩
      · have hpi : ¬ (k : Int) < (P1.length : Int) := by omega
        have hyh : ¬ y ≤ h1 := fun h => hpp (hq.1 h)
        have hd1 : decide ((k : Int) < (P1.length : Int)) = false := decide_eq_false hpi
        have hd2 : decide (y ≤ h1) = false := decide_eq_false hyh
        have hd3 : decide (k < P1.length) = false := decide_eq_false hpp
        clear hq hpp
        go_wp2_with fail
        refine wp_region_held_drew (S := fun w' => w'.cell? ⟨b1, o1 + k * 4, none⟩ = some (.int .i64 x0) ∧ w'.cell? ⟨b1, o1 + k * 4 + 1, none⟩ = some (.int .i64 x1) ∧ w'.cell? ⟨b1, o1 + k * 4 + 2, none⟩ = some (.int .i64 x2) ∧ w'.cell? ⟨b1, o1 + k * 4 + 3, none⟩ = some (.int .i64 x3)) (by kernel_rfl) (by first | exact ⟨x_0, x_1, x_2, x_3⟩ | (simp [go_sem, World.cell?_alloc_past, x_0, x_1, x_2, x_3, rx, rxa, rxb, rxc, rxn]; done)) (fun hHeld => ?_)
        (refine' take_in 0 rfl (by kernel_rfl) (by kernel_rfl) (by kernel_rfl) (fun _ _ _ h => h) (by rfl) (by assumption) ?_ ?_; rotate_left; focus (intro w hSw; (try dsimp only at hSw); go_simp; try with_reducible rfl)); try simp only [Act.put, List.setIfInBounds_toArray, List.set_cons_zero, List.set_cons_succ]
        (refine' take_in 1 rfl (by kernel_rfl) (by kernel_rfl) (by kernel_rfl) (fun _ _ _ h => h) (by rfl) (by assumption) ?_ ?_; rotate_left; focus (intro w hSw; (try dsimp only at hSw); go_simp; try with_reducible rfl)); try simp only [Act.put, List.setIfInBounds_toArray, List.set_cons_zero, List.set_cons_succ]
        (refine' take_in 2 rfl (by kernel_rfl) (by kernel_rfl) (by kernel_rfl) (fun _ _ _ h => h) (by rfl) (by assumption) ?_ ?_; rotate_left; focus (intro w hSw; (try dsimp only at hSw); go_simp; try with_reducible rfl)); try simp only [Act.put, List.setIfInBounds_toArray, List.set_cons_zero, List.set_cons_succ]
        (refine' take_in 3 rfl (by kernel_rfl) (by kernel_rfl) (by kernel_rfl) (fun _ _ _ h => h) (by rfl) (by assumption) ?_ ?_; rotate_left; focus (intro w hSw; (try dsimp only at hSw); go_simp; try with_reducible rfl)); try simp only [Act.put, List.setIfInBounds_toArray, List.set_cons_zero, List.set_cons_succ]
        (refine' take_in 4 rfl (by kernel_rfl) (by kernel_rfl) (by kernel_rfl) (fun _ _ _ h => h) (by rfl) (by assumption) ?_ ?_; rotate_left; focus (intro w hSw; (try dsimp only at hSw); go_simp; try with_reducible rfl)); try simp only [Act.put, List.setIfInBounds_toArray, List.set_cons_zero, List.set_cons_succ]
        (refine' take_in 5 rfl (by kernel_rfl) (by kernel_rfl) (by kernel_rfl) (fun _ _ _ h => h) (by rfl) (by assumption) ?_ ?_; rotate_left; focus (intro w hSw; (try dsimp only at hSw); go_simp; try with_reducible rfl)); try simp only [Act.put, List.setIfInBounds_toArray, List.set_cons_zero, List.set_cons_succ]
        (refine' take_in 6 rfl (by kernel_rfl) (by kernel_rfl) (by kernel_rfl) (fun _ _ _ h => h) (by rfl) (by assumption) ?_ ?_; rotate_left; focus (intro w hSw; (try dsimp only at hSw); go_simp; try with_reducible rfl)); try simp only [Act.put, List.setIfInBounds_toArray, List.set_cons_zero, List.set_cons_succ]
        (refine' take_in 7 rfl (by kernel_rfl) (by kernel_rfl) (by kernel_rfl) (fun _ _ _ h => h) (by rfl) (by assumption) ?_ ?_; rotate_left; focus (intro w hSw; (try dsimp only at hSw); go_simp; try with_reducible rfl)); try simp only [Act.put, List.setIfInBounds_toArray, List.set_cons_zero, List.set_cons_succ]
        (refine' take_in 8 rfl (by kernel_rfl) (by kernel_rfl) (by kernel_rfl) (fun _ _ _ h => h) (by rfl) (by assumption) ?_ ?_; rotate_left; focus (intro w hSw; (try dsimp only at hSw); go_simp; try with_reducible rfl)); try simp only [Act.put, List.setIfInBounds_toArray, List.set_cons_zero, List.set_cons_succ]
        (refine' take_in 9 rfl (by kernel_rfl) (by kernel_rfl) (by kernel_rfl) (fun _ _ _ h => h) (by rfl) (by assumption) ?_ ?_; rotate_left; focus (intro w hSw; (try dsimp only at hSw); go_simp; try with_reducible rfl)); try simp only [Act.put, List.setIfInBounds_toArray, List.set_cons_zero, List.set_cons_succ]
        (refine' take_in 10 rfl (by kernel_rfl) (by kernel_rfl) (by kernel_rfl) (fun _ _ _ h => h) (by rfl) (by assumption) ?_ ?_; rotate_left; focus (intro w hSw; (try dsimp only at hSw); go_simp; try with_reducible rfl)); try simp only [Act.put, List.setIfInBounds_toArray, List.set_cons_zero, List.set_cons_succ]
        (refine' take_in 11 rfl (by kernel_rfl) (by kernel_rfl) (by kernel_rfl) (fun _ _ _ h => h) (by rfl) (by assumption) ?_ ?_; rotate_left; focus (intro w hSw; (try dsimp only at hSw); go_simp; try with_reducible rfl)); try simp only [Act.put, List.setIfInBounds_toArray, List.set_cons_zero, List.set_cons_succ]
        (refine' take_in 12 rfl (by kernel_rfl) (by kernel_rfl) (by kernel_rfl) (fun _ _ _ h => h) (by rfl) (by assumption) ?_ ?_; rotate_left; focus (intro w hSw; (try dsimp only at hSw); go_simp; try with_reducible rfl)); try simp only [Act.put, List.setIfInBounds_toArray, List.set_cons_zero, List.set_cons_succ]
        (refine' take_in 13 rfl (by kernel_rfl) (by kernel_rfl) (by kernel_rfl) (fun _ _ _ h => h) (by rfl) (by assumption) ?_ ?_; rotate_left; focus (intro w hSw; (try dsimp only at hSw); go_simp; try with_reducible rfl)); try simp only [Act.put, List.setIfInBounds_toArray, List.set_cons_zero, List.set_cons_succ]
        (refine' take_in 14 rfl (by kernel_rfl) (by kernel_rfl) (by kernel_rfl) (fun _ _ _ h => h) (by rfl) (by assumption) ?_ ?_; rotate_left; focus (intro w hSw; (try dsimp only at hSw); go_simp; try with_reducible rfl)); try simp only [Act.put, List.setIfInBounds_toArray, List.set_cons_zero, List.set_cons_succ]
        (refine' take_in 15 rfl (by kernel_rfl) (by kernel_rfl) (by kernel_rfl) (fun _ _ _ h => h) (by rfl) (by assumption) ?_ ?_; rotate_left; focus (intro w hSw; (try dsimp only at hSw); go_simp; try with_reducible rfl)); try simp only [Act.put, List.setIfInBounds_toArray, List.set_cons_zero, List.set_cons_succ]
        (refine' take_in 16 rfl (by kernel_rfl) (by kernel_rfl) (by kernel_rfl) (fun _ _ _ h => h) (by rfl) (by assumption) ?_ ?_; rotate_left; focus (intro w hSw; (try dsimp only at hSw); go_simp; try with_reducible rfl)); try simp only [Act.put, List.setIfInBounds_toArray, List.set_cons_zero, List.set_cons_succ]
        (refine' take_in 17 rfl (by kernel_rfl) (by kernel_rfl) (by kernel_rfl) (fun _ _ _ h => h) (by rfl) (by assumption) ?_ ?_; rotate_left; focus (intro w hSw; (try dsimp only at hSw); go_simp; try with_reducible rfl)); try simp only [Act.put, List.setIfInBounds_toArray, List.set_cons_zero, List.set_cons_succ]
        (refine' take_in 18 rfl (by kernel_rfl) (by kernel_rfl) (by kernel_rfl) (fun _ _ _ h => h) (by rfl) (by assumption) ?_ ?_; rotate_left; focus (intro w hSw; (try dsimp only at hSw); go_simp; try with_reducible rfl)); try simp only [Act.put, List.setIfInBounds_toArray, List.set_cons_zero, List.set_cons_succ]
        (refine' take_in 19 rfl (by kernel_rfl) (by kernel_rfl) (by kernel_rfl) (fun _ _ _ h => h) (by rfl) (by assumption) ?_ ?_; rotate_left; focus (intro w hSw; (try dsimp only at hSw); go_simp; try with_reducible rfl)); try simp only [Act.put, List.setIfInBounds_toArray, List.set_cons_zero, List.set_cons_succ]
        (refine' take_in 20 rfl (by kernel_rfl) (by kernel_rfl) (by kernel_rfl) (fun _ _ _ h => h) (by rfl) (by assumption) ?_ ?_; rotate_left; focus (intro w hSw; (try dsimp only at hSw); go_simp; try with_reducible rfl)); try simp only [Act.put, List.setIfInBounds_toArray, List.set_cons_zero, List.set_cons_succ]
        (refine' take_in 21 rfl (by kernel_rfl) (by kernel_rfl) (by kernel_rfl) (fun _ _ _ h => h) (by rfl) (by assumption) ?_ ?_; rotate_left; focus (intro w hSw; (try dsimp only at hSw); go_simp; try with_reducible rfl)); try simp only [Act.put, List.setIfInBounds_toArray, List.set_cons_zero, List.set_cons_succ]
        (refine' take_in 22 rfl (by kernel_rfl) (by kernel_rfl) (by kernel_rfl) (fun _ _ _ h => h) (by rfl) (by assumption) ?_ ?_; rotate_left; focus (intro w hSw; (try dsimp only at hSw); go_simp; try with_reducible rfl)); try simp only [Act.put, List.setIfInBounds_toArray, List.set_cons_zero, List.set_cons_succ]
        (refine' take_in 23 rfl (by kernel_rfl) (by kernel_rfl) (by kernel_rfl) (fun _ _ _ h => h) (by rfl) (by assumption) ?_ ?_; rotate_left; focus (intro w hSw; (try dsimp only at hSw); go_simp; try with_reducible rfl)); try simp only [Act.put, List.setIfInBounds_toArray, List.set_cons_zero, List.set_cons_succ]
        (refine' take_in 24 rfl (by kernel_rfl) (by kernel_rfl) (by kernel_rfl) (fun _ _ _ h => h) (by rfl) (by assumption) ?_ ?_; rotate_left; focus (intro w hSw; (try dsimp only at hSw); go_simp; try with_reducible rfl)); try simp only [Act.put, List.setIfInBounds_toArray, List.set_cons_zero, List.set_cons_succ]
        (refine' take_in 25 rfl (by kernel_rfl) (by kernel_rfl) (by kernel_rfl) (fun _ _ _ h => h) (by rfl) (by assumption) ?_ ?_; rotate_left; focus (intro w hSw; (try dsimp only at hSw); go_simp; try with_reducible rfl)); try simp only [Act.put, List.setIfInBounds_toArray, List.set_cons_zero, List.set_cons_succ]
        (refine' take_in 26 rfl (by kernel_rfl) (by kernel_rfl) (by kernel_rfl) (fun _ _ _ h => h) (by rfl) (by assumption) ?_ ?_; rotate_left; focus (intro w hSw; (try dsimp only at hSw); go_simp; try with_reducible rfl)); try simp only [Act.put, List.setIfInBounds_toArray, List.set_cons_zero, List.set_cons_succ]
        (refine' take_in 27 rfl (by kernel_rfl) (by kernel_rfl) (by kernel_rfl) (fun _ _ _ h => h) (by rfl) (by assumption) ?_ ?_; rotate_left; focus (intro w hSw; (try dsimp only at hSw); go_simp; try with_reducible rfl)); try simp only [Act.put, List.setIfInBounds_toArray, List.set_cons_zero, List.set_cons_succ]
        (refine' take_in 28 rfl (by kernel_rfl) (by kernel_rfl) (by kernel_rfl) (fun _ _ _ h => h) (by rfl) (by assumption) ?_ ?_; rotate_left; focus (intro w hSw; (try dsimp only at hSw); go_simp; try with_reducible rfl)); try simp only [Act.put, List.setIfInBounds_toArray, List.set_cons_zero, List.set_cons_succ]
        (refine' take_in 29 rfl (by kernel_rfl) (by kernel_rfl) (by kernel_rfl) (fun _ _ _ h => h) (by rfl) (by assumption) ?_ ?_; rotate_left; focus (intro w hSw; (try dsimp only at hSw); go_simp; try with_reducible rfl)); try simp only [Act.put, List.setIfInBounds_toArray, List.set_cons_zero, List.set_cons_succ]
        (refine' take_in 30 rfl (by kernel_rfl) (by kernel_rfl) (by kernel_rfl) (fun _ _ _ h => h) (by rfl) (by assumption) ?_ ?_; rotate_left; focus (intro w hSw; (try dsimp only at hSw); go_simp; try with_reducible rfl)); try simp only [Act.put, List.setIfInBounds_toArray, List.set_cons_zero, List.set_cons_succ]
        (refine' take_in 32 rfl (by kernel_rfl) (by kernel_rfl) (by kernel_rfl) (fun _ _ _ h => h) (by rfl) (by assumption) ?_ ?_; rotate_left; focus (intro w hSw; (try dsimp only at hSw); go_simp; try with_reducible rfl)); try simp only [Act.put, List.setIfInBounds_toArray, List.set_cons_zero, List.set_cons_succ]
        refine' next_in 31 rfl (by kernel_rfl) (by rfl) (fun K hK => ?_)
        go_simp
        (with_reducible refine (hopCount_ev (some ⟨b1, o1, none⟩) L.length c2 L x0 x1 x2 cv _ (HSk.out.ext (by repeat (first | with_reducible exact Ext.refl _ | with_reducible refine Ext.drew ?_ | with_reducible refine Ext.drewN ?_ _ | with_reducible refine Ext.alloc ?_ _ | with_reducible refine Ext.setCell ?_ (by first | omega | (simp; done) | (simp; omega)) _))) (by omega) HMD.out.fits (fits_x HFX.out).1 (fits_x HFX.out).2.1 (fits_x HFX.out).2.2.1 HCV.out).mono ?_)
        rintro e w51 ⟨rfl, hx51⟩
        replace x_0 : w51.cell? ⟨b1, o1 + k * 4, none⟩ = some (.int .i64 x0) := hx51.has (by first | exact x_0 | (simp [go_sem, World.cell?_alloc_past, x_0, x_1, x_2, x_3, rx, rxa, rxb, rxc, rxn]; done))
        replace x_1 : w51.cell? ⟨b1, o1 + k * 4 + 1, none⟩ = some (.int .i64 x1) := hx51.has (by first | exact x_1 | (simp [go_sem, World.cell?_alloc_past, x_0, x_1, x_2, x_3, rx, rxa, rxb, rxc, rxn]; done))
        replace x_2 : w51.cell? ⟨b1, o1 + k * 4 + 2, none⟩ = some (.int .i64 x2) := hx51.has (by first | exact x_2 | (simp [go_sem, World.cell?_alloc_past, x_0, x_1, x_2, x_3, rx, rxa, rxb, rxc, rxn]; done))
        replace x_3 : w51.cell? ⟨b1, o1 + k * 4 + 3, none⟩ = some (.int .i64 x3) := hx51.has (by first | exact x_3 | (simp [go_sem, World.cell?_alloc_past, x_0, x_1, x_2, x_3, rx, rxa, rxb, rxc, rxn]; done))
        have z51 := hx51.size
        try simp at z51
        replace rx : b1 < w51.heap.size := by omega
        replace rxa : b1 < w51.heap.size + 1 := by omega
        replace rxb : b1 < w51.heap.size + 1 + 1 := by omega
        replace rxc : b1 < w51.heap.size + 1 + 1 + 1 := by omega
        replace rxn : ¬ b1 = w51.heap.size := by omega
        replace HSk := Lib.hid (HSk.out.ext (Ext.trans (by repeat (first | with_reducible exact Ext.refl _ | with_reducible refine Ext.drew ?_ | with_reducible refine Ext.drewN ?_ _ | with_reducible refine Ext.alloc ?_ _ | with_reducible refine Ext.setCell ?_ (by first | omega | (simp; done) | (simp; omega)) _)) hx51))
        have X51 : Hid (Ext w w51) := Lib.hid (Ext.trans (by repeat (first | with_reducible exact XR.out | with_reducible refine Ext.drew ?_ | with_reducible refine Ext.drewN ?_ _ | with_reducible refine Ext.alloc ?_ _ | with_reducible refine Ext.setCell ?_ (by first | omega | (simp; done) | (simp; omega)) _)) hx51)
        clear XR hx51 z51
        refine hK.out _ _ (by (first | exact ⟨x_0, x_1, x_2, x_3⟩ | (simp [go_sem, World.cell?_alloc_past, x_0, x_1, x_2, x_3, rx, rxa, rxb, rxc, rxn]; done))) (fun hHeld => ?_); clear hK K; try simp only [Act.put, List.setIfInBounds_toArray, List.set_cons_zero, List.set_cons_succ]
        (refine' take_in 33 rfl (by kernel_rfl) (by kernel_rfl) (by kernel_rfl) (fun _ _ _ h => h) (by rfl) (by assumption) ?_ ?_; rotate_left; focus (intro w hSw; (try dsimp only at hSw); go_simp; try with_reducible rfl)); try simp only [Act.put, List.setIfInBounds_toArray, List.set_cons_zero, List.set_cons_succ]
        (refine' take_in 34 rfl (by kernel_rfl) (by kernel_rfl) (by kernel_rfl) (fun _ _ _ h => h) (by rfl) (by assumption) ?_ ?_; rotate_left; focus (intro w hSw; (try dsimp only at hSw); go_simp; try with_reducible rfl)); try simp only [Act.put, List.setIfInBounds_toArray, List.set_cons_zero, List.set_cons_succ]
        refine wpAnyH_done (by kernel_rfl) ?_ _
        go_wp2_with fail
        go_roundg (gk - 1)
        case measure => have := HK.out; omega
        case rel => exact ⟨by have := HK.out; omega, num_eq (by have := HK.out; omega), Lib.hid (HSk.out.ext (by repeat (first | with_reducible exact Ext.refl _ | with_reducible refine Ext.drew ?_ | with_reducible refine Ext.drewN ?_ _ | with_reducible refine Ext.alloc ?_ _ | with_reducible refine Ext.setCell ?_ (by first | omega | (simp; done) | (simp; omega)) _))), (by repeat (first | with_reducible exact X51.out | with_reducible refine Ext.drew ?_ | with_reducible refine Ext.drewN ?_ _ | with_reducible refine Ext.alloc ?_ _ | with_reducible refine Ext.setCell ?_ (by first | omega | (simp; done) | (simp; omega)) _))⟩
theorem HopRipens_any (A : Option Addr) (n c : Nat) (l : List Int) (mo0 : Int) (g1 : Fits .i64 mo0) (u0 : Int) (g2 : Fits .i64 u0) (f0 : Int) (g3 : Fits .i64 f0) (t0 : Int) (g4 : Fits .i64 t0) (w : World) (hs : Sl w 1 A n c (iv .i64 l)) (hf : ∀ x ∈ l, Fits .i64 x) :
    Calls Try.prog 9 #[.slice A n c, .int .i64 mo0, .int .i64 u0, .int .i64 f0, .int .i64 t0] w fun r w' => r = .returned (.bool true) ∧ Ext w w' := by
  by_cases hl : n ≤ 60
  · exact HopRipens_main A n c l mo0 u0 f0 t0 (mo0 % 16) (u0 % 40) (f0 % 200) (t0 % 100) _ _ _ _ w hs hf hl (fun w => pick_e _ _ _ g1 (by decide) (by decide) rfl w) (fun w => pick_e _ _ _ g2 (by decide) (by decide) rfl w) (fun w => pick_e _ _ _ g3 (by decide) (by decide) rfl w) (fun w => pick_e _ _ _ g4 (by decide) (by decide) rfl w) (by omega) (by omega) (by omega) (by omega) rfl rfl rfl rfl
  · exact HopRipens_long A c n mo0 u0 f0 t0 w hl hs.small
end
end Go.Proofs.Ytjdpgapmdmpjjaa
