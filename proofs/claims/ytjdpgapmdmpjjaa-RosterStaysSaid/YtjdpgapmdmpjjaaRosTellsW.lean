/- law16: RosterTells returns true, whatever comes in. Conditions: none but those of the arguments' types. -/
import Derived.Test.YtjdpgapmdmpjjaaRos14
import Derived.Test.YtjdpgapmdmpjjaaValOpen
import Derived.Test.YtjdpgapmdmpjjaaLow
set_option linter.unusedVariables false
set_option linter.unusedSimpArgs false
namespace Go.Proofs.Ytjdpgapmdmpjjaa
open Go.RowKit Go.ChangeShapes Go.WideShapes Go.Deep Go.Joins

theorem rosCreate_ev (A : Option Addr) (c : Nat) (l L : List (Int × Int × Int × Int × Bool × Bool)) (o m n e : Int) (w : World) (h : Sl w 6 A l.length c (l.flatMap valC)) (hw : ∀ x ∈ l, (Lit.int .i64 x.1).wf = true) (hnil : A = none → c = 0) (hF : (L, n, e) = creV l o m) :
    Calls Try.prog 33 #[.slice A l.length c, .int .i64 o, .int .u64 m] w fun r w' => ∃ A c, r = .returned (.tuple #[.slice A L.length c, .int .i64 n, .int .i64 e]) ∧ (A = none → c = 0) ∧ OwnVal w' w.heap.size (.slice A L.length c) L.length L ∧ Ext w w' := by
  have h := rosCreate_any A l.length c l o m w h hw hnil
  rw [← hF] at h
  exact h
theorem rCreate16_ev (A : Option Addr) (c : Nat) (l L : List (Int × Int × Int × Int × Bool × Bool)) (o m n e : Int) (w : World) (h : Sl w 6 A l.length c (l.flatMap valC)) (hF : (L, n, e) = creV l o m) :
    Calls Try.prog 34 #[.slice A l.length c, .int .i64 o, .int .u64 m] w fun r w' => ∃ A c, r = .returned (.tuple #[.slice A L.length c, .int .i64 n, .int .i64 e]) ∧ (A = none → c = 0) ∧ OwnVal w' w.heap.size (.slice A L.length c) L.length L ∧ Ext w w' := by
  have h := rCreate16_any A l.length c l o m w h
  rw [← hF] at h
  exact h
theorem kSameVals_eq (A B : Option Addr) (n c m d : Nat) (l : List (Int × Int × Int × Int × Bool × Bool)) (w : World) (h1 : Sl w 6 A n c (l.flatMap valC)) (h2 : Sl w 6 B m d (l.flatMap valC)) :
    Calls Try.prog 35 #[.slice A n c, .slice B m d] w fun e w' => e = .returned (.bool true) ∧ Ext w w' := by
  have h := kSameVals_any A B n c m d l l w h1 h2
  simpa using h
theorem kSameBools_eq (A B : Option Addr) (n c m d : Nat) (l : List Bool) (w : World) (h1 : Sl w 1 A n c (l.map Value.bool)) (h2 : Sl w 1 B m d (l.map Value.bool)) :
    Calls Try.prog 41 #[.slice A n c, .slice B m d] w fun e w' => e = .returned (.bool true) ∧ Ext w w' := by
  have h := kSameBools_any A B n c m d l l w h1 h2
  simpa using h
theorem rRefuse16_ev (A : Option Addr) (n c : Nat) (l : List (Int × Int × Int × Int × Bool × Bool)) (v ev : Int) (w : World) (h : Sl w 6 A n c (l.flatMap valC)) (he : ev = rfsV l v) :
    Calls Try.prog 47 #[.slice A n c, .int .i64 v] w fun e w' => e = .returned (.int .i64 ev) ∧ Ext w w' := by
  rw [he]
  exact rRefuse16_any A n c l v w h
set_option maxRecDepth 100000 in
theorem RosterTells_long (A : Option Addr) (c n : Nat) (o m v st : Int) (w : World) (hl : ¬ n ≤ 40) (hs : n ≤ 9223372036854775807) :
    Calls Try.prog 4 #[.slice A n c, .int .i64 o, .int .u64 m, .int .i64 v, .int .i64 st] w fun r w' => r = .returned (.bool true) ∧ Ext w w' := by
  have hMd : (40 : Int) < (n : Int) := by omega
  clear hl
  go_enter Try.func4, Try.ntmps4
  go_wp2_with fail
  (with_reducible refine (awake16_any _).mono ?_)
  rintro e w1 ⟨rfl, hx1⟩
  have z1 := hx1.size
  try simp at z1
  have X1 : Hid (Ext w w1) := Lib.hid (Ext.trans (by repeat (first | with_reducible exact Ext.refl w | with_reducible refine Ext.drew ?_ | with_reducible refine Ext.drewN ?_ _ | with_reducible refine Ext.alloc ?_ _ | with_reducible refine Ext.setCell ?_ (by first | omega | (simp; done) | (simp; omega)) _)) hx1)
  clear hx1 z1
  go_wp2_with fail
  go_ret
  exact ⟨rfl, (by repeat (first | with_reducible exact X1.out | with_reducible refine Ext.drew ?_ | with_reducible refine Ext.drewN ?_ _ | with_reducible refine Ext.alloc ?_ _ | with_reducible refine Ext.setCell ?_ (by first | omega | (simp; done) | (simp; omega)) _))⟩
set_option maxRecDepth 100000 in
set_option maxHeartbeats 4000000 in
theorem RosterTells_main (A : Option Addr) (c : Nat) (l L : List (Int × Int × Int × Int × Bool × Bool)) (o m v st n e f1 f2 fi r : Int) (fb : Bool) (w : World) (h : Sl w 6 A l.length c (l.flatMap valC)) (hw : ∀ x ∈ l, (Lit.int .i64 x.1).wf = true) (hl : l.length ≤ 40) (hF : (L, n, e) = creV l o m) (hf : (f1, f2) = chkV l) (hi : (fi, fb) = fndV l o) (hr : r = rfsV l v) :
    Calls Try.prog 4 #[.slice A l.length c, .int .i64 o, .int .u64 m, .int .i64 v, .int .i64 st] w fun r w' => r = .returned (.bool true) ∧ Ext w w' := by
  have hMd : ¬ (40 : Int) < (l.length : Int) := by omega
  have s1 := h.small
  have HS := Lib.hid h.low
  have HW := Lib.hid hw
  have HF := Lib.hid hF
  have Hf := Lib.hid hf
  have Hi := Lib.hid hi
  have Hr := Lib.hid hr
  clear h hw hF hf hi hr
  go_enter Try.func4, Try.ntmps4
  go_wp2_with fail
  (with_reducible refine (kCopyVals_any A c l _ (HS.out.ext (by repeat (first | with_reducible exact Ext.refl _ | with_reducible refine Ext.drew ?_ | with_reducible refine Ext.drewN ?_ _ | with_reducible refine Ext.alloc ?_ _ | with_reducible refine Ext.setCell ?_ (by first | omega | (simp; done) | (simp; omega)) _))).sl (by omega)).mono ?_)
  rintro e w1 ⟨A1, c1, rfl, hn1, hO1, hx1⟩
  have z1 := hx1.size
  try simp at z1
  replace HS := Lib.hid (HS.out.ext (Ext.trans (by repeat (first | with_reducible exact Ext.refl _ | with_reducible refine Ext.drew ?_ | with_reducible refine Ext.drewN ?_ _ | with_reducible refine Ext.alloc ?_ _ | with_reducible refine Ext.setCell ?_ (by first | omega | (simp; done) | (simp; omega)) _)) hx1))
  have X1 : Hid (Ext w w1) := Lib.hid (Ext.trans (by repeat (first | with_reducible exact Ext.refl w | with_reducible refine Ext.drew ?_ | with_reducible refine Ext.drewN ?_ _ | with_reducible refine Ext.alloc ?_ _ | with_reducible refine Ext.setCell ?_ (by first | omega | (simp; done) | (simp; omega)) _)) hx1)
  have HI := Lib.hid (OwnVal.sl hO1).low
  clear hx1 z1
  have HN := Lib.hid hn1
  clear hn1 hO1
  go_wp2_with fail
  have hsz1 := Ext.size X1.out
  replace HS := Lib.hid HS.out.raise
  replace HI := Lib.hid HI.out.raise
  (with_reducible refine (rosCreate_ev A1 c1 l L o m n e _ (HI.out.ext (by repeat (first | with_reducible exact Ext.refl _ | with_reducible refine Ext.drew ?_ | with_reducible refine Ext.drewN ?_ _ | with_reducible refine Ext.alloc ?_ _ | with_reducible refine Ext.setCell ?_ (by first | omega | (simp; done) | (simp; omega)) _))).sl HW.out HN.out HF.out).mono ?_)
  rintro e w2 ⟨A2, c2, rfl, _, hO2, hx2⟩
  have z2 := hx2.size
  try simp at z2
  replace HS := Lib.hid (HS.out.ext (Ext.trans (by repeat (first | with_reducible exact Ext.refl _ | with_reducible refine Ext.drew ?_ | with_reducible refine Ext.drewN ?_ _ | with_reducible refine Ext.alloc ?_ _ | with_reducible refine Ext.setCell ?_ (by first | omega | (simp; done) | (simp; omega)) _)) hx2))
  replace HI := Lib.hid (HI.out.ext (Ext.trans (by repeat (first | with_reducible exact Ext.refl _ | with_reducible refine Ext.drew ?_ | with_reducible refine Ext.drewN ?_ _ | with_reducible refine Ext.alloc ?_ _ | with_reducible refine Ext.setCell ?_ (by first | omega | (simp; done) | (simp; omega)) _)) hx2))
  have X2 : Hid (Ext w w2) := Lib.hid (Ext.trans (by repeat (first | with_reducible exact X1.out | with_reducible refine Ext.drew ?_ | with_reducible refine Ext.drewN ?_ _ | with_reducible refine Ext.alloc ?_ _ | with_reducible refine Ext.setCell ?_ (by first | omega | (simp; done) | (simp; omega)) _)) hx2)
  have HA := Lib.hid hO2
  clear X1 hx2 z2 hO2
  have HAi : Hid (∀ k o s, A2 = some ⟨k, o, s⟩ → w1.heap.size ≤ k) := Lib.hid (fun k o s e => by have h := HA.out.in_ k o s e; (try simp at h); omega)
  go_wp2_with fail
  (with_reducible refine (rCreate16_ev A c l L o m n e _ (HS.out.ext (by repeat (first | with_reducible exact Ext.refl _ | with_reducible refine Ext.drew ?_ | with_reducible refine Ext.drewN ?_ _ | with_reducible refine Ext.alloc ?_ _ | with_reducible refine Ext.setCell ?_ (by first | omega | (simp; done) | (simp; omega)) _))).sl HF.out).mono ?_)
  rintro e w3 ⟨A3, c3, rfl, _, hO3, hx3⟩
  have z3 := hx3.size
  try simp at z3
  replace HS := Lib.hid (HS.out.ext (Ext.trans (by repeat (first | with_reducible exact Ext.refl _ | with_reducible refine Ext.drew ?_ | with_reducible refine Ext.drewN ?_ _ | with_reducible refine Ext.alloc ?_ _ | with_reducible refine Ext.setCell ?_ (by first | omega | (simp; done) | (simp; omega)) _)) hx3))
  replace HI := Lib.hid (HI.out.ext (Ext.trans (by repeat (first | with_reducible exact Ext.refl _ | with_reducible refine Ext.drew ?_ | with_reducible refine Ext.drewN ?_ _ | with_reducible refine Ext.alloc ?_ _ | with_reducible refine Ext.setCell ?_ (by first | omega | (simp; done) | (simp; omega)) _)) hx3))
  replace HA := Lib.hid (HA.out.ext (Ext.trans (by repeat (first | with_reducible exact Ext.refl _ | with_reducible refine Ext.drew ?_ | with_reducible refine Ext.drewN ?_ _ | with_reducible refine Ext.alloc ?_ _ | with_reducible refine Ext.setCell ?_ (by first | omega | (simp; done) | (simp; omega)) _)) hx3))
  have X3 : Hid (Ext w w3) := Lib.hid (Ext.trans (by repeat (first | with_reducible exact X2.out | with_reducible refine Ext.drew ?_ | with_reducible refine Ext.drewN ?_ _ | with_reducible refine Ext.alloc ?_ _ | with_reducible refine Ext.setCell ?_ (by first | omega | (simp; done) | (simp; omega)) _)) hx3)
  have HB := Lib.hid hO3
  clear X2 hx3 z3 hO3
  go_wp2_with fail
  (with_reducible refine (kSameVals_eq A2 A3 _ c2 _ c3 L _ (HA.out.ext (by repeat (first | with_reducible exact Ext.refl _ | with_reducible refine Ext.drew ?_ | with_reducible refine Ext.drewN ?_ _ | with_reducible refine Ext.alloc ?_ _ | with_reducible refine Ext.setCell ?_ (by first | omega | (simp; done) | (simp; omega)) _))).sl (HB.out.ext (by repeat (first | with_reducible exact Ext.refl _ | with_reducible refine Ext.drew ?_ | with_reducible refine Ext.drewN ?_ _ | with_reducible refine Ext.alloc ?_ _ | with_reducible refine Ext.setCell ?_ (by first | omega | (simp; done) | (simp; omega)) _))).sl).mono ?_)
  rintro e w4 ⟨rfl, hx4⟩
  have z4 := hx4.size
  try simp at z4
  replace HS := Lib.hid (HS.out.ext (Ext.trans (by repeat (first | with_reducible exact Ext.refl _ | with_reducible refine Ext.drew ?_ | with_reducible refine Ext.drewN ?_ _ | with_reducible refine Ext.alloc ?_ _ | with_reducible refine Ext.setCell ?_ (by first | omega | (simp; done) | (simp; omega)) _)) hx4))
  replace HI := Lib.hid (HI.out.ext (Ext.trans (by repeat (first | with_reducible exact Ext.refl _ | with_reducible refine Ext.drew ?_ | with_reducible refine Ext.drewN ?_ _ | with_reducible refine Ext.alloc ?_ _ | with_reducible refine Ext.setCell ?_ (by first | omega | (simp; done) | (simp; omega)) _)) hx4))
  replace HA := Lib.hid (HA.out.ext (Ext.trans (by repeat (first | with_reducible exact Ext.refl _ | with_reducible refine Ext.drew ?_ | with_reducible refine Ext.drewN ?_ _ | with_reducible refine Ext.alloc ?_ _ | with_reducible refine Ext.setCell ?_ (by first | omega | (simp; done) | (simp; omega)) _)) hx4))
  replace HB := Lib.hid (HB.out.ext (Ext.trans (by repeat (first | with_reducible exact Ext.refl _ | with_reducible refine Ext.drew ?_ | with_reducible refine Ext.drewN ?_ _ | with_reducible refine Ext.alloc ?_ _ | with_reducible refine Ext.setCell ?_ (by first | omega | (simp; done) | (simp; omega)) _)) hx4))
  have X4 : Hid (Ext w w4) := Lib.hid (Ext.trans (by repeat (first | with_reducible exact X3.out | with_reducible refine Ext.drew ?_ | with_reducible refine Ext.drewN ?_ _ | with_reducible refine Ext.alloc ?_ _ | with_reducible refine Ext.setCell ?_ (by first | omega | (simp; done) | (simp; omega)) _)) hx4)
  clear X3 hx4 z4
  go_wp2_with fail
  (with_reducible refine (kOverVals_own A2 c2 L _ _ (HA.out.ext (by repeat (first | with_reducible exact Ext.refl _ | with_reducible refine Ext.drew ?_ | with_reducible refine Ext.drewN ?_ _ | with_reducible refine Ext.alloc ?_ _ | with_reducible refine Ext.setCell ?_ (by first | omega | (simp; done) | (simp; omega)) _)))).mono ?_)
  rintro e w5 ⟨⟨vv, rfl⟩, hx5⟩
  have hsz5 := hx5.size
  try simp at hsz5
  have z5 := hx5.size
  try simp at z5
  have X5 : Hid (Ext w w5) := Lib.hid (have hX := (show Ext w _ from (by repeat (first | with_reducible exact X4.out | with_reducible refine Ext.drew ?_ | with_reducible refine Ext.drewN ?_ _ | with_reducible refine Ext.alloc ?_ _ | with_reducible refine Ext.setCell ?_ (by first | omega | (simp; done) | (simp; omega)) _))); Below.trans hX (hx5.below (Ext.size hX) (fun k hk hh => by obtain ⟨o, s, e⟩ := hh; have := HAi.out k o s e; omega)))
  replace HS := Lib.hid ((HS.out.ext (by repeat (first | with_reducible exact Ext.refl _ | with_reducible refine Ext.drew ?_ | with_reducible refine Ext.drewN ?_ _ | with_reducible refine Ext.alloc ?_ _ | with_reducible refine Ext.setCell ?_ (by first | omega | (simp; done) | (simp; omega)) _))).but hx5 (fun k hk => by obtain ⟨o, s, e⟩ := hk; have := HAi.out k o s e; omega))
  replace HI := Lib.hid ((HI.out.ext (by repeat (first | with_reducible exact Ext.refl _ | with_reducible refine Ext.drew ?_ | with_reducible refine Ext.drewN ?_ _ | with_reducible refine Ext.alloc ?_ _ | with_reducible refine Ext.setCell ?_ (by first | omega | (simp; done) | (simp; omega)) _))).but hx5 (fun k hk => by obtain ⟨o, s, e⟩ := hk; have := HAi.out k o s e; omega))
  clear HA HB hsz5 X4 hx5 z5
  go_wp2_with fail
  (with_reducible refine (rosCheck_ev A1 l.length c1 l f1 f2 _ (HI.out.ext (by repeat (first | with_reducible exact Ext.refl _ | with_reducible refine Ext.drew ?_ | with_reducible refine Ext.drewN ?_ _ | with_reducible refine Ext.alloc ?_ _ | with_reducible refine Ext.setCell ?_ (by first | omega | (simp; done) | (simp; omega)) _))).sl HW.out Hf.out).mono ?_)
  rintro e w6 ⟨rfl, hx6⟩
  have z6 := hx6.size
  try simp at z6
  replace HS := Lib.hid (HS.out.ext (Ext.trans (by repeat (first | with_reducible exact Ext.refl _ | with_reducible refine Ext.drew ?_ | with_reducible refine Ext.drewN ?_ _ | with_reducible refine Ext.alloc ?_ _ | with_reducible refine Ext.setCell ?_ (by first | omega | (simp; done) | (simp; omega)) _)) hx6))
  replace HI := Lib.hid (HI.out.ext (Ext.trans (by repeat (first | with_reducible exact Ext.refl _ | with_reducible refine Ext.drew ?_ | with_reducible refine Ext.drewN ?_ _ | with_reducible refine Ext.alloc ?_ _ | with_reducible refine Ext.setCell ?_ (by first | omega | (simp; done) | (simp; omega)) _)) hx6))
  have X6 : Hid (Ext w w6) := Lib.hid (Ext.trans (by repeat (first | with_reducible exact X5.out | with_reducible refine Ext.drew ?_ | with_reducible refine Ext.drewN ?_ _ | with_reducible refine Ext.alloc ?_ _ | with_reducible refine Ext.setCell ?_ (by first | omega | (simp; done) | (simp; omega)) _)) hx6)
  clear X5 hx6 z6
  go_wp2_with fail
  (with_reducible refine (rCheck16_ev A l.length c l f1 f2 _ (HS.out.ext (by repeat (first | with_reducible exact Ext.refl _ | with_reducible refine Ext.drew ?_ | with_reducible refine Ext.drewN ?_ _ | with_reducible refine Ext.alloc ?_ _ | with_reducible refine Ext.setCell ?_ (by first | omega | (simp; done) | (simp; omega)) _))).sl Hf.out).mono ?_)
  rintro e w7 ⟨rfl, hx7⟩
  have z7 := hx7.size
  try simp at z7
  replace HS := Lib.hid (HS.out.ext (Ext.trans (by repeat (first | with_reducible exact Ext.refl _ | with_reducible refine Ext.drew ?_ | with_reducible refine Ext.drewN ?_ _ | with_reducible refine Ext.alloc ?_ _ | with_reducible refine Ext.setCell ?_ (by first | omega | (simp; done) | (simp; omega)) _)) hx7))
  replace HI := Lib.hid (HI.out.ext (Ext.trans (by repeat (first | with_reducible exact Ext.refl _ | with_reducible refine Ext.drew ?_ | with_reducible refine Ext.drewN ?_ _ | with_reducible refine Ext.alloc ?_ _ | with_reducible refine Ext.setCell ?_ (by first | omega | (simp; done) | (simp; omega)) _)) hx7))
  have X7 : Hid (Ext w w7) := Lib.hid (Ext.trans (by repeat (first | with_reducible exact X6.out | with_reducible refine Ext.drew ?_ | with_reducible refine Ext.drewN ?_ _ | with_reducible refine Ext.alloc ?_ _ | with_reducible refine Ext.setCell ?_ (by first | omega | (simp; done) | (simp; omega)) _)) hx7)
  clear X6 hx7 z7
  go_wp2_with fail
  (with_reducible refine (rosFind_ev A1 l.length c1 l o fi fb _ (HI.out.ext (by repeat (first | with_reducible exact Ext.refl _ | with_reducible refine Ext.drew ?_ | with_reducible refine Ext.drewN ?_ _ | with_reducible refine Ext.alloc ?_ _ | with_reducible refine Ext.setCell ?_ (by first | omega | (simp; done) | (simp; omega)) _))).sl Hi.out).mono ?_)
  rintro e w8 ⟨rfl, hx8⟩
  have z8 := hx8.size
  try simp at z8
  replace HS := Lib.hid (HS.out.ext (Ext.trans (by repeat (first | with_reducible exact Ext.refl _ | with_reducible refine Ext.drew ?_ | with_reducible refine Ext.drewN ?_ _ | with_reducible refine Ext.alloc ?_ _ | with_reducible refine Ext.setCell ?_ (by first | omega | (simp; done) | (simp; omega)) _)) hx8))
  replace HI := Lib.hid (HI.out.ext (Ext.trans (by repeat (first | with_reducible exact Ext.refl _ | with_reducible refine Ext.drew ?_ | with_reducible refine Ext.drewN ?_ _ | with_reducible refine Ext.alloc ?_ _ | with_reducible refine Ext.setCell ?_ (by first | omega | (simp; done) | (simp; omega)) _)) hx8))
  have X8 : Hid (Ext w w8) := Lib.hid (Ext.trans (by repeat (first | with_reducible exact X7.out | with_reducible refine Ext.drew ?_ | with_reducible refine Ext.drewN ?_ _ | with_reducible refine Ext.alloc ?_ _ | with_reducible refine Ext.setCell ?_ (by first | omega | (simp; done) | (simp; omega)) _)) hx8)
  clear X7 hx8 z8
  go_wp2_with fail
  (with_reducible refine (rFind16_ev A l.length c l o fi fb _ (HS.out.ext (by repeat (first | with_reducible exact Ext.refl _ | with_reducible refine Ext.drew ?_ | with_reducible refine Ext.drewN ?_ _ | with_reducible refine Ext.alloc ?_ _ | with_reducible refine Ext.setCell ?_ (by first | omega | (simp; done) | (simp; omega)) _))).sl Hi.out).mono ?_)
  rintro e w9 ⟨rfl, hx9⟩
  have z9 := hx9.size
  try simp at z9
  replace HS := Lib.hid (HS.out.ext (Ext.trans (by repeat (first | with_reducible exact Ext.refl _ | with_reducible refine Ext.drew ?_ | with_reducible refine Ext.drewN ?_ _ | with_reducible refine Ext.alloc ?_ _ | with_reducible refine Ext.setCell ?_ (by first | omega | (simp; done) | (simp; omega)) _)) hx9))
  replace HI := Lib.hid (HI.out.ext (Ext.trans (by repeat (first | with_reducible exact Ext.refl _ | with_reducible refine Ext.drew ?_ | with_reducible refine Ext.drewN ?_ _ | with_reducible refine Ext.alloc ?_ _ | with_reducible refine Ext.setCell ?_ (by first | omega | (simp; done) | (simp; omega)) _)) hx9))
  have X9 : Hid (Ext w w9) := Lib.hid (Ext.trans (by repeat (first | with_reducible exact X8.out | with_reducible refine Ext.drew ?_ | with_reducible refine Ext.drewN ?_ _ | with_reducible refine Ext.alloc ?_ _ | with_reducible refine Ext.setCell ?_ (by first | omega | (simp; done) | (simp; omega)) _)) hx9)
  clear X8 hx9 z9
  go_wp2_with fail
  (with_reducible refine (rosFree_any A1 l.length c1 l _ (HI.out.ext (by repeat (first | with_reducible exact Ext.refl _ | with_reducible refine Ext.drew ?_ | with_reducible refine Ext.drewN ?_ _ | with_reducible refine Ext.alloc ?_ _ | with_reducible refine Ext.setCell ?_ (by first | omega | (simp; done) | (simp; omega)) _))).sl (by omega)).mono ?_)
  rintro e w10 ⟨A4, c4, rfl, _, hO4, hx10⟩
  have z10 := hx10.size
  try simp at z10
  replace HS := Lib.hid (HS.out.ext (Ext.trans (by repeat (first | with_reducible exact Ext.refl _ | with_reducible refine Ext.drew ?_ | with_reducible refine Ext.drewN ?_ _ | with_reducible refine Ext.alloc ?_ _ | with_reducible refine Ext.setCell ?_ (by first | omega | (simp; done) | (simp; omega)) _)) hx10))
  replace HI := Lib.hid (HI.out.ext (Ext.trans (by repeat (first | with_reducible exact Ext.refl _ | with_reducible refine Ext.drew ?_ | with_reducible refine Ext.drewN ?_ _ | with_reducible refine Ext.alloc ?_ _ | with_reducible refine Ext.setCell ?_ (by first | omega | (simp; done) | (simp; omega)) _)) hx10))
  have X10 : Hid (Ext w w10) := Lib.hid (Ext.trans (by repeat (first | with_reducible exact X9.out | with_reducible refine Ext.drew ?_ | with_reducible refine Ext.drewN ?_ _ | with_reducible refine Ext.alloc ?_ _ | with_reducible refine Ext.setCell ?_ (by first | omega | (simp; done) | (simp; omega)) _)) hx10)
  have HF1 := Lib.hid (OwnB.sl hO4)
  clear X9 hx10 z10
  go_wp2_with fail
  (with_reducible refine (rFree16_any A l.length c l _ (HS.out.ext (by repeat (first | with_reducible exact Ext.refl _ | with_reducible refine Ext.drew ?_ | with_reducible refine Ext.drewN ?_ _ | with_reducible refine Ext.alloc ?_ _ | with_reducible refine Ext.setCell ?_ (by first | omega | (simp; done) | (simp; omega)) _))).sl (by omega)).mono ?_)
  rintro e w11 ⟨A5, c5, rfl, _, hO5, hx11⟩
  have z11 := hx11.size
  try simp at z11
  replace HS := Lib.hid (HS.out.ext (Ext.trans (by repeat (first | with_reducible exact Ext.refl _ | with_reducible refine Ext.drew ?_ | with_reducible refine Ext.drewN ?_ _ | with_reducible refine Ext.alloc ?_ _ | with_reducible refine Ext.setCell ?_ (by first | omega | (simp; done) | (simp; omega)) _)) hx11))
  replace HI := Lib.hid (HI.out.ext (Ext.trans (by repeat (first | with_reducible exact Ext.refl _ | with_reducible refine Ext.drew ?_ | with_reducible refine Ext.drewN ?_ _ | with_reducible refine Ext.alloc ?_ _ | with_reducible refine Ext.setCell ?_ (by first | omega | (simp; done) | (simp; omega)) _)) hx11))
  replace HF1 := Lib.hid (HF1.out.ext (Ext.trans (by repeat (first | with_reducible exact Ext.refl _ | with_reducible refine Ext.drew ?_ | with_reducible refine Ext.drewN ?_ _ | with_reducible refine Ext.alloc ?_ _ | with_reducible refine Ext.setCell ?_ (by first | omega | (simp; done) | (simp; omega)) _)) hx11))
  have X11 : Hid (Ext w w11) := Lib.hid (Ext.trans (by repeat (first | with_reducible exact X10.out | with_reducible refine Ext.drew ?_ | with_reducible refine Ext.drewN ?_ _ | with_reducible refine Ext.alloc ?_ _ | with_reducible refine Ext.setCell ?_ (by first | omega | (simp; done) | (simp; omega)) _)) hx11)
  have HF2 := Lib.hid (OwnB.sl hO5)
  clear X10 hx11 z11
  go_wp2_with fail
  (with_reducible refine (kSameBools_eq A4 A5 _ c4 _ c5 (freeV l) _ (HF1.out.ext (by repeat (first | with_reducible exact Ext.refl _ | with_reducible refine Ext.drew ?_ | with_reducible refine Ext.drewN ?_ _ | with_reducible refine Ext.alloc ?_ _ | with_reducible refine Ext.setCell ?_ (by first | omega | (simp; done) | (simp; omega)) _))) (HF2.out.ext (by repeat (first | with_reducible exact Ext.refl _ | with_reducible refine Ext.drew ?_ | with_reducible refine Ext.drewN ?_ _ | with_reducible refine Ext.alloc ?_ _ | with_reducible refine Ext.setCell ?_ (by first | omega | (simp; done) | (simp; omega)) _)))).mono ?_)
  rintro e w12 ⟨rfl, hx12⟩
  have z12 := hx12.size
  try simp at z12
  replace HS := Lib.hid (HS.out.ext (Ext.trans (by repeat (first | with_reducible exact Ext.refl _ | with_reducible refine Ext.drew ?_ | with_reducible refine Ext.drewN ?_ _ | with_reducible refine Ext.alloc ?_ _ | with_reducible refine Ext.setCell ?_ (by first | omega | (simp; done) | (simp; omega)) _)) hx12))
  replace HI := Lib.hid (HI.out.ext (Ext.trans (by repeat (first | with_reducible exact Ext.refl _ | with_reducible refine Ext.drew ?_ | with_reducible refine Ext.drewN ?_ _ | with_reducible refine Ext.alloc ?_ _ | with_reducible refine Ext.setCell ?_ (by first | omega | (simp; done) | (simp; omega)) _)) hx12))
  have X12 : Hid (Ext w w12) := Lib.hid (Ext.trans (by repeat (first | with_reducible exact X11.out | with_reducible refine Ext.drew ?_ | with_reducible refine Ext.drewN ?_ _ | with_reducible refine Ext.alloc ?_ _ | with_reducible refine Ext.setCell ?_ (by first | omega | (simp; done) | (simp; omega)) _)) hx12)
  clear HF1 HF2 X11 hx12 z12
  go_wp2_with fail
  (with_reducible refine (rosActive_any A1 l.length c1 l _ (HI.out.ext (by repeat (first | with_reducible exact Ext.refl _ | with_reducible refine Ext.drew ?_ | with_reducible refine Ext.drewN ?_ _ | with_reducible refine Ext.alloc ?_ _ | with_reducible refine Ext.setCell ?_ (by first | omega | (simp; done) | (simp; omega)) _))).sl (by omega)).mono ?_)
  rintro e w13 ⟨A6, c6, rfl, _, hO6, hx13⟩
  have z13 := hx13.size
  try simp at z13
  replace HS := Lib.hid (HS.out.ext (Ext.trans (by repeat (first | with_reducible exact Ext.refl _ | with_reducible refine Ext.drew ?_ | with_reducible refine Ext.drewN ?_ _ | with_reducible refine Ext.alloc ?_ _ | with_reducible refine Ext.setCell ?_ (by first | omega | (simp; done) | (simp; omega)) _)) hx13))
  replace HI := Lib.hid (HI.out.ext (Ext.trans (by repeat (first | with_reducible exact Ext.refl _ | with_reducible refine Ext.drew ?_ | with_reducible refine Ext.drewN ?_ _ | with_reducible refine Ext.alloc ?_ _ | with_reducible refine Ext.setCell ?_ (by first | omega | (simp; done) | (simp; omega)) _)) hx13))
  have X13 : Hid (Ext w w13) := Lib.hid (Ext.trans (by repeat (first | with_reducible exact X12.out | with_reducible refine Ext.drew ?_ | with_reducible refine Ext.drewN ?_ _ | with_reducible refine Ext.alloc ?_ _ | with_reducible refine Ext.setCell ?_ (by first | omega | (simp; done) | (simp; omega)) _)) hx13)
  have HF1 := Lib.hid (OwnB.sl hO6)
  clear X12 hx13 z13
  go_wp2_with fail
  (with_reducible refine (rActive16_any A l.length c l _ (HS.out.ext (by repeat (first | with_reducible exact Ext.refl _ | with_reducible refine Ext.drew ?_ | with_reducible refine Ext.drewN ?_ _ | with_reducible refine Ext.alloc ?_ _ | with_reducible refine Ext.setCell ?_ (by first | omega | (simp; done) | (simp; omega)) _))).sl (by omega)).mono ?_)
  rintro e w14 ⟨A7, c7, rfl, _, hO7, hx14⟩
  have z14 := hx14.size
  try simp at z14
  replace HS := Lib.hid (HS.out.ext (Ext.trans (by repeat (first | with_reducible exact Ext.refl _ | with_reducible refine Ext.drew ?_ | with_reducible refine Ext.drewN ?_ _ | with_reducible refine Ext.alloc ?_ _ | with_reducible refine Ext.setCell ?_ (by first | omega | (simp; done) | (simp; omega)) _)) hx14))
  replace HI := Lib.hid (HI.out.ext (Ext.trans (by repeat (first | with_reducible exact Ext.refl _ | with_reducible refine Ext.drew ?_ | with_reducible refine Ext.drewN ?_ _ | with_reducible refine Ext.alloc ?_ _ | with_reducible refine Ext.setCell ?_ (by first | omega | (simp; done) | (simp; omega)) _)) hx14))
  replace HF1 := Lib.hid (HF1.out.ext (Ext.trans (by repeat (first | with_reducible exact Ext.refl _ | with_reducible refine Ext.drew ?_ | with_reducible refine Ext.drewN ?_ _ | with_reducible refine Ext.alloc ?_ _ | with_reducible refine Ext.setCell ?_ (by first | omega | (simp; done) | (simp; omega)) _)) hx14))
  have X14 : Hid (Ext w w14) := Lib.hid (Ext.trans (by repeat (first | with_reducible exact X13.out | with_reducible refine Ext.drew ?_ | with_reducible refine Ext.drewN ?_ _ | with_reducible refine Ext.alloc ?_ _ | with_reducible refine Ext.setCell ?_ (by first | omega | (simp; done) | (simp; omega)) _)) hx14)
  have HF2 := Lib.hid (OwnB.sl hO7)
  clear X13 hx14 z14
  go_wp2_with fail
  (with_reducible refine (kSameBools_eq A6 A7 _ c6 _ c7 (actV l) _ (HF1.out.ext (by repeat (first | with_reducible exact Ext.refl _ | with_reducible refine Ext.drew ?_ | with_reducible refine Ext.drewN ?_ _ | with_reducible refine Ext.alloc ?_ _ | with_reducible refine Ext.setCell ?_ (by first | omega | (simp; done) | (simp; omega)) _))) (HF2.out.ext (by repeat (first | with_reducible exact Ext.refl _ | with_reducible refine Ext.drew ?_ | with_reducible refine Ext.drewN ?_ _ | with_reducible refine Ext.alloc ?_ _ | with_reducible refine Ext.setCell ?_ (by first | omega | (simp; done) | (simp; omega)) _)))).mono ?_)
  rintro e w15 ⟨rfl, hx15⟩
  have z15 := hx15.size
  try simp at z15
  replace HS := Lib.hid (HS.out.ext (Ext.trans (by repeat (first | with_reducible exact Ext.refl _ | with_reducible refine Ext.drew ?_ | with_reducible refine Ext.drewN ?_ _ | with_reducible refine Ext.alloc ?_ _ | with_reducible refine Ext.setCell ?_ (by first | omega | (simp; done) | (simp; omega)) _)) hx15))
  replace HI := Lib.hid (HI.out.ext (Ext.trans (by repeat (first | with_reducible exact Ext.refl _ | with_reducible refine Ext.drew ?_ | with_reducible refine Ext.drewN ?_ _ | with_reducible refine Ext.alloc ?_ _ | with_reducible refine Ext.setCell ?_ (by first | omega | (simp; done) | (simp; omega)) _)) hx15))
  have X15 : Hid (Ext w w15) := Lib.hid (Ext.trans (by repeat (first | with_reducible exact X14.out | with_reducible refine Ext.drew ?_ | with_reducible refine Ext.drewN ?_ _ | with_reducible refine Ext.alloc ?_ _ | with_reducible refine Ext.setCell ?_ (by first | omega | (simp; done) | (simp; omega)) _)) hx15)
  clear HF1 HF2 X14 hx15 z15
  go_wp2_with fail
  (with_reducible refine (rosRefuse_ev A1 l.length c1 l v r _ (HI.out.ext (by repeat (first | with_reducible exact Ext.refl _ | with_reducible refine Ext.drew ?_ | with_reducible refine Ext.drewN ?_ _ | with_reducible refine Ext.alloc ?_ _ | with_reducible refine Ext.setCell ?_ (by first | omega | (simp; done) | (simp; omega)) _))).sl Hr.out).mono ?_)
  rintro e w16 ⟨rfl, hx16⟩
  have z16 := hx16.size
  try simp at z16
  replace HS := Lib.hid (HS.out.ext (Ext.trans (by repeat (first | with_reducible exact Ext.refl _ | with_reducible refine Ext.drew ?_ | with_reducible refine Ext.drewN ?_ _ | with_reducible refine Ext.alloc ?_ _ | with_reducible refine Ext.setCell ?_ (by first | omega | (simp; done) | (simp; omega)) _)) hx16))
  replace HI := Lib.hid (HI.out.ext (Ext.trans (by repeat (first | with_reducible exact Ext.refl _ | with_reducible refine Ext.drew ?_ | with_reducible refine Ext.drewN ?_ _ | with_reducible refine Ext.alloc ?_ _ | with_reducible refine Ext.setCell ?_ (by first | omega | (simp; done) | (simp; omega)) _)) hx16))
  have X16 : Hid (Ext w w16) := Lib.hid (Ext.trans (by repeat (first | with_reducible exact X15.out | with_reducible refine Ext.drew ?_ | with_reducible refine Ext.drewN ?_ _ | with_reducible refine Ext.alloc ?_ _ | with_reducible refine Ext.setCell ?_ (by first | omega | (simp; done) | (simp; omega)) _)) hx16)
  clear X15 hx16 z16
  go_wp2_with fail
  (with_reducible refine (rRefuse16_ev A l.length c l v r _ (HS.out.ext (by repeat (first | with_reducible exact Ext.refl _ | with_reducible refine Ext.drew ?_ | with_reducible refine Ext.drewN ?_ _ | with_reducible refine Ext.alloc ?_ _ | with_reducible refine Ext.setCell ?_ (by first | omega | (simp; done) | (simp; omega)) _))).sl Hr.out).mono ?_)
  rintro e w17 ⟨rfl, hx17⟩
  have z17 := hx17.size
  try simp at z17
  replace HS := Lib.hid (HS.out.ext (Ext.trans (by repeat (first | with_reducible exact Ext.refl _ | with_reducible refine Ext.drew ?_ | with_reducible refine Ext.drewN ?_ _ | with_reducible refine Ext.alloc ?_ _ | with_reducible refine Ext.setCell ?_ (by first | omega | (simp; done) | (simp; omega)) _)) hx17))
  replace HI := Lib.hid (HI.out.ext (Ext.trans (by repeat (first | with_reducible exact Ext.refl _ | with_reducible refine Ext.drew ?_ | with_reducible refine Ext.drewN ?_ _ | with_reducible refine Ext.alloc ?_ _ | with_reducible refine Ext.setCell ?_ (by first | omega | (simp; done) | (simp; omega)) _)) hx17))
  have X17 : Hid (Ext w w17) := Lib.hid (Ext.trans (by repeat (first | with_reducible exact X16.out | with_reducible refine Ext.drew ?_ | with_reducible refine Ext.drewN ?_ _ | with_reducible refine Ext.alloc ?_ _ | with_reducible refine Ext.setCell ?_ (by first | omega | (simp; done) | (simp; omega)) _)) hx17)
  clear X16 hx17 z17
  go_wp2_with fail
  (with_reducible refine (rosName_any st _).mono ?_)
  rintro e w18 ⟨rfl, hx18⟩
  have z18 := hx18.size
  try simp at z18
  replace HS := Lib.hid (HS.out.ext (Ext.trans (by repeat (first | with_reducible exact Ext.refl _ | with_reducible refine Ext.drew ?_ | with_reducible refine Ext.drewN ?_ _ | with_reducible refine Ext.alloc ?_ _ | with_reducible refine Ext.setCell ?_ (by first | omega | (simp; done) | (simp; omega)) _)) hx18))
  replace HI := Lib.hid (HI.out.ext (Ext.trans (by repeat (first | with_reducible exact Ext.refl _ | with_reducible refine Ext.drew ?_ | with_reducible refine Ext.drewN ?_ _ | with_reducible refine Ext.alloc ?_ _ | with_reducible refine Ext.setCell ?_ (by first | omega | (simp; done) | (simp; omega)) _)) hx18))
  have X18 : Hid (Ext w w18) := Lib.hid (Ext.trans (by repeat (first | with_reducible exact X17.out | with_reducible refine Ext.drew ?_ | with_reducible refine Ext.drewN ?_ _ | with_reducible refine Ext.alloc ?_ _ | with_reducible refine Ext.setCell ?_ (by first | omega | (simp; done) | (simp; omega)) _)) hx18)
  clear X17 hx18 z18
  go_wp2_with fail
  (with_reducible refine (rName16_any st _).mono ?_)
  rintro e w19 ⟨rfl, hx19⟩
  have z19 := hx19.size
  try simp at z19
  replace HS := Lib.hid (HS.out.ext (Ext.trans (by repeat (first | with_reducible exact Ext.refl _ | with_reducible refine Ext.drew ?_ | with_reducible refine Ext.drewN ?_ _ | with_reducible refine Ext.alloc ?_ _ | with_reducible refine Ext.setCell ?_ (by first | omega | (simp; done) | (simp; omega)) _)) hx19))
  replace HI := Lib.hid (HI.out.ext (Ext.trans (by repeat (first | with_reducible exact Ext.refl _ | with_reducible refine Ext.drew ?_ | with_reducible refine Ext.drewN ?_ _ | with_reducible refine Ext.alloc ?_ _ | with_reducible refine Ext.setCell ?_ (by first | omega | (simp; done) | (simp; omega)) _)) hx19))
  have X19 : Hid (Ext w w19) := Lib.hid (Ext.trans (by repeat (first | with_reducible exact X18.out | with_reducible refine Ext.drew ?_ | with_reducible refine Ext.drewN ?_ _ | with_reducible refine Ext.alloc ?_ _ | with_reducible refine Ext.setCell ?_ (by first | omega | (simp; done) | (simp; omega)) _)) hx19)
  clear X18 hx19 z19
  go_wp2_with fail
  (with_reducible refine (kSameVals_eq A1 A _ c1 _ c l _ (HI.out.ext (by repeat (first | with_reducible exact Ext.refl _ | with_reducible refine Ext.drew ?_ | with_reducible refine Ext.drewN ?_ _ | with_reducible refine Ext.alloc ?_ _ | with_reducible refine Ext.setCell ?_ (by first | omega | (simp; done) | (simp; omega)) _))).sl (HS.out.ext (by repeat (first | with_reducible exact Ext.refl _ | with_reducible refine Ext.drew ?_ | with_reducible refine Ext.drewN ?_ _ | with_reducible refine Ext.alloc ?_ _ | with_reducible refine Ext.setCell ?_ (by first | omega | (simp; done) | (simp; omega)) _))).sl).mono ?_)
  rintro e w20 ⟨rfl, hx20⟩
  have z20 := hx20.size
  try simp at z20
  replace HS := Lib.hid (HS.out.ext (Ext.trans (by repeat (first | with_reducible exact Ext.refl _ | with_reducible refine Ext.drew ?_ | with_reducible refine Ext.drewN ?_ _ | with_reducible refine Ext.alloc ?_ _ | with_reducible refine Ext.setCell ?_ (by first | omega | (simp; done) | (simp; omega)) _)) hx20))
  replace HI := Lib.hid (HI.out.ext (Ext.trans (by repeat (first | with_reducible exact Ext.refl _ | with_reducible refine Ext.drew ?_ | with_reducible refine Ext.drewN ?_ _ | with_reducible refine Ext.alloc ?_ _ | with_reducible refine Ext.setCell ?_ (by first | omega | (simp; done) | (simp; omega)) _)) hx20))
  have X20 : Hid (Ext w w20) := Lib.hid (Ext.trans (by repeat (first | with_reducible exact X19.out | with_reducible refine Ext.drew ?_ | with_reducible refine Ext.drewN ?_ _ | with_reducible refine Ext.alloc ?_ _ | with_reducible refine Ext.setCell ?_ (by first | omega | (simp; done) | (simp; omega)) _)) hx20)
  clear X19 hx20 z20
  go_wp2_with fail
  (with_reducible refine (awake16_any _).mono ?_)
  rintro e w21 ⟨rfl, hx21⟩
  have z21 := hx21.size
  try simp at z21
  replace HS := Lib.hid (HS.out.ext (Ext.trans (by repeat (first | with_reducible exact Ext.refl _ | with_reducible refine Ext.drew ?_ | with_reducible refine Ext.drewN ?_ _ | with_reducible refine Ext.alloc ?_ _ | with_reducible refine Ext.setCell ?_ (by first | omega | (simp; done) | (simp; omega)) _)) hx21))
  replace HI := Lib.hid (HI.out.ext (Ext.trans (by repeat (first | with_reducible exact Ext.refl _ | with_reducible refine Ext.drew ?_ | with_reducible refine Ext.drewN ?_ _ | with_reducible refine Ext.alloc ?_ _ | with_reducible refine Ext.setCell ?_ (by first | omega | (simp; done) | (simp; omega)) _)) hx21))
  have X21 : Hid (Ext w w21) := Lib.hid (Ext.trans (by repeat (first | with_reducible exact X20.out | with_reducible refine Ext.drew ?_ | with_reducible refine Ext.drewN ?_ _ | with_reducible refine Ext.alloc ?_ _ | with_reducible refine Ext.setCell ?_ (by first | omega | (simp; done) | (simp; omega)) _)) hx21)
  clear X20 hx21 z21
  go_wp2_with fail
  go_ret
  exact ⟨rfl, (by repeat (first | with_reducible exact X21.out | with_reducible refine Ext.drew ?_ | with_reducible refine Ext.drewN ?_ _ | with_reducible refine Ext.alloc ?_ _ | with_reducible refine Ext.setCell ?_ (by first | omega | (simp; done) | (simp; omega)) _))⟩
theorem RosterTells_any (A : Option Addr) (c : Nat) (l : List (Int × Int × Int × Int × Bool × Bool)) (o : Int) (_ : Fits .i64 o) (m : Int) (_ : Fits .u64 m) (v : Int) (_ : Fits .i64 v) (st : Int) (_ : Fits .i64 st) (w : World) (h : Sl w 6 A l.length c (l.flatMap valC)) (hw : ∀ x ∈ l, Fits .i64 x.1 ∧ Fits .u64 x.2.1 ∧ Fits .i64 x.2.2.1 ∧ Fits .i64 x.2.2.2.1) (hnil : A = none → c = 0) :
    Calls Try.prog 4 #[.slice A l.length c, .int .i64 o, .int .u64 m, .int .i64 v, .int .i64 st] w fun r w' => r = .returned (.bool true) ∧ Ext w w' := by
  by_cases hl : l.length ≤ 40
  · exact RosterTells_main A c l (creV l o m).1 o m v st (creV l o m).2.1 (creV l o m).2.2 (chkV l).1 (chkV l).2 (fndV l o).1 (rfsV l v) (fndV l o).2 w h (fun x hx => (hw x hx).1) hl rfl rfl rfl rfl
  · exact RosterTells_long A c l.length o m v st w hl h.small
end Go.Proofs.Ytjdpgapmdmpjjaa
