/- What the law Qby rests on, part 6 of 8: Q13, StampL, RdK. Conditions stand in each lemma. -/
import Derived.WalkKit
import Derived.Deep.QuietTactic
import Derived.Deep.Draws
import Derived.Laws.OwnMore
import Derived.Laws.AppendOwn
import Derived.OwnWalk
import Derived.RangeFuncBox
import Derived.RangeFuncLeaves
import Derived.Shelf.Abstract
import Derived.OwnWalkIn
import Derived.TacticsInMore
import Derived.LoopNIn
import Derived.LoopIn
import Derived.Maps.AppendAt
import Derived.Test.YtnbeejgppooamaaGreatRows
import Derived.Lib.Hide
import Derived.Deep.Onto
import Derived.ProofKit
import Derived.ChangeOld
import Derived.OpenShut
import Derived.Deep.Slices
import Derived.BigQuiet
import Derived.IntWalk
import Derived.Lib.SliceRun
import Derived.Deep.LoopGhost
import Derived.WalkSpells
import Derived.WalkLawsBesides
import Derived.Deep.RegionHeld3
import Derived.Lib.SmallJoins
import Derived.ArgAppend
import Derived.Test.YtnbeejgppooamaaGreatShelf
import Derived.Test.YtnbeejgppooamaaGreatDivNorm
import Derived.Deep.DeepCutAuto
import Derived.Deep.CutBlock
import Derived.Shelf.Spec.BitsCarry
import Derived.Test.YtnbeejgppooamaaGreatFixRefMath
import Derived.Test.YtnbeejgppooamaaGreatFixDivideMath
import Derived.WalkMore
import Derived.Laws.StructEq
import Derived.Laws.BytesArg
import Derived.Test.YtnbeejgppooamaaGreatSlQby5
set_option linter.unusedVariables false
set_option linter.unusedSimpArgs false
namespace Go.Proofs.YtnbeejgppooamaaGreat
section
open Go.RowKit Go.ChangeShapes Go.WideShapes Go.Deep Go.Joins
/-- the bytes of numbers, one behind the other; an entry's numbers, and bytes -/
def nuB (l : List Int) : List Nat := l.flatMap fun n => putL n.toNat
def entN (x : (Int × Int × Int × Int × Int × Int × Int × Int)) : List Int := [x.1, x.2.1, x.2.2.1, x.2.2.2.1 + 1, x.2.2.2.2.1, x.2.2.2.2.2.1, x.2.2.2.2.2.2.1, x.2.2.2.2.2.2.2]
def entB (x : (Int × Int × Int × Int × Int × Int × Int × Int)) : List Nat := nuB (entN x)
/-- a queue's bytes -/
def queB (l : List (Int × Int × Int × Int × Int × Int × Int × Int)) : List Nat := if (chkQ l).1 = 0 then putL l.length ++ l.flatMap entB else []
theorem nuB_len {l : List Int} (h : ∀ x ∈ l, x < 18446744073709551616) : (nuB l).length ≤ 10 * l.length := by
  induction l with
  | nil => simp [nuB]
  | cons x l ih =>
    have h1 := putL_ten (N := x.toNat) (by have := h x (List.mem_cons_self ..); omega)
    have h2 := ih (fun y hy => h y (List.mem_cons_of_mem _ hy))
    unfold nuB at h2 ⊢
    rw [List.flatMap_cons, List.length_append, List.length_cons]
    omega
theorem ent_fit {x : (Int × Int × Int × Int × Int × Int × Int × Int)} (h : FitsQ x) : (entB x).length ≤ 80 := by
  obtain ⟨h1, h2, h3, h4, h5, h6, h7, h8⟩ := h
  have f : ∀ {z : Int}, Fits .i64 z → z ≤ 9223372036854775807 := fun {z} h => by
    unfold Fits at h
    simp [Lit.wf, IntKind.min, IntKind.max, IntKind.bits, IntKind.signed] at h
    omega
  have := f h1; have := f h2; have := f h3; have := f h4; have := f h5; have := f h6
  refine nuB_len (l := entN x) (fun y hy => ?_)
  simp [entN] at hy
  unfold Word at h7 h8
  omega
theorem flatQ_len {l : List (Int × Int × Int × Int × Int × Int × Int × Int)} (h : ∀ x ∈ l, FitsQ x) : (l.flatMap entB).length ≤ 80 * l.length := by
  induction l with
  | nil => simp
  | cons x l ih =>
    have h1 := ent_fit (h x (List.mem_cons_self ..))
    have h2 := ih (fun y hy => h y (List.mem_cons_of_mem _ hy))
    rw [List.flatMap_cons, List.length_append, List.length_cons]
    omega
theorem que_fit {l : List (Int × Int × Int × Int × Int × Int × Int × Int)} (h : ∀ x ∈ l, FitsQ x) (hl : l.length ≤ 100) (k : Nat) : (putL l.length ++ (l.take k).flatMap entB).length ≤ 8010 := by
  have h2 := flatQ_len (l := l.take k) (fun x hx => h x (List.mem_of_mem_take hx))
  have h3 : (l.take k).length ≤ 100 := by rw [List.length_take]; omega
  have h4 := putL_ten (N := l.length) (by omega)
  rw [List.length_append]
  omega
/-- a row of numbers that fits -/
theorem wnAll_fit {lim : Int} : ∀ {l : List Int} {L : List Nat}, (∀ x ∈ l, 0 ≤ x ∧ x < 18446744073709551616) → (L.length : Int) + 10 * l.length ≤ lim → wnAll lim (0, L) l = (0, L ++ nuB l)
  | [], L, _, _ => by show ((0 : Int), L) = _; simp [nuB]
  | x :: l, L, h, hf => by
    obtain ⟨h0, h1⟩ := h x (List.mem_cons_self ..)
    have h2 := putL_ten (N := x.toNat) (by omega)
    rw [List.length_cons] at hf
    obtain ⟨e1, e2⟩ := wAdd_fit (lim := lim) (L := L) (b := putL x.toNat) (by omega)
    have e : wnS lim (0, L) x = (0, L ++ putL x.toNat) := by
      unfold wnS wNE wNL
      simp only [if_pos, if_neg (show ¬ x < 0 from by omega)]
      rw [e1, e2]
    show wnAll lim (wnS lim (0, L) x) l = _
    rw [e, wnAll_fit (fun y hy => h y (List.mem_cons_of_mem _ hy)) (by rw [List.length_append]; omega)]
    unfold nuB
    rw [List.flatMap_cons, List.append_assoc]
theorem stL_in {V S P F : Int} (h : chkS V S P F = 0) : ∀ x ∈ stL V S P F, 0 ≤ x ∧ x < 18446744073709551616 := by
  have hk := chkS_ok h
  intro x hx
  have := hk.v0; have := hk.v1; have := hk.s0; have := hk.s1; have := hk.p0; have := hk.p1; have := hk.f0; have := hk.f1
  simp [stL] at hx
  omega
theorem tPut_box (g q : Nat) (lim : Int) (L : List Nat) (V S P F : Int) (hk : chkS V S P F = 0) (hf : (L.length : Int) + 40 ≤ lim) (w : World) (h : Wr w g lim 0 L) (hq : Off w g 0 q) :
    Calls Tryz.prog 22 #[.pointer (some ⟨g, 0, none⟩), .agg #[.int .i64 V, .int .i64 S, .int .i64 P, .int .i64 F]] w fun r w' => r = .returned (.int .i64 0) ∧ Wr w' g lim 0 (L ++ nuB (stL V S P F)) ∧ Off w' g 0 q ∧ But (fun k => k ≠ q ∧ g ≤ k) w w' := by
  have hc := tPut_any g lim 0 L V S P F (by decide) w h
  have e := wnAll_fit (lim := lim) (L := L) (stL_in hk) (by simp [stL]; omega)
  unfold putRE putST at hc
  rw [if_pos hk, if_pos hk, e] at hc
  refine hc.mono ?_
  rintro r w' ⟨h1, h2, h3⟩
  exact ⟨h1, h2, hq.wf h3, WF.box h hq h3⟩
theorem rPut12_fit (g : Nat) (lim : Int) (L : List Nat) (V S P F : Int) (hk : chkS V S P F = 0) (hf : (L.length : Int) + 40 ≤ lim) (w : World) (h : RWr w g lim 0 L) :
    Calls Tryz.prog 28 #[.pointer (some ⟨g, 0, none⟩), .agg #[.int .i64 V, .int .i64 S, .int .i64 P, .int .i64 F]] w fun r w' => r = .returned (.int .i64 0) ∧ RWr w' g lim 0 (L ++ nuB (stL V S P F)) ∧ But (fun k => g ≤ k) w w' := by
  have hc := rPut12_any g lim 0 L V S P F w h
  have e := wnAll_fit (lim := lim) (L := L) (stL_in hk) (by simp [stL]; omega)
  unfold putRE putST at hc
  rw [if_pos hk, if_pos hk, e] at hc
  refine hc.mono ?_
  rintro r w' ⟨h1, h2, h3⟩
  exact ⟨h1, h2, h3.but.mono fun k _ hs => (RWr.sg h hs).1⟩
theorem chkQ_one {l : List (Int × Int × Int × Int × Int × Int × Int × Int)} (h : (chkQ l).1 = 0) : ∀ x ∈ l, ∃ b, oneQ x b = 0 := by
  have hg : (chkGo 0 0 l).1 = 0 := by
    unfold chkQ at h
    by_cases h1 : 32768 < l.length
    · rw [if_pos h1] at h; cases h
    · rw [if_neg h1] at h
      by_cases h2 : (chkGo 0 0 l).1 = 0
      · exact h2
      · rw [if_pos h2] at h; exact absurd h h2
  have key : ∀ (l : List (Int × Int × Int × Int × Int × Int × Int × Int)) (a : Int) (k : Nat), (chkGo a k l).1 = 0 → ∀ x ∈ l, ∃ b, oneQ x b = 0 := by
    intro l
    induction l with
    | nil => intro a k _ x hx; cases hx
    | cons y l ih =>
      intro a k h x hx
      unfold chkGo at h
      by_cases hy : oneQ y a = 0
      · rw [if_neg (by simpa using hy)] at h
        rcases List.mem_cons.1 hx with rfl | hx
        · exact ⟨a, hy⟩
        · exact ih _ _ h x hx
      · rw [if_pos hy] at h
        exact absurd h hy
  exact key l 0 0 hg
theorem entC_tk {l : List (Int × Int × Int × Int × Int × Int × Int × Int)} {k : Nat} {x : (Int × Int × Int × Int × Int × Int × Int × Int)} (h : l[k]? = some x) : (l.take (k + 1)).flatMap entB = (l.take k).flatMap entB ++ entB x := by
  rw [entC_take h, List.flatMap_append]
  simp
set_option maxRecDepth 100000 in
set_option maxHeartbeats 2000000 in
theorem qBytes_chk (A : Option Addr) (c : Nat) (l : List (Int × Int × Int × Int × Int × Int × Int × Int)) (f1 f2 : Int) (w : World) (hs : Sl w 8 A l.length c (l.flatMap entC)) (hw : ∀ x ∈ l, FitsQ x) (hf : (f1, f2) = chkQ l) (hl : l.length ≤ 100) (hc : f1 ≠ 0) :
    Calls Tryz.prog 5 #[.slice A l.length c] w (ByErr (queB l) f1 w) := by
  have s1 := hs.small
  have e7 : (f1 != 0) = true := by simpa using hc
  have hB : queB l = [] := by unfold queB; rw [← hf]; exact if_neg hc
  rw [hB]
  have HS := Lib.hid hs.low
  have Hf := Lib.hid hf
  have HW := Lib.hid hw
  clear hs hf hw
  go_enter Tryz.func5, Tryz.ntmps5
  go_wp2_with fail
  (with_reducible refine (qcheck_any A l.length c l f1 f2 _ (HS.out.ext (by repeat (first | with_reducible exact Ext.refl _ | with_reducible refine Ext.drew ?_ | with_reducible refine Ext.drewN ?_ _ | with_reducible refine Ext.alloc ?_ _ | with_reducible refine Ext.setCell ?_ (by first | omega | (simp; done) | (simp; omega)) _))).sl HW.out Hf.out.symm).mono ?_)
  rintro e w1 ⟨rfl, hx1⟩
  have z1 := hx1.size
  try simp at z1
  replace HS := Lib.hid (HS.out.ext (Ext.trans (by repeat (first | with_reducible exact Ext.refl _ | with_reducible refine Ext.drew ?_ | with_reducible refine Ext.drewN ?_ _ | with_reducible refine Ext.alloc ?_ _ | with_reducible refine Ext.setCell ?_ (by first | omega | (simp; done) | (simp; omega)) _)) hx1))
  have X1 : Hid (Ext w w1) := Lib.hid (Ext.trans (by repeat (first | with_reducible exact Ext.refl w | with_reducible refine Ext.drew ?_ | with_reducible refine Ext.drewN ?_ _ | with_reducible refine Ext.alloc ?_ _ | with_reducible refine Ext.setCell ?_ (by first | omega | (simp; done) | (simp; omega)) _)) hx1)
  clear hx1 z1
  go_wp2_with fail
  refine bodyPost_ret (v := .tuple #[.slice none 0 0, .int .i64 f1]) (by simp [results, Tryz.results5, go_sem, World.cell?_alloc_past]; try rfl) rfl ⟨_, rfl, World.ownsRow_nil _ _ _ _, ?_⟩
  exact (by repeat (first | with_reducible exact X1.out | with_reducible refine Ext.drew ?_ | with_reducible refine Ext.drewN ?_ _ | with_reducible refine Ext.alloc ?_ _ | with_reducible refine Ext.setCell ?_ (by first | omega | (simp; done) | (simp; omega)) _))
set_option maxRecDepth 100000 in
set_option maxHeartbeats 2000000 in
theorem qBytes_ok (A : Option Addr) (c : Nat) (l : List (Int × Int × Int × Int × Int × Int × Int × Int)) (f1 f2 : Int) (w : World) (hs : Sl w 8 A l.length c (l.flatMap entC)) (hw : ∀ x ∈ l, FitsQ x) (hf : (f1, f2) = chkQ l) (hl : l.length ≤ 100) (hc : f1 = 0) :
    Calls Tryz.prog 5 #[.slice A l.length c] w (ByErr (queB l) f1 w) := by
  have s1 := hs.small
  subst hc
  have hch : (chkQ l).1 = 0 := by rw [← hf]
  have hB : queB l = putL l.length ++ l.flatMap entB := by unfold queB; exact if_pos hch
  rw [hB]
  have HC := Lib.hid (chkQ_one hch)
  have HL9 := Lib.hid hl
  clear hB hch
  have HS := Lib.hid hs.low
  have Hf := Lib.hid hf
  have HW := Lib.hid hw
  clear hs hf hw
  go_enter Tryz.func5, Tryz.ntmps5
  go_wp2_with fail
  (with_reducible refine (qcheck_any A l.length c l 0 f2 _ (HS.out.ext (by repeat (first | with_reducible exact Ext.refl _ | with_reducible refine Ext.drew ?_ | with_reducible refine Ext.drewN ?_ _ | with_reducible refine Ext.alloc ?_ _ | with_reducible refine Ext.setCell ?_ (by first | omega | (simp; done) | (simp; omega)) _))).sl HW.out Hf.out.symm).mono ?_)
  rintro e w1 ⟨rfl, hx1⟩
  have z1 := hx1.size
  try simp at z1
  replace HS := Lib.hid (HS.out.ext (Ext.trans (by repeat (first | with_reducible exact Ext.refl _ | with_reducible refine Ext.drew ?_ | with_reducible refine Ext.drewN ?_ _ | with_reducible refine Ext.alloc ?_ _ | with_reducible refine Ext.setCell ?_ (by first | omega | (simp; done) | (simp; omega)) _)) hx1))
  have X1 : Hid (Ext w w1) := Lib.hid (Ext.trans (by repeat (first | with_reducible exact Ext.refl w | with_reducible refine Ext.drew ?_ | with_reducible refine Ext.drewN ?_ _ | with_reducible refine Ext.alloc ?_ _ | with_reducible refine Ext.setCell ?_ (by first | omega | (simp; done) | (simp; omega)) _)) hx1)
  clear hx1 z1
  go_wp2_with fail
  have hx0 := Ext.size X1.out
  (with_reducible refine (cNewWriter_ex 1048576 (by decide) (by decide) _).mono ?_)
  rintro e w2 ⟨g, rfl, hg, hW, hx2⟩
  have z2 := hx2.size
  try simp at z2
  replace HS := Lib.hid (HS.out.ext (Ext.trans (by repeat (first | with_reducible exact Ext.refl _ | with_reducible refine Ext.drew ?_ | with_reducible refine Ext.drewN ?_ _ | with_reducible refine Ext.alloc ?_ _ | with_reducible refine Ext.setCell ?_ (by first | omega | (simp; done) | (simp; omega)) _)) hx2))
  have X2 : Hid (Ext w w2) := Lib.hid (Ext.trans (by repeat (first | with_reducible exact X1.out | with_reducible refine Ext.drew ?_ | with_reducible refine Ext.drewN ?_ _ | with_reducible refine Ext.alloc ?_ _ | with_reducible refine Ext.setCell ?_ (by first | omega | (simp; done) | (simp; omega)) _)) hx2)
  have HWr := Lib.hid hW
  clear X1 hx2 z2 hW
  have hgw : w.heap.size ≤ g := by have := Ext.size X2.out; (try simp at hg); have := hx0; omega
  clear hg
  go_wp2_with fail
  (with_reducible refine (cWN_fit g 1048576 [] (l.length : Int) (by omega) (by omega) (by simp) _ (HWr.out.ext (by repeat (first | with_reducible exact Ext.refl _ | with_reducible refine Ext.drew ?_ | with_reducible refine Ext.drewN ?_ _ | with_reducible refine Ext.alloc ?_ _ | with_reducible refine Ext.setCell ?_ (by first | omega | (simp; done) | (simp; omega)) _)))).mono ?_)
  rintro e w3 ⟨rfl, hW, hx3⟩
  have hsz3 := hx3.size
  try simp at hsz3
  have z3 := hx3.size
  try simp at z3
  have X3 : Hid (Ext w w3) := Lib.hid (have hX := (show Ext w _ from (by repeat (first | with_reducible exact X2.out | with_reducible refine Ext.drew ?_ | with_reducible refine Ext.drewN ?_ _ | with_reducible refine Ext.alloc ?_ _ | with_reducible refine Ext.setCell ?_ (by first | omega | (simp; done) | (simp; omega)) _))); Below.trans hX (hx3.below (Ext.size hX) (fun k hk hh => by have h2 : g ≤ k := hh; omega)))
  replace HS := Lib.hid ((HS.out.ext (by repeat (first | with_reducible exact Ext.refl _ | with_reducible refine Ext.drew ?_ | with_reducible refine Ext.drewN ?_ _ | with_reducible refine Ext.alloc ?_ _ | with_reducible refine Ext.setCell ?_ (by first | omega | (simp; done) | (simp; omega)) _))).but hx3 (fun k hk => by have h2 : g ≤ k := hk; omega))
  clear HWr
  have HWr := Lib.hid (show Wr _ g 1048576 0 (putL l.length) from by simpa using hW)
  clear hsz3 X2 hx3 z3
  have HW0 : Hid (Wr _ g 1048576 0 (putL l.length ++ (l.take 0).flatMap entB)) := Lib.hid (by simpa using HWr.out)
  go_wp2_with fail
  go_loopg [28] l.length (fun gh i wx => gh ≤ l.length ∧ i = .int .i64 ((l.length - gh : Nat) : Int) ∧ Hid (Wr wx g 1048576 0 (putL l.length ++ (l.take (l.length - gh)).flatMap entB)) ∧ Hid (SlB w.heap.size wx 8 A l.length c (l.flatMap entC)) ∧ Ext w wx)
  case atStart => exact ⟨Nat.le_refl _, by simp, by rw [Nat.sub_self]; exact HW0, HS, X3.out⟩
  case round =>
    obtain ⟨hg, hi, hw, hs, hx⟩ := hrel
    obtain ⟨k, hk⟩ : ∃ k, k = l.length - gk := ⟨_, rfl⟩
    rw [← hk] at hi hw
    subst hi
    have XR := Lib.hid hx
    have HWk := hw
    have HSk := hs
    by_cases hz : gk = 0
    · have hkn : ¬ (k : Int) < l.length := by omega
      have hkl : k = l.length := by omega
      have HWE : Hid (Wr wr g 1048576 0 (putL l.length ++ l.flatMap entB)) := Lib.hid (by have h := hw.out; rw [hkl, List.take_length] at h; exact h)
      clear hx hk hg hz hw hs hkl HWk HSk
      go_wp2_with fail
      have hrm := Ext.size XR.out
      (with_reducible refine ((show _ from cDone_ok g 1048576 _ _ (HWE.out.ext (by repeat (first | with_reducible exact Ext.refl _ | with_reducible refine Ext.drew ?_ | with_reducible refine Ext.drewN ?_ _ | with_reducible refine Ext.alloc ?_ _ | with_reducible refine Ext.setCell ?_ (by first | omega | (simp; done) | (simp; omega)) _))))).mono ?_)
      rintro e w41 ⟨v, rfl, hV, hx41⟩
      have z41 := hx41.size
      try simp at z41
      replace HWE := Lib.hid (HWE.out.ext (Ext.trans (by repeat (first | with_reducible exact Ext.refl _ | with_reducible refine Ext.drew ?_ | with_reducible refine Ext.drewN ?_ _ | with_reducible refine Ext.alloc ?_ _ | with_reducible refine Ext.setCell ?_ (by first | omega | (simp; done) | (simp; omega)) _)) hx41))
      have X41 : Hid (Ext w w41) := Lib.hid (Ext.trans (by repeat (first | with_reducible exact XR.out | with_reducible refine Ext.drew ?_ | with_reducible refine Ext.drewN ?_ _ | with_reducible refine Ext.alloc ?_ _ | with_reducible refine Ext.setCell ?_ (by first | omega | (simp; done) | (simp; omega)) _)) hx41)
      have HV := Lib.hid hV
      clear XR hx41 z41 hV
      go_wp2_with fail
      refine bodyPost_ret (v := .tuple #[v, .int .i64 0]) (by simp [results, Tryz.results5]; try rfl) rfl ⟨v, rfl, own_lower HV.out ?_, (by repeat (first | with_reducible exact X41.out | with_reducible refine Ext.drew ?_ | with_reducible refine Ext.drewN ?_ _ | with_reducible refine Ext.alloc ?_ _ | with_reducible refine Ext.setCell ?_ (by first | omega | (simp; done) | (simp; omega)) _))⟩
      have h := hrm
      (try simp at h)
      omega
    · have hkn : (k : Int) < l.length := by omega
      have hk1 : k < l.length := by omega
      obtain ⟨b1, o1, rfl, hb1, hc1⟩ := hs.out.sl.rec_ entC_len (show 0 < l.length from by omega)
      have hb1w := hs.out.2 (by omega) b1 o1 none rfl
      have x_0 := hc1 k _ (List.getElem?_eq_getElem hk1) 0 _ rfl
      have x_1 := hc1 k _ (List.getElem?_eq_getElem hk1) 1 _ rfl
      have x_2 := hc1 k _ (List.getElem?_eq_getElem hk1) 2 _ rfl
      have x_3 := hc1 k _ (List.getElem?_eq_getElem hk1) 3 _ rfl
      have x_4 := hc1 k _ (List.getElem?_eq_getElem hk1) 4 _ rfl
      have x_5 := hc1 k _ (List.getElem?_eq_getElem hk1) 5 _ rfl
      have x_6 := hc1 k _ (List.getElem?_eq_getElem hk1) 6 _ rfl
      have x_7 := hc1 k _ (List.getElem?_eq_getElem hk1) 7 _ rfl
      obtain ⟨x, hxx⟩ : ∃ x, x = l[k] := ⟨_, rfl⟩
      have hlk : l[k]? = some x := by rw [hxx]; exact List.getElem?_eq_getElem hk1
      rw [← hxx] at x_0 x_1 x_2 x_3 x_4 x_5 x_6 x_7
      obtain ⟨b9, hb9⟩ := HC.out x (List.mem_of_getElem? hlk)
      obtain ⟨r1, r2, r3, r4, r5, r6, _⟩ := oneG_cases hb9
      have hu := HW.out x (List.mem_of_getElem? hlk)
      have hM := que_fit HW.out HL9.out k
      have ht := entC_tk hlk
      obtain ⟨M0, hM0⟩ : ∃ M0, M0 = putL l.length ++ (l.take k).flatMap entB := ⟨_, rfl⟩
      rw [← hM0] at hM HWk
      have hnext : putL l.length ++ (l.take (k + 1)).flatMap entB = M0 ++ entB x := by rw [ht, ← List.append_assoc, ← hM0]
      obtain ⟨xo, xv, xs, xp, xf, xc, xi, xb⟩ := x
      have u1 := hu.2.2.2.2.2.2.1
      have u2 := hu.2.2.2.2.2.2.2
      change 0 ≤ xi ∧ xi < 18446744073709551616 at u1
      change 0 ≤ xb ∧ xb < 18446744073709551616 at u2
      change 0 ≤ xo at r1
      change xo < 64 at r2
      change chkS xv xs xp xf = 0 at r3
      change 1 ≤ xc at r4
      change xc ≤ 4294967296 at r5
      simp only at x_0 x_1 x_2 x_3 x_4 x_5 x_6 x_7
      rw [Nat.add_zero] at x_0
      rw [← Nat.add_assoc] at x_1 x_2 x_3 x_4 x_5 x_6 x_7
      have c0 := putL_ten (N := xo.toNat) (by omega)
      have c1' := nuB_len (l := stL xv xs xp xf) (fun y hy => (stL_in r3 y hy).2)
      have c2' := putL_ten (N := xc.toNat) (by omega)
      have c3' := putL_ten (N := xi.toNat) (by omega)
      have c4' := putL_ten (N := xb.toNat) (by omega)
      have c5' : (stL xv xs xp xf).length = 4 := rfl
      have HQ0 := Lib.hid (And.intro r1 (And.intro r2 (And.intro r4 (And.intro r5 (And.intro u1 (And.intro u2 (And.intro hM (And.intro c0 (And.intro c1' (And.intro c2' (And.intro c3' (And.intro c4' c5'))))))))))))
      have HR3 := Lib.hid r3
      have HNX := Lib.hid hnext
      have HK := Lib.hid (And.intro hk (And.intro hg hz))
      clear hx hk hg hz hc1 hxx hlk hu hM ht hnext c0 c1' c2' c3' c4' c5' hw hs hM0 r1 r2 r3 r4 r5 r6 u1 u2 hb9
      go_wp2_with fail
      (with_reducible refine (cWN_box g wr.heap.size 1048576 M0 xo (by have := HQ0.out; omega) (by have := HQ0.out; omega) (by have := HQ0.out; (try simp only [List.length_append]); omega) _ (HWk.out.ext (by repeat (first | with_reducible exact Ext.refl _ | with_reducible refine Ext.drew ?_ | with_reducible refine Ext.drewN ?_ _ | with_reducible refine Ext.alloc ?_ _ | with_reducible refine Ext.setCell ?_ (by first | omega | (simp; done) | (simp; omega)) _))) (Off.new HWk.out (Nat.le_refl _) (by repeat (first | with_reducible exact Ext.refl _ | with_reducible refine Ext.drew ?_ | with_reducible refine Ext.drewN ?_ _ | with_reducible refine Ext.alloc ?_ _ | with_reducible refine Ext.setCell ?_ (by first | omega | (simp; done) | (simp; omega)) _)) (by simp))).mono ?_)
      rintro e w51 ⟨rfl, hW, hQ, hx51⟩
      have hsz51 := hx51.size
      try simp at hsz51
      have c0_1 : w51.cell? ⟨wr.heap.size, 1, none⟩ = some (.int .i64 xv) := hx51.has (fun hh => hh.1 rfl) (by first | fail | (simp [go_sem, World.cell?_alloc_past, x_0, x_1, x_2, x_3, x_4, x_5, x_6, x_7]; done))
      have c0_2 : w51.cell? ⟨wr.heap.size, 2, none⟩ = some (.int .i64 xs) := hx51.has (fun hh => hh.1 rfl) (by first | fail | (simp [go_sem, World.cell?_alloc_past, x_0, x_1, x_2, x_3, x_4, x_5, x_6, x_7]; done))
      have c0_3 : w51.cell? ⟨wr.heap.size, 3, none⟩ = some (.int .i64 xp) := hx51.has (fun hh => hh.1 rfl) (by first | fail | (simp [go_sem, World.cell?_alloc_past, x_0, x_1, x_2, x_3, x_4, x_5, x_6, x_7]; done))
      have c0_4 : w51.cell? ⟨wr.heap.size, 4, none⟩ = some (.int .i64 xf) := hx51.has (fun hh => hh.1 rfl) (by first | fail | (simp [go_sem, World.cell?_alloc_past, x_0, x_1, x_2, x_3, x_4, x_5, x_6, x_7]; done))
      have c0_5 : w51.cell? ⟨wr.heap.size, 5, none⟩ = some (.int .i64 xc) := hx51.has (fun hh => hh.1 rfl) (by first | fail | (simp [go_sem, World.cell?_alloc_past, x_0, x_1, x_2, x_3, x_4, x_5, x_6, x_7]; done))
      have c0_6 : w51.cell? ⟨wr.heap.size, 6, none⟩ = some (.int .u64 xi) := hx51.has (fun hh => hh.1 rfl) (by first | fail | (simp [go_sem, World.cell?_alloc_past, x_0, x_1, x_2, x_3, x_4, x_5, x_6, x_7]; done))
      have c0_7 : w51.cell? ⟨wr.heap.size, 7, none⟩ = some (.int .u64 xb) := hx51.has (fun hh => hh.1 rfl) (by first | fail | (simp [go_sem, World.cell?_alloc_past, x_0, x_1, x_2, x_3, x_4, x_5, x_6, x_7]; done))
      have z51 := hx51.size
      try simp at z51
      have rc0 : wr.heap.size < w51.heap.size := by omega
      have rc0a : wr.heap.size < w51.heap.size + 1 := by omega
      have rc0b : wr.heap.size < w51.heap.size + 1 + 1 := by omega
      have rc0c : wr.heap.size < w51.heap.size + 1 + 1 + 1 := by omega
      have rc0n : ¬ wr.heap.size = w51.heap.size := by omega
      have X51 : Hid (Ext w w51) := Lib.hid (have hX := (show Ext w _ from (by repeat (first | with_reducible exact XR.out | with_reducible refine Ext.drew ?_ | with_reducible refine Ext.drewN ?_ _ | with_reducible refine Ext.alloc ?_ _ | with_reducible refine Ext.setCell ?_ (by first | omega | (simp; done) | (simp; omega)) _))); Below.trans hX (hx51.below (Ext.size hX) (fun k hk hh => by have h2 : g ≤ k := hh.2; omega)))
      replace HSk := Lib.hid ((HSk.out.ext (by repeat (first | with_reducible exact Ext.refl _ | with_reducible refine Ext.drew ?_ | with_reducible refine Ext.drewN ?_ _ | with_reducible refine Ext.alloc ?_ _ | with_reducible refine Ext.setCell ?_ (by first | omega | (simp; done) | (simp; omega)) _))).but hx51 (fun k hk => by have h2 : g ≤ k := hk.2; omega))
      clear HWk
      have HWk := Lib.hid hW
      have HQ := Lib.hid hQ
      clear x_3 x_1 x_4 x_0 x_6 x_5 x_7 x_2 hsz51 XR hx51 z51 hW hQ
      go_wp2_with fail
      (with_reducible refine (tPut_box g wr.heap.size 1048576 (M0 ++ putL xo.toNat) xv xs xp xf HR3.out (by have := HQ0.out; (try simp only [List.length_append]); omega) _ (HWk.out.ext (by repeat (first | with_reducible exact Ext.refl _ | with_reducible refine Ext.drew ?_ | with_reducible refine Ext.drewN ?_ _ | with_reducible refine Ext.alloc ?_ _ | with_reducible refine Ext.setCell ?_ (by first | omega | (simp; done) | (simp; omega)) _))) (HQ.out.ext (by repeat (first | with_reducible exact Ext.refl _ | with_reducible refine Ext.drew ?_ | with_reducible refine Ext.drewN ?_ _ | with_reducible refine Ext.alloc ?_ _ | with_reducible refine Ext.setCell ?_ (by first | omega | (simp; done) | (simp; omega)) _)))).mono ?_)
      rintro e w52 ⟨rfl, hW, hQ, hx52⟩
      have hsz52 := hx52.size
      try simp at hsz52
      replace c0_5 : w52.cell? ⟨wr.heap.size, 5, none⟩ = some (.int .i64 xc) := hx52.has (fun hh => hh.1 rfl) (by first | exact c0_5 | (simp [go_sem, World.cell?_alloc_past, c0_1, c0_2, c0_3, c0_4, c0_5, c0_6, c0_7, rc0, rc0a, rc0b, rc0c, rc0n]; done))
      replace c0_6 : w52.cell? ⟨wr.heap.size, 6, none⟩ = some (.int .u64 xi) := hx52.has (fun hh => hh.1 rfl) (by first | exact c0_6 | (simp [go_sem, World.cell?_alloc_past, c0_1, c0_2, c0_3, c0_4, c0_5, c0_6, c0_7, rc0, rc0a, rc0b, rc0c, rc0n]; done))
      replace c0_7 : w52.cell? ⟨wr.heap.size, 7, none⟩ = some (.int .u64 xb) := hx52.has (fun hh => hh.1 rfl) (by first | exact c0_7 | (simp [go_sem, World.cell?_alloc_past, c0_1, c0_2, c0_3, c0_4, c0_5, c0_6, c0_7, rc0, rc0a, rc0b, rc0c, rc0n]; done))
      have z52 := hx52.size
      try simp at z52
      replace rc0 : wr.heap.size < w52.heap.size := by omega
      replace rc0a : wr.heap.size < w52.heap.size + 1 := by omega
      replace rc0b : wr.heap.size < w52.heap.size + 1 + 1 := by omega
      replace rc0c : wr.heap.size < w52.heap.size + 1 + 1 + 1 := by omega
      replace rc0n : ¬ wr.heap.size = w52.heap.size := by omega
      have X52 : Hid (Ext w w52) := Lib.hid (have hX := (show Ext w _ from (by repeat (first | with_reducible exact X51.out | with_reducible refine Ext.drew ?_ | with_reducible refine Ext.drewN ?_ _ | with_reducible refine Ext.alloc ?_ _ | with_reducible refine Ext.setCell ?_ (by first | omega | (simp; done) | (simp; omega)) _))); Below.trans hX (hx52.below (Ext.size hX) (fun k hk hh => by have h2 : g ≤ k := hh.2; omega)))
      replace HSk := Lib.hid ((HSk.out.ext (by repeat (first | with_reducible exact Ext.refl _ | with_reducible refine Ext.drew ?_ | with_reducible refine Ext.drewN ?_ _ | with_reducible refine Ext.alloc ?_ _ | with_reducible refine Ext.setCell ?_ (by first | omega | (simp; done) | (simp; omega)) _))).but hx52 (fun k hk => by have h2 : g ≤ k := hk.2; omega))
      clear HWk HQ
      have HWk := Lib.hid hW
      have HQ := Lib.hid hQ
      clear c0_4 c0_3 c0_2 c0_1 hsz52 X51 hx52 z52 hW hQ
      go_wp2_with fail
      (with_reducible refine (cWN_box g wr.heap.size 1048576 ((M0 ++ putL xo.toNat) ++ nuB (stL xv xs xp xf)) xc (by have := HQ0.out; omega) (by have := HQ0.out; omega) (by have := HQ0.out; (try simp only [List.length_append]); omega) _ (HWk.out.ext (by repeat (first | with_reducible exact Ext.refl _ | with_reducible refine Ext.drew ?_ | with_reducible refine Ext.drewN ?_ _ | with_reducible refine Ext.alloc ?_ _ | with_reducible refine Ext.setCell ?_ (by first | omega | (simp; done) | (simp; omega)) _))) (HQ.out.ext (by repeat (first | with_reducible exact Ext.refl _ | with_reducible refine Ext.drew ?_ | with_reducible refine Ext.drewN ?_ _ | with_reducible refine Ext.alloc ?_ _ | with_reducible refine Ext.setCell ?_ (by first | omega | (simp; done) | (simp; omega)) _)))).mono ?_)
      rintro e w53 ⟨rfl, hW, hQ, hx53⟩
      have hsz53 := hx53.size
      try simp at hsz53
      replace c0_6 : w53.cell? ⟨wr.heap.size, 6, none⟩ = some (.int .u64 xi) := hx53.has (fun hh => hh.1 rfl) (by first | exact c0_6 | (simp [go_sem, World.cell?_alloc_past, c0_5, c0_6, c0_7, rc0, rc0a, rc0b, rc0c, rc0n]; done))
      replace c0_7 : w53.cell? ⟨wr.heap.size, 7, none⟩ = some (.int .u64 xb) := hx53.has (fun hh => hh.1 rfl) (by first | exact c0_7 | (simp [go_sem, World.cell?_alloc_past, c0_5, c0_6, c0_7, rc0, rc0a, rc0b, rc0c, rc0n]; done))
      have z53 := hx53.size
      try simp at z53
      replace rc0 : wr.heap.size < w53.heap.size := by omega
      replace rc0a : wr.heap.size < w53.heap.size + 1 := by omega
      replace rc0b : wr.heap.size < w53.heap.size + 1 + 1 := by omega
      replace rc0c : wr.heap.size < w53.heap.size + 1 + 1 + 1 := by omega
      replace rc0n : ¬ wr.heap.size = w53.heap.size := by omega
      have X53 : Hid (Ext w w53) := Lib.hid (have hX := (show Ext w _ from (by repeat (first | with_reducible exact X52.out | with_reducible refine Ext.drew ?_ | with_reducible refine Ext.drewN ?_ _ | with_reducible refine Ext.alloc ?_ _ | with_reducible refine Ext.setCell ?_ (by first | omega | (simp; done) | (simp; omega)) _))); Below.trans hX (hx53.below (Ext.size hX) (fun k hk hh => by have h2 : g ≤ k := hh.2; omega)))
      replace HSk := Lib.hid ((HSk.out.ext (by repeat (first | with_reducible exact Ext.refl _ | with_reducible refine Ext.drew ?_ | with_reducible refine Ext.drewN ?_ _ | with_reducible refine Ext.alloc ?_ _ | with_reducible refine Ext.setCell ?_ (by first | omega | (simp; done) | (simp; omega)) _))).but hx53 (fun k hk => by have h2 : g ≤ k := hk.2; omega))
      clear HWk HQ
      have HWk := Lib.hid hW
      have HQ := Lib.hid hQ
      clear c0_5 hsz53 X52 hx53 z53 hW hQ
      go_wp2_with fail
      (with_reducible refine (cWU_box g wr.heap.size 1048576 (((M0 ++ putL xo.toNat) ++ nuB (stL xv xs xp xf)) ++ putL xc.toNat) xi (by have := HQ0.out; omega) (by have := HQ0.out; omega) (by have := HQ0.out; (try simp only [List.length_append]); omega) _ (HWk.out.ext (by repeat (first | with_reducible exact Ext.refl _ | with_reducible refine Ext.drew ?_ | with_reducible refine Ext.drewN ?_ _ | with_reducible refine Ext.alloc ?_ _ | with_reducible refine Ext.setCell ?_ (by first | omega | (simp; done) | (simp; omega)) _))) (HQ.out.ext (by repeat (first | with_reducible exact Ext.refl _ | with_reducible refine Ext.drew ?_ | with_reducible refine Ext.drewN ?_ _ | with_reducible refine Ext.alloc ?_ _ | with_reducible refine Ext.setCell ?_ (by first | omega | (simp; done) | (simp; omega)) _)))).mono ?_)
      rintro e w54 ⟨rfl, hW, hQ, hx54⟩
      have hsz54 := hx54.size
      try simp at hsz54
      replace c0_7 : w54.cell? ⟨wr.heap.size, 7, none⟩ = some (.int .u64 xb) := hx54.has (fun hh => hh.1 rfl) (by first | exact c0_7 | (simp [go_sem, World.cell?_alloc_past, c0_6, c0_7, rc0, rc0a, rc0b, rc0c, rc0n]; done))
      have z54 := hx54.size
      try simp at z54
      replace rc0 : wr.heap.size < w54.heap.size := by omega
      replace rc0a : wr.heap.size < w54.heap.size + 1 := by omega
      replace rc0b : wr.heap.size < w54.heap.size + 1 + 1 := by omega
      replace rc0c : wr.heap.size < w54.heap.size + 1 + 1 + 1 := by omega
      replace rc0n : ¬ wr.heap.size = w54.heap.size := by omega
      have X54 : Hid (Ext w w54) := Lib.hid (have hX := (show Ext w _ from (by repeat (first | with_reducible exact X53.out | with_reducible refine Ext.drew ?_ | with_reducible refine Ext.drewN ?_ _ | with_reducible refine Ext.alloc ?_ _ | with_reducible refine Ext.setCell ?_ (by first | omega | (simp; done) | (simp; omega)) _))); Below.trans hX (hx54.below (Ext.size hX) (fun k hk hh => by have h2 : g ≤ k := hh.2; omega)))
      replace HSk := Lib.hid ((HSk.out.ext (by repeat (first | with_reducible exact Ext.refl _ | with_reducible refine Ext.drew ?_ | with_reducible refine Ext.drewN ?_ _ | with_reducible refine Ext.alloc ?_ _ | with_reducible refine Ext.setCell ?_ (by first | omega | (simp; done) | (simp; omega)) _))).but hx54 (fun k hk => by have h2 : g ≤ k := hk.2; omega))
      clear HWk HQ
      have HWk := Lib.hid hW
      have HQ := Lib.hid hQ
      clear c0_6 hsz54 X53 hx54 z54 hW hQ
      go_wp2_with fail
      (with_reducible refine (cWU_box g wr.heap.size 1048576 ((((M0 ++ putL xo.toNat) ++ nuB (stL xv xs xp xf)) ++ putL xc.toNat) ++ putL xi.toNat) xb (by have := HQ0.out; omega) (by have := HQ0.out; omega) (by have := HQ0.out; (try simp only [List.length_append]); omega) _ (HWk.out.ext (by repeat (first | with_reducible exact Ext.refl _ | with_reducible refine Ext.drew ?_ | with_reducible refine Ext.drewN ?_ _ | with_reducible refine Ext.alloc ?_ _ | with_reducible refine Ext.setCell ?_ (by first | omega | (simp; done) | (simp; omega)) _))) (HQ.out.ext (by repeat (first | with_reducible exact Ext.refl _ | with_reducible refine Ext.drew ?_ | with_reducible refine Ext.drewN ?_ _ | with_reducible refine Ext.alloc ?_ _ | with_reducible refine Ext.setCell ?_ (by first | omega | (simp; done) | (simp; omega)) _)))).mono ?_)
      rintro e w55 ⟨rfl, hW, hQ, hx55⟩
      have hsz55 := hx55.size
      try simp at hsz55
      have z55 := hx55.size
      try simp at z55
      have X55 : Hid (Ext w w55) := Lib.hid (have hX := (show Ext w _ from (by repeat (first | with_reducible exact X54.out | with_reducible refine Ext.drew ?_ | with_reducible refine Ext.drewN ?_ _ | with_reducible refine Ext.alloc ?_ _ | with_reducible refine Ext.setCell ?_ (by first | omega | (simp; done) | (simp; omega)) _))); Below.trans hX (hx55.below (Ext.size hX) (fun k hk hh => by have h2 : g ≤ k := hh.2; omega)))
      replace HSk := Lib.hid ((HSk.out.ext (by repeat (first | with_reducible exact Ext.refl _ | with_reducible refine Ext.drew ?_ | with_reducible refine Ext.drewN ?_ _ | with_reducible refine Ext.alloc ?_ _ | with_reducible refine Ext.setCell ?_ (by first | omega | (simp; done) | (simp; omega)) _))).but hx55 (fun k hk => by have h2 : g ≤ k := hk.2; omega))
      clear HWk HQ
      have HWk := Lib.hid hW
      have HQ := Lib.hid hQ
      clear c0_7 rc0 rc0a rc0b rc0c rc0n hsz55 X54 hx55 z55 hW hQ
      go_wp2_with fail
      go_roundg (gk - 1)
      case measure => have := HK.out; omega
      case rel =>
        refine ⟨by have := HK.out; omega, num_eq (by have := HK.out; omega), Lib.hid ?_, Lib.hid (HSk.out.ext (by repeat (first | with_reducible exact Ext.refl _ | with_reducible refine Ext.drew ?_ | with_reducible refine Ext.drewN ?_ _ | with_reducible refine Ext.alloc ?_ _ | with_reducible refine Ext.setCell ?_ (by first | omega | (simp; done) | (simp; omega)) _))), (by repeat (first | with_reducible exact X55.out | with_reducible refine Ext.drew ?_ | with_reducible refine Ext.drewN ?_ _ | with_reducible refine Ext.alloc ?_ _ | with_reducible refine Ext.setCell ?_ (by first | omega | (simp; done) | (simp; omega)) _))⟩
        rw [show l.length - (gk - 1) = k + 1 from by have := HK.out; omega, HNX.out]
        have h := (HWk.out.ext (by repeat (first | with_reducible exact Ext.refl _ | with_reducible refine Ext.drew ?_ | with_reducible refine Ext.drewN ?_ _ | with_reducible refine Ext.alloc ?_ _ | with_reducible refine Ext.setCell ?_ (by first | omega | (simp; done) | (simp; omega)) _)))
        simpa [entB, entN, nuB, stL, List.append_assoc] using h
theorem qBytes_any (A : Option Addr) (c : Nat) (l : List (Int × Int × Int × Int × Int × Int × Int × Int)) (w : World) (hs : Sl w 8 A l.length c (l.flatMap entC)) (hw : ∀ x ∈ l, FitsQ x) (hl : l.length ≤ 100) : Calls Tryz.prog 5 #[.slice A l.length c] w (ByErr (queB l) (chkQ l).1 w) := by
  by_cases hc : (chkQ l).1 = 0
  · exact qBytes_ok A c l _ _ w hs hw rfl hl hc
  · exact qBytes_chk A c l _ _ w hs hw rfl hl hc
set_option maxRecDepth 100000 in
set_option maxHeartbeats 2000000 in
theorem r14Bytes_chk (A : Option Addr) (c : Nat) (l : List (Int × Int × Int × Int × Int × Int × Int × Int)) (f1 f2 : Int) (w : World) (hs : Sl w 8 A l.length c (l.flatMap entC)) (hw : ∀ x ∈ l, FitsQ x) (hf : (f1, f2) = chkQ l) (hl : l.length ≤ 100) (hc : f1 ≠ 0) :
    Calls Tryz.prog 6 #[.slice A l.length c] w (ByErr (queB l) f1 w) := by
  have s1 := hs.small
  have e7 : (f1 != 0) = true := by simpa using hc
  have hB : queB l = [] := by unfold queB; rw [← hf]; exact if_neg hc
  rw [hB]
  have HS := Lib.hid hs.low
  have Hf := Lib.hid hf
  have HW := Lib.hid hw
  clear hs hf hw
  go_enter Tryz.func6, Tryz.ntmps6
  go_wp2_with fail
  (with_reducible refine (rcheck14_any A l.length c l f1 f2 _ (HS.out.ext (by repeat (first | with_reducible exact Ext.refl _ | with_reducible refine Ext.drew ?_ | with_reducible refine Ext.drewN ?_ _ | with_reducible refine Ext.alloc ?_ _ | with_reducible refine Ext.setCell ?_ (by first | omega | (simp; done) | (simp; omega)) _))).sl HW.out Hf.out.symm).mono ?_)
  rintro e w1 ⟨rfl, hx1⟩
  have z1 := hx1.size
  try simp at z1
  replace HS := Lib.hid (HS.out.ext (Ext.trans (by repeat (first | with_reducible exact Ext.refl _ | with_reducible refine Ext.drew ?_ | with_reducible refine Ext.drewN ?_ _ | with_reducible refine Ext.alloc ?_ _ | with_reducible refine Ext.setCell ?_ (by first | omega | (simp; done) | (simp; omega)) _)) hx1))
  have X1 : Hid (Ext w w1) := Lib.hid (Ext.trans (by repeat (first | with_reducible exact Ext.refl w | with_reducible refine Ext.drew ?_ | with_reducible refine Ext.drewN ?_ _ | with_reducible refine Ext.alloc ?_ _ | with_reducible refine Ext.setCell ?_ (by first | omega | (simp; done) | (simp; omega)) _)) hx1)
  clear hx1 z1
  go_wp2_with fail
  refine bodyPost_ret (v := .tuple #[.slice none 0 0, .int .i64 f1]) (by simp [results, Tryz.results6, go_sem, World.cell?_alloc_past]; try rfl) rfl ⟨_, rfl, World.ownsRow_nil _ _ _ _, ?_⟩
  exact (by repeat (first | with_reducible exact X1.out | with_reducible refine Ext.drew ?_ | with_reducible refine Ext.drewN ?_ _ | with_reducible refine Ext.alloc ?_ _ | with_reducible refine Ext.setCell ?_ (by first | omega | (simp; done) | (simp; omega)) _))
set_option maxRecDepth 100000 in
set_option maxHeartbeats 2000000 in
theorem r14Bytes_ok (A : Option Addr) (c : Nat) (l : List (Int × Int × Int × Int × Int × Int × Int × Int)) (f1 f2 : Int) (w : World) (hs : Sl w 8 A l.length c (l.flatMap entC)) (hw : ∀ x ∈ l, FitsQ x) (hf : (f1, f2) = chkQ l) (hl : l.length ≤ 100) (hc : f1 = 0) :
    Calls Tryz.prog 6 #[.slice A l.length c] w (ByErr (queB l) f1 w) := by
  have s1 := hs.small
  subst hc
  have hch : (chkQ l).1 = 0 := by rw [← hf]
  have hB : queB l = putL l.length ++ l.flatMap entB := by unfold queB; exact if_pos hch
  rw [hB]
  have HC := Lib.hid (chkQ_one hch)
  have HL9 := Lib.hid hl
  clear hB hch
  have HS := Lib.hid hs.low
  have Hf := Lib.hid hf
  have HW := Lib.hid hw
  clear hs hf hw
  go_enter Tryz.func6, Tryz.ntmps6
  go_wp2_with fail
  (with_reducible refine (rcheck14_any A l.length c l 0 f2 _ (HS.out.ext (by repeat (first | with_reducible exact Ext.refl _ | with_reducible refine Ext.drew ?_ | with_reducible refine Ext.drewN ?_ _ | with_reducible refine Ext.alloc ?_ _ | with_reducible refine Ext.setCell ?_ (by first | omega | (simp; done) | (simp; omega)) _))).sl HW.out Hf.out.symm).mono ?_)
  rintro e w1 ⟨rfl, hx1⟩
  have z1 := hx1.size
  try simp at z1
  replace HS := Lib.hid (HS.out.ext (Ext.trans (by repeat (first | with_reducible exact Ext.refl _ | with_reducible refine Ext.drew ?_ | with_reducible refine Ext.drewN ?_ _ | with_reducible refine Ext.alloc ?_ _ | with_reducible refine Ext.setCell ?_ (by first | omega | (simp; done) | (simp; omega)) _)) hx1))
  have X1 : Hid (Ext w w1) := Lib.hid (Ext.trans (by repeat (first | with_reducible exact Ext.refl w | with_reducible refine Ext.drew ?_ | with_reducible refine Ext.drewN ?_ _ | with_reducible refine Ext.alloc ?_ _ | with_reducible refine Ext.setCell ?_ (by first | omega | (simp; done) | (simp; omega)) _)) hx1)
  clear hx1 z1
  go_wp2_with fail
  have hx0 := Ext.size X1.out
  (with_reducible refine (rNewWriter_ex 1048576 (by decide) (by decide) _).mono ?_)
  rintro e w2 ⟨g, rfl, hg, hW, hx2⟩
  have z2 := hx2.size
  try simp at z2
  replace HS := Lib.hid (HS.out.ext (Ext.trans (by repeat (first | with_reducible exact Ext.refl _ | with_reducible refine Ext.drew ?_ | with_reducible refine Ext.drewN ?_ _ | with_reducible refine Ext.alloc ?_ _ | with_reducible refine Ext.setCell ?_ (by first | omega | (simp; done) | (simp; omega)) _)) hx2))
  have X2 : Hid (Ext w w2) := Lib.hid (Ext.trans (by repeat (first | with_reducible exact X1.out | with_reducible refine Ext.drew ?_ | with_reducible refine Ext.drewN ?_ _ | with_reducible refine Ext.alloc ?_ _ | with_reducible refine Ext.setCell ?_ (by first | omega | (simp; done) | (simp; omega)) _)) hx2)
  have HWr := Lib.hid hW
  clear X1 hx2 z2 hW
  have hgw : w.heap.size ≤ g := by have := Ext.size X2.out; (try simp at hg); have := hx0; omega
  clear hg
  go_wp2_with fail
  (with_reducible refine (rWN_fit g 1048576 [] (l.length : Int) (by omega) (by omega) (by simp) _ (HWr.out.ext (by repeat (first | with_reducible exact Ext.refl _ | with_reducible refine Ext.drew ?_ | with_reducible refine Ext.drewN ?_ _ | with_reducible refine Ext.alloc ?_ _ | with_reducible refine Ext.setCell ?_ (by first | omega | (simp; done) | (simp; omega)) _)))).mono ?_)
  rintro e w3 ⟨rfl, hW, hx3⟩
  have hsz3 := hx3.size
  try simp at hsz3
  have z3 := hx3.size
  try simp at z3
  have X3 : Hid (Ext w w3) := Lib.hid (have hX := (show Ext w _ from (by repeat (first | with_reducible exact X2.out | with_reducible refine Ext.drew ?_ | with_reducible refine Ext.drewN ?_ _ | with_reducible refine Ext.alloc ?_ _ | with_reducible refine Ext.setCell ?_ (by first | omega | (simp; done) | (simp; omega)) _))); Below.trans hX (hx3.below (Ext.size hX) (fun k hk hh => by have h2 : g ≤ k := hh; omega)))
  replace HS := Lib.hid ((HS.out.ext (by repeat (first | with_reducible exact Ext.refl _ | with_reducible refine Ext.drew ?_ | with_reducible refine Ext.drewN ?_ _ | with_reducible refine Ext.alloc ?_ _ | with_reducible refine Ext.setCell ?_ (by first | omega | (simp; done) | (simp; omega)) _))).but hx3 (fun k hk => by have h2 : g ≤ k := hk; omega))
  clear HWr
  have HWr := Lib.hid (show RWr _ g 1048576 0 (putL l.length) from by simpa using hW)
  clear hsz3 X2 hx3 z3
  have HW0 : Hid (RWr _ g 1048576 0 (putL l.length ++ (l.take 0).flatMap entB)) := Lib.hid (by simpa using HWr.out)
  go_wp2_with fail
  go_loopg [8] l.length (fun gh i wx => gh ≤ l.length ∧ i = .int .i64 ((l.length - gh : Nat) : Int) ∧ Hid (RWr wx g 1048576 0 (putL l.length ++ (l.take (l.length - gh)).flatMap entB)) ∧ Hid (SlB w.heap.size wx 8 A l.length c (l.flatMap entC)) ∧ Ext w wx)
  case atStart => exact ⟨Nat.le_refl _, by simp, by rw [Nat.sub_self]; exact HW0, HS, X3.out⟩
  case round =>
    obtain ⟨hg, hi, hw, hs, hx⟩ := hrel
    obtain ⟨k, hk⟩ : ∃ k, k = l.length - gk := ⟨_, rfl⟩
    rw [← hk] at hi hw
    subst hi
    have XR := Lib.hid hx
    have HWk := hw
    have HSk := hs
    by_cases hz : gk = 0
    · have hkn : ¬ (k : Int) < l.length := by omega
      have hkl : k = l.length := by omega
      have HWE : Hid (RWr wr g 1048576 0 (putL l.length ++ l.flatMap entB)) := Lib.hid (by have h := hw.out; rw [hkl, List.take_length] at h; exact h)
      clear hx hk hg hz hw hs hkl HWk HSk
      go_wp2_with fail
      have hrm := Ext.size XR.out
      (with_reducible refine ((show _ from rDone_ok g 1048576 _ _ (HWE.out.ext (by repeat (first | with_reducible exact Ext.refl _ | with_reducible refine Ext.drew ?_ | with_reducible refine Ext.drewN ?_ _ | with_reducible refine Ext.alloc ?_ _ | with_reducible refine Ext.setCell ?_ (by first | omega | (simp; done) | (simp; omega)) _))))).mono ?_)
      rintro e w41 ⟨v, rfl, hV, hx41⟩
      have z41 := hx41.size
      try simp at z41
      replace HWE := Lib.hid (HWE.out.ext (Ext.trans (by repeat (first | with_reducible exact Ext.refl _ | with_reducible refine Ext.drew ?_ | with_reducible refine Ext.drewN ?_ _ | with_reducible refine Ext.alloc ?_ _ | with_reducible refine Ext.setCell ?_ (by first | omega | (simp; done) | (simp; omega)) _)) hx41))
      have X41 : Hid (Ext w w41) := Lib.hid (Ext.trans (by repeat (first | with_reducible exact XR.out | with_reducible refine Ext.drew ?_ | with_reducible refine Ext.drewN ?_ _ | with_reducible refine Ext.alloc ?_ _ | with_reducible refine Ext.setCell ?_ (by first | omega | (simp; done) | (simp; omega)) _)) hx41)
      have HV := Lib.hid hV
      clear XR hx41 z41 hV
      go_wp2_with fail
      refine bodyPost_ret (v := .tuple #[v, .int .i64 0]) (by simp [results, Tryz.results6]; try rfl) rfl ⟨v, rfl, own_lower HV.out ?_, (by repeat (first | with_reducible exact X41.out | with_reducible refine Ext.drew ?_ | with_reducible refine Ext.drewN ?_ _ | with_reducible refine Ext.alloc ?_ _ | with_reducible refine Ext.setCell ?_ (by first | omega | (simp; done) | (simp; omega)) _))⟩
      have h := hrm
      (try simp at h)
      omega
    · have hkn : (k : Int) < l.length := by omega
      have hk1 : k < l.length := by omega
      obtain ⟨b1, o1, rfl, hb1, hc1⟩ := hs.out.sl.rec_ entC_len (show 0 < l.length from by omega)
      have hb1w := hs.out.2 (by omega) b1 o1 none rfl
      have x_0 := hc1 k _ (List.getElem?_eq_getElem hk1) 0 _ rfl
      have x_1 := hc1 k _ (List.getElem?_eq_getElem hk1) 1 _ rfl
      have x_2 := hc1 k _ (List.getElem?_eq_getElem hk1) 2 _ rfl
      have x_3 := hc1 k _ (List.getElem?_eq_getElem hk1) 3 _ rfl
      have x_4 := hc1 k _ (List.getElem?_eq_getElem hk1) 4 _ rfl
      have x_5 := hc1 k _ (List.getElem?_eq_getElem hk1) 5 _ rfl
      have x_6 := hc1 k _ (List.getElem?_eq_getElem hk1) 6 _ rfl
      have x_7 := hc1 k _ (List.getElem?_eq_getElem hk1) 7 _ rfl
      obtain ⟨x, hxx⟩ : ∃ x, x = l[k] := ⟨_, rfl⟩
      have hlk : l[k]? = some x := by rw [hxx]; exact List.getElem?_eq_getElem hk1
      rw [← hxx] at x_0 x_1 x_2 x_3 x_4 x_5 x_6 x_7
      obtain ⟨b9, hb9⟩ := HC.out x (List.mem_of_getElem? hlk)
      obtain ⟨r1, r2, r3, r4, r5, r6, _⟩ := oneG_cases hb9
      have hu := HW.out x (List.mem_of_getElem? hlk)
      have hM := que_fit HW.out HL9.out k
      have ht := entC_tk hlk
      obtain ⟨M0, hM0⟩ : ∃ M0, M0 = putL l.length ++ (l.take k).flatMap entB := ⟨_, rfl⟩
      rw [← hM0] at hM HWk
      have hnext : putL l.length ++ (l.take (k + 1)).flatMap entB = M0 ++ entB x := by rw [ht, ← List.append_assoc, ← hM0]
      obtain ⟨xo, xv, xs, xp, xf, xc, xi, xb⟩ := x
      have u1 := hu.2.2.2.2.2.2.1
      have u2 := hu.2.2.2.2.2.2.2
      change 0 ≤ xi ∧ xi < 18446744073709551616 at u1
      change 0 ≤ xb ∧ xb < 18446744073709551616 at u2
      change 0 ≤ xo at r1
      change xo < 64 at r2
      change chkS xv xs xp xf = 0 at r3
      change 1 ≤ xc at r4
      change xc ≤ 4294967296 at r5
      simp only at x_0 x_1 x_2 x_3 x_4 x_5 x_6 x_7
      rw [Nat.add_zero] at x_0
      rw [← Nat.add_assoc] at x_1 x_2 x_3 x_4 x_5 x_6 x_7
      have c0 := putL_ten (N := xo.toNat) (by omega)
      have c1' := nuB_len (l := stL xv xs xp xf) (fun y hy => (stL_in r3 y hy).2)
      have c2' := putL_ten (N := xc.toNat) (by omega)
      have c3' := putL_ten (N := xi.toNat) (by omega)
      have c4' := putL_ten (N := xb.toNat) (by omega)
      have c5' : (stL xv xs xp xf).length = 4 := rfl
      have HQ0 := Lib.hid (And.intro r1 (And.intro r2 (And.intro r4 (And.intro r5 (And.intro u1 (And.intro u2 (And.intro hM (And.intro c0 (And.intro c1' (And.intro c2' (And.intro c3' (And.intro c4' c5'))))))))))))
      have HR3 := Lib.hid r3
      have HNX := Lib.hid hnext
      have HK := Lib.hid (And.intro hk (And.intro hg hz))
      clear hx hk hg hz hc1 hxx hlk hu hM ht hnext c0 c1' c2' c3' c4' c5' hw hs hM0 r1 r2 r3 r4 r5 r6 u1 u2 hb9
      go_wp2_with fail
      (with_reducible refine (rWN_fit g 1048576 M0 xo (by have := HQ0.out; omega) (by have := HQ0.out; omega) (by have := HQ0.out; (try simp only [List.length_append]); omega) _ (HWk.out.ext (by repeat (first | with_reducible exact Ext.refl _ | with_reducible refine Ext.drew ?_ | with_reducible refine Ext.drewN ?_ _ | with_reducible refine Ext.alloc ?_ _ | with_reducible refine Ext.setCell ?_ (by first | omega | (simp; done) | (simp; omega)) _)))).mono ?_)
      rintro e w51 ⟨rfl, hW, hx51⟩
      have hsz51 := hx51.size
      try simp at hsz51
      replace x_1 : w51.cell? ⟨b1, o1 + k * 8 + 1, none⟩ = some (.int .i64 xv) := hx51.has (by show ¬ g ≤ _; omega) (by first | exact x_1 | (simp [go_sem, World.cell?_alloc_past, x_0, x_1, x_2, x_3, x_4, x_5, x_6, x_7]; done))
      replace x_2 : w51.cell? ⟨b1, o1 + k * 8 + 2, none⟩ = some (.int .i64 xs) := hx51.has (by show ¬ g ≤ _; omega) (by first | exact x_2 | (simp [go_sem, World.cell?_alloc_past, x_0, x_1, x_2, x_3, x_4, x_5, x_6, x_7]; done))
      replace x_3 : w51.cell? ⟨b1, o1 + k * 8 + 3, none⟩ = some (.int .i64 xp) := hx51.has (by show ¬ g ≤ _; omega) (by first | exact x_3 | (simp [go_sem, World.cell?_alloc_past, x_0, x_1, x_2, x_3, x_4, x_5, x_6, x_7]; done))
      replace x_4 : w51.cell? ⟨b1, o1 + k * 8 + 4, none⟩ = some (.int .i64 xf) := hx51.has (by show ¬ g ≤ _; omega) (by first | exact x_4 | (simp [go_sem, World.cell?_alloc_past, x_0, x_1, x_2, x_3, x_4, x_5, x_6, x_7]; done))
      replace x_5 : w51.cell? ⟨b1, o1 + k * 8 + 5, none⟩ = some (.int .i64 xc) := hx51.has (by show ¬ g ≤ _; omega) (by first | exact x_5 | (simp [go_sem, World.cell?_alloc_past, x_0, x_1, x_2, x_3, x_4, x_5, x_6, x_7]; done))
      replace x_6 : w51.cell? ⟨b1, o1 + k * 8 + 6, none⟩ = some (.int .u64 xi) := hx51.has (by show ¬ g ≤ _; omega) (by first | exact x_6 | (simp [go_sem, World.cell?_alloc_past, x_0, x_1, x_2, x_3, x_4, x_5, x_6, x_7]; done))
      replace x_7 : w51.cell? ⟨b1, o1 + k * 8 + 7, none⟩ = some (.int .u64 xb) := hx51.has (by show ¬ g ≤ _; omega) (by first | exact x_7 | (simp [go_sem, World.cell?_alloc_past, x_0, x_1, x_2, x_3, x_4, x_5, x_6, x_7]; done))
      have z51 := hx51.size
      try simp at z51
      have rx : b1 < w51.heap.size := by omega
      have rxa : b1 < w51.heap.size + 1 := by omega
      have rxb : b1 < w51.heap.size + 1 + 1 := by omega
      have rxc : b1 < w51.heap.size + 1 + 1 + 1 := by omega
      have rxn : ¬ b1 = w51.heap.size := by omega
      have X51 : Hid (Ext w w51) := Lib.hid (have hX := (show Ext w _ from (by repeat (first | with_reducible exact XR.out | with_reducible refine Ext.drew ?_ | with_reducible refine Ext.drewN ?_ _ | with_reducible refine Ext.alloc ?_ _ | with_reducible refine Ext.setCell ?_ (by first | omega | (simp; done) | (simp; omega)) _))); Below.trans hX (hx51.below (Ext.size hX) (fun k hk hh => by have h2 : g ≤ k := hh; omega)))
      replace HSk := Lib.hid ((HSk.out.ext (by repeat (first | with_reducible exact Ext.refl _ | with_reducible refine Ext.drew ?_ | with_reducible refine Ext.drewN ?_ _ | with_reducible refine Ext.alloc ?_ _ | with_reducible refine Ext.setCell ?_ (by first | omega | (simp; done) | (simp; omega)) _))).but hx51 (fun k hk => by have h2 : g ≤ k := hk; omega))
      clear HWk
      have HWk := Lib.hid hW
      clear x_0 hsz51 XR hx51 z51 hW
      go_wp2_with fail
      (with_reducible refine (rPut12_fit g 1048576 (M0 ++ putL xo.toNat) xv xs xp xf HR3.out (by have := HQ0.out; (try simp only [List.length_append]); omega) _ (HWk.out.ext (by repeat (first | with_reducible exact Ext.refl _ | with_reducible refine Ext.drew ?_ | with_reducible refine Ext.drewN ?_ _ | with_reducible refine Ext.alloc ?_ _ | with_reducible refine Ext.setCell ?_ (by first | omega | (simp; done) | (simp; omega)) _)))).mono ?_)
      rintro e w52 ⟨rfl, hW, hx52⟩
      have hsz52 := hx52.size
      try simp at hsz52
      replace x_5 : w52.cell? ⟨b1, o1 + k * 8 + 5, none⟩ = some (.int .i64 xc) := hx52.has (by show ¬ g ≤ _; omega) (by first | exact x_5 | (simp [go_sem, World.cell?_alloc_past, x_1, x_2, x_3, x_4, x_5, x_6, x_7, rx, rxa, rxb, rxc, rxn]; done))
      replace x_6 : w52.cell? ⟨b1, o1 + k * 8 + 6, none⟩ = some (.int .u64 xi) := hx52.has (by show ¬ g ≤ _; omega) (by first | exact x_6 | (simp [go_sem, World.cell?_alloc_past, x_1, x_2, x_3, x_4, x_5, x_6, x_7, rx, rxa, rxb, rxc, rxn]; done))
      replace x_7 : w52.cell? ⟨b1, o1 + k * 8 + 7, none⟩ = some (.int .u64 xb) := hx52.has (by show ¬ g ≤ _; omega) (by first | exact x_7 | (simp [go_sem, World.cell?_alloc_past, x_1, x_2, x_3, x_4, x_5, x_6, x_7, rx, rxa, rxb, rxc, rxn]; done))
      have z52 := hx52.size
      try simp at z52
      replace rx : b1 < w52.heap.size := by omega
      replace rxa : b1 < w52.heap.size + 1 := by omega
      replace rxb : b1 < w52.heap.size + 1 + 1 := by omega
      replace rxc : b1 < w52.heap.size + 1 + 1 + 1 := by omega
      replace rxn : ¬ b1 = w52.heap.size := by omega
      have X52 : Hid (Ext w w52) := Lib.hid (have hX := (show Ext w _ from (by repeat (first | with_reducible exact X51.out | with_reducible refine Ext.drew ?_ | with_reducible refine Ext.drewN ?_ _ | with_reducible refine Ext.alloc ?_ _ | with_reducible refine Ext.setCell ?_ (by first | omega | (simp; done) | (simp; omega)) _))); Below.trans hX (hx52.below (Ext.size hX) (fun k hk hh => by have h2 : g ≤ k := hh; omega)))
      replace HSk := Lib.hid ((HSk.out.ext (by repeat (first | with_reducible exact Ext.refl _ | with_reducible refine Ext.drew ?_ | with_reducible refine Ext.drewN ?_ _ | with_reducible refine Ext.alloc ?_ _ | with_reducible refine Ext.setCell ?_ (by first | omega | (simp; done) | (simp; omega)) _))).but hx52 (fun k hk => by have h2 : g ≤ k := hk; omega))
      clear HWk
      have HWk := Lib.hid hW
      clear x_3 x_1 x_4 x_2 hsz52 X51 hx52 z52 hW
      go_wp2_with fail
      (with_reducible refine (rWN_fit g 1048576 ((M0 ++ putL xo.toNat) ++ nuB (stL xv xs xp xf)) xc (by have := HQ0.out; omega) (by have := HQ0.out; omega) (by have := HQ0.out; (try simp only [List.length_append]); omega) _ (HWk.out.ext (by repeat (first | with_reducible exact Ext.refl _ | with_reducible refine Ext.drew ?_ | with_reducible refine Ext.drewN ?_ _ | with_reducible refine Ext.alloc ?_ _ | with_reducible refine Ext.setCell ?_ (by first | omega | (simp; done) | (simp; omega)) _)))).mono ?_)
      rintro e w53 ⟨rfl, hW, hx53⟩
      have hsz53 := hx53.size
      try simp at hsz53
      replace x_6 : w53.cell? ⟨b1, o1 + k * 8 + 6, none⟩ = some (.int .u64 xi) := hx53.has (by show ¬ g ≤ _; omega) (by first | exact x_6 | (simp [go_sem, World.cell?_alloc_past, x_5, x_6, x_7, rx, rxa, rxb, rxc, rxn]; done))
      replace x_7 : w53.cell? ⟨b1, o1 + k * 8 + 7, none⟩ = some (.int .u64 xb) := hx53.has (by show ¬ g ≤ _; omega) (by first | exact x_7 | (simp [go_sem, World.cell?_alloc_past, x_5, x_6, x_7, rx, rxa, rxb, rxc, rxn]; done))
      have z53 := hx53.size
      try simp at z53
      replace rx : b1 < w53.heap.size := by omega
      replace rxa : b1 < w53.heap.size + 1 := by omega
      replace rxb : b1 < w53.heap.size + 1 + 1 := by omega
      replace rxc : b1 < w53.heap.size + 1 + 1 + 1 := by omega
      replace rxn : ¬ b1 = w53.heap.size := by omega
      have X53 : Hid (Ext w w53) := Lib.hid (have hX := (show Ext w _ from (by repeat (first | with_reducible exact X52.out | with_reducible refine Ext.drew ?_ | with_reducible refine Ext.drewN ?_ _ | with_reducible refine Ext.alloc ?_ _ | with_reducible refine Ext.setCell ?_ (by first | omega | (simp; done) | (simp; omega)) _))); Below.trans hX (hx53.below (Ext.size hX) (fun k hk hh => by have h2 : g ≤ k := hh; omega)))
      replace HSk := Lib.hid ((HSk.out.ext (by repeat (first | with_reducible exact Ext.refl _ | with_reducible refine Ext.drew ?_ | with_reducible refine Ext.drewN ?_ _ | with_reducible refine Ext.alloc ?_ _ | with_reducible refine Ext.setCell ?_ (by first | omega | (simp; done) | (simp; omega)) _))).but hx53 (fun k hk => by have h2 : g ≤ k := hk; omega))
      clear HWk
      have HWk := Lib.hid hW
      clear x_5 hsz53 X52 hx53 z53 hW
      go_wp2_with fail
      (with_reducible refine (rWU_fit g 1048576 (((M0 ++ putL xo.toNat) ++ nuB (stL xv xs xp xf)) ++ putL xc.toNat) xi (by have := HQ0.out; omega) (by have := HQ0.out; omega) (by have := HQ0.out; (try simp only [List.length_append]); omega) _ (HWk.out.ext (by repeat (first | with_reducible exact Ext.refl _ | with_reducible refine Ext.drew ?_ | with_reducible refine Ext.drewN ?_ _ | with_reducible refine Ext.alloc ?_ _ | with_reducible refine Ext.setCell ?_ (by first | omega | (simp; done) | (simp; omega)) _)))).mono ?_)
      rintro e w54 ⟨rfl, hW, hx54⟩
      have hsz54 := hx54.size
      try simp at hsz54
      replace x_7 : w54.cell? ⟨b1, o1 + k * 8 + 7, none⟩ = some (.int .u64 xb) := hx54.has (by show ¬ g ≤ _; omega) (by first | exact x_7 | (simp [go_sem, World.cell?_alloc_past, x_6, x_7, rx, rxa, rxb, rxc, rxn]; done))
      have z54 := hx54.size
      try simp at z54
      replace rx : b1 < w54.heap.size := by omega
      replace rxa : b1 < w54.heap.size + 1 := by omega
      replace rxb : b1 < w54.heap.size + 1 + 1 := by omega
      replace rxc : b1 < w54.heap.size + 1 + 1 + 1 := by omega
      replace rxn : ¬ b1 = w54.heap.size := by omega
      have X54 : Hid (Ext w w54) := Lib.hid (have hX := (show Ext w _ from (by repeat (first | with_reducible exact X53.out | with_reducible refine Ext.drew ?_ | with_reducible refine Ext.drewN ?_ _ | with_reducible refine Ext.alloc ?_ _ | with_reducible refine Ext.setCell ?_ (by first | omega | (simp; done) | (simp; omega)) _))); Below.trans hX (hx54.below (Ext.size hX) (fun k hk hh => by have h2 : g ≤ k := hh; omega)))
      replace HSk := Lib.hid ((HSk.out.ext (by repeat (first | with_reducible exact Ext.refl _ | with_reducible refine Ext.drew ?_ | with_reducible refine Ext.drewN ?_ _ | with_reducible refine Ext.alloc ?_ _ | with_reducible refine Ext.setCell ?_ (by first | omega | (simp; done) | (simp; omega)) _))).but hx54 (fun k hk => by have h2 : g ≤ k := hk; omega))
      clear HWk
      have HWk := Lib.hid hW
      clear x_6 hsz54 X53 hx54 z54 hW
      go_wp2_with fail
      (with_reducible refine (rWU_fit g 1048576 ((((M0 ++ putL xo.toNat) ++ nuB (stL xv xs xp xf)) ++ putL xc.toNat) ++ putL xi.toNat) xb (by have := HQ0.out; omega) (by have := HQ0.out; omega) (by have := HQ0.out; (try simp only [List.length_append]); omega) _ (HWk.out.ext (by repeat (first | with_reducible exact Ext.refl _ | with_reducible refine Ext.drew ?_ | with_reducible refine Ext.drewN ?_ _ | with_reducible refine Ext.alloc ?_ _ | with_reducible refine Ext.setCell ?_ (by first | omega | (simp; done) | (simp; omega)) _)))).mono ?_)
      rintro e w55 ⟨rfl, hW, hx55⟩
      have hsz55 := hx55.size
      try simp at hsz55
      have z55 := hx55.size
      try simp at z55
      have X55 : Hid (Ext w w55) := Lib.hid (have hX := (show Ext w _ from (by repeat (first | with_reducible exact X54.out | with_reducible refine Ext.drew ?_ | with_reducible refine Ext.drewN ?_ _ | with_reducible refine Ext.alloc ?_ _ | with_reducible refine Ext.setCell ?_ (by first | omega | (simp; done) | (simp; omega)) _))); Below.trans hX (hx55.below (Ext.size hX) (fun k hk hh => by have h2 : g ≤ k := hh; omega)))
      replace HSk := Lib.hid ((HSk.out.ext (by repeat (first | with_reducible exact Ext.refl _ | with_reducible refine Ext.drew ?_ | with_reducible refine Ext.drewN ?_ _ | with_reducible refine Ext.alloc ?_ _ | with_reducible refine Ext.setCell ?_ (by first | omega | (simp; done) | (simp; omega)) _))).but hx55 (fun k hk => by have h2 : g ≤ k := hk; omega))
      clear HWk
      have HWk := Lib.hid hW
      clear x_7 rx rxa rxb rxc rxn hsz55 X54 hx55 z55 hW
      go_wp2_with fail
      go_roundg (gk - 1)
      case measure => have := HK.out; omega
      case rel =>
        refine ⟨by have := HK.out; omega, num_eq (by have := HK.out; omega), Lib.hid ?_, Lib.hid (HSk.out.ext (by repeat (first | with_reducible exact Ext.refl _ | with_reducible refine Ext.drew ?_ | with_reducible refine Ext.drewN ?_ _ | with_reducible refine Ext.alloc ?_ _ | with_reducible refine Ext.setCell ?_ (by first | omega | (simp; done) | (simp; omega)) _))), (by repeat (first | with_reducible exact X55.out | with_reducible refine Ext.drew ?_ | with_reducible refine Ext.drewN ?_ _ | with_reducible refine Ext.alloc ?_ _ | with_reducible refine Ext.setCell ?_ (by first | omega | (simp; done) | (simp; omega)) _))⟩
        rw [show l.length - (gk - 1) = k + 1 from by have := HK.out; omega, HNX.out]
        have h := (HWk.out.ext (by repeat (first | with_reducible exact Ext.refl _ | with_reducible refine Ext.drew ?_ | with_reducible refine Ext.drewN ?_ _ | with_reducible refine Ext.alloc ?_ _ | with_reducible refine Ext.setCell ?_ (by first | omega | (simp; done) | (simp; omega)) _)))
        simpa [entB, entN, nuB, stL, List.append_assoc] using h
theorem r14Bytes_any (A : Option Addr) (c : Nat) (l : List (Int × Int × Int × Int × Int × Int × Int × Int)) (w : World) (hs : Sl w 8 A l.length c (l.flatMap entC)) (hw : ∀ x ∈ l, FitsQ x) (hl : l.length ≤ 100) : Calls Tryz.prog 6 #[.slice A l.length c] w (ByErr (queB l) (chkQ l).1 w) := by
  by_cases hc : (chkQ l).1 = 0
  · exact r14Bytes_ok A c l _ _ w hs hw rfl hl hc
  · exact r14Bytes_chk A c l _ _ w hs hw rfl hl hc
end
section
open Go.RowKit
theorem fltB_none_ok {k n : Nat} : fltB none k n = false := by
  unfold fltB leftF endF
  simp only
  by_cases h : k < n
  · rw [if_pos h]; simp; omega
  · rw [if_neg h]; simp
theorem tkS_nz {L : List Nat} {s : Nat × Option (Int × Int)} {lo hi : Int} (h : FltNz s.2) : FltNz (tkS L s lo hi).2 := h.rn _ _ _ _
end
section
open Go.RowKit
section
variable {S : Nat → Prop} {w w' : World} {g k n q B : Nat} {L : List Nat} {flt : Option (Int × Int)} {base sz : Nat} {e : TypeId} {v : Value} {xs : List Value}
theorem Sl.butAll {A : Option Addr} {m c : Nat} (h : Sl w sz A m c xs) (hx : But S w w') (hS : ∀ b o s, A = some ⟨b, o, s⟩ → ¬ S b) : Sl w' sz A m c xs := by
  refine ⟨h.1, h.2.1, h.2.2.1, fun hn => ?_⟩
  obtain ⟨b, o, e, hb, hc⟩ := h.at_ hn
  exact ⟨b, o, e, by have := hx.size; omega, fun j u hu => hx.has (hS b o none e) (hc j u hu)⟩
theorem Rd.butT (h : Rd w g L k flt) (hx : But S w w') (hS : ∀ j, j < w.heap.size → S j → g < j ∧ ∀ cs z, w.heap[j]? ≠ some (.cells cs 32 z)) : Rd w' g L k flt := by
  obtain ⟨A, c, h0, h1, h2⟩ := h.b
  obtain ⟨v, h3, h4⟩ := h.c3
  have hg : ¬ S g := fun hs => by have := (hS g h.lt hs).1; omega
  have cl : ∀ o, w'.cell? ⟨g, o, none⟩ = w.cell? ⟨g, o, none⟩ := fun o => hx.cell h.lt hg
  have fl : ∀ o, w'.frozen? ⟨g, o, none⟩ = w.frozen? ⟨g, o, none⟩ := fun o => hx.frozen h.lt hg
  refine ⟨⟨A, c, (cl 0).trans h0, h1.butAll hx (fun b o s e hs => ?_), h2⟩, (cl 1).trans h.c1, (cl 2).trans h.c2, ⟨v, (cl 3).trans h3, ?_⟩, (fl 1).trans h.f1, (fl 3).trans h.f3, by have := h.lt; have := hx.size; omega, h.le, h.byt⟩
  · have hb := h2 b o s e
    have := (hS b (by have := h.lt; omega) hs).1
    omega
  · match flt, h4 with
    | none, h4 => exact h4
    | some (e, a), ⟨fb, h1, h2, h3, h4, cs, z, h5⟩ =>
      have hf : ¬ S fb := fun hs => (hS fb h2.2 hs).2 cs z h5
      exact ⟨fb, h1, ⟨h2.1, by have := hx.size; omega⟩, (hx.cell h2.2 hf).trans h3, (hx.cell h2.2 hf).trans h4, cs, z, (hx.block fb h2.2 hf).trans h5⟩
theorem RRd.butT (h : RRd w g L k flt) (hx : But S w w') (hS : ∀ j, j < w.heap.size → S j → g < j) : RRd w' g L k flt := by
  obtain ⟨A, c, h0, h1, h2⟩ := h.b
  obtain ⟨t, h3, h4, h5⟩ := h.c1
  obtain ⟨cs, z, h6⟩ := h.ty
  have hg : ¬ S g := fun hs => by have := hS g h.lt hs; omega
  have cl : ∀ o, w'.cell? ⟨g, o, none⟩ = w.cell? ⟨g, o, none⟩ := fun o => hx.cell h.lt hg
  have fl : ∀ o, w'.frozen? ⟨g, o, none⟩ = w.frozen? ⟨g, o, none⟩ := fun o => hx.frozen h.lt hg
  refine ⟨⟨A, c, (cl 0).trans h0, h1.butAll hx (fun b o s e hs => ?_), h2⟩, ⟨t, (cl 1).trans h3, h4, h5⟩, (cl 2).trans h.c2, (cl 3).trans h.c3, (fl 1).trans h.f1, (fl 2).trans h.f2, (fl 3).trans h.f3, by have := h.lt; have := hx.size; omega, h.le, h.byt, h.nz, cs, z, (hx.block g h.lt hg).trans h6⟩
  have hb := (h2 b o s e).1
  have := hS b (by have := h.lt; omega) hs
  omega
/-- a row of one's own, all of it below a bound -/
def OwnR (q : Nat) (w : World) (base : Nat) (e : TypeId) (sz : Nat) (v : Value) (n : Nat) (xs : List Value) : Prop := w.ownsRow base e sz v n xs ∧ ∀ j, v.ownBlock = some j → j < q
theorem own_but (h : w.ownsRow base e sz v n xs) (hx : But S w w') (hS : ∀ j, v.ownBlock = some j → ¬ S j) : w'.ownsRow base e sz v n xs := by
  refine ⟨h.1, ?_⟩
  rcases h.2 with h2 | ⟨r, cap, cur, e', hr, hr2, rest⟩
  · exact .inl h2
  · refine .inr ⟨r, cap, cur, e', hr, ?_, rest⟩
    rw [← hr2]
    exact hx.block r (Array.getElem?_eq_some_iff.1 hr2).1 (hS r (by rw [e']; rfl))
theorem own_block (h : w.ownsRow base e sz v n xs) {j : Nat} (hj : v.ownBlock = some j) : base ≤ j ∧ j < w.heap.size ∧ ∃ cs, w.heap[j]? = some (.cells cs e (0, 0)) := by
  rcases h.2 with ⟨rfl, _⟩ | ⟨r, cap, cur, rfl, hr, hr2, rest⟩
  · cases hj
  · injection hj with hj
    have hj2 : r = j := hj
    subst hj2
    exact ⟨hr, (Array.getElem?_eq_some_iff.1 hr2).1, cur, hr2⟩
theorem OwnR.mk (h : w.ownsRow base e sz v n xs) : OwnR w.heap.size w base e sz v n xs := ⟨h, fun j hj => (own_block h hj).2.1⟩
theorem OwnR.own (h : OwnR q w base e sz v n xs) : w.ownsRow base e sz v n xs := h.1
theorem OwnR.raise (h : OwnR q w base e sz v n xs) : OwnR w.heap.size w base e sz v n xs := OwnR.mk h.1
theorem OwnR.ext (h : OwnR q w base e sz v n xs) (hx : Ext w w') : OwnR q w' base e sz v n xs := ⟨own_keep h.1 hx, h.2⟩
theorem OwnR.drewN (h : OwnR q w base e sz v n xs) (m : Nat) : OwnR q (w.drewN m) base e sz v n xs := h.ext ((Ext.refl w).drewN m)
theorem But.one (w : World) (b o : Nat) (u : Value) : But (· = b) w (w.setCell ⟨b, o, none⟩ u) := (But.refl (fun k => k = b) w).setCell (p := ⟨b, o, none⟩) rfl u
theorem OwnR.set {b o : Nat} (h : OwnR q w base e sz v n xs) (hb : q ≤ b) (u : Value) : OwnR q (w.setCell ⟨b, o, none⟩ u) base e sz v n xs :=
  ⟨own_but h.1 (But.one w b o u) (fun j hj e => by have := h.2 j hj; omega), h.2⟩
theorem OwnR.but (h : OwnR q w base e sz v n xs) (hx : But S w w') (hS : ∀ j, base ≤ j → j < q → ¬ S j) : OwnR q w' base e sz v n xs :=
  ⟨own_but h.1 hx (fun j hj => hS j (own_block h.1 hj).1 (h.2 j hj)), h.2⟩
/-- a reader, and a block that is not its fault -/
def RdT (q : Nat) (w : World) (g : Nat) (L : List Nat) (k : Nat) (flt : Option (Int × Int)) : Prop := Rd w g L k flt ∧ g < q ∧ q < w.heap.size ∧ ∀ cs z, w.heap[q]? ≠ some (.cells cs 32 z)
theorem RdT.rd (h : RdT q w g L k flt) : Rd w g L k flt := h.1
theorem RdT.new (h : Rd w g L k flt) (cs : Array Value) (t : TypeId) (ht : t ≠ 32) : RdT w.heap.size (w.alloc (.cells cs t)) g L k flt := by
  refine ⟨h.ext ((Ext.refl w).alloc _), h.lt, by simp, fun cs' z hh => ?_⟩
  rw [World.alloc_heap_new] at hh
  injection hh with hh
  injection hh with _ hh
  exact ht hh
theorem RdT.set {b o : Nat} (h : RdT q w g L k flt) (hb : b = q) (u : Value) : RdT q (w.setCell ⟨b, o, none⟩ u) g L k flt := by
  subst hb
  refine ⟨h.1.butT (But.one w b o u) (fun j _ hj => by subst hj; exact ⟨h.2.1, h.2.2.2⟩), h.2.1, by simpa using h.2.2.1, fun cs z hh => ?_⟩
  obtain ⟨cs', z', hh'⟩ : ∃ cs' z', w.heap[b]? = some (.cells cs' 32 z') := by
    rw [World.setCell, Array.getElem?_modify, if_pos rfl] at hh
    rcases hw : w.heap[b]? with _ | ob
    · rw [hw] at hh; simp at hh
    · rw [hw] at hh
      rcases ob with ⟨cs0, t0, z0⟩ | _ <;> simp at hh
      obtain ⟨_, h2, h3⟩ := hh
      subst h2
      exact ⟨cs0, z0, rfl⟩
  exact h.2.2.2 _ _ hh'
theorem OwnR.butN (h : OwnR q w base e sz v n xs) (hx : But (fun j => q ≤ j) w w') : OwnR q w' base e sz v n xs := h.but hx (fun j _ h2 hh => by have h3 : q ≤ j := hh; omega)
theorem RdT.ext (h : RdT q w g L k flt) (hx : Ext w w') : RdT q w' g L k flt :=
  ⟨h.1.ext hx, h.2.1, by have := h.2.2.1; have := hx.size; omega, fun cs z hh => h.2.2.2 cs z (by rw [← hh]; exact (Below.block hx q h.2.2.1).symm)⟩
theorem RdT.drewN (h : RdT q w g L k flt) (m : Nat) : RdT q (w.drewN m) g L k flt := h.ext ((Ext.refl w).drewN m)
theorem RdT.to {k' : Nat} {flt' : Option (Int × Int)} (h : RdT q w g L k flt) (hr : Rd w' g L k' flt') (hx : But (· = g) w w') : RdT q w' g L k' flt' :=
  ⟨hr, h.2.1, by have := h.2.2.1; have := hx.size; omega, fun cs z hh => h.2.2.2 cs z (by rw [← hh]; exact (hx.block q h.2.2.1 (fun e => by have := h.2.1; have e2 : q = g := e; omega)).symm)⟩
end
theorem cRN_T (q g k : Nat) (L : List Nat) (flt : Option (Int × Int)) (least most : Int) (h0 : 0 ≤ least) (h1 : least ≤ 9223372036854775807) (h2 : 0 ≤ most) (h3 : most ≤ 9223372036854775807) (hL : L.length < 1099511627776) (w : World) (h : RdT q w g L k flt) :
    Calls Tryz.prog 32 #[.pointer (some ⟨g, 0, none⟩), .int .i64 least, .int .i64 most] w fun r w' => r = .returned (.int .i64 (rnV L k flt least most)) ∧ RdT q w' g L (rnK L k flt least most) (rnF L k flt least most) ∧ But (· = g) w w' :=
  (cRN_any g k L flt least most h0 h1 h2 h3 hL w h.1).mono fun r w' hh => ⟨hh.1, h.to hh.2.1 hh.2.2, hh.2.2⟩
theorem cFail_T (q g k : Nat) (L : List Nat) (flt : Option (Int × Int)) (e a : Int) (w : World) (h : RdT q w g L k flt) :
    Calls Tryz.prog 37 #[.pointer (some ⟨g, 0, none⟩), .int .i64 e, .int .i64 a] w fun r w' => (∃ v, r = .returned v) ∧ RdT q w' g L k (failF flt e a) ∧ But (· = g) w w' :=
  (cFail_any g k L flt e a w h.1).mono fun r w' hh => ⟨hh.1, h.to hh.2.1 hh.2.2, hh.2.2⟩
theorem RRd.butN {w w' : World} {g k : Nat} {L : List Nat} {flt : Option (Int × Int)} (h : RRd w g L k flt) (hx : But (fun j => g < j) w w') : RRd w' g L k flt := h.butT hx (fun j _ hj => hj)
theorem flt_eql (e a e' a' : Int) (w : World) : (binOp .eql 32 (.agg #[.int .i64 e, .int .i64 a]) (.agg #[.int .i64 e', .int .i64 a'])).run Tryz.prog w = .ok (.bool (e == e' && a == a')) w := by
  have hS : Tryz.prog.underlying 32 = some (.struct (Tryz.prog.fieldsOf 32)) := by kernel_rfl
  have hp : Tryz.prog.stoodInHeld 32 = false := by kernel_rfl
  rw [run_eql_struct, show (10000 : Nat) = 9999 + 1 from rfl, run_equalIn_agg w 9999 32 _ _ hS hp]
  simp only [Program.fieldsOf, Tryz.underlying32]
  go_simp
  by_cases h0 : e = e' <;> by_cases h1 : a = a' <;> simp [h0, h1]
theorem flt_neq (e a e' a' : Int) (w : World) : (binOp .neq 32 (.agg #[.int .i64 e, .int .i64 a]) (.agg #[.int .i64 e', .int .i64 a'])).run Tryz.prog w = .ok (.bool (!(e == e' && a == a'))) w := by
  have hS : Tryz.prog.underlying 32 = some (.struct (Tryz.prog.fieldsOf 32)) := by kernel_rfl
  have hp : Tryz.prog.stoodInHeld 32 = false := by kernel_rfl
  rw [run_neq_struct, show (10000 : Nat) = 9999 + 1 from rfl, run_equalIn_agg w 9999 32 _ _ hS hp]
  simp only [Program.fieldsOf, Tryz.underlying32]
  go_simp
  by_cases h0 : e = e' <;> by_cases h1 : a = a' <;> simp [h0, h1]
theorem flt_eqg (op : BinOp) (x y : Operand) (xs ys : Array Value) (w : World) : (eqGuard op 32 x y (.agg xs) (.agg ys)).run Tryz.prog w = .ok () w := run_eqGuard_agg w op 32 x y xs ys (by kernel_rfl)
theorem own_ne_fault {w : World} {base sz n g : Nat} {e : TypeId} {v : Value} {xs : List Value} (h : w.ownsRow base e sz v n xs) (hg : g < base) (ht : e ≠ 32) : ∀ j, j < w.heap.size → v.ownBlock = some j → g < j ∧ ∀ cs z, w.heap[j]? ≠ some (.cells cs 32 z) := by
  intro j _ hj
  obtain ⟨h1, _, cs0, h3⟩ := own_block h hj
  refine ⟨by omega, fun cs z hh => ?_⟩
  rw [h3] at hh
  injection hh with hh
  injection hh with _ hh
  exact ht hh
theorem rnV_in (L : List Nat) (k : Nat) (flt : Option (Int × Int)) (least most : Int) (h2 : 0 ≤ most) : 0 ≤ rnV L k flt least most ∧ rnV L k flt least most ≤ most := by
  unfold rnV
  split
  · rename_i h
    have := rnE_zero h.2
    omega
  · omega
theorem cRN_e (g k k' : Nat) (L : List Nat) (flt flt' : Option (Int × Int)) (least most v : Int) (h0 : 0 ≤ least) (h1 : least ≤ 9223372036854775807) (h2 : 0 ≤ most) (h3 : most ≤ 9223372036854775807) (hL : L.length < 1099511627776) (hv : v = rnV L k flt least most) (hk : k' = rnK L k flt least most) (hf : flt' = rnF L k flt least most) (w : World) (h : Rd w g L k flt) :
    Calls Tryz.prog 32 #[.pointer (some ⟨g, 0, none⟩), .int .i64 least, .int .i64 most] w fun r w' => r = .returned (.int .i64 v) ∧ Rd w' g L k' flt' ∧ But (· = g) w w' := by
  subst hv hk hf
  exact cRN_any g k L flt least most h0 h1 h2 h3 hL w h
theorem cRN_Te (q g k k' : Nat) (L : List Nat) (flt flt' : Option (Int × Int)) (least most v : Int) (h0 : 0 ≤ least) (h1 : least ≤ 9223372036854775807) (h2 : 0 ≤ most) (h3 : most ≤ 9223372036854775807) (hL : L.length < 1099511627776) (hv : v = rnV L k flt least most) (hk : k' = rnK L k flt least most) (hf : flt' = rnF L k flt least most) (w : World) (h : RdT q w g L k flt) :
    Calls Tryz.prog 32 #[.pointer (some ⟨g, 0, none⟩), .int .i64 least, .int .i64 most] w fun r w' => r = .returned (.int .i64 v) ∧ RdT q w' g L k' flt' ∧ But (· = g) w w' := by
  subst hv hk hf
  exact cRN_T q g k L flt least most h0 h1 h2 h3 hL w h
theorem rN_e (g k k' : Nat) (L : List Nat) (flt flt' : Option (Int × Int)) (least most v : Int) (h0 : 0 ≤ least) (h1 : least ≤ 9223372036854775807) (h2 : 0 ≤ most) (h3 : most ≤ 9223372036854775807) (hL : L.length < 1099511627776) (hv : v = rnV L k flt least most) (hk : k' = rnK L k flt least most) (hf : flt' = rnF L k flt least most) (w : World) (h : RRd w g L k flt) :
    Calls Tryz.prog 42 #[.pointer (some ⟨g, 0, none⟩), .int .i64 least, .int .i64 most] w fun r w' => r = .returned (.int .i64 v) ∧ RRd w' g L k' flt' ∧ But (· = g) w w' := by
  subst hv hk hf
  exact rN_any g k L flt least most h0 h1 h2 h3 hL w h
theorem rU_e (g k k' : Nat) (L : List Nat) (flt flt' : Option (Int × Int)) (v : Int) (hL : L.length < 1099511627776) (hv : v = ruV L k flt) (hk : k' = ruK L k flt) (hf : flt' = ruF L k flt) (w : World) (h : RRd w g L k flt) :
    Calls Tryz.prog 45 #[.pointer (some ⟨g, 0, none⟩)] w fun r w' => r = .returned (.int .u64 v) ∧ RRd w' g L k' flt' ∧ But (· = g) w w' := by
  subst hv hk hf
  exact rU_any g k L flt hL w h
end
end Go.Proofs.YtnbeejgppooamaaGreat
