/- Bas, part 5 of 6: Hw3, Hr8, SeqStop, Ht1, Ht2, Hw4. Conditions stand in each lemma. -/
import Derived.WalkKit
import Derived.Deep.QuietTactic
import Derived.Deep.Draws
import Derived.Lib.Hide
import Derived.Laws.OwnMore
import Derived.Laws.AppendOwn
import Derived.OwnWalk
import Derived.Maps.AppendAt
import Derived.Deep.RegionHeld3
import Derived.RangeFuncBox
import Derived.RangeFuncLeaves
import Derived.Shelf.Abstract
import Derived.OwnWalkIn
import Derived.TacticsInMore
import Derived.LoopNIn
import Derived.LoopIn
import Derived.Test.YtkinchgjidpjnaaGreatRows
import Derived.Deep.Onto
import Derived.ProofKit
import Derived.ChangeOld
import Derived.OpenShut
import Derived.Deep.Slices
import Derived.BigQuiet
import Derived.IntWalk
import Derived.Lib.SliceRun
import Derived.Deep.LoopGhost
import Derived.WalkSpells
import Derived.WalkLawsBesides
import Derived.Lib.SmallJoins
import Derived.Test.YtkinchgjidpjnaaGreatShelf
import Derived.Test.YtkinchgjidpjnaaGreatDivNorm
import Derived.Deep.DeepCutAuto
import Derived.Deep.CutBlock
import Derived.Shelf.Spec.BitsCarry
import Derived.Test.YtkinchgjidpjnaaGreatFixRefMath
import Derived.Test.YtkinchgjidpjnaaGreatFixDivideMath
import Derived.Handy
import Derived.ArgAppend
import Derived.Laws.CopyRow
import Derived.Lib.AppendZerosOnto
import Derived.Laws.Externs
import Derived.Lib.Overlaps
import Derived.Shelf.RegionOpenPlain
import Derived.Lib.AppendZeros
import Derived.WalkMore
import Derived.Laws.IdiomCopy
import Derived.Laws.StructEq
import Derived.RangeFuncNested
import Derived.Test.YtkinchgjidpjnaaGreatSlBas4
set_option linter.unusedVariables false
set_option linter.unusedSimpArgs false
namespace Go.Proofs.YtkinchgjidpjnaaGreat
section
open Go.RowKit Go.ChangeShapes Go.WideShapes Go.Deep Go.Joins
theorem zSlBas5_0 {P : Prop} (h : P := by (first | exact ⟨a_0, a_1, a_2, a_3, a_4, a_5, a_6, a_7, a_8, h_0, h_1⟩ | (simp [go_sem, World.cell?_alloc_past, *]; done))) : P := h
theorem zSlBas5_1 {P : Prop} (h : P := by first | omega | (simp; done) | (simp; omega)) : P := h
/-- the chapter's holding, on the way -/
def chC : Nat → List (Int × Int × Int × Int × Int × Int)
  | 0 => []
  | 1 => [(2, 5, -1, 0, 10, 10)]
  | 2 => [(2, 5, -1, 0, 20, 20)]
  | _ => [(2, 5, -1, 0, 20, 20), (3, 6, -1, 0, 7, 7)]
def chP : Nat → List (Int × Int × Int × Int × Int × Int)
  | 0 => []
  | 1 => [(0, 2, 5, -1, 0, 10)]
  | 2 => [(0, 2, 5, -1, 0, 10), (1, 2, 5, -1, 0, 10)]
  | _ => [(0, 2, 5, -1, 0, 10), (1, 2, 5, -1, 0, 10), (1, 3, 6, -1, 0, 7)]
def chA : List Value := [.int .i64 0, .int .i64 0, .int .i64 2, .int .i64 5, .int .i64 (-1), .int .i64 0, .int .i64 0, .int .i64 0, .int .u64 10, .int .i64 0, .int .i64 1, .int .i64 2, .int .i64 5, .int .i64 (-1), .int .i64 0, .int .i64 0, .int .i64 0, .int .u64 10, .int .i64 0, .int .i64 1, .int .i64 3, .int .i64 6, .int .i64 (-1), .int .i64 0, .int .i64 0, .int .i64 0, .int .u64 7]
/-- the acts' cells lie at a block -/
def ArrA (W : World) (q : Nat) : Prop := ∀ (j : Nat) (v : Value), chA[j]? = some v → W.cell? ⟨q, j, none⟩ = some v
theorem ArrA.ext {W W' : World} {q : Nat} (h : ArrA W q) (hx : Ext W W') : ArrA W' q := fun j v hv => hx.has (h j v hv)
theorem ArrA.set {W : World} {q b o : Nat} {u : Value} (h : ArrA W q) (hb : ¬ q = b) : ArrA (W.setCell ⟨b, o, none⟩ u) q := fun j v hv => (But.setG (g := b) (But.refl (· = b) W) u).has (fun e => hb e) (h j v hv)
theorem cho13_0 : (chC 1, chP 1, (10 : Int), (0 : Int)) = hjoiV (chC 0) (chP 0) 0 2 5 (-1) 0 10 := by first | kernel_rfl | rfl
theorem cho13_1 : (chC 2, chP 2, (10 : Int), (0 : Int)) = hjoiV (chC 1) (chP 1) 1 2 5 (-1) 0 10 := by first | kernel_rfl | rfl
theorem cho13_2 : (chC 3, chP 3, (7 : Int), (0 : Int)) = hjoiV (chC 2) (chP 2) 1 3 6 (-1) 0 7 := by first | kernel_rfl | rfl
theorem ch_wd (k : Nat) (hk : k ≤ 3) : (∀ x ∈ chC k, WdC x) ∧ (∀ x ∈ chP k, WdP x) ∧ (chC k).length ≤ 2 ∧ (chP k).length ≤ 3 := by
  have hcase : k = 0 ∨ k = 1 ∨ k = 2 ∨ k = 3 := by omega
  unfold WdC WdP Word
  rcases hcase with rfl | rfl | rfl | rfl <;> decide
set_option maxRecDepth 100000 in
set_option maxHeartbeats 4000000 in
theorem at13_any (v h : Int) (w : World) : Calls Tryz.prog 26 #[.int .i64 v, .int .i64 h] w fun r w' => r = .returned (.agg #[.int .i64 v, .int .i64 h, .int .i64 (-1), .int .i64 0]) ∧ Ext w w' := by
  go_enter Tryz.func26, Tryz.ntmps26
  go_wp2_with fail
  refine bodyPost_ret (v := .agg #[.int .i64 v, .int .i64 h, .int .i64 (-1), .int .i64 0]) (by simp [results, Tryz.results26, go_sem, World.cell?_alloc_past]; try rfl) rfl ⟨rfl, ?_⟩
  exact zxt
set_option maxRecDepth 100000 in
set_option maxHeartbeats 16000000 in
theorem chapter13_any (w : World) : Calls Tryz.prog 22 #[] w fun r w' => ∃ B d B2 d2, r = .returned (.tuple #[.agg #[.slice B 2 d, .slice B2 3 d2], .bool true]) ∧ (B = none → d = 0) ∧ (B2 = none → d2 = 0) ∧ OwnCls w' w.heap.size (.slice B 2 d) 2 (chC 3) ∧ OwnPos w' w.heap.size (.slice B2 3 d2) 3 (chP 3) ∧ Ext w w' := by
  go_enter Tryz.func22, Tryz.ntmps22
  go_wp2_with fail
  (with_reducible refine (at13_any 2 5 _).mono ?_)
  rintro e w1 ⟨rfl, hx1⟩
  have c0_0f : w1.frozen? ⟨w.heap.size, 0, none⟩ = false := hx1.froz (v := .slice none 0 0) zcv zcv
  have c0_1f : w1.frozen? ⟨w.heap.size, 1, none⟩ = false := hx1.froz (v := .slice none 0 0) zcv zcv
  have c0_0 : w1.cell? ⟨w.heap.size, 0, none⟩ = some (.slice none 0 0) := hx1.has zcv
  have c0_1 : w1.cell? ⟨w.heap.size, 1, none⟩ = some (.slice none 0 0) := hx1.has zcv
  have c1_0f : w1.frozen? ⟨w.heap.size + 1, 0, none⟩ = false := hx1.froz (v := .slice none 0 0) zcv zcv
  have c1_1f : w1.frozen? ⟨w.heap.size + 1, 1, none⟩ = false := hx1.froz (v := .slice none 0 0) zcv zcv
  have c1_0 : w1.cell? ⟨w.heap.size + 1, 0, none⟩ = some (.slice none 0 0) := hx1.has zcv
  have c1_1 : w1.cell? ⟨w.heap.size + 1, 1, none⟩ = some (.slice none 0 0) := hx1.has zcv
  have z1 := hx1.size
  try simp at z1
  have lt_c0_c1 : w.heap.size < w.heap.size + 1 := by omega
  have ne_c0_c1 : ¬ w.heap.size = w.heap.size + 1 := by omega
  have ne_c1_c0 : ¬ w.heap.size + 1 = w.heap.size := by omega
  have zq := zrc (show w.heap.size < w1.heap.size from by omega)
  obtain ⟨rc0, rc0a, rc0b, rc0c, rc0n⟩ := zq
  have zq := zrc (show w.heap.size + 1 < w1.heap.size from by omega)
  obtain ⟨rc1, rc1a, rc1b, rc1c, rc1n⟩ := zq
  have X1 : Hid (Ext w w1) := Lib.hid (Ext.trans zxt hx1)
  clear hx1
  go_wp2_with fail
  (with_reducible refine (at13_any 2 5 _).mono ?_)
  rintro e w2 ⟨rfl, hx2⟩
  replace c0_0f := zf hx2 c0_0 c0_0f
  replace c0_1f := zf hx2 c0_1 c0_1f
  replace c0_0 := zh hx2 c0_0
  replace c0_1 := zh hx2 c0_1
  replace c1_0f := zf hx2 c1_0 c1_0f
  replace c1_1f := zf hx2 c1_1 c1_1f
  replace c1_0 := zh hx2 c1_0
  replace c1_1 := zh hx2 c1_1
  have z2 := hx2.size
  try simp at z2
  have zq := zrc (show w.heap.size < w2.heap.size from by omega)
  clear rc0 rc0a rc0b rc0c rc0n
  obtain ⟨rc0, rc0a, rc0b, rc0c, rc0n⟩ := zq
  have zq := zrc (show w.heap.size + 1 < w2.heap.size from by omega)
  clear rc1 rc1a rc1b rc1c rc1n
  obtain ⟨rc1, rc1a, rc1b, rc1c, rc1n⟩ := zq
  have X2 : Hid (Ext w w2) := Lib.hid (Ext.trans zxt hx2)
  clear X1 hx2
  go_wp2_with fail
  (with_reducible refine (at13_any 3 6 _).mono ?_)
  rintro e w3 ⟨rfl, hx3⟩
  replace c0_0f := zf hx3 c0_0 c0_0f
  replace c0_1f := zf hx3 c0_1 c0_1f
  replace c0_0 := zh hx3 c0_0
  replace c0_1 := zh hx3 c0_1
  replace c1_0f := zf hx3 c1_0 c1_0f
  replace c1_1f := zf hx3 c1_1 c1_1f
  replace c1_0 := zh hx3 c1_0
  replace c1_1 := zh hx3 c1_1
  have z3 := hx3.size
  try simp at z3
  have zq := zrc (show w.heap.size < w3.heap.size from by omega)
  clear rc0 rc0a rc0b rc0c rc0n
  obtain ⟨rc0, rc0a, rc0b, rc0c, rc0n⟩ := zq
  have zq := zrc (show w.heap.size + 1 < w3.heap.size from by omega)
  clear rc1 rc1a rc1b rc1c rc1n
  obtain ⟨rc1, rc1a, rc1b, rc1c, rc1n⟩ := zq
  have X3 : Hid (Ext w w3) := Lib.hid (Ext.trans zxt hx3)
  clear X2 hx3
  go_wp2_with fail
  obtain ⟨QQ, hQ⟩ : ∃ q, q = w3.heap.size := ⟨_, rfl⟩
  have hQw : w.heap.size + 2 ≤ QQ := by omega
  rw [← hQ]
  go_loopg [4] 3 (fun gh i wx => gh ≤ 3 ∧ i = .int .i64 ((3 - gh : Nat) : Int) ∧ ∃ (B B2 : Option Addr) (d d2 : Nat), Hid (Bk wx (w.heap.size) (.slice none 0 0) (.slice none 0 0)) ∧ Hid (Bk wx (w.heap.size + 1) (.slice B (chC (3 - gh)).length d) (.slice B2 (chP (3 - gh)).length d2)) ∧ (B = none → d = 0) ∧ (B2 = none → d2 = 0) ∧ Hid (OwnCls wx (w.heap.size + 2) (.slice B (chC (3 - gh)).length d) (chC (3 - gh)).length (chC (3 - gh))) ∧ Hid (OwnPos wx (w.heap.size + 2) (.slice B2 (chP (3 - gh)).length d2) (chP (3 - gh)).length (chP (3 - gh))) ∧ Hid (∀ j v, chA[j]? = some v → wx.cell? ⟨QQ, j, none⟩ = some v) ∧ QQ < wx.heap.size ∧ Hid (Ext w wx))
  case atStart => exact ⟨Nat.le_refl _, by simp, none, none, 0, 0, Lib.hid ⟨zcv, zcv, zcv, zcv⟩, Lib.hid (show Bk _ _ (.slice none 0 0) (.slice none 0 0) from (Lib.hid ⟨zcv, zcv, zcv, zcv⟩).out), fun _ => rfl, fun _ => rfl, Lib.hid (OwnCls.nil _ _), Lib.hid (OwnPos.nil _ _), Lib.hid (by subst hQ; intro j v hv; have := sl_new w3 39 9 chA.toArray 3 rfl (by decide); obtain ⟨b9, o9, e9, _, h9⟩ := this.at_ (by decide); obtain ⟨rfl, rfl⟩ : w3.heap.size = b9 ∧ 0 = o9 := (by simpa using e9); have h8 := h9 j v hv; rw [Nat.zero_add] at h8; exact h8), by subst hQ; simp, Lib.hid zxt⟩
  case round =>
    subst hQ
    obtain ⟨hg, hi, B, B2, d, d2, BR, BH, hB, hB2, HO, HP, HA, hQr, XR⟩ := hrel
    have r_0 := BR.out.c0
    have r_1 := BR.out.c1
    have r_0f := BR.out.f0
    have r_1f := BR.out.f1
    have h_0 := BH.out.c0
    have h_1 := BH.out.c1
    have h_0f := BH.out.f0
    have h_1f := BH.out.f1
    have hlr := cell_lt r_0
    have hlh := cell_lt h_0
    have hnr : ¬ w.heap.size = wr.heap.size := by omega
    have hnh : ¬ w.heap.size + 1 = wr.heap.size := by omega
    have hnq : ¬ w3.heap.size = wr.heap.size := by omega
    have hcase : gk = 0 ∨ gk = 3 ∨ gk = 2 ∨ gk = 1 := by omega
    clear BR BH
    rcases hcase with rfl | rfl | rfl | rfl
    · change _ = Value.int .i64 3 at hi
      obtain rfl := hi
      change Hid (OwnCls _ _ (.slice B (chC 3).length d) _ (chC 3)) at HO
      change Hid (OwnPos _ _ (.slice B2 (chP 3).length d2) _ (chP 3)) at HP
      change wr.cell? _ = some (.slice B (chC 3).length d) at h_0
      change wr.cell? _ = some (.slice B2 (chP 3).length d2) at h_1
      go_wp2_with fail
      (with_reducible refine (at13_any 2 5 _).mono ?_)
      rintro e w11 ⟨rfl, hx11⟩
      replace r_0f : w11.frozen? ⟨w.heap.size, 0, none⟩ = false := hx11.froz (v := .slice none 0 0) zcv zcv
      replace r_1f : w11.frozen? ⟨w.heap.size, 1, none⟩ = false := hx11.froz (v := .slice none 0 0) zcv zcv
      replace r_0 : w11.cell? ⟨w.heap.size, 0, none⟩ = some (.slice none 0 0) := hx11.has zcv
      replace r_1 : w11.cell? ⟨w.heap.size, 1, none⟩ = some (.slice none 0 0) := hx11.has zcv
      replace h_0f : w11.frozen? ⟨w.heap.size + 1, 0, none⟩ = false := hx11.froz (v := .slice B (chC 3).length d) zcv zcv
      replace h_1f : w11.frozen? ⟨w.heap.size + 1, 1, none⟩ = false := hx11.froz (v := .slice B2 (chP 3).length d2) zcv zcv
      replace h_0 : w11.cell? ⟨w.heap.size + 1, 0, none⟩ = some (.slice B (chC 3).length d) := hx11.has zcv
      replace h_1 : w11.cell? ⟨w.heap.size + 1, 1, none⟩ = some (.slice B2 (chP 3).length d2) := hx11.has zcv
      have z11 := hx11.size
      try simp at z11
      have zq := zrc (show w.heap.size < w11.heap.size from by omega)
      obtain ⟨rr, rra, rrb, rrc, rrn⟩ := zq
      have zq := zrc (show w.heap.size + 1 < w11.heap.size from by omega)
      obtain ⟨rh, rha, rhb, rhc, rhn⟩ := zq
      replace HO := Lib.hid (HO.out.ext (Ext.trans zxt hx11))
      replace HP := Lib.hid (HP.out.ext (Ext.trans zxt hx11))
      have X11 : Hid (Ext w w11) := Lib.hid (Ext.trans zxt hx11)
      clear XR hx11
      go_wp2_with fail
      (with_reducible refine (at13_any 3 6 _).mono ?_)
      rintro e w12 ⟨rfl, hx12⟩
      replace r_0f := zf hx12 r_0 r_0f
      replace r_1f := zf hx12 r_1 r_1f
      replace r_0 := zh hx12 r_0
      replace r_1 := zh hx12 r_1
      replace h_0f := zf hx12 h_0 h_0f
      replace h_1f := zf hx12 h_1 h_1f
      replace h_0 := zh hx12 h_0
      replace h_1 := zh hx12 h_1
      have z12 := hx12.size
      try simp at z12
      have zq := zrc (show w.heap.size < w12.heap.size from by omega)
      clear rr rra rrb rrc rrn
      obtain ⟨rr, rra, rrb, rrc, rrn⟩ := zq
      have zq := zrc (show w.heap.size + 1 < w12.heap.size from by omega)
      clear rh rha rhb rhc rhn
      obtain ⟨rh, rha, rhb, rhc, rhn⟩ := zq
      replace HO := Lib.hid (HO.out.ext (Ext.trans zxt hx12))
      replace HP := Lib.hid (HP.out.ext (Ext.trans zxt hx12))
      have X12 : Hid (Ext w w12) := Lib.hid (Ext.trans zxt hx12)
      clear X11 hx12
      go_wp2_with fail
      (with_reducible refine (at13_any 2 5 _).mono ?_)
      rintro e w13 ⟨rfl, hx13⟩
      replace r_0f := zf hx13 r_0 r_0f
      replace r_1f := zf hx13 r_1 r_1f
      replace r_0 := zh hx13 r_0
      replace r_1 := zh hx13 r_1
      replace h_0f := zf hx13 h_0 h_0f
      replace h_1f := zf hx13 h_1 h_1f
      replace h_0 := zh hx13 h_0
      replace h_1 := zh hx13 h_1
      have z13 := hx13.size
      try simp at z13
      have zq := zrc (show w.heap.size < w13.heap.size from by omega)
      clear rr rra rrb rrc rrn
      obtain ⟨rr, rra, rrb, rrc, rrn⟩ := zq
      have zq := zrc (show w.heap.size + 1 < w13.heap.size from by omega)
      clear rh rha rhb rhc rhn
      obtain ⟨rh, rha, rhb, rhc, rhn⟩ := zq
      replace HO := Lib.hid (HO.out.ext (Ext.trans zxt hx13))
      replace HP := Lib.hid (HP.out.ext (Ext.trans zxt hx13))
      have X13 : Hid (Ext w w13) := Lib.hid (Ext.trans zxt hx13)
      have HQC := Lib.hid (Sl.ext (show Sl _ 6 (some ⟨w12.heap.size, 0, none⟩) 2 2 ((chC 3).flatMap clsC) from sl_new w12 79 6 #[.int .i64 2, .int .i64 5, .int .i64 (-1), .int .i64 0, .int .u64 20, .int .u64 20, .int .i64 3, .int .i64 6, .int .i64 (-1), .int .i64 0, .int .u64 7, .int .u64 7] 2 rfl (by decide)) hx13)
      clear X12 hx13
      go_wp2_with fail
      (with_reducible refine (at13_any 2 5 _).mono ?_)
      rintro e w14 ⟨rfl, hx14⟩
      replace r_0f := zf hx14 r_0 r_0f
      replace r_1f := zf hx14 r_1 r_1f
      replace r_0 := zh hx14 r_0
      replace r_1 := zh hx14 r_1
      replace h_0f := zf hx14 h_0 h_0f
      replace h_1f := zf hx14 h_1 h_1f
      replace h_0 := zh hx14 h_0
      replace h_1 := zh hx14 h_1
      have z14 := hx14.size
      try simp at z14
      have zq := zrc (show w.heap.size < w14.heap.size from by omega)
      clear rr rra rrb rrc rrn
      obtain ⟨rr, rra, rrb, rrc, rrn⟩ := zq
      have zq := zrc (show w.heap.size + 1 < w14.heap.size from by omega)
      clear rh rha rhb rhc rhn
      obtain ⟨rh, rha, rhb, rhc, rhn⟩ := zq
      replace HO := Lib.hid (HO.out.ext (Ext.trans zxt hx14))
      replace HP := Lib.hid (HP.out.ext (Ext.trans zxt hx14))
      replace HQC := Lib.hid (HQC.out.ext (Ext.trans zxt hx14))
      have X14 : Hid (Ext w w14) := Lib.hid (Ext.trans zxt hx14)
      clear X13 hx14
      go_wp2_with fail
      (with_reducible refine (at13_any 3 6 _).mono ?_)
      rintro e w15 ⟨rfl, hx15⟩
      replace r_0f := zf hx15 r_0 r_0f
      replace r_1f := zf hx15 r_1 r_1f
      replace r_0 := zh hx15 r_0
      replace r_1 := zh hx15 r_1
      replace h_0f := zf hx15 h_0 h_0f
      replace h_1f := zf hx15 h_1 h_1f
      replace h_0 := zh hx15 h_0
      replace h_1 := zh hx15 h_1
      have z15 := hx15.size
      try simp at z15
      have zq := zrc (show w.heap.size < w15.heap.size from by omega)
      clear rr rra rrb rrc rrn
      obtain ⟨rr, rra, rrb, rrc, rrn⟩ := zq
      have zq := zrc (show w.heap.size + 1 < w15.heap.size from by omega)
      clear rh rha rhb rhc rhn
      obtain ⟨rh, rha, rhb, rhc, rhn⟩ := zq
      replace HO := Lib.hid (HO.out.ext (Ext.trans zxt hx15))
      replace HP := Lib.hid (HP.out.ext (Ext.trans zxt hx15))
      replace HQC := Lib.hid (HQC.out.ext (Ext.trans zxt hx15))
      have X15 : Hid (Ext w w15) := Lib.hid (Ext.trans zxt hx15)
      clear X14 hx15
      go_wp2_with fail
      refine wp_region_held_drew (S := fun w' => w'.cell? ⟨w.heap.size + 1, 0, none⟩ = some (.slice B (chC 3).length d) ∧ w'.cell? ⟨w.heap.size + 1, 1, none⟩ = some (.slice B2 (chP 3).length d2)) (by kernel_rfl) (by first | exact ⟨h_0, h_1⟩ | (simp [go_sem, World.cell?_alloc_past, *]; done)) (fun hHeld => ?_)
      refine' zt 0 ?_
      refine' zt 1 ?_
      refine' zt 2 ?_
      refine' zt 3 ?_
      refine' zt 4 ?_
      refine' zn 5 (fun K hK => ?_)
      go_simp
      (refine (((kSameHolding_any 2 d 3 d2 2 2 3 3 B B2 (some ⟨w12.heap.size, 0, none⟩) (some ⟨w15.heap.size, 0, none⟩) (chC 3) (chP 3) (chC 3) (chP 3) (w15.alloc (.cells #[.int .i64 0, .int .i64 2, .int .i64 5, .int .i64 (-1), .int .i64 0, .int .u64 10, .int .i64 1, .int .i64 2, .int .i64 5, .int .i64 (-1), .int .i64 0, .int .u64 10, .int .i64 1, .int .i64 3, .int .i64 6, .int .i64 (-1), .int .i64 0, .int .u64 7] 82)).drew (OwnCls.sl (HO.out.ext zxt)) (OwnPos.sl (HP.out.ext zxt)) (Sl.ext HQC.out (by repeat (first | with_reducible exact Ext.refl _ | with_reducible refine Ext.drew ?_ | exact Ext.refl _ | with_reducible refine Ext.alloc ?_ _))) (Sl.ext (show Sl _ 6 (some ⟨w15.heap.size, 0, none⟩) 3 3 ((chP 3).flatMap posC) from sl_new w15 82 6 #[.int .i64 0, .int .i64 2, .int .i64 5, .int .i64 (-1), .int .i64 0, .int .u64 10, .int .i64 1, .int .i64 2, .int .i64 5, .int .i64 (-1), .int .i64 0, .int .u64 10, .int .i64 1, .int .i64 3, .int .i64 6, .int .i64 (-1), .int .i64 0, .int .u64 7] 3 rfl (by decide)) (by repeat (first | with_reducible exact Ext.refl _ | with_reducible refine Ext.drew ?_ | exact Ext.refl _ | with_reducible refine Ext.alloc ?_ _)))).mono (fun e w' h => (⟨h.1.trans (by simp), h.2⟩ : e = .returned (.bool true) ∧ Ext _ w')))).mono ?_)
      rintro e w16 ⟨rfl, hx16⟩
      replace r_0f := zf hx16 r_0 r_0f
      replace r_1f := zf hx16 r_1 r_1f
      replace r_0 := zh hx16 r_0
      replace r_1 := zh hx16 r_1
      replace h_0f := zf hx16 h_0 h_0f
      replace h_1f := zf hx16 h_1 h_1f
      replace h_0 := zh hx16 h_0
      replace h_1 := zh hx16 h_1
      have z16 := hx16.size
      try simp at z16
      have zq := zrc (show w.heap.size < w16.heap.size from by omega)
      clear rr rra rrb rrc rrn
      obtain ⟨rr, rra, rrb, rrc, rrn⟩ := zq
      have zq := zrc (show w.heap.size + 1 < w16.heap.size from by omega)
      clear rh rha rhb rhc rhn
      obtain ⟨rh, rha, rhb, rhc, rhn⟩ := zq
      replace HO := Lib.hid (HO.out.ext (Ext.trans zxt hx16))
      replace HP := Lib.hid (HP.out.ext (Ext.trans zxt hx16))
      replace HQC := Lib.hid (HQC.out.ext (Ext.trans zxt hx16))
      have X16 : Hid (Ext w w16) := Lib.hid (Ext.trans zxt hx16)
      clear X15 hx16
      refine hK.out _ _ (by (first | exact ⟨h_0, h_1⟩ | (simp [go_sem, World.cell?_alloc_past, *]; done))) (fun hHeld => ?_); clear hK K; try simp only [Act.put, List.setIfInBounds_toArray, List.set_cons_zero, List.set_cons_succ]
      refine' zn 6 (fun K hK => ?_)
      go_simp
      refine hK.out _ _ (by (first | exact ⟨h_0, h_1⟩ | (simp [go_sem, World.cell?_alloc_past, *]; done))) (fun hHeld => ?_); clear hK K; try simp only [Act.put, List.setIfInBounds_toArray, List.set_cons_zero, List.set_cons_succ]
      refine' zt 7 ?_
      refine wpAnyH_done (by kernel_rfl) ?_ _
      go_wp2_with fail
      refine bodyPost_ret (v := .tuple #[.agg #[.slice B 2 d, .slice B2 3 d2], .bool true]) (by simp [results, Tryz.results22, go_sem, World.cell?_alloc_past, chC, chP, *]; try rfl) rfl ⟨B, d, B2, d2, rfl, hB, hB2, own_lower (show World.ownsRow _ (w.heap.size + 2) _ _ _ _ _ from by repeat (first | exact HO.out | with_reducible refine own_box ?_ (by omega) | with_reducible refine World.ownsRow.drew ?_)) (show w.heap.size ≤ w.heap.size + 2 from by omega), own_lower (show World.ownsRow _ (w.heap.size + 2) _ _ _ _ _ from by repeat (first | exact HP.out | with_reducible refine own_box ?_ (by omega) | with_reducible refine World.ownsRow.drew ?_)) (show w.heap.size ≤ w.heap.size + 2 from by omega), zxt⟩
    · change _ = Value.int .i64 0 at hi
      obtain rfl := hi
      change Hid (OwnCls _ _ (.slice B (chC 0).length d) _ (chC 0)) at HO
      change Hid (OwnPos _ _ (.slice B2 (chP 0).length d2) _ (chP 0)) at HP
      change wr.cell? _ = some (.slice B (chC 0).length d) at h_0
      change wr.cell? _ = some (.slice B2 (chP 0).length d2) at h_1
      have a_0 := HA.out 0 _ rfl
      have a_1 := HA.out 1 _ rfl
      have a_2 := HA.out 2 _ rfl
      have a_3 := HA.out 3 _ rfl
      have a_4 := HA.out 4 _ rfl
      have a_5 := HA.out 5 _ rfl
      have a_6 := HA.out 6 _ rfl
      have a_7 := HA.out 7 _ rfl
      have a_8 := HA.out 8 _ rfl
      obtain ⟨wd1, wd2, wl1, wl2⟩ := ch_wd 0 (by decide)
      have CD := Lib.hid (fun (w' : World) (h1 : Sl w' 6 B (chC 0).length d ((chC 0).flatMap clsC)) (h2 : Sl w' 6 B2 (chP 0).length d2 ((chP 0).flatMap posC)) => does13_join d d2 B B2 (chC 0) (chP 0) 0 0 2 5 (-1) 0 0 0 10 (chC 1) (chP 1) 10 0 [] w' h1 h2 (by omega) (by omega) hB hB2 wd1 wd2 ⟨by decide, by decide⟩ rfl cho13_0 rfl)
      clear wd1 wd2 wl1 wl2
      go_wp2_with fail
      refine wp_region_held_drew (S := fun w' => w'.cell? ⟨w3.heap.size, 0, none⟩ = some (.int .i64 0) ∧ w'.cell? ⟨w3.heap.size, 1, none⟩ = some (.int .i64 0) ∧ w'.cell? ⟨w3.heap.size, 2, none⟩ = some (.int .i64 2) ∧ w'.cell? ⟨w3.heap.size, 3, none⟩ = some (.int .i64 5) ∧ w'.cell? ⟨w3.heap.size, 4, none⟩ = some (.int .i64 (-1)) ∧ w'.cell? ⟨w3.heap.size, 5, none⟩ = some (.int .i64 0) ∧ w'.cell? ⟨w3.heap.size, 6, none⟩ = some (.int .i64 0) ∧ w'.cell? ⟨w3.heap.size, 7, none⟩ = some (.int .i64 0) ∧ w'.cell? ⟨w3.heap.size, 8, none⟩ = some (.int .u64 10) ∧ w'.cell? ⟨w.heap.size + 1, 0, none⟩ = some (.slice B (chC 0).length d) ∧ w'.cell? ⟨w.heap.size + 1, 1, none⟩ = some (.slice B2 (chP 0).length d2)) (by kernel_rfl) (by first | exact ⟨a_0, a_1, a_2, a_3, a_4, a_5, a_6, a_7, a_8, h_0, h_1⟩ | (simp [go_sem, World.cell?_alloc_past, *]; done)) (fun hHeld => ?_)
      refine' zt 0 ?_
      refine' zt 1 ?_
      refine' zt 2 ?_
      refine' zt 3 ?_
      refine' zt 4 ?_
      refine' next2_in 5 11 rfl rfl (by kernel_rfl) (by rfl) (by rfl) (fun K hK => ?_) (fun K hK => ?_)
      · go_simp
        (with_reducible refine (CD.out _ (OwnCls.sl (HO.out.ext zxt)) (OwnPos.sl (HP.out.ext zxt))).mono ?_)
        rintro e w11 ⟨B3, d3, B4, d4, A9, c9, rfl, hB3, hB4, hO3, hO4, hL9, hx11⟩
        replace r_0f : w11.frozen? ⟨w.heap.size, 0, none⟩ = false := hx11.froz (v := .slice none 0 0) zcv zcv
        replace r_1f : w11.frozen? ⟨w.heap.size, 1, none⟩ = false := hx11.froz (v := .slice none 0 0) zcv zcv
        replace r_0 : w11.cell? ⟨w.heap.size, 0, none⟩ = some (.slice none 0 0) := hx11.has zcv
        replace r_1 : w11.cell? ⟨w.heap.size, 1, none⟩ = some (.slice none 0 0) := hx11.has zcv
        replace h_0f : w11.frozen? ⟨w.heap.size + 1, 0, none⟩ = false := hx11.froz (v := .slice B (chC 0).length d) zcv zcv
        replace h_1f : w11.frozen? ⟨w.heap.size + 1, 1, none⟩ = false := hx11.froz (v := .slice B2 (chP 0).length d2) zcv zcv
        replace h_0 : w11.cell? ⟨w.heap.size + 1, 0, none⟩ = some (.slice B (chC 0).length d) := hx11.has zcv
        replace h_1 : w11.cell? ⟨w.heap.size + 1, 1, none⟩ = some (.slice B2 (chP 0).length d2) := hx11.has zcv
        replace a_0 : w11.cell? ⟨w3.heap.size, 0, none⟩ = some (.int .i64 0) := hx11.has zcv
        replace a_1 : w11.cell? ⟨w3.heap.size, 1, none⟩ = some (.int .i64 0) := hx11.has zcv
        replace a_2 : w11.cell? ⟨w3.heap.size, 2, none⟩ = some (.int .i64 2) := hx11.has zcv
        replace a_3 : w11.cell? ⟨w3.heap.size, 3, none⟩ = some (.int .i64 5) := hx11.has zcv
        replace a_4 : w11.cell? ⟨w3.heap.size, 4, none⟩ = some (.int .i64 (-1)) := hx11.has zcv
        replace a_5 : w11.cell? ⟨w3.heap.size, 5, none⟩ = some (.int .i64 0) := hx11.has zcv
        replace a_6 : w11.cell? ⟨w3.heap.size, 6, none⟩ = some (.int .i64 0) := hx11.has zcv
        replace a_7 : w11.cell? ⟨w3.heap.size, 7, none⟩ = some (.int .i64 0) := hx11.has zcv
        replace a_8 : w11.cell? ⟨w3.heap.size, 8, none⟩ = some (.int .u64 10) := hx11.has zcv
        have z11 := hx11.size
        try simp at z11
        have zq := zrc (show w.heap.size < w11.heap.size from by omega)
        obtain ⟨rr, rra, rrb, rrc, rrn⟩ := zq
        have zq := zrc (show w.heap.size + 1 < w11.heap.size from by omega)
        obtain ⟨rh, rha, rhb, rhc, rhn⟩ := zq
        have zq := zrc (show w3.heap.size < w11.heap.size from by omega)
        obtain ⟨ra, raa, rab, rac, ran⟩ := zq
        replace HA := Lib.hid ((show ArrA _ (w3.heap.size) from by repeat (first | exact HA.out | refine ArrA.set ?_ (by omega) | refine ArrA.ext ?_ (Ext.alloc (Ext.refl _) _) | refine ArrA.ext ?_ (Ext.drew (Ext.refl _)))).ext hx11)
        have X11 : Hid (Ext w w11) := Lib.hid (Ext.trans zxt hx11)
        clear HO HP
        have HO := Lib.hid (show OwnCls _ (w.heap.size + 2) _ _ _ from own_lower hO3 zSlBas5_1)
        have HP := Lib.hid (show OwnPos _ (w.heap.size + 2) _ _ _ from own_lower hO4 zSlBas5_1)
        clear XR hx11
        have RO3 := Lib.hid (own_rng hO3)
        have RO4 := Lib.hid (own_rng hO4)
        clear hO3 hO4 hL9
        refine hK.out _ _ zSlBas5_0 (fun hHeld => ?_); clear hK K; try simp only [Act.put, List.setIfInBounds_toArray, List.set_cons_zero, List.set_cons_succ]
        refine' zt 6 ?_
        refine' zt 7 ?_
        refine' zt 8 ?_
        refine' zt 9 ?_
        refine' zt 10 ?_
        refine' zn 11 (fun K hK => ?_)
        go_simp
        refine hK.out _ _ zSlBas5_0 (fun hHeld => ?_); clear hK K; try simp only [Act.put, List.setIfInBounds_toArray, List.set_cons_zero, List.set_cons_succ]
        refine' zn 12 (fun K hK => ?_)
        go_simp
        refine hK.out _ _ zSlBas5_0 (fun hHeld => ?_); clear hK K; try simp only [Act.put, List.setIfInBounds_toArray, List.set_cons_zero, List.set_cons_succ]
        refine' zt 13 ?_
        refine' zt 14 ?_
        refine' zt 15 ?_
        refine wpAnyH_done (by kernel_rfl) ?_ _
        go_wp2_with fail
        go_roundg 2
        case measure => decide
        case rel => exact ⟨by decide, rfl, B3, B4, d3, d4, Lib.hid ⟨zcv, zcv, zcv, zcv⟩, Lib.hid (show Bk _ _ (.slice B3 (chC 1).length d3) (.slice B4 (chP 1).length d4) from (Lib.hid ⟨zcv, zcv, zcv, zcv⟩).out), hB3, hB4, Lib.hid (show OwnCls _ (w.heap.size + 2) _ _ _ from (show World.ownsRow _ (w.heap.size + 2) _ _ _ _ _ from by repeat (first | exact HO.out | refine own_set_ne ?_ (fun j hj hh => by have h9 := RO3.out j hj; first | omega | (simp at h9; omega) | (simp [go_sem] at h9; omega)) | with_reducible refine own_box ?_ (by omega) | refine own_keep ?_ (Ext.alloc (Ext.refl _) _) | with_reducible refine World.ownsRow.drew ?_))), Lib.hid (show OwnPos _ (w.heap.size + 2) _ _ _ from (show World.ownsRow _ (w.heap.size + 2) _ _ _ _ _ from by repeat (first | exact HP.out | refine own_set_ne ?_ (fun j hj hh => by have h9 := RO4.out j hj; first | omega | (simp at h9; omega) | (simp [go_sem] at h9; omega)) | with_reducible refine own_box ?_ (by omega) | refine own_keep ?_ (Ext.alloc (Ext.refl _) _) | with_reducible refine World.ownsRow.drew ?_))), Lib.hid (show ArrA _ (w3.heap.size) from by repeat (first | exact HA.out | refine ArrA.set ?_ (by omega) | refine ArrA.ext ?_ (Ext.alloc (Ext.refl _) _) | refine ArrA.ext ?_ (Ext.drew (Ext.refl _)))), by first | omega | (simp; done) | (simp; omega), Lib.hid zxt⟩
      · go_simp
        refine hK.out _ _ zSlBas5_0 (fun hHeld => ?_); clear hK K; try simp only [Act.put, List.setIfInBounds_toArray, List.set_cons_zero, List.set_cons_succ]
        refine' zn 5 (fun K hK => ?_)
        go_simp
        (with_reducible refine (CD.out _ (OwnCls.sl (HO.out.ext zxt)) (OwnPos.sl (HP.out.ext zxt))).mono ?_)
        rintro e w11 ⟨B3, d3, B4, d4, A9, c9, rfl, hB3, hB4, hO3, hO4, hL9, hx11⟩
        replace r_0f : w11.frozen? ⟨w.heap.size, 0, none⟩ = false := hx11.froz (v := .slice none 0 0) zcv zcv
        replace r_1f : w11.frozen? ⟨w.heap.size, 1, none⟩ = false := hx11.froz (v := .slice none 0 0) zcv zcv
        replace r_0 : w11.cell? ⟨w.heap.size, 0, none⟩ = some (.slice none 0 0) := hx11.has zcv
        replace r_1 : w11.cell? ⟨w.heap.size, 1, none⟩ = some (.slice none 0 0) := hx11.has zcv
        replace h_0f : w11.frozen? ⟨w.heap.size + 1, 0, none⟩ = false := hx11.froz (v := .slice B (chC 0).length d) zcv zcv
        replace h_1f : w11.frozen? ⟨w.heap.size + 1, 1, none⟩ = false := hx11.froz (v := .slice B2 (chP 0).length d2) zcv zcv
        replace h_0 : w11.cell? ⟨w.heap.size + 1, 0, none⟩ = some (.slice B (chC 0).length d) := hx11.has zcv
        replace h_1 : w11.cell? ⟨w.heap.size + 1, 1, none⟩ = some (.slice B2 (chP 0).length d2) := hx11.has zcv
        replace a_0 : w11.cell? ⟨w3.heap.size, 0, none⟩ = some (.int .i64 0) := hx11.has zcv
        replace a_1 : w11.cell? ⟨w3.heap.size, 1, none⟩ = some (.int .i64 0) := hx11.has zcv
        replace a_2 : w11.cell? ⟨w3.heap.size, 2, none⟩ = some (.int .i64 2) := hx11.has zcv
        replace a_3 : w11.cell? ⟨w3.heap.size, 3, none⟩ = some (.int .i64 5) := hx11.has zcv
        replace a_4 : w11.cell? ⟨w3.heap.size, 4, none⟩ = some (.int .i64 (-1)) := hx11.has zcv
        replace a_5 : w11.cell? ⟨w3.heap.size, 5, none⟩ = some (.int .i64 0) := hx11.has zcv
        replace a_6 : w11.cell? ⟨w3.heap.size, 6, none⟩ = some (.int .i64 0) := hx11.has zcv
        replace a_7 : w11.cell? ⟨w3.heap.size, 7, none⟩ = some (.int .i64 0) := hx11.has zcv
        replace a_8 : w11.cell? ⟨w3.heap.size, 8, none⟩ = some (.int .u64 10) := hx11.has zcv
        have c0_0f : w11.frozen? ⟨wr.heap.size, 0, none⟩ = false := hx11.froz (v := .slice none 0 0) zcv zcv
        have c0_1f : w11.frozen? ⟨wr.heap.size, 1, none⟩ = false := hx11.froz (v := .slice none 0 0) zcv zcv
        have c0_0 : w11.cell? ⟨wr.heap.size, 0, none⟩ = some (.slice none 0 0) := hx11.has zcv
        have c0_1 : w11.cell? ⟨wr.heap.size, 1, none⟩ = some (.slice none 0 0) := hx11.has zcv
        have z11 := hx11.size
        try simp at z11
        have lt_r_c0 : w.heap.size < wr.heap.size := by omega
        have ne_r_c0 : ¬ w.heap.size = wr.heap.size := by omega
        have lt_h_c0 : w.heap.size + 1 < wr.heap.size := by omega
        have ne_h_c0 : ¬ w.heap.size + 1 = wr.heap.size := by omega
        have lt_a_c0 : w3.heap.size < wr.heap.size := by omega
        have ne_a_c0 : ¬ w3.heap.size = wr.heap.size := by omega
        have ne_c0_r : ¬ wr.heap.size = w.heap.size := by omega
        have ne_c0_h : ¬ wr.heap.size = w.heap.size + 1 := by omega
        have ne_c0_a : ¬ wr.heap.size = w3.heap.size := by omega
        have zq := zrc (show w.heap.size < w11.heap.size from by omega)
        obtain ⟨rr, rra, rrb, rrc, rrn⟩ := zq
        have zq := zrc (show w.heap.size + 1 < w11.heap.size from by omega)
        obtain ⟨rh, rha, rhb, rhc, rhn⟩ := zq
        have zq := zrc (show w3.heap.size < w11.heap.size from by omega)
        obtain ⟨ra, raa, rab, rac, ran⟩ := zq
        have zq := zrc (show wr.heap.size < w11.heap.size from by omega)
        obtain ⟨rc0, rc0a, rc0b, rc0c, rc0n⟩ := zq
        replace HA := Lib.hid ((show ArrA _ (w3.heap.size) from by repeat (first | exact HA.out | refine ArrA.set ?_ (by omega) | refine ArrA.ext ?_ (Ext.alloc (Ext.refl _) _) | refine ArrA.ext ?_ (Ext.drew (Ext.refl _)))).ext hx11)
        have X11 : Hid (Ext w w11) := Lib.hid (Ext.trans zxt hx11)
        clear HO HP
        have HO := Lib.hid (show OwnCls _ (w.heap.size + 2) _ _ _ from own_lower hO3 zSlBas5_1)
        have HP := Lib.hid (show OwnPos _ (w.heap.size + 2) _ _ _ from own_lower hO4 zSlBas5_1)
        clear XR hx11
        have RO3 := Lib.hid (own_rng hO3)
        have RO4 := Lib.hid (own_rng hO4)
        clear hO3 hO4 hL9
        refine hK.out _ _ zSlBas5_0 (fun hHeld => ?_); clear hK K; try simp only [Act.put, List.setIfInBounds_toArray, List.set_cons_zero, List.set_cons_succ]
        refine' zt 6 ?_
        refine' zt 7 ?_
        refine' zt 8 ?_
        refine' zt 9 ?_
        refine' zt 10 ?_
        refine' zn 12 (fun K hK => ?_)
        go_simp
        refine hK.out _ _ zSlBas5_0 (fun hHeld => ?_); clear hK K; try simp only [Act.put, List.setIfInBounds_toArray, List.set_cons_zero, List.set_cons_succ]
        refine' zt 13 ?_
        refine' zt 14 ?_
        refine' zt 15 ?_
        refine wpAnyH_done (by kernel_rfl) ?_ _
        go_wp2_with fail
        go_roundg 2
        case measure => decide
        case rel => exact ⟨by decide, rfl, B3, B4, d3, d4, Lib.hid ⟨zcv, zcv, zcv, zcv⟩, Lib.hid (show Bk _ _ (.slice B3 (chC 1).length d3) (.slice B4 (chP 1).length d4) from (Lib.hid ⟨zcv, zcv, zcv, zcv⟩).out), hB3, hB4, Lib.hid (show OwnCls _ (w.heap.size + 2) _ _ _ from (show World.ownsRow _ (w.heap.size + 2) _ _ _ _ _ from by repeat (first | exact HO.out | refine own_set_ne ?_ (fun j hj hh => by have h9 := RO3.out j hj; first | omega | (simp at h9; omega) | (simp [go_sem] at h9; omega)) | with_reducible refine own_box ?_ (by omega) | refine own_keep ?_ (Ext.alloc (Ext.refl _) _) | with_reducible refine World.ownsRow.drew ?_))), Lib.hid (show OwnPos _ (w.heap.size + 2) _ _ _ from (show World.ownsRow _ (w.heap.size + 2) _ _ _ _ _ from by repeat (first | exact HP.out | refine own_set_ne ?_ (fun j hj hh => by have h9 := RO4.out j hj; first | omega | (simp at h9; omega) | (simp [go_sem] at h9; omega)) | with_reducible refine own_box ?_ (by omega) | refine own_keep ?_ (Ext.alloc (Ext.refl _) _) | with_reducible refine World.ownsRow.drew ?_))), Lib.hid (show ArrA _ (w3.heap.size) from by repeat (first | exact HA.out | refine ArrA.set ?_ (by omega) | refine ArrA.ext ?_ (Ext.alloc (Ext.refl _) _) | refine ArrA.ext ?_ (Ext.drew (Ext.refl _)))), by first | omega | (simp; done) | (simp; omega), Lib.hid zxt⟩
    · change _ = Value.int .i64 1 at hi
      obtain rfl := hi
      change Hid (OwnCls _ _ (.slice B (chC 1).length d) _ (chC 1)) at HO
      change Hid (OwnPos _ _ (.slice B2 (chP 1).length d2) _ (chP 1)) at HP
      change wr.cell? _ = some (.slice B (chC 1).length d) at h_0
      change wr.cell? _ = some (.slice B2 (chP 1).length d2) at h_1
      have a_0 := HA.out 9 _ rfl
      have a_1 := HA.out 10 _ rfl
      have a_2 := HA.out 11 _ rfl
      have a_3 := HA.out 12 _ rfl
      have a_4 := HA.out 13 _ rfl
      have a_5 := HA.out 14 _ rfl
      have a_6 := HA.out 15 _ rfl
      have a_7 := HA.out 16 _ rfl
      have a_8 := HA.out 17 _ rfl
      obtain ⟨wd1, wd2, wl1, wl2⟩ := ch_wd 1 (by decide)
      have CD := Lib.hid (fun (w' : World) (h1 : Sl w' 6 B (chC 1).length d ((chC 1).flatMap clsC)) (h2 : Sl w' 6 B2 (chP 1).length d2 ((chP 1).flatMap posC)) => does13_join d d2 B B2 (chC 1) (chP 1) 0 1 2 5 (-1) 0 0 0 10 (chC 2) (chP 2) 10 0 [] w' h1 h2 (by omega) (by omega) hB hB2 wd1 wd2 ⟨by decide, by decide⟩ rfl cho13_1 rfl)
      clear wd1 wd2 wl1 wl2
      go_wp2_with fail
      refine wp_region_held_drew (S := fun w' => w'.cell? ⟨w3.heap.size, 9, none⟩ = some (.int .i64 0) ∧ w'.cell? ⟨w3.heap.size, 9 + 1, none⟩ = some (.int .i64 1) ∧ w'.cell? ⟨w3.heap.size, 9 + 2, none⟩ = some (.int .i64 2) ∧ w'.cell? ⟨w3.heap.size, 9 + 3, none⟩ = some (.int .i64 5) ∧ w'.cell? ⟨w3.heap.size, 9 + 4, none⟩ = some (.int .i64 (-1)) ∧ w'.cell? ⟨w3.heap.size, 9 + 5, none⟩ = some (.int .i64 0) ∧ w'.cell? ⟨w3.heap.size, 9 + 6, none⟩ = some (.int .i64 0) ∧ w'.cell? ⟨w3.heap.size, 9 + 7, none⟩ = some (.int .i64 0) ∧ w'.cell? ⟨w3.heap.size, 9 + 8, none⟩ = some (.int .u64 10) ∧ w'.cell? ⟨w.heap.size + 1, 0, none⟩ = some (.slice B (chC 1).length d) ∧ w'.cell? ⟨w.heap.size + 1, 1, none⟩ = some (.slice B2 (chP 1).length d2)) (by kernel_rfl) (by first | exact ⟨a_0, a_1, a_2, a_3, a_4, a_5, a_6, a_7, a_8, h_0, h_1⟩ | (simp [go_sem, World.cell?_alloc_past, *]; done)) (fun hHeld => ?_)
      refine' zt 0 ?_
      refine' zt 1 ?_
      refine' zt 2 ?_
      refine' zt 3 ?_
      refine' zt 4 ?_
      refine' next2_in 5 11 rfl rfl (by kernel_rfl) (by rfl) (by rfl) (fun K hK => ?_) (fun K hK => ?_)
      · go_simp
        (with_reducible refine (CD.out _ (OwnCls.sl (HO.out.ext zxt)) (OwnPos.sl (HP.out.ext zxt))).mono ?_)
        rintro e w11 ⟨B3, d3, B4, d4, A9, c9, rfl, hB3, hB4, hO3, hO4, hL9, hx11⟩
        replace r_0f : w11.frozen? ⟨w.heap.size, 0, none⟩ = false := hx11.froz (v := .slice none 0 0) zcv zcv
        replace r_1f : w11.frozen? ⟨w.heap.size, 1, none⟩ = false := hx11.froz (v := .slice none 0 0) zcv zcv
        replace r_0 : w11.cell? ⟨w.heap.size, 0, none⟩ = some (.slice none 0 0) := hx11.has zcv
        replace r_1 : w11.cell? ⟨w.heap.size, 1, none⟩ = some (.slice none 0 0) := hx11.has zcv
        replace h_0f : w11.frozen? ⟨w.heap.size + 1, 0, none⟩ = false := hx11.froz (v := .slice B (chC 1).length d) zcv zcv
        replace h_1f : w11.frozen? ⟨w.heap.size + 1, 1, none⟩ = false := hx11.froz (v := .slice B2 (chP 1).length d2) zcv zcv
        replace h_0 : w11.cell? ⟨w.heap.size + 1, 0, none⟩ = some (.slice B (chC 1).length d) := hx11.has zcv
        replace h_1 : w11.cell? ⟨w.heap.size + 1, 1, none⟩ = some (.slice B2 (chP 1).length d2) := hx11.has zcv
        replace a_0 : w11.cell? ⟨w3.heap.size, 9, none⟩ = some (.int .i64 0) := hx11.has zcv
        replace a_1 : w11.cell? ⟨w3.heap.size, 9 + 1, none⟩ = some (.int .i64 1) := hx11.has zcv
        replace a_2 : w11.cell? ⟨w3.heap.size, 9 + 2, none⟩ = some (.int .i64 2) := hx11.has zcv
        replace a_3 : w11.cell? ⟨w3.heap.size, 9 + 3, none⟩ = some (.int .i64 5) := hx11.has zcv
        replace a_4 : w11.cell? ⟨w3.heap.size, 9 + 4, none⟩ = some (.int .i64 (-1)) := hx11.has zcv
        replace a_5 : w11.cell? ⟨w3.heap.size, 9 + 5, none⟩ = some (.int .i64 0) := hx11.has zcv
        replace a_6 : w11.cell? ⟨w3.heap.size, 9 + 6, none⟩ = some (.int .i64 0) := hx11.has zcv
        replace a_7 : w11.cell? ⟨w3.heap.size, 9 + 7, none⟩ = some (.int .i64 0) := hx11.has zcv
        replace a_8 : w11.cell? ⟨w3.heap.size, 9 + 8, none⟩ = some (.int .u64 10) := hx11.has zcv
        have z11 := hx11.size
        try simp at z11
        have zq := zrc (show w.heap.size < w11.heap.size from by omega)
        obtain ⟨rr, rra, rrb, rrc, rrn⟩ := zq
        have zq := zrc (show w.heap.size + 1 < w11.heap.size from by omega)
        obtain ⟨rh, rha, rhb, rhc, rhn⟩ := zq
        have zq := zrc (show w3.heap.size < w11.heap.size from by omega)
        obtain ⟨ra, raa, rab, rac, ran⟩ := zq
        replace HA := Lib.hid ((show ArrA _ (w3.heap.size) from by repeat (first | exact HA.out | refine ArrA.set ?_ (by omega) | refine ArrA.ext ?_ (Ext.alloc (Ext.refl _) _) | refine ArrA.ext ?_ (Ext.drew (Ext.refl _)))).ext hx11)
        have X11 : Hid (Ext w w11) := Lib.hid (Ext.trans zxt hx11)
        clear HO HP
        have HO := Lib.hid (show OwnCls _ (w.heap.size + 2) _ _ _ from own_lower hO3 zSlBas5_1)
        have HP := Lib.hid (show OwnPos _ (w.heap.size + 2) _ _ _ from own_lower hO4 zSlBas5_1)
        clear XR hx11
        have RO3 := Lib.hid (own_rng hO3)
        have RO4 := Lib.hid (own_rng hO4)
        clear hO3 hO4 hL9
        refine hK.out _ _ zSlBas5_0 (fun hHeld => ?_); clear hK K; try simp only [Act.put, List.setIfInBounds_toArray, List.set_cons_zero, List.set_cons_succ]
        refine' zt 6 ?_
        refine' zt 7 ?_
        refine' zt 8 ?_
        refine' zt 9 ?_
        refine' zt 10 ?_
        refine' zn 11 (fun K hK => ?_)
        go_simp
        refine hK.out _ _ zSlBas5_0 (fun hHeld => ?_); clear hK K; try simp only [Act.put, List.setIfInBounds_toArray, List.set_cons_zero, List.set_cons_succ]
        refine' zn 12 (fun K hK => ?_)
        go_simp
        refine hK.out _ _ zSlBas5_0 (fun hHeld => ?_); clear hK K; try simp only [Act.put, List.setIfInBounds_toArray, List.set_cons_zero, List.set_cons_succ]
        refine' zt 13 ?_
        refine' zt 14 ?_
        refine' zt 15 ?_
        refine wpAnyH_done (by kernel_rfl) ?_ _
        go_wp2_with fail
        go_roundg 1
        case measure => decide
        case rel => exact ⟨by decide, rfl, B3, B4, d3, d4, Lib.hid ⟨zcv, zcv, zcv, zcv⟩, Lib.hid (show Bk _ _ (.slice B3 (chC 2).length d3) (.slice B4 (chP 2).length d4) from (Lib.hid ⟨zcv, zcv, zcv, zcv⟩).out), hB3, hB4, Lib.hid (show OwnCls _ (w.heap.size + 2) _ _ _ from (show World.ownsRow _ (w.heap.size + 2) _ _ _ _ _ from by repeat (first | exact HO.out | refine own_set_ne ?_ (fun j hj hh => by have h9 := RO3.out j hj; first | omega | (simp at h9; omega) | (simp [go_sem] at h9; omega)) | with_reducible refine own_box ?_ (by omega) | refine own_keep ?_ (Ext.alloc (Ext.refl _) _) | with_reducible refine World.ownsRow.drew ?_))), Lib.hid (show OwnPos _ (w.heap.size + 2) _ _ _ from (show World.ownsRow _ (w.heap.size + 2) _ _ _ _ _ from by repeat (first | exact HP.out | refine own_set_ne ?_ (fun j hj hh => by have h9 := RO4.out j hj; first | omega | (simp at h9; omega) | (simp [go_sem] at h9; omega)) | with_reducible refine own_box ?_ (by omega) | refine own_keep ?_ (Ext.alloc (Ext.refl _) _) | with_reducible refine World.ownsRow.drew ?_))), Lib.hid (show ArrA _ (w3.heap.size) from by repeat (first | exact HA.out | refine ArrA.set ?_ (by omega) | refine ArrA.ext ?_ (Ext.alloc (Ext.refl _) _) | refine ArrA.ext ?_ (Ext.drew (Ext.refl _)))), by first | omega | (simp; done) | (simp; omega), Lib.hid zxt⟩
      · go_simp
        refine hK.out _ _ zSlBas5_0 (fun hHeld => ?_); clear hK K; try simp only [Act.put, List.setIfInBounds_toArray, List.set_cons_zero, List.set_cons_succ]
        refine' zn 5 (fun K hK => ?_)
        go_simp
        (with_reducible refine (CD.out _ (OwnCls.sl (HO.out.ext zxt)) (OwnPos.sl (HP.out.ext zxt))).mono ?_)
        rintro e w11 ⟨B3, d3, B4, d4, A9, c9, rfl, hB3, hB4, hO3, hO4, hL9, hx11⟩
        replace r_0f : w11.frozen? ⟨w.heap.size, 0, none⟩ = false := hx11.froz (v := .slice none 0 0) zcv zcv
        replace r_1f : w11.frozen? ⟨w.heap.size, 1, none⟩ = false := hx11.froz (v := .slice none 0 0) zcv zcv
        replace r_0 : w11.cell? ⟨w.heap.size, 0, none⟩ = some (.slice none 0 0) := hx11.has zcv
        replace r_1 : w11.cell? ⟨w.heap.size, 1, none⟩ = some (.slice none 0 0) := hx11.has zcv
        replace h_0f : w11.frozen? ⟨w.heap.size + 1, 0, none⟩ = false := hx11.froz (v := .slice B (chC 1).length d) zcv zcv
        replace h_1f : w11.frozen? ⟨w.heap.size + 1, 1, none⟩ = false := hx11.froz (v := .slice B2 (chP 1).length d2) zcv zcv
        replace h_0 : w11.cell? ⟨w.heap.size + 1, 0, none⟩ = some (.slice B (chC 1).length d) := hx11.has zcv
        replace h_1 : w11.cell? ⟨w.heap.size + 1, 1, none⟩ = some (.slice B2 (chP 1).length d2) := hx11.has zcv
        replace a_0 : w11.cell? ⟨w3.heap.size, 9, none⟩ = some (.int .i64 0) := hx11.has zcv
        replace a_1 : w11.cell? ⟨w3.heap.size, 9 + 1, none⟩ = some (.int .i64 1) := hx11.has zcv
        replace a_2 : w11.cell? ⟨w3.heap.size, 9 + 2, none⟩ = some (.int .i64 2) := hx11.has zcv
        replace a_3 : w11.cell? ⟨w3.heap.size, 9 + 3, none⟩ = some (.int .i64 5) := hx11.has zcv
        replace a_4 : w11.cell? ⟨w3.heap.size, 9 + 4, none⟩ = some (.int .i64 (-1)) := hx11.has zcv
        replace a_5 : w11.cell? ⟨w3.heap.size, 9 + 5, none⟩ = some (.int .i64 0) := hx11.has zcv
        replace a_6 : w11.cell? ⟨w3.heap.size, 9 + 6, none⟩ = some (.int .i64 0) := hx11.has zcv
        replace a_7 : w11.cell? ⟨w3.heap.size, 9 + 7, none⟩ = some (.int .i64 0) := hx11.has zcv
        replace a_8 : w11.cell? ⟨w3.heap.size, 9 + 8, none⟩ = some (.int .u64 10) := hx11.has zcv
        have c0_0f : w11.frozen? ⟨wr.heap.size, 0, none⟩ = false := hx11.froz (v := .slice none 0 0) zcv zcv
        have c0_1f : w11.frozen? ⟨wr.heap.size, 1, none⟩ = false := hx11.froz (v := .slice none 0 0) zcv zcv
        have c0_0 : w11.cell? ⟨wr.heap.size, 0, none⟩ = some (.slice none 0 0) := hx11.has zcv
        have c0_1 : w11.cell? ⟨wr.heap.size, 1, none⟩ = some (.slice none 0 0) := hx11.has zcv
        have z11 := hx11.size
        try simp at z11
        have lt_r_c0 : w.heap.size < wr.heap.size := by omega
        have ne_r_c0 : ¬ w.heap.size = wr.heap.size := by omega
        have lt_h_c0 : w.heap.size + 1 < wr.heap.size := by omega
        have ne_h_c0 : ¬ w.heap.size + 1 = wr.heap.size := by omega
        have lt_a_c0 : w3.heap.size < wr.heap.size := by omega
        have ne_a_c0 : ¬ w3.heap.size = wr.heap.size := by omega
        have ne_c0_r : ¬ wr.heap.size = w.heap.size := by omega
        have ne_c0_h : ¬ wr.heap.size = w.heap.size + 1 := by omega
        have ne_c0_a : ¬ wr.heap.size = w3.heap.size := by omega
        have zq := zrc (show w.heap.size < w11.heap.size from by omega)
        obtain ⟨rr, rra, rrb, rrc, rrn⟩ := zq
        have zq := zrc (show w.heap.size + 1 < w11.heap.size from by omega)
        obtain ⟨rh, rha, rhb, rhc, rhn⟩ := zq
        have zq := zrc (show w3.heap.size < w11.heap.size from by omega)
        obtain ⟨ra, raa, rab, rac, ran⟩ := zq
        have zq := zrc (show wr.heap.size < w11.heap.size from by omega)
        obtain ⟨rc0, rc0a, rc0b, rc0c, rc0n⟩ := zq
        replace HA := Lib.hid ((show ArrA _ (w3.heap.size) from by repeat (first | exact HA.out | refine ArrA.set ?_ (by omega) | refine ArrA.ext ?_ (Ext.alloc (Ext.refl _) _) | refine ArrA.ext ?_ (Ext.drew (Ext.refl _)))).ext hx11)
        have X11 : Hid (Ext w w11) := Lib.hid (Ext.trans zxt hx11)
        clear HO HP
        have HO := Lib.hid (show OwnCls _ (w.heap.size + 2) _ _ _ from own_lower hO3 zSlBas5_1)
        have HP := Lib.hid (show OwnPos _ (w.heap.size + 2) _ _ _ from own_lower hO4 zSlBas5_1)
        clear XR hx11
        have RO3 := Lib.hid (own_rng hO3)
        have RO4 := Lib.hid (own_rng hO4)
        clear hO3 hO4 hL9
        refine hK.out _ _ zSlBas5_0 (fun hHeld => ?_); clear hK K; try simp only [Act.put, List.setIfInBounds_toArray, List.set_cons_zero, List.set_cons_succ]
        refine' zt 6 ?_
        refine' zt 7 ?_
        refine' zt 8 ?_
        refine' zt 9 ?_
        refine' zt 10 ?_
        refine' zn 12 (fun K hK => ?_)
        go_simp
        refine hK.out _ _ zSlBas5_0 (fun hHeld => ?_); clear hK K; try simp only [Act.put, List.setIfInBounds_toArray, List.set_cons_zero, List.set_cons_succ]
        refine' zt 13 ?_
        refine' zt 14 ?_
        refine' zt 15 ?_
        refine wpAnyH_done (by kernel_rfl) ?_ _
        go_wp2_with fail
        go_roundg 1
        case measure => decide
        case rel => exact ⟨by decide, rfl, B3, B4, d3, d4, Lib.hid ⟨zcv, zcv, zcv, zcv⟩, Lib.hid (show Bk _ _ (.slice B3 (chC 2).length d3) (.slice B4 (chP 2).length d4) from (Lib.hid ⟨zcv, zcv, zcv, zcv⟩).out), hB3, hB4, Lib.hid (show OwnCls _ (w.heap.size + 2) _ _ _ from (show World.ownsRow _ (w.heap.size + 2) _ _ _ _ _ from by repeat (first | exact HO.out | refine own_set_ne ?_ (fun j hj hh => by have h9 := RO3.out j hj; first | omega | (simp at h9; omega) | (simp [go_sem] at h9; omega)) | with_reducible refine own_box ?_ (by omega) | refine own_keep ?_ (Ext.alloc (Ext.refl _) _) | with_reducible refine World.ownsRow.drew ?_))), Lib.hid (show OwnPos _ (w.heap.size + 2) _ _ _ from (show World.ownsRow _ (w.heap.size + 2) _ _ _ _ _ from by repeat (first | exact HP.out | refine own_set_ne ?_ (fun j hj hh => by have h9 := RO4.out j hj; first | omega | (simp at h9; omega) | (simp [go_sem] at h9; omega)) | with_reducible refine own_box ?_ (by omega) | refine own_keep ?_ (Ext.alloc (Ext.refl _) _) | with_reducible refine World.ownsRow.drew ?_))), Lib.hid (show ArrA _ (w3.heap.size) from by repeat (first | exact HA.out | refine ArrA.set ?_ (by omega) | refine ArrA.ext ?_ (Ext.alloc (Ext.refl _) _) | refine ArrA.ext ?_ (Ext.drew (Ext.refl _)))), by first | omega | (simp; done) | (simp; omega), Lib.hid zxt⟩
    · change _ = Value.int .i64 2 at hi
      obtain rfl := hi
      change Hid (OwnCls _ _ (.slice B (chC 2).length d) _ (chC 2)) at HO
      change Hid (OwnPos _ _ (.slice B2 (chP 2).length d2) _ (chP 2)) at HP
      change wr.cell? _ = some (.slice B (chC 2).length d) at h_0
      change wr.cell? _ = some (.slice B2 (chP 2).length d2) at h_1
      have a_0 := HA.out 18 _ rfl
      have a_1 := HA.out 19 _ rfl
      have a_2 := HA.out 20 _ rfl
      have a_3 := HA.out 21 _ rfl
      have a_4 := HA.out 22 _ rfl
      have a_5 := HA.out 23 _ rfl
      have a_6 := HA.out 24 _ rfl
      have a_7 := HA.out 25 _ rfl
      have a_8 := HA.out 26 _ rfl
      obtain ⟨wd1, wd2, wl1, wl2⟩ := ch_wd 2 (by decide)
      have CD := Lib.hid (fun (w' : World) (h1 : Sl w' 6 B (chC 2).length d ((chC 2).flatMap clsC)) (h2 : Sl w' 6 B2 (chP 2).length d2 ((chP 2).flatMap posC)) => does13_join d d2 B B2 (chC 2) (chP 2) 0 1 3 6 (-1) 0 0 0 7 (chC 3) (chP 3) 7 0 [] w' h1 h2 (by omega) (by omega) hB hB2 wd1 wd2 ⟨by decide, by decide⟩ rfl cho13_2 rfl)
      clear wd1 wd2 wl1 wl2
      go_wp2_with fail
      refine wp_region_held_drew (S := fun w' => w'.cell? ⟨w3.heap.size, 18, none⟩ = some (.int .i64 0) ∧ w'.cell? ⟨w3.heap.size, 18 + 1, none⟩ = some (.int .i64 1) ∧ w'.cell? ⟨w3.heap.size, 18 + 2, none⟩ = some (.int .i64 3) ∧ w'.cell? ⟨w3.heap.size, 18 + 3, none⟩ = some (.int .i64 6) ∧ w'.cell? ⟨w3.heap.size, 18 + 4, none⟩ = some (.int .i64 (-1)) ∧ w'.cell? ⟨w3.heap.size, 18 + 5, none⟩ = some (.int .i64 0) ∧ w'.cell? ⟨w3.heap.size, 18 + 6, none⟩ = some (.int .i64 0) ∧ w'.cell? ⟨w3.heap.size, 18 + 7, none⟩ = some (.int .i64 0) ∧ w'.cell? ⟨w3.heap.size, 18 + 8, none⟩ = some (.int .u64 7) ∧ w'.cell? ⟨w.heap.size + 1, 0, none⟩ = some (.slice B (chC 2).length d) ∧ w'.cell? ⟨w.heap.size + 1, 1, none⟩ = some (.slice B2 (chP 2).length d2)) (by kernel_rfl) (by first | exact ⟨a_0, a_1, a_2, a_3, a_4, a_5, a_6, a_7, a_8, h_0, h_1⟩ | (simp [go_sem, World.cell?_alloc_past, *]; done)) (fun hHeld => ?_)
      refine' zt 0 ?_
      refine' zt 1 ?_
      refine' zt 2 ?_
      refine' zt 3 ?_
      refine' zt 4 ?_
      refine' next2_in 5 11 rfl rfl (by kernel_rfl) (by rfl) (by rfl) (fun K hK => ?_) (fun K hK => ?_)
      · go_simp
        (with_reducible refine (CD.out _ (OwnCls.sl (HO.out.ext zxt)) (OwnPos.sl (HP.out.ext zxt))).mono ?_)
        rintro e w11 ⟨B3, d3, B4, d4, A9, c9, rfl, hB3, hB4, hO3, hO4, hL9, hx11⟩
        replace r_0f : w11.frozen? ⟨w.heap.size, 0, none⟩ = false := hx11.froz (v := .slice none 0 0) zcv zcv
        replace r_1f : w11.frozen? ⟨w.heap.size, 1, none⟩ = false := hx11.froz (v := .slice none 0 0) zcv zcv
        replace r_0 : w11.cell? ⟨w.heap.size, 0, none⟩ = some (.slice none 0 0) := hx11.has zcv
        replace r_1 : w11.cell? ⟨w.heap.size, 1, none⟩ = some (.slice none 0 0) := hx11.has zcv
        replace h_0f : w11.frozen? ⟨w.heap.size + 1, 0, none⟩ = false := hx11.froz (v := .slice B (chC 2).length d) zcv zcv
        replace h_1f : w11.frozen? ⟨w.heap.size + 1, 1, none⟩ = false := hx11.froz (v := .slice B2 (chP 2).length d2) zcv zcv
        replace h_0 : w11.cell? ⟨w.heap.size + 1, 0, none⟩ = some (.slice B (chC 2).length d) := hx11.has zcv
        replace h_1 : w11.cell? ⟨w.heap.size + 1, 1, none⟩ = some (.slice B2 (chP 2).length d2) := hx11.has zcv
        replace a_0 : w11.cell? ⟨w3.heap.size, 18, none⟩ = some (.int .i64 0) := hx11.has zcv
        replace a_1 : w11.cell? ⟨w3.heap.size, 18 + 1, none⟩ = some (.int .i64 1) := hx11.has zcv
        replace a_2 : w11.cell? ⟨w3.heap.size, 18 + 2, none⟩ = some (.int .i64 3) := hx11.has zcv
        replace a_3 : w11.cell? ⟨w3.heap.size, 18 + 3, none⟩ = some (.int .i64 6) := hx11.has zcv
        replace a_4 : w11.cell? ⟨w3.heap.size, 18 + 4, none⟩ = some (.int .i64 (-1)) := hx11.has zcv
        replace a_5 : w11.cell? ⟨w3.heap.size, 18 + 5, none⟩ = some (.int .i64 0) := hx11.has zcv
        replace a_6 : w11.cell? ⟨w3.heap.size, 18 + 6, none⟩ = some (.int .i64 0) := hx11.has zcv
        replace a_7 : w11.cell? ⟨w3.heap.size, 18 + 7, none⟩ = some (.int .i64 0) := hx11.has zcv
        replace a_8 : w11.cell? ⟨w3.heap.size, 18 + 8, none⟩ = some (.int .u64 7) := hx11.has zcv
        have z11 := hx11.size
        try simp at z11
        have zq := zrc (show w.heap.size < w11.heap.size from by omega)
        obtain ⟨rr, rra, rrb, rrc, rrn⟩ := zq
        have zq := zrc (show w.heap.size + 1 < w11.heap.size from by omega)
        obtain ⟨rh, rha, rhb, rhc, rhn⟩ := zq
        have zq := zrc (show w3.heap.size < w11.heap.size from by omega)
        obtain ⟨ra, raa, rab, rac, ran⟩ := zq
        replace HA := Lib.hid ((show ArrA _ (w3.heap.size) from by repeat (first | exact HA.out | refine ArrA.set ?_ (by omega) | refine ArrA.ext ?_ (Ext.alloc (Ext.refl _) _) | refine ArrA.ext ?_ (Ext.drew (Ext.refl _)))).ext hx11)
        have X11 : Hid (Ext w w11) := Lib.hid (Ext.trans zxt hx11)
        clear HO HP
        have HO := Lib.hid (show OwnCls _ (w.heap.size + 2) _ _ _ from own_lower hO3 zSlBas5_1)
        have HP := Lib.hid (show OwnPos _ (w.heap.size + 2) _ _ _ from own_lower hO4 zSlBas5_1)
        clear XR hx11
        have RO3 := Lib.hid (own_rng hO3)
        have RO4 := Lib.hid (own_rng hO4)
        clear hO3 hO4 hL9
        refine hK.out _ _ zSlBas5_0 (fun hHeld => ?_); clear hK K; try simp only [Act.put, List.setIfInBounds_toArray, List.set_cons_zero, List.set_cons_succ]
        refine' zt 6 ?_
        refine' zt 7 ?_
        refine' zt 8 ?_
        refine' zt 9 ?_
        refine' zt 10 ?_
        refine' zn 11 (fun K hK => ?_)
        go_simp
        refine hK.out _ _ zSlBas5_0 (fun hHeld => ?_); clear hK K; try simp only [Act.put, List.setIfInBounds_toArray, List.set_cons_zero, List.set_cons_succ]
        refine' zn 12 (fun K hK => ?_)
        go_simp
        refine hK.out _ _ zSlBas5_0 (fun hHeld => ?_); clear hK K; try simp only [Act.put, List.setIfInBounds_toArray, List.set_cons_zero, List.set_cons_succ]
        refine' zt 13 ?_
        refine' zt 14 ?_
        refine' zt 15 ?_
        refine wpAnyH_done (by kernel_rfl) ?_ _
        go_wp2_with fail
        go_roundg 0
        case measure => decide
        case rel => exact ⟨by decide, rfl, B3, B4, d3, d4, Lib.hid ⟨zcv, zcv, zcv, zcv⟩, Lib.hid (show Bk _ _ (.slice B3 (chC 3).length d3) (.slice B4 (chP 3).length d4) from (Lib.hid ⟨zcv, zcv, zcv, zcv⟩).out), hB3, hB4, Lib.hid (show OwnCls _ (w.heap.size + 2) _ _ _ from (show World.ownsRow _ (w.heap.size + 2) _ _ _ _ _ from by repeat (first | exact HO.out | refine own_set_ne ?_ (fun j hj hh => by have h9 := RO3.out j hj; first | omega | (simp at h9; omega) | (simp [go_sem] at h9; omega)) | with_reducible refine own_box ?_ (by omega) | refine own_keep ?_ (Ext.alloc (Ext.refl _) _) | with_reducible refine World.ownsRow.drew ?_))), Lib.hid (show OwnPos _ (w.heap.size + 2) _ _ _ from (show World.ownsRow _ (w.heap.size + 2) _ _ _ _ _ from by repeat (first | exact HP.out | refine own_set_ne ?_ (fun j hj hh => by have h9 := RO4.out j hj; first | omega | (simp at h9; omega) | (simp [go_sem] at h9; omega)) | with_reducible refine own_box ?_ (by omega) | refine own_keep ?_ (Ext.alloc (Ext.refl _) _) | with_reducible refine World.ownsRow.drew ?_))), Lib.hid (show ArrA _ (w3.heap.size) from by repeat (first | exact HA.out | refine ArrA.set ?_ (by omega) | refine ArrA.ext ?_ (Ext.alloc (Ext.refl _) _) | refine ArrA.ext ?_ (Ext.drew (Ext.refl _)))), by first | omega | (simp; done) | (simp; omega), Lib.hid zxt⟩
      · go_simp
        refine hK.out _ _ zSlBas5_0 (fun hHeld => ?_); clear hK K; try simp only [Act.put, List.setIfInBounds_toArray, List.set_cons_zero, List.set_cons_succ]
        refine' zn 5 (fun K hK => ?_)
        go_simp
        (with_reducible refine (CD.out _ (OwnCls.sl (HO.out.ext zxt)) (OwnPos.sl (HP.out.ext zxt))).mono ?_)
        rintro e w11 ⟨B3, d3, B4, d4, A9, c9, rfl, hB3, hB4, hO3, hO4, hL9, hx11⟩
        replace r_0f : w11.frozen? ⟨w.heap.size, 0, none⟩ = false := hx11.froz (v := .slice none 0 0) zcv zcv
        replace r_1f : w11.frozen? ⟨w.heap.size, 1, none⟩ = false := hx11.froz (v := .slice none 0 0) zcv zcv
        replace r_0 : w11.cell? ⟨w.heap.size, 0, none⟩ = some (.slice none 0 0) := hx11.has zcv
        replace r_1 : w11.cell? ⟨w.heap.size, 1, none⟩ = some (.slice none 0 0) := hx11.has zcv
        replace h_0f : w11.frozen? ⟨w.heap.size + 1, 0, none⟩ = false := hx11.froz (v := .slice B (chC 2).length d) zcv zcv
        replace h_1f : w11.frozen? ⟨w.heap.size + 1, 1, none⟩ = false := hx11.froz (v := .slice B2 (chP 2).length d2) zcv zcv
        replace h_0 : w11.cell? ⟨w.heap.size + 1, 0, none⟩ = some (.slice B (chC 2).length d) := hx11.has zcv
        replace h_1 : w11.cell? ⟨w.heap.size + 1, 1, none⟩ = some (.slice B2 (chP 2).length d2) := hx11.has zcv
        replace a_0 : w11.cell? ⟨w3.heap.size, 18, none⟩ = some (.int .i64 0) := hx11.has zcv
        replace a_1 : w11.cell? ⟨w3.heap.size, 18 + 1, none⟩ = some (.int .i64 1) := hx11.has zcv
        replace a_2 : w11.cell? ⟨w3.heap.size, 18 + 2, none⟩ = some (.int .i64 3) := hx11.has zcv
        replace a_3 : w11.cell? ⟨w3.heap.size, 18 + 3, none⟩ = some (.int .i64 6) := hx11.has zcv
        replace a_4 : w11.cell? ⟨w3.heap.size, 18 + 4, none⟩ = some (.int .i64 (-1)) := hx11.has zcv
        replace a_5 : w11.cell? ⟨w3.heap.size, 18 + 5, none⟩ = some (.int .i64 0) := hx11.has zcv
        replace a_6 : w11.cell? ⟨w3.heap.size, 18 + 6, none⟩ = some (.int .i64 0) := hx11.has zcv
        replace a_7 : w11.cell? ⟨w3.heap.size, 18 + 7, none⟩ = some (.int .i64 0) := hx11.has zcv
        replace a_8 : w11.cell? ⟨w3.heap.size, 18 + 8, none⟩ = some (.int .u64 7) := hx11.has zcv
        have c0_0f : w11.frozen? ⟨wr.heap.size, 0, none⟩ = false := hx11.froz (v := .slice none 0 0) zcv zcv
        have c0_1f : w11.frozen? ⟨wr.heap.size, 1, none⟩ = false := hx11.froz (v := .slice none 0 0) zcv zcv
        have c0_0 : w11.cell? ⟨wr.heap.size, 0, none⟩ = some (.slice none 0 0) := hx11.has zcv
        have c0_1 : w11.cell? ⟨wr.heap.size, 1, none⟩ = some (.slice none 0 0) := hx11.has zcv
        have z11 := hx11.size
        try simp at z11
        have lt_r_c0 : w.heap.size < wr.heap.size := by omega
        have ne_r_c0 : ¬ w.heap.size = wr.heap.size := by omega
        have lt_h_c0 : w.heap.size + 1 < wr.heap.size := by omega
        have ne_h_c0 : ¬ w.heap.size + 1 = wr.heap.size := by omega
        have lt_a_c0 : w3.heap.size < wr.heap.size := by omega
        have ne_a_c0 : ¬ w3.heap.size = wr.heap.size := by omega
        have ne_c0_r : ¬ wr.heap.size = w.heap.size := by omega
        have ne_c0_h : ¬ wr.heap.size = w.heap.size + 1 := by omega
        have ne_c0_a : ¬ wr.heap.size = w3.heap.size := by omega
        have zq := zrc (show w.heap.size < w11.heap.size from by omega)
        obtain ⟨rr, rra, rrb, rrc, rrn⟩ := zq
        have zq := zrc (show w.heap.size + 1 < w11.heap.size from by omega)
        obtain ⟨rh, rha, rhb, rhc, rhn⟩ := zq
        have zq := zrc (show w3.heap.size < w11.heap.size from by omega)
        obtain ⟨ra, raa, rab, rac, ran⟩ := zq
        have zq := zrc (show wr.heap.size < w11.heap.size from by omega)
        obtain ⟨rc0, rc0a, rc0b, rc0c, rc0n⟩ := zq
        replace HA := Lib.hid ((show ArrA _ (w3.heap.size) from by repeat (first | exact HA.out | refine ArrA.set ?_ (by omega) | refine ArrA.ext ?_ (Ext.alloc (Ext.refl _) _) | refine ArrA.ext ?_ (Ext.drew (Ext.refl _)))).ext hx11)
        have X11 : Hid (Ext w w11) := Lib.hid (Ext.trans zxt hx11)
        clear HO HP
        have HO := Lib.hid (show OwnCls _ (w.heap.size + 2) _ _ _ from own_lower hO3 zSlBas5_1)
        have HP := Lib.hid (show OwnPos _ (w.heap.size + 2) _ _ _ from own_lower hO4 zSlBas5_1)
        clear XR hx11
        have RO3 := Lib.hid (own_rng hO3)
        have RO4 := Lib.hid (own_rng hO4)
        clear hO3 hO4 hL9
        refine hK.out _ _ zSlBas5_0 (fun hHeld => ?_); clear hK K; try simp only [Act.put, List.setIfInBounds_toArray, List.set_cons_zero, List.set_cons_succ]
        refine' zt 6 ?_
        refine' zt 7 ?_
        refine' zt 8 ?_
        refine' zt 9 ?_
        refine' zt 10 ?_
        refine' zn 12 (fun K hK => ?_)
        go_simp
        refine hK.out _ _ zSlBas5_0 (fun hHeld => ?_); clear hK K; try simp only [Act.put, List.setIfInBounds_toArray, List.set_cons_zero, List.set_cons_succ]
        refine' zt 13 ?_
        refine' zt 14 ?_
        refine' zt 15 ?_
        refine wpAnyH_done (by kernel_rfl) ?_ _
        go_wp2_with fail
        go_roundg 0
        case measure => decide
        case rel => exact ⟨by decide, rfl, B3, B4, d3, d4, Lib.hid ⟨zcv, zcv, zcv, zcv⟩, Lib.hid (show Bk _ _ (.slice B3 (chC 3).length d3) (.slice B4 (chP 3).length d4) from (Lib.hid ⟨zcv, zcv, zcv, zcv⟩).out), hB3, hB4, Lib.hid (show OwnCls _ (w.heap.size + 2) _ _ _ from (show World.ownsRow _ (w.heap.size + 2) _ _ _ _ _ from by repeat (first | exact HO.out | refine own_set_ne ?_ (fun j hj hh => by have h9 := RO3.out j hj; first | omega | (simp at h9; omega) | (simp [go_sem] at h9; omega)) | with_reducible refine own_box ?_ (by omega) | refine own_keep ?_ (Ext.alloc (Ext.refl _) _) | with_reducible refine World.ownsRow.drew ?_))), Lib.hid (show OwnPos _ (w.heap.size + 2) _ _ _ from (show World.ownsRow _ (w.heap.size + 2) _ _ _ _ _ from by repeat (first | exact HP.out | refine own_set_ne ?_ (fun j hj hh => by have h9 := RO4.out j hj; first | omega | (simp at h9; omega) | (simp [go_sem] at h9; omega)) | with_reducible refine own_box ?_ (by omega) | refine own_keep ?_ (Ext.alloc (Ext.refl _) _) | with_reducible refine World.ownsRow.drew ?_))), Lib.hid (show ArrA _ (w3.heap.size) from by repeat (first | exact HA.out | refine ArrA.set ?_ (by omega) | refine ArrA.ext ?_ (Ext.alloc (Ext.refl _) _) | refine ArrA.ext ?_ (Ext.drew (Ext.refl _)))), by first | omega | (simp; done) | (simp; omega), Lib.hid zxt⟩
end
section
open Go.RowKit Go.ChangeShapes Go.WideShapes Go.Deep Go.Joins
/-- what the reference has behind k classes -/
structure CutJ (cl : List (Int × Int × Int × Int × Int × Int)) (v h p : Int) (k : Nat) (CL : List (Int × Int × Int × Int × Int × Int)) (LS : List (Int × Int × Int × Int × Int)) (N : Int) : Prop where
  ecl : CL = cutCs v h p (cl.take k)
  els : LS = losCs v h p (cl.take k)
  en : N = losN LS
theorem CutJ.done {cl CL : List (Int × Int × Int × Int × Int × Int)} {v h p N : Int} {k : Nat} {LS : List (Int × Int × Int × Int × Int)} (H : CutJ cl v h p k CL LS N) (hl : cl.length ≤ k) : CL = cutCs v h p cl ∧ LS = losCs v h p cl ∧ N = losN (losCs v h p cl) := by
  have e1 := List.take_of_length_le hl
  exact ⟨by rw [H.ecl, e1], by rw [H.els, e1], by rw [H.en, H.els, e1]⟩
end
section
open Go.RowKit Go.Shelf
attribute [local go_sem] Oper.semAt_some

theorem but_putObj {S : Nat → Prop} (W : World) (l : Nat) (o : Obj) (h : S l) : But S W (W.putObj l o) := (But.grown (grownBy_putObj' W l o)).mono (fun k _ hk => by injection hk with hk; subst hk; exact h)
/-- how a round's body is left: off its end, or by a return -/
def stopPost (S : Nat → Prop) (J Jx : World → Prop) (W : World) : Exit → Act → World → Prop
  | .normal, _, W' => KeepsOthers W W' ∧ But S W W' ∧ J W'
  | .ret, _, W' => KeepsOthers W W' ∧ Jx W'
  | _, _, _ => False
/-- A range over a function that writes nothing that was there, and whose rounds may return. The iterator's contract is asked for what abides new blocks. -/
theorem rangeFunc_stop {α : Type} {F : Fence} {n : Nat} {P : Program} {g : Operand} {ps : Array Tmp} {assign body : Code} {Q : Exit → Act → World → Prop} {a : Act} {w : World}
    (hro : F.round = none) (h1 : 1 ≤ n) {gf : Nat} {lb : Array Value} (hg : a.eval g = .func (.func gf) #[] lb) (hFg : F.fn gf) (eg : ∀ args w, (callFunc gf args).run P w = .ok (.enter gf args) w)
    {enc : α → Array Value} {xs : List α} {S : Nat → Prop} (hS : ∀ k, w.heap.size ≤ k → S k)
    (hseq : ∀ (l : Nat) (J Jx : List α → World → Prop) (W : World), Below w.heap.size w W → (∀ s A A', J s A → Ext A A' → J s A') → (∀ s A A', Jx s A → Ext A A' → Jx s A') →
      (∀ pre x A, J pre A → pre ++ [x] <+: xs → YieldAt F (n - 1 - 1) P l (enc x) A fun e A' => (e = .returned (.bool true) ∧ J (pre ++ [x]) A' ∧ But S A A') ∨ (e = .returned (.bool false) ∧ Jx (pre ++ [x]) A')) →
      J [] W → CallsIn F (n - 1) P gf (#[.func (.yield l) #[] #[]] ++ lb) W fun e W' => (∃ v, e = .returned v) ∧ (J xs W' ∨ ∃ pre, pre <+: xs ∧ Jx pre W'))
    (hps : ∀ x, ps.size = (enc x).size) (I Ix : List α → World → Prop) (hXext : ∀ s A A', Ix s A → Ext A A' → Ix s A') (hIext : ∀ s A A', I s A → Ext A A' → I s A')
    (hIput : ∀ s A l o o', I s A → w.heap.size ≤ l → A.heap[l]? = some o → o.isCells = false → I s (A.putObj l o')) (hXput : ∀ s A l o o', Ix s A → w.heap.size ≤ l → A.heap[l]? = some o → o.isCells = false → Ix s (A.putObj l o')) (h0 : I [] w) (I1 : List α → α → Act → World → Prop) (hI1put : ∀ s x a A l o o', I1 s x a A → w.heap.size ≤ l → A.heap[l]? = some o → o.isCells = false → I1 s x a (A.putObj l o'))
    (hassign : ∀ (l : Nat) (pre : List α) (x : α) (W : World) (K : Act → World → Prop), I pre W → pre ++ [x] <+: xs → w.heap.size ≤ W.heap.size → (∀ a' W', KeepsOthers W W' → But S W W' → I1 pre x a' W' → K a' W') →
      assign.wpIn (F.inRound l) (n - 1 - 1) P (Exit.then K (fun _ _ _ => False)) { tmps := (ps.zip (enc x)).foldl (fun t (p, v) => t.setIfInBounds p v) a.tmps, defers := [] } W)
    (hbody : ∀ (l : Nat) (pre : List α) (x : α) (a' : Act) (W : World), I1 pre x a' W → pre ++ [x] <+: xs → w.heap.size ≤ W.heap.size → body.wpIn (F.inRound l) (n - 1 - 1) P
      (stopPost S (I (pre ++ [x])) (Ix (pre ++ [x])) W) a' W)
    (hdone : ∀ (D : Nat) (W : World), w.heap.size ≤ D → I xs W → W.heap[D]? = some (.deferred (some [])) → Q .normal { a with defers := { target := .collected D, args := #[] } :: a.defers } W)
    (hstop : ∀ (D : Nat) (pre : List α) (W : World), w.heap.size ≤ D → pre <+: xs → Ix pre W → W.heap[D]? = some (.deferred (some [])) → Code.ret.wpIn F n P Q { a with defers := { target := .collected D, args := #[] } :: a.defers } W) :
    (Code.rangeFunc g ps assign body).wpIn F n P Q a w := by
  refine wpIn_rangeFunc ?_
  intro fn hfn
  rw [hro]
  obtain ⟨rec, hrec⟩ : ∃ rec : LoopState → Option Code → Loop, rec = fun st pe => { state := st, pending := pe, fn, tmps := a.tmps, params := ps, assign, body, defers := w.heap.size } := ⟨_, rfl⟩
  obtain ⟨W1, hW1⟩ : ∃ W1, (w.alloc (.deferred (some []))).alloc (.loop (rec .ready none)) = W1 := ⟨_, rfl⟩
  have hL1 : W1.heap[w.heap.size + 1]? = some (.loop (rec .ready none)) := by
    rw [← hW1]; have := World.alloc_heap_new (w.alloc (.deferred (some []))) (.loop (rec .ready none)); rwa [World.size_alloc] at this
  have hK1 : W1.heap[w.heap.size]? = some (.deferred (some [])) := by
    rw [← hW1]; exact (Below.heap_alloc _ _ _ (by simp)).trans (World.alloc_heap_new w _)
  have hI1 : I [] W1 := by rw [← hW1]; exact hIext _ _ _ h0 (Ext.alloc (Ext.alloc (Ext.refl _) _) _)
  have hb1 : Below w.heap.size w W1 := by
    rw [← hW1]; exact ((Below.refl _ w).alloc (Nat.le_refl _) _).alloc (by simp) _
  have hother : ∀ (A A' : World) (k : Nat) (o : Obj), Ext A A' → A.heap[k]? = some o → A'.heap[k]? = some o := fun A A' k o hx hk => (Below.block hx k (Array.getElem?_eq_some_iff.1 hk).1).trans hk
  refine ⟨w.heap.size + 1, [{ target := .collected w.heap.size, args := #[] }], W1, { target := .fn (.func gf) lb, args := #[.func (.yield (w.heap.size + 1)) #[] #[]] }, W1, gf,
    #[.func (.yield (w.heap.size + 1)) #[] #[]] ++ lb, W1, ?_, ?_, ?_, ?_, fun _ => h1, ?_⟩
  · rw [← hW1, hrec]; exact run_enterLoop_outer _ _ _ _ _
  · simp only [resolve, hg]
    simp [go_sem]
  · intro f' hf'; simp [Target.leads] at hf'; subst hf'; exact hFg
  · simp [invoke, go_sem, eg]
  · refine (hseq (w.heap.size + 1)
      (fun pre W => I pre W ∧ W.heap[w.heap.size + 1]? = some (.loop (rec .ready none)) ∧ W.heap[w.heap.size]? = some (.deferred (some [])))
      (fun pre W => Ix pre W ∧ W.heap[w.heap.size + 1]? = some (.loop (rec .done (some .ret))) ∧ W.heap[w.heap.size]? = some (.deferred (some [])))
      W1 hb1 (fun s A A' hs hx => ⟨hIext s A A' hs.1 hx, hother A A' _ _ hx hs.2.1, hother A A' _ _ hx hs.2.2⟩) (fun s A A' hs hx => ⟨hXext s A A' hs.1 hx, hother A A' _ _ hx hs.2.1, hother A A' _ _ hx hs.2.2⟩) ?_ ⟨hI1, hL1, hK1⟩).mono ?_
    · rintro pre x W0 ⟨hi, hl, hk⟩ hlen
      have hlt : w.heap.size + 1 < W0.heap.size := (Array.getElem?_eq_some_iff.1 hl).1
      have hy := run_yield (P := P) (args := enc x) hl (by rw [hrec]; simp [hps x])
      rw [hrec] at hy
      refine ⟨fn, _, assign, body, hy, roundIn_of_wpIn hfn (hassign _ pre x W0 _ hi hlen (by omega) fun a' W hka hba hi1 => ⟨_, run_beginRound (hka.same _ _ hl rfl) (by rw [hrec]), ?_⟩)⟩
      have hl := hka.same _ _ hl rfl
      have hk := hka.same _ _ hk rfl
      have hlt : w.heap.size + 1 < W.heap.size := (Array.getElem?_eq_some_iff.1 hl).1
      have hl2 : (W.putObj (w.heap.size + 1) (.loop { rec .ready none with state := .busy })).heap[w.heap.size + 1]? = some (.loop { rec .ready none with state := .busy }) := World.putObj_heap_same hlt
      have hk2 : (W.putObj (w.heap.size + 1) (.loop { rec .ready none with state := .busy })).heap[w.heap.size]? = some (.deferred (some [])) := (World.putObj_heap_other (by omega)).trans hk
      have hb2 : But S W0 (W.putObj (w.heap.size + 1) (.loop { rec .ready none with state := .busy })) := hba.trans (but_putObj W _ _ (hS _ (by omega)))
      refine wpIn_mono (hbody _ pre x a' _ (hI1put _ _ _ _ _ _ _ hi1 (by omega) hl rfl) hlen (by simp; omega)) ?_
      rintro e a3 W3 hp
      cases e with
      | normal =>
        obtain ⟨hk3, hb3, hi3⟩ := hp
        have hl3 := hk3.same _ _ hl2 rfl
        have hend := run_endRound (P := P) none hl3
        refine ⟨_, _, hend, .inl ⟨rfl, ⟨hIput _ _ _ _ _ hi3 (by omega) hl3 rfl, ?_, ?_⟩, (hb2.trans hb3).trans (but_putObj W3 _ _ (hS _ (by omega)))⟩⟩
        · rw [hrec] at hl3 ⊢
          exact World.putObj_heap_same (Array.getElem?_eq_some_iff.1 hl3).1
        · exact (World.putObj_heap_other (by omega)).trans (hk3.same _ _ hk2 rfl)
      | ret =>
        obtain ⟨hk3, hi3⟩ := hp
        have hl3 := hk3.same _ _ hl2 rfl
        have hend := run_endRound (P := P) (some .ret) hl3
        refine ⟨_, _, hend, .inr ⟨rfl, hXput _ _ _ _ _ hi3 (by omega) hl3 rfl, ?_, ?_⟩⟩
        · rw [hrec] at hl3 ⊢
          exact World.putObj_heap_same (Array.getElem?_eq_some_iff.1 hl3).1
        · exact (World.putObj_heap_other (by omega)).trans (hk3.same _ _ hk2 rfl)
      | exit id => exact hp.elim
      | goto t => exact hp.elim
      | panic ch => exact hp.elim
      | outgrown => exact hp.elim
    · rintro e W2 ⟨⟨v, rfl⟩, (⟨hi, hl, hk⟩ | ⟨pre, hpre, hi, hl, hk⟩)⟩
      rotate_left
      · exact ⟨some .ret, _, by have := run_endLoop (P := P) hl (by rw [hrec]; simp); rw [hrec] at this; exact this, hstop _ _ _ (Nat.le_refl _) hpre (hXput _ _ _ _ _ hi (by omega) hl rfl) ((World.putObj_heap_other (by omega)).trans hk)⟩
      exact ⟨none, _, by have := run_endLoop (P := P) hl (by rw [hrec]; simp); rw [hrec] at this; exact this, hdone _ _ (Nat.le_refl _) (hIput _ _ _ _ _ hi (by omega) hl rfl) ((World.putObj_heap_other (by omega)).trans hk)⟩
end
section
open Go.RowKit Go.Shelf Go.ChangeShapes Go.WideShapes Go.Deep Go.Joins
attribute [local go_sem] Oper.semAt_some

/-- what a position of a holding is worth, as the program tells it -/
def wvl (cl : List (Int × Int × Int × Int × Int × Int)) (x : (Int × Int × Int × Int × Int × Int)) : Int := valN (fndT cl (stP x)) (fndS cl (stP x)) (shP x)
theorem hworths_in (F : Fence) (k : Nat) (hF : F.fn 81) (hro : F.round = none) (A A2 : Option Addr) (n c n2 c2 : Nat) (w : World) :
    CallsIn F k Tryz.prog 81 #[.agg #[.slice A n c, .slice A2 n2 c2]] w fun e w' => e = .returned (.func (.func 149) #[] #[.pointer (some ⟨w.heap.size, 0, none⟩)]) ∧ w' = w.alloc (.cells #[.slice A n c, .slice A2 n2 c2] 25) := by
  have hmf : ∀ (fn : Fn) (first cap : Array Value) (w : World), (Instr.makeFunc fn first cap).run Tryz.prog w = .ok (.func fn first cap) w := fun _ _ _ _ => rfl
  refine callsIn_of_wp Tryz.func81 rfl hF ?_ hro
  simp only [Tryz.ntmps81, List.size_toArray, List.length_cons, List.length_nil, Nat.reduceAdd, Nat.reduceSub, Array.replicate_succ, Array.replicate_zero, List.push_toArray, List.append_toArray, List.nil_append, List.cons_append]
  gi_wp2
  go_ret
  exact ⟨rfl, rfl⟩
set_option maxRecDepth 100000 in
set_option maxHeartbeats 4000000 in
theorem hworths1_in (n : Nat) (hn : 2 ≤ n) (l nb m c n2 c2 B : Nat) (S : Nat → Prop) (A A2 : Option Addr) (cl ps : List (Int × Int × Int × Int × Int × Int)) (J Jx : List (Int × Int × Int × Int × Int × Int) → World → Prop) (W : World) (hw : ∀ x ∈ cl, WdC x) (hw2 : ∀ x ∈ ps, WdP x)
    (hJ : ∀ (s : List (Int × Int × Int × Int × Int × Int)) (A A' : World), J s A → Ext A A' → J s A')
    (hY : ∀ (pre : List (Int × Int × Int × Int × Int × Int)) (x : (Int × Int × Int × Int × Int × Int)) (A : World), J pre A → pre ++ [x] <+: ps → YieldAt Fence.wide (n - 1) Tryz.prog l #[.agg #[.int .i64 x.1, .int .i64 x.2.1, .int .i64 x.2.2.1, .int .i64 x.2.2.2.1, .int .i64 x.2.2.2.2.1, .int .u64 x.2.2.2.2.2], .int .u64 (wvl cl x)] A fun e A' => (e = .returned (.bool true) ∧ J (pre ++ [x]) A' ∧ But S A A') ∨ (e = .returned (.bool false) ∧ Jx (pre ++ [x]) A'))
    (hSB : ∀ k, S k → B ≤ k) (hnb : ¬ S nb) (hc0 : W.cell? ⟨nb, 0, none⟩ = some (.slice A m c)) (hc1 : W.cell? ⟨nb, 1, none⟩ = some (.slice A2 n2 c2)) (hS1 : SlB B W 6 A m c (cl.flatMap clsC)) (hS2 : SlB B W 6 A2 n2 c2 (ps.flatMap posC)) (h0 : J [] W) :
    CallsIn Fence.wide n Tryz.prog 149 (#[.func (.yield l) #[] #[]] ++ #[.pointer (some ⟨nb, 0, none⟩)]) W fun e W' => (∃ v, e = .returned v) ∧ (J ps W' ∨ ∃ pre, pre <+: ps ∧ Jx pre W') := by
  have HJ := Lib.hid hJ
  have HY := Lib.hid hY
  have hl := hS2.sl.rlen posC_len (by decide)
  have s1 := hS2.sl.small
  have HL := Lib.hid hl
  have H1 := Lib.hid hS1
  have H2 := Lib.hid hS2
  have HJ0 := Lib.hid h0
  have HW := Lib.hid (And.intro hw hw2)
  have HSB := Lib.hid (And.intro hSB hnb)
  clear hJ hY hl hS1 hS2 h0 hw hw2 hSB hnb
  refine callsIn_of_wp Tryz.func149 rfl trivial ?_ rfl
  simp only [Tryz.ntmps149, List.size_toArray, List.length_cons, List.length_nil, Nat.reduceAdd, Nat.reduceSub, Array.replicate_succ, Array.replicate_zero, List.push_toArray, List.append_toArray, List.nil_append, List.cons_append]
  gi_wp2
  gi_loopw [12] (fun i wr => ∃ (k : Nat), i = .int .i64 (k : Int) ∧ k ≤ n2 ∧ Hid (SlB B wr 6 A m c (cl.flatMap clsC)) ∧ Hid (SlB B wr 6 A2 n2 c2 (ps.flatMap posC)) ∧ wr.cell? ⟨nb, 0, none⟩ = some (.slice A m c) ∧ wr.cell? ⟨nb, 1, none⟩ = some (.slice A2 n2 c2) ∧ Hid (J (ps.take k) wr))
    (fun i _ => match i with | .int _ k => n2 - k.toNat | _ => 0)
  case atStart => exact ⟨0, rfl, Nat.zero_le _, H1, H2, hc0, hc1, HJ0⟩
  case round =>
    clear hc0 hc1 H1 H2 HJ0
    obtain ⟨k, rfl, hkm, H1, H2, b_0, b_1, HJ0⟩ := hrel
    have hbr := cell_lt b_0
    have hbn : ¬ nb = wr.heap.size := by omega
    by_cases hk : k < n2
    · have hkn : (k : Int) < (n2 : Int) := by omega
      have hkl : k < ps.length := by have := HL.out; omega
      obtain ⟨b1, o1, rfl, hb1, hc_x⟩ := H2.out.sl.rec_ posC_len (show 0 < n2 from by omega)
      obtain ⟨xw, hl_x⟩ : ∃ x, ps[k]? = some x := ⟨_, List.getElem?_eq_getElem (by omega)⟩
      have x_0 := hc_x (k) xw hl_x 0 _ rfl
      have x_1 := hc_x (k) xw hl_x 1 _ rfl
      have x_2 := hc_x (k) xw hl_x 2 _ rfl
      have x_3 := hc_x (k) xw hl_x 3 _ rfl
      have x_4 := hc_x (k) xw hl_x 4 _ rfl
      have x_5 := hc_x (k) xw hl_x 5 _ rfl
      obtain ⟨po, pv, ps_, pp, pf, ph⟩ := xw
      simp only at x_0 x_1 x_2 x_3 x_4 x_5
      rw [Nat.add_zero] at x_0
      rw [← Nat.add_assoc] at x_1 x_2 x_3 x_4 x_5
      have HX := Lib.hid hl_x
      have hpw := HW.out.2 _ (List.mem_of_getElem? hl_x)
      change 0 ≤ ph ∧ ph < 18446744073709551616 at hpw
      have hfw := fnd_word HW.out.1 [pv, ps_, pp, pf]
      obtain ⟨T, hT⟩ : ∃ T, T = fndT cl [pv, ps_, pp, pf] := ⟨_, rfl⟩
      obtain ⟨U, hU⟩ : ∃ T, T = fndS cl [pv, ps_, pp, pf] := ⟨_, rfl⟩
      obtain ⟨BB, hBB⟩ : ∃ T, T = (getK kC cl [pv, ps_, pp, pf]).isSome := ⟨_, rfl⟩
      rw [← hT, ← hU] at hfw
      have CF := Lib.hid (fun (w' : World) (hx : Sl w' 6 A m c (cl.flatMap clsC)) => hFind_any m c n2 c2 A (some ⟨b1, o1, none⟩) cl pv ps_ pp pf w' hx)
      rw [← hT, ← hU, ← hBB] at CF
      have CV := Lib.hid (fun w => SValue_any T U ph hfw.1 hfw.2 hpw w)
      obtain ⟨N, hN⟩ : ∃ z, z = valN T U ph := ⟨_, rfl⟩
      obtain ⟨E, hE⟩ : ∃ z, z = valE T U ph := ⟨_, rfl⟩
      rw [← hN, ← hE] at CV
      have HN := Lib.hid (show wvl cl (po, pv, ps_, pp, pf, ph) = N from by rw [hN, hT, hU]; rfl)
      have hb1s : ¬ b1 = wr.heap.size := by omega
      clear hl_x hc_x hT hU hBB hfw hpw hN hE hkl
      gi_wp2_with fail
      refine ⟨trivial, fun _ => by omega, ?_⟩
      (with_reducible refine (callsIn_wide.2 (CF.out _ (H1.out.ext zxt).sl)).mono ?_)
      rintro e w1 ⟨rfl, hx1⟩
      replace b_0 : w1.cell? ⟨nb, 0, none⟩ = some (.slice A m c) := hx1.has zcv
      replace b_1 : w1.cell? ⟨nb, 1, none⟩ = some (.slice (some ⟨b1, o1, none⟩) n2 c2) := hx1.has zcv
      have c0_0 : w1.cell? ⟨wr.heap.size, 0, none⟩ = some (.int .i64 po) := hx1.has zcv
      have c0_1 : w1.cell? ⟨wr.heap.size, 1, none⟩ = some (.int .i64 pv) := hx1.has zcv
      have c0_2 : w1.cell? ⟨wr.heap.size, 2, none⟩ = some (.int .i64 ps_) := hx1.has zcv
      have c0_3 : w1.cell? ⟨wr.heap.size, 3, none⟩ = some (.int .i64 pp) := hx1.has zcv
      have c0_4 : w1.cell? ⟨wr.heap.size, 4, none⟩ = some (.int .i64 pf) := hx1.has zcv
      have c0_5 : w1.cell? ⟨wr.heap.size, 5, none⟩ = some (.int .u64 ph) := hx1.has zcv
      have z1 := hx1.size
      try simp at z1
      have lt_b_c0 : nb < wr.heap.size := by omega
      have ne_b_c0 : ¬ nb = wr.heap.size := by omega
      have ne_c0_b : ¬ wr.heap.size = nb := by omega
      have zq := zrc (show nb < w1.heap.size from by omega)
      obtain ⟨rb, rba, rbb, rbc, rbn⟩ := zq
      have zq := zrc (show wr.heap.size < w1.heap.size from by omega)
      obtain ⟨rc0, rc0a, rc0b, rc0c, rc0n⟩ := zq
      replace H1 := Lib.hid (H1.out.ext (Ext.trans zxt hx1))
      replace H2 := Lib.hid (H2.out.ext (Ext.trans zxt hx1))
      have X1 : Hid (Ext wr w1) := Lib.hid (Ext.trans zxt hx1)
      clear x_0 x_5 x_1 x_4 x_2 x_3 hx1
      gi_wp2_with fail
      refine ⟨trivial, fun _ => by omega, ?_⟩
      (with_reducible refine (callsIn_wide.2 (CV.out _)).mono ?_)
      rintro e w2 ⟨rfl, hx2⟩
      replace b_0 := zh hx2 b_0
      replace b_1 := zh hx2 b_1
      replace c0_0 := zh hx2 c0_0
      replace c0_1 := zh hx2 c0_1
      replace c0_2 := zh hx2 c0_2
      replace c0_3 := zh hx2 c0_3
      replace c0_4 := zh hx2 c0_4
      replace c0_5 := zh hx2 c0_5
      have z2 := hx2.size
      try simp at z2
      have zq := zrc (show nb < w2.heap.size from by omega)
      clear rb rba rbb rbc rbn
      obtain ⟨rb, rba, rbb, rbc, rbn⟩ := zq
      have zq := zrc (show wr.heap.size < w2.heap.size from by omega)
      clear rc0 rc0a rc0b rc0c rc0n
      obtain ⟨rc0, rc0a, rc0b, rc0c, rc0n⟩ := zq
      replace H1 := Lib.hid (H1.out.ext (Ext.trans zxt hx2))
      replace H2 := Lib.hid (H2.out.ext (Ext.trans zxt hx2))
      have X2 : Hid (Ext wr w2) := Lib.hid (Ext.trans zxt hx2)
      clear X1 hx2
      have hjw := HJ.out _ _ _ HJ0.out zxt
      have H1w := Lib.hid (SlB.ext H1.out (Ext.refl _))
      obtain ⟨fn, tmps, assign, body, hy, hR⟩ := HY.out (ps.take k) (po, pv, ps_, pp, pf, ph) _ hjw (by rw [← take_one HX.out]; exact List.take_prefix _ _)
      rw [HN.out] at hy
      simp only at hy
      have HR := Lib.hid hR
      clear hR hjw
      gi_wp2_with fail
      refine ⟨fun _ => by omega, HR.out.mono ?_⟩
      rintro e W3 (⟨rfl, hj3, hk3⟩ | ⟨rfl, hj3⟩)
      · have hSB := HSB.out.1
        replace b_0 := hk3.has HSB.out.2 b_0
        replace b_1 := hk3.has HSB.out.2 b_1
        replace H1 := Lib.hid (SlB.but H1.out hk3 hSB)
        replace H2 := Lib.hid (SlB.but H2.out hk3 hSB)
        have HJ3 := Lib.hid (show J (ps.take (k + 1)) W3 from by rw [take_one HX.out]; exact hj3)
        clear hj3 hk3 HR hSB H1w
        gi_wp2_with fail
        go_roundw
        case rel => exact ⟨k + 1, by simp, by omega, H1, H2, b_0, b_1, HJ3⟩
        case measure => simp; omega
      · have HJ3 := Lib.hid (show Jx (ps.take (k + 1)) W3 from by rw [take_one HX.out]; exact hj3)
        clear hj3 HR H1w
        gi_wp2_with fail
        exact bodyPost_ret (v := .tuple #[]) (by simp [results, Tryz.results149]; try rfl) rfl ⟨⟨_, rfl⟩, .inr ⟨_, List.take_prefix _ _, HJ3.out⟩⟩
    · have hkn : ¬ (k : Int) < (n2 : Int) := by omega
      have hp : ps.take k = ps := List.take_of_length_le (by have := HL.out; omega)
      have hjr := HJ0.out
      rw [hp] at hjr
      have HJR := Lib.hid hjr
      clear hjr hp
      gi_wp2_with fail
      go_end0
      exact ⟨⟨_, rfl⟩, .inl HJR.out⟩
end
section
open Go.RowKit Go.Shelf Go.ChangeShapes Go.WideShapes Go.Deep Go.Joins
attribute [local go_sem] Oper.semAt_some

/-- what Value tells of a holding that may be -/
def valG (cl ps : List (Int × Int × Int × Int × Int × Int)) (k : List Int) : Int × Int := match getK kP ps k with
  | none => (0, 10)
  | some x => (wvl cl x, 0)
def valH (cl ps : List (Int × Int × Int × Int × Int × Int)) (k : List Int) : Int × Int := if chkH cl ps ≠ 0 then (0, chkH cl ps) else valG cl ps k
theorem getK_pre_none {ps : List (Int × Int × Int × Int × Int × Int)} {q : List Int} (h : ∀ y ∈ ps, kP y ≠ q) : getK kP ps q = none := by
  unfold getK
  rw [List.find?_eq_none]
  intro x hx hk
  exact h x hx (by simpa using hk)
theorem getK_pre_some {ps pre : List (Int × Int × Int × Int × Int × Int)} {x : (Int × Int × Int × Int × Int × Int)} {q : List Int} (h : ∀ y ∈ pre, kP y ≠ q) (hx : kP x = q) (hp : pre ++ [x] <+: ps) : getK kP ps q = some x := by
  obtain ⟨t, rfl⟩ := hp
  unfold getK
  have h1 : pre.find? (fun y => kP y == q) = none := by
    rw [List.find?_eq_none]
    intro y hy hk
    exact h y hy (by simpa using hk)
  rw [List.find?_append, List.find?_append, h1]
  simp [hx]
/-- cells that abide new blocks and what is no cell -/
theorem cell_put {A : World} {b o l : Nat} {v : Value} {ob : Obj} (h : A.cell? ⟨b, o, none⟩ = some v) (hl : b < l) : (A.putObj l ob).cell? ⟨b, o, none⟩ = some v := (but_putObj (S := fun k => k = l) A l ob rfl).has (fun hh => by have h9 : b = l := hh; omega) h
theorem froz_put {A : World} {b o l : Nat} {v : Value} {ob : Obj} (h : A.cell? ⟨b, o, none⟩ = some v) (hf : A.frozen? ⟨b, o, none⟩ = false) (hl : b < l) : (A.putObj l ob).frozen? ⟨b, o, none⟩ = false := (but_putObj (S := fun k => k = l) A l ob rfl).froz (fun hh => by have h9 : b = l := hh; omega) h hf
theorem ext_put {w A : World} {l : Nat} {ob : Obj} (h : Ext w A) (hl : w.heap.size ≤ l) : Ext w (A.putObj l ob) := Below.trans h ((but_putObj (S := fun k => k = l) A l ob rfl).below (Ext.size h) (fun k hk hh => by have h9 : k = l := hh; omega))
theorem cell_put2 {A : World} {b o l : Nat} {v : Value} {ob o' : Obj} (h : A.cell? ⟨b, o, none⟩ = some v) (hl : A.heap[l]? = some ob) (hnc : ob.isCells = false) : (A.putObj l o').cell? ⟨b, o, none⟩ = some v := (but_putObj (S := fun k => k = l) A l o' rfl).has (fun hh => by have h9 : b = l := hh; obtain ⟨o2, h2, h3⟩ := cells_of_cell h; simp only at h2; rw [h9, hl] at h2; obtain rfl := Option.some.inj h2; rw [hnc] at h3; cases h3) h
/-- what stands between the rounds of Value: its boxes from b on -/
structure VI (b : Nat) (O V S P Q n e : Int) (w W : World) : Prop where
  o0 : W.cell? ⟨b, 0, none⟩ = some (.int .i64 O)
  s0 : W.cell? ⟨b + 1, 0, none⟩ = some (.int .i64 V)
  s1 : W.cell? ⟨b + 1, 1, none⟩ = some (.int .i64 S)
  s2 : W.cell? ⟨b + 1, 2, none⟩ = some (.int .i64 P)
  s3 : W.cell? ⟨b + 1, 3, none⟩ = some (.int .i64 Q)
  r0 : W.cell? ⟨b + 1 + 1, 0, none⟩ = some (.int .u64 n)
  f0 : W.frozen? ⟨b + 1 + 1, 0, none⟩ = false
  q0 : W.cell? ⟨b + 1 + 1 + 1, 0, none⟩ = some (.int .i64 e)
  g0 : W.frozen? ⟨b + 1 + 1 + 1, 0, none⟩ = false
  x : Ext w W
theorem VI.ext {b : Nat} {O V S P Q n e : Int} {w W W' : World} (h : VI b O V S P Q n e w W) (hx : Ext W W') : VI b O V S P Q n e w W' := ⟨hx.has h.o0, hx.has h.s0, hx.has h.s1, hx.has h.s2, hx.has h.s3, hx.has h.r0, hx.froz h.r0 h.f0, hx.has h.q0, hx.froz h.q0 h.g0, Ext.trans h.x hx⟩
theorem VI.put {b l : Nat} {O V S P Q n e : Int} {w W : World} {ob : Obj} (h : VI b O V S P Q n e w W) (hl : b + 3 < l) (hw : w.heap.size ≤ l) : VI b O V S P Q n e w (W.putObj l ob) := ⟨cell_put h.o0 (by omega), cell_put h.s0 (by omega), cell_put h.s1 (by omega), cell_put h.s2 (by omega), cell_put h.s3 (by omega), cell_put h.r0 (by omega), froz_put h.r0 h.f0 (by omega), cell_put h.q0 (by omega), froz_put h.q0 h.g0 (by omega), ext_put h.x hw⟩
set_option maxRecDepth 100000 in
set_option maxHeartbeats 4000000 in
theorem hValue_bad (n c n2 c2 : Nat) (A A2 : Option Addr) (cl ps : List (Int × Int × Int × Int × Int × Int)) (O V S P Q E : Int) (w : World) (C1 : Hid (∀ w', Ext w w' → Calls Tryz.prog 14 #[.agg #[.slice A n c, .slice A2 n2 c2]] w' fun r w'' => r = .returned (.int .i64 E) ∧ Ext w' w'')) (he : ¬ E = 0) :
    Calls Tryz.prog 34 #[.agg #[.slice A n c, .slice A2 n2 c2], .int .i64 O, .agg #[.int .i64 V, .int .i64 S, .int .i64 P, .int .i64 Q]] w fun r w' => r = .returned (.tuple #[.int .u64 0, .int .i64 E]) ∧ Ext w w' := by
  have heb : (E != 0) = true := by simpa using he
  refine (callsIn_wide (n := 6)).1 ?_
  refine callsIn_of_wp_marks Tryz.func34 rfl trivial ?_ rfl
  simp only [Tryz.ntmps34, List.size_toArray, List.length_cons, List.length_nil, Nat.reduceAdd, Nat.reduceSub, Array.replicate_succ, Array.replicate_zero, List.push_toArray, List.append_toArray, List.nil_append, List.cons_append]
  gi_wp2_with fail
  refine ⟨trivial, ?_⟩
  (with_reducible refine (callsIn_wide.2 (C1.out _ zxt)).mono ?_)
  rintro e w1 ⟨rfl, hx1⟩
  have c3_0f : w1.frozen? ⟨w.heap.size + 1 + 1 + 1, 0, none⟩ = false := hx1.froz (v := .int .u64 0) zcv zcv
  have c3_0 : w1.cell? ⟨w.heap.size + 1 + 1 + 1, 0, none⟩ = some (.int .u64 0) := hx1.has zcv
  have c4_0f : w1.frozen? ⟨w.heap.size + 1 + 1 + 1 + 1, 0, none⟩ = false := hx1.froz (v := .int .i64 0) zcv zcv
  have c4_0 : w1.cell? ⟨w.heap.size + 1 + 1 + 1 + 1, 0, none⟩ = some (.int .i64 0) := hx1.has zcv
  have z1 := hx1.size
  try simp at z1
  have lt_c3_c4 : w.heap.size + 1 + 1 + 1 < w.heap.size + 1 + 1 + 1 + 1 := by omega
  have ne_c3_c4 : ¬ w.heap.size + 1 + 1 + 1 = w.heap.size + 1 + 1 + 1 + 1 := by omega
  have ne_c4_c3 : ¬ w.heap.size + 1 + 1 + 1 + 1 = w.heap.size + 1 + 1 + 1 := by omega
  have zq := zrc (show w.heap.size + 1 + 1 + 1 < w1.heap.size from by omega)
  obtain ⟨rc3, rc3a, rc3b, rc3c, rc3n⟩ := zq
  have zq := zrc (show w.heap.size + 1 + 1 + 1 + 1 < w1.heap.size from by omega)
  obtain ⟨rc4, rc4a, rc4b, rc4c, rc4n⟩ := zq
  have X1 : Hid (Ext w w1) := Lib.hid (Ext.trans zxt hx1)
  clear hx1 z1
  gi_wp2_with fail
  exact ⟨.tuple #[.int .u64 0, .int .i64 E], by simp [results, Tryz.results34, go_sem, World.cell?_alloc_past, *]; try rfl, rfl, zxt⟩
set_option maxRecDepth 100000 in
set_option maxHeartbeats 4000000 in
theorem hValue_ok (n c n2 c2 : Nat) (A A2 : Option Addr) (cl ps : List (Int × Int × Int × Int × Int × Int)) (O V S P Q : Int) (w : World) (h : Sl w 6 A n c (cl.flatMap clsC)) (h2 : Sl w 6 A2 n2 c2 (ps.flatMap posC)) (hw : ∀ x ∈ cl, WdC x) (hw2 : ∀ x ∈ ps, WdP x) (C1 : Hid (∀ w', Ext w w' → Calls Tryz.prog 14 #[.agg #[.slice A n c, .slice A2 n2 c2]] w' fun r w'' => r = .returned (.int .i64 0) ∧ Ext w' w'')) :
    Calls Tryz.prog 34 #[.agg #[.slice A n c, .slice A2 n2 c2], .int .i64 O, .agg #[.int .i64 V, .int .i64 S, .int .i64 P, .int .i64 Q]] w fun r w' => r = .returned (.tuple #[.int .u64 (valG cl ps [O, V, S, P, Q]).1, .int .i64 (valG cl ps [O, V, S, P, Q]).2]) ∧ Ext w w' := by
  have HS := Lib.hid h.low
  have HT := Lib.hid h2.low
  have HW := Lib.hid (And.intro hw hw2)
  have hll := h2.rlen posC_len (by decide)
  have HLL := Lib.hid hll
  have pq1 := stm_eq
  have pq2 := stm_eqg
  obtain ⟨G, hG⟩ : ∃ G, G = valG cl ps [O, V, S, P, Q] := ⟨_, rfl⟩
  rw [← hG]
  obtain ⟨G1, G2⟩ := G
  have HG := Lib.hid hG
  clear hG
  clear h h2 hw hw2 hll
  refine (callsIn_wide (n := 6)).1 ?_
  refine callsIn_of_wp_marks Tryz.func34 rfl trivial ?_ rfl
  simp only [Tryz.ntmps34, List.size_toArray, List.length_cons, List.length_nil, Nat.reduceAdd, Nat.reduceSub, Array.replicate_succ, Array.replicate_zero, List.push_toArray, List.append_toArray, List.nil_append, List.cons_append]
  gi_wp2_with fail
  refine ⟨trivial, ?_⟩
  (with_reducible refine (callsIn_wide.2 (C1.out _ zxt)).mono ?_)
  rintro e w1 ⟨rfl, hx1⟩
  have c0_0 : w1.cell? ⟨w.heap.size, 0, none⟩ = some (.slice A n c) := hx1.has zcv
  have c0_1 : w1.cell? ⟨w.heap.size, 1, none⟩ = some (.slice A2 n2 c2) := hx1.has zcv
  have c1_0 : w1.cell? ⟨w.heap.size + 1, 0, none⟩ = some (.int .i64 O) := hx1.has zcv
  have c2_0 : w1.cell? ⟨w.heap.size + 1 + 1, 0, none⟩ = some (.int .i64 V) := hx1.has zcv
  have c2_1 : w1.cell? ⟨w.heap.size + 1 + 1, 1, none⟩ = some (.int .i64 S) := hx1.has zcv
  have c2_2 : w1.cell? ⟨w.heap.size + 1 + 1, 2, none⟩ = some (.int .i64 P) := hx1.has zcv
  have c2_3 : w1.cell? ⟨w.heap.size + 1 + 1, 3, none⟩ = some (.int .i64 Q) := hx1.has zcv
  have c3_0f : w1.frozen? ⟨w.heap.size + 1 + 1 + 1, 0, none⟩ = false := hx1.froz (v := .int .u64 0) zcv zcv
  have c3_0 : w1.cell? ⟨w.heap.size + 1 + 1 + 1, 0, none⟩ = some (.int .u64 0) := hx1.has zcv
  have c4_0f : w1.frozen? ⟨w.heap.size + 1 + 1 + 1 + 1, 0, none⟩ = false := hx1.froz (v := .int .i64 0) zcv zcv
  have c4_0 : w1.cell? ⟨w.heap.size + 1 + 1 + 1 + 1, 0, none⟩ = some (.int .i64 0) := hx1.has zcv
  have z1 := hx1.size
  try simp at z1
  have lt_c0_c1 : w.heap.size < w.heap.size + 1 := by omega
  have ne_c0_c1 : ¬ w.heap.size = w.heap.size + 1 := by omega
  have lt_c0_c2 : w.heap.size < w.heap.size + 1 + 1 := by omega
  have ne_c0_c2 : ¬ w.heap.size = w.heap.size + 1 + 1 := by omega
  have lt_c0_c3 : w.heap.size < w.heap.size + 1 + 1 + 1 := by omega
  have ne_c0_c3 : ¬ w.heap.size = w.heap.size + 1 + 1 + 1 := by omega
  have lt_c0_c4 : w.heap.size < w.heap.size + 1 + 1 + 1 + 1 := by omega
  have ne_c0_c4 : ¬ w.heap.size = w.heap.size + 1 + 1 + 1 + 1 := by omega
  have ne_c1_c0 : ¬ w.heap.size + 1 = w.heap.size := by omega
  have lt_c1_c2 : w.heap.size + 1 < w.heap.size + 1 + 1 := by omega
  have ne_c1_c2 : ¬ w.heap.size + 1 = w.heap.size + 1 + 1 := by omega
  have lt_c1_c3 : w.heap.size + 1 < w.heap.size + 1 + 1 + 1 := by omega
  have ne_c1_c3 : ¬ w.heap.size + 1 = w.heap.size + 1 + 1 + 1 := by omega
  have lt_c1_c4 : w.heap.size + 1 < w.heap.size + 1 + 1 + 1 + 1 := by omega
  have ne_c1_c4 : ¬ w.heap.size + 1 = w.heap.size + 1 + 1 + 1 + 1 := by omega
  have ne_c2_c0 : ¬ w.heap.size + 1 + 1 = w.heap.size := by omega
  have ne_c2_c1 : ¬ w.heap.size + 1 + 1 = w.heap.size + 1 := by omega
  have lt_c2_c3 : w.heap.size + 1 + 1 < w.heap.size + 1 + 1 + 1 := by omega
  have ne_c2_c3 : ¬ w.heap.size + 1 + 1 = w.heap.size + 1 + 1 + 1 := by omega
  have lt_c2_c4 : w.heap.size + 1 + 1 < w.heap.size + 1 + 1 + 1 + 1 := by omega
  have ne_c2_c4 : ¬ w.heap.size + 1 + 1 = w.heap.size + 1 + 1 + 1 + 1 := by omega
  have ne_c3_c0 : ¬ w.heap.size + 1 + 1 + 1 = w.heap.size := by omega
  have ne_c3_c1 : ¬ w.heap.size + 1 + 1 + 1 = w.heap.size + 1 := by omega
  have ne_c3_c2 : ¬ w.heap.size + 1 + 1 + 1 = w.heap.size + 1 + 1 := by omega
  have lt_c3_c4 : w.heap.size + 1 + 1 + 1 < w.heap.size + 1 + 1 + 1 + 1 := by omega
  have ne_c3_c4 : ¬ w.heap.size + 1 + 1 + 1 = w.heap.size + 1 + 1 + 1 + 1 := by omega
  have ne_c4_c0 : ¬ w.heap.size + 1 + 1 + 1 + 1 = w.heap.size := by omega
  have ne_c4_c1 : ¬ w.heap.size + 1 + 1 + 1 + 1 = w.heap.size + 1 := by omega
  have ne_c4_c2 : ¬ w.heap.size + 1 + 1 + 1 + 1 = w.heap.size + 1 + 1 := by omega
  have ne_c4_c3 : ¬ w.heap.size + 1 + 1 + 1 + 1 = w.heap.size + 1 + 1 + 1 := by omega
  have zq := zrc (show w.heap.size < w1.heap.size from by omega)
  obtain ⟨rc0, rc0a, rc0b, rc0c, rc0n⟩ := zq
  have zq := zrc (show w.heap.size + 1 < w1.heap.size from by omega)
  obtain ⟨rc1, rc1a, rc1b, rc1c, rc1n⟩ := zq
  have zq := zrc (show w.heap.size + 1 + 1 < w1.heap.size from by omega)
  obtain ⟨rc2, rc2a, rc2b, rc2c, rc2n⟩ := zq
  have zq := zrc (show w.heap.size + 1 + 1 + 1 < w1.heap.size from by omega)
  obtain ⟨rc3, rc3a, rc3b, rc3c, rc3n⟩ := zq
  have zq := zrc (show w.heap.size + 1 + 1 + 1 + 1 < w1.heap.size from by omega)
  obtain ⟨rc4, rc4a, rc4b, rc4c, rc4n⟩ := zq
  replace HS := Lib.hid (HS.out.ext (Ext.trans zxt hx1))
  replace HT := Lib.hid (HT.out.ext (Ext.trans zxt hx1))
  have X1 : Hid (Ext w w1) := Lib.hid (Ext.trans zxt hx1)
  clear hx1
  gi_wp2_with fail
  refine ⟨trivial, (hworths_in _ _ trivial rfl _ _ _ _ _ _ _).mono ?_⟩
  rintro e w0 ⟨rfl, hw0⟩
  have hx0 : Ext w1 w0 := by rw [hw0]; exact (Ext.refl _).alloc _
  have hz0 : w0.heap.size = w1.heap.size + 1 := by rw [hw0]; simp
  have hc0 : w0.cell? ⟨w1.heap.size, 0, none⟩ = some (.slice A n c) := by rw [hw0]; simp [go_sem, World.cell?_alloc_past]
  have hc1 : w0.cell? ⟨w1.heap.size, 1, none⟩ = some (.slice A2 n2 c2) := by rw [hw0]; simp [go_sem, World.cell?_alloc_past]
  have HVI : VI (w.heap.size + 1) O V S P Q 0 0 w w0 := VI.ext ⟨c1_0, c2_0, c2_1, c2_2, c2_3, c3_0, c3_0f, c4_0, c4_0f, X1.out⟩ hx0
  have HS0 := SlB.ext HS.out hx0
  have HT0 := SlB.ext HT.out hx0
  have hzw : w.heap.size + 5 ≤ w1.heap.size := by omega
  clear hw0 hx0
  gi_wp2_with fail
  refine rangeFunc_stop rfl (by decide) (gf := 149) (lb := #[.pointer (some ⟨w1.heap.size, 0, none⟩)]) rfl trivial (enters_of Tryz.func149 (by kernel_rfl) rfl) (enc := fun x : (Int × Int × Int × Int × Int × Int) => #[.agg #[.int .i64 x.1, .int .i64 x.2.1, .int .i64 x.2.2.1, .int .i64 x.2.2.2.1, .int .i64 x.2.2.2.2.1, .int .u64 x.2.2.2.2.2], .int .u64 (wvl cl x)]) (xs := ps) (S := fun k => w0.heap.size ≤ k) (fun k hk => hk)
    (fun q J Jx W hW hJ hX hY h0 => hworths1_in 5 (by decide) q (w1.heap.size) n c n2 c2 w.heap.size (fun k => w0.heap.size ≤ k) A A2 cl ps J Jx W HW.out.1 HW.out.2 hJ hY (fun k hk => by have h9 : w0.heap.size ≤ k := hk; omega) (fun hh => by have h9 : w0.heap.size ≤ w1.heap.size := hh; omega) (Ext.has hW hc0) (Ext.has hW hc1) (SlB.ext HS0 hW) (SlB.ext HT0 hW) h0)
    (fun _ => rfl)
    (fun pre W => (∀ y ∈ pre, kP y ≠ [O, V, S, P, Q]) ∧ VI (w.heap.size + 1) O V S P Q 0 0 w W)
    (fun pre W => ∃ pre' x, pre = pre' ++ [x] ∧ (∀ y ∈ pre', kP y ≠ [O, V, S, P, Q]) ∧ kP x = [O, V, S, P, Q] ∧ VI (w.heap.size + 1) O V S P Q (wvl cl x) 0 w W)
    (fun s A A' hs hx => ?x1) (fun s A A' hs hx => ⟨hs.1, hs.2.ext hx⟩) (fun s A q o o' hs hq ho hnc => ⟨hs.1, hs.2.put (by omega) (by omega)⟩) (fun s A q o o' hs hq ho hnc => ?x2) ⟨(by intro y hy; cases hy), HVI⟩
    (fun pre x a' W => ∃ p, a' = { tmps := #[.agg #[.slice A n c, .slice A2 n2 c2], .int .i64 O, .agg #[.int .i64 V, .int .i64 S, .int .i64 P, .int .i64 Q], .pointer (some ⟨w.heap.size, 0, none⟩), .pointer (some ⟨w.heap.size + 1, 0, none⟩), .pointer (some ⟨w.heap.size + 1 + 1, 0, none⟩), .pointer (some ⟨w.heap.size + 1 + 1 + 1, 0, none⟩), .pointer (some ⟨w.heap.size + 1 + 1 + 1 + 1, 0, none⟩), .int .i64 0, .pointer (some ⟨p, 0, none⟩), .int .u64 (wvl cl x), .agg #[.slice A n c, .slice A2 n2 c2], .int .i64 0, .int .i64 0, .bool false, undef, .agg #[.slice A n c, .slice A2 n2 c2], .func (.func 149) #[] #[.pointer (some ⟨w1.heap.size, 0, none⟩)], .agg #[.int .i64 x.1, .int .i64 x.2.1, .int .i64 x.2.2.1, .int .i64 x.2.2.2.1, .int .i64 x.2.2.2.2.1, .int .u64 x.2.2.2.2.2], .int .u64 (wvl cl x), undef, undef, undef, undef, undef, undef, undef, undef, undef, undef, undef], defers := [] } ∧ (W.cell? ⟨p, 0, none⟩ = some (.int .i64 x.1) ∧ W.cell? ⟨p, 1, none⟩ = some (.int .i64 x.2.1) ∧ W.cell? ⟨p, 2, none⟩ = some (.int .i64 x.2.2.1) ∧ W.cell? ⟨p, 3, none⟩ = some (.int .i64 x.2.2.2.1) ∧ W.cell? ⟨p, 4, none⟩ = some (.int .i64 x.2.2.2.2.1)) ∧ w0.heap.size ≤ p ∧ (∀ y ∈ pre, kP y ≠ [O, V, S, P, Q]) ∧ VI (w.heap.size + 1) O V S P Q 0 0 w W)
    (fun s x a A q o o' hs hq ho hnc => ?put) ?assign ?body ?done ?stop
  case x1 =>
    obtain ⟨pre', x, h1, h2, h3, h4⟩ := hs
    exact ⟨pre', x, h1, h2, h3, h4.ext hx⟩
  case x2 =>
    obtain ⟨pre', x, h1, h2, h3, h4⟩ := hs
    exact ⟨pre', x, h1, h2, h3, h4.put (by omega) (by omega)⟩
  case put =>
    obtain ⟨p, h1, ⟨h2, h3, h4, h5, h6⟩, h7, h8, h9⟩ := hs
    exact ⟨p, h1, ⟨cell_put2 h2 ho hnc, cell_put2 h3 ho hnc, cell_put2 h4 ho hnc, cell_put2 h5 ho hnc, cell_put2 h6 ho hnc⟩, h7, h8, h9.put (by omega) (by omega)⟩
  case assign =>
    intro q pre x W K hI hpre hzW hK
    gi_wp2
    refine hK _ _ (KeepsOthers.alloc _ _) ((But.refl _ _).alloc _) ⟨W.heap.size, rfl, ⟨by simp [go_sem, World.cell?_alloc_past], by simp [go_sem, World.cell?_alloc_past], by simp [go_sem, World.cell?_alloc_past], by simp [go_sem, World.cell?_alloc_past], by simp [go_sem, World.cell?_alloc_past]⟩, hzW, hI.1, hI.2.ext ((Ext.refl _).alloc _)⟩
  case body =>
    rintro q pre x a' W ⟨p, rfl, ⟨p_0, p_1, p_2, p_3, p_4⟩, hp, hpre, hV⟩ hpx hzW
    have HV := Lib.hid hV
    have HPR := Lib.hid (And.intro hpre hpx)
    have o_0 := hV.o0
    have s_0 := hV.s0
    have s_1 := hV.s1
    have s_2 := hV.s2
    have s_3 := hV.s3
    have r_0 := hV.r0
    have r_0f := hV.f0
    have q_0 := hV.q0
    have q_0f := hV.g0
    obtain ⟨x1, x2, x3, x4, x5, x6⟩ := x
    simp only at p_0 p_1 p_2 p_3 p_4
    clear hV hpre hpx
    by_cases e0 : x1 = O
    · have e0b : (x1 == O) = true := by simp [e0]
      by_cases e1 : x2 = V ∧ x3 = S ∧ x4 = P ∧ x5 = Q
      · have e1b := four_true e1
        have HK := Lib.hid (kP_eq (t := x6) e0 e1)
        clear e0 e1
        gi_wp2
        refine ⟨(KeepsOthers.setCell _ _ _).trans (KeepsOthers.setCell _ _ _), pre, _, rfl, HPR.out.1, HK.out, ?_⟩
        have h := HV.out
        exact ⟨by simp [go_sem, o_0], by simp [go_sem, s_0], by simp [go_sem, s_1], by simp [go_sem, s_2], by simp [go_sem, s_3], by simp [go_sem, r_0], by simp [go_sem, r_0, r_0f], by simp [go_sem, q_0], by simp [go_sem, q_0, q_0f], (Below.setCell (p := ⟨w.heap.size + 1 + 1 + 1, 0, none⟩) h.x (by simp; omega) _).setCell (p := ⟨w.heap.size + 1 + 1 + 1 + 1, 0, none⟩) (by simp; omega) _⟩
      · have e1b := four_false e1
        have HK := Lib.hid (kP_ne (O := O) (o := x1) (t := x6) (fun hh => e1 hh.2))
        clear e0 e1
        gi_wp2
        refine ⟨KeepsOthers.refl _, But.refl _ _, fun y hy => ?_, HV.out⟩
        rcases List.mem_append.1 hy with hy | hy
        · exact HPR.out.1 y hy
        · rw [List.mem_singleton.1 hy]; exact HK.out
    · have e0b : (x1 == O) = false := by simpa using e0
      have HK := Lib.hid (kP_ne (V := V) (S := S) (P := P) (Q := Q) (a := x2) (b := x3) (c := x4) (d := x5) (t := x6) (fun hh => e0 hh.1))
      clear e0
      gi_wp2
      refine ⟨KeepsOthers.refl _, But.refl _ _, fun y hy => ?_, HV.out⟩
      rcases List.mem_append.1 hy with hy | hy
      · exact HPR.out.1 y hy
      · rw [List.mem_singleton.1 hy]; exact HK.out
  case done =>
    rintro D W hD ⟨hpre, hV⟩ hK
    have e : valG cl ps [O, V, S, P, Q] = (0, 10) := by unfold valG; rw [getK_pre_none hpre]
    obtain ⟨rfl, rfl⟩ : G1 = 0 ∧ G2 = 10 := by have h := HG.out; rw [e] at h; simpa using h
    have HV := Lib.hid hV
    have r_0 := hV.r0
    have r_0f := hV.f0
    have q_0 := hV.q0
    have q_0f := hV.g0
    have hDn : ¬ D = w.heap.size + 1 + 1 + 1 := by omega
    have hDn2 : ¬ D = w.heap.size + 1 + 1 + 1 + 1 := by omega
    clear hV hpre e
    gi_wp2
    have hr : ∀ ob, (((W.setCell ⟨w.heap.size + 1 + 1 + 1, 0, none⟩ (.int .u64 0)).setCell ⟨w.heap.size + 1 + 1 + 1 + 1, 0, none⟩ (.int .i64 10)).putObj D ob).cell? ⟨w.heap.size + 1 + 1 + 1, 0, none⟩ = some (.int .u64 0) := fun ob => cell_put (by simp [go_sem, r_0]) (by omega)
    have hq : ∀ ob, (((W.setCell ⟨w.heap.size + 1 + 1 + 1, 0, none⟩ (.int .u64 0)).setCell ⟨w.heap.size + 1 + 1 + 1 + 1, 0, none⟩ (.int .i64 10)).putObj D ob).cell? ⟨w.heap.size + 1 + 1 + 1 + 1, 0, none⟩ = some (.int .i64 10) := fun ob => cell_put (by simp [go_sem, q_0]) (by omega)
    have hK1 : ((W.setCell ⟨w.heap.size + 1 + 1 + 1, 0, none⟩ (.int .u64 0)).setCell ⟨w.heap.size + 1 + 1 + 1 + 1, 0, none⟩ (.int .i64 10)).heap[D]? = some (.deferred (some [])) := ((Below.heap_setCell _ ⟨w.heap.size + 1 + 1 + 1 + 1, 0, none⟩ _ D (by simp; omega)).trans (Below.heap_setCell _ ⟨w.heap.size + 1 + 1 + 1, 0, none⟩ _ D (by simp; omega))).trans hK
    refine ⟨by simp, .inl ⟨_, _, rfl, run_takeDeferred hK1, ?_⟩⟩
    exact ⟨.tuple #[.int .u64 0, .int .i64 10], by simp [results, Tryz.results34, go_sem, hr, hq]; try rfl, rfl, ext_put ((Below.setCell (p := ⟨w.heap.size + 1 + 1 + 1, 0, none⟩) HV.out.x (by simp; omega) _).setCell (p := ⟨w.heap.size + 1 + 1 + 1 + 1, 0, none⟩) (by simp; omega) _) (by omega)⟩
  case stop =>
    rintro D pre W hD hpre ⟨pre', x, rfl, h1, h2, hV⟩ hK
    have e : valG cl ps [O, V, S, P, Q] = (wvl cl x, 0) := by unfold valG; rw [getK_pre_some h1 h2 hpre]
    obtain ⟨rfl, rfl⟩ : G1 = wvl cl x ∧ G2 = 0 := by have h := HG.out; rw [e] at h; simpa using h
    have HV := Lib.hid hV
    have r_0 := hV.r0
    have q_0 := hV.q0
    clear hV e
    gi_wp2
    have hr : ∀ ob, (W.putObj D ob).cell? ⟨w.heap.size + 1 + 1 + 1, 0, none⟩ = some (.int .u64 (wvl cl x)) := fun ob => cell_put r_0 (by omega)
    have hq : ∀ ob, (W.putObj D ob).cell? ⟨w.heap.size + 1 + 1 + 1 + 1, 0, none⟩ = some (.int .i64 0) := fun ob => cell_put q_0 (by omega)
    refine ⟨by simp, .inl ⟨_, _, rfl, run_takeDeferred hK, ?_⟩⟩
    exact ⟨.tuple #[.int .u64 (wvl cl x), .int .i64 0], by simp [results, Tryz.results34, go_sem, hr, hq]; try rfl, rfl, ext_put HV.out.x (by omega)⟩
theorem hValue_any (n c n2 c2 : Nat) (A A2 : Option Addr) (cl ps : List (Int × Int × Int × Int × Int × Int)) (O V S P Q : Int) (w : World) (h : Sl w 6 A n c (cl.flatMap clsC)) (h2 : Sl w 6 A2 n2 c2 (ps.flatMap posC)) (hn : n < 1099511627776) (hn2 : n2 < 1099511627776) (hw : ∀ x ∈ cl, WdC x) (hw2 : ∀ x ∈ ps, WdP x) :
    Calls Tryz.prog 34 #[.agg #[.slice A n c, .slice A2 n2 c2], .int .i64 O, .agg #[.int .i64 V, .int .i64 S, .int .i64 P, .int .i64 Q]] w fun r w' => r = .returned (.tuple #[.int .u64 (valH cl ps [O, V, S, P, Q]).1, .int .i64 (valH cl ps [O, V, S, P, Q]).2]) ∧ Ext w w' := by
  have C1 : ∀ w', Ext w w' → Calls Tryz.prog 14 #[.agg #[.slice A n c, .slice A2 n2 c2]] w' fun r w'' => r = .returned (.int .i64 (chkH cl ps)) ∧ Ext w' w'' := fun w' hx => hCheck_any n c n2 c2 A A2 cl ps w' (h.ext hx) (h2.ext hx) hn hn2 hw hw2
  unfold valH
  by_cases he : chkH cl ps = 0
  · rw [if_neg (by simpa using he)]
    rw [he] at C1
    exact hValue_ok n c n2 c2 A A2 cl ps O V S P Q w h h2 hw hw2 (Lib.hid C1)
  · rw [if_pos he]
    exact hValue_bad n c n2 c2 A A2 cl ps O V S P Q _ w (Lib.hid C1) he
/-- what Own tells of positions -/
def ownF (cl : List (Int × Int × Int × Int × Int × Int)) (O V : Int) (ps : List (Int × Int × Int × Int × Int × Int)) : Int := ps.foldl (fun s x => if x.1 = O ∧ x.2.1 = V then IntKind.u64.wrap (s + wvl cl x) else s) 0
def ownH (cl ps : List (Int × Int × Int × Int × Int × Int)) (O V : Int) : Int × Int := if chkH cl ps ≠ 0 then (0, chkH cl ps) else (ownF cl O V ps, 0)
theorem ownF_snoc (cl : List (Int × Int × Int × Int × Int × Int)) (O V : Int) (ps : List (Int × Int × Int × Int × Int × Int)) (x : (Int × Int × Int × Int × Int × Int)) : ownF cl O V (ps ++ [x]) = if x.1 = O ∧ x.2.1 = V then IntKind.u64.wrap (ownF cl O V ps + wvl cl x) else ownF cl O V ps := by unfold ownF; rw [List.foldl_append]; rfl
/-- what stands between the rounds of Own: its boxes from b on, the sum's at q -/
structure OI (b q : Nat) (O V s : Int) (w W : World) : Prop where
  o0 : W.cell? ⟨b, 0, none⟩ = some (.int .i64 O)
  v0 : W.cell? ⟨b + 1, 0, none⟩ = some (.int .i64 V)
  s0 : W.cell? ⟨q, 0, none⟩ = some (.int .u64 s)
  f0 : W.frozen? ⟨q, 0, none⟩ = false
  x : Ext w W
theorem OI.ext {b q : Nat} {O V s : Int} {w W W' : World} (h : OI b q O V s w W) (hx : Ext W W') : OI b q O V s w W' := ⟨hx.has h.o0, hx.has h.v0, hx.has h.s0, hx.froz h.s0 h.f0, Ext.trans h.x hx⟩
theorem OI.put {b q l : Nat} {O V s : Int} {w W : World} {ob : Obj} (h : OI b q O V s w W) (hl : b + 1 < l) (hq : q < l) (hw : w.heap.size ≤ l) : OI b q O V s w (W.putObj l ob) := ⟨cell_put h.o0 (by omega), cell_put h.v0 (by omega), cell_put h.s0 hq, froz_put h.s0 h.f0 hq, ext_put h.x hw⟩
set_option maxRecDepth 100000 in
set_option maxHeartbeats 4000000 in
theorem hOwn_bad (n c n2 c2 : Nat) (A A2 : Option Addr) (cl ps : List (Int × Int × Int × Int × Int × Int)) (O V E : Int) (w : World) (C1 : Hid (∀ w', Ext w w' → Calls Tryz.prog 14 #[.agg #[.slice A n c, .slice A2 n2 c2]] w' fun r w'' => r = .returned (.int .i64 E) ∧ Ext w' w'')) (he : ¬ E = 0) :
    Calls Tryz.prog 36 #[.agg #[.slice A n c, .slice A2 n2 c2], .int .i64 O, .int .i64 V] w fun r w' => r = .returned (.tuple #[.int .u64 0, .int .i64 E]) ∧ Ext w w' := by
  have heb : (E != 0) = true := by simpa using he
  refine (callsIn_wide (n := 6)).1 ?_
  refine callsIn_of_wp_marks Tryz.func36 rfl trivial ?_ rfl
  simp only [Tryz.ntmps36, List.size_toArray, List.length_cons, List.length_nil, Nat.reduceAdd, Nat.reduceSub, Array.replicate_succ, Array.replicate_zero, List.push_toArray, List.append_toArray, List.nil_append, List.cons_append]
  gi_wp2_with fail
  refine ⟨trivial, ?_⟩
  (with_reducible refine (callsIn_wide.2 (C1.out _ zxt)).mono ?_)
  rintro e w1 ⟨rfl, hx1⟩
  have z1 := hx1.size
  try simp at z1
  have X1 : Hid (Ext w w1) := Lib.hid (Ext.trans zxt hx1)
  clear hx1 z1
  gi_wp2_with fail
  exact ⟨.tuple #[.int .u64 0, .int .i64 E], by simp [results, Tryz.results36, go_sem, World.cell?_alloc_past]; try rfl, rfl, zxt⟩
set_option maxRecDepth 100000 in
set_option maxHeartbeats 4000000 in
theorem hOwn_ok (n c n2 c2 : Nat) (A A2 : Option Addr) (cl ps : List (Int × Int × Int × Int × Int × Int)) (O V : Int) (w : World) (h : Sl w 6 A n c (cl.flatMap clsC)) (h2 : Sl w 6 A2 n2 c2 (ps.flatMap posC)) (hw : ∀ x ∈ cl, WdC x) (hw2 : ∀ x ∈ ps, WdP x) (C1 : Hid (∀ w', Ext w w' → Calls Tryz.prog 14 #[.agg #[.slice A n c, .slice A2 n2 c2]] w' fun r w'' => r = .returned (.int .i64 0) ∧ Ext w' w'')) :
    Calls Tryz.prog 36 #[.agg #[.slice A n c, .slice A2 n2 c2], .int .i64 O, .int .i64 V] w fun r w' => r = .returned (.tuple #[.int .u64 (ownF cl O V ps), .int .i64 0]) ∧ Ext w w' := by
  have HS := Lib.hid h.low
  have HT := Lib.hid h2.low
  have HW := Lib.hid (And.intro hw hw2)
  have hll := h2.rlen posC_len (by decide)
  have HLL := Lib.hid hll
  obtain ⟨G, hG⟩ : ∃ G, G = ownF cl O V ps := ⟨_, rfl⟩
  rw [← hG]
  have HG := Lib.hid hG
  clear hG
  clear h h2 hw hw2 hll
  refine (callsIn_wide (n := 6)).1 ?_
  refine callsIn_of_wp_marks Tryz.func36 rfl trivial ?_ rfl
  simp only [Tryz.ntmps36, List.size_toArray, List.length_cons, List.length_nil, Nat.reduceAdd, Nat.reduceSub, Array.replicate_succ, Array.replicate_zero, List.push_toArray, List.append_toArray, List.nil_append, List.cons_append]
  gi_wp2_with fail
  refine ⟨trivial, ?_⟩
  (with_reducible refine (callsIn_wide.2 (C1.out _ zxt)).mono ?_)
  rintro e w1 ⟨rfl, hx1⟩
  have c0_0 : w1.cell? ⟨w.heap.size, 0, none⟩ = some (.slice A n c) := hx1.has zcv
  have c0_1 : w1.cell? ⟨w.heap.size, 1, none⟩ = some (.slice A2 n2 c2) := hx1.has zcv
  have c1_0 : w1.cell? ⟨w.heap.size + 1, 0, none⟩ = some (.int .i64 O) := hx1.has zcv
  have c2_0 : w1.cell? ⟨w.heap.size + 1 + 1, 0, none⟩ = some (.int .i64 V) := hx1.has zcv
  have z1 := hx1.size
  try simp at z1
  have lt_c0_c1 : w.heap.size < w.heap.size + 1 := by omega
  have ne_c0_c1 : ¬ w.heap.size = w.heap.size + 1 := by omega
  have lt_c0_c2 : w.heap.size < w.heap.size + 1 + 1 := by omega
  have ne_c0_c2 : ¬ w.heap.size = w.heap.size + 1 + 1 := by omega
  have ne_c1_c0 : ¬ w.heap.size + 1 = w.heap.size := by omega
  have lt_c1_c2 : w.heap.size + 1 < w.heap.size + 1 + 1 := by omega
  have ne_c1_c2 : ¬ w.heap.size + 1 = w.heap.size + 1 + 1 := by omega
  have ne_c2_c0 : ¬ w.heap.size + 1 + 1 = w.heap.size := by omega
  have ne_c2_c1 : ¬ w.heap.size + 1 + 1 = w.heap.size + 1 := by omega
  have zq := zrc (show w.heap.size < w1.heap.size from by omega)
  obtain ⟨rc0, rc0a, rc0b, rc0c, rc0n⟩ := zq
  have zq := zrc (show w.heap.size + 1 < w1.heap.size from by omega)
  obtain ⟨rc1, rc1a, rc1b, rc1c, rc1n⟩ := zq
  have zq := zrc (show w.heap.size + 1 + 1 < w1.heap.size from by omega)
  obtain ⟨rc2, rc2a, rc2b, rc2c, rc2n⟩ := zq
  replace HS := Lib.hid (HS.out.ext (Ext.trans zxt hx1))
  replace HT := Lib.hid (HT.out.ext (Ext.trans zxt hx1))
  have X1 : Hid (Ext w w1) := Lib.hid (Ext.trans zxt hx1)
  clear hx1
  gi_wp2_with fail
  refine ⟨trivial, (hworths_in _ _ trivial rfl _ _ _ _ _ _ _).mono ?_⟩
  rintro e w0 ⟨rfl, hw0⟩
  have hx0 : Ext w1 w0 := by rw [hw0]; exact ((Ext.refl _).alloc _).alloc _
  have hz0 : w0.heap.size = w1.heap.size + 1 + 1 := by rw [hw0]; simp
  have hc0 : w0.cell? ⟨w1.heap.size + 1, 0, none⟩ = some (.slice A n c) := by rw [hw0]; simp [go_sem, World.cell?_alloc_past]
  have hc1 : w0.cell? ⟨w1.heap.size + 1, 1, none⟩ = some (.slice A2 n2 c2) := by rw [hw0]; simp [go_sem, World.cell?_alloc_past]
  have hs0 : w0.cell? ⟨w1.heap.size, 0, none⟩ = some (.int .u64 0) := by rw [hw0]; simp [go_sem, World.cell?_alloc_past]
  have hf0 : w0.frozen? ⟨w1.heap.size, 0, none⟩ = false := by rw [hw0]; simp [go_sem, World.cell?_alloc_past]
  have HVI : OI (w.heap.size + 1) (w1.heap.size) O V (ownF cl O V []) w w0 := ⟨hx0.has c1_0, hx0.has c2_0, hs0, hf0, Ext.trans X1.out hx0⟩
  have HS0 := SlB.ext HS.out hx0
  have HT0 := SlB.ext HT.out hx0
  have hzw : w.heap.size + 3 ≤ w1.heap.size := by omega
  clear hw0 hx0 hs0 hf0
  gi_wp2_with fail
  refine rangeFunc_stop rfl (by decide) (gf := 149) (lb := #[.pointer (some ⟨w1.heap.size + 1, 0, none⟩)]) rfl trivial (enters_of Tryz.func149 (by kernel_rfl) rfl) (enc := fun x : (Int × Int × Int × Int × Int × Int) => #[.agg #[.int .i64 x.1, .int .i64 x.2.1, .int .i64 x.2.2.1, .int .i64 x.2.2.2.1, .int .i64 x.2.2.2.2.1, .int .u64 x.2.2.2.2.2], .int .u64 (wvl cl x)]) (xs := ps) (S := fun k => k = w1.heap.size ∨ w0.heap.size ≤ k) (fun k hk => .inr hk)
    (fun q J Jx W hW hJ hX hY h0 => hworths1_in 5 (by decide) q (w1.heap.size + 1) n c n2 c2 w.heap.size (fun k => k = w1.heap.size ∨ w0.heap.size ≤ k) A A2 cl ps J Jx W HW.out.1 HW.out.2 hJ hY (fun k hk => by rcases hk with h9 | h9 <;> omega) (fun hh => by rcases hh with h9 | h9 <;> omega) (Ext.has hW hc0) (Ext.has hW hc1) (SlB.ext HS0 hW) (SlB.ext HT0 hW) h0)
    (fun _ => rfl)
    (fun pre W => OI (w.heap.size + 1) (w1.heap.size) O V (ownF cl O V pre) w W)
    (fun pre W => False)
    (fun s A A' hs hx => hs) (fun s A A' hs hx => hs.ext hx) (fun s A q o o' hs hq ho hnc => hs.put (by omega) (by omega) (by omega)) (fun s A q o o' hs hq ho hnc => hs) HVI
    (fun pre x a' W => ∃ p, a' = { tmps := #[.agg #[.slice A n c, .slice A2 n2 c2], .int .i64 O, .int .i64 V, .pointer (some ⟨w.heap.size, 0, none⟩), .pointer (some ⟨w.heap.size + 1, 0, none⟩), .pointer (some ⟨w.heap.size + 1 + 1, 0, none⟩), .int .u64 0, .int .i64 0, .int .i64 0, .pointer (some ⟨w1.heap.size, 0, none⟩), .pointer (some ⟨p, 0, none⟩), .int .u64 (wvl cl x), .agg #[.slice A n c, .slice A2 n2 c2], .int .i64 0, .int .i64 0, .bool false, undef, .agg #[.slice A n c, .slice A2 n2 c2], .func (.func 149) #[] #[.pointer (some ⟨w1.heap.size + 1, 0, none⟩)], .agg #[.int .i64 x.1, .int .i64 x.2.1, .int .i64 x.2.2.1, .int .i64 x.2.2.2.1, .int .i64 x.2.2.2.2.1, .int .u64 x.2.2.2.2.2], .int .u64 (wvl cl x), undef, undef, undef, undef, undef, undef, undef, undef, undef, undef, undef, undef, undef, undef, undef], defers := [] } ∧ (W.cell? ⟨p, 0, none⟩ = some (.int .i64 x.1) ∧ W.cell? ⟨p, 1, none⟩ = some (.int .i64 x.2.1)) ∧ w0.heap.size ≤ p ∧ OI (w.heap.size + 1) (w1.heap.size) O V (ownF cl O V pre) w W)
    (fun s x a A q o o' hs hq ho hnc => ?put) ?assign ?body ?done (fun D pre W hD hpre hf => hf.elim)
  case put =>
    obtain ⟨p, h1, ⟨h2, h3⟩, h7, h9⟩ := hs
    exact ⟨p, h1, ⟨cell_put2 h2 ho hnc, cell_put2 h3 ho hnc⟩, h7, h9.put (by omega) (by omega) (by omega)⟩
  case assign =>
    intro q pre x W K hI hpre hzW hK
    gi_wp2
    refine hK _ _ (KeepsOthers.alloc _ _) ((But.refl _ _).alloc _) ⟨W.heap.size, rfl, ⟨by simp [go_sem, World.cell?_alloc_past], by simp [go_sem, World.cell?_alloc_past]⟩, hzW, hI.ext ((Ext.refl _).alloc _)⟩
  case body =>
    rintro q pre x a' W ⟨p, rfl, ⟨p_0, p_1⟩, hp, hV⟩ hpx hzW
    have HV := Lib.hid hV
    have o_0 := hV.o0
    have v_0 := hV.v0
    have s_0 := hV.s0
    have s_0f := hV.f0
    have hsn := ownF_snoc cl O V pre x
    obtain ⟨t, ht⟩ : ∃ t, t = ownF cl O V pre := ⟨_, rfl⟩
    obtain ⟨N, hN⟩ : ∃ N, N = wvl cl x := ⟨_, rfl⟩
    rw [← ht] at s_0
    rw [← ht, ← hN] at hsn
    rw [← hN]
    obtain ⟨x1, x2, x3, x4, x5, x6⟩ := x
    simp only at p_0 p_1 hsn
    have HSN := Lib.hid hsn
    clear hV hpx ht hN hsn
    by_cases e0 : x1 = O
    · have e0b : (x1 == O) = true := by simp [e0]
      by_cases e1 : x2 = V
      · have e1b : (x2 == V) = true := by simp [e1]
        have HE := Lib.hid (HSN.out.trans (if_pos ⟨e0, e1⟩))
        clear e0 e1
        gi_wp2
        refine ⟨KeepsOthers.setCell _ _ _, (But.refl _ _).setCell (p := ⟨w1.heap.size, 0, none⟩) (.inl rfl) _, ?_⟩
        have h := HV.out
        rw [HE.out]
        exact ⟨by simp [go_sem, o_0], by simp [go_sem, v_0], by simp [go_sem, s_0], by simp [go_sem, s_0, s_0f], Below.setCell (p := ⟨w1.heap.size, 0, none⟩) h.x (by simp; omega) _⟩
      · have e1b : (x2 == V) = false := by simpa using e1
        have HE := Lib.hid (HSN.out.trans (if_neg (fun hh => e1 hh.2)))
        clear e0 e1
        gi_wp2
        refine ⟨KeepsOthers.refl _, But.refl _ _, ?_⟩
        have h := HV.out
        rw [HE.out]
        exact ⟨h.o0, h.v0, s_0, h.f0, h.x⟩
    · have e0b : (x1 == O) = false := by simpa using e0
      have HE := Lib.hid (HSN.out.trans (if_neg (fun hh => e0 hh.1)))
      clear e0
      gi_wp2
      refine ⟨KeepsOthers.refl _, But.refl _ _, ?_⟩
      have h := HV.out
      rw [HE.out]
      exact ⟨h.o0, h.v0, s_0, h.f0, h.x⟩
  case done =>
    rintro D W hD hV hK
    have HV := Lib.hid hV
    have s_0 := hV.s0
    rw [← HG.out] at s_0
    clear hV
    gi_wp2
    refine ⟨by simp, .inl ⟨_, _, rfl, run_takeDeferred hK, ?_⟩⟩
    exact ⟨.tuple #[.int .u64 G, .int .i64 0], by simp [results, Tryz.results36, go_sem]; try rfl, rfl, ext_put HV.out.x (by omega)⟩
theorem hOwn_any (n c n2 c2 : Nat) (A A2 : Option Addr) (cl ps : List (Int × Int × Int × Int × Int × Int)) (O V : Int) (w : World) (h : Sl w 6 A n c (cl.flatMap clsC)) (h2 : Sl w 6 A2 n2 c2 (ps.flatMap posC)) (hn : n < 1099511627776) (hn2 : n2 < 1099511627776) (hw : ∀ x ∈ cl, WdC x) (hw2 : ∀ x ∈ ps, WdP x) :
    Calls Tryz.prog 36 #[.agg #[.slice A n c, .slice A2 n2 c2], .int .i64 O, .int .i64 V] w fun r w' => r = .returned (.tuple #[.int .u64 (ownH cl ps O V).1, .int .i64 (ownH cl ps O V).2]) ∧ Ext w w' := by
  have C1 : ∀ w', Ext w w' → Calls Tryz.prog 14 #[.agg #[.slice A n c, .slice A2 n2 c2]] w' fun r w'' => r = .returned (.int .i64 (chkH cl ps)) ∧ Ext w' w'' := fun w' hx => hCheck_any n c n2 c2 A A2 cl ps w' (h.ext hx) (h2.ext hx) hn hn2 hw hw2
  unfold ownH
  by_cases he : chkH cl ps = 0
  · rw [if_neg (by simpa using he)]
    rw [he] at C1
    exact hOwn_ok n c n2 c2 A A2 cl ps O V w h h2 hw hw2 (Lib.hid C1)
  · rw [if_pos he]
    exact hOwn_bad n c n2 c2 A A2 cl ps O V _ w (Lib.hid C1) he
/-- what stands between the rounds of Of -/
structure PI (b q B : Nat) (O : Int) (L : List (Int × Int × Int × Int × Int × Int)) (w W : World) : Prop where
  o0 : W.cell? ⟨b, 0, none⟩ = some (.int .i64 O)
  r : ∃ A c, W.cell? ⟨q, 0, none⟩ = some (.slice A L.length c) ∧ OwnPos W B (.slice A L.length c) L.length L
  f0 : W.frozen? ⟨q, 0, none⟩ = false
  x : Ext w W
theorem PI.ext {b q B : Nat} {O : Int} {L : List (Int × Int × Int × Int × Int × Int)} {w W W' : World} (h : PI b q B O L w W) (hx : Ext W W') : PI b q B O L w W' := by
  obtain ⟨A, c, h1, h2⟩ := h.r
  exact ⟨hx.has h.o0, ⟨A, c, hx.has h1, OwnPos.ext h2 hx⟩, hx.froz h1 h.f0, Ext.trans h.x hx⟩
end
section
open Go.RowKit Go.ChangeShapes Go.WideShapes Go.Deep Go.Joins
/-- the chapter's holding behind the Cut, behind the Leave -/
def awC : List (Int × Int × Int × Int × Int × Int) := [(2, 5, -1, 0, 18, 20), (3, 6, -1, 0, 7, 7)]
def awL : List (Int × Int × Int × Int × Int) := [(2, 5, -1, 0, 2)]
def awD : List (Int × Int × Int × Int × Int × Int) := [(2, 5, -1, 0, 14, 15), (3, 6, -1, 0, 7, 7)]
def awQ : List (Int × Int × Int × Int × Int × Int) := [(0, 2, 5, -1, 0, 10), (1, 2, 5, -1, 0, 5), (1, 3, 6, -1, 0, 7)]
theorem awcut : hcutV (chC 3) (chP 3) 2 5 100000000 = (awC, chP 3, awL, 2, 0) := by first | kernel_rfl | rfl
theorem awlea : hleaV awC (chP 3) 1 2 5 (-1) 0 5 = (awD, awQ, 4, 0) := by first | kernel_rfl | rfl
theorem awval : valH awD awQ [0, 2, 5, -1, 0] = (9, 0) := by first | kernel_rfl | rfl
theorem awown : ownH awD awQ 1 2 = (4, 0) := by first | kernel_rfl | rfl
theorem aw_wd : (∀ x ∈ awC, WdC x) ∧ (∀ x ∈ awD, WdC x) ∧ (∀ x ∈ awQ, WdP x) := by
  unfold WdC WdP Word
  decide
set_option maxRecDepth 100000 in
set_option maxHeartbeats 4000000 in
theorem awCut_any (d d2 : Nat) (B B2 : Option Addr) (w : World) (h1 : Sl w 6 B 2 d ((chC 3).flatMap clsC)) (h2 : Sl w 6 B2 3 d2 ((chP 3).flatMap posC)) (hB : B = none → d = 0) (hB2 : B2 = none → d2 = 0) :
    Calls Tryz.prog 23 #[.agg #[.slice B 2 d, .slice B2 3 d2], .int .i64 2, .int .i64 5, .int .u64 100000000] w fun e w' => ∃ G dg G2 dg2 A c, e = .returned (.tuple #[.agg #[.slice G 2 dg, .slice G2 3 dg2], .slice A 1 c, .int .u64 2, .int .i64 0]) ∧ (G = none → dg = 0) ∧ (G2 = none → dg2 = 0) ∧ OwnCls w' w.heap.size (.slice G 2 dg) 2 awC ∧ OwnPos w' w.heap.size (.slice G2 3 dg2) 3 (chP 3) ∧ OwnLoss w' w.heap.size (.slice A 1 c) 1 awL ∧ Ext w w' := by
  obtain ⟨wd1, wd2, _, _⟩ := ch_wd 3 (by decide)
  refine (hCut_any d d2 B B2 (chC 3) (chP 3) 2 5 100000000 w h1 h2 (by decide) (by decide) hB hB2 wd1 wd2 ⟨by decide, by decide⟩).mono ?_
  intro e w' h
  rw [awcut] at h
  obtain ⟨v, A, c, h1, _, ⟨B, d, B2, d2, rfl, h2, h3, h4, h5, h6⟩, h7⟩ := h
  exact ⟨B, d, B2, d2, A, c, h1, h2, h3, h4, h5, h7, h6⟩
set_option maxRecDepth 100000 in
set_option maxHeartbeats 4000000 in
theorem awLeave_any (d d2 : Nat) (B B2 : Option Addr) (w : World) (h1 : Sl w 6 B 2 d (awC.flatMap clsC)) (h2 : Sl w 6 B2 3 d2 ((chP 3).flatMap posC)) (hB : B = none → d = 0) (hB2 : B2 = none → d2 = 0) :
    Calls Tryz.prog 27 #[.agg #[.slice B 2 d, .slice B2 3 d2], .int .i64 1, .agg #[.int .i64 2, .int .i64 5, .int .i64 (-1), .int .i64 0], .int .u64 5] w fun e w' => ∃ G dg G2 dg2, e = .returned (.tuple #[.agg #[.slice G 2 dg, .slice G2 3 dg2], .int .u64 4, .int .i64 0]) ∧ OwnCls w' w.heap.size (.slice G 2 dg) 2 awD ∧ OwnPos w' w.heap.size (.slice G2 3 dg2) 3 awQ ∧ Ext w w' := by
  obtain ⟨_, wd2, _, _⟩ := ch_wd 3 (by decide)
  refine (hLeave_any d d2 B B2 awC (chP 3) 1 2 5 (-1) 0 5 w h1 h2 (by decide) (by decide) hB hB2 aw_wd.1 wd2 ⟨by decide, by decide⟩).mono ?_
  intro e w' h
  rw [awlea] at h
  obtain ⟨v, h1, ⟨B, d, B2, d2, rfl, h2, h3, h4, h5, h6⟩⟩ := h
  exact ⟨B, d, B2, d2, h1, h4, h5, h6⟩
set_option maxRecDepth 100000 in
set_option maxHeartbeats 4000000 in
theorem awValue_any (d d2 : Nat) (B B2 : Option Addr) (w : World) (h1 : Sl w 6 B 2 d (awD.flatMap clsC)) (h2 : Sl w 6 B2 3 d2 (awQ.flatMap posC)) :
    Calls Tryz.prog 34 #[.agg #[.slice B 2 d, .slice B2 3 d2], .int .i64 0, .agg #[.int .i64 2, .int .i64 5, .int .i64 (-1), .int .i64 0]] w fun e w' => e = .returned (.tuple #[.int .u64 9, .int .i64 0]) ∧ Ext w w' := by
  have C := hValue_any 2 d 3 d2 B B2 awD awQ 0 2 5 (-1) 0 w h1 h2 (by decide) (by decide) aw_wd.2.1 aw_wd.2.2
  rw [awval] at C
  exact C
set_option maxRecDepth 100000 in
set_option maxHeartbeats 4000000 in
theorem awOwn_any (d d2 : Nat) (B B2 : Option Addr) (w : World) (h1 : Sl w 6 B 2 d (awD.flatMap clsC)) (h2 : Sl w 6 B2 3 d2 (awQ.flatMap posC)) :
    Calls Tryz.prog 36 #[.agg #[.slice B 2 d, .slice B2 3 d2], .int .i64 1, .int .i64 2] w fun e w' => e = .returned (.tuple #[.int .u64 4, .int .i64 0]) ∧ Ext w w' := by
  have C := hOwn_any 2 d 3 d2 B B2 awD awQ 1 2 w h1 h2 (by decide) (by decide) aw_wd.2.1 aw_wd.2.2
  rw [awown] at C
  exact C
end
end Go.Proofs.YtkinchgjidpjnaaGreat
