/- Bas, part 4 of 6: Hd20, Cur, CodecM, RefR, RefW, RefN, Low, WF, Cod, RdK, ListLoss, AppO, Hd21, Hd22, Hd23, Hw1, Hr1, Hr5. Conditions stand in each lemma. -/
import Derived.WalkKit
import Derived.Deep.QuietTactic
import Derived.Deep.Draws
import Derived.Lib.Hide
import Derived.Laws.OwnMore
import Derived.Laws.AppendOwn
import Derived.OwnWalk
import Derived.Maps.AppendAt
import Derived.Deep.RegionHeld3
import Derived.RangeFuncBox
import Derived.RangeFuncLeaves
import Derived.Shelf.Abstract
import Derived.OwnWalkIn
import Derived.TacticsInMore
import Derived.LoopNIn
import Derived.LoopIn
import Derived.Test.YtkinchgjidpjnaaGreatRows
import Derived.Deep.Onto
import Derived.ProofKit
import Derived.ChangeOld
import Derived.OpenShut
import Derived.Deep.Slices
import Derived.BigQuiet
import Derived.IntWalk
import Derived.Lib.SliceRun
import Derived.Deep.LoopGhost
import Derived.WalkSpells
import Derived.WalkLawsBesides
import Derived.Lib.SmallJoins
import Derived.Test.YtkinchgjidpjnaaGreatShelf
import Derived.Test.YtkinchgjidpjnaaGreatDivNorm
import Derived.Deep.DeepCutAuto
import Derived.Deep.CutBlock
import Derived.Shelf.Spec.BitsCarry
import Derived.Test.YtkinchgjidpjnaaGreatFixRefMath
import Derived.Test.YtkinchgjidpjnaaGreatFixDivideMath
import Derived.Handy
import Derived.ArgAppend
import Derived.Laws.CopyRow
import Derived.Lib.AppendZerosOnto
import Derived.Laws.Externs
import Derived.Lib.Overlaps
import Derived.Shelf.RegionOpenPlain
import Derived.Lib.AppendZeros
import Derived.WalkMore
import Derived.Laws.IdiomCopy
import Derived.Laws.StructEq
import Derived.RangeFuncNested
import Derived.Test.YtkinchgjidpjnaaGreatSlBas3
set_option linter.unusedVariables false
set_option linter.unusedSimpArgs false
namespace Go.Proofs.YtkinchgjidpjnaaGreat
section
open Go.RowKit Go.ChangeShapes Go.WideShapes Go.Deep Go.Joins
theorem zSlBas4_0 {P : Prop} (h : P := by first | omega | (simp; done) | (simp; omega)) : P := h
theorem hleaV_err {cl ps : List (Int × Int × Int × Int × Int × Int)} {o V S P Q a e : Int} (h : hleaE cl ps o V S P Q a = e) (he : e ≠ 0) : hleaV cl ps o V S P Q a = ([], [], 0, e) := by
  unfold hleaV
  rw [if_neg (by rw [h]; exact he), h]
theorem hleaV_ok {cl ps : List (Int × Int × Int × Int × Int × Int)} {o V S P Q a : Int} (h : hleaE cl ps o V S P Q a = 0) : hleaV cl ps o V S P Q a = (clsSet cl V S P Q (leaT (fndT cl [V, S, P, Q]) (fndS cl [V, S, P, Q]) a) (leaS (fndT cl [V, S, P, Q]) (fndS cl [V, S, P, Q]) a), posSet ps o V S P Q (hasV ps [o, V, S, P, Q] - a), leaN (fndT cl [V, S, P, Q]) (fndS cl [V, S, P, Q]) a, 0) := if_pos h
set_option maxRecDepth 100000 in
set_option maxHeartbeats 4000000 in
theorem hLeave_any (c c2 : Nat) (A A2 : Option Addr) (cl ps : List (Int × Int × Int × Int × Int × Int)) (O V S P Q a : Int) (w : World) (h : Sl w 6 A cl.length c (cl.flatMap clsC)) (h2 : Sl w 6 A2 ps.length c2 (ps.flatMap posC)) (hn : cl.length < 1099511627776) (hn2 : ps.length < 1099511627776) (hA : A = none → c = 0) (hA2 : A2 = none → c2 = 0) (hw : ∀ x ∈ cl, WdC x) (hw2 : ∀ x ∈ ps, WdP x) (ha : Word a) :
    Calls Tryz.prog 27 #[.agg #[.slice A cl.length c, .slice A2 ps.length c2], .int .i64 O, .agg #[.int .i64 V, .int .i64 S, .int .i64 P, .int .i64 Q], .int .u64 a] w (RetJ (hleaV cl ps O V S P Q a) w) := by
  have C1 := Lib.hid (fun (w' : World) (hx : Ext w w') => hCheck_any cl.length c ps.length c2 A A2 cl ps w' (h.ext hx) (h2.ext hx) hn hn2 hw hw2)
  obtain ⟨R, hR⟩ : ∃ R, R = hleaV cl ps O V S P Q a := ⟨_, rfl⟩
  rw [← hR]
  have HR := Lib.hid hR
  obtain ⟨E, hE⟩ : ∃ E, E = chkH cl ps := ⟨_, rfl⟩
  by_cases he : ¬ E = 0
  · obtain rfl : R = ([], [], 0, E) := hR.trans (hleaV_err (by unfold hleaE; rw [if_pos (by rw [← hE]; exact he), hE]) he)
    rw [← hE] at C1
    have heb : (E != 0) = true := by simpa using he
    clear h h2 hw hw2 hE hR HR ha hn hn2
    go_enter Tryz.func27, Tryz.ntmps27
    go_wp2_with fail
    (with_reducible refine (C1.out _ zxt).mono ?_)
    rintro e w1 ⟨rfl, hx1⟩
    have c2_0f : w1.frozen? ⟨w.heap.size + 1 + 1, 0, none⟩ = false := hx1.froz (v := .slice none 0 0) zcv zcv
    have c2_1f : w1.frozen? ⟨w.heap.size + 1 + 1, 1, none⟩ = false := hx1.froz (v := .slice none 0 0) zcv zcv
    have c2_0 : w1.cell? ⟨w.heap.size + 1 + 1, 0, none⟩ = some (.slice none 0 0) := hx1.has zcv
    have c2_1 : w1.cell? ⟨w.heap.size + 1 + 1, 1, none⟩ = some (.slice none 0 0) := hx1.has zcv
    have z1 := hx1.size
    try simp at z1
    have zq := zrc (show w.heap.size + 1 + 1 < w1.heap.size from by omega)
    obtain ⟨rc2, rc2a, rc2b, rc2c, rc2n⟩ := zq
    have X1 : Hid (Ext w w1) := Lib.hid (Ext.trans zxt hx1)
    clear hx1 z1
    go_wp2_with fail
    refine bodyPost_ret (v := .tuple #[.agg #[.slice none 0 0, .slice none 0 0], .int .u64 0, .int .i64 E]) (by simp [results, Tryz.results27, go_sem, World.cell?_alloc_past, *]; try rfl) rfl (RetJ.nil ?_)
    exact zxt
  replace he : E = 0 := by omega
  have hk := (chkH_iff cl ps).1 (hE.symm.trans he)
  have C4 := Lib.hid (fun (w' : World) (hx : Ext w w') => hcopied_any c c2 A A2 cl ps w' (h.ext hx) (h2.ext hx) hn hn2 hA hA2)
  have C5 := Lib.hid (fun (w' : World) (hx : Ext w w') => hFind_any cl.length c ps.length c2 A A2 cl V S P Q w' (h.ext hx))
  have hfw := fnd_word hw [V, S, P, Q]
  obtain ⟨T, hT⟩ : ∃ T, T = fndT cl [V, S, P, Q] := ⟨_, rfl⟩
  obtain ⟨U, hU⟩ : ∃ U, U = fndS cl [V, S, P, Q] := ⟨_, rfl⟩
  obtain ⟨BB, hBB⟩ : ∃ B, B = (getK kC cl [V, S, P, Q]).isSome := ⟨_, rfl⟩
  rw [← hT, ← hU, ← hBB] at C5
  rw [← hT, ← hU] at hfw
  have C6 := Lib.hid (fun w => SLeave_any T U a hfw.1 hfw.2 ha w)
  have hE0 := hleaV_ok (cl := cl) (ps := ps) (o := O) (V := V) (S := S) (P := P) (Q := Q) (a := a)
  rw [← hT, ← hU] at hE0
  obtain ⟨JT, hJT⟩ : ∃ J, J = leaT T U a := ⟨_, rfl⟩
  obtain ⟨JS, hJS⟩ : ∃ J, J = leaS T U a := ⟨_, rfl⟩
  obtain ⟨JN, hJN⟩ : ∃ J, J = leaN T U a := ⟨_, rfl⟩
  obtain ⟨JE, hJE⟩ : ∃ J, J = leaE T U a := ⟨_, rfl⟩
  rw [← hJT, ← hJS, ← hJN, ← hJE] at C6
  obtain ⟨H0, hH0⟩ : ∃ H, H = hasV ps [O, V, S, P, Q] := ⟨_, rfl⟩
  have hHw : 0 ≤ H0 ∧ H0 < 18446744073709551616 := by
    obtain ⟨h6, h7⟩ := hasV_le hw2 O V S P Q
    rw [hk.fnd, ← hU, ← hH0] at h7
    rw [← hH0] at h6
    have := hfw.2.2
    exact ⟨h6, by omega⟩
  rw [← hJT, ← hJS, ← hJN, ← hH0] at hE0
  obtain ⟨L3, hL3⟩ : ∃ L, L = setK kC cl [V, S, P, Q] (optC V S P Q JT JS) := ⟨_, rfl⟩
  obtain ⟨L4, hL4⟩ : ∃ L, L = setK kP ps [O, V, S, P, Q] (optP O V S P Q (H0 - a)) := ⟨_, rfl⟩
  rw [show clsSet cl V S P Q JT JS = L3 from by rw [hL3]; exact (setK_lay kC_len rfl _ hk.sc).symm, show posSet ps O V S P Q (H0 - a) = L4 from by rw [hL4]; exact (setK_lay kP_len rfl _ hk.sp).symm] at hE0
  have C8 := Lib.hid (fun (w' : World) (base q d : Nat) (B : Option Addr) (a1 : Value) hB hO hqo hbase => hbpools_any base q cl.length d B a1 cl V S P Q JT JS w' hB hO hn hk.sc hqo hbase)
  have C9 := Lib.hid (fun (w' : World) (q d : Nat) (B : Option Addr) hh hq => hbhas_any q B ps.length d ps O V S P Q H0 w' hh hn2 hq hk.sp hH0)
  have C10 := Lib.hid (fun (w' : World) (base q d : Nat) (B : Option Addr) (a0 : Value) hp hB hO hqo hbase => hbholds_any base q ps.length d B a0 ps O V S P Q (H0 - a) w' hB hO hn2 hp hk.sp hqo hbase)
  rw [← hL3] at C8
  rw [← hL4] at C10
  have HX := Lib.hid (show (H0 = 0 → hleaE cl ps O V S P Q a = 10) ∧ (H0 ≠ 0 → H0 < a → hleaE cl ps O V S P Q a = 13) ∧ (H0 ≠ 0 → ¬ H0 < a → hleaE cl ps O V S P Q a = JE) from by
    unfold hleaE
    rw [if_neg (by rw [← hE]; simpa using he), ← hT, ← hU, ← hJE, ← hH0]
    refine ⟨fun h1 => ?_, fun h1 h2 => ?_, fun h1 h2 => ?_⟩
    · rw [if_pos h1]
    · rw [if_neg h1, if_pos h2]
    · rw [if_neg h1, if_neg h2])
  have HE0 := Lib.hid hE0
  have a0 := ha.1
  rw [← hE] at C1
  subst he
  have hOw : w.heap.size + 2 < w.heap.size + 3 := by omega
  clear h h2 hw hw2 hE hR ha hA hA2 hk hfw hT hU hBB hE0 hJT hJS hJN hJE hH0 hL3 hL4
  go_enter Tryz.func27, Tryz.ntmps27
  go_wp2_with fail
  (with_reducible refine (C1.out _ zxt).mono ?_)
  rintro e w1 ⟨rfl, hx1⟩
  have c0_0 : w1.cell? ⟨w.heap.size, 0, none⟩ = some (.slice A cl.length c) := hx1.has zcv
  have c0_1 : w1.cell? ⟨w.heap.size, 1, none⟩ = some (.slice A2 ps.length c2) := hx1.has zcv
  have c1_0 : w1.cell? ⟨w.heap.size + 1, 0, none⟩ = some (.int .i64 V) := hx1.has zcv
  have c1_1 : w1.cell? ⟨w.heap.size + 1, 1, none⟩ = some (.int .i64 S) := hx1.has zcv
  have c1_2 : w1.cell? ⟨w.heap.size + 1, 2, none⟩ = some (.int .i64 P) := hx1.has zcv
  have c1_3 : w1.cell? ⟨w.heap.size + 1, 3, none⟩ = some (.int .i64 Q) := hx1.has zcv
  have c2_0f : w1.frozen? ⟨w.heap.size + 1 + 1, 0, none⟩ = false := hx1.froz (v := .slice none 0 0) zcv zcv
  have c2_1f : w1.frozen? ⟨w.heap.size + 1 + 1, 1, none⟩ = false := hx1.froz (v := .slice none 0 0) zcv zcv
  have c2_0 : w1.cell? ⟨w.heap.size + 1 + 1, 0, none⟩ = some (.slice none 0 0) := hx1.has zcv
  have c2_1 : w1.cell? ⟨w.heap.size + 1 + 1, 1, none⟩ = some (.slice none 0 0) := hx1.has zcv
  have z1 := hx1.size
  try simp at z1
  have lt_c0_c1 : w.heap.size < w.heap.size + 1 := by omega
  have ne_c0_c1 : ¬ w.heap.size = w.heap.size + 1 := by omega
  have lt_c0_c2 : w.heap.size < w.heap.size + 1 + 1 := by omega
  have ne_c0_c2 : ¬ w.heap.size = w.heap.size + 1 + 1 := by omega
  have ne_c1_c0 : ¬ w.heap.size + 1 = w.heap.size := by omega
  have lt_c1_c2 : w.heap.size + 1 < w.heap.size + 1 + 1 := by omega
  have ne_c1_c2 : ¬ w.heap.size + 1 = w.heap.size + 1 + 1 := by omega
  have ne_c2_c0 : ¬ w.heap.size + 1 + 1 = w.heap.size := by omega
  have ne_c2_c1 : ¬ w.heap.size + 1 + 1 = w.heap.size + 1 := by omega
  have zq := zrc (show w.heap.size < w1.heap.size from by omega)
  obtain ⟨rc0, rc0a, rc0b, rc0c, rc0n⟩ := zq
  have zq := zrc (show w.heap.size + 1 < w1.heap.size from by omega)
  obtain ⟨rc1, rc1a, rc1b, rc1c, rc1n⟩ := zq
  have zq := zrc (show w.heap.size + 1 + 1 < w1.heap.size from by omega)
  obtain ⟨rc2, rc2a, rc2b, rc2c, rc2n⟩ := zq
  have X1 : Hid (Ext w w1) := Lib.hid (Ext.trans zxt hx1)
  clear hx1
  go_wp2_with fail
  (with_reducible refine (C4.out _ zxt).mono ?_)
  rintro e w2 ⟨v, rfl, B, d, B2, d2, rfl, hB, hB2, hO, hP, hx2⟩
  replace c0_0 := zh hx2 c0_0
  replace c0_1 := zh hx2 c0_1
  replace c1_0 := zh hx2 c1_0
  replace c1_1 := zh hx2 c1_1
  replace c1_2 := zh hx2 c1_2
  replace c1_3 := zh hx2 c1_3
  replace c2_0f := zf hx2 c2_0 c2_0f
  replace c2_1f := zf hx2 c2_1 c2_1f
  replace c2_0 := zh hx2 c2_0
  replace c2_1 := zh hx2 c2_1
  have z2 := hx2.size
  try simp at z2
  have zq := zrc (show w.heap.size < w2.heap.size from by omega)
  clear rc0 rc0a rc0b rc0c rc0n
  obtain ⟨rc0, rc0a, rc0b, rc0c, rc0n⟩ := zq
  have zq := zrc (show w.heap.size + 1 < w2.heap.size from by omega)
  clear rc1 rc1a rc1b rc1c rc1n
  obtain ⟨rc1, rc1a, rc1b, rc1c, rc1n⟩ := zq
  have zq := zrc (show w.heap.size + 1 + 1 < w2.heap.size from by omega)
  clear rc2 rc2a rc2b rc2c rc2n
  obtain ⟨rc2, rc2a, rc2b, rc2c, rc2n⟩ := zq
  have X2 : Hid (Ext w w2) := Lib.hid (Ext.trans zxt hx2)
  have HO := Lib.hid (show OwnCls _ (w.heap.size + 3) _ _ _ from own_lower hO zSlBas4_0)
  have HP := Lib.hid (show OwnPos _ (w.heap.size + 3) _ _ _ from own_lower hP zSlBas4_0)
  clear X1 hx2
  have HQ := Lib.hid (And.intro (ob_lt HO.out) (ob_lt HP.out))
  clear hO hP
  go_wp2_with fail
  (with_reducible refine (C9.out _ (w2.heap.size) d2 B2 (OwnPos.sl (HP.out.ext zxt)) (by simp [go_sem, World.cell?_alloc_past])).mono ?_)
  rintro e w3 ⟨rfl, hx3⟩
  replace c0_0 := zh hx3 c0_0
  replace c0_1 := zh hx3 c0_1
  replace c1_0 := zh hx3 c1_0
  replace c1_1 := zh hx3 c1_1
  replace c1_2 := zh hx3 c1_2
  replace c1_3 := zh hx3 c1_3
  replace c2_0f := zf hx3 c2_0 c2_0f
  replace c2_1f := zf hx3 c2_1 c2_1f
  replace c2_0 := zh hx3 c2_0
  replace c2_1 := zh hx3 c2_1
  have c3_0f : w3.frozen? ⟨w2.heap.size, 0, none⟩ = false := hx3.froz (v := .slice B cl.length d) zcv zcv
  have c3_1f : w3.frozen? ⟨w2.heap.size, 1, none⟩ = false := hx3.froz (v := .slice B2 ps.length d2) zcv zcv
  have c3_0 : w3.cell? ⟨w2.heap.size, 0, none⟩ = some (.slice B cl.length d) := hx3.has zcv
  have c3_1 : w3.cell? ⟨w2.heap.size, 1, none⟩ = some (.slice B2 ps.length d2) := hx3.has zcv
  have z3 := hx3.size
  try simp at z3
  have lt_c0_c3 : w.heap.size < w2.heap.size := by omega
  have ne_c0_c3 : ¬ w.heap.size = w2.heap.size := by omega
  have lt_c1_c3 : w.heap.size + 1 < w2.heap.size := by omega
  have ne_c1_c3 : ¬ w.heap.size + 1 = w2.heap.size := by omega
  have lt_c2_c3 : w.heap.size + 1 + 1 < w2.heap.size := by omega
  have ne_c2_c3 : ¬ w.heap.size + 1 + 1 = w2.heap.size := by omega
  have ne_c3_c0 : ¬ w2.heap.size = w.heap.size := by omega
  have ne_c3_c1 : ¬ w2.heap.size = w.heap.size + 1 := by omega
  have ne_c3_c2 : ¬ w2.heap.size = w.heap.size + 1 + 1 := by omega
  have zq := zrc (show w.heap.size < w3.heap.size from by omega)
  clear rc0 rc0a rc0b rc0c rc0n
  obtain ⟨rc0, rc0a, rc0b, rc0c, rc0n⟩ := zq
  have zq := zrc (show w.heap.size + 1 < w3.heap.size from by omega)
  clear rc1 rc1a rc1b rc1c rc1n
  obtain ⟨rc1, rc1a, rc1b, rc1c, rc1n⟩ := zq
  have zq := zrc (show w.heap.size + 1 + 1 < w3.heap.size from by omega)
  clear rc2 rc2a rc2b rc2c rc2n
  obtain ⟨rc2, rc2a, rc2b, rc2c, rc2n⟩ := zq
  have zq := zrc (show w2.heap.size < w3.heap.size from by omega)
  obtain ⟨rc3, rc3a, rc3b, rc3c, rc3n⟩ := zq
  replace HO := Lib.hid (HO.out.ext (Ext.trans zxt hx3))
  replace HP := Lib.hid (HP.out.ext (Ext.trans zxt hx3))
  have X3 : Hid (Ext w w3) := Lib.hid (Ext.trans zxt hx3)
  clear X2 hx3
  by_cases q2 : H0 = 0
  · have q2b : (H0 == 0) = true := by simp [q2]
    obtain rfl : R = ([], [], 0, 10) := HR.out.trans (hleaV_err (HX.out.1 q2) (by first | decide | assumption))
    go_wp2_with fail
    refine bodyPost_ret (v := .tuple #[.agg #[.slice none 0 0, .slice none 0 0], .int .u64 0, .int .i64 10]) (by simp [results, Tryz.results27, go_sem, World.cell?_alloc_past, *]; try rfl) rfl (RetJ.nil ?_)
    exact zxt
  · have q2b : (H0 == 0) = false := by simpa using q2
    by_cases q4 : H0 < a
    · have q4b : decide (H0 < a) = true := decide_eq_true q4
      obtain rfl : R = ([], [], 0, 13) := HR.out.trans (hleaV_err (HX.out.2.1 q2 q4) (by first | decide | assumption))
      go_wp2_with fail
      refine bodyPost_ret (v := .tuple #[.agg #[.slice none 0 0, .slice none 0 0], .int .u64 0, .int .i64 13]) (by simp [results, Tryz.results27, go_sem, World.cell?_alloc_past, *]; try rfl) rfl (RetJ.nil ?_)
      exact zxt
    · have q4b : decide (H0 < a) = false := decide_eq_false q4
      have hwa : IntKind.u64.wrap (H0 - a) = H0 - a := IntWalk.u64_in _ (by omega)
      have hp0 : 0 ≤ H0 - a := by omega
      go_wp2_with fail
      (with_reducible refine (C5.out _ zxt).mono ?_)
      rintro e w4 ⟨rfl, hx4⟩
      replace c1_0 := zh hx4 c1_0
      replace c1_1 := zh hx4 c1_1
      replace c1_2 := zh hx4 c1_2
      replace c1_3 := zh hx4 c1_3
      replace c2_0f := zf hx4 c2_0 c2_0f
      replace c2_1f := zf hx4 c2_1 c2_1f
      replace c2_0 := zh hx4 c2_0
      replace c2_1 := zh hx4 c2_1
      replace c3_0f := zf hx4 c3_0 c3_0f
      replace c3_1f := zf hx4 c3_1 c3_1f
      replace c3_0 := zh hx4 c3_0
      replace c3_1 := zh hx4 c3_1
      have z4 := hx4.size
      try simp at z4
      have zq := zrc (show w.heap.size + 1 < w4.heap.size from by omega)
      clear rc1 rc1a rc1b rc1c rc1n
      obtain ⟨rc1, rc1a, rc1b, rc1c, rc1n⟩ := zq
      have zq := zrc (show w.heap.size + 1 + 1 < w4.heap.size from by omega)
      clear rc2 rc2a rc2b rc2c rc2n
      obtain ⟨rc2, rc2a, rc2b, rc2c, rc2n⟩ := zq
      have zq := zrc (show w2.heap.size < w4.heap.size from by omega)
      clear rc3 rc3a rc3b rc3c rc3n
      obtain ⟨rc3, rc3a, rc3b, rc3c, rc3n⟩ := zq
      replace HO := Lib.hid (HO.out.ext (Ext.trans zxt hx4))
      replace HP := Lib.hid (HP.out.ext (Ext.trans zxt hx4))
      have X4 : Hid (Ext w w4) := Lib.hid (Ext.trans zxt hx4)
      clear c0_0 c0_1 rc0 rc0a rc0b rc0c rc0n X3 hx4
      go_wp2_with fail
      (with_reducible refine (C6.out _).mono ?_)
      rintro e w5 ⟨rfl, hx5⟩
      replace c1_0 := zh hx5 c1_0
      replace c1_1 := zh hx5 c1_1
      replace c1_2 := zh hx5 c1_2
      replace c1_3 := zh hx5 c1_3
      replace c2_0f := zf hx5 c2_0 c2_0f
      replace c2_1f := zf hx5 c2_1 c2_1f
      replace c2_0 := zh hx5 c2_0
      replace c2_1 := zh hx5 c2_1
      replace c3_0f := zf hx5 c3_0 c3_0f
      replace c3_1f := zf hx5 c3_1 c3_1f
      replace c3_0 := zh hx5 c3_0
      replace c3_1 := zh hx5 c3_1
      have c4_0 : w5.cell? ⟨w4.heap.size, 0, none⟩ = some (.int .u64 T) := hx5.has zcv
      have c4_1 : w5.cell? ⟨w4.heap.size, 1, none⟩ = some (.int .u64 U) := hx5.has zcv
      have z5 := hx5.size
      try simp at z5
      have lt_c1_c4 : w.heap.size + 1 < w4.heap.size := by omega
      have ne_c1_c4 : ¬ w.heap.size + 1 = w4.heap.size := by omega
      have lt_c2_c4 : w.heap.size + 1 + 1 < w4.heap.size := by omega
      have ne_c2_c4 : ¬ w.heap.size + 1 + 1 = w4.heap.size := by omega
      have lt_c3_c4 : w2.heap.size < w4.heap.size := by omega
      have ne_c3_c4 : ¬ w2.heap.size = w4.heap.size := by omega
      have ne_c4_c1 : ¬ w4.heap.size = w.heap.size + 1 := by omega
      have ne_c4_c2 : ¬ w4.heap.size = w.heap.size + 1 + 1 := by omega
      have ne_c4_c3 : ¬ w4.heap.size = w2.heap.size := by omega
      have zq := zrc (show w.heap.size + 1 < w5.heap.size from by omega)
      clear rc1 rc1a rc1b rc1c rc1n
      obtain ⟨rc1, rc1a, rc1b, rc1c, rc1n⟩ := zq
      have zq := zrc (show w.heap.size + 1 + 1 < w5.heap.size from by omega)
      clear rc2 rc2a rc2b rc2c rc2n
      obtain ⟨rc2, rc2a, rc2b, rc2c, rc2n⟩ := zq
      have zq := zrc (show w2.heap.size < w5.heap.size from by omega)
      clear rc3 rc3a rc3b rc3c rc3n
      obtain ⟨rc3, rc3a, rc3b, rc3c, rc3n⟩ := zq
      have zq := zrc (show w4.heap.size < w5.heap.size from by omega)
      obtain ⟨rc4, rc4a, rc4b, rc4c, rc4n⟩ := zq
      replace HO := Lib.hid (HO.out.ext (Ext.trans zxt hx5))
      replace HP := Lib.hid (HP.out.ext (Ext.trans zxt hx5))
      have X5 : Hid (Ext w w5) := Lib.hid (Ext.trans zxt hx5)
      clear X4 hx5
      by_cases q5 : ¬ JE = 0
      · have q5b : (JE != 0) = true := by simp [q5]
        obtain rfl : R = ([], [], 0, JE) := HR.out.trans (hleaV_err (HX.out.2.2 q2 q4) (by first | decide | assumption))
        have q4 := q4
        go_wp2_with fail
        refine bodyPost_ret (v := .tuple #[.agg #[.slice none 0 0, .slice none 0 0], .int .u64 0, .int .i64 JE]) (by simp [results, Tryz.results27, go_sem, World.cell?_alloc_past, *]; try rfl) rfl (RetJ.nil ?_)
        exact zxt
      · have q5b : (JE != 0) = false := by simpa using q5
        have q5c : JE = 0 := by omega
        have HX0 := Lib.hid ((HX.out.2.2 q2 q4).trans q5c)
        have XK := X5
        have hqk : w2.heap.size < w5.heap.size := by omega
        have hqq : w.heap.size + 3 ≤ w2.heap.size := by omega
        have nq : ∀ j, (Value.slice B cl.length d).ownBlock = some j → ¬ j = w2.heap.size := fun j hj => by have := HQ.out.1 j hj; omega
        have nq2 : ∀ j, (Value.slice B2 ps.length d2).ownBlock = some j → ¬ j = w2.heap.size := fun j hj => by have := HQ.out.2 j hj; omega
        have np : ∀ j, (Value.slice B2 ps.length d2).ownBlock = some j → ¬ (Value.slice B cl.length d).ownBlock = some j := own_apart HP.out HO.out (fun e => cls_pos e.symm)
        have nb : ∀ j, j < w.heap.size + 3 → ¬ (j = w2.heap.size ∨ (Value.slice B cl.length d).ownBlock = some j) := fun j hj hh => by rcases hh with hh | hh; omega; have := HQ.out.1 j hh; omega
        have nb2 : ∀ j, j < w.heap.size + 3 → ¬ (j = w2.heap.size ∨ (Value.slice B2 ps.length d2).ownBlock = some j) := fun j hj hh => by rcases hh with hh | hh; omega; have := HQ.out.2 j hh; omega
        go_wp2_with fail
        generalize hw6 : w5.alloc (.cells #[.int .u64 JT, .int .u64 JS] 61) = w6
        have hx6 : Ext w5 w6 := by rw [← hw6]; exact (Ext.refl _).alloc _
        clear hw6
        have hz6 := Ext.size hx6
        replace c1_0 := hx6.has c1_0
        replace c1_1 := hx6.has c1_1
        replace c1_2 := hx6.has c1_2
        replace c1_3 := hx6.has c1_3
        replace c2_0f := hx6.froz c2_0 c2_0f
        replace c2_0 := hx6.has c2_0
        replace c3_0f := hx6.froz c3_0 c3_0f
        replace c3_0 := hx6.has c3_0
        replace c2_1f := hx6.froz c2_1 c2_1f
        replace c2_1 := hx6.has c2_1
        replace c3_1f := hx6.froz c3_1 c3_1f
        replace c3_1 := hx6.has c3_1
        replace HO := Lib.hid (OwnCls.ext HO.out hx6)
        replace HP := Lib.hid (OwnPos.ext HP.out hx6)
        replace XK := Lib.hid (Ext.trans XK.out hx6)
        clear hx6
        (with_reducible refine (C8.out _ (w.heap.size + 3) (w2.heap.size) d B (.slice B2 ps.length d2) ⟨c3_0, c3_0f, c3_1, c3_1f⟩ HO.out nq (by omega)).mono ?_)
        rintro e v7 ⟨rfl, u3, hB3, ho3, hk3, hx7⟩
        obtain ⟨B3, d3, rfl, _, _⟩ := own_parts2 ho3
        have hz7 := hx7.size
        have p_0 := hx7.has (nb _ (by omega)) c1_0
        have p_1 := hx7.has (nb _ (by omega)) c1_1
        have p_2 := hx7.has (nb _ (by omega)) c1_2
        have p_3 := hx7.has (nb _ (by omega)) c1_3
        have r_0f := hx7.froz (nb _ (by omega)) c2_0 c2_0f
        have r_0 := hx7.has (nb _ (by omega)) c2_0
        have r_1f := hx7.froz (nb _ (by omega)) c2_1 c2_1f
        have r_1 := hx7.has (nb _ (by omega)) c2_1
        have HP7 := Lib.hid (show OwnPos _ _ _ _ _ from own_but_set HP.out hx7 nq2 np)
        have X7 := Lib.hid (ext_but XK.out hx7 (fun j hj => by rcases hj with hj | hj; omega; have := HQ.out.1 j hj; omega))
        have nq3 : ∀ j, (Value.slice B3 L3.length d3).ownBlock = some j → ¬ j = w2.heap.size := fun j hj => by rcases hk3 j hj with hh | hh; exact nq j hh; omega
        have H3 := Lib.hid ho3
        have HB3 := Lib.hid hB3
        have b_1 := hB3.c1
        clear ho3 hk3 hx7 hB3 HP HO c3_0 c3_0f c3_1 c3_1f c1_0 c1_1 c1_2 c1_3 c2_0 c2_1 c2_0f c2_1f
        go_wp2_with fail
        have HP8 := HP7
        have H4 := H3
        have HB8 := HB3
        have X8 := X7
        clear HP7 H3 HB3 X7 b_1
        (with_reducible refine (C10.out _ (w.heap.size + 3) (w2.heap.size) d2 B2 (.slice B3 L3.length d3) hp0 HB8.out HP8.out nq2 (by omega)).mono ?_)
        rintro e v9 ⟨rfl, u4, hB4, ho4, hk4, hx9⟩
        obtain ⟨B4, d4, rfl, _, _⟩ := own_parts2 ho4
        have hz9 := hx9.size
        have p9_0 := hx9.has (nb2 _ (by omega)) p_0
        have p9_1 := hx9.has (nb2 _ (by omega)) p_1
        have p9_2 := hx9.has (nb2 _ (by omega)) p_2
        have p9_3 := hx9.has (nb2 _ (by omega)) p_3
        have r9_0f := hx9.froz (nb2 _ (by omega)) r_0 r_0f
        have r9_0 := hx9.has (nb2 _ (by omega)) r_0
        have r9_1f := hx9.froz (nb2 _ (by omega)) r_1 r_1f
        have r9_1 := hx9.has (nb2 _ (by omega)) r_1
        have H5 := Lib.hid (own_but_set H4.out hx9 nq3 (own_apart H4.out HP8.out cls_pos))
        have X9 := Lib.hid (ext_but X8.out hx9 (fun j hj => by rcases hj with hj | hj; omega; have := HQ.out.2 j hj; omega))
        have H6 := Lib.hid ho4
        have b_0 := hB4.c0
        have b_1 := hB4.c1
        clear ho4 hk4 hx9 hB4 HB8 HP8 H4 X8 p_0 p_1 p_2 p_3 r_0 r_1 r_0f r_1f
        go_wp2_with fail
        obtain rfl : R = (L3, L4, JN, 0) := HR.out.trans (HE0.out HX0.out)
        refine bodyPost_ret (v := .tuple #[.agg #[.slice B3 L3.length d3, .slice B4 L4.length d4], .int .u64 JN, .int .i64 0]) (by simp [results, Tryz.results27, go_sem, World.cell?_alloc_past, r9_0, r9_1, r9_0f, r9_1f, b_0, b_1]; try rfl) rfl ⟨_, rfl, holdS_of (b := (w.heap.size + 3)) (by omega) (show World.ownsRow _ (w.heap.size + 3) _ _ _ _ _ from by repeat (first | with_reducible refine own_box ?_ (by omega) | with_reducible refine World.ownsRow.drew ?_ | exact H5.out)) (show World.ownsRow _ (w.heap.size + 3) _ _ _ _ _ from by repeat (first | with_reducible refine own_box ?_ (by omega) | with_reducible refine World.ownsRow.drew ?_ | exact H6.out)) (by repeat (first | with_reducible exact X9.out | with_reducible refine Ext.drew ?_ | with_reducible refine Ext.setCell ?_ zSlBas4_0 _))⟩
end
section
open Go.RowKit
theorem flat_set {α : Type} {f : α → List Value} {sz : Nat} (hf : ∀ x, (f x).length = sz) (l : List α) (k j : Nat) (x y : α) (v : Value) (h : l[k]? = some x) (hj : j < sz) (hy : f y = (f x).set j v) : (l.flatMap f).set (k * sz + j) v = (l.set k y).flatMap f := by
  obtain ⟨hk, hx⟩ := List.getElem?_eq_some_iff.1 h
  have e : l = l.take k ++ x :: l.drop (k + 1) := by rw [← hx, ← List.drop_eq_getElem_cons hk, List.take_append_drop]
  have hp : (l.take k).length = k := by rw [List.length_take]; omega
  have hq : ((l.take k).flatMap f).length = k * sz := by rw [flat_len hf, hp]
  have e2 : l.set k y = l.take k ++ y :: l.drop (k + 1) := by
    rw [List.set_eq_take_append_cons_drop, if_pos hk]
  rw [e2]
  generalize l.take k = a at *
  generalize l.drop (k + 1) = b at *
  subst e
  rw [List.flatMap_append, List.flatMap_append, ← hq, List.set_append_right _ _ (by omega), Nat.add_sub_cancel_left, List.flatMap_cons, List.flatMap_cons, List.set_append_left _ _ (by rw [hf]; exact hj), hy]
/-- the row reads as l with x at k -/
def Cur {α : Type} (e : TypeId) (f : α → List Value) (sz : Nat) (w : World) (base g n c : Nat) (l : List α) (k : Nat) (x : α) : Prop :=
  w.ownsRow base e sz (.slice (some ⟨g, 0, none⟩) n c) n ((l.set k x).flatMap f) ∧ k < l.length ∧ l.length = n
section
variable {α : Type} {e : TypeId} {f : α → List Value} {sz : Nat} {w w' : World} {base g n c k : Nat} {l : List α} {x y : α}
theorem Cur.mk (h : w.ownsRow base e sz (.slice (some ⟨g, 0, none⟩) n c) n (l.flatMap f)) (hk : l[k]? = some x) (hn : l.length = n) : Cur e f sz w base g n c l k x := by
  obtain ⟨h1, h2⟩ := List.getElem?_eq_some_iff.1 hk
  refine ⟨?_, h1, hn⟩
  rw [← h2, List.set_getElem_self]
  exact h
theorem Cur.at_ (h : Cur e f sz w base g n c l k x) : (l.set k x)[k]? = some x := by
  rw [List.getElem?_set_self h.2.1]
theorem Cur.lt (hf : ∀ x, (f x).length = sz) (h : Cur e f sz w base g n c l k x) {j : Nat} (hj : j < sz) : k * sz + j < n * sz := by
  have h1 := h.2.1
  have h2 := h.2.2
  have : (k + 1) * sz ≤ n * sz := Nat.mul_le_mul_right _ (by omega)
  rw [Nat.add_mul, Nat.one_mul] at this
  omega
theorem Cur.cell (hf : ∀ x, (f x).length = sz) (h : Cur e f sz w base g n c l k x) {j : Nat} {v : Value} (hj : (f x)[j]? = some v) : w.cell? ⟨g, k * sz + j, none⟩ = some v := by
  have hj2 : j < sz := by have := (List.getElem?_eq_some_iff.1 hj).1; rw [hf] at this; exact this
  rw [World.ownsRow.cellAt h.1 (k * sz + j) (Cur.lt hf h hj2), flat_get hf _ k j x h.at_ hj2]
  exact hj
theorem Cur.froz (h : Cur e f sz w base g n c l k x) (j : Nat) : w.frozen? ⟨g, k * sz + j, none⟩ = false := World.ownsRow.frozenAt h.1 _
theorem Cur.ext (h : Cur e f sz w base g n c l k x) (hx : Ext w w') : Cur e f sz w' base g n c l k x := ⟨own_keep h.1 hx, h.2⟩
theorem Cur.drew (h : Cur e f sz w base g n c l k x) : Cur e f sz w.drew base g n c l k x := h.ext ((Ext.refl w).drew)
theorem Cur.drewN (h : Cur e f sz w base g n c l k x) (m : Nat) : Cur e f sz (w.drewN m) base g n c l k x := h.ext ((Ext.refl w).drewN m)
theorem Cur.put (hf : ∀ x, (f x).length = sz) (h : Cur e f sz w base g n c l k x) (j : Nat) (v : Value) (y : α) (hj : j < sz) (hy : f y = (f x).set j v) : Cur e f sz (w.setCell ⟨g, k * sz + j, none⟩ v) base g n c l k y := by
  have h1 := (World.ownsRow.stored h.1 (k * sz + j) v).1
  rw [flat_set hf _ k j x y v h.at_ hj hy, List.set_set] at h1
  exact ⟨h1, h.2⟩
theorem Cur.own (h : Cur e f sz w base g n c l k x) : w.ownsRow base e sz (.slice (some ⟨g, 0, none⟩) n c) n ((l.set k x).flatMap f) := h.1
end
end
section
open Go.RowKit
/-- a fault's error is none of nought -/
def FltNz (f : Option (Int × Int)) : Prop := ∀ x, f = some x → ¬ x.1 = 0
theorem FltNz.none : FltNz none := fun x h => by cases h
theorem FltNz.fail {f : Option (Int × Int)} (h : FltNz f) (e a : Int) : FltNz (failF f e a) := by
  intro x hx
  cases f with
  | some y => exact h x (by simpa [failF] using hx)
  | none =>
    unfold failF at hx
    simp at hx
    obtain ⟨h1, rfl⟩ := hx
    exact h1
end
section
open Go.RowKit
def fltE (f : Option (Int × Int)) : Int := match f with | some x => x.1 | none => 0
def fltA (f : Option (Int × Int)) : Int := match f with | some x => x.2 | none => 0
/-- a reference reader lies at block g: its bytes (below g), its place, its fault -/
structure RRd (w : World) (g : Nat) (L : List Nat) (k : Nat) (flt : Option (Int × Int)) : Prop where
  b : ∃ A c, w.cell? ⟨g, 0, none⟩ = some (.slice A L.length c) ∧ Sl w 1 A L.length c (by_ L) ∧ ∀ b o s, A = some ⟨b, o, s⟩ → b < g ∧ o = 0
  c1 : ∃ t : Nat, w.cell? ⟨g, 1, none⟩ = some (.int .i64 (t : Int)) ∧ t ≤ L.length ∧ (flt = none → t = k)
  c2 : w.cell? ⟨g, 2, none⟩ = some (.int .i64 (fltE flt))
  c3 : w.cell? ⟨g, 3, none⟩ = some (.int .i64 (fltA flt))
  f1 : w.frozen? ⟨g, 1, none⟩ = false
  f2 : w.frozen? ⟨g, 2, none⟩ = false
  f3 : w.frozen? ⟨g, 3, none⟩ = false
  lt : g < w.heap.size
  le : k ≤ L.length
  byt : Byt L
  nz : FltNz flt
  ty : ∃ cs z, w.heap[g]? = some (.cells cs 159 z)
theorem RRd.keep {w w' : World} {g k : Nat} {L : List Nat} {flt : Option (Int × Int)} (h : RRd w g L k flt) (hb : Below w.heap.size w w') : RRd w' g L k flt := by
  obtain ⟨A, c, h0, h1, h2⟩ := h.b
  obtain ⟨t, h3, h4, h5⟩ := h.c1
  obtain ⟨cs, z, h6⟩ := h.ty
  have cl : ∀ o, w'.cell? ⟨g, o, none⟩ = w.cell? ⟨g, o, none⟩ := fun o => hb.cell (p := ⟨g, o, none⟩) h.lt
  have fl : ∀ o, w'.frozen? ⟨g, o, none⟩ = w.frozen? ⟨g, o, none⟩ := fun o => hb.frozen (p := ⟨g, o, none⟩) h.lt
  exact ⟨⟨A, c, (cl 0).trans h0, h1.ext hb, h2⟩, ⟨t, (cl 1).trans h3, h4, h5⟩, (cl 2).trans h.c2, (cl 3).trans h.c3, (fl 1).trans h.f1, (fl 2).trans h.f2, (fl 3).trans h.f3, by have := h.lt; have := hb.size; omega, h.le, h.byt, h.nz, cs, z, (hb.block g h.lt).trans h6⟩
theorem RRd.drewN {w : World} {g k : Nat} {L : List Nat} {flt : Option (Int × Int)} (h : RRd w g L k flt) (n : Nat) : RRd (w.drewN n) g L k flt := h.keep (below_drewN (Below.refl _ _) n)
theorem RRd.ext {w w' : World} {g k : Nat} {L : List Nat} {flt : Option (Int × Int)} (h : RRd w g L k flt) (hb : Ext w w') : RRd w' g L k flt := h.keep hb
theorem heap_type_set {w : World} {p : Addr} {v : Value} {cs : Array Value} {t : TypeId} {z : Nat × Nat} {g : Nat} (h : w.heap[g]? = some (.cells cs t z)) : ∃ cs' z', (w.setCell p v).heap[g]? = some (.cells cs' t z') := by
  by_cases e : p.block = g
  · subst e
    unfold World.setCell
    simp only [Array.getElem?_modify, if_true, h, Option.map_some]
    exact ⟨_, _, rfl⟩
  · exact ⟨cs, z, by rw [Below.heap_setCell _ _ _ _ (fun h => e h.symm)]; exact h⟩
end
section
open Go.RowKit
/-- a reference writer lies at block g: its limit, its error, what was written (in a row beyond g) -/
structure RWr (w : World) (g : Nat) (lim err : Int) (L : List Nat) : Prop where
  b : ∃ A c, w.cell? ⟨g, 1, none⟩ = some (.slice A L.length c) ∧ w.ownsRow (g + 1) 5 1 (.slice A L.length c) L.length (by_ L)
  c0 : w.cell? ⟨g, 0, none⟩ = some (.int .i64 lim)
  c2 : w.cell? ⟨g, 2, none⟩ = some (.int .i64 err)
  f1 : w.frozen? ⟨g, 1, none⟩ = false
  f2 : w.frozen? ⟨g, 2, none⟩ = false
  lt : g < w.heap.size
  short : L.length ≤ 1048576
  l0 : 0 ≤ lim
  l1 : lim ≤ 1048576
theorem RWr.keep {w w' : World} {g : Nat} {lim err : Int} {L : List Nat} (h : RWr w g lim err L) (hb : Ext w w') : RWr w' g lim err L := by
  obtain ⟨A, c, h0, h1⟩ := h.b
  have cl : ∀ o, w'.cell? ⟨g, o, none⟩ = w.cell? ⟨g, o, none⟩ := fun o => Below.cell hb (p := ⟨g, o, none⟩) h.lt
  have fl : ∀ o, w'.frozen? ⟨g, o, none⟩ = w.frozen? ⟨g, o, none⟩ := fun o => Below.frozen hb (p := ⟨g, o, none⟩) h.lt
  have hs := hb.size
  exact ⟨⟨A, c, (cl 1).trans h0, own_keep h1 hb⟩, (cl 0).trans h.c0, (cl 2).trans h.c2, (fl 1).trans h.f1, (fl 2).trans h.f2, by have := h.lt; omega, h.short, h.l0, h.l1⟩
theorem RWr.ext {w w' : World} {g : Nat} {lim err : Int} {L : List Nat} (h : RWr w g lim err L) (hb : Ext w w') : RWr w' g lim err L := h.keep hb
end
section
open Go.RowKit
theorem RRd.set {w : World} {g k : Nat} {L : List Nat} {f : Option (Int × Int)} (h : RRd w g L k f) {b o : Nat} (hg : g < b) (v : Value) : RRd (w.setCell ⟨b, o, none⟩ v) g L k f := by
  obtain ⟨A, c, h0, h1, h2⟩ := h.b
  obtain ⟨t, h3, h4, h5⟩ := h.c1
  obtain ⟨cs, z, h6⟩ := h.ty
  obtain ⟨cs1, z1, h7⟩ := heap_type_set (p := ⟨b, o, none⟩) (v := v) h6
  have cl : ∀ q, (w.setCell ⟨b, o, none⟩ v).cell? ⟨g, q, none⟩ = w.cell? ⟨g, q, none⟩ := fun q => cell_set_other (.inl (by omega))
  have fl : ∀ q, (w.setCell ⟨b, o, none⟩ v).frozen? ⟨g, q, none⟩ = w.frozen? ⟨g, q, none⟩ := fun q => by simp
  exact ⟨⟨A, c, (cl 0).trans h0, h1.setOther fun b' o' s e => by have := (h2 b' o' s e).1; omega, h2⟩, ⟨t, (cl 1).trans h3, h4, h5⟩, (cl 2).trans h.c2, (cl 3).trans h.c3, (fl 1).trans h.f1, (fl 2).trans h.f2, (fl 3).trans h.f3, by simpa using h.lt, h.le, h.byt, h.nz, cs1, z1, h7⟩
end
section
open Go.RowKit
def SlB (B : Nat) (w : World) (sz : Nat) (A : Option Addr) (n c : Nat) (xs : List Value) : Prop := Sl w sz A n c xs ∧ (0 < n → ∀ b o s, A = some ⟨b, o, s⟩ → b < B)
section
variable {B : Nat} {S : Nat → Prop} {w w' : World} {sz n c : Nat} {A : Option Addr} {xs : List Value}
theorem SlB.sl (h : SlB B w sz A n c xs) : Sl w sz A n c xs := h.1
theorem Sl.low (h : Sl w sz A n c xs) : SlB w.heap.size w sz A n c xs := by
  refine ⟨h, fun hn b o s e => ?_⟩
  obtain ⟨b', o', e', hb, _⟩ := h.at_ hn
  rw [e] at e'
  injection e' with e'
  injection e' with e1
  omega
theorem SlB.ext (h : SlB B w sz A n c xs) (hx : Ext w w') : SlB B w' sz A n c xs := ⟨h.1.ext hx, h.2⟩
theorem SlB.but (h : SlB B w sz A n c xs) (hx : But S w w') (hs : ∀ k, S k → B ≤ k) : SlB B w' sz A n c xs := by
  refine ⟨⟨h.1.1, h.1.2.1, h.1.2.2.1, fun hn => ?_⟩, h.2⟩
  obtain ⟨b, o, e, hb, hc⟩ := h.1.at_ hn
  have hS : ¬ S b := fun hs' => by have := hs b hs'; have := h.2 hn b o none e; omega
  exact ⟨b, o, e, by have := hx.size; omega, fun j u hu => hx.has hS (hc j u hu)⟩
end
end
section
open Go.RowKit
/-- the blocks of a writer at block g whose slice lies in its cell o -/
def Sg (w : World) (g o : Nat) (k : Nat) : Prop := k = g ∨ ∃ n c, w.cell? ⟨g, o, none⟩ = some (.slice (some ⟨k, 0, none⟩) n c)
/-- of what was there only the writer's blocks may have turned, and its blocks are the old ones, or new -/
structure WF (g o : Nat) (w w' : World) : Prop where
  but : But (Sg w g o) w w'
  row : ∀ k, k < w.heap.size → Sg w' g o k → Sg w g o k
theorem Sg.congr {w w' : World} {g o : Nat} (h : w'.cell? ⟨g, o, none⟩ = w.cell? ⟨g, o, none⟩) {k : Nat} : Sg w' g o k ↔ Sg w g o k := by unfold Sg; rw [h]
theorem WF.same {g o : Nat} {w w' : World} (hb : But (Sg w g o) w w') (h : w'.cell? ⟨g, o, none⟩ = w.cell? ⟨g, o, none⟩) : WF g o w w' := ⟨hb, fun k _ hk => (Sg.congr h).1 hk⟩
theorem WF.refl (g o : Nat) (w : World) : WF g o w w := ⟨But.refl _ _, fun _ _ h => h⟩
theorem WF.trans {g o : Nat} {a b c : World} (h : WF g o a b) (k : WF g o b c) : WF g o a c :=
  ⟨⟨k.but.os.trans h.but.os, k.but.tape.trans h.but.tape, k.but.output.trans h.but.output, Nat.le_trans h.but.size k.but.size, fun i hi hs =>
    (k.but.block i (by have := h.but.size; omega) (fun hh => hs (h.row i hi hh))).trans (h.but.block i hi hs)⟩,
   fun i hi hk => h.row i hi (k.row i (by have := h.but.size; omega) hk)⟩
theorem WF.ofExt {g o : Nat} {w w' : World} (h : Ext w w') (hg : g < w.heap.size) : WF g o w w' := WF.same (But.ofExt h) (h.cells.1 g o hg)
/-- a writer's row is old -/
theorem Sg.lt {w : World} {g o : Nat} {A : Option Addr} {n c base : Nat} {L : List Nat} (hc : w.cell? ⟨g, o, none⟩ = some (.slice A n c)) (h : w.ownsRow base 5 1 (.slice A n c) n (by_ L)) (hg : g < w.heap.size) {k : Nat} (hk : Sg w g o k) : k < w.heap.size := by
  rcases hk with rfl | ⟨n', c', e⟩
  · exact hg
  · rw [hc] at e
    injection e with e
    injection e with e1
    subst e1
    exact (h.lt k rfl).2
end
section
open Go.RowKit
theorem Wr.ext {w w' : World} {g : Nat} {lim err : Int} {L : List Nat} (h : Wr w g lim err L) (hb : Ext w w') : Wr w' g lim err L := h.keep hb
theorem Rd.ext {w w' : World} {g k : Nat} {L : List Nat} {flt : Option (Int × Int)} (h : Rd w g L k flt) (hb : Ext w w') : Rd w' g L k flt := h.keep hb
/-- the writer at g does not have the block q -/
def Off (w : World) (g o q : Nat) : Prop := g < w.heap.size ∧ q < w.heap.size ∧ ¬ Sg w g o q
theorem Off.ext {w w' : World} {g o q : Nat} (h : Off w g o q) (hx : Ext w w') : Off w' g o q :=
  ⟨by have := h.1; have := hx.size; omega, by have := h.2.1; have := hx.size; omega, fun hs => h.2.2 ((Sg.congr (hx.cells.1 g o h.1)).1 hs)⟩
end
section
open Go.RowKit
section
variable {S : Nat → Prop} {w w' : World} {g k n q B : Nat} {L : List Nat} {flt : Option (Int × Int)} {base sz : Nat} {e : TypeId} {v : Value} {xs : List Value}
theorem Sl.butAll {A : Option Addr} {m c : Nat} (h : Sl w sz A m c xs) (hx : But S w w') (hS : ∀ b o s, A = some ⟨b, o, s⟩ → ¬ S b) : Sl w' sz A m c xs := by
  refine ⟨h.1, h.2.1, h.2.2.1, fun hn => ?_⟩
  obtain ⟨b, o, e, hb, hc⟩ := h.at_ hn
  exact ⟨b, o, e, by have := hx.size; omega, fun j u hu => hx.has (hS b o none e) (hc j u hu)⟩
theorem Rd.butT (h : Rd w g L k flt) (hx : But S w w') (hS : ∀ j, j < w.heap.size → S j → g < j ∧ ∀ cs z, w.heap[j]? ≠ some (.cells cs 95 z)) : Rd w' g L k flt := by
  obtain ⟨A, c, h0, h1, h2⟩ := h.b
  obtain ⟨v, h3, h4⟩ := h.c3
  have hg : ¬ S g := fun hs => by have := (hS g h.lt hs).1; omega
  have cl : ∀ o, w'.cell? ⟨g, o, none⟩ = w.cell? ⟨g, o, none⟩ := fun o => hx.cell h.lt hg
  have fl : ∀ o, w'.frozen? ⟨g, o, none⟩ = w.frozen? ⟨g, o, none⟩ := fun o => hx.frozen h.lt hg
  refine ⟨⟨A, c, (cl 0).trans h0, h1.butAll hx (fun b o s e hs => ?_), h2⟩, (cl 1).trans h.c1, (cl 2).trans h.c2, ⟨v, (cl 3).trans h3, ?_⟩, (fl 1).trans h.f1, (fl 3).trans h.f3, by have := h.lt; have := hx.size; omega, h.le, h.byt⟩
  · have hb := h2 b o s e
    have := (hS b (by have := h.lt; omega) hs).1
    omega
  · match flt, h4 with
    | none, h4 => exact h4
    | some (e, a), ⟨fb, h1, h2, h3, h4, cs, z, h5⟩ =>
      have hf : ¬ S fb := fun hs => (hS fb h2.2 hs).2 cs z h5
      exact ⟨fb, h1, ⟨h2.1, by have := hx.size; omega⟩, (hx.cell h2.2 hf).trans h3, (hx.cell h2.2 hf).trans h4, cs, z, (hx.block fb h2.2 hf).trans h5⟩
theorem RRd.butT (h : RRd w g L k flt) (hx : But S w w') (hS : ∀ j, j < w.heap.size → S j → g < j) : RRd w' g L k flt := by
  obtain ⟨A, c, h0, h1, h2⟩ := h.b
  obtain ⟨t, h3, h4, h5⟩ := h.c1
  obtain ⟨cs, z, h6⟩ := h.ty
  have hg : ¬ S g := fun hs => by have := hS g h.lt hs; omega
  have cl : ∀ o, w'.cell? ⟨g, o, none⟩ = w.cell? ⟨g, o, none⟩ := fun o => hx.cell h.lt hg
  have fl : ∀ o, w'.frozen? ⟨g, o, none⟩ = w.frozen? ⟨g, o, none⟩ := fun o => hx.frozen h.lt hg
  refine ⟨⟨A, c, (cl 0).trans h0, h1.butAll hx (fun b o s e hs => ?_), h2⟩, ⟨t, (cl 1).trans h3, h4, h5⟩, (cl 2).trans h.c2, (cl 3).trans h.c3, (fl 1).trans h.f1, (fl 2).trans h.f2, (fl 3).trans h.f3, by have := h.lt; have := hx.size; omega, h.le, h.byt, h.nz, cs, z, (hx.block g h.lt hg).trans h6⟩
  have hb := (h2 b o s e).1
  have := hS b (by have := h.lt; omega) hs
  omega
/-- a row of one's own, all of it below a bound -/
def OwnR (q : Nat) (w : World) (base : Nat) (e : TypeId) (sz : Nat) (v : Value) (n : Nat) (xs : List Value) : Prop := w.ownsRow base e sz v n xs ∧ ∀ j, v.ownBlock = some j → j < q
theorem own_but (h : w.ownsRow base e sz v n xs) (hx : But S w w') (hS : ∀ j, v.ownBlock = some j → ¬ S j) : w'.ownsRow base e sz v n xs := by
  refine ⟨h.1, ?_⟩
  rcases h.2 with h2 | ⟨r, cap, cur, e', hr, hr2, rest⟩
  · exact .inl h2
  · refine .inr ⟨r, cap, cur, e', hr, ?_, rest⟩
    rw [← hr2]
    exact hx.block r (Array.getElem?_eq_some_iff.1 hr2).1 (hS r (by rw [e']; rfl))
theorem own_block (h : w.ownsRow base e sz v n xs) {j : Nat} (hj : v.ownBlock = some j) : base ≤ j ∧ j < w.heap.size ∧ ∃ cs, w.heap[j]? = some (.cells cs e (0, 0)) := by
  rcases h.2 with ⟨rfl, _⟩ | ⟨r, cap, cur, rfl, hr, hr2, rest⟩
  · cases hj
  · injection hj with hj
    have hj2 : r = j := hj
    subst hj2
    exact ⟨hr, (Array.getElem?_eq_some_iff.1 hr2).1, cur, hr2⟩
theorem OwnR.mk (h : w.ownsRow base e sz v n xs) : OwnR w.heap.size w base e sz v n xs := ⟨h, fun j hj => (own_block h hj).2.1⟩
theorem OwnR.own (h : OwnR q w base e sz v n xs) : w.ownsRow base e sz v n xs := h.1
theorem OwnR.ext (h : OwnR q w base e sz v n xs) (hx : Ext w w') : OwnR q w' base e sz v n xs := ⟨own_keep h.1 hx, h.2⟩
theorem OwnR.drewN (h : OwnR q w base e sz v n xs) (m : Nat) : OwnR q (w.drewN m) base e sz v n xs := h.ext ((Ext.refl w).drewN m)
theorem But.one (w : World) (b o : Nat) (u : Value) : But (· = b) w (w.setCell ⟨b, o, none⟩ u) := (But.refl (fun k => k = b) w).setCell (p := ⟨b, o, none⟩) rfl u
theorem OwnR.set {b o : Nat} (h : OwnR q w base e sz v n xs) (hb : q ≤ b) (u : Value) : OwnR q (w.setCell ⟨b, o, none⟩ u) base e sz v n xs :=
  ⟨own_but h.1 (But.one w b o u) (fun j hj e => by have := h.2 j hj; omega), h.2⟩
theorem OwnR.but (h : OwnR q w base e sz v n xs) (hx : But S w w') (hS : ∀ j, base ≤ j → j < q → ¬ S j) : OwnR q w' base e sz v n xs :=
  ⟨own_but h.1 hx (fun j hj => hS j (own_block h.1 hj).1 (h.2 j hj)), h.2⟩
/-- a reader, and a block that is not its fault -/
def RdT (q : Nat) (w : World) (g : Nat) (L : List Nat) (k : Nat) (flt : Option (Int × Int)) : Prop := Rd w g L k flt ∧ g < q ∧ q < w.heap.size ∧ ∀ cs z, w.heap[q]? ≠ some (.cells cs 95 z)
theorem RdT.set {b o : Nat} (h : RdT q w g L k flt) (hb : b = q) (u : Value) : RdT q (w.setCell ⟨b, o, none⟩ u) g L k flt := by
  subst hb
  refine ⟨h.1.butT (But.one w b o u) (fun j _ hj => by subst hj; exact ⟨h.2.1, h.2.2.2⟩), h.2.1, by simpa using h.2.2.1, fun cs z hh => ?_⟩
  obtain ⟨cs', z', hh'⟩ : ∃ cs' z', w.heap[b]? = some (.cells cs' 95 z') := by
    rw [World.setCell, Array.getElem?_modify, if_pos rfl] at hh
    rcases hw : w.heap[b]? with _ | ob
    · rw [hw] at hh; simp at hh
    · rw [hw] at hh
      rcases ob with ⟨cs0, t0, z0⟩ | _ <;> simp at hh
      obtain ⟨_, h2, h3⟩ := hh
      subst h2
      exact ⟨cs0, z0, rfl⟩
  exact h.2.2.2 _ _ hh'
theorem RdT.ext (h : RdT q w g L k flt) (hx : Ext w w') : RdT q w' g L k flt :=
  ⟨h.1.ext hx, h.2.1, by have := h.2.2.1; have := hx.size; omega, fun cs z hh => h.2.2.2 cs z (by rw [← hh]; exact (Below.block hx q h.2.2.1).symm)⟩
theorem RdT.drewN (h : RdT q w g L k flt) (m : Nat) : RdT q (w.drewN m) g L k flt := h.ext ((Ext.refl w).drewN m)
end
end
section
open Go.RowKit Go.ChangeShapes Go.WideShapes Go.Deep Go.Joins
/-- a record's cells -/
def lossC (x : Int × Int × Int × Int × Int) : List Value := [.int .i64 x.1, .int .i64 x.2.1, .int .i64 x.2.2.1, .int .i64 x.2.2.2.1, .int .u64 x.2.2.2.2]
theorem lossC_len (x : Int × Int × Int × Int × Int) : (lossC x).length = 5 := rfl
theorem loss_info : (Tryz.prog.info? 73).map (fun i => (i.zero, i.size, i.bytes)) = some (some (.agg #[.int .i64 0, .int .i64 0, .int .i64 0, .int .i64 0, .int .u64 0]), 5, 40) := by kernel_rfl
/-- a row of records of one's own -/
def OwnLoss (w : World) (base : Nat) (v : Value) (n : Nat) (l : List (Int × Int × Int × Int × Int)) : Prop := w.ownsRow base 73 5 v n (l.flatMap lossC)
theorem OwnLoss.ext {w w' : World} {base n : Nat} {v : Value} {l : List (Int × Int × Int × Int × Int)} (h : OwnLoss w base v n l) (hx : Ext w w') : OwnLoss w' base v n l := own_keep h hx
theorem OwnLoss.sl {w : World} {base n c : Nat} {A : Option Addr} {l : List (Int × Int × Int × Int × Int)} (h : OwnLoss w base (.slice A n c) n l) : Sl w 5 A n c (l.flatMap lossC) := Sl.own h
theorem OwnLoss.nil (w : World) (base : Nat) : OwnLoss w base (.slice none 0 0) 0 [] := World.ownsRow_nil _ _ _ _
/-- records handed back -/
def RetLoss (l : List (Int × Int × Int × Int × Int)) (w : World) (e : Ending) (w' : World) : Prop := ∃ A c, e = .returned (.slice A l.length c) ∧ (A = none → c = 0) ∧ OwnLoss w' w.heap.size (.slice A l.length c) l.length l ∧ Ext w w'
theorem RetLoss.mk {l : List (Int × Int × Int × Int × Int)} {w w' : World} {v : Value} (h : w'.ownsRow w.heap.size 73 5 v l.length (l.flatMap lossC)) (hx : Ext w w') : RetLoss l w (.returned v) w' := by
  obtain ⟨A, c, rfl, h1, h2⟩ := own_parts2 h
  exact ⟨A, c, rfl, h1, h, hx⟩
theorem lossC_take {l : List (Int × Int × Int × Int × Int)} {k : Nat} {x : Int × Int × Int × Int × Int} (h : l[k]? = some x) : l.take (k + 1) = l.take k ++ [x] := by
  obtain ⟨hk, rfl⟩ := List.getElem?_eq_some_iff.1 h
  rw [List.take_succ_eq_append_getElem hk]
set_option maxRecDepth 100000 in
theorem lossC_eqIn (x0 y0 x1 y1 x2 y2 x3 y3 : Int) (w : World) : (Op.equalIn 9999 37 (.agg #[.int .i64 x0, .int .i64 x1, .int .i64 x2, .int .i64 x3]) (.agg #[.int .i64 y0, .int .i64 y1, .int .i64 y2, .int .i64 y3])).run Tryz.prog w = .ok (x0 == y0 && x1 == y1 && x2 == y2 && x3 == y3) w := by
  have hS : Tryz.prog.underlying 37 = some (.struct (Tryz.prog.fieldsOf 37)) := by kernel_rfl
  have hp : Tryz.prog.stoodInHeld 37 = false := by kernel_rfl
  rw [show (9999 : Nat) = 9998 + 1 from rfl, run_equalIn_agg w 9998 37 _ _ hS hp]
  simp only [Program.fieldsOf, Tryz.underlying37]
  go_simp
  by_cases h0 : x0 = y0 <;> by_cases h1 : x1 = y1 <;> by_cases h2 : x2 = y2 <;> by_cases h3 : x3 = y3 <;> simp [h0, h1, h2, h3]
set_option maxRecDepth 100000 in
theorem lossC_eq (x0 y0 x1 y1 x2 y2 x3 y3 x4 y4 : Int) (w : World) : (binOp .eql 73 (.agg #[.int .i64 x0, .int .i64 x1, .int .i64 x2, .int .i64 x3, .int .u64 x4]) (.agg #[.int .i64 y0, .int .i64 y1, .int .i64 y2, .int .i64 y3, .int .u64 y4])).run Tryz.prog w = .ok (.bool (x0 == y0 && x1 == y1 && x2 == y2 && x3 == y3 && x4 == y4)) w := by
  have hS : Tryz.prog.underlying 73 = some (.struct (Tryz.prog.fieldsOf 73)) := by kernel_rfl
  have hp : Tryz.prog.stoodInHeld 73 = false := by kernel_rfl
  rw [run_eql_struct, show (10000 : Nat) = 9999 + 1 from rfl, run_equalIn_agg w 9999 73 _ _ hS hp]
  simp only [Program.fieldsOf, Tryz.underlying73]
  simp [go_sem, lossC_eqIn, Op.eqFields]
  by_cases h0 : x0 = y0 <;> by_cases h1 : x1 = y1 <;> by_cases h2 : x2 = y2 <;> by_cases h3 : x3 = y3 <;> by_cases h4 : x4 = y4 <;> simp [h0, h1, h2, h3, h4]
theorem lossC_eqg (op : BinOp) (x y : Operand) (xs ys : Array Value) (w : World) : (eqGuard op 73 x y (.agg xs) (.agg ys)).run Tryz.prog w = .ok () w := run_eqGuard_agg w op 73 x y xs ys (by kernel_rfl)
set_option maxRecDepth 100000 in
set_option maxHeartbeats 2000000 in
theorem kSameLosses_any (A B : Option Addr) (n c m d : Nat) (l r : List (Int × Int × Int × Int × Int)) (w : World) (h1 : Sl w 5 A n c (l.flatMap lossC)) (h2 : Sl w 5 B m d (r.flatMap lossC)) :
    Calls Tryz.prog 19 #[.slice A n c, .slice B m d] w fun e w' => e = .returned (.bool (decide (l = r))) ∧ Ext w w' := by
  have hl := h1.rlen lossC_len (by decide)
  have hr := h2.rlen lossC_len (by decide)
  have s1 := h1.small
  have s2 := h2.small
  by_cases hnm : n = m
  · subst hnm
    have H1 := Lib.hid h1
    have H2 := Lib.hid h2
    have HL := Lib.hid (And.intro hl hr)
    have e0 : ((n : Int) == (n : Int)) = true := by simp
    have q1 := lossC_eq
    have q2 := lossC_eqg
    obtain ⟨bb, hbb⟩ : ∃ b, b = decide (l = r) := ⟨_, rfl⟩
    rw [← hbb]
    have HBB := Lib.hid hbb
    clear h1 h2 hl hr hbb
    go_enter Tryz.func19, Tryz.ntmps19
    go_wp2
    go_loopg [5, 6] n (fun gh q i wx => gh ≤ n ∧ i = .int .i64 ((n - gh : Nat) : Int) ∧ (∃ b : Bool, q = .bool b ∧ Hid (b = decide (l.take (n - gh) = r.take (n - gh)))) ∧ Ext w wx)
    case atStart => exact ⟨Nat.le_refl _, by simp, ⟨true, rfl, by rw [Nat.sub_self]; exact Lib.hid (by simp)⟩, Ext.refl _⟩
    case round =>
      obtain ⟨hg, hi, ⟨b, rfl, hb⟩, hx⟩ := hrel
      obtain ⟨k, hk⟩ : ∃ k, k = n - gk := ⟨_, rfl⟩
      rw [← hk] at hi hb
      subst hi
      have XR := Lib.hid hx
      cases b
      · have hne : bb = false := by
          have h := hb.out
          rw [HBB.out]
          by_cases hlr : l = r
          · subst hlr; simp at h
          · exact decide_eq_false hlr
        subst hne
        clear hx hk hg hb
        go_wp2
        go_ret
        exact ⟨rfl, XR.out⟩
      · by_cases hz : gk = 0
        · have hkn : ¬ (k : Int) < n := by omega
          have hne : bb = true := by
            have h := hb.out
            rw [HBB.out]
            rw [List.take_of_length_le (by have := HL.out; omega), List.take_of_length_le (by have := HL.out; omega)] at h
            exact h.symm
          subst hne
          clear hx hk hg hb hz
          go_wp2
          go_ret
          exact ⟨rfl, XR.out⟩
        · have hkn : (k : Int) < n := by omega
          have hk1 : k < l.length := by have := HL.out; omega
          have hk2 : k < r.length := by have := HL.out; omega
          obtain ⟨b1, o1, rfl, hb1, hc1⟩ := H1.out.rec_ lossC_len (show 0 < n from by omega)
          obtain ⟨b2, o2, rfl, hb2, hc2⟩ := H2.out.rec_ lossC_len (show 0 < n from by omega)
          have x_0 := XR.out.has (hc1 k _ (List.getElem?_eq_getElem hk1) 0 _ rfl)
          have x_1 := XR.out.has (hc1 k _ (List.getElem?_eq_getElem hk1) 1 _ rfl)
          have x_2 := XR.out.has (hc1 k _ (List.getElem?_eq_getElem hk1) 2 _ rfl)
          have x_3 := XR.out.has (hc1 k _ (List.getElem?_eq_getElem hk1) 3 _ rfl)
          have x_4 := XR.out.has (hc1 k _ (List.getElem?_eq_getElem hk1) 4 _ rfl)
          have y_0 := XR.out.has (hc2 k _ (List.getElem?_eq_getElem hk2) 0 _ rfl)
          have y_1 := XR.out.has (hc2 k _ (List.getElem?_eq_getElem hk2) 1 _ rfl)
          have y_2 := XR.out.has (hc2 k _ (List.getElem?_eq_getElem hk2) 2 _ rfl)
          have y_3 := XR.out.has (hc2 k _ (List.getElem?_eq_getElem hk2) 3 _ rfl)
          have y_4 := XR.out.has (hc2 k _ (List.getElem?_eq_getElem hk2) 4 _ rfl)
          have t1 := lossC_take (List.getElem?_eq_getElem hk1)
          have t2 := lossC_take (List.getElem?_eq_getElem hk2)
          obtain ⟨x, hxx⟩ : ∃ x, x = l[k] := ⟨_, rfl⟩
          obtain ⟨y, hyy⟩ : ∃ y, y = r[k] := ⟨_, rfl⟩
          rw [← hxx] at x_0 x_1 x_2 x_3 x_4 t1
          rw [← hyy] at y_0 y_1 y_2 y_3 y_4 t2
          have hstep : Hid (decide (x = y) = decide (l.take (k + 1) = r.take (k + 1))) := Lib.hid (by
            rw [t1, t2]
            have h := hb.out
            have h3 : l.take k = r.take k := by simpa using h.symm
            rw [h3]
            by_cases hxy : x = y
            · subst hxy; simp
            · rw [decide_eq_false hxy]
              exact (decide_eq_false (fun e => hxy (by simpa using e))).symm)
          obtain ⟨x0, x1, x2, x3, x4⟩ := x
          obtain ⟨y0, y1, y2, y3, y4⟩ := y
          simp only at x_0 y_0 x_1 y_1 x_2 y_2 x_3 y_3 x_4 y_4
          rw [Nat.add_zero] at x_0 y_0
          rw [← Nat.add_assoc] at x_1 y_1 x_2 y_2 x_3 y_3 x_4 y_4
          have HK := Lib.hid (And.intro hk (And.intro hg hz))
          clear hx hk hg hb hz hc1 hc2 t1 t2 hxx hyy hk1 hk2
          go_wp2_with fail
          refine wp_region_held_drew (S := fun w' => w'.cell? ⟨b1, o1 + k * 5, none⟩ = some (.int .i64 x0) ∧ w'.cell? ⟨b1, o1 + k * 5 + 1, none⟩ = some (.int .i64 x1) ∧ w'.cell? ⟨b1, o1 + k * 5 + 2, none⟩ = some (.int .i64 x2) ∧ w'.cell? ⟨b1, o1 + k * 5 + 3, none⟩ = some (.int .i64 x3) ∧ w'.cell? ⟨b1, o1 + k * 5 + 4, none⟩ = some (.int .u64 x4) ∧ w'.cell? ⟨b2, o2 + k * 5, none⟩ = some (.int .i64 y0) ∧ w'.cell? ⟨b2, o2 + k * 5 + 1, none⟩ = some (.int .i64 y1) ∧ w'.cell? ⟨b2, o2 + k * 5 + 2, none⟩ = some (.int .i64 y2) ∧ w'.cell? ⟨b2, o2 + k * 5 + 3, none⟩ = some (.int .i64 y3) ∧ w'.cell? ⟨b2, o2 + k * 5 + 4, none⟩ = some (.int .u64 y4)) (by kernel_rfl) (by first | exact ⟨x_0, x_1, x_2, x_3, x_4, y_0, y_1, y_2, y_3, y_4⟩ | (simp [go_sem, World.cell?_alloc_past, *]; done)) (fun hHeld => ?_)
          refine' zt 0 ?_
          refine' zt 1 ?_
          refine' zt 2 ?_
          refine' zt 3 ?_
          refine' zt 4 ?_
          refine' zt 5 ?_
          refine' zt 6 ?_
          refine' zt 7 ?_
          refine' zt 8 ?_
          refine' zt 9 ?_
          refine wpAnyH_done (by kernel_rfl) ?_ _
          go_wp2_with fail
          go_roundg (gk - 1)
          case measure => have := HK.out; omega
          case rel => exact ⟨by have := HK.out; omega, num_eq (by have := HK.out; omega), ⟨_, rfl, Lib.hid (by rw [show n - (gk - 1) = k + 1 from by have := HK.out; omega, ← hstep.out]; simp [Bool.and_assoc, Prod.ext_iff]; try (first | rfl | (apply Bool.eq_iff_iff.2; simp; done)))⟩, zxt⟩
  · have hne : ¬ l = r := by rintro rfl; omega
    rw [decide_eq_false hne]
    have e0 : ((n : Int) == (m : Int)) = false := by simp; omega
    clear h1 h2 hl hr hne
    go_enter Tryz.func19, Tryz.ntmps19
    go_wp2
    go_loopg [5, 6] 0 (fun gh q i wx => q = .bool false ∧ i = .int .i64 0 ∧ wx = w)
    case atStart => exact ⟨rfl, rfl, rfl⟩
    case round =>
      obtain ⟨rfl, rfl, rfl⟩ := hrel
      go_wp2
      go_ret
      exact ⟨rfl, Ext.refl _⟩
end
section
open Go.RowKit
theorem own_rng {w : World} {base n sz : Nat} {e : TypeId} {v : Value} {xs : List Value} (h : w.ownsRow base e sz v n xs) : ∀ k, v.ownBlock = some k → base ≤ k ∧ k < w.heap.size := fun k hk => World.ownsRow.lt h k hk
/-- what an append makes of a row of records -/
theorem own_app {α : Type} {f : α → List Value} {w : World} {base sz n : Nat} {e : TypeId} {v : Value} {l : List α} {xs : List Value} (y : α) (h : w.ownsRow base e sz v (n + 1) (l.flatMap f ++ xs)) (hn : n = l.length) (hx : xs = f y) : ∃ A c, v = .slice A (l ++ [y]).length c ∧ (A = none → c = 0) ∧ w.ownsRow base e sz (.slice A (l ++ [y]).length c) (l ++ [y]).length ((l ++ [y]).flatMap f) := by
  subst hn hx
  have h2 : w.ownsRow base e sz v (l ++ [y]).length ((l ++ [y]).flatMap f) := by
    rw [List.length_append, List.flatMap_append]
    simpa using h
  obtain ⟨A, c, rfl, h3, _⟩ := own_parts2 h2
  exact ⟨A, c, rfl, h3, h2⟩
end
section
open Go.RowKit Go.ChangeShapes Go.WideShapes Go.Deep Go.Joins
set_option maxRecDepth 100000 in
set_option maxHeartbeats 4000000 in
theorem hCut1_any (p : Nat) (po pv ps_ pp pf ph V S P Q : Int) (w : World) (p_0 : w.cell? ⟨p, 0, none⟩ = some (.int .i64 V)) (p_1 : w.cell? ⟨p, 1, none⟩ = some (.int .i64 S)) (p_2 : w.cell? ⟨p, 2, none⟩ = some (.int .i64 P)) (p_3 : w.cell? ⟨p, 3, none⟩ = some (.int .i64 Q)) :
    Calls Tryz.prog 77 #[.agg #[.int .i64 po, .int .i64 pv, .int .i64 ps_, .int .i64 pp, .int .i64 pf, .int .u64 ph], .pointer (some ⟨p, 0, none⟩)] w fun r w' => r = .returned (.bool (pv == V && ps_ == S && pp == P && pf == Q)) ∧ Ext w w' := by
  have hp := cell_lt p_0
  have hpn : ¬ p = w.heap.size := by omega
  have pq1 := stm_eq
  have pq2 := stm_eqg
  go_enter Tryz.func77, Tryz.ntmps77
  go_wp2_with fail
  go_ret
  exact ⟨rfl, zxt⟩
theorem hCut1_call (p : Nat) (x : (Int × Int × Int × Int × Int × Int)) (V S P Q : Int) (w : World) (p_0 : w.cell? ⟨p, 0, none⟩ = some (.int .i64 V)) (p_1 : w.cell? ⟨p, 1, none⟩ = some (.int .i64 S)) (p_2 : w.cell? ⟨p, 2, none⟩ = some (.int .i64 P)) (p_3 : w.cell? ⟨p, 3, none⟩ = some (.int .i64 Q)) :
    Calls Tryz.prog 77 (#[] ++ #[.agg #[.int .i64 x.1, .int .i64 x.2.1, .int .i64 x.2.2.1, .int .i64 x.2.2.2.1, .int .i64 x.2.2.2.2.1, .int .u64 x.2.2.2.2.2]] ++ #[.pointer (some ⟨p, 0, none⟩)]) w fun r w' => r = .returned (.bool (decide (stP x = [V, S, P, Q]))) ∧ Ext w w' := by
  have h := hCut1_any p x.1 x.2.1 x.2.2.1 x.2.2.2.1 x.2.2.2.2.1 x.2.2.2.2.2 V S P Q w p_0 p_1 p_2 p_3
  rw [show (x.2.1 == V && x.2.2.1 == S && x.2.2.2.1 == P && x.2.2.2.2.1 == Q) = decide (stP x = [V, S, P, Q]) from by
    unfold stP
    by_cases h0 : x.2.1 = V <;> by_cases h1 : x.2.2.1 = S <;> by_cases h2 : x.2.2.2.1 = P <;> by_cases h3 : x.2.2.2.2.1 = Q <;> simp [h0, h1, h2, h3]] at h
  exact h
/-- what IndexFunc finds -/
def IdxR (l : List (Int × Int × Int × Int × Int × Int)) (q : (Int × Int × Int × Int × Int × Int) → Bool) (i : Int) : Prop := (i = -1 ∧ ∀ x ∈ l, q x = false) ∨ ∃ (m : Nat) (x : (Int × Int × Int × Int × Int × Int)), i = (m : Int) ∧ l[m]? = some x ∧ q x = true ∧ ∀ y ∈ l.take m, q y = false
set_option maxRecDepth 100000 in
set_option maxHeartbeats 4000000 in
theorem hIdxF_at (fg : Nat) (bd cp : Array Value) (q : (Int × Int × Int × Int × Int × Int) → Bool) (A : Option Addr) (n c : Nat) (l : List (Int × Int × Int × Int × Int × Int)) (w : World) (eg : ∀ args w, (callFunc fg args).run Tryz.prog w = .ok (.enter fg args) w) (h : Sl w 6 A n c (l.flatMap posC))
    (hf : ∀ (wx : World) (x : (Int × Int × Int × Int × Int × Int)), x ∈ l → Ext w wx → Calls Tryz.prog fg (bd ++ #[.agg #[.int .i64 x.1, .int .i64 x.2.1, .int .i64 x.2.2.1, .int .i64 x.2.2.2.1, .int .i64 x.2.2.2.2.1, .int .u64 x.2.2.2.2.2]] ++ cp) wx fun e w' => e = .returned (.bool (q x)) ∧ Ext wx w') :
    Calls Tryz.prog 144 #[.slice A n c, .func (.func fg) bd cp] w fun e w' => ∃ i, e = .returned (.int .i64 i) ∧ IdxR l q i ∧ Ext w w' := by
  have hll := h.rlen posC_len (by decide)
  have hsm := h.small
  have HF := Lib.hid hf
  have HS := Lib.hid h
  have HLL := Lib.hid hll
  clear hf h hll
  go_enter Tryz.func144, Tryz.ntmps144
  go_wp2
  go_loopg [8] n (fun gh i wx => gh ≤ n ∧ i = .int .i64 ((n - gh : Nat) : Int) ∧ Hid (∀ y ∈ l.take (n - gh), q y = false) ∧ Hid (Ext w wx))
  case atStart => exact ⟨Nat.le_refl _, by simp, by rw [Nat.sub_self]; exact Lib.hid (fun y h => by cases h), Lib.hid (Ext.refl _)⟩
  case round =>
    obtain ⟨hg, hi, HN, X⟩ := hrel
    obtain ⟨k, hk⟩ : ∃ k, k = n - gk := ⟨_, rfl⟩
    rw [← hk] at hi HN
    subst hi
    by_cases hz : gk = 0
    · have hkn : ¬ (k : Int) < (n : Int) := by omega
      have hA : ∀ y ∈ l, q y = false := by have h := HN.out; rwa [List.take_of_length_le (by have := HLL.out; omega)] at h
      have HA := Lib.hid hA
      clear hk hg hz HN hA
      go_wp2
      go_ret
      exact ⟨_, rfl, .inl ⟨rfl, HA.out⟩, X.out⟩
    · have hkn : (k : Int) < (n : Int) := by omega
      have hkl : k < l.length := by have := HLL.out; omega
      obtain ⟨b1, o1, hA1, hb1, hc_x⟩ := HS.out.rec_ posC_len (show 0 < n from by omega)
      obtain ⟨xw, hl_x⟩ : ∃ x, l[k]? = some x := ⟨_, List.getElem?_eq_getElem (by omega)⟩
      have x_0 := X.out.has (hc_x k xw hl_x 0 _ rfl)
      have x_1 := X.out.has (hc_x k xw hl_x 1 _ rfl)
      have x_2 := X.out.has (hc_x k xw hl_x 2 _ rfl)
      have x_3 := X.out.has (hc_x k xw hl_x 3 _ rfl)
      have x_4 := X.out.has (hc_x k xw hl_x 4 _ rfl)
      have x_5 := X.out.has (hc_x k xw hl_x 5 _ rfl)
      rw [Nat.add_zero] at x_0
      rw [← Nat.add_assoc] at x_1 x_2 x_3 x_4 x_5
      clear hc_x
      have hc := HF.out wr xw (List.mem_of_getElem? hl_x) X.out
      obtain rfl := hA1
      have HK := Lib.hid (And.intro hk (And.intro hg (And.intro hz hl_x)))
      clear hk hg hz hkl hl_x
      rcases Bool.eq_false_or_eq_true (q xw) with hq | hq
      · have HQ := Lib.hid hq
        rw [hq] at hc
        clear hq
        go_wp2_with (go_at_fn fg; refine hc.mono ?_; rintro e w' ⟨rfl, hx⟩; have X2 := Lib.hid (Ext.trans X.out hx); clear hx hc x_0 x_1 x_2 x_3 x_4 x_5)
        go_ret
        exact ⟨_, rfl, .inr ⟨k, xw, rfl, HK.out.2.2.2, HQ.out, HN.out⟩, X2.out⟩
      · have HQ := Lib.hid hq
        rw [hq] at hc
        clear hq
        go_wp2_with (go_at_fn fg; refine hc.mono ?_; rintro e w' ⟨rfl, hx⟩; have X2 := Lib.hid (Ext.trans X.out hx); clear hx hc x_0 x_1 x_2 x_3 x_4 x_5)
        go_roundg (gk - 1)
        case measure => have := HK.out.2.2.1; omega
        case rel =>
          refine ⟨by have := HK.out.2.1; omega, num_eq (by have := HK.out.1; have := HK.out.2.1; have := HK.out.2.2.1; omega), Lib.hid ?_, X2⟩
          rw [show n - (gk - 1) = k + 1 from by have := HK.out.1; have := HK.out.2.1; have := HK.out.2.2.1; omega, List.take_add_one, HK.out.2.2.2]
          intro y hy
          rcases List.mem_append.1 hy with hy | hy
          · exact HN.out y hy
          · obtain rfl : y = xw := by simpa using hy
            exact HQ.out
/-- clear(s[N:]) -/
theorem tail_clear {P : Program} (w : World) (t e : TypeId) (i : TypeInfo) (z : Value) (ht : P.underlying t = some (.slice e)) (hi : P.info? e = some i) (hz : i.zero = some z) (base g n c N c2 sz : Nat) (hN : N < n) (hz0 : z.cells.size = sz) (hz1 : ∀ u ∈ z.cells.toList, u.oneCell' = true) (h0 : 0 < sz) (ys : List Value)
    (h : w.ownsRow base e sz (.slice (some ⟨g, 0, none⟩) n c) n ys) :
    ∃ w2, (∀ ty, (Builtin.clear_ #[t] ty #[.slice (some ⟨g, N * sz, none⟩) (n - N) c2]).run P w = .ok (.tuple #[]) w2) ∧ w2.ownsRow base e sz (.slice (some ⟨g, 0, none⟩) N c) N (ys.take (N * sz)) ∧ But (· = g) w w2 := by
  obtain ⟨cur, hb, hg, hnc, hcm, hcs, htk⟩ := own_row h
  have hv : ∀ w, (zeroValue e).run P w = .ok z w := fun w => by simp [zeroValue, typeInfo, hi, hz]
  have hn1 : N * sz + (n - N) * sz = n * sz := by rw [← Nat.add_mul, Nat.add_sub_cancel' (by omega)]
  have hnc2 : n * sz ≤ c * sz := Nat.mul_le_mul_right _ hnc
  have hNc : N * sz ≤ n * sz := Nat.mul_le_mul_right _ (by omega)
  obtain ⟨vs, hvl, hr⟩ := run_clear_wide (P := P) w t e z sz ht hv hz0 hz1 h0 g (N * sz) (n - N) c2 cur e hg (by omega)
  have hcl : cur.toList.length = c * sz := by simpa using hcs
  have hll : (cur.toList.take (N * sz) ++ vs ++ cur.toList.drop (N * sz + (n - N) * sz)).length = c * sz := by
    simp only [List.length_append, List.length_take, List.length_drop, hcl, hvl]
    omega
  have hw := own_setRow (n := N) hg hb (by omega) hcm hll
  refine ⟨_, hr, ?_, But.setRow _ _ _⟩
  rw [List.append_assoc, List.take_append_of_le_length (by rw [List.length_take, hcl]; omega), List.take_take, Nat.min_self] at hw
  rw [← htk, List.take_take, Nat.min_eq_left hNc, List.append_assoc]
  exact hw
/-- one step of DeleteFunc, plain: i of j kept; M: what the row reads as -/
structure DelI (l : List (Int × Int × Int × Int × Int × Int)) (q : (Int × Int × Int × Int × Int × Int) → Bool) (M : List (Int × Int × Int × Int × Int × Int)) (i j : Nat) : Prop where
  len : M.length = l.length
  lt : i < j
  le : j ≤ l.length
  tk : M.take i = (l.take j).filter (fun x => !q x)
  dr : M.drop j = l.drop j
theorem DelI.start {l : List (Int × Int × Int × Int × Int × Int)} {q : (Int × Int × Int × Int × Int × Int) → Bool} {m : Nat} {x : (Int × Int × Int × Int × Int × Int)} (h : l[m]? = some x) (hx : q x = true) (hq : ∀ y ∈ l.take m, q y = false) : DelI l q l m (m + 1) := by
  refine ⟨rfl, by omega, (List.getElem?_eq_some_iff.1 h).1, ?_, rfl⟩
  rw [List.take_add_one, h, List.filter_append]
  have e : (l.take m).filter (fun x => !q x) = l.take m := List.filter_eq_self.2 (fun y hy => by rw [hq y hy]; rfl)
  rw [e]
  simp [hx]
theorem DelI.skip {l M : List (Int × Int × Int × Int × Int × Int)} {q : (Int × Int × Int × Int × Int × Int) → Bool} {i j : Nat} {x : (Int × Int × Int × Int × Int × Int)} (h : DelI l q M i j) (hx : l[j]? = some x) (hq : q x = true) : DelI l q M i (j + 1) := by
  refine ⟨h.len, by have := h.lt; omega, (List.getElem?_eq_some_iff.1 hx).1, ?_, ?_⟩
  · rw [h.tk, List.take_add_one, hx, List.filter_append]
    simp [hq]
  · have := congrArg (List.drop 1) h.dr
    rwa [List.drop_drop, List.drop_drop] at this
theorem DelI.keep {l M : List (Int × Int × Int × Int × Int × Int)} {q : (Int × Int × Int × Int × Int × Int) → Bool} {i j : Nat} {x : (Int × Int × Int × Int × Int × Int)} (h : DelI l q M i j) (hx : l[j]? = some x) (hq : q x = false) : DelI l q (M.set i x) (i + 1) (j + 1) := by
  have hj := (List.getElem?_eq_some_iff.1 hx).1
  have hl := h.lt
  have hM := h.len
  refine ⟨by rw [List.length_set]; exact h.len, by omega, by omega, ?_, ?_⟩
  · rw [List.take_add_one, List.getElem?_set_self (by omega), List.take_add_one, hx, List.filter_append, ← h.tk, List.take_set_of_le (by omega)]
    simp [hq]
  · rw [List.drop_set_of_lt (by omega)]
    have := congrArg (List.drop 1) h.dr
    rwa [List.drop_drop, List.drop_drop] at this
theorem DelI.get {l M : List (Int × Int × Int × Int × Int × Int)} {q : (Int × Int × Int × Int × Int × Int) → Bool} {i j : Nat} {x : (Int × Int × Int × Int × Int × Int)} (h : DelI l q M i j) (hx : l[j]? = some x) : M[j]? = some x := by
  have e := congrArg (fun z => z[0]?) h.dr
  simp only [List.getElem?_drop, Nat.add_zero] at e
  rw [e]
  exact hx
theorem DelI.done {l M : List (Int × Int × Int × Int × Int × Int)} {q : (Int × Int × Int × Int × Int × Int) → Bool} {i j : Nat} (h : DelI l q M i j) (hj : l.length ≤ j) : M.take i = l.filter (fun x => !q x) ∧ i = (l.filter (fun x => !q x)).length := by
  have e := h.tk
  rw [List.take_of_length_le hj] at e
  refine ⟨e, ?_⟩
  have := congrArg List.length e
  rw [List.length_take] at this
  have h1 := h.lt
  have h2 := h.le
  have h3 := h.len
  omega
set_option maxRecDepth 100000 in
set_option maxHeartbeats 4000000 in
theorem hDelF_own (fg : Nat) (bd cp : Array Value) (q : (Int × Int × Int × Int × Int × Int) → Bool) (base n : Nat) (v : Value) (l : List (Int × Int × Int × Int × Int × Int)) (w : World) (eg : ∀ args w, (callFunc fg args).run Tryz.prog w = .ok (.enter fg args) w) (h : OwnPos w base v n l) (hn : n = l.length) (hn2 : n < 1099511627776)
    (hf : ∀ (wx : World) (x : (Int × Int × Int × Int × Int × Int)), x ∈ l → But (fun k => v.ownBlock = some k) w wx → Calls Tryz.prog fg (bd ++ #[.agg #[.int .i64 x.1, .int .i64 x.2.1, .int .i64 x.2.2.1, .int .i64 x.2.2.2.1, .int .i64 x.2.2.2.2.1, .int .u64 x.2.2.2.2.2]] ++ cp) wx fun e w' => e = .returned (.bool (q x)) ∧ Ext wx w') :
    Calls Tryz.prog 76 #[v, .func (.func fg) bd cp] w (InsR 82 6 base v (l.filter (fun x => !q x)).length ((l.filter (fun x => !q x)).flatMap posC) w) := by
  obtain ⟨i0, hi, hz, hs, hb⟩ := info_parts pos_info
  obtain ⟨A, c, rfl, hA, hsl⟩ := own_parts2 h
  have CI := Lib.hid (hIdxF_at fg bd cp q A n c l w eg hsl (fun wx x hx hX => hf wx x hx (But.ofExt hX)))
  have HF := Lib.hid hf
  have HO := Lib.hid h
  have HN := Lib.hid hn
  clear hf h hn
  go_enter Tryz.func76, Tryz.ntmps76
  go_wp2_with fail
  (with_reducible refine CI.out.mono ?_)
  rintro e w1 ⟨ci, rfl, hci, hx1⟩
  rcases hci with ⟨rfl, hall⟩ | ⟨m, xm, rfl, hlm, hqm, hbm⟩
  · have hfl : l.filter (fun x => !q x) = l := List.filter_eq_self.2 (fun y hy => by rw [hall y hy]; rfl)
    have E : Hid (InsR 82 6 base (.slice A n c) (l.filter (fun x => !q x)).length ((l.filter (fun x => !q x)).flatMap posC) w (.returned (.slice A n c)) w1) := Lib.hid ⟨_, rfl, by rw [hfl, ← HN.out]; exact own_keep HO.out hx1, fun k hk => .inl hk, But.ofExt hx1⟩
    clear hall hfl hx1 CI HF HO hsl
    go_wp2
    go_ret
    exact E.out
  · have hml : m < l.length := (List.getElem?_eq_some_iff.1 hlm).1
    obtain ⟨g, c', hv⟩ := own_form HO.out (show 0 < n from by have := HN.out; omega)
    obtain ⟨rfl, rfl⟩ : A = some ⟨g, 0, none⟩ ∧ c = c' := by simpa using hv
    have HD := Lib.hid (DelI.start hlm hqm hbm)
    have hml2 : m < n := by have := HN.out; omega
    have hm1 : ¬ (m : Int) = -1 := by omega
    have hm2 : ((m : Int) == -1) = false := beq_false_of_ne hm1
    have hmw : IntKind.i64.wrap ((m : Int) + 1) = (m : Int) + 1 := IntWalk.i64_in _ (by omega)
    have HO1 : Hid (World.ownsRow w1 base 82 6 (.slice (some ⟨g, 0, none⟩) n c) n (l.flatMap posC)) := Lib.hid (own_keep HO.out hx1)
    have B1 : Hid (But (fun k => (Value.slice (some ⟨g, 0, none⟩) n c).ownBlock = some k) w w1) := Lib.hid (But.ofExt hx1)
    have hnc : n ≤ c := by obtain ⟨cur, _, _, hnc, hcm, _, _⟩ := own_row HO1.out; exact hnc
    have hcm2 : c ≤ 9223372036854775807 := by obtain ⟨cur, _, _, hnc, hcm, _, _⟩ := own_row HO1.out; exact hcm
    clear hlm hqm hbm hx1 CI HO hsl hv hA hml
    go_wp2
    go_loopg [5, 6] n (fun gh s5 s6 wx => ∃ (i j : Nat) (M : List (Int × Int × Int × Int × Int × Int)), s5 = .int .i64 (i : Int) ∧ s6 = .int .i64 (j : Int) ∧ i < j ∧ j ≤ n ∧ n - j ≤ gh ∧ Hid (DelI l q M i j) ∧ Hid (World.ownsRow wx base 82 6 (.slice (some ⟨g, 0, none⟩) n c) n (M.flatMap posC)) ∧ Hid (But (fun k => (Value.slice (some ⟨g, 0, none⟩) n c).ownBlock = some k) w wx))
    case atStart => exact ⟨m, m + 1, l, rfl, num_eq (by omega), by omega, by have := HN.out; omega, by omega, HD, HO1, B1⟩
    case round =>
      clear HD HO1 B1 hm1 hm2 hmw
      obtain ⟨i, j, M, rfl, rfl, hij, hjn, hgk, HD, HO, BB⟩ := hrel
      by_cases hzj : j < n
      · have hjd : decide ((j : Int) < (n : Int)) = true := decide_eq_true (by omega)
        have hjl : (j : Int) < (n : Int) := by omega
        have hil : (i : Int) < (n : Int) := by omega
        obtain ⟨xw, hlx⟩ : ∃ x, l[j]? = some x := ⟨_, List.getElem?_eq_getElem (by have := HN.out; omega)⟩
        have hMx := HD.out.get hlx
        have hMn : M.length = n := by have := HD.out.len; have := HN.out; omega
        have HCj : Cur 82 posC 6 wr base g n c M j xw := Cur.mk HO.out hMx hMn
        have x_0 := Cur.cell posC_len HCj (j := 0) rfl
        have x_1 := Cur.cell posC_len HCj (j := 1) rfl
        have x_2 := Cur.cell posC_len HCj (j := 2) rfl
        have x_3 := Cur.cell posC_len HCj (j := 3) rfl
        have x_4 := Cur.cell posC_len HCj (j := 4) rfl
        have x_5 := Cur.cell posC_len HCj (j := 5) rfl
        rw [Nat.add_zero] at x_0
        have hgw : g < wr.heap.size := cell_lt x_0
        have hgn : ¬ g = wr.heap.size := by omega
        have hc := fun wx hX => HF.out wx xw (List.mem_of_getElem? hlx) hX
        have HL := Lib.hid (And.intro hlx hMn)
        have HG := Lib.hid (And.intro hgk (And.intro hij (And.intro hjn hzj)))
        have hjw : IntKind.i64.wrap ((j : Int) + 1) = (j : Int) + 1 := IntWalk.i64_in _ (by omega)
        have hiw : IntKind.i64.wrap ((i : Int) + 1) = (i : Int) + 1 := IntWalk.i64_in _ (by omega)
        obtain ⟨yw, hMy⟩ : ∃ y, M[i]? = some y := ⟨_, List.getElem?_eq_getElem (by omega)⟩
        have HY := Lib.hid hMy
        clear hlx hMx HCj hgk hzj hMy hMn
        rcases Bool.eq_false_or_eq_true (q xw) with hq | hq
        · have HQ := Lib.hid hq
          rw [hq] at hc
          clear hq
          go_wp2_with (go_at_fn fg; refine (hc _ (by repeat (first | exact BB.out | refine But.alloc ?_ _ | refine But.setNew ?_ zSlBas4_0 _))).mono ?_; rintro e w' ⟨rfl, hx⟩; have hX := Ext.trans (Ext.alloc (Ext.refl wr) _) hx; have HO2 := Lib.hid (own_keep HO.out hX); have B2 := Lib.hid (But.trans BB.out (But.ofExt hX)); clear hx hX hc x_0 x_1 x_2 x_3 x_4 x_5)
          go_roundg (n - (j + 1))
          case measure => have := HG.out; omega
          case rel => exact ⟨i, j + 1, M, rfl, num_eq (by omega), by omega, by have := HG.out; omega, by omega, Lib.hid (HD.out.skip HL.out.1 HQ.out), HO2, B2⟩
        · have HQ := Lib.hid hq
          rw [hq] at hc
          clear hq
          go_wp2_with (go_at_fn fg; refine (hc _ (by repeat (first | exact BB.out | refine But.alloc ?_ _ | refine But.setNew ?_ zSlBas4_0 _))).mono ?_; rintro e w' ⟨rfl, hx⟩; have hX := Ext.trans (Ext.alloc (Ext.refl wr) _) hx; have HO2 := Lib.hid (own_keep HO.out hX); have B2 := Lib.hid (But.trans BB.out (But.ofExt hX)); have HC : Hid (Cur 82 posC 6 w' base g n c M i yw) := Lib.hid (Cur.mk HO2.out HY.out HL.out.2); have b_0 : w'.cell? ⟨wr.heap.size, 0, none⟩ = some (.int .i64 xw.1) := hx.has (by simp [go_sem, World.cell?_alloc_past]); have b_1 : w'.cell? ⟨wr.heap.size, 1, none⟩ = some (.int .i64 xw.2.1) := hx.has (by simp [go_sem, World.cell?_alloc_past]); have b_2 : w'.cell? ⟨wr.heap.size, 2, none⟩ = some (.int .i64 xw.2.2.1) := hx.has (by simp [go_sem, World.cell?_alloc_past]); have b_3 : w'.cell? ⟨wr.heap.size, 3, none⟩ = some (.int .i64 xw.2.2.2.1) := hx.has (by simp [go_sem, World.cell?_alloc_past]); have b_4 : w'.cell? ⟨wr.heap.size, 4, none⟩ = some (.int .i64 xw.2.2.2.2.1) := hx.has (by simp [go_sem, World.cell?_alloc_past]); have b_5 : w'.cell? ⟨wr.heap.size, 5, none⟩ = some (.int .u64 xw.2.2.2.2.2) := hx.has (by simp [go_sem, World.cell?_alloc_past]); have y_0 := Cur.cell posC_len HC.out (j := 0) rfl; have y_0f := Cur.froz HC.out 0; have y_1 := Cur.cell posC_len HC.out (j := 1) rfl; have y_1f := Cur.froz HC.out 1; have y_2 := Cur.cell posC_len HC.out (j := 2) rfl; have y_2f := Cur.froz HC.out 2; have y_3 := Cur.cell posC_len HC.out (j := 3) rfl; have y_3f := Cur.froz HC.out 3; have y_4 := Cur.cell posC_len HC.out (j := 4) rfl; have y_4f := Cur.froz HC.out 4; have y_5 := Cur.cell posC_len HC.out (j := 5) rfl; have y_5f := Cur.froz HC.out 5; rw [Nat.add_zero] at y_0 y_0f; clear hx hX hc x_0 x_1 x_2 x_3 x_4 x_5)
          go_roundg (n - (j + 1))
          case measure => have := HG.out; omega
          case rel => exact ⟨i + 1, j + 1, M.set i xw, num_eq (by omega), num_eq (by omega), by omega, by have := HG.out; omega, by omega, Lib.hid (HD.out.keep HL.out.1 HQ.out), Lib.hid (Cur.own (Cur.put posC_len (Cur.put posC_len (Cur.put posC_len (Cur.put posC_len (Cur.put posC_len (Cur.put posC_len HC.out 0 (.int .i64 xw.1) (xw.1, yw.2) (by decide) rfl) 1 (.int .i64 xw.2.1) (xw.1, xw.2.1, yw.2.2) (by decide) rfl) 2 (.int .i64 xw.2.2.1) (xw.1, xw.2.1, xw.2.2.1, yw.2.2.2) (by decide) rfl) 3 (.int .i64 xw.2.2.2.1) (xw.1, xw.2.1, xw.2.2.1, xw.2.2.2.1, yw.2.2.2.2) (by decide) rfl) 4 (.int .i64 xw.2.2.2.2.1) (xw.1, xw.2.1, xw.2.2.1, xw.2.2.2.1, xw.2.2.2.2.1, yw.2.2.2.2.2) (by decide) rfl) 5 (.int .u64 xw.2.2.2.2.2) xw (by decide) rfl)), Lib.hid (But.setCell (But.setCell (But.setCell (But.setCell (But.setCell (But.setCell B2.out (p := ⟨g, i * 6, none⟩) rfl _) (p := ⟨g, i * 6 + 1, none⟩) rfl _) (p := ⟨g, i * 6 + 2, none⟩) rfl _) (p := ⟨g, i * 6 + 3, none⟩) rfl _) (p := ⟨g, i * 6 + 4, none⟩) rfl _) (p := ⟨g, i * 6 + 5, none⟩) rfl _)⟩
      · have hjd : decide ((j : Int) < (n : Int)) = false := decide_eq_false (by omega)
        have hjl : ¬ (j : Int) < (n : Int) := by omega
        obtain ⟨ht, hil⟩ := HD.out.done (by have := HN.out; omega)
        obtain ⟨w2, hr2, ho2, hx2⟩ := tail_clear (P := Tryz.prog) wr 23 82 i0 _ Tryz.underlying23 hi hz base g n c i (c - i) 6 (by omega) (by rfl) (by decide) (by decide) (M.flatMap posC) HO.out
        have hr := hr2
        have hin : (i : Int) ≤ (n : Int) := by omega
        have hic : ¬ c = i := by omega
        have hic2 : ¬ (c : Int) = (i : Int) := by omega
        have hi0 : (0 : Int) ≤ (i : Int) := by omega
        have hicc : (i : Int) ≤ (c : Int) := by omega
        have E : Hid (InsR 82 6 base (.slice (some ⟨g, 0, none⟩) n c) (l.filter (fun x => !q x)).length ((l.filter (fun x => !q x)).flatMap posC) w (.returned (.slice (some ⟨g, 0, none⟩) i c)) w2) := Lib.hid ⟨_, rfl, by rw [← hil, ← ht, ← fm_take posC_len]; exact ho2, fun k hk => .inl hk, But.trans BB.out (hx2.mono (fun k _ hk => by subst hk; rfl))⟩
        clear hr2 ho2 hx2 HD HO BB ht hil hgk HF HN
        go_wp2
        go_ret
        exact E.out
end
section
open Go.RowKit
/-- is a position's class cut away? -/
def goneB (v h p : Int) (l : List (Int × Int × Int × Int × Int × Int)) (x : (Int × Int × Int × Int × Int × Int)) : Bool := l.any fun c => decide (kC c = stP x) && (cutC v h p c).isNone
/-- ahead of the k-th class: classes, positions, losses, their sum -/
structure CutI (cl ps : List (Int × Int × Int × Int × Int × Int)) (v h p : Int) (k : Nat) (CL PS : List (Int × Int × Int × Int × Int × Int)) (LS : List (Int × Int × Int × Int × Int)) (N : Int) : Prop where
  ecl : CL = cutCs v h p (cl.take k) ++ cl.drop k
  eps : PS = ps.filter (fun x => !goneB v h p (cl.take k) x)
  els : LS = losCs v h p (cl.take k)
  en : N = losN LS
theorem CutI.start (cl ps : List (Int × Int × Int × Int × Int × Int)) (v h p : Int) : CutI cl ps v h p 0 cl ps [] 0 :=
  ⟨by simp [cutCs], (List.filter_eq_self.2 (fun _ _ => rfl)).symm, by simp [losCs], by simp [losN, addF]⟩
theorem cutC_skip {v h p : Int} {c : (Int × Int × Int × Int × Int × Int)} (hb : bkC c v h = false) : cutC v h p c = some c := by unfold cutC; rw [if_neg (by simp [hb])]
theorem cutC_hit {v h p : Int} {c : (Int × Int × Int × Int × Int × Int)} (hb : bkC c v h = true) : cutC v h p c = optC c.1 c.2.1 c.2.2.1 c.2.2.2.1 (cutT (toC c) (shC c) p) (cutS (toC c) (shC c) p) := by unfold cutC; rw [if_pos hb]
theorem losC_skip {v h p : Int} {c : (Int × Int × Int × Int × Int × Int)} (hb : bkC c v h = false) : losC v h p c = none := by unfold losC; rw [if_neg (by simp [hb])]
theorem losC_hit {v h p : Int} {c : (Int × Int × Int × Int × Int × Int)} (hb : bkC c v h = true) : losC v h p c = some (c.1, c.2.1, c.2.2.1, c.2.2.2.1, cutN (toC c) (shC c) p) := by unfold losC; rw [if_pos hb]
theorem take_one {α : Type} {l : List α} {k : Nat} {x : α} (h : l[k]? = some x) : l.take (k + 1) = l.take k ++ [x] := by rw [List.take_add_one, h]; rfl
theorem goneB_snoc (v h p : Int) (l : List (Int × Int × Int × Int × Int × Int)) (c x : (Int × Int × Int × Int × Int × Int)) : goneB v h p (l ++ [c]) x = (goneB v h p l x || (decide (kC c = stP x) && (cutC v h p c).isNone)) := by
  unfold goneB
  rw [List.any_append]
  simp
theorem CutI.skip {cl ps CL PS : List (Int × Int × Int × Int × Int × Int)} {v h p N : Int} {k : Nat} {LS : List (Int × Int × Int × Int × Int)} {c : (Int × Int × Int × Int × Int × Int)} (H : CutI cl ps v h p k CL PS LS N) (hc : cl[k]? = some c) (hb : bkC c v h = false) : CutI cl ps v h p (k + 1) CL PS LS N := by
  refine ⟨?_, ?_, ?_, H.en⟩
  · rw [H.ecl, take_one hc, drop_at hc]
    unfold cutCs
    rw [List.filterMap_append, List.append_assoc]
    simp [cutC_skip hb]
  · rw [H.eps, take_one hc]
    refine List.filter_congr (fun x _ => ?_)
    rw [goneB_snoc, cutC_skip hb]
    simp
  · rw [H.els, take_one hc]
    unfold losCs
    rw [List.filterMap_append]
    simp [losC_skip hb]
theorem lay_mid {α : Type} {key : α → List Int} (o : Option α) (c : α) (r : List α) : ∀ (a : List α), SortK key (a ++ c :: r) → layK key (a ++ c :: r) (key c) o = a ++ (o.toList ++ r)
  | [], _ => by
    show layK key (c :: r) (key c) o = _
    unfold layK
    rw [cmpK_self, if_neg (by decide), if_pos rfl]
    rfl
  | x :: a, hs => by
    have h1 : cmpK (key x) (key c) < 0 := (List.pairwise_cons.1 hs).1 c (List.mem_append.2 (.inr (List.mem_cons_self ..)))
    show layK key (x :: (a ++ c :: r)) (key c) o = _
    unfold layK
    rw [if_pos h1, lay_mid o c r a (List.pairwise_cons.1 hs).2]
    rfl
theorem cutC_key {v h p : Int} {c y : (Int × Int × Int × Int × Int × Int)} (hy : cutC v h p c = some y) : kC y = kC c := by
  unfold cutC at hy
  split at hy
  · unfold optC at hy
    split at hy
    · cases hy
    · rw [← Option.some.inj hy]; rfl
  · rw [← Option.some.inj hy]
theorem sort_cut {l : List (Int × Int × Int × Int × Int × Int)} {v h p : Int} (hs : SortK kC l) : SortK kC (cutCs v h p l) := by
  unfold SortK cutCs at *
  rw [List.pairwise_filterMap]
  refine hs.imp (fun {a b} hab x hx y hy => ?_)
  rw [cutC_key hx, cutC_key hy]
  exact hab
theorem CutI.sort {cl ps CL PS : List (Int × Int × Int × Int × Int × Int)} {v h p N : Int} {k : Nat} {LS : List (Int × Int × Int × Int × Int)} (H : CutI cl ps v h p k CL PS LS N) (hs : SortK kC cl) : SortK kC CL := by
  have hs2 : SortK kC (cl.take k ++ cl.drop k) := by rw [List.take_append_drop]; exact hs
  obtain ⟨h1, h2, h3⟩ := List.pairwise_append.1 hs2
  rw [H.ecl]
  refine List.pairwise_append.2 ⟨sort_cut h1, h2, fun a ha b hb => ?_⟩
  obtain ⟨c, hc, hca⟩ := List.mem_filterMap.1 ha
  rw [cutC_key hca]
  exact h3 c hc b hb
theorem CutI.clen {cl ps CL PS : List (Int × Int × Int × Int × Int × Int)} {v h p N : Int} {k : Nat} {LS : List (Int × Int × Int × Int × Int)} (H : CutI cl ps v h p k CL PS LS N) : CL.length ≤ cl.length := by
  rw [H.ecl, List.length_append, List.length_drop]
  have h1 : (cutCs v h p (cl.take k)).length ≤ (cl.take k).length := List.length_filterMap_le ..
  rw [List.length_take] at h1
  omega
theorem CutI.plen {cl ps CL PS : List (Int × Int × Int × Int × Int × Int)} {v h p N : Int} {k : Nat} {LS : List (Int × Int × Int × Int × Int)} (H : CutI cl ps v h p k CL PS LS N) : PS.length ≤ ps.length := by rw [H.eps]; exact List.length_filter_le ..
theorem CutI.llen {cl ps CL PS : List (Int × Int × Int × Int × Int × Int)} {v h p N : Int} {k : Nat} {LS : List (Int × Int × Int × Int × Int)} (H : CutI cl ps v h p k CL PS LS N) : LS.length ≤ k := by
  rw [H.els]
  have h1 : (losCs v h p (cl.take k)).length ≤ (cl.take k).length := List.length_filterMap_le ..
  rw [List.length_take] at h1
  omega
theorem good_pool {c : (Int × Int × Int × Int × Int × Int)} (h : GoodC c) (hw : WdC c) : PoolOk (toC c) (shC c) := pool_of_chk hw.1 hw.2 h.2.1
theorem CutI.cut {cl ps CL PS : List (Int × Int × Int × Int × Int × Int)} {v h p N : Int} {k : Nat} {LS : List (Int × Int × Int × Int × Int)} {a b d e t s : Int} (H : CutI cl ps v h p k CL PS LS N) (hs : SortK kC cl) (hc : cl[k]? = some (a, b, d, e, t, s)) (hb : bkC (a, b, d, e, t, s) v h = true) :
    (cutT t s p = 0 ∧ cutS t s p = 0 → CutI cl ps v h p (k + 1) (setK kC CL [a, b, d, e] (optC a b d e (cutT t s p) (cutS t s p))) (PS.filter (fun x => !decide (stP x = [a, b, d, e]))) (LS ++ [(a, b, d, e, cutN t s p)]) (N + cutN t s p)) ∧
    (¬ (cutT t s p = 0 ∧ cutS t s p = 0) → CutI cl ps v h p (k + 1) (setK kC CL [a, b, d, e] (optC a b d e (cutT t s p) (cutS t s p))) PS (LS ++ [(a, b, d, e, cutN t s p)]) (N + cutN t s p)) := by
  have hcl : setK kC CL [a, b, d, e] (optC a b d e (cutT t s p) (cutS t s p)) = cutCs v h p (cl.take (k + 1)) ++ cl.drop (k + 1) := by
    have hS := H.sort hs
    rw [setK_lay kC_len rfl _ hS]
    have e1 : CL = cutCs v h p (cl.take k) ++ (a, b, d, e, t, s) :: cl.drop (k + 1) := by rw [H.ecl, drop_at hc]
    rw [e1] at hS ⊢
    rw [show [a, b, d, e] = kC (a, b, d, e, t, s) from rfl, lay_mid _ _ _ _ hS, take_one hc]
    unfold cutCs
    rw [List.filterMap_append, List.append_assoc]
    congr 1
    have e2 : cutC v h p (a, b, d, e, t, s) = optC a b d e (cutT t s p) (cutS t s p) := cutC_hit hb
    rw [← e2, List.filterMap_cons]
    cases cutC v h p (a, b, d, e, t, s) <;> rfl
  have hls : LS ++ [(a, b, d, e, cutN t s p)] = losCs v h p (cl.take (k + 1)) := by
    rw [H.els, take_one hc]
    unfold losCs
    rw [List.filterMap_append]
    have e2 : losC v h p (a, b, d, e, t, s) = some (a, b, d, e, cutN t s p) := losC_hit hb
    simp [e2]
  have hn : N + cutN t s p = losN (LS ++ [(a, b, d, e, cutN t s p)]) := by
    unfold losN
    rw [addF_app, H.en]
    simp [losN, addF]
  have e3 : cutC v h p (a, b, d, e, t, s) = optC a b d e (cutT t s p) (cutS t s p) := cutC_hit hb
  constructor
  · intro hz
    refine ⟨hcl, ?_, hls, hn⟩
    rw [H.eps, List.filter_filter, take_one hc]
    refine List.filter_congr (fun x _ => ?_)
    rw [goneB_snoc, e3, show optC a b d e (cutT t s p) (cutS t s p) = none from if_pos hz]
    show (!decide (stP x = [a, b, d, e]) && _) = !(_ || (decide ([a, b, d, e] = stP x) && true))
    by_cases hx : stP x = [a, b, d, e]
    · simp [hx]
    · have hx2 : ¬ [a, b, d, e] = stP x := fun hh => hx hh.symm
      simp [hx, hx2]
  · intro hz
    refine ⟨hcl, ?_, hls, hn⟩
    rw [H.eps, take_one hc]
    refine List.filter_congr (fun x _ => ?_)
    rw [goneB_snoc, e3, show optC a b d e (cutT t s p) (cutS t s p) = some (a, b, d, e, cutT t s p, cutS t s p) from if_neg hz]
    simp
theorem getK_none {l : List (Int × Int × Int × Int × Int × Int)} {q : List Int} (h : ∀ y ∈ l, kC y ≠ q) : getK kC l q = none := by
  unfold getK
  rw [List.find?_eq_none]
  intro x hx hk
  exact h x hx (by simpa using hk)
theorem CutI.done {cl ps CL PS : List (Int × Int × Int × Int × Int × Int)} {v h p N : Int} {k : Nat} {LS : List (Int × Int × Int × Int × Int)} (H : CutI cl ps v h p k CL PS LS N) (hk : HOk cl ps) (hl : cl.length ≤ k) : CL = cutCs v h p cl ∧ PS = keepP (cutCs v h p cl) ps ∧ LS = losCs v h p cl ∧ N = losN (losCs v h p cl) := by
  have e1 := List.take_of_length_le hl
  refine ⟨?_, ?_, ?_, ?_⟩
  · rw [H.ecl, e1, List.drop_of_length_le hl, List.append_nil]
  · rw [H.eps, e1]
    unfold keepP
    refine List.filter_congr (fun x hx => ?_)
    obtain ⟨c, hc⟩ := Option.isSome_iff_exists.1 (hk.pos x hx).2.2
    obtain ⟨hcm, hck⟩ := getK_mem hc
    by_cases hg : goneB v h p cl x = true
    · rw [hg]
      unfold goneB at hg
      obtain ⟨c2, hc2, hg2⟩ := List.any_eq_true.1 hg
      simp only [Bool.and_eq_true, decide_eq_true_eq] at hg2
      obtain ⟨hk2, hn2⟩ := hg2
      rw [getK_none (fun y hy hyk => ?_)]
      · rfl
      · obtain ⟨c3, hc3, hy3⟩ := List.mem_filterMap.1 hy
        obtain ⟨i, hi⟩ := List.getElem?_of_mem hc3
        obtain ⟨j, hj⟩ := List.getElem?_of_mem hc2
        have hij := sort_inj hk.sc hi hj (by rw [← cutC_key hy3, hyk, hk2])
        subst hij
        rw [hi] at hj
        obtain rfl := Option.some.inj hj
        rw [hy3] at hn2
        cases hn2
    · have hg0 : goneB v h p cl x = false := by simpa using hg
      rw [hg0]
      have hcut : (cutC v h p c).isSome = true := by
        rcases hcc : cutC v h p c with _ | y
        · exfalso
          apply hg
          unfold goneB
          rw [List.any_eq_true]
          exact ⟨c, hcm, by simp [hck, hcc]⟩
        · rfl
      obtain ⟨y, hy⟩ := Option.isSome_iff_exists.1 hcut
      have hym : y ∈ cutCs v h p cl := List.mem_filterMap.2 ⟨c, hcm, hy⟩
      have := getK_mem_some (key := kC) hym
      rw [cutC_key hy, hck] at this
      rw [this]
      rfl
  · rw [H.els, e1]
  · rw [H.en, H.els, e1]
theorem losN_nn {v h p : Int} {l : List (Int × Int × Int × Int × Int × Int)} (hl : ∀ c ∈ l, PoolOk (toC c) (shC c)) (p0 : 0 ≤ p) (p1 : p ≤ 1000000000) : 0 ≤ losN (losCs v h p l) ∧ losN (losCs v h p l) ≤ totC l := by
  induction l with
  | nil => exact ⟨by simp [losCs, losN, addF], by simp [losCs, losN, addF, totC]⟩
  | cons c l ih =>
    obtain ⟨i1, i2⟩ := ih (fun c hc => hl c (List.mem_cons_of_mem _ hc))
    have hP := hl c (List.mem_cons_self ..)
    obtain ⟨_, c1, c2, _⟩ := cut_ok hP p0 p1
    have h0 := hP.t0
    unfold totC at i2 ⊢
    rw [addF_cons]
    unfold losCs at i1 i2 ⊢
    rw [List.filterMap_cons]
    rcases Bool.eq_false_or_eq_true (bkC c v h) with hb | hb
    · rw [losC_hit hb]
      unfold losN at i1 i2 ⊢
      simp only
      rw [addF_cons]
      simp only
      omega
    · rw [losC_skip hb]
      simp only
      omega
theorem CutI.sum {cl ps CL PS : List (Int × Int × Int × Int × Int × Int)} {v h p N : Int} {k : Nat} {LS : List (Int × Int × Int × Int × Int)} {a b d e t s : Int} (H : CutI cl ps v h p k CL PS LS N) (hk : HOk cl ps) (hw : ∀ c ∈ cl, WdC c) (p0 : 0 ≤ p) (p1 : p ≤ 1000000000) (hc : cl[k]? = some (a, b, d, e, t, s)) : 0 ≤ N ∧ N + cutN t s p < 18446744073709551616 ∧ 0 ≤ cutN t s p := by
  have hP : ∀ c ∈ cl, PoolOk (toC c) (shC c) := fun c hc => good_pool (hk.cls c hc) (hw c hc)
  obtain ⟨h1, h2⟩ := losN_nn (v := v) (h := h) (l := cl.take k) (fun c hc => hP c (List.mem_of_mem_take hc)) p0 p1
  obtain ⟨_, c1, c2, _⟩ := cut_ok (hP _ (List.mem_of_getElem? hc)) p0 p1
  have h3 : totC (cl.take (k + 1)) = totC (cl.take k) + t := addF_take toC hc
  have h4 : totC (cl.take (k + 1)) ≤ totC cl := addF_le (fun y hy => (hw y hy).1.1) (k + 1)
  have h5 := hk.tot
  rw [H.en, H.els]
  change cutN t s p ≤ t at c2
  change 0 ≤ cutN t s p at c1
  omega
end
section
open Go.RowKit Go.ChangeShapes Go.WideShapes Go.Deep Go.Joins
/-- a holding, losses, a number and a fault handed back -/
def RetK (R : List (Int × Int × Int × Int × Int × Int) × List (Int × Int × Int × Int × Int × Int) × List (Int × Int × Int × Int × Int) × Int × Int) (w : World) (e : Ending) (w' : World) : Prop := ∃ v A c, e = .returned (.tuple #[v, .slice A R.2.2.1.length c, .int .u64 R.2.2.2.1, .int .i64 R.2.2.2.2]) ∧ (A = none → c = 0) ∧ HoldR R.1 R.2.1 w v w' ∧ OwnLoss w' w.heap.size (.slice A R.2.2.1.length c) R.2.2.1.length R.2.2.1
theorem RetK.nil {e : Int} {w w' : World} (hx : Ext w w') : RetK ([], [], [], 0, e) w (.returned (.tuple #[.agg #[.slice none 0 0, .slice none 0 0], .slice none 0 0, .int .u64 0, .int .i64 e])) w' := ⟨_, none, 0, rfl, fun _ => rfl, HoldR.nil hx, OwnLoss.nil _ _⟩
theorem hcutV_err {cl ps : List (Int × Int × Int × Int × Int × Int)} {v h p e : Int} (H : hcutE cl ps v h p = e) (he : e ≠ 0) : hcutV cl ps v h p = ([], [], [], 0, e) := by
  unfold hcutV
  rw [if_neg (by rw [H]; exact he), H]
theorem hcutV_ok {cl ps : List (Int × Int × Int × Int × Int × Int)} {v h p : Int} (H : hcutE cl ps v h p = 0) : hcutV cl ps v h p = (cutCs v h p cl, keepP (cutCs v h p cl) ps, losCs v h p cl, losN (losCs v h p cl), 0) := if_pos H
theorem RetK.mk {cl ps : List (Int × Int × Int × Int × Int × Int)} {ls : List (Int × Int × Int × Int × Int)} {N : Int} {w w' : World} {b : Nat} {v v2 : Value} {A : Option Addr} {c : Nat} (hb : w.heap.size ≤ b) (h : w'.ownsRow b 79 6 v cl.length (cl.flatMap clsC)) (h2 : w'.ownsRow b 82 6 v2 ps.length (ps.flatMap posC)) (h3 : w'.ownsRow b 73 5 (.slice A ls.length c) ls.length (ls.flatMap lossC)) (hx : Ext w w') : RetK (cl, ps, ls, N, 0) w (.returned (.tuple #[.agg #[v, v2], .slice A ls.length c, .int .u64 N, .int .i64 0])) w' := by
  obtain ⟨A', c', e, h4, _⟩ := own_parts2 h3
  obtain ⟨rfl, rfl⟩ : A = A' ∧ c = c' := by simpa using e
  exact ⟨_, A, c, rfl, h4, holdS_of hb h h2 hx, own_lower h3 hb⟩
theorem OwnLoss.but {S : Nat → Prop} {w w' : World} {base n : Nat} {v : Value} {l : List (Int × Int × Int × Int × Int)} (h : OwnLoss w base v n l) (hx : But S w w') (hS : ∀ j, v.ownBlock = some j → ¬ S j) : OwnLoss w' base v n l := own_but1Word h hx hS
theorem OwnCls.but {S : Nat → Prop} {w w' : World} {base n : Nat} {v : Value} {l : List (Int × Int × Int × Int × Int × Int)} (h : OwnCls w base v n l) (hx : But S w w') (hS : ∀ j, v.ownBlock = some j → ¬ S j) : OwnCls w' base v n l := own_but1Word h hx hS
theorem OwnPos.but {S : Nat → Prop} {w w' : World} {base n : Nat} {v : Value} {l : List (Int × Int × Int × Int × Int × Int)} (h : OwnPos w base v n l) (hx : But S w w') (hS : ∀ j, v.ownBlock = some j → ¬ S j) : OwnPos w' base v n l := own_but1Word h hx hS
theorem hDelF_ps (fg : Nat) (bd cp : Array Value) (q : (Int × Int × Int × Int × Int × Int) → Bool) (base n : Nat) (v : Value) (l L : List (Int × Int × Int × Int × Int × Int)) (w : World) (eg : ∀ args w, (callFunc fg args).run Tryz.prog w = .ok (.enter fg args) w) (h : OwnPos w base v n l) (hn : n = l.length) (hn2 : n < 1099511627776) (hL : L = l.filter (fun x => !q x))
    (hf : ∀ (wx : World) (x : (Int × Int × Int × Int × Int × Int)), x ∈ l → But (fun k => v.ownBlock = some k) w wx → Calls Tryz.prog fg (bd ++ #[.agg #[.int .i64 x.1, .int .i64 x.2.1, .int .i64 x.2.2.1, .int .i64 x.2.2.2.1, .int .i64 x.2.2.2.2.1, .int .u64 x.2.2.2.2.2]] ++ cp) wx fun e w' => e = .returned (.bool (q x)) ∧ Ext wx w') :
    Calls Tryz.prog 76 #[v, .func (.func fg) bd cp] w fun r w' => ∃ B d, r = .returned (.slice B L.length d) ∧ OwnPos w' base (.slice B L.length d) L.length L ∧ (∀ j, (Value.slice B L.length d).ownBlock = some j → v.ownBlock = some j ∨ w.heap.size ≤ j) ∧ But (fun k => v.ownBlock = some k) w w' := by
  subst hL
  refine (hDelF_own fg bd cp q base n v l w eg h hn hn2 hf).mono ?_
  rintro r w' ⟨v', rfl, ho, hb, hx⟩
  obtain ⟨B, d, rfl, _, _⟩ := own_parts2 ho
  exact ⟨B, d, rfl, ho, hb, hx⟩
theorem loss_cls : 73 ≠ 79 := by decide
theorem loss_pos : 73 ≠ 82 := by decide
set_option maxRecDepth 100000 in
set_option maxHeartbeats 4000000 in
theorem hCut_any (c c2 : Nat) (A A2 : Option Addr) (cl ps : List (Int × Int × Int × Int × Int × Int)) (v h p : Int) (w : World) (hs : Sl w 6 A cl.length c (cl.flatMap clsC)) (hs2 : Sl w 6 A2 ps.length c2 (ps.flatMap posC)) (hn : cl.length < 1099511627776) (hn2 : ps.length < 1099511627776) (hA : A = none → c = 0) (hA2 : A2 = none → c2 = 0) (hw : ∀ x ∈ cl, WdC x) (hw2 : ∀ x ∈ ps, WdP x) (hp : Word p) :
    Calls Tryz.prog 23 #[.agg #[.slice A cl.length c, .slice A2 ps.length c2], .int .i64 v, .int .i64 h, .int .u64 p] w (RetK (hcutV cl ps v h p) w) := by
  obtain ⟨iLoss, iLoss_0, iLoss_1, iLoss_2, iLoss_3⟩ := info_parts loss_info
  have C1 := Lib.hid (fun (w' : World) (hx : Ext w w') => hCheck_any cl.length c ps.length c2 A A2 cl ps w' (hs.ext hx) (hs2.ext hx) hn hn2 hw hw2)
  obtain ⟨R, hR⟩ : ∃ R, R = hcutV cl ps v h p := ⟨_, rfl⟩
  rw [← hR]
  have HR := Lib.hid hR
  obtain ⟨E, hE⟩ : ∃ E, E = chkH cl ps := ⟨_, rfl⟩
  by_cases he : ¬ E = 0
  · obtain rfl : R = ([], [], [], 0, E) := hR.trans (hcutV_err (by unfold hcutE; rw [if_pos (by rw [← hE]; exact he), hE]) he)
    rw [← hE] at C1
    have heb : (E != 0) = true := by simpa using he
    clear hs hs2 hw hw2 hE hR HR hp hn hn2
    go_enter Tryz.func23, Tryz.ntmps23
    go_wp2_with fail
    (with_reducible refine (C1.out _ zxt).mono ?_)
    rintro e w1 ⟨rfl, hx1⟩
    have c1_0f : w1.frozen? ⟨w.heap.size + 1, 0, none⟩ = false := hx1.froz (v := .slice none 0 0) zcv zcv
    have c1_1f : w1.frozen? ⟨w.heap.size + 1, 1, none⟩ = false := hx1.froz (v := .slice none 0 0) zcv zcv
    have c1_0 : w1.cell? ⟨w.heap.size + 1, 0, none⟩ = some (.slice none 0 0) := hx1.has zcv
    have c1_1 : w1.cell? ⟨w.heap.size + 1, 1, none⟩ = some (.slice none 0 0) := hx1.has zcv
    have z1 := hx1.size
    try simp at z1
    have zq := zrc (show w.heap.size + 1 < w1.heap.size from by omega)
    obtain ⟨rc1, rc1a, rc1b, rc1c, rc1n⟩ := zq
    have X1 : Hid (Ext w w1) := Lib.hid (Ext.trans zxt hx1)
    clear hx1
    go_wp2_with fail
    refine bodyPost_ret (v := .tuple #[.agg #[.slice none 0 0, .slice none 0 0], .slice none 0 0, .int .u64 0, .int .i64 E]) (by simp [results, Tryz.results23, go_sem, World.cell?_alloc_past, *]; try rfl) rfl (RetK.nil ?_)
    exact zxt
  replace he : E = 0 := by omega
  have hk := (chkH_iff cl ps).1 (hE.symm.trans he)
  have C2 := Lib.hid (fun w => hvalidator_any v w)
  obtain ⟨VB, hVB⟩ : ∃ B, B = decide (0 ≤ v ∧ v < 32) := ⟨_, rfl⟩
  rw [← hVB] at C2
  have C3 := Lib.hid (fun w => hheight_any h w)
  obtain ⟨HB, hHB⟩ : ∃ B, B = decide (1 ≤ h ∧ h ≤ 4294967296) := ⟨_, rfl⟩
  rw [← hHB] at C3
  have C4 := Lib.hid (fun (w' : World) (hx : Ext w w') => hcopied_any c c2 A A2 cl ps w' (hs.ext hx) (hs2.ext hx) hn hn2 hA hA2)
  have HX := Lib.hid (show (VB = false → hcutE cl ps v h p = 3) ∧ (VB = true → HB = false → hcutE cl ps v h p = 3) ∧ (VB = true → HB = true → 1000000000 < p → hcutE cl ps v h p = 3) ∧ (VB = true → HB = true → ¬ 1000000000 < p → hcutE cl ps v h p = 0) from by
    have hVt : VB = true → ¬ (v < 0 ∨ 32 ≤ v) := fun hh => by have := of_decide_eq_true (hVB.symm.trans hh); omega
    have hVf : VB = false → (v < 0 ∨ 32 ≤ v) := fun hh => by have := of_decide_eq_false (hVB.symm.trans hh); omega
    have hHt : HB = true → ¬ (h < 1 ∨ 4294967296 < h) := fun hh => by have := of_decide_eq_true (hHB.symm.trans hh); omega
    have hHf : HB = false → (h < 1 ∨ 4294967296 < h) := fun hh => by have := of_decide_eq_false (hHB.symm.trans hh); omega
    unfold hcutE
    rw [if_neg (by rw [← hE]; simpa using he)]
    refine ⟨fun h1 => ?_, fun h1 h2 => ?_, fun h1 h2 h3 => ?_, fun h1 h2 h3 => ?_⟩
    · rw [if_pos (.inl (hVf h1))]
    · rw [if_pos (.inr (.inl (hHf h2)))]
    · rw [if_pos (.inr (.inr h3))]
    · rw [if_neg (fun hh => by rcases hh with hh | hh | hh; exact hVt h1 hh; exact hHt h2 hh; exact h3 hh)])
  have eg : ∀ args w, (callFunc 77 args).run Tryz.prog w = .ok (.enter 77 args) w := enters_of Tryz.func77 (by kernel_rfl) rfl
  have HS := Lib.hid hs.low
  have HK := Lib.hid (And.intro hk (And.intro hw (And.intro hp.1 hp.2)))
  have hlen := hk.len
  have hsm := hs.small
  rw [← hE] at C1
  subst he
  clear hs hs2 hw hw2 hE hR hp hk hVB hHB hA hA2
  go_enter Tryz.func23, Tryz.ntmps23
  go_wp2_with fail
  (with_reducible refine (C1.out _ zxt).mono ?_)
  rintro e w1 ⟨rfl, hx1⟩
  have c0_0 : w1.cell? ⟨w.heap.size, 0, none⟩ = some (.slice A cl.length c) := hx1.has zcv
  have c0_1 : w1.cell? ⟨w.heap.size, 1, none⟩ = some (.slice A2 ps.length c2) := hx1.has zcv
  have c1_0f : w1.frozen? ⟨w.heap.size + 1, 0, none⟩ = false := hx1.froz (v := .slice none 0 0) zcv zcv
  have c1_1f : w1.frozen? ⟨w.heap.size + 1, 1, none⟩ = false := hx1.froz (v := .slice none 0 0) zcv zcv
  have c1_0 : w1.cell? ⟨w.heap.size + 1, 0, none⟩ = some (.slice none 0 0) := hx1.has zcv
  have c1_1 : w1.cell? ⟨w.heap.size + 1, 1, none⟩ = some (.slice none 0 0) := hx1.has zcv
  have z1 := hx1.size
  try simp at z1
  have lt_c0_c1 : w.heap.size < w.heap.size + 1 := by omega
  have ne_c0_c1 : ¬ w.heap.size = w.heap.size + 1 := by omega
  have ne_c1_c0 : ¬ w.heap.size + 1 = w.heap.size := by omega
  have zq := zrc (show w.heap.size < w1.heap.size from by omega)
  obtain ⟨rc0, rc0a, rc0b, rc0c, rc0n⟩ := zq
  have zq := zrc (show w.heap.size + 1 < w1.heap.size from by omega)
  obtain ⟨rc1, rc1a, rc1b, rc1c, rc1n⟩ := zq
  replace HS := Lib.hid (HS.out.ext (Ext.trans zxt hx1))
  have X1 : Hid (Ext w w1) := Lib.hid (Ext.trans zxt hx1)
  clear hx1
  rcases (show VB = false ∨ VB = true from by cases VB <;> simp) with rfl | rfl
  · obtain rfl : R = ([], [], [], 0, 3) := HR.out.trans (hcutV_err (HX.out.1 (by trivial)) (by decide))
    go_wp2_with fail
    (with_reducible refine (C2.out _).mono ?_)
    rintro e w_1 ⟨rfl, rfl⟩
    go_wp2_with fail
    refine bodyPost_ret (v := .tuple #[.agg #[.slice none 0 0, .slice none 0 0], .slice none 0 0, .int .u64 0, .int .i64 3]) (by simp [results, Tryz.results23, go_sem, World.cell?_alloc_past, *]; try rfl) rfl (RetK.nil ?_)
    exact zxt
  · rcases (show HB = false ∨ HB = true from by cases HB <;> simp) with rfl | rfl
    · obtain rfl : R = ([], [], [], 0, 3) := HR.out.trans (hcutV_err (HX.out.2.1 (by trivial) (by trivial)) (by decide))
      go_wp2_with fail
      (with_reducible refine (C2.out _).mono ?_)
      rintro e w_1 ⟨rfl, rfl⟩
      go_wp2_with fail
      (with_reducible refine (C3.out _).mono ?_)
      rintro e w_2 ⟨rfl, rfl⟩
      go_wp2_with fail
      refine bodyPost_ret (v := .tuple #[.agg #[.slice none 0 0, .slice none 0 0], .slice none 0 0, .int .u64 0, .int .i64 3]) (by simp [results, Tryz.results23, go_sem, World.cell?_alloc_past, *]; try rfl) rfl (RetK.nil ?_)
      exact zxt
    · go_wp2_with fail
      (with_reducible refine (C2.out _).mono ?_)
      rintro e w_1 ⟨rfl, rfl⟩
      go_wp2_with fail
      (with_reducible refine (C3.out _).mono ?_)
      rintro e w_2 ⟨rfl, rfl⟩
      by_cases q3 : 1000000000 < p
      · have q3d : decide (1000000000 < p) = true := decide_eq_true q3
        obtain rfl : R = ([], [], [], 0, 3) := HR.out.trans (hcutV_err (HX.out.2.2.1 (by trivial) (by trivial) q3) (by decide))
        go_wp2_with fail
        refine bodyPost_ret (v := .tuple #[.agg #[.slice none 0 0, .slice none 0 0], .slice none 0 0, .int .u64 0, .int .i64 3]) (by simp [results, Tryz.results23, go_sem, World.cell?_alloc_past, *]; try rfl) rfl (RetK.nil ?_)
        exact zxt
      · have q3d : decide (1000000000 < p) = false := decide_eq_false q3
        have HX0 := Lib.hid (HX.out.2.2.2 (by trivial) (by trivial) (by first | exact q3 | omega))
        have p1 : p ≤ 1000000000 := by omega
        clear q3
        go_wp2_with fail
        (with_reducible refine (C4.out _ zxt).mono ?_)
        rintro e w2 ⟨v0, rfl, B, d, B2, d2, rfl, hB, hB2, hO, hP, hx2⟩
        replace c0_0 : w2.cell? ⟨w.heap.size, 0, none⟩ = some (.slice A cl.length c) := hx2.has zcv
        replace c1_0f : w2.frozen? ⟨w.heap.size + 1, 0, none⟩ = false := hx2.froz (v := .slice none 0 0) zcv zcv
        replace c1_1f : w2.frozen? ⟨w.heap.size + 1, 1, none⟩ = false := hx2.froz (v := .slice none 0 0) zcv zcv
        replace c1_0 : w2.cell? ⟨w.heap.size + 1, 0, none⟩ = some (.slice none 0 0) := hx2.has zcv
        replace c1_1 : w2.cell? ⟨w.heap.size + 1, 1, none⟩ = some (.slice none 0 0) := hx2.has zcv
        have z2 := hx2.size
        try simp at z2
        have zq := zrc (show w.heap.size < w2.heap.size from by omega)
        clear rc0 rc0a rc0b rc0c rc0n
        obtain ⟨rc0, rc0a, rc0b, rc0c, rc0n⟩ := zq
        have zq := zrc (show w.heap.size + 1 < w2.heap.size from by omega)
        clear rc1 rc1a rc1b rc1c rc1n
        obtain ⟨rc1, rc1a, rc1b, rc1c, rc1n⟩ := zq
        replace HS := Lib.hid (HS.out.ext (Ext.trans zxt hx2))
        have X2 : Hid (Ext w w2) := Lib.hid (Ext.trans zxt hx2)
        have HO := Lib.hid (show OwnCls _ (w.heap.size + 2) _ _ _ from own_lower hO zSlBas4_0)
        have HP := Lib.hid (show OwnPos _ (w.heap.size + 2) _ _ _ from own_lower hP zSlBas4_0)
        clear c0_1 X1 hx2
        have HQ := Lib.hid (And.intro (own_rng HO.out) (own_rng HP.out))
        clear hO hP hB hB2
        go_wp2_with fail
        have hQw : w.heap.size + 2 ≤ w2.heap.size := by omega
        have hQ1 := HQ.out.1
        have hQ2 := HQ.out.2
        go_loopg [14, 15, 45] cl.length (fun gh s14 s15 i wx => gh ≤ cl.length ∧ i = .int .i64 ((cl.length - gh : Nat) : Int) ∧ ∃ (B3 B4 A7 : Option Addr) (d3 d4 c7 : Nat) (CL PS : List (Int × Int × Int × Int × Int × Int)) (LS : List (Int × Int × Int × Int × Int)) (N : Int), s14 = .slice A7 LS.length c7 ∧ s15 = .int .u64 N ∧ Hid (CutI cl ps v h p (cl.length - gh) CL PS LS N) ∧ Hid (Bk wx w2.heap.size (.slice B3 (List.length (α := (Int × Int × Int × Int × Int × Int)) CL) d3) (.slice B4 (List.length (α := (Int × Int × Int × Int × Int × Int)) PS) d4)) ∧ Hid (Bk wx (w.heap.size + 1) (.slice none 0 0) (.slice none 0 0)) ∧ Hid (OwnCls wx (w.heap.size + 2) (.slice B3 CL.length d3) CL.length CL) ∧ Hid (OwnPos wx (w.heap.size + 2) (.slice B4 PS.length d4) PS.length PS) ∧ Hid (OwnLoss wx (w.heap.size + 2) (.slice A7 LS.length c7) LS.length LS) ∧ Hid (∀ j, (Value.slice B3 CL.length d3).ownBlock = some j → ¬ j = w2.heap.size) ∧ Hid (∀ j, (Value.slice B4 PS.length d4).ownBlock = some j → ¬ j = w2.heap.size) ∧ Hid (∀ j, (Value.slice A7 LS.length c7).ownBlock = some j → ¬ j = w2.heap.size) ∧ Hid (SlB w.heap.size wx 6 A cl.length c (cl.flatMap clsC)) ∧ w2.heap.size < wx.heap.size ∧ Hid (Ext w wx))
        case atStart => exact ⟨Nat.le_refl _, by simp, B, B2, none, d, d2, 0, cl, ps, [], 0, rfl, rfl, by rw [Nat.sub_self]; exact Lib.hid (CutI.start ..), Lib.hid ⟨by simp [go_sem, World.cell?_alloc_past, *], by simp [go_sem, World.cell?_alloc_past, *], by simp [go_sem, World.cell?_alloc_past, *], by simp [go_sem, World.cell?_alloc_past, *]⟩, Lib.hid ⟨by simp [go_sem, World.cell?_alloc_past, *], by simp [go_sem, World.cell?_alloc_past, *], by simp [go_sem, World.cell?_alloc_past, *], by simp [go_sem, World.cell?_alloc_past, *]⟩, Lib.hid (HO.out.ext zxt), Lib.hid (HP.out.ext zxt), Lib.hid (OwnLoss.nil _ _), Lib.hid (fun j hj hh => by have := (hQ1 j hj).2; omega), Lib.hid (fun j hj hh => by have := (hQ2 j hj).2; omega), Lib.hid (fun j hj => by cases hj), Lib.hid (HS.out.ext zxt), by first | omega | (simp; done) | (simp; omega), Lib.hid zxt⟩
        case round =>
          clear HQ hQ1 hQ2 HO HP HS
          obtain ⟨hg, hi, B3, B4, A7, d3, d4, c7, CL, PS, LS, N, rfl, rfl, HI, BQ, BR, HO, HP, HL, NC, NP, NL, HS, hQr, XR⟩ := hrel
          obtain ⟨k, hkk⟩ : ∃ k, k = cl.length - gk := ⟨_, rfl⟩
          rw [← hkk] at hi HI
          subst hi
          by_cases hz : gk = 0
          · have hkn : ¬ (k : Int) < (cl.length : Int) := by omega
            obtain ⟨e1, e2, e3, e4⟩ := HI.out.done HK.out.1 (by omega)
            obtain rfl : R = (CL, PS, LS, N, 0) := by rw [HR.out, hcutV_ok HX0.out, e1, e2, e3, e4]
            have q_0 := BQ.out.c0
            have q_1 := BQ.out.c1
            have r_0 := BR.out.c0
            have r_1 := BR.out.c1
            have r_0f := BR.out.f0
            have r_1f := BR.out.f1
            clear e1 e2 e3 e4 hkk hg hz HI HR
            go_wp2
            refine bodyPost_ret (v := .tuple #[.agg #[.slice B3 CL.length d3, .slice B4 PS.length d4], .slice A7 LS.length c7, .int .u64 N, .int .i64 0]) (by simp [results, Tryz.results23, go_sem, World.cell?_alloc_past, r_0, r_1, r_0f, r_1f]; try rfl) rfl (RetK.mk (b := w.heap.size + 2) (by omega) (show World.ownsRow _ (w.heap.size + 2) _ _ _ _ _ from by repeat (first | with_reducible refine own_box ?_ (by omega) | exact HO.out)) (show World.ownsRow _ (w.heap.size + 2) _ _ _ _ _ from by repeat (first | with_reducible refine own_box ?_ (by omega) | exact HP.out)) (show World.ownsRow _ (w.heap.size + 2) _ _ _ _ _ from by repeat (first | with_reducible refine own_box ?_ (by omega) | exact HL.out)) (by repeat (first | with_reducible exact XR.out | with_reducible refine Ext.setCell ?_ zSlBas4_0 _)))
          · have hkn : (k : Int) < (cl.length : Int) := by omega
            have hkl : k < cl.length := by omega
            obtain ⟨b1, o1, rfl, hb1, hc_x⟩ := HS.out.sl.rec_ clsC_len (show 0 < cl.length from by omega)
            obtain ⟨xw, hl_x⟩ : ∃ x, cl[k]? = some x := ⟨_, List.getElem?_eq_getElem (by omega)⟩
            have x_0 := hc_x (k) xw hl_x 0 _ rfl
            have x_1 := hc_x (k) xw hl_x 1 _ rfl
            have x_2 := hc_x (k) xw hl_x 2 _ rfl
            have x_3 := hc_x (k) xw hl_x 3 _ rfl
            have x_4 := hc_x (k) xw hl_x 4 _ rfl
            have x_5 := hc_x (k) xw hl_x 5 _ rfl
            obtain ⟨xv, xs, xp, xf, xt, xh⟩ := xw
            simp only at x_0 x_1 x_2 x_3 x_4 x_5
            rw [Nat.add_zero] at x_0
            rw [← Nat.add_assoc] at x_1 x_2 x_3 x_4 x_5
            have HC := Lib.hid hl_x
            have hsum := HI.out.sum HK.out.1 HK.out.2.1 HK.out.2.2.1 p1 hl_x
            have hgood := good_pool (HK.out.1.cls _ (List.mem_of_getElem? hl_x)) (HK.out.2.1 _ (List.mem_of_getElem? hl_x))
            have CT := Lib.hid (fun w => tBacked_any xv xs xp xf v h 0 w)
            obtain ⟨BB, hBB⟩ : ∃ B, B = bkdB xv xs xp xf v h 0 := ⟨_, rfl⟩
            rw [← hBB] at CT
            have CU := Lib.hid (fun w => SCut_any xt xh p hgood.wt hgood.ws HK.out.2.2 w)
            obtain ⟨cT, hcT⟩ : ∃ z, z = cutT xt xh p := ⟨_, rfl⟩
            obtain ⟨cS, hcS⟩ : ∃ z, z = cutS xt xh p := ⟨_, rfl⟩
            obtain ⟨cN, hcN⟩ : ∃ z, z = cutN xt xh p := ⟨_, rfl⟩
            obtain ⟨cE, hcE⟩ : ∃ z, z = cutE xt xh p := ⟨_, rfl⟩
            have HU := Lib.hid (And.intro hBB (And.intro hcT (And.intro hcS hcN)))
            rw [← hcT, ← hcS, ← hcN, ← hcE] at CU
            have hnw : IntKind.u64.wrap (N + cN) = N + cN := by rw [hcN]; exact IntWalk.u64_in _ (by omega)
            have hCL := HI.out.clen
            have hPL := HI.out.plen
            have hLL := HI.out.llen
            have HKK := Lib.hid (And.intro hkk (And.intro hg hz))
            have hbw := HS.out.2 (by omega) b1 o1 none rfl
            have hb1s : ¬ b1 = wr.heap.size := by omega
            have q_0 := BQ.out.c0
            have q_1 := BQ.out.c1
            have q_0f := BQ.out.f0
            have q_1f := BQ.out.f1
            have r_0 := BR.out.c0
            have r_1 := BR.out.c1
            have r_0f := BR.out.f0
            have r_1f := BR.out.f1
            have hqr := cell_lt q_0
            have hqn : ¬ w2.heap.size = wr.heap.size := by omega
            have hrr := cell_lt r_0
            have hrn : ¬ w.heap.size + 1 = wr.heap.size := by omega
            have HPO := Lib.hid (own_rng HP.out)
            have HCO := Lib.hid (own_rng HO.out)
            clear hl_x hc_x hsum hgood hBB hcT hcS hcN hcE hkk hg hz hkl BQ BR
            go_wp2_with fail
            (with_reducible refine (CT.out _).mono ?_)
            rintro e w11 ⟨rfl, hx11⟩
            replace q_0f : w11.frozen? ⟨w2.heap.size, 0, none⟩ = false := hx11.froz (v := .slice B3 CL.length d3) zcv zcv
            replace q_1f : w11.frozen? ⟨w2.heap.size, 1, none⟩ = false := hx11.froz (v := .slice B4 PS.length d4) zcv zcv
            replace q_0 : w11.cell? ⟨w2.heap.size, 0, none⟩ = some (.slice B3 CL.length d3) := hx11.has zcv
            replace q_1 : w11.cell? ⟨w2.heap.size, 1, none⟩ = some (.slice B4 PS.length d4) := hx11.has zcv
            replace r_0f : w11.frozen? ⟨w.heap.size + 1, 0, none⟩ = false := hx11.froz (v := .slice none 0 0) zcv zcv
            replace r_1f : w11.frozen? ⟨w.heap.size + 1, 1, none⟩ = false := hx11.froz (v := .slice none 0 0) zcv zcv
            replace r_0 : w11.cell? ⟨w.heap.size + 1, 0, none⟩ = some (.slice none 0 0) := hx11.has zcv
            replace r_1 : w11.cell? ⟨w.heap.size + 1, 1, none⟩ = some (.slice none 0 0) := hx11.has zcv
            have c0_0 : w11.cell? ⟨wr.heap.size, 0, none⟩ = some (.int .i64 xv) := hx11.has zcv
            have c0_1 : w11.cell? ⟨wr.heap.size, 1, none⟩ = some (.int .i64 xs) := hx11.has zcv
            have c0_2 : w11.cell? ⟨wr.heap.size, 2, none⟩ = some (.int .i64 xp) := hx11.has zcv
            have c0_3 : w11.cell? ⟨wr.heap.size, 3, none⟩ = some (.int .i64 xf) := hx11.has zcv
            have c0_4 : w11.cell? ⟨wr.heap.size, 4, none⟩ = some (.int .u64 xt) := hx11.has zcv
            have c0_5 : w11.cell? ⟨wr.heap.size, 5, none⟩ = some (.int .u64 xh) := hx11.has zcv
            have z11 := hx11.size
            try simp at z11
            have lt_q_c0 : w2.heap.size < wr.heap.size := by omega
            have ne_q_c0 : ¬ w2.heap.size = wr.heap.size := by omega
            have lt_r_c0 : w.heap.size + 1 < wr.heap.size := by omega
            have ne_r_c0 : ¬ w.heap.size + 1 = wr.heap.size := by omega
            have ne_c0_q : ¬ wr.heap.size = w2.heap.size := by omega
            have ne_c0_r : ¬ wr.heap.size = w.heap.size + 1 := by omega
            have zq := zrc (show w2.heap.size < w11.heap.size from by omega)
            obtain ⟨rq, rqa, rqb, rqc, rqn⟩ := zq
            have zq := zrc (show w.heap.size + 1 < w11.heap.size from by omega)
            obtain ⟨rr, rra, rrb, rrc, rrn⟩ := zq
            have zq := zrc (show wr.heap.size < w11.heap.size from by omega)
            obtain ⟨rc0, rc0a, rc0b, rc0c, rc0n⟩ := zq
            replace HO := Lib.hid (HO.out.ext (Ext.trans zxt hx11))
            replace HP := Lib.hid (HP.out.ext (Ext.trans zxt hx11))
            replace HL := Lib.hid (HL.out.ext (Ext.trans zxt hx11))
            replace HS := Lib.hid (HS.out.ext (Ext.trans zxt hx11))
            have X11 : Hid (Ext w w11) := Lib.hid (Ext.trans zxt hx11)
            clear x_3 x_5 x_4 x_2 x_1 x_0 XR hx11
            rcases (show BB = false ∨ BB = true from by cases BB <;> simp) with rfl | rfl
            · have HN := Lib.hid (HI.out.skip HC.out (by first | exact HU.out.1.symm | exact HU.out.1))
              go_wp2_with fail
              go_roundg (gk - 1)
              case measure => have := HKK.out; omega
              case rel => exact ⟨by have := HKK.out; omega, num_eq (by have := HKK.out; omega), B3, B4, A7, d3, d4, c7, CL, PS, LS, N, rfl, rfl, by rw [show cl.length - (gk - 1) = k + 1 from by have := HKK.out; omega]; exact HN, Lib.hid ⟨by first | exact q_0 | (simp [go_sem, World.cell?_alloc_past, *]; done), by first | exact q_0f | (simp [go_sem, World.cell?_alloc_past, *]; done), by first | exact q_1 | (simp [go_sem, World.cell?_alloc_past, *]; done), by first | exact q_1f | (simp [go_sem, World.cell?_alloc_past, *]; done)⟩, Lib.hid ⟨by first | exact r_0 | (simp [go_sem, World.cell?_alloc_past, *]; done), by first | exact r_0f | (simp [go_sem, World.cell?_alloc_past, *]; done), by first | exact r_1 | (simp [go_sem, World.cell?_alloc_past, *]; done), by first | exact r_1f | (simp [go_sem, World.cell?_alloc_past, *]; done)⟩, Lib.hid (HO.out.ext zxt), Lib.hid (HP.out.ext zxt), Lib.hid (HL.out.ext zxt), NC, NP, NL, Lib.hid (HS.out.ext zxt), by first | omega | (simp; done) | (simp; omega), Lib.hid zxt⟩
            · have HCC := Lib.hid (HI.out.cut HK.out.1.sc HC.out (by first | exact HU.out.1.symm | exact HU.out.1))
              go_wp2_with fail
              (with_reducible refine (CU.out _).mono ?_)
              rintro e w12 ⟨rfl, hx12⟩
              replace q_0f : w12.frozen? ⟨w2.heap.size, 0, none⟩ = false := hx12.froz (v := .slice B3 CL.length d3) zcv zcv
              replace q_1f : w12.frozen? ⟨w2.heap.size, 1, none⟩ = false := hx12.froz (v := .slice B4 PS.length d4) zcv zcv
              replace q_0 : w12.cell? ⟨w2.heap.size, 0, none⟩ = some (.slice B3 CL.length d3) := hx12.has zcv
              replace q_1 : w12.cell? ⟨w2.heap.size, 1, none⟩ = some (.slice B4 PS.length d4) := hx12.has zcv
              replace r_0f : w12.frozen? ⟨w.heap.size + 1, 0, none⟩ = false := hx12.froz (v := .slice none 0 0) zcv zcv
              replace r_1f : w12.frozen? ⟨w.heap.size + 1, 1, none⟩ = false := hx12.froz (v := .slice none 0 0) zcv zcv
              replace r_0 : w12.cell? ⟨w.heap.size + 1, 0, none⟩ = some (.slice none 0 0) := hx12.has zcv
              replace r_1 : w12.cell? ⟨w.heap.size + 1, 1, none⟩ = some (.slice none 0 0) := hx12.has zcv
              replace c0_0 : w12.cell? ⟨wr.heap.size, 0, none⟩ = some (.int .i64 xv) := hx12.has zcv
              replace c0_1 : w12.cell? ⟨wr.heap.size, 1, none⟩ = some (.int .i64 xs) := hx12.has zcv
              replace c0_2 : w12.cell? ⟨wr.heap.size, 2, none⟩ = some (.int .i64 xp) := hx12.has zcv
              replace c0_3 : w12.cell? ⟨wr.heap.size, 3, none⟩ = some (.int .i64 xf) := hx12.has zcv
              replace c0_4 : w12.cell? ⟨wr.heap.size, 4, none⟩ = some (.int .u64 xt) := hx12.has zcv
              replace c0_5 : w12.cell? ⟨wr.heap.size, 5, none⟩ = some (.int .u64 xh) := hx12.has zcv
              have z12 := hx12.size
              try simp at z12
              have zq := zrc (show w2.heap.size < w12.heap.size from by omega)
              clear rq rqa rqb rqc rqn
              obtain ⟨rq, rqa, rqb, rqc, rqn⟩ := zq
              have zq := zrc (show w.heap.size + 1 < w12.heap.size from by omega)
              clear rr rra rrb rrc rrn
              obtain ⟨rr, rra, rrb, rrc, rrn⟩ := zq
              have zq := zrc (show wr.heap.size < w12.heap.size from by omega)
              clear rc0 rc0a rc0b rc0c rc0n
              obtain ⟨rc0, rc0a, rc0b, rc0c, rc0n⟩ := zq
              replace HO := Lib.hid (HO.out.ext (Ext.trans zxt hx12))
              replace HP := Lib.hid (HP.out.ext (Ext.trans zxt hx12))
              replace HL := Lib.hid (HL.out.ext (Ext.trans zxt hx12))
              replace HS := Lib.hid (HS.out.ext (Ext.trans zxt hx12))
              have X12 : Hid (Ext w w12) := Lib.hid (Ext.trans zxt hx12)
              clear X11 hx12
              go_wp2_with fail
              generalize hw6 : w12.alloc (.cells #[.int .u64 cT, .int .u64 cS] 61) = w6
              have hx6 : Ext w12 w6 := by rw [← hw6]; exact (Ext.refl _).alloc _
              have p_0 : w6.cell? ⟨w12.heap.size, 0, none⟩ = some (.int .u64 cT) := by rw [← hw6]; simp [go_sem, World.cell?_alloc_past]
              have p_1 : w6.cell? ⟨w12.heap.size, 1, none⟩ = some (.int .u64 cS) := by rw [← hw6]; simp [go_sem, World.cell?_alloc_past]
              clear hw6
              have hz6 := Ext.size hx6
              replace c0_0 := hx6.has c0_0
              replace c0_1 := hx6.has c0_1
              replace c0_2 := hx6.has c0_2
              replace c0_3 := hx6.has c0_3
              replace c0_4 := hx6.has c0_4
              replace c0_5 := hx6.has c0_5
              replace q_0f := hx6.froz q_0 q_0f
              replace q_0 := hx6.has q_0
              replace q_1f := hx6.froz q_1 q_1f
              replace q_1 := hx6.has q_1
              replace r_0f := hx6.froz r_0 r_0f
              replace r_0 := hx6.has r_0
              replace r_1f := hx6.froz r_1 r_1f
              replace r_1 := hx6.has r_1
              replace HO := Lib.hid (OwnCls.ext HO.out hx6)
              replace HP := Lib.hid (OwnPos.ext HP.out hx6)
              replace HL := Lib.hid (OwnLoss.ext HL.out hx6)
              replace HS := Lib.hid (SlB.ext HS.out hx6)
              have XK := Lib.hid (Ext.trans X12.out hx6)
              have hpw := cell_lt p_0
              clear hx6 X12
              have np := own_apart HP.out HO.out (fun e => cls_pos e.symm)
              have nl := own_apart HL.out HO.out loss_cls
              have nb : ∀ j, (j < w.heap.size + 2 ∨ j = wr.heap.size ∨ j = w12.heap.size) → ¬ (j = w2.heap.size ∨ (Value.slice B3 CL.length d3).ownBlock = some j) := fun j hj hh => by rcases hh with hh | hh; (rcases hj with hj | hj | hj <;> omega); have := HCO.out j hh; (rcases hj with hj | hj | hj <;> omega)
              (with_reducible refine (hbpools_any (w.heap.size + 2) (w2.heap.size) CL.length d3 B3 (.slice B4 PS.length d4) CL xv xs xp xf cT cS w6 ⟨q_0, q_0f, q_1, q_1f⟩ HO.out (by omega) (HI.out.sort HK.out.1.sc) NC.out (by omega)).mono ?_)
              rintro e v7 ⟨rfl, u3, hB3, ho3, hk3, hx7⟩
              obtain ⟨CL2, hCL2⟩ : ∃ l, l = setK kC CL [xv, xs, xp, xf] (optC xv xs xp xf cT cS) := ⟨_, rfl⟩
              rw [← hCL2] at ho3
              obtain ⟨B5, d5, rfl, _, _⟩ := own_parts2 ho3
              have hz7 := hx7.size
              replace c0_0 := hx7.has (nb _ (by omega)) c0_0
              replace c0_1 := hx7.has (nb _ (by omega)) c0_1
              replace c0_2 := hx7.has (nb _ (by omega)) c0_2
              replace c0_3 := hx7.has (nb _ (by omega)) c0_3
              replace c0_4 := hx7.has (nb _ (by omega)) c0_4
              replace c0_5 := hx7.has (nb _ (by omega)) c0_5
              replace r_0f := hx7.froz (nb _ (by omega)) r_0 r_0f
              replace r_0 := hx7.has (nb _ (by omega)) r_0
              replace p_0 := hx7.has (nb _ (by omega)) p_0
              replace r_1f := hx7.froz (nb _ (by omega)) r_1 r_1f
              replace r_1 := hx7.has (nb _ (by omega)) r_1
              replace p_1 := hx7.has (nb _ (by omega)) p_1
              replace HP : Hid (OwnPos v7 (w.heap.size + 2) _ _ _) := Lib.hid (own_but_set HP.out hx7 NP.out np)
              replace HL : Hid (OwnLoss v7 (w.heap.size + 2) _ _ _) := Lib.hid (own_but_set HL.out hx7 NL.out nl)
              have hxe := ext_but XK.out hx7 (fun j hj => by rcases hj with hj | hj; omega; have := HCO.out j hj; omega)
              replace HS : Hid (SlB w.heap.size v7 6 (some ⟨b1, o1, none⟩) cl.length c (cl.flatMap clsC)) := Lib.hid (SlB.but HS.out hx7 (fun j hj => by rcases hj with hj | hj; omega; have := HCO.out j hj; omega))
              have XV := Lib.hid hxe
              have NC2 := Lib.hid (show ∀ j, (Value.slice B5 CL2.length d5).ownBlock = some j → ¬ j = w2.heap.size from fun j hj => by rcases hk3 j hj with hh | hh; exact NC.out j hh; omega)
              replace HO : Hid (OwnCls v7 (w.heap.size + 2) (.slice B5 CL2.length d5) CL2.length CL2) := Lib.hid ho3
              replace q_0 := hB3.c0
              replace q_0f := hB3.f0
              replace q_1 := hB3.c1
              replace q_1f := hB3.f1
              clear ho3 hk3 hx7 hB3 hxe nb np nl XK NC HCO
              by_cases hzz : cT = 0 ∧ cS = 0
              · have hqr7 := cell_lt q_0
                have hrr7 := cell_lt r_0
                have hkr7 := cell_lt c0_0
                have hpr7 := cell_lt p_0
                have pq1 := pol_eq
                have pq2 := pol_eqg
                obtain ⟨hzt, hzs⟩ := hzz
                have hzb := two_true (a := cT) (b := cS) (a' := 0) (b' := 0) ⟨hzt, hzs⟩
                have HN1 := Lib.hid (HCC.out.1 ⟨HU.out.2.1.symm.trans hzt, HU.out.2.2.1.symm.trans hzs⟩)
                clear hzt hzs
                rw [← HU.out.2.1, ← HU.out.2.2.1, ← HU.out.2.2.2, ← hCL2] at HN1
                obtain ⟨PS2, hPS2⟩ : ∃ l, l = PS.filter (fun x => !decide (stP x = [xv, xs, xp, xf])) := ⟨_, rfl⟩
                rw [← hPS2] at HN1
                have HP2 := Lib.hid hPS2
                have hPL2 : PS2.length ≤ PS.length := by rw [hPS2]; exact List.length_filter_le ..
                clear hPS2
                have hap := NL.out
                go_wp2_with fail
                (with_reducible refine (hDelF_ps 77 #[] #[.pointer (some ⟨wr.heap.size, 0, none⟩)] (fun x => decide (stP x = [xv, xs, xp, xf])) (w.heap.size + 2) PS.length (.slice B4 PS.length d4) PS PS2 _ eg (HP.out.ext zxt) rfl (by omega) HP2.out (fun wx x hx hX => hCut1_call wr.heap.size x xv xs xp xf wx (hX.has (fun hh => by have h9 := HPO.out _ hh; have h8 := NP.out _ hh; omega) c0_0) (hX.has (fun hh => by have h9 := HPO.out _ hh; have h8 := NP.out _ hh; omega) c0_1) (hX.has (fun hh => by have h9 := HPO.out _ hh; have h8 := NP.out _ hh; omega) c0_2) (hX.has (fun hh => by have h9 := HPO.out _ hh; have h8 := NP.out _ hh; omega) c0_3))).mono ?_)
                rintro e w61 ⟨B6, d6, rfl, ho6, hn6, hx61⟩
                have hsz61 := hx61.size
                try simp at hsz61
                replace q_0f : w61.frozen? ⟨w2.heap.size, 0, none⟩ = false := hx61.froz (fun hh => by have h9 := HPO.out _ hh; have h8 := NP.out _ hh; omega) (v := .slice B5 CL2.length d5) zcv zcv
                replace q_1f : w61.frozen? ⟨w2.heap.size, 1, none⟩ = false := hx61.froz (fun hh => by have h9 := HPO.out _ hh; have h8 := NP.out _ hh; omega) (v := .slice B4 PS.length d4) zcv zcv
                replace q_0 : w61.cell? ⟨w2.heap.size, 0, none⟩ = some (.slice B5 CL2.length d5) := hx61.has (fun hh => by have h9 := HPO.out _ hh; have h8 := NP.out _ hh; omega) zcv
                replace q_1 : w61.cell? ⟨w2.heap.size, 1, none⟩ = some (.slice B4 PS.length d4) := hx61.has (fun hh => by have h9 := HPO.out _ hh; have h8 := NP.out _ hh; omega) zcv
                replace r_0f : w61.frozen? ⟨w.heap.size + 1, 0, none⟩ = false := hx61.froz (fun hh => by have h9 := HPO.out _ hh; have h8 := NP.out _ hh; omega) (v := .slice none 0 0) zcv zcv
                replace r_1f : w61.frozen? ⟨w.heap.size + 1, 1, none⟩ = false := hx61.froz (fun hh => by have h9 := HPO.out _ hh; have h8 := NP.out _ hh; omega) (v := .slice none 0 0) zcv zcv
                replace r_0 : w61.cell? ⟨w.heap.size + 1, 0, none⟩ = some (.slice none 0 0) := hx61.has (fun hh => by have h9 := HPO.out _ hh; have h8 := NP.out _ hh; omega) zcv
                replace r_1 : w61.cell? ⟨w.heap.size + 1, 1, none⟩ = some (.slice none 0 0) := hx61.has (fun hh => by have h9 := HPO.out _ hh; have h8 := NP.out _ hh; omega) zcv
                replace c0_0 : w61.cell? ⟨wr.heap.size, 0, none⟩ = some (.int .i64 xv) := hx61.has (fun hh => by have h9 := HPO.out _ hh; have h8 := NP.out _ hh; omega) zcv
                replace c0_1 : w61.cell? ⟨wr.heap.size, 1, none⟩ = some (.int .i64 xs) := hx61.has (fun hh => by have h9 := HPO.out _ hh; have h8 := NP.out _ hh; omega) zcv
                replace c0_2 : w61.cell? ⟨wr.heap.size, 2, none⟩ = some (.int .i64 xp) := hx61.has (fun hh => by have h9 := HPO.out _ hh; have h8 := NP.out _ hh; omega) zcv
                replace c0_3 : w61.cell? ⟨wr.heap.size, 3, none⟩ = some (.int .i64 xf) := hx61.has (fun hh => by have h9 := HPO.out _ hh; have h8 := NP.out _ hh; omega) zcv
                have z61 := hx61.size
                try simp at z61
                have lt_q_c0 : w2.heap.size < wr.heap.size := by omega
                have ne_q_c0 : ¬ w2.heap.size = wr.heap.size := by omega
                have lt_r_c0 : w.heap.size + 1 < wr.heap.size := by omega
                have ne_r_c0 : ¬ w.heap.size + 1 = wr.heap.size := by omega
                have ne_c0_q : ¬ wr.heap.size = w2.heap.size := by omega
                have ne_c0_r : ¬ wr.heap.size = w.heap.size + 1 := by omega
                have zq := zrc (show w2.heap.size < w61.heap.size from by omega)
                obtain ⟨rq, rqa, rqb, rqc, rqn⟩ := zq
                have zq := zrc (show w.heap.size + 1 < w61.heap.size from by omega)
                obtain ⟨rr, rra, rrb, rrc, rrn⟩ := zq
                have zq := zrc (show wr.heap.size < w61.heap.size from by omega)
                obtain ⟨rc0, rc0a, rc0b, rc0c, rc0n⟩ := zq
                have X61 : Hid (Ext w w61) := Lib.hid (have hX := (show Ext w _ from zxt); Below.trans hX (hx61.below (Ext.size hX) (fun k hk hh => by have h9 := HPO.out _ hh; omega)))
                replace HO := Lib.hid ((HO.out.ext zxt).but hx61 (own_apart HO.out HP.out cls_pos))
                replace HL := Lib.hid ((HL.out.ext zxt).but hx61 (own_apart HL.out HP.out loss_pos))
                replace HS := Lib.hid ((HS.out.ext zxt).but hx61 (fun k hk => by have h9 := HPO.out _ hk; omega))
                clear HP
                have HP := Lib.hid (show OwnPos _ (w.heap.size + 2) _ _ _ from ho6)
                clear c0_4 c0_5 p_1 p_0 hsz61 XV hx61
                have NP2 := Lib.hid (show ∀ j, (Value.slice B6 PS2.length d6).ownBlock = some j → ¬ j = w2.heap.size from fun j hj => by rcases hn6 j hj with hh | hh; exact NP.out j hh; (try simp at hh); omega)
                clear ho6 hn6
                have hap0 := hap
                go_wp2_with (
                  at_builtin
                  generalize hw8 : w61.setCell ⟨w2.heap.size, 1, none⟩ (.slice B6 PS2.length d6) = v8
                  have hb8 : But (· = w2.heap.size) w61 v8 := by rw [← hw8]; exact But.setG (But.refl _ _) _
                  have q_1' : v8.cell? ⟨w2.heap.size, 1, none⟩ = some (.slice B6 PS2.length d6) := by rw [← hw8]; simp [go_sem, q_1]
                  have q_0' : v8.cell? ⟨w2.heap.size, 0, none⟩ = some (.slice B5 CL2.length d5) := by rw [← hw8]; simp [go_sem, q_0]
                  have q_1f' : v8.frozen? ⟨w2.heap.size, 1, none⟩ = false := by rw [← hw8]; simp [go_sem, q_1f]
                  have q_0f' : v8.frozen? ⟨w2.heap.size, 0, none⟩ = false := by rw [← hw8]; simp [go_sem, q_0f]
                  replace q_0 := q_0'
                  replace q_1 := q_1'
                  replace q_0f := q_0f'
                  replace q_1f := q_1f'
                  clear q_0' q_1' q_0f' q_1f'
                  replace r_0f := hb8.froz (by show ¬ _ = _; omega) r_0 r_0f
                  replace r_1f := hb8.froz (by show ¬ _ = _; omega) r_1 r_1f
                  replace r_0 := hb8.has (by show ¬ _ = _; omega) r_0
                  replace r_1 := hb8.has (by show ¬ _ = _; omega) r_1
                  replace HO := Lib.hid (OwnCls.but HO.out hb8 NC2.out)
                  replace HP := Lib.hid (OwnPos.but HP.out hb8 NP2.out)
                  replace HL := Lib.hid (OwnLoss.but HL.out hb8 NL.out)
                  replace HS := Lib.hid (SlB.but HS.out hb8 (fun j hj => by have h9 : j = w2.heap.size := hj; omega))
                  have X8 : Hid (Ext w v8) := Lib.hid (Below.trans X61.out (hb8.below (Ext.size X61.out) (fun k hk hh => by have h9 : k = w2.heap.size := hh; omega)))
                  have hz8 := hb8.size
                  have HS8 := Lib.hid (show w61.heap.size = v8.heap.size from by rw [← hw8]; simp)
                  clear hw8 hb8 X61
                  have rq8 : w2.heap.size < v8.heap.size := by omega
                  have rqa8 : w2.heap.size < v8.heap.size + 1 := by omega
                  have rqb8 : w2.heap.size < v8.heap.size + 1 + 1 := by omega
                  have rqc8 : w2.heap.size < v8.heap.size + 1 + 1 + 1 := by omega
                  have rqn8 : ¬ w2.heap.size = v8.heap.size := by omega
                  have rr8 : w.heap.size + 1 < v8.heap.size := by omega
                  have rra8 : w.heap.size + 1 < v8.heap.size + 1 := by omega
                  have rrb8 : w.heap.size + 1 < v8.heap.size + 1 + 1 := by omega
                  have rrc8 : w.heap.size + 1 < v8.heap.size + 1 + 1 + 1 := by omega
                  have rrn8 : ¬ w.heap.size + 1 = v8.heap.size := by omega
                  refine wpList_append_slB _ rfl _ _ 33 rfl (w.heap.size + 2) 73 iLoss (.agg #[.int .i64 0, .int .i64 0, .int .i64 0, .int .i64 0, .int .u64 0]) 5 40 Tryz.underlying33 iLoss_0 iLoss_1 iLoss_2 iLoss_3 rfl (by decide) (.slice A7 LS.length c7) LS.length (LS.flatMap lossC) (by rfl) ((HL.out.ext zxt)) _ 1 _ (#[.int .i64 xv, .int .i64 xs, .int .i64 xp, .int .i64 xf, .int .u64 cN].toList) (by first | rfl | (simp [Act.eval, go_sem]; done) | (simp [Act.eval, go_sem]; exact HS8.out)) (sl_new _ 73 5 #[.int .i64 xv, .int .i64 xs, .int .i64 xp, .int .i64 xf, .int .u64 cN] 1 rfl (by decide)) (by intro u hu; simp at hu; rcases hu with rfl | rfl | rfl | rfl | rfl <;> rfl) (by omega) (by decide) (by (try simp); omega) ?_
                  intro v62 w62 hown62 hx62 hn62
                  refine Hid.out ?_)
                refine Lib.hid ?_
                obtain ⟨A62, c62, rfl, hnil62, hO62⟩ := own_app (f := lossC) (xv, xs, xp, xf, cN) hown62 rfl rfl
                have hap2 : ∀ j, (Value.slice A62 (LS ++ [(xv, xs, xp, xf, cN)]).length c62).ownBlock = some j → ¬ j = w2.heap.size := fun j hj => by rcases hn62 j hj with h9 | h9; exact hap j h9; (try simp at h9); omega
                obtain ⟨L62, hL62⟩ : ∃ l, l = LS ++ [(xv, xs, xp, xf, cN)] := ⟨_, rfl⟩
                rw [← hL62] at hO62 hap2 ⊢
                replace hap := hap2
                clear hap2
                have HL62 := Lib.hid hL62
                have hNL62 : L62.length = LS.length + 1 := by rw [hL62, List.length_append]; rfl
                clear hown62 hn62 hnil62 hL62
                have hsz62 := hx62.size
                try simp at hsz62
                replace q_0f : w62.frozen? ⟨w2.heap.size, 0, none⟩ = false := hx62.froz (fun hh => by have hh2 := own_rng HL.out _ hh; have hh3 := hap0 _ hh; omega) (v := .slice B5 CL2.length d5) zcv zcv
                replace q_1f : w62.frozen? ⟨w2.heap.size, 1, none⟩ = false := hx62.froz (fun hh => by have hh2 := own_rng HL.out _ hh; have hh3 := hap0 _ hh; omega) (v := .slice B6 PS2.length d6) zcv zcv
                replace q_0 : w62.cell? ⟨w2.heap.size, 0, none⟩ = some (.slice B5 CL2.length d5) := hx62.has (fun hh => by have hh2 := own_rng HL.out _ hh; have hh3 := hap0 _ hh; omega) zcv
                replace q_1 : w62.cell? ⟨w2.heap.size, 1, none⟩ = some (.slice B6 PS2.length d6) := hx62.has (fun hh => by have hh2 := own_rng HL.out _ hh; have hh3 := hap0 _ hh; omega) zcv
                replace r_0f : w62.frozen? ⟨w.heap.size + 1, 0, none⟩ = false := hx62.froz (fun hh => by have hh2 := own_rng HL.out _ hh; have hh3 := hap0 _ hh; omega) (v := .slice none 0 0) zcv zcv
                replace r_1f : w62.frozen? ⟨w.heap.size + 1, 1, none⟩ = false := hx62.froz (fun hh => by have hh2 := own_rng HL.out _ hh; have hh3 := hap0 _ hh; omega) (v := .slice none 0 0) zcv zcv
                replace r_0 : w62.cell? ⟨w.heap.size + 1, 0, none⟩ = some (.slice none 0 0) := hx62.has (fun hh => by have hh2 := own_rng HL.out _ hh; have hh3 := hap0 _ hh; omega) zcv
                replace r_1 : w62.cell? ⟨w.heap.size + 1, 1, none⟩ = some (.slice none 0 0) := hx62.has (fun hh => by have hh2 := own_rng HL.out _ hh; have hh3 := hap0 _ hh; omega) zcv
                have z62 := hx62.size
                try simp at z62
                have zq := zrc (show w2.heap.size < w62.heap.size from by omega)
                clear rq rqa rqb rqc rqn
                obtain ⟨rq, rqa, rqb, rqc, rqn⟩ := zq
                have zq := zrc (show w.heap.size + 1 < w62.heap.size from by omega)
                clear rr rra rrb rrc rrn
                obtain ⟨rr, rra, rrb, rrc, rrn⟩ := zq
                have X62 : Hid (Ext w w62) := Lib.hid (have hX := (show Ext w _ from zxt); Below.trans hX (hx62.below (Ext.size hX) (fun k hk hh => by have hh2 := own_rng HL.out _ hh; omega)))
                replace HO := Lib.hid ((HO.out.ext zxt).but hx62 (own_apart HO.out HL.out (fun e => loss_cls e.symm)))
                replace HS := Lib.hid ((HS.out.ext zxt).but hx62 (fun k hk => by have hh2 := own_rng HL.out _ hk; omega))
                replace HP := Lib.hid ((HP.out.ext zxt).but hx62 (own_apart HP.out HL.out (fun e => loss_pos e.symm)))
                clear HL
                have HL := Lib.hid (show OwnLoss _ (w.heap.size + 2) _ _ _ from hO62)
                clear c0_0 c0_2 c0_3 c0_1 rc0 rc0a rc0b rc0c rc0n hsz62 X8 hx62
                clear hap0
                clear hO62
                go_wp2_with fail
                go_roundg (gk - 1)
                case measure => have := HKK.out; omega
                case rel => exact ⟨by have := HKK.out; omega, num_eq (by have := HKK.out; omega), B5, B6, A62, d5, d6, c62, CL2, PS2, L62, (N + cN), rfl, rfl, by rw [show cl.length - (gk - 1) = k + 1 from by have := HKK.out; omega]; exact (by rw [HL62.out]; exact HN1), Lib.hid ⟨by first | exact q_0 | (simp [go_sem, World.cell?_alloc_past, *]; done), by first | exact q_0f | (simp [go_sem, World.cell?_alloc_past, *]; done), by first | exact q_1 | (simp [go_sem, World.cell?_alloc_past, *]; done), by first | exact q_1f | (simp [go_sem, World.cell?_alloc_past, *]; done)⟩, Lib.hid ⟨by first | exact r_0 | (simp [go_sem, World.cell?_alloc_past, *]; done), by first | exact r_0f | (simp [go_sem, World.cell?_alloc_past, *]; done), by first | exact r_1 | (simp [go_sem, World.cell?_alloc_past, *]; done), by first | exact r_1f | (simp [go_sem, World.cell?_alloc_past, *]; done)⟩, Lib.hid (HO.out.ext zxt), Lib.hid (HP.out.ext zxt), Lib.hid (HL.out.ext zxt), NC2, NP2, Lib.hid hap, Lib.hid (HS.out.ext zxt), by first | omega | (simp; done) | (simp; omega), Lib.hid zxt⟩
              · have hqr7 := cell_lt q_0
                have hrr7 := cell_lt r_0
                have hkr7 := cell_lt c0_0
                have hpr7 := cell_lt p_0
                have pq1 := pol_eq
                have pq2 := pol_eqg
                have hzb := two_false hzz
                have HN1 := Lib.hid (HCC.out.2 (by rw [← HU.out.2.1, ← HU.out.2.2.1]; exact hzz))
                clear hzz
                rw [← HU.out.2.1, ← HU.out.2.2.1, ← HU.out.2.2.2, ← hCL2] at HN1
                have hap := NL.out
                have hap0 := hap
                go_wp2_with (at_builtin; refine wpList_append_slB _ rfl _ _ 33 rfl (w.heap.size + 2) 73 iLoss (.agg #[.int .i64 0, .int .i64 0, .int .i64 0, .int .i64 0, .int .u64 0]) 5 40 Tryz.underlying33 iLoss_0 iLoss_1 iLoss_2 iLoss_3 rfl (by decide) (.slice A7 LS.length c7) LS.length (LS.flatMap lossC) (by rfl) ((HL.out.ext zxt)) _ 1 _ (#[.int .i64 xv, .int .i64 xs, .int .i64 xp, .int .i64 xf, .int .u64 cN].toList) (by first | rfl | (simp [Act.eval, go_sem]; done)) (sl_new _ 73 5 #[.int .i64 xv, .int .i64 xs, .int .i64 xp, .int .i64 xf, .int .u64 cN] 1 rfl (by decide)) (by intro u hu; simp at hu; rcases hu with rfl | rfl | rfl | rfl | rfl <;> rfl) (by omega) (by decide) (by (try simp); omega) ?_; intro v61 w61 hown61 hx61 hn61; refine Hid.out ?_)
                refine Lib.hid ?_
                obtain ⟨A61, c61, rfl, hnil61, hO61⟩ := own_app (f := lossC) (xv, xs, xp, xf, cN) hown61 rfl rfl
                have hap2 : ∀ j, (Value.slice A61 (LS ++ [(xv, xs, xp, xf, cN)]).length c61).ownBlock = some j → ¬ j = w2.heap.size := fun j hj => by rcases hn61 j hj with h9 | h9; exact hap j h9; (try simp at h9); omega
                obtain ⟨L61, hL61⟩ : ∃ l, l = LS ++ [(xv, xs, xp, xf, cN)] := ⟨_, rfl⟩
                rw [← hL61] at hO61 hap2 ⊢
                replace hap := hap2
                clear hap2
                have HL61 := Lib.hid hL61
                have hNL61 : L61.length = LS.length + 1 := by rw [hL61, List.length_append]; rfl
                clear hown61 hn61 hnil61 hL61
                have hsz61 := hx61.size
                try simp at hsz61
                replace q_0f : w61.frozen? ⟨w2.heap.size, 0, none⟩ = false := hx61.froz (fun hh => by have hh2 := own_rng HL.out _ hh; have hh3 := hap0 _ hh; omega) (v := .slice B5 CL2.length d5) zcv zcv
                replace q_1f : w61.frozen? ⟨w2.heap.size, 1, none⟩ = false := hx61.froz (fun hh => by have hh2 := own_rng HL.out _ hh; have hh3 := hap0 _ hh; omega) (v := .slice B4 PS.length d4) zcv zcv
                replace q_0 : w61.cell? ⟨w2.heap.size, 0, none⟩ = some (.slice B5 CL2.length d5) := hx61.has (fun hh => by have hh2 := own_rng HL.out _ hh; have hh3 := hap0 _ hh; omega) zcv
                replace q_1 : w61.cell? ⟨w2.heap.size, 1, none⟩ = some (.slice B4 PS.length d4) := hx61.has (fun hh => by have hh2 := own_rng HL.out _ hh; have hh3 := hap0 _ hh; omega) zcv
                replace r_0f : w61.frozen? ⟨w.heap.size + 1, 0, none⟩ = false := hx61.froz (fun hh => by have hh2 := own_rng HL.out _ hh; have hh3 := hap0 _ hh; omega) (v := .slice none 0 0) zcv zcv
                replace r_1f : w61.frozen? ⟨w.heap.size + 1, 1, none⟩ = false := hx61.froz (fun hh => by have hh2 := own_rng HL.out _ hh; have hh3 := hap0 _ hh; omega) (v := .slice none 0 0) zcv zcv
                replace r_0 : w61.cell? ⟨w.heap.size + 1, 0, none⟩ = some (.slice none 0 0) := hx61.has (fun hh => by have hh2 := own_rng HL.out _ hh; have hh3 := hap0 _ hh; omega) zcv
                replace r_1 : w61.cell? ⟨w.heap.size + 1, 1, none⟩ = some (.slice none 0 0) := hx61.has (fun hh => by have hh2 := own_rng HL.out _ hh; have hh3 := hap0 _ hh; omega) zcv
                have z61 := hx61.size
                try simp at z61
                have zq := zrc (show w2.heap.size < w61.heap.size from by omega)
                obtain ⟨rq, rqa, rqb, rqc, rqn⟩ := zq
                have zq := zrc (show w.heap.size + 1 < w61.heap.size from by omega)
                obtain ⟨rr, rra, rrb, rrc, rrn⟩ := zq
                have X61 : Hid (Ext w w61) := Lib.hid (have hX := (show Ext w _ from zxt); Below.trans hX (hx61.below (Ext.size hX) (fun k hk hh => by have hh2 := own_rng HL.out _ hh; omega)))
                replace HO := Lib.hid ((HO.out.ext zxt).but hx61 (own_apart HO.out HL.out (fun e => loss_cls e.symm)))
                replace HP := Lib.hid ((HP.out.ext zxt).but hx61 (own_apart HP.out HL.out (fun e => loss_pos e.symm)))
                replace HS := Lib.hid ((HS.out.ext zxt).but hx61 (fun k hk => by have hh2 := own_rng HL.out _ hk; omega))
                clear HL
                have HL := Lib.hid (show OwnLoss _ (w.heap.size + 2) _ _ _ from hO61)
                clear c0_4 c0_0 c0_2 c0_3 c0_5 c0_1 p_1 p_0 hsz61 XV hx61
                clear hap0
                clear hO61
                go_wp2_with fail
                go_roundg (gk - 1)
                case measure => have := HKK.out; omega
                case rel => exact ⟨by have := HKK.out; omega, num_eq (by have := HKK.out; omega), B5, B4, A61, d5, d4, c61, CL2, PS, L61, (N + cN), rfl, rfl, by rw [show cl.length - (gk - 1) = k + 1 from by have := HKK.out; omega]; exact (by rw [HL61.out]; exact HN1), Lib.hid ⟨by first | exact q_0 | (simp [go_sem, World.cell?_alloc_past, *]; done), by first | exact q_0f | (simp [go_sem, World.cell?_alloc_past, *]; done), by first | exact q_1 | (simp [go_sem, World.cell?_alloc_past, *]; done), by first | exact q_1f | (simp [go_sem, World.cell?_alloc_past, *]; done)⟩, Lib.hid ⟨by first | exact r_0 | (simp [go_sem, World.cell?_alloc_past, *]; done), by first | exact r_0f | (simp [go_sem, World.cell?_alloc_past, *]; done), by first | exact r_1 | (simp [go_sem, World.cell?_alloc_past, *]; done), by first | exact r_1f | (simp [go_sem, World.cell?_alloc_past, *]; done)⟩, Lib.hid (HO.out.ext zxt), Lib.hid (HP.out.ext zxt), Lib.hid (HL.out.ext zxt), NC2, NP, Lib.hid hap, Lib.hid (HS.out.ext zxt), by first | omega | (simp; done) | (simp; omega), Lib.hid zxt⟩
end
section
open Go.RowKit Go.ChangeShapes Go.WideShapes Go.Deep Go.Joins
theorem RetJ.ex {C P : List (Int × Int × Int × Int × Int × Int)} {N E : Int} {w w' : World} {e : Ending} (h : RetJ (C, P, N, E) w e w') : ∃ B d B2 d2, e = .returned (.tuple #[.agg #[.slice B C.length d, .slice B2 P.length d2], .int .u64 N, .int .i64 E]) ∧ OwnCls w' w.heap.size (.slice B C.length d) C.length C ∧ OwnPos w' w.heap.size (.slice B2 P.length d2) P.length P ∧ Ext w w' := by
  obtain ⟨v, h1, B, d, B2, d2, rfl, h2, h3, h4, h5, h6⟩ := h
  exact ⟨B, d, B2, d2, h1, h4, h5, h6⟩
theorem RetK.ex {C P : List (Int × Int × Int × Int × Int × Int)} {L : List (Int × Int × Int × Int × Int)} {N E : Int} {w w' : World} {e : Ending} (h : RetK (C, P, L, N, E) w e w') : ∃ B d B2 d2 A c, e = .returned (.tuple #[.agg #[.slice B C.length d, .slice B2 P.length d2], .slice A L.length c, .int .u64 N, .int .i64 E]) ∧ OwnCls w' w.heap.size (.slice B C.length d) C.length C ∧ OwnPos w' w.heap.size (.slice B2 P.length d2) P.length P ∧ OwnLoss w' w.heap.size (.slice A L.length c) L.length L ∧ Ext w w' := by
  obtain ⟨v, A, c, h1, h0, ⟨B, d, B2, d2, rfl, h2, h3, h4, h5, h6⟩, h7⟩ := h
  exact ⟨B, d, B2, d2, A, c, h1, h4, h5, h7, h6⟩
/-- a holding, a number, losses and a fault handed back -/
def RetD (C P : List (Int × Int × Int × Int × Int × Int)) (N : Int) (L : List (Int × Int × Int × Int × Int)) (E : Int) (w : World) (e : Ending) (w' : World) : Prop := ∃ B d B2 d2 A c, e = .returned (.tuple #[.agg #[.slice B C.length d, .slice B2 P.length d2], .int .u64 N, .slice A L.length c, .int .i64 E]) ∧ (B = none → d = 0) ∧ (B2 = none → d2 = 0) ∧ OwnCls w' w.heap.size (.slice B C.length d) C.length C ∧ OwnPos w' w.heap.size (.slice B2 P.length d2) P.length P ∧ OwnLoss w' w.heap.size (.slice A L.length c) L.length L ∧ Ext w w'
theorem RetD.mk {C P : List (Int × Int × Int × Int × Int × Int)} {N E : Int} {L : List (Int × Int × Int × Int × Int)} {w w' : World} {b d d2 c : Nat} {B B2 A : Option Addr} (hb : w.heap.size ≤ b) (h : w'.ownsRow b 79 6 (.slice B C.length d) C.length (C.flatMap clsC)) (h2 : w'.ownsRow b 82 6 (.slice B2 P.length d2) P.length (P.flatMap posC)) (h3 : w'.ownsRow b 73 5 (.slice A L.length c) L.length (L.flatMap lossC)) (hx : Ext w w') : RetD C P N L E w (.returned (.tuple #[.agg #[.slice B C.length d, .slice B2 P.length d2], .int .u64 N, .slice A L.length c, .int .i64 E])) w' := by
  obtain ⟨A', c', e, h4, _⟩ := own_parts2 h
  obtain ⟨rfl, rfl⟩ : B = A' ∧ d = c' := by simpa using e
  obtain ⟨A'', c'', e2, h5, _⟩ := own_parts2 h2
  obtain ⟨rfl, rfl⟩ : B2 = A'' ∧ d2 = c'' := by simpa using e2
  exact ⟨_, _, _, _, _, _, rfl, h4, h5, own_lower h hb, own_lower h2 hb, own_lower h3 hb, hx⟩
set_option maxRecDepth 100000 in
set_option maxHeartbeats 4000000 in
theorem large13_any (n c n2 c2 : Nat) (A A2 : Option Addr) (w : World) :
    Calls Tryz.prog 11 #[.agg #[.slice A n c, .slice A2 n2 c2]] w fun r w' => r = .returned (.bool (decide (60 < (n : Int)) || decide (80 < (n2 : Int)))) ∧ Ext w w' := by
  by_cases h1 : 60 < (n : Int)
  · have h1d : decide (60 < (n : Int)) = true := decide_eq_true h1
    rw [h1d, Bool.true_or]
    go_enter Tryz.func11, Tryz.ntmps11
    go_wp2
    go_ret
    exact ⟨rfl, zxt⟩
  · have h1d : decide (60 < (n : Int)) = false := decide_eq_false h1
    rw [h1d, Bool.false_or]
    go_enter Tryz.func11, Tryz.ntmps11
    go_wp2
    go_ret
    exact ⟨rfl, zxt⟩
set_option maxRecDepth 100000 in
set_option maxHeartbeats 4000000 in
theorem does13_join (c c2 : Nat) (A A2 : Option Addr) (cl ps : List (Int × Int × Int × Int × Int × Int)) (k o V S P Q v h n : Int) (C P' : List (Int × Int × Int × Int × Int × Int)) (N E : Int) (L : List (Int × Int × Int × Int × Int)) (w : World) (hs : Sl w 6 A cl.length c (cl.flatMap clsC)) (hs2 : Sl w 6 A2 ps.length c2 (ps.flatMap posC)) (hn : cl.length < 1099511627776) (hn2 : ps.length < 1099511000) (hA : A = none → c = 0) (hA2 : A2 = none → c2 = 0) (hw : ∀ x ∈ cl, WdC x) (hw2 : ∀ x ∈ ps, WdP x) (hwn : Word n) (hk : k = 0) (hR : (C, P', N, E) = hjoiV cl ps o V S P Q n) (hL : L = []) :
    Calls Tryz.prog 16 #[.agg #[.slice A cl.length c, .slice A2 ps.length c2], .agg #[.int .i64 k, .int .i64 o, .int .i64 V, .int .i64 S, .int .i64 P, .int .i64 Q, .int .i64 v, .int .i64 h, .int .u64 n]] w (RetD C P' N L E w) := by
  have C1 := Lib.hid (fun (w' : World) (hx : Ext w w') => (hJoin_any c c2 A A2 cl ps o V S P Q n w' (hs.ext hx) (hs2.ext hx) hn (by omega) hA hA2 hw hw2 hwn).mono (fun e w'' H => RetJ.ex (C := C) (P := P') (N := N) (E := E) (by rw [hR]; exact H)))
  subst hk
  subst hL
  clear hs hs2 hw hw2 hwn hR
  go_enter Tryz.func16, Tryz.ntmps16
  go_wp2_with fail
  (with_reducible refine (C1.out _ zxt).mono ?_)
  rintro e w1 ⟨B, d, B2, d2, rfl, hO, hP, hx1⟩
  have c2_0f : w1.frozen? ⟨w.heap.size + 1 + 1, 0, none⟩ = false := hx1.froz (v := .slice none 0 0) zcv zcv
  have c2_1f : w1.frozen? ⟨w.heap.size + 1 + 1, 1, none⟩ = false := hx1.froz (v := .slice none 0 0) zcv zcv
  have c2_0 : w1.cell? ⟨w.heap.size + 1 + 1, 0, none⟩ = some (.slice none 0 0) := hx1.has zcv
  have c2_1 : w1.cell? ⟨w.heap.size + 1 + 1, 1, none⟩ = some (.slice none 0 0) := hx1.has zcv
  have z1 := hx1.size
  try simp at z1
  have zq := zrc (show w.heap.size + 1 + 1 < w1.heap.size from by omega)
  obtain ⟨rc2, rc2a, rc2b, rc2c, rc2n⟩ := zq
  have X1 : Hid (Ext w w1) := Lib.hid (Ext.trans zxt hx1)
  have HO := Lib.hid (show OwnCls _ w.heap.size _ _ _ from own_lower hO zSlBas4_0)
  have HP := Lib.hid (show OwnPos _ w.heap.size _ _ _ from own_lower hP zSlBas4_0)
  clear hx1
  have HOw := Lib.hid (own_lower hO (show w.heap.size + 3 ≤ _ from zSlBas4_0))
  have HPw := Lib.hid (own_lower hP (show w.heap.size + 3 ≤ _ from zSlBas4_0))
  clear hO hP
  go_wp2_with fail
  refine bodyPost_ret (v := .tuple #[.agg #[.slice B C.length d, .slice B2 P'.length d2], .int .u64 N, .slice none 0 0, .int .i64 E]) (by simp [results, Tryz.results16, go_sem, World.cell?_alloc_past, *]; try rfl) rfl (RetD.mk (L := []) (b := w.heap.size + 3) (by omega) (show World.ownsRow _ (w.heap.size + 3) _ _ _ _ _ from by repeat (first | exact HOw.out | with_reducible refine own_box ?_ (by omega) | refine own_keep ?_ (Ext.alloc (Ext.refl _) _))) (show World.ownsRow _ (w.heap.size + 3) _ _ _ _ _ from by repeat (first | exact HPw.out | with_reducible refine own_box ?_ (by omega) | refine own_keep ?_ (Ext.alloc (Ext.refl _) _))) (OwnLoss.nil _ _) zxt)
end
section
open Go.RowKit Go.ChangeShapes Go.WideShapes Go.Deep Go.Joins
theorem kP_eq {o a b c d t O V S P Q : Int} (h0 : o = O) (h : a = V ∧ b = S ∧ c = P ∧ d = Q) : kP (o, a, b, c, d, t) = [O, V, S, P, Q] := by simp [kP, h, h0]
theorem kP_ne {o a b c d t O V S P Q : Int} (h : ¬ (o = O ∧ a = V ∧ b = S ∧ c = P ∧ d = Q)) : kP (o, a, b, c, d, t) ≠ [O, V, S, P, Q] := by simp [kP]; intro h0 h1 h2 h3 h4; exact h ⟨h0, h1, h2, h3, h4⟩
end
section
open Go.RowKit Go.ChangeShapes Go.WideShapes Go.Deep Go.Joins
theorem own_set_ne {w : World} {base n sz q o : Nat} {e : TypeId} {v u : Value} {xs : List Value} (h : w.ownsRow base e sz v n xs) (hq : ∀ j, v.ownBlock = some j → ¬ j = q) : (w.setCell ⟨q, o, none⟩ u).ownsRow base e sz v n xs := own_but1Word h (But.setG (g := q) (But.refl _ _) u) (fun j hj hh => hq j hj hh)
theorem SlB.set {B : Nat} {w : World} {sz n c q o : Nat} {A : Option Addr} {xs : List Value} {u : Value} (h : SlB B w sz A n c xs) (hq : B ≤ q) : SlB B (w.setCell ⟨q, o, none⟩ u) sz A n c xs := SlB.but h (But.setG (g := q) (But.refl _ _) u) (fun j hj => by have h9 : j = q := hj; omega)
set_option maxRecDepth 100000 in
set_option maxHeartbeats 4000000 in
theorem kSameHolding_any (n c n2 c2 m d m2 d2 : Nat) (A A2 B B2 : Option Addr) (cl ps cl' ps' : List (Int × Int × Int × Int × Int × Int)) (w : World) (h : Sl w 6 A n c (cl.flatMap clsC)) (h2 : Sl w 6 A2 n2 c2 (ps.flatMap posC)) (h3 : Sl w 6 B m d (cl'.flatMap clsC)) (h4 : Sl w 6 B2 m2 d2 (ps'.flatMap posC)) :
    Calls Tryz.prog 18 #[.agg #[.slice A n c, .slice A2 n2 c2], .agg #[.slice B m d, .slice B2 m2 d2]] w fun r w' => r = .returned (.bool (decide (cl = cl') && decide (ps = ps'))) ∧ Ext w w' := by
  have C1 := Lib.hid (fun (w' : World) (hx : Ext w w') => kSameClasses_any A B n c m d cl cl' w' (h.ext hx) (h3.ext hx))
  have C2 := Lib.hid (fun (w' : World) (hx : Ext w w') => kSamePositions_any A2 B2 n2 c2 m2 d2 ps ps' w' (h2.ext hx) (h4.ext hx))
  obtain ⟨b1, hb1⟩ : ∃ b, b = decide (cl = cl') := ⟨_, rfl⟩
  obtain ⟨b2, hb2⟩ : ∃ b, b = decide (ps = ps') := ⟨_, rfl⟩
  rw [← hb1] at C1
  rw [← hb2] at C2
  rw [← hb1, ← hb2]
  clear h h2 h3 h4 hb1 hb2
  go_enter Tryz.func18, Tryz.ntmps18
  rcases Bool.eq_false_or_eq_true b1 with h | h <;> subst h
  · go_wp2_with fail
    (with_reducible refine (C1.out _ zxt).mono ?_)
    rintro e w1 ⟨rfl, hx1⟩
    have c0_1 : w1.cell? ⟨w.heap.size, 1, none⟩ = some (.slice A2 n2 c2) := hx1.has zcv
    have c1_1 : w1.cell? ⟨w.heap.size + 1, 1, none⟩ = some (.slice B2 m2 d2) := hx1.has zcv
    have z1 := hx1.size
    try simp at z1
    have lt_c0_c1 : w.heap.size < w.heap.size + 1 := by omega
    have ne_c0_c1 : ¬ w.heap.size = w.heap.size + 1 := by omega
    have ne_c1_c0 : ¬ w.heap.size + 1 = w.heap.size := by omega
    have zq := zrc (show w.heap.size < w1.heap.size from by omega)
    obtain ⟨rc0, rc0a, rc0b, rc0c, rc0n⟩ := zq
    have zq := zrc (show w.heap.size + 1 < w1.heap.size from by omega)
    obtain ⟨rc1, rc1a, rc1b, rc1c, rc1n⟩ := zq
    have X1 : Hid (Ext w w1) := Lib.hid (Ext.trans zxt hx1)
    clear hx1 z1
    go_wp2_with fail
    (with_reducible refine (C2.out _ zxt).mono ?_)
    rintro e w2 ⟨rfl, hx2⟩
    have z2 := hx2.size
    try simp at z2
    have X2 : Hid (Ext w w2) := Lib.hid (Ext.trans zxt hx2)
    clear c0_1 c1_1 rc0 rc0a rc0b rc0c rc0n rc1 rc1a rc1b rc1c rc1n X1 hx2 z2
    go_wp2_with fail
    go_ret
    exact ⟨by simp, zxt⟩
  · go_wp2_with fail
    (with_reducible refine (C1.out _ zxt).mono ?_)
    rintro e w1 ⟨rfl, hx1⟩
    have c0_1 : w1.cell? ⟨w.heap.size, 1, none⟩ = some (.slice A2 n2 c2) := hx1.has zcv
    have c1_1 : w1.cell? ⟨w.heap.size + 1, 1, none⟩ = some (.slice B2 m2 d2) := hx1.has zcv
    have z1 := hx1.size
    try simp at z1
    have lt_c0_c1 : w.heap.size < w.heap.size + 1 := by omega
    have ne_c0_c1 : ¬ w.heap.size = w.heap.size + 1 := by omega
    have ne_c1_c0 : ¬ w.heap.size + 1 = w.heap.size := by omega
    have zq := zrc (show w.heap.size < w1.heap.size from by omega)
    obtain ⟨rc0, rc0a, rc0b, rc0c, rc0n⟩ := zq
    have zq := zrc (show w.heap.size + 1 < w1.heap.size from by omega)
    obtain ⟨rc1, rc1a, rc1b, rc1c, rc1n⟩ := zq
    have X1 : Hid (Ext w w1) := Lib.hid (Ext.trans zxt hx1)
    clear hx1 z1
    go_wp2_with fail
    go_ret
    exact ⟨by simp, zxt⟩
end
end Go.Proofs.YtkinchgjidpjnaaGreat
