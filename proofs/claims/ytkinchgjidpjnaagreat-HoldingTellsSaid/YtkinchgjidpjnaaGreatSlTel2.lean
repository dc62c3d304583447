/- Tel, part 2 of 2: Ht3, Hr9, Ht4, HrA, HoldOpen, HtW. Conditions stand in each lemma. -/
import Derived.WalkKit
import Derived.Deep.QuietTactic
import Derived.Deep.Draws
import Derived.Lib.Hide
import Derived.Laws.OwnMore
import Derived.Laws.AppendOwn
import Derived.OwnWalk
import Derived.RangeFuncBox
import Derived.RangeFuncLeaves
import Derived.Shelf.Abstract
import Derived.OwnWalkIn
import Derived.TacticsInMore
import Derived.LoopNIn
import Derived.LoopIn
import Derived.Maps.AppendAt
import Derived.Test.YtkinchgjidpjnaaGreatRows
import Derived.Deep.Onto
import Derived.ProofKit
import Derived.ChangeOld
import Derived.OpenShut
import Derived.Deep.Slices
import Derived.BigQuiet
import Derived.IntWalk
import Derived.Lib.SliceRun
import Derived.Deep.LoopGhost
import Derived.WalkSpells
import Derived.WalkLawsBesides
import Derived.Lib.SmallJoins
import Derived.Deep.RegionHeld3
import Derived.Test.YtkinchgjidpjnaaGreatShelf
import Derived.Test.YtkinchgjidpjnaaGreatDivNorm
import Derived.Deep.DeepCutAuto
import Derived.Deep.CutBlock
import Derived.Shelf.Spec.BitsCarry
import Derived.Test.YtkinchgjidpjnaaGreatFixRefMath
import Derived.Test.YtkinchgjidpjnaaGreatFixDivideMath
import Derived.Handy
import Derived.ArgAppend
import Derived.Laws.CopyRow
import Derived.Lib.AppendZerosOnto
import Derived.Laws.Externs
import Derived.Lib.Overlaps
import Derived.Shelf.RegionOpenPlain
import Derived.Lib.AppendZeros
import Derived.WalkMore
import Derived.Laws.IdiomCopy
import Derived.Laws.StructEq
import Derived.RangeFuncNested
import Derived.Test.YtkinchgjidpjnaaGreatSlBas6
import Derived.Test.YtkinchgjidpjnaaGreatSlTel1
set_option linter.unusedVariables false
set_option linter.unusedSimpArgs false
namespace Go.Proofs.YtkinchgjidpjnaaGreat
section
open Go.RowKit Go.ChangeShapes Go.WideShapes Go.Deep Go.Joins
theorem zSlTel2_0 {P : Prop} (h : P := by unfold OwnPos; repeat (first | exact HP.out | refine own_set_ne ?_ (fun j hj hh => by have h9 := RP.out j hj; (try simp only [World.size_alloc] at h9); first | omega | (simp at h9; omega) | (simp [go_sem] at h9; omega)) | refine own_keep (base := w.heap.size + 2) ?_ (Ext.alloc (Ext.refl _) _) | with_reducible refine World.ownsRow.drew ?_)) : P := h
theorem zSlTel2_1 {P : Prop} (h : P := by unfold OwnCls; repeat (first | exact HO.out | refine own_set_ne ?_ (fun j hj hh => by have h9 := RO.out j hj; (try simp only [World.size_alloc] at h9); first | omega | (simp at h9; omega) | (simp [go_sem] at h9; omega)) | refine own_keep (base := w.heap.size + 2) ?_ (Ext.alloc (Ext.refl _) _) | with_reducible refine World.ownsRow.drew ?_)) : P := h
theorem zSlTel2_2 {P : Prop} (h : P := by unfold OwnPos; repeat (first | exact HL.out | refine own_set_ne ?_ (fun j hj hh => by have h9 := RL.out j hj; (try simp only [World.size_alloc] at h9); first | omega | (simp at h9; omega) | (simp [go_sem] at h9; omega)) | refine own_keep (base := w.heap.size + 2) ?_ (Ext.alloc (Ext.refl _) _) | with_reducible refine World.ownsRow.drew ?_)) : P := h
theorem zSlTel2_3 {P : Prop} (h : P := by unfold OwnCls; repeat (first | exact HX.out | refine own_set_ne ?_ (fun j hj hh => by have h9 := RX.out j hj; (try simp only [World.size_alloc] at h9); first | omega | (simp at h9; omega) | (simp [go_sem] at h9; omega)) | refine own_keep (base := w.heap.size + 2) ?_ (Ext.alloc (Ext.refl _) _) | with_reducible refine World.ownsRow.drew ?_)) : P := h
theorem zSlTel2_4 {P : Prop} (h : P := by repeat (first | exact HS.out | with_reducible refine SlB.ext ?_ (Ext.alloc (Ext.refl _) _) | refine SlB.set ?_ (by omega))) : P := h
theorem zSlTel2_5 {P : Prop} (h : P := by first | exact Nat.le_refl _ | omega | (simp; done) | (simp; omega)) : P := h
theorem addF_mono {α : Type} {f g : α → Int} : ∀ {l : List α}, (∀ x ∈ l, f x ≤ g x) → addF f l ≤ addF g l
  | [], _ => Int.le_refl _
  | x :: l, h => by
    rw [addF_cons, addF_cons]
    have h1 := h x (List.mem_cons_self ..)
    have h2 := addF_mono (l := l) (fun y hy => h y (List.mem_cons_of_mem _ hy))
    omega
/-- what backs a validator, by class; of all classes; what Tokens tells -/
def tokF (v : Int) (c : (Int × Int × Int × Int × Int × Int)) : Int := if c.1 = v then toC c else 0
def tokT (cl : List (Int × Int × Int × Int × Int × Int)) (v : Int) : Int := addF (tokF v) cl
def tokH (cl ps : List (Int × Int × Int × Int × Int × Int)) (v : Int) : Int := if chkH cl ps = 0 then tokT cl v else 0
theorem tokF_nn {cl : List (Int × Int × Int × Int × Int × Int)} (hw : ∀ x ∈ cl, WdC x) (v : Int) : ∀ x ∈ cl, 0 ≤ tokF v x := by
  intro x hx
  have := (hw x hx).1.1
  unfold tokF
  split
  · exact this
  · exact Int.le_refl 0
theorem tokF_le {cl : List (Int × Int × Int × Int × Int × Int)} (hw : ∀ x ∈ cl, WdC x) (v : Int) : ∀ x ∈ cl, tokF v x ≤ toC x := by
  intro x hx
  have : 0 ≤ toC x := (hw x hx).1.1
  unfold tokF
  split
  · exact Int.le_refl _
  · exact this
set_option maxRecDepth 100000 in
set_option maxHeartbeats 4000000 in
theorem hTokens_any (n c n2 c2 : Nat) (A A2 : Option Addr) (cl ps : List (Int × Int × Int × Int × Int × Int)) (v : Int) (w : World) (h : Sl w 6 A n c (cl.flatMap clsC)) (h2 : Sl w 6 A2 n2 c2 (ps.flatMap posC)) (hn : n < 1099511627776) (hn2 : n2 < 1099511627776) (hw : ∀ x ∈ cl, WdC x) (hw2 : ∀ x ∈ ps, WdP x) :
    Calls Tryz.prog 29 #[.agg #[.slice A n c, .slice A2 n2 c2], .int .i64 v] w fun r w' => r = .returned (.tuple #[.int .u64 (tokH cl ps v), .int .i64 (chkH cl ps)]) ∧ Ext w w' := by
  have hll := h.rlen clsC_len (by decide)
  have C1 := Lib.hid (fun (w' : World) (hx : Ext w w') => hCheck_any n c n2 c2 A A2 cl ps w' (h.ext hx) (h2.ext hx) hn hn2 hw hw2)
  have HS := Lib.hid h
  have HLL := Lib.hid hll
  obtain ⟨R, hR⟩ : ∃ R, R = tokH cl ps v := ⟨_, rfl⟩
  obtain ⟨E, hE⟩ : ∃ E, E = chkH cl ps := ⟨_, rfl⟩
  unfold tokH at hR
  rw [← hE] at C1 hR
  unfold tokH
  rw [← hE, ← hR]
  by_cases he : E = 0
  · rw [if_pos he] at hR
    have hM : R ≤ 4611686018427387904 := by rw [hR]; exact Int.le_trans (addF_mono (tokF_le hw v)) (chkH_tot (hE.symm.trans he)).2.2
    have HR := Lib.hid hR
    subst he
    have HM := Lib.hid (show ∀ k, 0 ≤ tokT (cl.take k) v ∧ tokT (cl.take k) v ≤ 4611686018427387904 from fun k => ⟨addF_nn (fun y hy => tokF_nn hw v y (List.mem_of_mem_take hy)), Int.le_trans (addF_le (tokF_nn hw v) k) (by rw [show addF (tokF v) cl = R from hR.symm]; exact hM)⟩)
    have HW := Lib.hid hw
    clear h h2 hw hw2 hE hR hM hll
    go_enter Tryz.func29, Tryz.ntmps29
    go_wp2_with fail
    (with_reducible refine (C1.out _ zxt).mono ?_)
    rintro e w1 ⟨rfl, hx1⟩
    have c0_0 : w1.cell? ⟨w.heap.size, 0, none⟩ = some (.slice A n c) := hx1.has zcv
    have z1 := hx1.size
    try simp at z1
    have zq := zrc (show w.heap.size < w1.heap.size from by omega)
    obtain ⟨rc0, rc0a, rc0b, rc0c, rc0n⟩ := zq
    have X1 : Hid (Ext w w1) := Lib.hid (Ext.trans zxt hx1)
    clear hx1 z1
    go_wp2_with fail
    go_loopg [7, 18] n (fun gh a i wx => gh ≤ n ∧ i = .int .i64 ((n - gh : Nat) : Int) ∧ a = .int .u64 (tokT (cl.take (n - gh)) v) ∧ Hid (Ext w wx))
    case atStart => exact ⟨Nat.le_refl _, by simp, by rw [Nat.sub_self]; rfl, Lib.hid zxt⟩
    case round =>
      obtain ⟨hg, hi, ha, XR⟩ := hrel
      obtain ⟨k, hk⟩ : ∃ k, k = n - gk := ⟨_, rfl⟩
      rw [← hk] at hi ha
      subst hi
      obtain ⟨t, ht⟩ : ∃ t, t = tokT (cl.take k) v := ⟨_, rfl⟩
      rw [← ht] at ha
      subst ha
      by_cases hz : gk = 0
      · have hkn : ¬ (k : Int) < (n : Int) := by omega
        have hTR : t = R := by rw [ht, HR.out, List.take_of_length_le (by have := HLL.out; omega)]
        have HT := Lib.hid hTR
        clear hk hg hz ht hTR
        go_wp2
        go_ret2
        exact ⟨by first | rfl | (simp; done) | (rw [HT.out]; rfl) | (simp [HT.out]; done), XR.out⟩
      · have hkn : (k : Int) < (n : Int) := by omega
        have hkl : k < cl.length := by have := HLL.out; omega
        have HSr := Lib.hid (HS.out.ext XR.out)
        obtain ⟨b1, o1, rfl, hb1, hc_x⟩ := HSr.out.rec_ clsC_len (show 0 < n from by omega)
        obtain ⟨xw, hl_x⟩ : ∃ x, cl[k]? = some x := ⟨_, List.getElem?_eq_getElem (by omega)⟩
        have x_0 := hc_x (k) xw hl_x 0 _ rfl
        have x_1 := hc_x (k) xw hl_x 1 _ rfl
        have x_2 := hc_x (k) xw hl_x 2 _ rfl
        have x_3 := hc_x (k) xw hl_x 3 _ rfl
        have x_4 := hc_x (k) xw hl_x 4 _ rfl
        have x_5 := hc_x (k) xw hl_x 5 _ rfl
        obtain ⟨xv, xs, xp, xf, xt, xh⟩ := xw
        simp only at x_0 x_1 x_2 x_3 x_4 x_5
        rw [Nat.add_zero] at x_0
        rw [← Nat.add_assoc] at x_1 x_2 x_3 x_4 x_5
        have hb0 := (HM.out k).1
        have hb2 := (HM.out (k + 1)).2
        have hxt : 0 ≤ xt := (HW.out _ (List.mem_of_getElem? hl_x)).1.1
        have hst : tokT (cl.take (k + 1)) v = t + tokF v (xv, xs, xp, xf, xt, xh) := by rw [ht]; exact addF_take (tokF v) hl_x
        rw [hst] at hb2
        rw [← ht] at hb0
        have HK := Lib.hid (And.intro hk (And.intro hg hz))
        have hb1s : ¬ b1 = wr.heap.size := by omega
        clear hk hg hz hkl hl_x hc_x HSr ht
        by_cases hq : xv = v
        · have hqb : decide (xv = v) = true := decide_eq_true hq
          have hqc : (xv == v) = true := by simpa using hq
          have hsq : tokF v (xv, xs, xp, xf, xt, xh) = xt := if_pos hq
          rw [hsq] at hst hb2
          have hwr : IntKind.u64.wrap (t + xt) = t + xt := IntWalk.u64_in _ (by omega)
          have HT := Lib.hid hst
          clear hst hsq hq
          go_wp2_with fail
          go_roundg (gk - 1)
          case measure => have := HK.out; omega
          case rel => exact ⟨by have := HK.out; omega, num_eq (by have := HK.out; omega), num_eq (by rw [show n - (gk - 1) = k + 1 from by have := HK.out; omega]; exact HT.out.symm), Lib.hid zxt⟩
        · have hqb : decide (xv = v) = false := decide_eq_false hq
          have hqc : (xv == v) = false := by simpa using hq
          have hsq : tokF v (xv, xs, xp, xf, xt, xh) = 0 := if_neg hq
          rw [hsq, Int.add_zero] at hst
          have HT := Lib.hid hst
          clear hst hsq hq hb2
          go_wp2_with fail
          go_roundg (gk - 1)
          case measure => have := HK.out; omega
          case rel => exact ⟨by have := HK.out; omega, num_eq (by have := HK.out; omega), num_eq (by rw [show n - (gk - 1) = k + 1 from by have := HK.out; omega]; exact HT.out.symm), Lib.hid zxt⟩
  · rw [if_neg he] at hR
    subst hR
    have heb : (E != 0) = true := by simpa using he
    clear h h2 hw hw2 hE hll
    go_enter Tryz.func29, Tryz.ntmps29
    go_wp2_with fail
    (with_reducible refine (C1.out _ zxt).mono ?_)
    rintro e w1 ⟨rfl, hx1⟩
    have z1 := hx1.size
    try simp at z1
    have X1 : Hid (Ext w w1) := Lib.hid (Ext.trans zxt hx1)
    clear hx1 z1
    go_wp2_with fail
    go_ret2
    exact ⟨rfl, zxt⟩
end
section
open Go.RowKit Go.ChangeShapes Go.WideShapes Go.Deep Go.Joins
/-- what a position of a holding that may be is worth -/
theorem wvl_ok {cl ps : List (Int × Int × Int × Int × Int × Int)} {x : (Int × Int × Int × Int × Int × Int)} (hk : HOk cl ps) (hw : ∀ c ∈ cl, WdC c) (hw2 : ∀ p ∈ ps, WdP p) (hx : x ∈ ps) : worV (fndT cl (stP x)) (fndS cl (stP x)) (shP x) = wvl cl x := by
  have hP := hk.pool hw (stP x)
  have hle : shP x ≤ shO ps (stP x) := addF_mem (f := shP) (fun y hy => (hw2 y (List.mem_filter.1 hy).1).1) (List.mem_filter.2 ⟨hx, by simp⟩)
  rw [hk.fnd] at hle
  have he : valE (fndT cl (stP x)) (fndS cl (stP x)) (shP x) = 0 := by
    unfold valE
    rw [if_pos hP.chk, if_neg (by simpa using hle)]
  unfold wvl valN
  rw [if_pos he]
theorem getK_memP {ps : List (Int × Int × Int × Int × Int × Int)} {q : List Int} {x : (Int × Int × Int × Int × Int × Int)} (h : getK kP ps q = some x) : x ∈ ps := List.mem_of_find?_eq_some h
set_option maxRecDepth 100000 in
set_option maxHeartbeats 4000000 in
theorem r13worth_any (n c n2 c2 : Nat) (A A2 : Option Addr) (cl : List (Int × Int × Int × Int × Int × Int)) (O V S P Q N : Int) (w : World) (h : Sl w 6 A n c (cl.flatMap clsC)) (hw : ∀ x ∈ cl, WdC x) (hN : Word N) :
    Calls Tryz.prog 83 #[.agg #[.slice A n c, .slice A2 n2 c2], .agg #[.int .i64 O, .int .i64 V, .int .i64 S, .int .i64 P, .int .i64 Q, .int .u64 N]] w fun r w' => r = .returned (.int .u64 (worV (fndT cl [V, S, P, Q]) (fndS cl [V, S, P, Q]) N)) ∧ Ext w w' := by
  have C1 := Lib.hid (fun (w' : World) (hx : Ext w w') => r13Find_any n c n2 c2 A A2 cl V S P Q w' (h.ext hx))
  have hfw := fnd_word hw [V, S, P, Q]
  obtain ⟨t, ht⟩ : ∃ t, t = fndT cl [V, S, P, Q] := ⟨_, rfl⟩
  obtain ⟨u, hu⟩ : ∃ u, u = fndS cl [V, S, P, Q] := ⟨_, rfl⟩
  obtain ⟨B, hB⟩ : ∃ b, b = (getK kC cl [V, S, P, Q]).isSome := ⟨_, rfl⟩
  rw [← ht, ← hu] at hfw
  rw [← ht, ← hu, ← hB] at C1
  rw [← ht, ← hu]
  have C2 := Lib.hid (fun w => pWorth_any t u N hfw.1 hfw.2 hN w)
  obtain ⟨G, hG⟩ : ∃ G, G = worV t u N := ⟨_, rfl⟩
  rw [← hG] at C2
  rw [← hG]
  clear h hw hN hfw ht hu hB hG
  go_enter Tryz.func83, Tryz.ntmps83
  go_wp2_with fail
  (with_reducible refine (C1.out _ zxt).mono ?_)
  rintro e w1 ⟨rfl, hx1⟩
  have c1_5 : w1.cell? ⟨w.heap.size + 1, 5, none⟩ = some (.int .u64 N) := hx1.has zcv
  have z1 := hx1.size
  try simp at z1
  have zq := zrc (show w.heap.size + 1 < w1.heap.size from by omega)
  obtain ⟨rc1, rc1a, rc1b, rc1c, rc1n⟩ := zq
  have X1 : Hid (Ext w w1) := Lib.hid (Ext.trans zxt hx1)
  clear hx1 z1
  go_wp2_with fail
  (with_reducible refine (C2.out _).mono ?_)
  rintro e w2 ⟨rfl, hx2⟩
  have z2 := hx2.size
  try simp at z2
  have X2 : Hid (Ext w w2) := Lib.hid (Ext.trans zxt hx2)
  clear c1_5 rc1 rc1a rc1b rc1c rc1n X1 hx2 z2
  go_wp2_with fail
  go_ret
  exact ⟨rfl, zxt⟩
set_option maxRecDepth 100000 in
set_option maxHeartbeats 4000000 in
theorem r13Value_any (n c n2 c2 : Nat) (A A2 : Option Addr) (cl ps : List (Int × Int × Int × Int × Int × Int)) (O V S P Q : Int) (w : World) (h : Sl w 6 A n c (cl.flatMap clsC)) (h2 : Sl w 6 A2 n2 c2 (ps.flatMap posC)) (hw : ∀ x ∈ cl, WdC x) (hw2 : ∀ x ∈ ps, WdP x) :
    Calls Tryz.prog 35 #[.agg #[.slice A n c, .slice A2 n2 c2], .int .i64 O, .agg #[.int .i64 V, .int .i64 S, .int .i64 P, .int .i64 Q]] w fun r w' => r = .returned (.tuple #[.int .u64 (valH cl ps [O, V, S, P, Q]).1, .int .i64 (valH cl ps [O, V, S, P, Q]).2]) ∧ Ext w w' := by
  have C1 := Lib.hid (fun (w' : World) (hx : Ext w w') => r13Check_any n c n2 c2 A A2 cl ps w' (h.ext hx) (h2.ext hx) hw hw2)
  obtain ⟨E, hE⟩ : ∃ E, E = chkH cl ps := ⟨_, rfl⟩
  rw [← hE] at C1
  obtain ⟨G, hG⟩ : ∃ G, G = valH cl ps [O, V, S, P, Q] := ⟨_, rfl⟩
  rw [← hG]
  obtain ⟨G1, G2⟩ := G
  unfold valH at hG
  rw [← hE] at hG
  have C2 := Lib.hid (fun (w' : World) (hx : Ext w w') => r13position_any n c n2 c2 A A2 ps O V S P Q w' (h2.ext hx))
  by_cases he : E = 0
  · rw [if_neg (by simpa using he)] at hG
    have hk := (chkH_iff cl ps).1 (hE.symm.trans he)
    cases hg : getK kP ps [O, V, S, P, Q] with
    | none =>
      unfold valG at hG
      rw [hg] at hG
      obtain ⟨rfl, rfl⟩ : G1 = 0 ∧ G2 = 10 := by simpa using hG
      have C3 := Lib.hid (fun (w' : World) (hx : Ext w w') => (C2.out w' hx).mono (fun e w'' hh => (show e = .returned (.int .i64 (-1)) ∧ Ext w' w'' by
        obtain ⟨i, h1, h3, h4⟩ := hh
        rcases h3 with ⟨rfl, _⟩ | ⟨m, x, _, _, h5⟩
        · exact ⟨h1, h4⟩
        · rw [hg] at h5; cases h5)))
      subst he
      clear h h2 hw hw2 hE hk hg hG C2
      go_enter Tryz.func35, Tryz.ntmps35
      go_wp2_with fail
      (with_reducible refine (C1.out _ zxt).mono ?_)
      rintro e w1 ⟨rfl, hx1⟩
      have c0_0 : w1.cell? ⟨w.heap.size, 0, none⟩ = some (.slice A n c) := hx1.has zcv
      have c0_1 : w1.cell? ⟨w.heap.size, 1, none⟩ = some (.slice A2 n2 c2) := hx1.has zcv
      have c1_0 : w1.cell? ⟨w.heap.size + 1, 0, none⟩ = some (.int .i64 V) := hx1.has zcv
      have c1_1 : w1.cell? ⟨w.heap.size + 1, 1, none⟩ = some (.int .i64 S) := hx1.has zcv
      have c1_2 : w1.cell? ⟨w.heap.size + 1, 2, none⟩ = some (.int .i64 P) := hx1.has zcv
      have c1_3 : w1.cell? ⟨w.heap.size + 1, 3, none⟩ = some (.int .i64 Q) := hx1.has zcv
      have z1 := hx1.size
      try simp at z1
      have lt_c0_c1 : w.heap.size < w.heap.size + 1 := by omega
      have ne_c0_c1 : ¬ w.heap.size = w.heap.size + 1 := by omega
      have ne_c1_c0 : ¬ w.heap.size + 1 = w.heap.size := by omega
      have zq := zrc (show w.heap.size < w1.heap.size from by omega)
      obtain ⟨rc0, rc0a, rc0b, rc0c, rc0n⟩ := zq
      have zq := zrc (show w.heap.size + 1 < w1.heap.size from by omega)
      obtain ⟨rc1, rc1a, rc1b, rc1c, rc1n⟩ := zq
      have X1 : Hid (Ext w w1) := Lib.hid (Ext.trans zxt hx1)
      clear hx1 z1
      go_wp2_with fail
      (with_reducible refine (C3.out _ zxt).mono ?_)
      rintro e w2 ⟨rfl, hx2⟩
      have z2 := hx2.size
      try simp at z2
      have X2 : Hid (Ext w w2) := Lib.hid (Ext.trans zxt hx2)
      clear c0_1 c0_0 c1_2 c1_3 c1_0 c1_1 rc1 rc1a rc1b rc1c rc1n rc0 rc0a rc0b rc0c rc0n X1 hx2 z2
      go_wp2_with fail
      refine bodyPost_ret (v := .tuple #[.int .u64 0, .int .i64 10]) (by simp [results, Tryz.results35, go_sem, World.cell?_alloc_past]; try rfl) rfl ⟨rfl, ?_⟩
      exact zxt
    | some xw =>
      have hxm := getK_memP hg
      have hkx : kP xw = [O, V, S, P, Q] := (getK_mem hg).2
      have hwv := wvl_ok hk hw hw2 hxm
      have hxN := hw2 xw hxm
      unfold valG at hG
      rw [hg] at hG
      have C3 := Lib.hid (fun (w' : World) (hx : Ext w w') => (C2.out w' hx).mono (fun e w'' hh => (show ∃ k : Nat, e = .returned (.int .i64 (k : Int)) ∧ ps[k]? = some xw ∧ k < ps.length ∧ Ext w' w'' by
        obtain ⟨i, h1, h3, h4⟩ := hh
        rcases h3 with ⟨_, h5⟩ | ⟨m, x, rfl, h5, h6⟩
        · rw [hg] at h5; cases h5
        · rw [hg] at h6; rw [← Option.some.inj h6] at h5; exact ⟨m, h1, h5, (List.getElem?_eq_some_iff.1 h5).1, h4⟩)))
      have hpl : 0 < ps.length := List.length_pos_of_mem hxm
      have hnl := h2.rlen posC_len (by decide)
      have hsm := h2.small
      obtain ⟨b1, o1, rfl, hb1, hc1⟩ := h2.rec_ posC_len (show 0 < n2 from by omega)
      obtain ⟨po, pv, ps_, pp, pf, ph⟩ := xw
      have hst : stP (po, pv, ps_, pp, pf, ph) = [pv, ps_, pp, pf] := rfl
      have hsh : shP (po, pv, ps_, pp, pf, ph) = ph := rfl
      rw [hst, hsh] at hwv
      have C4 := Lib.hid (fun (w' : World) (hx : Ext w w') => r13worth_any n c n2 c2 A (some ⟨b1, o1, none⟩) cl po pv ps_ pp pf ph w' (h.ext hx) hw hxN)
      rw [hwv] at C4
      obtain ⟨rfl, rfl⟩ : G1 = wvl cl (po, pv, ps_, pp, pf, ph) ∧ G2 = 0 := by simpa using hG
      obtain ⟨G1, hG1⟩ : ∃ g, g = wvl cl (po, pv, ps_, pp, pf, ph) := ⟨_, rfl⟩
      rw [← hG1] at C4
      rw [← hG1]
      have HC1 := Lib.hid hc1
      have HNL := Lib.hid hnl
      subst he
      clear h h2 hw hw2 hE hk hg hG C2 hc1 hnl hpl hxm hkx hwv hxN hst hsh hG1
      go_enter Tryz.func35, Tryz.ntmps35
      go_wp2_with fail
      (with_reducible refine (C1.out _ zxt).mono ?_)
      rintro e w1 ⟨rfl, hx1⟩
      have c0_0 : w1.cell? ⟨w.heap.size, 0, none⟩ = some (.slice A n c) := hx1.has zcv
      have c0_1 : w1.cell? ⟨w.heap.size, 1, none⟩ = some (.slice (some ⟨b1, o1, none⟩) n2 c2) := hx1.has zcv
      have c1_0 : w1.cell? ⟨w.heap.size + 1, 0, none⟩ = some (.int .i64 V) := hx1.has zcv
      have c1_1 : w1.cell? ⟨w.heap.size + 1, 1, none⟩ = some (.int .i64 S) := hx1.has zcv
      have c1_2 : w1.cell? ⟨w.heap.size + 1, 2, none⟩ = some (.int .i64 P) := hx1.has zcv
      have c1_3 : w1.cell? ⟨w.heap.size + 1, 3, none⟩ = some (.int .i64 Q) := hx1.has zcv
      have z1 := hx1.size
      try simp at z1
      have lt_c0_c1 : w.heap.size < w.heap.size + 1 := by omega
      have ne_c0_c1 : ¬ w.heap.size = w.heap.size + 1 := by omega
      have ne_c1_c0 : ¬ w.heap.size + 1 = w.heap.size := by omega
      have zq := zrc (show w.heap.size < w1.heap.size from by omega)
      obtain ⟨rc0, rc0a, rc0b, rc0c, rc0n⟩ := zq
      have zq := zrc (show w.heap.size + 1 < w1.heap.size from by omega)
      obtain ⟨rc1, rc1a, rc1b, rc1c, rc1n⟩ := zq
      have X1 : Hid (Ext w w1) := Lib.hid (Ext.trans zxt hx1)
      clear hx1 z1
      go_wp2_with fail
      (with_reducible refine (C3.out _ zxt).mono ?_)
      rintro e w2 ⟨k, rfl, hkx, hkl, hx2⟩
      replace c0_0 := zh hx2 c0_0
      replace c0_1 := zh hx2 c0_1
      have z2 := hx2.size
      try simp at z2
      have zq := zrc (show w.heap.size < w2.heap.size from by omega)
      clear rc0 rc0a rc0b rc0c rc0n
      obtain ⟨rc0, rc0a, rc0b, rc0c, rc0n⟩ := zq
      have X2 : Hid (Ext w w2) := Lib.hid (Ext.trans zxt hx2)
      clear c1_2 c1_3 c1_0 c1_1 rc1 rc1a rc1b rc1c rc1n X1 hx2 z2
      have hpn : (k : Int) < (n2 : Int) := by have := HNL.out; omega
      have hk0 : ¬ (k : Int) < 0 := by omega
      have x_0 := X2.out.has (HC1.out k _ hkx 0 _ rfl)
      have x_1 := X2.out.has (HC1.out k _ hkx 1 _ rfl)
      have x_2 := X2.out.has (HC1.out k _ hkx 2 _ rfl)
      have x_3 := X2.out.has (HC1.out k _ hkx 3 _ rfl)
      have x_4 := X2.out.has (HC1.out k _ hkx 4 _ rfl)
      have x_5 := X2.out.has (HC1.out k _ hkx 5 _ rfl)
      simp only at x_0 x_1 x_2 x_3 x_4 x_5
      rw [Nat.add_zero] at x_0
      rw [← Nat.add_assoc] at x_1 x_2 x_3 x_4 x_5
      go_wp2_with fail
      refine wp_region_held_drew (S := fun w' => w'.cell? ⟨w.heap.size, 0, none⟩ = some (.slice A n c) ∧ w'.cell? ⟨w.heap.size, 1, none⟩ = some (.slice (some ⟨b1, o1, none⟩) n2 c2) ∧ w'.cell? ⟨b1, o1 + k * 6, none⟩ = some (.int .i64 po) ∧ w'.cell? ⟨b1, o1 + k * 6 + 1, none⟩ = some (.int .i64 pv) ∧ w'.cell? ⟨b1, o1 + k * 6 + 2, none⟩ = some (.int .i64 ps_) ∧ w'.cell? ⟨b1, o1 + k * 6 + 3, none⟩ = some (.int .i64 pp) ∧ w'.cell? ⟨b1, o1 + k * 6 + 4, none⟩ = some (.int .i64 pf) ∧ w'.cell? ⟨b1, o1 + k * 6 + 5, none⟩ = some (.int .u64 ph)) (by kernel_rfl) (by first | exact ⟨c0_0, c0_1, x_0, x_1, x_2, x_3, x_4, x_5⟩ | (simp [go_sem, World.cell?_alloc_past, *]; done)) (fun hHeld => ?_)
      refine' zt 0 ?_
      refine' zt 1 ?_
      refine' zt 2 ?_
      refine' zt 3 ?_
      refine' zt 4 ?_
      refine' zt 5 ?_
      refine' zn 6 (fun K hK => ?_)
      go_simp
      (with_reducible refine (C4.out _ zxt).mono ?_)
      rintro e w3 ⟨rfl, hx3⟩
      replace c0_0 := zh hx3 c0_0
      replace c0_1 := zh hx3 c0_1
      replace x_0 : w3.cell? ⟨b1, o1 + k * 6, none⟩ = some (.int .i64 po) := hx3.has zcv
      replace x_1 : w3.cell? ⟨b1, o1 + k * 6 + 1, none⟩ = some (.int .i64 pv) := hx3.has zcv
      replace x_2 : w3.cell? ⟨b1, o1 + k * 6 + 2, none⟩ = some (.int .i64 ps_) := hx3.has zcv
      replace x_3 : w3.cell? ⟨b1, o1 + k * 6 + 3, none⟩ = some (.int .i64 pp) := hx3.has zcv
      replace x_4 : w3.cell? ⟨b1, o1 + k * 6 + 4, none⟩ = some (.int .i64 pf) := hx3.has zcv
      replace x_5 : w3.cell? ⟨b1, o1 + k * 6 + 5, none⟩ = some (.int .u64 ph) := hx3.has zcv
      have z3 := hx3.size
      try simp at z3
      have ne_c0_x : ¬ w.heap.size = b1 := by omega
      have ne_x_c0 : ¬ b1 = w.heap.size := by omega
      have zq := zrc (show w.heap.size < w3.heap.size from by omega)
      clear rc0 rc0a rc0b rc0c rc0n
      obtain ⟨rc0, rc0a, rc0b, rc0c, rc0n⟩ := zq
      have zq := zrc (show b1 < w3.heap.size from by omega)
      obtain ⟨rx, rxa, rxb, rxc, rxn⟩ := zq
      have X3 : Hid (Ext w w3) := Lib.hid (Ext.trans zxt hx3)
      clear X2 hx3 z3
      refine hK.out _ _ (by (first | exact ⟨c0_0, c0_1, x_0, x_1, x_2, x_3, x_4, x_5⟩ | (simp [go_sem, World.cell?_alloc_past, *]; done))) (fun hHeld => ?_); clear hK K; try simp only [Act.put, List.setIfInBounds_toArray, List.set_cons_zero, List.set_cons_succ]
      refine' zt 7 ?_
      refine' zt 8 ?_
      refine wpAnyH_done (by kernel_rfl) ?_ _
      go_wp2_with fail
      refine bodyPost_ret (v := .tuple #[.int .u64 G1, .int .i64 0]) (by simp [results, Tryz.results35, go_sem, World.cell?_alloc_past, *]; try rfl) rfl ⟨rfl, ?_⟩
      exact zxt
  · rw [if_pos he] at hG
    obtain ⟨rfl, rfl⟩ : G1 = 0 ∧ G2 = E := by simpa using hG
    have heb : (G2 != 0) = true := by simpa using he
    clear h h2 hw hw2 hE hG C2
    go_enter Tryz.func35, Tryz.ntmps35
    go_wp2_with fail
    (with_reducible refine (C1.out _ zxt).mono ?_)
    rintro e w1 ⟨rfl, hx1⟩
    have z1 := hx1.size
    try simp at z1
    have X1 : Hid (Ext w w1) := Lib.hid (Ext.trans zxt hx1)
    clear hx1 z1
    go_wp2_with fail
    refine bodyPost_ret (v := .tuple #[.int .u64 0, .int .i64 G2]) (by simp [results, Tryz.results35, go_sem, World.cell?_alloc_past]; try rfl) rfl ⟨rfl, ?_⟩
    exact zxt
set_option maxRecDepth 100000 in
set_option maxHeartbeats 4000000 in
theorem r13All_any (n c n2 c2 : Nat) (A A2 : Option Addr) (cl ps : List (Int × Int × Int × Int × Int × Int)) (w : World) (h : Sl w 6 A n c (cl.flatMap clsC)) (h2 : Sl w 6 A2 n2 c2 (ps.flatMap posC)) (hw : ∀ x ∈ cl, WdC x) (hw2 : ∀ x ∈ ps, WdP x) :
    Calls Tryz.prog 39 #[.agg #[.slice A n c, .slice A2 n2 c2]] w fun r w' => r = .returned (.tuple #[.int .u64 (allT cl ps), .int .i64 (chkH cl ps)]) ∧ Ext w w' := by
  have C1 := Lib.hid (fun (w' : World) (hx : Ext w w') => r13Check_any n c n2 c2 A A2 cl ps w' (h.ext hx) (h2.ext hx) hw hw2)
  obtain ⟨E, hE⟩ : ∃ E, E = chkH cl ps := ⟨_, rfl⟩
  rw [← hE] at C1
  obtain ⟨G, hG⟩ : ∃ G, G = allT cl ps := ⟨_, rfl⟩
  rw [← hG, ← hE]
  unfold allT at hG
  rw [← hE] at hG
  have C2 := Lib.hid (fun (w' : World) (hx : Ext w w') => r13all_any n c n2 c2 A A2 cl w' (h.ext hx) hw)
  by_cases he : E = 0
  · have hk := (chkH_iff cl ps).1 (hE.symm.trans he)
    rw [if_pos he] at hG
    have hc : capT cl = G := by
      unfold capT
      rw [if_pos (by have := hk.tot; omega), hG]
    rw [hc] at C2
    subst he
    clear h h2 hw hw2 hE hk hG hc
    go_enter Tryz.func39, Tryz.ntmps39
    go_wp2_with fail
    (with_reducible refine (C1.out _ zxt).mono ?_)
    rintro e w1 ⟨rfl, hx1⟩
    have c0_0 : w1.cell? ⟨w.heap.size, 0, none⟩ = some (.slice A n c) := hx1.has zcv
    have c0_1 : w1.cell? ⟨w.heap.size, 1, none⟩ = some (.slice A2 n2 c2) := hx1.has zcv
    have z1 := hx1.size
    try simp at z1
    have zq := zrc (show w.heap.size < w1.heap.size from by omega)
    obtain ⟨rc0, rc0a, rc0b, rc0c, rc0n⟩ := zq
    have X1 : Hid (Ext w w1) := Lib.hid (Ext.trans zxt hx1)
    clear hx1 z1
    go_wp2_with fail
    (with_reducible refine (C2.out _ zxt).mono ?_)
    rintro e w2 ⟨rfl, hx2⟩
    have z2 := hx2.size
    try simp at z2
    have X2 : Hid (Ext w w2) := Lib.hid (Ext.trans zxt hx2)
    clear c0_1 c0_0 rc0 rc0a rc0b rc0c rc0n X1 hx2 z2
    go_wp2_with fail
    refine bodyPost_ret (v := .tuple #[.int .u64 G, .int .i64 0]) (by simp [results, Tryz.results39, go_sem, World.cell?_alloc_past]; try rfl) rfl ⟨rfl, ?_⟩
    exact zxt
  · rw [if_neg he] at hG
    subst hG
    have heb : (E != 0) = true := by simpa using he
    clear h h2 hw hw2 hE C2
    go_enter Tryz.func39, Tryz.ntmps39
    go_wp2_with fail
    (with_reducible refine (C1.out _ zxt).mono ?_)
    rintro e w1 ⟨rfl, hx1⟩
    have z1 := hx1.size
    try simp at z1
    have X1 : Hid (Ext w w1) := Lib.hid (Ext.trans zxt hx1)
    clear hx1 z1
    go_wp2_with fail
    refine bodyPost_ret (v := .tuple #[.int .u64 0, .int .i64 E]) (by simp [results, Tryz.results39, go_sem, World.cell?_alloc_past]; try rfl) rfl ⟨rfl, ?_⟩
    exact zxt
set_option maxRecDepth 100000 in
set_option maxHeartbeats 4000000 in
theorem r13Tokens_any (n c n2 c2 : Nat) (A A2 : Option Addr) (cl ps : List (Int × Int × Int × Int × Int × Int)) (v : Int) (w : World) (h : Sl w 6 A n c (cl.flatMap clsC)) (h2 : Sl w 6 A2 n2 c2 (ps.flatMap posC)) (hw : ∀ x ∈ cl, WdC x) (hw2 : ∀ x ∈ ps, WdP x) :
    Calls Tryz.prog 38 #[.agg #[.slice A n c, .slice A2 n2 c2], .int .i64 v] w fun r w' => r = .returned (.tuple #[.int .u64 (tokH cl ps v), .int .i64 (chkH cl ps)]) ∧ Ext w w' := by
  have hll := h.rlen clsC_len (by decide)
  have hsm := h.small
  have C1 := Lib.hid (fun (w' : World) (hx : Ext w w') => r13Check_any n c n2 c2 A A2 cl ps w' (h.ext hx) (h2.ext hx) hw hw2)
  obtain ⟨E, hE⟩ : ∃ E, E = chkH cl ps := ⟨_, rfl⟩
  rw [← hE] at C1
  have HS := Lib.hid h
  have HLL := Lib.hid hll
  obtain ⟨G, hG⟩ : ∃ G, G = tokH cl ps v := ⟨_, rfl⟩
  rw [← hG, ← hE]
  unfold tokH at hG
  rw [← hE] at hG
  by_cases he : E = 0
  · rw [if_pos he] at hG
    have hM : G ≤ 4611686018427387904 := by rw [hG]; exact Int.le_trans (addF_mono (tokF_le hw v)) (chkH_tot (hE.symm.trans he)).2.2
    have HR := Lib.hid hG
    subst he
    have HM := Lib.hid (show ∀ k, 0 ≤ tokT (cl.take k) v ∧ tokT (cl.take k) v ≤ 4611686018427387904 from fun k => ⟨addF_nn (fun y hy => tokF_nn hw v y (List.mem_of_mem_take hy)), Int.le_trans (addF_le (tokF_nn hw v) k) (by rw [show addF (tokF v) cl = G from hG.symm]; exact hM)⟩)
    have HW := Lib.hid hw
    clear h h2 hw hw2 hE hG hM hll
    go_enter Tryz.func38, Tryz.ntmps38
    go_wp2_with fail
    (with_reducible refine (C1.out _ zxt).mono ?_)
    rintro e w1 ⟨rfl, hx1⟩
    have c0_0 : w1.cell? ⟨w.heap.size, 0, none⟩ = some (.slice A n c) := hx1.has zcv
    have c0_1 : w1.cell? ⟨w.heap.size, 1, none⟩ = some (.slice A2 n2 c2) := hx1.has zcv
    have z1 := hx1.size
    try simp at z1
    have zq := zrc (show w.heap.size < w1.heap.size from by omega)
    obtain ⟨rc0, rc0a, rc0b, rc0c, rc0n⟩ := zq
    have X1 : Hid (Ext w w1) := Lib.hid (Ext.trans zxt hx1)
    clear hx1 z1
    go_wp2_with fail
    go_loopg [7, 8] n (fun gh a i wx => gh ≤ n ∧ i = .int .i64 ((n - gh : Nat) : Int) ∧ a = .int .u64 (tokT (cl.take (n - gh)) v) ∧ (wx.cell? ⟨w.heap.size, 0, none⟩ = some (.slice A n c) ∧ wx.cell? ⟨w.heap.size, 1, none⟩ = some (.slice A2 n2 c2)) ∧ Hid (Ext w wx))
    case atStart => exact ⟨Nat.le_refl _, by simp, by rw [Nat.sub_self]; rfl, by first | exact ⟨c0_0, c0_1⟩ | exact ⟨by simp [go_sem, World.cell?_alloc_past, c0_0, c0_1, rc0, rc0a, rc0b, rc0c, rc0n], by simp [go_sem, World.cell?_alloc_past, c0_0, c0_1, rc0, rc0a, rc0b, rc0c, rc0n]⟩, Lib.hid zxt⟩
    case round =>
      obtain ⟨hg, hi, ha, ⟨b_0, b_1⟩, XR⟩ := hrel
      have hlb := cell_lt b_0
      obtain ⟨k, hk⟩ : ∃ k, k = n - gk := ⟨_, rfl⟩
      rw [← hk] at hi ha
      subst hi
      obtain ⟨t, ht⟩ : ∃ t, t = tokT (cl.take k) v := ⟨_, rfl⟩
      rw [← ht] at ha
      subst ha
      by_cases hz : gk = 0
      · have hkn : ¬ (k : Int) < (n : Int) := by omega
        have hTR : t = G := by rw [ht, HR.out, List.take_of_length_le (by have := HLL.out; omega)]
        subst hTR
        clear hk hg hz ht
        go_wp2
        refine bodyPost_ret (v := .tuple #[.int .u64 t, .int .i64 0]) (by simp [results, Tryz.results38]; try rfl) rfl ⟨rfl, XR.out⟩
      · have hkn : (k : Int) < (n : Int) := by omega
        have hkl : k < cl.length := by have := HLL.out; omega
        have HSr := Lib.hid (HS.out.ext XR.out)
        obtain ⟨b1, o1, rfl, hb1, hc_x⟩ := HSr.out.rec_ clsC_len (show 0 < n from by omega)
        obtain ⟨xw, hl_x⟩ : ∃ x, cl[k]? = some x := ⟨_, List.getElem?_eq_getElem (by omega)⟩
        have x_0 := hc_x (k) xw hl_x 0 _ rfl
        have x_1 := hc_x (k) xw hl_x 1 _ rfl
        have x_2 := hc_x (k) xw hl_x 2 _ rfl
        have x_3 := hc_x (k) xw hl_x 3 _ rfl
        have x_4 := hc_x (k) xw hl_x 4 _ rfl
        have x_5 := hc_x (k) xw hl_x 5 _ rfl
        obtain ⟨xv, xs, xp, xf, xt, xh⟩ := xw
        simp only at x_0 x_1 x_2 x_3 x_4 x_5
        rw [Nat.add_zero] at x_0
        rw [← Nat.add_assoc] at x_1 x_2 x_3 x_4 x_5
        have hb0 := (HM.out k).1
        have hb2 := (HM.out (k + 1)).2
        have hxt : 0 ≤ xt := (HW.out _ (List.mem_of_getElem? hl_x)).1.1
        have hst : tokT (cl.take (k + 1)) v = t + tokF v (xv, xs, xp, xf, xt, xh) := by rw [ht]; exact addF_take (tokF v) hl_x
        rw [hst] at hb2
        rw [← ht] at hb0
        have HK := Lib.hid (And.intro hk (And.intro hg hz))
        have hb1s : ¬ b1 = wr.heap.size := by omega
        clear hk hg hz hkl hl_x hc_x HSr ht
        by_cases hq : xv = v
        · have hqb : decide (xv = v) = true := decide_eq_true hq
          have hqc : (xv == v) = true := by simpa using hq
          have hsq : tokF v (xv, xs, xp, xf, xt, xh) = xt := if_pos hq
          rw [hsq] at hst hb2
          have hwr : IntKind.u64.wrap (t + xt) = t + xt := IntWalk.u64_in _ (by omega)
          have HT := Lib.hid hst
          clear hst hsq hq
          go_wp2_with fail
          go_roundg (gk - 1)
          case measure => have := HK.out; omega
          case rel => exact ⟨by have := HK.out; omega, num_eq (by have := HK.out; omega), num_eq (by rw [show n - (gk - 1) = k + 1 from by have := HK.out; omega]; exact HT.out.symm), by first | exact ⟨b_0, b_1⟩ | exact ⟨by simp [go_sem, World.cell?_alloc_past, *], by simp [go_sem, World.cell?_alloc_past, *]⟩, Lib.hid zxt⟩
        · have hqb : decide (xv = v) = false := decide_eq_false hq
          have hqc : (xv == v) = false := by simpa using hq
          have hsq : tokF v (xv, xs, xp, xf, xt, xh) = 0 := if_neg hq
          rw [hsq, Int.add_zero] at hst
          have HT := Lib.hid hst
          clear hst hsq hq hb2
          go_wp2_with fail
          go_roundg (gk - 1)
          case measure => have := HK.out; omega
          case rel => exact ⟨by have := HK.out; omega, num_eq (by have := HK.out; omega), num_eq (by rw [show n - (gk - 1) = k + 1 from by have := HK.out; omega]; exact HT.out.symm), by first | exact ⟨b_0, b_1⟩ | exact ⟨by simp [go_sem, World.cell?_alloc_past, *], by simp [go_sem, World.cell?_alloc_past, *]⟩, Lib.hid zxt⟩
  · rw [if_neg he] at hG
    subst hG
    have heb : (E != 0) = true := by simpa using he
    clear h h2 hw hw2 hE hll
    go_enter Tryz.func38, Tryz.ntmps38
    go_wp2_with fail
    (with_reducible refine (C1.out _ zxt).mono ?_)
    rintro e w1 ⟨rfl, hx1⟩
    have z1 := hx1.size
    try simp at z1
    have X1 : Hid (Ext w w1) := Lib.hid (Ext.trans zxt hx1)
    clear hx1 z1
    go_wp2_with fail
    refine bodyPost_ret (v := .tuple #[.int .u64 0, .int .i64 E]) (by simp [results, Tryz.results38, go_sem, World.cell?_alloc_past]; try rfl) rfl ⟨rfl, ?_⟩
    exact zxt
set_option maxRecDepth 100000 in
set_option maxHeartbeats 4000000 in
theorem r13Own_any (n c n2 c2 : Nat) (A A2 : Option Addr) (cl ps : List (Int × Int × Int × Int × Int × Int)) (O v : Int) (w : World) (h : Sl w 6 A n c (cl.flatMap clsC)) (h2 : Sl w 6 A2 n2 c2 (ps.flatMap posC)) (hw : ∀ x ∈ cl, WdC x) (hw2 : ∀ x ∈ ps, WdP x) :
    Calls Tryz.prog 37 #[.agg #[.slice A n c, .slice A2 n2 c2], .int .i64 O, .int .i64 v] w fun r w' => r = .returned (.tuple #[.int .u64 (ownH cl ps O v).1, .int .i64 (ownH cl ps O v).2]) ∧ Ext w w' := by
  have hll := h2.rlen posC_len (by decide)
  have hsm := h2.small
  have C1 := Lib.hid (fun (w' : World) (hx : Ext w w') => r13Check_any n c n2 c2 A A2 cl ps w' (h.ext hx) (h2.ext hx) hw hw2)
  obtain ⟨E, hE⟩ : ∃ E, E = chkH cl ps := ⟨_, rfl⟩
  rw [← hE] at C1
  have HS := Lib.hid h
  have HT := Lib.hid h2
  have HLL := Lib.hid hll
  obtain ⟨G, hG⟩ : ∃ G, G = ownH cl ps O v := ⟨_, rfl⟩
  rw [← hG]
  obtain ⟨G1, G2⟩ := G
  unfold ownH at hG
  rw [← hE] at hG
  by_cases he : E = 0
  · rw [if_neg (by simpa using he)] at hG
    obtain ⟨hG1, rfl⟩ : G1 = ownF cl O v ps ∧ G2 = 0 := by simpa using hG
    have hk := (chkH_iff cl ps).1 (hE.symm.trans he)
    have HR := Lib.hid hG1
    have HWV := Lib.hid (fun x (hx : x ∈ ps) => wvl_ok hk hw hw2 hx)
    subst he
    have HW := Lib.hid hw
    have HW2 := Lib.hid hw2
    clear h h2 hw hw2 hE hG hG1 hk hll
    go_enter Tryz.func37, Tryz.ntmps37
    go_wp2_with fail
    (with_reducible refine (C1.out _ zxt).mono ?_)
    rintro e w1 ⟨rfl, hx1⟩
    have c0_0 : w1.cell? ⟨w.heap.size, 0, none⟩ = some (.slice A n c) := hx1.has zcv
    have c0_1 : w1.cell? ⟨w.heap.size, 1, none⟩ = some (.slice A2 n2 c2) := hx1.has zcv
    have z1 := hx1.size
    try simp at z1
    have zq := zrc (show w.heap.size < w1.heap.size from by omega)
    obtain ⟨rc0, rc0a, rc0b, rc0c, rc0n⟩ := zq
    have X1 : Hid (Ext w w1) := Lib.hid (Ext.trans zxt hx1)
    clear hx1 z1
    go_wp2_with fail
    go_loopg [9, 10] n2 (fun gh a i wx => gh ≤ n2 ∧ i = .int .i64 ((n2 - gh : Nat) : Int) ∧ a = .int .u64 (ownF cl O v (ps.take (n2 - gh))) ∧ (wx.cell? ⟨w.heap.size, 0, none⟩ = some (.slice A n c) ∧ wx.cell? ⟨w.heap.size, 1, none⟩ = some (.slice A2 n2 c2)) ∧ Hid (Ext w wx))
    case atStart => exact ⟨Nat.le_refl _, by simp, by rw [Nat.sub_self]; rfl, by first | exact ⟨c0_0, c0_1⟩ | exact ⟨by simp [go_sem, World.cell?_alloc_past, c0_0, c0_1, rc0, rc0a, rc0b, rc0c, rc0n], by simp [go_sem, World.cell?_alloc_past, c0_0, c0_1, rc0, rc0a, rc0b, rc0c, rc0n]⟩, Lib.hid zxt⟩
    case round =>
      obtain ⟨hg, hi, ha, ⟨b_0, b_1⟩, XR⟩ := hrel
      have hlb := cell_lt b_0
      obtain ⟨k, hk⟩ : ∃ k, k = n2 - gk := ⟨_, rfl⟩
      rw [← hk] at hi ha
      subst hi
      obtain ⟨t, ht⟩ : ∃ t, t = ownF cl O v (ps.take k) := ⟨_, rfl⟩
      rw [← ht] at ha
      subst ha
      by_cases hz : gk = 0
      · have hkn : ¬ (k : Int) < (n2 : Int) := by omega
        have hTR : t = G1 := by rw [ht, HR.out, List.take_of_length_le (by have := HLL.out; omega)]
        subst hTR
        clear hk hg hz ht
        go_wp2
        refine bodyPost_ret (v := .tuple #[.int .u64 t, .int .i64 0]) (by simp [results, Tryz.results37]; try rfl) rfl ⟨rfl, XR.out⟩
      · have hkn : (k : Int) < (n2 : Int) := by omega
        have hkl : k < ps.length := by have := HLL.out; omega
        have HSr := Lib.hid (HT.out.ext XR.out)
        obtain ⟨b1, o1, rfl, hb1, hc_x⟩ := HSr.out.rec_ posC_len (show 0 < n2 from by omega)
        obtain ⟨xw, hl_x⟩ : ∃ x, ps[k]? = some x := ⟨_, List.getElem?_eq_getElem (by omega)⟩
        have x_0 := hc_x (k) xw hl_x 0 _ rfl
        have x_1 := hc_x (k) xw hl_x 1 _ rfl
        have x_2 := hc_x (k) xw hl_x 2 _ rfl
        have x_3 := hc_x (k) xw hl_x 3 _ rfl
        have x_4 := hc_x (k) xw hl_x 4 _ rfl
        have x_5 := hc_x (k) xw hl_x 5 _ rfl
        obtain ⟨po, pv, ps_, pp, pf, ph⟩ := xw
        simp only at x_0 x_1 x_2 x_3 x_4 x_5
        rw [Nat.add_zero] at x_0
        rw [← Nat.add_assoc] at x_1 x_2 x_3 x_4 x_5
        have hwv := HWV.out _ (List.mem_of_getElem? hl_x)
        change worV (fndT cl [pv, ps_, pp, pf]) (fndS cl [pv, ps_, pp, pf]) ph = _ at hwv
        have hxN : Word ph := HW2.out _ (List.mem_of_getElem? hl_x)
        have C4 := Lib.hid (fun (w' : World) (hx : Ext w w') => r13worth_any n c n2 c2 A (some ⟨b1, o1, none⟩) cl po pv ps_ pp pf ph w' (HS.out.ext hx) HW.out hxN)
        rw [hwv] at C4
        have hst : ownF cl O v (ps.take (k + 1)) = if po = O ∧ pv = v then IntKind.u64.wrap (t + wvl cl (po, pv, ps_, pp, pf, ph)) else t := by rw [take_one hl_x, ownF_snoc, ← ht]
        obtain ⟨G3, hG3⟩ : ∃ g, g = wvl cl (po, pv, ps_, pp, pf, ph) := ⟨_, rfl⟩
        rw [← hG3] at C4 hst
        have HK := Lib.hid (And.intro hk (And.intro hg hz))
        have hb1s : ¬ b1 = wr.heap.size := by omega
        have hbs : ¬ w.heap.size = wr.heap.size := by omega
        clear hk hg hz hkl hl_x hc_x HSr ht hwv hxN hG3
        by_cases hq0 : po = O
        · have hq0b : (po == O) = true := by simp [hq0]
          by_cases hq1 : pv = v
          · have hq1b : (pv == v) = true := by simp [hq1]
            have HST := Lib.hid (hst.trans (if_pos ⟨hq0, hq1⟩))
            clear hst hq1 hq0
            go_wp2_with fail
            (with_reducible refine (C4.out _ zxt).mono ?_)
            rintro e w11 ⟨rfl, hx11⟩
            replace b_0 : w11.cell? ⟨w.heap.size, 0, none⟩ = some (.slice A n c) := hx11.has zcv
            replace b_1 : w11.cell? ⟨w.heap.size, 1, none⟩ = some (.slice (some ⟨b1, o1, none⟩) n2 c2) := hx11.has zcv
            have z11 := hx11.size
            try simp at z11
            have zq := zrc (show w.heap.size < w11.heap.size from by omega)
            obtain ⟨rb, rba, rbb, rbc, rbn⟩ := zq
            have X11 : Hid (Ext w w11) := Lib.hid (Ext.trans zxt hx11)
            clear x_5 x_1 x_3 x_2 x_0 x_4 XR hx11 z11
            go_wp2_with fail
            go_roundg (gk - 1)
            case measure => have := HK.out; omega
            case rel => exact ⟨by have := HK.out; omega, num_eq (by have := HK.out; omega), num_eq (by rw [show n2 - (gk - 1) = k + 1 from by have := HK.out; omega]; exact HST.out.symm), by first | exact ⟨b_0, b_1⟩ | exact ⟨by simp [go_sem, World.cell?_alloc_past, *], by simp [go_sem, World.cell?_alloc_past, *]⟩, Lib.hid zxt⟩
          · have hq1b : (pv == v) = false := by simpa using hq1
            have HST := Lib.hid (hst.trans (if_neg (fun hh => hq1 hh.2)))
            clear hst
            go_wp2_with fail
            go_roundg (gk - 1)
            case measure => have := HK.out; omega
            case rel => exact ⟨by have := HK.out; omega, num_eq (by have := HK.out; omega), num_eq (by rw [show n2 - (gk - 1) = k + 1 from by have := HK.out; omega]; exact HST.out.symm), by first | exact ⟨b_0, b_1⟩ | exact ⟨by simp [go_sem, World.cell?_alloc_past, *], by simp [go_sem, World.cell?_alloc_past, *]⟩, Lib.hid zxt⟩
        · have hq0b : (po == O) = false := by simpa using hq0
          have HST := Lib.hid (hst.trans (if_neg (fun hh => hq0 hh.1)))
          clear hst
          go_wp2_with fail
          go_roundg (gk - 1)
          case measure => have := HK.out; omega
          case rel => exact ⟨by have := HK.out; omega, num_eq (by have := HK.out; omega), num_eq (by rw [show n2 - (gk - 1) = k + 1 from by have := HK.out; omega]; exact HST.out.symm), by first | exact ⟨b_0, b_1⟩ | exact ⟨by simp [go_sem, World.cell?_alloc_past, *], by simp [go_sem, World.cell?_alloc_past, *]⟩, Lib.hid zxt⟩
  · rw [if_pos he] at hG
    obtain ⟨rfl, rfl⟩ : G1 = 0 ∧ G2 = E := by simpa using hG
    have heb : (G2 != 0) = true := by simpa using he
    clear h h2 hw hw2 hE hG hll
    go_enter Tryz.func37, Tryz.ntmps37
    go_wp2_with fail
    (with_reducible refine (C1.out _ zxt).mono ?_)
    rintro e w1 ⟨rfl, hx1⟩
    have z1 := hx1.size
    try simp at z1
    have X1 : Hid (Ext w w1) := Lib.hid (Ext.trans zxt hx1)
    clear hx1 z1
    go_wp2_with fail
    refine bodyPost_ret (v := .tuple #[.int .u64 0, .int .i64 G2]) (by simp [results, Tryz.results37, go_sem, World.cell?_alloc_past]; try rfl) rfl ⟨rfl, ?_⟩
    exact zxt
end
section
open Go.RowKit Go.ChangeShapes Go.WideShapes Go.Deep Go.Joins
/-- the classes that backed a validator at a height -/
def expF (cl : List (Int × Int × Int × Int × Int × Int)) (v a : Int) : List (Int × Int × Int × Int × Int × Int) := cl.filter (fun c => decide (1 ≤ a ∧ a ≤ 4294967296) && (decide (0 ≤ v ∧ v < 32) && bkC c v a))
def expH (cl ps : List (Int × Int × Int × Int × Int × Int)) (v a : Int) : List (Int × Int × Int × Int × Int × Int) := if chkH cl ps ≠ 0 then [] else expF cl v a
theorem expF_step {cl : List (Int × Int × Int × Int × Int × Int)} {v a : Int} {k : Nat} {c : (Int × Int × Int × Int × Int × Int)} (h : cl[k]? = some c) : expF (cl.take (k + 1)) v a = expF (cl.take k) v a ++ if (decide (1 ≤ a ∧ a ≤ 4294967296) && (decide (0 ≤ v ∧ v < 32) && bkC c v a)) = true then [c] else [] := by
  unfold expF
  rw [take_one h, List.filter_append]
  congr 1
  cases hb : (decide (1 ≤ a ∧ a ≤ 4294967296) && (decide (0 ≤ v ∧ v < 32) && bkC c v a))
  · simp only [List.filter_cons, List.filter_nil, hb]
  · simp only [List.filter_cons, List.filter_nil, hb]
def RetE (L : List (Int × Int × Int × Int × Int × Int)) (E : Int) (w : World) (e : Ending) (w' : World) : Prop := ∃ A c, e = .returned (.tuple #[.slice A L.length c, .int .i64 E]) ∧ OwnCls w' w.heap.size (.slice A L.length c) L.length L ∧ Ext w w'
theorem expF_len (cl : List (Int × Int × Int × Int × Int × Int)) (v a : Int) : (expF cl v a).length ≤ cl.length := List.length_filter_le ..
set_option maxRecDepth 100000 in
set_option maxHeartbeats 4000000 in
theorem hExposed_any (n c n2 c2 : Nat) (A A2 : Option Addr) (cl ps : List (Int × Int × Int × Int × Int × Int)) (v a : Int) (w : World) (h : Sl w 6 A n c (cl.flatMap clsC)) (h2 : Sl w 6 A2 n2 c2 (ps.flatMap posC)) (hn : n < 1099511000) (hn2 : n2 < 1099511627776) (hw : ∀ x ∈ cl, WdC x) (hw2 : ∀ x ∈ ps, WdP x) :
    Calls Tryz.prog 31 #[.agg #[.slice A n c, .slice A2 n2 c2], .int .i64 v, .int .i64 a] w (RetE (expH cl ps v a) (chkH cl ps) w) := by
  obtain ⟨iCls, iCls_0, iCls_1, iCls_2, iCls_3⟩ := info_parts cls_info
  have hll := h.rlen clsC_len (by decide)
  have C1 := Lib.hid (fun (w' : World) (hx : Ext w w') => hCheck_any n c n2 c2 A A2 cl ps w' (h.ext hx) (h2.ext hx) (by omega) hn2 hw hw2)
  have HLL := Lib.hid hll
  obtain ⟨R, hR⟩ : ∃ R, R = expH cl ps v a := ⟨_, rfl⟩
  rw [← hR]
  unfold expH at hR
  obtain ⟨E, hE⟩ : ∃ E, E = chkH cl ps := ⟨_, rfl⟩
  rw [← hE] at C1 hR ⊢
  by_cases he : ¬ E = 0
  · rw [if_pos he] at hR
    subst hR
    have heb : (E != 0) = true := by simpa using he
    clear h h2 hw hw2 hE hn hn2 hll HLL
    go_enter Tryz.func31, Tryz.ntmps31
    go_wp2_with fail
    (with_reducible refine (C1.out _ zxt).mono ?_)
    rintro e w1 ⟨rfl, hx1⟩
    have z1 := hx1.size
    try simp at z1
    have X1 : Hid (Ext w w1) := Lib.hid (Ext.trans zxt hx1)
    clear hx1
    go_wp2_with fail
    refine bodyPost_ret (v := .tuple #[.slice none 0 0, .int .i64 E]) (by simp [results, Tryz.results31, go_sem, World.cell?_alloc_past]; try rfl) rfl ⟨none, 0, rfl, OwnCls.nil _ _, ?_⟩
    exact zxt
  replace he : E = 0 := by omega
  rw [if_neg (by omega)] at hR
  have HR := Lib.hid hR
  subst he
  have C2 := Lib.hid (fun w => hheight_any a w)
  have C3 := Lib.hid (fun w => hvalidator_any v w)
  have HEX := Lib.hid (fun (k : Nat) (x : (Int × Int × Int × Int × Int × Int)) (hx : cl[k]? = some x) => expF_step (v := v) (a := a) hx)
  obtain ⟨HB, hHB⟩ : ∃ B, B = decide (1 ≤ a ∧ a ≤ 4294967296) := ⟨_, rfl⟩
  obtain ⟨VB, hVB⟩ : ∃ B, B = decide (0 ≤ v ∧ v < 32) := ⟨_, rfl⟩
  rw [← hHB] at C2 HEX
  rw [← hVB] at C3 HEX
  have HS := Lib.hid h.low
  have hsm := h.small
  clear h h2 hw hw2 hE hR hHB hVB hn2 hll
  go_enter Tryz.func31, Tryz.ntmps31
  go_wp2_with fail
  (with_reducible refine (C1.out _ zxt).mono ?_)
  rintro e w1 ⟨rfl, hx1⟩
  have c0_0 : w1.cell? ⟨w.heap.size, 0, none⟩ = some (.slice A n c) := hx1.has zcv
  have z1 := hx1.size
  try simp at z1
  have zq := zrc (show w.heap.size < w1.heap.size from by omega)
  obtain ⟨rc0, rc0a, rc0b, rc0c, rc0n⟩ := zq
  replace HS := Lib.hid (HS.out.ext (Ext.trans zxt hx1))
  have X1 : Hid (Ext w w1) := Lib.hid (Ext.trans zxt hx1)
  clear hx1
  go_wp2_with fail
  go_loopg [9, 20] n (fun gh out i wx => gh ≤ n ∧ i = .int .i64 ((n - gh : Nat) : Int) ∧ ∃ (B3 : Option Addr) (d3 : Nat) (CL : List (Int × Int × Int × Int × Int × Int)), out = .slice B3 CL.length d3 ∧ Hid (CL = expF (cl.take (n - gh)) v a) ∧ Hid (OwnCls wx w.heap.size (.slice B3 CL.length d3) CL.length CL) ∧ Hid (SlB w.heap.size wx 6 A n c (cl.flatMap clsC)) ∧ w.heap.size ≤ wx.heap.size ∧ Hid (Ext w wx))
  case atStart => exact ⟨Nat.le_refl _, by simp, none, 0, [], rfl, by rw [Nat.sub_self]; exact Lib.hid (by simp [expF]), Lib.hid (OwnCls.nil _ _), Lib.hid (HS.out.ext zxt), by first | omega | (simp; done) | (simp; omega), Lib.hid zxt⟩
  case round =>
    clear HS
    obtain ⟨hg, hi, B3, d3, CL, rfl, HI, HO, HS, hBr, XR⟩ := hrel
    obtain ⟨k, hkk⟩ : ∃ k, k = n - gk := ⟨_, rfl⟩
    rw [← hkk] at hi HI
    subst hi
    by_cases hz : gk = 0
    · have hkn : ¬ (k : Int) < (n : Int) := by omega
      obtain rfl : R = CL := by rw [HR.out, HI.out, List.take_of_length_le (by have := HLL.out; omega)]
      clear hkk hg hz HI HR
      go_wp2
      refine bodyPost_ret (v := .tuple #[.slice B3 R.length d3, .int .i64 0]) (by simp [results, Tryz.results31, go_sem]; try rfl) rfl ⟨B3, d3, rfl, HO.out, XR.out⟩
    · have hkn : (k : Int) < (n : Int) := by omega
      have hkl : k < cl.length := by have := HLL.out; omega
      obtain ⟨b1, o1, rfl, hb1, hc_x⟩ := HS.out.sl.rec_ clsC_len (show 0 < n from by omega)
      obtain ⟨xw, hl_x⟩ : ∃ x, cl[k]? = some x := ⟨_, List.getElem?_eq_getElem (by omega)⟩
      have x_0 := hc_x (k) xw hl_x 0 _ rfl
      have x_1 := hc_x (k) xw hl_x 1 _ rfl
      have x_2 := hc_x (k) xw hl_x 2 _ rfl
      have x_3 := hc_x (k) xw hl_x 3 _ rfl
      have x_4 := hc_x (k) xw hl_x 4 _ rfl
      have x_5 := hc_x (k) xw hl_x 5 _ rfl
      obtain ⟨xv, xs, xp, xf, xt, xh⟩ := xw
      simp only at x_0 x_1 x_2 x_3 x_4 x_5
      rw [Nat.add_zero] at x_0
      rw [← Nat.add_assoc] at x_1 x_2 x_3 x_4 x_5
      have HE := Lib.hid (HEX.out k _ hl_x)
      have CT := Lib.hid (fun w => tBacked_any xv xs xp xf v a 0 w)
      obtain ⟨BB, hBB⟩ : ∃ B, B = bkdB xv xs xp xf v a 0 := ⟨_, rfl⟩
      rw [← hBB] at CT
      rw [show bkC (xv, xs, xp, xf, xt, xh) v a = BB from hBB.symm] at HE
      have hLL : CL.length ≤ k := by rw [HI.out]; exact Nat.le_trans (expF_len ..) (by rw [List.length_take]; omega)
      have HKK := Lib.hid (And.intro hkk (And.intro hg hz))
      have hbw := HS.out.2 (by omega) b1 o1 none rfl
      have hb1s : ¬ b1 = wr.heap.size := by omega
      have NO : Hid (∀ j, (Value.slice B3 CL.length d3).ownBlock = some j → ¬ j = wr.heap.size) := Lib.hid (fun j hj => by have h9 := own_rng HO.out j hj; omega)
      clear hl_x hc_x hBB hkk hg hz hkl
      rcases (show HB = false ∨ (HB = true ∧ VB = false) ∨ (HB = true ∧ VB = true ∧ BB = false) ∨ (HB = true ∧ VB = true ∧ BB = true) from by cases HB <;> cases VB <;> cases BB <;> simp) with rfl | ⟨rfl, rfl⟩ | ⟨rfl, rfl, rfl⟩ | ⟨rfl, rfl, rfl⟩
      · go_wp2_with fail
        (with_reducible refine (C2.out _).mono ?_)
        rintro e w_1 ⟨rfl, hs0⟩
        have hs1 := hs0.symm
        clear hs0
        subst hs1
        go_wp2_with fail
        go_roundg (gk - 1)
        case measure => have := HKK.out; omega
        case rel => exact ⟨by have := HKK.out; omega, num_eq (by have := HKK.out; omega), B3, d3, CL, rfl, by rw [show n - (gk - 1) = k + 1 from by have := HKK.out; omega]; exact Lib.hid (by rw [HI.out, HE.out]; simp), Lib.hid (show OwnCls _ (w.heap.size) _ _ _ from (show World.ownsRow _ (w.heap.size) _ _ _ _ _ from by repeat (first | exact HO.out | with_reducible refine own_box ?_ (by omega) | refine own_keep ?_ (Ext.alloc (Ext.refl _) _) | refine own_set_ne ?_ (fun j hj hh => NO.out j hj hh)))), Lib.hid zSlTel2_4, by first | omega | (simp; done) | (simp; omega), Lib.hid zxt⟩
      · go_wp2_with fail
        (with_reducible refine (C2.out _).mono ?_)
        rintro e w_1 ⟨rfl, hs0⟩
        have hs1 := hs0.symm
        clear hs0
        subst hs1
        go_wp2_with fail
        (with_reducible refine (C3.out _).mono ?_)
        rintro e w_2 ⟨rfl, hs0⟩
        have hs1 := hs0.symm
        clear hs0
        subst hs1
        go_wp2_with fail
        go_roundg (gk - 1)
        case measure => have := HKK.out; omega
        case rel => exact ⟨by have := HKK.out; omega, num_eq (by have := HKK.out; omega), B3, d3, CL, rfl, by rw [show n - (gk - 1) = k + 1 from by have := HKK.out; omega]; exact Lib.hid (by rw [HI.out, HE.out]; simp), Lib.hid (show OwnCls _ (w.heap.size) _ _ _ from (show World.ownsRow _ (w.heap.size) _ _ _ _ _ from by repeat (first | exact HO.out | with_reducible refine own_box ?_ (by omega) | refine own_keep ?_ (Ext.alloc (Ext.refl _) _) | refine own_set_ne ?_ (fun j hj hh => NO.out j hj hh)))), Lib.hid zSlTel2_4, by first | omega | (simp; done) | (simp; omega), Lib.hid zxt⟩
      · go_wp2_with fail
        (with_reducible refine (C2.out _).mono ?_)
        rintro e w_1 ⟨rfl, hs0⟩
        have hs1 := hs0.symm
        clear hs0
        subst hs1
        go_wp2_with fail
        (with_reducible refine (C3.out _).mono ?_)
        rintro e w_2 ⟨rfl, hs0⟩
        have hs1 := hs0.symm
        clear hs0
        subst hs1
        go_wp2_with fail
        (with_reducible refine (CT.out _).mono ?_)
        rintro e w51 ⟨rfl, hx51⟩
        have z51 := hx51.size
        try simp at z51
        replace HO := Lib.hid (HO.out.ext (Ext.trans zxt hx51))
        replace HS := Lib.hid (HS.out.ext (Ext.trans zxt hx51))
        have X51 : Hid (Ext w w51) := Lib.hid (Ext.trans zxt hx51)
        clear x_4 x_0 x_3 x_5 x_2 x_1 XR hx51
        go_wp2_with fail
        go_roundg (gk - 1)
        case measure => have := HKK.out; omega
        case rel => exact ⟨by have := HKK.out; omega, num_eq (by have := HKK.out; omega), B3, d3, CL, rfl, by rw [show n - (gk - 1) = k + 1 from by have := HKK.out; omega]; exact Lib.hid (by rw [HI.out, HE.out]; simp), Lib.hid (show OwnCls _ (w.heap.size) _ _ _ from (show World.ownsRow _ (w.heap.size) _ _ _ _ _ from by repeat (first | exact HO.out | with_reducible refine own_box ?_ (by omega) | refine own_keep ?_ (Ext.alloc (Ext.refl _) _) | refine own_set_ne ?_ (fun j hj hh => NO.out j hj hh)))), Lib.hid zSlTel2_4, by first | omega | (simp; done) | (simp; omega), Lib.hid zxt⟩
      · go_wp2_with fail
        (with_reducible refine (C2.out _).mono ?_)
        rintro e w_1 ⟨rfl, hs0⟩
        have hs1 := hs0.symm
        clear hs0
        subst hs1
        go_wp2_with fail
        (with_reducible refine (C3.out _).mono ?_)
        rintro e w_2 ⟨rfl, hs0⟩
        have hs1 := hs0.symm
        clear hs0
        subst hs1
        go_wp2_with fail
        (with_reducible refine (CT.out _).mono ?_)
        rintro e w71 ⟨rfl, hx71⟩
        have c0_0 : w71.cell? ⟨wr.heap.size, 0, none⟩ = some (.int .i64 xv) := hx71.has zcv
        have c0_1 : w71.cell? ⟨wr.heap.size, 1, none⟩ = some (.int .i64 xs) := hx71.has zcv
        have c0_2 : w71.cell? ⟨wr.heap.size, 2, none⟩ = some (.int .i64 xp) := hx71.has zcv
        have c0_3 : w71.cell? ⟨wr.heap.size, 3, none⟩ = some (.int .i64 xf) := hx71.has zcv
        have c0_4 : w71.cell? ⟨wr.heap.size, 4, none⟩ = some (.int .u64 xt) := hx71.has zcv
        have c0_5 : w71.cell? ⟨wr.heap.size, 5, none⟩ = some (.int .u64 xh) := hx71.has zcv
        have z71 := hx71.size
        try simp at z71
        have zq := zrc (show wr.heap.size < w71.heap.size from by omega)
        obtain ⟨rc0, rc0a, rc0b, rc0c, rc0n⟩ := zq
        replace HO := Lib.hid (HO.out.ext (Ext.trans zxt hx71))
        replace HS := Lib.hid (HS.out.ext (Ext.trans zxt hx71))
        have X71 : Hid (Ext w w71) := Lib.hid (Ext.trans zxt hx71)
        clear x_4 x_0 x_3 x_5 x_2 x_1 XR hx71
        go_wp2_with (at_builtin; refine wpList_append_slB _ rfl _ _ 22 rfl (w.heap.size) 79 iCls (.agg #[.int .i64 0, .int .i64 0, .int .i64 0, .int .i64 0, .int .u64 0, .int .u64 0]) 6 48 Tryz.underlying22 iCls_0 iCls_1 iCls_2 iCls_3 rfl (by decide) (.slice B3 CL.length d3) CL.length (CL.flatMap clsC) (by rfl) ((HO.out.ext zxt)) _ 1 _ (#[.int .i64 xv, .int .i64 xs, .int .i64 xp, .int .i64 xf, .int .u64 xt, .int .u64 xh].toList) (by first | rfl | (simp [Act.eval, go_sem]; done)) (sl_new _ 79 6 #[.int .i64 xv, .int .i64 xs, .int .i64 xp, .int .i64 xf, .int .u64 xt, .int .u64 xh] 1 rfl (by decide)) (by intro u hu; simp at hu; rcases hu with rfl | rfl | rfl | rfl | rfl | rfl <;> rfl) (by omega) (by decide) (by (try simp); omega) ?_; intro v72 w72 hown72 hx72 hn72; refine Hid.out ?_)
        refine Lib.hid ?_
        obtain ⟨A72, c72, rfl, hnil72, hO72⟩ := own_app (f := clsC) (xv, xs, xp, xf, xt, xh) hown72 rfl rfl
        obtain ⟨L72, hL72⟩ : ∃ l, l = CL ++ [(xv, xs, xp, xf, xt, xh)] := ⟨_, rfl⟩
        rw [← hL72] at hO72 ⊢
        have HL72 := Lib.hid hL72
        have hNL72 : L72.length = CL.length + 1 := by rw [hL72, List.length_append]; rfl
        clear hown72 hn72 hnil72 hL72
        have hsz72 := hx72.size
        try simp at hsz72
        have z72 := hx72.size
        try simp at z72
        have X72 : Hid (Ext w w72) := Lib.hid (have hX := (show Ext w _ from zxt); Below.trans hX (hx72.below (Ext.size hX) (fun k hk hh => by have hh2 := own_rng HO.out _ hh; omega)))
        replace HS := Lib.hid ((HS.out.ext zxt).but hx72 (fun k hk => by have hh2 := own_rng HO.out _ hk; omega))
        clear HO
        have HO := Lib.hid (show OwnCls _ (w.heap.size) _ _ _ from hO72)
        clear c0_0 c0_2 c0_3 c0_4 c0_5 c0_1 rc0 rc0a rc0b rc0c rc0n hsz72 X71 hx72
        clear hO72
        go_wp2_with fail
        go_roundg (gk - 1)
        case measure => have := HKK.out; omega
        case rel => exact ⟨by have := HKK.out; omega, num_eq (by have := HKK.out; omega), A72, c72, L72, rfl, by rw [show n - (gk - 1) = k + 1 from by have := HKK.out; omega]; exact Lib.hid (by rw [HL72.out, HI.out, HE.out]; simp), Lib.hid (show OwnCls _ (w.heap.size) _ _ _ from (show World.ownsRow _ (w.heap.size) _ _ _ _ _ from by repeat (first | exact HO.out | with_reducible refine own_box ?_ (by omega) | refine own_keep ?_ (Ext.alloc (Ext.refl _) _) | refine own_set_ne ?_ (fun j hj hh => NO.out j hj hh)))), Lib.hid zSlTel2_4, by first | omega | (simp; done) | (simp; omega), Lib.hid zxt⟩
end
section
open Go.RowKit Go.ChangeShapes Go.WideShapes Go.Deep Go.Joins
theorem ofF_step {ps : List (Int × Int × Int × Int × Int × Int)} {O : Int} {k : Nat} {x : (Int × Int × Int × Int × Int × Int)} (h : ps[k]? = some x) : ofF O (ps.take (k + 1)) = ofF O (ps.take k) ++ if x.1 = O then [x] else [] := by
  unfold ofF
  rw [take_one h, List.filter_append]
  by_cases hq : x.1 = O
  · rw [if_pos hq]; simp [hq]
  · rw [if_neg hq]; simp [hq]
theorem ofF_len (O : Int) (ps : List (Int × Int × Int × Int × Int × Int)) (k : Nat) : (ofF O (ps.take k)).length ≤ k := Nat.le_trans (List.length_filter_le ..) (by rw [List.length_take]; omega)
theorem expF_lenk (cl : List (Int × Int × Int × Int × Int × Int)) (v a : Int) (k : Nat) : (expF (cl.take k) v a).length ≤ k := Nat.le_trans (expF_len ..) (by rw [List.length_take]; omega)
theorem RetE.mk2 {L : List (Int × Int × Int × Int × Int × Int)} {E : Int} {w w' : World} {A : Option Addr} {c b : Nat} (hb : w.heap.size ≤ b) (h : OwnCls w' b (.slice A L.length c) L.length L) (hx : Ext w w') : RetE L E w (.returned (.tuple #[.slice A L.length c, .int .i64 E])) w' := ⟨A, c, rfl, own_lower h hb, hx⟩
set_option maxRecDepth 100000 in
set_option maxHeartbeats 4000000 in
theorem r13Of_any (n c n2 c2 : Nat) (A A2 : Option Addr) (cl ps : List (Int × Int × Int × Int × Int × Int)) (O : Int) (w : World) (h : Sl w 6 A n c (cl.flatMap clsC)) (h2 : Sl w 6 A2 n2 c2 (ps.flatMap posC)) (hn2 : n2 < 1099511000) (hw : ∀ x ∈ cl, WdC x) (hw2 : ∀ x ∈ ps, WdP x) :
    Calls Tryz.prog 41 #[.agg #[.slice A n c, .slice A2 n2 c2], .int .i64 O] w (RetPs (if chkH cl ps ≠ 0 then [] else ofF O ps) (chkH cl ps) w) := by
  obtain ⟨iPos, iPos_0, iPos_1, iPos_2, iPos_3⟩ := info_parts pos_info
  have hll := h2.rlen posC_len (by decide)
  have hsm := h2.small
  have C1 := Lib.hid (fun (w' : World) (hx : Ext w w') => r13Check_any n c n2 c2 A A2 cl ps w' (h.ext hx) (h2.ext hx) hw hw2)
  obtain ⟨E, hE⟩ : ∃ E, E = chkH cl ps := ⟨_, rfl⟩
  rw [← hE] at C1
  have HS := Lib.hid h2
  have HLL := Lib.hid hll
  rw [← hE]
  by_cases he : E = 0
  · rw [if_neg (by simpa using he)]
    obtain ⟨G, hG⟩ : ∃ G, G = ofF O ps := ⟨_, rfl⟩
    rw [← hG]
    have HR := Lib.hid hG
    subst he
    clear h h2 hw hw2 hE hG hll
    go_enter Tryz.func41, Tryz.ntmps41
    go_wp2_with fail
    (with_reducible refine (C1.out _ zxt).mono ?_)
    rintro e w1 ⟨rfl, hx1⟩
    have c0_0 : w1.cell? ⟨w.heap.size, 0, none⟩ = some (.slice A n c) := hx1.has zcv
    have c0_1 : w1.cell? ⟨w.heap.size, 1, none⟩ = some (.slice A2 n2 c2) := hx1.has zcv
    have z1 := hx1.size
    try simp at z1
    have zq := zrc (show w.heap.size < w1.heap.size from by omega)
    obtain ⟨rc0, rc0a, rc0b, rc0c, rc0n⟩ := zq
    have X1 : Hid (Ext w w1) := Lib.hid (Ext.trans zxt hx1)
    clear hx1 z1
    go_wp2_with fail
    go_loopg [7, 8] n2 (fun gh s7 i wx => gh ≤ n2 ∧ i = .int .i64 ((n2 - gh : Nat) : Int) ∧ ∃ (A7 : Option Addr) (c7 : Nat) (PS : List (Int × Int × Int × Int × Int × Int)), s7 = .slice A7 PS.length c7 ∧ Hid (PS = ofF O (ps.take (n2 - gh))) ∧ (wx.cell? ⟨w.heap.size, 0, none⟩ = some (.slice A n c) ∧ wx.cell? ⟨w.heap.size, 1, none⟩ = some (.slice A2 n2 c2)) ∧ Hid (OwnPos wx (w.heap.size + 1) (.slice A7 PS.length c7) PS.length PS) ∧ w.heap.size + 1 ≤ wx.heap.size ∧ Hid (Ext w wx))
    case atStart => exact ⟨Nat.le_refl _, by simp, none, 0, [], rfl, by rw [Nat.sub_self]; exact Lib.hid (by simp [ofF]), by first | exact ⟨c0_0, c0_1⟩ | exact ⟨by simp [go_sem, World.cell?_alloc_past, c0_0, c0_1, rc0, rc0a, rc0b, rc0c, rc0n], by simp [go_sem, World.cell?_alloc_past, c0_0, c0_1, rc0, rc0a, rc0b, rc0c, rc0n]⟩, Lib.hid (OwnPos.nil _ _), by first | omega | (simp; done) | (simp; omega), Lib.hid zxt⟩
    case round =>
      obtain ⟨hg, hi, A7, c7, PS, rfl, HF, ⟨b_0, b_1⟩, HO, hBr, XR⟩ := hrel
      have hlb := cell_lt b_0
      obtain ⟨k, hk⟩ : ∃ k, k = n2 - gk := ⟨_, rfl⟩
      rw [← hk] at hi HF
      subst hi
      by_cases hz : gk = 0
      · have hkn : ¬ (k : Int) < (n2 : Int) := by omega
        have hTR : PS = G := by rw [HF.out, HR.out, List.take_of_length_le (by have := HLL.out; omega)]
        clear hk hg hz HF
        subst hTR
        go_wp2
        refine bodyPost_ret (v := .tuple #[.slice A7 PS.length c7, .int .i64 0]) (by simp [results, Tryz.results41]; try rfl) rfl (RetPs.mk (b := w.heap.size + 1) (by omega) HO.out XR.out)
      · have hkn : (k : Int) < (n2 : Int) := by omega
        have hkl : k < ps.length := by have := HLL.out; omega
        have HSr := Lib.hid (HS.out.ext XR.out)
        obtain ⟨b1, o1, rfl, hb1, hc_x⟩ := HSr.out.rec_ posC_len (show 0 < n2 from by omega)
        obtain ⟨xw, hl_x⟩ : ∃ x, ps[k]? = some x := ⟨_, List.getElem?_eq_getElem (by omega)⟩
        have x_0 := hc_x (k) xw hl_x 0 _ rfl
        have x_1 := hc_x (k) xw hl_x 1 _ rfl
        have x_2 := hc_x (k) xw hl_x 2 _ rfl
        have x_3 := hc_x (k) xw hl_x 3 _ rfl
        have x_4 := hc_x (k) xw hl_x 4 _ rfl
        have x_5 := hc_x (k) xw hl_x 5 _ rfl
        obtain ⟨po, pv, ps_, pp, pf, ph⟩ := xw
        simp only at x_0 x_1 x_2 x_3 x_4 x_5
        rw [Nat.add_zero] at x_0
        rw [← Nat.add_assoc] at x_1 x_2 x_3 x_4 x_5
        have hst := ofF_step (O := O) hl_x
        rw [← HF.out] at hst
        have hPS : PS.length ≤ k := by rw [HF.out]; exact ofF_len ..
        have HK := Lib.hid (And.intro hk (And.intro hg hz))
        have hb1s : ¬ b1 = wr.heap.size := by omega
        clear hk hg hz hkl hl_x hc_x HSr
        by_cases hq0 : po = O
        · have hq0b : (po == O) = true := by simp [hq0]
          have HST := Lib.hid (hst.trans (by rw [if_pos hq0]))
          clear hst hq0
          go_wp2_with (at_builtin; refine wpList_append_slB _ rfl _ _ 23 rfl (w.heap.size + 1) 82 iPos (.agg #[.int .i64 0, .int .i64 0, .int .i64 0, .int .i64 0, .int .i64 0, .int .u64 0]) 6 48 Tryz.underlying23 iPos_0 iPos_1 iPos_2 iPos_3 rfl (by decide) (.slice A7 PS.length c7) PS.length (PS.flatMap posC) (by rfl) ((HO.out.ext zxt)) _ 1 _ (#[.int .i64 po, .int .i64 pv, .int .i64 ps_, .int .i64 pp, .int .i64 pf, .int .u64 ph].toList) (by first | rfl | (simp [Act.eval, go_sem]; done)) (sl_new _ 82 6 #[.int .i64 po, .int .i64 pv, .int .i64 ps_, .int .i64 pp, .int .i64 pf, .int .u64 ph] 1 rfl (by decide)) (by intro u hu; simp at hu; rcases hu with rfl | rfl | rfl | rfl | rfl | rfl <;> rfl) (by omega) (by decide) (by (try simp); omega) ?_; intro v11 w11 hown11 hx11 hn11; refine Hid.out ?_)
          refine Lib.hid ?_
          obtain ⟨A11, c11, rfl, hnil11, hO11⟩ := own_app (f := posC) (po, pv, ps_, pp, pf, ph) hown11 rfl rfl
          obtain ⟨L11, hL11⟩ : ∃ l, l = PS ++ [(po, pv, ps_, pp, pf, ph)] := ⟨_, rfl⟩
          rw [← hL11] at hO11 ⊢
          have HL11 := Lib.hid hL11
          have hNL11 : L11.length = PS.length + 1 := by rw [hL11, List.length_append]; rfl
          clear hown11 hn11 hnil11 hL11
          have hsz11 := hx11.size
          try simp at hsz11
          replace b_0 : w11.cell? ⟨w.heap.size, 0, none⟩ = some (.slice A n c) := hx11.has (fun hh => by have hh2 := own_rng HO.out _ hh; omega) zcv
          replace b_1 : w11.cell? ⟨w.heap.size, 1, none⟩ = some (.slice (some ⟨b1, o1, none⟩) n2 c2) := hx11.has (fun hh => by have hh2 := own_rng HO.out _ hh; omega) zcv
          have z11 := hx11.size
          try simp at z11
          have zq := zrc (show w.heap.size < w11.heap.size from by omega)
          obtain ⟨rb, rba, rbb, rbc, rbn⟩ := zq
          have X11 : Hid (Ext w w11) := Lib.hid (have hX := (show Ext w _ from zxt); Below.trans hX (hx11.below (Ext.size hX) (fun k hk hh => by have hh2 := own_rng HO.out _ hh; omega)))
          clear HO
          have HO := Lib.hid (show OwnPos _ (w.heap.size + 1) _ _ _ from hO11)
          clear x_5 x_1 x_3 x_2 x_0 x_4 hsz11 XR hx11
          clear hO11
          go_wp2_with fail
          go_roundg (gk - 1)
          case measure => have := HK.out; omega
          case rel => exact ⟨by have := HK.out; omega, num_eq (by have := HK.out; omega), A11, c11, L11, by first | rfl | (simp [hNL11]; done), by rw [show n2 - (gk - 1) = k + 1 from by have := HK.out; omega]; exact Lib.hid (HL11.out.trans HST.out.symm), by first | exact ⟨b_0, b_1⟩ | exact ⟨by simp [go_sem, World.cell?_alloc_past, *], by simp [go_sem, World.cell?_alloc_past, *]⟩, Lib.hid (show OwnPos _ (w.heap.size + 1) _ _ _ from by repeat (first | exact HO.out | refine own_keep ?_ (Ext.alloc (Ext.refl _) _))), by first | omega | (simp; done) | (simp; omega), Lib.hid zxt⟩
        · have hq0b : (po == O) = false := by simpa using hq0
          have HST := Lib.hid (hst.trans (by rw [if_neg hq0, List.append_nil]))
          clear hst hq0
          go_wp2_with fail
          go_roundg (gk - 1)
          case measure => have := HK.out; omega
          case rel => exact ⟨by have := HK.out; omega, num_eq (by have := HK.out; omega), A7, c7, PS, by first | rfl | (simp [hNL10]; done), by rw [show n2 - (gk - 1) = k + 1 from by have := HK.out; omega]; exact Lib.hid HST.out.symm, by first | exact ⟨b_0, b_1⟩ | exact ⟨by simp [go_sem, World.cell?_alloc_past, *], by simp [go_sem, World.cell?_alloc_past, *]⟩, Lib.hid (show OwnPos _ (w.heap.size + 1) _ _ _ from by repeat (first | exact HO.out | refine own_keep ?_ (Ext.alloc (Ext.refl _) _))), by first | omega | (simp; done) | (simp; omega), Lib.hid zxt⟩
  · rw [if_pos he]
    have heb : (E != 0) = true := by simpa using he
    clear h h2 hw hw2 hE hll HS
    go_enter Tryz.func41, Tryz.ntmps41
    go_wp2_with fail
    (with_reducible refine (C1.out _ zxt).mono ?_)
    rintro e w1 ⟨rfl, hx1⟩
    have z1 := hx1.size
    try simp at z1
    have X1 : Hid (Ext w w1) := Lib.hid (Ext.trans zxt hx1)
    clear hx1 z1
    go_wp2_with fail
    refine bodyPost_ret (v := .tuple #[.slice none 0 0, .int .i64 E]) (by simp [results, Tryz.results41, go_sem, World.cell?_alloc_past]; try rfl) rfl (RetPs.mk (b := w.heap.size) (L := []) (Nat.le_refl _) (OwnPos.nil _ _) zxt)
set_option maxRecDepth 100000 in
set_option maxHeartbeats 4000000 in
theorem r13Exposed_any (n c n2 c2 : Nat) (A A2 : Option Addr) (cl ps : List (Int × Int × Int × Int × Int × Int)) (v a : Int) (w : World) (h : Sl w 6 A n c (cl.flatMap clsC)) (h2 : Sl w 6 A2 n2 c2 (ps.flatMap posC)) (hn : n < 1099511000) (hw : ∀ x ∈ cl, WdC x) (hw2 : ∀ x ∈ ps, WdP x) :
    Calls Tryz.prog 43 #[.agg #[.slice A n c, .slice A2 n2 c2], .int .i64 v, .int .i64 a] w (RetE (if chkH cl ps ≠ 0 then [] else expF cl v a) (chkH cl ps) w) := by
  obtain ⟨iCls, iCls_0, iCls_1, iCls_2, iCls_3⟩ := info_parts cls_info
  have hll := h.rlen clsC_len (by decide)
  have hsm := h.small
  have C1 := Lib.hid (fun (w' : World) (hx : Ext w w') => r13Check_any n c n2 c2 A A2 cl ps w' (h.ext hx) (h2.ext hx) hw hw2)
  obtain ⟨E, hE⟩ : ∃ E, E = chkH cl ps := ⟨_, rfl⟩
  rw [← hE] at C1
  have HS := Lib.hid h
  have HLL := Lib.hid hll
  rw [← hE]
  by_cases he : E = 0
  · rw [if_neg (by simpa using he)]
    obtain ⟨G, hG⟩ : ∃ G, G = expF cl v a := ⟨_, rfl⟩
    rw [← hG]
    have HR := Lib.hid hG
    subst he
    have CV := Lib.hid (fun w => r13validator_any v w)
    obtain ⟨VB, hVB⟩ : ∃ b, b = decide (0 ≤ v ∧ v < 32) := ⟨_, rfl⟩
    rw [← hVB] at CV
    have HVB := Lib.hid hVB
    clear hVB
    clear h h2 hw hw2 hE hG hll
    go_enter Tryz.func43, Tryz.ntmps43
    go_wp2_with fail
    (with_reducible refine (C1.out _ zxt).mono ?_)
    rintro e w1 ⟨rfl, hx1⟩
    have c0_0 : w1.cell? ⟨w.heap.size, 0, none⟩ = some (.slice A n c) := hx1.has zcv
    have c0_1 : w1.cell? ⟨w.heap.size, 1, none⟩ = some (.slice A2 n2 c2) := hx1.has zcv
    have z1 := hx1.size
    try simp at z1
    have zq := zrc (show w.heap.size < w1.heap.size from by omega)
    obtain ⟨rc0, rc0a, rc0b, rc0c, rc0n⟩ := zq
    have X1 : Hid (Ext w w1) := Lib.hid (Ext.trans zxt hx1)
    clear hx1 z1
    go_wp2_with fail
    go_loopg [9, 10] n (fun gh s7 i wx => gh ≤ n ∧ i = .int .i64 ((n - gh : Nat) : Int) ∧ ∃ (A7 : Option Addr) (c7 : Nat) (PS : List (Int × Int × Int × Int × Int × Int)), s7 = .slice A7 PS.length c7 ∧ Hid (PS = expF (cl.take (n - gh)) v a) ∧ (wx.cell? ⟨w.heap.size, 0, none⟩ = some (.slice A n c) ∧ wx.cell? ⟨w.heap.size, 1, none⟩ = some (.slice A2 n2 c2)) ∧ Hid (OwnCls wx (w.heap.size + 1) (.slice A7 PS.length c7) PS.length PS) ∧ w.heap.size + 1 ≤ wx.heap.size ∧ Hid (Ext w wx))
    case atStart => exact ⟨Nat.le_refl _, by simp, none, 0, [], rfl, by rw [Nat.sub_self]; exact Lib.hid (by simp [expF]), by first | exact ⟨c0_0, c0_1⟩ | exact ⟨by simp [go_sem, World.cell?_alloc_past, c0_0, c0_1, rc0, rc0a, rc0b, rc0c, rc0n], by simp [go_sem, World.cell?_alloc_past, c0_0, c0_1, rc0, rc0a, rc0b, rc0c, rc0n]⟩, Lib.hid (OwnCls.nil _ _), by first | omega | (simp; done) | (simp; omega), Lib.hid zxt⟩
    case round =>
      obtain ⟨hg, hi, A7, c7, PS, rfl, HF, ⟨b_0, b_1⟩, HO, hBr, XR⟩ := hrel
      have hlb := cell_lt b_0
      obtain ⟨k, hk⟩ : ∃ k, k = n - gk := ⟨_, rfl⟩
      rw [← hk] at hi HF
      subst hi
      by_cases hz : gk = 0
      · have hkn : ¬ (k : Int) < (n : Int) := by omega
        have hTR : PS = G := by rw [HF.out, HR.out, List.take_of_length_le (by have := HLL.out; omega)]
        clear hk hg hz HF
        subst hTR
        go_wp2
        refine bodyPost_ret (v := .tuple #[.slice A7 PS.length c7, .int .i64 0]) (by simp [results, Tryz.results43]; try rfl) rfl (RetE.mk2 (b := w.heap.size + 1) (by omega) HO.out XR.out)
      · have hkn : (k : Int) < (n : Int) := by omega
        have hkl : k < cl.length := by have := HLL.out; omega
        have HSr := Lib.hid (HS.out.ext XR.out)
        obtain ⟨b1, o1, rfl, hb1, hc_x⟩ := HSr.out.rec_ clsC_len (show 0 < n from by omega)
        obtain ⟨xw, hl_x⟩ : ∃ x, cl[k]? = some x := ⟨_, List.getElem?_eq_getElem (by omega)⟩
        have x_0 := hc_x (k) xw hl_x 0 _ rfl
        have x_1 := hc_x (k) xw hl_x 1 _ rfl
        have x_2 := hc_x (k) xw hl_x 2 _ rfl
        have x_3 := hc_x (k) xw hl_x 3 _ rfl
        have x_4 := hc_x (k) xw hl_x 4 _ rfl
        have x_5 := hc_x (k) xw hl_x 5 _ rfl
        obtain ⟨xv, xs, xp, xf, xt, xh⟩ := xw
        simp only at x_0 x_1 x_2 x_3 x_4 x_5
        rw [Nat.add_zero] at x_0
        rw [← Nat.add_assoc] at x_1 x_2 x_3 x_4 x_5
        have hst := expF_step (v := v) (a := a) hl_x
        have CT := Lib.hid (fun (hh : a ≤ 4294967296) w => rBk xv xs xp xf v a hh w)
        obtain ⟨BB, hBB⟩ : ∃ B, B = bkdB xv xs xp xf v a 0 := ⟨_, rfl⟩
        rw [← hBB] at CT
        have HBB := Lib.hid hBB
        clear hBB
        rw [← HF.out] at hst
        have hPS : PS.length ≤ k := by rw [HF.out]; exact expF_lenk ..
        have HK := Lib.hid (And.intro hk (And.intro hg hz))
        have hb1s : ¬ b1 = wr.heap.size := by omega
        clear hk hg hz hkl hl_x hc_x HSr
        rcases (show VB = true ∨ VB = false from by cases VB <;> simp) with rfl | rfl
        · by_cases q29 : 1 ≤ a
          · have q29b : decide (1 ≤ a) = true := decide_eq_true q29
            by_cases q33 : a ≤ 4294967296
            · have q33b : decide (a ≤ 4294967296) = true := decide_eq_true q33
              go_wp2_with fail
              (with_reducible refine (CV.out _).mono ?_)
              rintro e w_1 ⟨rfl, hs0⟩
              have hs1 := hs0.symm
              clear hs0
              subst hs1
              go_wp2_with fail
              (with_reducible refine (CT.out (by omega) _).mono ?_)
              rintro e w11 ⟨rfl, hx11⟩
              replace b_0 : w11.cell? ⟨w.heap.size, 0, none⟩ = some (.slice (some ⟨b1, o1, none⟩) n c) := hx11.has zcv
              replace b_1 : w11.cell? ⟨w.heap.size, 1, none⟩ = some (.slice A2 n2 c2) := hx11.has zcv
              replace x_0 : w11.cell? ⟨b1, o1 + k * 6, none⟩ = some (.int .i64 xv) := hx11.has zcv
              replace x_1 : w11.cell? ⟨b1, o1 + k * 6 + 1, none⟩ = some (.int .i64 xs) := hx11.has zcv
              replace x_2 : w11.cell? ⟨b1, o1 + k * 6 + 2, none⟩ = some (.int .i64 xp) := hx11.has zcv
              replace x_3 : w11.cell? ⟨b1, o1 + k * 6 + 3, none⟩ = some (.int .i64 xf) := hx11.has zcv
              replace x_4 : w11.cell? ⟨b1, o1 + k * 6 + 4, none⟩ = some (.int .u64 xt) := hx11.has zcv
              replace x_5 : w11.cell? ⟨b1, o1 + k * 6 + 5, none⟩ = some (.int .u64 xh) := hx11.has zcv
              have z11 := hx11.size
              try simp at z11
              have zq := zrc (show w.heap.size < w11.heap.size from by omega)
              obtain ⟨rb, rba, rbb, rbc, rbn⟩ := zq
              have zq := zrc (show b1 < w11.heap.size from by omega)
              obtain ⟨rx, rxa, rxb, rxc, rxn⟩ := zq
              replace HO := Lib.hid (HO.out.ext (Ext.trans zxt hx11))
              have X11 : Hid (Ext w w11) := Lib.hid (Ext.trans zxt hx11)
              clear XR hx11
              rcases Bool.eq_false_or_eq_true BB with hb | hb <;> subst hb
              · have HST := Lib.hid (hst.trans (by rw [if_pos (by simp [q29, q33, ← HVB.out, bkC, ← HBB.out])]))
                clear hst
                go_wp2_with (at_builtin; refine wpList_append_slB _ rfl _ _ 22 rfl (w.heap.size + 1) 79 iCls (.agg #[.int .i64 0, .int .i64 0, .int .i64 0, .int .i64 0, .int .u64 0, .int .u64 0]) 6 48 Tryz.underlying22 iCls_0 iCls_1 iCls_2 iCls_3 rfl (by decide) (.slice A7 PS.length c7) PS.length (PS.flatMap clsC) (by rfl) ((HO.out.ext zxt)) _ 1 _ (#[.int .i64 xv, .int .i64 xs, .int .i64 xp, .int .i64 xf, .int .u64 xt, .int .u64 xh].toList) (by first | rfl | (simp [Act.eval, go_sem]; done)) (sl_new _ 79 6 #[.int .i64 xv, .int .i64 xs, .int .i64 xp, .int .i64 xf, .int .u64 xt, .int .u64 xh] 1 rfl (by decide)) (by intro u hu; simp at hu; rcases hu with rfl | rfl | rfl | rfl | rfl | rfl <;> rfl) (by omega) (by decide) (by (try simp); omega) ?_; intro v12 w12 hown12 hx12 hn12; refine Hid.out ?_)
                refine Lib.hid ?_
                obtain ⟨A12, c12, rfl, hnil12, hO12⟩ := own_app (f := clsC) (xv, xs, xp, xf, xt, xh) hown12 rfl rfl
                obtain ⟨L12, hL12⟩ : ∃ l, l = PS ++ [(xv, xs, xp, xf, xt, xh)] := ⟨_, rfl⟩
                rw [← hL12] at hO12 ⊢
                have HL12 := Lib.hid hL12
                have hNL12 : L12.length = PS.length + 1 := by rw [hL12, List.length_append]; rfl
                clear hown12 hn12 hnil12 hL12
                have hsz12 := hx12.size
                try simp at hsz12
                replace b_0 : w12.cell? ⟨w.heap.size, 0, none⟩ = some (.slice (some ⟨b1, o1, none⟩) n c) := hx12.has (fun hh => by have hh2 := own_rng HO.out _ hh; omega) zcv
                replace b_1 : w12.cell? ⟨w.heap.size, 1, none⟩ = some (.slice A2 n2 c2) := hx12.has (fun hh => by have hh2 := own_rng HO.out _ hh; omega) zcv
                have z12 := hx12.size
                try simp at z12
                have zq := zrc (show w.heap.size < w12.heap.size from by omega)
                clear rb rba rbb rbc rbn
                obtain ⟨rb, rba, rbb, rbc, rbn⟩ := zq
                have X12 : Hid (Ext w w12) := Lib.hid (have hX := (show Ext w _ from zxt); Below.trans hX (hx12.below (Ext.size hX) (fun k hk hh => by have hh2 := own_rng HO.out _ hh; omega)))
                clear HO
                have HO := Lib.hid (show OwnCls _ (w.heap.size + 1) _ _ _ from hO12)
                clear x_5 x_1 x_3 x_2 x_0 x_4 rx rxa rxb rxc rxn hsz12 X11 hx12
                clear hO12
                go_wp2_with fail
                go_roundg (gk - 1)
                case measure => have := HK.out; omega
                case rel => exact ⟨by have := HK.out; omega, num_eq (by have := HK.out; omega), A12, c12, L12, by first | rfl | (simp [hNL12]; done), by rw [show n - (gk - 1) = k + 1 from by have := HK.out; omega]; exact Lib.hid (HL12.out.trans HST.out.symm), by first | exact ⟨b_0, b_1⟩ | exact ⟨by simp [go_sem, World.cell?_alloc_past, *], by simp [go_sem, World.cell?_alloc_past, *]⟩, Lib.hid (show OwnCls _ (w.heap.size + 1) _ _ _ from by repeat (first | exact HO.out | refine own_keep ?_ (Ext.alloc (Ext.refl _) _))), by first | omega | (simp; done) | (simp; omega), Lib.hid zxt⟩
              · have HST := Lib.hid (hst.trans (by rw [if_neg (by simp [bkC, ← HBB.out]), List.append_nil]))
                clear hst
                go_wp2_with fail
                go_roundg (gk - 1)
                case measure => have := HK.out; omega
                case rel => exact ⟨by have := HK.out; omega, num_eq (by have := HK.out; omega), A7, c7, PS, by first | rfl | (simp [hNL11]; done), by rw [show n - (gk - 1) = k + 1 from by have := HK.out; omega]; exact Lib.hid HST.out.symm, by first | exact ⟨b_0, b_1⟩ | exact ⟨by simp [go_sem, World.cell?_alloc_past, *], by simp [go_sem, World.cell?_alloc_past, *]⟩, Lib.hid (show OwnCls _ (w.heap.size + 1) _ _ _ from by repeat (first | exact HO.out | refine own_keep ?_ (Ext.alloc (Ext.refl _) _))), by first | omega | (simp; done) | (simp; omega), Lib.hid zxt⟩
            · have q33b : decide (a ≤ 4294967296) = false := decide_eq_false q33
              have HST := Lib.hid (hst.trans (by rw [if_neg (by simp [q33]), List.append_nil]))
              clear hst
              go_wp2_with fail
              (with_reducible refine (CV.out _).mono ?_)
              rintro e w_1 ⟨rfl, hs0⟩
              have hs1 := hs0.symm
              clear hs0
              subst hs1
              go_wp2_with fail
              go_roundg (gk - 1)
              case measure => have := HK.out; omega
              case rel => exact ⟨by have := HK.out; omega, num_eq (by have := HK.out; omega), A7, c7, PS, by first | rfl | (simp [hNL10]; done), by rw [show n - (gk - 1) = k + 1 from by have := HK.out; omega]; exact Lib.hid HST.out.symm, by first | exact ⟨b_0, b_1⟩ | exact ⟨by simp [go_sem, World.cell?_alloc_past, *], by simp [go_sem, World.cell?_alloc_past, *]⟩, Lib.hid (show OwnCls _ (w.heap.size + 1) _ _ _ from by repeat (first | exact HO.out | refine own_keep ?_ (Ext.alloc (Ext.refl _) _))), by first | omega | (simp; done) | (simp; omega), Lib.hid zxt⟩
          · have q29b : decide (1 ≤ a) = false := decide_eq_false q29
            have HST := Lib.hid (hst.trans (by rw [if_neg (by simp [q29]), List.append_nil]))
            clear hst
            go_wp2_with fail
            (with_reducible refine (CV.out _).mono ?_)
            rintro e w_1 ⟨rfl, hs0⟩
            have hs1 := hs0.symm
            clear hs0
            subst hs1
            go_wp2_with fail
            go_roundg (gk - 1)
            case measure => have := HK.out; omega
            case rel => exact ⟨by have := HK.out; omega, num_eq (by have := HK.out; omega), A7, c7, PS, by first | rfl | (simp [hNL10]; done), by rw [show n - (gk - 1) = k + 1 from by have := HK.out; omega]; exact Lib.hid HST.out.symm, by first | exact ⟨b_0, b_1⟩ | exact ⟨by simp [go_sem, World.cell?_alloc_past, *], by simp [go_sem, World.cell?_alloc_past, *]⟩, Lib.hid (show OwnCls _ (w.heap.size + 1) _ _ _ from by repeat (first | exact HO.out | refine own_keep ?_ (Ext.alloc (Ext.refl _) _))), by first | omega | (simp; done) | (simp; omega), Lib.hid zxt⟩
        · have HST := Lib.hid (hst.trans (by rw [if_neg (by simp [← HVB.out]), List.append_nil]))
          clear hst
          go_wp2_with fail
          (with_reducible refine (CV.out _).mono ?_)
          rintro e w_1 ⟨rfl, hs0⟩
          have hs1 := hs0.symm
          clear hs0
          subst hs1
          go_wp2_with fail
          go_roundg (gk - 1)
          case measure => have := HK.out; omega
          case rel => exact ⟨by have := HK.out; omega, num_eq (by have := HK.out; omega), A7, c7, PS, by first | rfl | (simp [hNL10]; done), by rw [show n - (gk - 1) = k + 1 from by have := HK.out; omega]; exact Lib.hid HST.out.symm, by first | exact ⟨b_0, b_1⟩ | exact ⟨by simp [go_sem, World.cell?_alloc_past, *], by simp [go_sem, World.cell?_alloc_past, *]⟩, Lib.hid (show OwnCls _ (w.heap.size + 1) _ _ _ from by repeat (first | exact HO.out | refine own_keep ?_ (Ext.alloc (Ext.refl _) _))), by first | omega | (simp; done) | (simp; omega), Lib.hid zxt⟩
  · rw [if_pos he]
    have heb : (E != 0) = true := by simpa using he
    clear h h2 hw hw2 hE hll HS
    go_enter Tryz.func43, Tryz.ntmps43
    go_wp2_with fail
    (with_reducible refine (C1.out _ zxt).mono ?_)
    rintro e w1 ⟨rfl, hx1⟩
    have z1 := hx1.size
    try simp at z1
    have X1 : Hid (Ext w w1) := Lib.hid (Ext.trans zxt hx1)
    clear hx1 z1
    go_wp2_with fail
    refine bodyPost_ret (v := .tuple #[.slice none 0 0, .int .i64 E]) (by simp [results, Tryz.results43, go_sem, World.cell?_alloc_past]; try rfl) rfl (RetE.mk2 (b := w.heap.size) (L := []) (Nat.le_refl _) (OwnCls.nil _ _) zxt)
end
section
open Go.RowKit Go.ChangeShapes Go.WideShapes Go.Deep Go.Joins
section
variable {H : Type} {enc : TypeId × Value → H} {w : World} {base : Nat} {spare : Nat → Bool} {held : Bool}
theorem none_capH {P : Program} {t e : TypeId} {n c : Nat} {A : Option Addr} {x : DataW H × List MemPlace} {fuel : Nat} (ht : P.underlying t = some (.slice e)) (hf : DataW.trod enc P w base spare held fuel t [.slice A n c] = some x) : A = none → c = 0 := by
  intro hA
  subst hA
  rcases Go.Deep.open_slice ht hf with ⟨h0, _⟩ | ⟨a, len, cap, m, n', D, Pl, hcs, _⟩
  · simp at h0; exact h0.2
  · simp at hcs
theorem word_fitsH {x : Int} (h : Fits .u64 x) : Word x := by
  unfold Fits at h
  simp [Lit.wf, IntKind.min, IntKind.max, IntKind.bits, IntKind.signed] at h
  unfold Word
  omega
set_option maxRecDepth 100000 in
/-- a pool's cells -/
theorem pool_rec {cs : List Value} {m : Nat} {y : DataW H × List MemPlace} (h : DataW.trod enc Tryz.prog w base spare held m 61 cs = some y) (hl : cs.length = 2) : ∃ x : Int × Int, cs = [.int .u64 x.1, .int .u64 x.2] ∧ Word x.1 ∧ Word x.2 := by
  obtain ⟨x, h1, h2, h3⟩ := rec2 (k0 := .u64) (k1 := .u64) Tryz.underlying61 (by kernel_rfl) Tryz.underlying32 Tryz.underlying32 h hl
  exact ⟨x, h1, word_fitsH h2, word_fitsH h3⟩
set_option maxRecDepth 100000 in
/-- a class's cells -/
theorem cls_rec {cs : List Value} {m : Nat} {y : DataW H × List MemPlace} (h : DataW.trod enc Tryz.prog w base spare held m 79 cs = some y) (hl : cs.length = 6) : ∃ x : Int × Int × Int × Int × Int × Int, cs = clsC x ∧ WdC x := by
  obtain ⟨xs, n, _, rfl, _, hlen, hf⟩ := DataW.trod_struct Tryz.underlying79 h
  have cp : Tryz.prog.cellsOf 61 = 2 := by kernel_rfl
  have ct : Tryz.prog.cellsOf 37 = 4 := by kernel_rfl
  have g0 := hf 0 _ rfl
  have g1 := hf 1 _ rfl
  match cs, hl with
  | [v0, v1, v2, v3, v4, v5], _ =>
    match xs, hlen with
    | [y0, y1], _ =>
      simp [cp, ct] at g0 g1
      obtain ⟨b, hb, _⟩ := rec4 (k0 := .i64) (k1 := .i64) (k2 := .i64) (k3 := .i64) Tryz.underlying37 (by kernel_rfl) Tryz.underlying3 Tryz.underlying3 Tryz.underlying3 Tryz.underlying3 g0 rfl
      obtain ⟨p, hp, w1, w2⟩ := pool_rec g1 rfl
      simp at hb hp
      obtain ⟨rfl, rfl, rfl, rfl⟩ := hb
      obtain ⟨rfl, rfl⟩ := hp
      exact ⟨(b.1, b.2.1, b.2.2.1, b.2.2.2, p.1, p.2), rfl, w1, w2⟩
set_option maxRecDepth 100000 in
/-- a position's cells -/
theorem pos_rec {cs : List Value} {m : Nat} {y : DataW H × List MemPlace} (h : DataW.trod enc Tryz.prog w base spare held m 82 cs = some y) (hl : cs.length = 6) : ∃ x : Int × Int × Int × Int × Int × Int, cs = posC x ∧ WdP x := by
  obtain ⟨xs, n, _, rfl, _, hlen, hf⟩ := DataW.trod_struct Tryz.underlying82 h
  have ci : Tryz.prog.cellsOf 3 = 1 := by kernel_rfl
  have cu : Tryz.prog.cellsOf 32 = 1 := by kernel_rfl
  have ct : Tryz.prog.cellsOf 37 = 4 := by kernel_rfl
  have g0 := hf 0 _ rfl
  have g1 := hf 1 _ rfl
  have g2 := hf 2 _ rfl
  match cs, hl with
  | [v0, v1, v2, v3, v4, v5], _ =>
    match xs, hlen with
    | [y0, y1, y2], _ =>
      simp [ci, cu, ct] at g0 g1 g2
      obtain ⟨a, ha, _, wa⟩ := DataW.trod_int Tryz.underlying3 g0
      obtain ⟨b, hb, _⟩ := rec4 (k0 := .i64) (k1 := .i64) (k2 := .i64) (k3 := .i64) Tryz.underlying37 (by kernel_rfl) Tryz.underlying3 Tryz.underlying3 Tryz.underlying3 Tryz.underlying3 g1 rfl
      obtain ⟨e, he, _, we⟩ := DataW.trod_int Tryz.underlying32 g2
      simp at ha hb he
      obtain ⟨rfl, rfl, rfl, rfl⟩ := hb
      subst ha; subst he
      exact ⟨(a, b.1, b.2.1, b.2.2.1, b.2.2.2, e), rfl, word_fitsH we⟩
set_option maxRecDepth 100000 in
/-- a holding that came in -/
theorem open_hold {b0 : Nat} {r : Reach} {v : Value} {d : DataW H} {p : List MemPlace}
    (hv : Value.okWide Tryz.prog w r b0 25 v) (h : DataW.Trod enc Tryz.prog w base spare held 25 v d p) : ∃ A c A2 c2 cl ps, v = .agg #[.slice A (List.length (α := Int × Int × Int × Int × Int × Int) cl) c, .slice A2 (List.length (α := Int × Int × Int × Int × Int × Int) ps) c2] ∧ Sl w 6 A cl.length c (cl.flatMap clsC) ∧ Sl w 6 A2 ps.length c2 (ps.flatMap posC) ∧ (∀ x ∈ cl, WdC x) ∧ (∀ x ∈ ps, WdP x) ∧ (A = none → c = 0) ∧ (A2 = none → c2 = 0) := by
  obtain ⟨cs, rfl, hsz⟩ := okWide_struct Tryz.underlying25 hv
  obtain ⟨fuel, hf⟩ := h
  have c2 : Tryz.prog.cellsOf 25 = 2 := by kernel_rfl
  have k1 : Tryz.prog.cellsOf 22 = 1 := by kernel_rfl
  have k2 : Tryz.prog.cellsOf 23 = 1 := by kernel_rfl
  have hf' : DataW.trod enc Tryz.prog w base spare held fuel 25 cs.toList = some (d, p) := by simpa [Value.cells] using hf
  have hlen : cs.toList.length = 2 := by rw [Array.length_toList]; exact hsz.trans c2
  obtain ⟨y0, y1, n, _, _, g0, g1⟩ := trod_struct2 Tryz.underlying25 hf'
  match hcs : cs.toList, hlen with
  | [v0, v1], _ =>
    rw [hcs] at g0 g1
    simp [k1, k2] at g0 g1
    have e1 : ∃ A m c, v0 = .slice A m c := by
      rcases Go.Deep.open_slice Tryz.underlying22 g0 with ⟨h0, _⟩ | ⟨a, len, cap, m, n', D, Pl, h0, _⟩
      · exact ⟨none, 0, 0, by simpa using h0⟩
      · exact ⟨some a, len, cap, by simpa using h0⟩
    have e2 : ∃ A m c, v1 = .slice A m c := by
      rcases Go.Deep.open_slice Tryz.underlying23 g1 with ⟨h0, _⟩ | ⟨a, len, cap, m, n', D, Pl, h0, _⟩
      · exact ⟨none, 0, 0, by simpa using h0⟩
      · exact ⟨some a, len, cap, by simpa using h0⟩
    obtain ⟨A, m, c, rfl⟩ := e1
    obtain ⟨A2, m2, c', rfl⟩ := e2
    obtain ⟨cl, s1, l1, f1⟩ := open_rec (f := clsC) (sz := 6) (Good := WdC) Tryz.underlying22 (by kernel_rfl) (by decide) (fun cs m y h hl => cls_rec h hl) (show DataW.Trod enc Tryz.prog w base spare held 22 (.slice A m c) y0.1 y0.2 from ⟨n, by simpa [Value.cells] using g0⟩)
    obtain ⟨ps, s2, l2, f2⟩ := open_rec (f := posC) (sz := 6) (Good := WdP) Tryz.underlying23 (by kernel_rfl) (by decide) (fun cs m y h hl => pos_rec h hl) (show DataW.Trod enc Tryz.prog w base spare held 23 (.slice A2 m2 c') y1.1 y1.2 from ⟨n, by simpa [Value.cells] using g1⟩)
    subst l1; subst l2
    refine ⟨A, c, A2, c', cl, ps, ?_, s1, s2, f1, f2, none_capH Tryz.underlying22 g0, none_capH Tryz.underlying23 g1⟩
    rw [← Array.toArray_toList (xs := cs), hcs]
end
set_option maxRecDepth 100000 in
theorem open_stampH {H : Type} {enc : TypeId × Value → H} {w : World} {base b0 : Nat} {spare : Nat → Bool} {held : Bool} {r : Reach} {v : Value} {d : DataW H} {p : List MemPlace}
    (hv : Value.okWide Tryz.prog w r b0 37 v) (h : DataW.Trod enc Tryz.prog w base spare held 37 v d p) : ∃ a b c e, v = .agg #[.int .i64 a, .int .i64 b, .int .i64 c, .int .i64 e] ∧ Fits .i64 a ∧ Fits .i64 b ∧ Fits .i64 c ∧ Fits .i64 e := by
  obtain ⟨v0, v1, v2, v3, y0, y1, y2, y3, n, rfl, _, _, h0, h1, h2, h3⟩ := Go.Joins.open_agg4 Tryz.underlying37 (by kernel_rfl) (by kernel_rfl) hv h
  obtain ⟨a, ha, _, wa⟩ := DataW.trod_int Tryz.underlying3 h0
  obtain ⟨b, hb, _, wb⟩ := DataW.trod_int Tryz.underlying3 h1
  obtain ⟨c, hc, _, wc⟩ := DataW.trod_int Tryz.underlying3 h2
  obtain ⟨e, he, _, we⟩ := DataW.trod_int Tryz.underlying3 h3
  simp at ha hb hc he
  subst ha; subst hb; subst hc; subst he
  exact ⟨a, b, c, e, rfl, wa, wb, wc, we⟩
end
section
open Go.RowKit Go.ChangeShapes Go.WideShapes Go.Deep Go.Joins
set_option maxRecDepth 100000 in
set_option maxHeartbeats 16000000 in
theorem HoldingTells_any (A : Option Addr) (c : Nat) (A2 : Option Addr) (c2 : Nat) (cl ps : List (Int × Int × Int × Int × Int × Int)) (ow : Int) (fo : Fits .i64 ow) (V S P Q : Int) (fV : Fits .i64 V) (fS : Fits .i64 S) (fP : Fits .i64 P) (fQ : Fits .i64 Q) (v : Int) (fv : Fits .i64 v) (a : Int) (fa : Fits .i64 a) (w : World) (h : Sl w 6 A cl.length c (cl.flatMap clsC)) (h2 : Sl w 6 A2 ps.length c2 (ps.flatMap posC)) (hw : ∀ x ∈ cl, WdC x) (hw2 : ∀ x ∈ ps, WdP x) (hA : A = none → c = 0) (hA2 : A2 = none → c2 = 0) :
    Calls Tryz.prog 5 #[.agg #[.slice A cl.length c, .slice A2 ps.length c2], .int .i64 ow, .agg #[.int .i64 V, .int .i64 S, .int .i64 P, .int .i64 Q], .int .i64 v, .int .i64 a] w fun r w' => r = .returned (.bool true) ∧ Ext w w' := by
  obtain ⟨LB, hLB⟩ : ∃ b, b = (decide (60 < (cl.length : Int)) || decide (80 < (ps.length : Int))) := ⟨_, rfl⟩
  have CL := Lib.hid (fun w => large13_any cl.length c ps.length c2 A A2 w)
  rw [← hLB] at CL
  have HB := Lib.hid hLB
  have pq1 := pol_eq
  have pq2 := pol_eqg
  have CC := Lib.hid (fun (w' : World) (hx : Ext w w') (h1 : cl.length < 1099511627776) (h3 : ps.length < 1099511627776) => kCopyHolding_any c c2 A A2 cl ps w' (h.ext hx) (h2.ext hx) h1 h3)
  obtain ⟨E, hE⟩ : ∃ E, E = chkH cl ps := ⟨_, rfl⟩
  have CF2 := Lib.hid (fun (w' : World) (hx : Ext w w') => r13Find_any cl.length c ps.length c2 A A2 cl V S P Q w' (h.ext hx))
  have CF1 := Lib.hid (fun (w' : World) (B B2 : Option Addr) (d d2 : Nat) (h1 : Sl w' 6 B cl.length d (cl.flatMap clsC)) (h3 : Sl w' 6 B2 ps.length d2 (ps.flatMap posC)) (l1 : cl.length < 1099511000) (l2 : ps.length < 1099511000) => hFind_any cl.length d ps.length d2 B B2 cl V S P Q w' h1)
  obtain ⟨fT, hfT⟩ : ∃ x, x = fndT cl [V, S, P, Q] := ⟨_, rfl⟩
  rw [← hfT] at CF1 CF2
  clear hfT
  obtain ⟨fU, hfU⟩ : ∃ x, x = fndS cl [V, S, P, Q] := ⟨_, rfl⟩
  rw [← hfU] at CF1 CF2
  clear hfU
  obtain ⟨fB, hfB⟩ : ∃ x, x = (getK kC cl [V, S, P, Q]).isSome := ⟨_, rfl⟩
  rw [← hfB] at CF1 CF2
  clear hfB
  have CV2 := Lib.hid (fun (w' : World) (hx : Ext w w') => r13Value_any cl.length c ps.length c2 A A2 cl ps ow V S P Q w' (h.ext hx) (h2.ext hx) hw hw2)
  have CV1 := Lib.hid (fun (w' : World) (B B2 : Option Addr) (d d2 : Nat) (h1 : Sl w' 6 B cl.length d (cl.flatMap clsC)) (h3 : Sl w' 6 B2 ps.length d2 (ps.flatMap posC)) (l1 : cl.length < 1099511000) (l2 : ps.length < 1099511000) => hValue_any cl.length d ps.length d2 B B2 cl ps ow V S P Q w' h1 h3 (by omega) (by omega) hw hw2)
  obtain ⟨vA, hvA⟩ : ∃ x, x = (valH cl ps [ow, V, S, P, Q]).1 := ⟨_, rfl⟩
  rw [← hvA] at CV1 CV2
  clear hvA
  obtain ⟨vB, hvB⟩ : ∃ x, x = (valH cl ps [ow, V, S, P, Q]).2 := ⟨_, rfl⟩
  rw [← hvB] at CV1 CV2
  clear hvB
  have CO2 := Lib.hid (fun (w' : World) (hx : Ext w w') => r13Own_any cl.length c ps.length c2 A A2 cl ps ow v w' (h.ext hx) (h2.ext hx) hw hw2)
  have CO1 := Lib.hid (fun (w' : World) (B B2 : Option Addr) (d d2 : Nat) (h1 : Sl w' 6 B cl.length d (cl.flatMap clsC)) (h3 : Sl w' 6 B2 ps.length d2 (ps.flatMap posC)) (l1 : cl.length < 1099511000) (l2 : ps.length < 1099511000) => hOwn_any cl.length d ps.length d2 B B2 cl ps ow v w' h1 h3 (by omega) (by omega) hw hw2)
  obtain ⟨oA, hoA⟩ : ∃ x, x = (ownH cl ps ow v).1 := ⟨_, rfl⟩
  rw [← hoA] at CO1 CO2
  clear hoA
  obtain ⟨oB, hoB⟩ : ∃ x, x = (ownH cl ps ow v).2 := ⟨_, rfl⟩
  rw [← hoB] at CO1 CO2
  clear hoB
  have CT2 := Lib.hid (fun (w' : World) (hx : Ext w w') => r13Tokens_any cl.length c ps.length c2 A A2 cl ps v w' (h.ext hx) (h2.ext hx) hw hw2)
  have CT1 := Lib.hid (fun (w' : World) (B B2 : Option Addr) (d d2 : Nat) (h1 : Sl w' 6 B cl.length d (cl.flatMap clsC)) (h3 : Sl w' 6 B2 ps.length d2 (ps.flatMap posC)) (l1 : cl.length < 1099511000) (l2 : ps.length < 1099511000) => hTokens_any cl.length d ps.length d2 B B2 cl ps v w' h1 h3 (by omega) (by omega) hw hw2)
  obtain ⟨tA, htA⟩ : ∃ x, x = tokH cl ps v := ⟨_, rfl⟩
  rw [← htA] at CT1 CT2
  clear htA
  rw [← hE] at CT1 CT2
  have CA2 := Lib.hid (fun (w' : World) (hx : Ext w w') => r13All_any cl.length c ps.length c2 A A2 cl ps w' (h.ext hx) (h2.ext hx) hw hw2)
  have CA1 := Lib.hid (fun (w' : World) (B B2 : Option Addr) (d d2 : Nat) (h1 : Sl w' 6 B cl.length d (cl.flatMap clsC)) (h3 : Sl w' 6 B2 ps.length d2 (ps.flatMap posC)) (l1 : cl.length < 1099511000) (l2 : ps.length < 1099511000) => hAll_any cl.length d ps.length d2 B B2 cl ps w' h1 h3 (by omega) (by omega) hw hw2)
  obtain ⟨aA, haA⟩ : ∃ x, x = allT cl ps := ⟨_, rfl⟩
  rw [← haA] at CA1 CA2
  clear haA
  rw [← hE] at CA1 CA2
  have CL2 := Lib.hid (fun (w' : World) (hx : Ext w w') (l1 : cl.length < 1099511000) (l2 : ps.length < 1099511000) => r13Of_any cl.length c ps.length c2 A A2 cl ps ow w' (h.ext hx) (h2.ext hx) l2 hw hw2)
  have CL1 := Lib.hid (fun (w' : World) (B B2 : Option Addr) (d d2 : Nat) (h1 : Sl w' 6 B cl.length d (cl.flatMap clsC)) (h3 : Sl w' 6 B2 ps.length d2 (ps.flatMap posC)) (l1 : cl.length < 1099511000) (l2 : ps.length < 1099511000) => hOf_any cl.length d ps.length d2 B B2 cl ps ow w' h1 h3 (by omega) (by omega) hw hw2)
  obtain ⟨LO, hLO⟩ : ∃ x, x = if chkH cl ps ≠ 0 then [] else ofF ow ps := ⟨_, rfl⟩
  rw [← hLO] at CL1 CL2
  clear hLO
  rw [← hE] at CL1 CL2
  have CX2 := Lib.hid (fun (w' : World) (hx : Ext w w') (l1 : cl.length < 1099511000) (l2 : ps.length < 1099511000) => show Calls Tryz.prog 43 #[.agg #[.slice A cl.length c, .slice A2 ps.length c2], .int .i64 v, .int .i64 a] w' (RetE (expH cl ps v a) (chkH cl ps) w') from r13Exposed_any cl.length c ps.length c2 A A2 cl ps v a w' (h.ext hx) (h2.ext hx) l1 hw hw2)
  have CX1 := Lib.hid (fun (w' : World) (B B2 : Option Addr) (d d2 : Nat) (h1 : Sl w' 6 B cl.length d (cl.flatMap clsC)) (h3 : Sl w' 6 B2 ps.length d2 (ps.flatMap posC)) (l1 : cl.length < 1099511000) (l2 : ps.length < 1099511000) => hExposed_any cl.length d ps.length d2 B B2 cl ps v a w' h1 h3 (by omega) (by omega) hw hw2)
  obtain ⟨LX, hLX⟩ : ∃ x, x = expH cl ps v a := ⟨_, rfl⟩
  rw [← hLX] at CX1 CX2
  clear hLX
  rw [← hE] at CX1 CX2
  have H1 := Lib.hid h
  have H2 := Lib.hid h2
  clear h h2 hw hw2 hA hA2 hLB hE fo fV fS fP fQ fv fa
  go_enter Tryz.func5, Tryz.ntmps5
  go_wp2_with fail
  (with_reducible refine (CL.out _).mono ?_)
  rintro e w1 ⟨rfl, hx1⟩
  have c0_0 : w1.cell? ⟨w.heap.size, 0, none⟩ = some (.slice A cl.length c) := hx1.has zcv
  have c0_1 : w1.cell? ⟨w.heap.size, 1, none⟩ = some (.slice A2 ps.length c2) := hx1.has zcv
  have c1_0 : w1.cell? ⟨w.heap.size + 1, 0, none⟩ = some (.int .i64 V) := hx1.has zcv
  have c1_1 : w1.cell? ⟨w.heap.size + 1, 1, none⟩ = some (.int .i64 S) := hx1.has zcv
  have c1_2 : w1.cell? ⟨w.heap.size + 1, 2, none⟩ = some (.int .i64 P) := hx1.has zcv
  have c1_3 : w1.cell? ⟨w.heap.size + 1, 3, none⟩ = some (.int .i64 Q) := hx1.has zcv
  have z1 := hx1.size
  try simp at z1
  have lt_c0_c1 : w.heap.size < w.heap.size + 1 := by omega
  have ne_c0_c1 : ¬ w.heap.size = w.heap.size + 1 := by omega
  have ne_c1_c0 : ¬ w.heap.size + 1 = w.heap.size := by omega
  have zq := zrc (show w.heap.size < w1.heap.size from by omega)
  obtain ⟨rc0, rc0a, rc0b, rc0c, rc0n⟩ := zq
  have zq := zrc (show w.heap.size + 1 < w1.heap.size from by omega)
  obtain ⟨rc1, rc1a, rc1b, rc1c, rc1n⟩ := zq
  have X1 : Hid (Ext w w1) := Lib.hid (Ext.trans zxt hx1)
  clear hx1
  rcases (show LB = true ∨ LB = false from by cases LB <;> simp) with rfl | rfl
  · go_wp2_with fail
    (with_reducible refine (awake13_any _).mono ?_)
    rintro e w2 ⟨rfl, hx2⟩
    replace c0_0 : w2.cell? ⟨w.heap.size, 0, none⟩ = some (.slice A cl.length c) := hx2.has zcv
    replace c0_1 : w2.cell? ⟨w.heap.size, 1, none⟩ = some (.slice A2 ps.length c2) := hx2.has zcv
    replace c1_0 : w2.cell? ⟨w.heap.size + 1, 0, none⟩ = some (.int .i64 V) := hx2.has zcv
    replace c1_1 : w2.cell? ⟨w.heap.size + 1, 1, none⟩ = some (.int .i64 S) := hx2.has zcv
    replace c1_2 : w2.cell? ⟨w.heap.size + 1, 2, none⟩ = some (.int .i64 P) := hx2.has zcv
    replace c1_3 : w2.cell? ⟨w.heap.size + 1, 3, none⟩ = some (.int .i64 Q) := hx2.has zcv
    have z2 := hx2.size
    try simp at z2
    have zq := zrc (show w.heap.size < w2.heap.size from by omega)
    clear rc0 rc0a rc0b rc0c rc0n
    obtain ⟨rc0, rc0a, rc0b, rc0c, rc0n⟩ := zq
    have zq := zrc (show w.heap.size + 1 < w2.heap.size from by omega)
    clear rc1 rc1a rc1b rc1c rc1n
    obtain ⟨rc1, rc1a, rc1b, rc1c, rc1n⟩ := zq
    have X2 : Hid (Ext w w2) := Lib.hid (Ext.trans zxt hx2)
    clear X1 hx2
    go_wp2_with fail
    refine bodyPost_ret (v := .bool true) (by simp [results, Tryz.results5, go_sem, World.cell?_alloc_past, *]; try rfl) rfl ⟨rfl, ?_⟩
    exact zxt
  · have hl : cl.length ≤ 60 ∧ ps.length ≤ 80 := by have h9 := HB.out.symm; rw [Bool.or_eq_false_iff] at h9; have h8 := of_decide_eq_false h9.1; have h7 := of_decide_eq_false h9.2; omega
    go_wp2_with fail
    (with_reducible refine (CC.out _ zxt (by omega) (by omega)).mono ?_)
    rintro e w2 ⟨_, rfl, B, d, B2, d2, rfl, hB, hB2, hO, hO2, hx2⟩
    replace c0_0 : w2.cell? ⟨w.heap.size, 0, none⟩ = some (.slice A cl.length c) := hx2.has zcv
    replace c0_1 : w2.cell? ⟨w.heap.size, 1, none⟩ = some (.slice A2 ps.length c2) := hx2.has zcv
    replace c1_0 : w2.cell? ⟨w.heap.size + 1, 0, none⟩ = some (.int .i64 V) := hx2.has zcv
    replace c1_1 : w2.cell? ⟨w.heap.size + 1, 1, none⟩ = some (.int .i64 S) := hx2.has zcv
    replace c1_2 : w2.cell? ⟨w.heap.size + 1, 2, none⟩ = some (.int .i64 P) := hx2.has zcv
    replace c1_3 : w2.cell? ⟨w.heap.size + 1, 3, none⟩ = some (.int .i64 Q) := hx2.has zcv
    have z2 := hx2.size
    try simp at z2
    have zq := zrc (show w.heap.size < w2.heap.size from by omega)
    clear rc0 rc0a rc0b rc0c rc0n
    obtain ⟨rc0, rc0a, rc0b, rc0c, rc0n⟩ := zq
    have zq := zrc (show w.heap.size + 1 < w2.heap.size from by omega)
    clear rc1 rc1a rc1b rc1c rc1n
    obtain ⟨rc1, rc1a, rc1b, rc1c, rc1n⟩ := zq
    have X2 : Hid (Ext w w2) := Lib.hid (Ext.trans zxt hx2)
    have HO := Lib.hid (show OwnCls _ (w.heap.size + 2) _ _ _ from own_lower hO zSlTel2_5)
    have HP := Lib.hid (show OwnPos _ (w.heap.size + 2) _ _ _ from own_lower hO2 zSlTel2_5)
    clear X1 hx2
    have RO := Lib.hid (own_rng hO)
    have RP := Lib.hid (own_rng hO2)
    clear hO hO2 hB hB2
    go_wp2_with fail
    (refine (CF1.out _ B B2 d d2 (OwnCls.sl (show OwnCls _ (w.heap.size + 2) (.slice B cl.length d) cl.length cl from zSlTel2_1)) (OwnPos.sl (show OwnPos _ (w.heap.size + 2) (.slice B2 ps.length d2) ps.length ps from zSlTel2_0)) (by omega) (by omega)).mono ?_)
    rintro e w3 ⟨rfl, hx3⟩
    replace c0_0 := zh hx3 c0_0
    replace c0_1 := zh hx3 c0_1
    replace c1_0 := zh hx3 c1_0
    replace c1_1 := zh hx3 c1_1
    replace c1_2 := zh hx3 c1_2
    replace c1_3 := zh hx3 c1_3
    have c2_0 : w3.cell? ⟨w2.heap.size, 0, none⟩ = some (.slice B cl.length d) := hx3.has zcv
    have c2_1 : w3.cell? ⟨w2.heap.size, 1, none⟩ = some (.slice B2 ps.length d2) := hx3.has zcv
    have z3 := hx3.size
    try simp at z3
    have lt_c0_c2 : w.heap.size < w2.heap.size := by omega
    have ne_c0_c2 : ¬ w.heap.size = w2.heap.size := by omega
    have lt_c1_c2 : w.heap.size + 1 < w2.heap.size := by omega
    have ne_c1_c2 : ¬ w.heap.size + 1 = w2.heap.size := by omega
    have ne_c2_c0 : ¬ w2.heap.size = w.heap.size := by omega
    have ne_c2_c1 : ¬ w2.heap.size = w.heap.size + 1 := by omega
    have zq := zrc (show w.heap.size < w3.heap.size from by omega)
    clear rc0 rc0a rc0b rc0c rc0n
    obtain ⟨rc0, rc0a, rc0b, rc0c, rc0n⟩ := zq
    have zq := zrc (show w.heap.size + 1 < w3.heap.size from by omega)
    clear rc1 rc1a rc1b rc1c rc1n
    obtain ⟨rc1, rc1a, rc1b, rc1c, rc1n⟩ := zq
    have zq := zrc (show w2.heap.size < w3.heap.size from by omega)
    obtain ⟨rc2, rc2a, rc2b, rc2c, rc2n⟩ := zq
    replace HO := Lib.hid ((show OwnCls _ (w.heap.size + 2) (.slice B cl.length d) cl.length cl from zSlTel2_1).ext hx3)
    replace HP := Lib.hid ((show OwnPos _ (w.heap.size + 2) (.slice B2 ps.length d2) ps.length ps from zSlTel2_0).ext hx3)
    have X3 : Hid (Ext w w3) := Lib.hid (Ext.trans zxt hx3)
    clear X2 hx3
    go_wp2_with fail
    (with_reducible refine (CF2.out _ zxt).mono ?_)
    rintro e w4 ⟨rfl, hx4⟩
    replace c0_0 := zh hx4 c0_0
    replace c0_1 := zh hx4 c0_1
    replace c1_0 := zh hx4 c1_0
    replace c1_1 := zh hx4 c1_1
    replace c1_2 := zh hx4 c1_2
    replace c1_3 := zh hx4 c1_3
    replace c2_0 := zh hx4 c2_0
    replace c2_1 := zh hx4 c2_1
    have c3_0 : w4.cell? ⟨w3.heap.size, 0, none⟩ = some (.int .u64 fT) := hx4.has zcv
    have c3_1 : w4.cell? ⟨w3.heap.size, 1, none⟩ = some (.int .u64 fU) := hx4.has zcv
    have z4 := hx4.size
    try simp at z4
    have lt_c0_c3 : w.heap.size < w3.heap.size := by omega
    have ne_c0_c3 : ¬ w.heap.size = w3.heap.size := by omega
    have lt_c1_c3 : w.heap.size + 1 < w3.heap.size := by omega
    have ne_c1_c3 : ¬ w.heap.size + 1 = w3.heap.size := by omega
    have lt_c2_c3 : w2.heap.size < w3.heap.size := by omega
    have ne_c2_c3 : ¬ w2.heap.size = w3.heap.size := by omega
    have ne_c3_c0 : ¬ w3.heap.size = w.heap.size := by omega
    have ne_c3_c1 : ¬ w3.heap.size = w.heap.size + 1 := by omega
    have ne_c3_c2 : ¬ w3.heap.size = w2.heap.size := by omega
    have zq := zrc (show w.heap.size < w4.heap.size from by omega)
    clear rc0 rc0a rc0b rc0c rc0n
    obtain ⟨rc0, rc0a, rc0b, rc0c, rc0n⟩ := zq
    have zq := zrc (show w.heap.size + 1 < w4.heap.size from by omega)
    clear rc1 rc1a rc1b rc1c rc1n
    obtain ⟨rc1, rc1a, rc1b, rc1c, rc1n⟩ := zq
    have zq := zrc (show w2.heap.size < w4.heap.size from by omega)
    clear rc2 rc2a rc2b rc2c rc2n
    obtain ⟨rc2, rc2a, rc2b, rc2c, rc2n⟩ := zq
    have zq := zrc (show w3.heap.size < w4.heap.size from by omega)
    obtain ⟨rc3, rc3a, rc3b, rc3c, rc3n⟩ := zq
    replace HO := Lib.hid ((show OwnCls _ (w.heap.size + 2) (.slice B cl.length d) cl.length cl from zSlTel2_1).ext hx4)
    replace HP := Lib.hid ((show OwnPos _ (w.heap.size + 2) (.slice B2 ps.length d2) ps.length ps from zSlTel2_0).ext hx4)
    have X4 : Hid (Ext w w4) := Lib.hid (Ext.trans zxt hx4)
    clear X3 hx4
    go_wp2_with fail
    (refine (CV1.out _ B B2 d d2 (OwnCls.sl (show OwnCls _ (w.heap.size + 2) (.slice B cl.length d) cl.length cl from zSlTel2_1)) (OwnPos.sl (show OwnPos _ (w.heap.size + 2) (.slice B2 ps.length d2) ps.length ps from zSlTel2_0)) (by omega) (by omega)).mono ?_)
    rintro e w5 ⟨rfl, hx5⟩
    replace c0_0 := zh hx5 c0_0
    replace c0_1 := zh hx5 c0_1
    replace c1_0 := zh hx5 c1_0
    replace c1_1 := zh hx5 c1_1
    replace c1_2 := zh hx5 c1_2
    replace c1_3 := zh hx5 c1_3
    replace c2_0 := zh hx5 c2_0
    replace c2_1 := zh hx5 c2_1
    replace c3_0 := zh hx5 c3_0
    replace c3_1 := zh hx5 c3_1
    have c4_0 : w5.cell? ⟨w4.heap.size, 0, none⟩ = some (.int .u64 fT) := hx5.has zcv
    have c4_1 : w5.cell? ⟨w4.heap.size, 1, none⟩ = some (.int .u64 fU) := hx5.has zcv
    have z5 := hx5.size
    try simp at z5
    have lt_c0_c4 : w.heap.size < w4.heap.size := by omega
    have ne_c0_c4 : ¬ w.heap.size = w4.heap.size := by omega
    have lt_c1_c4 : w.heap.size + 1 < w4.heap.size := by omega
    have ne_c1_c4 : ¬ w.heap.size + 1 = w4.heap.size := by omega
    have lt_c2_c4 : w2.heap.size < w4.heap.size := by omega
    have ne_c2_c4 : ¬ w2.heap.size = w4.heap.size := by omega
    have lt_c3_c4 : w3.heap.size < w4.heap.size := by omega
    have ne_c3_c4 : ¬ w3.heap.size = w4.heap.size := by omega
    have ne_c4_c0 : ¬ w4.heap.size = w.heap.size := by omega
    have ne_c4_c1 : ¬ w4.heap.size = w.heap.size + 1 := by omega
    have ne_c4_c2 : ¬ w4.heap.size = w2.heap.size := by omega
    have ne_c4_c3 : ¬ w4.heap.size = w3.heap.size := by omega
    have zq := zrc (show w.heap.size < w5.heap.size from by omega)
    clear rc0 rc0a rc0b rc0c rc0n
    obtain ⟨rc0, rc0a, rc0b, rc0c, rc0n⟩ := zq
    have zq := zrc (show w.heap.size + 1 < w5.heap.size from by omega)
    clear rc1 rc1a rc1b rc1c rc1n
    obtain ⟨rc1, rc1a, rc1b, rc1c, rc1n⟩ := zq
    have zq := zrc (show w2.heap.size < w5.heap.size from by omega)
    clear rc2 rc2a rc2b rc2c rc2n
    obtain ⟨rc2, rc2a, rc2b, rc2c, rc2n⟩ := zq
    have zq := zrc (show w3.heap.size < w5.heap.size from by omega)
    clear rc3 rc3a rc3b rc3c rc3n
    obtain ⟨rc3, rc3a, rc3b, rc3c, rc3n⟩ := zq
    have zq := zrc (show w4.heap.size < w5.heap.size from by omega)
    obtain ⟨rc4, rc4a, rc4b, rc4c, rc4n⟩ := zq
    replace HO := Lib.hid ((show OwnCls _ (w.heap.size + 2) (.slice B cl.length d) cl.length cl from zSlTel2_1).ext hx5)
    replace HP := Lib.hid ((show OwnPos _ (w.heap.size + 2) (.slice B2 ps.length d2) ps.length ps from zSlTel2_0).ext hx5)
    have X5 : Hid (Ext w w5) := Lib.hid (Ext.trans zxt hx5)
    clear X4 hx5
    go_wp2_with fail
    (with_reducible refine (CV2.out _ zxt).mono ?_)
    rintro e w6 ⟨rfl, hx6⟩
    replace c0_0 := zh hx6 c0_0
    replace c0_1 := zh hx6 c0_1
    replace c2_0 := zh hx6 c2_0
    replace c2_1 := zh hx6 c2_1
    replace c3_0 := zh hx6 c3_0
    replace c3_1 := zh hx6 c3_1
    replace c4_0 := zh hx6 c4_0
    replace c4_1 := zh hx6 c4_1
    have z6 := hx6.size
    try simp at z6
    have zq := zrc (show w.heap.size < w6.heap.size from by omega)
    clear rc0 rc0a rc0b rc0c rc0n
    obtain ⟨rc0, rc0a, rc0b, rc0c, rc0n⟩ := zq
    have zq := zrc (show w2.heap.size < w6.heap.size from by omega)
    clear rc2 rc2a rc2b rc2c rc2n
    obtain ⟨rc2, rc2a, rc2b, rc2c, rc2n⟩ := zq
    have zq := zrc (show w3.heap.size < w6.heap.size from by omega)
    clear rc3 rc3a rc3b rc3c rc3n
    obtain ⟨rc3, rc3a, rc3b, rc3c, rc3n⟩ := zq
    have zq := zrc (show w4.heap.size < w6.heap.size from by omega)
    clear rc4 rc4a rc4b rc4c rc4n
    obtain ⟨rc4, rc4a, rc4b, rc4c, rc4n⟩ := zq
    replace HO := Lib.hid ((show OwnCls _ (w.heap.size + 2) (.slice B cl.length d) cl.length cl from zSlTel2_1).ext hx6)
    replace HP := Lib.hid ((show OwnPos _ (w.heap.size + 2) (.slice B2 ps.length d2) ps.length ps from zSlTel2_0).ext hx6)
    have X6 : Hid (Ext w w6) := Lib.hid (Ext.trans zxt hx6)
    clear c1_3 c1_1 c1_2 c1_0 rc1 rc1a rc1b rc1c rc1n X5 hx6
    go_wp2_with fail
    (refine (CO1.out _ B B2 d d2 (OwnCls.sl (show OwnCls _ (w.heap.size + 2) (.slice B cl.length d) cl.length cl from zSlTel2_1)) (OwnPos.sl (show OwnPos _ (w.heap.size + 2) (.slice B2 ps.length d2) ps.length ps from zSlTel2_0)) (by omega) (by omega)).mono ?_)
    rintro e w7 ⟨rfl, hx7⟩
    replace c0_0 := zh hx7 c0_0
    replace c0_1 := zh hx7 c0_1
    replace c2_0 := zh hx7 c2_0
    replace c2_1 := zh hx7 c2_1
    have z7 := hx7.size
    try simp at z7
    have zq := zrc (show w.heap.size < w7.heap.size from by omega)
    clear rc0 rc0a rc0b rc0c rc0n
    obtain ⟨rc0, rc0a, rc0b, rc0c, rc0n⟩ := zq
    have zq := zrc (show w2.heap.size < w7.heap.size from by omega)
    clear rc2 rc2a rc2b rc2c rc2n
    obtain ⟨rc2, rc2a, rc2b, rc2c, rc2n⟩ := zq
    replace HO := Lib.hid ((show OwnCls _ (w.heap.size + 2) (.slice B cl.length d) cl.length cl from zSlTel2_1).ext hx7)
    replace HP := Lib.hid ((show OwnPos _ (w.heap.size + 2) (.slice B2 ps.length d2) ps.length ps from zSlTel2_0).ext hx7)
    have X7 : Hid (Ext w w7) := Lib.hid (Ext.trans zxt hx7)
    clear c3_0 c3_1 c4_1 c4_0 rc4 rc4a rc4b rc4c rc4n rc3 rc3a rc3b rc3c rc3n X6 hx7
    go_wp2_with fail
    (with_reducible refine (CO2.out _ zxt).mono ?_)
    rintro e w8 ⟨rfl, hx8⟩
    replace c0_0 := zh hx8 c0_0
    replace c0_1 := zh hx8 c0_1
    replace c2_0 := zh hx8 c2_0
    replace c2_1 := zh hx8 c2_1
    have z8 := hx8.size
    try simp at z8
    have zq := zrc (show w.heap.size < w8.heap.size from by omega)
    clear rc0 rc0a rc0b rc0c rc0n
    obtain ⟨rc0, rc0a, rc0b, rc0c, rc0n⟩ := zq
    have zq := zrc (show w2.heap.size < w8.heap.size from by omega)
    clear rc2 rc2a rc2b rc2c rc2n
    obtain ⟨rc2, rc2a, rc2b, rc2c, rc2n⟩ := zq
    replace HO := Lib.hid ((show OwnCls _ (w.heap.size + 2) (.slice B cl.length d) cl.length cl from zSlTel2_1).ext hx8)
    replace HP := Lib.hid ((show OwnPos _ (w.heap.size + 2) (.slice B2 ps.length d2) ps.length ps from zSlTel2_0).ext hx8)
    have X8 : Hid (Ext w w8) := Lib.hid (Ext.trans zxt hx8)
    clear X7 hx8
    go_wp2_with fail
    (refine (CT1.out _ B B2 d d2 (OwnCls.sl (show OwnCls _ (w.heap.size + 2) (.slice B cl.length d) cl.length cl from zSlTel2_1)) (OwnPos.sl (show OwnPos _ (w.heap.size + 2) (.slice B2 ps.length d2) ps.length ps from zSlTel2_0)) (by omega) (by omega)).mono ?_)
    rintro e w9 ⟨rfl, hx9⟩
    replace c0_0 := zh hx9 c0_0
    replace c0_1 := zh hx9 c0_1
    replace c2_0 := zh hx9 c2_0
    replace c2_1 := zh hx9 c2_1
    have z9 := hx9.size
    try simp at z9
    have zq := zrc (show w.heap.size < w9.heap.size from by omega)
    clear rc0 rc0a rc0b rc0c rc0n
    obtain ⟨rc0, rc0a, rc0b, rc0c, rc0n⟩ := zq
    have zq := zrc (show w2.heap.size < w9.heap.size from by omega)
    clear rc2 rc2a rc2b rc2c rc2n
    obtain ⟨rc2, rc2a, rc2b, rc2c, rc2n⟩ := zq
    replace HO := Lib.hid ((show OwnCls _ (w.heap.size + 2) (.slice B cl.length d) cl.length cl from zSlTel2_1).ext hx9)
    replace HP := Lib.hid ((show OwnPos _ (w.heap.size + 2) (.slice B2 ps.length d2) ps.length ps from zSlTel2_0).ext hx9)
    have X9 : Hid (Ext w w9) := Lib.hid (Ext.trans zxt hx9)
    clear X8 hx9
    go_wp2_with fail
    (with_reducible refine (CT2.out _ zxt).mono ?_)
    rintro e w10 ⟨rfl, hx10⟩
    replace c0_0 := zh hx10 c0_0
    replace c0_1 := zh hx10 c0_1
    replace c2_0 := zh hx10 c2_0
    replace c2_1 := zh hx10 c2_1
    have z10 := hx10.size
    try simp at z10
    have zq := zrc (show w.heap.size < w10.heap.size from by omega)
    clear rc0 rc0a rc0b rc0c rc0n
    obtain ⟨rc0, rc0a, rc0b, rc0c, rc0n⟩ := zq
    have zq := zrc (show w2.heap.size < w10.heap.size from by omega)
    clear rc2 rc2a rc2b rc2c rc2n
    obtain ⟨rc2, rc2a, rc2b, rc2c, rc2n⟩ := zq
    replace HO := Lib.hid ((show OwnCls _ (w.heap.size + 2) (.slice B cl.length d) cl.length cl from zSlTel2_1).ext hx10)
    replace HP := Lib.hid ((show OwnPos _ (w.heap.size + 2) (.slice B2 ps.length d2) ps.length ps from zSlTel2_0).ext hx10)
    have X10 : Hid (Ext w w10) := Lib.hid (Ext.trans zxt hx10)
    clear X9 hx10
    go_wp2_with fail
    (refine (CA1.out _ B B2 d d2 (OwnCls.sl (show OwnCls _ (w.heap.size + 2) (.slice B cl.length d) cl.length cl from zSlTel2_1)) (OwnPos.sl (show OwnPos _ (w.heap.size + 2) (.slice B2 ps.length d2) ps.length ps from zSlTel2_0)) (by omega) (by omega)).mono ?_)
    rintro e w11 ⟨rfl, hx11⟩
    replace c0_0 := zh hx11 c0_0
    replace c0_1 := zh hx11 c0_1
    replace c2_0 := zh hx11 c2_0
    replace c2_1 := zh hx11 c2_1
    have z11 := hx11.size
    try simp at z11
    have zq := zrc (show w.heap.size < w11.heap.size from by omega)
    clear rc0 rc0a rc0b rc0c rc0n
    obtain ⟨rc0, rc0a, rc0b, rc0c, rc0n⟩ := zq
    have zq := zrc (show w2.heap.size < w11.heap.size from by omega)
    clear rc2 rc2a rc2b rc2c rc2n
    obtain ⟨rc2, rc2a, rc2b, rc2c, rc2n⟩ := zq
    replace HO := Lib.hid ((show OwnCls _ (w.heap.size + 2) (.slice B cl.length d) cl.length cl from zSlTel2_1).ext hx11)
    replace HP := Lib.hid ((show OwnPos _ (w.heap.size + 2) (.slice B2 ps.length d2) ps.length ps from zSlTel2_0).ext hx11)
    have X11 : Hid (Ext w w11) := Lib.hid (Ext.trans zxt hx11)
    clear X10 hx11
    go_wp2_with fail
    (with_reducible refine (CA2.out _ zxt).mono ?_)
    rintro e w12 ⟨rfl, hx12⟩
    replace c0_0 := zh hx12 c0_0
    replace c0_1 := zh hx12 c0_1
    replace c2_0 := zh hx12 c2_0
    replace c2_1 := zh hx12 c2_1
    have z12 := hx12.size
    try simp at z12
    have zq := zrc (show w.heap.size < w12.heap.size from by omega)
    clear rc0 rc0a rc0b rc0c rc0n
    obtain ⟨rc0, rc0a, rc0b, rc0c, rc0n⟩ := zq
    have zq := zrc (show w2.heap.size < w12.heap.size from by omega)
    clear rc2 rc2a rc2b rc2c rc2n
    obtain ⟨rc2, rc2a, rc2b, rc2c, rc2n⟩ := zq
    replace HO := Lib.hid ((show OwnCls _ (w.heap.size + 2) (.slice B cl.length d) cl.length cl from zSlTel2_1).ext hx12)
    replace HP := Lib.hid ((show OwnPos _ (w.heap.size + 2) (.slice B2 ps.length d2) ps.length ps from zSlTel2_0).ext hx12)
    have X12 : Hid (Ext w w12) := Lib.hid (Ext.trans zxt hx12)
    clear X11 hx12
    go_wp2_with fail
    (refine (CL1.out _ B B2 d d2 (OwnCls.sl (show OwnCls _ (w.heap.size + 2) (.slice B cl.length d) cl.length cl from zSlTel2_1)) (OwnPos.sl (show OwnPos _ (w.heap.size + 2) (.slice B2 ps.length d2) ps.length ps from zSlTel2_0)) (by omega) (by omega)).mono ?_)
    rintro e w13 ⟨A5, c5, rfl, hn5, hO5, hx13⟩
    replace c0_0 := zh hx13 c0_0
    replace c0_1 := zh hx13 c0_1
    replace c2_0 := zh hx13 c2_0
    replace c2_1 := zh hx13 c2_1
    have z13 := hx13.size
    try simp at z13
    have zq := zrc (show w.heap.size < w13.heap.size from by omega)
    clear rc0 rc0a rc0b rc0c rc0n
    obtain ⟨rc0, rc0a, rc0b, rc0c, rc0n⟩ := zq
    have zq := zrc (show w2.heap.size < w13.heap.size from by omega)
    clear rc2 rc2a rc2b rc2c rc2n
    obtain ⟨rc2, rc2a, rc2b, rc2c, rc2n⟩ := zq
    replace HO := Lib.hid ((show OwnCls _ (w.heap.size + 2) (.slice B cl.length d) cl.length cl from zSlTel2_1).ext hx13)
    replace HP := Lib.hid ((show OwnPos _ (w.heap.size + 2) (.slice B2 ps.length d2) ps.length ps from zSlTel2_0).ext hx13)
    have X13 : Hid (Ext w w13) := Lib.hid (Ext.trans zxt hx13)
    have HL := Lib.hid (show OwnPos _ (w.heap.size + 2) _ _ _ from own_lower hO5 zSlTel2_5)
    clear X12 hx13
    have RL := Lib.hid (own_rng hO5)
    clear hO5
    go_wp2_with fail
    (with_reducible refine (CL2.out _ zxt (by omega) (by omega)).mono ?_)
    rintro e w14 ⟨A6, c6, rfl, hn6, hO6, hx14⟩
    replace c0_0 := zh hx14 c0_0
    replace c0_1 := zh hx14 c0_1
    replace c2_0 := zh hx14 c2_0
    replace c2_1 := zh hx14 c2_1
    have z14 := hx14.size
    try simp at z14
    have zq := zrc (show w.heap.size < w14.heap.size from by omega)
    clear rc0 rc0a rc0b rc0c rc0n
    obtain ⟨rc0, rc0a, rc0b, rc0c, rc0n⟩ := zq
    have zq := zrc (show w2.heap.size < w14.heap.size from by omega)
    clear rc2 rc2a rc2b rc2c rc2n
    obtain ⟨rc2, rc2a, rc2b, rc2c, rc2n⟩ := zq
    replace HO := Lib.hid ((show OwnCls _ (w.heap.size + 2) (.slice B cl.length d) cl.length cl from zSlTel2_1).ext hx14)
    replace HP := Lib.hid ((show OwnPos _ (w.heap.size + 2) (.slice B2 ps.length d2) ps.length ps from zSlTel2_0).ext hx14)
    replace HL := Lib.hid ((show OwnPos _ (w.heap.size + 2) (.slice A5 LO.length c5) LO.length LO from zSlTel2_2).ext hx14)
    have X14 : Hid (Ext w w14) := Lib.hid (Ext.trans zxt hx14)
    have HM := Lib.hid (show OwnPos _ (w.heap.size + 2) _ _ _ from own_lower hO6 zSlTel2_5)
    clear X13 hx14
    have RM := Lib.hid (own_rng hO6)
    clear hO6
    go_wp2_with fail
    (refine (((kSamePositions_any A5 A6 LO.length c5 LO.length c6 LO LO _ (OwnPos.sl (show OwnPos _ (w.heap.size + 2) (.slice A5 LO.length c5) LO.length LO from zSlTel2_2)) (OwnPos.sl (show OwnPos _ (w.heap.size + 2) (.slice A6 LO.length c6) LO.length LO from (by unfold OwnPos; repeat (first | exact HM.out | refine own_set_ne ?_ (fun j hj hh => by have h9 := RM.out j hj; (try simp only [World.size_alloc] at h9); first | omega | (simp at h9; omega) | (simp [go_sem] at h9; omega)) | refine own_keep (base := w.heap.size + 2) ?_ (Ext.alloc (Ext.refl _) _) | with_reducible refine World.ownsRow.drew ?_))))).mono (fun e w' h => (⟨h.1.trans (by simp), h.2⟩ : e = .returned (.bool true) ∧ Ext _ w')))).mono ?_)
    rintro e w15 ⟨rfl, hx15⟩
    replace c0_0 := zh hx15 c0_0
    replace c0_1 := zh hx15 c0_1
    replace c2_0 := zh hx15 c2_0
    replace c2_1 := zh hx15 c2_1
    have z15 := hx15.size
    try simp at z15
    have zq := zrc (show w.heap.size < w15.heap.size from by omega)
    clear rc0 rc0a rc0b rc0c rc0n
    obtain ⟨rc0, rc0a, rc0b, rc0c, rc0n⟩ := zq
    have zq := zrc (show w2.heap.size < w15.heap.size from by omega)
    clear rc2 rc2a rc2b rc2c rc2n
    obtain ⟨rc2, rc2a, rc2b, rc2c, rc2n⟩ := zq
    replace HO := Lib.hid ((show OwnCls _ (w.heap.size + 2) (.slice B cl.length d) cl.length cl from zSlTel2_1).ext hx15)
    replace HP := Lib.hid ((show OwnPos _ (w.heap.size + 2) (.slice B2 ps.length d2) ps.length ps from zSlTel2_0).ext hx15)
    replace HL := Lib.hid ((show OwnPos _ (w.heap.size + 2) (.slice A5 LO.length c5) LO.length LO from zSlTel2_2).ext hx15)
    have X15 : Hid (Ext w w15) := Lib.hid (Ext.trans zxt hx15)
    clear HM X14 hx15
    go_wp2_with fail
    (refine (kOverPositions_own A5 c5 LO (w.heap.size + 2) _ (show OwnPos _ (w.heap.size + 2) (.slice A5 LO.length c5) LO.length LO from zSlTel2_2)).mono ?_)
    rintro e w16 ⟨⟨vv, rfl⟩, hx16⟩
    have hsz16 := hx16.size
    try simp at hsz16
    replace c0_0 : w16.cell? ⟨w.heap.size, 0, none⟩ = some (.slice A cl.length c) := hx16.has (fun ⟨o, s, e⟩ => by have h9 := RL.out _ (by rw [e]; rfl); (try dsimp only at h9); (try simp only [World.size_alloc] at h9); first | omega | (simp at h9; omega) | (simp [go_sem] at h9; omega)) zcv
    replace c0_1 : w16.cell? ⟨w.heap.size, 1, none⟩ = some (.slice A2 ps.length c2) := hx16.has (fun ⟨o, s, e⟩ => by have h9 := RL.out _ (by rw [e]; rfl); (try dsimp only at h9); (try simp only [World.size_alloc] at h9); first | omega | (simp at h9; omega) | (simp [go_sem] at h9; omega)) zcv
    replace c2_0 : w16.cell? ⟨w2.heap.size, 0, none⟩ = some (.slice B cl.length d) := hx16.has (fun ⟨o, s, e⟩ => by have h9 := RL.out _ (by rw [e]; rfl); (try dsimp only at h9); (try simp only [World.size_alloc] at h9); first | omega | (simp at h9; omega) | (simp [go_sem] at h9; omega)) zcv
    replace c2_1 : w16.cell? ⟨w2.heap.size, 1, none⟩ = some (.slice B2 ps.length d2) := hx16.has (fun ⟨o, s, e⟩ => by have h9 := RL.out _ (by rw [e]; rfl); (try dsimp only at h9); (try simp only [World.size_alloc] at h9); first | omega | (simp at h9; omega) | (simp [go_sem] at h9; omega)) zcv
    have z16 := hx16.size
    try simp at z16
    have zq := zrc (show w.heap.size < w16.heap.size from by omega)
    clear rc0 rc0a rc0b rc0c rc0n
    obtain ⟨rc0, rc0a, rc0b, rc0c, rc0n⟩ := zq
    have zq := zrc (show w2.heap.size < w16.heap.size from by omega)
    clear rc2 rc2a rc2b rc2c rc2n
    obtain ⟨rc2, rc2a, rc2b, rc2c, rc2n⟩ := zq
    have X16 : Hid (Ext w w16) := Lib.hid (have hX := (show Ext w _ from zxt); Below.trans hX (hx16.below (Ext.size hX) (fun k hk ⟨o, s, e⟩ => by have h9 := RL.out _ (by rw [e]; rfl); (try dsimp only at h9); (try simp only [World.size_alloc] at h9); first | omega | (simp at h9; omega) | (simp [go_sem] at h9; omega))))
    replace HO := Lib.hid ((HO.out.ext zxt).but hx16 (fun j hj ⟨o, s, e⟩ => by have h9 := RL.out _ (by rw [e]; rfl); (try dsimp only at h9); have h8 := RO.out j hj; omega))
    replace HP := Lib.hid ((HP.out.ext zxt).but hx16 (fun j hj ⟨o, s, e⟩ => by have h9 := RL.out _ (by rw [e]; rfl); (try dsimp only at h9); have h8 := RP.out j hj; omega))
    clear HL hsz16 X15 hx16
    go_wp2_with fail
    (refine (CX1.out _ B B2 d d2 (OwnCls.sl (show OwnCls _ (w.heap.size + 2) (.slice B cl.length d) cl.length cl from zSlTel2_1)) (OwnPos.sl (show OwnPos _ (w.heap.size + 2) (.slice B2 ps.length d2) ps.length ps from zSlTel2_0)) (by omega) (by omega)).mono ?_)
    rintro e w17 ⟨A7, c7, rfl, hO7, hx17⟩
    replace c0_0 := zh hx17 c0_0
    replace c0_1 := zh hx17 c0_1
    replace c2_0 := zh hx17 c2_0
    replace c2_1 := zh hx17 c2_1
    have z17 := hx17.size
    try simp at z17
    have zq := zrc (show w.heap.size < w17.heap.size from by omega)
    clear rc0 rc0a rc0b rc0c rc0n
    obtain ⟨rc0, rc0a, rc0b, rc0c, rc0n⟩ := zq
    have zq := zrc (show w2.heap.size < w17.heap.size from by omega)
    clear rc2 rc2a rc2b rc2c rc2n
    obtain ⟨rc2, rc2a, rc2b, rc2c, rc2n⟩ := zq
    replace HO := Lib.hid ((show OwnCls _ (w.heap.size + 2) (.slice B cl.length d) cl.length cl from zSlTel2_1).ext hx17)
    replace HP := Lib.hid ((show OwnPos _ (w.heap.size + 2) (.slice B2 ps.length d2) ps.length ps from zSlTel2_0).ext hx17)
    have X17 : Hid (Ext w w17) := Lib.hid (Ext.trans zxt hx17)
    have HX := Lib.hid (show OwnCls _ (w.heap.size + 2) _ _ _ from own_lower hO7 zSlTel2_5)
    clear X16 hx17
    have RX := Lib.hid (own_rng hO7)
    clear hO7
    go_wp2_with fail
    (with_reducible refine (CX2.out _ zxt (by omega) (by omega)).mono ?_)
    rintro e w18 ⟨A8, c8, rfl, hO8, hx18⟩
    replace c0_0 := zh hx18 c0_0
    replace c0_1 := zh hx18 c0_1
    replace c2_0 := zh hx18 c2_0
    replace c2_1 := zh hx18 c2_1
    have z18 := hx18.size
    try simp at z18
    have zq := zrc (show w.heap.size < w18.heap.size from by omega)
    clear rc0 rc0a rc0b rc0c rc0n
    obtain ⟨rc0, rc0a, rc0b, rc0c, rc0n⟩ := zq
    have zq := zrc (show w2.heap.size < w18.heap.size from by omega)
    clear rc2 rc2a rc2b rc2c rc2n
    obtain ⟨rc2, rc2a, rc2b, rc2c, rc2n⟩ := zq
    replace HO := Lib.hid ((show OwnCls _ (w.heap.size + 2) (.slice B cl.length d) cl.length cl from zSlTel2_1).ext hx18)
    replace HP := Lib.hid ((show OwnPos _ (w.heap.size + 2) (.slice B2 ps.length d2) ps.length ps from zSlTel2_0).ext hx18)
    replace HX := Lib.hid ((show OwnCls _ (w.heap.size + 2) (.slice A7 LX.length c7) LX.length LX from zSlTel2_3).ext hx18)
    have X18 : Hid (Ext w w18) := Lib.hid (Ext.trans zxt hx18)
    have HY := Lib.hid (show OwnCls _ (w.heap.size + 2) _ _ _ from own_lower hO8 zSlTel2_5)
    clear X17 hx18
    have RY := Lib.hid (own_rng hO8)
    clear hO8
    go_wp2_with fail
    (refine (((kSameClasses_any A7 A8 LX.length c7 LX.length c8 LX LX _ (OwnCls.sl (show OwnCls _ (w.heap.size + 2) (.slice A7 LX.length c7) LX.length LX from zSlTel2_3)) (OwnCls.sl (show OwnCls _ (w.heap.size + 2) (.slice A8 LX.length c8) LX.length LX from (by unfold OwnCls; repeat (first | exact HY.out | refine own_set_ne ?_ (fun j hj hh => by have h9 := RY.out j hj; (try simp only [World.size_alloc] at h9); first | omega | (simp at h9; omega) | (simp [go_sem] at h9; omega)) | refine own_keep (base := w.heap.size + 2) ?_ (Ext.alloc (Ext.refl _) _) | with_reducible refine World.ownsRow.drew ?_))))).mono (fun e w' h => (⟨h.1.trans (by simp), h.2⟩ : e = .returned (.bool true) ∧ Ext _ w')))).mono ?_)
    rintro e w19 ⟨rfl, hx19⟩
    replace c0_0 := zh hx19 c0_0
    replace c0_1 := zh hx19 c0_1
    replace c2_0 := zh hx19 c2_0
    replace c2_1 := zh hx19 c2_1
    have z19 := hx19.size
    try simp at z19
    have zq := zrc (show w.heap.size < w19.heap.size from by omega)
    clear rc0 rc0a rc0b rc0c rc0n
    obtain ⟨rc0, rc0a, rc0b, rc0c, rc0n⟩ := zq
    have zq := zrc (show w2.heap.size < w19.heap.size from by omega)
    clear rc2 rc2a rc2b rc2c rc2n
    obtain ⟨rc2, rc2a, rc2b, rc2c, rc2n⟩ := zq
    replace HO := Lib.hid ((show OwnCls _ (w.heap.size + 2) (.slice B cl.length d) cl.length cl from zSlTel2_1).ext hx19)
    replace HP := Lib.hid ((show OwnPos _ (w.heap.size + 2) (.slice B2 ps.length d2) ps.length ps from zSlTel2_0).ext hx19)
    replace HX := Lib.hid ((show OwnCls _ (w.heap.size + 2) (.slice A7 LX.length c7) LX.length LX from zSlTel2_3).ext hx19)
    have X19 : Hid (Ext w w19) := Lib.hid (Ext.trans zxt hx19)
    clear HY X18 hx19
    go_wp2_with fail
    (refine (kOverClasses_own A7 c7 LX (w.heap.size + 2) _ (show OwnCls _ (w.heap.size + 2) (.slice A7 LX.length c7) LX.length LX from zSlTel2_3)).mono ?_)
    rintro e w20 ⟨⟨vv, rfl⟩, hx20⟩
    have hsz20 := hx20.size
    try simp at hsz20
    replace c0_0 : w20.cell? ⟨w.heap.size, 0, none⟩ = some (.slice A cl.length c) := hx20.has (fun ⟨o, s, e⟩ => by have h9 := RX.out _ (by rw [e]; rfl); (try dsimp only at h9); (try simp only [World.size_alloc] at h9); first | omega | (simp at h9; omega) | (simp [go_sem] at h9; omega)) zcv
    replace c0_1 : w20.cell? ⟨w.heap.size, 1, none⟩ = some (.slice A2 ps.length c2) := hx20.has (fun ⟨o, s, e⟩ => by have h9 := RX.out _ (by rw [e]; rfl); (try dsimp only at h9); (try simp only [World.size_alloc] at h9); first | omega | (simp at h9; omega) | (simp [go_sem] at h9; omega)) zcv
    replace c2_0 : w20.cell? ⟨w2.heap.size, 0, none⟩ = some (.slice B cl.length d) := hx20.has (fun ⟨o, s, e⟩ => by have h9 := RX.out _ (by rw [e]; rfl); (try dsimp only at h9); (try simp only [World.size_alloc] at h9); first | omega | (simp at h9; omega) | (simp [go_sem] at h9; omega)) zcv
    replace c2_1 : w20.cell? ⟨w2.heap.size, 1, none⟩ = some (.slice B2 ps.length d2) := hx20.has (fun ⟨o, s, e⟩ => by have h9 := RX.out _ (by rw [e]; rfl); (try dsimp only at h9); (try simp only [World.size_alloc] at h9); first | omega | (simp at h9; omega) | (simp [go_sem] at h9; omega)) zcv
    have z20 := hx20.size
    try simp at z20
    have zq := zrc (show w.heap.size < w20.heap.size from by omega)
    clear rc0 rc0a rc0b rc0c rc0n
    obtain ⟨rc0, rc0a, rc0b, rc0c, rc0n⟩ := zq
    have zq := zrc (show w2.heap.size < w20.heap.size from by omega)
    clear rc2 rc2a rc2b rc2c rc2n
    obtain ⟨rc2, rc2a, rc2b, rc2c, rc2n⟩ := zq
    have X20 : Hid (Ext w w20) := Lib.hid (have hX := (show Ext w _ from zxt); Below.trans hX (hx20.below (Ext.size hX) (fun k hk ⟨o, s, e⟩ => by have h9 := RX.out _ (by rw [e]; rfl); (try dsimp only at h9); (try simp only [World.size_alloc] at h9); first | omega | (simp at h9; omega) | (simp [go_sem] at h9; omega))))
    replace HO := Lib.hid ((HO.out.ext zxt).but hx20 (fun j hj ⟨o, s, e⟩ => by have h9 := RX.out _ (by rw [e]; rfl); (try dsimp only at h9); have h8 := RO.out j hj; omega))
    replace HP := Lib.hid ((HP.out.ext zxt).but hx20 (fun j hj ⟨o, s, e⟩ => by have h9 := RX.out _ (by rw [e]; rfl); (try dsimp only at h9); have h8 := RP.out j hj; omega))
    clear HX hsz20 X19 hx20
    go_wp2_with fail
    (refine (((kSameHolding_any cl.length d ps.length d2 cl.length c ps.length c2 B B2 A A2 cl ps cl ps _ (OwnCls.sl (show OwnCls _ (w.heap.size + 2) (.slice B cl.length d) cl.length cl from zSlTel2_1)) (OwnPos.sl (show OwnPos _ (w.heap.size + 2) (.slice B2 ps.length d2) ps.length ps from zSlTel2_0)) (H1.out.ext zxt) (H2.out.ext zxt)).mono (fun e w' h => (⟨h.1.trans (by simp), h.2⟩ : e = .returned (.bool true) ∧ Ext _ w')))).mono ?_)
    rintro e w21 ⟨rfl, hx21⟩
    have z21 := hx21.size
    try simp at z21
    replace HO := Lib.hid ((show OwnCls _ (w.heap.size + 2) (.slice B cl.length d) cl.length cl from zSlTel2_1).ext hx21)
    replace HP := Lib.hid ((show OwnPos _ (w.heap.size + 2) (.slice B2 ps.length d2) ps.length ps from zSlTel2_0).ext hx21)
    have X21 : Hid (Ext w w21) := Lib.hid (Ext.trans zxt hx21)
    clear c0_1 c0_0 c2_0 c2_1 rc2 rc2a rc2b rc2c rc2n rc0 rc0a rc0b rc0c rc0n X20 hx21
    go_wp2_with fail
    (with_reducible refine (awake13_any _).mono ?_)
    rintro e w22 ⟨rfl, hx22⟩
    have z22 := hx22.size
    try simp at z22
    replace HO := Lib.hid ((show OwnCls _ (w.heap.size + 2) (.slice B cl.length d) cl.length cl from zSlTel2_1).ext hx22)
    replace HP := Lib.hid ((show OwnPos _ (w.heap.size + 2) (.slice B2 ps.length d2) ps.length ps from zSlTel2_0).ext hx22)
    have X22 : Hid (Ext w w22) := Lib.hid (Ext.trans zxt hx22)
    clear X21 hx22
    go_wp2_with fail
    refine bodyPost_ret (v := .bool true) (by simp [results, Tryz.results5, go_sem, World.cell?_alloc_past]; try rfl) rfl ⟨rfl, ?_⟩
    exact zxt
end
end Go.Proofs.YtkinchgjidpjnaaGreat
