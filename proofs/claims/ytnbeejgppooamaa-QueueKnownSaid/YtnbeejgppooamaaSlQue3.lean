/- What the law Que rests on, part 3 of 6: Q8, ListWord, Q9, Q10, CodecM, RefR, RefW, WF, RefN, Low, Cod, StampT, StampP. Conditions stand in each lemma. -/
import Derived.WalkKit
import Derived.Deep.QuietTactic
import Derived.Deep.Draws
import Derived.Laws.OwnMore
import Derived.Laws.AppendOwn
import Derived.OwnWalk
import Derived.RangeFuncBox
import Derived.RangeFuncLeaves
import Derived.Shelf.Abstract
import Derived.OwnWalkIn
import Derived.TacticsInMore
import Derived.LoopNIn
import Derived.LoopIn
import Derived.Maps.AppendAt
import Derived.Test.YtnbeejgppooamaaRows
import Derived.Lib.Hide
import Derived.Deep.Onto
import Derived.ProofKit
import Derived.ChangeOld
import Derived.OpenShut
import Derived.Deep.Slices
import Derived.BigQuiet
import Derived.IntWalk
import Derived.Lib.SliceRun
import Derived.Deep.LoopGhost
import Derived.WalkSpells
import Derived.WalkLawsBesides
import Derived.Deep.RegionHeld3
import Derived.Lib.SmallJoins
import Derived.ArgAppend
import Derived.Test.YtnbeejgppooamaaShelf
import Derived.Test.YtnbeejgppooamaaDivNorm
import Derived.Deep.DeepCutAuto
import Derived.Deep.CutBlock
import Derived.Shelf.Spec.BitsCarry
import Derived.Test.YtnbeejgppooamaaFixRefMath
import Derived.Test.YtnbeejgppooamaaFixDivideMath
import Derived.WalkMore
import Derived.Laws.StructEq
import Derived.Laws.BytesArg
import Derived.Test.YtnbeejgppooamaaSlQue2
set_option linter.unusedVariables false
set_option linter.unusedSimpArgs false
namespace Go.Proofs.Ytnbeejgppooamaa
section
open Go.RowKit Go.ChangeShapes Go.WideShapes Go.Deep Go.Joins
theorem own_bel {w w' : World} {B base g : Nat} {e : TypeId} {sz n m c : Nat} {xs : List Value} (h : w.ownsRow base e sz (.slice (some ⟨g, 0, none⟩) m c) n xs) (hb : Below B w w') (hg : g < B) : w'.ownsRow base e sz (.slice (some ⟨g, 0, none⟩) m c) n xs := by
  refine ⟨h.1, ?_⟩
  rcases h.2 with h2 | ⟨q, cap, cur, e', hq, hq2, rest⟩
  · exact .inl h2
  · have e2 : q = g := by injection e' with h1 _ _; injection h1 with h1; injection h1 with h1 _ _; exact h1.symm
    exact .inr ⟨q, cap, cur, e', hq, (Below.block hb q (by omega)).trans hq2, rest⟩
set_option maxRecDepth 100000 in
set_option maxHeartbeats 4000000 in
theorem qcut_at (A : Option Addr) (n c : Nat) (l : List (Int × Int × Int × Int × Int × Int × Int × Int)) (v h p e1 e2 er : Int) (hb : Bool) (w : World) (hs : Sl w 8 A n c (l.flatMap entC)) (hn : n ≤ 100000) (hf : ∀ x ∈ l, FitsQ x) (hnil : A = none → c = 0) (hh : h ≤ 9223372036854775807) (hp : Word p) (he : chkQ l = (e1, e2)) (hhb : hb = (decide (1 ≤ h) && decide (h ≤ 4294967296))) (hv : er = cutG e1 v p hb) (R : List (Int × Int × Int × Int × Int × Int × Int × Int)) (S : List (Int × Int)) (U : Int) (hR : (R, S, U) = if er = 0 then (cutL l v h p n, cutS l v h p n, cutA l v h p n) else ([], [], 0)) :
    Calls Try.prog 18 #[.slice A n c, .int .i64 v, .int .i64 h, .int .u64 p] w (RetCut R S U er w) := by
  obtain ⟨i0, hi0, hz0, hz1, hz2⟩ := shave_infoP
  have hll := hs.rlen entC_len (by decide)
  have hns := hs.small
  have HLL := Lib.hid hll
  have HS := Lib.hid hs
  have HS0 := Lib.hid hs
  have HF := Lib.hid hf
  have HV := Lib.hid hv
  have HR := Lib.hid hR
  have HN := Lib.hid hnil
  have HH := Lib.hid hh
  have p0 : 0 ≤ p := hp.1
  have CC := Lib.hid (fun w' (hx : Ext w w') => qcheck_any A n c l e1 e2 w' (hs.ext hx) hf he)
  have CH := Lib.hid (fun w' => qheight_any h hb hhb w')
  have HTT := Lib.hid (show e1 = 0 → totB l ≤ 4611686018427387904 from fun h0 => (chkQ_zero (by rw [← h0]; exact he)).2)
  clear hs hf he hhb hv hR hnil hll hh
  go_enter Try.func18, Try.ntmps18
  go_wp2_with fail
  (with_reducible refine (CC.out _ (by repeat (first | with_reducible exact Ext.refl w | with_reducible refine Ext.drew ?_ | with_reducible refine Ext.drewN ?_ _ | with_reducible refine Ext.alloc ?_ _ | with_reducible refine Ext.setCell ?_ (by first | omega | (simp; done) | (simp; omega)) _))).mono ?_)
  rintro e w1 ⟨rfl, hx1⟩
  have z1 := hx1.size
  try simp at z1
  replace HS := Lib.hid (HS.out.ext (Ext.trans (by repeat (first | with_reducible exact Ext.refl _ | with_reducible refine Ext.drew ?_ | with_reducible refine Ext.drewN ?_ _ | with_reducible refine Ext.alloc ?_ _ | with_reducible refine Ext.setCell ?_ (by first | omega | (simp; done) | (simp; omega)) _)) hx1))
  have X1 : Hid (Ext w w1) := Lib.hid (Ext.trans (by repeat (first | with_reducible exact Ext.refl w | with_reducible refine Ext.drew ?_ | with_reducible refine Ext.drewN ?_ _ | with_reducible refine Ext.alloc ?_ _ | with_reducible refine Ext.setCell ?_ (by first | omega | (simp; done) | (simp; omega)) _)) hx1)
  clear hx1 z1
  by_cases q1 : ¬ e1 = 0
  · have q1b : (e1 != 0) = true := by simp [q1]
    go_wp2_with fail
    have hv9 : er = e1 := (by rw [HV.out]; unfold cutG; (repeat' split) <;> first | omega | simp_all)
    obtain ⟨rfl, rfl, rfl⟩ : R = [] ∧ S = [] ∧ U = 0 := by have h := HR.out; rw [if_neg (by omega)] at h; simpa using h
    rw [hv9]
    refine bodyPost_ret (v := .tuple #[.slice none 0 0, .slice none 0 0, .int .u64 0, .int .i64 e1]) (by simp [results, Try.results18, go_sem, World.cell?_alloc_past]; try rfl) rfl (RetCut.nil ?_)
    exact (by repeat (first | with_reducible exact X1.out | with_reducible refine Ext.drew ?_ | with_reducible refine Ext.drewN ?_ _ | with_reducible refine Ext.alloc ?_ _ | with_reducible refine Ext.setCell ?_ (by first | omega | (simp; done) | (simp; omega)) _))
  · have q1b : (e1 != 0) = false := by simpa using q1
    by_cases q2 : v < 0
    · have d2 : decide (v < 0) = true := decide_eq_true q2
      have Q2 := Lib.hid q2
      clear q2
      go_wp2_with fail
      have q2 := Q2.out
      have hv9 : er = 3 := (by rw [HV.out]; unfold cutG; (repeat' split) <;> first | omega | simp_all)
      obtain ⟨rfl, rfl, rfl⟩ : R = [] ∧ S = [] ∧ U = 0 := by have h := HR.out; rw [if_neg (by omega)] at h; simpa using h
      rw [hv9]
      refine bodyPost_ret (v := .tuple #[.slice none 0 0, .slice none 0 0, .int .u64 0, .int .i64 3]) (by simp [results, Try.results18, go_sem, World.cell?_alloc_past]; try rfl) rfl (RetCut.nil ?_)
      exact (by repeat (first | with_reducible exact X1.out | with_reducible refine Ext.drew ?_ | with_reducible refine Ext.drewN ?_ _ | with_reducible refine Ext.alloc ?_ _ | with_reducible refine Ext.setCell ?_ (by first | omega | (simp; done) | (simp; omega)) _))
    · have d2 : decide (v < 0) = false := decide_eq_false q2
      have Q2 := Lib.hid q2
      clear q2
      by_cases q3 : 32 ≤ v
      · have d3 : decide (32 ≤ v) = true := decide_eq_true q3
        have Q3 := Lib.hid q3
        clear q3
        go_wp2_with fail
        have q2 := Q2.out
        have q3 := Q3.out
        have hv9 : er = 3 := (by rw [HV.out]; unfold cutG; (repeat' split) <;> first | omega | simp_all)
        obtain ⟨rfl, rfl, rfl⟩ : R = [] ∧ S = [] ∧ U = 0 := by have h := HR.out; rw [if_neg (by omega)] at h; simpa using h
        rw [hv9]
        refine bodyPost_ret (v := .tuple #[.slice none 0 0, .slice none 0 0, .int .u64 0, .int .i64 3]) (by simp [results, Try.results18, go_sem, World.cell?_alloc_past]; try rfl) rfl (RetCut.nil ?_)
        exact (by repeat (first | with_reducible exact X1.out | with_reducible refine Ext.drew ?_ | with_reducible refine Ext.drewN ?_ _ | with_reducible refine Ext.alloc ?_ _ | with_reducible refine Ext.setCell ?_ (by first | omega | (simp; done) | (simp; omega)) _))
      · have d3 : decide (32 ≤ v) = false := decide_eq_false q3
        have Q3 := Lib.hid q3
        clear q3
        cases hb
        · go_wp2_with fail
          (with_reducible refine (CH.out _).mono ?_)
          rintro e w_1 ⟨rfl, rfl⟩
          go_wp2_with fail
          have q2 := Q2.out
          have q3 := Q3.out
          have hv9 : er = 3 := (by rw [HV.out]; unfold cutG; (repeat' split) <;> first | omega | simp_all)
          obtain ⟨rfl, rfl, rfl⟩ : R = [] ∧ S = [] ∧ U = 0 := by have h := HR.out; rw [if_neg (by omega)] at h; simpa using h
          rw [hv9]
          refine bodyPost_ret (v := .tuple #[.slice none 0 0, .slice none 0 0, .int .u64 0, .int .i64 3]) (by simp [results, Try.results18, go_sem, World.cell?_alloc_past]; try rfl) rfl (RetCut.nil ?_)
          exact (by repeat (first | with_reducible exact X1.out | with_reducible refine Ext.drew ?_ | with_reducible refine Ext.drewN ?_ _ | with_reducible refine Ext.alloc ?_ _ | with_reducible refine Ext.setCell ?_ (by first | omega | (simp; done) | (simp; omega)) _))
        · go_wp2_with fail
          (with_reducible refine (CH.out _).mono ?_)
          rintro e w_1 ⟨rfl, rfl⟩
          by_cases q4 : 1000000000 < p
          · have d4 : decide (1000000000 < p) = true := decide_eq_true q4
            have Q4 := Lib.hid q4
            clear q4
            go_wp2_with fail
            have q2 := Q2.out
            have q3 := Q3.out
            have q4 := Q4.out
            have hv9 : er = 3 := (by rw [HV.out]; unfold cutG; (repeat' split) <;> first | omega | simp_all)
            obtain ⟨rfl, rfl, rfl⟩ : R = [] ∧ S = [] ∧ U = 0 := by have h := HR.out; rw [if_neg (by omega)] at h; simpa using h
            rw [hv9]
            refine bodyPost_ret (v := .tuple #[.slice none 0 0, .slice none 0 0, .int .u64 0, .int .i64 3]) (by simp [results, Try.results18, go_sem, World.cell?_alloc_past]; try rfl) rfl (RetCut.nil ?_)
            exact (by repeat (first | with_reducible exact X1.out | with_reducible refine Ext.drew ?_ | with_reducible refine Ext.drewN ?_ _ | with_reducible refine Ext.alloc ?_ _ | with_reducible refine Ext.setCell ?_ (by first | omega | (simp; done) | (simp; omega)) _))
          · have d4 : decide (1000000000 < p) = false := decide_eq_false q4
            have Q4 := Lib.hid q4
            clear q4
            go_wp2_with fail
            have hlw := Ext.size X1.out
            (with_reducible refine (eClone_n A n c l _ (HS.out.ext (by repeat (first | with_reducible exact Ext.refl _ | with_reducible refine Ext.drew ?_ | with_reducible refine Ext.drewN ?_ _ | with_reducible refine Ext.alloc ?_ _ | with_reducible refine Ext.setCell ?_ (by first | omega | (simp; done) | (simp; omega)) _))) (by omega) HN.out).mono ?_)
            rintro e w2 ⟨A3, c3, rfl, hA3, hO3, hx2⟩
            have z2 := hx2.size
            try simp at z2
            replace HS := Lib.hid (HS.out.ext (Ext.trans (by repeat (first | with_reducible exact Ext.refl _ | with_reducible refine Ext.drew ?_ | with_reducible refine Ext.drewN ?_ _ | with_reducible refine Ext.alloc ?_ _ | with_reducible refine Ext.setCell ?_ (by first | omega | (simp; done) | (simp; omega)) _)) hx2))
            have X2 : Hid (Ext w w2) := Lib.hid (Ext.trans (by repeat (first | with_reducible exact X1.out | with_reducible refine Ext.drew ?_ | with_reducible refine Ext.drewN ?_ _ | with_reducible refine Ext.alloc ?_ _ | with_reducible refine Ext.setCell ?_ (by first | omega | (simp; done) | (simp; omega)) _)) hx2)
            have HO := Lib.hid (OwnEnt.lower hO3 (show w.heap.size ≤ _ from by first | exact hlw | (simp; omega)))
            clear X1 hx2 z2
            clear hA3 hO3
            go_wp2_with fail
            have q2 := Q2.out
            have q3 := Q3.out
            have q4 := Q4.out
            obtain rfl : er = 0 := (by rw [HV.out]; unfold cutG; (repeat' split) <;> first | omega | simp_all)
            obtain ⟨h1, h2, h3⟩ : R = cutL l v h p n ∧ S = cutS l v h p n ∧ U = cutA l v h p n := by have h := HR.out; rw [if_pos rfl] at h; simpa using h
            have hAB : ∀ b o s, A3 = some ⟨b, o, s⟩ → b < w2.heap.size := fun b o s e => (OwnEnt.in_ HO.out b o s e).2
            have hBw := Ext.size X2.out
            have HX2 : Hid (Ext w _) := Lib.hid (by repeat (first | with_reducible exact X2.out | with_reducible refine Ext.drew ?_ | with_reducible refine Ext.drewN ?_ _ | with_reducible refine Ext.alloc ?_ _ | with_reducible refine Ext.setCell ?_ (by first | omega | (simp; done) | (simp; omega)) _))
            have HTB := Lib.hid (HTT.out (by omega))
            obtain ⟨B, hB⟩ : ∃ B, B = w2.heap.size := ⟨_, rfl⟩
            have hBB : B ≤ w2.heap.size := by omega
            rw [← hB] at hAB hBw
            have HAB := Lib.hid hAB
            have HE := Lib.hid (And.intro h1 (And.intro h2 h3))
            have HO0 : Hid (OwnEnt _ w.heap.size (.slice A3 n c3) n l) := Lib.hid (HO.out.ext (by repeat (first | with_reducible exact Ext.refl _ | with_reducible refine Ext.drew ?_ | with_reducible refine Ext.drewN ?_ _ | with_reducible refine Ext.alloc ?_ _ | with_reducible refine Ext.setCell ?_ (by first | omega | (simp; done) | (simp; omega)) _)))
            clear hAB h1 h2 h3 hB CC CH HR HV HTT HO X2 HS HS0 d2 d3 d4 q1 q1b
            go_loopg [15, 16, 48] n (fun gh q a i wx => gh ≤ n ∧ i = .int .i64 ((n - gh : Nat) : Int) ∧ a = .int .u64 (cutA l v h p (n - gh)) ∧ (∃ A2 c2, q = .slice A2 (cutS l v h p (n - gh)).length c2) ∧ Hid (OwnEnt wx w.heap.size (.slice A3 n c3) n (cutL l v h p (n - gh))) ∧ Hid (OwnShave wx B q (cutS l v h p (n - gh)).length (cutS l v h p (n - gh))) ∧ B ≤ wx.heap.size ∧ Hid (Ext w wx))
            case atStart => exact ⟨Nat.le_refl _, by simp, by rw [Nat.sub_self]; rfl, by rw [Nat.sub_self]; exact ⟨none, 0, rfl⟩, by rw [Nat.sub_self]; exact HO0, by rw [Nat.sub_self]; exact Lib.hid (World.ownsRow_nil _ _ _ _), by first | exact hBB | (simp; done) | (simp; omega), HX2⟩
            case round =>
              obtain ⟨hg, hi, ha, ⟨A2, c2, rfl⟩, HO, HW, hBr, XR⟩ := hrel
              obtain ⟨k, hk⟩ : ∃ k, k = n - gk := ⟨_, rfl⟩
              have hCA := cutA_bound HF.out v h p0 (show p ≤ 1000000000 from by omega) k
              have hCl := cutS_len l v h p k
              rw [← hk] at hi ha HO HW
              rw [← hk]
              subst hi
              have hTk := totB_le HF.out k
              have hTB := HTB.out
              by_cases hz : gk = 0
              · have hkn : ¬ (k : Int) < (n : Int) := by omega
                obtain rfl : k = n := by omega
                obtain ⟨h1, h2, h3⟩ := HE.out
                rw [← h1] at HO
                rw [← h2] at HW
                rw [← h2]
                rw [← h3] at ha
                have E := Lib.hid (show RetCut R S U 0 w (.returned (.tuple #[.slice A3 k c3, .slice A2 S.length c2, .int .u64 U, .int .i64 0])) wr from RetCut.mk HO.out HW.out hBw HAB.out (by rw [h1, cutL_len]; exact HLL.out.symm) XR.out)
                subst ha
                clear hk hg hz HO HW HO0 h1 h2 h3 HE hCA hCl hTk hTB XR
                go_wp2
                refine bodyPost_ret (v := .tuple #[.slice A3 k c3, .slice A2 S.length c2, .int .u64 U, .int .i64 0]) (by simp [results, Try.results18, go_sem]; try rfl) rfl ?_
                exact E.out
              · have hkn : (k : Int) < (n : Int) := by omega
                have hkl : k < l.length := by have := HLL.out; omega
                obtain ⟨CA, hCAe⟩ : ∃ CA, CA = cutA l v h p k := ⟨_, rfl⟩
                obtain ⟨CS, hCSe⟩ : ∃ CS, CS = cutS l v h p k := ⟨_, rfl⟩
                obtain ⟨LC, hLCe⟩ : ∃ LC, LC = cutL l v h p k := ⟨_, rfl⟩
                rw [← hCAe] at ha hCA
                rw [← hCSe] at HW hCl ⊢
                rw [← hLCe] at HO
                subst ha
                obtain ⟨g, rfl, hgw, hgr⟩ := OwnEnt.box HO.out (show 0 < n from by omega)
                have hgB : g < B := HAB.out g 0 none rfl
                obtain ⟨xw, hl_x⟩ : ∃ x, l[k]? = some x := ⟨_, List.getElem?_eq_getElem (by omega)⟩
                have hLCx : LC[k]? = some xw := by rw [hLCe, cutL_get l v h p k (Nat.le_refl _)]; exact hl_x
                have hLCn : LC.length = n := by rw [hLCe, cutL_len]; exact HLL.out
                obtain ⟨xo, xv, xs, xp, xf, xc, xi, xb⟩ := xw
                have HC : Hid (Cur 27 entC 8 wr w.heap.size g n c3 LC k (xo, xv, xs, xp, xf, xc, xi, xb)) := Lib.hid (Cur.mk HO.out hLCx hLCn)
                have hset : LC.set k (xo, xv, xs, xp, xf, xc, xi, xb) = LC := by obtain ⟨q1, q2⟩ := List.getElem?_eq_some_iff.1 hLCx; rw [← q2, List.set_getElem_self]
                have hba := (HF.out _ (List.mem_of_getElem? hl_x)).ba
                obtain ⟨u1, u2, _⟩ := prt_bounds hba.1 p0 (show p ≤ 1000000000 from by omega)
                have pa := pa_prt hba p0 (show p ≤ 1000000000 from by omega)
                have hTn := totB_take hl_x
                have hTk1 := totB_le HF.out (k + 1)
                obtain ⟨P, hP⟩ : ∃ P, P = prt (baE (xo, xv, xs, xp, xf, xc, xi, xb)) p := ⟨_, rfl⟩
                have CT : bkE (xo, xv, xs, xp, xf, xc, xi, xb) v h = true → cutL l v h p (k + 1) = LC.set k (xo, xv, xs, xp, xf, xc, xi, xb - P) ∧ cutS l v h p (k + 1) = CS ++ [((k : Int), P)] ∧ cutA l v h p (k + 1) = CA + P := fun e => by rw [hLCe, hCSe, hCAe, hP]; exact cut_t hl_x e
                have CF : bkE (xo, xv, xs, xp, xf, xc, xi, xb) v h = false → cutL l v h p (k + 1) = LC ∧ cutS l v h p (k + 1) = CS ∧ cutA l v h p (k + 1) = CA := fun e => by rw [hLCe, hCSe, hCAe]; exact cut_f hl_x e
                have CB := Lib.hid (fun w => tBacked_any xv xs xp xf v h xc w)
                have CP := Lib.hid (fun w => fPart_any xb p hba ⟨p0, by omega⟩ w)
                rw [show paN xb p = P from by rw [hP]; exact pa.1, show paE xb p = 0 from pa.2] at CP
                rw [← hP] at u1 u2
                change P ≤ xb at u2
                change totB (l.take (k + 1)) = totB (l.take k) + xb at hTn
                have b0 : 0 ≤ xb := hba.1
                have b1' : xb < 18446744073709551616 := hba.2
                rw [show bkdB xv xs xp xf v h xc = bkE (xo, xv, xs, xp, xf, xc, xi, xb) v h from rfl] at CB
                have HCT := Lib.hid (And.intro CT CF)
                have HSET := Lib.hid hset
                have HK := Lib.hid (And.intro hk (And.intro hg hz))
                have cu1 : 0 ≤ CA + P := by omega
                have cu2 : CA + P ≤ 4611686018427387904 := by omega
                have cu3 : 0 ≤ xb - P := by omega
                have cu4 : xb - P < 18446744073709551616 := by omega
                have hCS : CS.length ≤ 100000 := by omega
            
                have x_0 : wr.cell? ⟨g, k * 8, none⟩ = _ := Cur.cell entC_len HC.out (j := 0) rfl
                have x_1 : wr.cell? ⟨g, k * 8 + 1, none⟩ = _ := Cur.cell entC_len HC.out (j := 1) rfl
                have x_2 : wr.cell? ⟨g, k * 8 + 2, none⟩ = _ := Cur.cell entC_len HC.out (j := 2) rfl
                have x_3 : wr.cell? ⟨g, k * 8 + 3, none⟩ = _ := Cur.cell entC_len HC.out (j := 3) rfl
                have x_4 : wr.cell? ⟨g, k * 8 + 4, none⟩ = _ := Cur.cell entC_len HC.out (j := 4) rfl
                have x_5 : wr.cell? ⟨g, k * 8 + 5, none⟩ = _ := Cur.cell entC_len HC.out (j := 5) rfl
                have x_6 : wr.cell? ⟨g, k * 8 + 6, none⟩ = _ := Cur.cell entC_len HC.out (j := 6) rfl
                have x_7 : wr.cell? ⟨g, k * 8 + 7, none⟩ = _ := Cur.cell entC_len HC.out (j := 7) rfl
                have x_7f : wr.frozen? ⟨g, k * 8 + 7, none⟩ = false := Cur.froz HC.out 7
                have rx : g < wr.heap.size := hgr
                simp only [] at x_0 x_1 x_2 x_3 x_4 x_5 x_6 x_7
                clear hk hg hz hkl hl_x hLCx hLCn hba pa hTn hTk1 hP CT CF hset hCAe hCSe hLCe HO HO0 hCA hCl hTk hTB
                cases e1 : bkE (xo, xv, xs, xp, xf, xc, xi, xb) v h
                · rw [e1] at CB
                  obtain ⟨k1, k2, k3⟩ := HCT.out.2 e1
                  have HT := Lib.hid (And.intro k1 (And.intro k2 k3))
                  clear k1 k2 k3 e1 HCT
                  go_wp2_with fail
                  refine wp_region_held_drew (S := fun w' => w'.cell? ⟨g, k * 8 + 1, none⟩ = some (.int .i64 xv) ∧ w'.cell? ⟨g, k * 8 + 2, none⟩ = some (.int .i64 xs) ∧ w'.cell? ⟨g, k * 8 + 3, none⟩ = some (.int .i64 xp) ∧ w'.cell? ⟨g, k * 8 + 4, none⟩ = some (.int .i64 xf) ∧ w'.cell? ⟨g, k * 8 + 5, none⟩ = some (.int .i64 xc)) (by kernel_rfl) (by first | exact ⟨x_1, x_2, x_3, x_4, x_5⟩ | (simp [go_sem, World.cell?_alloc_past, x_0, x_1, x_2, x_3, x_4, x_5, x_6, x_7, x_7f]; done)) (fun hHeld => ?_)
                  (refine' take_in 0 rfl (by kernel_rfl) (by kernel_rfl) (by kernel_rfl) (fun _ _ _ h => h) (by rfl) (by assumption) ?_ ?_; rotate_left; focus (intro w hSw; (try dsimp only at hSw); go_simp; try with_reducible rfl)); try simp only [Act.put, List.setIfInBounds_toArray, List.set_cons_zero, List.set_cons_succ]
                  (refine' take_in 1 rfl (by kernel_rfl) (by kernel_rfl) (by kernel_rfl) (fun _ _ _ h => h) (by rfl) (by assumption) ?_ ?_; rotate_left; focus (intro w hSw; (try dsimp only at hSw); go_simp; try with_reducible rfl)); try simp only [Act.put, List.setIfInBounds_toArray, List.set_cons_zero, List.set_cons_succ]
                  (refine' take_in 2 rfl (by kernel_rfl) (by kernel_rfl) (by kernel_rfl) (fun _ _ _ h => h) (by rfl) (by assumption) ?_ ?_; rotate_left; focus (intro w hSw; (try dsimp only at hSw); go_simp; try with_reducible rfl)); try simp only [Act.put, List.setIfInBounds_toArray, List.set_cons_zero, List.set_cons_succ]
                  (refine' take_in 3 rfl (by kernel_rfl) (by kernel_rfl) (by kernel_rfl) (fun _ _ _ h => h) (by rfl) (by assumption) ?_ ?_; rotate_left; focus (intro w hSw; (try dsimp only at hSw); go_simp; try with_reducible rfl)); try simp only [Act.put, List.setIfInBounds_toArray, List.set_cons_zero, List.set_cons_succ]
                  (refine' take_in 4 rfl (by kernel_rfl) (by kernel_rfl) (by kernel_rfl) (fun _ _ _ h => h) (by rfl) (by assumption) ?_ ?_; rotate_left; focus (intro w hSw; (try dsimp only at hSw); go_simp; try with_reducible rfl)); try simp only [Act.put, List.setIfInBounds_toArray, List.set_cons_zero, List.set_cons_succ]
                  (refine' take_in 5 rfl (by kernel_rfl) (by kernel_rfl) (by kernel_rfl) (fun _ _ _ h => h) (by rfl) (by assumption) ?_ ?_; rotate_left; focus (intro w hSw; (try dsimp only at hSw); go_simp; try with_reducible rfl)); try simp only [Act.put, List.setIfInBounds_toArray, List.set_cons_zero, List.set_cons_succ]
                  (refine' take_in 6 rfl (by kernel_rfl) (by kernel_rfl) (by kernel_rfl) (fun _ _ _ h => h) (by rfl) (by assumption) ?_ ?_; rotate_left; focus (intro w hSw; (try dsimp only at hSw); go_simp; try with_reducible rfl)); try simp only [Act.put, List.setIfInBounds_toArray, List.set_cons_zero, List.set_cons_succ]
                  (refine' take_in 7 rfl (by kernel_rfl) (by kernel_rfl) (by kernel_rfl) (fun _ _ _ h => h) (by rfl) (by assumption) ?_ ?_; rotate_left; focus (intro w hSw; (try dsimp only at hSw); go_simp; try with_reducible rfl)); try simp only [Act.put, List.setIfInBounds_toArray, List.set_cons_zero, List.set_cons_succ]
                  (refine' take_in 8 rfl (by kernel_rfl) (by kernel_rfl) (by kernel_rfl) (fun _ _ _ h => h) (by rfl) (by assumption) ?_ ?_; rotate_left; focus (intro w hSw; (try dsimp only at hSw); go_simp; try with_reducible rfl)); try simp only [Act.put, List.setIfInBounds_toArray, List.set_cons_zero, List.set_cons_succ]
                  (refine' take_in 9 rfl (by kernel_rfl) (by kernel_rfl) (by kernel_rfl) (fun _ _ _ h => h) (by rfl) (by assumption) ?_ ?_; rotate_left; focus (intro w hSw; (try dsimp only at hSw); go_simp; try with_reducible rfl)); try simp only [Act.put, List.setIfInBounds_toArray, List.set_cons_zero, List.set_cons_succ]
                  refine' next_in 10 rfl (by kernel_rfl) (by rfl) (fun K hK => ?_)
                  go_simp
                  (with_reducible refine (CB.out _).mono ?_)
                  rintro e w11 ⟨rfl, hx11⟩
                  replace x_1 : w11.cell? ⟨g, k * 8 + 1, none⟩ = some (.int .i64 xv) := hx11.has (by first | exact x_1 | (simp [go_sem, World.cell?_alloc_past, x_0, x_1, x_2, x_3, x_4, x_5, x_6, x_7, x_7f]; done))
                  replace x_2 : w11.cell? ⟨g, k * 8 + 2, none⟩ = some (.int .i64 xs) := hx11.has (by first | exact x_2 | (simp [go_sem, World.cell?_alloc_past, x_0, x_1, x_2, x_3, x_4, x_5, x_6, x_7, x_7f]; done))
                  replace x_3 : w11.cell? ⟨g, k * 8 + 3, none⟩ = some (.int .i64 xp) := hx11.has (by first | exact x_3 | (simp [go_sem, World.cell?_alloc_past, x_0, x_1, x_2, x_3, x_4, x_5, x_6, x_7, x_7f]; done))
                  replace x_4 : w11.cell? ⟨g, k * 8 + 4, none⟩ = some (.int .i64 xf) := hx11.has (by first | exact x_4 | (simp [go_sem, World.cell?_alloc_past, x_0, x_1, x_2, x_3, x_4, x_5, x_6, x_7, x_7f]; done))
                  replace x_5 : w11.cell? ⟨g, k * 8 + 5, none⟩ = some (.int .i64 xc) := hx11.has (by first | exact x_5 | (simp [go_sem, World.cell?_alloc_past, x_0, x_1, x_2, x_3, x_4, x_5, x_6, x_7, x_7f]; done))
                  have z11 := hx11.size
                  try simp at z11
                  have rx : g < w11.heap.size := by omega
                  have rxa : g < w11.heap.size + 1 := by omega
                  have rxb : g < w11.heap.size + 1 + 1 := by omega
                  have rxc : g < w11.heap.size + 1 + 1 + 1 := by omega
                  have rxn : ¬ g = w11.heap.size := by omega
                  replace HC := Lib.hid (HC.out.ext (Ext.trans (by repeat (first | with_reducible exact Ext.refl _ | with_reducible refine Ext.drew ?_ | with_reducible refine Ext.drewN ?_ _ | with_reducible refine Ext.alloc ?_ _ | with_reducible refine Ext.setCell ?_ (by first | omega | (simp; done) | (simp; omega)) _)) hx11))
                  replace HW := Lib.hid (HW.out.ext (Ext.trans (by repeat (first | with_reducible exact Ext.refl _ | with_reducible refine Ext.drew ?_ | with_reducible refine Ext.drewN ?_ _ | with_reducible refine Ext.alloc ?_ _ | with_reducible refine Ext.setCell ?_ (by first | omega | (simp; done) | (simp; omega)) _)) hx11))
                  have X11 : Hid (Ext w w11) := Lib.hid (Ext.trans (by repeat (first | with_reducible exact XR.out | with_reducible refine Ext.drew ?_ | with_reducible refine Ext.drewN ?_ _ | with_reducible refine Ext.alloc ?_ _ | with_reducible refine Ext.setCell ?_ (by first | omega | (simp; done) | (simp; omega)) _)) hx11)
                  clear x_6 x_0 x_7 x_7f XR hx11
                  refine hK.out _ _ (by (first | exact ⟨x_1, x_2, x_3, x_4, x_5⟩ | (simp [go_sem, World.cell?_alloc_past, x_1, x_2, x_3, x_4, x_5, rx, rxa, rxb, rxc, rxn]; done))) (fun hHeld => ?_); clear hK K; try simp only [Act.put, List.setIfInBounds_toArray, List.set_cons_zero, List.set_cons_succ]
                  (refine' take_in 11 rfl (by kernel_rfl) (by kernel_rfl) (by kernel_rfl) (fun _ _ _ h => h) (by rfl) (by assumption) ?_ ?_; rotate_left; focus (intro w hSw; (try dsimp only at hSw); go_simp; try with_reducible rfl)); try simp only [Act.put, List.setIfInBounds_toArray, List.set_cons_zero, List.set_cons_succ]
                  refine wpAnyH_done (by kernel_rfl) ?_ _
                  go_wp2_with fail
                  go_roundg (gk - 1)
                  case measure => have := HK.out; omega
                  case rel =>
                    have e3 : n - (gk - 1) = k + 1 := by have := HK.out; omega
                    rw [e3]
                    obtain ⟨k1, k2, k3⟩ := HT.out
                    rw [k1, k2, k3]
                    exact ⟨by have := HK.out; omega, num_eq (by have := HK.out; omega), rfl, ⟨_, _, rfl⟩, Lib.hid (by have h := Cur.own (HC.out.ext (by repeat (first | with_reducible exact Ext.refl _ | with_reducible refine Ext.drew ?_ | with_reducible refine Ext.drewN ?_ _ | with_reducible refine Ext.alloc ?_ _ | with_reducible refine Ext.setCell ?_ (by first | omega | (simp; done) | (simp; omega)) _))); rw [HSET.out] at h; exact h), Lib.hid (show OwnShave _ _ _ _ _ from (HW.out.ext (by repeat (first | with_reducible exact Ext.refl _ | with_reducible refine Ext.drew ?_ | with_reducible refine Ext.drewN ?_ _ | with_reducible refine Ext.alloc ?_ _ | with_reducible refine Ext.setCell ?_ (by first | omega | (simp; done) | (simp; omega)) _)))), by first | omega | (simp; omega), Lib.hid (by repeat (first | with_reducible exact X11.out | with_reducible refine Ext.drew ?_ | with_reducible refine Ext.drewN ?_ _ | with_reducible refine Ext.alloc ?_ _ | with_reducible refine Ext.setCell ?_ (by first | omega | (simp; done) | (simp; omega)) _))⟩
                · rw [e1] at CB
                  obtain ⟨k1, k2, k3⟩ := HCT.out.1 e1
                  have HT := Lib.hid (And.intro k1 (And.intro k2 k3))
                  clear k1 k2 k3 e1 HCT
                  go_wp2_with fail
                  refine wp_region_held_drew (S := fun w' => w'.cell? ⟨g, k * 8 + 1, none⟩ = some (.int .i64 xv) ∧ w'.cell? ⟨g, k * 8 + 2, none⟩ = some (.int .i64 xs) ∧ w'.cell? ⟨g, k * 8 + 3, none⟩ = some (.int .i64 xp) ∧ w'.cell? ⟨g, k * 8 + 4, none⟩ = some (.int .i64 xf) ∧ w'.cell? ⟨g, k * 8 + 5, none⟩ = some (.int .i64 xc)) (by kernel_rfl) (by first | exact ⟨x_1, x_2, x_3, x_4, x_5⟩ | (simp [go_sem, World.cell?_alloc_past, x_0, x_1, x_2, x_3, x_4, x_5, x_6, x_7, x_7f]; done)) (fun hHeld => ?_)
                  (refine' take_in 0 rfl (by kernel_rfl) (by kernel_rfl) (by kernel_rfl) (fun _ _ _ h => h) (by rfl) (by assumption) ?_ ?_; rotate_left; focus (intro w hSw; (try dsimp only at hSw); go_simp; try with_reducible rfl)); try simp only [Act.put, List.setIfInBounds_toArray, List.set_cons_zero, List.set_cons_succ]
                  (refine' take_in 1 rfl (by kernel_rfl) (by kernel_rfl) (by kernel_rfl) (fun _ _ _ h => h) (by rfl) (by assumption) ?_ ?_; rotate_left; focus (intro w hSw; (try dsimp only at hSw); go_simp; try with_reducible rfl)); try simp only [Act.put, List.setIfInBounds_toArray, List.set_cons_zero, List.set_cons_succ]
                  (refine' take_in 2 rfl (by kernel_rfl) (by kernel_rfl) (by kernel_rfl) (fun _ _ _ h => h) (by rfl) (by assumption) ?_ ?_; rotate_left; focus (intro w hSw; (try dsimp only at hSw); go_simp; try with_reducible rfl)); try simp only [Act.put, List.setIfInBounds_toArray, List.set_cons_zero, List.set_cons_succ]
                  (refine' take_in 3 rfl (by kernel_rfl) (by kernel_rfl) (by kernel_rfl) (fun _ _ _ h => h) (by rfl) (by assumption) ?_ ?_; rotate_left; focus (intro w hSw; (try dsimp only at hSw); go_simp; try with_reducible rfl)); try simp only [Act.put, List.setIfInBounds_toArray, List.set_cons_zero, List.set_cons_succ]
                  (refine' take_in 4 rfl (by kernel_rfl) (by kernel_rfl) (by kernel_rfl) (fun _ _ _ h => h) (by rfl) (by assumption) ?_ ?_; rotate_left; focus (intro w hSw; (try dsimp only at hSw); go_simp; try with_reducible rfl)); try simp only [Act.put, List.setIfInBounds_toArray, List.set_cons_zero, List.set_cons_succ]
                  (refine' take_in 5 rfl (by kernel_rfl) (by kernel_rfl) (by kernel_rfl) (fun _ _ _ h => h) (by rfl) (by assumption) ?_ ?_; rotate_left; focus (intro w hSw; (try dsimp only at hSw); go_simp; try with_reducible rfl)); try simp only [Act.put, List.setIfInBounds_toArray, List.set_cons_zero, List.set_cons_succ]
                  (refine' take_in 6 rfl (by kernel_rfl) (by kernel_rfl) (by kernel_rfl) (fun _ _ _ h => h) (by rfl) (by assumption) ?_ ?_; rotate_left; focus (intro w hSw; (try dsimp only at hSw); go_simp; try with_reducible rfl)); try simp only [Act.put, List.setIfInBounds_toArray, List.set_cons_zero, List.set_cons_succ]
                  (refine' take_in 7 rfl (by kernel_rfl) (by kernel_rfl) (by kernel_rfl) (fun _ _ _ h => h) (by rfl) (by assumption) ?_ ?_; rotate_left; focus (intro w hSw; (try dsimp only at hSw); go_simp; try with_reducible rfl)); try simp only [Act.put, List.setIfInBounds_toArray, List.set_cons_zero, List.set_cons_succ]
                  (refine' take_in 8 rfl (by kernel_rfl) (by kernel_rfl) (by kernel_rfl) (fun _ _ _ h => h) (by rfl) (by assumption) ?_ ?_; rotate_left; focus (intro w hSw; (try dsimp only at hSw); go_simp; try with_reducible rfl)); try simp only [Act.put, List.setIfInBounds_toArray, List.set_cons_zero, List.set_cons_succ]
                  (refine' take_in 9 rfl (by kernel_rfl) (by kernel_rfl) (by kernel_rfl) (fun _ _ _ h => h) (by rfl) (by assumption) ?_ ?_; rotate_left; focus (intro w hSw; (try dsimp only at hSw); go_simp; try with_reducible rfl)); try simp only [Act.put, List.setIfInBounds_toArray, List.set_cons_zero, List.set_cons_succ]
                  refine' next_in 10 rfl (by kernel_rfl) (by rfl) (fun K hK => ?_)
                  go_simp
                  (with_reducible refine (CB.out _).mono ?_)
                  rintro e w11 ⟨rfl, hx11⟩
                  replace x_7f : w11.frozen? ⟨g, k * 8 + 7, none⟩ = false := hx11.froz (v := .int .u64 xb) (by first | exact x_7 | (simp [go_sem, World.cell?_alloc_past, x_0, x_1, x_2, x_3, x_4, x_5, x_6, x_7, x_7f]; done)) (by first | exact x_7f | (simp [go_sem, World.cell?_alloc_past, x_0, x_1, x_2, x_3, x_4, x_5, x_6, x_7, x_7f]; done))
                  replace x_1 : w11.cell? ⟨g, k * 8 + 1, none⟩ = some (.int .i64 xv) := hx11.has (by first | exact x_1 | (simp [go_sem, World.cell?_alloc_past, x_0, x_1, x_2, x_3, x_4, x_5, x_6, x_7, x_7f]; done))
                  replace x_2 : w11.cell? ⟨g, k * 8 + 2, none⟩ = some (.int .i64 xs) := hx11.has (by first | exact x_2 | (simp [go_sem, World.cell?_alloc_past, x_0, x_1, x_2, x_3, x_4, x_5, x_6, x_7, x_7f]; done))
                  replace x_3 : w11.cell? ⟨g, k * 8 + 3, none⟩ = some (.int .i64 xp) := hx11.has (by first | exact x_3 | (simp [go_sem, World.cell?_alloc_past, x_0, x_1, x_2, x_3, x_4, x_5, x_6, x_7, x_7f]; done))
                  replace x_4 : w11.cell? ⟨g, k * 8 + 4, none⟩ = some (.int .i64 xf) := hx11.has (by first | exact x_4 | (simp [go_sem, World.cell?_alloc_past, x_0, x_1, x_2, x_3, x_4, x_5, x_6, x_7, x_7f]; done))
                  replace x_5 : w11.cell? ⟨g, k * 8 + 5, none⟩ = some (.int .i64 xc) := hx11.has (by first | exact x_5 | (simp [go_sem, World.cell?_alloc_past, x_0, x_1, x_2, x_3, x_4, x_5, x_6, x_7, x_7f]; done))
                  replace x_7 : w11.cell? ⟨g, k * 8 + 7, none⟩ = some (.int .u64 xb) := hx11.has (by first | exact x_7 | (simp [go_sem, World.cell?_alloc_past, x_0, x_1, x_2, x_3, x_4, x_5, x_6, x_7, x_7f]; done))
                  have z11 := hx11.size
                  try simp at z11
                  have rx : g < w11.heap.size := by omega
                  have rxa : g < w11.heap.size + 1 := by omega
                  have rxb : g < w11.heap.size + 1 + 1 := by omega
                  have rxc : g < w11.heap.size + 1 + 1 + 1 := by omega
                  have rxn : ¬ g = w11.heap.size := by omega
                  replace HC := Lib.hid (HC.out.ext (Ext.trans (by repeat (first | with_reducible exact Ext.refl _ | with_reducible refine Ext.drew ?_ | with_reducible refine Ext.drewN ?_ _ | with_reducible refine Ext.alloc ?_ _ | with_reducible refine Ext.setCell ?_ (by first | omega | (simp; done) | (simp; omega)) _)) hx11))
                  replace HW := Lib.hid (HW.out.ext (Ext.trans (by repeat (first | with_reducible exact Ext.refl _ | with_reducible refine Ext.drew ?_ | with_reducible refine Ext.drewN ?_ _ | with_reducible refine Ext.alloc ?_ _ | with_reducible refine Ext.setCell ?_ (by first | omega | (simp; done) | (simp; omega)) _)) hx11))
                  have X11 : Hid (Ext w w11) := Lib.hid (Ext.trans (by repeat (first | with_reducible exact XR.out | with_reducible refine Ext.drew ?_ | with_reducible refine Ext.drewN ?_ _ | with_reducible refine Ext.alloc ?_ _ | with_reducible refine Ext.setCell ?_ (by first | omega | (simp; done) | (simp; omega)) _)) hx11)
                  clear x_6 x_0 XR hx11
                  refine hK.out _ _ (by (first | exact ⟨x_1, x_2, x_3, x_4, x_5⟩ | (simp [go_sem, World.cell?_alloc_past, x_7f, x_1, x_2, x_3, x_4, x_5, x_7, rx, rxa, rxb, rxc, rxn]; done))) (fun hHeld => ?_); clear hK K; try simp only [Act.put, List.setIfInBounds_toArray, List.set_cons_zero, List.set_cons_succ]
                  (refine' take_in 11 rfl (by kernel_rfl) (by kernel_rfl) (by kernel_rfl) (fun _ _ _ h => h) (by rfl) (by assumption) ?_ ?_; rotate_left; focus (intro w hSw; (try dsimp only at hSw); go_simp; try with_reducible rfl)); try simp only [Act.put, List.setIfInBounds_toArray, List.set_cons_zero, List.set_cons_succ]
                  refine wpAnyH_done (by kernel_rfl) ?_ _
                  go_wp2_with fail
                  (with_reducible refine (CP.out _).mono ?_)
                  rintro e w12 ⟨rfl, hx12⟩
                  replace x_7f : w12.frozen? ⟨g, k * 8 + 7, none⟩ = false := hx12.froz (v := .int .u64 xb) (by first | exact x_7 | (simp [go_sem, World.cell?_alloc_past, x_7f, x_1, x_2, x_3, x_4, x_5, x_7, rx, rxa, rxb, rxc, rxn]; done)) (by first | exact x_7f | (simp [go_sem, World.cell?_alloc_past, x_7f, x_1, x_2, x_3, x_4, x_5, x_7, rx, rxa, rxb, rxc, rxn]; done))
                  replace x_1 : w12.cell? ⟨g, k * 8 + 1, none⟩ = some (.int .i64 xv) := hx12.has (by first | exact x_1 | (simp [go_sem, World.cell?_alloc_past, x_7f, x_1, x_2, x_3, x_4, x_5, x_7, rx, rxa, rxb, rxc, rxn]; done))
                  replace x_2 : w12.cell? ⟨g, k * 8 + 2, none⟩ = some (.int .i64 xs) := hx12.has (by first | exact x_2 | (simp [go_sem, World.cell?_alloc_past, x_7f, x_1, x_2, x_3, x_4, x_5, x_7, rx, rxa, rxb, rxc, rxn]; done))
                  replace x_3 : w12.cell? ⟨g, k * 8 + 3, none⟩ = some (.int .i64 xp) := hx12.has (by first | exact x_3 | (simp [go_sem, World.cell?_alloc_past, x_7f, x_1, x_2, x_3, x_4, x_5, x_7, rx, rxa, rxb, rxc, rxn]; done))
                  replace x_4 : w12.cell? ⟨g, k * 8 + 4, none⟩ = some (.int .i64 xf) := hx12.has (by first | exact x_4 | (simp [go_sem, World.cell?_alloc_past, x_7f, x_1, x_2, x_3, x_4, x_5, x_7, rx, rxa, rxb, rxc, rxn]; done))
                  replace x_5 : w12.cell? ⟨g, k * 8 + 5, none⟩ = some (.int .i64 xc) := hx12.has (by first | exact x_5 | (simp [go_sem, World.cell?_alloc_past, x_7f, x_1, x_2, x_3, x_4, x_5, x_7, rx, rxa, rxb, rxc, rxn]; done))
                  replace x_7 : w12.cell? ⟨g, k * 8 + 7, none⟩ = some (.int .u64 xb) := hx12.has (by first | exact x_7 | (simp [go_sem, World.cell?_alloc_past, x_7f, x_1, x_2, x_3, x_4, x_5, x_7, rx, rxa, rxb, rxc, rxn]; done))
                  have z12 := hx12.size
                  try simp at z12
                  replace rx : g < w12.heap.size := by omega
                  replace rxa : g < w12.heap.size + 1 := by omega
                  replace rxb : g < w12.heap.size + 1 + 1 := by omega
                  replace rxc : g < w12.heap.size + 1 + 1 + 1 := by omega
                  replace rxn : ¬ g = w12.heap.size := by omega
                  replace HC := Lib.hid (HC.out.ext (Ext.trans (by repeat (first | with_reducible exact Ext.refl _ | with_reducible refine Ext.drew ?_ | with_reducible refine Ext.drewN ?_ _ | with_reducible refine Ext.alloc ?_ _ | with_reducible refine Ext.setCell ?_ (by first | omega | (simp; done) | (simp; omega)) _)) hx12))
                  replace HW := Lib.hid (HW.out.ext (Ext.trans (by repeat (first | with_reducible exact Ext.refl _ | with_reducible refine Ext.drew ?_ | with_reducible refine Ext.drewN ?_ _ | with_reducible refine Ext.alloc ?_ _ | with_reducible refine Ext.setCell ?_ (by first | omega | (simp; done) | (simp; omega)) _)) hx12))
                  have X12 : Hid (Ext w w12) := Lib.hid (Ext.trans (by repeat (first | with_reducible exact X11.out | with_reducible refine Ext.drew ?_ | with_reducible refine Ext.drewN ?_ _ | with_reducible refine Ext.alloc ?_ _ | with_reducible refine Ext.setCell ?_ (by first | omega | (simp; done) | (simp; omega)) _)) hx12)
                  clear X11 hx12
                  have HC2 := Lib.hid (Cur.put entC_len (HC.out.ext (by repeat (first | with_reducible exact Ext.refl _ | with_reducible refine Ext.drew ?_ | with_reducible refine Ext.drewN ?_ _ | with_reducible refine Ext.alloc ?_ _ | with_reducible refine Ext.setCell ?_ (by first | omega | (simp; done) | (simp; omega)) _))) 7 (.int .u64 (xb - P)) (xo, xv, xs, xp, xf, xc, xi, xb - P) (by decide) rfl)
                  have HW2 : Hid (OwnShave (w12.setCell ⟨g, k * 8 + 7, none⟩ (.int .u64 (xb - P))) B (.slice A2 CS.length c2) CS.length CS) := Lib.hid (ownsRow_setCell_below (show OwnShave w12 B (.slice A2 CS.length c2) CS.length CS from (HW.out.ext (by repeat (first | with_reducible exact Ext.refl _ | with_reducible refine Ext.drew ?_ | with_reducible refine Ext.drewN ?_ _ | with_reducible refine Ext.alloc ?_ _ | with_reducible refine Ext.setCell ?_ (by first | omega | (simp; done) | (simp; omega)) _)))) (a := ⟨g, k * 8 + 7, none⟩) hgB (.int .u64 (xb - P)))
                  have XW : Hid (Ext w (w12.setCell ⟨g, k * 8 + 7, none⟩ (.int .u64 (xb - P)))) := Lib.hid (Ext.setCell (show Ext w w12 from (by repeat (first | with_reducible exact X12.out | with_reducible refine Ext.drew ?_ | with_reducible refine Ext.drewN ?_ _ | with_reducible refine Ext.alloc ?_ _ | with_reducible refine Ext.setCell ?_ (by first | omega | (simp; done) | (simp; omega)) _))) (by show w.heap.size ≤ g; exact hgw) (.int .u64 (xb - P)))
                  have hBs : B ≤ (w12.setCell ⟨g, k * 8 + 7, none⟩ (.int .u64 (xb - P))).heap.size := by (try simp); omega
                  clear HW X12
                  go_wp2_with (at_builtin; refine wpList_append_new _ rfl _ _ 38 rfl B 68 i0 (.agg #[.int .i64 0, .int .u64 0]) 2 16 Try.underlying38 hi0 hz0 hz1 hz2 rfl (by decide) _ CS.length (CS.flatMap shaveC) (by rfl) HW2.out #[.int .i64 (k : Int), .int .u64 P] 1 (by first | rfl | simp [Act.eval, go_sem]) rfl (by intro u hu; simp at hu; rcases hu with rfl | rfl <;> rfl) (by omega) (by decide) (by first | omega | (simp; omega)) ?_; intro v9 w9 hown9 hb9 ; clear HW2; have E0 := Lib.hid (And.intro hown9 hb9); clear hown9 hb9)
                  obtain ⟨A9, c9, rfl, _, _⟩ := own_parts2 E0.out.1
                  have E1 : Hid (OwnShave w9 B (.slice A9 (CS.length + 1) c9) (CS ++ [((k : Int), P)]).length (CS ++ [((k : Int), P)])) := Lib.hid (by
                    rw [List.length_append]
                    unfold OwnShave
                    rw [List.flatMap_append]
                    exact E0.out.1)
                  have HC9 : Hid (OwnEnt w9 w.heap.size (.slice (some ⟨g, 0, none⟩) n c3) n (LC.set k (xo, xv, xs, xp, xf, xc, xi, xb - P))) := Lib.hid (own_bel (Cur.own HC2.out) E0.out.2 hgB)
                  have X9 : Hid (Ext w w9) := Lib.hid (Below.trans XW.out (Below.mono E0.out.2 hBw))
                  have z9 := Below.size E0.out.2
                  clear HC2 XW E0
                  go_wp2
                  
                  go_roundg (gk - 1)
                  case measure => have := HK.out; omega
                  case rel =>
                    have e3 : n - (gk - 1) = k + 1 := by have := HK.out; omega
                    rw [e3]
                    obtain ⟨k1, k2, k3⟩ := HT.out
                    rw [k1, k2, k3]
                    exact ⟨by have := HK.out; omega, num_eq (by have := HK.out; omega), rfl, ⟨_, _, by rw [List.length_append]; rfl⟩, HC9, E1, by first | omega | (simp; omega), X9⟩
end
section
open Go.RowKit Go.ChangeShapes Go.WideShapes Go.Deep
/-- a row of numbers of one's own -/
def OwnWord (w : World) (base : Nat) (v : Value) (n : Nat) (l : List Int) : Prop := w.ownsRow base 25 1 v n (iv .u64 l)
theorem OwnWord.ext {w w' : World} {base n : Nat} {v : Value} {l : List Int} (h : OwnWord w base v n l) (hx : Ext w w') : OwnWord w' base v n l := own_keep h hx
theorem OwnWord.sl {w : World} {base n c : Nat} {A : Option Addr} {l : List Int} (h : OwnWord w base (.slice A n c) n l) : Sl w 1 A n c (iv .u64 l) := Sl.own h
theorem OwnWord.nil (w : World) (base : Nat) : OwnWord w base (.slice none 0 0) 0 [] := World.ownsRow_nil _ _ _ _
theorem OwnWord.lower {w : World} {base b' n : Nat} {v : Value} {l : List Int} (h : OwnWord w base v n l) (hb : b' ≤ base) : OwnWord w b' v n l := own_lower h hb
/-- numbers handed back -/
def RetWord (l : List Int) (w : World) (e : Ending) (w' : World) : Prop := ∃ A c, e = .returned (.slice A l.length c) ∧ (A = none → c = 0) ∧ OwnWord w' w.heap.size (.slice A l.length c) l.length l ∧ Ext w w'
theorem RetWord.mk {l : List Int} {w w' : World} {v : Value} (h : w'.ownsRow w.heap.size 25 1 v l.length (iv .u64 l)) (hx : Ext w w') : RetWord l w (.returned v) w' := by
  obtain ⟨A, c, rfl, h1, h2⟩ := own_parts2 h
  exact ⟨A, c, rfl, h1, h, hx⟩
theorem own_but1Word {S : Nat → Prop} {w w' : World} {base sz n : Nat} {e : TypeId} {v : Value} {xs : List Value} (h : w.ownsRow base e sz v n xs) (hx : But S w w') (hS : ∀ j, v.ownBlock = some j → ¬ S j) : w'.ownsRow base e sz v n xs := by
  refine ⟨h.1, ?_⟩
  rcases h.2 with h2 | ⟨r, cap, cur, e', hr, hr2, rest⟩
  · exact .inl h2
  · refine .inr ⟨r, cap, cur, e', hr, ?_, rest⟩
    rw [← hr2]
    exact hx.block r (Array.getElem?_eq_some_iff.1 hr2).1 (hS r (by rw [e']; rfl))
theorem OwnWord.but {S : Nat → Prop} {w w' : World} {base n c m : Nat} {A : Option Addr} {l : List Int} (h : OwnWord w base (.slice A m c) n l) (hx : But S w w') (hS : ∀ k o s, A = some ⟨k, o, s⟩ → ¬ S k) : OwnWord w' base (.slice A m c) n l := by
  refine own_but1Word h hx (fun j hj => ?_)
  cases A with
  | none => cases hj
  | some a => obtain ⟨b, o, s⟩ := a
              injection hj with hj
              have hj2 : b = j := hj
              subst hj2
              exact hS b o s rfl
end
section
open Go.RowKit Go.ChangeShapes Go.WideShapes Go.Deep Go.Joins
theorem qadd_ev (A : Option Addr) (n c : Nat) (l R : List (Int × Int × Int × Int × Int × Int × Int × Int)) (xo xv xs xp xf xc xi xb most er : Int) (w : World) (h : Sl w 8 A n c (l.flatMap entC)) (hn : n ≤ 100000) (hf : ∀ x ∈ l, FitsQ x) (hxb : Word xb) (hxi : Word xi) (hnil : A = none → c = 0) (hv : (R, er) = addQ l (xo, xv, xs, xp, xf, xc, xi, xb) most) :
    Calls Try.prog 12 #[.slice A n c, .agg #[.int .i64 xo, .int .i64 xv, .int .i64 xs, .int .i64 xp, .int .i64 xf, .int .i64 xc, .int .u64 xi, .int .u64 xb], .int .i64 most] w fun e w' => ∃ A2 c2, e = .returned (.tuple #[.slice A2 R.length c2, .int .i64 er]) ∧ (A2 = none → c2 = 0) ∧ OwnEnt w' w.heap.size (.slice A2 R.length c2) R.length R ∧ Ext w w' := by
  have hll := h.rlen entC_len (by decide)
  have h2 : er = adE l (xo, xv, xs, xp, xf, xc, xi, xb) most ∧ R = if adE l (xo, xv, xs, xp, xf, xc, xi, xb) most = 0 then l ++ [(xo, xv, xs, xp, xf, xc, xi, xb)] else [] := by
    unfold addQ at hv
    split at hv
    · rename_i e
      injection hv with q1 q2
      rw [if_pos e]
      exact ⟨q2.trans e.symm, q1⟩
    · rename_i e
      injection hv with q1 q2
      rw [if_neg e]
      exact ⟨q2, q1⟩
  obtain ⟨rfl, rfl⟩ := h2
  exact (qadd_at A n c l xo xv xs xp xf xc xi xb most (chkQ l).1 (chkQ l).2 _ _ _ (adE l (xo, xv, xs, xp, xf, xc, xi, xb) most) _ _ w h hn hf hxb hxi rfl rfl rfl rfl rfl rfl (by unfold adE; rw [← hll]; rfl) hnil _ rfl).mono fun e w' ⟨A2, c2, q1, q2, q3, q4⟩ => ⟨A2, c2, q1, q2, q3, q4⟩
theorem cutV_at {l : List (Int × Int × Int × Int × Int × Int × Int × Int)} {n : Nat} {v h p er U : Int} {R : List (Int × Int × Int × Int × Int × Int × Int × Int)} {S : List (Int × Int)} (hl : l.length = n) (hv : (R, S, U, er) = cutV l v h p) : er = cutG (chkQ l).1 v p (decide (1 ≤ h) && decide (h ≤ 4294967296)) ∧ (R, S, U) = if er = 0 then (cutL l v h p n, cutS l v h p n, cutA l v h p n) else ([], [], 0) := by
  subst hl
  unfold cutV at hv
  split at hv
  · rename_i e
    injection hv with q1 q2
    injection q2 with q2 q3
    injection q3 with q3 q4
    subst q1 q2 q3 q4
    exact ⟨e.symm, by rw [if_pos rfl]⟩
  · rename_i e
    injection hv with q1 q2
    injection q2 with q2 q3
    injection q3 with q3 q4
    subst q1 q2 q3 q4
    exact ⟨rfl, by rw [if_neg e]⟩
theorem qcut_ev (A : Option Addr) (n c : Nat) (l R : List (Int × Int × Int × Int × Int × Int × Int × Int)) (S : List (Int × Int)) (v h p U er : Int) (w : World) (hs : Sl w 8 A n c (l.flatMap entC)) (hn : n ≤ 100000) (hf : ∀ x ∈ l, FitsQ x) (hnil : A = none → c = 0) (hh : h ≤ 9223372036854775807) (hp : Word p) (hv : (R, S, U, er) = cutV l v h p) :
    Calls Try.prog 18 #[.slice A n c, .int .i64 v, .int .i64 h, .int .u64 p] w (RetCut R S U er w) := by
  obtain ⟨h1, h2⟩ := cutV_at (hs.rlen entC_len (by decide)) hv
  exact qcut_at A n c l v h p (chkQ l).1 (chkQ l).2 er _ w hs hn hf hnil hh hp rfl rfl h1 R S U h2
theorem fitsQ_of {l : List (Int × Int × Int × Int × Int × Int × Int × Int)} (h : l.all (fun x => (Lit.int .i64 x.1).wf && ((Lit.int .i64 x.2.1).wf && ((Lit.int .i64 x.2.2.1).wf && ((Lit.int .i64 x.2.2.2.1).wf && ((Lit.int .i64 x.2.2.2.2.1).wf && ((Lit.int .i64 x.2.2.2.2.2.1).wf && ((decide (0 ≤ x.2.2.2.2.2.2.1) && decide (x.2.2.2.2.2.2.1 < 18446744073709551616)) && (decide (0 ≤ x.2.2.2.2.2.2.2) && decide (x.2.2.2.2.2.2.2 < 18446744073709551616))))))))) = true) : ∀ x ∈ l, FitsQ x := by
  intro x hx
  have h1 := List.all_eq_true.1 h x hx
  simp only [Bool.and_eq_true, decide_eq_true_eq] at h1
  exact h1
theorem fitsQ_one {xo xv xs xp xf xc xi xb : Int} (h : ([(xo, xv, xs, xp, xf, xc, xi, xb)] : List (Int × Int × Int × Int × Int × Int × Int × Int)).all (fun x => (Lit.int .i64 x.1).wf && ((Lit.int .i64 x.2.1).wf && ((Lit.int .i64 x.2.2.1).wf && ((Lit.int .i64 x.2.2.2.1).wf && ((Lit.int .i64 x.2.2.2.2.1).wf && ((Lit.int .i64 x.2.2.2.2.2.1).wf && ((decide (0 ≤ x.2.2.2.2.2.2.1) && decide (x.2.2.2.2.2.2.1 < 18446744073709551616)) && (decide (0 ≤ x.2.2.2.2.2.2.2) && decide (x.2.2.2.2.2.2.2 < 18446744073709551616))))))))) = true) : FitsQ (xo, xv, xs, xp, xf, xc, xi, xb) := fitsQ_of h _ (List.mem_singleton.2 rfl)
theorem ents_new (w : World) (l : List (Int × Int × Int × Int × Int × Int × Int × Int)) (n : Nat) (hl : l.length = n) (hn : n ≤ 1000000) : Sl (w.alloc (.cells (l.flatMap entC).toArray 27)) 8 (some ⟨w.heap.size, 0, none⟩) n n (l.flatMap entC) := by
  have := sl_new w 27 8 (l.flatMap entC).toArray n (by rw [List.size_toArray, flat_len entC_len, hl]) hn
  exact this
/-- the chapter's queue -/
def chapQ : List (Int × Int × Int × Int × Int × Int × Int × Int) := [(0, 2, 5, -1, 0, 9, 10, 10), (1, 2, 5, -1, 0, 9, 20, 20), (0, 3, 6, 2, 5, 12, 30, 30)]
theorem chapQ_fits : ∀ x ∈ chapQ, FitsQ x := fitsQ_of (by decide)
theorem chap_add : ∀ (k : Nat) (x : (Int × Int × Int × Int × Int × Int × Int × Int)), chapQ[k]? = some x → (chapQ.take (k + 1), 0) = addQ (chapQ.take k) x 2
  | 0, x, h => by injection h with h; subst h; decide
  | 1, x, h => by injection h with h; subst h; decide
  | 2, x, h => by injection h with h; subst h; decide
  | k + 3, x, h => by simp [chapQ] at h
set_option maxRecDepth 100000 in
set_option maxHeartbeats 4000000 in
theorem two14_any (w : World) : Calls Try.prog 34 #[] w fun e w' => e = .returned (.agg #[.int .i64 2, .int .i64 5, .int .i64 (-1), .int .i64 0]) ∧ Ext w w' := by
  go_enter Try.func34, Try.ntmps34
  go_wp2_with fail
  refine bodyPost_ret (v := .agg #[.int .i64 2, .int .i64 5, .int .i64 (-1), .int .i64 0]) (by simp [results, Try.results34, go_sem, World.cell?_alloc_past]; try rfl) rfl ⟨rfl, ?_⟩
  exact (by repeat (first | with_reducible exact Ext.refl w | with_reducible refine Ext.drew ?_ | with_reducible refine Ext.drewN ?_ _ | with_reducible refine Ext.alloc ?_ _ | with_reducible refine Ext.setCell ?_ (by first | omega | (simp; done) | (simp; omega)) _))
set_option maxRecDepth 100000 in
set_option maxHeartbeats 4000000 in
theorem hop14_any (w : World) : Calls Try.prog 36 #[] w fun e w' => e = .returned (.agg #[.int .i64 3, .int .i64 6, .int .i64 2, .int .i64 5]) ∧ Ext w w' := by
  go_enter Try.func36, Try.ntmps36
  go_wp2_with fail
  refine bodyPost_ret (v := .agg #[.int .i64 3, .int .i64 6, .int .i64 2, .int .i64 5]) (by simp [results, Try.results36, go_sem, World.cell?_alloc_past]; try rfl) rfl ⟨rfl, ?_⟩
  exact (by repeat (first | with_reducible exact Ext.refl w | with_reducible refine Ext.drew ?_ | with_reducible refine Ext.drewN ?_ _ | with_reducible refine Ext.alloc ?_ _ | with_reducible refine Ext.setCell ?_ (by first | omega | (simp; done) | (simp; omega)) _))
set_option maxRecDepth 100000 in
set_option maxHeartbeats 4000000 in
theorem entry14_any (ow v s p f a m : Int) (w : World) : Calls Try.prog 33 #[.int .i64 ow, .agg #[.int .i64 v, .int .i64 s, .int .i64 p, .int .i64 f], .int .i64 a, .int .u64 m] w fun e w' => e = .returned (.agg #[.int .i64 ow, .int .i64 v, .int .i64 s, .int .i64 p, .int .i64 f, .int .i64 a, .int .u64 m, .int .u64 m]) ∧ Ext w w' := by
  go_enter Try.func33, Try.ntmps33
  go_wp2_with fail
  refine bodyPost_ret (v := .agg #[.int .i64 ow, .int .i64 v, .int .i64 s, .int .i64 p, .int .i64 f, .int .i64 a, .int .u64 m, .int .u64 m]) (by simp [results, Try.results33, go_sem, World.cell?_alloc_past]; try rfl) rfl ⟨rfl, ?_⟩
  exact (by repeat (first | with_reducible exact Ext.refl w | with_reducible refine Ext.drew ?_ | with_reducible refine Ext.drewN ?_ _ | with_reducible refine Ext.alloc ?_ _ | with_reducible refine Ext.setCell ?_ (by first | omega | (simp; done) | (simp; omega)) _))
set_option maxRecDepth 100000 in
set_option maxHeartbeats 4000000 in
theorem chapter14_any (w : World) : Calls Try.prog 30 #[] w fun e w' => ∃ A c, e = .returned (.slice A 3 c) ∧ (A = none → c = 0) ∧ OwnEnt w' w.heap.size (.slice A 3 c) 3 chapQ ∧ Ext w w' := by
  go_enter Try.func30, Try.ntmps30
  go_wp2_with fail
  (with_reducible refine (two14_any _).mono ?_)
  rintro e w1 ⟨rfl, hx1⟩
  have z1 := hx1.size
  try simp at z1
  have X1 : Hid (Ext w w1) := Lib.hid (Ext.trans (by repeat (first | with_reducible exact Ext.refl w | with_reducible refine Ext.drew ?_ | with_reducible refine Ext.drewN ?_ _ | with_reducible refine Ext.alloc ?_ _ | with_reducible refine Ext.setCell ?_ (by first | omega | (simp; done) | (simp; omega)) _)) hx1)
  clear hx1 z1
  go_wp2_with fail
  (with_reducible refine (entry14_any 0 2 5 (-1) 0 9 10 _).mono ?_)
  rintro e w2 ⟨rfl, hx2⟩
  have z2 := hx2.size
  try simp at z2
  have X2 : Hid (Ext w w2) := Lib.hid (Ext.trans (by repeat (first | with_reducible exact X1.out | with_reducible refine Ext.drew ?_ | with_reducible refine Ext.drewN ?_ _ | with_reducible refine Ext.alloc ?_ _ | with_reducible refine Ext.setCell ?_ (by first | omega | (simp; done) | (simp; omega)) _)) hx2)
  clear X1 hx2 z2
  go_wp2_with fail
  (with_reducible refine (two14_any _).mono ?_)
  rintro e w3 ⟨rfl, hx3⟩
  have z3 := hx3.size
  try simp at z3
  have X3 : Hid (Ext w w3) := Lib.hid (Ext.trans (by repeat (first | with_reducible exact X2.out | with_reducible refine Ext.drew ?_ | with_reducible refine Ext.drewN ?_ _ | with_reducible refine Ext.alloc ?_ _ | with_reducible refine Ext.setCell ?_ (by first | omega | (simp; done) | (simp; omega)) _)) hx3)
  clear X2 hx3 z3
  go_wp2_with fail
  (with_reducible refine (entry14_any 1 2 5 (-1) 0 9 20 _).mono ?_)
  rintro e w4 ⟨rfl, hx4⟩
  have z4 := hx4.size
  try simp at z4
  have X4 : Hid (Ext w w4) := Lib.hid (Ext.trans (by repeat (first | with_reducible exact X3.out | with_reducible refine Ext.drew ?_ | with_reducible refine Ext.drewN ?_ _ | with_reducible refine Ext.alloc ?_ _ | with_reducible refine Ext.setCell ?_ (by first | omega | (simp; done) | (simp; omega)) _)) hx4)
  clear X3 hx4 z4
  go_wp2_with fail
  (with_reducible refine (hop14_any _).mono ?_)
  rintro e w5 ⟨rfl, hx5⟩
  have z5 := hx5.size
  try simp at z5
  have X5 : Hid (Ext w w5) := Lib.hid (Ext.trans (by repeat (first | with_reducible exact X4.out | with_reducible refine Ext.drew ?_ | with_reducible refine Ext.drewN ?_ _ | with_reducible refine Ext.alloc ?_ _ | with_reducible refine Ext.setCell ?_ (by first | omega | (simp; done) | (simp; omega)) _)) hx5)
  clear X4 hx5 z5
  go_wp2_with fail
  (with_reducible refine (entry14_any 0 3 6 2 5 12 30 _).mono ?_)
  rintro e w6 ⟨rfl, hx6⟩
  have z6 := hx6.size
  try simp at z6
  have X6 : Hid (Ext w w6) := Lib.hid (Ext.trans (by repeat (first | with_reducible exact X5.out | with_reducible refine Ext.drew ?_ | with_reducible refine Ext.drewN ?_ _ | with_reducible refine Ext.alloc ?_ _ | with_reducible refine Ext.setCell ?_ (by first | omega | (simp; done) | (simp; omega)) _)) hx6)
  clear X5 hx6 z6
  have HX6 : Hid (Ext w (w6.alloc (.cells #[.int .i64 0, .int .i64 2, .int .i64 5, .int .i64 (-1), .int .i64 0, .int .i64 9, .int .u64 10, .int .u64 10, .int .i64 1, .int .i64 2, .int .i64 5, .int .i64 (-1), .int .i64 0, .int .i64 9, .int .u64 20, .int .u64 20, .int .i64 0, .int .i64 3, .int .i64 6, .int .i64 2, .int .i64 5, .int .i64 12, .int .u64 30, .int .u64 30] 27))) := Lib.hid (Ext.alloc (show Ext w w6 from (by repeat (first | with_reducible exact X6.out | with_reducible refine Ext.drew ?_ | with_reducible refine Ext.drewN ?_ _ | with_reducible refine Ext.alloc ?_ _ | with_reducible refine Ext.setCell ?_ (by first | omega | (simp; done) | (simp; omega)) _))) _)
  have HWt : Hid (Sl (w6.alloc (.cells #[.int .i64 0, .int .i64 2, .int .i64 5, .int .i64 (-1), .int .i64 0, .int .i64 9, .int .u64 10, .int .u64 10, .int .i64 1, .int .i64 2, .int .i64 5, .int .i64 (-1), .int .i64 0, .int .i64 9, .int .u64 20, .int .u64 20, .int .i64 0, .int .i64 3, .int .i64 6, .int .i64 2, .int .i64 5, .int .i64 12, .int .u64 30, .int .u64 30] 27)) 8 (some ⟨w6.heap.size, 0, none⟩) 3 3 (chapQ.flatMap entC)) := Lib.hid (ents_new w6 chapQ 3 rfl (by omega))
  obtain ⟨gb, hgb⟩ : ∃ g, g = w6.heap.size := ⟨_, rfl⟩
  go_wp2_with fail
  rw [← hgb] at HWt ⊢
  clear hgb X6
  go_loopg [1, 3] 3 (fun gh a i wx => gh ≤ 3 ∧ i = .int .i64 ((3 - gh : Nat) : Int) ∧ (∃ A2 c2, a = .slice A2 (3 - gh) c2 ∧ (A2 = none → c2 = 0)) ∧ Hid (OwnEnt wx w.heap.size a (3 - gh) (chapQ.take (3 - gh))) ∧ Hid (Sl wx 8 (some ⟨gb, 0, none⟩) 3 3 (chapQ.flatMap entC)) ∧ Hid (Ext w wx))
  case atStart => exact ⟨Nat.le_refl _, by simp, by rw [Nat.sub_self]; exact ⟨none, 0, rfl, fun _ => rfl⟩, by rw [Nat.sub_self]; exact Lib.hid (World.ownsRow_nil _ _ _ _), HWt, HX6⟩
  case round =>
    obtain ⟨hg, hi, ⟨A2, c2, rfl, hn2⟩, HO, HT, XR⟩ := hrel
    obtain ⟨k, hk⟩ : ∃ k, k = 3 - gk := ⟨_, rfl⟩
    rw [← hk] at hi HO
    rw [← hk]
    subst hi
    clear HX6 HWt
    by_cases hz : gk = 0
    · obtain rfl : k = 3 := by omega
      have hkn : ¬ ((3 : Nat) : Int) < 3 := by decide
      have HN := Lib.hid hn2
      clear hg hz hk hn2
      rw [show chapQ.take 3 = chapQ from rfl] at HO
      go_wp2_with fail
      (with_reducible refine (kSameEntries_any A2 _ 3 c2 3 3 chapQ chapQ _ HO.out.sl HT.out).mono ?_)
      rintro e w21 ⟨rfl, hx21⟩
      have X21 := Lib.hid (XR.out.trans hx21)
      have HO21 := Lib.hid (OwnEnt.ext HO.out hx21)
      clear hx21 HO XR HT
      simp only [decide_true]
      go_wp2_with fail
      go_ret
      exact ⟨A2, c2, rfl, HN.out, HO21.out, X21.out⟩
    · have hk3 : k < 3 := by omega
      have hkn : (k : Int) < 3 := by omega
      obtain ⟨xw, hl_x⟩ : ∃ x, chapQ[k]? = some x := ⟨_, List.getElem?_eq_getElem (show k < chapQ.length from hk3)⟩
      have hadd := chap_add k xw hl_x
      have hfx := chapQ_fits _ (List.mem_of_getElem? hl_x)
      obtain ⟨b1, o1, hb1e, hb1, hc_x⟩ := HT.out.rec_ entC_len (show 0 < 3 from by omega)
      injection hb1e with hb1e
      injection hb1e with hb1e ho1 _
      subst hb1e ho1
      obtain ⟨xo, xv, xs, xp, xf, xc, xi, xb⟩ := xw
      have x_0 := hc_x k (xo, xv, xs, xp, xf, xc, xi, xb) hl_x 0 _ rfl
      have x_1 := hc_x k (xo, xv, xs, xp, xf, xc, xi, xb) hl_x 1 _ rfl
      have x_2 := hc_x k (xo, xv, xs, xp, xf, xc, xi, xb) hl_x 2 _ rfl
      have x_3 := hc_x k (xo, xv, xs, xp, xf, xc, xi, xb) hl_x 3 _ rfl
      have x_4 := hc_x k (xo, xv, xs, xp, xf, xc, xi, xb) hl_x 4 _ rfl
      have x_5 := hc_x k (xo, xv, xs, xp, xf, xc, xi, xb) hl_x 5 _ rfl
      have x_6 := hc_x k (xo, xv, xs, xp, xf, xc, xi, xb) hl_x 6 _ rfl
      have x_7 := hc_x k (xo, xv, xs, xp, xf, xc, xi, xb) hl_x 7 _ rfl
      simp only at x_0 x_1 x_2 x_3 x_4 x_5 x_6 x_7
      rw [Nat.zero_add] at x_0 x_1 x_2 x_3 x_4 x_5 x_6 x_7
      rw [Nat.add_zero] at x_0
      clear hc_x
      have hl3 : (chapQ.take (k + 1)).length = k + 1 := by rw [List.length_take]; show min (k + 1) 3 = k + 1; omega
      have CA := Lib.hid (qadd_ev A2 k c2 (chapQ.take k) (chapQ.take (k + 1)) xo xv xs xp xf xc xi xb 2 0 wr HO.out.sl (by omega) (fun x hx => chapQ_fits x (List.mem_of_mem_take hx)) hfx.ba hfx.2.2.2.2.2.2.1 hn2 hadd)
      rw [hl3] at CA
      have hwr := Ext.size XR.out
      have HK := Lib.hid (And.intro hk (And.intro hg hz))
      clear hk hg hz hadd hfx hn2 HO hl_x hl3
      go_wp2_with fail
      (with_reducible refine CA.out.mono ?_)
      rintro e w21 ⟨A3, c3, rfl, hn3, hO3, hx21⟩
      have X21 := Lib.hid (XR.out.trans hx21)
      have HO21 := Lib.hid (OwnEnt.lower hO3 hwr)
      have HT21 := Lib.hid (HT.out.ext hx21)
      have HN3 := Lib.hid hn3
      clear hx21 hO3 XR HT CA hn3
      go_wp2_with fail
      go_roundg (gk - 1)
      case measure => have := HK.out; omega
      case rel =>
        have e3 : 3 - (gk - 1) = k + 1 := by have := HK.out; omega
        rw [e3]
        exact ⟨by have := HK.out; omega, num_eq (by have := HK.out; omega), ⟨A3, c3, rfl, HN3.out⟩, HO21, HT21, X21⟩
end
section
open Go.RowKit Go.ChangeShapes Go.WideShapes Go.Deep Go.Joins
theorem word_d {x : Int} (h0 : 0 ≤ x) (h1 : x < 18446744073709551616) : Word x := ⟨h0, h1⟩
theorem shaveC_same (x0 x1 : Int) (w : World) : (binOp .neq 68 (.agg #[.int .i64 x0, .int .u64 x1]) (.agg #[.int .i64 x0, .int .u64 x1])).run Try.prog w = .ok (.bool false) w := by
  have hS : Try.prog.underlying 68 = some (.struct (Try.prog.fieldsOf 68)) := by kernel_rfl
  have hp : Try.prog.stoodInHeld 68 = false := by kernel_rfl
  rw [run_neq_struct, show (10000 : Nat) = 9999 + 1 from rfl, run_equalIn_agg w 9999 68 _ _ hS hp]
  simp only [Program.fieldsOf, Try.underlying68]
  go_simp
theorem qtotal_ev (A : Option Addr) (n c : Nat) (l : List (Int × Int × Int × Int × Int × Int × Int × Int)) (u e : Int) (w : World) (h : Sl w 8 A n c (l.flatMap entC)) (hf : ∀ x ∈ l, FitsQ x) (he : e = (chkQ l).1) (hu : u = if e = 0 then totB l else 0) :
    Calls Try.prog 20 #[.slice A n c] w fun r w' => r = .returned (.tuple #[.int .u64 u, .int .i64 e]) ∧ Ext w w' := by
  subst he
  exact qtotal_any A n c l (chkQ l).1 (chkQ l).2 w h hf rfl u hu
set_option maxRecDepth 100000 in
set_option maxHeartbeats 4000000 in
theorem cuts14_t (v h p all : Int) (B : Option Addr) (m d : Nat) (W : List Int) (R : List (Int × Int × Int × Int × Int × Int × Int × Int)) (S : List (Int × Int)) (w : World) (hw : Sl w 1 B m d (iv .u64 W)) (hm : m ≤ 100) (hh : h ≤ 9223372036854775807) (hp : Word p) (hv : (R, S, all, 0) = cutV chapQ v h p) (hS : S = W.mapIdx fun i x => ((i : Int), x)) :
    Calls Try.prog 31 #[.int .i64 v, .int .i64 h, .int .u64 p, .int .u64 all, .slice B m d] w fun e w' => e = .returned (.bool true) ∧ Ext w w' := by
  have hWl := hw.ilen
  have hSl : S.length = m := by rw [hS, List.length_mapIdx, hWl]
  have e0 : ((S.length : Int) != (m : Int)) = false := by rw [hSl]; simp
  have HW := Lib.hid hw
  have HH := Lib.hid hh
  have HPP := Lib.hid hp
  have HV := Lib.hid hv
  have HSE := Lib.hid hS
  have HSL := Lib.hid hSl
  have HWL := Lib.hid hWl
  have q1 := shaveC_same
  have q2 := shaveC_eqg
  clear hw hh hp hv hS hSl hWl
  go_enter Try.func31, Try.ntmps31
  go_wp2_with fail
  (with_reducible refine (chapter14_any _).mono ?_)
  rintro e w1 ⟨A1, c1, rfl, hn1, hO1, hx1⟩
  have z1 := hx1.size
  try simp at z1
  replace HW := Lib.hid (HW.out.ext (Ext.trans (by repeat (first | with_reducible exact Ext.refl _ | with_reducible refine Ext.drew ?_ | with_reducible refine Ext.drewN ?_ _ | with_reducible refine Ext.alloc ?_ _ | with_reducible refine Ext.setCell ?_ (by first | omega | (simp; done) | (simp; omega)) _)) hx1))
  have X1 : Hid (Ext w w1) := Lib.hid (Ext.trans (by repeat (first | with_reducible exact Ext.refl w | with_reducible refine Ext.drew ?_ | with_reducible refine Ext.drewN ?_ _ | with_reducible refine Ext.alloc ?_ _ | with_reducible refine Ext.setCell ?_ (by first | omega | (simp; done) | (simp; omega)) _)) hx1)
  have HO := Lib.hid hO1
  clear hx1 z1 hO1
  have HN1 := Lib.hid hn1
  clear hn1
  go_wp2_with fail
  (with_reducible refine (qcut_ev A1 3 c1 chapQ R S v h p all 0 _ (HO.out.ext (by repeat (first | with_reducible exact Ext.refl _ | with_reducible refine Ext.drew ?_ | with_reducible refine Ext.drewN ?_ _ | with_reducible refine Ext.alloc ?_ _ | with_reducible refine Ext.setCell ?_ (by first | omega | (simp; done) | (simp; omega)) _))).sl (by decide) chapQ_fits HN1.out HH.out HPP.out HV.out).mono ?_)
  rintro e w2 ⟨A2, c2, A3, c3, rfl, _, _, _, hO3, _, hx2⟩
  have z2 := hx2.size
  try simp at z2
  replace HW := Lib.hid (HW.out.ext (Ext.trans (by repeat (first | with_reducible exact Ext.refl _ | with_reducible refine Ext.drew ?_ | with_reducible refine Ext.drewN ?_ _ | with_reducible refine Ext.alloc ?_ _ | with_reducible refine Ext.setCell ?_ (by first | omega | (simp; done) | (simp; omega)) _)) hx2))
  have X2 : Hid (Ext w w2) := Lib.hid (Ext.trans (by repeat (first | with_reducible exact X1.out | with_reducible refine Ext.drew ?_ | with_reducible refine Ext.drewN ?_ _ | with_reducible refine Ext.alloc ?_ _ | with_reducible refine Ext.setCell ?_ (by first | omega | (simp; done) | (simp; omega)) _)) hx2)
  have HS3 := Lib.hid (OwnShave.sl hO3)
  clear HO X1 hx2 z2
  clear hO3
  have HX2 : Hid (Ext w _) := Lib.hid (by repeat (first | with_reducible exact X2.out | with_reducible refine Ext.drew ?_ | with_reducible refine Ext.drewN ?_ _ | with_reducible refine Ext.alloc ?_ _ | with_reducible refine Ext.setCell ?_ (by first | omega | (simp; done) | (simp; omega)) _))
  have HW0 : Hid (Sl w2 1 B m d (iv .u64 W)) := Lib.hid (HW.out.ext (by repeat (first | with_reducible exact Ext.refl _ | with_reducible refine Ext.drew ?_ | with_reducible refine Ext.drewN ?_ _ | with_reducible refine Ext.alloc ?_ _ | with_reducible refine Ext.setCell ?_ (by first | omega | (simp; done) | (simp; omega)) _)))
  have HS0 : Hid (Sl w2 2 A3 S.length c3 (S.flatMap shaveC)) := Lib.hid (HS3.out.ext (by repeat (first | with_reducible exact Ext.refl _ | with_reducible refine Ext.drew ?_ | with_reducible refine Ext.drewN ?_ _ | with_reducible refine Ext.alloc ?_ _ | with_reducible refine Ext.setCell ?_ (by first | omega | (simp; done) | (simp; omega)) _)))
  clear HW HS3 X2
  go_wp2_with fail
  go_loopg [15] m (fun gh i wx => gh ≤ m ∧ i = .int .i64 ((m - gh : Nat) : Int) ∧ Hid (Sl wx 1 B m d (iv .u64 W)) ∧ Hid (Sl wx 2 A3 S.length c3 (S.flatMap shaveC)) ∧ Hid (Ext w wx))
  case atStart => exact ⟨Nat.le_refl _, by simp, HW0, HS0, HX2⟩
  case round =>
    obtain ⟨hg, hi, HW1, HS1, XR⟩ := hrel
    obtain ⟨k, hk⟩ : ∃ k, k = m - gk := ⟨_, rfl⟩
    rw [← hk] at hi
    subst hi
    clear HX2 HW0 HS0
    by_cases hz : gk = 0
    · have hkn : ¬ (k : Int) < (S.length : Int) := by have := HSL.out; omega
      clear hg hz hk
      go_wp2_with fail
      go_ret
      exact ⟨rfl, XR.out⟩
    · have hsl := HSL.out
      have hkn : (k : Int) < (S.length : Int) := by omega
      have hkm : k < m := by omega
      obtain ⟨b2, o2, rfl, hb2, hc2⟩ := HW1.out.cell hkm
      obtain ⟨b1, o1, rfl, hb1, hc_x⟩ := HS1.out.rec_ shaveC_len (show 0 < S.length from by omega)
      have y_0 := hc2 k hkm
      obtain ⟨x1, hx1⟩ : ∃ x, x = W.getD k 0 := ⟨_, rfl⟩
      rw [← hx1] at y_0
      have hl_x : S[k]? = some ((k : Int), x1) := by
        rw [HSE.out, List.getElem?_mapIdx, hx1, List.getD_eq_getElem?_getD, List.getElem?_eq_getElem (by have := HWL.out; omega)]
        simp
      have x_0 := hc_x k _ hl_x 0 _ rfl
      have x_1 := hc_x k _ hl_x 1 _ rfl
      simp only at x_0 x_1
      rw [Nat.add_zero] at x_0
      rw [← Nat.add_assoc] at x_1
      have HK := Lib.hid (And.intro hk (And.intro hg hz))
      clear hk hg hz hl_x hc_x hc2 hx1 hsl
      go_wp2_with fail
      refine wp_region_held_drew (S := fun w' => w'.cell? ⟨b1, o1 + k * 2, none⟩ = some (.int .i64 (k : Int)) ∧ w'.cell? ⟨b1, o1 + k * 2 + 1, none⟩ = some (.int .u64 x1) ∧ w'.cell? ⟨b2, o2 + k, none⟩ = some (.int .u64 x1)) (by kernel_rfl) (by first | exact ⟨x_0, x_1, y_0⟩ | (simp [go_sem, World.cell?_alloc_past, x_0, x_1, y_0]; done)) (fun hHeld => ?_)
      (refine' take_in 0 rfl (by kernel_rfl) (by kernel_rfl) (by kernel_rfl) (fun _ _ _ h => h) (by rfl) (by assumption) ?_ ?_; rotate_left; focus (intro w hSw; (try dsimp only at hSw); go_simp; try with_reducible rfl)); try simp only [Act.put, List.setIfInBounds_toArray, List.set_cons_zero, List.set_cons_succ]
      (refine' take_in 1 rfl (by kernel_rfl) (by kernel_rfl) (by kernel_rfl) (fun _ _ _ h => h) (by rfl) (by assumption) ?_ ?_; rotate_left; focus (intro w hSw; (try dsimp only at hSw); go_simp; try with_reducible rfl)); try simp only [Act.put, List.setIfInBounds_toArray, List.set_cons_zero, List.set_cons_succ]
      (refine' take_in 2 rfl (by kernel_rfl) (by kernel_rfl) (by kernel_rfl) (fun _ _ _ h => h) (by rfl) (by assumption) ?_ ?_; rotate_left; focus (intro w hSw; (try dsimp only at hSw); go_simp; try with_reducible rfl)); try simp only [Act.put, List.setIfInBounds_toArray, List.set_cons_zero, List.set_cons_succ]
      (refine' take_in 3 rfl (by kernel_rfl) (by kernel_rfl) (by kernel_rfl) (fun _ _ _ h => h) (by rfl) (by assumption) ?_ ?_; rotate_left; focus (intro w hSw; (try dsimp only at hSw); go_simp; try with_reducible rfl)); try simp only [Act.put, List.setIfInBounds_toArray, List.set_cons_zero, List.set_cons_succ]
      (refine' take_in 4 rfl (by kernel_rfl) (by kernel_rfl) (by kernel_rfl) (fun _ _ _ h => h) (by rfl) (by assumption) ?_ ?_; rotate_left; focus (intro w hSw; (try dsimp only at hSw); go_simp; try with_reducible rfl)); try simp only [Act.put, List.setIfInBounds_toArray, List.set_cons_zero, List.set_cons_succ]
      (refine' take_in 5 rfl (by kernel_rfl) (by kernel_rfl) (by kernel_rfl) (fun _ _ _ h => h) (by rfl) (by assumption) ?_ ?_; rotate_left; focus (intro w hSw; (try dsimp only at hSw); go_simp; try with_reducible rfl)); try simp only [Act.put, List.setIfInBounds_toArray, List.set_cons_zero, List.set_cons_succ]
      (refine' take_in 6 rfl (by kernel_rfl) (by kernel_rfl) (by kernel_rfl) (fun _ _ _ h => h) (by rfl) (by assumption) ?_ ?_; rotate_left; focus (intro w hSw; (try dsimp only at hSw); go_simp; try with_reducible rfl)); try simp only [Act.put, List.setIfInBounds_toArray, List.set_cons_zero, List.set_cons_succ]
      (refine' take_in 7 rfl (by kernel_rfl) (by kernel_rfl) (by kernel_rfl) (fun _ _ _ h => h) (by rfl) (by assumption) ?_ ?_; rotate_left; focus (intro w hSw; (try dsimp only at hSw); go_simp; try with_reducible rfl)); try simp only [Act.put, List.setIfInBounds_toArray, List.set_cons_zero, List.set_cons_succ]
      (refine' take_in 8 rfl (by kernel_rfl) (by kernel_rfl) (by kernel_rfl) (fun _ _ _ h => h) (by rfl) (by assumption) ?_ ?_; rotate_left; focus (intro w hSw; (try dsimp only at hSw); go_simp; try with_reducible rfl)); try simp only [Act.put, List.setIfInBounds_toArray, List.set_cons_zero, List.set_cons_succ]
      (refine' take_in 9 rfl (by kernel_rfl) (by kernel_rfl) (by kernel_rfl) (fun _ _ _ h => h) (by rfl) (by assumption) ?_ ?_; rotate_left; focus (intro w hSw; (try dsimp only at hSw); go_simp; try with_reducible rfl)); try simp only [Act.put, List.setIfInBounds_toArray, List.set_cons_zero, List.set_cons_succ]
      (refine' take_in 10 rfl (by kernel_rfl) (by kernel_rfl) (by kernel_rfl) (fun _ _ _ h => h) (by rfl) (by assumption) ?_ ?_; rotate_left; focus (intro w hSw; (try dsimp only at hSw); go_simp; try with_reducible rfl)); try simp only [Act.put, List.setIfInBounds_toArray, List.set_cons_zero, List.set_cons_succ]
      refine wpAnyH_done (by kernel_rfl) ?_ _
      go_wp2_with fail
      go_roundg (gk - 1)
      case measure => have := HK.out; omega
      case rel => exact ⟨by have := HK.out; omega, num_eq (by have := HK.out; omega), Lib.hid (HW1.out.ext (by repeat (first | with_reducible exact Ext.refl _ | with_reducible refine Ext.drew ?_ | with_reducible refine Ext.drewN ?_ _ | with_reducible refine Ext.alloc ?_ _ | with_reducible refine Ext.setCell ?_ (by first | omega | (simp; done) | (simp; omega)) _))), Lib.hid (HS1.out.ext (by repeat (first | with_reducible exact Ext.refl _ | with_reducible refine Ext.drew ?_ | with_reducible refine Ext.drewN ?_ _ | with_reducible refine Ext.alloc ?_ _ | with_reducible refine Ext.setCell ?_ (by first | omega | (simp; done) | (simp; omega)) _))), Lib.hid (by repeat (first | with_reducible exact XR.out | with_reducible refine Ext.drew ?_ | with_reducible refine Ext.drewN ?_ _ | with_reducible refine Ext.alloc ?_ _ | with_reducible refine Ext.setCell ?_ (by first | omega | (simp; done) | (simp; omega)) _))⟩
set_option maxRecDepth 100000 in
set_option maxHeartbeats 4000000 in
theorem qlive_n (A : Option Addr) (n c : Nat) (l : List (Int × Int × Int × Int × Int × Int × Int × Int)) (ow v k : Int) (w : World) (h : Sl w 8 A n c (l.flatMap entC)) (hn : n ≤ 100000) (hf : ∀ x ∈ l, FitsQ x) (hk : ((liveQ l ow v : Nat) : Int) = k) : Calls Try.prog 25 #[.slice A n c, .int .i64 ow, .int .i64 v] w fun e w' => e = .returned (.int .i64 k) ∧ Ext w w' := by
  have := qlive_any A n c l ow v w h hn hf
  rw [hk] at this
  exact this
theorem cut_a : ([(0, 2, 5, -1, 0, 9, 10, 5), (1, 2, 5, -1, 0, 9, 20, 10), (0, 3, 6, 2, 5, 12, 30, 15)], [(0, 5), (1, 10), (2, 15)], 30, 0) = cutV chapQ 2 6 500000000 := by decide
theorem cut_b : ([(0, 2, 5, -1, 0, 9, 10, 5), (1, 2, 5, -1, 0, 9, 20, 10), (0, 3, 6, 2, 5, 12, 30, 30)], [(0, 5), (1, 10)], 15, 0) = cutV chapQ 2 9 500000000 := by decide
set_option maxRecDepth 100000 in
set_option maxHeartbeats 4000000 in
theorem awake14_any (w : World) : Calls Try.prog 10 #[] w fun e w' => e = .returned (.bool true) ∧ Ext w w' := by
  go_enter Try.func10, Try.ntmps10
  go_wp2_with fail
  (with_reducible refine (chapter14_any _).mono ?_)
  rintro e w1 ⟨A1, c1, rfl, hn1, hO1, hx1⟩
  have z1 := hx1.size
  try simp at z1
  have X1 : Hid (Ext w w1) := Lib.hid (Ext.trans (by repeat (first | with_reducible exact Ext.refl w | with_reducible refine Ext.drew ?_ | with_reducible refine Ext.drewN ?_ _ | with_reducible refine Ext.alloc ?_ _ | with_reducible refine Ext.setCell ?_ (by first | omega | (simp; done) | (simp; omega)) _)) hx1)
  have HO := Lib.hid hO1
  clear hx1 z1 hO1
  have HN1 := Lib.hid hn1
  clear hn1
  go_wp2_with fail
  (with_reducible refine (qtotal_ev A1 3 c1 chapQ 60 0 _ (HO.out.ext (by repeat (first | with_reducible exact Ext.refl _ | with_reducible refine Ext.drew ?_ | with_reducible refine Ext.drewN ?_ _ | with_reducible refine Ext.alloc ?_ _ | with_reducible refine Ext.setCell ?_ (by first | omega | (simp; done) | (simp; omega)) _))).sl chapQ_fits (by decide) (by decide)).mono ?_)
  rintro e w2 ⟨rfl, hx2⟩
  have z2 := hx2.size
  try simp at z2
  replace HO := Lib.hid (HO.out.ext (Ext.trans (by repeat (first | with_reducible exact Ext.refl _ | with_reducible refine Ext.drew ?_ | with_reducible refine Ext.drewN ?_ _ | with_reducible refine Ext.alloc ?_ _ | with_reducible refine Ext.setCell ?_ (by first | omega | (simp; done) | (simp; omega)) _)) hx2))
  have X2 : Hid (Ext w w2) := Lib.hid (Ext.trans (by repeat (first | with_reducible exact X1.out | with_reducible refine Ext.drew ?_ | with_reducible refine Ext.drewN ?_ _ | with_reducible refine Ext.alloc ?_ _ | with_reducible refine Ext.setCell ?_ (by first | omega | (simp; done) | (simp; omega)) _)) hx2)
  clear X1 hx2 z2
  go_wp2_with fail
  (with_reducible refine (qlive_n A1 3 c1 chapQ 0 2 1 _ (HO.out.ext (by repeat (first | with_reducible exact Ext.refl _ | with_reducible refine Ext.drew ?_ | with_reducible refine Ext.drewN ?_ _ | with_reducible refine Ext.alloc ?_ _ | with_reducible refine Ext.setCell ?_ (by first | omega | (simp; done) | (simp; omega)) _))).sl (by decide) chapQ_fits (by decide)).mono ?_)
  rintro e w3 ⟨rfl, hx3⟩
  have z3 := hx3.size
  try simp at z3
  replace HO := Lib.hid (HO.out.ext (Ext.trans (by repeat (first | with_reducible exact Ext.refl _ | with_reducible refine Ext.drew ?_ | with_reducible refine Ext.drewN ?_ _ | with_reducible refine Ext.alloc ?_ _ | with_reducible refine Ext.setCell ?_ (by first | omega | (simp; done) | (simp; omega)) _)) hx3))
  have X3 : Hid (Ext w w3) := Lib.hid (Ext.trans (by repeat (first | with_reducible exact X2.out | with_reducible refine Ext.drew ?_ | with_reducible refine Ext.drewN ?_ _ | with_reducible refine Ext.alloc ?_ _ | with_reducible refine Ext.setCell ?_ (by first | omega | (simp; done) | (simp; omega)) _)) hx3)
  clear X2 hx3 z3
  go_wp2_with fail
  (with_reducible refine (cuts14_t 2 6 500000000 30 _ 3 3 [5, 10, 15] _ [(0, 5), (1, 10), (2, 15)] _ (sl_new _ 25 1 #[.int .u64 5, .int .u64 10, .int .u64 15] 3 rfl (by decide)) (by decide) (by decide) (word_d (by decide) (by decide)) cut_a rfl).mono ?_)
  rintro e w4 ⟨rfl, hx4⟩
  have z4 := hx4.size
  try simp at z4
  replace HO := Lib.hid (HO.out.ext (Ext.trans (by repeat (first | with_reducible exact Ext.refl _ | with_reducible refine Ext.drew ?_ | with_reducible refine Ext.drewN ?_ _ | with_reducible refine Ext.alloc ?_ _ | with_reducible refine Ext.setCell ?_ (by first | omega | (simp; done) | (simp; omega)) _)) hx4))
  have X4 : Hid (Ext w w4) := Lib.hid (Ext.trans (by repeat (first | with_reducible exact X3.out | with_reducible refine Ext.drew ?_ | with_reducible refine Ext.drewN ?_ _ | with_reducible refine Ext.alloc ?_ _ | with_reducible refine Ext.setCell ?_ (by first | omega | (simp; done) | (simp; omega)) _)) hx4)
  clear X3 hx4 z4
  go_wp2_with fail
  (with_reducible refine (cuts14_t 2 9 500000000 15 _ 2 2 [5, 10] _ [(0, 5), (1, 10)] _ (sl_new _ 25 1 #[.int .u64 5, .int .u64 10] 2 rfl (by decide)) (by decide) (by decide) (word_d (by decide) (by decide)) cut_b rfl).mono ?_)
  rintro e w5 ⟨rfl, hx5⟩
  have z5 := hx5.size
  try simp at z5
  replace HO := Lib.hid (HO.out.ext (Ext.trans (by repeat (first | with_reducible exact Ext.refl _ | with_reducible refine Ext.drew ?_ | with_reducible refine Ext.drewN ?_ _ | with_reducible refine Ext.alloc ?_ _ | with_reducible refine Ext.setCell ?_ (by first | omega | (simp; done) | (simp; omega)) _)) hx5))
  have X5 : Hid (Ext w w5) := Lib.hid (Ext.trans (by repeat (first | with_reducible exact X4.out | with_reducible refine Ext.drew ?_ | with_reducible refine Ext.drewN ?_ _ | with_reducible refine Ext.alloc ?_ _ | with_reducible refine Ext.setCell ?_ (by first | omega | (simp; done) | (simp; omega)) _)) hx5)
  clear X4 hx5 z5
  go_wp2_with fail
  go_ret
  exact ⟨rfl, (by repeat (first | with_reducible exact X5.out | with_reducible refine Ext.drew ?_ | with_reducible refine Ext.drewN ?_ _ | with_reducible refine Ext.alloc ?_ _ | with_reducible refine Ext.setCell ?_ (by first | omega | (simp; done) | (simp; omega)) _))⟩
end
section
open Go.RowKit
theorem pow7_succ (i : Nat) : 2 ^ (7 * (i + 1)) = 128 * 2 ^ (7 * i) := by
  rw [show 7 * (i + 1) = 7 + 7 * i from by omega, Nat.pow_add]
theorem pow7_pos (i : Nat) : 0 < 2 ^ (7 * i) := Nat.pow_pos (by decide)
theorem numGo_putL : ∀ (b m i acc : Nat) (rest : List Nat), m ≤ b → (0 < i → 0 < m) → i ≤ 9 → m * 2 ^ (7 * i) < 18446744073709551616 →
    numGo (putL m ++ rest) i acc = (acc + m * 2 ^ (7 * i), i + (putL m).length, 0) := by
  intro b
  induction b with
  | zero =>
    intro m i acc rest hb hi h9 hm
    obtain rfl : m = 0 := by omega
    have hi0 : i = 0 := by omega
    subst hi0
    rw [putL_lt (by decide)]
    simp [numGo]
  | succ b ih =>
    intro m i acc rest hb hi h9 hm
    by_cases h : m < 128
    · rw [putL_lt h, List.singleton_append, numGo, if_neg, if_pos h, Nat.mod_eq_of_lt h]
      · rfl
      · intro hh
        rcases hh with ⟨rfl, h1⟩ | ⟨h1, h2⟩
        · have : 2 * 2 ^ (7 * 9) ≤ m * 2 ^ (7 * 9) := Nat.mul_le_mul_right _ h1
          omega
        · have := hi h1; omega
    · have hp := pow7_succ i
      have hq := pow7_pos i
      have hd : (m / 128) * 2 ^ (7 * (i + 1)) ≤ m * 2 ^ (7 * i) := by
        rw [hp, ← Nat.mul_assoc]
        exact Nat.mul_le_mul_right _ (Nat.div_mul_le_self m 128)
      have hi8 : i ≤ 8 := by
        rcases Nat.lt_or_ge i 9 with g | g
        · omega
        · obtain rfl : i = 9 := by omega
          have : 128 * 2 ^ (7 * 9) ≤ m * 2 ^ (7 * 9) := Nat.mul_le_mul_right _ (by omega)
          omega
      rw [putL_ge h, List.cons_append, numGo, if_neg (by omega), if_neg (by omega), ih (m / 128) (i + 1) _ rest (by omega) (fun _ => by omega) (by omega) (by omega), List.length_cons]
      have e1 : (m % 128 + 128) % 128 = m % 128 := by omega
      rw [e1, hp]
      have e2 : m * 2 ^ (7 * i) = m % 128 * 2 ^ (7 * i) + m / 128 * (128 * 2 ^ (7 * i)) := by
        rw [← Nat.mul_assoc, ← Nat.add_mul]
        congr 1
        omega
      rw [e2, ← Nat.add_assoc, Nat.add_assoc i, Nat.add_comm 1]
theorem numGo_back : ∀ (L : List Nat) (i acc n k : Nat), Byt L → numGo L i acc = (n, k, 0) →
    ∃ m rest, L = putL m ++ rest ∧ n = acc + m * 2 ^ (7 * i) ∧ k = i + (putL m).length ∧ (0 < i → 0 < m) := by
  intro L
  induction L with
  | nil => intro i acc n k _ h; simp [numGo] at h
  | cons c l ih =>
    intro i acc n k hB h
    have hc : c < 256 := hB c (List.mem_cons_self ..)
    have hBl : Byt l := fun x hx => hB x (List.mem_cons_of_mem _ hx)
    rw [numGo] at h
    split at h
    · simp at h
    · rename_i hcond
      split at h
      · rename_i h1
        simp only [Prod.mk.injEq] at h
        obtain ⟨h2, h3, _⟩ := h
        refine ⟨c, l, by rw [putL_lt h1]; rfl, by rw [← h2, Nat.mod_eq_of_lt h1], by rw [putL_lt h1, ← h3]; rfl, fun hi => by omega⟩
      · rename_i h1
        obtain ⟨m, rest, rfl, hn, hk, hm⟩ := ih (i + 1) _ n k hBl h
        have hm0 : 0 < m := hm (by omega)
        have hge : ¬ (c - 128 + 128 * m) < 128 := by omega
        have e : putL (c - 128 + 128 * m) = c :: putL m := by
          rw [putL_ge hge]
          rw [show (c - 128 + 128 * m) % 128 + 128 = c from by omega, show (c - 128 + 128 * m) / 128 = m from by omega]
        refine ⟨c - 128 + 128 * m, rest, by rw [e]; rfl, ?_, by rw [e, List.length_cons, hk]; omega, fun _ => by omega⟩
        rw [hn, pow7_succ, show c % 128 = c - 128 from by omega, Nat.add_mul, Nat.mul_comm 128 m, Nat.mul_assoc, Nat.add_assoc]
/-- what a reader reads of bytes that were written -/
theorem rn_put {L rest : List Nat} {k m : Nat} {lo hi : Int} (hL : L.drop k = putL m ++ rest) (hm : m < 18446744073709551616) (h1 : lo ≤ m) (h2 : (m : Int) ≤ hi) :
    rnV L k none lo hi = m ∧ rnK L k none lo hi = k + (putL m).length ∧ rnF L k none lo hi = none := by
  have e := numGo_putL m m 0 0 rest (Nat.le_refl _) (fun h => absurd h (by omega)) (by omega) (by omega)
  rw [← hL] at e
  have e0 : rnE L k lo hi = 0 := by
    unfold rnE bndE
    rw [e]
    simp
    omega
  unfold rnV rnK rnF
  rw [e0, e]
  simp [failF]
/-- a number that was read stands there -/
theorem rn_back {L : List Nat} (hB : Byt L) {k : Nat} {lo hi : Int} (hlo : 0 ≤ lo) (h : rnF L k none lo hi = none) :
    ∃ m rest, L.drop k = putL m ++ rest ∧ rnV L k none lo hi = (m : Int) ∧ rnK L k none lo hi = k + (putL m).length ∧ lo ≤ m ∧ (m : Int) ≤ hi := by
  have e0 : rnE L k lo hi = 0 := by
    unfold rnF at h
    rw [if_pos rfl] at h
    unfold failF at h
    simp at h
    exact h
  have hb := e0
  unfold rnE bndE at hb
  split at hb
  · rename_i h0
    split at hb
    · omega
    · rename_i h1
      obtain ⟨n, k', e, hx⟩ : ∃ n k' e, numGo (L.drop k) 0 0 = (n, k', e) := ⟨_, _, _, rfl⟩
      rw [hx] at h0 h1
      simp at h0
      subst h0
      obtain ⟨m, rest, hL, hn, hk, _⟩ := numGo_back (L.drop k) 0 0 n k' (fun x hx => hB x (List.mem_of_mem_drop hx)) hx
      simp at hn hk
      subst hn; subst hk
      unfold rnV rnK
      rw [e0, hx]
      refine ⟨n, rest, hL, by simp, by simp, by omega, by omega⟩
  · rename_i h0
    exact absurd hb h0
/-- a fault stays, and is a fault -/
theorem rnF_some (L : List Nat) (k : Nat) (x : Int × Int) (lo hi : Int) : rnF L k (some x) lo hi = some x := by
  unfold rnF; rw [if_neg (by simp)]
theorem rnF_none {L : List Nat} {k : Nat} {f : Option (Int × Int)} {lo hi : Int} (h : rnF L k f lo hi = none) : f = none := by
  cases f with
  | none => rfl
  | some x => rw [rnF_some] at h; cases h
theorem failF_none {f : Option (Int × Int)} {e a : Int} (h : failF f e a = none) : f = none ∧ e = 0 := by
  cases f with
  | some x => simp [failF] at h
  | none => refine ⟨rfl, ?_⟩; unfold failF at h; simp at h; exact h
/-- a fault's error is none of nought -/
def FltNz (f : Option (Int × Int)) : Prop := ∀ x, f = some x → ¬ x.1 = 0
theorem FltNz.none : FltNz none := fun x h => by cases h
theorem FltNz.fail {f : Option (Int × Int)} (h : FltNz f) (e a : Int) : FltNz (failF f e a) := by
  intro x hx
  cases f with
  | some y => exact h x (by simpa [failF] using hx)
  | none =>
    unfold failF at hx
    simp at hx
    obtain ⟨h1, rfl⟩ := hx
    exact h1
theorem FltNz.rn {f : Option (Int × Int)} (h : FltNz f) (L : List Nat) (k : Nat) (lo hi : Int) : FltNz (rnF L k f lo hi) := by
  unfold rnF
  split
  · exact FltNz.none.fail _ _
  · exact h
/-- no fault, and nothing left -/
theorem endF_zero {f : Option (Int × Int)} {k n : Nat} (hz : FltNz f) (h : (endF f k n).1 = 0) : f = none ∧ n ≤ k := by
  cases f with
  | some x => exact absurd h (hz x rfl)
  | none =>
    refine ⟨rfl, ?_⟩
    unfold endF at h
    simp at h
    by_cases hk : k < n
    · simp [hk] at h
    · omega
end
section
open Go.RowKit
def fltE (f : Option (Int × Int)) : Int := match f with | some x => x.1 | none => 0
def fltA (f : Option (Int × Int)) : Int := match f with | some x => x.2 | none => 0
theorem heap_type_set {w : World} {p : Addr} {v : Value} {cs : Array Value} {t : TypeId} {z : Nat × Nat} {g : Nat} (h : w.heap[g]? = some (.cells cs t z)) : ∃ cs' z', (w.setCell p v).heap[g]? = some (.cells cs' t z') := by
  by_cases e : p.block = g
  · subst e
    unfold World.setCell
    simp only [Array.getElem?_modify, if_true, h, Option.map_some]
    exact ⟨_, _, rfl⟩
  · exact ⟨cs, z, by rw [Below.heap_setCell _ _ _ _ (fun h => e h.symm)]; exact h⟩
end
section
open Go.RowKit
/-- U: the number, the place, the fault -/
def ruE (L : List Nat) (k : Nat) : Int := (numGo (L.drop k) 0 0).2.2
def ruV (L : List Nat) (k : Nat) (f : Option (Int × Int)) : Int := if f = none ∧ ruE L k = 0 then ((numGo (L.drop k) 0 0).1 : Int) else 0
def ruK (L : List Nat) (k : Nat) (f : Option (Int × Int)) : Nat := if f = none ∧ ruE L k = 0 then k + (numGo (L.drop k) 0 0).2.1 else k
def ruF (L : List Nat) (k : Nat) (f : Option (Int × Int)) : Option (Int × Int) := if f = none then failF none (ruE L k) k else f
/-- a reference writer lies at block g: its limit, its error, what was written (in a row beyond g) -/
structure RWr (w : World) (g : Nat) (lim err : Int) (L : List Nat) : Prop where
  b : ∃ A c, w.cell? ⟨g, 1, none⟩ = some (.slice A L.length c) ∧ w.ownsRow (g + 1) 5 1 (.slice A L.length c) L.length (by_ L)
  c0 : w.cell? ⟨g, 0, none⟩ = some (.int .i64 lim)
  c2 : w.cell? ⟨g, 2, none⟩ = some (.int .i64 err)
  f1 : w.frozen? ⟨g, 1, none⟩ = false
  f2 : w.frozen? ⟨g, 2, none⟩ = false
  lt : g < w.heap.size
  short : L.length ≤ 1048576
  l0 : 0 ≤ lim
  l1 : lim ≤ 1048576
theorem RWr.keep {w w' : World} {g : Nat} {lim err : Int} {L : List Nat} (h : RWr w g lim err L) (hb : Ext w w') : RWr w' g lim err L := by
  obtain ⟨A, c, h0, h1⟩ := h.b
  have cl : ∀ o, w'.cell? ⟨g, o, none⟩ = w.cell? ⟨g, o, none⟩ := fun o => Below.cell hb (p := ⟨g, o, none⟩) h.lt
  have fl : ∀ o, w'.frozen? ⟨g, o, none⟩ = w.frozen? ⟨g, o, none⟩ := fun o => Below.frozen hb (p := ⟨g, o, none⟩) h.lt
  have hs := hb.size
  exact ⟨⟨A, c, (cl 1).trans h0, own_keep h1 hb⟩, (cl 0).trans h.c0, (cl 2).trans h.c2, (fl 1).trans h.f1, (fl 2).trans h.f2, by have := h.lt; omega, h.short, h.l0, h.l1⟩
theorem RWr.ext {w w' : World} {g : Nat} {lim err : Int} {L : List Nat} (h : RWr w g lim err L) (hb : Ext w w') : RWr w' g lim err L := h.keep hb
theorem RWr.setErr {w : World} {g : Nat} {lim err : Int} {L : List Nat} (h : RWr w g lim err L) (e : Int) : RWr (w.setCell ⟨g, 2, none⟩ (.int .i64 e)) g lim e L := by
  obtain ⟨A, c, h0, h1⟩ := h.b
  have c0 := h.c0
  have c2 := h.c2
  have f1 := h.f1
  have f2 := h.f2
  exact ⟨⟨A, c, by simp [go_sem, h0], ownsRow_setCell_below h1 (by simp) _⟩, by simp [go_sem, c0], by simp [go_sem, c2], by simp [go_sem, f1], by simp [go_sem, f2], by simpa using h.lt, h.short, h.l0, h.l1⟩
end
section
open Go.RowKit
/-- the blocks of a writer at block g whose slice lies in its cell o -/
def Sg (w : World) (g o : Nat) (k : Nat) : Prop := k = g ∨ ∃ n c, w.cell? ⟨g, o, none⟩ = some (.slice (some ⟨k, 0, none⟩) n c)
/-- of what was there only the writer's blocks may have turned, and its blocks are the old ones, or new -/
structure WF (g o : Nat) (w w' : World) : Prop where
  but : But (Sg w g o) w w'
  row : ∀ k, k < w.heap.size → Sg w' g o k → Sg w g o k
theorem Sg.congr {w w' : World} {g o : Nat} (h : w'.cell? ⟨g, o, none⟩ = w.cell? ⟨g, o, none⟩) {k : Nat} : Sg w' g o k ↔ Sg w g o k := by unfold Sg; rw [h]
theorem WF.same {g o : Nat} {w w' : World} (hb : But (Sg w g o) w w') (h : w'.cell? ⟨g, o, none⟩ = w.cell? ⟨g, o, none⟩) : WF g o w w' := ⟨hb, fun k _ hk => (Sg.congr h).1 hk⟩
theorem WF.refl (g o : Nat) (w : World) : WF g o w w := ⟨But.refl _ _, fun _ _ h => h⟩
theorem WF.trans {g o : Nat} {a b c : World} (h : WF g o a b) (k : WF g o b c) : WF g o a c :=
  ⟨⟨k.but.os.trans h.but.os, k.but.tape.trans h.but.tape, k.but.output.trans h.but.output, Nat.le_trans h.but.size k.but.size, fun i hi hs =>
    (k.but.block i (by have := h.but.size; omega) (fun hh => hs (h.row i hi hh))).trans (h.but.block i hi hs)⟩,
   fun i hi hk => h.row i hi (k.row i (by have := h.but.size; omega) hk)⟩
theorem WF.ofExt {g o : Nat} {w w' : World} (h : Ext w w') (hg : g < w.heap.size) : WF g o w w' := WF.same (But.ofExt h) (h.cells.1 g o hg)
/-- a writer's row is old -/
theorem Sg.lt {w : World} {g o : Nat} {A : Option Addr} {n c base : Nat} {L : List Nat} (hc : w.cell? ⟨g, o, none⟩ = some (.slice A n c)) (h : w.ownsRow base 5 1 (.slice A n c) n (by_ L)) (hg : g < w.heap.size) {k : Nat} (hk : Sg w g o k) : k < w.heap.size := by
  rcases hk with rfl | ⟨n', c', e⟩
  · exact hg
  · rw [hc] at e
    injection e with e
    injection e with e1
    subst e1
    exact (h.lt k rfl).2
theorem Wr.sg {w : World} {g : Nat} {lim e : Int} {L : List Nat} (h : Wr w g lim e L) {k : Nat} (hk : Sg w g 0 k) : g ≤ k ∧ k < w.heap.size := by
  obtain ⟨A, c, h0, h1⟩ := h.b
  refine ⟨?_, Sg.lt h0 h1 h.lt hk⟩
  rcases hk with rfl | ⟨n', c', e⟩
  · exact Nat.le_refl _
  · rw [h0] at e
    injection e with e
    injection e with e1
    subst e1
    have := (h1.lt k rfl).1
    omega
theorem RWr.sg {w : World} {g : Nat} {lim e : Int} {L : List Nat} (h : RWr w g lim e L) {k : Nat} (hk : Sg w g 1 k) : g ≤ k ∧ k < w.heap.size := by
  obtain ⟨A, c, h0, h1⟩ := h.b
  refine ⟨?_, Sg.lt h0 h1 h.lt hk⟩
  rcases hk with rfl | ⟨n', c', e⟩
  · exact Nat.le_refl _
  · rw [h0] at e
    injection e with e
    injection e with e1
    subst e1
    have := (h1.lt k rfl).1
    omega
set_option maxHeartbeats 1000000 in
theorem cadd_longF (g : Nat) (lim : Int) (L : List Nat) (B : Option Addr) (m d : Nat) (w : World) (h : Wr w g lim 0 L) (hm : m ≤ 1048576) (hl : lim - L.length < m) :
    Calls Try.prog 83 #[.pointer (some ⟨g, 0, none⟩), .slice B m d] w fun r w' => r = .returned (.int .i64 4) ∧ Wr w' g lim 4 L ∧ WF g 0 w w' := by
  have H2 := h.c2
  have H3 := h.c3
  obtain ⟨A, c, H0, hown⟩ := h.b
  have H1 := h.c1
  have F3 := h.f3
  have l0 := h.l0
  have l1 := h.l1
  have l2 := h.short
  have HH := Lib.hid h
  have hln : (L.length : Int) ≤ 1048576 := by omega
  have hmn : (m : Int) ≤ 1048576 := by omega
  have e1 : decide (lim - (L.length : Int) < (m : Int)) = true := by simpa using hl
  clear hown h hl
  generalize hLn : L.length = N at *
  replace hLn := Lib.hid hLn
  have eq1 : IntKind.i64.wrap (lim - (N : Int)) = lim - N := IntWalk.i64_in _ (by omega)
  go_enter Try.func83, Try.ntmps83
  go_wp2_with fail
  refine (cstate_any g 0 _ H2 H3).mono ?_
  rintro r w1 ⟨rfl, rfl⟩
  go_wp2_with fail
  go_quiet (fail)
  go_wp2
  go_ret
  exact ⟨rfl, (HH.out.drewN _).setErr 4, WF.same (((But.refl _ _).drewN _).setCell (p := ⟨g, 3, none⟩) (.inl rfl) _) (by simp [go_sem])⟩
set_option maxHeartbeats 1000000 in
theorem cadd_okF (g : Nat) (lim : Int) (L bl : List Nat) (B : Option Addr) (m d : Nat) (w : World) (h : Wr w g lim 0 L) (hS : Sl w 1 B m d (by_ bl)) (hl : ¬ lim - L.length < m) :
    Calls Try.prog 83 #[.pointer (some ⟨g, 0, none⟩), .slice B m d] w fun r w' => r = .returned (.int .i64 0) ∧ Wr w' g lim 0 (L ++ bl) ∧ WF g 0 w w' := by
  obtain ⟨i0, hi, hz0, hz1, hz2⟩ := info_parts u8_info
  have hbm : bl.length = m := by have := hS.len; rw [by_len] at this; omega
  have H2 := h.c2
  have H3 := h.c3
  obtain ⟨A, c, H0, hown⟩ := h.b
  have H1 := h.c1
  have F0 := h.f0
  have l0 := h.l0
  have l1 := h.l1
  have l2 := h.short
  have lt := h.lt
  have HH := Lib.hid h
  have HO := Lib.hid hown
  have HS := Lib.hid hS
  have hln : (L.length : Int) ≤ 1048576 := by omega
  have hmn : (m : Int) ≤ 1048576 := by omega
  have e1 : decide (lim - (L.length : Int) < (m : Int)) = false := decide_eq_false hl
  have hbm := Lib.hid hbm
  have hle : (L.length : Int) + m ≤ lim := by omega
  have hlt2 : g < (w.drewN 0).heap.size := h.lt
  clear h hown hl hS
  generalize hLn : L.length = N at *
  replace hLn := Lib.hid hLn
  have eq1 : IntKind.i64.wrap (lim - (N : Int)) = lim - N := IntWalk.i64_in _ (by omega)
  go_enter Try.func83, Try.ntmps83
  go_wp2_with fail
  refine (cstate_any g 0 _ H2 H3).mono ?_
  rintro r w1 ⟨rfl, rfl⟩
  go_wp2_with fail
  go_quiet (fail)
  go_wp2_with (at_builtin; refine wpList_append_slB (w.drewN nq) rfl _ _ 56 rfl (g + 1) 5 i0 (.int .u8 0) 1 1 Try.underlying56 hi hz0 hz1 hz2 rfl (by decide) _ N (by_ L) (by rfl) HO.out B m d (by_ bl) (by rfl) (HS.out.ext ((Ext.refl _).drewN _)) by_one (by omega) (by decide) (by simp; omega) ?_; intro v1 w1 hown1 hb1 hn1; have hgS : ¬ ((Value.slice A N c).ownBlock = some g) := (fun e => by have := (HO.out.lt g e).1; omega); obtain ⟨A1, c1, rfl, s1⟩ := own_parts hown1; have q0 : w1.cell? ⟨g, 0, none⟩ = some (.slice A N c) := hb1.has hgS H0; have q1 : w1.frozen? ⟨g, 0, none⟩ = false := (hb1.frozen hlt2 hgS).trans F0; have HB := Lib.hid (And.intro hb1 (And.intro hn1 hgS)); have HW := Lib.hid hown1; clear hb1 hown1 s1 hn1 hgS)
  go_ret
  refine ⟨rfl, ?_, ?_⟩
  · have hb := HB.out.1
    have hgS := HB.out.2.2
    have hh := HH.out
    have eL : (L ++ bl).length = N + m := by rw [List.length_append, hLn.out, hbm.out]
    have cl : ∀ o, w1.cell? ⟨g, o, none⟩ = w.cell? ⟨g, o, none⟩ := fun o => hb.cell hlt2 hgS
    have fl : ∀ o, w1.frozen? ⟨g, o, none⟩ = w.frozen? ⟨g, o, none⟩ := fun o => hb.frozen hlt2 hgS
    have e0 := cl 0; have e1 := (cl 1).trans hh.c1; have e2 := (cl 2).trans hh.c2; have e3 := (cl 3).trans hh.c3
    have g0 := (fl 0).trans hh.f0; have g3 := (fl 3).trans hh.f3
    have hs := hb.size
    simp at hs
    refine ⟨⟨A1, c1, by rw [eL]; simp [go_sem, q0], ?_⟩, by simp [go_sem, e1], by simp [go_sem, e2], by simp [go_sem, e3], by simp [go_sem, g0], by simp [go_sem, g3], by simp; omega, by rw [eL]; omega, l0, l1⟩
    rw [eL, ← by_append]
    exact ownsRow_setCell_below HW.out (by simp) _
  · have hb := HB.out.1
    have hgS := HB.out.2.2
    have hc0 : w1.cell? ⟨g, 0, none⟩ = w.cell? ⟨g, 0, none⟩ := hb.cell hlt2 hgS
    have hoff : ∀ k, (Value.slice A N c).ownBlock = some k → Sg w g 0 k := by
      intro k hk
      have h0 := H0
      rcases HO.out.2 with ⟨h1, _⟩ | ⟨q, cap, cur, h1, _⟩
      · rw [h1] at hk; cases hk
      · rw [h1] at hk h0
        injection hk with hk
        have hk2 : q = k := hk
        subst hk2
        exact .inr ⟨_, _, h0⟩
    refine ⟨?_, ?_⟩
    · exact (((But.refl _ w).drewN nq).trans (hb.mono fun k _ hk => hoff k hk)).setCell (p := ⟨g, 0, none⟩) (.inl rfl) _
    · intro k hk hs
      rcases hs with rfl | ⟨n', c', e⟩
      · exact .inl rfl
      · have e2 : (w1.setCell ⟨g, 0, none⟩ (.slice A1 (N + m) c1)).cell? ⟨g, 0, none⟩ = some (.slice A1 (N + m) c1) := by simp [go_sem, q0]
        rw [e2] at e
        injection e with e
        injection e with e1
        subst e1
        rcases HB.out.2.1 k rfl with h | h
        · exact hoff k h
        · simp at h; omega
theorem cadd_anyF (g : Nat) (lim e : Int) (L bl : List Nat) (B : Option Addr) (m d : Nat) (w : World) (h : Wr w g lim e L) (hS : Sl w 1 B m d (by_ bl)) (hm : m ≤ 1048576) :
    Calls Try.prog 83 #[.pointer (some ⟨g, 0, none⟩), .slice B m d] w fun r w' => r = .returned (.int .i64 (wAddE lim e L bl)) ∧ Wr w' g lim (wAddE lim e L bl) (wAddL lim e L bl) ∧ WF g 0 w w' := by
  have hbm : bl.length = m := by have := hS.len; rw [by_len] at this; omega
  unfold wAddL wAddE
  rw [hbm]
  by_cases he : e = 0
  · subst he
    rw [if_pos rfl]
    by_cases hl : lim - L.length < m
    · rw [if_pos hl, if_neg (by decide)]
      exact cadd_longF g lim L B m d w h hm hl
    · rw [if_neg hl, if_pos rfl]
      exact cadd_okF g lim L bl B m d w h hS hl
  · rw [if_neg he, if_neg he]
    refine (cadd_err g lim e L _ w h he).mono ?_
    rintro r w' ⟨h1, rfl⟩
    exact ⟨h1, h, WF.refl _ _ _⟩
theorem cWU_anyF (g : Nat) (lim e : Int) (L : List Nat) (N : Nat) (hN : N < 18446744073709551616) (w : World) (h : Wr w g lim e L) :
    Calls Try.prog 61 #[.pointer (some ⟨g, 0, none⟩), .int .u64 (N : Int)] w fun r w' => r = .returned (.int .i64 (wAddE lim e L (putL N))) ∧ Wr w' g lim (wAddE lim e L (putL N)) (wAddL lim e L (putL N)) ∧ WF g 0 w w' := by
  have H := Lib.hid h
  have hp : (putL N).length ≤ 1048576 := by have := putL_len N 9 (by omega); omega
  have HP := Lib.hid hp
  obtain ⟨E, hE⟩ : ∃ E, E = wAddE lim e L (putL N) := ⟨_, rfl⟩
  obtain ⟨M, hM⟩ : ∃ M, M = wAddL lim e L (putL N) := ⟨_, rfl⟩
  rw [← hE, ← hM]
  have HE := Lib.hid (And.intro hE hM)
  clear h hE hM hp
  go_enter Try.func61, Try.ntmps61
  go_wp2_with fail
  refine (cPut_any N hN _).mono ?_
  rintro r w1 ⟨v, rfl, h1, hx1⟩
  obtain ⟨A1, c1, rfl, s1⟩ := own_parts h1
  have C := cadd_anyF g lim e L (putL N) A1 (putL N).length c1 w1 (H.out.keep hx1) s1 HP.out
  rw [← HE.out.1, ← HE.out.2] at C
  replace C := Lib.hid C
  have X1 := Lib.hid (And.intro hx1 H.out.lt)
  clear h1 s1 hx1
  go_wp2_with fail
  refine C.out.mono ?_
  rintro r w2 ⟨rfl, hw2, hb2⟩
  have W2 := Lib.hid (And.intro hw2 hb2)
  clear hw2 hb2 C
  go_wp2_with fail
  go_ret
  exact ⟨rfl, W2.out.1, (WF.ofExt X1.out.1 X1.out.2).trans W2.out.2⟩
theorem cWN_errF (g : Nat) (lim e : Int) (L : List Nat) (n : Int) (h0 : -9223372036854775808 ≤ n) (h1 : n ≤ 9223372036854775807) (w : World) (h : Wr w g lim e L) (he : ¬ e = 0) :
    Calls Try.prog 59 #[.pointer (some ⟨g, 0, none⟩), .int .i64 n] w fun r w' => r = .returned (.int .i64 e) ∧ Wr w' g lim e L ∧ WF g 0 w w' := by
  have H2 := h.c2
  have H3 := h.c3
  have hef : (e == 0) = false := beq_false_of_ne he
  obtain ⟨M, hM⟩ : ∃ M : Nat, IntKind.u64.wrap n = (M : Int) ∧ M < 18446744073709551616 := by
    refine ⟨(IntKind.u64.wrap n).toNat, ?_, ?_⟩ <;> rw [IntKind.wrap_u64] <;> omega
  have hne : (e != 0) = true := by simpa using he
  have C := cWU_anyF g lim e L M hM.2 w h
  have E1 : wAddE lim e L (putL M) = e := if_neg he
  have E2 : wAddL lim e L (putL M) = L := by unfold wAddL; rw [E1, if_neg he]
  rw [E1, E2, ← hM.1] at C
  replace C := Lib.hid C
  clear h he E1 E2 hM
  go_enter Try.func59, Try.ntmps59
  go_wp2_with fail
  refine (cstate_any g e _ H2 H3).mono ?_
  rintro r w1 ⟨rfl, rfl⟩
  go_wp2_with fail
  refine C.out.mono ?_
  rintro r w2 ⟨rfl, hw2, hb2⟩
  have W2 := Lib.hid (And.intro hw2 hb2)
  clear hw2 hb2 C
  go_wp2_with fail
  go_ret
  exact ⟨rfl, W2.out.1, W2.out.2⟩
theorem cWN_negF (g : Nat) (lim : Int) (L : List Nat) (n : Int) (h0 : n < 0) (w : World) (h : Wr w g lim 0 L) :
    Calls Try.prog 59 #[.pointer (some ⟨g, 0, none⟩), .int .i64 n] w fun r w' => r = .returned (.int .i64 3) ∧ Wr w' g lim 3 L ∧ WF g 0 w w' := by
  have H2 := h.c2
  have H3 := h.c3
  have F3 := h.f3
  have HH := Lib.hid h
  have hd : decide (0 ≤ n) = false := decide_eq_false (by omega)
  clear h
  go_enter Try.func59, Try.ntmps59
  go_wp2_with fail
  refine (cstate_any g 0 _ H2 H3).mono ?_
  rintro r w1 ⟨rfl, rfl⟩
  go_wp2
  go_ret
  exact ⟨rfl, HH.out.setErr 3, WF.same ((But.refl _ _).setCell (p := ⟨g, 3, none⟩) (.inl rfl) _) (by simp [go_sem])⟩
theorem cWN_posF (g : Nat) (lim : Int) (L : List Nat) (N : Nat) (hN : N < 9223372036854775808) (w : World) (h : Wr w g lim 0 L) :
    Calls Try.prog 59 #[.pointer (some ⟨g, 0, none⟩), .int .i64 (N : Int)] w fun r w' => r = .returned (.int .i64 (wAddE lim 0 L (putL N))) ∧ Wr w' g lim (wAddE lim 0 L (putL N)) (wAddL lim 0 L (putL N)) ∧ WF g 0 w w' := by
  have H2 := h.c2
  have H3 := h.c3
  have C := Lib.hid (cWU_anyF g lim 0 L N (by omega) w h)
  have hd : decide (0 ≤ (N : Int)) = true := decide_eq_true (by omega)
  have hN2 : (N : Int) < 9223372036854775808 := by omega
  generalize wAddE lim 0 L (putL N) = E at C
  generalize wAddL lim 0 L (putL N) = M at C
  clear h hN
  go_enter Try.func59, Try.ntmps59
  go_wp2_with fail
  refine (cstate_any g 0 _ H2 H3).mono ?_
  rintro r w1 ⟨rfl, rfl⟩
  go_wp2_with fail
  refine C.out.mono ?_
  rintro r w2 ⟨rfl, hw2, hb2⟩
  have W2 := Lib.hid (And.intro hw2 hb2)
  clear hw2 hb2 C
  go_wp2_with fail
  go_ret
  exact ⟨rfl, W2.out.1, W2.out.2⟩
theorem cWN_anyF (g : Nat) (lim e : Int) (L : List Nat) (n : Int) (h0 : -9223372036854775808 ≤ n) (h1 : n ≤ 9223372036854775807) (w : World) (h : Wr w g lim e L) :
    Calls Try.prog 59 #[.pointer (some ⟨g, 0, none⟩), .int .i64 n] w fun r w' => r = .returned (.int .i64 (wNE lim e L n)) ∧ Wr w' g lim (wNE lim e L n) (wNL lim e L n) ∧ WF g 0 w w' := by
  unfold wNE wNL
  by_cases he : e = 0
  · subst he
    rw [if_pos rfl, if_pos rfl]
    by_cases hn : n < 0
    · rw [if_pos hn, if_pos hn]
      exact cWN_negF g lim L n hn w h
    · rw [if_neg hn, if_neg hn]
      obtain ⟨N, rfl⟩ : ∃ N : Nat, n = N := ⟨n.toNat, by omega⟩
      rw [Int.toNat_natCast]
      exact cWN_posF g lim L N (by omega) w h
  · rw [if_neg he, if_neg he]
    exact cWN_errF g lim e L n h0 h1 w h he
end
section
open Go.RowKit
theorem numGo_lt' : ∀ (L : List Nat) (i acc : Nat), i ≤ 9 → acc < 2 ^ (7 * i) → Byt L → (numGo L i acc).1 < 18446744073709551616 := by
  intro L
  induction L with
  | nil => intro i acc _ _ _; simp [numGo]
  | cons c l ih =>
    intro i acc hi ha hB
    have hc := hB c (List.mem_cons_self ..)
    rw [numGo]
    split
    · simp
    · rename_i hcond
      have hs := fun (h9 : i = 9 → c % 128 ≤ 1) => acc_small (c := c % 128) ha hi (by omega) h9
      split
      · rename_i h1
        exact (hs (by omega)).2
      · exact ih _ _ (by omega) (acc_step ha (by omega)) (fun x hx => hB x (List.mem_cons_of_mem _ hx))
end
section
open Go.RowKit
def SlB (B : Nat) (w : World) (sz : Nat) (A : Option Addr) (n c : Nat) (xs : List Value) : Prop := Sl w sz A n c xs ∧ (0 < n → ∀ b o s, A = some ⟨b, o, s⟩ → b < B)
section
variable {B : Nat} {S : Nat → Prop} {w w' : World} {sz n c : Nat} {A : Option Addr} {xs : List Value}
theorem SlB.sl (h : SlB B w sz A n c xs) : Sl w sz A n c xs := h.1
theorem Sl.low (h : Sl w sz A n c xs) : SlB w.heap.size w sz A n c xs := by
  refine ⟨h, fun hn b o s e => ?_⟩
  obtain ⟨b', o', e', hb, _⟩ := h.at_ hn
  rw [e] at e'
  injection e' with e'
  injection e' with e1
  omega
theorem SlB.raise (h : SlB B w sz A n c xs) : SlB w.heap.size w sz A n c xs := Sl.low h.1
theorem SlB.ext (h : SlB B w sz A n c xs) (hx : Ext w w') : SlB B w' sz A n c xs := ⟨h.1.ext hx, h.2⟩
theorem SlB.but (h : SlB B w sz A n c xs) (hx : But S w w') (hs : ∀ k, S k → B ≤ k) : SlB B w' sz A n c xs := by
  refine ⟨⟨h.1.1, h.1.2.1, h.1.2.2.1, fun hn => ?_⟩, h.2⟩
  obtain ⟨b, o, e, hb, hc⟩ := h.1.at_ hn
  have hS : ¬ S b := fun hs' => by have := hs b hs'; have := h.2 hn b o none e; omega
  exact ⟨b, o, e, by have := hx.size; omega, fun j u hu => hx.has hS (hc j u hu)⟩
end
end
section
open Go.RowKit
theorem Wr.ext {w w' : World} {g : Nat} {lim err : Int} {L : List Nat} (h : Wr w g lim err L) (hb : Ext w w') : Wr w' g lim err L := h.keep hb
theorem Rd.ext {w w' : World} {g k : Nat} {L : List Nat} {flt : Option (Int × Int)} (h : Rd w g L k flt) (hb : Ext w w') : Rd w' g L k flt := h.keep hb
def RdPU (g : Nat) (L : List Nat) (W : World) (v : Int) (k : Nat) (flt : Option (Int × Int)) (r : Ending) (w' : World) : Prop := r = .returned (.int .u64 v) ∧ Rd w' g L k flt ∧ But (· = g) W w'
theorem creadU_old (g k : Nat) (L : List Nat) (x : Int × Int) (v : Value) (w : World) (h : Rd w g L k (some x)) :
    Calls Try.prog 91 #[.pointer (some ⟨g, 0, none⟩), v] w fun r w' => r = .returned (.int .u64 0) ∧ w = w' := by
  have H2 := h.c2
  obtain ⟨v, H3, fb, rfl, _⟩ := h.c3
  clear h
  go_enter Try.func91, Try.ntmps91
  go_wp2_with fail
  refine (cnone_any g _ H2).mono ?_
  rintro r w1 ⟨rfl, rfl⟩
  go_wp2
  go_ret
  exact ⟨rfl, rfl⟩
set_option maxRecDepth 100000 in
set_option maxHeartbeats 1000000 in
theorem creadU_go (g k : Nat) (L : List Nat) (n kk e : Int) (W : World) (h : Rd W g L k none) (hle : 0 ≤ kk) (hk2 : (k : Int) + kk ≤ L.length) (hL : L.length < 1099511627776)
    (CN : Hid (∀ (A : Option Addr) (c : Nat) (w : World), Sl w 1 A (L.length - k) c (by_ (L.drop k)) → (∀ b, w.cell? b = W.cell? b) → Calls Try.prog 88 #[.slice A (L.length - k) c] w fun r w' => r = .returned (.tuple #[.int .u64 n, .int .i64 kk, .int .i64 e]) ∧ w = w')) :
    Calls Try.prog 91 #[.pointer (some ⟨g, 0, none⟩), .func (.func 88) #[] #[]] W fun r w' => r = .returned (.int .u64 (if e = 0 then n else 0)) ∧ Rd w' g L (if e = 0 then k + kk.toNat else k) (failF none e k) ∧ But (· = g) W w' := by
  have H2 := h.c2
  have H1 := h.c1
  obtain ⟨v, H3, rfl⟩ := h.c3
  obtain ⟨A, c, H0, hs, _⟩ := h.b
  have hkl := h.le
  have hd := Lib.hid (hs.bdrop hkl)
  have F1 := h.f1
  have HH := Lib.hid h
  have hsm := hs.small
  have hcs : L.length ≤ c := hs.2.1
  clear h hs
  generalize hN : L.length = N at *
  replace hN := Lib.hid hN
  obtain ⟨A2, hA2⟩ : ∃ A2, A2 = (if c = k then A else A.map (·.add (k * 1))) := ⟨_, rfl⟩
  rw [← hA2] at hd
  have hsl : ∀ w, (Instr.slice 56 (.slice A N c) (some (.int .i64 (k : Int))) none none).run Try.prog w = .ok (.slice A2 (N - k) (c - k)) w := by
    intro w
    have hq := run_slice_l (P := Try.prog) (w := w) 56 A N c (by kernel_rfl) .i64 (k : Int) (by omega) (by omega)
    rw [hq, hA2]
    simp [go_sem, sizeOf_u8 w]
  replace hA2 := Lib.hid hA2
  have hkI : (k : Int) ≤ N := by omega
  by_cases he : e = 0
  · subst he
    rw [if_pos rfl, if_pos rfl]
    show Calls _ _ _ _ (RdPU g L W n (k + kk.toNat) none)
    go_enter Try.func91, Try.ntmps91
    go_wp2_with fail
    refine (cnone_any g _ H2).mono ?_
    rintro r w1 ⟨rfl, rfl⟩
    go_wp2_with fail
    go_quiet ((go_at_call 88; exact Calls.quiet_of_same ((CN.out A2 (c - k) _ (hd.out.ext ((Ext.refl _).drewN _)) (fun _ => rfl)).mono fun r w' h => ⟨h.1, h.2.symm⟩)))
    have hkk : (k : Int) + kk < 9223372036854775808 := by omega
    go_wp2
    go_ret
    refine ⟨rfl, ?_, ((But.refl (· = g) W).drewN nq).setCell (p := ⟨g, 1, none⟩) (show g = g from rfl) _⟩
    have hh := (HH.out.drewN nq).setAt (k + kk.toNat) (by rw [hN.out]; omega)
    rw [show ((k + kk.toNat : Nat) : Int) = (k : Int) + kk from by omega] at hh
    exact hh
  · have hef : (e == 0) = false := beq_false_of_ne he
    rw [if_neg he, if_neg he]
    show Calls _ _ _ _ (RdPU g L W 0 k (failF none e k))
    go_enter Try.func91, Try.ntmps91
    go_wp2_with fail
    refine (cnone_any g _ H2).mono ?_
    rintro r w1 ⟨rfl, rfl⟩
    go_wp2_with fail
    go_quiet ((go_at_call 88; exact Calls.quiet_of_same ((CN.out A2 (c - k) _ (hd.out.ext ((Ext.refl _).drewN _)) (fun _ => rfl)).mono fun r w' h => ⟨h.1, h.2.symm⟩)))
    have CF := Lib.hid (cFail_any g k L none e k _ (HH.out.drewN nq))
    clear he
    go_wp2_with fail
    refine CF.out.mono ?_
    rintro r w1 ⟨⟨v, rfl⟩, hr, hb⟩
    have HR := Lib.hid (And.intro hr hb)
    clear hr hb CF
    go_wp2_with fail
    go_ret
    exact ⟨rfl, HR.out.1, ((But.refl _ W).drewN nq).trans HR.out.2⟩
theorem cU_main (g k : Nat) (L : List Nat) (f : Option (Int × Int)) (hL : L.length < 1099511627776) (w : World) (h : Rd w g L k f) :
    Calls Try.prog 91 #[.pointer (some ⟨g, 0, none⟩), .func (.func 88) #[] #[]] w (RdPU g L w (ruV L k f) (ruK L k f) (ruF L k f)) := by
  cases f with
  | some x =>
    refine (creadU_old g k L x _ w h).mono ?_
    rintro r w' ⟨rfl, rfl⟩
    unfold ruV ruK ruF RdPU
    exact ⟨by simp, by simpa using h, But.refl _ _⟩
  | none =>
    have hn := numGo_lt (L.drop k) 0 0 (by decide) (by decide)
    have hlen : (L.drop k).length = L.length - k := List.length_drop ..
    have hkl := h.le
    have C := creadU_go g k L ((numGo (L.drop k) 0 0).1 : Int) ((numGo (L.drop k) 0 0).2.1 : Int) (ruE L k) w h (by omega) (by have := hn.2.1; omega) hL
      (Lib.hid fun A c w' hs _ => cnumber_any A (L.length - k) c (L.drop k) w' hs (h.byt.drop k))
    refine C.mono ?_
    rintro r w' ⟨hr1, hr2, hr3⟩
    unfold ruV ruK ruF
    by_cases he : ruE L k = 0
    · rw [if_pos he] at hr1 hr2
      rw [he] at hr2 ⊢
      refine ⟨?_, ?_, hr3⟩
      · rw [hr1]; simp
      · simpa using hr2
    · rw [if_neg he] at hr1 hr2
      refine ⟨?_, ?_, hr3⟩
      · rw [hr1]; simp [he]
      · simpa [he] using hr2
theorem cU_any (g k : Nat) (L : List Nat) (f : Option (Int × Int)) (hL : L.length < 1099511627776) (w : World) (h : Rd w g L k f) :
    Calls Try.prog 67 #[.pointer (some ⟨g, 0, none⟩)] w (RdPU g L w (ruV L k f) (ruK L k f) (ruF L k f)) := by
  have main := Lib.hid (cU_main g k L f hL w h)
  clear h
  go_enter Try.func67, Try.ntmps67
  go_wp2_with fail
  refine main.out.mono ?_
  rintro r w1 ⟨rfl, hr1, hr2⟩
  have H := Lib.hid (show RdPU g L w (ruV L k f) (ruK L k f) (ruF L k f) (.returned (.int .u64 (ruV L k f))) w1 from ⟨rfl, hr1, hr2⟩)
  clear hr1 hr2 main
  go_wp2_with fail
  go_ret
  exact H.out
/-- a write that fits -/
theorem wAdd_fit {lim : Int} {L b : List Nat} (h : (L.length : Int) + b.length ≤ lim) : wAddE lim 0 L b = 0 ∧ wAddL lim 0 L b = L ++ b := by
  have e : wAddE lim 0 L b = 0 := by unfold wAddE; rw [if_pos rfl, if_neg (by omega)]
  exact ⟨e, by unfold wAddL; rw [e, if_pos rfl]⟩
theorem putL_ten {N : Nat} (hN : N < 18446744073709551616) : (putL N).length ≤ 10 := by have := putL_len N 9 (by omega); omega
theorem But.ofBelow {g : Nat} {w w' : World} (h : Below g w w') : But (fun k => g ≤ k) w w' := ⟨h.os, h.tape, h.output, h.size, fun k _ hs => h.block k (by have h2 : ¬ g ≤ k := hs; omega)⟩
/-- the writer at g does not have the block q -/
def Off (w : World) (g o q : Nat) : Prop := g < w.heap.size ∧ q < w.heap.size ∧ ¬ Sg w g o q
theorem Off.ext {w w' : World} {g o q : Nat} (h : Off w g o q) (hx : Ext w w') : Off w' g o q :=
  ⟨by have := h.1; have := hx.size; omega, by have := h.2.1; have := hx.size; omega, fun hs => h.2.2 ((Sg.congr (hx.cells.1 g o h.1)).1 hs)⟩
theorem Off.wf {w w' : World} {g o q : Nat} (h : Off w g o q) (hx : WF g o w w') : Off w' g o q :=
  ⟨by have := h.1; have := hx.but.size; omega, by have := h.2.1; have := hx.but.size; omega, fun hs => h.2.2 (hx.row q h.2.1 hs)⟩
theorem Off.new {w w' : World} {g q : Nat} {lim e : Int} {L : List Nat} (h : Wr w g lim e L) (hq : w.heap.size ≤ q) (hx : Ext w w') (hq2 : q < w'.heap.size) : Off w' g 0 q :=
  ⟨by have := h.lt; have := hx.size; omega, hq2, fun hs => by have := Wr.sg h ((Sg.congr (hx.cells.1 g 0 h.lt)).1 hs); omega⟩
theorem WF.box {w w' : World} {g q : Nat} {lim e : Int} {L : List Nat} (hw : Wr w g lim e L) (hq : Off w g 0 q) (hx : WF g 0 w w') : But (fun k => k ≠ q ∧ g ≤ k) w w' :=
  hx.but.mono fun k _ hs => ⟨fun e => hq.2.2 (e ▸ hs), (Wr.sg hw hs).1⟩
theorem cWN_fit (g : Nat) (lim : Int) (L : List Nat) (n : Int) (h0 : 0 ≤ n) (h1 : n < 9223372036854775808) (hf : (L.length : Int) + 10 ≤ lim) (w : World) (h : Wr w g lim 0 L) :
    Calls Try.prog 59 #[.pointer (some ⟨g, 0, none⟩), .int .i64 n] w fun r w' => r = .returned (.int .i64 0) ∧ Wr w' g lim 0 (L ++ putL n.toNat) ∧ But (fun k => g ≤ k) w w' := by
  obtain ⟨N, rfl⟩ : ∃ N : Nat, n = (N : Int) := ⟨n.toNat, by omega⟩
  rw [show ((N : Int)).toNat = N from by simp]
  have hb := putL_ten (N := N) (by omega)
  obtain ⟨e1, e2⟩ := wAdd_fit (lim := lim) (L := L) (b := putL N) (by omega)
  have hc := cWN_pos g lim L N (by omega) w h
  rw [e1, e2] at hc
  refine hc.mono ?_
  rintro r w' ⟨h1, h2, h3⟩
  exact ⟨h1, h2, But.ofBelow h3⟩
theorem cWU_box (g q : Nat) (lim : Int) (L : List Nat) (n : Int) (h0 : 0 ≤ n) (h1 : n < 18446744073709551616) (hf : (L.length : Int) + 10 ≤ lim) (w : World) (h : Wr w g lim 0 L) (hq : Off w g 0 q) :
    Calls Try.prog 61 #[.pointer (some ⟨g, 0, none⟩), .int .u64 n] w fun r w' => r = .returned (.int .i64 0) ∧ Wr w' g lim 0 (L ++ putL n.toNat) ∧ Off w' g 0 q ∧ But (fun k => k ≠ q ∧ g ≤ k) w w' := by
  obtain ⟨N, rfl⟩ : ∃ N : Nat, n = (N : Int) := ⟨n.toNat, by omega⟩
  rw [show ((N : Int)).toNat = N from by simp]
  have hb := putL_ten (N := N) (by omega)
  obtain ⟨e1, e2⟩ := wAdd_fit (lim := lim) (L := L) (b := putL N) (by omega)
  have hc := cWU_anyF g lim 0 L N (by omega) w h
  rw [e1, e2] at hc
  refine hc.mono ?_
  rintro r w' ⟨h1, h2, h3⟩
  exact ⟨h1, h2, hq.wf h3, WF.box h hq h3⟩
theorem cWN_box (g q : Nat) (lim : Int) (L : List Nat) (n : Int) (h0 : 0 ≤ n) (h1 : n < 9223372036854775808) (hf : (L.length : Int) + 10 ≤ lim) (w : World) (h : Wr w g lim 0 L) (hq : Off w g 0 q) :
    Calls Try.prog 59 #[.pointer (some ⟨g, 0, none⟩), .int .i64 n] w fun r w' => r = .returned (.int .i64 0) ∧ Wr w' g lim 0 (L ++ putL n.toNat) ∧ Off w' g 0 q ∧ But (fun k => k ≠ q ∧ g ≤ k) w w' := by
  obtain ⟨N, rfl⟩ : ∃ N : Nat, n = (N : Int) := ⟨n.toNat, by omega⟩
  rw [show ((N : Int)).toNat = N from by simp]
  have hb := putL_ten (N := N) (by omega)
  obtain ⟨e1, e2⟩ := wAdd_fit (lim := lim) (L := L) (b := putL N) (by omega)
  have hc := cWN_posF g lim L N (by omega) w h
  rw [e1, e2] at hc
  refine hc.mono ?_
  rintro r w' ⟨h1, h2, h3⟩
  exact ⟨h1, h2, hq.wf h3, WF.box h hq h3⟩
theorem cNewWriter_ex (lim : Int) (h0 : 0 ≤ lim) (h1 : lim ≤ 1048576) (w : World) :
    Calls Try.prog 58 #[.int .i64 lim] w fun r w' => ∃ g, r = .returned (.tuple #[.pointer (some ⟨g, 0, none⟩), .int .i64 0]) ∧ w.heap.size ≤ g ∧ Wr w' g lim 0 [] ∧ Ext w w' :=
  (cNewWriter_any lim h0 h1 w).mono fun r w' h => ⟨_, h.1, Nat.le_refl _, h.2⟩
theorem cDone_ok (g : Nat) (lim : Int) (L : List Nat) (w : World) (h : Wr w g lim 0 L) : Calls Try.prog 62 #[.pointer (some ⟨g, 0, none⟩)] w (ByErr L 0 w) := by
  have h := cDone_any g lim 0 L w h
  rwa [if_pos rfl] at h
theorem SlB.bel {B G : Nat} {w w' : World} {sz n c : Nat} {A : Option Addr} {xs : List Value} (h : SlB B w sz A n c xs) (hx : Below G w w') (hb : B ≤ G) : SlB B w' sz A n c xs := by
  refine ⟨⟨h.1.1, h.1.2.1, h.1.2.2.1, fun hn => ?_⟩, h.2⟩
  obtain ⟨b, o, e, hlt, hc⟩ := h.1.at_ hn
  have h2 := h.2 hn b o none e
  exact ⟨b, o, e, by have := hx.size; omega, fun j u hu => (hx.cell (p := ⟨b, o + j, none⟩) (show b < G by omega)).trans (hc j u hu)⟩
theorem Ext.bel {a b c : World} {g : Nat} (h : Ext a b) (k : Below g b c) (hg : a.heap.size ≤ g) : Ext a c := Below.trans h (k.mono hg)
end
section
open Go.RowKit
theorem Rd.set4 {w : World} {g k : Nat} {L : List Nat} {flt : Option (Int × Int)} (h : Rd w g L k flt) {b : Nat} {v0 v1 v2 v3 : Value} (hg : g < b) (ht : ∃ cs t z, w.heap[b]? = some (.cells cs t z) ∧ t ≠ 60) :
    Rd ((((w.setCell ⟨b, 0, none⟩ v0).setCell ⟨b, 1, none⟩ v1).setCell ⟨b, 2, none⟩ v2).setCell ⟨b, 3, none⟩ v3) g L k flt := by
  have step : ∀ (w : World) (o : Nat) (v : Value), (∃ cs t z, w.heap[b]? = some (.cells cs t z) ∧ t ≠ 60) → ∃ cs t z, (w.setCell ⟨b, o, none⟩ v).heap[b]? = some (.cells cs t z) ∧ t ≠ 60 := by
    rintro w o v ⟨cs, t, z, h1, h2⟩
    obtain ⟨cs', h3⟩ := heap_set_type (p := ⟨b, o, none⟩) (v := v) h1
    exact ⟨cs', t, z, h3, h2⟩
  have t1 := step w 0 v0 ht
  have t2 := step _ 1 v1 t1
  have t3 := step _ 2 v2 t2
  exact (((h.setOther hg ht).setOther hg t1).setOther hg t2).setOther hg t3
theorem But.mono2 {g b : Nat} {w w' : World} (h : But (fun k => k = g ∨ k = b) w w') (hb : w.heap.size ≤ b) : But (· = g) w w' := h.mono fun k hk hs => by rcases hs with rfl | rfl; rfl; omega
/-- does a reader have a fault that ends a Take? -/
def fltB (flt : Option (Int × Int)) (k n : Nat) : Bool := leftF flt k n == 0 && (endF flt k n).1 != 0
set_option maxRecDepth 100000 in
theorem tfaulty_any (g k : Nat) (L : List Nat) (flt : Option (Int × Int)) (w : World) (h : Rd w g L k flt) (hL : L.length < 1099511627776) :
    Calls Try.prog 90 #[.pointer (some ⟨g, 0, none⟩)] w fun r w' => r = .returned (.bool (fltB flt k L.length)) ∧ Ext w w' := by
  have C1 := Lib.hid (cLeft_any g k L flt w h hL)
  have H := Lib.hid h
  have HL := Lib.hid hL
  unfold fltB
  obtain ⟨l, hl⟩ : ∃ l, leftF flt k L.length = l := ⟨_, rfl⟩
  obtain ⟨e, he⟩ : ∃ e, (endF flt k L.length).1 = e := ⟨_, rfl⟩
  have C2 := Lib.hid (fun w h => cEnd_any g k L flt w h hL)
  rw [hl] at C1
  rw [he] at C2
  rw [hl, he]
  generalize (endF flt k L.length).2 = e2 at C2
  clear h hL hl he
  have hfd : ∀ w : World, (Instr.field 60 (.agg #[.int .i64 e, .int .i64 e2]) 0).run Try.prog w = .ok (.int .i64 e) w := fun _ => by kernel_rfl
  obtain ⟨p, hp⟩ : ∃ p, (l == 0) = p := ⟨_, rfl⟩
  rw [hp]
  cases p
  · go_enter Try.func90, Try.ntmps90
    go_wp2_with fail
    refine C1.out.mono ?_
    rintro r w1 ⟨rfl, hx1⟩
    have X1 := Lib.hid hx1
    clear hx1
    go_wp2_with fail
    go_ret
    exact ⟨rfl, X1.out⟩
  · go_enter Try.func90, Try.ntmps90
    go_wp2_with fail
    refine C1.out.mono ?_
    rintro r w1 ⟨rfl, hx1⟩
    have X1 := Lib.hid hx1
    have H1 := Lib.hid (H.out.keep hx1)
    clear hx1 H C1
    go_wp2_with fail
    refine (C2.out _ H1.out).mono ?_
    rintro r w2 ⟨rfl, hx2⟩
    have X2 := Lib.hid (X1.out.trans hx2)
    clear hx2 X1 H1 C2
    go_wp2_with fail
    go_ret
    exact ⟨by simp [bne], X2.out⟩
theorem rnV_bound (L : List Nat) (k : Nat) (flt : Option (Int × Int)) (least most : Int) (h2 : 0 ≤ most) : 0 ≤ rnV L k flt least most ∧ rnV L k flt least most ≤ most := by
  unfold rnV
  split
  · rename_i h
    obtain ⟨_, h1⟩ := rnE_zero h.2
    exact ⟨by omega, h1⟩
  · exact ⟨Int.le_refl _, h2⟩
set_option maxRecDepth 100000 in
set_option maxHeartbeats 2000000 in
theorem tTake_at (g k k1 k2 k3 k4 : Nat) (L : List Nat) (f f1 f2 f3 f4 f5 : Option (Int × Int)) (at_ V S Q F E : Int) (b b2 : Bool) (q0 : 0 ≤ Q) (q1 : Q ≤ 32)
    (CA : Hid (∀ w, Rd w g L k f → Calls Try.prog 65 #[.pointer (some ⟨g, 0, none⟩)] w fun r w' => r = .returned (.int .i64 at_) ∧ w = w'))
    (C1 : Hid (∀ w, Rd w g L k f → Calls Try.prog 64 #[.pointer (some ⟨g, 0, none⟩), .int .i64 0, .int .i64 31] w (RdP g L w V k1 f1)))
    (C2 : Hid (∀ w, Rd w g L k1 f1 → Calls Try.prog 64 #[.pointer (some ⟨g, 0, none⟩), .int .i64 1, .int .i64 4294967296] w (RdP g L w S k2 f2)))
    (C3 : Hid (∀ w, Rd w g L k2 f2 → Calls Try.prog 64 #[.pointer (some ⟨g, 0, none⟩), .int .i64 0, .int .i64 32] w (RdP g L w Q k3 f3)))
    (C4 : Hid (∀ w, Rd w g L k3 f3 → Calls Try.prog 64 #[.pointer (some ⟨g, 0, none⟩), .int .i64 0, .int .i64 4294967296] w (RdP g L w F k4 f4)))
    (C5 : Hid (∀ w, Rd w g L k4 f4 → Calls Try.prog 90 #[.pointer (some ⟨g, 0, none⟩)] w fun r w' => r = .returned (.bool b) ∧ Ext w w'))
    (CK : Hid (∀ w, Calls Try.prog 71 #[.agg #[.int .i64 V, .int .i64 S, .int .i64 (Q - 1), .int .i64 F]] w fun r w' => r = .returned (.int .i64 E) ∧ Ext w w'))
    (C6 : Hid (∀ w, Rd w g L k4 f4 → Calls Try.prog 69 #[.pointer (some ⟨g, 0, none⟩), .int .i64 E, .int .i64 at_] w fun r w' => (∃ v, r = .returned v) ∧ Rd w' g L k4 (failF f4 E at_) ∧ But (· = g) w w'))
    (h5 : (if b = true then f4 else failF f4 E at_) = f5)
    (C7 : Hid (∀ w, Rd w g L k4 f5 → Calls Try.prog 90 #[.pointer (some ⟨g, 0, none⟩)] w fun r w' => r = .returned (.bool b2) ∧ Ext w w'))
    (w : World) (h : Rd w g L k f) :
    Calls Try.prog 66 #[.pointer (some ⟨g, 0, none⟩)] w fun r w' => r = .returned (.agg #[.int .i64 (if b2 = true then 0 else V), .int .i64 (if b2 = true then 0 else S), .int .i64 (if b2 = true then 0 else Q - 1), .int .i64 (if b2 = true then 0 else F)]) ∧ Rd w' g L k4 f5 ∧ But (· = g) w w' := by
  have lt := h.lt
  have H := Lib.hid (h.keep (w' := w.alloc (.cells #[.int .i64 0, .int .i64 0, .int .i64 0, .int .i64 0] 24)) ((Below.refl _ w).alloc (Nat.le_refl _) _))
  clear h
  have hP : -1 ≤ Q - 1 := by omega
  go_enter Try.func66, Try.ntmps66
  go_wp2_with fail
  refine (CA.out _ H.out).mono ?_
  rintro r w0 ⟨rfl, rfl⟩
  go_wp2_with fail
  refine (C1.out _ H.out).mono ?_
  rintro r w1 ⟨rfl, hr1, hb1⟩
  have hng : ¬ w.heap.size = g := by omega
  have d0 : w1.cell? ⟨w.heap.size, 0, none⟩ = some (.int .i64 0) := hb1.has hng (by simp [go_sem])
  have e0 : w1.frozen? ⟨w.heap.size, 0, none⟩ = false := hb1.froz hng (v := .int .i64 0) (by simp [go_sem]) (by simp [go_sem])
  have d1 : w1.cell? ⟨w.heap.size, 1, none⟩ = some (.int .i64 0) := hb1.has hng (by simp [go_sem])
  have e1 : w1.frozen? ⟨w.heap.size, 1, none⟩ = false := hb1.froz hng (v := .int .i64 0) (by simp [go_sem]) (by simp [go_sem])
  have d2 : w1.cell? ⟨w.heap.size, 2, none⟩ = some (.int .i64 0) := hb1.has hng (by simp [go_sem])
  have e2 : w1.frozen? ⟨w.heap.size, 2, none⟩ = false := hb1.froz hng (v := .int .i64 0) (by simp [go_sem]) (by simp [go_sem])
  have d3 : w1.cell? ⟨w.heap.size, 3, none⟩ = some (.int .i64 0) := hb1.has hng (by simp [go_sem])
  have e3 : w1.frozen? ⟨w.heap.size, 3, none⟩ = false := hb1.froz hng (v := .int .i64 0) (by simp [go_sem]) (by simp [go_sem])
  have z1 := hb1.size
  simp at z1
  have X1 := Lib.hid (show But (· = g) (w.alloc (.cells #[.int .i64 0, .int .i64 0, .int .i64 0, .int .i64 0] 24)) w1 from hb1)
  have H1 := Lib.hid hr1
  clear hr1 hb1 H C1 CA
  go_wp2_with fail
  refine (C2.out _ H1.out).mono ?_
  rintro r w2 ⟨rfl, hr2, hb2⟩
  replace e0 := hb2.froz hng d0 e0
  replace d0 := hb2.has hng d0
  replace e1 := hb2.froz hng d1 e1
  replace d1 := hb2.has hng d1
  replace e2 := hb2.froz hng d2 e2
  replace d2 := hb2.has hng d2
  replace e3 := hb2.froz hng d3 e3
  replace d3 := hb2.has hng d3
  have z2 := hb2.size
  have X2 := Lib.hid (X1.out.trans hb2)
  have r0 : w.heap.size < w2.heap.size := by omega
  have r01 : w.heap.size < w2.heap.size := r0
  have r00 : w.heap.size ≤ w2.heap.size ∧ g < w2.heap.size := ⟨by omega, by omega⟩
  have hng2 : ¬ w2.heap.size = g := by omega
  have H2 := Lib.hid (hr2.keep ((Below.refl _ w2).alloc (Nat.le_refl _) (.cells #[.int .i64 V, .int .i64 S, .int .i64 0, .int .i64 0] 24)))
  clear hr2 hb2 H1 X1 C2 z1 z2
  go_wp2_with fail
  refine (C3.out _ H2.out).mono ?_
  rintro r w3 ⟨rfl, hr3, hb3⟩
  have z3 := hb3.size
  simp at z3
  have hxx := (But.ofExt (S := (· = g)) ((Ext.refl w2).alloc (.cells #[.int .i64 V, .int .i64 S, .int .i64 0, .int .i64 0] 24))).trans hb3
  replace e0 := hxx.froz hng d0 e0
  replace d0 := hxx.has hng d0
  replace e1 := hxx.froz hng d1 e1
  replace d1 := hxx.has hng d1
  replace e2 := hxx.froz hng d2 e2
  replace d2 := hxx.has hng d2
  replace e3 := hxx.froz hng d3 e3
  replace d3 := hxx.has hng d3
  have s0 : w3.cell? ⟨w2.heap.size, 0, none⟩ = some (.int .i64 V) := hb3.has hng2 (by simp [go_sem])
  have t0 : w3.frozen? ⟨w2.heap.size, 0, none⟩ = false := hb3.froz hng2 (v := .int .i64 V) (by simp [go_sem]) (by simp [go_sem])
  have s1 : w3.cell? ⟨w2.heap.size, 1, none⟩ = some (.int .i64 S) := hb3.has hng2 (by simp [go_sem])
  have t1 : w3.frozen? ⟨w2.heap.size, 1, none⟩ = false := hb3.froz hng2 (v := .int .i64 S) (by simp [go_sem]) (by simp [go_sem])
  have s2 : w3.cell? ⟨w2.heap.size, 2, none⟩ = some (.int .i64 0) := hb3.has hng2 (by simp [go_sem])
  have t2 : w3.frozen? ⟨w2.heap.size, 2, none⟩ = false := hb3.froz hng2 (v := .int .i64 0) (by simp [go_sem]) (by simp [go_sem])
  have s3 : w3.cell? ⟨w2.heap.size, 3, none⟩ = some (.int .i64 0) := hb3.has hng2 (by simp [go_sem])
  have t3 : w3.frozen? ⟨w2.heap.size, 3, none⟩ = false := hb3.froz hng2 (v := .int .i64 0) (by simp [go_sem]) (by simp [go_sem])
  have HT : ∃ cs t z, w3.heap[w2.heap.size]? = some (.cells cs t z) ∧ t ≠ 60 := ⟨_, _, _, (hb3.block w2.heap.size (by simp) hng2).trans (World.alloc_heap_new w2 (.cells #[.int .i64 V, .int .i64 S, .int .i64 0, .int .i64 0] 24)), by decide⟩
  have X3 := Lib.hid (X2.out.trans hxx)
  have r1 : w.heap.size < w3.heap.size := by omega
  have r2 : w2.heap.size < w3.heap.size := by omega
  have n1 : ¬ w2.heap.size = w.heap.size := by omega
  have n2 : ¬ w.heap.size = w2.heap.size := by omega
  have H3 := Lib.hid ((hr3.setOther (b := w2.heap.size) (o := 2) (v := .int .i64 (Q - 1)) (by omega) HT))
  clear hr3 hb3 H2 X2 C3 hxx z3 r0
  go_wp2_with fail
  refine (C4.out _ H3.out).mono ?_
  rintro r w4 ⟨rfl, hr4, hb4⟩
  have hxx : But (fun k => k = g ∨ k = w2.heap.size) w3 w4 := ((But.refl (fun k => k = g ∨ k = w2.heap.size) w3).setCell (p := ⟨w2.heap.size, 2, none⟩) (.inr rfl) (.int .i64 (Q - 1))).trans (hb4.mono (fun k _ hk => .inl hk))
  have hng3 : ¬ (w.heap.size = g ∨ w.heap.size = w2.heap.size) := by omega
  replace e0 := hxx.froz hng3 d0 e0
  replace d0 := hxx.has hng3 d0
  replace e1 := hxx.froz hng3 d1 e1
  replace d1 := hxx.has hng3 d1
  replace e2 := hxx.froz hng3 d2 e2
  replace d2 := hxx.has hng3 d2
  replace e3 := hxx.froz hng3 d3 e3
  replace d3 := hxx.has hng3 d3
  have t0' : w4.frozen? ⟨w2.heap.size, 0, none⟩ = false := hb4.froz hng2 (v := .int .i64 V) (by simp [go_sem, s0, s1, s2, s3, t0, t1, t2, t3]) (by simp [go_sem, s0, s1, s2, s3, t0, t1, t2, t3])
  have t1' : w4.frozen? ⟨w2.heap.size, 1, none⟩ = false := hb4.froz hng2 (v := .int .i64 S) (by simp [go_sem, s0, s1, s2, s3, t0, t1, t2, t3]) (by simp [go_sem, s0, s1, s2, s3, t0, t1, t2, t3])
  have t2' : w4.frozen? ⟨w2.heap.size, 2, none⟩ = false := hb4.froz hng2 (v := .int .i64 (Q - 1)) (by simp [go_sem, s0, s1, s2, s3, t0, t1, t2, t3]) (by simp [go_sem, s0, s1, s2, s3, t0, t1, t2, t3])
  have t3' : w4.frozen? ⟨w2.heap.size, 3, none⟩ = false := hb4.froz hng2 (v := .int .i64 0) (by simp [go_sem, s0, s1, s2, s3, t0, t1, t2, t3]) (by simp [go_sem, s0, s1, s2, s3, t0, t1, t2, t3])
  have s0' : w4.cell? ⟨w2.heap.size, 0, none⟩ = some (.int .i64 V) := hb4.has hng2 (by simp [go_sem, s0, s1, s2, s3, t0, t1, t2, t3])
  have s1' : w4.cell? ⟨w2.heap.size, 1, none⟩ = some (.int .i64 S) := hb4.has hng2 (by simp [go_sem, s0, s1, s2, s3, t0, t1, t2, t3])
  have s2' : w4.cell? ⟨w2.heap.size, 2, none⟩ = some (.int .i64 (Q - 1)) := hb4.has hng2 (by simp [go_sem, s0, s1, s2, s3, t0, t1, t2, t3])
  have s3' : w4.cell? ⟨w2.heap.size, 3, none⟩ = some (.int .i64 0) := hb4.has hng2 (by simp [go_sem, s0, s1, s2, s3, t0, t1, t2, t3])
  clear s0 s1 s2 s3 t0 t1 t2 t3
  have s0 := s0'
  have t0 := t0'
  have s1 := s1'
  have t1 := t1'
  have s2 := s2'
  have t2 := t2'
  have s3 := s3'
  have t3 := t3'
  clear s0' s1' s2' s3' t0' t1' t2' t3'
  have HT4 : ∃ cs t z, w4.heap[w2.heap.size]? = some (.cells cs t z) ∧ t ≠ 60 := by
    obtain ⟨cs, t, z, k1, k2⟩ := HT
    have k3 := heap_set_type (w := w3) (p := ⟨w2.heap.size, 2, none⟩) (v := .int .i64 (Q - 1)) k1
    obtain ⟨cs', k3⟩ := k3
    exact ⟨cs', t, z, (hb4.block w2.heap.size (by simpa using r2) hng2).trans k3, k2⟩
  have z4 := hb4.size
  simp at z4
  have X4 := Lib.hid (show But (fun k => k = g ∨ k = w2.heap.size) (w.alloc (.cells #[.int .i64 0, .int .i64 0, .int .i64 0, .int .i64 0] 24)) w4 from (X3.out.mono (fun k _ hk => .inl hk)).trans hxx)
  replace r1 : w.heap.size < w4.heap.size := by omega
  replace r2 : w2.heap.size < w4.heap.size := by omega
  have H4 := Lib.hid (hr4.setOther (b := w2.heap.size) (o := 3) (v := .int .i64 F) r00.2 HT4)
  clear hr4 hb4 H3 X3 C4 hxx z4 HT HT4
  cases b
  · rw [if_neg (by decide)] at h5
    subst h5
    go_wp2_with fail
    refine (C5.out _ H4.out).mono ?_
    rintro r w5 ⟨rfl, hx5⟩
    have e0' : w5.frozen? ⟨w.heap.size, 0, none⟩ = false := hx5.froz (v := .int .i64 0) (by simp [go_sem, d0, d1, d2, d3, e0, e1, e2, e3, n1, n2]) (by simp [go_sem, d0, d1, d2, d3, e0, e1, e2, e3, n1, n2])
    have e1' : w5.frozen? ⟨w.heap.size, 1, none⟩ = false := hx5.froz (v := .int .i64 0) (by simp [go_sem, d0, d1, d2, d3, e0, e1, e2, e3, n1, n2]) (by simp [go_sem, d0, d1, d2, d3, e0, e1, e2, e3, n1, n2])
    have e2' : w5.frozen? ⟨w.heap.size, 2, none⟩ = false := hx5.froz (v := .int .i64 0) (by simp [go_sem, d0, d1, d2, d3, e0, e1, e2, e3, n1, n2]) (by simp [go_sem, d0, d1, d2, d3, e0, e1, e2, e3, n1, n2])
    have e3' : w5.frozen? ⟨w.heap.size, 3, none⟩ = false := hx5.froz (v := .int .i64 0) (by simp [go_sem, d0, d1, d2, d3, e0, e1, e2, e3, n1, n2]) (by simp [go_sem, d0, d1, d2, d3, e0, e1, e2, e3, n1, n2])
    have d0' : w5.cell? ⟨w.heap.size, 0, none⟩ = some (.int .i64 0) := hx5.has (by simp [go_sem, d0, d1, d2, d3, e0, e1, e2, e3, n1, n2])
    have d1' : w5.cell? ⟨w.heap.size, 1, none⟩ = some (.int .i64 0) := hx5.has (by simp [go_sem, d0, d1, d2, d3, e0, e1, e2, e3, n1, n2])
    have d2' : w5.cell? ⟨w.heap.size, 2, none⟩ = some (.int .i64 0) := hx5.has (by simp [go_sem, d0, d1, d2, d3, e0, e1, e2, e3, n1, n2])
    have d3' : w5.cell? ⟨w.heap.size, 3, none⟩ = some (.int .i64 0) := hx5.has (by simp [go_sem, d0, d1, d2, d3, e0, e1, e2, e3, n1, n2])
    have s0' : w5.cell? ⟨w2.heap.size, 0, none⟩ = some (.int .i64 V) := hx5.has (by simp [go_sem, s0, s1, s2, s3, t0, t1, t2, t3, n1, n2])
    have s1' : w5.cell? ⟨w2.heap.size, 1, none⟩ = some (.int .i64 S) := hx5.has (by simp [go_sem, s0, s1, s2, s3, t0, t1, t2, t3, n1, n2])
    have s2' : w5.cell? ⟨w2.heap.size, 2, none⟩ = some (.int .i64 (Q - 1)) := hx5.has (by simp [go_sem, s0, s1, s2, s3, t0, t1, t2, t3, n1, n2])
    have s3' : w5.cell? ⟨w2.heap.size, 3, none⟩ = some (.int .i64 F) := hx5.has (by simp [go_sem, s0, s1, s2, s3, t0, t1, t2, t3, n1, n2])
    clear d0 d1 d2 d3 e0 e1 e2 e3 s0 s1 s2 s3 t0 t1 t2 t3
    have d0 := d0'
    have e0 := e0'
    have s0 := s0'
    have d1 := d1'
    have e1 := e1'
    have s1 := s1'
    have d2 := d2'
    have e2 := e2'
    have s2 := s2'
    have d3 := d3'
    have e3 := e3'
    have s3 := s3'
    clear d0' d1' d2' d3' e0' e1' e2' e3' s0' s1' s2' s3'
    have X5 := Lib.hid (show But (fun k => k = g ∨ k = w2.heap.size) (w.alloc (.cells #[.int .i64 0, .int .i64 0, .int .i64 0, .int .i64 0] 24)) w5 from (X4.out.setCell (p := ⟨w2.heap.size, 3, none⟩) (.inr rfl) (.int .i64 F)).trans (But.ofExt hx5))
    have H5 := Lib.hid (H4.out.keep hx5)
    have z5 := Ext.size hx5
    simp at z5
    clear hx5 H4 X4 C5
    go_wp2_with fail
    refine (CK.out _).mono ?_
    rintro r w6 ⟨rfl, hx6⟩
    replace e0 := hx6.froz d0 e0
    replace d0 := hx6.has d0
    replace s0 := hx6.has s0
    replace e1 := hx6.froz d1 e1
    replace d1 := hx6.has d1
    replace s1 := hx6.has s1
    replace e2 := hx6.froz d2 e2
    replace d2 := hx6.has d2
    replace s2 := hx6.has s2
    replace e3 := hx6.froz d3 e3
    replace d3 := hx6.has d3
    replace s3 := hx6.has s3
    have X6 := Lib.hid (X5.out.trans (But.ofExt hx6))
    have H6 := Lib.hid (H5.out.keep hx6)
    clear hx6 H5 X5 CK
    go_wp2_with fail
    refine (C6.out _ H6.out).mono ?_
    rintro r w7 ⟨⟨v7, rfl⟩, hr7, hb7⟩
    replace e0 := hb7.froz hng d0 e0
    replace d0 := hb7.has hng d0
    replace s0 := hb7.has hng2 s0
    replace e1 := hb7.froz hng d1 e1
    replace d1 := hb7.has hng d1
    replace s1 := hb7.has hng2 s1
    replace e2 := hb7.froz hng d2 e2
    replace d2 := hb7.has hng d2
    replace s2 := hb7.has hng2 s2
    replace e3 := hb7.froz hng d3 e3
    replace d3 := hb7.has hng d3
    replace s3 := hb7.has hng2 s3
    have X7 := Lib.hid (X6.out.trans (hb7.mono (fun k _ hk => .inl hk)))
    have H7 := Lib.hid hr7
    clear hr7 hb7 H6 X6 C6
    go_wp2_with fail
    refine (C7.out _ H7.out).mono ?_
    rintro r w8 ⟨rfl, hx8⟩
    replace e0 := hx8.froz d0 e0
    replace d0 := hx8.has d0
    replace s0 := hx8.has s0
    replace e1 := hx8.froz d1 e1
    replace d1 := hx8.has d1
    replace s1 := hx8.has s1
    replace e2 := hx8.froz d2 e2
    replace d2 := hx8.has d2
    replace s2 := hx8.has s2
    replace e3 := hx8.froz d3 e3
    replace d3 := hx8.has d3
    replace s3 := hx8.has s3
    have X8 := Lib.hid (X7.out.trans (But.ofExt hx8))
    have H8 := Lib.hid (H7.out.keep hx8)
    have HR8 := Lib.hid hx8
    have lt8 := H8.out.lt
    have XG := Lib.hid (show But (· = g) w w8 from (But.ofExt ((Ext.refl w).alloc _)).trans (X8.out.mono2 (by simp; omega)))
    have HTr : Hid (∃ cs t z, w8.heap[w.heap.size]? = some (.cells cs t z) ∧ t ≠ 60) := Lib.hid ⟨_, _, _, (X8.out.block w.heap.size (by simp) hng3).trans (World.alloc_heap_new w _), by decide⟩
    clear hx8 H7 X7 C7
    cases b2
    · go_wp2_with fail
      refine bodyPost_ret (v := .agg #[.int .i64 V, .int .i64 S, .int .i64 (Q - 1), .int .i64 F]) (by simp [results, Try.results66, go_sem, d0, d1, d2, d3, e0, e1, e2, e3]; try rfl) rfl ⟨rfl, ?_, ?_⟩
      · exact H8.out.set4 lt HTr.out
      · exact (((XG.out.setNew (p := ⟨w.heap.size, 0, none⟩) (Nat.le_refl _) _).setNew (p := ⟨w.heap.size, 1, none⟩) (Nat.le_refl _) _).setNew (p := ⟨w.heap.size, 2, none⟩) (Nat.le_refl _) _).setNew (p := ⟨w.heap.size, 3, none⟩) (Nat.le_refl _) _
    · go_wp2_with fail
      refine bodyPost_ret (v := .agg #[.int .i64 0, .int .i64 0, .int .i64 0, .int .i64 0]) (by simp [results, Try.results66, go_sem, d0, d1, d2, d3, e0, e1, e2, e3]; try rfl) rfl ⟨rfl, ?_, ?_⟩
      · exact H8.out.set4 lt HTr.out
      · exact (((XG.out.setNew (p := ⟨w.heap.size, 0, none⟩) (Nat.le_refl _) _).setNew (p := ⟨w.heap.size, 1, none⟩) (Nat.le_refl _) _).setNew (p := ⟨w.heap.size, 2, none⟩) (Nat.le_refl _) _).setNew (p := ⟨w.heap.size, 3, none⟩) (Nat.le_refl _) _
  · rw [if_pos rfl] at h5
    subst h5
    go_wp2_with fail
    refine (C5.out _ H4.out).mono ?_
    rintro r w5 ⟨rfl, hx5⟩
    have e0' : w5.frozen? ⟨w.heap.size, 0, none⟩ = false := hx5.froz (v := .int .i64 0) (by simp [go_sem, d0, d1, d2, d3, e0, e1, e2, e3, n1, n2]) (by simp [go_sem, d0, d1, d2, d3, e0, e1, e2, e3, n1, n2])
    have e1' : w5.frozen? ⟨w.heap.size, 1, none⟩ = false := hx5.froz (v := .int .i64 0) (by simp [go_sem, d0, d1, d2, d3, e0, e1, e2, e3, n1, n2]) (by simp [go_sem, d0, d1, d2, d3, e0, e1, e2, e3, n1, n2])
    have e2' : w5.frozen? ⟨w.heap.size, 2, none⟩ = false := hx5.froz (v := .int .i64 0) (by simp [go_sem, d0, d1, d2, d3, e0, e1, e2, e3, n1, n2]) (by simp [go_sem, d0, d1, d2, d3, e0, e1, e2, e3, n1, n2])
    have e3' : w5.frozen? ⟨w.heap.size, 3, none⟩ = false := hx5.froz (v := .int .i64 0) (by simp [go_sem, d0, d1, d2, d3, e0, e1, e2, e3, n1, n2]) (by simp [go_sem, d0, d1, d2, d3, e0, e1, e2, e3, n1, n2])
    have d0' : w5.cell? ⟨w.heap.size, 0, none⟩ = some (.int .i64 0) := hx5.has (by simp [go_sem, d0, d1, d2, d3, e0, e1, e2, e3, n1, n2])
    have d1' : w5.cell? ⟨w.heap.size, 1, none⟩ = some (.int .i64 0) := hx5.has (by simp [go_sem, d0, d1, d2, d3, e0, e1, e2, e3, n1, n2])
    have d2' : w5.cell? ⟨w.heap.size, 2, none⟩ = some (.int .i64 0) := hx5.has (by simp [go_sem, d0, d1, d2, d3, e0, e1, e2, e3, n1, n2])
    have d3' : w5.cell? ⟨w.heap.size, 3, none⟩ = some (.int .i64 0) := hx5.has (by simp [go_sem, d0, d1, d2, d3, e0, e1, e2, e3, n1, n2])
    have s0' : w5.cell? ⟨w2.heap.size, 0, none⟩ = some (.int .i64 V) := hx5.has (by simp [go_sem, s0, s1, s2, s3, t0, t1, t2, t3, n1, n2])
    have s1' : w5.cell? ⟨w2.heap.size, 1, none⟩ = some (.int .i64 S) := hx5.has (by simp [go_sem, s0, s1, s2, s3, t0, t1, t2, t3, n1, n2])
    have s2' : w5.cell? ⟨w2.heap.size, 2, none⟩ = some (.int .i64 (Q - 1)) := hx5.has (by simp [go_sem, s0, s1, s2, s3, t0, t1, t2, t3, n1, n2])
    have s3' : w5.cell? ⟨w2.heap.size, 3, none⟩ = some (.int .i64 F) := hx5.has (by simp [go_sem, s0, s1, s2, s3, t0, t1, t2, t3, n1, n2])
    clear d0 d1 d2 d3 e0 e1 e2 e3 s0 s1 s2 s3 t0 t1 t2 t3
    have d0 := d0'
    have e0 := e0'
    have s0 := s0'
    have d1 := d1'
    have e1 := e1'
    have s1 := s1'
    have d2 := d2'
    have e2 := e2'
    have s2 := s2'
    have d3 := d3'
    have e3 := e3'
    have s3 := s3'
    clear d0' d1' d2' d3' e0' e1' e2' e3' s0' s1' s2' s3'
    have X7 := Lib.hid (show But (fun k => k = g ∨ k = w2.heap.size) (w.alloc (.cells #[.int .i64 0, .int .i64 0, .int .i64 0, .int .i64 0] 24)) w5 from (X4.out.setCell (p := ⟨w2.heap.size, 3, none⟩) (.inr rfl) (.int .i64 F)).trans (But.ofExt hx5))
    have H7 := Lib.hid (H4.out.keep hx5)
    clear hx5 H4 X4 C5 C6 CK
    go_wp2_with fail
    refine (C7.out _ H7.out).mono ?_
    rintro r w8 ⟨rfl, hx8⟩
    replace e0 := hx8.froz d0 e0
    replace d0 := hx8.has d0
    replace s0 := hx8.has s0
    replace e1 := hx8.froz d1 e1
    replace d1 := hx8.has d1
    replace s1 := hx8.has s1
    replace e2 := hx8.froz d2 e2
    replace d2 := hx8.has d2
    replace s2 := hx8.has s2
    replace e3 := hx8.froz d3 e3
    replace d3 := hx8.has d3
    replace s3 := hx8.has s3
    have X8 := Lib.hid (X7.out.trans (But.ofExt hx8))
    have H8 := Lib.hid (H7.out.keep hx8)
    have HR8 := Lib.hid hx8
    have lt8 := H8.out.lt
    have XG := Lib.hid (show But (· = g) w w8 from (But.ofExt ((Ext.refl w).alloc _)).trans (X8.out.mono2 (by simp; omega)))
    have HTr : Hid (∃ cs t z, w8.heap[w.heap.size]? = some (.cells cs t z) ∧ t ≠ 60) := Lib.hid ⟨_, _, _, (X8.out.block w.heap.size (by simp) hng3).trans (World.alloc_heap_new w _), by decide⟩
    clear hx8 H7 X7 C7
    cases b2
    · go_wp2_with fail
      refine bodyPost_ret (v := .agg #[.int .i64 V, .int .i64 S, .int .i64 (Q - 1), .int .i64 F]) (by simp [results, Try.results66, go_sem, d0, d1, d2, d3, e0, e1, e2, e3]; try rfl) rfl ⟨rfl, ?_, ?_⟩
      · exact H8.out.set4 lt HTr.out
      · exact (((XG.out.setNew (p := ⟨w.heap.size, 0, none⟩) (Nat.le_refl _) _).setNew (p := ⟨w.heap.size, 1, none⟩) (Nat.le_refl _) _).setNew (p := ⟨w.heap.size, 2, none⟩) (Nat.le_refl _) _).setNew (p := ⟨w.heap.size, 3, none⟩) (Nat.le_refl _) _
    · go_wp2_with fail
      refine bodyPost_ret (v := .agg #[.int .i64 0, .int .i64 0, .int .i64 0, .int .i64 0]) (by simp [results, Try.results66, go_sem, d0, d1, d2, d3, e0, e1, e2, e3]; try rfl) rfl ⟨rfl, ?_, ?_⟩
      · exact H8.out.set4 lt HTr.out
      · exact (((XG.out.setNew (p := ⟨w.heap.size, 0, none⟩) (Nat.le_refl _) _).setNew (p := ⟨w.heap.size, 1, none⟩) (Nat.le_refl _) _).setNew (p := ⟨w.heap.size, 2, none⟩) (Nat.le_refl _) _).setNew (p := ⟨w.heap.size, 3, none⟩) (Nat.le_refl _) _
/-- a reader's place and fault behind a number that is read -/
def tkS (L : List Nat) (s : Nat × Option (Int × Int)) (lo hi : Int) : Nat × Option (Int × Int) := (rnK L s.1 s.2 lo hi, rnF L s.1 s.2 lo hi)
def tkV (L : List Nat) (s : Nat × Option (Int × Int)) (lo hi : Int) : Int := rnV L s.1 s.2 lo hi
def tk1 (L : List Nat) (s : Nat × Option (Int × Int)) := tkS L s 0 31
def tk2 (L : List Nat) (s : Nat × Option (Int × Int)) := tkS L (tk1 L s) 1 4294967296
def tk3 (L : List Nat) (s : Nat × Option (Int × Int)) := tkS L (tk2 L s) 0 32
def tk4 (L : List Nat) (s : Nat × Option (Int × Int)) := tkS L (tk3 L s) 0 4294967296
def tkA (L : List Nat) (s : Nat × Option (Int × Int)) : Int := tkV L s 0 31
def tkB (L : List Nat) (s : Nat × Option (Int × Int)) : Int := tkV L (tk1 L s) 1 4294967296
def tkC (L : List Nat) (s : Nat × Option (Int × Int)) : Int := tkV L (tk2 L s) 0 32
def tkD (L : List Nat) (s : Nat × Option (Int × Int)) : Int := tkV L (tk3 L s) 0 4294967296
/-- the fault behind a Take -/
def tkF (L : List Nat) (s : Nat × Option (Int × Int)) : Option (Int × Int) :=
  if fltB (tk4 L s).2 (tk4 L s).1 L.length = true then (tk4 L s).2 else failF (tk4 L s).2 (chkS (tkA L s) (tkB L s) (tkC L s - 1) (tkD L s)) (atF s.2 s.1)
/-- does it hand back noughts? -/
def tkZ (L : List Nat) (s : Nat × Option (Int × Int)) : Bool := fltB (tkF L s) (tk4 L s).1 L.length
theorem tTake_any (g k : Nat) (L : List Nat) (f : Option (Int × Int)) (hL : L.length < 1099511627776) (w : World) (h : Rd w g L k f) :
    Calls Try.prog 66 #[.pointer (some ⟨g, 0, none⟩)] w fun r w' => r = .returned (.agg #[.int .i64 (if tkZ L (k, f) = true then 0 else tkA L (k, f)), .int .i64 (if tkZ L (k, f) = true then 0 else tkB L (k, f)), .int .i64 (if tkZ L (k, f) = true then 0 else tkC L (k, f) - 1), .int .i64 (if tkZ L (k, f) = true then 0 else tkD L (k, f))]) ∧
      Rd w' g L (tk4 L (k, f)).1 (tkF L (k, f)) ∧ But (· = g) w w' := by
  have hq := rnV_bound L (tk2 L (k, f)).1 (tk2 L (k, f)).2 0 32 (by decide)
  exact tTake_at g k (tk1 L (k, f)).1 (tk2 L (k, f)).1 (tk3 L (k, f)).1 (tk4 L (k, f)).1 L f (tk1 L (k, f)).2 (tk2 L (k, f)).2 (tk3 L (k, f)).2 (tk4 L (k, f)).2 (tkF L (k, f)) (atF f k) (tkA L (k, f)) (tkB L (k, f)) (tkC L (k, f)) (tkD L (k, f)) _ _ (tkZ L (k, f)) hq.1 hq.2
    (Lib.hid fun w h => cAt_any g k L f w h)
    (Lib.hid fun w h => cRN_any g _ L _ 0 31 (by decide) (by decide) (by decide) (by decide) hL w h)
    (Lib.hid fun w h => cRN_any g _ L _ 1 4294967296 (by decide) (by decide) (by decide) (by decide) hL w h)
    (Lib.hid fun w h => cRN_any g _ L _ 0 32 (by decide) (by decide) (by decide) (by decide) hL w h)
    (Lib.hid fun w h => cRN_any g _ L _ 0 4294967296 (by decide) (by decide) (by decide) (by decide) hL w h)
    (Lib.hid fun w h => tfaulty_any g _ L _ w h hL) (Lib.hid fun w => tCheck_any _ _ _ _ w)
    (Lib.hid fun w h => cFail_any g _ L _ _ _ w h) rfl (Lib.hid fun w h => tfaulty_any g _ L _ w h hL) w h
end
section
open Go.RowKit
/-- a writer behind a number -/
def wnS (lim : Int) (s : Int × List Nat) (n : Int) : Int × List Nat := (wNE lim s.1 s.2 n, wNL lim s.1 s.2 n)
def wnAll (lim : Int) (s : Int × List Nat) (l : List Int) : Int × List Nat := l.foldl (wnS lim) s
theorem wnS_err {lim : Int} {s : Int × List Nat} {n : Int} (h : ¬ s.1 = 0) : wnS lim s n = s := by
  unfold wnS wNE wNL
  rw [if_neg h, if_neg h]
theorem wnAll_err {lim : Int} {s : Int × List Nat} (h : ¬ s.1 = 0) : ∀ l, wnAll lim s l = s := by
  intro l
  induction l with
  | nil => rfl
  | cons n l ih => show wnAll lim (wnS lim s n) l = s; rw [wnS_err h]; exact ih
theorem wnAll_snoc (lim : Int) (s : Int × List Nat) (l : List Int) (n : Int) : wnAll lim s (l ++ [n]) = wnS lim (wnAll lim s l) n := by
  unfold wnAll; rw [List.foldl_append]; rfl
theorem wnAll_append (lim : Int) (s : Int × List Nat) (l m : List Int) : wnAll lim s (l ++ m) = wnAll lim (wnAll lim s l) m := by
  unfold wnAll; rw [List.foldl_append]
/-- what a Put of a stamp makes of a writer; what it answers -/
def putST (lim : Int) (s : Int × List Nat) (V S P F : Int) : Int × List Nat := if chkS V S P F = 0 then wnAll lim s (stL V S P F) else s
def putRE (lim : Int) (s : Int × List Nat) (V S P F : Int) : Int := if chkS V S P F = 0 then (wnAll lim s (stL V S P F)).1 else chkS V S P F

theorem done_out {L : List Nat} {E : Int} {r : Ending} {w w' : World} (h : ByErr L E w r w') : ∃ v, r = .returned (.tuple #[v, .int .i64 E]) ∧ Ext w w' := by
  obtain ⟨v, h1, _, h2⟩ := h
  exact ⟨v, h1, h2⟩
set_option maxRecDepth 100000 in
set_option maxHeartbeats 4000000 in
theorem tPut_badF (g : Nat) (lim err : Int) (L : List Nat) (V S P F E : Int) (hE : chkS V S P F = E) (he : ¬ E = 0) (h1 : ¬ err = 1) (w : World) (h : Wr w g lim err L) :
    Calls Try.prog 60 #[.pointer (some ⟨g, 0, none⟩), .agg #[.int .i64 V, .int .i64 S, .int .i64 P, .int .i64 F]] w fun r w' => r = .returned (.int .i64 E) ∧ Wr w' g lim err L ∧ Ext w w' := by
  have CK := fun w => tCheck_any V S P F w
  rw [hE] at CK
  replace CK := Lib.hid CK
  have hb : (E == 0) = false := beq_false_of_ne he
  have hb2 : (E != 0) = true := by simpa using he
  have h1b : (err == 1) = false := beq_false_of_ne h1
  have HW := Lib.hid h
  clear hE he h1 h
  go_enter Try.func60, Try.ntmps60
  go_wp2_with fail
  (with_reducible refine ((Calls.mono (cDone_any g lim err L _ (HW.out.ext (by repeat (first | with_reducible exact Ext.refl _ | with_reducible refine Ext.drew ?_ | with_reducible refine Ext.drewN ?_ _ | with_reducible refine Ext.alloc ?_ _ | with_reducible refine Ext.setCell ?_ (by first | omega | (simp; done) | (simp; omega)) _)))) fun r w' h => done_out h)).mono ?_)
  rintro e w1 ⟨v, rfl, hx1⟩
  have c0_0 : w1.cell? ⟨w.heap.size, 0, none⟩ = some (.int .i64 V) := hx1.has (by first | fail | (simp [go_sem, World.cell?_alloc_past]; done))
  have c0_1 : w1.cell? ⟨w.heap.size, 1, none⟩ = some (.int .i64 S) := hx1.has (by first | fail | (simp [go_sem, World.cell?_alloc_past]; done))
  have c0_2 : w1.cell? ⟨w.heap.size, 2, none⟩ = some (.int .i64 P) := hx1.has (by first | fail | (simp [go_sem, World.cell?_alloc_past]; done))
  have c0_3 : w1.cell? ⟨w.heap.size, 3, none⟩ = some (.int .i64 F) := hx1.has (by first | fail | (simp [go_sem, World.cell?_alloc_past]; done))
  have z1 := hx1.size
  try simp at z1
  have rc0 : w.heap.size < w1.heap.size := by omega
  have rc0a : w.heap.size < w1.heap.size + 1 := by omega
  have rc0b : w.heap.size < w1.heap.size + 1 + 1 := by omega
  have rc0c : w.heap.size < w1.heap.size + 1 + 1 + 1 := by omega
  have rc0n : ¬ w.heap.size = w1.heap.size := by omega
  replace HW := Lib.hid (HW.out.ext (Ext.trans (by repeat (first | with_reducible exact Ext.refl _ | with_reducible refine Ext.drew ?_ | with_reducible refine Ext.drewN ?_ _ | with_reducible refine Ext.alloc ?_ _ | with_reducible refine Ext.setCell ?_ (by first | omega | (simp; done) | (simp; omega)) _)) hx1))
  have X1 : Hid (Ext w w1) := Lib.hid (Ext.trans (by repeat (first | with_reducible exact Ext.refl w | with_reducible refine Ext.drew ?_ | with_reducible refine Ext.drewN ?_ _ | with_reducible refine Ext.alloc ?_ _ | with_reducible refine Ext.setCell ?_ (by first | omega | (simp; done) | (simp; omega)) _)) hx1)
  clear hx1 z1
  go_wp2_with fail
  (with_reducible refine (CK.out _).mono ?_)
  rintro e w2 ⟨rfl, hx2⟩
  have z2 := hx2.size
  try simp at z2
  replace HW := Lib.hid (HW.out.ext (Ext.trans (by repeat (first | with_reducible exact Ext.refl _ | with_reducible refine Ext.drew ?_ | with_reducible refine Ext.drewN ?_ _ | with_reducible refine Ext.alloc ?_ _ | with_reducible refine Ext.setCell ?_ (by first | omega | (simp; done) | (simp; omega)) _)) hx2))
  have X2 : Hid (Ext w w2) := Lib.hid (Ext.trans (by repeat (first | with_reducible exact X1.out | with_reducible refine Ext.drew ?_ | with_reducible refine Ext.drewN ?_ _ | with_reducible refine Ext.alloc ?_ _ | with_reducible refine Ext.setCell ?_ (by first | omega | (simp; done) | (simp; omega)) _)) hx2)
  clear c0_1 c0_2 c0_3 c0_0 rc0 rc0a rc0b rc0c rc0n X1 hx2 z2
  go_wp2_with fail
  go_ret
  exact ⟨rfl, HW.out.ext (by repeat (first | with_reducible exact Ext.refl _ | with_reducible refine Ext.drew ?_ | with_reducible refine Ext.drewN ?_ _ | with_reducible refine Ext.alloc ?_ _ | with_reducible refine Ext.setCell ?_ (by first | omega | (simp; done) | (simp; omega)) _)), (by repeat (first | with_reducible exact X2.out | with_reducible refine Ext.drew ?_ | with_reducible refine Ext.drewN ?_ _ | with_reducible refine Ext.alloc ?_ _ | with_reducible refine Ext.setCell ?_ (by first | omega | (simp; done) | (simp; omega)) _))⟩
set_option maxRecDepth 100000 in
set_option maxHeartbeats 4000000 in
theorem tPut_okF (g : Nat) (lim err : Int) (L : List Nat) (V S P F : Int) (hk : StampOk V S P F) (h1 : ¬ err = 1) (w : World) (h : Wr w g lim err L) :
    Calls Try.prog 60 #[.pointer (some ⟨g, 0, none⟩), .agg #[.int .i64 V, .int .i64 S, .int .i64 P, .int .i64 F]] w fun r w' => r = .returned (.int .i64 (wnAll lim (err, L) (stL V S P F)).1) ∧ Wr w' g lim (wnAll lim (err, L) (stL V S P F)).1 (wnAll lim (err, L) (stL V S P F)).2 ∧ WF g 0 w w' := by
  have CK := fun w => tCheck_any V S P F w
  rw [chkS_of hk] at CK
  replace CK := Lib.hid CK
  have h1b : (err == 1) = false := beq_false_of_ne h1
  obtain ⟨s0, hs0⟩ : ∃ s : Int × List Nat, s = (err, L) := ⟨_, rfl⟩
  have HS0 := Lib.hid hs0
  rw [← hs0]
  clear hs0
  have HW := Lib.hid h
  have lt := Lib.hid h.lt
  have HK := Lib.hid hk
  have hP0 := hk.p0
  have hP1 := hk.p1
  clear h1 h hk
  have i0 : ∀ w : World, (Instr.index 114 (.agg #[.int .i64 V, .int .i64 S, .int .i64 (P + 1), .int .i64 F]) (.int .i64 0)).run Try.prog w = .ok (.int .i64 V) w := fun _ => by kernel_rfl
  have i1 : ∀ w : World, (Instr.index 114 (.agg #[.int .i64 V, .int .i64 S, .int .i64 (P + 1), .int .i64 F]) (.int .i64 1)).run Try.prog w = .ok (.int .i64 S) w := fun _ => by kernel_rfl
  have i2 : ∀ w : World, (Instr.index 114 (.agg #[.int .i64 V, .int .i64 S, .int .i64 (P + 1), .int .i64 F]) (.int .i64 2)).run Try.prog w = .ok (.int .i64 (P + 1)) w := fun _ => by kernel_rfl
  have i3 : ∀ w : World, (Instr.index 114 (.agg #[.int .i64 V, .int .i64 S, .int .i64 (P + 1), .int .i64 F]) (.int .i64 3)).run Try.prog w = .ok (.int .i64 F) w := fun _ => by kernel_rfl
  go_enter Try.func60, Try.ntmps60
  go_wp2_with fail
  (with_reducible refine ((Calls.mono (cDone_any g lim err L _ (HW.out.ext (by repeat (first | with_reducible exact Ext.refl _ | with_reducible refine Ext.drew ?_ | with_reducible refine Ext.drewN ?_ _ | with_reducible refine Ext.alloc ?_ _ | with_reducible refine Ext.setCell ?_ (by first | omega | (simp; done) | (simp; omega)) _)))) fun r w' h => done_out h)).mono ?_)
  rintro e w1 ⟨v, rfl, hx1⟩
  have c0_0 : w1.cell? ⟨w.heap.size, 0, none⟩ = some (.int .i64 V) := hx1.has (by first | fail | (simp [go_sem, World.cell?_alloc_past]; done))
  have c0_1 : w1.cell? ⟨w.heap.size, 1, none⟩ = some (.int .i64 S) := hx1.has (by first | fail | (simp [go_sem, World.cell?_alloc_past]; done))
  have c0_2 : w1.cell? ⟨w.heap.size, 2, none⟩ = some (.int .i64 P) := hx1.has (by first | fail | (simp [go_sem, World.cell?_alloc_past]; done))
  have c0_3 : w1.cell? ⟨w.heap.size, 3, none⟩ = some (.int .i64 F) := hx1.has (by first | fail | (simp [go_sem, World.cell?_alloc_past]; done))
  have z1 := hx1.size
  try simp at z1
  have rc0 : w.heap.size < w1.heap.size := by omega
  have rc0a : w.heap.size < w1.heap.size + 1 := by omega
  have rc0b : w.heap.size < w1.heap.size + 1 + 1 := by omega
  have rc0c : w.heap.size < w1.heap.size + 1 + 1 + 1 := by omega
  have rc0n : ¬ w.heap.size = w1.heap.size := by omega
  replace HW := Lib.hid (HW.out.ext (Ext.trans (by repeat (first | with_reducible exact Ext.refl _ | with_reducible refine Ext.drew ?_ | with_reducible refine Ext.drewN ?_ _ | with_reducible refine Ext.alloc ?_ _ | with_reducible refine Ext.setCell ?_ (by first | omega | (simp; done) | (simp; omega)) _)) hx1))
  have X1 : Hid (Ext w w1) := Lib.hid (Ext.trans (by repeat (first | with_reducible exact Ext.refl w | with_reducible refine Ext.drew ?_ | with_reducible refine Ext.drewN ?_ _ | with_reducible refine Ext.alloc ?_ _ | with_reducible refine Ext.setCell ?_ (by first | omega | (simp; done) | (simp; omega)) _)) hx1)
  clear hx1 z1
  go_wp2_with fail
  (with_reducible refine (CK.out _).mono ?_)
  rintro e w2 ⟨rfl, hx2⟩
  replace c0_0 : w2.cell? ⟨w.heap.size, 0, none⟩ = some (.int .i64 V) := hx2.has (by first | exact c0_0 | (simp [go_sem, World.cell?_alloc_past, c0_0, c0_1, c0_2, c0_3, rc0, rc0a, rc0b, rc0c, rc0n]; done))
  replace c0_1 : w2.cell? ⟨w.heap.size, 1, none⟩ = some (.int .i64 S) := hx2.has (by first | exact c0_1 | (simp [go_sem, World.cell?_alloc_past, c0_0, c0_1, c0_2, c0_3, rc0, rc0a, rc0b, rc0c, rc0n]; done))
  replace c0_2 : w2.cell? ⟨w.heap.size, 2, none⟩ = some (.int .i64 P) := hx2.has (by first | exact c0_2 | (simp [go_sem, World.cell?_alloc_past, c0_0, c0_1, c0_2, c0_3, rc0, rc0a, rc0b, rc0c, rc0n]; done))
  replace c0_3 : w2.cell? ⟨w.heap.size, 3, none⟩ = some (.int .i64 F) := hx2.has (by first | exact c0_3 | (simp [go_sem, World.cell?_alloc_past, c0_0, c0_1, c0_2, c0_3, rc0, rc0a, rc0b, rc0c, rc0n]; done))
  have z2 := hx2.size
  try simp at z2
  replace rc0 : w.heap.size < w2.heap.size := by omega
  replace rc0a : w.heap.size < w2.heap.size + 1 := by omega
  replace rc0b : w.heap.size < w2.heap.size + 1 + 1 := by omega
  replace rc0c : w.heap.size < w2.heap.size + 1 + 1 + 1 := by omega
  replace rc0n : ¬ w.heap.size = w2.heap.size := by omega
  replace HW := Lib.hid (HW.out.ext (Ext.trans (by repeat (first | with_reducible exact Ext.refl _ | with_reducible refine Ext.drew ?_ | with_reducible refine Ext.drewN ?_ _ | with_reducible refine Ext.alloc ?_ _ | with_reducible refine Ext.setCell ?_ (by first | omega | (simp; done) | (simp; omega)) _)) hx2))
  have X2 : Hid (Ext w w2) := Lib.hid (Ext.trans (by repeat (first | with_reducible exact X1.out | with_reducible refine Ext.drew ?_ | with_reducible refine Ext.drewN ?_ _ | with_reducible refine Ext.alloc ?_ _ | with_reducible refine Ext.setCell ?_ (by first | omega | (simp; done) | (simp; omega)) _)) hx2)
  clear X1 hx2 z2
  go_wp2_with fail
  go_loopg [34] 4 (fun gh i wx => gh ≤ 4 ∧ i = .int .i64 ((4 - gh : Nat) : Int) ∧ Wr wx g lim (wnAll lim s0 ((stL V S P F).take (4 - gh))).1 (wnAll lim s0 ((stL V S P F).take (4 - gh))).2 ∧ (gh < 4 → (wnAll lim s0 ((stL V S P F).take (4 - gh))).1 = 0) ∧ WF g 0 w wx)
  case atStart => exact ⟨Nat.le_refl _, by simp, by rw [Nat.sub_self, List.take_zero, HS0.out]; exact HW.out, fun hh => absurd hh (by omega), WF.ofExt X2.out lt.out⟩
  case round =>
    obtain ⟨hg, hi, hw, hz, hb⟩ := hrel
    have HB := Lib.hid hb
    have HX := Lib.hid hw
    have HZ := Lib.hid hz
    clear hw hb hz
    have step : ∀ (k : Nat) (x : Int), (stL V S P F)[k]? = some x → 4 - gk = k → 0 ≤ x → x ≤ 4294967296 → ∃ (E : Int) (M : List Nat), wnAll lim s0 ((stL V S P F).take (k + 1)) = (E, M) ∧ Hid (Calls Try.prog 59 #[.pointer (some ⟨g, 0, none⟩), .int .i64 x] wr fun r w' => r = .returned (.int .i64 E) ∧ Wr w' g lim E M ∧ WF g 0 wr w') := by
      intro k x hx hgk x0 x1
      have hX := HX.out
      rw [hgk] at hX
      have C := cWN_anyF g lim _ _ x (by omega) (by omega) wr hX
      refine ⟨_, _, ?_, C⟩
      obtain ⟨hkl, hkx⟩ := List.getElem?_eq_some_iff.1 hx
      rw [List.take_succ_eq_append_getElem hkl, wnAll_snoc, hkx]
      rfl
    have hv := HK.out.v0; have hv1 := HK.out.v1; have hs0 := HK.out.s0; have hs1 := HK.out.s1; have hf0 := HK.out.f0; have hf1 := HK.out.f1
    have hcase : gk = 0 ∨ gk = 4 ∨ gk = 3 ∨ gk = 2 ∨ gk = 1 := by omega
    rcases hcase with rfl | rfl | rfl | rfl | rfl
    · change _ = Value.int .i64 4 at hi
      obtain rfl := hi
      clear step
      have h4 : (stL V S P F).take (4 - 0) = stL V S P F := rfl
      have hz := HZ.out (by decide)
      have hw := HX.out
      rw [h4] at hz hw
      have HF := Lib.hid (And.intro hz hw)
      clear hz hw
      go_wp2
      go_ret
      exact ⟨ret_int HF.out.1.symm, HF.out.2, HB.out⟩
    · change _ = Value.int .i64 0 at hi
      obtain rfl := hi
      obtain ⟨E, M, hEM, C⟩ := step 0 V rfl rfl (by omega) (by omega)
      have HE := Lib.hid hEM
      clear step hv hv1 hs0 hs1 hf0 hf1 hEM
      by_cases he : E = 0
      · subst he
        go_wp2_with fail
        (with_reducible refine C.out.mono ?_)
        rintro r w3 ⟨rfl, hw3, hb3⟩
        have W3 := Lib.hid (And.intro hw3 (HB.out.trans hb3))
        clear hw3 hb3 C
        go_wp2_with fail
        go_roundg 3
        case measure => decide
        case rel => exact ⟨by decide, rfl, by rw [show 4 - 3 = 0 + 1 from rfl, HE.out]; exact W3.out.1, fun _ => by rw [show 4 - 3 = 0 + 1 from rfl, HE.out], W3.out.2⟩
      · have heb : (E == 0) = false := beq_false_of_ne he
        have heb2 : (E != 0) = true := by simpa using he
        have HN := Lib.hid he
        clear he
        go_wp2_with fail
        (with_reducible refine C.out.mono ?_)
        rintro r w3 ⟨rfl, hw3, hb3⟩
        have W3 := Lib.hid (And.intro hw3 (HB.out.trans hb3))
        clear hw3 hb3 C
        go_wp2_with fail
        go_ret
        have hall : wnAll lim s0 (stL V S P F) = (E, M) := by
          have h5 := wnAll_append lim s0 ((stL V S P F).take (0 + 1)) ((stL V S P F).drop (0 + 1))
          rw [List.take_append_drop, HE.out, wnAll_err (s := (E, M)) HN.out] at h5
          exact h5
        rw [hall]
        exact ⟨rfl, W3.out.1, W3.out.2⟩
    · change _ = Value.int .i64 1 at hi
      obtain rfl := hi
      obtain ⟨E, M, hEM, C⟩ := step 1 S rfl rfl (by omega) (by omega)
      have HE := Lib.hid hEM
      clear step hv hv1 hs0 hs1 hf0 hf1 hEM
      by_cases he : E = 0
      · subst he
        go_wp2_with fail
        (with_reducible refine C.out.mono ?_)
        rintro r w3 ⟨rfl, hw3, hb3⟩
        have W3 := Lib.hid (And.intro hw3 (HB.out.trans hb3))
        clear hw3 hb3 C
        go_wp2_with fail
        go_roundg 2
        case measure => decide
        case rel => exact ⟨by decide, rfl, by rw [show 4 - 2 = 1 + 1 from rfl, HE.out]; exact W3.out.1, fun _ => by rw [show 4 - 2 = 1 + 1 from rfl, HE.out], W3.out.2⟩
      · have heb : (E == 0) = false := beq_false_of_ne he
        have heb2 : (E != 0) = true := by simpa using he
        have HN := Lib.hid he
        clear he
        go_wp2_with fail
        (with_reducible refine C.out.mono ?_)
        rintro r w3 ⟨rfl, hw3, hb3⟩
        have W3 := Lib.hid (And.intro hw3 (HB.out.trans hb3))
        clear hw3 hb3 C
        go_wp2_with fail
        go_ret
        have hall : wnAll lim s0 (stL V S P F) = (E, M) := by
          have h5 := wnAll_append lim s0 ((stL V S P F).take (1 + 1)) ((stL V S P F).drop (1 + 1))
          rw [List.take_append_drop, HE.out, wnAll_err (s := (E, M)) HN.out] at h5
          exact h5
        rw [hall]
        exact ⟨rfl, W3.out.1, W3.out.2⟩
    · change _ = Value.int .i64 2 at hi
      obtain rfl := hi
      obtain ⟨E, M, hEM, C⟩ := step 2 (P + 1) rfl rfl (by omega) (by omega)
      have HE := Lib.hid hEM
      clear step hv hv1 hs0 hs1 hf0 hf1 hEM
      by_cases he : E = 0
      · subst he
        go_wp2_with fail
        (with_reducible refine C.out.mono ?_)
        rintro r w3 ⟨rfl, hw3, hb3⟩
        have W3 := Lib.hid (And.intro hw3 (HB.out.trans hb3))
        clear hw3 hb3 C
        go_wp2_with fail
        go_roundg 1
        case measure => decide
        case rel => exact ⟨by decide, rfl, by rw [show 4 - 1 = 2 + 1 from rfl, HE.out]; exact W3.out.1, fun _ => by rw [show 4 - 1 = 2 + 1 from rfl, HE.out], W3.out.2⟩
      · have heb : (E == 0) = false := beq_false_of_ne he
        have heb2 : (E != 0) = true := by simpa using he
        have HN := Lib.hid he
        clear he
        go_wp2_with fail
        (with_reducible refine C.out.mono ?_)
        rintro r w3 ⟨rfl, hw3, hb3⟩
        have W3 := Lib.hid (And.intro hw3 (HB.out.trans hb3))
        clear hw3 hb3 C
        go_wp2_with fail
        go_ret
        have hall : wnAll lim s0 (stL V S P F) = (E, M) := by
          have h5 := wnAll_append lim s0 ((stL V S P F).take (2 + 1)) ((stL V S P F).drop (2 + 1))
          rw [List.take_append_drop, HE.out, wnAll_err (s := (E, M)) HN.out] at h5
          exact h5
        rw [hall]
        exact ⟨rfl, W3.out.1, W3.out.2⟩
    · change _ = Value.int .i64 3 at hi
      obtain rfl := hi
      obtain ⟨E, M, hEM, C⟩ := step 3 F rfl rfl (by omega) (by omega)
      have HE := Lib.hid hEM
      clear step hv hv1 hs0 hs1 hf0 hf1 hEM
      by_cases he : E = 0
      · subst he
        go_wp2_with fail
        (with_reducible refine C.out.mono ?_)
        rintro r w3 ⟨rfl, hw3, hb3⟩
        have W3 := Lib.hid (And.intro hw3 (HB.out.trans hb3))
        clear hw3 hb3 C
        go_wp2_with fail
        go_roundg 0
        case measure => decide
        case rel => exact ⟨by decide, rfl, by rw [show 4 - 0 = 3 + 1 from rfl, HE.out]; exact W3.out.1, fun _ => by rw [show 4 - 0 = 3 + 1 from rfl, HE.out], W3.out.2⟩
      · have heb : (E == 0) = false := beq_false_of_ne he
        have heb2 : (E != 0) = true := by simpa using he
        have HN := Lib.hid he
        clear he
        go_wp2_with fail
        (with_reducible refine C.out.mono ?_)
        rintro r w3 ⟨rfl, hw3, hb3⟩
        have W3 := Lib.hid (And.intro hw3 (HB.out.trans hb3))
        clear hw3 hb3 C
        go_wp2_with fail
        go_ret
        have hall : wnAll lim s0 (stL V S P F) = (E, M) := by
          have h5 := wnAll_append lim s0 ((stL V S P F).take (3 + 1)) ((stL V S P F).drop (3 + 1))
          rw [List.take_append_drop, HE.out, wnAll_err (s := (E, M)) HN.out] at h5
          exact h5
        rw [hall]
        exact ⟨rfl, W3.out.1, W3.out.2⟩
theorem tPut_any (g : Nat) (lim err : Int) (L : List Nat) (V S P F : Int) (h1 : ¬ err = 1) (w : World) (h : Wr w g lim err L) :
    Calls Try.prog 60 #[.pointer (some ⟨g, 0, none⟩), .agg #[.int .i64 V, .int .i64 S, .int .i64 P, .int .i64 F]] w fun r w' => r = .returned (.int .i64 (putRE lim (err, L) V S P F)) ∧ Wr w' g lim (putST lim (err, L) V S P F).1 (putST lim (err, L) V S P F).2 ∧ WF g 0 w w' := by
  unfold putRE putST
  by_cases he : chkS V S P F = 0
  · rw [if_pos he, if_pos he]
    exact tPut_okF g lim err L V S P F (chkS_ok he) h1 w h
  · rw [if_neg he, if_neg he]
    refine (tPut_badF g lim err L V S P F _ rfl he h1 w h).mono ?_
    rintro r w' ⟨h2, h3, h4⟩
    exact ⟨h2, h3, WF.ofExt h4 h.lt⟩
end
end Go.Proofs.Ytnbeejgppooamaa
