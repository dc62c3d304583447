/- What the law Qby rests on, part 3 of 8: Q6, FixShareMath, ListShave, Cur, Q7, Q8, ListWord, Q9, Q10, CodecM, RefR, RefW. Conditions stand in each lemma. -/
import Derived.WalkKit
import Derived.Deep.QuietTactic
import Derived.Deep.Draws
import Derived.Laws.OwnMore
import Derived.Laws.AppendOwn
import Derived.OwnWalk
import Derived.RangeFuncBox
import Derived.RangeFuncLeaves
import Derived.Shelf.Abstract
import Derived.OwnWalkIn
import Derived.TacticsInMore
import Derived.LoopNIn
import Derived.LoopIn
import Derived.Maps.AppendAt
import Derived.Test.YtnbeejgppooamaaGreatRows
import Derived.Lib.Hide
import Derived.Deep.Onto
import Derived.ProofKit
import Derived.ChangeOld
import Derived.OpenShut
import Derived.Deep.Slices
import Derived.BigQuiet
import Derived.IntWalk
import Derived.Lib.SliceRun
import Derived.Deep.LoopGhost
import Derived.WalkSpells
import Derived.WalkLawsBesides
import Derived.Deep.RegionHeld3
import Derived.Lib.SmallJoins
import Derived.ArgAppend
import Derived.Test.YtnbeejgppooamaaGreatShelf
import Derived.Test.YtnbeejgppooamaaGreatDivNorm
import Derived.Deep.DeepCutAuto
import Derived.Deep.CutBlock
import Derived.Shelf.Spec.BitsCarry
import Derived.Test.YtnbeejgppooamaaGreatFixRefMath
import Derived.Test.YtnbeejgppooamaaGreatFixDivideMath
import Derived.WalkMore
import Derived.Laws.StructEq
import Derived.Laws.BytesArg
import Derived.Test.YtnbeejgppooamaaGreatSlQby2
set_option linter.unusedVariables false
set_option linter.unusedSimpArgs false
namespace Go.Proofs.YtnbeejgppooamaaGreat
section
open Go.RowKit Go.ChangeShapes Go.WideShapes Go.Deep Go.Joins
/-- entries handed back, and values behind them -/
def RetEntV (r : List (Int × Int × Int × Int × Int × Int × Int × Int)) (xs : List Value) (w : World) (e : Ending) (w' : World) : Prop := ∃ A c, e = .returned (.tuple (.slice A r.length c :: xs).toArray) ∧ (A = none → c = 0) ∧ OwnEnt w' w.heap.size (.slice A r.length c) r.length r ∧ Ext w w'
theorem RetEntV.nil {xs : List Value} {w w' : World} (hx : Ext w w') : RetEntV [] xs w (.returned (.tuple (.slice none 0 0 :: xs).toArray)) w' := ⟨none, 0, rfl, fun _ => rfl, OwnEnt.nil _ _, hx⟩
theorem RetEntV.mk {r : List (Int × Int × Int × Int × Int × Int × Int × Int)} {n : Nat} {xs : List Value} {v : Value} {w w' : World} (h : OwnEnt w' w.heap.size v n r) (hx : Ext w w') (hn : n = r.length) : RetEntV r xs w (.returned (.tuple (v :: xs).toArray)) w' := by
  subst hn
  obtain ⟨A, c, rfl, h1, h2⟩ := own_parts2 h
  exact ⟨A, c, rfl, h1, h, hx⟩
theorem OwnEnt.lower {w : World} {base b' n : Nat} {v : Value} {l : List (Int × Int × Int × Int × Int × Int × Int × Int)} (h : OwnEnt w base v n l) (hb : b' ≤ base) : OwnEnt w b' v n l := own_lower h hb
theorem oper_append {P : Program} {o : Oper} {a : Act} {w w' : World} {K : Act → World → Prop} {Q : Exit → Act → World → Prop} (s x : Operand) (t : TypeId) (ho : o.op = .call { callee := .builtin .append, args := #[s, x], argTypes := #[t, t] }) {vs vx v' : Value} (hs : a.eval s = vs) (hx : a.eval x = vx)
    (hr : (Builtin.append_ #[t, t] o.type #[vs, vx]).run P w = .ok v' w') (hK : K (a.put o.dst v') w') : Oper.wp P o a w K Q := by
  unfold Oper.wp execOp
  simp only [ho, resolve, invoke, builtin, Sem.run_bind, Sem.run_pure, Result.andThen_ok, List.map_toArray, List.map_cons, List.map_nil, hs, hx, hr]
  exact hK
theorem ent_app {w : World} {base n b c : Nat} {v : Value} {l : List (Int × Int × Int × Int × Int × Int × Int × Int)} {xo xv xs xp xf xc xi xb : Int} (hown : OwnEnt w base v n l) (hn : n < 1099511627776) (hb : base ≤ w.heap.size) (hc : ∀ j u, (entC (xo, xv, xs, xp, xf, xc, xi, xb))[j]? = some u → w.cell? ⟨b, j, none⟩ = some u) (ty : TypeId) :
    ∃ A' c' w', (Builtin.append_ #[22, 22] ty #[v, .slice (some ⟨b, 0, none⟩) 1 c]).run Tryz.prog w = .ok (.slice A' (n + 1) c') w' ∧ OwnEnt w' base (.slice A' (n + 1) c') (n + 1) (l ++ [(xo, xv, xs, xp, xf, xc, xi, xb)]) ∧ Below base w w' := by
  obtain ⟨i0, hi0, hz0, hz1, hz2⟩ := ent_infoP
  obtain ⟨v', w', hr, g2, g3, g4, g5⟩ := run_append_own_at (P := Tryz.prog) w base 22 ty 53 i0 (.agg #[.int .i64 0, .int .i64 0, .int .i64 0, .int .i64 0, .int .i64 0, .int .i64 0, .int .u64 0, .int .u64 0]) 8 64 Tryz.underlying22 hi0 hz0 hz1 hz2 rfl (by decide) v n _ hown ⟨b, 0, none⟩ 1 c (entC (xo, xv, xs, xp, xf, xc, xi, xb)) rfl
    (by intro j u hj; rw [addr_add, Nat.zero_add]; exact hc j u hj)
    (by intro u hu; unfold entC at hu; simp at hu; rcases hu with rfl | rfl | rfl | rfl | rfl | rfl | rfl | rfl <;> rfl) (by simp [maxLen]; omega) (by omega) hb
  have hO : OwnEnt w' base v' (n + 1) (l ++ [(xo, xv, xs, xp, xf, xc, xi, xb)]) := by
    unfold OwnEnt
    rw [List.flatMap_append]
    simpa using g2
  obtain ⟨A', c', rfl, _, _⟩ := own_parts2 hO
  exact ⟨A', c', w', hr, hO, (Below.refl base w).grown g3 hb (fun k hk => (World.ownsRow.lt hown k hk).1)⟩
theorem ent_cells {w : World} {b : Nat} {xo xv xs xp xf xc xi xb : Int} (h0 : w.cell? ⟨b, 0, none⟩ = some (.int .i64 xo)) (h1 : w.cell? ⟨b, 1, none⟩ = some (.int .i64 xv)) (h2 : w.cell? ⟨b, 2, none⟩ = some (.int .i64 xs)) (h3 : w.cell? ⟨b, 3, none⟩ = some (.int .i64 xp)) (h4 : w.cell? ⟨b, 4, none⟩ = some (.int .i64 xf)) (h5 : w.cell? ⟨b, 5, none⟩ = some (.int .i64 xc)) (h6 : w.cell? ⟨b, 6, none⟩ = some (.int .u64 xi)) (h7 : w.cell? ⟨b, 7, none⟩ = some (.int .u64 xb)) :
    ∀ j u, (entC (xo, xv, xs, xp, xf, xc, xi, xb))[j]? = some u → w.cell? ⟨b, j, none⟩ = some u := by
  intro j u hj
  unfold entC at hj
  match j, hj with
  | 0, hj => simp at hj; subst hj; exact h0
  | 1, hj => simp at hj; subst hj; exact h1
  | 2, hj => simp at hj; subst hj; exact h2
  | 3, hj => simp at hj; subst hj; exact h3
  | 4, hj => simp at hj; subst hj; exact h4
  | 5, hj => simp at hj; subst hj; exact h5
  | 6, hj => simp at hj; subst hj; exact h6
  | 7, hj => simp at hj; subst hj; exact h7
  | j + 8, hj => simp at hj
def addG (e1 most e b i lv n s : Int) : Int := if e1 ≠ 0 then e1 else if most < 1 then 3 else if 16 < most then 3 else if e ≠ 0 then e else if b ≠ i then 11 else if most ≤ lv then 22 else if 32768 ≤ n then 7 else if 4611686018427387904 - s < b then 12 else 0
/-- what comes of an entry that is added -/
def adE (l : List (Int × Int × Int × Int × Int × Int × Int × Int)) (x : (Int × Int × Int × Int × Int × Int × Int × Int)) (most : Int) : Int := addG (chkQ l).1 most (oneQ x (lastQ l)) (baE x) x.2.2.2.2.2.2.1 (liveQ l x.1 x.2.1 : Nat) l.length (totB l)
def addQ (l : List (Int × Int × Int × Int × Int × Int × Int × Int)) (x : (Int × Int × Int × Int × Int × Int × Int × Int)) (most : Int) : List (Int × Int × Int × Int × Int × Int × Int × Int) × Int := if adE l x most = 0 then (l ++ [x], 0) else ([], adE l x most)
theorem eClone_n (A : Option Addr) (n c : Nat) (l : List (Int × Int × Int × Int × Int × Int × Int × Int)) (w : World) (h : Sl w 8 A n c (l.flatMap entC)) (hn : n < 1099511627776) (hnil : A = none → c = 0) : Calls Tryz.prog 81 #[.slice A n c] w fun e w' => ∃ A c, e = .returned (.slice A n c) ∧ (A = none → c = 0) ∧ OwnEnt w' w.heap.size (.slice A n c) n l ∧ Ext w w' := by
  have hl := h.rlen entC_len (by decide)
  subst hl
  exact eClone_any A c l w h hn hnil
theorem cs_at {f : Nat} {args : Array Value} {w : World} {x y : Int} (h : Calls Tryz.prog f args w fun e w' => e = .returned (.int .u64 x) ∧ Ext w w') (hxy : x = y) : Calls Tryz.prog f args w fun e w' => e = .returned (.int .u64 y) ∧ Ext w w' := by rw [← hxy]; exact h
set_option maxRecDepth 100000 in
set_option maxHeartbeats 4000000 in
theorem qadd_at (A : Option Addr) (n c : Nat) (l : List (Int × Int × Int × Int × Int × Int × Int × Int)) (xo xv xs xp xf xc xi xb most e1 e2 E a r v s : Int) (lv : Nat) (w : World) (h : Sl w 8 A n c (l.flatMap entC)) (hn : n ≤ 100000) (hf : ∀ x ∈ l, FitsQ x) (hxb : Word xb) (hxi : Word xi) (he : chkQ l = (e1, e2)) (hE : chkS xv xs xp xf = E) (ha : lastQ l = a) (hr : oneG xo E xc xs a xi xb = r) (hlv : liveQ l xo xv = lv) (hs : totB l = s) (hv : v = addG e1 most r xb xi (lv : Int) n s) (hnil : A = none → c = 0) (R : List (Int × Int × Int × Int × Int × Int × Int × Int)) (hR : R = if v = 0 then l ++ [(xo, xv, xs, xp, xf, xc, xi, xb)] else []) :
    Calls Tryz.prog 54 #[.slice A n c, .agg #[.int .i64 xo, .int .i64 xv, .int .i64 xs, .int .i64 xp, .int .i64 xf, .int .i64 xc, .int .u64 xi, .int .u64 xb], .int .i64 most] w (RetEntV R [.int .i64 v] w) := by
  have hll := h.rlen entC_len (by decide)
  have hns := h.small
  have HLL := Lib.hid hll
  have hsn : 0 ≤ s := by rw [← hs]; exact totB_nonneg hf
  have HS := Lib.hid h
  have HV := Lib.hid hv
  have HR := Lib.hid hR
  clear hR
  have CC := Lib.hid (fun w' (hx : Ext w w') => qcheck_any A n c l e1 e2 w' (h.ext hx) hf he)
  have CO := Lib.hid (fun w' (hx : Ext w w') => qone_ev xo xv xs xp xf xc xi xb E a r A n c l w' hE (h.ext hx) ha hr)
  have CL := Lib.hid (fun w' (hx : Ext w w') => qlive_any A n c l xo xv w' (h.ext hx) hn hf)
  rw [hlv] at CL
  have HTT := Lib.hid (show e1 = 0 → s ≤ 4611686018427387904 from fun h0 => by rw [← hs]; exact (chkQ_zero (by rw [← h0]; exact he)).2)
  have CS := Lib.hid (fun w' (hx : Ext w w') => qsum_any A n c l w' (h.ext hx) hn hf)
  have HSP := Lib.hid (show s ≤ 4611686018427387904 → sumP l = s from fun h0 => by unfold sumP; rw [hs, if_pos h0])
  obtain ⟨b0, b1'⟩ := hxb
  clear h hf he hE ha hr hlv hs hv
  go_enter Tryz.func54, Tryz.ntmps54
  go_wp2_with fail
  (with_reducible refine (CC.out _ (by repeat (first | with_reducible exact Ext.refl w | with_reducible refine Ext.drew ?_ | with_reducible refine Ext.drewN ?_ _ | with_reducible refine Ext.alloc ?_ _ | with_reducible refine Ext.setCell ?_ (by first | omega | (simp; done) | (simp; omega)) _))).mono ?_)
  rintro e w1 ⟨rfl, hx1⟩
  have c0_0 : w1.cell? ⟨w.heap.size, 0, none⟩ = some (.int .i64 xo) := hx1.has (by first | fail | (simp [go_sem, World.cell?_alloc_past]; done))
  have c0_1 : w1.cell? ⟨w.heap.size, 1, none⟩ = some (.int .i64 xv) := hx1.has (by first | fail | (simp [go_sem, World.cell?_alloc_past]; done))
  have c0_2 : w1.cell? ⟨w.heap.size, 2, none⟩ = some (.int .i64 xs) := hx1.has (by first | fail | (simp [go_sem, World.cell?_alloc_past]; done))
  have c0_3 : w1.cell? ⟨w.heap.size, 3, none⟩ = some (.int .i64 xp) := hx1.has (by first | fail | (simp [go_sem, World.cell?_alloc_past]; done))
  have c0_4 : w1.cell? ⟨w.heap.size, 4, none⟩ = some (.int .i64 xf) := hx1.has (by first | fail | (simp [go_sem, World.cell?_alloc_past]; done))
  have c0_5 : w1.cell? ⟨w.heap.size, 5, none⟩ = some (.int .i64 xc) := hx1.has (by first | fail | (simp [go_sem, World.cell?_alloc_past]; done))
  have c0_6 : w1.cell? ⟨w.heap.size, 6, none⟩ = some (.int .u64 xi) := hx1.has (by first | fail | (simp [go_sem, World.cell?_alloc_past]; done))
  have c0_7 : w1.cell? ⟨w.heap.size, 7, none⟩ = some (.int .u64 xb) := hx1.has (by first | fail | (simp [go_sem, World.cell?_alloc_past]; done))
  have z1 := hx1.size
  try simp at z1
  have rc0 : w.heap.size < w1.heap.size := by omega
  have rc0a : w.heap.size < w1.heap.size + 1 := by omega
  have rc0b : w.heap.size < w1.heap.size + 1 + 1 := by omega
  have rc0c : w.heap.size < w1.heap.size + 1 + 1 + 1 := by omega
  have rc0n : ¬ w.heap.size = w1.heap.size := by omega
  replace HS := Lib.hid (HS.out.ext (Ext.trans (by repeat (first | with_reducible exact Ext.refl _ | with_reducible refine Ext.drew ?_ | with_reducible refine Ext.drewN ?_ _ | with_reducible refine Ext.alloc ?_ _ | with_reducible refine Ext.setCell ?_ (by first | omega | (simp; done) | (simp; omega)) _)) hx1))
  have X1 : Hid (Ext w w1) := Lib.hid (Ext.trans (by repeat (first | with_reducible exact Ext.refl w | with_reducible refine Ext.drew ?_ | with_reducible refine Ext.drewN ?_ _ | with_reducible refine Ext.alloc ?_ _ | with_reducible refine Ext.setCell ?_ (by first | omega | (simp; done) | (simp; omega)) _)) hx1)
  clear hx1 z1
  by_cases q1 : ¬ e1 = 0
  · have q1b : (e1 != 0) = true := by simp [q1]
    go_wp2_with fail
    go_ret2
    have hv9 : v = e1 := (by rw [HV.out]; unfold addG; (repeat' split) <;> omega)
    rw [show R = [] from by rw [HR.out, if_neg (by omega)], hv9]
    exact RetEntV.nil (xs := [.int .i64 e1]) (by repeat (first | with_reducible exact X1.out | with_reducible refine Ext.drew ?_ | with_reducible refine Ext.drewN ?_ _ | with_reducible refine Ext.alloc ?_ _ | with_reducible refine Ext.setCell ?_ (by first | omega | (simp; done) | (simp; omega)) _))
  · have q1b : (e1 != 0) = false := by simpa using q1
    by_cases q2 : most < 1
    · have d2 : decide (most < 1) = true := decide_eq_true q2
      have Q2 := Lib.hid q2
      clear q2
      go_wp2_with fail
      go_ret2
      have q2 := Q2.out
      have hv9 : v = 3 := (by rw [HV.out]; unfold addG; (repeat' split) <;> omega)
      rw [show R = [] from by rw [HR.out, if_neg (by omega)], hv9]
      exact RetEntV.nil (xs := [.int .i64 3]) (by repeat (first | with_reducible exact X1.out | with_reducible refine Ext.drew ?_ | with_reducible refine Ext.drewN ?_ _ | with_reducible refine Ext.alloc ?_ _ | with_reducible refine Ext.setCell ?_ (by first | omega | (simp; done) | (simp; omega)) _))
    · have d2 : decide (most < 1) = false := decide_eq_false q2
      have Q2 := Lib.hid q2
      clear q2
      by_cases q3 : 16 < most
      · have d3 : decide (16 < most) = true := decide_eq_true q3
        have Q3 := Lib.hid q3
        clear q3
        go_wp2_with fail
        go_ret2
        have q2 := Q2.out
        have q3 := Q3.out
        have hv9 : v = 3 := (by rw [HV.out]; unfold addG; (repeat' split) <;> omega)
        rw [show R = [] from by rw [HR.out, if_neg (by omega)], hv9]
        exact RetEntV.nil (xs := [.int .i64 3]) (by repeat (first | with_reducible exact X1.out | with_reducible refine Ext.drew ?_ | with_reducible refine Ext.drewN ?_ _ | with_reducible refine Ext.alloc ?_ _ | with_reducible refine Ext.setCell ?_ (by first | omega | (simp; done) | (simp; omega)) _))
      · have d3 : decide (16 < most) = false := decide_eq_false q3
        have Q3 := Lib.hid q3
        clear q3
        go_wp2_with fail
        (with_reducible refine (CO.out _ (by repeat (first | with_reducible exact X1.out | with_reducible refine Ext.drew ?_ | with_reducible refine Ext.drewN ?_ _ | with_reducible refine Ext.alloc ?_ _ | with_reducible refine Ext.setCell ?_ (by first | omega | (simp; done) | (simp; omega)) _))).mono ?_)
        rintro e w2 ⟨rfl, hx2⟩
        replace c0_0 : w2.cell? ⟨w.heap.size, 0, none⟩ = some (.int .i64 xo) := hx2.has (by first | exact c0_0 | (simp [go_sem, World.cell?_alloc_past, c0_0, c0_1, c0_2, c0_3, c0_4, c0_5, c0_6, c0_7, rc0, rc0a, rc0b, rc0c, rc0n]; done))
        replace c0_1 : w2.cell? ⟨w.heap.size, 1, none⟩ = some (.int .i64 xv) := hx2.has (by first | exact c0_1 | (simp [go_sem, World.cell?_alloc_past, c0_0, c0_1, c0_2, c0_3, c0_4, c0_5, c0_6, c0_7, rc0, rc0a, rc0b, rc0c, rc0n]; done))
        replace c0_2 : w2.cell? ⟨w.heap.size, 2, none⟩ = some (.int .i64 xs) := hx2.has (by first | exact c0_2 | (simp [go_sem, World.cell?_alloc_past, c0_0, c0_1, c0_2, c0_3, c0_4, c0_5, c0_6, c0_7, rc0, rc0a, rc0b, rc0c, rc0n]; done))
        replace c0_3 : w2.cell? ⟨w.heap.size, 3, none⟩ = some (.int .i64 xp) := hx2.has (by first | exact c0_3 | (simp [go_sem, World.cell?_alloc_past, c0_0, c0_1, c0_2, c0_3, c0_4, c0_5, c0_6, c0_7, rc0, rc0a, rc0b, rc0c, rc0n]; done))
        replace c0_4 : w2.cell? ⟨w.heap.size, 4, none⟩ = some (.int .i64 xf) := hx2.has (by first | exact c0_4 | (simp [go_sem, World.cell?_alloc_past, c0_0, c0_1, c0_2, c0_3, c0_4, c0_5, c0_6, c0_7, rc0, rc0a, rc0b, rc0c, rc0n]; done))
        replace c0_5 : w2.cell? ⟨w.heap.size, 5, none⟩ = some (.int .i64 xc) := hx2.has (by first | exact c0_5 | (simp [go_sem, World.cell?_alloc_past, c0_0, c0_1, c0_2, c0_3, c0_4, c0_5, c0_6, c0_7, rc0, rc0a, rc0b, rc0c, rc0n]; done))
        replace c0_6 : w2.cell? ⟨w.heap.size, 6, none⟩ = some (.int .u64 xi) := hx2.has (by first | exact c0_6 | (simp [go_sem, World.cell?_alloc_past, c0_0, c0_1, c0_2, c0_3, c0_4, c0_5, c0_6, c0_7, rc0, rc0a, rc0b, rc0c, rc0n]; done))
        replace c0_7 : w2.cell? ⟨w.heap.size, 7, none⟩ = some (.int .u64 xb) := hx2.has (by first | exact c0_7 | (simp [go_sem, World.cell?_alloc_past, c0_0, c0_1, c0_2, c0_3, c0_4, c0_5, c0_6, c0_7, rc0, rc0a, rc0b, rc0c, rc0n]; done))
        have z2 := hx2.size
        try simp at z2
        replace rc0 : w.heap.size < w2.heap.size := by omega
        replace rc0a : w.heap.size < w2.heap.size + 1 := by omega
        replace rc0b : w.heap.size < w2.heap.size + 1 + 1 := by omega
        replace rc0c : w.heap.size < w2.heap.size + 1 + 1 + 1 := by omega
        replace rc0n : ¬ w.heap.size = w2.heap.size := by omega
        replace HS := Lib.hid (HS.out.ext (Ext.trans (by repeat (first | with_reducible exact Ext.refl _ | with_reducible refine Ext.drew ?_ | with_reducible refine Ext.drewN ?_ _ | with_reducible refine Ext.alloc ?_ _ | with_reducible refine Ext.setCell ?_ (by first | omega | (simp; done) | (simp; omega)) _)) hx2))
        have X2 : Hid (Ext w w2) := Lib.hid (Ext.trans (by repeat (first | with_reducible exact X1.out | with_reducible refine Ext.drew ?_ | with_reducible refine Ext.drewN ?_ _ | with_reducible refine Ext.alloc ?_ _ | with_reducible refine Ext.setCell ?_ (by first | omega | (simp; done) | (simp; omega)) _)) hx2)
        clear X1 hx2 z2
        by_cases q4 : ¬ r = 0
        · have q4b : (r != 0) = true := by simp [q4]
          go_wp2_with fail
          go_ret2
          have q2 := Q2.out
          have q3 := Q3.out
          have hv9 : v = r := (by rw [HV.out]; unfold addG; (repeat' split) <;> omega)
          rw [show R = [] from by rw [HR.out, if_neg (by omega)], hv9]
          exact RetEntV.nil (xs := [.int .i64 r]) (by repeat (first | with_reducible exact X2.out | with_reducible refine Ext.drew ?_ | with_reducible refine Ext.drewN ?_ _ | with_reducible refine Ext.alloc ?_ _ | with_reducible refine Ext.setCell ?_ (by first | omega | (simp; done) | (simp; omega)) _))
        · have q4b : (r != 0) = false := by simpa using q4
          by_cases q5 : ¬ xb = xi
          · have q5b : (xb != xi) = true := by simp [q5]
            go_wp2_with fail
            go_ret2
            have q2 := Q2.out
            have q3 := Q3.out
            have hv9 : v = 11 := (by rw [HV.out]; unfold addG; (repeat' split) <;> omega)
            rw [show R = [] from by rw [HR.out, if_neg (by omega)], hv9]
            exact RetEntV.nil (xs := [.int .i64 11]) (by repeat (first | with_reducible exact X2.out | with_reducible refine Ext.drew ?_ | with_reducible refine Ext.drewN ?_ _ | with_reducible refine Ext.alloc ?_ _ | with_reducible refine Ext.setCell ?_ (by first | omega | (simp; done) | (simp; omega)) _))
          · have q5b : (xb != xi) = false := by simpa using q5
            go_wp2_with fail
            (with_reducible refine (CL.out _ (by repeat (first | with_reducible exact X2.out | with_reducible refine Ext.drew ?_ | with_reducible refine Ext.drewN ?_ _ | with_reducible refine Ext.alloc ?_ _ | with_reducible refine Ext.setCell ?_ (by first | omega | (simp; done) | (simp; omega)) _))).mono ?_)
            rintro e w3 ⟨rfl, hx3⟩
            replace c0_0 : w3.cell? ⟨w.heap.size, 0, none⟩ = some (.int .i64 xo) := hx3.has (by first | exact c0_0 | (simp [go_sem, World.cell?_alloc_past, c0_0, c0_1, c0_2, c0_3, c0_4, c0_5, c0_6, c0_7, rc0, rc0a, rc0b, rc0c, rc0n]; done))
            replace c0_1 : w3.cell? ⟨w.heap.size, 1, none⟩ = some (.int .i64 xv) := hx3.has (by first | exact c0_1 | (simp [go_sem, World.cell?_alloc_past, c0_0, c0_1, c0_2, c0_3, c0_4, c0_5, c0_6, c0_7, rc0, rc0a, rc0b, rc0c, rc0n]; done))
            replace c0_2 : w3.cell? ⟨w.heap.size, 2, none⟩ = some (.int .i64 xs) := hx3.has (by first | exact c0_2 | (simp [go_sem, World.cell?_alloc_past, c0_0, c0_1, c0_2, c0_3, c0_4, c0_5, c0_6, c0_7, rc0, rc0a, rc0b, rc0c, rc0n]; done))
            replace c0_3 : w3.cell? ⟨w.heap.size, 3, none⟩ = some (.int .i64 xp) := hx3.has (by first | exact c0_3 | (simp [go_sem, World.cell?_alloc_past, c0_0, c0_1, c0_2, c0_3, c0_4, c0_5, c0_6, c0_7, rc0, rc0a, rc0b, rc0c, rc0n]; done))
            replace c0_4 : w3.cell? ⟨w.heap.size, 4, none⟩ = some (.int .i64 xf) := hx3.has (by first | exact c0_4 | (simp [go_sem, World.cell?_alloc_past, c0_0, c0_1, c0_2, c0_3, c0_4, c0_5, c0_6, c0_7, rc0, rc0a, rc0b, rc0c, rc0n]; done))
            replace c0_5 : w3.cell? ⟨w.heap.size, 5, none⟩ = some (.int .i64 xc) := hx3.has (by first | exact c0_5 | (simp [go_sem, World.cell?_alloc_past, c0_0, c0_1, c0_2, c0_3, c0_4, c0_5, c0_6, c0_7, rc0, rc0a, rc0b, rc0c, rc0n]; done))
            replace c0_6 : w3.cell? ⟨w.heap.size, 6, none⟩ = some (.int .u64 xi) := hx3.has (by first | exact c0_6 | (simp [go_sem, World.cell?_alloc_past, c0_0, c0_1, c0_2, c0_3, c0_4, c0_5, c0_6, c0_7, rc0, rc0a, rc0b, rc0c, rc0n]; done))
            replace c0_7 : w3.cell? ⟨w.heap.size, 7, none⟩ = some (.int .u64 xb) := hx3.has (by first | exact c0_7 | (simp [go_sem, World.cell?_alloc_past, c0_0, c0_1, c0_2, c0_3, c0_4, c0_5, c0_6, c0_7, rc0, rc0a, rc0b, rc0c, rc0n]; done))
            have z3 := hx3.size
            try simp at z3
            replace rc0 : w.heap.size < w3.heap.size := by omega
            replace rc0a : w.heap.size < w3.heap.size + 1 := by omega
            replace rc0b : w.heap.size < w3.heap.size + 1 + 1 := by omega
            replace rc0c : w.heap.size < w3.heap.size + 1 + 1 + 1 := by omega
            replace rc0n : ¬ w.heap.size = w3.heap.size := by omega
            replace HS := Lib.hid (HS.out.ext (Ext.trans (by repeat (first | with_reducible exact Ext.refl _ | with_reducible refine Ext.drew ?_ | with_reducible refine Ext.drewN ?_ _ | with_reducible refine Ext.alloc ?_ _ | with_reducible refine Ext.setCell ?_ (by first | omega | (simp; done) | (simp; omega)) _)) hx3))
            have X3 : Hid (Ext w w3) := Lib.hid (Ext.trans (by repeat (first | with_reducible exact X2.out | with_reducible refine Ext.drew ?_ | with_reducible refine Ext.drewN ?_ _ | with_reducible refine Ext.alloc ?_ _ | with_reducible refine Ext.setCell ?_ (by first | omega | (simp; done) | (simp; omega)) _)) hx3)
            clear X2 hx3 z3
            by_cases q6 : most ≤ (lv : Int)
            · have d6 : decide (most ≤ (lv : Int)) = true := decide_eq_true q6
              have Q6 := Lib.hid q6
              clear q6
              go_wp2_with fail
              go_ret2
              have q2 := Q2.out
              have q3 := Q3.out
              have q6 := Q6.out
              have hv9 : v = 22 := (by rw [HV.out]; unfold addG; (repeat' split) <;> omega)
              rw [show R = [] from by rw [HR.out, if_neg (by omega)], hv9]
              exact RetEntV.nil (xs := [.int .i64 22]) (by repeat (first | with_reducible exact X3.out | with_reducible refine Ext.drew ?_ | with_reducible refine Ext.drewN ?_ _ | with_reducible refine Ext.alloc ?_ _ | with_reducible refine Ext.setCell ?_ (by first | omega | (simp; done) | (simp; omega)) _))
            · have d6 : decide (most ≤ (lv : Int)) = false := decide_eq_false q6
              have Q6 := Lib.hid q6
              clear q6
              by_cases q7 : 32768 ≤ (n : Int)
              · have d7 : decide (32768 ≤ (n : Int)) = true := decide_eq_true q7
                have Q7 := Lib.hid q7
                clear q7
                go_wp2_with fail
                go_ret2
                have q2 := Q2.out
                have q3 := Q3.out
                have q6 := Q6.out
                have q7 := Q7.out
                have hv9 : v = 7 := (by rw [HV.out]; unfold addG; (repeat' split) <;> omega)
                rw [show R = [] from by rw [HR.out, if_neg (by omega)], hv9]
                exact RetEntV.nil (xs := [.int .i64 7]) (by repeat (first | with_reducible exact X3.out | with_reducible refine Ext.drew ?_ | with_reducible refine Ext.drewN ?_ _ | with_reducible refine Ext.alloc ?_ _ | with_reducible refine Ext.setCell ?_ (by first | omega | (simp; done) | (simp; omega)) _))
              · have N7 : Hid (n + 1 ≤ 100000) := Lib.hid (by omega)
                have d7 : decide (32768 ≤ (n : Int)) = false := decide_eq_false q7
                have Q7 := Lib.hid q7
                clear q7
                go_wp2_with fail
                refine wp_region_held_drew (S := fun w' => w'.cell? ⟨w.heap.size, 7, none⟩ = some (.int .u64 xb)) (by kernel_rfl) (by first | exact c0_7 | (simp [go_sem, World.cell?_alloc_past, c0_0, c0_1, c0_2, c0_3, c0_4, c0_5, c0_6, c0_7, rc0, rc0a, rc0b, rc0c, rc0n]; done)) (fun hHeld => ?_)
                (refine' take_in 0 rfl (by kernel_rfl) (by kernel_rfl) (by kernel_rfl) (fun _ _ _ h => h) (by rfl) (by assumption) ?_ ?_; rotate_left; focus (intro w hSw; (try dsimp only at hSw); go_simp; try with_reducible rfl)); try simp only [Act.put, List.setIfInBounds_toArray, List.set_cons_zero, List.set_cons_succ]
                (refine' take_in 1 rfl (by kernel_rfl) (by kernel_rfl) (by kernel_rfl) (fun _ _ _ h => h) (by rfl) (by assumption) ?_ ?_; rotate_left; focus (intro w hSw; (try dsimp only at hSw); go_simp; try with_reducible rfl)); try simp only [Act.put, List.setIfInBounds_toArray, List.set_cons_zero, List.set_cons_succ]
                (refine' take_in 2 rfl (by kernel_rfl) (by kernel_rfl) (by kernel_rfl) (fun _ _ _ h => h) (by rfl) (by assumption) ?_ ?_; rotate_left; focus (intro w hSw; (try dsimp only at hSw); go_simp; try with_reducible rfl)); try simp only [Act.put, List.setIfInBounds_toArray, List.set_cons_zero, List.set_cons_succ]
                refine' next_in 3 rfl (by kernel_rfl) (by rfl) (fun K hK => ?_)
                go_simp
                have hs1 := HTT.out (by omega)
                have hsp := HSP.out hs1
                have hs2 : 0 ≤ 4611686018427387904 - s := by omega
                have hs3 : 4611686018427387904 - s < 18446744073709551616 := by omega
                (with_reducible refine (cs_at (CS.out _ (by repeat (first | with_reducible exact X3.out | with_reducible refine Ext.drew ?_ | with_reducible refine Ext.drewN ?_ _ | with_reducible refine Ext.alloc ?_ _ | with_reducible refine Ext.setCell ?_ (by first | omega | (simp; done) | (simp; omega)) _))) hsp).mono ?_)
                rintro e w4 ⟨rfl, hx4⟩
                replace c0_0 : w4.cell? ⟨w.heap.size, 0, none⟩ = some (.int .i64 xo) := hx4.has (by first | exact c0_0 | (simp [go_sem, World.cell?_alloc_past, c0_0, c0_1, c0_2, c0_3, c0_4, c0_5, c0_6, c0_7, rc0, rc0a, rc0b, rc0c, rc0n]; done))
                replace c0_1 : w4.cell? ⟨w.heap.size, 1, none⟩ = some (.int .i64 xv) := hx4.has (by first | exact c0_1 | (simp [go_sem, World.cell?_alloc_past, c0_0, c0_1, c0_2, c0_3, c0_4, c0_5, c0_6, c0_7, rc0, rc0a, rc0b, rc0c, rc0n]; done))
                replace c0_2 : w4.cell? ⟨w.heap.size, 2, none⟩ = some (.int .i64 xs) := hx4.has (by first | exact c0_2 | (simp [go_sem, World.cell?_alloc_past, c0_0, c0_1, c0_2, c0_3, c0_4, c0_5, c0_6, c0_7, rc0, rc0a, rc0b, rc0c, rc0n]; done))
                replace c0_3 : w4.cell? ⟨w.heap.size, 3, none⟩ = some (.int .i64 xp) := hx4.has (by first | exact c0_3 | (simp [go_sem, World.cell?_alloc_past, c0_0, c0_1, c0_2, c0_3, c0_4, c0_5, c0_6, c0_7, rc0, rc0a, rc0b, rc0c, rc0n]; done))
                replace c0_4 : w4.cell? ⟨w.heap.size, 4, none⟩ = some (.int .i64 xf) := hx4.has (by first | exact c0_4 | (simp [go_sem, World.cell?_alloc_past, c0_0, c0_1, c0_2, c0_3, c0_4, c0_5, c0_6, c0_7, rc0, rc0a, rc0b, rc0c, rc0n]; done))
                replace c0_5 : w4.cell? ⟨w.heap.size, 5, none⟩ = some (.int .i64 xc) := hx4.has (by first | exact c0_5 | (simp [go_sem, World.cell?_alloc_past, c0_0, c0_1, c0_2, c0_3, c0_4, c0_5, c0_6, c0_7, rc0, rc0a, rc0b, rc0c, rc0n]; done))
                replace c0_6 : w4.cell? ⟨w.heap.size, 6, none⟩ = some (.int .u64 xi) := hx4.has (by first | exact c0_6 | (simp [go_sem, World.cell?_alloc_past, c0_0, c0_1, c0_2, c0_3, c0_4, c0_5, c0_6, c0_7, rc0, rc0a, rc0b, rc0c, rc0n]; done))
                replace c0_7 : w4.cell? ⟨w.heap.size, 7, none⟩ = some (.int .u64 xb) := hx4.has (by first | exact c0_7 | (simp [go_sem, World.cell?_alloc_past, c0_0, c0_1, c0_2, c0_3, c0_4, c0_5, c0_6, c0_7, rc0, rc0a, rc0b, rc0c, rc0n]; done))
                have z4 := hx4.size
                try simp at z4
                replace rc0 : w.heap.size < w4.heap.size := by omega
                replace rc0a : w.heap.size < w4.heap.size + 1 := by omega
                replace rc0b : w.heap.size < w4.heap.size + 1 + 1 := by omega
                replace rc0c : w.heap.size < w4.heap.size + 1 + 1 + 1 := by omega
                replace rc0n : ¬ w.heap.size = w4.heap.size := by omega
                replace HS := Lib.hid (HS.out.ext (Ext.trans (by repeat (first | with_reducible exact Ext.refl _ | with_reducible refine Ext.drew ?_ | with_reducible refine Ext.drewN ?_ _ | with_reducible refine Ext.alloc ?_ _ | with_reducible refine Ext.setCell ?_ (by first | omega | (simp; done) | (simp; omega)) _)) hx4))
                have X4 : Hid (Ext w w4) := Lib.hid (Ext.trans (by repeat (first | with_reducible exact X3.out | with_reducible refine Ext.drew ?_ | with_reducible refine Ext.drewN ?_ _ | with_reducible refine Ext.alloc ?_ _ | with_reducible refine Ext.setCell ?_ (by first | omega | (simp; done) | (simp; omega)) _)) hx4)
                clear X3 hx4 z4
                refine hK.out _ _ (by (first | exact c0_7 | (simp [go_sem, World.cell?_alloc_past, c0_0, c0_1, c0_2, c0_3, c0_4, c0_5, c0_6, c0_7, rc0, rc0a, rc0b, rc0c, rc0n]; done))) (fun hHeld => ?_); clear hK K; try simp only [Act.put, List.setIfInBounds_toArray, List.set_cons_zero, List.set_cons_succ]
                (refine' take_in 4 rfl (by kernel_rfl) (by kernel_rfl) (by kernel_rfl) (fun _ _ _ h => h) (by rfl) (by assumption) ?_ ?_; rotate_left; focus (intro w hSw; (try dsimp only at hSw); go_simp; try with_reducible rfl)); try simp only [Act.put, List.setIfInBounds_toArray, List.set_cons_zero, List.set_cons_succ]
                (refine' take_in 5 rfl (by kernel_rfl) (by kernel_rfl) (by kernel_rfl) (fun _ _ _ h => h) (by rfl) (by assumption) ?_ ?_; rotate_left; focus (intro w hSw; (try dsimp only at hSw); go_simp; try with_reducible rfl)); try simp only [Act.put, List.setIfInBounds_toArray, List.set_cons_zero, List.set_cons_succ]
                (refine' take_in 6 rfl (by kernel_rfl) (by kernel_rfl) (by kernel_rfl) (fun _ _ _ h => h) (by rfl) (by assumption) ?_ ?_; rotate_left; focus (intro w hSw; (try dsimp only at hSw); go_simp; try with_reducible rfl)); try simp only [Act.put, List.setIfInBounds_toArray, List.set_cons_zero, List.set_cons_succ]
                refine wpAnyH_done (by kernel_rfl) ?_ _
                clear d7
                by_cases q8 : 4611686018427387904 - s < xb
                · have d8 : decide (4611686018427387904 - s < xb) = true := decide_eq_true q8
                  have w8 : IntKind.u64.wrap (4611686018427387904 - s) = 4611686018427387904 - s := IntWalk.u64_in _ (by omega)
                  rw [w8, d8]
                  clear d8 w8
                  go_wp2_with fail
                  go_ret2
                  have q2 := Q2.out
                  have q3 := Q3.out
                  have q6 := Q6.out
                  have q7 := Q7.out
                  have hv9 : v = 12 := (by rw [HV.out]; unfold addG; (repeat' split) <;> omega)
                  rw [show R = [] from by rw [HR.out, if_neg (by omega)], hv9]
                  exact RetEntV.nil (xs := [.int .i64 12]) (by repeat (first | with_reducible exact X4.out | with_reducible refine Ext.drew ?_ | with_reducible refine Ext.drewN ?_ _ | with_reducible refine Ext.alloc ?_ _ | with_reducible refine Ext.setCell ?_ (by first | omega | (simp; done) | (simp; omega)) _))
                · have d8 : decide (4611686018427387904 - s < xb) = false := decide_eq_false q8
                  have w8 : IntKind.u64.wrap (4611686018427387904 - s) = 4611686018427387904 - s := IntWalk.u64_in _ (by omega)
                  rw [w8, d8]
                  clear d8 w8
                  go_wp2_with fail
                  refine wp_region_held_drew (S := fun _ => True) (by kernel_rfl) trivial (fun hHeld => ?_)
                  (refine' take_in 0 rfl (by kernel_rfl) (by kernel_rfl) (by kernel_rfl) (fun _ _ _ h => h) (by rfl) (by assumption) ?_ ?_; rotate_left; focus (intro w hSw; (try dsimp only at hSw); go_simp; try with_reducible rfl)); try simp only [Act.put, List.setIfInBounds_toArray, List.set_cons_zero, List.set_cons_succ]
                  refine' next2_in 1 2 rfl rfl (by kernel_rfl) (by rfl) (by rfl) (fun K hK => ?_) (fun K hK => ?_)
                  · go_simp
                    (with_reducible refine (eClone_n A n c l _ (HS.out.ext (by repeat (first | with_reducible exact Ext.refl _ | with_reducible refine Ext.drew ?_ | with_reducible refine Ext.drewN ?_ _ | with_reducible refine Ext.alloc ?_ _ | with_reducible refine Ext.setCell ?_ (by first | omega | (simp; done) | (simp; omega)) _))) (by omega) hnil).mono ?_)
                    rintro e w5 ⟨A3, c3, rfl, hA3, hO3, hx5⟩
                    have hz5 := hx5.size
                    try simp at hz5
                    have X5 : Hid (Ext w w5) := Lib.hid (Ext.trans (by repeat (first | with_reducible exact X4.out | with_reducible refine Ext.drew ?_ | with_reducible refine Ext.drewN ?_ _ | with_reducible refine Ext.alloc ?_ _ | with_reducible refine Ext.setCell ?_ (by first | omega | (simp; done) | (simp; omega)) _)) hx5)
                    have HO : Hid (OwnEnt w5 w4.heap.size (.slice A3 n c3) n l) := Lib.hid (OwnEnt.lower hO3 (by first | omega | (simp; done) | (simp; omega)))
                    have hlw : w.heap.size ≤ w4.heap.size := (by first | omega | (simp; omega))
                    clear hO3
                    have d_0 : w5.cell? ⟨w.heap.size, 0, none⟩ = some (.int .i64 xo) := hx5.has (by first | exact c0_0 | (simp [go_sem, World.cell?_alloc_past, c0_0, rc0, rc0n]; done))
                    have d_1 : w5.cell? ⟨w.heap.size, 1, none⟩ = some (.int .i64 xv) := hx5.has (by first | exact c0_1 | (simp [go_sem, World.cell?_alloc_past, c0_1, rc0, rc0n]; done))
                    have d_2 : w5.cell? ⟨w.heap.size, 2, none⟩ = some (.int .i64 xs) := hx5.has (by first | exact c0_2 | (simp [go_sem, World.cell?_alloc_past, c0_2, rc0, rc0n]; done))
                    have d_3 : w5.cell? ⟨w.heap.size, 3, none⟩ = some (.int .i64 xp) := hx5.has (by first | exact c0_3 | (simp [go_sem, World.cell?_alloc_past, c0_3, rc0, rc0n]; done))
                    have d_4 : w5.cell? ⟨w.heap.size, 4, none⟩ = some (.int .i64 xf) := hx5.has (by first | exact c0_4 | (simp [go_sem, World.cell?_alloc_past, c0_4, rc0, rc0n]; done))
                    have d_5 : w5.cell? ⟨w.heap.size, 5, none⟩ = some (.int .i64 xc) := hx5.has (by first | exact c0_5 | (simp [go_sem, World.cell?_alloc_past, c0_5, rc0, rc0n]; done))
                    have d_6 : w5.cell? ⟨w.heap.size, 6, none⟩ = some (.int .u64 xi) := hx5.has (by first | exact c0_6 | (simp [go_sem, World.cell?_alloc_past, c0_6, rc0, rc0n]; done))
                    have d_7 : w5.cell? ⟨w.heap.size, 7, none⟩ = some (.int .u64 xb) := hx5.has (by first | exact c0_7 | (simp [go_sem, World.cell?_alloc_past, c0_7, rc0, rc0n]; done))
                    have rd0 : w.heap.size < w5.heap.size := by omega
                    refine hK.out _ _ (trivial) (fun hHeld => ?_); clear hK K; try simp only [Act.put, List.setIfInBounds_toArray, List.set_cons_zero, List.set_cons_succ]
                    refine' next_in 2 rfl (by kernel_rfl) (by rfl) (fun K hK => ?_)
                    go_simp
                    refine hK.out _ _ (trivial) (fun hHeld => ?_); clear hK K; try simp only [Act.put, List.setIfInBounds_toArray, List.set_cons_zero, List.set_cons_succ]
                    refine' next_in 3 rfl (by kernel_rfl) (by rfl) (fun K hK => ?_)
                    go_simp
                    refine hK.out _ _ (trivial) (fun hHeld => ?_); clear hK K; try simp only [Act.put, List.setIfInBounds_toArray, List.set_cons_zero, List.set_cons_succ]
                    obtain ⟨A7, c7, w7, hrun7, hO7, hB7⟩ := ent_app (w := (w5.alloc (.cells #[.int .i64 xo, .int .i64 xv, .int .i64 xs, .int .i64 xp, .int .i64 xf, .int .i64 xc, .int .u64 xi, .int .u64 xb] 53))) (b := w5.heap.size) (c := 1) (HO.out.ext (Ext.alloc (Ext.refl _) _)) (by omega) (by simp; omega) (ent_cells (xo := xo) (xv := xv) (xs := xs) (xp := xp) (xf := xf) (xc := xc) (xi := xi) (xb := xb) (by simp [go_sem]) (by simp [go_sem]) (by simp [go_sem]) (by simp [go_sem]) (by simp [go_sem]) (by simp [go_sem]) (by simp [go_sem]) (by simp [go_sem])) 22
                    have X7 : Hid (Ext w w7) := Lib.hid (Below.trans (Ext.alloc X5.out _) (Below.mono hB7 hlw))
                    have e_0 : w7.cell? ⟨w.heap.size, 0, none⟩ = some (.int .i64 xo) := (hB7.cell (p := ⟨w.heap.size, 0, none⟩) (by show w.heap.size < w4.heap.size; omega)).trans (by first | exact d_0 | (simp [go_sem, World.cell?_alloc_past, d_0, rd0]; done))
                    have e_1 : w7.cell? ⟨w.heap.size, 1, none⟩ = some (.int .i64 xv) := (hB7.cell (p := ⟨w.heap.size, 1, none⟩) (by show w.heap.size < w4.heap.size; omega)).trans (by first | exact d_1 | (simp [go_sem, World.cell?_alloc_past, d_1, rd0]; done))
                    have e_2 : w7.cell? ⟨w.heap.size, 2, none⟩ = some (.int .i64 xs) := (hB7.cell (p := ⟨w.heap.size, 2, none⟩) (by show w.heap.size < w4.heap.size; omega)).trans (by first | exact d_2 | (simp [go_sem, World.cell?_alloc_past, d_2, rd0]; done))
                    have e_3 : w7.cell? ⟨w.heap.size, 3, none⟩ = some (.int .i64 xp) := (hB7.cell (p := ⟨w.heap.size, 3, none⟩) (by show w.heap.size < w4.heap.size; omega)).trans (by first | exact d_3 | (simp [go_sem, World.cell?_alloc_past, d_3, rd0]; done))
                    have e_4 : w7.cell? ⟨w.heap.size, 4, none⟩ = some (.int .i64 xf) := (hB7.cell (p := ⟨w.heap.size, 4, none⟩) (by show w.heap.size < w4.heap.size; omega)).trans (by first | exact d_4 | (simp [go_sem, World.cell?_alloc_past, d_4, rd0]; done))
                    have e_5 : w7.cell? ⟨w.heap.size, 5, none⟩ = some (.int .i64 xc) := (hB7.cell (p := ⟨w.heap.size, 5, none⟩) (by show w.heap.size < w4.heap.size; omega)).trans (by first | exact d_5 | (simp [go_sem, World.cell?_alloc_past, d_5, rd0]; done))
                    have e_6 : w7.cell? ⟨w.heap.size, 6, none⟩ = some (.int .u64 xi) := (hB7.cell (p := ⟨w.heap.size, 6, none⟩) (by show w.heap.size < w4.heap.size; omega)).trans (by first | exact d_6 | (simp [go_sem, World.cell?_alloc_past, d_6, rd0]; done))
                    have e_7 : w7.cell? ⟨w.heap.size, 7, none⟩ = some (.int .u64 xb) := (hB7.cell (p := ⟨w.heap.size, 7, none⟩) (by show w.heap.size < w4.heap.size; omega)).trans (by first | exact d_7 | (simp [go_sem, World.cell?_alloc_past, d_7, rd0]; done))
                    have hz7 := Below.size hB7
                    try simp at hz7
                    have HO7 := Lib.hid hO7
                    clear hB7 hO7
                    replace c0_0 := e_0
                    replace c0_1 := e_1
                    replace c0_2 := e_2
                    replace c0_3 := e_3
                    replace c0_4 := e_4
                    replace c0_5 := e_5
                    replace c0_6 := e_6
                    replace c0_7 := e_7
                    replace rc0 : w.heap.size < w7.heap.size := by omega
                    replace rc0a : w.heap.size < w7.heap.size + 1 := by omega
                    replace rc0b : w.heap.size < w7.heap.size + 1 + 1 := by omega
                    replace rc0c : w.heap.size < w7.heap.size + 1 + 1 + 1 := by omega
                    replace rc0n : ¬ w.heap.size = w7.heap.size := by omega
                    clear e_0 d_0 e_1 d_1 e_2 d_2 e_3 d_3 e_4 d_4 e_5 d_5 e_6 d_6 e_7 d_7
                    refine' next_in 4 rfl (by kernel_rfl) (by rfl) (fun K hK => ?_)
                    refine oper_append (.tmp 59) (.tmp 61) 22 rfl rfl rfl hrun7 ?_
                    refine hK.out _ _ (trivial) (fun hHeld => ?_); clear hK K; try simp only [Act.put, List.setIfInBounds_toArray, List.set_cons_zero, List.set_cons_succ]
                    clear hrun7
                    (refine' take_in 5 rfl (by kernel_rfl) (by kernel_rfl) (by kernel_rfl) (fun _ _ _ h => h) (by rfl) (by assumption) ?_ ?_; rotate_left; focus (intro w hSw; (try dsimp only at hSw); go_simp; try with_reducible rfl)); try simp only [Act.put, List.setIfInBounds_toArray, List.set_cons_zero, List.set_cons_succ]
                    (refine' take_in 6 rfl (by kernel_rfl) (by kernel_rfl) (by kernel_rfl) (fun _ _ _ h => h) (by rfl) (by assumption) ?_ ?_; rotate_left; focus (intro w hSw; (try dsimp only at hSw); go_simp; try with_reducible rfl)); try simp only [Act.put, List.setIfInBounds_toArray, List.set_cons_zero, List.set_cons_succ]
                    refine wpAnyH_done (by kernel_rfl) ?_ _
                    go_wp2_with fail
                    go_ret2
                    have q2 := Q2.out
                    have q3 := Q3.out
                    have q6 := Q6.out
                    have q7 := Q7.out
                    have hv9 : v = 0 := (by rw [HV.out]; unfold addG; (repeat' split) <;> omega)
                    rw [show R = l ++ [(xo, xv, xs, xp, xf, xc, xi, xb)] from by rw [HR.out, if_pos hv9], hv9]
                    exact RetEntV.mk (xs := [.int .i64 0]) (OwnEnt.lower (show OwnEnt _ _ _ (n + 1) _ from (HO7.out.ext (by repeat (first | with_reducible exact Ext.refl _ | with_reducible refine Ext.drew ?_ | with_reducible refine Ext.drewN ?_ _ | with_reducible refine Ext.alloc ?_ _ | with_reducible refine Ext.setCell ?_ (by first | omega | (simp; done) | (simp; omega)) _)))) hlw) (by repeat (first | with_reducible exact X7.out | with_reducible refine Ext.drew ?_ | with_reducible refine Ext.drewN ?_ _ | with_reducible refine Ext.alloc ?_ _ | with_reducible refine Ext.setCell ?_ (by first | omega | (simp; done) | (simp; omega)) _)) (by simp [HLL.out])
                  · go_simp
                    refine hK.out _ _ (trivial) (fun hHeld => ?_); clear hK K; try simp only [Act.put, List.setIfInBounds_toArray, List.set_cons_zero, List.set_cons_succ]
                    refine' next2_in 1 3 rfl rfl (by kernel_rfl) (by rfl) (by rfl) (fun K hK => ?_) (fun K hK => ?_)
                    · go_simp
                      (with_reducible refine (eClone_n A n c l _ (HS.out.ext (by repeat (first | with_reducible exact Ext.refl _ | with_reducible refine Ext.drew ?_ | with_reducible refine Ext.drewN ?_ _ | with_reducible refine Ext.alloc ?_ _ | with_reducible refine Ext.setCell ?_ (by first | omega | (simp; done) | (simp; omega)) _))) (by omega) hnil).mono ?_)
                      rintro e w5 ⟨A3, c3, rfl, hA3, hO3, hx5⟩
                      have hz5 := hx5.size
                      try simp at hz5
                      have X5 : Hid (Ext w w5) := Lib.hid (Ext.trans (by repeat (first | with_reducible exact X4.out | with_reducible refine Ext.drew ?_ | with_reducible refine Ext.drewN ?_ _ | with_reducible refine Ext.alloc ?_ _ | with_reducible refine Ext.setCell ?_ (by first | omega | (simp; done) | (simp; omega)) _)) hx5)
                      have HO : Hid (OwnEnt w5 w4.heap.size (.slice A3 n c3) n l) := Lib.hid (OwnEnt.lower hO3 (by first | omega | (simp; done) | (simp; omega)))
                      have hlw : w.heap.size ≤ w4.heap.size := (by first | omega | (simp; omega))
                      clear hO3
                      have d_0 : w5.cell? ⟨w.heap.size, 0, none⟩ = some (.int .i64 xo) := hx5.has (by first | exact c0_0 | (simp [go_sem, World.cell?_alloc_past, c0_0, rc0, rc0n]; done))
                      have d_1 : w5.cell? ⟨w.heap.size, 1, none⟩ = some (.int .i64 xv) := hx5.has (by first | exact c0_1 | (simp [go_sem, World.cell?_alloc_past, c0_1, rc0, rc0n]; done))
                      have d_2 : w5.cell? ⟨w.heap.size, 2, none⟩ = some (.int .i64 xs) := hx5.has (by first | exact c0_2 | (simp [go_sem, World.cell?_alloc_past, c0_2, rc0, rc0n]; done))
                      have d_3 : w5.cell? ⟨w.heap.size, 3, none⟩ = some (.int .i64 xp) := hx5.has (by first | exact c0_3 | (simp [go_sem, World.cell?_alloc_past, c0_3, rc0, rc0n]; done))
                      have d_4 : w5.cell? ⟨w.heap.size, 4, none⟩ = some (.int .i64 xf) := hx5.has (by first | exact c0_4 | (simp [go_sem, World.cell?_alloc_past, c0_4, rc0, rc0n]; done))
                      have d_5 : w5.cell? ⟨w.heap.size, 5, none⟩ = some (.int .i64 xc) := hx5.has (by first | exact c0_5 | (simp [go_sem, World.cell?_alloc_past, c0_5, rc0, rc0n]; done))
                      have d_6 : w5.cell? ⟨w.heap.size, 6, none⟩ = some (.int .u64 xi) := hx5.has (by first | exact c0_6 | (simp [go_sem, World.cell?_alloc_past, c0_6, rc0, rc0n]; done))
                      have d_7 : w5.cell? ⟨w.heap.size, 7, none⟩ = some (.int .u64 xb) := hx5.has (by first | exact c0_7 | (simp [go_sem, World.cell?_alloc_past, c0_7, rc0, rc0n]; done))
                      have rd0 : w.heap.size < w5.heap.size := by omega
                      refine hK.out _ _ (trivial) (fun hHeld => ?_); clear hK K; try simp only [Act.put, List.setIfInBounds_toArray, List.set_cons_zero, List.set_cons_succ]
                      refine' next_in 3 rfl (by kernel_rfl) (by rfl) (fun K hK => ?_)
                      go_simp
                      refine hK.out _ _ (trivial) (fun hHeld => ?_); clear hK K; try simp only [Act.put, List.setIfInBounds_toArray, List.set_cons_zero, List.set_cons_succ]
                      obtain ⟨A7, c7, w7, hrun7, hO7, hB7⟩ := ent_app (w := (w5.alloc (.cells #[.int .i64 xo, .int .i64 xv, .int .i64 xs, .int .i64 xp, .int .i64 xf, .int .i64 xc, .int .u64 xi, .int .u64 xb] 53))) (b := w5.heap.size) (c := 1) (HO.out.ext (Ext.alloc (Ext.refl _) _)) (by omega) (by simp; omega) (ent_cells (xo := xo) (xv := xv) (xs := xs) (xp := xp) (xf := xf) (xc := xc) (xi := xi) (xb := xb) (by simp [go_sem]) (by simp [go_sem]) (by simp [go_sem]) (by simp [go_sem]) (by simp [go_sem]) (by simp [go_sem]) (by simp [go_sem]) (by simp [go_sem])) 22
                      have X7 : Hid (Ext w w7) := Lib.hid (Below.trans (Ext.alloc X5.out _) (Below.mono hB7 hlw))
                      have e_0 : w7.cell? ⟨w.heap.size, 0, none⟩ = some (.int .i64 xo) := (hB7.cell (p := ⟨w.heap.size, 0, none⟩) (by show w.heap.size < w4.heap.size; omega)).trans (by first | exact d_0 | (simp [go_sem, World.cell?_alloc_past, d_0, rd0]; done))
                      have e_1 : w7.cell? ⟨w.heap.size, 1, none⟩ = some (.int .i64 xv) := (hB7.cell (p := ⟨w.heap.size, 1, none⟩) (by show w.heap.size < w4.heap.size; omega)).trans (by first | exact d_1 | (simp [go_sem, World.cell?_alloc_past, d_1, rd0]; done))
                      have e_2 : w7.cell? ⟨w.heap.size, 2, none⟩ = some (.int .i64 xs) := (hB7.cell (p := ⟨w.heap.size, 2, none⟩) (by show w.heap.size < w4.heap.size; omega)).trans (by first | exact d_2 | (simp [go_sem, World.cell?_alloc_past, d_2, rd0]; done))
                      have e_3 : w7.cell? ⟨w.heap.size, 3, none⟩ = some (.int .i64 xp) := (hB7.cell (p := ⟨w.heap.size, 3, none⟩) (by show w.heap.size < w4.heap.size; omega)).trans (by first | exact d_3 | (simp [go_sem, World.cell?_alloc_past, d_3, rd0]; done))
                      have e_4 : w7.cell? ⟨w.heap.size, 4, none⟩ = some (.int .i64 xf) := (hB7.cell (p := ⟨w.heap.size, 4, none⟩) (by show w.heap.size < w4.heap.size; omega)).trans (by first | exact d_4 | (simp [go_sem, World.cell?_alloc_past, d_4, rd0]; done))
                      have e_5 : w7.cell? ⟨w.heap.size, 5, none⟩ = some (.int .i64 xc) := (hB7.cell (p := ⟨w.heap.size, 5, none⟩) (by show w.heap.size < w4.heap.size; omega)).trans (by first | exact d_5 | (simp [go_sem, World.cell?_alloc_past, d_5, rd0]; done))
                      have e_6 : w7.cell? ⟨w.heap.size, 6, none⟩ = some (.int .u64 xi) := (hB7.cell (p := ⟨w.heap.size, 6, none⟩) (by show w.heap.size < w4.heap.size; omega)).trans (by first | exact d_6 | (simp [go_sem, World.cell?_alloc_past, d_6, rd0]; done))
                      have e_7 : w7.cell? ⟨w.heap.size, 7, none⟩ = some (.int .u64 xb) := (hB7.cell (p := ⟨w.heap.size, 7, none⟩) (by show w.heap.size < w4.heap.size; omega)).trans (by first | exact d_7 | (simp [go_sem, World.cell?_alloc_past, d_7, rd0]; done))
                      have hz7 := Below.size hB7
                      try simp at hz7
                      have HO7 := Lib.hid hO7
                      clear hB7 hO7
                      replace c0_0 := e_0
                      replace c0_1 := e_1
                      replace c0_2 := e_2
                      replace c0_3 := e_3
                      replace c0_4 := e_4
                      replace c0_5 := e_5
                      replace c0_6 := e_6
                      replace c0_7 := e_7
                      replace rc0 : w.heap.size < w7.heap.size := by omega
                      replace rc0a : w.heap.size < w7.heap.size + 1 := by omega
                      replace rc0b : w.heap.size < w7.heap.size + 1 + 1 := by omega
                      replace rc0c : w.heap.size < w7.heap.size + 1 + 1 + 1 := by omega
                      replace rc0n : ¬ w.heap.size = w7.heap.size := by omega
                      clear e_0 d_0 e_1 d_1 e_2 d_2 e_3 d_3 e_4 d_4 e_5 d_5 e_6 d_6 e_7 d_7
                      refine' next_in 4 rfl (by kernel_rfl) (by rfl) (fun K hK => ?_)
                      refine oper_append (.tmp 59) (.tmp 61) 22 rfl rfl rfl hrun7 ?_
                      refine hK.out _ _ (trivial) (fun hHeld => ?_); clear hK K; try simp only [Act.put, List.setIfInBounds_toArray, List.set_cons_zero, List.set_cons_succ]
                      clear hrun7
                      (refine' take_in 5 rfl (by kernel_rfl) (by kernel_rfl) (by kernel_rfl) (fun _ _ _ h => h) (by rfl) (by assumption) ?_ ?_; rotate_left; focus (intro w hSw; (try dsimp only at hSw); go_simp; try with_reducible rfl)); try simp only [Act.put, List.setIfInBounds_toArray, List.set_cons_zero, List.set_cons_succ]
                      (refine' take_in 6 rfl (by kernel_rfl) (by kernel_rfl) (by kernel_rfl) (fun _ _ _ h => h) (by rfl) (by assumption) ?_ ?_; rotate_left; focus (intro w hSw; (try dsimp only at hSw); go_simp; try with_reducible rfl)); try simp only [Act.put, List.setIfInBounds_toArray, List.set_cons_zero, List.set_cons_succ]
                      refine wpAnyH_done (by kernel_rfl) ?_ _
                      go_wp2_with fail
                      go_ret2
                      have q2 := Q2.out
                      have q3 := Q3.out
                      have q6 := Q6.out
                      have q7 := Q7.out
                      have hv9 : v = 0 := (by rw [HV.out]; unfold addG; (repeat' split) <;> omega)
                      rw [show R = l ++ [(xo, xv, xs, xp, xf, xc, xi, xb)] from by rw [HR.out, if_pos hv9], hv9]
                      exact RetEntV.mk (xs := [.int .i64 0]) (OwnEnt.lower (show OwnEnt _ _ _ (n + 1) _ from (HO7.out.ext (by repeat (first | with_reducible exact Ext.refl _ | with_reducible refine Ext.drew ?_ | with_reducible refine Ext.drewN ?_ _ | with_reducible refine Ext.alloc ?_ _ | with_reducible refine Ext.setCell ?_ (by first | omega | (simp; done) | (simp; omega)) _)))) hlw) (by repeat (first | with_reducible exact X7.out | with_reducible refine Ext.drew ?_ | with_reducible refine Ext.drewN ?_ _ | with_reducible refine Ext.alloc ?_ _ | with_reducible refine Ext.setCell ?_ (by first | omega | (simp; done) | (simp; omega)) _)) (by simp [HLL.out])
                    · go_simp
                      refine hK.out _ _ (trivial) (fun hHeld => ?_); clear hK K; try simp only [Act.put, List.setIfInBounds_toArray, List.set_cons_zero, List.set_cons_succ]
                      refine' next_in 1 rfl (by kernel_rfl) (by rfl) (fun K hK => ?_)
                      go_simp
                      (with_reducible refine (eClone_n A n c l _ (HS.out.ext (by repeat (first | with_reducible exact Ext.refl _ | with_reducible refine Ext.drew ?_ | with_reducible refine Ext.drewN ?_ _ | with_reducible refine Ext.alloc ?_ _ | with_reducible refine Ext.setCell ?_ (by first | omega | (simp; done) | (simp; omega)) _))) (by omega) hnil).mono ?_)
                      rintro e w5 ⟨A3, c3, rfl, hA3, hO3, hx5⟩
                      have hz5 := hx5.size
                      try simp at hz5
                      have X5 : Hid (Ext w w5) := Lib.hid (Ext.trans (by repeat (first | with_reducible exact X4.out | with_reducible refine Ext.drew ?_ | with_reducible refine Ext.drewN ?_ _ | with_reducible refine Ext.alloc ?_ _ | with_reducible refine Ext.setCell ?_ (by first | omega | (simp; done) | (simp; omega)) _)) hx5)
                      have HO : Hid (OwnEnt w5 w4.heap.size (.slice A3 n c3) n l) := Lib.hid (OwnEnt.lower hO3 (by first | omega | (simp; done) | (simp; omega)))
                      have hlw : w.heap.size ≤ w4.heap.size := (by first | omega | (simp; omega))
                      clear hO3
                      have d_0 : w5.cell? ⟨w.heap.size, 0, none⟩ = some (.int .i64 xo) := hx5.has (by first | exact c0_0 | (simp [go_sem, World.cell?_alloc_past, c0_0, rc0, rc0n]; done))
                      have d_1 : w5.cell? ⟨w.heap.size, 1, none⟩ = some (.int .i64 xv) := hx5.has (by first | exact c0_1 | (simp [go_sem, World.cell?_alloc_past, c0_1, rc0, rc0n]; done))
                      have d_2 : w5.cell? ⟨w.heap.size, 2, none⟩ = some (.int .i64 xs) := hx5.has (by first | exact c0_2 | (simp [go_sem, World.cell?_alloc_past, c0_2, rc0, rc0n]; done))
                      have d_3 : w5.cell? ⟨w.heap.size, 3, none⟩ = some (.int .i64 xp) := hx5.has (by first | exact c0_3 | (simp [go_sem, World.cell?_alloc_past, c0_3, rc0, rc0n]; done))
                      have d_4 : w5.cell? ⟨w.heap.size, 4, none⟩ = some (.int .i64 xf) := hx5.has (by first | exact c0_4 | (simp [go_sem, World.cell?_alloc_past, c0_4, rc0, rc0n]; done))
                      have d_5 : w5.cell? ⟨w.heap.size, 5, none⟩ = some (.int .i64 xc) := hx5.has (by first | exact c0_5 | (simp [go_sem, World.cell?_alloc_past, c0_5, rc0, rc0n]; done))
                      have d_6 : w5.cell? ⟨w.heap.size, 6, none⟩ = some (.int .u64 xi) := hx5.has (by first | exact c0_6 | (simp [go_sem, World.cell?_alloc_past, c0_6, rc0, rc0n]; done))
                      have d_7 : w5.cell? ⟨w.heap.size, 7, none⟩ = some (.int .u64 xb) := hx5.has (by first | exact c0_7 | (simp [go_sem, World.cell?_alloc_past, c0_7, rc0, rc0n]; done))
                      have rd0 : w.heap.size < w5.heap.size := by omega
                      have n_0 : w5.cell? ⟨w4.heap.size, 0, none⟩ = some (.int .i64 xo) := hx5.has (by simp [go_sem])
                      have n_1 : w5.cell? ⟨w4.heap.size, 1, none⟩ = some (.int .i64 xv) := hx5.has (by simp [go_sem])
                      have n_2 : w5.cell? ⟨w4.heap.size, 2, none⟩ = some (.int .i64 xs) := hx5.has (by simp [go_sem])
                      have n_3 : w5.cell? ⟨w4.heap.size, 3, none⟩ = some (.int .i64 xp) := hx5.has (by simp [go_sem])
                      have n_4 : w5.cell? ⟨w4.heap.size, 4, none⟩ = some (.int .i64 xf) := hx5.has (by simp [go_sem])
                      have n_5 : w5.cell? ⟨w4.heap.size, 5, none⟩ = some (.int .i64 xc) := hx5.has (by simp [go_sem])
                      have n_6 : w5.cell? ⟨w4.heap.size, 6, none⟩ = some (.int .u64 xi) := hx5.has (by simp [go_sem])
                      have n_7 : w5.cell? ⟨w4.heap.size, 7, none⟩ = some (.int .u64 xb) := hx5.has (by simp [go_sem])
                      refine hK.out _ _ (trivial) (fun hHeld => ?_); clear hK K; try simp only [Act.put, List.setIfInBounds_toArray, List.set_cons_zero, List.set_cons_succ]
                      obtain ⟨A7, c7, w7, hrun7, hO7, hB7⟩ := ent_app (w := w5) (b := w4.heap.size) (c := 1) HO.out (by omega) (by omega) (ent_cells n_0 n_1 n_2 n_3 n_4 n_5 n_6 n_7) 22
                      have X7 : Hid (Ext w w7) := Lib.hid (Below.trans X5.out (Below.mono hB7 hlw))
                      have e_0 : w7.cell? ⟨w.heap.size, 0, none⟩ = some (.int .i64 xo) := (hB7.cell (p := ⟨w.heap.size, 0, none⟩) (by show w.heap.size < w4.heap.size; omega)).trans (by first | exact d_0 | (simp [go_sem, d_0, rd0]; done))
                      have e_1 : w7.cell? ⟨w.heap.size, 1, none⟩ = some (.int .i64 xv) := (hB7.cell (p := ⟨w.heap.size, 1, none⟩) (by show w.heap.size < w4.heap.size; omega)).trans (by first | exact d_1 | (simp [go_sem, d_1, rd0]; done))
                      have e_2 : w7.cell? ⟨w.heap.size, 2, none⟩ = some (.int .i64 xs) := (hB7.cell (p := ⟨w.heap.size, 2, none⟩) (by show w.heap.size < w4.heap.size; omega)).trans (by first | exact d_2 | (simp [go_sem, d_2, rd0]; done))
                      have e_3 : w7.cell? ⟨w.heap.size, 3, none⟩ = some (.int .i64 xp) := (hB7.cell (p := ⟨w.heap.size, 3, none⟩) (by show w.heap.size < w4.heap.size; omega)).trans (by first | exact d_3 | (simp [go_sem, d_3, rd0]; done))
                      have e_4 : w7.cell? ⟨w.heap.size, 4, none⟩ = some (.int .i64 xf) := (hB7.cell (p := ⟨w.heap.size, 4, none⟩) (by show w.heap.size < w4.heap.size; omega)).trans (by first | exact d_4 | (simp [go_sem, d_4, rd0]; done))
                      have e_5 : w7.cell? ⟨w.heap.size, 5, none⟩ = some (.int .i64 xc) := (hB7.cell (p := ⟨w.heap.size, 5, none⟩) (by show w.heap.size < w4.heap.size; omega)).trans (by first | exact d_5 | (simp [go_sem, d_5, rd0]; done))
                      have e_6 : w7.cell? ⟨w.heap.size, 6, none⟩ = some (.int .u64 xi) := (hB7.cell (p := ⟨w.heap.size, 6, none⟩) (by show w.heap.size < w4.heap.size; omega)).trans (by first | exact d_6 | (simp [go_sem, d_6, rd0]; done))
                      have e_7 : w7.cell? ⟨w.heap.size, 7, none⟩ = some (.int .u64 xb) := (hB7.cell (p := ⟨w.heap.size, 7, none⟩) (by show w.heap.size < w4.heap.size; omega)).trans (by first | exact d_7 | (simp [go_sem, d_7, rd0]; done))
                      have hz7 := Below.size hB7
                      try simp at hz7
                      have HO7 := Lib.hid hO7
                      clear hB7 hO7
                      replace c0_0 := e_0
                      replace c0_1 := e_1
                      replace c0_2 := e_2
                      replace c0_3 := e_3
                      replace c0_4 := e_4
                      replace c0_5 := e_5
                      replace c0_6 := e_6
                      replace c0_7 := e_7
                      replace rc0 : w.heap.size < w7.heap.size := by omega
                      replace rc0a : w.heap.size < w7.heap.size + 1 := by omega
                      replace rc0b : w.heap.size < w7.heap.size + 1 + 1 := by omega
                      replace rc0c : w.heap.size < w7.heap.size + 1 + 1 + 1 := by omega
                      replace rc0n : ¬ w.heap.size = w7.heap.size := by omega
                      clear e_0 d_0 e_1 d_1 e_2 d_2 e_3 d_3 e_4 d_4 e_5 d_5 e_6 d_6 e_7 d_7
                      refine' next_in 4 rfl (by kernel_rfl) (by rfl) (fun K hK => ?_)
                      refine oper_append (.tmp 59) (.tmp 61) 22 rfl rfl rfl hrun7 ?_
                      refine hK.out _ _ (trivial) (fun hHeld => ?_); clear hK K; try simp only [Act.put, List.setIfInBounds_toArray, List.set_cons_zero, List.set_cons_succ]
                      clear hrun7
                      (refine' take_in 5 rfl (by kernel_rfl) (by kernel_rfl) (by kernel_rfl) (fun _ _ _ h => h) (by rfl) (by assumption) ?_ ?_; rotate_left; focus (intro w hSw; (try dsimp only at hSw); go_simp; try with_reducible rfl)); try simp only [Act.put, List.setIfInBounds_toArray, List.set_cons_zero, List.set_cons_succ]
                      (refine' take_in 6 rfl (by kernel_rfl) (by kernel_rfl) (by kernel_rfl) (fun _ _ _ h => h) (by rfl) (by assumption) ?_ ?_; rotate_left; focus (intro w hSw; (try dsimp only at hSw); go_simp; try with_reducible rfl)); try simp only [Act.put, List.setIfInBounds_toArray, List.set_cons_zero, List.set_cons_succ]
                      refine wpAnyH_done (by kernel_rfl) ?_ _
                      go_wp2_with fail
                      go_ret2
                      have q2 := Q2.out
                      have q3 := Q3.out
                      have q6 := Q6.out
                      have q7 := Q7.out
                      have hv9 : v = 0 := (by rw [HV.out]; unfold addG; (repeat' split) <;> omega)
                      rw [show R = l ++ [(xo, xv, xs, xp, xf, xc, xi, xb)] from by rw [HR.out, if_pos hv9], hv9]
                      exact RetEntV.mk (xs := [.int .i64 0]) (OwnEnt.lower (show OwnEnt _ _ _ (n + 1) _ from (HO7.out.ext (by repeat (first | with_reducible exact Ext.refl _ | with_reducible refine Ext.drew ?_ | with_reducible refine Ext.drewN ?_ _ | with_reducible refine Ext.alloc ?_ _ | with_reducible refine Ext.setCell ?_ (by first | omega | (simp; done) | (simp; omega)) _)))) hlw) (by repeat (first | with_reducible exact X7.out | with_reducible refine Ext.drew ?_ | with_reducible refine Ext.drewN ?_ _ | with_reducible refine Ext.alloc ?_ _ | with_reducible refine Ext.setCell ?_ (by first | omega | (simp; done) | (simp; omega)) _)) (by simp [HLL.out])
end
section

/-- a part in billionths -/
def prt (a p : Int) : Int := a * p / 1000000000
theorem prt_bounds {a p : Int} (ha : 0 ≤ a) (hp : 0 ≤ p) (h : p ≤ 1000000000) : 0 ≤ prt a p ∧ prt a p ≤ a ∧ 1000000000 * prt a p ≤ a * p ∧ a * p < 1000000000 * prt a p + 1000000000 := by
  have h1 : 0 ≤ a * p := Int.mul_nonneg ha hp
  have h2 : a * p ≤ a * 1000000000 := Int.mul_le_mul_of_nonneg_left h ha
  unfold prt
  omega
theorem pa_prt {a p : Int} (ha : Word a) (hp : 0 ≤ p) (h : p ≤ 1000000000) : paN a p = prt a p ∧ paE a p = 0 := by
  obtain ⟨h1, h2, _⟩ := prt_bounds ha.1 hp h
  unfold prt at h1 h2
  have := ha.2
  refine ⟨?_, ?_⟩
  · unfold paN mdN prt
    rw [if_neg (by omega), if_neg (by decide), if_pos (by omega)]
  · unfold paE mdE
    rw [if_neg (by omega), if_neg (by decide), if_pos (by omega)]
/-- at the head of the loop: what is left, the sum, how many parts -/
structure SI (a L S : Int) (i : Nat) : Prop where
  l0 : 0 ≤ L
  l1 : L ≤ 1000000000
  s0 : 0 ≤ S
  up : 1000000000 * S ≤ a * (1000000000 - L)
  lo : a * (1000000000 - L) ≤ 1000000000 * S + i * 999999999
theorem SI.start (a : Int) : SI a 1000000000 0 0 := ⟨by decide, by decide, by decide, by simp, by simp⟩
theorem SI.step {a L S P : Int} {i : Nat} (h : SI a L S i) (ha : 0 ≤ a) (h0 : 0 ≤ P) (h1 : P ≤ L) : SI a (L - P) (S + prt a P) (i + 1) ∧ S ≤ a - prt a P := by
  have l0 := h.l0; have l1 := h.l1; have s0 := h.s0; have up := h.up; have lo := h.lo
  obtain ⟨b1, b2, b3, b4⟩ := prt_bounds ha h0 (by omega)
  have e : a * (1000000000 - (L - P)) = a * (1000000000 - L) + a * P := by rw [← Int.mul_add]; congr 1; omega
  have e2 : a * (1000000000 - (L - P)) ≤ a * 1000000000 := Int.mul_le_mul_of_nonneg_left (by omega) ha
  refine ⟨⟨by omega, by omega, by omega, by omega, ?_⟩, by omega⟩
  rw [e]
  push_cast
  omega
theorem SI.done {a S : Int} {n : Nat} (h : SI a 0 S (n + 1)) : S ≤ a ∧ a - S ≤ n := by
  have up := h.up; have lo := h.lo
  push_cast at lo
  omega
end
section
open Go.RowKit Go.ChangeShapes Go.WideShapes Go.Deep Go.Joins
/-- a record's cells -/
def shaveC (x : Int × Int) : List Value := [.int .i64 x.1, .int .u64 x.2]
theorem shaveC_len (x : Int × Int) : (shaveC x).length = 2 := rfl
theorem shave_info : (Tryz.prog.info? 92).map (fun i => (i.zero, i.size, i.bytes)) = some (some (.agg #[.int .i64 0, .int .u64 0]), 2, 16) := by kernel_rfl
/-- a row of records of one's own -/
def OwnShave (w : World) (base : Nat) (v : Value) (n : Nat) (l : List (Int × Int)) : Prop := w.ownsRow base 92 2 v n (l.flatMap shaveC)
theorem OwnShave.ext {w w' : World} {base n : Nat} {v : Value} {l : List (Int × Int)} (h : OwnShave w base v n l) (hx : Ext w w') : OwnShave w' base v n l := own_keep h hx
theorem OwnShave.sl {w : World} {base n c : Nat} {A : Option Addr} {l : List (Int × Int)} (h : OwnShave w base (.slice A n c) n l) : Sl w 2 A n c (l.flatMap shaveC) := Sl.own h
theorem OwnShave.in_ {w : World} {base n c : Nat} {A : Option Addr} {l : List (Int × Int)} (h : OwnShave w base (.slice A n c) n l) : ∀ k o s, A = some ⟨k, o, s⟩ → base ≤ k ∧ k < w.heap.size := by
  intro k o s e'
  subst e'
  exact World.ownsRow.lt h k rfl
theorem OwnShave.nil (w : World) (base : Nat) : OwnShave w base (.slice none 0 0) 0 [] := World.ownsRow_nil _ _ _ _
/-- records handed back -/
def RetShave (l : List (Int × Int)) (w : World) (e : Ending) (w' : World) : Prop := ∃ A c, e = .returned (.slice A l.length c) ∧ (A = none → c = 0) ∧ OwnShave w' w.heap.size (.slice A l.length c) l.length l ∧ Ext w w'
theorem RetShave.mk {l : List (Int × Int)} {w w' : World} {v : Value} (h : w'.ownsRow w.heap.size 92 2 v l.length (l.flatMap shaveC)) (hx : Ext w w') : RetShave l w (.returned v) w' := by
  obtain ⟨A, c, rfl, h1, h2⟩ := own_parts2 h
  exact ⟨A, c, rfl, h1, h, hx⟩
theorem shaveC_eqg (op : BinOp) (x y : Operand) (xs ys : Array Value) (w : World) : (eqGuard op 92 x y (.agg xs) (.agg ys)).run Tryz.prog w = .ok () w := run_eqGuard_agg w op 92 x y xs ys (by kernel_rfl)
end
section
open Go.RowKit
theorem flat_set {α : Type} {f : α → List Value} {sz : Nat} (hf : ∀ x, (f x).length = sz) (l : List α) (k j : Nat) (x y : α) (v : Value) (h : l[k]? = some x) (hj : j < sz) (hy : f y = (f x).set j v) : (l.flatMap f).set (k * sz + j) v = (l.set k y).flatMap f := by
  obtain ⟨hk, hx⟩ := List.getElem?_eq_some_iff.1 h
  have e : l = l.take k ++ x :: l.drop (k + 1) := by rw [← hx, ← List.drop_eq_getElem_cons hk, List.take_append_drop]
  have hp : (l.take k).length = k := by rw [List.length_take]; omega
  have hq : ((l.take k).flatMap f).length = k * sz := by rw [flat_len hf, hp]
  have e2 : l.set k y = l.take k ++ y :: l.drop (k + 1) := by
    rw [List.set_eq_take_append_cons_drop, if_pos hk]
  rw [e2]
  generalize l.take k = a at *
  generalize l.drop (k + 1) = b at *
  subst e
  rw [List.flatMap_append, List.flatMap_append, ← hq, List.set_append_right _ _ (by omega), Nat.add_sub_cancel_left, List.flatMap_cons, List.flatMap_cons, List.set_append_left _ _ (by rw [hf]; exact hj), hy]
/-- the row reads as l with x at k -/
def Cur {α : Type} (e : TypeId) (f : α → List Value) (sz : Nat) (w : World) (base g n c : Nat) (l : List α) (k : Nat) (x : α) : Prop :=
  w.ownsRow base e sz (.slice (some ⟨g, 0, none⟩) n c) n ((l.set k x).flatMap f) ∧ k < l.length ∧ l.length = n
section
variable {α : Type} {e : TypeId} {f : α → List Value} {sz : Nat} {w w' : World} {base g n c k : Nat} {l : List α} {x y : α}
theorem Cur.mk (h : w.ownsRow base e sz (.slice (some ⟨g, 0, none⟩) n c) n (l.flatMap f)) (hk : l[k]? = some x) (hn : l.length = n) : Cur e f sz w base g n c l k x := by
  obtain ⟨h1, h2⟩ := List.getElem?_eq_some_iff.1 hk
  refine ⟨?_, h1, hn⟩
  rw [← h2, List.set_getElem_self]
  exact h
theorem Cur.at_ (h : Cur e f sz w base g n c l k x) : (l.set k x)[k]? = some x := by
  rw [List.getElem?_set_self h.2.1]
theorem Cur.lt (hf : ∀ x, (f x).length = sz) (h : Cur e f sz w base g n c l k x) {j : Nat} (hj : j < sz) : k * sz + j < n * sz := by
  have h1 := h.2.1
  have h2 := h.2.2
  have : (k + 1) * sz ≤ n * sz := Nat.mul_le_mul_right _ (by omega)
  rw [Nat.add_mul, Nat.one_mul] at this
  omega
theorem Cur.cell (hf : ∀ x, (f x).length = sz) (h : Cur e f sz w base g n c l k x) {j : Nat} {v : Value} (hj : (f x)[j]? = some v) : w.cell? ⟨g, k * sz + j, none⟩ = some v := by
  have hj2 : j < sz := by have := (List.getElem?_eq_some_iff.1 hj).1; rw [hf] at this; exact this
  rw [World.ownsRow.cellAt h.1 (k * sz + j) (Cur.lt hf h hj2), flat_get hf _ k j x h.at_ hj2]
  exact hj
theorem Cur.froz (h : Cur e f sz w base g n c l k x) (j : Nat) : w.frozen? ⟨g, k * sz + j, none⟩ = false := World.ownsRow.frozenAt h.1 _
theorem Cur.ext (h : Cur e f sz w base g n c l k x) (hx : Ext w w') : Cur e f sz w' base g n c l k x := ⟨own_keep h.1 hx, h.2⟩
theorem Cur.drew (h : Cur e f sz w base g n c l k x) : Cur e f sz w.drew base g n c l k x := h.ext ((Ext.refl w).drew)
theorem Cur.drewN (h : Cur e f sz w base g n c l k x) (m : Nat) : Cur e f sz (w.drewN m) base g n c l k x := h.ext ((Ext.refl w).drewN m)
theorem Cur.put (hf : ∀ x, (f x).length = sz) (h : Cur e f sz w base g n c l k x) (j : Nat) (v : Value) (y : α) (hj : j < sz) (hy : f y = (f x).set j v) : Cur e f sz (w.setCell ⟨g, k * sz + j, none⟩ v) base g n c l k y := by
  have h1 := (World.ownsRow.stored h.1 (k * sz + j) v).1
  rw [flat_set hf _ k j x y v h.at_ hj hy, List.set_set] at h1
  exact ⟨h1, h.2⟩
theorem Cur.own (h : Cur e f sz w base g n c l k x) : w.ownsRow base e sz (.slice (some ⟨g, 0, none⟩) n c) n ((l.set k x).flatMap f) := h.1
end
end
section
open Go.RowKit Go.ChangeShapes Go.WideShapes Go.Deep Go.Joins
/-- what backed a validator at a height -/
def bkE (x : (Int × Int × Int × Int × Int × Int × Int × Int)) (v h : Int) : Bool := bkdB x.2.1 x.2.2.1 x.2.2.2.1 x.2.2.2.2.1 v h x.2.2.2.2.2.1
/-- an entry behind a cut -/
def cutX (x : (Int × Int × Int × Int × Int × Int × Int × Int)) (p : Int) : (Int × Int × Int × Int × Int × Int × Int × Int) := (x.1, x.2.1, x.2.2.1, x.2.2.2.1, x.2.2.2.2.1, x.2.2.2.2.2.1, x.2.2.2.2.2.2.1, baE x - prt (baE x) p)
def cutL (l : List (Int × Int × Int × Int × Int × Int × Int × Int)) (v h p : Int) : Nat → List (Int × Int × Int × Int × Int × Int × Int × Int)
  | 0 => l
  | k + 1 => match l[k]? with
    | some x => if bkE x v h = true then (cutL l v h p k).set k (cutX x p) else cutL l v h p k
    | none => cutL l v h p k
def cutS (l : List (Int × Int × Int × Int × Int × Int × Int × Int)) (v h p : Int) : Nat → List (Int × Int)
  | 0 => []
  | k + 1 => match l[k]? with
    | some x => if bkE x v h = true then cutS l v h p k ++ [((k : Int), prt (baE x) p)] else cutS l v h p k
    | none => cutS l v h p k
def cutA (l : List (Int × Int × Int × Int × Int × Int × Int × Int)) (v h p : Int) : Nat → Int
  | 0 => 0
  | k + 1 => match l[k]? with
    | some x => if bkE x v h = true then cutA l v h p k + prt (baE x) p else cutA l v h p k
    | none => cutA l v h p k
theorem cutL_len (l : List (Int × Int × Int × Int × Int × Int × Int × Int)) (v h p : Int) : ∀ k, (cutL l v h p k).length = l.length
  | 0 => rfl
  | k + 1 => by
    have := cutL_len l v h p k
    unfold cutL
    split
    · split
      · rw [List.length_set]; exact this
      · exact this
    · exact this
theorem cutL_get (l : List (Int × Int × Int × Int × Int × Int × Int × Int)) (v h p : Int) : ∀ (k : Nat) {j : Nat}, k ≤ j → (cutL l v h p k)[j]? = l[j]?
  | 0, j, _ => rfl
  | k + 1, j, hj => by
    have := cutL_get l v h p k (j := j) (by omega)
    unfold cutL
    split
    · split
      · rw [List.getElem?_set_ne (by omega)]; exact this
      · exact this
    · exact this
theorem cutS_len (l : List (Int × Int × Int × Int × Int × Int × Int × Int)) (v h p : Int) : ∀ k, (cutS l v h p k).length ≤ k
  | 0 => Nat.le_refl _
  | k + 1 => by
    have := cutS_len l v h p k
    unfold cutS
    split
    · split
      · rw [List.length_append, List.length_singleton]; omega
      · omega
    · omega
theorem cutA_bound {l : List (Int × Int × Int × Int × Int × Int × Int × Int)} (hf : ∀ x ∈ l, FitsQ x) (v h : Int) {p : Int} (h0 : 0 ≤ p) (hp : p ≤ 1000000000) : ∀ k, 0 ≤ cutA l v h p k ∧ cutA l v h p k ≤ totB (l.take k)
  | 0 => by simp [cutA, totB]
  | k + 1 => by
    obtain ⟨h1, h2⟩ := cutA_bound hf v h h0 hp k
    unfold cutA
    rcases e : l[k]? with _ | x
    · have e2 : l.take (k + 1) = l.take k := by rw [List.take_add_one, e]; simp
      simp only
      rw [e2]
      exact ⟨h1, h2⟩
    · have hx := (hf x (List.mem_of_getElem? e)).ba
      obtain ⟨b1, b2, _⟩ := prt_bounds hx.1 h0 hp
      have := totB_take e
      simp only
      split <;> omega
theorem cut_t {l : List (Int × Int × Int × Int × Int × Int × Int × Int)} {v h p : Int} {k : Nat} {x : (Int × Int × Int × Int × Int × Int × Int × Int)} (hx : l[k]? = some x) (hb : bkE x v h = true) : cutL l v h p (k + 1) = (cutL l v h p k).set k (cutX x p) ∧ cutS l v h p (k + 1) = cutS l v h p k ++ [((k : Int), prt (baE x) p)] ∧ cutA l v h p (k + 1) = cutA l v h p k + prt (baE x) p := by
  refine ⟨?_, ?_, ?_⟩
  · rw [cutL, hx]; simp [hb]
  · rw [cutS, hx]; simp [hb]
  · rw [cutA, hx]; simp [hb]
theorem cut_f {l : List (Int × Int × Int × Int × Int × Int × Int × Int)} {v h p : Int} {k : Nat} {x : (Int × Int × Int × Int × Int × Int × Int × Int)} (hx : l[k]? = some x) (hb : bkE x v h = false) : cutL l v h p (k + 1) = cutL l v h p k ∧ cutS l v h p (k + 1) = cutS l v h p k ∧ cutA l v h p (k + 1) = cutA l v h p k := by
  refine ⟨?_, ?_, ?_⟩
  · rw [cutL, hx]; simp [hb]
  · rw [cutS, hx]; simp [hb]
  · rw [cutA, hx]; simp [hb]
/-- why there is no cut -/
def cutG (e1 v p : Int) (b : Bool) : Int := if e1 ≠ 0 then e1 else if v < 0 then 3 else if 32 ≤ v then 3 else if b = false then 3 else if 1000000000 < p then 3 else 0
def cutE (l : List (Int × Int × Int × Int × Int × Int × Int × Int)) (v h p : Int) : Int := cutG (chkQ l).1 v p (decide (1 ≤ h) && decide (h ≤ 4294967296))
/-- what a cut tells: the entries, the shaves, the sum, why not -/
def cutV (l : List (Int × Int × Int × Int × Int × Int × Int × Int)) (v h p : Int) : List (Int × Int × Int × Int × Int × Int × Int × Int) × List (Int × Int) × Int × Int := if cutE l v h p = 0 then (cutL l v h p l.length, cutS l v h p l.length, cutA l v h p l.length, 0) else ([], [], 0, cutE l v h p)
/-- entries and shaves handed back, apart from each other -/
def RetCut (r : List (Int × Int × Int × Int × Int × Int × Int × Int)) (s : List (Int × Int)) (u er : Int) (w : World) (e : Ending) (w' : World) : Prop := ∃ A1 c1 A2 c2, e = .returned (.tuple #[.slice A1 r.length c1, .slice A2 s.length c2, .int .u64 u, .int .i64 er]) ∧ (A1 = none → c1 = 0) ∧ (A2 = none → c2 = 0) ∧
  OwnEnt w' w.heap.size (.slice A1 r.length c1) r.length r ∧ OwnShave w' w.heap.size (.slice A2 s.length c2) s.length s ∧ (∀ b o s b' o' s', A1 = some ⟨b, o, s⟩ → A2 = some ⟨b', o', s'⟩ → b ≠ b') ∧ Ext w w'
theorem RetCut.nil {er : Int} {w w' : World} (hx : Ext w w') : RetCut [] [] 0 er w (.returned (.tuple #[.slice none 0 0, .slice none 0 0, .int .u64 0, .int .i64 er])) w' :=
  ⟨none, 0, none, 0, rfl, fun _ => rfl, fun _ => rfl, OwnEnt.nil _ _, World.ownsRow_nil _ _ _ _, (fun b o s b' o' s' h => by cases h), hx⟩
theorem RetCut.mk {r : List (Int × Int × Int × Int × Int × Int × Int × Int)} {s : List (Int × Int)} {A1 : Option Addr} {n c1 B : Nat} {u : Int} {v : Value} {w w' : World} (h : OwnEnt w' w.heap.size (.slice A1 n c1) n r) (hs : OwnShave w' B v s.length s) (hB : w.heap.size ≤ B) (hA : ∀ b o s, A1 = some ⟨b, o, s⟩ → b < B) (hn : n = r.length) (hx : Ext w w') : RetCut r s u 0 w (.returned (.tuple #[.slice A1 n c1, v, .int .u64 u, .int .i64 0])) w' := by
  subst hn
  obtain ⟨A, c, h0, h1, h2⟩ := own_parts2 h
  injection h0 with h3 h4 h5
  subst h3; subst h5
  obtain ⟨A2, c2, rfl, h6, h7⟩ := own_parts2 hs
  exact ⟨A1, c1, A2, c2, rfl, h1, h6, h, own_lower hs hB, fun b o s b' o' s' e1 e2 => by have := hA b o s e1; have := (OwnShave.in_ hs b' o' s' e2).1; omega, hx⟩
theorem OwnEnt.box {w : World} {base n c : Nat} {A : Option Addr} {l : List (Int × Int × Int × Int × Int × Int × Int × Int)} (h : OwnEnt w base (.slice A n c) n l) (hk : 0 < n) : ∃ g, A = some ⟨g, 0, none⟩ ∧ base ≤ g ∧ g < w.heap.size := by
  rcases h.2 with ⟨h', h0⟩ | ⟨g, cap, cur, h', hbg, _⟩
  · exfalso
    injection h' with h1 h2 h3
    omega
  · injection h' with h1 h2 h3
    subst h1; subst h3
    exact ⟨g, rfl, hbg, (World.ownsRow.lt h g rfl).2⟩
theorem shave_infoP : ∃ i0, Tryz.prog.info? 92 = some i0 ∧ i0.zero = some (.agg #[.int .i64 0, .int .u64 0]) ∧ i0.size = 2 ∧ i0.bytes = 16 := info_parts shave_info
end
section
open Go.RowKit Go.ChangeShapes Go.WideShapes Go.Deep Go.Joins
theorem own_bel {w w' : World} {B base g : Nat} {e : TypeId} {sz n m c : Nat} {xs : List Value} (h : w.ownsRow base e sz (.slice (some ⟨g, 0, none⟩) m c) n xs) (hb : Below B w w') (hg : g < B) : w'.ownsRow base e sz (.slice (some ⟨g, 0, none⟩) m c) n xs := by
  refine ⟨h.1, ?_⟩
  rcases h.2 with h2 | ⟨q, cap, cur, e', hq, hq2, rest⟩
  · exact .inl h2
  · have e2 : q = g := by injection e' with h1 _ _; injection h1 with h1; injection h1 with h1 _ _; exact h1.symm
    exact .inr ⟨q, cap, cur, e', hq, (Below.block hb q (by omega)).trans hq2, rest⟩
set_option maxRecDepth 100000 in
set_option maxHeartbeats 4000000 in
theorem qcut_at (A : Option Addr) (n c : Nat) (l : List (Int × Int × Int × Int × Int × Int × Int × Int)) (v h p e1 e2 er : Int) (hb : Bool) (w : World) (hs : Sl w 8 A n c (l.flatMap entC)) (hn : n ≤ 100000) (hf : ∀ x ∈ l, FitsQ x) (hnil : A = none → c = 0) (hh : h ≤ 9223372036854775807) (hp : Word p) (he : chkQ l = (e1, e2)) (hhb : hb = (decide (1 ≤ h) && decide (h ≤ 4294967296))) (hv : er = cutG e1 v p hb) (R : List (Int × Int × Int × Int × Int × Int × Int × Int)) (S : List (Int × Int)) (U : Int) (hR : (R, S, U) = if er = 0 then (cutL l v h p n, cutS l v h p n, cutA l v h p n) else ([], [], 0)) :
    Calls Tryz.prog 57 #[.slice A n c, .int .i64 v, .int .i64 h, .int .u64 p] w (RetCut R S U er w) := by
  obtain ⟨i0, hi0, hz0, hz1, hz2⟩ := shave_infoP
  have hll := hs.rlen entC_len (by decide)
  have hns := hs.small
  have HLL := Lib.hid hll
  have HS := Lib.hid hs
  have HS0 := Lib.hid hs
  have HF := Lib.hid hf
  have HV := Lib.hid hv
  have HR := Lib.hid hR
  have HN := Lib.hid hnil
  have HH := Lib.hid hh
  have p0 : 0 ≤ p := hp.1
  have CC := Lib.hid (fun w' (hx : Ext w w') => qcheck_any A n c l e1 e2 w' (hs.ext hx) hf he)
  have CH := Lib.hid (fun w' => qheight_any h hb hhb w')
  have HTT := Lib.hid (show e1 = 0 → totB l ≤ 4611686018427387904 from fun h0 => (chkQ_zero (by rw [← h0]; exact he)).2)
  clear hs hf he hhb hv hR hnil hll hh
  go_enter Tryz.func57, Tryz.ntmps57
  go_wp2_with fail
  (with_reducible refine (CC.out _ (by repeat (first | with_reducible exact Ext.refl w | with_reducible refine Ext.drew ?_ | with_reducible refine Ext.drewN ?_ _ | with_reducible refine Ext.alloc ?_ _ | with_reducible refine Ext.setCell ?_ (by first | omega | (simp; done) | (simp; omega)) _))).mono ?_)
  rintro e w1 ⟨rfl, hx1⟩
  have z1 := hx1.size
  try simp at z1
  replace HS := Lib.hid (HS.out.ext (Ext.trans (by repeat (first | with_reducible exact Ext.refl _ | with_reducible refine Ext.drew ?_ | with_reducible refine Ext.drewN ?_ _ | with_reducible refine Ext.alloc ?_ _ | with_reducible refine Ext.setCell ?_ (by first | omega | (simp; done) | (simp; omega)) _)) hx1))
  have X1 : Hid (Ext w w1) := Lib.hid (Ext.trans (by repeat (first | with_reducible exact Ext.refl w | with_reducible refine Ext.drew ?_ | with_reducible refine Ext.drewN ?_ _ | with_reducible refine Ext.alloc ?_ _ | with_reducible refine Ext.setCell ?_ (by first | omega | (simp; done) | (simp; omega)) _)) hx1)
  clear hx1 z1
  by_cases q1 : ¬ e1 = 0
  · have q1b : (e1 != 0) = true := by simp [q1]
    go_wp2_with fail
    have hv9 : er = e1 := (by rw [HV.out]; unfold cutG; (repeat' split) <;> first | omega | simp_all)
    obtain ⟨rfl, rfl, rfl⟩ : R = [] ∧ S = [] ∧ U = 0 := by have h := HR.out; rw [if_neg (by omega)] at h; simpa using h
    rw [hv9]
    refine bodyPost_ret (v := .tuple #[.slice none 0 0, .slice none 0 0, .int .u64 0, .int .i64 e1]) (by simp [results, Tryz.results57, go_sem, World.cell?_alloc_past]; try rfl) rfl (RetCut.nil ?_)
    exact (by repeat (first | with_reducible exact X1.out | with_reducible refine Ext.drew ?_ | with_reducible refine Ext.drewN ?_ _ | with_reducible refine Ext.alloc ?_ _ | with_reducible refine Ext.setCell ?_ (by first | omega | (simp; done) | (simp; omega)) _))
  · have q1b : (e1 != 0) = false := by simpa using q1
    by_cases q2 : v < 0
    · have d2 : decide (v < 0) = true := decide_eq_true q2
      have Q2 := Lib.hid q2
      clear q2
      go_wp2_with fail
      have q2 := Q2.out
      have hv9 : er = 3 := (by rw [HV.out]; unfold cutG; (repeat' split) <;> first | omega | simp_all)
      obtain ⟨rfl, rfl, rfl⟩ : R = [] ∧ S = [] ∧ U = 0 := by have h := HR.out; rw [if_neg (by omega)] at h; simpa using h
      rw [hv9]
      refine bodyPost_ret (v := .tuple #[.slice none 0 0, .slice none 0 0, .int .u64 0, .int .i64 3]) (by simp [results, Tryz.results57, go_sem, World.cell?_alloc_past]; try rfl) rfl (RetCut.nil ?_)
      exact (by repeat (first | with_reducible exact X1.out | with_reducible refine Ext.drew ?_ | with_reducible refine Ext.drewN ?_ _ | with_reducible refine Ext.alloc ?_ _ | with_reducible refine Ext.setCell ?_ (by first | omega | (simp; done) | (simp; omega)) _))
    · have d2 : decide (v < 0) = false := decide_eq_false q2
      have Q2 := Lib.hid q2
      clear q2
      by_cases q3 : 32 ≤ v
      · have d3 : decide (32 ≤ v) = true := decide_eq_true q3
        have Q3 := Lib.hid q3
        clear q3
        go_wp2_with fail
        have q2 := Q2.out
        have q3 := Q3.out
        have hv9 : er = 3 := (by rw [HV.out]; unfold cutG; (repeat' split) <;> first | omega | simp_all)
        obtain ⟨rfl, rfl, rfl⟩ : R = [] ∧ S = [] ∧ U = 0 := by have h := HR.out; rw [if_neg (by omega)] at h; simpa using h
        rw [hv9]
        refine bodyPost_ret (v := .tuple #[.slice none 0 0, .slice none 0 0, .int .u64 0, .int .i64 3]) (by simp [results, Tryz.results57, go_sem, World.cell?_alloc_past]; try rfl) rfl (RetCut.nil ?_)
        exact (by repeat (first | with_reducible exact X1.out | with_reducible refine Ext.drew ?_ | with_reducible refine Ext.drewN ?_ _ | with_reducible refine Ext.alloc ?_ _ | with_reducible refine Ext.setCell ?_ (by first | omega | (simp; done) | (simp; omega)) _))
      · have d3 : decide (32 ≤ v) = false := decide_eq_false q3
        have Q3 := Lib.hid q3
        clear q3
        cases hb
        · go_wp2_with fail
          (with_reducible refine (CH.out _).mono ?_)
          rintro e w_1 ⟨rfl, rfl⟩
          go_wp2_with fail
          have q2 := Q2.out
          have q3 := Q3.out
          have hv9 : er = 3 := (by rw [HV.out]; unfold cutG; (repeat' split) <;> first | omega | simp_all)
          obtain ⟨rfl, rfl, rfl⟩ : R = [] ∧ S = [] ∧ U = 0 := by have h := HR.out; rw [if_neg (by omega)] at h; simpa using h
          rw [hv9]
          refine bodyPost_ret (v := .tuple #[.slice none 0 0, .slice none 0 0, .int .u64 0, .int .i64 3]) (by simp [results, Tryz.results57, go_sem, World.cell?_alloc_past]; try rfl) rfl (RetCut.nil ?_)
          exact (by repeat (first | with_reducible exact X1.out | with_reducible refine Ext.drew ?_ | with_reducible refine Ext.drewN ?_ _ | with_reducible refine Ext.alloc ?_ _ | with_reducible refine Ext.setCell ?_ (by first | omega | (simp; done) | (simp; omega)) _))
        · go_wp2_with fail
          (with_reducible refine (CH.out _).mono ?_)
          rintro e w_1 ⟨rfl, rfl⟩
          by_cases q4 : 1000000000 < p
          · have d4 : decide (1000000000 < p) = true := decide_eq_true q4
            have Q4 := Lib.hid q4
            clear q4
            go_wp2_with fail
            have q2 := Q2.out
            have q3 := Q3.out
            have q4 := Q4.out
            have hv9 : er = 3 := (by rw [HV.out]; unfold cutG; (repeat' split) <;> first | omega | simp_all)
            obtain ⟨rfl, rfl, rfl⟩ : R = [] ∧ S = [] ∧ U = 0 := by have h := HR.out; rw [if_neg (by omega)] at h; simpa using h
            rw [hv9]
            refine bodyPost_ret (v := .tuple #[.slice none 0 0, .slice none 0 0, .int .u64 0, .int .i64 3]) (by simp [results, Tryz.results57, go_sem, World.cell?_alloc_past]; try rfl) rfl (RetCut.nil ?_)
            exact (by repeat (first | with_reducible exact X1.out | with_reducible refine Ext.drew ?_ | with_reducible refine Ext.drewN ?_ _ | with_reducible refine Ext.alloc ?_ _ | with_reducible refine Ext.setCell ?_ (by first | omega | (simp; done) | (simp; omega)) _))
          · have d4 : decide (1000000000 < p) = false := decide_eq_false q4
            have Q4 := Lib.hid q4
            clear q4
            go_wp2_with fail
            have hlw := Ext.size X1.out
            (with_reducible refine (eClone_n A n c l _ (HS.out.ext (by repeat (first | with_reducible exact Ext.refl _ | with_reducible refine Ext.drew ?_ | with_reducible refine Ext.drewN ?_ _ | with_reducible refine Ext.alloc ?_ _ | with_reducible refine Ext.setCell ?_ (by first | omega | (simp; done) | (simp; omega)) _))) (by omega) HN.out).mono ?_)
            rintro e w2 ⟨A3, c3, rfl, hA3, hO3, hx2⟩
            have z2 := hx2.size
            try simp at z2
            replace HS := Lib.hid (HS.out.ext (Ext.trans (by repeat (first | with_reducible exact Ext.refl _ | with_reducible refine Ext.drew ?_ | with_reducible refine Ext.drewN ?_ _ | with_reducible refine Ext.alloc ?_ _ | with_reducible refine Ext.setCell ?_ (by first | omega | (simp; done) | (simp; omega)) _)) hx2))
            have X2 : Hid (Ext w w2) := Lib.hid (Ext.trans (by repeat (first | with_reducible exact X1.out | with_reducible refine Ext.drew ?_ | with_reducible refine Ext.drewN ?_ _ | with_reducible refine Ext.alloc ?_ _ | with_reducible refine Ext.setCell ?_ (by first | omega | (simp; done) | (simp; omega)) _)) hx2)
            have HO := Lib.hid (OwnEnt.lower hO3 (show w.heap.size ≤ _ from by first | exact hlw | (simp; omega)))
            clear X1 hx2 z2
            clear hA3 hO3
            go_wp2_with fail
            have q2 := Q2.out
            have q3 := Q3.out
            have q4 := Q4.out
            obtain rfl : er = 0 := (by rw [HV.out]; unfold cutG; (repeat' split) <;> first | omega | simp_all)
            obtain ⟨h1, h2, h3⟩ : R = cutL l v h p n ∧ S = cutS l v h p n ∧ U = cutA l v h p n := by have h := HR.out; rw [if_pos rfl] at h; simpa using h
            have hAB : ∀ b o s, A3 = some ⟨b, o, s⟩ → b < w2.heap.size := fun b o s e => (OwnEnt.in_ HO.out b o s e).2
            have hBw := Ext.size X2.out
            have HX2 : Hid (Ext w _) := Lib.hid (by repeat (first | with_reducible exact X2.out | with_reducible refine Ext.drew ?_ | with_reducible refine Ext.drewN ?_ _ | with_reducible refine Ext.alloc ?_ _ | with_reducible refine Ext.setCell ?_ (by first | omega | (simp; done) | (simp; omega)) _))
            have HTB := Lib.hid (HTT.out (by omega))
            obtain ⟨B, hB⟩ : ∃ B, B = w2.heap.size := ⟨_, rfl⟩
            have hBB : B ≤ w2.heap.size := by omega
            rw [← hB] at hAB hBw
            have HAB := Lib.hid hAB
            have HE := Lib.hid (And.intro h1 (And.intro h2 h3))
            have HO0 : Hid (OwnEnt _ w.heap.size (.slice A3 n c3) n l) := Lib.hid (HO.out.ext (by repeat (first | with_reducible exact Ext.refl _ | with_reducible refine Ext.drew ?_ | with_reducible refine Ext.drewN ?_ _ | with_reducible refine Ext.alloc ?_ _ | with_reducible refine Ext.setCell ?_ (by first | omega | (simp; done) | (simp; omega)) _)))
            clear hAB h1 h2 h3 hB CC CH HR HV HTT HO X2 HS HS0 d2 d3 d4 q1 q1b
            go_loopg [15, 16, 48] n (fun gh q a i wx => gh ≤ n ∧ i = .int .i64 ((n - gh : Nat) : Int) ∧ a = .int .u64 (cutA l v h p (n - gh)) ∧ (∃ A2 c2, q = .slice A2 (cutS l v h p (n - gh)).length c2) ∧ Hid (OwnEnt wx w.heap.size (.slice A3 n c3) n (cutL l v h p (n - gh))) ∧ Hid (OwnShave wx B q (cutS l v h p (n - gh)).length (cutS l v h p (n - gh))) ∧ B ≤ wx.heap.size ∧ Hid (Ext w wx))
            case atStart => exact ⟨Nat.le_refl _, by simp, by rw [Nat.sub_self]; rfl, by rw [Nat.sub_self]; exact ⟨none, 0, rfl⟩, by rw [Nat.sub_self]; exact HO0, by rw [Nat.sub_self]; exact Lib.hid (World.ownsRow_nil _ _ _ _), by first | exact hBB | (simp; done) | (simp; omega), HX2⟩
            case round =>
              obtain ⟨hg, hi, ha, ⟨A2, c2, rfl⟩, HO, HW, hBr, XR⟩ := hrel
              obtain ⟨k, hk⟩ : ∃ k, k = n - gk := ⟨_, rfl⟩
              have hCA := cutA_bound HF.out v h p0 (show p ≤ 1000000000 from by omega) k
              have hCl := cutS_len l v h p k
              rw [← hk] at hi ha HO HW
              rw [← hk]
              subst hi
              have hTk := totB_le HF.out k
              have hTB := HTB.out
              by_cases hz : gk = 0
              · have hkn : ¬ (k : Int) < (n : Int) := by omega
                obtain rfl : k = n := by omega
                obtain ⟨h1, h2, h3⟩ := HE.out
                rw [← h1] at HO
                rw [← h2] at HW
                rw [← h2]
                rw [← h3] at ha
                have E := Lib.hid (show RetCut R S U 0 w (.returned (.tuple #[.slice A3 k c3, .slice A2 S.length c2, .int .u64 U, .int .i64 0])) wr from RetCut.mk HO.out HW.out hBw HAB.out (by rw [h1, cutL_len]; exact HLL.out.symm) XR.out)
                subst ha
                clear hk hg hz HO HW HO0 h1 h2 h3 HE hCA hCl hTk hTB XR
                go_wp2
                refine bodyPost_ret (v := .tuple #[.slice A3 k c3, .slice A2 S.length c2, .int .u64 U, .int .i64 0]) (by simp [results, Tryz.results57, go_sem]; try rfl) rfl ?_
                exact E.out
              · have hkn : (k : Int) < (n : Int) := by omega
                have hkl : k < l.length := by have := HLL.out; omega
                obtain ⟨CA, hCAe⟩ : ∃ CA, CA = cutA l v h p k := ⟨_, rfl⟩
                obtain ⟨CS, hCSe⟩ : ∃ CS, CS = cutS l v h p k := ⟨_, rfl⟩
                obtain ⟨LC, hLCe⟩ : ∃ LC, LC = cutL l v h p k := ⟨_, rfl⟩
                rw [← hCAe] at ha hCA
                rw [← hCSe] at HW hCl ⊢
                rw [← hLCe] at HO
                subst ha
                obtain ⟨g, rfl, hgw, hgr⟩ := OwnEnt.box HO.out (show 0 < n from by omega)
                have hgB : g < B := HAB.out g 0 none rfl
                obtain ⟨xw, hl_x⟩ : ∃ x, l[k]? = some x := ⟨_, List.getElem?_eq_getElem (by omega)⟩
                have hLCx : LC[k]? = some xw := by rw [hLCe, cutL_get l v h p k (Nat.le_refl _)]; exact hl_x
                have hLCn : LC.length = n := by rw [hLCe, cutL_len]; exact HLL.out
                obtain ⟨xo, xv, xs, xp, xf, xc, xi, xb⟩ := xw
                have HC : Hid (Cur 53 entC 8 wr w.heap.size g n c3 LC k (xo, xv, xs, xp, xf, xc, xi, xb)) := Lib.hid (Cur.mk HO.out hLCx hLCn)
                have hset : LC.set k (xo, xv, xs, xp, xf, xc, xi, xb) = LC := by obtain ⟨q1, q2⟩ := List.getElem?_eq_some_iff.1 hLCx; rw [← q2, List.set_getElem_self]
                have hba := (HF.out _ (List.mem_of_getElem? hl_x)).ba
                obtain ⟨u1, u2, _⟩ := prt_bounds hba.1 p0 (show p ≤ 1000000000 from by omega)
                have pa := pa_prt hba p0 (show p ≤ 1000000000 from by omega)
                have hTn := totB_take hl_x
                have hTk1 := totB_le HF.out (k + 1)
                obtain ⟨P, hP⟩ : ∃ P, P = prt (baE (xo, xv, xs, xp, xf, xc, xi, xb)) p := ⟨_, rfl⟩
                have CT : bkE (xo, xv, xs, xp, xf, xc, xi, xb) v h = true → cutL l v h p (k + 1) = LC.set k (xo, xv, xs, xp, xf, xc, xi, xb - P) ∧ cutS l v h p (k + 1) = CS ++ [((k : Int), P)] ∧ cutA l v h p (k + 1) = CA + P := fun e => by rw [hLCe, hCSe, hCAe, hP]; exact cut_t hl_x e
                have CF : bkE (xo, xv, xs, xp, xf, xc, xi, xb) v h = false → cutL l v h p (k + 1) = LC ∧ cutS l v h p (k + 1) = CS ∧ cutA l v h p (k + 1) = CA := fun e => by rw [hLCe, hCSe, hCAe]; exact cut_f hl_x e
                have CB := Lib.hid (fun w => tBacked_any xv xs xp xf v h xc w)
                have CP := Lib.hid (fun w => fPart_any xb p hba ⟨p0, by omega⟩ w)
                rw [show paN xb p = P from by rw [hP]; exact pa.1, show paE xb p = 0 from pa.2] at CP
                rw [← hP] at u1 u2
                change P ≤ xb at u2
                change totB (l.take (k + 1)) = totB (l.take k) + xb at hTn
                have b0 : 0 ≤ xb := hba.1
                have b1' : xb < 18446744073709551616 := hba.2
                rw [show bkdB xv xs xp xf v h xc = bkE (xo, xv, xs, xp, xf, xc, xi, xb) v h from rfl] at CB
                have HCT := Lib.hid (And.intro CT CF)
                have HSET := Lib.hid hset
                have HK := Lib.hid (And.intro hk (And.intro hg hz))
                have cu1 : 0 ≤ CA + P := by omega
                have cu2 : CA + P ≤ 4611686018427387904 := by omega
                have cu3 : 0 ≤ xb - P := by omega
                have cu4 : xb - P < 18446744073709551616 := by omega
                have hCS : CS.length ≤ 100000 := by omega
            
                have x_0 : wr.cell? ⟨g, k * 8, none⟩ = _ := Cur.cell entC_len HC.out (j := 0) rfl
                have x_1 : wr.cell? ⟨g, k * 8 + 1, none⟩ = _ := Cur.cell entC_len HC.out (j := 1) rfl
                have x_2 : wr.cell? ⟨g, k * 8 + 2, none⟩ = _ := Cur.cell entC_len HC.out (j := 2) rfl
                have x_3 : wr.cell? ⟨g, k * 8 + 3, none⟩ = _ := Cur.cell entC_len HC.out (j := 3) rfl
                have x_4 : wr.cell? ⟨g, k * 8 + 4, none⟩ = _ := Cur.cell entC_len HC.out (j := 4) rfl
                have x_5 : wr.cell? ⟨g, k * 8 + 5, none⟩ = _ := Cur.cell entC_len HC.out (j := 5) rfl
                have x_6 : wr.cell? ⟨g, k * 8 + 6, none⟩ = _ := Cur.cell entC_len HC.out (j := 6) rfl
                have x_7 : wr.cell? ⟨g, k * 8 + 7, none⟩ = _ := Cur.cell entC_len HC.out (j := 7) rfl
                have x_7f : wr.frozen? ⟨g, k * 8 + 7, none⟩ = false := Cur.froz HC.out 7
                have rx : g < wr.heap.size := hgr
                simp only [] at x_0 x_1 x_2 x_3 x_4 x_5 x_6 x_7
                clear hk hg hz hkl hl_x hLCx hLCn hba pa hTn hTk1 hP CT CF hset hCAe hCSe hLCe HO HO0 hCA hCl hTk hTB
                cases e1 : bkE (xo, xv, xs, xp, xf, xc, xi, xb) v h
                · rw [e1] at CB
                  obtain ⟨k1, k2, k3⟩ := HCT.out.2 e1
                  have HT := Lib.hid (And.intro k1 (And.intro k2 k3))
                  clear k1 k2 k3 e1 HCT
                  go_wp2_with fail
                  refine wp_region_held_drew (S := fun w' => w'.cell? ⟨g, k * 8 + 1, none⟩ = some (.int .i64 xv) ∧ w'.cell? ⟨g, k * 8 + 2, none⟩ = some (.int .i64 xs) ∧ w'.cell? ⟨g, k * 8 + 3, none⟩ = some (.int .i64 xp) ∧ w'.cell? ⟨g, k * 8 + 4, none⟩ = some (.int .i64 xf) ∧ w'.cell? ⟨g, k * 8 + 5, none⟩ = some (.int .i64 xc)) (by kernel_rfl) (by first | exact ⟨x_1, x_2, x_3, x_4, x_5⟩ | (simp [go_sem, World.cell?_alloc_past, x_0, x_1, x_2, x_3, x_4, x_5, x_6, x_7, x_7f]; done)) (fun hHeld => ?_)
                  (refine' take_in 0 rfl (by kernel_rfl) (by kernel_rfl) (by kernel_rfl) (fun _ _ _ h => h) (by rfl) (by assumption) ?_ ?_; rotate_left; focus (intro w hSw; (try dsimp only at hSw); go_simp; try with_reducible rfl)); try simp only [Act.put, List.setIfInBounds_toArray, List.set_cons_zero, List.set_cons_succ]
                  (refine' take_in 1 rfl (by kernel_rfl) (by kernel_rfl) (by kernel_rfl) (fun _ _ _ h => h) (by rfl) (by assumption) ?_ ?_; rotate_left; focus (intro w hSw; (try dsimp only at hSw); go_simp; try with_reducible rfl)); try simp only [Act.put, List.setIfInBounds_toArray, List.set_cons_zero, List.set_cons_succ]
                  (refine' take_in 2 rfl (by kernel_rfl) (by kernel_rfl) (by kernel_rfl) (fun _ _ _ h => h) (by rfl) (by assumption) ?_ ?_; rotate_left; focus (intro w hSw; (try dsimp only at hSw); go_simp; try with_reducible rfl)); try simp only [Act.put, List.setIfInBounds_toArray, List.set_cons_zero, List.set_cons_succ]
                  (refine' take_in 3 rfl (by kernel_rfl) (by kernel_rfl) (by kernel_rfl) (fun _ _ _ h => h) (by rfl) (by assumption) ?_ ?_; rotate_left; focus (intro w hSw; (try dsimp only at hSw); go_simp; try with_reducible rfl)); try simp only [Act.put, List.setIfInBounds_toArray, List.set_cons_zero, List.set_cons_succ]
                  (refine' take_in 4 rfl (by kernel_rfl) (by kernel_rfl) (by kernel_rfl) (fun _ _ _ h => h) (by rfl) (by assumption) ?_ ?_; rotate_left; focus (intro w hSw; (try dsimp only at hSw); go_simp; try with_reducible rfl)); try simp only [Act.put, List.setIfInBounds_toArray, List.set_cons_zero, List.set_cons_succ]
                  (refine' take_in 5 rfl (by kernel_rfl) (by kernel_rfl) (by kernel_rfl) (fun _ _ _ h => h) (by rfl) (by assumption) ?_ ?_; rotate_left; focus (intro w hSw; (try dsimp only at hSw); go_simp; try with_reducible rfl)); try simp only [Act.put, List.setIfInBounds_toArray, List.set_cons_zero, List.set_cons_succ]
                  (refine' take_in 6 rfl (by kernel_rfl) (by kernel_rfl) (by kernel_rfl) (fun _ _ _ h => h) (by rfl) (by assumption) ?_ ?_; rotate_left; focus (intro w hSw; (try dsimp only at hSw); go_simp; try with_reducible rfl)); try simp only [Act.put, List.setIfInBounds_toArray, List.set_cons_zero, List.set_cons_succ]
                  (refine' take_in 7 rfl (by kernel_rfl) (by kernel_rfl) (by kernel_rfl) (fun _ _ _ h => h) (by rfl) (by assumption) ?_ ?_; rotate_left; focus (intro w hSw; (try dsimp only at hSw); go_simp; try with_reducible rfl)); try simp only [Act.put, List.setIfInBounds_toArray, List.set_cons_zero, List.set_cons_succ]
                  (refine' take_in 8 rfl (by kernel_rfl) (by kernel_rfl) (by kernel_rfl) (fun _ _ _ h => h) (by rfl) (by assumption) ?_ ?_; rotate_left; focus (intro w hSw; (try dsimp only at hSw); go_simp; try with_reducible rfl)); try simp only [Act.put, List.setIfInBounds_toArray, List.set_cons_zero, List.set_cons_succ]
                  (refine' take_in 9 rfl (by kernel_rfl) (by kernel_rfl) (by kernel_rfl) (fun _ _ _ h => h) (by rfl) (by assumption) ?_ ?_; rotate_left; focus (intro w hSw; (try dsimp only at hSw); go_simp; try with_reducible rfl)); try simp only [Act.put, List.setIfInBounds_toArray, List.set_cons_zero, List.set_cons_succ]
                  refine' next_in 10 rfl (by kernel_rfl) (by rfl) (fun K hK => ?_)
                  go_simp
                  (with_reducible refine (CB.out _).mono ?_)
                  rintro e w11 ⟨rfl, hx11⟩
                  replace x_1 : w11.cell? ⟨g, k * 8 + 1, none⟩ = some (.int .i64 xv) := hx11.has (by first | exact x_1 | (simp [go_sem, World.cell?_alloc_past, x_0, x_1, x_2, x_3, x_4, x_5, x_6, x_7, x_7f]; done))
                  replace x_2 : w11.cell? ⟨g, k * 8 + 2, none⟩ = some (.int .i64 xs) := hx11.has (by first | exact x_2 | (simp [go_sem, World.cell?_alloc_past, x_0, x_1, x_2, x_3, x_4, x_5, x_6, x_7, x_7f]; done))
                  replace x_3 : w11.cell? ⟨g, k * 8 + 3, none⟩ = some (.int .i64 xp) := hx11.has (by first | exact x_3 | (simp [go_sem, World.cell?_alloc_past, x_0, x_1, x_2, x_3, x_4, x_5, x_6, x_7, x_7f]; done))
                  replace x_4 : w11.cell? ⟨g, k * 8 + 4, none⟩ = some (.int .i64 xf) := hx11.has (by first | exact x_4 | (simp [go_sem, World.cell?_alloc_past, x_0, x_1, x_2, x_3, x_4, x_5, x_6, x_7, x_7f]; done))
                  replace x_5 : w11.cell? ⟨g, k * 8 + 5, none⟩ = some (.int .i64 xc) := hx11.has (by first | exact x_5 | (simp [go_sem, World.cell?_alloc_past, x_0, x_1, x_2, x_3, x_4, x_5, x_6, x_7, x_7f]; done))
                  have z11 := hx11.size
                  try simp at z11
                  have rx : g < w11.heap.size := by omega
                  have rxa : g < w11.heap.size + 1 := by omega
                  have rxb : g < w11.heap.size + 1 + 1 := by omega
                  have rxc : g < w11.heap.size + 1 + 1 + 1 := by omega
                  have rxn : ¬ g = w11.heap.size := by omega
                  replace HC := Lib.hid (HC.out.ext (Ext.trans (by repeat (first | with_reducible exact Ext.refl _ | with_reducible refine Ext.drew ?_ | with_reducible refine Ext.drewN ?_ _ | with_reducible refine Ext.alloc ?_ _ | with_reducible refine Ext.setCell ?_ (by first | omega | (simp; done) | (simp; omega)) _)) hx11))
                  replace HW := Lib.hid (HW.out.ext (Ext.trans (by repeat (first | with_reducible exact Ext.refl _ | with_reducible refine Ext.drew ?_ | with_reducible refine Ext.drewN ?_ _ | with_reducible refine Ext.alloc ?_ _ | with_reducible refine Ext.setCell ?_ (by first | omega | (simp; done) | (simp; omega)) _)) hx11))
                  have X11 : Hid (Ext w w11) := Lib.hid (Ext.trans (by repeat (first | with_reducible exact XR.out | with_reducible refine Ext.drew ?_ | with_reducible refine Ext.drewN ?_ _ | with_reducible refine Ext.alloc ?_ _ | with_reducible refine Ext.setCell ?_ (by first | omega | (simp; done) | (simp; omega)) _)) hx11)
                  clear x_6 x_0 x_7 x_7f XR hx11
                  refine hK.out _ _ (by (first | exact ⟨x_1, x_2, x_3, x_4, x_5⟩ | (simp [go_sem, World.cell?_alloc_past, x_1, x_2, x_3, x_4, x_5, rx, rxa, rxb, rxc, rxn]; done))) (fun hHeld => ?_); clear hK K; try simp only [Act.put, List.setIfInBounds_toArray, List.set_cons_zero, List.set_cons_succ]
                  (refine' take_in 11 rfl (by kernel_rfl) (by kernel_rfl) (by kernel_rfl) (fun _ _ _ h => h) (by rfl) (by assumption) ?_ ?_; rotate_left; focus (intro w hSw; (try dsimp only at hSw); go_simp; try with_reducible rfl)); try simp only [Act.put, List.setIfInBounds_toArray, List.set_cons_zero, List.set_cons_succ]
                  refine wpAnyH_done (by kernel_rfl) ?_ _
                  go_wp2_with fail
                  go_roundg (gk - 1)
                  case measure => have := HK.out; omega
                  case rel =>
                    have e3 : n - (gk - 1) = k + 1 := by have := HK.out; omega
                    rw [e3]
                    obtain ⟨k1, k2, k3⟩ := HT.out
                    rw [k1, k2, k3]
                    exact ⟨by have := HK.out; omega, num_eq (by have := HK.out; omega), rfl, ⟨_, _, rfl⟩, Lib.hid (by have h := Cur.own (HC.out.ext (by repeat (first | with_reducible exact Ext.refl _ | with_reducible refine Ext.drew ?_ | with_reducible refine Ext.drewN ?_ _ | with_reducible refine Ext.alloc ?_ _ | with_reducible refine Ext.setCell ?_ (by first | omega | (simp; done) | (simp; omega)) _))); rw [HSET.out] at h; exact h), Lib.hid (show OwnShave _ _ _ _ _ from (HW.out.ext (by repeat (first | with_reducible exact Ext.refl _ | with_reducible refine Ext.drew ?_ | with_reducible refine Ext.drewN ?_ _ | with_reducible refine Ext.alloc ?_ _ | with_reducible refine Ext.setCell ?_ (by first | omega | (simp; done) | (simp; omega)) _)))), by first | omega | (simp; omega), Lib.hid (by repeat (first | with_reducible exact X11.out | with_reducible refine Ext.drew ?_ | with_reducible refine Ext.drewN ?_ _ | with_reducible refine Ext.alloc ?_ _ | with_reducible refine Ext.setCell ?_ (by first | omega | (simp; done) | (simp; omega)) _))⟩
                · rw [e1] at CB
                  obtain ⟨k1, k2, k3⟩ := HCT.out.1 e1
                  have HT := Lib.hid (And.intro k1 (And.intro k2 k3))
                  clear k1 k2 k3 e1 HCT
                  go_wp2_with fail
                  refine wp_region_held_drew (S := fun w' => w'.cell? ⟨g, k * 8 + 1, none⟩ = some (.int .i64 xv) ∧ w'.cell? ⟨g, k * 8 + 2, none⟩ = some (.int .i64 xs) ∧ w'.cell? ⟨g, k * 8 + 3, none⟩ = some (.int .i64 xp) ∧ w'.cell? ⟨g, k * 8 + 4, none⟩ = some (.int .i64 xf) ∧ w'.cell? ⟨g, k * 8 + 5, none⟩ = some (.int .i64 xc)) (by kernel_rfl) (by first | exact ⟨x_1, x_2, x_3, x_4, x_5⟩ | (simp [go_sem, World.cell?_alloc_past, x_0, x_1, x_2, x_3, x_4, x_5, x_6, x_7, x_7f]; done)) (fun hHeld => ?_)
                  (refine' take_in 0 rfl (by kernel_rfl) (by kernel_rfl) (by kernel_rfl) (fun _ _ _ h => h) (by rfl) (by assumption) ?_ ?_; rotate_left; focus (intro w hSw; (try dsimp only at hSw); go_simp; try with_reducible rfl)); try simp only [Act.put, List.setIfInBounds_toArray, List.set_cons_zero, List.set_cons_succ]
                  (refine' take_in 1 rfl (by kernel_rfl) (by kernel_rfl) (by kernel_rfl) (fun _ _ _ h => h) (by rfl) (by assumption) ?_ ?_; rotate_left; focus (intro w hSw; (try dsimp only at hSw); go_simp; try with_reducible rfl)); try simp only [Act.put, List.setIfInBounds_toArray, List.set_cons_zero, List.set_cons_succ]
                  (refine' take_in 2 rfl (by kernel_rfl) (by kernel_rfl) (by kernel_rfl) (fun _ _ _ h => h) (by rfl) (by assumption) ?_ ?_; rotate_left; focus (intro w hSw; (try dsimp only at hSw); go_simp; try with_reducible rfl)); try simp only [Act.put, List.setIfInBounds_toArray, List.set_cons_zero, List.set_cons_succ]
                  (refine' take_in 3 rfl (by kernel_rfl) (by kernel_rfl) (by kernel_rfl) (fun _ _ _ h => h) (by rfl) (by assumption) ?_ ?_; rotate_left; focus (intro w hSw; (try dsimp only at hSw); go_simp; try with_reducible rfl)); try simp only [Act.put, List.setIfInBounds_toArray, List.set_cons_zero, List.set_cons_succ]
                  (refine' take_in 4 rfl (by kernel_rfl) (by kernel_rfl) (by kernel_rfl) (fun _ _ _ h => h) (by rfl) (by assumption) ?_ ?_; rotate_left; focus (intro w hSw; (try dsimp only at hSw); go_simp; try with_reducible rfl)); try simp only [Act.put, List.setIfInBounds_toArray, List.set_cons_zero, List.set_cons_succ]
                  (refine' take_in 5 rfl (by kernel_rfl) (by kernel_rfl) (by kernel_rfl) (fun _ _ _ h => h) (by rfl) (by assumption) ?_ ?_; rotate_left; focus (intro w hSw; (try dsimp only at hSw); go_simp; try with_reducible rfl)); try simp only [Act.put, List.setIfInBounds_toArray, List.set_cons_zero, List.set_cons_succ]
                  (refine' take_in 6 rfl (by kernel_rfl) (by kernel_rfl) (by kernel_rfl) (fun _ _ _ h => h) (by rfl) (by assumption) ?_ ?_; rotate_left; focus (intro w hSw; (try dsimp only at hSw); go_simp; try with_reducible rfl)); try simp only [Act.put, List.setIfInBounds_toArray, List.set_cons_zero, List.set_cons_succ]
                  (refine' take_in 7 rfl (by kernel_rfl) (by kernel_rfl) (by kernel_rfl) (fun _ _ _ h => h) (by rfl) (by assumption) ?_ ?_; rotate_left; focus (intro w hSw; (try dsimp only at hSw); go_simp; try with_reducible rfl)); try simp only [Act.put, List.setIfInBounds_toArray, List.set_cons_zero, List.set_cons_succ]
                  (refine' take_in 8 rfl (by kernel_rfl) (by kernel_rfl) (by kernel_rfl) (fun _ _ _ h => h) (by rfl) (by assumption) ?_ ?_; rotate_left; focus (intro w hSw; (try dsimp only at hSw); go_simp; try with_reducible rfl)); try simp only [Act.put, List.setIfInBounds_toArray, List.set_cons_zero, List.set_cons_succ]
                  (refine' take_in 9 rfl (by kernel_rfl) (by kernel_rfl) (by kernel_rfl) (fun _ _ _ h => h) (by rfl) (by assumption) ?_ ?_; rotate_left; focus (intro w hSw; (try dsimp only at hSw); go_simp; try with_reducible rfl)); try simp only [Act.put, List.setIfInBounds_toArray, List.set_cons_zero, List.set_cons_succ]
                  refine' next_in 10 rfl (by kernel_rfl) (by rfl) (fun K hK => ?_)
                  go_simp
                  (with_reducible refine (CB.out _).mono ?_)
                  rintro e w11 ⟨rfl, hx11⟩
                  replace x_7f : w11.frozen? ⟨g, k * 8 + 7, none⟩ = false := hx11.froz (v := .int .u64 xb) (by first | exact x_7 | (simp [go_sem, World.cell?_alloc_past, x_0, x_1, x_2, x_3, x_4, x_5, x_6, x_7, x_7f]; done)) (by first | exact x_7f | (simp [go_sem, World.cell?_alloc_past, x_0, x_1, x_2, x_3, x_4, x_5, x_6, x_7, x_7f]; done))
                  replace x_1 : w11.cell? ⟨g, k * 8 + 1, none⟩ = some (.int .i64 xv) := hx11.has (by first | exact x_1 | (simp [go_sem, World.cell?_alloc_past, x_0, x_1, x_2, x_3, x_4, x_5, x_6, x_7, x_7f]; done))
                  replace x_2 : w11.cell? ⟨g, k * 8 + 2, none⟩ = some (.int .i64 xs) := hx11.has (by first | exact x_2 | (simp [go_sem, World.cell?_alloc_past, x_0, x_1, x_2, x_3, x_4, x_5, x_6, x_7, x_7f]; done))
                  replace x_3 : w11.cell? ⟨g, k * 8 + 3, none⟩ = some (.int .i64 xp) := hx11.has (by first | exact x_3 | (simp [go_sem, World.cell?_alloc_past, x_0, x_1, x_2, x_3, x_4, x_5, x_6, x_7, x_7f]; done))
                  replace x_4 : w11.cell? ⟨g, k * 8 + 4, none⟩ = some (.int .i64 xf) := hx11.has (by first | exact x_4 | (simp [go_sem, World.cell?_alloc_past, x_0, x_1, x_2, x_3, x_4, x_5, x_6, x_7, x_7f]; done))
                  replace x_5 : w11.cell? ⟨g, k * 8 + 5, none⟩ = some (.int .i64 xc) := hx11.has (by first | exact x_5 | (simp [go_sem, World.cell?_alloc_past, x_0, x_1, x_2, x_3, x_4, x_5, x_6, x_7, x_7f]; done))
                  replace x_7 : w11.cell? ⟨g, k * 8 + 7, none⟩ = some (.int .u64 xb) := hx11.has (by first | exact x_7 | (simp [go_sem, World.cell?_alloc_past, x_0, x_1, x_2, x_3, x_4, x_5, x_6, x_7, x_7f]; done))
                  have z11 := hx11.size
                  try simp at z11
                  have rx : g < w11.heap.size := by omega
                  have rxa : g < w11.heap.size + 1 := by omega
                  have rxb : g < w11.heap.size + 1 + 1 := by omega
                  have rxc : g < w11.heap.size + 1 + 1 + 1 := by omega
                  have rxn : ¬ g = w11.heap.size := by omega
                  replace HC := Lib.hid (HC.out.ext (Ext.trans (by repeat (first | with_reducible exact Ext.refl _ | with_reducible refine Ext.drew ?_ | with_reducible refine Ext.drewN ?_ _ | with_reducible refine Ext.alloc ?_ _ | with_reducible refine Ext.setCell ?_ (by first | omega | (simp; done) | (simp; omega)) _)) hx11))
                  replace HW := Lib.hid (HW.out.ext (Ext.trans (by repeat (first | with_reducible exact Ext.refl _ | with_reducible refine Ext.drew ?_ | with_reducible refine Ext.drewN ?_ _ | with_reducible refine Ext.alloc ?_ _ | with_reducible refine Ext.setCell ?_ (by first | omega | (simp; done) | (simp; omega)) _)) hx11))
                  have X11 : Hid (Ext w w11) := Lib.hid (Ext.trans (by repeat (first | with_reducible exact XR.out | with_reducible refine Ext.drew ?_ | with_reducible refine Ext.drewN ?_ _ | with_reducible refine Ext.alloc ?_ _ | with_reducible refine Ext.setCell ?_ (by first | omega | (simp; done) | (simp; omega)) _)) hx11)
                  clear x_6 x_0 XR hx11
                  refine hK.out _ _ (by (first | exact ⟨x_1, x_2, x_3, x_4, x_5⟩ | (simp [go_sem, World.cell?_alloc_past, x_7f, x_1, x_2, x_3, x_4, x_5, x_7, rx, rxa, rxb, rxc, rxn]; done))) (fun hHeld => ?_); clear hK K; try simp only [Act.put, List.setIfInBounds_toArray, List.set_cons_zero, List.set_cons_succ]
                  (refine' take_in 11 rfl (by kernel_rfl) (by kernel_rfl) (by kernel_rfl) (fun _ _ _ h => h) (by rfl) (by assumption) ?_ ?_; rotate_left; focus (intro w hSw; (try dsimp only at hSw); go_simp; try with_reducible rfl)); try simp only [Act.put, List.setIfInBounds_toArray, List.set_cons_zero, List.set_cons_succ]
                  refine wpAnyH_done (by kernel_rfl) ?_ _
                  go_wp2_with fail
                  (with_reducible refine (CP.out _).mono ?_)
                  rintro e w12 ⟨rfl, hx12⟩
                  replace x_7f : w12.frozen? ⟨g, k * 8 + 7, none⟩ = false := hx12.froz (v := .int .u64 xb) (by first | exact x_7 | (simp [go_sem, World.cell?_alloc_past, x_7f, x_1, x_2, x_3, x_4, x_5, x_7, rx, rxa, rxb, rxc, rxn]; done)) (by first | exact x_7f | (simp [go_sem, World.cell?_alloc_past, x_7f, x_1, x_2, x_3, x_4, x_5, x_7, rx, rxa, rxb, rxc, rxn]; done))
                  replace x_1 : w12.cell? ⟨g, k * 8 + 1, none⟩ = some (.int .i64 xv) := hx12.has (by first | exact x_1 | (simp [go_sem, World.cell?_alloc_past, x_7f, x_1, x_2, x_3, x_4, x_5, x_7, rx, rxa, rxb, rxc, rxn]; done))
                  replace x_2 : w12.cell? ⟨g, k * 8 + 2, none⟩ = some (.int .i64 xs) := hx12.has (by first | exact x_2 | (simp [go_sem, World.cell?_alloc_past, x_7f, x_1, x_2, x_3, x_4, x_5, x_7, rx, rxa, rxb, rxc, rxn]; done))
                  replace x_3 : w12.cell? ⟨g, k * 8 + 3, none⟩ = some (.int .i64 xp) := hx12.has (by first | exact x_3 | (simp [go_sem, World.cell?_alloc_past, x_7f, x_1, x_2, x_3, x_4, x_5, x_7, rx, rxa, rxb, rxc, rxn]; done))
                  replace x_4 : w12.cell? ⟨g, k * 8 + 4, none⟩ = some (.int .i64 xf) := hx12.has (by first | exact x_4 | (simp [go_sem, World.cell?_alloc_past, x_7f, x_1, x_2, x_3, x_4, x_5, x_7, rx, rxa, rxb, rxc, rxn]; done))
                  replace x_5 : w12.cell? ⟨g, k * 8 + 5, none⟩ = some (.int .i64 xc) := hx12.has (by first | exact x_5 | (simp [go_sem, World.cell?_alloc_past, x_7f, x_1, x_2, x_3, x_4, x_5, x_7, rx, rxa, rxb, rxc, rxn]; done))
                  replace x_7 : w12.cell? ⟨g, k * 8 + 7, none⟩ = some (.int .u64 xb) := hx12.has (by first | exact x_7 | (simp [go_sem, World.cell?_alloc_past, x_7f, x_1, x_2, x_3, x_4, x_5, x_7, rx, rxa, rxb, rxc, rxn]; done))
                  have z12 := hx12.size
                  try simp at z12
                  replace rx : g < w12.heap.size := by omega
                  replace rxa : g < w12.heap.size + 1 := by omega
                  replace rxb : g < w12.heap.size + 1 + 1 := by omega
                  replace rxc : g < w12.heap.size + 1 + 1 + 1 := by omega
                  replace rxn : ¬ g = w12.heap.size := by omega
                  replace HC := Lib.hid (HC.out.ext (Ext.trans (by repeat (first | with_reducible exact Ext.refl _ | with_reducible refine Ext.drew ?_ | with_reducible refine Ext.drewN ?_ _ | with_reducible refine Ext.alloc ?_ _ | with_reducible refine Ext.setCell ?_ (by first | omega | (simp; done) | (simp; omega)) _)) hx12))
                  replace HW := Lib.hid (HW.out.ext (Ext.trans (by repeat (first | with_reducible exact Ext.refl _ | with_reducible refine Ext.drew ?_ | with_reducible refine Ext.drewN ?_ _ | with_reducible refine Ext.alloc ?_ _ | with_reducible refine Ext.setCell ?_ (by first | omega | (simp; done) | (simp; omega)) _)) hx12))
                  have X12 : Hid (Ext w w12) := Lib.hid (Ext.trans (by repeat (first | with_reducible exact X11.out | with_reducible refine Ext.drew ?_ | with_reducible refine Ext.drewN ?_ _ | with_reducible refine Ext.alloc ?_ _ | with_reducible refine Ext.setCell ?_ (by first | omega | (simp; done) | (simp; omega)) _)) hx12)
                  clear X11 hx12
                  have HC2 := Lib.hid (Cur.put entC_len (HC.out.ext (by repeat (first | with_reducible exact Ext.refl _ | with_reducible refine Ext.drew ?_ | with_reducible refine Ext.drewN ?_ _ | with_reducible refine Ext.alloc ?_ _ | with_reducible refine Ext.setCell ?_ (by first | omega | (simp; done) | (simp; omega)) _))) 7 (.int .u64 (xb - P)) (xo, xv, xs, xp, xf, xc, xi, xb - P) (by decide) rfl)
                  have HW2 : Hid (OwnShave (w12.setCell ⟨g, k * 8 + 7, none⟩ (.int .u64 (xb - P))) B (.slice A2 CS.length c2) CS.length CS) := Lib.hid (ownsRow_setCell_below (show OwnShave w12 B (.slice A2 CS.length c2) CS.length CS from (HW.out.ext (by repeat (first | with_reducible exact Ext.refl _ | with_reducible refine Ext.drew ?_ | with_reducible refine Ext.drewN ?_ _ | with_reducible refine Ext.alloc ?_ _ | with_reducible refine Ext.setCell ?_ (by first | omega | (simp; done) | (simp; omega)) _)))) (a := ⟨g, k * 8 + 7, none⟩) hgB (.int .u64 (xb - P)))
                  have XW : Hid (Ext w (w12.setCell ⟨g, k * 8 + 7, none⟩ (.int .u64 (xb - P)))) := Lib.hid (Ext.setCell (show Ext w w12 from (by repeat (first | with_reducible exact X12.out | with_reducible refine Ext.drew ?_ | with_reducible refine Ext.drewN ?_ _ | with_reducible refine Ext.alloc ?_ _ | with_reducible refine Ext.setCell ?_ (by first | omega | (simp; done) | (simp; omega)) _))) (by show w.heap.size ≤ g; exact hgw) (.int .u64 (xb - P)))
                  have hBs : B ≤ (w12.setCell ⟨g, k * 8 + 7, none⟩ (.int .u64 (xb - P))).heap.size := by (try simp); omega
                  clear HW X12
                  go_wp2_with (at_builtin; refine wpList_append_new _ rfl _ _ 88 rfl B 92 i0 (.agg #[.int .i64 0, .int .u64 0]) 2 16 Tryz.underlying88 hi0 hz0 hz1 hz2 rfl (by decide) _ CS.length (CS.flatMap shaveC) (by rfl) HW2.out #[.int .i64 (k : Int), .int .u64 P] 1 (by first | rfl | simp [Act.eval, go_sem]) rfl (by intro u hu; simp at hu; rcases hu with rfl | rfl <;> rfl) (by omega) (by decide) (by first | omega | (simp; omega)) ?_; intro v9 w9 hown9 hb9 ; clear HW2; have E0 := Lib.hid (And.intro hown9 hb9); clear hown9 hb9)
                  obtain ⟨A9, c9, rfl, _, _⟩ := own_parts2 E0.out.1
                  have E1 : Hid (OwnShave w9 B (.slice A9 (CS.length + 1) c9) (CS ++ [((k : Int), P)]).length (CS ++ [((k : Int), P)])) := Lib.hid (by
                    rw [List.length_append]
                    unfold OwnShave
                    rw [List.flatMap_append]
                    exact E0.out.1)
                  have HC9 : Hid (OwnEnt w9 w.heap.size (.slice (some ⟨g, 0, none⟩) n c3) n (LC.set k (xo, xv, xs, xp, xf, xc, xi, xb - P))) := Lib.hid (own_bel (Cur.own HC2.out) E0.out.2 hgB)
                  have X9 : Hid (Ext w w9) := Lib.hid (Below.trans XW.out (Below.mono E0.out.2 hBw))
                  have z9 := Below.size E0.out.2
                  clear HC2 XW E0
                  go_wp2
                  
                  go_roundg (gk - 1)
                  case measure => have := HK.out; omega
                  case rel =>
                    have e3 : n - (gk - 1) = k + 1 := by have := HK.out; omega
                    rw [e3]
                    obtain ⟨k1, k2, k3⟩ := HT.out
                    rw [k1, k2, k3]
                    exact ⟨by have := HK.out; omega, num_eq (by have := HK.out; omega), rfl, ⟨_, _, by rw [List.length_append]; rfl⟩, HC9, E1, by first | omega | (simp; omega), X9⟩
end
section
open Go.RowKit Go.ChangeShapes Go.WideShapes Go.Deep
/-- a row of numbers of one's own -/
def OwnWord (w : World) (base : Nat) (v : Value) (n : Nat) (l : List Int) : Prop := w.ownsRow base 39 1 v n (iv .u64 l)
theorem OwnWord.ext {w w' : World} {base n : Nat} {v : Value} {l : List Int} (h : OwnWord w base v n l) (hx : Ext w w') : OwnWord w' base v n l := own_keep h hx
theorem OwnWord.sl {w : World} {base n c : Nat} {A : Option Addr} {l : List Int} (h : OwnWord w base (.slice A n c) n l) : Sl w 1 A n c (iv .u64 l) := Sl.own h
theorem OwnWord.in_ {w : World} {base n c : Nat} {A : Option Addr} {l : List Int} (h : OwnWord w base (.slice A n c) n l) : ∀ k o s, A = some ⟨k, o, s⟩ → base ≤ k ∧ k < w.heap.size := by
  intro k o s e'
  subst e'
  exact World.ownsRow.lt h k rfl
theorem OwnWord.nil (w : World) (base : Nat) : OwnWord w base (.slice none 0 0) 0 [] := World.ownsRow_nil _ _ _ _
theorem OwnWord.lower {w : World} {base b' n : Nat} {v : Value} {l : List Int} (h : OwnWord w base v n l) (hb : b' ≤ base) : OwnWord w b' v n l := own_lower h hb
/-- numbers handed back -/
def RetWord (l : List Int) (w : World) (e : Ending) (w' : World) : Prop := ∃ A c, e = .returned (.slice A l.length c) ∧ (A = none → c = 0) ∧ OwnWord w' w.heap.size (.slice A l.length c) l.length l ∧ Ext w w'
theorem RetWord.mk {l : List Int} {w w' : World} {v : Value} (h : w'.ownsRow w.heap.size 39 1 v l.length (iv .u64 l)) (hx : Ext w w') : RetWord l w (.returned v) w' := by
  obtain ⟨A, c, rfl, h1, h2⟩ := own_parts2 h
  exact ⟨A, c, rfl, h1, h, hx⟩
theorem own_but1Word {S : Nat → Prop} {w w' : World} {base sz n : Nat} {e : TypeId} {v : Value} {xs : List Value} (h : w.ownsRow base e sz v n xs) (hx : But S w w') (hS : ∀ j, v.ownBlock = some j → ¬ S j) : w'.ownsRow base e sz v n xs := by
  refine ⟨h.1, ?_⟩
  rcases h.2 with h2 | ⟨r, cap, cur, e', hr, hr2, rest⟩
  · exact .inl h2
  · refine .inr ⟨r, cap, cur, e', hr, ?_, rest⟩
    rw [← hr2]
    exact hx.block r (Array.getElem?_eq_some_iff.1 hr2).1 (hS r (by rw [e']; rfl))
theorem OwnWord.but {S : Nat → Prop} {w w' : World} {base n c m : Nat} {A : Option Addr} {l : List Int} (h : OwnWord w base (.slice A m c) n l) (hx : But S w w') (hS : ∀ k o s, A = some ⟨k, o, s⟩ → ¬ S k) : OwnWord w' base (.slice A m c) n l := by
  refine own_but1Word h hx (fun j hj => ?_)
  cases A with
  | none => cases hj
  | some a => obtain ⟨b, o, s⟩ := a
              injection hj with hj
              have hj2 : b = j := hj
              subst hj2
              exact hS b o s rfl
end
section
open Go.RowKit Go.ChangeShapes Go.WideShapes Go.Deep Go.Joins
theorem qadd_ev (A : Option Addr) (n c : Nat) (l R : List (Int × Int × Int × Int × Int × Int × Int × Int)) (xo xv xs xp xf xc xi xb most er : Int) (w : World) (h : Sl w 8 A n c (l.flatMap entC)) (hn : n ≤ 100000) (hf : ∀ x ∈ l, FitsQ x) (hxb : Word xb) (hxi : Word xi) (hnil : A = none → c = 0) (hv : (R, er) = addQ l (xo, xv, xs, xp, xf, xc, xi, xb) most) :
    Calls Tryz.prog 54 #[.slice A n c, .agg #[.int .i64 xo, .int .i64 xv, .int .i64 xs, .int .i64 xp, .int .i64 xf, .int .i64 xc, .int .u64 xi, .int .u64 xb], .int .i64 most] w fun e w' => ∃ A2 c2, e = .returned (.tuple #[.slice A2 R.length c2, .int .i64 er]) ∧ (A2 = none → c2 = 0) ∧ OwnEnt w' w.heap.size (.slice A2 R.length c2) R.length R ∧ Ext w w' := by
  have hll := h.rlen entC_len (by decide)
  have h2 : er = adE l (xo, xv, xs, xp, xf, xc, xi, xb) most ∧ R = if adE l (xo, xv, xs, xp, xf, xc, xi, xb) most = 0 then l ++ [(xo, xv, xs, xp, xf, xc, xi, xb)] else [] := by
    unfold addQ at hv
    split at hv
    · rename_i e
      injection hv with q1 q2
      rw [if_pos e]
      exact ⟨q2.trans e.symm, q1⟩
    · rename_i e
      injection hv with q1 q2
      rw [if_neg e]
      exact ⟨q2, q1⟩
  obtain ⟨rfl, rfl⟩ := h2
  exact (qadd_at A n c l xo xv xs xp xf xc xi xb most (chkQ l).1 (chkQ l).2 _ _ _ (adE l (xo, xv, xs, xp, xf, xc, xi, xb) most) _ _ w h hn hf hxb hxi rfl rfl rfl rfl rfl rfl (by unfold adE; rw [← hll]; rfl) hnil _ rfl).mono fun e w' ⟨A2, c2, q1, q2, q3, q4⟩ => ⟨A2, c2, q1, q2, q3, q4⟩
theorem cutV_at {l : List (Int × Int × Int × Int × Int × Int × Int × Int)} {n : Nat} {v h p er U : Int} {R : List (Int × Int × Int × Int × Int × Int × Int × Int)} {S : List (Int × Int)} (hl : l.length = n) (hv : (R, S, U, er) = cutV l v h p) : er = cutG (chkQ l).1 v p (decide (1 ≤ h) && decide (h ≤ 4294967296)) ∧ (R, S, U) = if er = 0 then (cutL l v h p n, cutS l v h p n, cutA l v h p n) else ([], [], 0) := by
  subst hl
  unfold cutV at hv
  split at hv
  · rename_i e
    injection hv with q1 q2
    injection q2 with q2 q3
    injection q3 with q3 q4
    subst q1 q2 q3 q4
    exact ⟨e.symm, by rw [if_pos rfl]⟩
  · rename_i e
    injection hv with q1 q2
    injection q2 with q2 q3
    injection q3 with q3 q4
    subst q1 q2 q3 q4
    exact ⟨rfl, by rw [if_neg e]⟩
theorem qcut_ev (A : Option Addr) (n c : Nat) (l R : List (Int × Int × Int × Int × Int × Int × Int × Int)) (S : List (Int × Int)) (v h p U er : Int) (w : World) (hs : Sl w 8 A n c (l.flatMap entC)) (hn : n ≤ 100000) (hf : ∀ x ∈ l, FitsQ x) (hnil : A = none → c = 0) (hh : h ≤ 9223372036854775807) (hp : Word p) (hv : (R, S, U, er) = cutV l v h p) :
    Calls Tryz.prog 57 #[.slice A n c, .int .i64 v, .int .i64 h, .int .u64 p] w (RetCut R S U er w) := by
  obtain ⟨h1, h2⟩ := cutV_at (hs.rlen entC_len (by decide)) hv
  exact qcut_at A n c l v h p (chkQ l).1 (chkQ l).2 er _ w hs hn hf hnil hh hp rfl rfl h1 R S U h2
theorem fitsQ_of {l : List (Int × Int × Int × Int × Int × Int × Int × Int)} (h : l.all (fun x => (Lit.int .i64 x.1).wf && ((Lit.int .i64 x.2.1).wf && ((Lit.int .i64 x.2.2.1).wf && ((Lit.int .i64 x.2.2.2.1).wf && ((Lit.int .i64 x.2.2.2.2.1).wf && ((Lit.int .i64 x.2.2.2.2.2.1).wf && ((decide (0 ≤ x.2.2.2.2.2.2.1) && decide (x.2.2.2.2.2.2.1 < 18446744073709551616)) && (decide (0 ≤ x.2.2.2.2.2.2.2) && decide (x.2.2.2.2.2.2.2 < 18446744073709551616))))))))) = true) : ∀ x ∈ l, FitsQ x := by
  intro x hx
  have h1 := List.all_eq_true.1 h x hx
  simp only [Bool.and_eq_true, decide_eq_true_eq] at h1
  exact h1
theorem ents_new (w : World) (l : List (Int × Int × Int × Int × Int × Int × Int × Int)) (n : Nat) (hl : l.length = n) (hn : n ≤ 1000000) : Sl (w.alloc (.cells (l.flatMap entC).toArray 53)) 8 (some ⟨w.heap.size, 0, none⟩) n n (l.flatMap entC) := by
  have := sl_new w 53 8 (l.flatMap entC).toArray n (by rw [List.size_toArray, flat_len entC_len, hl]) hn
  exact this
/-- the chapter's queue -/
def chapQ : List (Int × Int × Int × Int × Int × Int × Int × Int) := [(0, 2, 5, -1, 0, 9, 10, 10), (1, 2, 5, -1, 0, 9, 20, 20), (0, 3, 6, 2, 5, 12, 30, 30)]
theorem chapQ_fits : ∀ x ∈ chapQ, FitsQ x := fitsQ_of (by decide)
theorem chap_add : ∀ (k : Nat) (x : (Int × Int × Int × Int × Int × Int × Int × Int)), chapQ[k]? = some x → (chapQ.take (k + 1), 0) = addQ (chapQ.take k) x 2
  | 0, x, h => by injection h with h; subst h; decide
  | 1, x, h => by injection h with h; subst h; decide
  | 2, x, h => by injection h with h; subst h; decide
  | k + 3, x, h => by simp [chapQ] at h
set_option maxRecDepth 100000 in
set_option maxHeartbeats 4000000 in
theorem two14_any (w : World) : Calls Tryz.prog 52 #[] w fun e w' => e = .returned (.agg #[.int .i64 2, .int .i64 5, .int .i64 (-1), .int .i64 0]) ∧ Ext w w' := by
  go_enter Tryz.func52, Tryz.ntmps52
  go_wp2_with fail
  refine bodyPost_ret (v := .agg #[.int .i64 2, .int .i64 5, .int .i64 (-1), .int .i64 0]) (by simp [results, Tryz.results52, go_sem, World.cell?_alloc_past]; try rfl) rfl ⟨rfl, ?_⟩
  exact (by repeat (first | with_reducible exact Ext.refl w | with_reducible refine Ext.drew ?_ | with_reducible refine Ext.drewN ?_ _ | with_reducible refine Ext.alloc ?_ _ | with_reducible refine Ext.setCell ?_ (by first | omega | (simp; done) | (simp; omega)) _))
set_option maxRecDepth 100000 in
set_option maxHeartbeats 4000000 in
theorem hop14_any (w : World) : Calls Tryz.prog 53 #[] w fun e w' => e = .returned (.agg #[.int .i64 3, .int .i64 6, .int .i64 2, .int .i64 5]) ∧ Ext w w' := by
  go_enter Tryz.func53, Tryz.ntmps53
  go_wp2_with fail
  refine bodyPost_ret (v := .agg #[.int .i64 3, .int .i64 6, .int .i64 2, .int .i64 5]) (by simp [results, Tryz.results53, go_sem, World.cell?_alloc_past]; try rfl) rfl ⟨rfl, ?_⟩
  exact (by repeat (first | with_reducible exact Ext.refl w | with_reducible refine Ext.drew ?_ | with_reducible refine Ext.drewN ?_ _ | with_reducible refine Ext.alloc ?_ _ | with_reducible refine Ext.setCell ?_ (by first | omega | (simp; done) | (simp; omega)) _))
set_option maxRecDepth 100000 in
set_option maxHeartbeats 4000000 in
theorem entry14_any (ow v s p f a m : Int) (w : World) : Calls Tryz.prog 51 #[.int .i64 ow, .agg #[.int .i64 v, .int .i64 s, .int .i64 p, .int .i64 f], .int .i64 a, .int .u64 m] w fun e w' => e = .returned (.agg #[.int .i64 ow, .int .i64 v, .int .i64 s, .int .i64 p, .int .i64 f, .int .i64 a, .int .u64 m, .int .u64 m]) ∧ Ext w w' := by
  go_enter Tryz.func51, Tryz.ntmps51
  go_wp2_with fail
  refine bodyPost_ret (v := .agg #[.int .i64 ow, .int .i64 v, .int .i64 s, .int .i64 p, .int .i64 f, .int .i64 a, .int .u64 m, .int .u64 m]) (by simp [results, Tryz.results51, go_sem, World.cell?_alloc_past]; try rfl) rfl ⟨rfl, ?_⟩
  exact (by repeat (first | with_reducible exact Ext.refl w | with_reducible refine Ext.drew ?_ | with_reducible refine Ext.drewN ?_ _ | with_reducible refine Ext.alloc ?_ _ | with_reducible refine Ext.setCell ?_ (by first | omega | (simp; done) | (simp; omega)) _))
set_option maxRecDepth 100000 in
set_option maxHeartbeats 4000000 in
theorem chapter14_any (w : World) : Calls Tryz.prog 15 #[] w fun e w' => ∃ A c, e = .returned (.slice A 3 c) ∧ (A = none → c = 0) ∧ OwnEnt w' w.heap.size (.slice A 3 c) 3 chapQ ∧ Ext w w' := by
  go_enter Tryz.func15, Tryz.ntmps15
  go_wp2_with fail
  (with_reducible refine (two14_any _).mono ?_)
  rintro e w1 ⟨rfl, hx1⟩
  have z1 := hx1.size
  try simp at z1
  have X1 : Hid (Ext w w1) := Lib.hid (Ext.trans (by repeat (first | with_reducible exact Ext.refl w | with_reducible refine Ext.drew ?_ | with_reducible refine Ext.drewN ?_ _ | with_reducible refine Ext.alloc ?_ _ | with_reducible refine Ext.setCell ?_ (by first | omega | (simp; done) | (simp; omega)) _)) hx1)
  clear hx1 z1
  go_wp2_with fail
  (with_reducible refine (entry14_any 0 2 5 (-1) 0 9 10 _).mono ?_)
  rintro e w2 ⟨rfl, hx2⟩
  have z2 := hx2.size
  try simp at z2
  have X2 : Hid (Ext w w2) := Lib.hid (Ext.trans (by repeat (first | with_reducible exact X1.out | with_reducible refine Ext.drew ?_ | with_reducible refine Ext.drewN ?_ _ | with_reducible refine Ext.alloc ?_ _ | with_reducible refine Ext.setCell ?_ (by first | omega | (simp; done) | (simp; omega)) _)) hx2)
  clear X1 hx2 z2
  go_wp2_with fail
  (with_reducible refine (two14_any _).mono ?_)
  rintro e w3 ⟨rfl, hx3⟩
  have z3 := hx3.size
  try simp at z3
  have X3 : Hid (Ext w w3) := Lib.hid (Ext.trans (by repeat (first | with_reducible exact X2.out | with_reducible refine Ext.drew ?_ | with_reducible refine Ext.drewN ?_ _ | with_reducible refine Ext.alloc ?_ _ | with_reducible refine Ext.setCell ?_ (by first | omega | (simp; done) | (simp; omega)) _)) hx3)
  clear X2 hx3 z3
  go_wp2_with fail
  (with_reducible refine (entry14_any 1 2 5 (-1) 0 9 20 _).mono ?_)
  rintro e w4 ⟨rfl, hx4⟩
  have z4 := hx4.size
  try simp at z4
  have X4 : Hid (Ext w w4) := Lib.hid (Ext.trans (by repeat (first | with_reducible exact X3.out | with_reducible refine Ext.drew ?_ | with_reducible refine Ext.drewN ?_ _ | with_reducible refine Ext.alloc ?_ _ | with_reducible refine Ext.setCell ?_ (by first | omega | (simp; done) | (simp; omega)) _)) hx4)
  clear X3 hx4 z4
  go_wp2_with fail
  (with_reducible refine (hop14_any _).mono ?_)
  rintro e w5 ⟨rfl, hx5⟩
  have z5 := hx5.size
  try simp at z5
  have X5 : Hid (Ext w w5) := Lib.hid (Ext.trans (by repeat (first | with_reducible exact X4.out | with_reducible refine Ext.drew ?_ | with_reducible refine Ext.drewN ?_ _ | with_reducible refine Ext.alloc ?_ _ | with_reducible refine Ext.setCell ?_ (by first | omega | (simp; done) | (simp; omega)) _)) hx5)
  clear X4 hx5 z5
  go_wp2_with fail
  (with_reducible refine (entry14_any 0 3 6 2 5 12 30 _).mono ?_)
  rintro e w6 ⟨rfl, hx6⟩
  have z6 := hx6.size
  try simp at z6
  have X6 : Hid (Ext w w6) := Lib.hid (Ext.trans (by repeat (first | with_reducible exact X5.out | with_reducible refine Ext.drew ?_ | with_reducible refine Ext.drewN ?_ _ | with_reducible refine Ext.alloc ?_ _ | with_reducible refine Ext.setCell ?_ (by first | omega | (simp; done) | (simp; omega)) _)) hx6)
  clear X5 hx6 z6
  have HX6 : Hid (Ext w (w6.alloc (.cells #[.int .i64 0, .int .i64 2, .int .i64 5, .int .i64 (-1), .int .i64 0, .int .i64 9, .int .u64 10, .int .u64 10, .int .i64 1, .int .i64 2, .int .i64 5, .int .i64 (-1), .int .i64 0, .int .i64 9, .int .u64 20, .int .u64 20, .int .i64 0, .int .i64 3, .int .i64 6, .int .i64 2, .int .i64 5, .int .i64 12, .int .u64 30, .int .u64 30] 53))) := Lib.hid (Ext.alloc (show Ext w w6 from (by repeat (first | with_reducible exact X6.out | with_reducible refine Ext.drew ?_ | with_reducible refine Ext.drewN ?_ _ | with_reducible refine Ext.alloc ?_ _ | with_reducible refine Ext.setCell ?_ (by first | omega | (simp; done) | (simp; omega)) _))) _)
  have HWt : Hid (Sl (w6.alloc (.cells #[.int .i64 0, .int .i64 2, .int .i64 5, .int .i64 (-1), .int .i64 0, .int .i64 9, .int .u64 10, .int .u64 10, .int .i64 1, .int .i64 2, .int .i64 5, .int .i64 (-1), .int .i64 0, .int .i64 9, .int .u64 20, .int .u64 20, .int .i64 0, .int .i64 3, .int .i64 6, .int .i64 2, .int .i64 5, .int .i64 12, .int .u64 30, .int .u64 30] 53)) 8 (some ⟨w6.heap.size, 0, none⟩) 3 3 (chapQ.flatMap entC)) := Lib.hid (ents_new w6 chapQ 3 rfl (by omega))
  obtain ⟨gb, hgb⟩ : ∃ g, g = w6.heap.size := ⟨_, rfl⟩
  go_wp2_with fail
  rw [← hgb] at HWt ⊢
  clear hgb X6
  go_loopg [1, 3] 3 (fun gh a i wx => gh ≤ 3 ∧ i = .int .i64 ((3 - gh : Nat) : Int) ∧ (∃ A2 c2, a = .slice A2 (3 - gh) c2 ∧ (A2 = none → c2 = 0)) ∧ Hid (OwnEnt wx w.heap.size a (3 - gh) (chapQ.take (3 - gh))) ∧ Hid (Sl wx 8 (some ⟨gb, 0, none⟩) 3 3 (chapQ.flatMap entC)) ∧ Hid (Ext w wx))
  case atStart => exact ⟨Nat.le_refl _, by simp, by rw [Nat.sub_self]; exact ⟨none, 0, rfl, fun _ => rfl⟩, by rw [Nat.sub_self]; exact Lib.hid (World.ownsRow_nil _ _ _ _), HWt, HX6⟩
  case round =>
    obtain ⟨hg, hi, ⟨A2, c2, rfl, hn2⟩, HO, HT, XR⟩ := hrel
    obtain ⟨k, hk⟩ : ∃ k, k = 3 - gk := ⟨_, rfl⟩
    rw [← hk] at hi HO
    rw [← hk]
    subst hi
    clear HX6 HWt
    by_cases hz : gk = 0
    · obtain rfl : k = 3 := by omega
      have hkn : ¬ ((3 : Nat) : Int) < 3 := by decide
      have HN := Lib.hid hn2
      clear hg hz hk hn2
      rw [show chapQ.take 3 = chapQ from rfl] at HO
      go_wp2_with fail
      (with_reducible refine (kSameEntries_any A2 _ 3 c2 3 3 chapQ chapQ _ HO.out.sl HT.out).mono ?_)
      rintro e w21 ⟨rfl, hx21⟩
      have X21 := Lib.hid (XR.out.trans hx21)
      have HO21 := Lib.hid (OwnEnt.ext HO.out hx21)
      clear hx21 HO XR HT
      simp only [decide_true]
      go_wp2_with fail
      go_ret
      exact ⟨A2, c2, rfl, HN.out, HO21.out, X21.out⟩
    · have hk3 : k < 3 := by omega
      have hkn : (k : Int) < 3 := by omega
      obtain ⟨xw, hl_x⟩ : ∃ x, chapQ[k]? = some x := ⟨_, List.getElem?_eq_getElem (show k < chapQ.length from hk3)⟩
      have hadd := chap_add k xw hl_x
      have hfx := chapQ_fits _ (List.mem_of_getElem? hl_x)
      obtain ⟨b1, o1, hb1e, hb1, hc_x⟩ := HT.out.rec_ entC_len (show 0 < 3 from by omega)
      injection hb1e with hb1e
      injection hb1e with hb1e ho1 _
      subst hb1e ho1
      obtain ⟨xo, xv, xs, xp, xf, xc, xi, xb⟩ := xw
      have x_0 := hc_x k (xo, xv, xs, xp, xf, xc, xi, xb) hl_x 0 _ rfl
      have x_1 := hc_x k (xo, xv, xs, xp, xf, xc, xi, xb) hl_x 1 _ rfl
      have x_2 := hc_x k (xo, xv, xs, xp, xf, xc, xi, xb) hl_x 2 _ rfl
      have x_3 := hc_x k (xo, xv, xs, xp, xf, xc, xi, xb) hl_x 3 _ rfl
      have x_4 := hc_x k (xo, xv, xs, xp, xf, xc, xi, xb) hl_x 4 _ rfl
      have x_5 := hc_x k (xo, xv, xs, xp, xf, xc, xi, xb) hl_x 5 _ rfl
      have x_6 := hc_x k (xo, xv, xs, xp, xf, xc, xi, xb) hl_x 6 _ rfl
      have x_7 := hc_x k (xo, xv, xs, xp, xf, xc, xi, xb) hl_x 7 _ rfl
      simp only at x_0 x_1 x_2 x_3 x_4 x_5 x_6 x_7
      rw [Nat.zero_add] at x_0 x_1 x_2 x_3 x_4 x_5 x_6 x_7
      rw [Nat.add_zero] at x_0
      clear hc_x
      have hl3 : (chapQ.take (k + 1)).length = k + 1 := by rw [List.length_take]; show min (k + 1) 3 = k + 1; omega
      have CA := Lib.hid (qadd_ev A2 k c2 (chapQ.take k) (chapQ.take (k + 1)) xo xv xs xp xf xc xi xb 2 0 wr HO.out.sl (by omega) (fun x hx => chapQ_fits x (List.mem_of_mem_take hx)) hfx.ba hfx.2.2.2.2.2.2.1 hn2 hadd)
      rw [hl3] at CA
      have hwr := Ext.size XR.out
      have HK := Lib.hid (And.intro hk (And.intro hg hz))
      clear hk hg hz hadd hfx hn2 HO hl_x hl3
      go_wp2_with fail
      (with_reducible refine CA.out.mono ?_)
      rintro e w21 ⟨A3, c3, rfl, hn3, hO3, hx21⟩
      have X21 := Lib.hid (XR.out.trans hx21)
      have HO21 := Lib.hid (OwnEnt.lower hO3 hwr)
      have HT21 := Lib.hid (HT.out.ext hx21)
      have HN3 := Lib.hid hn3
      clear hx21 hO3 XR HT CA hn3
      go_wp2_with fail
      go_roundg (gk - 1)
      case measure => have := HK.out; omega
      case rel =>
        have e3 : 3 - (gk - 1) = k + 1 := by have := HK.out; omega
        rw [e3]
        exact ⟨by have := HK.out; omega, num_eq (by have := HK.out; omega), ⟨A3, c3, rfl, HN3.out⟩, HO21, HT21, X21⟩
end
section
open Go.RowKit Go.ChangeShapes Go.WideShapes Go.Deep Go.Joins
theorem word_d {x : Int} (h0 : 0 ≤ x) (h1 : x < 18446744073709551616) : Word x := ⟨h0, h1⟩
theorem shaveC_same (x0 x1 : Int) (w : World) : (binOp .neq 92 (.agg #[.int .i64 x0, .int .u64 x1]) (.agg #[.int .i64 x0, .int .u64 x1])).run Tryz.prog w = .ok (.bool false) w := by
  have hS : Tryz.prog.underlying 92 = some (.struct (Tryz.prog.fieldsOf 92)) := by kernel_rfl
  have hp : Tryz.prog.stoodInHeld 92 = false := by kernel_rfl
  rw [run_neq_struct, show (10000 : Nat) = 9999 + 1 from rfl, run_equalIn_agg w 9999 92 _ _ hS hp]
  simp only [Program.fieldsOf, Tryz.underlying92]
  go_simp
theorem qtotal_ev (A : Option Addr) (n c : Nat) (l : List (Int × Int × Int × Int × Int × Int × Int × Int)) (u e : Int) (w : World) (h : Sl w 8 A n c (l.flatMap entC)) (hf : ∀ x ∈ l, FitsQ x) (he : e = (chkQ l).1) (hu : u = if e = 0 then totB l else 0) :
    Calls Tryz.prog 16 #[.slice A n c] w fun r w' => r = .returned (.tuple #[.int .u64 u, .int .i64 e]) ∧ Ext w w' := by
  subst he
  exact qtotal_any A n c l (chkQ l).1 (chkQ l).2 w h hf rfl u hu
set_option maxRecDepth 100000 in
set_option maxHeartbeats 4000000 in
theorem cuts14_t (v h p all : Int) (B : Option Addr) (m d : Nat) (W : List Int) (R : List (Int × Int × Int × Int × Int × Int × Int × Int)) (S : List (Int × Int)) (w : World) (hw : Sl w 1 B m d (iv .u64 W)) (hm : m ≤ 100) (hh : h ≤ 9223372036854775807) (hp : Word p) (hv : (R, S, all, 0) = cutV chapQ v h p) (hS : S = W.mapIdx fun i x => ((i : Int), x)) :
    Calls Tryz.prog 18 #[.int .i64 v, .int .i64 h, .int .u64 p, .int .u64 all, .slice B m d] w fun e w' => e = .returned (.bool true) ∧ Ext w w' := by
  have hWl := hw.ilen
  have hSl : S.length = m := by rw [hS, List.length_mapIdx, hWl]
  have e0 : ((S.length : Int) != (m : Int)) = false := by rw [hSl]; simp
  have HW := Lib.hid hw
  have HH := Lib.hid hh
  have HPP := Lib.hid hp
  have HV := Lib.hid hv
  have HSE := Lib.hid hS
  have HSL := Lib.hid hSl
  have HWL := Lib.hid hWl
  have q1 := shaveC_same
  have q2 := shaveC_eqg
  clear hw hh hp hv hS hSl hWl
  go_enter Tryz.func18, Tryz.ntmps18
  go_wp2_with fail
  (with_reducible refine (chapter14_any _).mono ?_)
  rintro e w1 ⟨A1, c1, rfl, hn1, hO1, hx1⟩
  have z1 := hx1.size
  try simp at z1
  replace HW := Lib.hid (HW.out.ext (Ext.trans (by repeat (first | with_reducible exact Ext.refl _ | with_reducible refine Ext.drew ?_ | with_reducible refine Ext.drewN ?_ _ | with_reducible refine Ext.alloc ?_ _ | with_reducible refine Ext.setCell ?_ (by first | omega | (simp; done) | (simp; omega)) _)) hx1))
  have X1 : Hid (Ext w w1) := Lib.hid (Ext.trans (by repeat (first | with_reducible exact Ext.refl w | with_reducible refine Ext.drew ?_ | with_reducible refine Ext.drewN ?_ _ | with_reducible refine Ext.alloc ?_ _ | with_reducible refine Ext.setCell ?_ (by first | omega | (simp; done) | (simp; omega)) _)) hx1)
  have HO := Lib.hid hO1
  clear hx1 z1 hO1
  have HN1 := Lib.hid hn1
  clear hn1
  go_wp2_with fail
  (with_reducible refine (qcut_ev A1 3 c1 chapQ R S v h p all 0 _ (HO.out.ext (by repeat (first | with_reducible exact Ext.refl _ | with_reducible refine Ext.drew ?_ | with_reducible refine Ext.drewN ?_ _ | with_reducible refine Ext.alloc ?_ _ | with_reducible refine Ext.setCell ?_ (by first | omega | (simp; done) | (simp; omega)) _))).sl (by decide) chapQ_fits HN1.out HH.out HPP.out HV.out).mono ?_)
  rintro e w2 ⟨A2, c2, A3, c3, rfl, _, _, _, hO3, _, hx2⟩
  have z2 := hx2.size
  try simp at z2
  replace HW := Lib.hid (HW.out.ext (Ext.trans (by repeat (first | with_reducible exact Ext.refl _ | with_reducible refine Ext.drew ?_ | with_reducible refine Ext.drewN ?_ _ | with_reducible refine Ext.alloc ?_ _ | with_reducible refine Ext.setCell ?_ (by first | omega | (simp; done) | (simp; omega)) _)) hx2))
  have X2 : Hid (Ext w w2) := Lib.hid (Ext.trans (by repeat (first | with_reducible exact X1.out | with_reducible refine Ext.drew ?_ | with_reducible refine Ext.drewN ?_ _ | with_reducible refine Ext.alloc ?_ _ | with_reducible refine Ext.setCell ?_ (by first | omega | (simp; done) | (simp; omega)) _)) hx2)
  have HS3 := Lib.hid (OwnShave.sl hO3)
  clear HO X1 hx2 z2
  clear hO3
  have HX2 : Hid (Ext w _) := Lib.hid (by repeat (first | with_reducible exact X2.out | with_reducible refine Ext.drew ?_ | with_reducible refine Ext.drewN ?_ _ | with_reducible refine Ext.alloc ?_ _ | with_reducible refine Ext.setCell ?_ (by first | omega | (simp; done) | (simp; omega)) _))
  have HW0 : Hid (Sl w2 1 B m d (iv .u64 W)) := Lib.hid (HW.out.ext (by repeat (first | with_reducible exact Ext.refl _ | with_reducible refine Ext.drew ?_ | with_reducible refine Ext.drewN ?_ _ | with_reducible refine Ext.alloc ?_ _ | with_reducible refine Ext.setCell ?_ (by first | omega | (simp; done) | (simp; omega)) _)))
  have HS0 : Hid (Sl w2 2 A3 S.length c3 (S.flatMap shaveC)) := Lib.hid (HS3.out.ext (by repeat (first | with_reducible exact Ext.refl _ | with_reducible refine Ext.drew ?_ | with_reducible refine Ext.drewN ?_ _ | with_reducible refine Ext.alloc ?_ _ | with_reducible refine Ext.setCell ?_ (by first | omega | (simp; done) | (simp; omega)) _)))
  clear HW HS3 X2
  go_wp2_with fail
  go_loopg [15] m (fun gh i wx => gh ≤ m ∧ i = .int .i64 ((m - gh : Nat) : Int) ∧ Hid (Sl wx 1 B m d (iv .u64 W)) ∧ Hid (Sl wx 2 A3 S.length c3 (S.flatMap shaveC)) ∧ Hid (Ext w wx))
  case atStart => exact ⟨Nat.le_refl _, by simp, HW0, HS0, HX2⟩
  case round =>
    obtain ⟨hg, hi, HW1, HS1, XR⟩ := hrel
    obtain ⟨k, hk⟩ : ∃ k, k = m - gk := ⟨_, rfl⟩
    rw [← hk] at hi
    subst hi
    clear HX2 HW0 HS0
    by_cases hz : gk = 0
    · have hkn : ¬ (k : Int) < (S.length : Int) := by have := HSL.out; omega
      clear hg hz hk
      go_wp2_with fail
      go_ret
      exact ⟨rfl, XR.out⟩
    · have hsl := HSL.out
      have hkn : (k : Int) < (S.length : Int) := by omega
      have hkm : k < m := by omega
      obtain ⟨b2, o2, rfl, hb2, hc2⟩ := HW1.out.cell hkm
      obtain ⟨b1, o1, rfl, hb1, hc_x⟩ := HS1.out.rec_ shaveC_len (show 0 < S.length from by omega)
      have y_0 := hc2 k hkm
      obtain ⟨x1, hx1⟩ : ∃ x, x = W.getD k 0 := ⟨_, rfl⟩
      rw [← hx1] at y_0
      have hl_x : S[k]? = some ((k : Int), x1) := by
        rw [HSE.out, List.getElem?_mapIdx, hx1, List.getD_eq_getElem?_getD, List.getElem?_eq_getElem (by have := HWL.out; omega)]
        simp
      have x_0 := hc_x k _ hl_x 0 _ rfl
      have x_1 := hc_x k _ hl_x 1 _ rfl
      simp only at x_0 x_1
      rw [Nat.add_zero] at x_0
      rw [← Nat.add_assoc] at x_1
      have HK := Lib.hid (And.intro hk (And.intro hg hz))
      clear hk hg hz hl_x hc_x hc2 hx1 hsl
      go_wp2_with fail
      refine wp_region_held_drew (S := fun w' => w'.cell? ⟨b1, o1 + k * 2, none⟩ = some (.int .i64 (k : Int)) ∧ w'.cell? ⟨b1, o1 + k * 2 + 1, none⟩ = some (.int .u64 x1) ∧ w'.cell? ⟨b2, o2 + k, none⟩ = some (.int .u64 x1)) (by kernel_rfl) (by first | exact ⟨x_0, x_1, y_0⟩ | (simp [go_sem, World.cell?_alloc_past, x_0, x_1, y_0]; done)) (fun hHeld => ?_)
      (refine' take_in 0 rfl (by kernel_rfl) (by kernel_rfl) (by kernel_rfl) (fun _ _ _ h => h) (by rfl) (by assumption) ?_ ?_; rotate_left; focus (intro w hSw; (try dsimp only at hSw); go_simp; try with_reducible rfl)); try simp only [Act.put, List.setIfInBounds_toArray, List.set_cons_zero, List.set_cons_succ]
      (refine' take_in 1 rfl (by kernel_rfl) (by kernel_rfl) (by kernel_rfl) (fun _ _ _ h => h) (by rfl) (by assumption) ?_ ?_; rotate_left; focus (intro w hSw; (try dsimp only at hSw); go_simp; try with_reducible rfl)); try simp only [Act.put, List.setIfInBounds_toArray, List.set_cons_zero, List.set_cons_succ]
      (refine' take_in 2 rfl (by kernel_rfl) (by kernel_rfl) (by kernel_rfl) (fun _ _ _ h => h) (by rfl) (by assumption) ?_ ?_; rotate_left; focus (intro w hSw; (try dsimp only at hSw); go_simp; try with_reducible rfl)); try simp only [Act.put, List.setIfInBounds_toArray, List.set_cons_zero, List.set_cons_succ]
      (refine' take_in 3 rfl (by kernel_rfl) (by kernel_rfl) (by kernel_rfl) (fun _ _ _ h => h) (by rfl) (by assumption) ?_ ?_; rotate_left; focus (intro w hSw; (try dsimp only at hSw); go_simp; try with_reducible rfl)); try simp only [Act.put, List.setIfInBounds_toArray, List.set_cons_zero, List.set_cons_succ]
      (refine' take_in 4 rfl (by kernel_rfl) (by kernel_rfl) (by kernel_rfl) (fun _ _ _ h => h) (by rfl) (by assumption) ?_ ?_; rotate_left; focus (intro w hSw; (try dsimp only at hSw); go_simp; try with_reducible rfl)); try simp only [Act.put, List.setIfInBounds_toArray, List.set_cons_zero, List.set_cons_succ]
      (refine' take_in 5 rfl (by kernel_rfl) (by kernel_rfl) (by kernel_rfl) (fun _ _ _ h => h) (by rfl) (by assumption) ?_ ?_; rotate_left; focus (intro w hSw; (try dsimp only at hSw); go_simp; try with_reducible rfl)); try simp only [Act.put, List.setIfInBounds_toArray, List.set_cons_zero, List.set_cons_succ]
      (refine' take_in 6 rfl (by kernel_rfl) (by kernel_rfl) (by kernel_rfl) (fun _ _ _ h => h) (by rfl) (by assumption) ?_ ?_; rotate_left; focus (intro w hSw; (try dsimp only at hSw); go_simp; try with_reducible rfl)); try simp only [Act.put, List.setIfInBounds_toArray, List.set_cons_zero, List.set_cons_succ]
      (refine' take_in 7 rfl (by kernel_rfl) (by kernel_rfl) (by kernel_rfl) (fun _ _ _ h => h) (by rfl) (by assumption) ?_ ?_; rotate_left; focus (intro w hSw; (try dsimp only at hSw); go_simp; try with_reducible rfl)); try simp only [Act.put, List.setIfInBounds_toArray, List.set_cons_zero, List.set_cons_succ]
      (refine' take_in 8 rfl (by kernel_rfl) (by kernel_rfl) (by kernel_rfl) (fun _ _ _ h => h) (by rfl) (by assumption) ?_ ?_; rotate_left; focus (intro w hSw; (try dsimp only at hSw); go_simp; try with_reducible rfl)); try simp only [Act.put, List.setIfInBounds_toArray, List.set_cons_zero, List.set_cons_succ]
      (refine' take_in 9 rfl (by kernel_rfl) (by kernel_rfl) (by kernel_rfl) (fun _ _ _ h => h) (by rfl) (by assumption) ?_ ?_; rotate_left; focus (intro w hSw; (try dsimp only at hSw); go_simp; try with_reducible rfl)); try simp only [Act.put, List.setIfInBounds_toArray, List.set_cons_zero, List.set_cons_succ]
      (refine' take_in 10 rfl (by kernel_rfl) (by kernel_rfl) (by kernel_rfl) (fun _ _ _ h => h) (by rfl) (by assumption) ?_ ?_; rotate_left; focus (intro w hSw; (try dsimp only at hSw); go_simp; try with_reducible rfl)); try simp only [Act.put, List.setIfInBounds_toArray, List.set_cons_zero, List.set_cons_succ]
      refine wpAnyH_done (by kernel_rfl) ?_ _
      go_wp2_with fail
      go_roundg (gk - 1)
      case measure => have := HK.out; omega
      case rel => exact ⟨by have := HK.out; omega, num_eq (by have := HK.out; omega), Lib.hid (HW1.out.ext (by repeat (first | with_reducible exact Ext.refl _ | with_reducible refine Ext.drew ?_ | with_reducible refine Ext.drewN ?_ _ | with_reducible refine Ext.alloc ?_ _ | with_reducible refine Ext.setCell ?_ (by first | omega | (simp; done) | (simp; omega)) _))), Lib.hid (HS1.out.ext (by repeat (first | with_reducible exact Ext.refl _ | with_reducible refine Ext.drew ?_ | with_reducible refine Ext.drewN ?_ _ | with_reducible refine Ext.alloc ?_ _ | with_reducible refine Ext.setCell ?_ (by first | omega | (simp; done) | (simp; omega)) _))), Lib.hid (by repeat (first | with_reducible exact XR.out | with_reducible refine Ext.drew ?_ | with_reducible refine Ext.drewN ?_ _ | with_reducible refine Ext.alloc ?_ _ | with_reducible refine Ext.setCell ?_ (by first | omega | (simp; done) | (simp; omega)) _))⟩
set_option maxRecDepth 100000 in
set_option maxHeartbeats 4000000 in
theorem qlive_n (A : Option Addr) (n c : Nat) (l : List (Int × Int × Int × Int × Int × Int × Int × Int)) (ow v k : Int) (w : World) (h : Sl w 8 A n c (l.flatMap entC)) (hn : n ≤ 100000) (hf : ∀ x ∈ l, FitsQ x) (hk : ((liveQ l ow v : Nat) : Int) = k) : Calls Tryz.prog 17 #[.slice A n c, .int .i64 ow, .int .i64 v] w fun e w' => e = .returned (.int .i64 k) ∧ Ext w w' := by
  have := qlive_any A n c l ow v w h hn hf
  rw [hk] at this
  exact this
theorem cut_a : ([(0, 2, 5, -1, 0, 9, 10, 5), (1, 2, 5, -1, 0, 9, 20, 10), (0, 3, 6, 2, 5, 12, 30, 15)], [(0, 5), (1, 10), (2, 15)], 30, 0) = cutV chapQ 2 6 500000000 := by decide
theorem cut_b : ([(0, 2, 5, -1, 0, 9, 10, 5), (1, 2, 5, -1, 0, 9, 20, 10), (0, 3, 6, 2, 5, 12, 30, 30)], [(0, 5), (1, 10)], 15, 0) = cutV chapQ 2 9 500000000 := by decide
set_option maxRecDepth 100000 in
set_option maxHeartbeats 4000000 in
theorem awake14_any (w : World) : Calls Tryz.prog 4 #[] w fun e w' => e = .returned (.bool true) ∧ Ext w w' := by
  go_enter Tryz.func4, Tryz.ntmps4
  go_wp2_with fail
  (with_reducible refine (chapter14_any _).mono ?_)
  rintro e w1 ⟨A1, c1, rfl, hn1, hO1, hx1⟩
  have z1 := hx1.size
  try simp at z1
  have X1 : Hid (Ext w w1) := Lib.hid (Ext.trans (by repeat (first | with_reducible exact Ext.refl w | with_reducible refine Ext.drew ?_ | with_reducible refine Ext.drewN ?_ _ | with_reducible refine Ext.alloc ?_ _ | with_reducible refine Ext.setCell ?_ (by first | omega | (simp; done) | (simp; omega)) _)) hx1)
  have HO := Lib.hid hO1
  clear hx1 z1 hO1
  have HN1 := Lib.hid hn1
  clear hn1
  go_wp2_with fail
  (with_reducible refine (qtotal_ev A1 3 c1 chapQ 60 0 _ (HO.out.ext (by repeat (first | with_reducible exact Ext.refl _ | with_reducible refine Ext.drew ?_ | with_reducible refine Ext.drewN ?_ _ | with_reducible refine Ext.alloc ?_ _ | with_reducible refine Ext.setCell ?_ (by first | omega | (simp; done) | (simp; omega)) _))).sl chapQ_fits (by decide) (by decide)).mono ?_)
  rintro e w2 ⟨rfl, hx2⟩
  have z2 := hx2.size
  try simp at z2
  replace HO := Lib.hid (HO.out.ext (Ext.trans (by repeat (first | with_reducible exact Ext.refl _ | with_reducible refine Ext.drew ?_ | with_reducible refine Ext.drewN ?_ _ | with_reducible refine Ext.alloc ?_ _ | with_reducible refine Ext.setCell ?_ (by first | omega | (simp; done) | (simp; omega)) _)) hx2))
  have X2 : Hid (Ext w w2) := Lib.hid (Ext.trans (by repeat (first | with_reducible exact X1.out | with_reducible refine Ext.drew ?_ | with_reducible refine Ext.drewN ?_ _ | with_reducible refine Ext.alloc ?_ _ | with_reducible refine Ext.setCell ?_ (by first | omega | (simp; done) | (simp; omega)) _)) hx2)
  clear X1 hx2 z2
  go_wp2_with fail
  (with_reducible refine (qlive_n A1 3 c1 chapQ 0 2 1 _ (HO.out.ext (by repeat (first | with_reducible exact Ext.refl _ | with_reducible refine Ext.drew ?_ | with_reducible refine Ext.drewN ?_ _ | with_reducible refine Ext.alloc ?_ _ | with_reducible refine Ext.setCell ?_ (by first | omega | (simp; done) | (simp; omega)) _))).sl (by decide) chapQ_fits (by decide)).mono ?_)
  rintro e w3 ⟨rfl, hx3⟩
  have z3 := hx3.size
  try simp at z3
  replace HO := Lib.hid (HO.out.ext (Ext.trans (by repeat (first | with_reducible exact Ext.refl _ | with_reducible refine Ext.drew ?_ | with_reducible refine Ext.drewN ?_ _ | with_reducible refine Ext.alloc ?_ _ | with_reducible refine Ext.setCell ?_ (by first | omega | (simp; done) | (simp; omega)) _)) hx3))
  have X3 : Hid (Ext w w3) := Lib.hid (Ext.trans (by repeat (first | with_reducible exact X2.out | with_reducible refine Ext.drew ?_ | with_reducible refine Ext.drewN ?_ _ | with_reducible refine Ext.alloc ?_ _ | with_reducible refine Ext.setCell ?_ (by first | omega | (simp; done) | (simp; omega)) _)) hx3)
  clear X2 hx3 z3
  go_wp2_with fail
  (with_reducible refine (cuts14_t 2 6 500000000 30 _ 3 3 [5, 10, 15] _ [(0, 5), (1, 10), (2, 15)] _ (sl_new _ 39 1 #[.int .u64 5, .int .u64 10, .int .u64 15] 3 rfl (by decide)) (by decide) (by decide) (word_d (by decide) (by decide)) cut_a rfl).mono ?_)
  rintro e w4 ⟨rfl, hx4⟩
  have z4 := hx4.size
  try simp at z4
  replace HO := Lib.hid (HO.out.ext (Ext.trans (by repeat (first | with_reducible exact Ext.refl _ | with_reducible refine Ext.drew ?_ | with_reducible refine Ext.drewN ?_ _ | with_reducible refine Ext.alloc ?_ _ | with_reducible refine Ext.setCell ?_ (by first | omega | (simp; done) | (simp; omega)) _)) hx4))
  have X4 : Hid (Ext w w4) := Lib.hid (Ext.trans (by repeat (first | with_reducible exact X3.out | with_reducible refine Ext.drew ?_ | with_reducible refine Ext.drewN ?_ _ | with_reducible refine Ext.alloc ?_ _ | with_reducible refine Ext.setCell ?_ (by first | omega | (simp; done) | (simp; omega)) _)) hx4)
  clear X3 hx4 z4
  go_wp2_with fail
  (with_reducible refine (cuts14_t 2 9 500000000 15 _ 2 2 [5, 10] _ [(0, 5), (1, 10)] _ (sl_new _ 39 1 #[.int .u64 5, .int .u64 10] 2 rfl (by decide)) (by decide) (by decide) (word_d (by decide) (by decide)) cut_b rfl).mono ?_)
  rintro e w5 ⟨rfl, hx5⟩
  have z5 := hx5.size
  try simp at z5
  replace HO := Lib.hid (HO.out.ext (Ext.trans (by repeat (first | with_reducible exact Ext.refl _ | with_reducible refine Ext.drew ?_ | with_reducible refine Ext.drewN ?_ _ | with_reducible refine Ext.alloc ?_ _ | with_reducible refine Ext.setCell ?_ (by first | omega | (simp; done) | (simp; omega)) _)) hx5))
  have X5 : Hid (Ext w w5) := Lib.hid (Ext.trans (by repeat (first | with_reducible exact X4.out | with_reducible refine Ext.drew ?_ | with_reducible refine Ext.drewN ?_ _ | with_reducible refine Ext.alloc ?_ _ | with_reducible refine Ext.setCell ?_ (by first | omega | (simp; done) | (simp; omega)) _)) hx5)
  clear X4 hx5 z5
  go_wp2_with fail
  go_ret
  exact ⟨rfl, (by repeat (first | with_reducible exact X5.out | with_reducible refine Ext.drew ?_ | with_reducible refine Ext.drewN ?_ _ | with_reducible refine Ext.alloc ?_ _ | with_reducible refine Ext.setCell ?_ (by first | omega | (simp; done) | (simp; omega)) _))⟩
end
section
open Go.RowKit
/-- a fault stays, and is a fault -/
theorem rnF_some (L : List Nat) (k : Nat) (x : Int × Int) (lo hi : Int) : rnF L k (some x) lo hi = some x := by
  unfold rnF; rw [if_neg (by simp)]
theorem failF_ok (f : Option (Int × Int)) (a : Int) : failF f 0 a = f := by cases f <;> simp [failF]
/-- a fault's error is none of nought -/
def FltNz (f : Option (Int × Int)) : Prop := ∀ x, f = some x → ¬ x.1 = 0
theorem FltNz.none : FltNz none := fun x h => by cases h
theorem FltNz.fail {f : Option (Int × Int)} (h : FltNz f) (e a : Int) : FltNz (failF f e a) := by
  intro x hx
  cases f with
  | some y => exact h x (by simpa [failF] using hx)
  | none =>
    unfold failF at hx
    simp at hx
    obtain ⟨h1, rfl⟩ := hx
    exact h1
theorem FltNz.rn {f : Option (Int × Int)} (h : FltNz f) (L : List Nat) (k : Nat) (lo hi : Int) : FltNz (rnF L k f lo hi) := by
  unfold rnF
  split
  · exact FltNz.none.fail _ _
  · exact h
end
section
open Go.RowKit
def fltE (f : Option (Int × Int)) : Int := match f with | some x => x.1 | none => 0
def fltA (f : Option (Int × Int)) : Int := match f with | some x => x.2 | none => 0
/-- a reference reader lies at block g: its bytes (below g), its place, its fault -/
structure RRd (w : World) (g : Nat) (L : List Nat) (k : Nat) (flt : Option (Int × Int)) : Prop where
  b : ∃ A c, w.cell? ⟨g, 0, none⟩ = some (.slice A L.length c) ∧ Sl w 1 A L.length c (by_ L) ∧ ∀ b o s, A = some ⟨b, o, s⟩ → b < g ∧ o = 0
  c1 : ∃ t : Nat, w.cell? ⟨g, 1, none⟩ = some (.int .i64 (t : Int)) ∧ t ≤ L.length ∧ (flt = none → t = k)
  c2 : w.cell? ⟨g, 2, none⟩ = some (.int .i64 (fltE flt))
  c3 : w.cell? ⟨g, 3, none⟩ = some (.int .i64 (fltA flt))
  f1 : w.frozen? ⟨g, 1, none⟩ = false
  f2 : w.frozen? ⟨g, 2, none⟩ = false
  f3 : w.frozen? ⟨g, 3, none⟩ = false
  lt : g < w.heap.size
  le : k ≤ L.length
  byt : Byt L
  nz : FltNz flt
  ty : ∃ cs z, w.heap[g]? = some (.cells cs 75 z)
theorem RRd.keep {w w' : World} {g k : Nat} {L : List Nat} {flt : Option (Int × Int)} (h : RRd w g L k flt) (hb : Below w.heap.size w w') : RRd w' g L k flt := by
  obtain ⟨A, c, h0, h1, h2⟩ := h.b
  obtain ⟨t, h3, h4, h5⟩ := h.c1
  obtain ⟨cs, z, h6⟩ := h.ty
  have cl : ∀ o, w'.cell? ⟨g, o, none⟩ = w.cell? ⟨g, o, none⟩ := fun o => hb.cell (p := ⟨g, o, none⟩) h.lt
  have fl : ∀ o, w'.frozen? ⟨g, o, none⟩ = w.frozen? ⟨g, o, none⟩ := fun o => hb.frozen (p := ⟨g, o, none⟩) h.lt
  exact ⟨⟨A, c, (cl 0).trans h0, h1.ext hb, h2⟩, ⟨t, (cl 1).trans h3, h4, h5⟩, (cl 2).trans h.c2, (cl 3).trans h.c3, (fl 1).trans h.f1, (fl 2).trans h.f2, (fl 3).trans h.f3, by have := h.lt; have := hb.size; omega, h.le, h.byt, h.nz, cs, z, (hb.block g h.lt).trans h6⟩
theorem RRd.drewN {w : World} {g k : Nat} {L : List Nat} {flt : Option (Int × Int)} (h : RRd w g L k flt) (n : Nat) : RRd (w.drewN n) g L k flt := h.keep (below_drewN (Below.refl _ _) n)
theorem RRd.ext {w w' : World} {g k : Nat} {L : List Nat} {flt : Option (Int × Int)} (h : RRd w g L k flt) (hb : Ext w w') : RRd w' g L k flt := h.keep hb
theorem fltE_nz {f : Option (Int × Int)} (h : FltNz f) (hf : ¬ f = none) : ¬ fltE f = 0 := by
  cases f with
  | none => exact absurd rfl hf
  | some x => exact h x rfl
theorem heap_type_set {w : World} {p : Addr} {v : Value} {cs : Array Value} {t : TypeId} {z : Nat × Nat} {g : Nat} (h : w.heap[g]? = some (.cells cs t z)) : ∃ cs' z', (w.setCell p v).heap[g]? = some (.cells cs' t z') := by
  by_cases e : p.block = g
  · subst e
    unfold World.setCell
    simp only [Array.getElem?_modify, if_true, h, Option.map_some]
    exact ⟨_, _, rfl⟩
  · exact ⟨cs, z, by rw [Below.heap_setCell _ _ _ _ (fun h => e h.symm)]; exact h⟩
/-- a fault is laid -/
theorem RRd.setF {w : World} {g k : Nat} {L : List Nat} {e a : Int} (h : RRd w g L k none) (he : ¬ e = 0) : RRd ((w.setCell ⟨g, 2, none⟩ (.int .i64 e)).setCell ⟨g, 3, none⟩ (.int .i64 a)) g L k (some (e, a)) := by
  obtain ⟨A, c, h0, h1, h2⟩ := h.b
  obtain ⟨t, h3, h4, h5⟩ := h.c1
  obtain ⟨cs, z, h6⟩ := h.ty
  have c2 := h.c2
  have c3 := h.c3
  have f1 := h.f1
  have f2 := h.f2
  have f3 := h.f3
  obtain ⟨cs1, z1, h7⟩ := heap_type_set (p := ⟨g, 2, none⟩) (v := .int .i64 e) h6
  obtain ⟨cs2, z2, h8⟩ := heap_type_set (p := ⟨g, 3, none⟩) (v := .int .i64 a) h7
  exact ⟨⟨A, c, by simp [go_sem, h0], (h1.setOther fun b o s e => (h2 b o s e).1).setOther fun b o s e => (h2 b o s e).1, h2⟩, ⟨t, by simp [go_sem, h3], h4, fun h => by cases h⟩, by simp [go_sem, c2, fltE], by simp [go_sem, c3, fltA], by simp [go_sem, f1], by simp [go_sem, f2], by simp [go_sem, f3], by simpa using h.lt, h.le, h.byt, fun x hx => by cases hx; exact he, cs2, z2, h8⟩
/-- the place goes on -/
theorem RRd.setTo {w : World} {g k : Nat} {L : List Nat} (h : RRd w g L k none) {j : Nat} (hj : j ≤ L.length) : RRd (w.setCell ⟨g, 1, none⟩ (.int .i64 (j : Int))) g L j none := by
  obtain ⟨A, c, h0, h1, h2⟩ := h.b
  obtain ⟨t, h3, h4, h5⟩ := h.c1
  obtain ⟨cs, z, h6⟩ := h.ty
  have c2 := h.c2
  have c3 := h.c3
  have f1 := h.f1
  have f2 := h.f2
  have f3 := h.f3
  obtain ⟨cs1, z1, h7⟩ := heap_type_set (p := ⟨g, 1, none⟩) (v := .int .i64 (j : Int)) h6
  exact ⟨⟨A, c, by simp [go_sem, h0], h1.setOther fun b o s e => (h2 b o s e).1, h2⟩, ⟨j, by simp [go_sem, h3], hj, fun _ => rfl⟩, by simp [go_sem, c2], by simp [go_sem, c3], by simp [go_sem, f1], by simp [go_sem, f2], by simp [go_sem, f3], by simpa using h.lt, hj, h.byt, h.nz, cs1, z1, h7⟩
theorem rFail_any (g k : Nat) (L : List Nat) (f : Option (Int × Int)) (e a : Int) (w : World) (h : RRd w g L k f) :
    Calls Tryz.prog 46 #[.pointer (some ⟨g, 0, none⟩), .int .i64 e, .int .i64 a] w fun r w' => (∃ v, r = .returned v) ∧ RRd w' g L k (failF f e a) ∧ But (· = g) w w' := by
  have H2 := h.c2
  have H3 := h.c3
  have F2 := h.f2
  have F3 := h.f3
  have HH := Lib.hid h
  cases f with
  | some x =>
    have hz : (fltE (some x) == 0) = false := beq_false_of_ne (h.nz x rfl)
    generalize fltE (some x) = z at *
    clear h
    go_enter Tryz.func46, Tryz.ntmps46
    go_wp2
    go_end0
    exact ⟨⟨_, rfl⟩, HH.out, But.refl _ _⟩
  | none =>
    change w.cell? ⟨g, 2, none⟩ = some (.int .i64 0) at H2
    change w.cell? ⟨g, 3, none⟩ = some (.int .i64 0) at H3
    clear h
    by_cases he : e = 0
    · subst he
      go_enter Tryz.func46, Tryz.ntmps46
      go_wp2
      go_end0
      exact ⟨⟨_, rfl⟩, HH.out, But.refl _ _⟩
    · have hz : (e == 0) = false := beq_false_of_ne he
      have hz2 : (e != 0) = true := by simpa using he
      have HE := Lib.hid he
      clear he
      go_enter Tryz.func46, Tryz.ntmps46
      go_wp2
      go_end0
      refine ⟨⟨_, rfl⟩, ?_, ((But.refl (· = g) w).setCell (p := ⟨g, 2, none⟩) rfl _).setCell (p := ⟨g, 3, none⟩) rfl _⟩
      unfold failF
      simp only [if_neg HE.out]
      exact HH.out.setF HE.out
theorem rAt_any (g k : Nat) (L : List Nat) (f : Option (Int × Int)) (w : World) (h : RRd w g L k f) :
    Calls Tryz.prog 43 #[.pointer (some ⟨g, 0, none⟩)] w fun r w' => r = .returned (.int .i64 (atF f k)) ∧ w = w' := by
  have H2 := h.c2
  have H3 := h.c3
  obtain ⟨t, H1, _, ht⟩ := h.c1
  cases f with
  | some x =>
    have hz : (fltE (some x) == 0) = false := beq_false_of_ne (h.nz x rfl)
    have hz2 : (fltE (some x) != 0) = true := by simpa [fltE] using h.nz x rfl
    generalize fltE (some x) = z at *
    change w.cell? ⟨g, 3, none⟩ = some (.int .i64 x.2) at H3
    clear h
    go_enter Tryz.func43, Tryz.ntmps43
    go_wp2
    go_ret
    exact ⟨rfl, rfl⟩
  | none =>
    change w.cell? ⟨g, 2, none⟩ = some (.int .i64 0) at H2
    obtain rfl := ht rfl
    clear h
    go_enter Tryz.func43, Tryz.ntmps43
    go_wp2
    go_ret
    exact ⟨rfl, rfl⟩
theorem rEnd_any (g k : Nat) (L : List Nat) (f : Option (Int × Int)) (w : World) (h : RRd w g L k f) (hL : L.length < 1099511627776) :
    Calls Tryz.prog 49 #[.pointer (some ⟨g, 0, none⟩)] w fun r w' => r = .returned (.agg #[.int .i64 (endF f k L.length).1, .int .i64 (endF f k L.length).2]) ∧ Ext w w' := by
  have hb := (Below.refl w.heap.size w).alloc (Nat.le_refl _) (.cells #[.int .i64 0, .int .i64 0] 32)
  have h' := h.keep hb
  have H2 := h'.c2
  have H3 := h'.c3
  obtain ⟨t, H1, _, ht⟩ := h'.c1
  obtain ⟨A, c, H0, _⟩ := h'.b
  have hle := h.le
  have hlt : ¬ w.heap.size = g := by have := h.lt; omega
  have hlt2 : ¬ g = w.heap.size := by have := h.lt; omega
  cases f with
  | some x =>
    obtain ⟨ex, ax⟩ := x
    have hz : (ex == 0) = false := beq_false_of_ne (h.nz _ rfl)
    have hz2 : (ex != 0) = true := by simpa using h.nz _ rfl
    change _ = some (Value.int .i64 ex) at H2
    change _ = some (Value.int .i64 ax) at H3
    clear h h' hb ht
    generalize L.length = N at *
    go_enter Tryz.func49, Tryz.ntmps49
    go_wp2_with fail
    go_quiet (fail)
    go_wp2
    refine bodyPost_ret (v := .agg #[.int .i64 ex, .int .i64 ax]) (by simp [results, Tryz.results49, go_sem]; try rfl) rfl ⟨rfl, ?_⟩
    exact (by repeat (first | assumption | exact Ext.refl _ | refine Ext.drew ?_ | refine Ext.drewN ?_ _ | refine Ext.alloc ?_ _ | refine Ext.setCell ?_ (by first | omega | (simp; done) | (simp; omega)) _ | refine Ext.trans ?_ (by assumption)))
  | none =>
    change _ = some (Value.int .i64 0) at H2
    change _ = some (Value.int .i64 0) at H3
    obtain rfl := ht rfl
    clear h h' hb
    generalize L.length = N at *
    by_cases hk : t < N
    · rw [show endF none t N = (4, (t : Int)) from if_pos hk]
      have hd : decide (t < N) = true := decide_eq_true hk
      have hd2 : decide ((t : Int) < (N : Int)) = true := decide_eq_true (by omega)
      go_enter Tryz.func49, Tryz.ntmps49
      go_wp2_with fail
      go_quiet (fail)
      go_wp2
      refine bodyPost_ret (v := .agg #[.int .i64 4, .int .i64 (t : Int)]) (by simp [results, Tryz.results49, go_sem]; try rfl) rfl ⟨rfl, ?_⟩
      exact (by repeat (first | assumption | exact Ext.refl _ | refine Ext.drew ?_ | refine Ext.drewN ?_ _ | refine Ext.alloc ?_ _ | refine Ext.setCell ?_ (by first | omega | (simp; done) | (simp; omega)) _ | refine Ext.trans ?_ (by assumption)))
    · rw [show endF none t N = (0, 0) from if_neg hk]
      have hd : decide (t < N) = false := decide_eq_false hk
      have hd2 : decide ((t : Int) < (N : Int)) = false := decide_eq_false (by omega)
      go_enter Tryz.func49, Tryz.ntmps49
      go_wp2_with fail
      go_quiet (fail)
      go_wp2
      refine bodyPost_ret (v := .agg #[.int .i64 0, .int .i64 0]) (by simp [results, Tryz.results49, go_sem]; try rfl) rfl ⟨rfl, ?_⟩
      exact (by repeat (first | assumption | exact Ext.refl _ | refine Ext.drew ?_ | refine Ext.drewN ?_ _ | refine Ext.alloc ?_ _ | refine Ext.setCell ?_ (by first | omega | (simp; done) | (simp; omega)) _ | refine Ext.trans ?_ (by assumption)))
def gtV (t : Nat) (V : Nat × Nat × Int) : Value := .tuple #[.int .u64 (V.1 : Int), .int .i64 (if V.2.2 = 0 then ((t + V.2.1 : Nat) : Int) else 0), .agg #[.int .i64 V.2.2, .int .i64 (if V.2.2 = 0 then 0 else (t : Int))]]
set_option maxRecDepth 100000 in
set_option maxHeartbeats 4000000 in
theorem rGet_any (A : Option Addr) (m cc t : Nat) (L : List Nat) (w : World) (h : Sl w 1 A m cc (by_ L)) (hB : Byt L) (ht : t ≤ m) (hm : m < 1099511627776) :
    Calls Tryz.prog 78 #[.slice A m cc, .int .i64 (t : Int)] w fun r w' => r = .returned (gtV t (numGo (L.drop t) 0 0)) ∧ Ext w w' := by
  have hL : L.length = m := by have := h.len; rw [by_len] at this; omega
  obtain ⟨n, hn⟩ : ∃ n, n = m - t := ⟨_, rfl⟩
  obtain ⟨V, hV⟩ : ∃ V, V = numGo (L.drop t) 0 0 := ⟨_, rfl⟩
  rw [← hV]
  have HV := Lib.hid hV
  have HL := Lib.hid hL
  have HS := Lib.hid (h.ext ((Ext.refl w).alloc (.cells #[.int .i64 0, .int .i64 0] 32)))
  have HB := Lib.hid hB
  have HN := Lib.hid hn
  have t0 : ¬ (t : Int) < 0 := by omega
  have t1 : ¬ (m : Int) < (t : Int) := by omega
  have t2 : (t : Int) ≤ (m : Int) := by omega
  have t3 : (0 : Int) ≤ (t : Int) := by omega
  have mI : (m : Int) < 1099511627776 := by omega
  clear hV hL h hB hn ht
  go_enter Tryz.func78, Tryz.ntmps78
  go_wp2
  go_loopg [7, 8] n (fun g a i wx => g ≤ n ∧ n - g ≤ 9 ∧ ∃ acc : Nat, Hid (V = numGo (L.drop (t + (n - g))) (n - g) acc ∧ acc < 2 ^ (7 * (n - g))) ∧ acc < 18446744073709551616 ∧ a = .int .u64 (acc : Int) ∧ i = .int .i64 ((n - g : Nat) : Int) ∧ wx = w.alloc (.cells #[.int .i64 0, .int .i64 0] 32))
  case atStart => exact ⟨Nat.le_refl _, by omega, 0, ⟨by rw [Nat.sub_self]; exact HV.out, by rw [Nat.sub_self]; decide⟩, by decide, rfl, by simp, rfl⟩
  case round =>
    obtain ⟨hg, hg9, acc, H, ha, rfl, hi, rfl⟩ := hrel
    obtain ⟨k, hk⟩ : ∃ k, k = n - gk := ⟨_, rfl⟩
    rw [← hk] at H hi hg9
    subst hi
    have hkI : (k : Int) < 10 := by omega
    have hk0 : (0 : Int) ≤ (k : Int) := by omega
    have hd10 : decide ((k : Int) < 10) = true := decide_eq_true hkI
    by_cases hz : gk = 0
    · have hkn : ¬ (t : Int) + (k : Int) < m := by have := HN.out; omega
      have hdn : decide ((t : Int) + (k : Int) < (m : Int)) = false := decide_eq_false hkn
      have e : V = (0, 0, 6) := by
        rw [H.out.1, List.drop_eq_nil_of_le (by have := HL.out; have := HN.out; omega)]; rfl
      subst e
      clear H hz hg hk hg9
      go_wp2
      refine bodyPost_ret (v := .tuple #[.int .u64 0, .int .i64 0, .agg #[.int .i64 6, .int .i64 (t : Int)]]) (by simp [results, Tryz.results78, go_sem]; try rfl) rfl ⟨by simp [gtV], (by repeat (first | assumption | exact Ext.refl _ | refine Ext.drew ?_ | refine Ext.drewN ?_ _ | refine Ext.alloc ?_ _ | refine Ext.setCell ?_ (by first | omega | (simp; done) | (simp; omega)) _ | refine Ext.trans ?_ (by assumption)))⟩
    · have hkn : (t : Int) + (k : Int) < m := by have := HN.out; omega
      have hdn : decide ((t : Int) + (k : Int) < (m : Int)) = true := decide_eq_true hkn
      obtain ⟨b, o, rfl, hb, hc⟩ := HS.out.at_ (show 0 < m from by have := HN.out; omega)
      have hkl : t + k < L.length := by have := HL.out; have := HN.out; omega
      have hc1 := hc (t + k) _ (by_get L (t + k) hkl)
      have hx : numGo (L.drop (t + k)) k acc = if (k = 9 ∧ 1 < L.getD (t + k) 0) ∨ (0 < k ∧ L.getD (t + k) 0 = 0) then (0, 0, 5) else if L.getD (t + k) 0 < 128 then (acc + L.getD (t + k) 0 % 128 * 2 ^ (7 * k), k + 1, 0) else numGo (L.drop (t + (k + 1))) (k + 1) (acc + L.getD (t + k) 0 % 128 * 2 ^ (7 * k)) := by
        rw [List.drop_eq_getElem_cons hkl, numGo, List.getD_eq_getElem?_getD, List.getElem?_eq_getElem hkl]
        rfl
      have hcb := HB.out.get (t + k)
      obtain ⟨c, hcc⟩ : ∃ c, c = L.getD (t + k) 0 := ⟨_, rfl⟩
      rw [← hcc] at hc1 hx hcb
      rw [← H.out.1] at hx
      have HX := Lib.hid hx
      have HK := Lib.hid (And.intro hk (And.intro hg hz))
      clear hx hcc hc hk hg hz
      have hcI : (0 : Int) ≤ (c : Int) := by omega
      have hcJ : (c : Int) < 256 := by omega
      have hk9 : (k : Int) ≤ 9 := by omega
      by_cases hA : k = 9 ∧ 1 < c
      · have e : V = (0, 0, 5) := by rw [HX.out, if_pos (.inl hA)]
        subst e
        have p1 : ((k : Int) == 9) = true := by simp [hA.1]
        have p2 : decide (1 < (c : Int)) = true := decide_eq_true (by omega)
        clear hA H HX
        go_wp2
        refine bodyPost_ret (v := .tuple #[.int .u64 0, .int .i64 0, .agg #[.int .i64 5, .int .i64 (t : Int)]]) (by simp [results, Tryz.results78, go_sem]; try rfl) rfl ⟨by simp [gtV], (by repeat (first | assumption | exact Ext.refl _ | refine Ext.drew ?_ | refine Ext.drewN ?_ _ | refine Ext.alloc ?_ _ | refine Ext.setCell ?_ (by first | omega | (simp; done) | (simp; omega)) _ | refine Ext.trans ?_ (by assumption)))⟩
      · by_cases hB : 0 < k ∧ c = 0
        · have e : V = (0, 0, 5) := by rw [HX.out, if_pos (.inr hB)]
          subst e
          have p3 : decide (0 < (k : Int)) = true := decide_eq_true (by omega)
          have q3 : decide (0 < k) = true := decide_eq_true (by omega)
          have hc2 : (w.alloc (.cells #[.int .i64 0, .int .i64 0] 32)).cell? ⟨b, o + (t + k), none⟩ = some (.int .u8 0) := by rw [hc1, hB.2]; rfl
          clear hA hB H HX hc1 hcI hcJ hcb
          by_cases p : k = 9
          · have p1 : ((k : Int) == 9) = true := by simp [p]
            clear p
            go_wp2
            refine bodyPost_ret (v := .tuple #[.int .u64 0, .int .i64 0, .agg #[.int .i64 5, .int .i64 (t : Int)]]) (by simp [results, Tryz.results78, go_sem]; try rfl) rfl ⟨by simp [gtV], (by repeat (first | assumption | exact Ext.refl _ | refine Ext.drew ?_ | refine Ext.drewN ?_ _ | refine Ext.alloc ?_ _ | refine Ext.setCell ?_ (by first | omega | (simp; done) | (simp; omega)) _ | refine Ext.trans ?_ (by assumption)))⟩
          · have p1 : ((k : Int) == 9) = false := by simp; omega
            clear p
            go_wp2
            refine bodyPost_ret (v := .tuple #[.int .u64 0, .int .i64 0, .agg #[.int .i64 5, .int .i64 (t : Int)]]) (by simp [results, Tryz.results78, go_sem]; try rfl) rfl ⟨by simp [gtV], (by repeat (first | assumption | exact Ext.refl _ | refine Ext.drew ?_ | refine Ext.drewN ?_ _ | refine Ext.alloc ?_ _ | refine Ext.setCell ?_ (by first | omega | (simp; done) | (simp; omega)) _ | refine Ext.trans ?_ (by assumption)))⟩
        · have hx := HX.out
          rw [if_neg (by omega)] at hx
          have hsm := acc_small (c := c % 128) H.out.2 hg9 (by omega) (by omega)
          have HA := Lib.hid H.out.2
          have HSM := Lib.hid hsm
          have HX2 := Lib.hid hx
          have hc7 : ((c % 128 : Nat) : Int) < 128 := by omega
          have H9 := Lib.hid (show k = 9 → c < 128 from fun hh => by omega)
          have hcases : k = 0 ∨ (¬ k = 9 ∧ 0 < k ∧ ¬ c = 0) ∨ (k = 9 ∧ c = 1) := by omega
          clear hA hB H HX hx hsm
          rcases hcases with hk1 | ⟨hk1, hk2, hc3⟩ | ⟨hk1, hc3⟩
          · have p1 : ((k : Int) == 9) = false := by simp; omega
            have p3 : decide (0 < (k : Int)) = false := by simp; omega
            have q3 : decide (0 < k) = false := by simp; omega
            clear hk1
            by_cases h8 : (c : Int) < 128
            · have hv := HX2.out
              rw [if_pos (by omega)] at hv
              replace hv := Lib.hid hv
              go_wp2
              refine bodyPost_ret (v := .tuple #[.int .u64 (bits .or .u64 (acc : Int) (IntKind.u64.wrap ((c : Int) % 128 * 2 ^ (7 * k)))), .int .i64 ((t : Int) + ((k : Int) + 1)), .agg #[.int .i64 0, .int .i64 0]]) (by simp [results, Tryz.results78, go_sem]; try rfl) rfl ⟨?_, (by repeat (first | assumption | exact Ext.refl _ | refine Ext.drew ?_ | refine Ext.drewN ?_ _ | refine Ext.alloc ?_ _ | refine Ext.setCell ?_ (by first | omega | (simp; done) | (simp; omega)) _ | refine Ext.trans ?_ (by assumption)))⟩
              rw [hv.out, num_val HA.out HSM.out]
              unfold gtV
              simp
            · have hv := HX2.out
              rw [if_neg (by omega)] at hv
              replace hv := Lib.hid hv
              go_wp2
              go_roundg (gk - 1)
              case measure => have := HK.out; omega
              case rel =>
                have e2 : n - (gk - 1) = k + 1 := by have := HK.out; omega
                have h9 : ¬ k = 9 := by intro hh; have := H9.out hh; omega
                exact ⟨by have := HK.out; omega, by omega, acc + c % 128 * 2 ^ (7 * k), by rw [e2]; exact Lib.hid ⟨hv.out, acc_step HA.out (by omega)⟩, HSM.out.2, num_eq (num_val HA.out HSM.out), num_eq (by rw [e2]; simp), rfl⟩
          · have p1 : ((k : Int) == 9) = false := by simp; omega
            have p3 : decide (0 < (k : Int)) = true := by simp; omega
            have q3 : decide (0 < k) = true := by simp; omega
            have p4 : ((c : Int) == 0) = false := by simp; omega
            clear hk1 hc3
            by_cases h8 : (c : Int) < 128
            · have hv := HX2.out
              rw [if_pos (by omega)] at hv
              replace hv := Lib.hid hv
              go_wp2
              refine bodyPost_ret (v := .tuple #[.int .u64 (bits .or .u64 (acc : Int) (IntKind.u64.wrap ((c : Int) % 128 * 2 ^ (7 * k)))), .int .i64 ((t : Int) + ((k : Int) + 1)), .agg #[.int .i64 0, .int .i64 0]]) (by simp [results, Tryz.results78, go_sem]; try rfl) rfl ⟨?_, (by repeat (first | assumption | exact Ext.refl _ | refine Ext.drew ?_ | refine Ext.drewN ?_ _ | refine Ext.alloc ?_ _ | refine Ext.setCell ?_ (by first | omega | (simp; done) | (simp; omega)) _ | refine Ext.trans ?_ (by assumption)))⟩
              rw [hv.out, num_val HA.out HSM.out]
              unfold gtV
              simp
            · have hv := HX2.out
              rw [if_neg (by omega)] at hv
              replace hv := Lib.hid hv
              go_wp2
              go_roundg (gk - 1)
              case measure => have := HK.out; omega
              case rel =>
                have e2 : n - (gk - 1) = k + 1 := by have := HK.out; omega
                have h9 : ¬ k = 9 := by intro hh; have := H9.out hh; omega
                exact ⟨by have := HK.out; omega, by omega, acc + c % 128 * 2 ^ (7 * k), by rw [e2]; exact Lib.hid ⟨hv.out, acc_step HA.out (by omega)⟩, HSM.out.2, num_eq (num_val HA.out HSM.out), num_eq (by rw [e2]; simp), rfl⟩
          · have p1 : ((k : Int) == 9) = true := by simp; omega
            have p2 : decide (1 < (c : Int)) = false := by simp; omega
            have q2 : decide (1 < c) = false := by simp; omega
            have p3 : decide (0 < (k : Int)) = true := by simp; omega
            have q3 : decide (0 < k) = true := by simp; omega
            have p4 : ((c : Int) == 0) = false := by simp; omega
            clear hk1 hc3
            by_cases h8 : (c : Int) < 128
            · have hv := HX2.out
              rw [if_pos (by omega)] at hv
              replace hv := Lib.hid hv
              go_wp2
              refine bodyPost_ret (v := .tuple #[.int .u64 (bits .or .u64 (acc : Int) (IntKind.u64.wrap ((c : Int) % 128 * 2 ^ (7 * k)))), .int .i64 ((t : Int) + ((k : Int) + 1)), .agg #[.int .i64 0, .int .i64 0]]) (by simp [results, Tryz.results78, go_sem]; try rfl) rfl ⟨?_, (by repeat (first | assumption | exact Ext.refl _ | refine Ext.drew ?_ | refine Ext.drewN ?_ _ | refine Ext.alloc ?_ _ | refine Ext.setCell ?_ (by first | omega | (simp; done) | (simp; omega)) _ | refine Ext.trans ?_ (by assumption)))⟩
              rw [hv.out, num_val HA.out HSM.out]
              unfold gtV
              simp
            · have hv := HX2.out
              rw [if_neg (by omega)] at hv
              replace hv := Lib.hid hv
              go_wp2
              go_roundg (gk - 1)
              case measure => have := HK.out; omega
              case rel =>
                have e2 : n - (gk - 1) = k + 1 := by have := HK.out; omega
                have h9 : ¬ k = 9 := by intro hh; have := H9.out hh; omega
                exact ⟨by have := HK.out; omega, by omega, acc + c % 128 * 2 ^ (7 * k), by rw [e2]; exact Lib.hid ⟨hv.out, acc_step HA.out (by omega)⟩, HSM.out.2, num_eq (num_val HA.out HSM.out), num_eq (by rw [e2]; simp), rfl⟩
end
section
open Go.RowKit
theorem own_one (w : World) (e : TypeId) (x : Value) (h : x.oneCell' = true) : (w.alloc (.cells #[x] e)).ownsRow w.heap.size e 1 (.slice (some ⟨w.heap.size, 0, none⟩) 1 1) 1 [x] :=
  World.ownsRow_lit w #[x] 1 (Nat.le_refl _) (by simp [maxLen]) (by simp)
theorem wrap_u8 (n : Int) : IntKind.u8.wrap n = n % 256 := by unfold IntKind.wrap; simp [IntKind.bits, IntKind.signed]
set_option maxHeartbeats 1000000 in
theorem rPut_ind (b : Nat) : ∀ (N : Nat) (w : World), N ≤ b → N < 18446744073709551616 → Calls Tryz.prog 64 #[.int .u64 (N : Int)] w (ByRet (putL N) w) := by
  induction b with
  | zero =>
    intro N w hb _
    obtain rfl : N = 0 := by omega
    have h := Lib.hid (putL_lt (n := 0) (by decide))
    go_enter Tryz.func64, Tryz.ntmps64
    go_wp2_with fail
    go_ret
    rw [h.out]
    exact ⟨_, rfl, own_one w _ _ rfl, (by repeat (first | assumption | exact Ext.refl _ | refine Ext.drew ?_ | refine Ext.drewN ?_ _ | refine Ext.alloc ?_ _ | refine Ext.setCell ?_ (by first | omega | (simp; done) | (simp; omega)) _ | refine Ext.trans ?_ (by assumption)))⟩
  | succ b ih =>
    intro N w hb hN
    by_cases h1 : N < 128
    · have h := Lib.hid (putL_lt h1)
      have h2 : (N : Int) < 128 := by omega
      have h3 : IntKind.u8.wrap (N : Int) = N := by rw [wrap_u8]; omega
      clear hb ih
      go_enter Tryz.func64, Tryz.ntmps64
      go_wp2_with fail
      go_ret
      rw [h.out]
      refine ⟨_, rfl, ?_, (by repeat (first | assumption | exact Ext.refl _ | refine Ext.drew ?_ | refine Ext.drewN ?_ _ | refine Ext.alloc ?_ _ | refine Ext.setCell ?_ (by first | omega | (simp; done) | (simp; omega)) _ | refine Ext.trans ?_ (by assumption)))⟩
      simpa [by_, Int.emod_eq_of_lt (show (0 : Int) ≤ N by omega) (show (N : Int) < 256 by omega)] using own_one w 5 (.int .u8 (N : Int)) rfl
    · have h := Lib.hid (putL_ge h1)
      have h2 : ¬ (N : Int) < 128 := by omega
      have eI : ((N / 128 : Nat) : Int) = (N : Int) / 128 := by omega
      have hI := fun w => ih (N / 128) w (by omega) (by omega)
      rw [eI] at hI
      replace hI := Lib.hid hI
      have ho : bits .or .u8 ((N : Int) % 128) 128 = ((N % 128 + 128 : Nat) : Int) := by
        have := or_all ⟨N % 128, by omega⟩
        simp only at this
        rw [show ((N : Int) % 128) = ((N % 128 : Nat) : Int) from by omega, this]
        simp
      have hl : (putL (N / 128)).length ≤ 10 := putL_len (N / 128) 9 (by omega)
      have HLn := Lib.hid hl
      have hoh := Lib.hid ho
      have hown0 := Lib.hid (own_one w 5 (.int .u8 (bits .or .u8 ((N : Int) % 128) 128)) rfl)
      obtain ⟨i0, hi, hz0, hz1, hz2⟩ := info_parts u8_info
      clear hb ih hl eI ho
      go_enter Tryz.func64, Tryz.ntmps64
      go_wp2_with fail
      refine (hI.out _).mono ?_
      rintro r w1 ⟨v, rfl, h3, h4⟩
      obtain ⟨A1, c1, rfl, s1⟩ := own_parts h3
      have hown1 := Lib.hid (own_keep hown0.out h4)
      have hS1 := Lib.hid s1
      have hX1 := Lib.hid h4
      have hz := h4.size
      simp at hz
      clear h3 h4 s1 hown0 hI
      go_wp2_with (at_builtin; refine wpList_append_sl w1 rfl _ _ 23 rfl w.heap.size 5 i0 (.int .u8 0) 1 1 Tryz.underlying23 hi hz0 hz1 hz2 rfl (by decide) _ 1 [.int .u8 (bits .or .u8 ((N : Int) % 128) 128)] (by rfl) hown1.out A1 (putL (N / 128)).length c1 (by_ (putL (N / 128))) (by rfl) hS1.out by_one (by have := HLn.out; omega) (by decide) (by omega) ?_; intro v2 w2 hown2 hb2; have H2 := Lib.hid (And.intro hown2 hb2); clear hown2 hb2)
      go_ret
      refine ⟨_, rfl, ?_, Ext.below (Ext.trans ((Ext.refl w).alloc _) hX1.out) H2.out.2⟩
      have hh := H2.out.1
      rw [h.out, List.length_cons, Nat.add_comm]
      rw [hoh.out] at hh
      exact hh
theorem rPut_any (N : Nat) (hN : N < 18446744073709551616) (w : World) : Calls Tryz.prog 64 #[.int .u64 (N : Int)] w (ByRet (putL N) w) := rPut_ind N N w (Nat.le_refl _) hN
set_option maxRecDepth 100000 in
theorem kCopyBytes_any (A : Option Addr) (c : Nat) (L : List Nat) (w : World) (h : Sl w 1 A L.length c (by_ L)) (hn : L.length < 1099511627776) :
    Calls Tryz.prog 66 #[.slice A L.length c] w (ByRet L w) := by
  obtain ⟨i0, hi, hz0, hz1, hz2⟩ := info_parts u8_info
  have HS := Lib.hid h
  clear h
  generalize hL : L.length = n at *
  replace hL := Lib.hid hL
  go_enter Tryz.func66, Tryz.ntmps66
  go_wp2_with (at_builtin; refine wpList_append_sl (w.alloc (.cells #[] 5)) rfl _ _ 23 rfl w.heap.size 5 i0 (.int .u8 0) 1 1 Tryz.underlying23 hi hz0 hz1 hz2 rfl (by decide) _ 0 [] (by rfl) (own_empty w _ _) A n c (by_ L) (by rfl) (HS.out.ext ((Ext.refl _).alloc _)) by_one (by omega) (by decide) (by simp) ?_; intro v1 w1 hown1 hb1; simp only [Nat.zero_add, List.nil_append] at hown1; have H := Lib.hid (show ByRet L w (.returned v1) w1 from ⟨v1, rfl, by rw [hL.out]; exact hown1, ((Ext.refl w).alloc (.cells #[] 5)).below hb1⟩); clear hown1 hb1)
  go_ret
  exact H.out
theorem rNewReader_any (A : Option Addr) (c : Nat) (L : List Nat) (hB : Byt L) (w : World) (h : Sl w 1 A L.length c (by_ L)) (hn : L.length < 1099511627776) :
    Calls Tryz.prog 41 #[.slice A L.length c] w fun r w' => ∃ g, r = .returned (.pointer (some ⟨g, 0, none⟩)) ∧ w.heap.size ≤ g ∧ RRd w' g L 0 none ∧ Ext w w' := by
  have C := Lib.hid (kCopyBytes_any A c L w h hn)
  have HB := Lib.hid hB
  clear h hB
  go_enter Tryz.func41, Tryz.ntmps41
  go_wp2_with fail
  refine C.out.mono ?_
  rintro r w1 ⟨v, rfl, h1, h2⟩
  obtain ⟨A1, c1, rfl, s1⟩ := own_parts h1
  have hlt : ∀ b o s, A1 = some ⟨b, o, s⟩ → b < w1.heap.size ∧ o = 0 := by
    intro b o s e
    subst e
    refine ⟨h1.lt b rfl |>.2, ?_⟩
    rcases h1.2 with ⟨h', _⟩ | ⟨q, cap, cur, h', _⟩
    · injection h' with h'; cases h'
    · injection h' with h'; injection h' with h'; injection h'
  have H := Lib.hid (And.intro h1 (And.intro h2 (And.intro s1 hlt)))
  clear h1 h2 C s1 hlt
  go_wp2_with fail
  go_ret
  obtain ⟨h1, h2, s1, hlt⟩ := H.out
  have hz := h2.size
  exact ⟨w1.heap.size, rfl, hz, ⟨⟨A1, c1, by simp [go_sem], s1.ext ((Ext.refl _).alloc _), hlt⟩, ⟨0, by simp [go_sem], Nat.zero_le _, fun _ => rfl⟩, by simp [go_sem, fltE], by simp [go_sem, fltA], by simp [go_sem], by simp [go_sem], by simp [go_sem], by simp, Nat.zero_le _, HB.out, FltNz.none, _, _, heap_alloc_new w1 _⟩, h2.alloc _⟩
/-- U: the number, the place, the fault -/
def ruE (L : List Nat) (k : Nat) : Int := (numGo (L.drop k) 0 0).2.2
def ruV (L : List Nat) (k : Nat) (f : Option (Int × Int)) : Int := if f = none ∧ ruE L k = 0 then ((numGo (L.drop k) 0 0).1 : Int) else 0
def ruK (L : List Nat) (k : Nat) (f : Option (Int × Int)) : Nat := if f = none ∧ ruE L k = 0 then k + (numGo (L.drop k) 0 0).2.1 else k
def ruF (L : List Nat) (k : Nat) (f : Option (Int × Int)) : Option (Int × Int) := if f = none then failF none (ruE L k) k else f
/-- a reference writer lies at block g: its limit, its error, what was written (in a row beyond g) -/
structure RWr (w : World) (g : Nat) (lim err : Int) (L : List Nat) : Prop where
  b : ∃ A c, w.cell? ⟨g, 1, none⟩ = some (.slice A L.length c) ∧ w.ownsRow (g + 1) 5 1 (.slice A L.length c) L.length (by_ L)
  c0 : w.cell? ⟨g, 0, none⟩ = some (.int .i64 lim)
  c2 : w.cell? ⟨g, 2, none⟩ = some (.int .i64 err)
  f1 : w.frozen? ⟨g, 1, none⟩ = false
  f2 : w.frozen? ⟨g, 2, none⟩ = false
  lt : g < w.heap.size
  short : L.length ≤ 1048576
  l0 : 0 ≤ lim
  l1 : lim ≤ 1048576
theorem RWr.keep {w w' : World} {g : Nat} {lim err : Int} {L : List Nat} (h : RWr w g lim err L) (hb : Ext w w') : RWr w' g lim err L := by
  obtain ⟨A, c, h0, h1⟩ := h.b
  have cl : ∀ o, w'.cell? ⟨g, o, none⟩ = w.cell? ⟨g, o, none⟩ := fun o => Below.cell hb (p := ⟨g, o, none⟩) h.lt
  have fl : ∀ o, w'.frozen? ⟨g, o, none⟩ = w.frozen? ⟨g, o, none⟩ := fun o => Below.frozen hb (p := ⟨g, o, none⟩) h.lt
  have hs := hb.size
  exact ⟨⟨A, c, (cl 1).trans h0, own_keep h1 hb⟩, (cl 0).trans h.c0, (cl 2).trans h.c2, (fl 1).trans h.f1, (fl 2).trans h.f2, by have := h.lt; omega, h.short, h.l0, h.l1⟩
theorem RWr.ext {w w' : World} {g : Nat} {lim err : Int} {L : List Nat} (h : RWr w g lim err L) (hb : Ext w w') : RWr w' g lim err L := h.keep hb
theorem RWr.setErr {w : World} {g : Nat} {lim err : Int} {L : List Nat} (h : RWr w g lim err L) (e : Int) : RWr (w.setCell ⟨g, 2, none⟩ (.int .i64 e)) g lim e L := by
  obtain ⟨A, c, h0, h1⟩ := h.b
  have c0 := h.c0
  have c2 := h.c2
  have f1 := h.f1
  have f2 := h.f2
  exact ⟨⟨A, c, by simp [go_sem, h0], ownsRow_setCell_below h1 (by simp) _⟩, by simp [go_sem, c0], by simp [go_sem, c2], by simp [go_sem, f1], by simp [go_sem, f2], by simpa using h.lt, h.short, h.l0, h.l1⟩
set_option maxHeartbeats 1000000 in
theorem rWAdd_err (g : Nat) (lim e : Int) (L : List Nat) (B : Option Addr) (m d : Nat) (w : World) (h : RWr w g lim e L) (he : ¬ e = 0) :
    Calls Tryz.prog 63 #[.pointer (some ⟨g, 0, none⟩), .slice B m d] w fun r w' => r = .returned (.int .i64 e) ∧ Drw w w' := by
  have H2 := h.c2
  have H0 := h.c0
  obtain ⟨A, c, H1, _⟩ := h.b
  have hef : (e == 0) = false := beq_false_of_ne he
  clear h he
  go_enter Tryz.func63, Tryz.ntmps63
  go_wp2_with fail
  go_quiet (fail)
  go_wp2_with fail
  go_ret
  exact ⟨rfl, (Drw.refl _).drewN _⟩
set_option maxHeartbeats 1000000 in
theorem rWAdd_long (g : Nat) (lim : Int) (L : List Nat) (B : Option Addr) (m d : Nat) (w : World) (h : RWr w g lim 0 L) (hm : m ≤ 1048576) (hl : lim - L.length < m) :
    Calls Tryz.prog 63 #[.pointer (some ⟨g, 0, none⟩), .slice B m d] w fun r w' => r = .returned (.int .i64 4) ∧ RWr w' g lim 4 L ∧ Below g w w' := by
  have H2 := h.c2
  have H0 := h.c0
  obtain ⟨A, c, H1, hown⟩ := h.b
  have F2 := h.f2
  have l2 := h.short
  have HH := Lib.hid h
  clear hown h
  generalize L.length = N at *
  have e1 : decide (lim < (N : Int) + (m : Int)) = true := decide_eq_true (by omega)
  have eq1 : IntKind.i64.wrap ((N : Int) + m) = N + m := IntWalk.i64_in _ (by omega)
  go_enter Tryz.func63, Tryz.ntmps63
  go_wp2_with fail
  go_quiet (fail)
  go_wp2
  go_ret
  exact ⟨rfl, (HH.out.keep ((Ext.refl _).drewN _)).setErr 4, (below_drewN (Below.refl _ _) _).setCell (p := ⟨g, 2, none⟩) (Nat.le_refl _) _⟩
set_option maxHeartbeats 1000000 in
theorem rWAdd_ok (g : Nat) (lim : Int) (L bl : List Nat) (B : Option Addr) (m d : Nat) (w : World) (h : RWr w g lim 0 L) (hS : Sl w 1 B m d (by_ bl)) (hl : ¬ lim - L.length < m) :
    Calls Tryz.prog 63 #[.pointer (some ⟨g, 0, none⟩), .slice B m d] w fun r w' => r = .returned (.int .i64 0) ∧ RWr w' g lim 0 (L ++ bl) ∧ Below g w w' := by
  obtain ⟨i0, hi, hz0, hz1, hz2⟩ := info_parts u8_info
  have hbm : bl.length = m := by have := hS.len; rw [by_len] at this; omega
  have H2 := h.c2
  have H0 := h.c0
  obtain ⟨A, c, H1, hown⟩ := h.b
  have F1 := h.f1
  have l0 := h.l0
  have l1 := h.l1
  have l2 := h.short
  have lt := h.lt
  have HH := Lib.hid h
  have HO := Lib.hid hown
  have HS := Lib.hid hS
  have hmn : (m : Int) ≤ 1048576 := by omega
  have hbm := Lib.hid hbm
  clear h hown hS
  generalize hLn : L.length = N at *
  replace hLn := Lib.hid hLn
  have hln : (N : Int) ≤ 1048576 := by omega
  have hle : (N : Int) + m ≤ lim := by omega
  have e1 : decide (lim < (N : Int) + (m : Int)) = false := decide_eq_false (by omega)
  have eq1 : IntKind.i64.wrap ((N : Int) + m) = N + m := IntWalk.i64_in _ (by omega)
  clear hl
  go_enter Tryz.func63, Tryz.ntmps63
  go_wp2_with fail
  go_quiet (fail)
  clear eq1
  go_wp2_with (at_builtin; refine wpList_append_sl (w.drewN nq) rfl _ _ 23 rfl (g + 1) 5 i0 (.int .u8 0) 1 1 Tryz.underlying23 hi hz0 hz1 hz2 rfl (by decide) _ N (by_ L) (by rfl) HO.out B m d (by_ bl) (by rfl) (HS.out.ext ((Ext.refl _).drewN _)) by_one (by omega) (by decide) (by simp; omega) ?_; intro v1 w1 hown1 hb1; obtain ⟨A1, c1, rfl, s1⟩ := own_parts hown1; have q0 : w1.cell? ⟨g, 1, none⟩ = some (.slice A N c) := (hb1.cell (p := ⟨g, 1, none⟩) (by simp)).trans H1; have q1 : w1.frozen? ⟨g, 1, none⟩ = false := (hb1.frozen (p := ⟨g, 1, none⟩) (by simp)).trans F1; have q2 : w1.cell? ⟨g, 2, none⟩ = some (.int .i64 0) := (hb1.cell (p := ⟨g, 2, none⟩) (by simp)).trans H2; have HB := Lib.hid hb1; have HW := Lib.hid hown1; clear hb1 hown1 s1)
  go_ret
  refine ⟨rfl, ?_, ?_⟩
  · have hb := HB.out
    have hh := HH.out
    have eL : (L ++ bl).length = N + m := by rw [List.length_append, hLn.out, hbm.out]
    have cl : ∀ o, w1.cell? ⟨g, o, none⟩ = w.cell? ⟨g, o, none⟩ := fun o => hb.cell (p := ⟨g, o, none⟩) (by simp)
    have fl : ∀ o, w1.frozen? ⟨g, o, none⟩ = w.frozen? ⟨g, o, none⟩ := fun o => hb.frozen (p := ⟨g, o, none⟩) (by simp)
    have e1 := cl 1; have e0 := (cl 0).trans hh.c0; have e2 := (cl 2).trans hh.c2
    have g1 := (fl 1).trans hh.f1; have g2 := (fl 2).trans hh.f2
    have hs := hb.size
    simp at hs
    refine ⟨⟨A1, c1, by rw [eL]; simp [go_sem, q0], ?_⟩, by simp [go_sem, e0], by simp [go_sem, e2], by simp [go_sem, g1], by simp [go_sem, g2], by simp; omega, by rw [eL]; omega, l0, l1⟩
    rw [eL, ← by_append]
    exact ownsRow_setCell_below HW.out (by simp) _
  · have hbg : Below g (w.drewN nq) w1 := HB.out.mono (Nat.le_succ g)
    exact ((below_drewN (Below.refl g w) nq).trans hbg).setCell (p := ⟨g, 1, none⟩) (Nat.le_refl _) _
theorem rWAdd_any (g : Nat) (lim e : Int) (L bl : List Nat) (B : Option Addr) (m d : Nat) (w : World) (h : RWr w g lim e L) (hS : Sl w 1 B m d (by_ bl)) (hm : m ≤ 1048576) :
    Calls Tryz.prog 63 #[.pointer (some ⟨g, 0, none⟩), .slice B m d] w fun r w' => r = .returned (.int .i64 (wAddE lim e L bl)) ∧ RWr w' g lim (wAddE lim e L bl) (wAddL lim e L bl) ∧ Below g w w' := by
  have hbm : bl.length = m := by have := hS.len; rw [by_len] at this; omega
  unfold wAddL wAddE
  rw [hbm]
  by_cases he : e = 0
  · subst he
    rw [if_pos rfl]
    by_cases hl : lim - L.length < m
    · rw [if_pos hl, if_neg (by decide)]
      exact rWAdd_long g lim L B m d w h hm hl
    · rw [if_neg hl, if_pos rfl]
      exact rWAdd_ok g lim L bl B m d w h hS hl
  · rw [if_neg he, if_neg he]
    refine (rWAdd_err g lim e L B m d w h he).mono ?_
    rintro r w' ⟨h1, hd⟩
    exact ⟨h1, h.keep hd.ext, Below.mono hd.ext (Nat.le_of_lt h.lt)⟩
theorem rWN_pos (g : Nat) (lim e : Int) (L : List Nat) (N : Nat) (hN : N < 9223372036854775808) (w : World) (h : RWr w g lim e L) :
    Calls Tryz.prog 27 #[.pointer (some ⟨g, 0, none⟩), .int .i64 (N : Int)] w fun r w' => r = .returned (.int .i64 (wAddE lim e L (putL N))) ∧ RWr w' g lim (wAddE lim e L (putL N)) (wAddL lim e L (putL N)) ∧ Below g w w' := by
  have H := Lib.hid h
  have hn : ¬ (N : Int) < 0 := by omega
  have hN2 : (N : Int) < 9223372036854775808 := by omega
  have CP := Lib.hid (fun w => rPut_any N (by omega) w)
  have hp : (putL N).length ≤ 1048576 := by have := putL_len N 9 (by omega); omega
  have HP := Lib.hid hp
  obtain ⟨E, hE⟩ : ∃ E, E = wAddE lim e L (putL N) := ⟨_, rfl⟩
  obtain ⟨M, hM⟩ : ∃ M, M = wAddL lim e L (putL N) := ⟨_, rfl⟩
  rw [← hE, ← hM]
  have HE := Lib.hid (And.intro hE hM)
  clear h hE hM hp hN
  go_enter Tryz.func27, Tryz.ntmps27
  go_wp2_with fail
  refine (CP.out _).mono ?_
  rintro r w1 ⟨v, rfl, h1, hx1⟩
  obtain ⟨A1, c1, rfl, s1⟩ := own_parts h1
  have C := rWAdd_any g lim e L (putL N) A1 (putL N).length c1 w1 (H.out.keep hx1) s1 HP.out
  rw [← HE.out.1, ← HE.out.2] at C
  replace C := Lib.hid C
  have X1 := Lib.hid (And.intro hx1 H.out.lt)
  clear h1 s1 hx1
  go_wp2_with fail
  refine C.out.mono ?_
  rintro r w2 ⟨rfl, hw2, hb2⟩
  have W2 := Lib.hid (And.intro hw2 hb2)
  clear hw2 hb2 C
  go_wp2_with fail
  go_ret
  exact ⟨rfl, W2.out.1, (X1.out.1.mono (by have := X1.out.2; omega)).trans W2.out.2⟩
theorem rNewWriter_any (lim : Int) (h0 : 0 ≤ lim) (h1 : lim ≤ 1048576) (w : World) :
    Calls Tryz.prog 26 #[.int .i64 lim] w fun r w' => r = .returned (.tuple #[.pointer (some ⟨w.heap.size, 0, none⟩), .int .i64 0]) ∧ RWr w' w.heap.size lim 0 [] ∧ Ext w w' := by
  have hn : ¬ lim < 0 := by omega
  have hm : ¬ (1048576 : Int) < lim := by omega
  go_enter Tryz.func26, Tryz.ntmps26
  go_wp2
  go_ret2
  exact ⟨rfl, ⟨⟨none, 0, by simp [go_sem], World.ownsRow_nil _ _ _ _⟩, by simp [go_sem], by simp [go_sem], by simp [go_sem], by simp [go_sem], by simp, by simp, h0, h1⟩, (by repeat (first | assumption | exact Ext.refl _ | refine Ext.drew ?_ | refine Ext.drewN ?_ _ | refine Ext.alloc ?_ _ | refine Ext.setCell ?_ (by first | omega | (simp; done) | (simp; omega)) _ | refine Ext.trans ?_ (by assumption)))⟩
theorem rDone_any (g : Nat) (lim e : Int) (L : List Nat) (w : World) (h : RWr w g lim e L) :
    Calls Tryz.prog 30 #[.pointer (some ⟨g, 0, none⟩)] w (ByErr (if e = 0 then L else []) e w) := by
  have H2 := h.c2
  obtain ⟨A, c, H1, hown⟩ := h.b
  by_cases he : e = 0
  · subst he
    rw [if_pos rfl]
    have hs := Sl.own hown
    have C := Lib.hid (kCopyBytes_any A c L w hs (by have := h.short; omega))
    clear h hown hs
    go_enter Tryz.func30, Tryz.ntmps30
    go_wp2_with fail
    refine C.out.mono ?_
    rintro r w1 ⟨v, rfl, h1, h2⟩
    have H := Lib.hid (And.intro h1 h2)
    clear h1 h2 C
    go_wp2_with fail
    go_ret2
    exact ⟨_, rfl, H.out.1, H.out.2⟩
  · rw [if_neg he]
    have hef : (e == 0) = false := beq_false_of_ne he
    have hef2 : (e != 0) = true := by simpa using he
    clear h hown
    go_enter Tryz.func30, Tryz.ntmps30
    go_wp2_with fail
    go_quiet (fail)
    go_wp2_with fail
    go_ret2
    exact ⟨_, rfl, World.ownsRow_nil _ _ _ _, (Ext.refl _).drewN _⟩
end
end Go.Proofs.YtnbeejgppooamaaGreat
