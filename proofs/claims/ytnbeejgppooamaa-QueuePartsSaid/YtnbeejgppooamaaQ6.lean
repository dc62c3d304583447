/- queues: Add, both sides. Conditions stand in each lemma. -/
import Derived.Test.YtnbeejgppooamaaQ5
set_option linter.unusedVariables false
set_option linter.unusedSimpArgs false
namespace Go.Proofs.Ytnbeejgppooamaa
open Go.RowKit Go.ChangeShapes Go.WideShapes Go.Deep Go.Joins

/-- entries handed back, and values behind them -/
def RetEntV (r : List (Int × Int × Int × Int × Int × Int × Int × Int)) (xs : List Value) (w : World) (e : Ending) (w' : World) : Prop := ∃ A c, e = .returned (.tuple (.slice A r.length c :: xs).toArray) ∧ (A = none → c = 0) ∧ OwnEnt w' w.heap.size (.slice A r.length c) r.length r ∧ Ext w w'
theorem RetEntV.nil {xs : List Value} {w w' : World} (hx : Ext w w') : RetEntV [] xs w (.returned (.tuple (.slice none 0 0 :: xs).toArray)) w' := ⟨none, 0, rfl, fun _ => rfl, OwnEnt.nil _ _, hx⟩
theorem RetEntV.mk {r : List (Int × Int × Int × Int × Int × Int × Int × Int)} {n : Nat} {xs : List Value} {v : Value} {w w' : World} (h : OwnEnt w' w.heap.size v n r) (hx : Ext w w') (hn : n = r.length) : RetEntV r xs w (.returned (.tuple (v :: xs).toArray)) w' := by
  subst hn
  obtain ⟨A, c, rfl, h1, h2⟩ := own_parts2 h
  exact ⟨A, c, rfl, h1, h, hx⟩
theorem OwnEnt.lower {w : World} {base b' n : Nat} {v : Value} {l : List (Int × Int × Int × Int × Int × Int × Int × Int)} (h : OwnEnt w base v n l) (hb : b' ≤ base) : OwnEnt w b' v n l := own_lower h hb
theorem oper_append {P : Program} {o : Oper} {a : Act} {w w' : World} {K : Act → World → Prop} {Q : Exit → Act → World → Prop} (s x : Operand) (t : TypeId) (ho : o.op = .call { callee := .builtin .append, args := #[s, x], argTypes := #[t, t] }) {vs vx v' : Value} (hs : a.eval s = vs) (hx : a.eval x = vx)
    (hr : (Builtin.append_ #[t, t] o.type #[vs, vx]).run P w = .ok v' w') (hK : K (a.put o.dst v') w') : Oper.wp P o a w K Q := by
  unfold Oper.wp execOp
  simp only [ho, resolve, invoke, builtin, Sem.run_bind, Sem.run_pure, Result.andThen_ok, List.map_toArray, List.map_cons, List.map_nil, hs, hx, hr]
  exact hK
theorem ent_app {w : World} {base n b c : Nat} {v : Value} {l : List (Int × Int × Int × Int × Int × Int × Int × Int)} {xo xv xs xp xf xc xi xb : Int} (hown : OwnEnt w base v n l) (hn : n < 1099511627776) (hb : base ≤ w.heap.size) (hc : ∀ j u, (entC (xo, xv, xs, xp, xf, xc, xi, xb))[j]? = some u → w.cell? ⟨b, j, none⟩ = some u) (ty : TypeId) :
    ∃ A' c' w', (Builtin.append_ #[22, 22] ty #[v, .slice (some ⟨b, 0, none⟩) 1 c]).run Try.prog w = .ok (.slice A' (n + 1) c') w' ∧ OwnEnt w' base (.slice A' (n + 1) c') (n + 1) (l ++ [(xo, xv, xs, xp, xf, xc, xi, xb)]) ∧ Below base w w' := by
  obtain ⟨i0, hi0, hz0, hz1, hz2⟩ := ent_infoP
  obtain ⟨v', w', hr, g2, g3, g4, g5⟩ := run_append_own_at (P := Try.prog) w base 22 ty 27 i0 (.agg #[.int .i64 0, .int .i64 0, .int .i64 0, .int .i64 0, .int .i64 0, .int .i64 0, .int .u64 0, .int .u64 0]) 8 64 Try.underlying22 hi0 hz0 hz1 hz2 rfl (by decide) v n _ hown ⟨b, 0, none⟩ 1 c (entC (xo, xv, xs, xp, xf, xc, xi, xb)) rfl
    (by intro j u hj; rw [addr_add, Nat.zero_add]; exact hc j u hj)
    (by intro u hu; unfold entC at hu; simp at hu; rcases hu with rfl | rfl | rfl | rfl | rfl | rfl | rfl | rfl <;> rfl) (by simp [maxLen]; omega) (by omega) hb
  have hO : OwnEnt w' base v' (n + 1) (l ++ [(xo, xv, xs, xp, xf, xc, xi, xb)]) := by
    unfold OwnEnt
    rw [List.flatMap_append]
    simpa using g2
  obtain ⟨A', c', rfl, _, _⟩ := own_parts2 hO
  exact ⟨A', c', w', hr, hO, (Below.refl base w).grown g3 hb (fun k hk => (World.ownsRow.lt hown k hk).1)⟩
theorem ent_cells {w : World} {b : Nat} {xo xv xs xp xf xc xi xb : Int} (h0 : w.cell? ⟨b, 0, none⟩ = some (.int .i64 xo)) (h1 : w.cell? ⟨b, 1, none⟩ = some (.int .i64 xv)) (h2 : w.cell? ⟨b, 2, none⟩ = some (.int .i64 xs)) (h3 : w.cell? ⟨b, 3, none⟩ = some (.int .i64 xp)) (h4 : w.cell? ⟨b, 4, none⟩ = some (.int .i64 xf)) (h5 : w.cell? ⟨b, 5, none⟩ = some (.int .i64 xc)) (h6 : w.cell? ⟨b, 6, none⟩ = some (.int .u64 xi)) (h7 : w.cell? ⟨b, 7, none⟩ = some (.int .u64 xb)) :
    ∀ j u, (entC (xo, xv, xs, xp, xf, xc, xi, xb))[j]? = some u → w.cell? ⟨b, j, none⟩ = some u := by
  intro j u hj
  unfold entC at hj
  match j, hj with
  | 0, hj => simp at hj; subst hj; exact h0
  | 1, hj => simp at hj; subst hj; exact h1
  | 2, hj => simp at hj; subst hj; exact h2
  | 3, hj => simp at hj; subst hj; exact h3
  | 4, hj => simp at hj; subst hj; exact h4
  | 5, hj => simp at hj; subst hj; exact h5
  | 6, hj => simp at hj; subst hj; exact h6
  | 7, hj => simp at hj; subst hj; exact h7
  | j + 8, hj => simp at hj
def addG (e1 most e b i lv n s : Int) : Int := if e1 ≠ 0 then e1 else if most < 1 then 3 else if 16 < most then 3 else if e ≠ 0 then e else if b ≠ i then 11 else if most ≤ lv then 22 else if 32768 ≤ n then 7 else if 4611686018427387904 - s < b then 12 else 0
/-- what comes of an entry that is added -/
def adE (l : List (Int × Int × Int × Int × Int × Int × Int × Int)) (x : (Int × Int × Int × Int × Int × Int × Int × Int)) (most : Int) : Int := addG (chkQ l).1 most (oneQ x (lastQ l)) (baE x) x.2.2.2.2.2.2.1 (liveQ l x.1 x.2.1 : Nat) l.length (totB l)
def addQ (l : List (Int × Int × Int × Int × Int × Int × Int × Int)) (x : (Int × Int × Int × Int × Int × Int × Int × Int)) (most : Int) : List (Int × Int × Int × Int × Int × Int × Int × Int) × Int := if adE l x most = 0 then (l ++ [x], 0) else ([], adE l x most)
theorem eClone_n (A : Option Addr) (n c : Nat) (l : List (Int × Int × Int × Int × Int × Int × Int × Int)) (w : World) (h : Sl w 8 A n c (l.flatMap entC)) (hn : n < 1099511627776) (hnil : A = none → c = 0) : Calls Try.prog 44 #[.slice A n c] w fun e w' => ∃ A c, e = .returned (.slice A n c) ∧ (A = none → c = 0) ∧ OwnEnt w' w.heap.size (.slice A n c) n l ∧ Ext w w' := by
  have hl := h.rlen entC_len (by decide)
  subst hl
  exact eClone_any A c l w h hn hnil
theorem kCopyEntries_n (A : Option Addr) (n c : Nat) (l : List (Int × Int × Int × Int × Int × Int × Int × Int)) (w : World) (h : Sl w 8 A n c (l.flatMap entC)) (hn : n < 1099511627776) : Calls Try.prog 11 #[.slice A n c] w fun e w' => ∃ A c, e = .returned (.slice A n c) ∧ (A = none → c = 0) ∧ OwnEnt w' w.heap.size (.slice A n c) n l ∧ Ext w w' := by
  have hl := h.rlen entC_len (by decide)
  subst hl
  exact kCopyEntries_any A c l w h hn
theorem cs_at {f : Nat} {args : Array Value} {w : World} {x y : Int} (h : Calls Try.prog f args w fun e w' => e = .returned (.int .u64 x) ∧ Ext w w') (hxy : x = y) : Calls Try.prog f args w fun e w' => e = .returned (.int .u64 y) ∧ Ext w w' := by rw [← hxy]; exact h
set_option maxRecDepth 100000 in
set_option maxHeartbeats 4000000 in
theorem qadd_at (A : Option Addr) (n c : Nat) (l : List (Int × Int × Int × Int × Int × Int × Int × Int)) (xo xv xs xp xf xc xi xb most e1 e2 E a r v s : Int) (lv : Nat) (w : World) (h : Sl w 8 A n c (l.flatMap entC)) (hn : n ≤ 100000) (hf : ∀ x ∈ l, FitsQ x) (hxb : Word xb) (hxi : Word xi) (he : chkQ l = (e1, e2)) (hE : chkS xv xs xp xf = E) (ha : lastQ l = a) (hr : oneG xo E xc xs a xi xb = r) (hlv : liveQ l xo xv = lv) (hs : totB l = s) (hv : v = addG e1 most r xb xi (lv : Int) n s) (hnil : A = none → c = 0) (R : List (Int × Int × Int × Int × Int × Int × Int × Int)) (hR : R = if v = 0 then l ++ [(xo, xv, xs, xp, xf, xc, xi, xb)] else []) :
    Calls Try.prog 12 #[.slice A n c, .agg #[.int .i64 xo, .int .i64 xv, .int .i64 xs, .int .i64 xp, .int .i64 xf, .int .i64 xc, .int .u64 xi, .int .u64 xb], .int .i64 most] w (RetEntV R [.int .i64 v] w) := by
  have hll := h.rlen entC_len (by decide)
  have hns := h.small
  have HLL := Lib.hid hll
  have hsn : 0 ≤ s := by rw [← hs]; exact totB_nonneg hf
  have HS := Lib.hid h
  have HV := Lib.hid hv
  have HR := Lib.hid hR
  clear hR
  have CC := Lib.hid (fun w' (hx : Ext w w') => qcheck_any A n c l e1 e2 w' (h.ext hx) hf he)
  have CO := Lib.hid (fun w' (hx : Ext w w') => qone_ev xo xv xs xp xf xc xi xb E a r A n c l w' hE (h.ext hx) ha hr)
  have CL := Lib.hid (fun w' (hx : Ext w w') => qlive_any A n c l xo xv w' (h.ext hx) hn hf)
  rw [hlv] at CL
  have HTT := Lib.hid (show e1 = 0 → s ≤ 4611686018427387904 from fun h0 => by rw [← hs]; exact (chkQ_zero (by rw [← h0]; exact he)).2)
  have CS := Lib.hid (fun w' (hx : Ext w w') => qsum_any A n c l w' (h.ext hx) hn hf)
  have HSP := Lib.hid (show s ≤ 4611686018427387904 → sumP l = s from fun h0 => by unfold sumP; rw [hs, if_pos h0])
  obtain ⟨b0, b1'⟩ := hxb
  clear h hf he hE ha hr hlv hs hv
  go_enter Try.func12, Try.ntmps12
  go_wp2_with fail
  (with_reducible refine (CC.out _ (by repeat (first | with_reducible exact Ext.refl w | with_reducible refine Ext.drew ?_ | with_reducible refine Ext.drewN ?_ _ | with_reducible refine Ext.alloc ?_ _ | with_reducible refine Ext.setCell ?_ (by first | omega | (simp; done) | (simp; omega)) _))).mono ?_)
  rintro e w1 ⟨rfl, hx1⟩
  have c0_0 : w1.cell? ⟨w.heap.size, 0, none⟩ = some (.int .i64 xo) := hx1.has (by first | fail | (simp [go_sem, World.cell?_alloc_past]; done))
  have c0_1 : w1.cell? ⟨w.heap.size, 1, none⟩ = some (.int .i64 xv) := hx1.has (by first | fail | (simp [go_sem, World.cell?_alloc_past]; done))
  have c0_2 : w1.cell? ⟨w.heap.size, 2, none⟩ = some (.int .i64 xs) := hx1.has (by first | fail | (simp [go_sem, World.cell?_alloc_past]; done))
  have c0_3 : w1.cell? ⟨w.heap.size, 3, none⟩ = some (.int .i64 xp) := hx1.has (by first | fail | (simp [go_sem, World.cell?_alloc_past]; done))
  have c0_4 : w1.cell? ⟨w.heap.size, 4, none⟩ = some (.int .i64 xf) := hx1.has (by first | fail | (simp [go_sem, World.cell?_alloc_past]; done))
  have c0_5 : w1.cell? ⟨w.heap.size, 5, none⟩ = some (.int .i64 xc) := hx1.has (by first | fail | (simp [go_sem, World.cell?_alloc_past]; done))
  have c0_6 : w1.cell? ⟨w.heap.size, 6, none⟩ = some (.int .u64 xi) := hx1.has (by first | fail | (simp [go_sem, World.cell?_alloc_past]; done))
  have c0_7 : w1.cell? ⟨w.heap.size, 7, none⟩ = some (.int .u64 xb) := hx1.has (by first | fail | (simp [go_sem, World.cell?_alloc_past]; done))
  have z1 := hx1.size
  try simp at z1
  have rc0 : w.heap.size < w1.heap.size := by omega
  have rc0a : w.heap.size < w1.heap.size + 1 := by omega
  have rc0b : w.heap.size < w1.heap.size + 1 + 1 := by omega
  have rc0c : w.heap.size < w1.heap.size + 1 + 1 + 1 := by omega
  have rc0n : ¬ w.heap.size = w1.heap.size := by omega
  replace HS := Lib.hid (HS.out.ext (Ext.trans (by repeat (first | with_reducible exact Ext.refl _ | with_reducible refine Ext.drew ?_ | with_reducible refine Ext.drewN ?_ _ | with_reducible refine Ext.alloc ?_ _ | with_reducible refine Ext.setCell ?_ (by first | omega | (simp; done) | (simp; omega)) _)) hx1))
  have X1 : Hid (Ext w w1) := Lib.hid (Ext.trans (by repeat (first | with_reducible exact Ext.refl w | with_reducible refine Ext.drew ?_ | with_reducible refine Ext.drewN ?_ _ | with_reducible refine Ext.alloc ?_ _ | with_reducible refine Ext.setCell ?_ (by first | omega | (simp; done) | (simp; omega)) _)) hx1)
  clear hx1 z1
  by_cases q1 : ¬ e1 = 0
  · have q1b : (e1 != 0) = true := by simp [q1]
    go_wp2_with fail
    go_ret2
    have hv9 : v = e1 := (by rw [HV.out]; unfold addG; (repeat' split) <;> omega)
    rw [show R = [] from by rw [HR.out, if_neg (by omega)], hv9]
    exact RetEntV.nil (xs := [.int .i64 e1]) (by repeat (first | with_reducible exact X1.out | with_reducible refine Ext.drew ?_ | with_reducible refine Ext.drewN ?_ _ | with_reducible refine Ext.alloc ?_ _ | with_reducible refine Ext.setCell ?_ (by first | omega | (simp; done) | (simp; omega)) _))
  · have q1b : (e1 != 0) = false := by simpa using q1
    by_cases q2 : most < 1
    · have d2 : decide (most < 1) = true := decide_eq_true q2
      have Q2 := Lib.hid q2
      clear q2
      go_wp2_with fail
      go_ret2
      have q2 := Q2.out
      have hv9 : v = 3 := (by rw [HV.out]; unfold addG; (repeat' split) <;> omega)
      rw [show R = [] from by rw [HR.out, if_neg (by omega)], hv9]
      exact RetEntV.nil (xs := [.int .i64 3]) (by repeat (first | with_reducible exact X1.out | with_reducible refine Ext.drew ?_ | with_reducible refine Ext.drewN ?_ _ | with_reducible refine Ext.alloc ?_ _ | with_reducible refine Ext.setCell ?_ (by first | omega | (simp; done) | (simp; omega)) _))
    · have d2 : decide (most < 1) = false := decide_eq_false q2
      have Q2 := Lib.hid q2
      clear q2
      by_cases q3 : 16 < most
      · have d3 : decide (16 < most) = true := decide_eq_true q3
        have Q3 := Lib.hid q3
        clear q3
        go_wp2_with fail
        go_ret2
        have q2 := Q2.out
        have q3 := Q3.out
        have hv9 : v = 3 := (by rw [HV.out]; unfold addG; (repeat' split) <;> omega)
        rw [show R = [] from by rw [HR.out, if_neg (by omega)], hv9]
        exact RetEntV.nil (xs := [.int .i64 3]) (by repeat (first | with_reducible exact X1.out | with_reducible refine Ext.drew ?_ | with_reducible refine Ext.drewN ?_ _ | with_reducible refine Ext.alloc ?_ _ | with_reducible refine Ext.setCell ?_ (by first | omega | (simp; done) | (simp; omega)) _))
      · have d3 : decide (16 < most) = false := decide_eq_false q3
        have Q3 := Lib.hid q3
        clear q3
        go_wp2_with fail
        (with_reducible refine (CO.out _ (by repeat (first | with_reducible exact X1.out | with_reducible refine Ext.drew ?_ | with_reducible refine Ext.drewN ?_ _ | with_reducible refine Ext.alloc ?_ _ | with_reducible refine Ext.setCell ?_ (by first | omega | (simp; done) | (simp; omega)) _))).mono ?_)
        rintro e w2 ⟨rfl, hx2⟩
        replace c0_0 : w2.cell? ⟨w.heap.size, 0, none⟩ = some (.int .i64 xo) := hx2.has (by first | exact c0_0 | (simp [go_sem, World.cell?_alloc_past, c0_0, c0_1, c0_2, c0_3, c0_4, c0_5, c0_6, c0_7, rc0, rc0a, rc0b, rc0c, rc0n]; done))
        replace c0_1 : w2.cell? ⟨w.heap.size, 1, none⟩ = some (.int .i64 xv) := hx2.has (by first | exact c0_1 | (simp [go_sem, World.cell?_alloc_past, c0_0, c0_1, c0_2, c0_3, c0_4, c0_5, c0_6, c0_7, rc0, rc0a, rc0b, rc0c, rc0n]; done))
        replace c0_2 : w2.cell? ⟨w.heap.size, 2, none⟩ = some (.int .i64 xs) := hx2.has (by first | exact c0_2 | (simp [go_sem, World.cell?_alloc_past, c0_0, c0_1, c0_2, c0_3, c0_4, c0_5, c0_6, c0_7, rc0, rc0a, rc0b, rc0c, rc0n]; done))
        replace c0_3 : w2.cell? ⟨w.heap.size, 3, none⟩ = some (.int .i64 xp) := hx2.has (by first | exact c0_3 | (simp [go_sem, World.cell?_alloc_past, c0_0, c0_1, c0_2, c0_3, c0_4, c0_5, c0_6, c0_7, rc0, rc0a, rc0b, rc0c, rc0n]; done))
        replace c0_4 : w2.cell? ⟨w.heap.size, 4, none⟩ = some (.int .i64 xf) := hx2.has (by first | exact c0_4 | (simp [go_sem, World.cell?_alloc_past, c0_0, c0_1, c0_2, c0_3, c0_4, c0_5, c0_6, c0_7, rc0, rc0a, rc0b, rc0c, rc0n]; done))
        replace c0_5 : w2.cell? ⟨w.heap.size, 5, none⟩ = some (.int .i64 xc) := hx2.has (by first | exact c0_5 | (simp [go_sem, World.cell?_alloc_past, c0_0, c0_1, c0_2, c0_3, c0_4, c0_5, c0_6, c0_7, rc0, rc0a, rc0b, rc0c, rc0n]; done))
        replace c0_6 : w2.cell? ⟨w.heap.size, 6, none⟩ = some (.int .u64 xi) := hx2.has (by first | exact c0_6 | (simp [go_sem, World.cell?_alloc_past, c0_0, c0_1, c0_2, c0_3, c0_4, c0_5, c0_6, c0_7, rc0, rc0a, rc0b, rc0c, rc0n]; done))
        replace c0_7 : w2.cell? ⟨w.heap.size, 7, none⟩ = some (.int .u64 xb) := hx2.has (by first | exact c0_7 | (simp [go_sem, World.cell?_alloc_past, c0_0, c0_1, c0_2, c0_3, c0_4, c0_5, c0_6, c0_7, rc0, rc0a, rc0b, rc0c, rc0n]; done))
        have z2 := hx2.size
        try simp at z2
        replace rc0 : w.heap.size < w2.heap.size := by omega
        replace rc0a : w.heap.size < w2.heap.size + 1 := by omega
        replace rc0b : w.heap.size < w2.heap.size + 1 + 1 := by omega
        replace rc0c : w.heap.size < w2.heap.size + 1 + 1 + 1 := by omega
        replace rc0n : ¬ w.heap.size = w2.heap.size := by omega
        replace HS := Lib.hid (HS.out.ext (Ext.trans (by repeat (first | with_reducible exact Ext.refl _ | with_reducible refine Ext.drew ?_ | with_reducible refine Ext.drewN ?_ _ | with_reducible refine Ext.alloc ?_ _ | with_reducible refine Ext.setCell ?_ (by first | omega | (simp; done) | (simp; omega)) _)) hx2))
        have X2 : Hid (Ext w w2) := Lib.hid (Ext.trans (by repeat (first | with_reducible exact X1.out | with_reducible refine Ext.drew ?_ | with_reducible refine Ext.drewN ?_ _ | with_reducible refine Ext.alloc ?_ _ | with_reducible refine Ext.setCell ?_ (by first | omega | (simp; done) | (simp; omega)) _)) hx2)
        clear X1 hx2 z2
        by_cases q4 : ¬ r = 0
        · have q4b : (r != 0) = true := by simp [q4]
          go_wp2_with fail
          go_ret2
          have q2 := Q2.out
          have q3 := Q3.out
          have hv9 : v = r := (by rw [HV.out]; unfold addG; (repeat' split) <;> omega)
          rw [show R = [] from by rw [HR.out, if_neg (by omega)], hv9]
          exact RetEntV.nil (xs := [.int .i64 r]) (by repeat (first | with_reducible exact X2.out | with_reducible refine Ext.drew ?_ | with_reducible refine Ext.drewN ?_ _ | with_reducible refine Ext.alloc ?_ _ | with_reducible refine Ext.setCell ?_ (by first | omega | (simp; done) | (simp; omega)) _))
        · have q4b : (r != 0) = false := by simpa using q4
          by_cases q5 : ¬ xb = xi
          · have q5b : (xb != xi) = true := by simp [q5]
            go_wp2_with fail
            go_ret2
            have q2 := Q2.out
            have q3 := Q3.out
            have hv9 : v = 11 := (by rw [HV.out]; unfold addG; (repeat' split) <;> omega)
            rw [show R = [] from by rw [HR.out, if_neg (by omega)], hv9]
            exact RetEntV.nil (xs := [.int .i64 11]) (by repeat (first | with_reducible exact X2.out | with_reducible refine Ext.drew ?_ | with_reducible refine Ext.drewN ?_ _ | with_reducible refine Ext.alloc ?_ _ | with_reducible refine Ext.setCell ?_ (by first | omega | (simp; done) | (simp; omega)) _))
          · have q5b : (xb != xi) = false := by simpa using q5
            go_wp2_with fail
            (with_reducible refine (CL.out _ (by repeat (first | with_reducible exact X2.out | with_reducible refine Ext.drew ?_ | with_reducible refine Ext.drewN ?_ _ | with_reducible refine Ext.alloc ?_ _ | with_reducible refine Ext.setCell ?_ (by first | omega | (simp; done) | (simp; omega)) _))).mono ?_)
            rintro e w3 ⟨rfl, hx3⟩
            replace c0_0 : w3.cell? ⟨w.heap.size, 0, none⟩ = some (.int .i64 xo) := hx3.has (by first | exact c0_0 | (simp [go_sem, World.cell?_alloc_past, c0_0, c0_1, c0_2, c0_3, c0_4, c0_5, c0_6, c0_7, rc0, rc0a, rc0b, rc0c, rc0n]; done))
            replace c0_1 : w3.cell? ⟨w.heap.size, 1, none⟩ = some (.int .i64 xv) := hx3.has (by first | exact c0_1 | (simp [go_sem, World.cell?_alloc_past, c0_0, c0_1, c0_2, c0_3, c0_4, c0_5, c0_6, c0_7, rc0, rc0a, rc0b, rc0c, rc0n]; done))
            replace c0_2 : w3.cell? ⟨w.heap.size, 2, none⟩ = some (.int .i64 xs) := hx3.has (by first | exact c0_2 | (simp [go_sem, World.cell?_alloc_past, c0_0, c0_1, c0_2, c0_3, c0_4, c0_5, c0_6, c0_7, rc0, rc0a, rc0b, rc0c, rc0n]; done))
            replace c0_3 : w3.cell? ⟨w.heap.size, 3, none⟩ = some (.int .i64 xp) := hx3.has (by first | exact c0_3 | (simp [go_sem, World.cell?_alloc_past, c0_0, c0_1, c0_2, c0_3, c0_4, c0_5, c0_6, c0_7, rc0, rc0a, rc0b, rc0c, rc0n]; done))
            replace c0_4 : w3.cell? ⟨w.heap.size, 4, none⟩ = some (.int .i64 xf) := hx3.has (by first | exact c0_4 | (simp [go_sem, World.cell?_alloc_past, c0_0, c0_1, c0_2, c0_3, c0_4, c0_5, c0_6, c0_7, rc0, rc0a, rc0b, rc0c, rc0n]; done))
            replace c0_5 : w3.cell? ⟨w.heap.size, 5, none⟩ = some (.int .i64 xc) := hx3.has (by first | exact c0_5 | (simp [go_sem, World.cell?_alloc_past, c0_0, c0_1, c0_2, c0_3, c0_4, c0_5, c0_6, c0_7, rc0, rc0a, rc0b, rc0c, rc0n]; done))
            replace c0_6 : w3.cell? ⟨w.heap.size, 6, none⟩ = some (.int .u64 xi) := hx3.has (by first | exact c0_6 | (simp [go_sem, World.cell?_alloc_past, c0_0, c0_1, c0_2, c0_3, c0_4, c0_5, c0_6, c0_7, rc0, rc0a, rc0b, rc0c, rc0n]; done))
            replace c0_7 : w3.cell? ⟨w.heap.size, 7, none⟩ = some (.int .u64 xb) := hx3.has (by first | exact c0_7 | (simp [go_sem, World.cell?_alloc_past, c0_0, c0_1, c0_2, c0_3, c0_4, c0_5, c0_6, c0_7, rc0, rc0a, rc0b, rc0c, rc0n]; done))
            have z3 := hx3.size
            try simp at z3
            replace rc0 : w.heap.size < w3.heap.size := by omega
            replace rc0a : w.heap.size < w3.heap.size + 1 := by omega
            replace rc0b : w.heap.size < w3.heap.size + 1 + 1 := by omega
            replace rc0c : w.heap.size < w3.heap.size + 1 + 1 + 1 := by omega
            replace rc0n : ¬ w.heap.size = w3.heap.size := by omega
            replace HS := Lib.hid (HS.out.ext (Ext.trans (by repeat (first | with_reducible exact Ext.refl _ | with_reducible refine Ext.drew ?_ | with_reducible refine Ext.drewN ?_ _ | with_reducible refine Ext.alloc ?_ _ | with_reducible refine Ext.setCell ?_ (by first | omega | (simp; done) | (simp; omega)) _)) hx3))
            have X3 : Hid (Ext w w3) := Lib.hid (Ext.trans (by repeat (first | with_reducible exact X2.out | with_reducible refine Ext.drew ?_ | with_reducible refine Ext.drewN ?_ _ | with_reducible refine Ext.alloc ?_ _ | with_reducible refine Ext.setCell ?_ (by first | omega | (simp; done) | (simp; omega)) _)) hx3)
            clear X2 hx3 z3
            by_cases q6 : most ≤ (lv : Int)
            · have d6 : decide (most ≤ (lv : Int)) = true := decide_eq_true q6
              have Q6 := Lib.hid q6
              clear q6
              go_wp2_with fail
              go_ret2
              have q2 := Q2.out
              have q3 := Q3.out
              have q6 := Q6.out
              have hv9 : v = 22 := (by rw [HV.out]; unfold addG; (repeat' split) <;> omega)
              rw [show R = [] from by rw [HR.out, if_neg (by omega)], hv9]
              exact RetEntV.nil (xs := [.int .i64 22]) (by repeat (first | with_reducible exact X3.out | with_reducible refine Ext.drew ?_ | with_reducible refine Ext.drewN ?_ _ | with_reducible refine Ext.alloc ?_ _ | with_reducible refine Ext.setCell ?_ (by first | omega | (simp; done) | (simp; omega)) _))
            · have d6 : decide (most ≤ (lv : Int)) = false := decide_eq_false q6
              have Q6 := Lib.hid q6
              clear q6
              by_cases q7 : 32768 ≤ (n : Int)
              · have d7 : decide (32768 ≤ (n : Int)) = true := decide_eq_true q7
                have Q7 := Lib.hid q7
                clear q7
                go_wp2_with fail
                go_ret2
                have q2 := Q2.out
                have q3 := Q3.out
                have q6 := Q6.out
                have q7 := Q7.out
                have hv9 : v = 7 := (by rw [HV.out]; unfold addG; (repeat' split) <;> omega)
                rw [show R = [] from by rw [HR.out, if_neg (by omega)], hv9]
                exact RetEntV.nil (xs := [.int .i64 7]) (by repeat (first | with_reducible exact X3.out | with_reducible refine Ext.drew ?_ | with_reducible refine Ext.drewN ?_ _ | with_reducible refine Ext.alloc ?_ _ | with_reducible refine Ext.setCell ?_ (by first | omega | (simp; done) | (simp; omega)) _))
              · have N7 : Hid (n + 1 ≤ 100000) := Lib.hid (by omega)
                have d7 : decide (32768 ≤ (n : Int)) = false := decide_eq_false q7
                have Q7 := Lib.hid q7
                clear q7
                go_wp2_with fail
                refine wp_region_held_drew (S := fun w' => w'.cell? ⟨w.heap.size, 7, none⟩ = some (.int .u64 xb)) (by kernel_rfl) (by first | exact c0_7 | (simp [go_sem, World.cell?_alloc_past, c0_0, c0_1, c0_2, c0_3, c0_4, c0_5, c0_6, c0_7, rc0, rc0a, rc0b, rc0c, rc0n]; done)) (fun hHeld => ?_)
                (refine' take_in 0 rfl (by kernel_rfl) (by kernel_rfl) (by kernel_rfl) (fun _ _ _ h => h) (by rfl) (by assumption) ?_ ?_; rotate_left; focus (intro w hSw; (try dsimp only at hSw); go_simp; try with_reducible rfl)); try simp only [Act.put, List.setIfInBounds_toArray, List.set_cons_zero, List.set_cons_succ]
                (refine' take_in 1 rfl (by kernel_rfl) (by kernel_rfl) (by kernel_rfl) (fun _ _ _ h => h) (by rfl) (by assumption) ?_ ?_; rotate_left; focus (intro w hSw; (try dsimp only at hSw); go_simp; try with_reducible rfl)); try simp only [Act.put, List.setIfInBounds_toArray, List.set_cons_zero, List.set_cons_succ]
                (refine' take_in 2 rfl (by kernel_rfl) (by kernel_rfl) (by kernel_rfl) (fun _ _ _ h => h) (by rfl) (by assumption) ?_ ?_; rotate_left; focus (intro w hSw; (try dsimp only at hSw); go_simp; try with_reducible rfl)); try simp only [Act.put, List.setIfInBounds_toArray, List.set_cons_zero, List.set_cons_succ]
                refine' next_in 3 rfl (by kernel_rfl) (by rfl) (fun K hK => ?_)
                go_simp
                have hs1 := HTT.out (by omega)
                have hsp := HSP.out hs1
                have hs2 : 0 ≤ 4611686018427387904 - s := by omega
                have hs3 : 4611686018427387904 - s < 18446744073709551616 := by omega
                (with_reducible refine (cs_at (CS.out _ (by repeat (first | with_reducible exact X3.out | with_reducible refine Ext.drew ?_ | with_reducible refine Ext.drewN ?_ _ | with_reducible refine Ext.alloc ?_ _ | with_reducible refine Ext.setCell ?_ (by first | omega | (simp; done) | (simp; omega)) _))) hsp).mono ?_)
                rintro e w4 ⟨rfl, hx4⟩
                replace c0_0 : w4.cell? ⟨w.heap.size, 0, none⟩ = some (.int .i64 xo) := hx4.has (by first | exact c0_0 | (simp [go_sem, World.cell?_alloc_past, c0_0, c0_1, c0_2, c0_3, c0_4, c0_5, c0_6, c0_7, rc0, rc0a, rc0b, rc0c, rc0n]; done))
                replace c0_1 : w4.cell? ⟨w.heap.size, 1, none⟩ = some (.int .i64 xv) := hx4.has (by first | exact c0_1 | (simp [go_sem, World.cell?_alloc_past, c0_0, c0_1, c0_2, c0_3, c0_4, c0_5, c0_6, c0_7, rc0, rc0a, rc0b, rc0c, rc0n]; done))
                replace c0_2 : w4.cell? ⟨w.heap.size, 2, none⟩ = some (.int .i64 xs) := hx4.has (by first | exact c0_2 | (simp [go_sem, World.cell?_alloc_past, c0_0, c0_1, c0_2, c0_3, c0_4, c0_5, c0_6, c0_7, rc0, rc0a, rc0b, rc0c, rc0n]; done))
                replace c0_3 : w4.cell? ⟨w.heap.size, 3, none⟩ = some (.int .i64 xp) := hx4.has (by first | exact c0_3 | (simp [go_sem, World.cell?_alloc_past, c0_0, c0_1, c0_2, c0_3, c0_4, c0_5, c0_6, c0_7, rc0, rc0a, rc0b, rc0c, rc0n]; done))
                replace c0_4 : w4.cell? ⟨w.heap.size, 4, none⟩ = some (.int .i64 xf) := hx4.has (by first | exact c0_4 | (simp [go_sem, World.cell?_alloc_past, c0_0, c0_1, c0_2, c0_3, c0_4, c0_5, c0_6, c0_7, rc0, rc0a, rc0b, rc0c, rc0n]; done))
                replace c0_5 : w4.cell? ⟨w.heap.size, 5, none⟩ = some (.int .i64 xc) := hx4.has (by first | exact c0_5 | (simp [go_sem, World.cell?_alloc_past, c0_0, c0_1, c0_2, c0_3, c0_4, c0_5, c0_6, c0_7, rc0, rc0a, rc0b, rc0c, rc0n]; done))
                replace c0_6 : w4.cell? ⟨w.heap.size, 6, none⟩ = some (.int .u64 xi) := hx4.has (by first | exact c0_6 | (simp [go_sem, World.cell?_alloc_past, c0_0, c0_1, c0_2, c0_3, c0_4, c0_5, c0_6, c0_7, rc0, rc0a, rc0b, rc0c, rc0n]; done))
                replace c0_7 : w4.cell? ⟨w.heap.size, 7, none⟩ = some (.int .u64 xb) := hx4.has (by first | exact c0_7 | (simp [go_sem, World.cell?_alloc_past, c0_0, c0_1, c0_2, c0_3, c0_4, c0_5, c0_6, c0_7, rc0, rc0a, rc0b, rc0c, rc0n]; done))
                have z4 := hx4.size
                try simp at z4
                replace rc0 : w.heap.size < w4.heap.size := by omega
                replace rc0a : w.heap.size < w4.heap.size + 1 := by omega
                replace rc0b : w.heap.size < w4.heap.size + 1 + 1 := by omega
                replace rc0c : w.heap.size < w4.heap.size + 1 + 1 + 1 := by omega
                replace rc0n : ¬ w.heap.size = w4.heap.size := by omega
                replace HS := Lib.hid (HS.out.ext (Ext.trans (by repeat (first | with_reducible exact Ext.refl _ | with_reducible refine Ext.drew ?_ | with_reducible refine Ext.drewN ?_ _ | with_reducible refine Ext.alloc ?_ _ | with_reducible refine Ext.setCell ?_ (by first | omega | (simp; done) | (simp; omega)) _)) hx4))
                have X4 : Hid (Ext w w4) := Lib.hid (Ext.trans (by repeat (first | with_reducible exact X3.out | with_reducible refine Ext.drew ?_ | with_reducible refine Ext.drewN ?_ _ | with_reducible refine Ext.alloc ?_ _ | with_reducible refine Ext.setCell ?_ (by first | omega | (simp; done) | (simp; omega)) _)) hx4)
                clear X3 hx4 z4
                refine hK.out _ _ (by (first | exact c0_7 | (simp [go_sem, World.cell?_alloc_past, c0_0, c0_1, c0_2, c0_3, c0_4, c0_5, c0_6, c0_7, rc0, rc0a, rc0b, rc0c, rc0n]; done))) (fun hHeld => ?_); clear hK K; try simp only [Act.put, List.setIfInBounds_toArray, List.set_cons_zero, List.set_cons_succ]
                (refine' take_in 4 rfl (by kernel_rfl) (by kernel_rfl) (by kernel_rfl) (fun _ _ _ h => h) (by rfl) (by assumption) ?_ ?_; rotate_left; focus (intro w hSw; (try dsimp only at hSw); go_simp; try with_reducible rfl)); try simp only [Act.put, List.setIfInBounds_toArray, List.set_cons_zero, List.set_cons_succ]
                (refine' take_in 5 rfl (by kernel_rfl) (by kernel_rfl) (by kernel_rfl) (fun _ _ _ h => h) (by rfl) (by assumption) ?_ ?_; rotate_left; focus (intro w hSw; (try dsimp only at hSw); go_simp; try with_reducible rfl)); try simp only [Act.put, List.setIfInBounds_toArray, List.set_cons_zero, List.set_cons_succ]
                (refine' take_in 6 rfl (by kernel_rfl) (by kernel_rfl) (by kernel_rfl) (fun _ _ _ h => h) (by rfl) (by assumption) ?_ ?_; rotate_left; focus (intro w hSw; (try dsimp only at hSw); go_simp; try with_reducible rfl)); try simp only [Act.put, List.setIfInBounds_toArray, List.set_cons_zero, List.set_cons_succ]
                refine wpAnyH_done (by kernel_rfl) ?_ _
                clear d7
                by_cases q8 : 4611686018427387904 - s < xb
                · have d8 : decide (4611686018427387904 - s < xb) = true := decide_eq_true q8
                  have w8 : IntKind.u64.wrap (4611686018427387904 - s) = 4611686018427387904 - s := IntWalk.u64_in _ (by omega)
                  rw [w8, d8]
                  clear d8 w8
                  go_wp2_with fail
                  go_ret2
                  have q2 := Q2.out
                  have q3 := Q3.out
                  have q6 := Q6.out
                  have q7 := Q7.out
                  have hv9 : v = 12 := (by rw [HV.out]; unfold addG; (repeat' split) <;> omega)
                  rw [show R = [] from by rw [HR.out, if_neg (by omega)], hv9]
                  exact RetEntV.nil (xs := [.int .i64 12]) (by repeat (first | with_reducible exact X4.out | with_reducible refine Ext.drew ?_ | with_reducible refine Ext.drewN ?_ _ | with_reducible refine Ext.alloc ?_ _ | with_reducible refine Ext.setCell ?_ (by first | omega | (simp; done) | (simp; omega)) _))
                · have d8 : decide (4611686018427387904 - s < xb) = false := decide_eq_false q8
                  have w8 : IntKind.u64.wrap (4611686018427387904 - s) = 4611686018427387904 - s := IntWalk.u64_in _ (by omega)
                  rw [w8, d8]
                  clear d8 w8
                  go_wp2_with fail
                  refine wp_region_held_drew (S := fun _ => True) (by kernel_rfl) trivial (fun hHeld => ?_)
                  (refine' take_in 0 rfl (by kernel_rfl) (by kernel_rfl) (by kernel_rfl) (fun _ _ _ h => h) (by rfl) (by assumption) ?_ ?_; rotate_left; focus (intro w hSw; (try dsimp only at hSw); go_simp; try with_reducible rfl)); try simp only [Act.put, List.setIfInBounds_toArray, List.set_cons_zero, List.set_cons_succ]
                  refine' next2_in 1 2 rfl rfl (by kernel_rfl) (by rfl) (by rfl) (fun K hK => ?_) (fun K hK => ?_)
                  · go_simp
                    (with_reducible refine (eClone_n A n c l _ (HS.out.ext (by repeat (first | with_reducible exact Ext.refl _ | with_reducible refine Ext.drew ?_ | with_reducible refine Ext.drewN ?_ _ | with_reducible refine Ext.alloc ?_ _ | with_reducible refine Ext.setCell ?_ (by first | omega | (simp; done) | (simp; omega)) _))) (by omega) hnil).mono ?_)
                    rintro e w5 ⟨A3, c3, rfl, hA3, hO3, hx5⟩
                    have hz5 := hx5.size
                    try simp at hz5
                    have X5 : Hid (Ext w w5) := Lib.hid (Ext.trans (by repeat (first | with_reducible exact X4.out | with_reducible refine Ext.drew ?_ | with_reducible refine Ext.drewN ?_ _ | with_reducible refine Ext.alloc ?_ _ | with_reducible refine Ext.setCell ?_ (by first | omega | (simp; done) | (simp; omega)) _)) hx5)
                    have HO : Hid (OwnEnt w5 w4.heap.size (.slice A3 n c3) n l) := Lib.hid (OwnEnt.lower hO3 (by first | omega | (simp; done) | (simp; omega)))
                    have hlw : w.heap.size ≤ w4.heap.size := (by first | omega | (simp; omega))
                    clear hO3
                    have d_0 : w5.cell? ⟨w.heap.size, 0, none⟩ = some (.int .i64 xo) := hx5.has (by first | exact c0_0 | (simp [go_sem, World.cell?_alloc_past, c0_0, rc0, rc0n]; done))
                    have d_1 : w5.cell? ⟨w.heap.size, 1, none⟩ = some (.int .i64 xv) := hx5.has (by first | exact c0_1 | (simp [go_sem, World.cell?_alloc_past, c0_1, rc0, rc0n]; done))
                    have d_2 : w5.cell? ⟨w.heap.size, 2, none⟩ = some (.int .i64 xs) := hx5.has (by first | exact c0_2 | (simp [go_sem, World.cell?_alloc_past, c0_2, rc0, rc0n]; done))
                    have d_3 : w5.cell? ⟨w.heap.size, 3, none⟩ = some (.int .i64 xp) := hx5.has (by first | exact c0_3 | (simp [go_sem, World.cell?_alloc_past, c0_3, rc0, rc0n]; done))
                    have d_4 : w5.cell? ⟨w.heap.size, 4, none⟩ = some (.int .i64 xf) := hx5.has (by first | exact c0_4 | (simp [go_sem, World.cell?_alloc_past, c0_4, rc0, rc0n]; done))
                    have d_5 : w5.cell? ⟨w.heap.size, 5, none⟩ = some (.int .i64 xc) := hx5.has (by first | exact c0_5 | (simp [go_sem, World.cell?_alloc_past, c0_5, rc0, rc0n]; done))
                    have d_6 : w5.cell? ⟨w.heap.size, 6, none⟩ = some (.int .u64 xi) := hx5.has (by first | exact c0_6 | (simp [go_sem, World.cell?_alloc_past, c0_6, rc0, rc0n]; done))
                    have d_7 : w5.cell? ⟨w.heap.size, 7, none⟩ = some (.int .u64 xb) := hx5.has (by first | exact c0_7 | (simp [go_sem, World.cell?_alloc_past, c0_7, rc0, rc0n]; done))
                    have rd0 : w.heap.size < w5.heap.size := by omega
                    refine hK.out _ _ (trivial) (fun hHeld => ?_); clear hK K; try simp only [Act.put, List.setIfInBounds_toArray, List.set_cons_zero, List.set_cons_succ]
                    refine' next_in 2 rfl (by kernel_rfl) (by rfl) (fun K hK => ?_)
                    go_simp
                    refine hK.out _ _ (trivial) (fun hHeld => ?_); clear hK K; try simp only [Act.put, List.setIfInBounds_toArray, List.set_cons_zero, List.set_cons_succ]
                    refine' next_in 3 rfl (by kernel_rfl) (by rfl) (fun K hK => ?_)
                    go_simp
                    refine hK.out _ _ (trivial) (fun hHeld => ?_); clear hK K; try simp only [Act.put, List.setIfInBounds_toArray, List.set_cons_zero, List.set_cons_succ]
                    obtain ⟨A7, c7, w7, hrun7, hO7, hB7⟩ := ent_app (w := (w5.alloc (.cells #[.int .i64 xo, .int .i64 xv, .int .i64 xs, .int .i64 xp, .int .i64 xf, .int .i64 xc, .int .u64 xi, .int .u64 xb] 27))) (b := w5.heap.size) (c := 1) (HO.out.ext (Ext.alloc (Ext.refl _) _)) (by omega) (by simp; omega) (ent_cells (xo := xo) (xv := xv) (xs := xs) (xp := xp) (xf := xf) (xc := xc) (xi := xi) (xb := xb) (by simp [go_sem]) (by simp [go_sem]) (by simp [go_sem]) (by simp [go_sem]) (by simp [go_sem]) (by simp [go_sem]) (by simp [go_sem]) (by simp [go_sem])) 22
                    have X7 : Hid (Ext w w7) := Lib.hid (Below.trans (Ext.alloc X5.out _) (Below.mono hB7 hlw))
                    have e_0 : w7.cell? ⟨w.heap.size, 0, none⟩ = some (.int .i64 xo) := (hB7.cell (p := ⟨w.heap.size, 0, none⟩) (by show w.heap.size < w4.heap.size; omega)).trans (by first | exact d_0 | (simp [go_sem, World.cell?_alloc_past, d_0, rd0]; done))
                    have e_1 : w7.cell? ⟨w.heap.size, 1, none⟩ = some (.int .i64 xv) := (hB7.cell (p := ⟨w.heap.size, 1, none⟩) (by show w.heap.size < w4.heap.size; omega)).trans (by first | exact d_1 | (simp [go_sem, World.cell?_alloc_past, d_1, rd0]; done))
                    have e_2 : w7.cell? ⟨w.heap.size, 2, none⟩ = some (.int .i64 xs) := (hB7.cell (p := ⟨w.heap.size, 2, none⟩) (by show w.heap.size < w4.heap.size; omega)).trans (by first | exact d_2 | (simp [go_sem, World.cell?_alloc_past, d_2, rd0]; done))
                    have e_3 : w7.cell? ⟨w.heap.size, 3, none⟩ = some (.int .i64 xp) := (hB7.cell (p := ⟨w.heap.size, 3, none⟩) (by show w.heap.size < w4.heap.size; omega)).trans (by first | exact d_3 | (simp [go_sem, World.cell?_alloc_past, d_3, rd0]; done))
                    have e_4 : w7.cell? ⟨w.heap.size, 4, none⟩ = some (.int .i64 xf) := (hB7.cell (p := ⟨w.heap.size, 4, none⟩) (by show w.heap.size < w4.heap.size; omega)).trans (by first | exact d_4 | (simp [go_sem, World.cell?_alloc_past, d_4, rd0]; done))
                    have e_5 : w7.cell? ⟨w.heap.size, 5, none⟩ = some (.int .i64 xc) := (hB7.cell (p := ⟨w.heap.size, 5, none⟩) (by show w.heap.size < w4.heap.size; omega)).trans (by first | exact d_5 | (simp [go_sem, World.cell?_alloc_past, d_5, rd0]; done))
                    have e_6 : w7.cell? ⟨w.heap.size, 6, none⟩ = some (.int .u64 xi) := (hB7.cell (p := ⟨w.heap.size, 6, none⟩) (by show w.heap.size < w4.heap.size; omega)).trans (by first | exact d_6 | (simp [go_sem, World.cell?_alloc_past, d_6, rd0]; done))
                    have e_7 : w7.cell? ⟨w.heap.size, 7, none⟩ = some (.int .u64 xb) := (hB7.cell (p := ⟨w.heap.size, 7, none⟩) (by show w.heap.size < w4.heap.size; omega)).trans (by first | exact d_7 | (simp [go_sem, World.cell?_alloc_past, d_7, rd0]; done))
                    have hz7 := Below.size hB7
                    try simp at hz7
                    have HO7 := Lib.hid hO7
                    clear hB7 hO7
                    replace c0_0 := e_0
                    replace c0_1 := e_1
                    replace c0_2 := e_2
                    replace c0_3 := e_3
                    replace c0_4 := e_4
                    replace c0_5 := e_5
                    replace c0_6 := e_6
                    replace c0_7 := e_7
                    replace rc0 : w.heap.size < w7.heap.size := by omega
                    replace rc0a : w.heap.size < w7.heap.size + 1 := by omega
                    replace rc0b : w.heap.size < w7.heap.size + 1 + 1 := by omega
                    replace rc0c : w.heap.size < w7.heap.size + 1 + 1 + 1 := by omega
                    replace rc0n : ¬ w.heap.size = w7.heap.size := by omega
                    clear e_0 d_0 e_1 d_1 e_2 d_2 e_3 d_3 e_4 d_4 e_5 d_5 e_6 d_6 e_7 d_7
                    refine' next_in 4 rfl (by kernel_rfl) (by rfl) (fun K hK => ?_)
                    refine oper_append (.tmp 59) (.tmp 61) 22 rfl rfl rfl hrun7 ?_
                    refine hK.out _ _ (trivial) (fun hHeld => ?_); clear hK K; try simp only [Act.put, List.setIfInBounds_toArray, List.set_cons_zero, List.set_cons_succ]
                    clear hrun7
                    (refine' take_in 5 rfl (by kernel_rfl) (by kernel_rfl) (by kernel_rfl) (fun _ _ _ h => h) (by rfl) (by assumption) ?_ ?_; rotate_left; focus (intro w hSw; (try dsimp only at hSw); go_simp; try with_reducible rfl)); try simp only [Act.put, List.setIfInBounds_toArray, List.set_cons_zero, List.set_cons_succ]
                    (refine' take_in 6 rfl (by kernel_rfl) (by kernel_rfl) (by kernel_rfl) (fun _ _ _ h => h) (by rfl) (by assumption) ?_ ?_; rotate_left; focus (intro w hSw; (try dsimp only at hSw); go_simp; try with_reducible rfl)); try simp only [Act.put, List.setIfInBounds_toArray, List.set_cons_zero, List.set_cons_succ]
                    refine wpAnyH_done (by kernel_rfl) ?_ _
                    go_wp2_with fail
                    go_ret2
                    have q2 := Q2.out
                    have q3 := Q3.out
                    have q6 := Q6.out
                    have q7 := Q7.out
                    have hv9 : v = 0 := (by rw [HV.out]; unfold addG; (repeat' split) <;> omega)
                    rw [show R = l ++ [(xo, xv, xs, xp, xf, xc, xi, xb)] from by rw [HR.out, if_pos hv9], hv9]
                    exact RetEntV.mk (xs := [.int .i64 0]) (OwnEnt.lower (show OwnEnt _ _ _ (n + 1) _ from (HO7.out.ext (by repeat (first | with_reducible exact Ext.refl _ | with_reducible refine Ext.drew ?_ | with_reducible refine Ext.drewN ?_ _ | with_reducible refine Ext.alloc ?_ _ | with_reducible refine Ext.setCell ?_ (by first | omega | (simp; done) | (simp; omega)) _)))) hlw) (by repeat (first | with_reducible exact X7.out | with_reducible refine Ext.drew ?_ | with_reducible refine Ext.drewN ?_ _ | with_reducible refine Ext.alloc ?_ _ | with_reducible refine Ext.setCell ?_ (by first | omega | (simp; done) | (simp; omega)) _)) (by simp [HLL.out])
                  · go_simp
                    refine hK.out _ _ (trivial) (fun hHeld => ?_); clear hK K; try simp only [Act.put, List.setIfInBounds_toArray, List.set_cons_zero, List.set_cons_succ]
                    refine' next2_in 1 3 rfl rfl (by kernel_rfl) (by rfl) (by rfl) (fun K hK => ?_) (fun K hK => ?_)
                    · go_simp
                      (with_reducible refine (eClone_n A n c l _ (HS.out.ext (by repeat (first | with_reducible exact Ext.refl _ | with_reducible refine Ext.drew ?_ | with_reducible refine Ext.drewN ?_ _ | with_reducible refine Ext.alloc ?_ _ | with_reducible refine Ext.setCell ?_ (by first | omega | (simp; done) | (simp; omega)) _))) (by omega) hnil).mono ?_)
                      rintro e w5 ⟨A3, c3, rfl, hA3, hO3, hx5⟩
                      have hz5 := hx5.size
                      try simp at hz5
                      have X5 : Hid (Ext w w5) := Lib.hid (Ext.trans (by repeat (first | with_reducible exact X4.out | with_reducible refine Ext.drew ?_ | with_reducible refine Ext.drewN ?_ _ | with_reducible refine Ext.alloc ?_ _ | with_reducible refine Ext.setCell ?_ (by first | omega | (simp; done) | (simp; omega)) _)) hx5)
                      have HO : Hid (OwnEnt w5 w4.heap.size (.slice A3 n c3) n l) := Lib.hid (OwnEnt.lower hO3 (by first | omega | (simp; done) | (simp; omega)))
                      have hlw : w.heap.size ≤ w4.heap.size := (by first | omega | (simp; omega))
                      clear hO3
                      have d_0 : w5.cell? ⟨w.heap.size, 0, none⟩ = some (.int .i64 xo) := hx5.has (by first | exact c0_0 | (simp [go_sem, World.cell?_alloc_past, c0_0, rc0, rc0n]; done))
                      have d_1 : w5.cell? ⟨w.heap.size, 1, none⟩ = some (.int .i64 xv) := hx5.has (by first | exact c0_1 | (simp [go_sem, World.cell?_alloc_past, c0_1, rc0, rc0n]; done))
                      have d_2 : w5.cell? ⟨w.heap.size, 2, none⟩ = some (.int .i64 xs) := hx5.has (by first | exact c0_2 | (simp [go_sem, World.cell?_alloc_past, c0_2, rc0, rc0n]; done))
                      have d_3 : w5.cell? ⟨w.heap.size, 3, none⟩ = some (.int .i64 xp) := hx5.has (by first | exact c0_3 | (simp [go_sem, World.cell?_alloc_past, c0_3, rc0, rc0n]; done))
                      have d_4 : w5.cell? ⟨w.heap.size, 4, none⟩ = some (.int .i64 xf) := hx5.has (by first | exact c0_4 | (simp [go_sem, World.cell?_alloc_past, c0_4, rc0, rc0n]; done))
                      have d_5 : w5.cell? ⟨w.heap.size, 5, none⟩ = some (.int .i64 xc) := hx5.has (by first | exact c0_5 | (simp [go_sem, World.cell?_alloc_past, c0_5, rc0, rc0n]; done))
                      have d_6 : w5.cell? ⟨w.heap.size, 6, none⟩ = some (.int .u64 xi) := hx5.has (by first | exact c0_6 | (simp [go_sem, World.cell?_alloc_past, c0_6, rc0, rc0n]; done))
                      have d_7 : w5.cell? ⟨w.heap.size, 7, none⟩ = some (.int .u64 xb) := hx5.has (by first | exact c0_7 | (simp [go_sem, World.cell?_alloc_past, c0_7, rc0, rc0n]; done))
                      have rd0 : w.heap.size < w5.heap.size := by omega
                      refine hK.out _ _ (trivial) (fun hHeld => ?_); clear hK K; try simp only [Act.put, List.setIfInBounds_toArray, List.set_cons_zero, List.set_cons_succ]
                      refine' next_in 3 rfl (by kernel_rfl) (by rfl) (fun K hK => ?_)
                      go_simp
                      refine hK.out _ _ (trivial) (fun hHeld => ?_); clear hK K; try simp only [Act.put, List.setIfInBounds_toArray, List.set_cons_zero, List.set_cons_succ]
                      obtain ⟨A7, c7, w7, hrun7, hO7, hB7⟩ := ent_app (w := (w5.alloc (.cells #[.int .i64 xo, .int .i64 xv, .int .i64 xs, .int .i64 xp, .int .i64 xf, .int .i64 xc, .int .u64 xi, .int .u64 xb] 27))) (b := w5.heap.size) (c := 1) (HO.out.ext (Ext.alloc (Ext.refl _) _)) (by omega) (by simp; omega) (ent_cells (xo := xo) (xv := xv) (xs := xs) (xp := xp) (xf := xf) (xc := xc) (xi := xi) (xb := xb) (by simp [go_sem]) (by simp [go_sem]) (by simp [go_sem]) (by simp [go_sem]) (by simp [go_sem]) (by simp [go_sem]) (by simp [go_sem]) (by simp [go_sem])) 22
                      have X7 : Hid (Ext w w7) := Lib.hid (Below.trans (Ext.alloc X5.out _) (Below.mono hB7 hlw))
                      have e_0 : w7.cell? ⟨w.heap.size, 0, none⟩ = some (.int .i64 xo) := (hB7.cell (p := ⟨w.heap.size, 0, none⟩) (by show w.heap.size < w4.heap.size; omega)).trans (by first | exact d_0 | (simp [go_sem, World.cell?_alloc_past, d_0, rd0]; done))
                      have e_1 : w7.cell? ⟨w.heap.size, 1, none⟩ = some (.int .i64 xv) := (hB7.cell (p := ⟨w.heap.size, 1, none⟩) (by show w.heap.size < w4.heap.size; omega)).trans (by first | exact d_1 | (simp [go_sem, World.cell?_alloc_past, d_1, rd0]; done))
                      have e_2 : w7.cell? ⟨w.heap.size, 2, none⟩ = some (.int .i64 xs) := (hB7.cell (p := ⟨w.heap.size, 2, none⟩) (by show w.heap.size < w4.heap.size; omega)).trans (by first | exact d_2 | (simp [go_sem, World.cell?_alloc_past, d_2, rd0]; done))
                      have e_3 : w7.cell? ⟨w.heap.size, 3, none⟩ = some (.int .i64 xp) := (hB7.cell (p := ⟨w.heap.size, 3, none⟩) (by show w.heap.size < w4.heap.size; omega)).trans (by first | exact d_3 | (simp [go_sem, World.cell?_alloc_past, d_3, rd0]; done))
                      have e_4 : w7.cell? ⟨w.heap.size, 4, none⟩ = some (.int .i64 xf) := (hB7.cell (p := ⟨w.heap.size, 4, none⟩) (by show w.heap.size < w4.heap.size; omega)).trans (by first | exact d_4 | (simp [go_sem, World.cell?_alloc_past, d_4, rd0]; done))
                      have e_5 : w7.cell? ⟨w.heap.size, 5, none⟩ = some (.int .i64 xc) := (hB7.cell (p := ⟨w.heap.size, 5, none⟩) (by show w.heap.size < w4.heap.size; omega)).trans (by first | exact d_5 | (simp [go_sem, World.cell?_alloc_past, d_5, rd0]; done))
                      have e_6 : w7.cell? ⟨w.heap.size, 6, none⟩ = some (.int .u64 xi) := (hB7.cell (p := ⟨w.heap.size, 6, none⟩) (by show w.heap.size < w4.heap.size; omega)).trans (by first | exact d_6 | (simp [go_sem, World.cell?_alloc_past, d_6, rd0]; done))
                      have e_7 : w7.cell? ⟨w.heap.size, 7, none⟩ = some (.int .u64 xb) := (hB7.cell (p := ⟨w.heap.size, 7, none⟩) (by show w.heap.size < w4.heap.size; omega)).trans (by first | exact d_7 | (simp [go_sem, World.cell?_alloc_past, d_7, rd0]; done))
                      have hz7 := Below.size hB7
                      try simp at hz7
                      have HO7 := Lib.hid hO7
                      clear hB7 hO7
                      replace c0_0 := e_0
                      replace c0_1 := e_1
                      replace c0_2 := e_2
                      replace c0_3 := e_3
                      replace c0_4 := e_4
                      replace c0_5 := e_5
                      replace c0_6 := e_6
                      replace c0_7 := e_7
                      replace rc0 : w.heap.size < w7.heap.size := by omega
                      replace rc0a : w.heap.size < w7.heap.size + 1 := by omega
                      replace rc0b : w.heap.size < w7.heap.size + 1 + 1 := by omega
                      replace rc0c : w.heap.size < w7.heap.size + 1 + 1 + 1 := by omega
                      replace rc0n : ¬ w.heap.size = w7.heap.size := by omega
                      clear e_0 d_0 e_1 d_1 e_2 d_2 e_3 d_3 e_4 d_4 e_5 d_5 e_6 d_6 e_7 d_7
                      refine' next_in 4 rfl (by kernel_rfl) (by rfl) (fun K hK => ?_)
                      refine oper_append (.tmp 59) (.tmp 61) 22 rfl rfl rfl hrun7 ?_
                      refine hK.out _ _ (trivial) (fun hHeld => ?_); clear hK K; try simp only [Act.put, List.setIfInBounds_toArray, List.set_cons_zero, List.set_cons_succ]
                      clear hrun7
                      (refine' take_in 5 rfl (by kernel_rfl) (by kernel_rfl) (by kernel_rfl) (fun _ _ _ h => h) (by rfl) (by assumption) ?_ ?_; rotate_left; focus (intro w hSw; (try dsimp only at hSw); go_simp; try with_reducible rfl)); try simp only [Act.put, List.setIfInBounds_toArray, List.set_cons_zero, List.set_cons_succ]
                      (refine' take_in 6 rfl (by kernel_rfl) (by kernel_rfl) (by kernel_rfl) (fun _ _ _ h => h) (by rfl) (by assumption) ?_ ?_; rotate_left; focus (intro w hSw; (try dsimp only at hSw); go_simp; try with_reducible rfl)); try simp only [Act.put, List.setIfInBounds_toArray, List.set_cons_zero, List.set_cons_succ]
                      refine wpAnyH_done (by kernel_rfl) ?_ _
                      go_wp2_with fail
                      go_ret2
                      have q2 := Q2.out
                      have q3 := Q3.out
                      have q6 := Q6.out
                      have q7 := Q7.out
                      have hv9 : v = 0 := (by rw [HV.out]; unfold addG; (repeat' split) <;> omega)
                      rw [show R = l ++ [(xo, xv, xs, xp, xf, xc, xi, xb)] from by rw [HR.out, if_pos hv9], hv9]
                      exact RetEntV.mk (xs := [.int .i64 0]) (OwnEnt.lower (show OwnEnt _ _ _ (n + 1) _ from (HO7.out.ext (by repeat (first | with_reducible exact Ext.refl _ | with_reducible refine Ext.drew ?_ | with_reducible refine Ext.drewN ?_ _ | with_reducible refine Ext.alloc ?_ _ | with_reducible refine Ext.setCell ?_ (by first | omega | (simp; done) | (simp; omega)) _)))) hlw) (by repeat (first | with_reducible exact X7.out | with_reducible refine Ext.drew ?_ | with_reducible refine Ext.drewN ?_ _ | with_reducible refine Ext.alloc ?_ _ | with_reducible refine Ext.setCell ?_ (by first | omega | (simp; done) | (simp; omega)) _)) (by simp [HLL.out])
                    · go_simp
                      refine hK.out _ _ (trivial) (fun hHeld => ?_); clear hK K; try simp only [Act.put, List.setIfInBounds_toArray, List.set_cons_zero, List.set_cons_succ]
                      refine' next_in 1 rfl (by kernel_rfl) (by rfl) (fun K hK => ?_)
                      go_simp
                      (with_reducible refine (eClone_n A n c l _ (HS.out.ext (by repeat (first | with_reducible exact Ext.refl _ | with_reducible refine Ext.drew ?_ | with_reducible refine Ext.drewN ?_ _ | with_reducible refine Ext.alloc ?_ _ | with_reducible refine Ext.setCell ?_ (by first | omega | (simp; done) | (simp; omega)) _))) (by omega) hnil).mono ?_)
                      rintro e w5 ⟨A3, c3, rfl, hA3, hO3, hx5⟩
                      have hz5 := hx5.size
                      try simp at hz5
                      have X5 : Hid (Ext w w5) := Lib.hid (Ext.trans (by repeat (first | with_reducible exact X4.out | with_reducible refine Ext.drew ?_ | with_reducible refine Ext.drewN ?_ _ | with_reducible refine Ext.alloc ?_ _ | with_reducible refine Ext.setCell ?_ (by first | omega | (simp; done) | (simp; omega)) _)) hx5)
                      have HO : Hid (OwnEnt w5 w4.heap.size (.slice A3 n c3) n l) := Lib.hid (OwnEnt.lower hO3 (by first | omega | (simp; done) | (simp; omega)))
                      have hlw : w.heap.size ≤ w4.heap.size := (by first | omega | (simp; omega))
                      clear hO3
                      have d_0 : w5.cell? ⟨w.heap.size, 0, none⟩ = some (.int .i64 xo) := hx5.has (by first | exact c0_0 | (simp [go_sem, World.cell?_alloc_past, c0_0, rc0, rc0n]; done))
                      have d_1 : w5.cell? ⟨w.heap.size, 1, none⟩ = some (.int .i64 xv) := hx5.has (by first | exact c0_1 | (simp [go_sem, World.cell?_alloc_past, c0_1, rc0, rc0n]; done))
                      have d_2 : w5.cell? ⟨w.heap.size, 2, none⟩ = some (.int .i64 xs) := hx5.has (by first | exact c0_2 | (simp [go_sem, World.cell?_alloc_past, c0_2, rc0, rc0n]; done))
                      have d_3 : w5.cell? ⟨w.heap.size, 3, none⟩ = some (.int .i64 xp) := hx5.has (by first | exact c0_3 | (simp [go_sem, World.cell?_alloc_past, c0_3, rc0, rc0n]; done))
                      have d_4 : w5.cell? ⟨w.heap.size, 4, none⟩ = some (.int .i64 xf) := hx5.has (by first | exact c0_4 | (simp [go_sem, World.cell?_alloc_past, c0_4, rc0, rc0n]; done))
                      have d_5 : w5.cell? ⟨w.heap.size, 5, none⟩ = some (.int .i64 xc) := hx5.has (by first | exact c0_5 | (simp [go_sem, World.cell?_alloc_past, c0_5, rc0, rc0n]; done))
                      have d_6 : w5.cell? ⟨w.heap.size, 6, none⟩ = some (.int .u64 xi) := hx5.has (by first | exact c0_6 | (simp [go_sem, World.cell?_alloc_past, c0_6, rc0, rc0n]; done))
                      have d_7 : w5.cell? ⟨w.heap.size, 7, none⟩ = some (.int .u64 xb) := hx5.has (by first | exact c0_7 | (simp [go_sem, World.cell?_alloc_past, c0_7, rc0, rc0n]; done))
                      have rd0 : w.heap.size < w5.heap.size := by omega
                      have n_0 : w5.cell? ⟨w4.heap.size, 0, none⟩ = some (.int .i64 xo) := hx5.has (by simp [go_sem])
                      have n_1 : w5.cell? ⟨w4.heap.size, 1, none⟩ = some (.int .i64 xv) := hx5.has (by simp [go_sem])
                      have n_2 : w5.cell? ⟨w4.heap.size, 2, none⟩ = some (.int .i64 xs) := hx5.has (by simp [go_sem])
                      have n_3 : w5.cell? ⟨w4.heap.size, 3, none⟩ = some (.int .i64 xp) := hx5.has (by simp [go_sem])
                      have n_4 : w5.cell? ⟨w4.heap.size, 4, none⟩ = some (.int .i64 xf) := hx5.has (by simp [go_sem])
                      have n_5 : w5.cell? ⟨w4.heap.size, 5, none⟩ = some (.int .i64 xc) := hx5.has (by simp [go_sem])
                      have n_6 : w5.cell? ⟨w4.heap.size, 6, none⟩ = some (.int .u64 xi) := hx5.has (by simp [go_sem])
                      have n_7 : w5.cell? ⟨w4.heap.size, 7, none⟩ = some (.int .u64 xb) := hx5.has (by simp [go_sem])
                      refine hK.out _ _ (trivial) (fun hHeld => ?_); clear hK K; try simp only [Act.put, List.setIfInBounds_toArray, List.set_cons_zero, List.set_cons_succ]
                      obtain ⟨A7, c7, w7, hrun7, hO7, hB7⟩ := ent_app (w := w5) (b := w4.heap.size) (c := 1) HO.out (by omega) (by omega) (ent_cells n_0 n_1 n_2 n_3 n_4 n_5 n_6 n_7) 22
                      have X7 : Hid (Ext w w7) := Lib.hid (Below.trans X5.out (Below.mono hB7 hlw))
                      have e_0 : w7.cell? ⟨w.heap.size, 0, none⟩ = some (.int .i64 xo) := (hB7.cell (p := ⟨w.heap.size, 0, none⟩) (by show w.heap.size < w4.heap.size; omega)).trans (by first | exact d_0 | (simp [go_sem, d_0, rd0]; done))
                      have e_1 : w7.cell? ⟨w.heap.size, 1, none⟩ = some (.int .i64 xv) := (hB7.cell (p := ⟨w.heap.size, 1, none⟩) (by show w.heap.size < w4.heap.size; omega)).trans (by first | exact d_1 | (simp [go_sem, d_1, rd0]; done))
                      have e_2 : w7.cell? ⟨w.heap.size, 2, none⟩ = some (.int .i64 xs) := (hB7.cell (p := ⟨w.heap.size, 2, none⟩) (by show w.heap.size < w4.heap.size; omega)).trans (by first | exact d_2 | (simp [go_sem, d_2, rd0]; done))
                      have e_3 : w7.cell? ⟨w.heap.size, 3, none⟩ = some (.int .i64 xp) := (hB7.cell (p := ⟨w.heap.size, 3, none⟩) (by show w.heap.size < w4.heap.size; omega)).trans (by first | exact d_3 | (simp [go_sem, d_3, rd0]; done))
                      have e_4 : w7.cell? ⟨w.heap.size, 4, none⟩ = some (.int .i64 xf) := (hB7.cell (p := ⟨w.heap.size, 4, none⟩) (by show w.heap.size < w4.heap.size; omega)).trans (by first | exact d_4 | (simp [go_sem, d_4, rd0]; done))
                      have e_5 : w7.cell? ⟨w.heap.size, 5, none⟩ = some (.int .i64 xc) := (hB7.cell (p := ⟨w.heap.size, 5, none⟩) (by show w.heap.size < w4.heap.size; omega)).trans (by first | exact d_5 | (simp [go_sem, d_5, rd0]; done))
                      have e_6 : w7.cell? ⟨w.heap.size, 6, none⟩ = some (.int .u64 xi) := (hB7.cell (p := ⟨w.heap.size, 6, none⟩) (by show w.heap.size < w4.heap.size; omega)).trans (by first | exact d_6 | (simp [go_sem, d_6, rd0]; done))
                      have e_7 : w7.cell? ⟨w.heap.size, 7, none⟩ = some (.int .u64 xb) := (hB7.cell (p := ⟨w.heap.size, 7, none⟩) (by show w.heap.size < w4.heap.size; omega)).trans (by first | exact d_7 | (simp [go_sem, d_7, rd0]; done))
                      have hz7 := Below.size hB7
                      try simp at hz7
                      have HO7 := Lib.hid hO7
                      clear hB7 hO7
                      replace c0_0 := e_0
                      replace c0_1 := e_1
                      replace c0_2 := e_2
                      replace c0_3 := e_3
                      replace c0_4 := e_4
                      replace c0_5 := e_5
                      replace c0_6 := e_6
                      replace c0_7 := e_7
                      replace rc0 : w.heap.size < w7.heap.size := by omega
                      replace rc0a : w.heap.size < w7.heap.size + 1 := by omega
                      replace rc0b : w.heap.size < w7.heap.size + 1 + 1 := by omega
                      replace rc0c : w.heap.size < w7.heap.size + 1 + 1 + 1 := by omega
                      replace rc0n : ¬ w.heap.size = w7.heap.size := by omega
                      clear e_0 d_0 e_1 d_1 e_2 d_2 e_3 d_3 e_4 d_4 e_5 d_5 e_6 d_6 e_7 d_7
                      refine' next_in 4 rfl (by kernel_rfl) (by rfl) (fun K hK => ?_)
                      refine oper_append (.tmp 59) (.tmp 61) 22 rfl rfl rfl hrun7 ?_
                      refine hK.out _ _ (trivial) (fun hHeld => ?_); clear hK K; try simp only [Act.put, List.setIfInBounds_toArray, List.set_cons_zero, List.set_cons_succ]
                      clear hrun7
                      (refine' take_in 5 rfl (by kernel_rfl) (by kernel_rfl) (by kernel_rfl) (fun _ _ _ h => h) (by rfl) (by assumption) ?_ ?_; rotate_left; focus (intro w hSw; (try dsimp only at hSw); go_simp; try with_reducible rfl)); try simp only [Act.put, List.setIfInBounds_toArray, List.set_cons_zero, List.set_cons_succ]
                      (refine' take_in 6 rfl (by kernel_rfl) (by kernel_rfl) (by kernel_rfl) (fun _ _ _ h => h) (by rfl) (by assumption) ?_ ?_; rotate_left; focus (intro w hSw; (try dsimp only at hSw); go_simp; try with_reducible rfl)); try simp only [Act.put, List.setIfInBounds_toArray, List.set_cons_zero, List.set_cons_succ]
                      refine wpAnyH_done (by kernel_rfl) ?_ _
                      go_wp2_with fail
                      go_ret2
                      have q2 := Q2.out
                      have q3 := Q3.out
                      have q6 := Q6.out
                      have q7 := Q7.out
                      have hv9 : v = 0 := (by rw [HV.out]; unfold addG; (repeat' split) <;> omega)
                      rw [show R = l ++ [(xo, xv, xs, xp, xf, xc, xi, xb)] from by rw [HR.out, if_pos hv9], hv9]
                      exact RetEntV.mk (xs := [.int .i64 0]) (OwnEnt.lower (show OwnEnt _ _ _ (n + 1) _ from (HO7.out.ext (by repeat (first | with_reducible exact Ext.refl _ | with_reducible refine Ext.drew ?_ | with_reducible refine Ext.drewN ?_ _ | with_reducible refine Ext.alloc ?_ _ | with_reducible refine Ext.setCell ?_ (by first | omega | (simp; done) | (simp; omega)) _)))) hlw) (by repeat (first | with_reducible exact X7.out | with_reducible refine Ext.drew ?_ | with_reducible refine Ext.drewN ?_ _ | with_reducible refine Ext.alloc ?_ _ | with_reducible refine Ext.setCell ?_ (by first | omega | (simp; done) | (simp; omega)) _)) (by simp [HLL.out])
set_option maxRecDepth 100000 in
set_option maxHeartbeats 4000000 in
theorem radd14_at (A : Option Addr) (n c : Nat) (l : List (Int × Int × Int × Int × Int × Int × Int × Int)) (xo xv xs xp xf xc xi xb most e1 e2 E a r v s : Int) (lv : Nat) (w : World) (h : Sl w 8 A n c (l.flatMap entC)) (hn : n ≤ 100000) (hf : ∀ x ∈ l, FitsQ x) (hxb : Word xb) (hxi : Word xi) (he : chkQ l = (e1, e2)) (hE : chkS xv xs xp xf = E) (ha : lastQ l = a) (hr : oneG xo E xc xs a xi xb = r) (hlv : liveQ l xo xv = lv) (hs : totB l = s) (hv : v = addG e1 most r xb xi (lv : Int) n s) (hnil : A = none → c = 0) (hfx : FitsQ (xo, xv, xs, xp, xf, xc, xi, xb)) (R : List (Int × Int × Int × Int × Int × Int × Int × Int)) (hR : R = if v = 0 then l ++ [(xo, xv, xs, xp, xf, xc, xi, xb)] else []) :
    Calls Try.prog 13 #[.slice A n c, .agg #[.int .i64 xo, .int .i64 xv, .int .i64 xs, .int .i64 xp, .int .i64 xf, .int .i64 xc, .int .u64 xi, .int .u64 xb], .int .i64 most] w (RetEntV R [.int .i64 v] w) := by
  have hll := h.rlen entC_len (by decide)
  have hns := h.small
  have HLL := Lib.hid hll
  have hsn : 0 ≤ s := by rw [← hs]; exact totB_nonneg hf
  have HS := Lib.hid h
  have HV := Lib.hid hv
  have HR := Lib.hid hR
  clear hR
  have CC := Lib.hid (fun w' (hx : Ext w w') => rcheck14_any A n c l e1 e2 w' (h.ext hx) hf he)
  have CLa := Lib.hid (fun w' (hx : Ext w w') => rLast_ev A n c l a w' (h.ext hx) ha)
  have CO := Lib.hid (fun w' => rOne_ev xo xv xs xp xf xc xi xb E a r w' hE hr)
  have CL := Lib.hid (fun w' (hx : Ext w w') => rlive14_any A n c l xo xv w' (h.ext hx) hn hf)
  rw [hlv] at CL
  have HFX := Lib.hid (show ∀ y ∈ l ++ [(xo, xv, xs, xp, xf, xc, xi, xb)], FitsQ y from fun y hy => by rcases List.mem_append.1 hy with h | h; exact hf y h; simp at h; subst h; exact hfx)
  have HTB := Lib.hid (show totB (l ++ [(xo, xv, xs, xp, xf, xc, xi, xb)]) = s + xb from by rw [totB_app, hs]; simp [totB, baE])
  obtain ⟨b0, b1'⟩ := hxb
  clear h hf he hE ha hr hlv hs hv
  go_enter Try.func13, Try.ntmps13
  go_wp2_with fail
  (with_reducible refine (CC.out _ (by repeat (first | with_reducible exact Ext.refl w | with_reducible refine Ext.drew ?_ | with_reducible refine Ext.drewN ?_ _ | with_reducible refine Ext.alloc ?_ _ | with_reducible refine Ext.setCell ?_ (by first | omega | (simp; done) | (simp; omega)) _))).mono ?_)
  rintro e w1 ⟨rfl, hx1⟩
  have c0_0 : w1.cell? ⟨w.heap.size, 0, none⟩ = some (.int .i64 xo) := hx1.has (by first | fail | (simp [go_sem, World.cell?_alloc_past]; done))
  have c0_1 : w1.cell? ⟨w.heap.size, 1, none⟩ = some (.int .i64 xv) := hx1.has (by first | fail | (simp [go_sem, World.cell?_alloc_past]; done))
  have c0_2 : w1.cell? ⟨w.heap.size, 2, none⟩ = some (.int .i64 xs) := hx1.has (by first | fail | (simp [go_sem, World.cell?_alloc_past]; done))
  have c0_3 : w1.cell? ⟨w.heap.size, 3, none⟩ = some (.int .i64 xp) := hx1.has (by first | fail | (simp [go_sem, World.cell?_alloc_past]; done))
  have c0_4 : w1.cell? ⟨w.heap.size, 4, none⟩ = some (.int .i64 xf) := hx1.has (by first | fail | (simp [go_sem, World.cell?_alloc_past]; done))
  have c0_5 : w1.cell? ⟨w.heap.size, 5, none⟩ = some (.int .i64 xc) := hx1.has (by first | fail | (simp [go_sem, World.cell?_alloc_past]; done))
  have c0_6 : w1.cell? ⟨w.heap.size, 6, none⟩ = some (.int .u64 xi) := hx1.has (by first | fail | (simp [go_sem, World.cell?_alloc_past]; done))
  have c0_7 : w1.cell? ⟨w.heap.size, 7, none⟩ = some (.int .u64 xb) := hx1.has (by first | fail | (simp [go_sem, World.cell?_alloc_past]; done))
  have z1 := hx1.size
  try simp at z1
  have rc0 : w.heap.size < w1.heap.size := by omega
  have rc0a : w.heap.size < w1.heap.size + 1 := by omega
  have rc0b : w.heap.size < w1.heap.size + 1 + 1 := by omega
  have rc0c : w.heap.size < w1.heap.size + 1 + 1 + 1 := by omega
  have rc0n : ¬ w.heap.size = w1.heap.size := by omega
  replace HS := Lib.hid (HS.out.ext (Ext.trans (by repeat (first | with_reducible exact Ext.refl _ | with_reducible refine Ext.drew ?_ | with_reducible refine Ext.drewN ?_ _ | with_reducible refine Ext.alloc ?_ _ | with_reducible refine Ext.setCell ?_ (by first | omega | (simp; done) | (simp; omega)) _)) hx1))
  have X1 : Hid (Ext w w1) := Lib.hid (Ext.trans (by repeat (first | with_reducible exact Ext.refl w | with_reducible refine Ext.drew ?_ | with_reducible refine Ext.drewN ?_ _ | with_reducible refine Ext.alloc ?_ _ | with_reducible refine Ext.setCell ?_ (by first | omega | (simp; done) | (simp; omega)) _)) hx1)
  clear hx1 z1
  by_cases q1 : ¬ e1 = 0
  · have q1b : (e1 != 0) = true := by simp [q1]
    go_wp2_with fail
    go_ret2
    have hv9 : v = e1 := (by rw [HV.out]; unfold addG; (repeat' split) <;> omega)
    rw [show R = [] from by rw [HR.out, if_neg (by omega)], hv9]
    exact RetEntV.nil (xs := [.int .i64 e1]) (by repeat (first | with_reducible exact X1.out | with_reducible refine Ext.drew ?_ | with_reducible refine Ext.drewN ?_ _ | with_reducible refine Ext.alloc ?_ _ | with_reducible refine Ext.setCell ?_ (by first | omega | (simp; done) | (simp; omega)) _))
  · have q1b : (e1 != 0) = false := by simpa using q1
    by_cases q2 : most < 1
    · have d2 : decide (most < 1) = true := decide_eq_true q2
      have Q2 := Lib.hid q2
      clear q2
      go_wp2_with fail
      go_ret2
      have q2 := Q2.out
      have hv9 : v = 3 := (by rw [HV.out]; unfold addG; (repeat' split) <;> omega)
      rw [show R = [] from by rw [HR.out, if_neg (by omega)], hv9]
      exact RetEntV.nil (xs := [.int .i64 3]) (by repeat (first | with_reducible exact X1.out | with_reducible refine Ext.drew ?_ | with_reducible refine Ext.drewN ?_ _ | with_reducible refine Ext.alloc ?_ _ | with_reducible refine Ext.setCell ?_ (by first | omega | (simp; done) | (simp; omega)) _))
    · have d2 : decide (most < 1) = false := decide_eq_false q2
      have Q2 := Lib.hid q2
      clear q2
      by_cases q3 : 16 < most
      · have d3 : decide (16 < most) = true := decide_eq_true q3
        have Q3 := Lib.hid q3
        clear q3
        go_wp2_with fail
        go_ret2
        have q2 := Q2.out
        have q3 := Q3.out
        have hv9 : v = 3 := (by rw [HV.out]; unfold addG; (repeat' split) <;> omega)
        rw [show R = [] from by rw [HR.out, if_neg (by omega)], hv9]
        exact RetEntV.nil (xs := [.int .i64 3]) (by repeat (first | with_reducible exact X1.out | with_reducible refine Ext.drew ?_ | with_reducible refine Ext.drewN ?_ _ | with_reducible refine Ext.alloc ?_ _ | with_reducible refine Ext.setCell ?_ (by first | omega | (simp; done) | (simp; omega)) _))
      · have d3 : decide (16 < most) = false := decide_eq_false q3
        have Q3 := Lib.hid q3
        clear q3
        go_wp2_with fail
        refine wp_region_held_drew (S := fun w' => w'.cell? ⟨w.heap.size, 0, none⟩ = some (.int .i64 xo) ∧ w'.cell? ⟨w.heap.size, 1, none⟩ = some (.int .i64 xv) ∧ w'.cell? ⟨w.heap.size, 2, none⟩ = some (.int .i64 xs) ∧ w'.cell? ⟨w.heap.size, 3, none⟩ = some (.int .i64 xp) ∧ w'.cell? ⟨w.heap.size, 4, none⟩ = some (.int .i64 xf) ∧ w'.cell? ⟨w.heap.size, 5, none⟩ = some (.int .i64 xc) ∧ w'.cell? ⟨w.heap.size, 6, none⟩ = some (.int .u64 xi) ∧ w'.cell? ⟨w.heap.size, 7, none⟩ = some (.int .u64 xb)) (by kernel_rfl) (by first | exact ⟨c0_0, c0_1, c0_2, c0_3, c0_4, c0_5, c0_6, c0_7⟩ | (simp [go_sem, World.cell?_alloc_past, c0_0, c0_1, c0_2, c0_3, c0_4, c0_5, c0_6, c0_7, rc0, rc0a, rc0b, rc0c, rc0n]; done)) (fun hHeld => ?_)
        (refine' take_in 0 rfl (by kernel_rfl) (by kernel_rfl) (by kernel_rfl) (fun _ _ _ h => h) (by rfl) (by assumption) ?_ ?_; rotate_left; focus (intro w hSw; (try dsimp only at hSw); go_simp; try with_reducible rfl)); try simp only [Act.put, List.setIfInBounds_toArray, List.set_cons_zero, List.set_cons_succ]
        (refine' take_in 1 rfl (by kernel_rfl) (by kernel_rfl) (by kernel_rfl) (fun _ _ _ h => h) (by rfl) (by assumption) ?_ ?_; rotate_left; focus (intro w hSw; (try dsimp only at hSw); go_simp; try with_reducible rfl)); try simp only [Act.put, List.setIfInBounds_toArray, List.set_cons_zero, List.set_cons_succ]
        refine' next_in 2 rfl (by kernel_rfl) (by rfl) (fun K hK => ?_)
        go_simp
        (with_reducible refine (CLa.out _ (by repeat (first | with_reducible exact X1.out | with_reducible refine Ext.drew ?_ | with_reducible refine Ext.drewN ?_ _ | with_reducible refine Ext.alloc ?_ _ | with_reducible refine Ext.setCell ?_ (by first | omega | (simp; done) | (simp; omega)) _))).mono ?_)
        rintro e w_1 ⟨rfl, rfl⟩
        refine hK.out _ _ (by (first | exact ⟨c0_0, c0_1, c0_2, c0_3, c0_4, c0_5, c0_6, c0_7⟩ | (simp [go_sem, World.cell?_alloc_past, c0_0, c0_1, c0_2, c0_3, c0_4, c0_5, c0_6, c0_7, rc0, rc0a, rc0b, rc0c, rc0n]; done))) (fun hHeld => ?_); clear hK K; try simp only [Act.put, List.setIfInBounds_toArray, List.set_cons_zero, List.set_cons_succ]
        refine' next_in 3 rfl (by kernel_rfl) (by rfl) (fun K hK => ?_)
        go_simp
        (with_reducible refine (CO.out _).mono ?_)
        rintro e w2 ⟨rfl, hx2⟩
        replace c0_0 : w2.cell? ⟨w.heap.size, 0, none⟩ = some (.int .i64 xo) := hx2.has (by first | exact c0_0 | (simp [go_sem, World.cell?_alloc_past, c0_0, c0_1, c0_2, c0_3, c0_4, c0_5, c0_6, c0_7, rc0, rc0a, rc0b, rc0c, rc0n]; done))
        replace c0_1 : w2.cell? ⟨w.heap.size, 1, none⟩ = some (.int .i64 xv) := hx2.has (by first | exact c0_1 | (simp [go_sem, World.cell?_alloc_past, c0_0, c0_1, c0_2, c0_3, c0_4, c0_5, c0_6, c0_7, rc0, rc0a, rc0b, rc0c, rc0n]; done))
        replace c0_2 : w2.cell? ⟨w.heap.size, 2, none⟩ = some (.int .i64 xs) := hx2.has (by first | exact c0_2 | (simp [go_sem, World.cell?_alloc_past, c0_0, c0_1, c0_2, c0_3, c0_4, c0_5, c0_6, c0_7, rc0, rc0a, rc0b, rc0c, rc0n]; done))
        replace c0_3 : w2.cell? ⟨w.heap.size, 3, none⟩ = some (.int .i64 xp) := hx2.has (by first | exact c0_3 | (simp [go_sem, World.cell?_alloc_past, c0_0, c0_1, c0_2, c0_3, c0_4, c0_5, c0_6, c0_7, rc0, rc0a, rc0b, rc0c, rc0n]; done))
        replace c0_4 : w2.cell? ⟨w.heap.size, 4, none⟩ = some (.int .i64 xf) := hx2.has (by first | exact c0_4 | (simp [go_sem, World.cell?_alloc_past, c0_0, c0_1, c0_2, c0_3, c0_4, c0_5, c0_6, c0_7, rc0, rc0a, rc0b, rc0c, rc0n]; done))
        replace c0_5 : w2.cell? ⟨w.heap.size, 5, none⟩ = some (.int .i64 xc) := hx2.has (by first | exact c0_5 | (simp [go_sem, World.cell?_alloc_past, c0_0, c0_1, c0_2, c0_3, c0_4, c0_5, c0_6, c0_7, rc0, rc0a, rc0b, rc0c, rc0n]; done))
        replace c0_6 : w2.cell? ⟨w.heap.size, 6, none⟩ = some (.int .u64 xi) := hx2.has (by first | exact c0_6 | (simp [go_sem, World.cell?_alloc_past, c0_0, c0_1, c0_2, c0_3, c0_4, c0_5, c0_6, c0_7, rc0, rc0a, rc0b, rc0c, rc0n]; done))
        replace c0_7 : w2.cell? ⟨w.heap.size, 7, none⟩ = some (.int .u64 xb) := hx2.has (by first | exact c0_7 | (simp [go_sem, World.cell?_alloc_past, c0_0, c0_1, c0_2, c0_3, c0_4, c0_5, c0_6, c0_7, rc0, rc0a, rc0b, rc0c, rc0n]; done))
        have z2 := hx2.size
        try simp at z2
        replace rc0 : w.heap.size < w2.heap.size := by omega
        replace rc0a : w.heap.size < w2.heap.size + 1 := by omega
        replace rc0b : w.heap.size < w2.heap.size + 1 + 1 := by omega
        replace rc0c : w.heap.size < w2.heap.size + 1 + 1 + 1 := by omega
        replace rc0n : ¬ w.heap.size = w2.heap.size := by omega
        replace HS := Lib.hid (HS.out.ext (Ext.trans (by repeat (first | with_reducible exact Ext.refl _ | with_reducible refine Ext.drew ?_ | with_reducible refine Ext.drewN ?_ _ | with_reducible refine Ext.alloc ?_ _ | with_reducible refine Ext.setCell ?_ (by first | omega | (simp; done) | (simp; omega)) _)) hx2))
        have X2 : Hid (Ext w w2) := Lib.hid (Ext.trans (by repeat (first | with_reducible exact X1.out | with_reducible refine Ext.drew ?_ | with_reducible refine Ext.drewN ?_ _ | with_reducible refine Ext.alloc ?_ _ | with_reducible refine Ext.setCell ?_ (by first | omega | (simp; done) | (simp; omega)) _)) hx2)
        clear X1 hx2 z2
        refine hK.out _ _ (by (first | exact ⟨c0_0, c0_1, c0_2, c0_3, c0_4, c0_5, c0_6, c0_7⟩ | (simp [go_sem, World.cell?_alloc_past, c0_0, c0_1, c0_2, c0_3, c0_4, c0_5, c0_6, c0_7, rc0, rc0a, rc0b, rc0c, rc0n]; done))) (fun hHeld => ?_); clear hK K; try simp only [Act.put, List.setIfInBounds_toArray, List.set_cons_zero, List.set_cons_succ]
        (refine' take_in 4 rfl (by kernel_rfl) (by kernel_rfl) (by kernel_rfl) (fun _ _ _ h => h) (by rfl) (by assumption) ?_ ?_; rotate_left; focus (intro w hSw; (try dsimp only at hSw); go_simp; try with_reducible rfl)); try simp only [Act.put, List.setIfInBounds_toArray, List.set_cons_zero, List.set_cons_succ]
        refine wpAnyH_done (by kernel_rfl) ?_ _
        by_cases q4 : ¬ r = 0
        · have q4b : (r != 0) = true := by simp [q4]
          go_wp2_with fail
          go_ret2
          have q2 := Q2.out
          have q3 := Q3.out
          have hv9 : v = r := (by rw [HV.out]; unfold addG; (repeat' split) <;> omega)
          rw [show R = [] from by rw [HR.out, if_neg (by omega)], hv9]
          exact RetEntV.nil (xs := [.int .i64 r]) (by repeat (first | with_reducible exact X2.out | with_reducible refine Ext.drew ?_ | with_reducible refine Ext.drewN ?_ _ | with_reducible refine Ext.alloc ?_ _ | with_reducible refine Ext.setCell ?_ (by first | omega | (simp; done) | (simp; omega)) _))
        · have q4b : (r != 0) = false := by simpa using q4
          go_wp2_with fail
          refine wp_region_held_drew (S := fun _ => True) (by kernel_rfl) trivial (fun hHeld => ?_)
          (refine' take_in 0 rfl (by kernel_rfl) (by kernel_rfl) (by kernel_rfl) (fun _ _ _ h => h) (by rfl) (by assumption) ?_ ?_; rotate_left; focus (intro w hSw; (try dsimp only at hSw); go_simp; try with_reducible rfl)); try simp only [Act.put, List.setIfInBounds_toArray, List.set_cons_zero, List.set_cons_succ]
          refine' next2_in 1 2 rfl rfl (by kernel_rfl) (by rfl) (by rfl) (fun K hK => ?_) (fun K hK => ?_)
          · go_simp
            (with_reducible refine (kCopyEntries_n A n c l _ (HS.out.ext (by repeat (first | with_reducible exact Ext.refl _ | with_reducible refine Ext.drew ?_ | with_reducible refine Ext.drewN ?_ _ | with_reducible refine Ext.alloc ?_ _ | with_reducible refine Ext.setCell ?_ (by first | omega | (simp; done) | (simp; omega)) _))) (by omega)).mono ?_)
            rintro e w5 ⟨A3, c3, rfl, hA3, hO3, hx5⟩
            have hz5 := hx5.size
            try simp at hz5
            have X5 : Hid (Ext w w5) := Lib.hid (Ext.trans (by repeat (first | with_reducible exact X2.out | with_reducible refine Ext.drew ?_ | with_reducible refine Ext.drewN ?_ _ | with_reducible refine Ext.alloc ?_ _ | with_reducible refine Ext.setCell ?_ (by first | omega | (simp; done) | (simp; omega)) _)) hx5)
            have HO : Hid (OwnEnt w5 w2.heap.size (.slice A3 n c3) n l) := Lib.hid (OwnEnt.lower hO3 (by first | omega | (simp; done) | (simp; omega)))
            have hlw : w.heap.size ≤ w2.heap.size := (by first | omega | (simp; omega))
            clear hO3
            have d_0 : w5.cell? ⟨w.heap.size, 0, none⟩ = some (.int .i64 xo) := hx5.has (by first | exact c0_0 | (simp [go_sem, World.cell?_alloc_past, c0_0, rc0, rc0n]; done))
            have d_1 : w5.cell? ⟨w.heap.size, 1, none⟩ = some (.int .i64 xv) := hx5.has (by first | exact c0_1 | (simp [go_sem, World.cell?_alloc_past, c0_1, rc0, rc0n]; done))
            have d_2 : w5.cell? ⟨w.heap.size, 2, none⟩ = some (.int .i64 xs) := hx5.has (by first | exact c0_2 | (simp [go_sem, World.cell?_alloc_past, c0_2, rc0, rc0n]; done))
            have d_3 : w5.cell? ⟨w.heap.size, 3, none⟩ = some (.int .i64 xp) := hx5.has (by first | exact c0_3 | (simp [go_sem, World.cell?_alloc_past, c0_3, rc0, rc0n]; done))
            have d_4 : w5.cell? ⟨w.heap.size, 4, none⟩ = some (.int .i64 xf) := hx5.has (by first | exact c0_4 | (simp [go_sem, World.cell?_alloc_past, c0_4, rc0, rc0n]; done))
            have d_5 : w5.cell? ⟨w.heap.size, 5, none⟩ = some (.int .i64 xc) := hx5.has (by first | exact c0_5 | (simp [go_sem, World.cell?_alloc_past, c0_5, rc0, rc0n]; done))
            have d_6 : w5.cell? ⟨w.heap.size, 6, none⟩ = some (.int .u64 xi) := hx5.has (by first | exact c0_6 | (simp [go_sem, World.cell?_alloc_past, c0_6, rc0, rc0n]; done))
            have d_7 : w5.cell? ⟨w.heap.size, 7, none⟩ = some (.int .u64 xb) := hx5.has (by first | exact c0_7 | (simp [go_sem, World.cell?_alloc_past, c0_7, rc0, rc0n]; done))
            have rd0 : w.heap.size < w5.heap.size := by omega
            refine hK.out _ _ (trivial) (fun hHeld => ?_); clear hK K; try simp only [Act.put, List.setIfInBounds_toArray, List.set_cons_zero, List.set_cons_succ]
            refine' next_in 2 rfl (by kernel_rfl) (by rfl) (fun K hK => ?_)
            go_simp
            refine hK.out _ _ (trivial) (fun hHeld => ?_); clear hK K; try simp only [Act.put, List.setIfInBounds_toArray, List.set_cons_zero, List.set_cons_succ]
            refine' next_in 3 rfl (by kernel_rfl) (by rfl) (fun K hK => ?_)
            go_simp
            refine hK.out _ _ (trivial) (fun hHeld => ?_); clear hK K; try simp only [Act.put, List.setIfInBounds_toArray, List.set_cons_zero, List.set_cons_succ]
            obtain ⟨A7, c7, w7, hrun7, hO7, hB7⟩ := ent_app (w := (w5.alloc (.cells #[.int .i64 xo, .int .i64 xv, .int .i64 xs, .int .i64 xp, .int .i64 xf, .int .i64 xc, .int .u64 xi, .int .u64 xb] 27))) (b := w5.heap.size) (c := 1) (HO.out.ext (Ext.alloc (Ext.refl _) _)) (by omega) (by simp; omega) (ent_cells (xo := xo) (xv := xv) (xs := xs) (xp := xp) (xf := xf) (xc := xc) (xi := xi) (xb := xb) (by simp [go_sem]) (by simp [go_sem]) (by simp [go_sem]) (by simp [go_sem]) (by simp [go_sem]) (by simp [go_sem]) (by simp [go_sem]) (by simp [go_sem])) 22
            have X7 : Hid (Ext w w7) := Lib.hid (Below.trans (Ext.alloc X5.out _) (Below.mono hB7 hlw))
            have e_0 : w7.cell? ⟨w.heap.size, 0, none⟩ = some (.int .i64 xo) := (hB7.cell (p := ⟨w.heap.size, 0, none⟩) (by show w.heap.size < w2.heap.size; omega)).trans (by first | exact d_0 | (simp [go_sem, World.cell?_alloc_past, d_0, rd0]; done))
            have e_1 : w7.cell? ⟨w.heap.size, 1, none⟩ = some (.int .i64 xv) := (hB7.cell (p := ⟨w.heap.size, 1, none⟩) (by show w.heap.size < w2.heap.size; omega)).trans (by first | exact d_1 | (simp [go_sem, World.cell?_alloc_past, d_1, rd0]; done))
            have e_2 : w7.cell? ⟨w.heap.size, 2, none⟩ = some (.int .i64 xs) := (hB7.cell (p := ⟨w.heap.size, 2, none⟩) (by show w.heap.size < w2.heap.size; omega)).trans (by first | exact d_2 | (simp [go_sem, World.cell?_alloc_past, d_2, rd0]; done))
            have e_3 : w7.cell? ⟨w.heap.size, 3, none⟩ = some (.int .i64 xp) := (hB7.cell (p := ⟨w.heap.size, 3, none⟩) (by show w.heap.size < w2.heap.size; omega)).trans (by first | exact d_3 | (simp [go_sem, World.cell?_alloc_past, d_3, rd0]; done))
            have e_4 : w7.cell? ⟨w.heap.size, 4, none⟩ = some (.int .i64 xf) := (hB7.cell (p := ⟨w.heap.size, 4, none⟩) (by show w.heap.size < w2.heap.size; omega)).trans (by first | exact d_4 | (simp [go_sem, World.cell?_alloc_past, d_4, rd0]; done))
            have e_5 : w7.cell? ⟨w.heap.size, 5, none⟩ = some (.int .i64 xc) := (hB7.cell (p := ⟨w.heap.size, 5, none⟩) (by show w.heap.size < w2.heap.size; omega)).trans (by first | exact d_5 | (simp [go_sem, World.cell?_alloc_past, d_5, rd0]; done))
            have e_6 : w7.cell? ⟨w.heap.size, 6, none⟩ = some (.int .u64 xi) := (hB7.cell (p := ⟨w.heap.size, 6, none⟩) (by show w.heap.size < w2.heap.size; omega)).trans (by first | exact d_6 | (simp [go_sem, World.cell?_alloc_past, d_6, rd0]; done))
            have e_7 : w7.cell? ⟨w.heap.size, 7, none⟩ = some (.int .u64 xb) := (hB7.cell (p := ⟨w.heap.size, 7, none⟩) (by show w.heap.size < w2.heap.size; omega)).trans (by first | exact d_7 | (simp [go_sem, World.cell?_alloc_past, d_7, rd0]; done))
            have hz7 := Below.size hB7
            try simp at hz7
            have HO7 := Lib.hid hO7
            clear hB7 hO7
            replace c0_0 := e_0
            replace c0_1 := e_1
            replace c0_2 := e_2
            replace c0_3 := e_3
            replace c0_4 := e_4
            replace c0_5 := e_5
            replace c0_6 := e_6
            replace c0_7 := e_7
            replace rc0 : w.heap.size < w7.heap.size := by omega
            replace rc0a : w.heap.size < w7.heap.size + 1 := by omega
            replace rc0b : w.heap.size < w7.heap.size + 1 + 1 := by omega
            replace rc0c : w.heap.size < w7.heap.size + 1 + 1 + 1 := by omega
            replace rc0n : ¬ w.heap.size = w7.heap.size := by omega
            clear e_0 d_0 e_1 d_1 e_2 d_2 e_3 d_3 e_4 d_4 e_5 d_5 e_6 d_6 e_7 d_7
            refine' next_in 4 rfl (by kernel_rfl) (by rfl) (fun K hK => ?_)
            refine oper_append (.tmp 36) (.tmp 38) 22 rfl rfl rfl hrun7 ?_
            refine hK.out _ _ (trivial) (fun hHeld => ?_); clear hK K; try simp only [Act.put, List.setIfInBounds_toArray, List.set_cons_zero, List.set_cons_succ]
            clear hrun7
            (refine' take_in 5 rfl (by kernel_rfl) (by kernel_rfl) (by kernel_rfl) (fun _ _ _ h => h) (by rfl) (by assumption) ?_ ?_; rotate_left; focus (intro w hSw; (try dsimp only at hSw); go_simp; try with_reducible rfl)); try simp only [Act.put, List.setIfInBounds_toArray, List.set_cons_zero, List.set_cons_succ]
            refine wpAnyH_done (by kernel_rfl) ?_ _
            by_cases q5 : ¬ xb = xi
            · have q5b : (xb != xi) = true := by simp [q5]
              go_wp2_with fail
              go_ret2
              have q2 := Q2.out
              have q3 := Q3.out
              have hv9 : v = 11 := (by rw [HV.out]; unfold addG; (repeat' split) <;> omega)
              rw [show R = [] from by rw [HR.out, if_neg (by omega)], hv9]
              exact RetEntV.nil (xs := [.int .i64 11]) (by repeat (first | with_reducible exact X7.out | with_reducible refine Ext.drew ?_ | with_reducible refine Ext.drewN ?_ _ | with_reducible refine Ext.alloc ?_ _ | with_reducible refine Ext.setCell ?_ (by first | omega | (simp; done) | (simp; omega)) _))
            · have q5b : (xb != xi) = false := by simpa using q5
              go_wp2_with fail
              (with_reducible refine (CL.out _ (by repeat (first | with_reducible exact X7.out | with_reducible refine Ext.drew ?_ | with_reducible refine Ext.drewN ?_ _ | with_reducible refine Ext.alloc ?_ _ | with_reducible refine Ext.setCell ?_ (by first | omega | (simp; done) | (simp; omega)) _))).mono ?_)
              rintro e w21 ⟨rfl, hx21⟩
              replace c0_0 : w21.cell? ⟨w.heap.size, 0, none⟩ = some (.int .i64 xo) := hx21.has (by first | exact c0_0 | (simp [go_sem, World.cell?_alloc_past, c0_0, c0_1, c0_2, c0_3, c0_4, c0_5, c0_6, c0_7, rc0, rc0a, rc0b, rc0c, rc0n]; done))
              replace c0_1 : w21.cell? ⟨w.heap.size, 1, none⟩ = some (.int .i64 xv) := hx21.has (by first | exact c0_1 | (simp [go_sem, World.cell?_alloc_past, c0_0, c0_1, c0_2, c0_3, c0_4, c0_5, c0_6, c0_7, rc0, rc0a, rc0b, rc0c, rc0n]; done))
              replace c0_2 : w21.cell? ⟨w.heap.size, 2, none⟩ = some (.int .i64 xs) := hx21.has (by first | exact c0_2 | (simp [go_sem, World.cell?_alloc_past, c0_0, c0_1, c0_2, c0_3, c0_4, c0_5, c0_6, c0_7, rc0, rc0a, rc0b, rc0c, rc0n]; done))
              replace c0_3 : w21.cell? ⟨w.heap.size, 3, none⟩ = some (.int .i64 xp) := hx21.has (by first | exact c0_3 | (simp [go_sem, World.cell?_alloc_past, c0_0, c0_1, c0_2, c0_3, c0_4, c0_5, c0_6, c0_7, rc0, rc0a, rc0b, rc0c, rc0n]; done))
              replace c0_4 : w21.cell? ⟨w.heap.size, 4, none⟩ = some (.int .i64 xf) := hx21.has (by first | exact c0_4 | (simp [go_sem, World.cell?_alloc_past, c0_0, c0_1, c0_2, c0_3, c0_4, c0_5, c0_6, c0_7, rc0, rc0a, rc0b, rc0c, rc0n]; done))
              replace c0_5 : w21.cell? ⟨w.heap.size, 5, none⟩ = some (.int .i64 xc) := hx21.has (by first | exact c0_5 | (simp [go_sem, World.cell?_alloc_past, c0_0, c0_1, c0_2, c0_3, c0_4, c0_5, c0_6, c0_7, rc0, rc0a, rc0b, rc0c, rc0n]; done))
              replace c0_6 : w21.cell? ⟨w.heap.size, 6, none⟩ = some (.int .u64 xi) := hx21.has (by first | exact c0_6 | (simp [go_sem, World.cell?_alloc_past, c0_0, c0_1, c0_2, c0_3, c0_4, c0_5, c0_6, c0_7, rc0, rc0a, rc0b, rc0c, rc0n]; done))
              replace c0_7 : w21.cell? ⟨w.heap.size, 7, none⟩ = some (.int .u64 xb) := hx21.has (by first | exact c0_7 | (simp [go_sem, World.cell?_alloc_past, c0_0, c0_1, c0_2, c0_3, c0_4, c0_5, c0_6, c0_7, rc0, rc0a, rc0b, rc0c, rc0n]; done))
              have z21 := hx21.size
              try simp at z21
              replace rc0 : w.heap.size < w21.heap.size := by omega
              replace rc0a : w.heap.size < w21.heap.size + 1 := by omega
              replace rc0b : w.heap.size < w21.heap.size + 1 + 1 := by omega
              replace rc0c : w.heap.size < w21.heap.size + 1 + 1 + 1 := by omega
              replace rc0n : ¬ w.heap.size = w21.heap.size := by omega
              replace HO7 := Lib.hid (HO7.out.ext (Ext.trans (by repeat (first | with_reducible exact Ext.refl _ | with_reducible refine Ext.drew ?_ | with_reducible refine Ext.drewN ?_ _ | with_reducible refine Ext.alloc ?_ _ | with_reducible refine Ext.setCell ?_ (by first | omega | (simp; done) | (simp; omega)) _)) hx21))
              have X21 : Hid (Ext w w21) := Lib.hid (Ext.trans (by repeat (first | with_reducible exact X7.out | with_reducible refine Ext.drew ?_ | with_reducible refine Ext.drewN ?_ _ | with_reducible refine Ext.alloc ?_ _ | with_reducible refine Ext.setCell ?_ (by first | omega | (simp; done) | (simp; omega)) _)) hx21)
              clear X7 hx21 z21
              by_cases q6 : most ≤ (lv : Int)
              · have d6 : decide (most ≤ (lv : Int)) = true := decide_eq_true q6
                have Q6 := Lib.hid q6
                clear q6
                go_wp2_with fail
                go_ret2
                have q2 := Q2.out
                have q3 := Q3.out
                have q6 := Q6.out
                have hv9 : v = 22 := (by rw [HV.out]; unfold addG; (repeat' split) <;> omega)
                rw [show R = [] from by rw [HR.out, if_neg (by omega)], hv9]
                exact RetEntV.nil (xs := [.int .i64 22]) (by repeat (first | with_reducible exact X21.out | with_reducible refine Ext.drew ?_ | with_reducible refine Ext.drewN ?_ _ | with_reducible refine Ext.alloc ?_ _ | with_reducible refine Ext.setCell ?_ (by first | omega | (simp; done) | (simp; omega)) _))
              · have d6 : decide (most ≤ (lv : Int)) = false := decide_eq_false q6
                have Q6 := Lib.hid q6
                clear q6
                by_cases q7 : 32768 ≤ (n : Int)
                · have d7 : decide (32768 ≤ (n : Int)) = true := decide_eq_true q7
                  have Q7 := Lib.hid q7
                  clear q7
                  go_wp2_with fail
                  go_ret2
                  have q2 := Q2.out
                  have q3 := Q3.out
                  have q6 := Q6.out
                  have q7 := Q7.out
                  have hv9 : v = 7 := (by rw [HV.out]; unfold addG; (repeat' split) <;> omega)
                  rw [show R = [] from by rw [HR.out, if_neg (by omega)], hv9]
                  exact RetEntV.nil (xs := [.int .i64 7]) (by repeat (first | with_reducible exact X21.out | with_reducible refine Ext.drew ?_ | with_reducible refine Ext.drewN ?_ _ | with_reducible refine Ext.alloc ?_ _ | with_reducible refine Ext.setCell ?_ (by first | omega | (simp; done) | (simp; omega)) _))
                · have N7 : Hid (n + 1 ≤ 100000) := Lib.hid (by omega)
                  have d7 : decide (32768 ≤ (n : Int)) = false := decide_eq_false q7
                  have Q7 := Lib.hid q7
                  clear q7
                  by_cases q8 : 4611686018427387904 - s < xb
                  · go_wp2_with fail
                    clear d7
                    obtain ⟨S9, hS9⟩ : ∃ S : Int, S = if totB (l ++ [(xo, xv, xs, xp, xf, xc, xi, xb)]) ≤ 4611686018427387904 then totB (l ++ [(xo, xv, xs, xp, xf, xc, xi, xb)]) else 0 := ⟨_, rfl⟩
                    have HS9 := Lib.hid hS9
                    clear hS9
                    (with_reducible refine (rsum14_ev A7 (n + 1) c7 (l ++ [(xo, xv, xs, xp, xf, xc, xi, xb)]) S9 false _ (OwnEnt.sl (show OwnEnt _ _ _ (n + 1) _ from (HO7.out.ext (by repeat (first | with_reducible exact Ext.refl _ | with_reducible refine Ext.drew ?_ | with_reducible refine Ext.drewN ?_ _ | with_reducible refine Ext.alloc ?_ _ | with_reducible refine Ext.setCell ?_ (by first | omega | (simp; done) | (simp; omega)) _))))) N7.out HFX.out HS9.out (by rw [HTB.out]; exact (decide_eq_false (by omega)).symm)).mono ?_)
                    rintro e w22 ⟨rfl, hx22⟩
                    replace c0_0 : w22.cell? ⟨w.heap.size, 0, none⟩ = some (.int .i64 xo) := hx22.has (by first | exact c0_0 | (simp [go_sem, World.cell?_alloc_past, c0_0, c0_1, c0_2, c0_3, c0_4, c0_5, c0_6, c0_7, rc0, rc0a, rc0b, rc0c, rc0n]; done))
                    replace c0_1 : w22.cell? ⟨w.heap.size, 1, none⟩ = some (.int .i64 xv) := hx22.has (by first | exact c0_1 | (simp [go_sem, World.cell?_alloc_past, c0_0, c0_1, c0_2, c0_3, c0_4, c0_5, c0_6, c0_7, rc0, rc0a, rc0b, rc0c, rc0n]; done))
                    replace c0_2 : w22.cell? ⟨w.heap.size, 2, none⟩ = some (.int .i64 xs) := hx22.has (by first | exact c0_2 | (simp [go_sem, World.cell?_alloc_past, c0_0, c0_1, c0_2, c0_3, c0_4, c0_5, c0_6, c0_7, rc0, rc0a, rc0b, rc0c, rc0n]; done))
                    replace c0_3 : w22.cell? ⟨w.heap.size, 3, none⟩ = some (.int .i64 xp) := hx22.has (by first | exact c0_3 | (simp [go_sem, World.cell?_alloc_past, c0_0, c0_1, c0_2, c0_3, c0_4, c0_5, c0_6, c0_7, rc0, rc0a, rc0b, rc0c, rc0n]; done))
                    replace c0_4 : w22.cell? ⟨w.heap.size, 4, none⟩ = some (.int .i64 xf) := hx22.has (by first | exact c0_4 | (simp [go_sem, World.cell?_alloc_past, c0_0, c0_1, c0_2, c0_3, c0_4, c0_5, c0_6, c0_7, rc0, rc0a, rc0b, rc0c, rc0n]; done))
                    replace c0_5 : w22.cell? ⟨w.heap.size, 5, none⟩ = some (.int .i64 xc) := hx22.has (by first | exact c0_5 | (simp [go_sem, World.cell?_alloc_past, c0_0, c0_1, c0_2, c0_3, c0_4, c0_5, c0_6, c0_7, rc0, rc0a, rc0b, rc0c, rc0n]; done))
                    replace c0_6 : w22.cell? ⟨w.heap.size, 6, none⟩ = some (.int .u64 xi) := hx22.has (by first | exact c0_6 | (simp [go_sem, World.cell?_alloc_past, c0_0, c0_1, c0_2, c0_3, c0_4, c0_5, c0_6, c0_7, rc0, rc0a, rc0b, rc0c, rc0n]; done))
                    replace c0_7 : w22.cell? ⟨w.heap.size, 7, none⟩ = some (.int .u64 xb) := hx22.has (by first | exact c0_7 | (simp [go_sem, World.cell?_alloc_past, c0_0, c0_1, c0_2, c0_3, c0_4, c0_5, c0_6, c0_7, rc0, rc0a, rc0b, rc0c, rc0n]; done))
                    have z22 := hx22.size
                    try simp at z22
                    replace rc0 : w.heap.size < w22.heap.size := by omega
                    replace rc0a : w.heap.size < w22.heap.size + 1 := by omega
                    replace rc0b : w.heap.size < w22.heap.size + 1 + 1 := by omega
                    replace rc0c : w.heap.size < w22.heap.size + 1 + 1 + 1 := by omega
                    replace rc0n : ¬ w.heap.size = w22.heap.size := by omega
                    replace HO7 := Lib.hid (HO7.out.ext (Ext.trans (by repeat (first | with_reducible exact Ext.refl _ | with_reducible refine Ext.drew ?_ | with_reducible refine Ext.drewN ?_ _ | with_reducible refine Ext.alloc ?_ _ | with_reducible refine Ext.setCell ?_ (by first | omega | (simp; done) | (simp; omega)) _)) hx22))
                    have X22 : Hid (Ext w w22) := Lib.hid (Ext.trans (by repeat (first | with_reducible exact X21.out | with_reducible refine Ext.drew ?_ | with_reducible refine Ext.drewN ?_ _ | with_reducible refine Ext.alloc ?_ _ | with_reducible refine Ext.setCell ?_ (by first | omega | (simp; done) | (simp; omega)) _)) hx22)
                    clear X21 hx22 z22
                    go_wp2_with fail
                    go_ret2
                    have q2 := Q2.out
                    have q3 := Q3.out
                    have q6 := Q6.out
                    have q7 := Q7.out
                    have hv9 : v = 12 := (by rw [HV.out]; unfold addG; (repeat' split) <;> omega)
                    rw [show R = [] from by rw [HR.out, if_neg (by omega)], hv9]
                    exact RetEntV.nil (xs := [.int .i64 12]) (by repeat (first | with_reducible exact X22.out | with_reducible refine Ext.drew ?_ | with_reducible refine Ext.drewN ?_ _ | with_reducible refine Ext.alloc ?_ _ | with_reducible refine Ext.setCell ?_ (by first | omega | (simp; done) | (simp; omega)) _))
                  · go_wp2_with fail
                    clear d7
                    obtain ⟨S9, hS9⟩ : ∃ S : Int, S = if totB (l ++ [(xo, xv, xs, xp, xf, xc, xi, xb)]) ≤ 4611686018427387904 then totB (l ++ [(xo, xv, xs, xp, xf, xc, xi, xb)]) else 0 := ⟨_, rfl⟩
                    have HS9 := Lib.hid hS9
                    clear hS9
                    (with_reducible refine (rsum14_ev A7 (n + 1) c7 (l ++ [(xo, xv, xs, xp, xf, xc, xi, xb)]) S9 true _ (OwnEnt.sl (show OwnEnt _ _ _ (n + 1) _ from (HO7.out.ext (by repeat (first | with_reducible exact Ext.refl _ | with_reducible refine Ext.drew ?_ | with_reducible refine Ext.drewN ?_ _ | with_reducible refine Ext.alloc ?_ _ | with_reducible refine Ext.setCell ?_ (by first | omega | (simp; done) | (simp; omega)) _))))) N7.out HFX.out HS9.out (by rw [HTB.out]; exact (decide_eq_true (by omega)).symm)).mono ?_)
                    rintro e w22 ⟨rfl, hx22⟩
                    replace c0_0 : w22.cell? ⟨w.heap.size, 0, none⟩ = some (.int .i64 xo) := hx22.has (by first | exact c0_0 | (simp [go_sem, World.cell?_alloc_past, c0_0, c0_1, c0_2, c0_3, c0_4, c0_5, c0_6, c0_7, rc0, rc0a, rc0b, rc0c, rc0n]; done))
                    replace c0_1 : w22.cell? ⟨w.heap.size, 1, none⟩ = some (.int .i64 xv) := hx22.has (by first | exact c0_1 | (simp [go_sem, World.cell?_alloc_past, c0_0, c0_1, c0_2, c0_3, c0_4, c0_5, c0_6, c0_7, rc0, rc0a, rc0b, rc0c, rc0n]; done))
                    replace c0_2 : w22.cell? ⟨w.heap.size, 2, none⟩ = some (.int .i64 xs) := hx22.has (by first | exact c0_2 | (simp [go_sem, World.cell?_alloc_past, c0_0, c0_1, c0_2, c0_3, c0_4, c0_5, c0_6, c0_7, rc0, rc0a, rc0b, rc0c, rc0n]; done))
                    replace c0_3 : w22.cell? ⟨w.heap.size, 3, none⟩ = some (.int .i64 xp) := hx22.has (by first | exact c0_3 | (simp [go_sem, World.cell?_alloc_past, c0_0, c0_1, c0_2, c0_3, c0_4, c0_5, c0_6, c0_7, rc0, rc0a, rc0b, rc0c, rc0n]; done))
                    replace c0_4 : w22.cell? ⟨w.heap.size, 4, none⟩ = some (.int .i64 xf) := hx22.has (by first | exact c0_4 | (simp [go_sem, World.cell?_alloc_past, c0_0, c0_1, c0_2, c0_3, c0_4, c0_5, c0_6, c0_7, rc0, rc0a, rc0b, rc0c, rc0n]; done))
                    replace c0_5 : w22.cell? ⟨w.heap.size, 5, none⟩ = some (.int .i64 xc) := hx22.has (by first | exact c0_5 | (simp [go_sem, World.cell?_alloc_past, c0_0, c0_1, c0_2, c0_3, c0_4, c0_5, c0_6, c0_7, rc0, rc0a, rc0b, rc0c, rc0n]; done))
                    replace c0_6 : w22.cell? ⟨w.heap.size, 6, none⟩ = some (.int .u64 xi) := hx22.has (by first | exact c0_6 | (simp [go_sem, World.cell?_alloc_past, c0_0, c0_1, c0_2, c0_3, c0_4, c0_5, c0_6, c0_7, rc0, rc0a, rc0b, rc0c, rc0n]; done))
                    replace c0_7 : w22.cell? ⟨w.heap.size, 7, none⟩ = some (.int .u64 xb) := hx22.has (by first | exact c0_7 | (simp [go_sem, World.cell?_alloc_past, c0_0, c0_1, c0_2, c0_3, c0_4, c0_5, c0_6, c0_7, rc0, rc0a, rc0b, rc0c, rc0n]; done))
                    have z22 := hx22.size
                    try simp at z22
                    replace rc0 : w.heap.size < w22.heap.size := by omega
                    replace rc0a : w.heap.size < w22.heap.size + 1 := by omega
                    replace rc0b : w.heap.size < w22.heap.size + 1 + 1 := by omega
                    replace rc0c : w.heap.size < w22.heap.size + 1 + 1 + 1 := by omega
                    replace rc0n : ¬ w.heap.size = w22.heap.size := by omega
                    replace HO7 := Lib.hid (HO7.out.ext (Ext.trans (by repeat (first | with_reducible exact Ext.refl _ | with_reducible refine Ext.drew ?_ | with_reducible refine Ext.drewN ?_ _ | with_reducible refine Ext.alloc ?_ _ | with_reducible refine Ext.setCell ?_ (by first | omega | (simp; done) | (simp; omega)) _)) hx22))
                    have X22 : Hid (Ext w w22) := Lib.hid (Ext.trans (by repeat (first | with_reducible exact X21.out | with_reducible refine Ext.drew ?_ | with_reducible refine Ext.drewN ?_ _ | with_reducible refine Ext.alloc ?_ _ | with_reducible refine Ext.setCell ?_ (by first | omega | (simp; done) | (simp; omega)) _)) hx22)
                    clear X21 hx22 z22
                    go_wp2_with fail
                    go_ret2
                    have q2 := Q2.out
                    have q3 := Q3.out
                    have q6 := Q6.out
                    have q7 := Q7.out
                    have hv9 : v = 0 := (by rw [HV.out]; unfold addG; (repeat' split) <;> omega)
                    rw [show R = l ++ [(xo, xv, xs, xp, xf, xc, xi, xb)] from by rw [HR.out, if_pos hv9], hv9]
                    exact RetEntV.mk (xs := [.int .i64 0]) (OwnEnt.lower (show OwnEnt _ _ _ (n + 1) _ from (HO7.out.ext (by repeat (first | with_reducible exact Ext.refl _ | with_reducible refine Ext.drew ?_ | with_reducible refine Ext.drewN ?_ _ | with_reducible refine Ext.alloc ?_ _ | with_reducible refine Ext.setCell ?_ (by first | omega | (simp; done) | (simp; omega)) _)))) hlw) (by repeat (first | with_reducible exact X22.out | with_reducible refine Ext.drew ?_ | with_reducible refine Ext.drewN ?_ _ | with_reducible refine Ext.alloc ?_ _ | with_reducible refine Ext.setCell ?_ (by first | omega | (simp; done) | (simp; omega)) _)) (by simp [HLL.out])
          · go_simp
            refine hK.out _ _ (trivial) (fun hHeld => ?_); clear hK K; try simp only [Act.put, List.setIfInBounds_toArray, List.set_cons_zero, List.set_cons_succ]
            refine' next2_in 1 3 rfl rfl (by kernel_rfl) (by rfl) (by rfl) (fun K hK => ?_) (fun K hK => ?_)
            · go_simp
              (with_reducible refine (kCopyEntries_n A n c l _ (HS.out.ext (by repeat (first | with_reducible exact Ext.refl _ | with_reducible refine Ext.drew ?_ | with_reducible refine Ext.drewN ?_ _ | with_reducible refine Ext.alloc ?_ _ | with_reducible refine Ext.setCell ?_ (by first | omega | (simp; done) | (simp; omega)) _))) (by omega)).mono ?_)
              rintro e w5 ⟨A3, c3, rfl, hA3, hO3, hx5⟩
              have hz5 := hx5.size
              try simp at hz5
              have X5 : Hid (Ext w w5) := Lib.hid (Ext.trans (by repeat (first | with_reducible exact X2.out | with_reducible refine Ext.drew ?_ | with_reducible refine Ext.drewN ?_ _ | with_reducible refine Ext.alloc ?_ _ | with_reducible refine Ext.setCell ?_ (by first | omega | (simp; done) | (simp; omega)) _)) hx5)
              have HO : Hid (OwnEnt w5 w2.heap.size (.slice A3 n c3) n l) := Lib.hid (OwnEnt.lower hO3 (by first | omega | (simp; done) | (simp; omega)))
              have hlw : w.heap.size ≤ w2.heap.size := (by first | omega | (simp; omega))
              clear hO3
              have d_0 : w5.cell? ⟨w.heap.size, 0, none⟩ = some (.int .i64 xo) := hx5.has (by first | exact c0_0 | (simp [go_sem, World.cell?_alloc_past, c0_0, rc0, rc0n]; done))
              have d_1 : w5.cell? ⟨w.heap.size, 1, none⟩ = some (.int .i64 xv) := hx5.has (by first | exact c0_1 | (simp [go_sem, World.cell?_alloc_past, c0_1, rc0, rc0n]; done))
              have d_2 : w5.cell? ⟨w.heap.size, 2, none⟩ = some (.int .i64 xs) := hx5.has (by first | exact c0_2 | (simp [go_sem, World.cell?_alloc_past, c0_2, rc0, rc0n]; done))
              have d_3 : w5.cell? ⟨w.heap.size, 3, none⟩ = some (.int .i64 xp) := hx5.has (by first | exact c0_3 | (simp [go_sem, World.cell?_alloc_past, c0_3, rc0, rc0n]; done))
              have d_4 : w5.cell? ⟨w.heap.size, 4, none⟩ = some (.int .i64 xf) := hx5.has (by first | exact c0_4 | (simp [go_sem, World.cell?_alloc_past, c0_4, rc0, rc0n]; done))
              have d_5 : w5.cell? ⟨w.heap.size, 5, none⟩ = some (.int .i64 xc) := hx5.has (by first | exact c0_5 | (simp [go_sem, World.cell?_alloc_past, c0_5, rc0, rc0n]; done))
              have d_6 : w5.cell? ⟨w.heap.size, 6, none⟩ = some (.int .u64 xi) := hx5.has (by first | exact c0_6 | (simp [go_sem, World.cell?_alloc_past, c0_6, rc0, rc0n]; done))
              have d_7 : w5.cell? ⟨w.heap.size, 7, none⟩ = some (.int .u64 xb) := hx5.has (by first | exact c0_7 | (simp [go_sem, World.cell?_alloc_past, c0_7, rc0, rc0n]; done))
              have rd0 : w.heap.size < w5.heap.size := by omega
              refine hK.out _ _ (trivial) (fun hHeld => ?_); clear hK K; try simp only [Act.put, List.setIfInBounds_toArray, List.set_cons_zero, List.set_cons_succ]
              refine' next_in 3 rfl (by kernel_rfl) (by rfl) (fun K hK => ?_)
              go_simp
              refine hK.out _ _ (trivial) (fun hHeld => ?_); clear hK K; try simp only [Act.put, List.setIfInBounds_toArray, List.set_cons_zero, List.set_cons_succ]
              obtain ⟨A7, c7, w7, hrun7, hO7, hB7⟩ := ent_app (w := (w5.alloc (.cells #[.int .i64 xo, .int .i64 xv, .int .i64 xs, .int .i64 xp, .int .i64 xf, .int .i64 xc, .int .u64 xi, .int .u64 xb] 27))) (b := w5.heap.size) (c := 1) (HO.out.ext (Ext.alloc (Ext.refl _) _)) (by omega) (by simp; omega) (ent_cells (xo := xo) (xv := xv) (xs := xs) (xp := xp) (xf := xf) (xc := xc) (xi := xi) (xb := xb) (by simp [go_sem]) (by simp [go_sem]) (by simp [go_sem]) (by simp [go_sem]) (by simp [go_sem]) (by simp [go_sem]) (by simp [go_sem]) (by simp [go_sem])) 22
              have X7 : Hid (Ext w w7) := Lib.hid (Below.trans (Ext.alloc X5.out _) (Below.mono hB7 hlw))
              have e_0 : w7.cell? ⟨w.heap.size, 0, none⟩ = some (.int .i64 xo) := (hB7.cell (p := ⟨w.heap.size, 0, none⟩) (by show w.heap.size < w2.heap.size; omega)).trans (by first | exact d_0 | (simp [go_sem, World.cell?_alloc_past, d_0, rd0]; done))
              have e_1 : w7.cell? ⟨w.heap.size, 1, none⟩ = some (.int .i64 xv) := (hB7.cell (p := ⟨w.heap.size, 1, none⟩) (by show w.heap.size < w2.heap.size; omega)).trans (by first | exact d_1 | (simp [go_sem, World.cell?_alloc_past, d_1, rd0]; done))
              have e_2 : w7.cell? ⟨w.heap.size, 2, none⟩ = some (.int .i64 xs) := (hB7.cell (p := ⟨w.heap.size, 2, none⟩) (by show w.heap.size < w2.heap.size; omega)).trans (by first | exact d_2 | (simp [go_sem, World.cell?_alloc_past, d_2, rd0]; done))
              have e_3 : w7.cell? ⟨w.heap.size, 3, none⟩ = some (.int .i64 xp) := (hB7.cell (p := ⟨w.heap.size, 3, none⟩) (by show w.heap.size < w2.heap.size; omega)).trans (by first | exact d_3 | (simp [go_sem, World.cell?_alloc_past, d_3, rd0]; done))
              have e_4 : w7.cell? ⟨w.heap.size, 4, none⟩ = some (.int .i64 xf) := (hB7.cell (p := ⟨w.heap.size, 4, none⟩) (by show w.heap.size < w2.heap.size; omega)).trans (by first | exact d_4 | (simp [go_sem, World.cell?_alloc_past, d_4, rd0]; done))
              have e_5 : w7.cell? ⟨w.heap.size, 5, none⟩ = some (.int .i64 xc) := (hB7.cell (p := ⟨w.heap.size, 5, none⟩) (by show w.heap.size < w2.heap.size; omega)).trans (by first | exact d_5 | (simp [go_sem, World.cell?_alloc_past, d_5, rd0]; done))
              have e_6 : w7.cell? ⟨w.heap.size, 6, none⟩ = some (.int .u64 xi) := (hB7.cell (p := ⟨w.heap.size, 6, none⟩) (by show w.heap.size < w2.heap.size; omega)).trans (by first | exact d_6 | (simp [go_sem, World.cell?_alloc_past, d_6, rd0]; done))
              have e_7 : w7.cell? ⟨w.heap.size, 7, none⟩ = some (.int .u64 xb) := (hB7.cell (p := ⟨w.heap.size, 7, none⟩) (by show w.heap.size < w2.heap.size; omega)).trans (by first | exact d_7 | (simp [go_sem, World.cell?_alloc_past, d_7, rd0]; done))
              have hz7 := Below.size hB7
              try simp at hz7
              have HO7 := Lib.hid hO7
              clear hB7 hO7
              replace c0_0 := e_0
              replace c0_1 := e_1
              replace c0_2 := e_2
              replace c0_3 := e_3
              replace c0_4 := e_4
              replace c0_5 := e_5
              replace c0_6 := e_6
              replace c0_7 := e_7
              replace rc0 : w.heap.size < w7.heap.size := by omega
              replace rc0a : w.heap.size < w7.heap.size + 1 := by omega
              replace rc0b : w.heap.size < w7.heap.size + 1 + 1 := by omega
              replace rc0c : w.heap.size < w7.heap.size + 1 + 1 + 1 := by omega
              replace rc0n : ¬ w.heap.size = w7.heap.size := by omega
              clear e_0 d_0 e_1 d_1 e_2 d_2 e_3 d_3 e_4 d_4 e_5 d_5 e_6 d_6 e_7 d_7
              refine' next_in 4 rfl (by kernel_rfl) (by rfl) (fun K hK => ?_)
              refine oper_append (.tmp 36) (.tmp 38) 22 rfl rfl rfl hrun7 ?_
              refine hK.out _ _ (trivial) (fun hHeld => ?_); clear hK K; try simp only [Act.put, List.setIfInBounds_toArray, List.set_cons_zero, List.set_cons_succ]
              clear hrun7
              (refine' take_in 5 rfl (by kernel_rfl) (by kernel_rfl) (by kernel_rfl) (fun _ _ _ h => h) (by rfl) (by assumption) ?_ ?_; rotate_left; focus (intro w hSw; (try dsimp only at hSw); go_simp; try with_reducible rfl)); try simp only [Act.put, List.setIfInBounds_toArray, List.set_cons_zero, List.set_cons_succ]
              refine wpAnyH_done (by kernel_rfl) ?_ _
              by_cases q5 : ¬ xb = xi
              · have q5b : (xb != xi) = true := by simp [q5]
                go_wp2_with fail
                go_ret2
                have q2 := Q2.out
                have q3 := Q3.out
                have hv9 : v = 11 := (by rw [HV.out]; unfold addG; (repeat' split) <;> omega)
                rw [show R = [] from by rw [HR.out, if_neg (by omega)], hv9]
                exact RetEntV.nil (xs := [.int .i64 11]) (by repeat (first | with_reducible exact X7.out | with_reducible refine Ext.drew ?_ | with_reducible refine Ext.drewN ?_ _ | with_reducible refine Ext.alloc ?_ _ | with_reducible refine Ext.setCell ?_ (by first | omega | (simp; done) | (simp; omega)) _))
              · have q5b : (xb != xi) = false := by simpa using q5
                go_wp2_with fail
                (with_reducible refine (CL.out _ (by repeat (first | with_reducible exact X7.out | with_reducible refine Ext.drew ?_ | with_reducible refine Ext.drewN ?_ _ | with_reducible refine Ext.alloc ?_ _ | with_reducible refine Ext.setCell ?_ (by first | omega | (simp; done) | (simp; omega)) _))).mono ?_)
                rintro e w21 ⟨rfl, hx21⟩
                replace c0_0 : w21.cell? ⟨w.heap.size, 0, none⟩ = some (.int .i64 xo) := hx21.has (by first | exact c0_0 | (simp [go_sem, World.cell?_alloc_past, c0_0, c0_1, c0_2, c0_3, c0_4, c0_5, c0_6, c0_7, rc0, rc0a, rc0b, rc0c, rc0n]; done))
                replace c0_1 : w21.cell? ⟨w.heap.size, 1, none⟩ = some (.int .i64 xv) := hx21.has (by first | exact c0_1 | (simp [go_sem, World.cell?_alloc_past, c0_0, c0_1, c0_2, c0_3, c0_4, c0_5, c0_6, c0_7, rc0, rc0a, rc0b, rc0c, rc0n]; done))
                replace c0_2 : w21.cell? ⟨w.heap.size, 2, none⟩ = some (.int .i64 xs) := hx21.has (by first | exact c0_2 | (simp [go_sem, World.cell?_alloc_past, c0_0, c0_1, c0_2, c0_3, c0_4, c0_5, c0_6, c0_7, rc0, rc0a, rc0b, rc0c, rc0n]; done))
                replace c0_3 : w21.cell? ⟨w.heap.size, 3, none⟩ = some (.int .i64 xp) := hx21.has (by first | exact c0_3 | (simp [go_sem, World.cell?_alloc_past, c0_0, c0_1, c0_2, c0_3, c0_4, c0_5, c0_6, c0_7, rc0, rc0a, rc0b, rc0c, rc0n]; done))
                replace c0_4 : w21.cell? ⟨w.heap.size, 4, none⟩ = some (.int .i64 xf) := hx21.has (by first | exact c0_4 | (simp [go_sem, World.cell?_alloc_past, c0_0, c0_1, c0_2, c0_3, c0_4, c0_5, c0_6, c0_7, rc0, rc0a, rc0b, rc0c, rc0n]; done))
                replace c0_5 : w21.cell? ⟨w.heap.size, 5, none⟩ = some (.int .i64 xc) := hx21.has (by first | exact c0_5 | (simp [go_sem, World.cell?_alloc_past, c0_0, c0_1, c0_2, c0_3, c0_4, c0_5, c0_6, c0_7, rc0, rc0a, rc0b, rc0c, rc0n]; done))
                replace c0_6 : w21.cell? ⟨w.heap.size, 6, none⟩ = some (.int .u64 xi) := hx21.has (by first | exact c0_6 | (simp [go_sem, World.cell?_alloc_past, c0_0, c0_1, c0_2, c0_3, c0_4, c0_5, c0_6, c0_7, rc0, rc0a, rc0b, rc0c, rc0n]; done))
                replace c0_7 : w21.cell? ⟨w.heap.size, 7, none⟩ = some (.int .u64 xb) := hx21.has (by first | exact c0_7 | (simp [go_sem, World.cell?_alloc_past, c0_0, c0_1, c0_2, c0_3, c0_4, c0_5, c0_6, c0_7, rc0, rc0a, rc0b, rc0c, rc0n]; done))
                have z21 := hx21.size
                try simp at z21
                replace rc0 : w.heap.size < w21.heap.size := by omega
                replace rc0a : w.heap.size < w21.heap.size + 1 := by omega
                replace rc0b : w.heap.size < w21.heap.size + 1 + 1 := by omega
                replace rc0c : w.heap.size < w21.heap.size + 1 + 1 + 1 := by omega
                replace rc0n : ¬ w.heap.size = w21.heap.size := by omega
                replace HO7 := Lib.hid (HO7.out.ext (Ext.trans (by repeat (first | with_reducible exact Ext.refl _ | with_reducible refine Ext.drew ?_ | with_reducible refine Ext.drewN ?_ _ | with_reducible refine Ext.alloc ?_ _ | with_reducible refine Ext.setCell ?_ (by first | omega | (simp; done) | (simp; omega)) _)) hx21))
                have X21 : Hid (Ext w w21) := Lib.hid (Ext.trans (by repeat (first | with_reducible exact X7.out | with_reducible refine Ext.drew ?_ | with_reducible refine Ext.drewN ?_ _ | with_reducible refine Ext.alloc ?_ _ | with_reducible refine Ext.setCell ?_ (by first | omega | (simp; done) | (simp; omega)) _)) hx21)
                clear X7 hx21 z21
                by_cases q6 : most ≤ (lv : Int)
                · have d6 : decide (most ≤ (lv : Int)) = true := decide_eq_true q6
                  have Q6 := Lib.hid q6
                  clear q6
                  go_wp2_with fail
                  go_ret2
                  have q2 := Q2.out
                  have q3 := Q3.out
                  have q6 := Q6.out
                  have hv9 : v = 22 := (by rw [HV.out]; unfold addG; (repeat' split) <;> omega)
                  rw [show R = [] from by rw [HR.out, if_neg (by omega)], hv9]
                  exact RetEntV.nil (xs := [.int .i64 22]) (by repeat (first | with_reducible exact X21.out | with_reducible refine Ext.drew ?_ | with_reducible refine Ext.drewN ?_ _ | with_reducible refine Ext.alloc ?_ _ | with_reducible refine Ext.setCell ?_ (by first | omega | (simp; done) | (simp; omega)) _))
                · have d6 : decide (most ≤ (lv : Int)) = false := decide_eq_false q6
                  have Q6 := Lib.hid q6
                  clear q6
                  by_cases q7 : 32768 ≤ (n : Int)
                  · have d7 : decide (32768 ≤ (n : Int)) = true := decide_eq_true q7
                    have Q7 := Lib.hid q7
                    clear q7
                    go_wp2_with fail
                    go_ret2
                    have q2 := Q2.out
                    have q3 := Q3.out
                    have q6 := Q6.out
                    have q7 := Q7.out
                    have hv9 : v = 7 := (by rw [HV.out]; unfold addG; (repeat' split) <;> omega)
                    rw [show R = [] from by rw [HR.out, if_neg (by omega)], hv9]
                    exact RetEntV.nil (xs := [.int .i64 7]) (by repeat (first | with_reducible exact X21.out | with_reducible refine Ext.drew ?_ | with_reducible refine Ext.drewN ?_ _ | with_reducible refine Ext.alloc ?_ _ | with_reducible refine Ext.setCell ?_ (by first | omega | (simp; done) | (simp; omega)) _))
                  · have N7 : Hid (n + 1 ≤ 100000) := Lib.hid (by omega)
                    have d7 : decide (32768 ≤ (n : Int)) = false := decide_eq_false q7
                    have Q7 := Lib.hid q7
                    clear q7
                    by_cases q8 : 4611686018427387904 - s < xb
                    · go_wp2_with fail
                      clear d7
                      obtain ⟨S9, hS9⟩ : ∃ S : Int, S = if totB (l ++ [(xo, xv, xs, xp, xf, xc, xi, xb)]) ≤ 4611686018427387904 then totB (l ++ [(xo, xv, xs, xp, xf, xc, xi, xb)]) else 0 := ⟨_, rfl⟩
                      have HS9 := Lib.hid hS9
                      clear hS9
                      (with_reducible refine (rsum14_ev A7 (n + 1) c7 (l ++ [(xo, xv, xs, xp, xf, xc, xi, xb)]) S9 false _ (OwnEnt.sl (show OwnEnt _ _ _ (n + 1) _ from (HO7.out.ext (by repeat (first | with_reducible exact Ext.refl _ | with_reducible refine Ext.drew ?_ | with_reducible refine Ext.drewN ?_ _ | with_reducible refine Ext.alloc ?_ _ | with_reducible refine Ext.setCell ?_ (by first | omega | (simp; done) | (simp; omega)) _))))) N7.out HFX.out HS9.out (by rw [HTB.out]; exact (decide_eq_false (by omega)).symm)).mono ?_)
                      rintro e w22 ⟨rfl, hx22⟩
                      replace c0_0 : w22.cell? ⟨w.heap.size, 0, none⟩ = some (.int .i64 xo) := hx22.has (by first | exact c0_0 | (simp [go_sem, World.cell?_alloc_past, c0_0, c0_1, c0_2, c0_3, c0_4, c0_5, c0_6, c0_7, rc0, rc0a, rc0b, rc0c, rc0n]; done))
                      replace c0_1 : w22.cell? ⟨w.heap.size, 1, none⟩ = some (.int .i64 xv) := hx22.has (by first | exact c0_1 | (simp [go_sem, World.cell?_alloc_past, c0_0, c0_1, c0_2, c0_3, c0_4, c0_5, c0_6, c0_7, rc0, rc0a, rc0b, rc0c, rc0n]; done))
                      replace c0_2 : w22.cell? ⟨w.heap.size, 2, none⟩ = some (.int .i64 xs) := hx22.has (by first | exact c0_2 | (simp [go_sem, World.cell?_alloc_past, c0_0, c0_1, c0_2, c0_3, c0_4, c0_5, c0_6, c0_7, rc0, rc0a, rc0b, rc0c, rc0n]; done))
                      replace c0_3 : w22.cell? ⟨w.heap.size, 3, none⟩ = some (.int .i64 xp) := hx22.has (by first | exact c0_3 | (simp [go_sem, World.cell?_alloc_past, c0_0, c0_1, c0_2, c0_3, c0_4, c0_5, c0_6, c0_7, rc0, rc0a, rc0b, rc0c, rc0n]; done))
                      replace c0_4 : w22.cell? ⟨w.heap.size, 4, none⟩ = some (.int .i64 xf) := hx22.has (by first | exact c0_4 | (simp [go_sem, World.cell?_alloc_past, c0_0, c0_1, c0_2, c0_3, c0_4, c0_5, c0_6, c0_7, rc0, rc0a, rc0b, rc0c, rc0n]; done))
                      replace c0_5 : w22.cell? ⟨w.heap.size, 5, none⟩ = some (.int .i64 xc) := hx22.has (by first | exact c0_5 | (simp [go_sem, World.cell?_alloc_past, c0_0, c0_1, c0_2, c0_3, c0_4, c0_5, c0_6, c0_7, rc0, rc0a, rc0b, rc0c, rc0n]; done))
                      replace c0_6 : w22.cell? ⟨w.heap.size, 6, none⟩ = some (.int .u64 xi) := hx22.has (by first | exact c0_6 | (simp [go_sem, World.cell?_alloc_past, c0_0, c0_1, c0_2, c0_3, c0_4, c0_5, c0_6, c0_7, rc0, rc0a, rc0b, rc0c, rc0n]; done))
                      replace c0_7 : w22.cell? ⟨w.heap.size, 7, none⟩ = some (.int .u64 xb) := hx22.has (by first | exact c0_7 | (simp [go_sem, World.cell?_alloc_past, c0_0, c0_1, c0_2, c0_3, c0_4, c0_5, c0_6, c0_7, rc0, rc0a, rc0b, rc0c, rc0n]; done))
                      have z22 := hx22.size
                      try simp at z22
                      replace rc0 : w.heap.size < w22.heap.size := by omega
                      replace rc0a : w.heap.size < w22.heap.size + 1 := by omega
                      replace rc0b : w.heap.size < w22.heap.size + 1 + 1 := by omega
                      replace rc0c : w.heap.size < w22.heap.size + 1 + 1 + 1 := by omega
                      replace rc0n : ¬ w.heap.size = w22.heap.size := by omega
                      replace HO7 := Lib.hid (HO7.out.ext (Ext.trans (by repeat (first | with_reducible exact Ext.refl _ | with_reducible refine Ext.drew ?_ | with_reducible refine Ext.drewN ?_ _ | with_reducible refine Ext.alloc ?_ _ | with_reducible refine Ext.setCell ?_ (by first | omega | (simp; done) | (simp; omega)) _)) hx22))
                      have X22 : Hid (Ext w w22) := Lib.hid (Ext.trans (by repeat (first | with_reducible exact X21.out | with_reducible refine Ext.drew ?_ | with_reducible refine Ext.drewN ?_ _ | with_reducible refine Ext.alloc ?_ _ | with_reducible refine Ext.setCell ?_ (by first | omega | (simp; done) | (simp; omega)) _)) hx22)
                      clear X21 hx22 z22
                      go_wp2_with fail
                      go_ret2
                      have q2 := Q2.out
                      have q3 := Q3.out
                      have q6 := Q6.out
                      have q7 := Q7.out
                      have hv9 : v = 12 := (by rw [HV.out]; unfold addG; (repeat' split) <;> omega)
                      rw [show R = [] from by rw [HR.out, if_neg (by omega)], hv9]
                      exact RetEntV.nil (xs := [.int .i64 12]) (by repeat (first | with_reducible exact X22.out | with_reducible refine Ext.drew ?_ | with_reducible refine Ext.drewN ?_ _ | with_reducible refine Ext.alloc ?_ _ | with_reducible refine Ext.setCell ?_ (by first | omega | (simp; done) | (simp; omega)) _))
                    · go_wp2_with fail
                      clear d7
                      obtain ⟨S9, hS9⟩ : ∃ S : Int, S = if totB (l ++ [(xo, xv, xs, xp, xf, xc, xi, xb)]) ≤ 4611686018427387904 then totB (l ++ [(xo, xv, xs, xp, xf, xc, xi, xb)]) else 0 := ⟨_, rfl⟩
                      have HS9 := Lib.hid hS9
                      clear hS9
                      (with_reducible refine (rsum14_ev A7 (n + 1) c7 (l ++ [(xo, xv, xs, xp, xf, xc, xi, xb)]) S9 true _ (OwnEnt.sl (show OwnEnt _ _ _ (n + 1) _ from (HO7.out.ext (by repeat (first | with_reducible exact Ext.refl _ | with_reducible refine Ext.drew ?_ | with_reducible refine Ext.drewN ?_ _ | with_reducible refine Ext.alloc ?_ _ | with_reducible refine Ext.setCell ?_ (by first | omega | (simp; done) | (simp; omega)) _))))) N7.out HFX.out HS9.out (by rw [HTB.out]; exact (decide_eq_true (by omega)).symm)).mono ?_)
                      rintro e w22 ⟨rfl, hx22⟩
                      replace c0_0 : w22.cell? ⟨w.heap.size, 0, none⟩ = some (.int .i64 xo) := hx22.has (by first | exact c0_0 | (simp [go_sem, World.cell?_alloc_past, c0_0, c0_1, c0_2, c0_3, c0_4, c0_5, c0_6, c0_7, rc0, rc0a, rc0b, rc0c, rc0n]; done))
                      replace c0_1 : w22.cell? ⟨w.heap.size, 1, none⟩ = some (.int .i64 xv) := hx22.has (by first | exact c0_1 | (simp [go_sem, World.cell?_alloc_past, c0_0, c0_1, c0_2, c0_3, c0_4, c0_5, c0_6, c0_7, rc0, rc0a, rc0b, rc0c, rc0n]; done))
                      replace c0_2 : w22.cell? ⟨w.heap.size, 2, none⟩ = some (.int .i64 xs) := hx22.has (by first | exact c0_2 | (simp [go_sem, World.cell?_alloc_past, c0_0, c0_1, c0_2, c0_3, c0_4, c0_5, c0_6, c0_7, rc0, rc0a, rc0b, rc0c, rc0n]; done))
                      replace c0_3 : w22.cell? ⟨w.heap.size, 3, none⟩ = some (.int .i64 xp) := hx22.has (by first | exact c0_3 | (simp [go_sem, World.cell?_alloc_past, c0_0, c0_1, c0_2, c0_3, c0_4, c0_5, c0_6, c0_7, rc0, rc0a, rc0b, rc0c, rc0n]; done))
                      replace c0_4 : w22.cell? ⟨w.heap.size, 4, none⟩ = some (.int .i64 xf) := hx22.has (by first | exact c0_4 | (simp [go_sem, World.cell?_alloc_past, c0_0, c0_1, c0_2, c0_3, c0_4, c0_5, c0_6, c0_7, rc0, rc0a, rc0b, rc0c, rc0n]; done))
                      replace c0_5 : w22.cell? ⟨w.heap.size, 5, none⟩ = some (.int .i64 xc) := hx22.has (by first | exact c0_5 | (simp [go_sem, World.cell?_alloc_past, c0_0, c0_1, c0_2, c0_3, c0_4, c0_5, c0_6, c0_7, rc0, rc0a, rc0b, rc0c, rc0n]; done))
                      replace c0_6 : w22.cell? ⟨w.heap.size, 6, none⟩ = some (.int .u64 xi) := hx22.has (by first | exact c0_6 | (simp [go_sem, World.cell?_alloc_past, c0_0, c0_1, c0_2, c0_3, c0_4, c0_5, c0_6, c0_7, rc0, rc0a, rc0b, rc0c, rc0n]; done))
                      replace c0_7 : w22.cell? ⟨w.heap.size, 7, none⟩ = some (.int .u64 xb) := hx22.has (by first | exact c0_7 | (simp [go_sem, World.cell?_alloc_past, c0_0, c0_1, c0_2, c0_3, c0_4, c0_5, c0_6, c0_7, rc0, rc0a, rc0b, rc0c, rc0n]; done))
                      have z22 := hx22.size
                      try simp at z22
                      replace rc0 : w.heap.size < w22.heap.size := by omega
                      replace rc0a : w.heap.size < w22.heap.size + 1 := by omega
                      replace rc0b : w.heap.size < w22.heap.size + 1 + 1 := by omega
                      replace rc0c : w.heap.size < w22.heap.size + 1 + 1 + 1 := by omega
                      replace rc0n : ¬ w.heap.size = w22.heap.size := by omega
                      replace HO7 := Lib.hid (HO7.out.ext (Ext.trans (by repeat (first | with_reducible exact Ext.refl _ | with_reducible refine Ext.drew ?_ | with_reducible refine Ext.drewN ?_ _ | with_reducible refine Ext.alloc ?_ _ | with_reducible refine Ext.setCell ?_ (by first | omega | (simp; done) | (simp; omega)) _)) hx22))
                      have X22 : Hid (Ext w w22) := Lib.hid (Ext.trans (by repeat (first | with_reducible exact X21.out | with_reducible refine Ext.drew ?_ | with_reducible refine Ext.drewN ?_ _ | with_reducible refine Ext.alloc ?_ _ | with_reducible refine Ext.setCell ?_ (by first | omega | (simp; done) | (simp; omega)) _)) hx22)
                      clear X21 hx22 z22
                      go_wp2_with fail
                      go_ret2
                      have q2 := Q2.out
                      have q3 := Q3.out
                      have q6 := Q6.out
                      have q7 := Q7.out
                      have hv9 : v = 0 := (by rw [HV.out]; unfold addG; (repeat' split) <;> omega)
                      rw [show R = l ++ [(xo, xv, xs, xp, xf, xc, xi, xb)] from by rw [HR.out, if_pos hv9], hv9]
                      exact RetEntV.mk (xs := [.int .i64 0]) (OwnEnt.lower (show OwnEnt _ _ _ (n + 1) _ from (HO7.out.ext (by repeat (first | with_reducible exact Ext.refl _ | with_reducible refine Ext.drew ?_ | with_reducible refine Ext.drewN ?_ _ | with_reducible refine Ext.alloc ?_ _ | with_reducible refine Ext.setCell ?_ (by first | omega | (simp; done) | (simp; omega)) _)))) hlw) (by repeat (first | with_reducible exact X22.out | with_reducible refine Ext.drew ?_ | with_reducible refine Ext.drewN ?_ _ | with_reducible refine Ext.alloc ?_ _ | with_reducible refine Ext.setCell ?_ (by first | omega | (simp; done) | (simp; omega)) _)) (by simp [HLL.out])
            · go_simp
              refine hK.out _ _ (trivial) (fun hHeld => ?_); clear hK K; try simp only [Act.put, List.setIfInBounds_toArray, List.set_cons_zero, List.set_cons_succ]
              refine' next_in 1 rfl (by kernel_rfl) (by rfl) (fun K hK => ?_)
              go_simp
              (with_reducible refine (kCopyEntries_n A n c l _ (HS.out.ext (by repeat (first | with_reducible exact Ext.refl _ | with_reducible refine Ext.drew ?_ | with_reducible refine Ext.drewN ?_ _ | with_reducible refine Ext.alloc ?_ _ | with_reducible refine Ext.setCell ?_ (by first | omega | (simp; done) | (simp; omega)) _))) (by omega)).mono ?_)
              rintro e w5 ⟨A3, c3, rfl, hA3, hO3, hx5⟩
              have hz5 := hx5.size
              try simp at hz5
              have X5 : Hid (Ext w w5) := Lib.hid (Ext.trans (by repeat (first | with_reducible exact X2.out | with_reducible refine Ext.drew ?_ | with_reducible refine Ext.drewN ?_ _ | with_reducible refine Ext.alloc ?_ _ | with_reducible refine Ext.setCell ?_ (by first | omega | (simp; done) | (simp; omega)) _)) hx5)
              have HO : Hid (OwnEnt w5 w2.heap.size (.slice A3 n c3) n l) := Lib.hid (OwnEnt.lower hO3 (by first | omega | (simp; done) | (simp; omega)))
              have hlw : w.heap.size ≤ w2.heap.size := (by first | omega | (simp; omega))
              clear hO3
              have d_0 : w5.cell? ⟨w.heap.size, 0, none⟩ = some (.int .i64 xo) := hx5.has (by first | exact c0_0 | (simp [go_sem, World.cell?_alloc_past, c0_0, rc0, rc0n]; done))
              have d_1 : w5.cell? ⟨w.heap.size, 1, none⟩ = some (.int .i64 xv) := hx5.has (by first | exact c0_1 | (simp [go_sem, World.cell?_alloc_past, c0_1, rc0, rc0n]; done))
              have d_2 : w5.cell? ⟨w.heap.size, 2, none⟩ = some (.int .i64 xs) := hx5.has (by first | exact c0_2 | (simp [go_sem, World.cell?_alloc_past, c0_2, rc0, rc0n]; done))
              have d_3 : w5.cell? ⟨w.heap.size, 3, none⟩ = some (.int .i64 xp) := hx5.has (by first | exact c0_3 | (simp [go_sem, World.cell?_alloc_past, c0_3, rc0, rc0n]; done))
              have d_4 : w5.cell? ⟨w.heap.size, 4, none⟩ = some (.int .i64 xf) := hx5.has (by first | exact c0_4 | (simp [go_sem, World.cell?_alloc_past, c0_4, rc0, rc0n]; done))
              have d_5 : w5.cell? ⟨w.heap.size, 5, none⟩ = some (.int .i64 xc) := hx5.has (by first | exact c0_5 | (simp [go_sem, World.cell?_alloc_past, c0_5, rc0, rc0n]; done))
              have d_6 : w5.cell? ⟨w.heap.size, 6, none⟩ = some (.int .u64 xi) := hx5.has (by first | exact c0_6 | (simp [go_sem, World.cell?_alloc_past, c0_6, rc0, rc0n]; done))
              have d_7 : w5.cell? ⟨w.heap.size, 7, none⟩ = some (.int .u64 xb) := hx5.has (by first | exact c0_7 | (simp [go_sem, World.cell?_alloc_past, c0_7, rc0, rc0n]; done))
              have rd0 : w.heap.size < w5.heap.size := by omega
              have n_0 : w5.cell? ⟨w2.heap.size, 0, none⟩ = some (.int .i64 xo) := hx5.has (by simp [go_sem])
              have n_1 : w5.cell? ⟨w2.heap.size, 1, none⟩ = some (.int .i64 xv) := hx5.has (by simp [go_sem])
              have n_2 : w5.cell? ⟨w2.heap.size, 2, none⟩ = some (.int .i64 xs) := hx5.has (by simp [go_sem])
              have n_3 : w5.cell? ⟨w2.heap.size, 3, none⟩ = some (.int .i64 xp) := hx5.has (by simp [go_sem])
              have n_4 : w5.cell? ⟨w2.heap.size, 4, none⟩ = some (.int .i64 xf) := hx5.has (by simp [go_sem])
              have n_5 : w5.cell? ⟨w2.heap.size, 5, none⟩ = some (.int .i64 xc) := hx5.has (by simp [go_sem])
              have n_6 : w5.cell? ⟨w2.heap.size, 6, none⟩ = some (.int .u64 xi) := hx5.has (by simp [go_sem])
              have n_7 : w5.cell? ⟨w2.heap.size, 7, none⟩ = some (.int .u64 xb) := hx5.has (by simp [go_sem])
              refine hK.out _ _ (trivial) (fun hHeld => ?_); clear hK K; try simp only [Act.put, List.setIfInBounds_toArray, List.set_cons_zero, List.set_cons_succ]
              obtain ⟨A7, c7, w7, hrun7, hO7, hB7⟩ := ent_app (w := w5) (b := w2.heap.size) (c := 1) HO.out (by omega) (by omega) (ent_cells n_0 n_1 n_2 n_3 n_4 n_5 n_6 n_7) 22
              have X7 : Hid (Ext w w7) := Lib.hid (Below.trans X5.out (Below.mono hB7 hlw))
              have e_0 : w7.cell? ⟨w.heap.size, 0, none⟩ = some (.int .i64 xo) := (hB7.cell (p := ⟨w.heap.size, 0, none⟩) (by show w.heap.size < w2.heap.size; omega)).trans (by first | exact d_0 | (simp [go_sem, d_0, rd0]; done))
              have e_1 : w7.cell? ⟨w.heap.size, 1, none⟩ = some (.int .i64 xv) := (hB7.cell (p := ⟨w.heap.size, 1, none⟩) (by show w.heap.size < w2.heap.size; omega)).trans (by first | exact d_1 | (simp [go_sem, d_1, rd0]; done))
              have e_2 : w7.cell? ⟨w.heap.size, 2, none⟩ = some (.int .i64 xs) := (hB7.cell (p := ⟨w.heap.size, 2, none⟩) (by show w.heap.size < w2.heap.size; omega)).trans (by first | exact d_2 | (simp [go_sem, d_2, rd0]; done))
              have e_3 : w7.cell? ⟨w.heap.size, 3, none⟩ = some (.int .i64 xp) := (hB7.cell (p := ⟨w.heap.size, 3, none⟩) (by show w.heap.size < w2.heap.size; omega)).trans (by first | exact d_3 | (simp [go_sem, d_3, rd0]; done))
              have e_4 : w7.cell? ⟨w.heap.size, 4, none⟩ = some (.int .i64 xf) := (hB7.cell (p := ⟨w.heap.size, 4, none⟩) (by show w.heap.size < w2.heap.size; omega)).trans (by first | exact d_4 | (simp [go_sem, d_4, rd0]; done))
              have e_5 : w7.cell? ⟨w.heap.size, 5, none⟩ = some (.int .i64 xc) := (hB7.cell (p := ⟨w.heap.size, 5, none⟩) (by show w.heap.size < w2.heap.size; omega)).trans (by first | exact d_5 | (simp [go_sem, d_5, rd0]; done))
              have e_6 : w7.cell? ⟨w.heap.size, 6, none⟩ = some (.int .u64 xi) := (hB7.cell (p := ⟨w.heap.size, 6, none⟩) (by show w.heap.size < w2.heap.size; omega)).trans (by first | exact d_6 | (simp [go_sem, d_6, rd0]; done))
              have e_7 : w7.cell? ⟨w.heap.size, 7, none⟩ = some (.int .u64 xb) := (hB7.cell (p := ⟨w.heap.size, 7, none⟩) (by show w.heap.size < w2.heap.size; omega)).trans (by first | exact d_7 | (simp [go_sem, d_7, rd0]; done))
              have hz7 := Below.size hB7
              try simp at hz7
              have HO7 := Lib.hid hO7
              clear hB7 hO7
              replace c0_0 := e_0
              replace c0_1 := e_1
              replace c0_2 := e_2
              replace c0_3 := e_3
              replace c0_4 := e_4
              replace c0_5 := e_5
              replace c0_6 := e_6
              replace c0_7 := e_7
              replace rc0 : w.heap.size < w7.heap.size := by omega
              replace rc0a : w.heap.size < w7.heap.size + 1 := by omega
              replace rc0b : w.heap.size < w7.heap.size + 1 + 1 := by omega
              replace rc0c : w.heap.size < w7.heap.size + 1 + 1 + 1 := by omega
              replace rc0n : ¬ w.heap.size = w7.heap.size := by omega
              clear e_0 d_0 e_1 d_1 e_2 d_2 e_3 d_3 e_4 d_4 e_5 d_5 e_6 d_6 e_7 d_7
              refine' next_in 4 rfl (by kernel_rfl) (by rfl) (fun K hK => ?_)
              refine oper_append (.tmp 36) (.tmp 38) 22 rfl rfl rfl hrun7 ?_
              refine hK.out _ _ (trivial) (fun hHeld => ?_); clear hK K; try simp only [Act.put, List.setIfInBounds_toArray, List.set_cons_zero, List.set_cons_succ]
              clear hrun7
              (refine' take_in 5 rfl (by kernel_rfl) (by kernel_rfl) (by kernel_rfl) (fun _ _ _ h => h) (by rfl) (by assumption) ?_ ?_; rotate_left; focus (intro w hSw; (try dsimp only at hSw); go_simp; try with_reducible rfl)); try simp only [Act.put, List.setIfInBounds_toArray, List.set_cons_zero, List.set_cons_succ]
              refine wpAnyH_done (by kernel_rfl) ?_ _
              by_cases q5 : ¬ xb = xi
              · have q5b : (xb != xi) = true := by simp [q5]
                go_wp2_with fail
                go_ret2
                have q2 := Q2.out
                have q3 := Q3.out
                have hv9 : v = 11 := (by rw [HV.out]; unfold addG; (repeat' split) <;> omega)
                rw [show R = [] from by rw [HR.out, if_neg (by omega)], hv9]
                exact RetEntV.nil (xs := [.int .i64 11]) (by repeat (first | with_reducible exact X7.out | with_reducible refine Ext.drew ?_ | with_reducible refine Ext.drewN ?_ _ | with_reducible refine Ext.alloc ?_ _ | with_reducible refine Ext.setCell ?_ (by first | omega | (simp; done) | (simp; omega)) _))
              · have q5b : (xb != xi) = false := by simpa using q5
                go_wp2_with fail
                (with_reducible refine (CL.out _ (by repeat (first | with_reducible exact X7.out | with_reducible refine Ext.drew ?_ | with_reducible refine Ext.drewN ?_ _ | with_reducible refine Ext.alloc ?_ _ | with_reducible refine Ext.setCell ?_ (by first | omega | (simp; done) | (simp; omega)) _))).mono ?_)
                rintro e w21 ⟨rfl, hx21⟩
                replace c0_0 : w21.cell? ⟨w.heap.size, 0, none⟩ = some (.int .i64 xo) := hx21.has (by first | exact c0_0 | (simp [go_sem, World.cell?_alloc_past, c0_0, c0_1, c0_2, c0_3, c0_4, c0_5, c0_6, c0_7, rc0, rc0a, rc0b, rc0c, rc0n]; done))
                replace c0_1 : w21.cell? ⟨w.heap.size, 1, none⟩ = some (.int .i64 xv) := hx21.has (by first | exact c0_1 | (simp [go_sem, World.cell?_alloc_past, c0_0, c0_1, c0_2, c0_3, c0_4, c0_5, c0_6, c0_7, rc0, rc0a, rc0b, rc0c, rc0n]; done))
                replace c0_2 : w21.cell? ⟨w.heap.size, 2, none⟩ = some (.int .i64 xs) := hx21.has (by first | exact c0_2 | (simp [go_sem, World.cell?_alloc_past, c0_0, c0_1, c0_2, c0_3, c0_4, c0_5, c0_6, c0_7, rc0, rc0a, rc0b, rc0c, rc0n]; done))
                replace c0_3 : w21.cell? ⟨w.heap.size, 3, none⟩ = some (.int .i64 xp) := hx21.has (by first | exact c0_3 | (simp [go_sem, World.cell?_alloc_past, c0_0, c0_1, c0_2, c0_3, c0_4, c0_5, c0_6, c0_7, rc0, rc0a, rc0b, rc0c, rc0n]; done))
                replace c0_4 : w21.cell? ⟨w.heap.size, 4, none⟩ = some (.int .i64 xf) := hx21.has (by first | exact c0_4 | (simp [go_sem, World.cell?_alloc_past, c0_0, c0_1, c0_2, c0_3, c0_4, c0_5, c0_6, c0_7, rc0, rc0a, rc0b, rc0c, rc0n]; done))
                replace c0_5 : w21.cell? ⟨w.heap.size, 5, none⟩ = some (.int .i64 xc) := hx21.has (by first | exact c0_5 | (simp [go_sem, World.cell?_alloc_past, c0_0, c0_1, c0_2, c0_3, c0_4, c0_5, c0_6, c0_7, rc0, rc0a, rc0b, rc0c, rc0n]; done))
                replace c0_6 : w21.cell? ⟨w.heap.size, 6, none⟩ = some (.int .u64 xi) := hx21.has (by first | exact c0_6 | (simp [go_sem, World.cell?_alloc_past, c0_0, c0_1, c0_2, c0_3, c0_4, c0_5, c0_6, c0_7, rc0, rc0a, rc0b, rc0c, rc0n]; done))
                replace c0_7 : w21.cell? ⟨w.heap.size, 7, none⟩ = some (.int .u64 xb) := hx21.has (by first | exact c0_7 | (simp [go_sem, World.cell?_alloc_past, c0_0, c0_1, c0_2, c0_3, c0_4, c0_5, c0_6, c0_7, rc0, rc0a, rc0b, rc0c, rc0n]; done))
                have z21 := hx21.size
                try simp at z21
                replace rc0 : w.heap.size < w21.heap.size := by omega
                replace rc0a : w.heap.size < w21.heap.size + 1 := by omega
                replace rc0b : w.heap.size < w21.heap.size + 1 + 1 := by omega
                replace rc0c : w.heap.size < w21.heap.size + 1 + 1 + 1 := by omega
                replace rc0n : ¬ w.heap.size = w21.heap.size := by omega
                replace HO7 := Lib.hid (HO7.out.ext (Ext.trans (by repeat (first | with_reducible exact Ext.refl _ | with_reducible refine Ext.drew ?_ | with_reducible refine Ext.drewN ?_ _ | with_reducible refine Ext.alloc ?_ _ | with_reducible refine Ext.setCell ?_ (by first | omega | (simp; done) | (simp; omega)) _)) hx21))
                have X21 : Hid (Ext w w21) := Lib.hid (Ext.trans (by repeat (first | with_reducible exact X7.out | with_reducible refine Ext.drew ?_ | with_reducible refine Ext.drewN ?_ _ | with_reducible refine Ext.alloc ?_ _ | with_reducible refine Ext.setCell ?_ (by first | omega | (simp; done) | (simp; omega)) _)) hx21)
                clear X7 hx21 z21
                by_cases q6 : most ≤ (lv : Int)
                · have d6 : decide (most ≤ (lv : Int)) = true := decide_eq_true q6
                  have Q6 := Lib.hid q6
                  clear q6
                  go_wp2_with fail
                  go_ret2
                  have q2 := Q2.out
                  have q3 := Q3.out
                  have q6 := Q6.out
                  have hv9 : v = 22 := (by rw [HV.out]; unfold addG; (repeat' split) <;> omega)
                  rw [show R = [] from by rw [HR.out, if_neg (by omega)], hv9]
                  exact RetEntV.nil (xs := [.int .i64 22]) (by repeat (first | with_reducible exact X21.out | with_reducible refine Ext.drew ?_ | with_reducible refine Ext.drewN ?_ _ | with_reducible refine Ext.alloc ?_ _ | with_reducible refine Ext.setCell ?_ (by first | omega | (simp; done) | (simp; omega)) _))
                · have d6 : decide (most ≤ (lv : Int)) = false := decide_eq_false q6
                  have Q6 := Lib.hid q6
                  clear q6
                  by_cases q7 : 32768 ≤ (n : Int)
                  · have d7 : decide (32768 ≤ (n : Int)) = true := decide_eq_true q7
                    have Q7 := Lib.hid q7
                    clear q7
                    go_wp2_with fail
                    go_ret2
                    have q2 := Q2.out
                    have q3 := Q3.out
                    have q6 := Q6.out
                    have q7 := Q7.out
                    have hv9 : v = 7 := (by rw [HV.out]; unfold addG; (repeat' split) <;> omega)
                    rw [show R = [] from by rw [HR.out, if_neg (by omega)], hv9]
                    exact RetEntV.nil (xs := [.int .i64 7]) (by repeat (first | with_reducible exact X21.out | with_reducible refine Ext.drew ?_ | with_reducible refine Ext.drewN ?_ _ | with_reducible refine Ext.alloc ?_ _ | with_reducible refine Ext.setCell ?_ (by first | omega | (simp; done) | (simp; omega)) _))
                  · have N7 : Hid (n + 1 ≤ 100000) := Lib.hid (by omega)
                    have d7 : decide (32768 ≤ (n : Int)) = false := decide_eq_false q7
                    have Q7 := Lib.hid q7
                    clear q7
                    by_cases q8 : 4611686018427387904 - s < xb
                    · go_wp2_with fail
                      clear d7
                      obtain ⟨S9, hS9⟩ : ∃ S : Int, S = if totB (l ++ [(xo, xv, xs, xp, xf, xc, xi, xb)]) ≤ 4611686018427387904 then totB (l ++ [(xo, xv, xs, xp, xf, xc, xi, xb)]) else 0 := ⟨_, rfl⟩
                      have HS9 := Lib.hid hS9
                      clear hS9
                      (with_reducible refine (rsum14_ev A7 (n + 1) c7 (l ++ [(xo, xv, xs, xp, xf, xc, xi, xb)]) S9 false _ (OwnEnt.sl (show OwnEnt _ _ _ (n + 1) _ from (HO7.out.ext (by repeat (first | with_reducible exact Ext.refl _ | with_reducible refine Ext.drew ?_ | with_reducible refine Ext.drewN ?_ _ | with_reducible refine Ext.alloc ?_ _ | with_reducible refine Ext.setCell ?_ (by first | omega | (simp; done) | (simp; omega)) _))))) N7.out HFX.out HS9.out (by rw [HTB.out]; exact (decide_eq_false (by omega)).symm)).mono ?_)
                      rintro e w22 ⟨rfl, hx22⟩
                      replace c0_0 : w22.cell? ⟨w.heap.size, 0, none⟩ = some (.int .i64 xo) := hx22.has (by first | exact c0_0 | (simp [go_sem, World.cell?_alloc_past, c0_0, c0_1, c0_2, c0_3, c0_4, c0_5, c0_6, c0_7, rc0, rc0a, rc0b, rc0c, rc0n]; done))
                      replace c0_1 : w22.cell? ⟨w.heap.size, 1, none⟩ = some (.int .i64 xv) := hx22.has (by first | exact c0_1 | (simp [go_sem, World.cell?_alloc_past, c0_0, c0_1, c0_2, c0_3, c0_4, c0_5, c0_6, c0_7, rc0, rc0a, rc0b, rc0c, rc0n]; done))
                      replace c0_2 : w22.cell? ⟨w.heap.size, 2, none⟩ = some (.int .i64 xs) := hx22.has (by first | exact c0_2 | (simp [go_sem, World.cell?_alloc_past, c0_0, c0_1, c0_2, c0_3, c0_4, c0_5, c0_6, c0_7, rc0, rc0a, rc0b, rc0c, rc0n]; done))
                      replace c0_3 : w22.cell? ⟨w.heap.size, 3, none⟩ = some (.int .i64 xp) := hx22.has (by first | exact c0_3 | (simp [go_sem, World.cell?_alloc_past, c0_0, c0_1, c0_2, c0_3, c0_4, c0_5, c0_6, c0_7, rc0, rc0a, rc0b, rc0c, rc0n]; done))
                      replace c0_4 : w22.cell? ⟨w.heap.size, 4, none⟩ = some (.int .i64 xf) := hx22.has (by first | exact c0_4 | (simp [go_sem, World.cell?_alloc_past, c0_0, c0_1, c0_2, c0_3, c0_4, c0_5, c0_6, c0_7, rc0, rc0a, rc0b, rc0c, rc0n]; done))
                      replace c0_5 : w22.cell? ⟨w.heap.size, 5, none⟩ = some (.int .i64 xc) := hx22.has (by first | exact c0_5 | (simp [go_sem, World.cell?_alloc_past, c0_0, c0_1, c0_2, c0_3, c0_4, c0_5, c0_6, c0_7, rc0, rc0a, rc0b, rc0c, rc0n]; done))
                      replace c0_6 : w22.cell? ⟨w.heap.size, 6, none⟩ = some (.int .u64 xi) := hx22.has (by first | exact c0_6 | (simp [go_sem, World.cell?_alloc_past, c0_0, c0_1, c0_2, c0_3, c0_4, c0_5, c0_6, c0_7, rc0, rc0a, rc0b, rc0c, rc0n]; done))
                      replace c0_7 : w22.cell? ⟨w.heap.size, 7, none⟩ = some (.int .u64 xb) := hx22.has (by first | exact c0_7 | (simp [go_sem, World.cell?_alloc_past, c0_0, c0_1, c0_2, c0_3, c0_4, c0_5, c0_6, c0_7, rc0, rc0a, rc0b, rc0c, rc0n]; done))
                      have z22 := hx22.size
                      try simp at z22
                      replace rc0 : w.heap.size < w22.heap.size := by omega
                      replace rc0a : w.heap.size < w22.heap.size + 1 := by omega
                      replace rc0b : w.heap.size < w22.heap.size + 1 + 1 := by omega
                      replace rc0c : w.heap.size < w22.heap.size + 1 + 1 + 1 := by omega
                      replace rc0n : ¬ w.heap.size = w22.heap.size := by omega
                      replace HO7 := Lib.hid (HO7.out.ext (Ext.trans (by repeat (first | with_reducible exact Ext.refl _ | with_reducible refine Ext.drew ?_ | with_reducible refine Ext.drewN ?_ _ | with_reducible refine Ext.alloc ?_ _ | with_reducible refine Ext.setCell ?_ (by first | omega | (simp; done) | (simp; omega)) _)) hx22))
                      have X22 : Hid (Ext w w22) := Lib.hid (Ext.trans (by repeat (first | with_reducible exact X21.out | with_reducible refine Ext.drew ?_ | with_reducible refine Ext.drewN ?_ _ | with_reducible refine Ext.alloc ?_ _ | with_reducible refine Ext.setCell ?_ (by first | omega | (simp; done) | (simp; omega)) _)) hx22)
                      clear X21 hx22 z22
                      go_wp2_with fail
                      go_ret2
                      have q2 := Q2.out
                      have q3 := Q3.out
                      have q6 := Q6.out
                      have q7 := Q7.out
                      have hv9 : v = 12 := (by rw [HV.out]; unfold addG; (repeat' split) <;> omega)
                      rw [show R = [] from by rw [HR.out, if_neg (by omega)], hv9]
                      exact RetEntV.nil (xs := [.int .i64 12]) (by repeat (first | with_reducible exact X22.out | with_reducible refine Ext.drew ?_ | with_reducible refine Ext.drewN ?_ _ | with_reducible refine Ext.alloc ?_ _ | with_reducible refine Ext.setCell ?_ (by first | omega | (simp; done) | (simp; omega)) _))
                    · go_wp2_with fail
                      clear d7
                      obtain ⟨S9, hS9⟩ : ∃ S : Int, S = if totB (l ++ [(xo, xv, xs, xp, xf, xc, xi, xb)]) ≤ 4611686018427387904 then totB (l ++ [(xo, xv, xs, xp, xf, xc, xi, xb)]) else 0 := ⟨_, rfl⟩
                      have HS9 := Lib.hid hS9
                      clear hS9
                      (with_reducible refine (rsum14_ev A7 (n + 1) c7 (l ++ [(xo, xv, xs, xp, xf, xc, xi, xb)]) S9 true _ (OwnEnt.sl (show OwnEnt _ _ _ (n + 1) _ from (HO7.out.ext (by repeat (first | with_reducible exact Ext.refl _ | with_reducible refine Ext.drew ?_ | with_reducible refine Ext.drewN ?_ _ | with_reducible refine Ext.alloc ?_ _ | with_reducible refine Ext.setCell ?_ (by first | omega | (simp; done) | (simp; omega)) _))))) N7.out HFX.out HS9.out (by rw [HTB.out]; exact (decide_eq_true (by omega)).symm)).mono ?_)
                      rintro e w22 ⟨rfl, hx22⟩
                      replace c0_0 : w22.cell? ⟨w.heap.size, 0, none⟩ = some (.int .i64 xo) := hx22.has (by first | exact c0_0 | (simp [go_sem, World.cell?_alloc_past, c0_0, c0_1, c0_2, c0_3, c0_4, c0_5, c0_6, c0_7, rc0, rc0a, rc0b, rc0c, rc0n]; done))
                      replace c0_1 : w22.cell? ⟨w.heap.size, 1, none⟩ = some (.int .i64 xv) := hx22.has (by first | exact c0_1 | (simp [go_sem, World.cell?_alloc_past, c0_0, c0_1, c0_2, c0_3, c0_4, c0_5, c0_6, c0_7, rc0, rc0a, rc0b, rc0c, rc0n]; done))
                      replace c0_2 : w22.cell? ⟨w.heap.size, 2, none⟩ = some (.int .i64 xs) := hx22.has (by first | exact c0_2 | (simp [go_sem, World.cell?_alloc_past, c0_0, c0_1, c0_2, c0_3, c0_4, c0_5, c0_6, c0_7, rc0, rc0a, rc0b, rc0c, rc0n]; done))
                      replace c0_3 : w22.cell? ⟨w.heap.size, 3, none⟩ = some (.int .i64 xp) := hx22.has (by first | exact c0_3 | (simp [go_sem, World.cell?_alloc_past, c0_0, c0_1, c0_2, c0_3, c0_4, c0_5, c0_6, c0_7, rc0, rc0a, rc0b, rc0c, rc0n]; done))
                      replace c0_4 : w22.cell? ⟨w.heap.size, 4, none⟩ = some (.int .i64 xf) := hx22.has (by first | exact c0_4 | (simp [go_sem, World.cell?_alloc_past, c0_0, c0_1, c0_2, c0_3, c0_4, c0_5, c0_6, c0_7, rc0, rc0a, rc0b, rc0c, rc0n]; done))
                      replace c0_5 : w22.cell? ⟨w.heap.size, 5, none⟩ = some (.int .i64 xc) := hx22.has (by first | exact c0_5 | (simp [go_sem, World.cell?_alloc_past, c0_0, c0_1, c0_2, c0_3, c0_4, c0_5, c0_6, c0_7, rc0, rc0a, rc0b, rc0c, rc0n]; done))
                      replace c0_6 : w22.cell? ⟨w.heap.size, 6, none⟩ = some (.int .u64 xi) := hx22.has (by first | exact c0_6 | (simp [go_sem, World.cell?_alloc_past, c0_0, c0_1, c0_2, c0_3, c0_4, c0_5, c0_6, c0_7, rc0, rc0a, rc0b, rc0c, rc0n]; done))
                      replace c0_7 : w22.cell? ⟨w.heap.size, 7, none⟩ = some (.int .u64 xb) := hx22.has (by first | exact c0_7 | (simp [go_sem, World.cell?_alloc_past, c0_0, c0_1, c0_2, c0_3, c0_4, c0_5, c0_6, c0_7, rc0, rc0a, rc0b, rc0c, rc0n]; done))
                      have z22 := hx22.size
                      try simp at z22
                      replace rc0 : w.heap.size < w22.heap.size := by omega
                      replace rc0a : w.heap.size < w22.heap.size + 1 := by omega
                      replace rc0b : w.heap.size < w22.heap.size + 1 + 1 := by omega
                      replace rc0c : w.heap.size < w22.heap.size + 1 + 1 + 1 := by omega
                      replace rc0n : ¬ w.heap.size = w22.heap.size := by omega
                      replace HO7 := Lib.hid (HO7.out.ext (Ext.trans (by repeat (first | with_reducible exact Ext.refl _ | with_reducible refine Ext.drew ?_ | with_reducible refine Ext.drewN ?_ _ | with_reducible refine Ext.alloc ?_ _ | with_reducible refine Ext.setCell ?_ (by first | omega | (simp; done) | (simp; omega)) _)) hx22))
                      have X22 : Hid (Ext w w22) := Lib.hid (Ext.trans (by repeat (first | with_reducible exact X21.out | with_reducible refine Ext.drew ?_ | with_reducible refine Ext.drewN ?_ _ | with_reducible refine Ext.alloc ?_ _ | with_reducible refine Ext.setCell ?_ (by first | omega | (simp; done) | (simp; omega)) _)) hx22)
                      clear X21 hx22 z22
                      go_wp2_with fail
                      go_ret2
                      have q2 := Q2.out
                      have q3 := Q3.out
                      have q6 := Q6.out
                      have q7 := Q7.out
                      have hv9 : v = 0 := (by rw [HV.out]; unfold addG; (repeat' split) <;> omega)
                      rw [show R = l ++ [(xo, xv, xs, xp, xf, xc, xi, xb)] from by rw [HR.out, if_pos hv9], hv9]
                      exact RetEntV.mk (xs := [.int .i64 0]) (OwnEnt.lower (show OwnEnt _ _ _ (n + 1) _ from (HO7.out.ext (by repeat (first | with_reducible exact Ext.refl _ | with_reducible refine Ext.drew ?_ | with_reducible refine Ext.drewN ?_ _ | with_reducible refine Ext.alloc ?_ _ | with_reducible refine Ext.setCell ?_ (by first | omega | (simp; done) | (simp; omega)) _)))) hlw) (by repeat (first | with_reducible exact X22.out | with_reducible refine Ext.drew ?_ | with_reducible refine Ext.drewN ?_ _ | with_reducible refine Ext.alloc ?_ _ | with_reducible refine Ext.setCell ?_ (by first | omega | (simp; done) | (simp; omega)) _)) (by simp [HLL.out])
end Go.Proofs.Ytnbeejgppooamaa
