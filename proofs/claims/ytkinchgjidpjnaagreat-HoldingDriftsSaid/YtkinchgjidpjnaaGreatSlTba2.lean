/- Tba, part 2 of 5: Hd7, Hd8, Hd9, RowW, RowDel, RowIns, Hd4, Hd10, Hd11, Hd12, Hd13, Hd14, ListWord, Hd15, Hd16. Conditions stand in each lemma. -/
import Derived.Test.YtkinchgjidpjnaaGreatSlTba1
set_option linter.unusedVariables false
set_option linter.unusedSimpArgs false
set_option maxRecDepth 100000
set_option maxHeartbeats 64000000
namespace Go.Proofs.YtkinchgjidpjnaaGreat
section
open Go.RowKit Go.ChangeShapes Go.WideShapes Go.Deep Go.Joins
theorem zSlTba2_0 {P : Prop} (h : P := by repeat (first | with_reducible exact Ext.refl _ | with_reducible refine Ext.drew ?_ | with_reducible refine Ext.alloc ?_ _)) : P := h
theorem zSlTba2_1 {P : Prop} (h : P := by repeat (first | with_reducible exact Ext.refl _ | with_reducible refine Ext.alloc ?_ _)) : P := h
theorem zSlTba2_2 {P : Prop} (h : P := by first | exact q_1 | (simp [go_sem, World.cell?_alloc_past, q_1, hqn, hq]; done)) : P := h
theorem zSlTba2_3 {P : Prop} (h : P := by first | exact ⟨s_0, s_1, s_2, s_3, p_0, p_1⟩ | (simp [go_sem, World.cell?_alloc_past, s_0, s_1, s_2, s_3, p_0, p_1, n_1, n_2]; done)) : P := h
theorem hbclass1_any (p : Nat) (xv xs xp xf xt xh V S P Q : Int) (w : World) (p_0 : w.cell? ⟨p, 0, none⟩ = some (.int .i64 V)) (p_1 : w.cell? ⟨p, 1, none⟩ = some (.int .i64 S)) (p_2 : w.cell? ⟨p, 2, none⟩ = some (.int .i64 P)) (p_3 : w.cell? ⟨p, 3, none⟩ = some (.int .i64 Q)) :
  Calls Tryz.prog 183 #[.agg #[.int .i64 xv, .int .i64 xs, .int .i64 xp, .int .i64 xf, .int .u64 xt, .int .u64 xh], .pointer (some ⟨p, 0, none⟩)] w fun r w' => r = .returned (.int .i64 (cmpK [xv, xs, xp, xf] [V, S, P, Q])) ∧ Ext w w' := by
 have hp := cell_lt p_0
 have hpn : ¬ p = w.heap.size := by omega
 obtain ⟨C, hC⟩ : ∃ C, C = cmpK [xv, xs, xp, xf] [V, S, P, Q] := ⟨_, rfl⟩
 rw [← hC]
 have HC := Lib.hid (show C = cmpL [(xv, V), (xs, S), (xp, P), (xf, Q)] from hC)
 clear hC
 go_enter Tryz.func183, Tryz.ntmps183
 go_wp2_with fail
 (with_reducible refine (tCompare_at xv xs xp xf V S P Q C _ HC.out).mono ?_)
 rintro e w1 ⟨rfl, hx1⟩
 have z1 := hx1.size
 try simp at z1
 have X1 : Hid (Ext w w1) := Lib.hid (Ext.trans zxt hx1)
 clear p_3 p_0 p_1 p_2 hx1 z1
 go_wp2_with fail
 go_ret
 exact ⟨rfl, zxt⟩
theorem hbposition1_any (p q : Nat) (xo xv xs xp xf xn O V S P Q : Int) (w : World) (q_0 : w.cell? ⟨q, 0, none⟩ = some (.int .i64 O)) (p_0 : w.cell? ⟨p, 0, none⟩ = some (.int .i64 V)) (p_1 : w.cell? ⟨p, 1, none⟩ = some (.int .i64 S)) (p_2 : w.cell? ⟨p, 2, none⟩ = some (.int .i64 P)) (p_3 : w.cell? ⟨p, 3, none⟩ = some (.int .i64 Q)) :
  Calls Tryz.prog 187 #[.agg #[.int .i64 xo, .int .i64 xv, .int .i64 xs, .int .i64 xp, .int .i64 xf, .int .u64 xn], .pointer (some ⟨q, 0, none⟩), .pointer (some ⟨p, 0, none⟩)] w fun r w' => r = .returned (.int .i64 (cmpK [xo, xv, xs, xp, xf] [O, V, S, P, Q])) ∧ Ext w w' := by
 have hp := cell_lt p_0
 have hpn : ¬ p = w.heap.size := by omega
 have hq := cell_lt q_0
 have hqn : ¬ q = w.heap.size := by omega
 obtain ⟨C, hC⟩ : ∃ C, C = cmpK [xo, xv, xs, xp, xf] [O, V, S, P, Q] := ⟨_, rfl⟩
 rw [← hC]
 have HC := Lib.hid hC
 clear hC
 go_enter Tryz.func187, Tryz.ntmps187
 go_wp2_with fail
 (with_reducible refine (horder_at xo xv xs xp xf xn O V S P Q 0 C _ HC.out).mono ?_)
 rintro e w1 ⟨rfl, hx1⟩
 have z1 := hx1.size
 try simp at z1
 have X1 : Hid (Ext w w1) := Lib.hid (Ext.trans zxt hx1)
 clear p_3 p_0 p_1 p_2 q_0 hx1 z1
 go_wp2_with fail
 go_ret
 exact ⟨rfl, zxt⟩
theorem hbclass1_call (p : Nat) (x : I6) (V S P Q : Int) (w : World) (p_0 : w.cell? ⟨p, 0, none⟩ = some (.int .i64 V)) (p_1 : w.cell? ⟨p, 1, none⟩ = some (.int .i64 S)) (p_2 : w.cell? ⟨p, 2, none⟩ = some (.int .i64 P)) (p_3 : w.cell? ⟨p, 3, none⟩ = some (.int .i64 Q)) :
  Calls Tryz.prog 183 (#[] ++ #[.agg #[.int .i64 x.1, .int .i64 x.2.1, .int .i64 x.2.2.1, .int .i64 x.2.2.2.1, .int .u64 x.2.2.2.2.1, .int .u64 x.2.2.2.2.2]] ++ #[.pointer (some ⟨p, 0, none⟩)]) w fun r w' => r = .returned (.int .i64 (cmpK (kC x) [V, S, P, Q])) ∧ Ext w w' :=
 hbclass1_any p x.1 x.2.1 x.2.2.1 x.2.2.2.1 x.2.2.2.2.1 x.2.2.2.2.2 V S P Q w p_0 p_1 p_2 p_3
theorem hbposition1_call (p q : Nat) (x : I6) (O V S P Q : Int) (w : World) (q_0 : w.cell? ⟨q, 0, none⟩ = some (.int .i64 O)) (p_0 : w.cell? ⟨p, 0, none⟩ = some (.int .i64 V)) (p_1 : w.cell? ⟨p, 1, none⟩ = some (.int .i64 S)) (p_2 : w.cell? ⟨p, 2, none⟩ = some (.int .i64 P)) (p_3 : w.cell? ⟨p, 3, none⟩ = some (.int .i64 Q)) :
  Calls Tryz.prog 187 (#[] ++ #[.agg #[.int .i64 x.1, .int .i64 x.2.1, .int .i64 x.2.2.1, .int .i64 x.2.2.2.1, .int .i64 x.2.2.2.2.1, .int .u64 x.2.2.2.2.2]] ++ #[.pointer (some ⟨q, 0, none⟩), .pointer (some ⟨p, 0, none⟩)]) w fun r w' => r = .returned (.int .i64 (cmpK (kP x) [O, V, S, P, Q])) ∧ Ext w w' :=
 hbposition1_any p q x.1 x.2.1 x.2.2.1 x.2.2.2.1 x.2.2.2.2.1 x.2.2.2.2.2 O V S P Q w q_0 p_0 p_1 p_2 p_3
theorem hbclass_any (q : Nat) (A : Option Addr) (n c : Nat) (l : List I6) (V S P Q : Int) (w : World) (h : Sl w 6 A n c (l.flatMap clsC)) (hn : n < 1099511627776) (q_0 : w.cell? ⟨q, 0, none⟩ = some (.slice A n c)) :
  Calls Tryz.prog 141 #[.pointer (some ⟨q, 0, none⟩), .agg #[.int .i64 V, .int .i64 S, .int .i64 P, .int .i64 Q]] w fun r w' => ∃ (m : Nat) (b : Bool), r = .returned (.tuple #[.int .i64 m, .bool b]) ∧ Found l (fun x => cmpK (kC x) [V, S, P, Q]) m b ∧ Ext w w' := by
 have eg : ∀ args w, (callFunc 183 args).run Tryz.prog w = .ok (.enter 183 args) w := enters_of Tryz.func183 (by kernel_rfl) rfl
 have hq := cell_lt q_0
 have hqn : ¬ q = w.heap.size := by omega
 have hqm : ¬ q = w.heap.size + 1 := by omega
 have HS := Lib.hid h
 clear h
 go_enter Tryz.func141, Tryz.ntmps141
 go_wp2_with fail
 (with_reducible refine (cSearch_at 183 #[] #[.pointer (some ⟨w.heap.size, 0, none⟩)] A n c l (fun x => cmpK (kC x) [V, S, P, Q]) _ eg (HS.out.ext zxt) hn (fun wx x hx hX => hbclass1_call w.heap.size x V S P Q wx (hX.has (by simp [go_sem])) (hX.has (by simp [go_sem])) (hX.has (by simp [go_sem])) (hX.has (by simp [go_sem])))).mono ?_)
 rintro e w1 ⟨m, b, rfl, hfo, hx1⟩
 have z1 := hx1.size
 try simp at z1
 replace HS := Lib.hid (HS.out.ext (Ext.trans zxt hx1))
 have X1 : Hid (Ext w w1) := Lib.hid (Ext.trans zxt hx1)
 clear q_0 hx1 z1
 have HFo := Lib.hid hfo
 clear hfo
 go_wp2_with fail
 refine bodyPost_ret (v := .tuple #[.int .i64 m, .bool b]) (by simp [results, Tryz.results141, go_sem, World.cell?_alloc_past, hqn, hqm, hq]; try rfl) rfl ⟨m, b, rfl, HFo.out, ?_⟩
 exact zxt
theorem hbposition_any (q : Nat) (A : Option Addr) (n c : Nat) (l : List I6) (O V S P Q : Int) (w : World) (h : Sl w 6 A n c (l.flatMap posC)) (hn : n < 1099511627776) (q_1 : w.cell? ⟨q, 1, none⟩ = some (.slice A n c)) :
  Calls Tryz.prog 145 #[.pointer (some ⟨q, 0, none⟩), .int .i64 O, .agg #[.int .i64 V, .int .i64 S, .int .i64 P, .int .i64 Q]] w fun r w' => ∃ (m : Nat) (b : Bool), r = .returned (.tuple #[.int .i64 m, .bool b]) ∧ Found l (fun x => cmpK (kP x) [O, V, S, P, Q]) m b ∧ Ext w w' := by
 have eg : ∀ args w, (callFunc 187 args).run Tryz.prog w = .ok (.enter 187 args) w := enters_of Tryz.func187 (by kernel_rfl) rfl
 have hq := cell_lt q_1
 have hqn : ¬ q = w.heap.size := by omega
 have hqm : ¬ q = w.heap.size + 1 := by omega
 have HS := Lib.hid h
 clear h
 go_enter Tryz.func145, Tryz.ntmps145
 go_wp2_with fail
 (with_reducible refine (pSearch_at 187 #[] #[.pointer (some ⟨w.heap.size, 0, none⟩), .pointer (some ⟨w.heap.size + 1, 0, none⟩)] A n c l (fun x => cmpK (kP x) [O, V, S, P, Q]) _ eg (HS.out.ext zxt) hn (fun wx x hx hX => hbposition1_call (w.heap.size + 1) w.heap.size x O V S P Q wx (hX.has (by simp [go_sem])) (hX.has (by simp [go_sem])) (hX.has (by simp [go_sem])) (hX.has (by simp [go_sem])) (hX.has (by simp [go_sem])))).mono ?_)
 rintro e w1 ⟨m, b, rfl, hfo, hx1⟩
 have z1 := hx1.size
 try simp at z1
 replace HS := Lib.hid (HS.out.ext (Ext.trans zxt hx1))
 have X1 : Hid (Ext w w1) := Lib.hid (Ext.trans zxt hx1)
 clear q_1 hx1 z1
 have HFo := Lib.hid hfo
 clear hfo
 go_wp2_with fail
 refine bodyPost_ret (v := .tuple #[.int .i64 m, .bool b]) (by simp [results, Tryz.results145, go_sem, World.cell?_alloc_past, hqn, hqm, hq]; try rfl) rfl ⟨m, b, rfl, HFo.out, ?_⟩
 exact zxt
end
section
open Go.RowKit
theorem Found.in_ {α : Type} {l : List α} {f : α → Int} {m : Nat} {b : Bool} (h : Found l f m b) (hb : b = true) : m < l.length := by
 obtain ⟨x, hx, _⟩ := h.2.1.1 hb
 exact (List.getElem?_eq_some_iff.1 hx).1
theorem Found.sorted {α : Type} {key : α → List Int} {d : Nat} {l : List α} {q : List Int} {m : Nat} {b : Bool} (h : Found l (fun x => cmpK (key x) q) m b) (hd : ∀ x, (key x).length = d) (hq : q.length = d) (hs : SortK key l) : m = plcK key l q ∧ b = (getK key l q).isSome := by
 have hm : m = plcK key l q := h.2.2 _ (plcK_le key l q) (fun k x hk => plcK_lt hd hq hs k x hk)
 refine ⟨hm, ?_⟩
 subst hm
 cases hg : getK key l q with
 | none =>
  cases hb : b with
  | false => rfl
  | true =>
   obtain ⟨x, hx, h0⟩ := h.2.1.1 hb
   have := (getK_plc hd hq hs x).2 ⟨hx, cmpK_zero (by rw [hd, hq]) h0⟩
   rw [hg] at this
   cases this
 | some x =>
  obtain ⟨hx, hk⟩ := (getK_plc hd hq hs x).1 hg
  exact h.2.1.2 ⟨x, hx, by show cmpK (key x) q = 0; rw [hk]; exact cmpK_self q⟩
theorem setK_some {α : Type} {key : α → List Int} {l : List α} {q : List Int} {o : Option α} (h : (getK key l q).isSome = true) : setK key l q o = l.take (plcK key l q) ++ (o.toList ++ l.drop (plcK key l q + 1)) := by
 unfold setK
 rw [if_pos h]
theorem setK_none {α : Type} {key : α → List Int} {l : List α} {q : List Int} {o : Option α} (h : ¬ (getK key l q).isSome = true) : setK key l q o = l.take (plcK key l q) ++ (o.toList ++ l.drop (plcK key l q)) := by
 unfold setK
 rw [if_neg h, Nat.add_zero]
end
section
open Go.RowKit Go.ChangeShapes Go.WideShapes Go.Deep Go.Joins
theorem has_of {l : List I6} {q : List Int} {m : Nat} {b : Bool} {H : Int} (hfo : Found l (fun x => cmpK (kP x) q) m b) (hq : q.length = 5) (hs : SortK kP l) (hH : H = hasV l q) : (b = true → ∃ x, l[m]? = some x ∧ H = shP x) ∧ (b = false → H = 0) := by
 obtain ⟨h1, h2⟩ := hfo.sorted kP_len hq hs
 unfold hasV optF at hH
 constructor
 ·intro hb
  rw [hb] at h2
  obtain ⟨x, hx⟩ := Option.isSome_iff_exists.1 h2.symm
  refine ⟨x, by rw [h1]; exact ((getK_plc kP_len hq hs x).1 hx).1, ?_⟩
  rw [hH, hx]
 ·intro hb
  rw [hb] at h2
  have : getK kP l q = none := by
   cases hg : getK kP l q with
   | none => rfl
   | some x => rw [hg] at h2; cases h2
  rw [hH, this]
theorem hbhas_any (q : Nat) (A : Option Addr) (n c : Nat) (l : List I6) (O V S P Q H : Int) (w : World) (h : Sl w 6 A n c (l.flatMap posC)) (hn : n < 1099511627776) (q_1 : w.cell? ⟨q, 1, none⟩ = some (.slice A n c)) (hs : SortK kP l) (hH : H = hasV l [O, V, S, P, Q]) :
  Calls Tryz.prog 78 #[.pointer (some ⟨q, 0, none⟩), .int .i64 O, .agg #[.int .i64 V, .int .i64 S, .int .i64 P, .int .i64 Q]] w fun r w' => r = .returned (.int .u64 H) ∧ Ext w w' := by
 have hll := h.rlen posC_len (by decide)
 have hq := cell_lt q_1
 have hqn : ¬ q = w.heap.size := by omega
 have HS := Lib.hid h
 have HH := Lib.hid (And.intro hs hH)
 clear h hs hH
 go_enter Tryz.func78, Tryz.ntmps78
 go_wp2_with fail
 (with_reducible refine (hbposition_any q A n c l O V S P Q _ (HS.out.ext zxt) hn zSlTba2_2).mono ?_)
 rintro e w1 ⟨m, b, rfl, hfo, hx1⟩
 replace q_1 := zh hx1 q_1
 have z1 := hx1.size
 try simp at z1
 have rq := zr q w1
 replace HS := Lib.hid (HS.out.ext (Ext.trans zxt hx1))
 have X1 : Hid (Ext w w1) := Lib.hid (Ext.trans zxt hx1)
 clear hx1 z1
 have HO := Lib.hid (has_of hfo rfl HH.out.1 HH.out.2)
 clear hfo
 rcases (show b = true ∨ b = false from by cases b <;> simp) with rfl | rfl
 ·have HSr := Lib.hid (show Sl _ 6 A n c (l.flatMap posC) from (HS.out.ext zxt))
  obtain ⟨xw, hl_x, hHx⟩ := HO.out.1 rfl
  have hml : m < l.length := (List.getElem?_eq_some_iff.1 hl_x).1
  obtain ⟨b1, o1, rfl, hb1, hc_x⟩ := HSr.out.rec_ posC_len (show 0 < n from by omega)
  have x_0 := hc_x m xw hl_x 0 _ rfl
  have x_1 := hc_x m xw hl_x 1 _ rfl
  have x_2 := hc_x m xw hl_x 2 _ rfl
  have x_3 := hc_x m xw hl_x 3 _ rfl
  have x_4 := hc_x m xw hl_x 4 _ rfl
  have x_5 := hc_x m xw hl_x 5 _ rfl
  obtain ⟨xo, xv, xs, xp, xf, xn⟩ := xw
  simp only at x_0 x_1 x_2 x_3 x_4 x_5
  rw [Nat.add_zero] at x_0
  rw [← Nat.add_assoc] at x_1 x_2 x_3 x_4 x_5
  replace hHx : H = xn := hHx
  subst hHx
  clear hc_x HSr
  go_wp2_with fail
  go_ret
  exact ⟨rfl, zxt⟩
 ·obtain rfl := HO.out.2 rfl
  go_wp2_with fail
  go_ret
  exact ⟨rfl, zxt⟩
end
section
open Go.RowKit
theorem run_copy_wide {P : Program} (w : World) (dT sT ty elem : TypeId) (i : TypeInfo) (size : Nat) (g o dLen dCap : Nat) (a : Addr) (sLen sCap k : Nat) (cur : Array Value) (t : TypeId) (cs : List Value)
  (hu : P.underlying dT = some (.slice elem)) (hi : P.info? elem = some i) (hs : i.size = size) (hk : Nat.min sLen dLen = k)
  (hg : w.heap[g]? = some (.cells cur t (0, 0))) (hn : cs.length = k * size)
  (hsrc : ∀ j v, cs[j]? = some v → w.cell? (a.add j) = some v) (hfit : o + cs.length ≤ cur.size) (h1 : ∀ v ∈ cs, v.oneCell' = true) :
  (Builtin.copy_ #[dT, sT] ty #[.slice (some ⟨g, o, none⟩) dLen dCap, .slice (some a) sLen sCap]).run P w =
   .ok (goInt k) (w.setRow g (cur.toList.take o ++ cs ++ cur.toList.drop (o + cs.length)).toArray) := by
 have hl := run_loadCells_list (P := P) w a cs hsrc
 have hst := run_storeCells_at P g o t cs 0 cur w hg (by simpa using hfit) h1
 subst hs
 simp [Builtin.copy_, run_underlying hu, Builtin.lenOf, Builtin.firstCells, sizeOf, typeInfo, hi, hk, ← hn, hl, hst]
theorem run_clear_wide {P : Program} (w : World) (t e : TypeId) (z : Value) (size : Nat) (ht : P.underlying t = some (.slice e)) (hv : ∀ w, (zeroValue e).run P w = .ok z w) (hz : z.cells.size = size) (hz1 : ∀ u ∈ z.cells.toList, u.oneCell' = true) (h0 : 0 < size) (g o n c : Nat) (cur : Array Value) (ty' : TypeId)
  (hg : w.heap[g]? = some (.cells cur ty' (0, 0))) (hfit : o + n * size ≤ cur.size) :
  ∃ vs : List Value, vs.length = n * size ∧ ∀ ty, (Builtin.clear_ #[t] ty #[.slice (some ⟨g, o, none⟩) n c]).run P w = .ok (.tuple #[]) (w.setRow g (cur.toList.take o ++ vs ++ cur.toList.drop (o + n * size)).toArray) := by
 have hlen : (Builtin.zeroCells z.cells n).toList.length = n * size := by simp [Builtin.zeroCells, hz]
 have hone : ∀ v ∈ (Builtin.zeroCells z.cells n).toList, v.oneCell' = true := by
  intro v hv'
  simp only [Builtin.zeroCells, Array.toList_map, List.mem_map] at hv'
  obtain ⟨i, _, rfl⟩ := hv'
  have hlt : i % z.cells.size < z.cells.size := Nat.mod_lt _ (by omega)
  rw [getElem!_pos z.cells (i % z.cells.size) hlt]
  exact hz1 _ (by simp)
 refine ⟨(Builtin.zeroCells z.cells n).toList, hlen, fun ty => ?_⟩
 cases n with
 | zero =>
  have e : (Builtin.zeroCells z.cells 0).toList = [] := List.eq_nil_of_length_eq_zero (by rw [hlen]; simp)
  rw [e]
  simp only [Nat.zero_mul, Nat.add_zero, List.append_nil, List.take_append_drop, Array.toArray_toList]
  rw [setRow_self w g cur ty' (0, 0) hg]
  simp [Builtin.clear_, run_underlying ht]
 | succ m =>
  have hst := run_storeCells_at P g o ty' (Builtin.zeroCells z.cells (m + 1)).toList 0 cur w hg (by rw [hlen]; omega) hone
  rw [hlen] at hst
  simp only [Nat.add_zero] at hst
  simp [Builtin.clear_, run_underlying ht, hv, hst]
end
section
open Go.RowKit
theorem oper_appendX {P : Program} {o : Oper} {a : Act} {w w' : World} {K : Act → World → Prop} {Q : Exit → Act → World → Prop} (s x : Operand) (t t2 : TypeId) (ho : o.op = .call { callee := .builtin .append, args := #[s, x], argTypes := #[t, t2] }) {vs vx v' : Value} (hs : a.eval s = vs) (hx : a.eval x = vx)
  (hr : (Builtin.append_ #[t, t2] o.type #[vs, vx]).run P w = .ok v' w') (hK : K (a.put o.dst v') w') : Oper.wp P o a w K Q := by
 unfold Oper.wp execOp
 simp only [ho, resolve, invoke, builtin, Sem.run_bind, Sem.run_pure, Result.andThen_ok, List.map_toArray, List.map_cons, List.map_nil, hs, hx, hr]
 exact hK
theorem oper_copyX {P : Program} {o : Oper} {a : Act} {w w' : World} {K : Act → World → Prop} {Q : Exit → Act → World → Prop} (s x : Operand) (t t2 : TypeId) (ho : o.op = .call { callee := .builtin .copy, args := #[s, x], argTypes := #[t, t2] }) {vs vx v' : Value} (hs : a.eval s = vs) (hx : a.eval x = vx)
  (hr : (Builtin.copy_ #[t, t2] o.type #[vs, vx]).run P w = .ok v' w') (hK : K (a.put o.dst v') w') : Oper.wp P o a w K Q := by
 unfold Oper.wp execOp
 simp only [ho, resolve, invoke, builtin, Sem.run_bind, Sem.run_pure, Result.andThen_ok, List.map_toArray, List.map_cons, List.map_nil, hs, hx, hr]
 exact hK
theorem But.setRow (w : World) (g : Nat) (row : Array Value) : But (· = g) w (w.setRow g row) := by
 refine ⟨rfl, rfl, rfl, by simp [World.setRow], fun k hk hn => ?_⟩
 have hne : ¬ g = k := fun e => hn e.symm
 simp [World.setRow, Array.getElem?_modify, hne]
theorem own_row {w : World} {base g n c sz : Nat} {e : TypeId} {xs : List Value} (h : w.ownsRow base e sz (.slice (some ⟨g, 0, none⟩) n c) n xs) : ∃ cur, base ≤ g ∧ w.heap[g]? = some (.cells cur e (0, 0)) ∧ n ≤ c ∧ c ≤ maxLen ∧ cur.size = c * sz ∧ cur.toList.take (n * sz) = xs := by
 rcases h.2 with ⟨h', _⟩ | ⟨g', cap, cur, h', hb, hg, h1, h2, h3, h4⟩
 ·cases h'
 ·injection h' with q1 q2 q3
  injection q1 with q1
  injection q1 with q1 _ _
  subst q1; subst q3
  exact ⟨cur, hb, hg, h1, h2, h3, h4⟩
theorem own_setRow {w : World} {base g n c sz : Nat} {e : TypeId} {cur : Array Value} {ls : List Value} (hg : w.heap[g]? = some (.cells cur e (0, 0))) (hb : base ≤ g) (hn : n ≤ c) (hc : c ≤ maxLen) (hl : ls.length = c * sz) :
  (w.setRow g ls.toArray).ownsRow base e sz (.slice (some ⟨g, 0, none⟩) n c) n (ls.take (n * sz)) := by
 refine ⟨by rw [List.length_take, hl]; exact Nat.min_eq_left (Nat.mul_le_mul_right _ hn), .inr ⟨g, c, ls.toArray, rfl, hb, setRow_heap w g cur _ e _ hg, hn, hc, by simpa using hl, by simp⟩⟩
theorem del_append {P : Program} (w : World) (t e : TypeId) (i : TypeInfo) (ht : P.underlying t = some (.slice e)) (hi : P.info? e = some i) (base g n c j J N sz c2 : Nat) (hJ : J = j + 1) (hN : n = N + 1) (hs : i.size = sz) (xs : List Value) (h1 : ∀ u ∈ xs, u.oneCell' = true)
  (h : w.ownsRow base e sz (.slice (some ⟨g, 0, none⟩) n c) n xs) (hj : j < n) (A2 : Option Addr) (hA : A2 = if c = J then some ⟨g, 0, none⟩ else some ⟨g, J * sz, none⟩) :
  ∃ w1 ys, (∀ ty, (Builtin.append_ #[t, t] ty #[.slice (some ⟨g, 0, none⟩) j c, .slice A2 (n - J) c2]).run P w = .ok (.slice (some ⟨g, 0, none⟩) N c) w1) ∧
   w1.ownsRow base e sz (.slice (some ⟨g, 0, none⟩) n c) n ys ∧ ys.take (N * sz) = xs.take (j * sz) ++ xs.drop ((j + 1) * sz) ∧ But (· = g) w w1 := by
 subst hJ
 obtain rfl : N = n - 1 := by omega
 obtain ⟨cur, hb, hg, hnc, hcm, hcs, htk⟩ := own_row h
 have hxl : xs.length = n * sz := h.1
 have hj1 : j * sz ≤ n * sz := Nat.mul_le_mul_right _ (by omega)
 have hj2 : (j + 1) * sz ≤ n * sz := Nat.mul_le_mul_right _ (by omega)
 have hnc2 : n * sz ≤ c * sz := Nat.mul_le_mul_right _ hnc
 have hm : (n - (j + 1)) * sz = n * sz - (j + 1) * sz := Nat.sub_mul _ _ _
 have hnl : (xs.drop ((j + 1) * sz)).length = (n - (j + 1)) * i.size := by rw [List.length_drop, hxl, hs, hm]
 have hjs : (j + 1) * sz = j * sz + sz := Nat.succ_mul _ _
 obtain ⟨ad, rfl⟩ : ∃ ad, A2 = some ad := by rw [hA]; split <;> exact ⟨_, rfl⟩
 have hcell : ∀ (q : Nat) u, (xs.drop ((j + 1) * sz))[q]? = some u → w.cell? (ad.add q) = some u := by
  intro q u hu
  rw [List.getElem?_drop] at hu
  have hlt := (List.getElem?_eq_some_iff.1 hu).1
  rw [if_neg (by intro e2; rw [e2] at hnc2; omega)] at hA
  obtain rfl := Option.some.inj hA
  rw [addr_add]
  have := World.ownsRow.cells (g := g) h rfl _ _ hu
  rwa [addr_add, Nat.zero_add] at this
 have hr := fun ty => run_append_room (P := P) w t ty e i ht hi g j c cur hg ad (n - (j + 1)) c2 (xs.drop ((j + 1) * sz)) hnl hcell (fun u hu => h1 u (List.mem_of_mem_drop hu)) (by omega) (by rw [hnl, hs, hcs, hm]; omega)
 simp only [hs] at hr
 have hx1 : xs.take (j * sz) = cur.toList.take (j * sz) := by rw [← htk, List.take_take, Nat.min_eq_left hj1]
 have hcl : cur.toList.length = c * sz := by simpa using hcs
 have hln : (xs.drop ((j + 1) * sz)).length = n * sz - (j + 1) * sz := by rw [List.length_drop, hxl]
 have hll : (cur.toList.take (j * sz) ++ xs.drop ((j + 1) * sz) ++ cur.toList.drop (j * sz + (xs.drop ((j + 1) * sz)).length)).length = c * sz := by
  simp only [List.length_append, List.length_take, List.length_drop, hcl, hxl]
  omega
 have hn1 : (n - 1) * sz = n * sz - sz := by rw [Nat.sub_mul, Nat.one_mul]
 refine ⟨_, _, fun ty => by rw [hr ty, show j + (n - (j + 1)) = n - 1 from by omega], own_setRow hg hb hnc hcm hll, ?_, But.setRow _ _ _⟩
 rw [List.take_take, hx1, Nat.min_eq_left (Nat.mul_le_mul_right _ (by omega)), List.append_assoc]
 rw [show (n - 1) * sz = (cur.toList.take (j * sz) ++ xs.drop ((j + 1) * sz)).length from by rw [List.length_append, List.length_take, hcl, hln]; omega, ← List.append_assoc, List.take_left']
 rfl
theorem del_clear {P : Program} (w : World) (t e : TypeId) (i : TypeInfo) (z : Value) (ht : P.underlying t = some (.slice e)) (hi : P.info? e = some i) (hz : i.zero = some z) (base g n c N m sz c2 : Nat) (hN : n = N + 1) (hm : m = 1) (hz0 : z.cells.size = sz) (hz1 : ∀ u ∈ z.cells.toList, u.oneCell' = true) (h0 : 0 < sz) (ys : List Value)
  (h : w.ownsRow base e sz (.slice (some ⟨g, 0, none⟩) n c) n ys) :
  ∃ w2, (∀ ty, (Builtin.clear_ #[t] ty #[.slice (some ⟨g, N * sz, none⟩) m c2]).run P w = .ok (.tuple #[]) w2) ∧ w2.ownsRow base e sz (.slice (some ⟨g, 0, none⟩) N c) N (ys.take (N * sz)) ∧ But (· = g) w w2 := by
 obtain ⟨cur, hb, hg, hnc, hcm, hcs, htk⟩ := own_row h
 subst hm
 obtain rfl : N = n - 1 := by omega
 have hn : 0 < n := by omega
 have hv : ∀ w, (zeroValue e).run P w = .ok z w := fun w => by simp [zeroValue, typeInfo, hi, hz]
 have hn1 : (n - 1) * sz + 1 * sz = n * sz := by rw [← Nat.add_mul, Nat.sub_add_cancel hn]
 have hnc2 : n * sz ≤ c * sz := Nat.mul_le_mul_right _ hnc
 obtain ⟨vs, hvl, hr⟩ := run_clear_wide (P := P) w t e z sz ht hv hz0 hz1 h0 g ((n - 1) * sz) 1 c2 cur e hg (by omega)
 have hcl : cur.toList.length = c * sz := by simpa using hcs
 have hll : (cur.toList.take ((n - 1) * sz) ++ vs ++ cur.toList.drop ((n - 1) * sz + 1 * sz)).length = c * sz := by
  simp only [List.length_append, List.length_take, List.length_drop, hcl, hvl]
  omega
 have hw := own_setRow (n := n - 1) hg hb (by omega) hcm hll
 refine ⟨_, hr, ?_, But.setRow _ _ _⟩
 rw [List.append_assoc, List.take_append_of_le_length (by rw [List.length_take, hcl]; omega), List.take_take, Nat.min_self] at hw
 rw [← htk, List.take_take, Nat.min_eq_left (by omega), List.append_assoc]
 exact hw
theorem copy_own {P : Program} (w : World) (dT sT elem : TypeId) (i : TypeInfo) (hu : P.underlying dT = some (.slice elem)) (hi : P.info? elem = some i) (base g N c sz p k dLen dCap sLen sCap : Nat) (hs : i.size = sz) (a : Addr) (ys cs : List Value)
  (h : w.ownsRow base elem sz (.slice (some ⟨g, 0, none⟩) N c) N ys) (hk : Nat.min sLen dLen = k) (hpk : p + k ≤ N) (hn : cs.length = k * sz)
  (hsrc : ∀ j v, cs[j]? = some v → w.cell? (a.add j) = some v) (h1 : ∀ v ∈ cs, v.oneCell' = true) :
  ∃ w1, (∀ ty, (Builtin.copy_ #[dT, sT] ty #[.slice (some ⟨g, p * sz, none⟩) dLen dCap, .slice (some a) sLen sCap]).run P w = .ok (goInt k) w1) ∧
   w1.ownsRow base elem sz (.slice (some ⟨g, 0, none⟩) N c) N (ys.take (p * sz) ++ cs ++ ys.drop ((p + k) * sz)) ∧ But (· = g) w w1 := by
 obtain ⟨cur, hb, hg, hnc, hcm, hcs, htk⟩ := own_row h
 have hpk2 : (p + k) * sz ≤ N * sz := Nat.mul_le_mul_right _ hpk
 have hnc2 : N * sz ≤ c * sz := Nat.mul_le_mul_right _ hnc
 have hpe : (p + k) * sz = p * sz + k * sz := Nat.add_mul _ _ _
 have hcl : cur.toList.length = c * sz := by simpa using hcs
 have hr := fun ty => run_copy_wide (P := P) w dT sT ty elem i sz g (p * sz) dLen dCap a sLen sCap k cur elem cs hu hi hs hk hg hn hsrc (by rw [hn, hcs]; omega) h1
 have hll : (cur.toList.take (p * sz) ++ cs ++ cur.toList.drop (p * sz + cs.length)).length = c * sz := by
  simp only [List.length_append, List.length_take, List.length_drop, hcl, hn]
  omega
 have hw := own_setRow (n := N) hg hb hnc hcm hll
 refine ⟨_, hr, ?_, But.setRow _ _ _⟩
 have e : (cur.toList.take (p * sz) ++ cs ++ cur.toList.drop (p * sz + cs.length)).take (N * sz) = ys.take (p * sz) ++ cs ++ ys.drop ((p + k) * sz) := by
  rw [← htk, List.take_take, Nat.min_eq_left (by omega), List.drop_take, hn, hpe]
  rw [List.take_append, List.take_of_length_le (by simp only [List.length_append, List.length_take, hcl, hn]; omega)]
  congr 2
  simp only [List.length_append, List.length_take, hcl, hn]
  omega
 rw [e] at hw
 exact hw
theorem own_longer {w : World} {base g n N c sz : Nat} {e : TypeId} {xs : List Value} (h : w.ownsRow base e sz (.slice (some ⟨g, 0, none⟩) n c) n xs) (hn : n ≤ N) (hN : N ≤ c) : ∃ ys, w.ownsRow base e sz (.slice (some ⟨g, 0, none⟩) N c) N ys ∧ ys.take (n * sz) = xs := by
 obtain ⟨cur, hb, hg, hnc, hcm, hcs, htk⟩ := own_row h
 have hcl : cur.toList.length = c * sz := by simpa using hcs
 refine ⟨cur.toList.take (N * sz), ⟨by rw [List.length_take, hcl]; exact Nat.min_eq_left (Nat.mul_le_mul_right _ hN), .inr ⟨g, c, cur, rfl, hb, hg, hN, hcm, hcs, rfl⟩⟩, ?_⟩
 rw [List.take_take, Nat.min_eq_left (Nat.mul_le_mul_right _ hn), htk]
theorem ins_grow {P : Program} (w : World) (t tn e : TypeId) (i : TypeInfo) (z : Value) (kq kn : IntKind) (ht : P.underlying t = some (.slice e)) (htn : P.underlying tn = some (.int kn)) (hi : P.info? e = some i) (hz : i.zero = some z) (base g n c j k sz bytes : Nat) (hs : i.size = sz) (hby : i.bytes = bytes) (hzs : z.cells.size = sz) (h0 : 0 < sz) (xs : List Value)
  (h : w.ownsRow base e sz (.slice (some ⟨g, 0, none⟩) n c) n xs) (hj : j ≤ n) (hk : 0 < k) (hg : c < j + k) (hsm : j + k ≤ 1099511627776) (hb128 : bytes ≤ 127) (hbase : base ≤ w.heap.size) :
  ∃ A' c' w1 ys, (∀ ty, (Builtin.append_ #[t, tn] ty #[.slice (some ⟨g, 0, none⟩) j c, .int kq k]).run P w = .ok (.slice (some ⟨A', 0, none⟩) (j + k) c') w1) ∧ w.heap.size ≤ A' ∧ w1.ownsRow base e sz (.slice (some ⟨A', 0, none⟩) (j + k) c') (j + k) ys ∧ ys.take (j * sz) = xs.take (j * sz) ∧ Ext w w1 := by
 have hxl : xs.length = n * sz := h.1
 have hjn : j * sz ≤ n * sz := Nat.mul_le_mul_right _ hj
 have hol : (xs.take (j * sz)).length = j * i.size := by rw [List.length_take, hxl, hs]; exact Nat.min_eq_left hjn
 have hcell : ∀ (q : Nat) u, (xs.take (j * sz))[q]? = some u → w.drew.cell? ((⟨g, 0, none⟩ : Addr).add q) = some u := by
  intro q u hu
  rw [List.getElem?_take] at hu
  split at hu
  ·exact World.ownsRow.cells (g := g) h rfl _ _ hu
  ·cases hu
 have hold := run_firstCells_some (P := P) w.drew i.size j ⟨g, 0, none⟩ j c (xs.take (j * sz)) hol hcell
 have hbb : (j + k) * bytes ≤ 140737488355328 := by
  have : (j + k) * bytes ≤ 1099511627776 * 127 := Nat.mul_le_mul hsm hb128
  omega
 have hkb : k * bytes ≤ (j + k) * bytes := Nat.mul_le_mul_right _ (by omega)
 have hr := fun ty => Go.Lib.run_append_grow_zeros (P := P) w t tn ty e i z kq kn ht htn hi hz (some ⟨g, 0, none⟩) j c (xs.take (j * sz)) hold k hk (by omega) hg (by omega) (by rw [hby]; omega) (growslice_fits (by omega) (by rw [hby]; exact hbb))
 have hge := grownCap_ge w (j + k) c e
 have hcm : grownCap w (j + k) c e ≤ maxLen := grownCap_le_maxLen w (j + k) c e (by simp [maxLen]; omega)
 have hyl : ((xs.take (j * sz)).toArray ++ Builtin.zeroCells z.cells k).toList.length = (j + k) * sz := by
  simp only [Array.toList_append, List.length_append, hol, hs, Array.length_toList, size_zeroCells, hzs, Nat.add_mul]
 refine ⟨w.heap.size, _, _, ((xs.take (j * sz)).toArray ++ Builtin.zeroCells z.cells k).toList, hr, Nat.le_refl _, ⟨hyl, .inr ⟨w.heap.size, _, _, rfl, hbase, heap_alloc_new w.drew _, hge, hcm, ?_, ?_⟩⟩, ?_, ?_⟩
 ·simp only [Array.size_append, List.size_toArray, size_zeroCells, hzs, hol, hs, ← Nat.add_mul]
  congr 1
  omega
 ·rw [Array.toList_append, ← hyl]
  exact List.take_left
 ·rw [Array.toList_append, List.take_append_of_le_length (by simp only [hol, hs]; exact Nat.le_refl _), List.take_of_length_le (by simp only [hol, hs]; exact Nat.le_refl _)]
 ·exact ((Ext.refl w).drew).alloc _
end
section
open Go.RowKit
theorem step_copyX {P : Program} {ops : Array Oper} {o : Oper} {a : Act} {w : World} {K : Act → World → Prop} {Q : Exit → Act → World → Prop} {E : Prop}
  (hg : o.guard = none) (d x : Operand) (dT sT : TypeId) (hop : o.op = Op.call { callee := Callee.builtin Builtin.copy, args := #[d, x], argTypes := #[dT, sT] })
  (v u : Value) (hd : a.eval d = v) (hx : a.eval x = u) {v' : Value} {w' : World} (hr : (Builtin.copy_ #[dT, sT] o.type #[v, u]).run P w = .ok v' w') (hK : K (a.put o.dst v') w') :
  if Region.wanted o (yielded ops a.tmps) = true then Oper.wp P o a w K Q else E := by
 have hw : Region.wanted o (yielded ops a.tmps) = true := by simp [Region.wanted, hg]
 rw [if_pos hw]
 exact oper_copyX d x dT sT hop hd hx hr hK
theorem wpList_copyX {P : Program} (w : World) {ops : Array Oper} {rest : List Oper} {o : Oper} {a : Act} {Q : Exit → Act → World → Prop} (hgd : o.guard = none) (d s : Operand) (t t' : TypeId)
  (ho : o.op = .call { callee := .builtin .copy, args := #[d, s], argTypes := #[t, t'] }) (v u : Value) (hd : a.eval d = v) (hs : a.eval s = u) {v' : Value} {w' : World}
  (hr : (Builtin.copy_ #[t, t'] o.type #[v, u]).run P w = .ok v' w') (h : wpList P ops Q rest (a.put o.dst v') w') : wpList P ops Q (o :: rest) a w :=
 wpList_plain hgd fun _ hK => oper_copyX d s t t' ho hd hs hr (hK _ _ h)
theorem wpList_appendX {P : Program} (w : World) {ops : Array Oper} {rest : List Oper} {o : Oper} {a : Act} {Q : Exit → Act → World → Prop} (hgd : o.guard = none) (d s : Operand) (t t' : TypeId)
  (ho : o.op = .call { callee := .builtin .append, args := #[d, s], argTypes := #[t, t'] }) (v u : Value) (hd : a.eval d = v) (hs : a.eval s = u) {v' : Value} {w' : World}
  (hr : (Builtin.append_ #[t, t'] o.type #[v, u]).run P w = .ok v' w') (h : wpList P ops Q rest (a.put o.dst v') w') : wpList P ops Q (o :: rest) a w :=
 wpList_plain hgd fun _ hK => oper_appendX d s t t' ho hd hs hr (hK _ _ h)
theorem min_of {a b k : Nat} (h1 : k ≤ a) (h2 : k ≤ b) (h3 : k = a ∨ k = b) : Nat.min a b = k := by
 simp only [Nat.min_def]
 split <;> omega
theorem ins_room {P : Program} (w : World) (t e : TypeId) (i : TypeInfo) (ht : P.underlying t = some (.slice e)) (hi : P.info? e = some i) (base g n c j b sz c1 c2 c3 c4 : Nat) (hs : i.size = sz) (xs cs : List Value) (h1 : ∀ u ∈ xs, u.oneCell' = true) (h2 : ∀ u ∈ cs, u.oneCell' = true)
  (h : w.ownsRow base e sz (.slice (some ⟨g, 0, none⟩) n c) n xs) (hj : j < n) (hc : n + 1 ≤ c) (hl : cs.length = sz) (hcs : ∀ q v, cs[q]? = some v → w.cell? ⟨b, q, none⟩ = some v) (hb : ¬ b = g) (hbw : b < w.heap.size) :
  ∃ w1 w2, (∀ ty, (Builtin.copy_ #[t, t] ty #[.slice (some ⟨g, (j + 1) * sz, none⟩) (n + 1 - (j + 1)) c1, .slice (some ⟨g, j * sz, none⟩) (n + 1 - j) c2]).run P w = .ok (goInt ((n - j : Nat) : Int)) w1) ∧
   (∀ ty, (Builtin.copy_ #[t, t] ty #[.slice (some ⟨g, j * sz, none⟩) (n + 1 - j) c3, .slice (some ⟨b, 0, none⟩) 1 c4]).run P w1 = .ok (goInt 1) w2) ∧
   w2.ownsRow base e sz (.slice (some ⟨g, 0, none⟩) (n + 1) c) (n + 1) (xs.take (j * sz) ++ cs ++ xs.drop (j * sz)) ∧ But (· = g) w w2 := by
 have hxl : xs.length = n * sz := h.1
 have e1 : (j + 1) * sz = j * sz + sz := Nat.succ_mul _ _
 have e2 : (n + 1) * sz = n * sz + sz := Nat.succ_mul _ _
 have e3 : (n - j) * sz = n * sz - j * sz := Nat.sub_mul _ _ _
 have e4 : (j + 1) * sz ≤ n * sz := Nat.mul_le_mul_right _ hj
 obtain ⟨ys, hys, hyx⟩ := own_longer h (N := n + 1) (by omega) hc
 have hyl : ys.length = (n + 1) * sz := hys.1
 have hy1 : ys.take (j * sz) = xs.take (j * sz) := by rw [← hyx, List.take_take, Nat.min_eq_left (by omega)]
 obtain ⟨w1, hr1, ho1, hx1⟩ := copy_own (P := P) w t t e i ht hi base g (n + 1) c sz (j + 1) (n - j) (n + 1 - (j + 1)) c1 (n + 1 - j) c2 hs ⟨g, j * sz, none⟩ ys (xs.drop (j * sz)) hys (min_of (by omega) (by omega) (by omega)) (by omega)
  (by rw [List.length_drop, hxl, e3]) (by
   intro q v hq
   rw [List.getElem?_drop] at hq
   rw [addr_add]
   have := World.ownsRow.cells (g := g) h rfl _ _ hq
   rwa [addr_add, Nat.zero_add] at this) (fun u hu => h1 u (List.mem_of_mem_drop hu))
 obtain ⟨w2, hr2, ho2, hx2⟩ := copy_own (P := P) w1 t t e i ht hi base g (n + 1) c sz j 1 (n + 1 - j) c3 1 c4 hs ⟨b, 0, none⟩ _ cs ho1 (min_of (by omega) (by omega) (by omega)) (by omega)
  (by rw [hl, Nat.one_mul]) (by
   intro q v hq
   rw [addr_add, Nat.zero_add]
   exact hx1.has hb (hcs q v hq)) h2
 refine ⟨w1, w2, hr1, hr2, ?_, hx1.trans hx2⟩
 have hz : (j + 1 + (n - j)) * sz = (n + 1) * sz := by rw [show j + 1 + (n - j) = n + 1 from by omega]
 have hfin : ys.take ((j + 1) * sz) ++ xs.drop (j * sz) ++ ys.drop ((j + 1 + (n - j)) * sz) = ys.take ((j + 1) * sz) ++ xs.drop (j * sz) := by
  rw [hz, List.drop_eq_nil_of_le (show ys.length ≤ (n + 1) * sz from by omega), List.append_nil]
 rw [hfin] at ho2
 rw [List.take_append_of_le_length (by rw [List.length_take]; omega), List.take_take, Nat.min_eq_left (by omega), hy1] at ho2
 rw [List.drop_left' (by rw [List.length_take]; omega)] at ho2
 exact ho2
theorem ins_new {P : Program} (w : World) (t tn e : TypeId) (i : TypeInfo) (z : Value) (kq kn : IntKind) (ht : P.underlying t = some (.slice e)) (htn : P.underlying tn = some (.int kn)) (hi : P.info? e = some i) (hz : i.zero = some z) (base g n c j b sz bytes c2 c4 : Nat) (hs : i.size = sz) (hby : i.bytes = bytes) (hzs : z.cells.size = sz) (h0 : 0 < sz) (xs cs : List Value) (h1 : ∀ u ∈ xs, u.oneCell' = true) (h2 : ∀ u ∈ cs, u.oneCell' = true)
  (h : w.ownsRow base e sz (.slice (some ⟨g, 0, none⟩) n c) n xs) (hj : j < n) (hc : c < n + 1) (hsm : n + 1 ≤ 1099511627776) (hb128 : bytes ≤ 127) (hbase : base ≤ w.heap.size) (hl : cs.length = sz) (hcs : ∀ q v, cs[q]? = some v → w.cell? ⟨b, q, none⟩ = some v) (hbw : b < w.heap.size) :
  ∃ A' c' w1 w2 w3, (∀ ty, (Builtin.append_ #[t, tn] ty #[.slice (some ⟨g, 0, none⟩) j c, .int kq ((n : Int) + 1 - j)]).run P w = .ok (.slice (some ⟨A', 0, none⟩) (n + 1) c') w1) ∧
   (∀ ty, (Builtin.copy_ #[t, t] ty #[.slice (some ⟨A', j * sz, none⟩) (n + 1 - j) (c' - j), .slice (some ⟨b, 0, none⟩) 1 c4]).run P w1 = .ok (goInt 1) w2) ∧
   (∀ ty, (Builtin.copy_ #[t, t] ty #[.slice (some ⟨A', (j + 1) * sz, none⟩) (n + 1 - (j + 1)) (c' - (j + 1)), .slice (some ⟨g, j * sz, none⟩) (n - j) c2]).run P w2.drew = .ok (goInt ((n - j : Nat) : Int)) w3) ∧
   n + 1 ≤ c' ∧ c' ≤ maxLen ∧ w3.ownsRow base e sz (.slice (some ⟨A', 0, none⟩) (n + 1) c') (n + 1) (xs.take (j * sz) ++ cs ++ xs.drop (j * sz)) ∧ w.heap.size ≤ A' ∧ Ext w w3 := by
 have hxl : xs.length = n * sz := h.1
 have e1 : (j + 1) * sz = j * sz + sz := Nat.succ_mul _ _
 have e2 : (n + 1) * sz = n * sz + sz := Nat.succ_mul _ _
 have e3 : (n - j) * sz = n * sz - j * sz := Nat.sub_mul _ _ _
 have e4 : (j + 1) * sz ≤ n * sz := Nat.mul_le_mul_right _ hj
 obtain ⟨A', c', w1, ys, hr1, hA', hys, hyx, hx1⟩ := ins_grow (P := P) w t tn e i z kq kn ht htn hi hz base g n c j (n + 1 - j) sz bytes hs hby hzs h0 xs h (by omega) (by omega) (by omega) (by omega) hb128 hbase
 rw [show j + (n + 1 - j) = n + 1 from by omega] at hr1 hys
 have hyl : ys.length = (n + 1) * sz := hys.1
 have hcc : n + 1 ≤ c' ∧ c' ≤ maxLen := by obtain ⟨cur, _, _, hnc, hcm, _, _⟩ := own_row hys; exact ⟨hnc, hcm⟩
 obtain ⟨w2, hr2, ho2, hx2⟩ := copy_own (P := P) w1 t t e i ht hi base A' (n + 1) c' sz j 1 (n + 1 - j) (c' - j) 1 c4 hs ⟨b, 0, none⟩ _ cs hys (min_of (by omega) (by omega) (by omega)) (by omega)
  (by rw [hl, Nat.one_mul]) (by
   intro q v hq
   rw [addr_add, Nat.zero_add]
   exact hx1.has (hcs q v hq)) h2
 have hgw : g < w.heap.size := (World.ownsRow.lt h g rfl).2
 obtain ⟨w3, hr3, ho3, hx3⟩ := copy_own (P := P) w2.drew t t e i ht hi base A' (n + 1) c' sz (j + 1) (n - j) (n + 1 - (j + 1)) (c' - (j + 1)) (n - j) c2 hs ⟨g, j * sz, none⟩ _ (xs.drop (j * sz)) ho2.drew (min_of (by omega) (by omega) (by omega)) (by omega)
  (by rw [List.length_drop, hxl, e3]) (by
   intro q v hq
   rw [List.getElem?_drop] at hq
   rw [addr_add]
   have hh := World.ownsRow.cells (g := g) h rfl _ _ hq
   rw [addr_add, Nat.zero_add] at hh
   exact (hx2.drew).has (by show ¬ g = A'; omega) (hx1.has hh)) (fun u hu => h1 u (List.mem_of_mem_drop hu))
 refine ⟨A', c', w1, w2, w3, fun ty => by rw [← hr1 ty, show ((n + 1 - j : Nat) : Int) = (n : Int) + 1 - j from by omega], hr2, hr3, hcc.1, hcc.2, ?_, hA', ?_⟩
 ·have hz : (j + 1 + (n - j)) * sz = (n + 1) * sz := by rw [show j + 1 + (n - j) = n + 1 from by omega]
  have hm : (ys.take (j * sz) ++ cs ++ ys.drop ((j + 1) * sz)).take ((j + 1) * sz) = xs.take (j * sz) ++ cs := by
   rw [List.take_left' (by rw [List.length_append, List.length_take]; omega), hyx]
  have hd : (ys.take (j * sz) ++ cs ++ ys.drop ((j + 1) * sz)).drop ((n + 1) * sz) = [] := List.drop_eq_nil_of_le (by simp only [List.length_append, List.length_take, List.length_drop]; omega)
  rw [hz, hm, hd, List.append_nil] at ho3
  exact ho3
 ·exact Below.trans hx1 (((hx2.drew).trans hx3).below (Ext.size hx1) (fun k hk e => by have e : k = A' := e; omega))
end
section
open Go.RowKit Go.ChangeShapes Go.WideShapes Go.Deep Go.Joins
theorem fm_take {α : Type} {f : α → List Value} {k : Nat} (hf : ∀ x, (f x).length = k) : ∀ (l : List α) (j : Nat), (l.flatMap f).take (j * k) = (l.take j).flatMap f
 | [], j => by simp
 | x :: l, 0 => by simp
 | x :: l, j + 1 => by
  have e : (j + 1) * k = j * k + k := Nat.succ_mul _ _
  rw [List.flatMap_cons, List.take_succ_cons, List.flatMap_cons, List.take_append, List.take_of_length_le (by rw [hf]; omega), hf, show (j + 1) * k - k = j * k from by omega, fm_take hf l j]
theorem fm_drop {α : Type} {f : α → List Value} {k : Nat} (hf : ∀ x, (f x).length = k) : ∀ (l : List α) (j : Nat), (l.flatMap f).drop (j * k) = (l.drop j).flatMap f
 | [], j => by simp
 | x :: l, 0 => by simp
 | x :: l, j + 1 => by
  have e : (j + 1) * k = j * k + k := Nat.succ_mul _ _
  rw [List.flatMap_cons, List.drop_succ_cons, List.drop_append, List.drop_of_length_le (by rw [hf]; omega), hf, show (j + 1) * k - k = j * k from by omega, fm_drop hf l j, List.nil_append]
theorem own_form {w : World} {base n sz : Nat} {e : TypeId} {v : Value} {xs : List Value} (h : w.ownsRow base e sz v n xs) (hn : 0 < n) : ∃ g c, v = .slice (some ⟨g, 0, none⟩) n c := by
 rcases h.2 with ⟨_, h'⟩ | ⟨g', cap, cur, h', _⟩
 ·omega
 ·exact ⟨g', cap, h'⟩
theorem cDelete_r (base g n c j J N : Nat) (xs : List Value) (w : World) (hJ : J = j + 1) (hN : n = N + 1) (h1 : ∀ u ∈ xs, u.oneCell' = true) (h : w.ownsRow base 79 6 (.slice (some ⟨g, 0, none⟩) n c) n xs) (hj : j < n) (hm : n < 1099511627776) :
  Calls Tryz.prog 142 #[.slice (some ⟨g, 0, none⟩) n c, .int .i64 j, .int .i64 J] w fun r w' => r = .returned (.slice (some ⟨g, 0, none⟩) N c) ∧ w'.ownsRow base 79 6 (.slice (some ⟨g, 0, none⟩) N c) N (xs.take (j * 6) ++ xs.drop ((j + 1) * 6)) ∧ But (· = g) w w' := by
 obtain ⟨i, hi, hz, hs, hb⟩ := info_parts cls_info
 have hnc : n ≤ c := by obtain ⟨cur, _, _, hnc, hcm, _, _⟩ := own_row h; exact hnc
 have hcm2 : c ≤ 9223372036854775807 := by obtain ⟨cur, _, _, hnc, hcm, _, _⟩ := own_row h; exact hcm
 have hdr : w.drew.ownsRow base 79 6 (.slice (some ⟨g, 0, none⟩) n c) n xs := h.drew
 by_cases hcJ : c = J
 ·obtain ⟨w1, ys, hr1, ho1, hy, hx1⟩ := del_append (P := Tryz.prog) w.drew 22 79 i Tryz.underlying22 hi base g n c j J N 6 0 hJ hN hs xs h1 hdr hj _ rfl
  obtain ⟨w2, hr2, ho2, hx2⟩ := del_clear (P := Tryz.prog) w1 22 79 i _ Tryz.underlying22 hi hz base g n c N (n - N) 6 (c - N) hN (by omega) (by rfl) (by decide) (by decide) ys ho1
  rw [hy] at ho2
  have HX : Hid (But (· = g) w w2) := Lib.hid (((But.refl _ w).drew.trans hx1).trans hx2)
  have HO := Lib.hid ho2
  have hJ1 : J ≤ j + 1 := by omega
  have hJ2 : j + 1 ≤ J := by omega
  have hN1 : n ≤ N + 1 := by omega
  have hN2 : N + 1 ≤ n := by omega
  clear hx1 hx2 ho2 ho1 hdr h hy hz hs hb hi h1 hJ hN
  obtain rfl := hcJ
  rw [if_pos rfl, show n - c = 0 from by omega] at hr1
  go_enter Tryz.func142, Tryz.ntmps142
  go_wp2_with fail
  go_wp2_with fail
  go_wp2_with fail
  go_wp2_with fail
  refine wp_region_held_drew (S := fun _ => True) (by kernel_rfl) trivial (fun hHeld => ?_)
  refine' zt 0 ?_
  refine' zt 1 ?_
  (refine' take_in 2 rfl (by kernel_rfl) (by kernel_rfl) (by kernel_rfl) (fun _ _ _ h => h) (by rfl) (by assumption) ?_ ?_; rotate_left; focus (intro w hSw; (try dsimp only at hSw); go_simp; try with_reducible rfl)); try simp only [Act.put, List.setIfInBounds_toArray, List.set_cons_zero, List.set_cons_succ]
  ·(repeat' rw [if_pos (by omega)]); (try simp only [Result.andThen_ok]); (try rfl)
  refine' zt 3 ?_
  refine' zt 4 ?_
  (refine' take_in 5 rfl (by kernel_rfl) (by kernel_rfl) (by kernel_rfl) (fun _ _ _ h => h) (by rfl) (by assumption) ?_ ?_; rotate_left; focus (intro w hSw; (try dsimp only at hSw); go_simp; try with_reducible rfl)); try simp only [Act.put, List.setIfInBounds_toArray, List.set_cons_zero, List.set_cons_succ]
  ·(repeat' rw [if_pos (by omega)]); (try simp only [Result.andThen_ok]); (try rfl)
  refine' zn 6 (fun K hK => ?_)
  refine oper_appendX (.tmp 22) (.tmp 25) 22 22 rfl rfl rfl (hr1 _) ?_
  refine' zk hK (trivial) (fun hHeld => ?_); clear hK K
  refine' zt 7 ?_
  refine wpAnyH_done (by kernel_rfl) ?_ _
  go_wp2_with fail
  go_ret
  exact ⟨rfl, HO.out, HX.out⟩
 ·obtain ⟨w1, ys, hr1, ho1, hy, hx1⟩ := del_append (P := Tryz.prog) w.drew 22 79 i Tryz.underlying22 hi base g n c j J N 6 (c - J) hJ hN hs xs h1 hdr hj _ rfl
  obtain ⟨w2, hr2, ho2, hx2⟩ := del_clear (P := Tryz.prog) w1 22 79 i _ Tryz.underlying22 hi hz base g n c N (n - N) 6 (c - N) hN (by omega) (by rfl) (by decide) (by decide) ys ho1
  rw [hy] at ho2
  have HX : Hid (But (· = g) w w2) := Lib.hid (((But.refl _ w).drew.trans hx1).trans hx2)
  have HO := Lib.hid ho2
  have hJ1 : J ≤ j + 1 := by omega
  have hJ2 : j + 1 ≤ J := by omega
  have hN1 : n ≤ N + 1 := by omega
  have hN2 : N + 1 ≤ n := by omega
  clear hx1 hx2 ho2 ho1 hdr h hy hz hs hb hi h1 hJ hN
  rw [if_neg hcJ] at hr1
  go_enter Tryz.func142, Tryz.ntmps142
  go_wp2_with fail
  go_wp2_with fail
  go_wp2_with fail
  go_wp2_with fail
  refine wp_region_held_drew (S := fun _ => True) (by kernel_rfl) trivial (fun hHeld => ?_)
  refine' zt 0 ?_
  refine' zt 1 ?_
  (refine' take_in 2 rfl (by kernel_rfl) (by kernel_rfl) (by kernel_rfl) (fun _ _ _ h => h) (by rfl) (by assumption) ?_ ?_; rotate_left; focus (intro w hSw; (try dsimp only at hSw); go_simp; try with_reducible rfl)); try simp only [Act.put, List.setIfInBounds_toArray, List.set_cons_zero, List.set_cons_succ]
  ·(repeat' rw [if_pos (by omega)]); (try simp only [Result.andThen_ok]); (try rfl)
  refine' zt 3 ?_
  refine' zt 4 ?_
  (refine' take_in 5 rfl (by kernel_rfl) (by kernel_rfl) (by kernel_rfl) (fun _ _ _ h => h) (by rfl) (by assumption) ?_ ?_; rotate_left; focus (intro w hSw; (try dsimp only at hSw); go_simp; try with_reducible rfl)); try simp only [Act.put, List.setIfInBounds_toArray, List.set_cons_zero, List.set_cons_succ]
  ·(repeat' rw [if_pos (by omega)]); (try simp only [Result.andThen_ok]); (try rfl)
  refine' zn 6 (fun K hK => ?_)
  refine oper_appendX (.tmp 22) (.tmp 25) 22 22 rfl rfl rfl (hr1 _) ?_
  refine' zk hK (trivial) (fun hHeld => ?_); clear hK K
  refine' zt 7 ?_
  refine wpAnyH_done (by kernel_rfl) ?_ _
  go_wp2_with fail
  go_ret
  exact ⟨rfl, HO.out, HX.out⟩
def InsR (e : TypeId) (sz base : Nat) (v : Value) (n : Nat) (xs : List Value) (w : World) (r : Ending) (w' : World) : Prop := ∃ v', r = .returned v' ∧ w'.ownsRow base e sz v' n xs ∧ (∀ k, v'.ownBlock = some k → v.ownBlock = some k ∨ w.heap.size ≤ k) ∧ But (fun k => v.ownBlock = some k) w w'
theorem But.grown {w w' : World} {row : Option Nat} (h : w.grownBy w' row) : But (fun k => row = some k) w w' := ⟨h.os, h.tape, h.output, h.size, fun k hk hn => h.block k hk (fun e => hn e.symm)⟩
theorem cInsert_end (base b c4 n j : Nat) (v : Value) (xs cs : List Value) (w : World) (hj1 : j ≤ n) (hj2 : n ≤ j) (hn : n < 1099511627776) (h : w.ownsRow base 79 6 v n xs) (h2 : ∀ u ∈ cs, u.oneCell' = true) (hl : cs.length = 6) (hcs : ∀ q u, cs[q]? = some u → w.cell? ⟨b, q, none⟩ = some u) (hbase : base ≤ w.heap.size) :
  Calls Tryz.prog 143 #[v, .int .i64 j, .slice (some ⟨b, 0, none⟩) 1 c4] w (InsR 79 6 base v (n + 1) (xs ++ cs) w) := by
 obtain ⟨i, hi, hz, hs, hby⟩ := info_parts cls_info
 have hrun : ∀ ty, ∃ v' w', (Builtin.append_ #[22, 22] ty #[v, .slice (some ⟨b, 0, none⟩) 1 c4]).run Tryz.prog w = .ok v' w' ∧ InsR 79 6 base v (n + 1) (xs ++ cs) w (.returned v') w' := by
  intro ty
  obtain ⟨v', w', hr, g2, g3, g4, g5⟩ := run_append_own_at (P := Tryz.prog) w base 22 ty 79 i _ 6 48 Tryz.underlying22 hi hz hs hby rfl (by decide) v n xs h ⟨b, 0, none⟩ 1 c4 cs (by rw [hl]) (by intro q u hq; rw [addr_add, Nat.zero_add]; exact hcs q u hq) h2 (by simp [maxLen]; omega) (by omega) hbase
  refine ⟨v', w', hr, v', rfl, g2, fun k hk => ?_, But.grown g3⟩
  rcases g5 with g5 | g5
  ·exact .inl (g5 ▸ hk)
  ·rw [g5] at hk
   exact .inr (by injection hk with hk; omega)
 obtain ⟨v', w', hr, hR⟩ := hrun 22
 have HR := Lib.hid hR
 obtain rfl : j = n := by omega
 obtain ⟨A, c, rfl, hA, hSl⟩ := own_parts2 h
 have hsm := hSl.small
 clear h hR hrun hi hz hs hby hcs h2 hl
 rcases A with _ | a
 ·have hc := hA rfl
  subst hc
  have hj0 : j = 0 := by
   rcases Nat.eq_zero_or_pos j with h0 | h0
   ·exact h0
   ·obtain ⟨_, _, hh, _⟩ := hSl.at_ h0; cases hh
  clear hSl
  subst hj0
  go_enter Tryz.func143, Tryz.ntmps143
  go_wp2_with (at_builtin; refine wpList_appendX _ rfl _ _ 22 22 rfl _ _ rfl rfl hr ?_)
  go_ret
  exact HR.out
 ·clear hSl
  go_enter Tryz.func143, Tryz.ntmps143
  go_wp2_with (at_builtin; refine wpList_appendX _ rfl _ _ 22 22 rfl _ _ rfl rfl hr ?_)
  all_goals (go_ret; exact HR.out)
theorem cInsert_room (base b c4 n j c g : Nat) (xs cs : List Value) (w : World) (hj : j < n) (hc : n + 1 ≤ c) (hn : n < 1099511627776) (h : w.ownsRow base 79 6 (.slice (some ⟨g, 0, none⟩) n c) n xs) (h1 : ∀ u ∈ xs, u.oneCell' = true) (h2 : ∀ u ∈ cs, u.oneCell' = true) (hl : cs.length = 6) (hv : w.heap[b]? = some (.cells cs.toArray 79)) (hbg : ¬ b = g) :
  Calls Tryz.prog 143 #[.slice (some ⟨g, 0, none⟩) n c, .int .i64 j, .slice (some ⟨b, 0, none⟩) 1 c4] w (InsR 79 6 base (.slice (some ⟨g, 0, none⟩) n c) (n + 1) (xs.take (j * 6) ++ cs ++ xs.drop (j * 6)) w) := by
 obtain ⟨i, hi, hz, hs, hby⟩ := info_parts cls_info
 have hbw : b < w.heap.size := by
  rcases Nat.lt_or_ge b w.heap.size with hh | hh
  ·exact hh
  ·rw [Array.getElem?_eq_none hh] at hv; cases hv
 have hcs : ∀ q u, cs[q]? = some u → w.cell? ⟨b, q, none⟩ = some u := by intro q u hq; simp [World.cell?, hv, hq]
 obtain ⟨cur, _, hg, hnc, hcm, hcu, _⟩ := own_row h
 obtain ⟨w1, w2, hr1, hr2, ho, hx⟩ := ins_room (P := Tryz.prog) w.drew 22 79 i Tryz.underlying22 hi base g n c j b 6 (c - (j + 1)) (c - j) (c - j) c4 hs xs cs h1 h2 h.drew hj hc hl hcs hbg hbw
 have hsize : ∀ w, (sizeOf 79).run Tryz.prog w = .ok 6 w := by intro w; simp [sizeOf, typeInfo, hi, hs]
 have hov : ∀ lb cb, (callFunc 184 #[.slice (some ⟨b, 0, none⟩) 1 c4, .slice (some ⟨g, (j + 1) * 6, none⟩) lb cb]).run Tryz.prog w = .ok (.value (.bool false)) w := fun lb cb => by
  rw [run_callFunc_extern Tryz.func184 (by kernel_rfl) (by kernel_rfl) (by kernel_rfl) (e := Extern.SlicesOverlaps.overlaps #[22, 22] #[4]) (by kernel_rfl),
   Go.Lib.run_overlaps_apart w 22 4 79 Tryz.underlying22 6 hsize ⟨b, 0, none⟩ ⟨g, (j + 1) * 6, none⟩ 1 c4 lb cb hbg 79 79 cs.length cur.size (by simp [World.shape?, hv]) (by simp [World.shape?, hg]) (by omega) (by simp [World.frozen?, hv]) (by simp [World.frozen?, hv])]
  rfl
 have HO := Lib.hid ho
 have HX : Hid (But (· = g) w w2) := Lib.hid ((But.refl _ w).drew.trans hx)
 have hcm2 : c ≤ 9223372036854775807 := hcm
 have hc1 : ¬ c = j := by omega
 have hc2 : ¬ c = j + 1 := by omega
 have hin : ¬ ((j : Int) = (n : Int)) := by omega
 have mixed : Tryz.prog.follows Departure.mixedOrders = true := by kernel_rfl
 have hw1 : IntKind.i64.wrap ((j : Int) + 1) = (j : Int) + 1 := by rw [IntKind.wrap_i64]; omega
 have hb1 : (0 : Int) ≤ (j : Int) + 1 := by omega
 have hb2 : (j : Int) + 1 ≤ (n : Int) + 1 := by omega
 have hb3 : (j : Int) ≤ (n : Int) + 1 := by omega
 have hb4 : (j : Int) ≤ (n : Int) := by omega
 have htn : ((j : Int) + 1).toNat = j + 1 := by omega
 clear ho hx hg hcu hcs hv hi hz hs hby h h1 h2 hsize
 go_enter Tryz.func143, Tryz.ntmps143
 go_wp2_with (simp only [hov])
 go_region_law_o (refine step_copyX rfl _ _ 22 22 rfl (.slice (some ⟨g, (j + 1) * 6, none⟩) (n + 1 - (j + 1)) (c - (j + 1))) (.slice (some ⟨g, j * 6, none⟩) (n + 1 - j) (c - j)) (by simp [Act.eval, Act.put]) (by simp [Act.eval, Act.put]) (hr1 _) ?_)
 go_wp2_with (at_builtin; refine wpList_copyX _ rfl _ _ 22 22 rfl _ _ rfl rfl (hr2 _) ?_)
 go_ret
 exact ⟨_, rfl, HO.out, fun k hk => .inl hk, HX.out.mono (fun k _ hk => by subst hk; rfl)⟩
theorem cInsert_new (base b c4 n j c g : Nat) (xs cs : List Value) (w : World) (hj : j < n) (hc : c < n + 1) (hn : n < 1099511627776) (h : w.ownsRow base 79 6 (.slice (some ⟨g, 0, none⟩) n c) n xs) (h1 : ∀ u ∈ xs, u.oneCell' = true) (h2 : ∀ u ∈ cs, u.oneCell' = true) (hl : cs.length = 6) (hv : w.heap[b]? = some (.cells cs.toArray 79)) (hbase : base ≤ w.heap.size) :
  Calls Tryz.prog 143 #[.slice (some ⟨g, 0, none⟩) n c, .int .i64 j, .slice (some ⟨b, 0, none⟩) 1 c4] w (InsR 79 6 base (.slice (some ⟨g, 0, none⟩) n c) (n + 1) (xs.take (j * 6) ++ cs ++ xs.drop (j * 6)) w) := by
 obtain ⟨i, hi, hz, hs, hby⟩ := info_parts cls_info
 have hbw : b < w.heap.size := by
  rcases Nat.lt_or_ge b w.heap.size with hh | hh
  ·exact hh
  ·rw [Array.getElem?_eq_none hh] at hv; cases hv
 have hcs : ∀ q u, cs[q]? = some u → w.cell? ⟨b, q, none⟩ = some u := by intro q u hq; simp [World.cell?, hv, hq]
 obtain ⟨cur, _, hg, hnc, hcm, hcu, _⟩ := own_row h
 obtain ⟨A', c', w1, w2, w3, hr1, hr2, hr3, hcc, hcm3, ho, hA', hx⟩ := ins_new (P := Tryz.prog) w 22 3 79 i _ .i64 .i64 Tryz.underlying22 Tryz.underlying3 hi hz base g n c j b 6 48 (c - j) c4 hs hby rfl (by decide) xs cs h1 h2 h hj hc hn (by decide) hbase hl hcs hbw
 have HO := Lib.hid ho
 have HX := Lib.hid hx
 have HA := Lib.hid hA'
 have hcm2 : c ≤ 9223372036854775807 := hcm
 have hcm4 : c' ≤ 9223372036854775807 := hcm3
 have hc1 : ¬ c = j := by omega
 have hc2 : ¬ c' = j := by omega
 have hc3 : ¬ c' = j + 1 := by omega
 have hin : ¬ ((j : Int) = (n : Int)) := by omega
 have mixed : Tryz.prog.follows Departure.mixedOrders = true := by kernel_rfl
 have hw1 : IntKind.i64.wrap ((j : Int) + 1) = (j : Int) + 1 := by rw [IntKind.wrap_i64]; omega
 have hb1 : (0 : Int) ≤ (j : Int) + 1 := by omega
 have hb2 : (j : Int) + 1 ≤ (n : Int) + 1 := by omega
 have hb3 : (j : Int) ≤ (n : Int) + 1 := by omega
 have hb4 : (j : Int) ≤ (n : Int) := by omega
 have htn : ((j : Int) + 1).toNat = j + 1 := by omega
 clear ho hx hg hcu hcs hv hi hz hs hby h h1 h2 hA'
 go_enter Tryz.func143, Tryz.ntmps143
 go_wp2_with (first
  | (at_builtin; refine wpList_appendX _ rfl _ _ _ _ rfl _ _ rfl rfl (hr1 _) ?_)
  | (at_builtin; refine wpList_copyX _ rfl _ _ 22 22 rfl _ _ rfl rfl (hr2 _) ?_))
 go_region_law_o (refine step_copyX rfl _ _ 22 22 rfl (.slice (some ⟨A', (j + 1) * 6, none⟩) (n + 1 - (j + 1)) (c' - (j + 1))) (.slice (some ⟨g, j * 6, none⟩) (n - j) (c - j)) (by simp [Act.eval, Act.put]) (by simp [Act.eval, Act.put]) (hr3 _) ?_)
 go_wp2
 go_ret
 exact ⟨_, rfl, HO.out, fun k hk => .inr (by have hk : some A' = some k := hk; injection hk with hk; have := HA.out; omega), But.ofExt HX.out⟩
theorem cInsert_own (base b c4 n j : Nat) (v : Value) (l : List I6) (x : I6) (w : World) (hj : j ≤ n) (hn : n < 1099511627776) (h : OwnCls w base v n l) (hv : w.heap[b]? = some (.cells (clsC x).toArray 79)) (hb : ∀ k, v.ownBlock = some k → ¬ b = k) (hbase : base ≤ w.heap.size) :
  Calls Tryz.prog 143 #[v, .int .i64 j, .slice (some ⟨b, 0, none⟩) 1 c4] w (InsR 79 6 base v (n + 1) ((l.take j ++ x :: l.drop j).flatMap clsC) w) := by
 have h2 : ∀ u ∈ clsC x, u.oneCell' = true := fun u hu => clsC_one (l := [x]) u (by simpa using hu)
 have e : (l.take j ++ x :: l.drop j).flatMap clsC = (l.flatMap clsC).take (j * 6) ++ clsC x ++ (l.flatMap clsC).drop (j * 6) := by
  rw [fm_take clsC_len, fm_drop clsC_len, List.flatMap_append, List.flatMap_cons, List.append_assoc]
 rw [e]
 unfold OwnCls at h
 rcases Nat.lt_or_ge j n with hjn | hjn
 ·obtain ⟨g, c, rfl⟩ := own_form h (by omega)
  rcases Nat.lt_or_ge c (n + 1) with hc | hc
  ·exact cInsert_new base b c4 n j c g _ _ w hjn hc hn h clsC_one h2 (clsC_len x) hv hbase
  ·exact cInsert_room base b c4 n j c g _ _ w hjn hc hn h clsC_one h2 (clsC_len x) hv (hb g rfl)
 ·obtain rfl : j = n := by omega
  have e2 : (l.flatMap clsC).take (j * 6) = l.flatMap clsC := List.take_of_length_le (by rw [h.1]; exact Nat.le_refl _)
  have e3 : (l.flatMap clsC).drop (j * 6) = [] := List.drop_eq_nil_of_le (by rw [h.1]; exact Nat.le_refl _)
  rw [e2, e3, List.append_nil]
  exact cInsert_end base b c4 j j v _ _ w (Nat.le_refl _) (Nat.le_refl _) hn h h2 (clsC_len x) (by intro q u hq; simp [World.cell?, hv, hq]) hbase
theorem cDelete_own (base n j J N : Nat) (v : Value) (l : List I6) (w : World) (hJ : J = j + 1) (hN : n = N + 1) (hj : j < n) (hn : n < 1099511627776) (h : OwnCls w base v n l) :
  Calls Tryz.prog 142 #[v, .int .i64 j, .int .i64 J] w (InsR 79 6 base v N ((l.take j ++ l.drop J).flatMap clsC) w) := by
 unfold OwnCls at h
 obtain ⟨g, c, rfl⟩ := own_form h (by omega)
 refine (cDelete_r base g n c j J N _ w hJ hN clsC_one h hj hn).mono ?_
 rintro r w' ⟨rfl, ho, hx⟩
 refine ⟨_, rfl, ?_, fun k hk => .inl hk, hx.mono (fun k _ hk => by subst hk; rfl)⟩
 subst hJ
 rw [List.flatMap_append, ← fm_take clsC_len, ← fm_drop clsC_len]
 exact ho
theorem pDelete_r (base g n c j J N : Nat) (xs : List Value) (w : World) (hJ : J = j + 1) (hN : n = N + 1) (h1 : ∀ u ∈ xs, u.oneCell' = true) (h : w.ownsRow base 82 6 (.slice (some ⟨g, 0, none⟩) n c) n xs) (hj : j < n) (hm : n < 1099511627776) :
  Calls Tryz.prog 147 #[.slice (some ⟨g, 0, none⟩) n c, .int .i64 j, .int .i64 J] w fun r w' => r = .returned (.slice (some ⟨g, 0, none⟩) N c) ∧ w'.ownsRow base 82 6 (.slice (some ⟨g, 0, none⟩) N c) N (xs.take (j * 6) ++ xs.drop ((j + 1) * 6)) ∧ But (· = g) w w' := by
 obtain ⟨i, hi, hz, hs, hb⟩ := info_parts pos_info
 have hnc : n ≤ c := by obtain ⟨cur, _, _, hnc, hcm, _, _⟩ := own_row h; exact hnc
 have hcm2 : c ≤ 9223372036854775807 := by obtain ⟨cur, _, _, hnc, hcm, _, _⟩ := own_row h; exact hcm
 have hdr : w.drew.ownsRow base 82 6 (.slice (some ⟨g, 0, none⟩) n c) n xs := h.drew
 by_cases hcJ : c = J
 ·obtain ⟨w1, ys, hr1, ho1, hy, hx1⟩ := del_append (P := Tryz.prog) w.drew 23 82 i Tryz.underlying23 hi base g n c j J N 6 0 hJ hN hs xs h1 hdr hj _ rfl
  obtain ⟨w2, hr2, ho2, hx2⟩ := del_clear (P := Tryz.prog) w1 23 82 i _ Tryz.underlying23 hi hz base g n c N (n - N) 6 (c - N) hN (by omega) (by rfl) (by decide) (by decide) ys ho1
  rw [hy] at ho2
  have HX : Hid (But (· = g) w w2) := Lib.hid (((But.refl _ w).drew.trans hx1).trans hx2)
  have HO := Lib.hid ho2
  have hJ1 : J ≤ j + 1 := by omega
  have hJ2 : j + 1 ≤ J := by omega
  have hN1 : n ≤ N + 1 := by omega
  have hN2 : N + 1 ≤ n := by omega
  clear hx1 hx2 ho2 ho1 hdr h hy hz hs hb hi h1 hJ hN
  obtain rfl := hcJ
  rw [if_pos rfl, show n - c = 0 from by omega] at hr1
  go_enter Tryz.func147, Tryz.ntmps147
  go_wp2_with fail
  go_wp2_with fail
  go_wp2_with fail
  go_wp2_with fail
  refine wp_region_held_drew (S := fun _ => True) (by kernel_rfl) trivial (fun hHeld => ?_)
  refine' zt 0 ?_
  refine' zt 1 ?_
  (refine' take_in 2 rfl (by kernel_rfl) (by kernel_rfl) (by kernel_rfl) (fun _ _ _ h => h) (by rfl) (by assumption) ?_ ?_; rotate_left; focus (intro w hSw; (try dsimp only at hSw); go_simp; try with_reducible rfl)); try simp only [Act.put, List.setIfInBounds_toArray, List.set_cons_zero, List.set_cons_succ]
  ·(repeat' rw [if_pos (by omega)]); (try simp only [Result.andThen_ok]); (try rfl)
  refine' zt 3 ?_
  refine' zt 4 ?_
  (refine' take_in 5 rfl (by kernel_rfl) (by kernel_rfl) (by kernel_rfl) (fun _ _ _ h => h) (by rfl) (by assumption) ?_ ?_; rotate_left; focus (intro w hSw; (try dsimp only at hSw); go_simp; try with_reducible rfl)); try simp only [Act.put, List.setIfInBounds_toArray, List.set_cons_zero, List.set_cons_succ]
  ·(repeat' rw [if_pos (by omega)]); (try simp only [Result.andThen_ok]); (try rfl)
  refine' zn 6 (fun K hK => ?_)
  refine oper_appendX (.tmp 22) (.tmp 25) 23 23 rfl rfl rfl (hr1 _) ?_
  refine' zk hK (trivial) (fun hHeld => ?_); clear hK K
  refine' zt 7 ?_
  refine wpAnyH_done (by kernel_rfl) ?_ _
  go_wp2_with fail
  go_ret
  exact ⟨rfl, HO.out, HX.out⟩
 ·obtain ⟨w1, ys, hr1, ho1, hy, hx1⟩ := del_append (P := Tryz.prog) w.drew 23 82 i Tryz.underlying23 hi base g n c j J N 6 (c - J) hJ hN hs xs h1 hdr hj _ rfl
  obtain ⟨w2, hr2, ho2, hx2⟩ := del_clear (P := Tryz.prog) w1 23 82 i _ Tryz.underlying23 hi hz base g n c N (n - N) 6 (c - N) hN (by omega) (by rfl) (by decide) (by decide) ys ho1
  rw [hy] at ho2
  have HX : Hid (But (· = g) w w2) := Lib.hid (((But.refl _ w).drew.trans hx1).trans hx2)
  have HO := Lib.hid ho2
  have hJ1 : J ≤ j + 1 := by omega
  have hJ2 : j + 1 ≤ J := by omega
  have hN1 : n ≤ N + 1 := by omega
  have hN2 : N + 1 ≤ n := by omega
  clear hx1 hx2 ho2 ho1 hdr h hy hz hs hb hi h1 hJ hN
  rw [if_neg hcJ] at hr1
  go_enter Tryz.func147, Tryz.ntmps147
  go_wp2_with fail
  go_wp2_with fail
  go_wp2_with fail
  go_wp2_with fail
  refine wp_region_held_drew (S := fun _ => True) (by kernel_rfl) trivial (fun hHeld => ?_)
  refine' zt 0 ?_
  refine' zt 1 ?_
  (refine' take_in 2 rfl (by kernel_rfl) (by kernel_rfl) (by kernel_rfl) (fun _ _ _ h => h) (by rfl) (by assumption) ?_ ?_; rotate_left; focus (intro w hSw; (try dsimp only at hSw); go_simp; try with_reducible rfl)); try simp only [Act.put, List.setIfInBounds_toArray, List.set_cons_zero, List.set_cons_succ]
  ·(repeat' rw [if_pos (by omega)]); (try simp only [Result.andThen_ok]); (try rfl)
  refine' zt 3 ?_
  refine' zt 4 ?_
  (refine' take_in 5 rfl (by kernel_rfl) (by kernel_rfl) (by kernel_rfl) (fun _ _ _ h => h) (by rfl) (by assumption) ?_ ?_; rotate_left; focus (intro w hSw; (try dsimp only at hSw); go_simp; try with_reducible rfl)); try simp only [Act.put, List.setIfInBounds_toArray, List.set_cons_zero, List.set_cons_succ]
  ·(repeat' rw [if_pos (by omega)]); (try simp only [Result.andThen_ok]); (try rfl)
  refine' zn 6 (fun K hK => ?_)
  refine oper_appendX (.tmp 22) (.tmp 25) 23 23 rfl rfl rfl (hr1 _) ?_
  refine' zk hK (trivial) (fun hHeld => ?_); clear hK K
  refine' zt 7 ?_
  refine wpAnyH_done (by kernel_rfl) ?_ _
  go_wp2_with fail
  go_ret
  exact ⟨rfl, HO.out, HX.out⟩
theorem pInsert_end (base b c4 n j : Nat) (v : Value) (xs cs : List Value) (w : World) (hj1 : j ≤ n) (hj2 : n ≤ j) (hn : n < 1099511627776) (h : w.ownsRow base 82 6 v n xs) (h2 : ∀ u ∈ cs, u.oneCell' = true) (hl : cs.length = 6) (hcs : ∀ q u, cs[q]? = some u → w.cell? ⟨b, q, none⟩ = some u) (hbase : base ≤ w.heap.size) :
  Calls Tryz.prog 148 #[v, .int .i64 j, .slice (some ⟨b, 0, none⟩) 1 c4] w (InsR 82 6 base v (n + 1) (xs ++ cs) w) := by
 obtain ⟨i, hi, hz, hs, hby⟩ := info_parts pos_info
 have hrun : ∀ ty, ∃ v' w', (Builtin.append_ #[23, 23] ty #[v, .slice (some ⟨b, 0, none⟩) 1 c4]).run Tryz.prog w = .ok v' w' ∧ InsR 82 6 base v (n + 1) (xs ++ cs) w (.returned v') w' := by
  intro ty
  obtain ⟨v', w', hr, g2, g3, g4, g5⟩ := run_append_own_at (P := Tryz.prog) w base 23 ty 82 i _ 6 48 Tryz.underlying23 hi hz hs hby rfl (by decide) v n xs h ⟨b, 0, none⟩ 1 c4 cs (by rw [hl]) (by intro q u hq; rw [addr_add, Nat.zero_add]; exact hcs q u hq) h2 (by simp [maxLen]; omega) (by omega) hbase
  refine ⟨v', w', hr, v', rfl, g2, fun k hk => ?_, But.grown g3⟩
  rcases g5 with g5 | g5
  ·exact .inl (g5 ▸ hk)
  ·rw [g5] at hk
   exact .inr (by injection hk with hk; omega)
 obtain ⟨v', w', hr, hR⟩ := hrun 23
 have HR := Lib.hid hR
 obtain rfl : j = n := by omega
 obtain ⟨A, c, rfl, hA, hSl⟩ := own_parts2 h
 have hsm := hSl.small
 clear h hR hrun hi hz hs hby hcs h2 hl
 rcases A with _ | a
 ·have hc := hA rfl
  subst hc
  have hj0 : j = 0 := by
   rcases Nat.eq_zero_or_pos j with h0 | h0
   ·exact h0
   ·obtain ⟨_, _, hh, _⟩ := hSl.at_ h0; cases hh
  clear hSl
  subst hj0
  go_enter Tryz.func148, Tryz.ntmps148
  go_wp2_with (at_builtin; refine wpList_appendX _ rfl _ _ 23 23 rfl _ _ rfl rfl hr ?_)
  go_ret
  exact HR.out
 ·clear hSl
  go_enter Tryz.func148, Tryz.ntmps148
  go_wp2_with (at_builtin; refine wpList_appendX _ rfl _ _ 23 23 rfl _ _ rfl rfl hr ?_)
  all_goals (go_ret; exact HR.out)
theorem pInsert_room (base b c4 n j c g : Nat) (xs cs : List Value) (w : World) (hj : j < n) (hc : n + 1 ≤ c) (hn : n < 1099511627776) (h : w.ownsRow base 82 6 (.slice (some ⟨g, 0, none⟩) n c) n xs) (h1 : ∀ u ∈ xs, u.oneCell' = true) (h2 : ∀ u ∈ cs, u.oneCell' = true) (hl : cs.length = 6) (hv : w.heap[b]? = some (.cells cs.toArray 82)) (hbg : ¬ b = g) :
  Calls Tryz.prog 148 #[.slice (some ⟨g, 0, none⟩) n c, .int .i64 j, .slice (some ⟨b, 0, none⟩) 1 c4] w (InsR 82 6 base (.slice (some ⟨g, 0, none⟩) n c) (n + 1) (xs.take (j * 6) ++ cs ++ xs.drop (j * 6)) w) := by
 obtain ⟨i, hi, hz, hs, hby⟩ := info_parts pos_info
 have hbw : b < w.heap.size := by
  rcases Nat.lt_or_ge b w.heap.size with hh | hh
  ·exact hh
  ·rw [Array.getElem?_eq_none hh] at hv; cases hv
 have hcs : ∀ q u, cs[q]? = some u → w.cell? ⟨b, q, none⟩ = some u := by intro q u hq; simp [World.cell?, hv, hq]
 obtain ⟨cur, _, hg, hnc, hcm, hcu, _⟩ := own_row h
 obtain ⟨w1, w2, hr1, hr2, ho, hx⟩ := ins_room (P := Tryz.prog) w.drew 23 82 i Tryz.underlying23 hi base g n c j b 6 (c - (j + 1)) (c - j) (c - j) c4 hs xs cs h1 h2 h.drew hj hc hl hcs hbg hbw
 have hsize : ∀ w, (sizeOf 82).run Tryz.prog w = .ok 6 w := by intro w; simp [sizeOf, typeInfo, hi, hs]
 have hov : ∀ lb cb, (callFunc 189 #[.slice (some ⟨b, 0, none⟩) 1 c4, .slice (some ⟨g, (j + 1) * 6, none⟩) lb cb]).run Tryz.prog w = .ok (.value (.bool false)) w := fun lb cb => by
  rw [run_callFunc_extern Tryz.func189 (by kernel_rfl) (by kernel_rfl) (by kernel_rfl) (e := Extern.SlicesOverlaps.overlaps #[23, 23] #[4]) (by kernel_rfl),
   Go.Lib.run_overlaps_apart w 23 4 82 Tryz.underlying23 6 hsize ⟨b, 0, none⟩ ⟨g, (j + 1) * 6, none⟩ 1 c4 lb cb hbg 82 82 cs.length cur.size (by simp [World.shape?, hv]) (by simp [World.shape?, hg]) (by omega) (by simp [World.frozen?, hv]) (by simp [World.frozen?, hv])]
  rfl
 have HO := Lib.hid ho
 have HX : Hid (But (· = g) w w2) := Lib.hid ((But.refl _ w).drew.trans hx)
 have hcm2 : c ≤ 9223372036854775807 := hcm
 have hc1 : ¬ c = j := by omega
 have hc2 : ¬ c = j + 1 := by omega
 have hin : ¬ ((j : Int) = (n : Int)) := by omega
 have mixed : Tryz.prog.follows Departure.mixedOrders = true := by kernel_rfl
 have hw1 : IntKind.i64.wrap ((j : Int) + 1) = (j : Int) + 1 := by rw [IntKind.wrap_i64]; omega
 have hb1 : (0 : Int) ≤ (j : Int) + 1 := by omega
 have hb2 : (j : Int) + 1 ≤ (n : Int) + 1 := by omega
 have hb3 : (j : Int) ≤ (n : Int) + 1 := by omega
 have hb4 : (j : Int) ≤ (n : Int) := by omega
 have htn : ((j : Int) + 1).toNat = j + 1 := by omega
 clear ho hx hg hcu hcs hv hi hz hs hby h h1 h2 hsize
 go_enter Tryz.func148, Tryz.ntmps148
 go_wp2_with (simp only [hov])
 go_region_law_o (refine step_copyX rfl _ _ 23 23 rfl (.slice (some ⟨g, (j + 1) * 6, none⟩) (n + 1 - (j + 1)) (c - (j + 1))) (.slice (some ⟨g, j * 6, none⟩) (n + 1 - j) (c - j)) (by simp [Act.eval, Act.put]) (by simp [Act.eval, Act.put]) (hr1 _) ?_)
 go_wp2_with (at_builtin; refine wpList_copyX _ rfl _ _ 23 23 rfl _ _ rfl rfl (hr2 _) ?_)
 go_ret
 exact ⟨_, rfl, HO.out, fun k hk => .inl hk, HX.out.mono (fun k _ hk => by subst hk; rfl)⟩
theorem pInsert_new (base b c4 n j c g : Nat) (xs cs : List Value) (w : World) (hj : j < n) (hc : c < n + 1) (hn : n < 1099511627776) (h : w.ownsRow base 82 6 (.slice (some ⟨g, 0, none⟩) n c) n xs) (h1 : ∀ u ∈ xs, u.oneCell' = true) (h2 : ∀ u ∈ cs, u.oneCell' = true) (hl : cs.length = 6) (hv : w.heap[b]? = some (.cells cs.toArray 82)) (hbase : base ≤ w.heap.size) :
  Calls Tryz.prog 148 #[.slice (some ⟨g, 0, none⟩) n c, .int .i64 j, .slice (some ⟨b, 0, none⟩) 1 c4] w (InsR 82 6 base (.slice (some ⟨g, 0, none⟩) n c) (n + 1) (xs.take (j * 6) ++ cs ++ xs.drop (j * 6)) w) := by
 obtain ⟨i, hi, hz, hs, hby⟩ := info_parts pos_info
 have hbw : b < w.heap.size := by
  rcases Nat.lt_or_ge b w.heap.size with hh | hh
  ·exact hh
  ·rw [Array.getElem?_eq_none hh] at hv; cases hv
 have hcs : ∀ q u, cs[q]? = some u → w.cell? ⟨b, q, none⟩ = some u := by intro q u hq; simp [World.cell?, hv, hq]
 obtain ⟨cur, _, hg, hnc, hcm, hcu, _⟩ := own_row h
 obtain ⟨A', c', w1, w2, w3, hr1, hr2, hr3, hcc, hcm3, ho, hA', hx⟩ := ins_new (P := Tryz.prog) w 23 3 82 i _ .i64 .i64 Tryz.underlying23 Tryz.underlying3 hi hz base g n c j b 6 48 (c - j) c4 hs hby rfl (by decide) xs cs h1 h2 h hj hc hn (by decide) hbase hl hcs hbw
 have HO := Lib.hid ho
 have HX := Lib.hid hx
 have HA := Lib.hid hA'
 have hcm2 : c ≤ 9223372036854775807 := hcm
 have hcm4 : c' ≤ 9223372036854775807 := hcm3
 have hc1 : ¬ c = j := by omega
 have hc2 : ¬ c' = j := by omega
 have hc3 : ¬ c' = j + 1 := by omega
 have hin : ¬ ((j : Int) = (n : Int)) := by omega
 have mixed : Tryz.prog.follows Departure.mixedOrders = true := by kernel_rfl
 have hw1 : IntKind.i64.wrap ((j : Int) + 1) = (j : Int) + 1 := by rw [IntKind.wrap_i64]; omega
 have hb1 : (0 : Int) ≤ (j : Int) + 1 := by omega
 have hb2 : (j : Int) + 1 ≤ (n : Int) + 1 := by omega
 have hb3 : (j : Int) ≤ (n : Int) + 1 := by omega
 have hb4 : (j : Int) ≤ (n : Int) := by omega
 have htn : ((j : Int) + 1).toNat = j + 1 := by omega
 clear ho hx hg hcu hcs hv hi hz hs hby h h1 h2 hA'
 go_enter Tryz.func148, Tryz.ntmps148
 go_wp2_with (first
  | (at_builtin; refine wpList_appendX _ rfl _ _ _ _ rfl _ _ rfl rfl (hr1 _) ?_)
  | (at_builtin; refine wpList_copyX _ rfl _ _ 23 23 rfl _ _ rfl rfl (hr2 _) ?_))
 go_region_law_o (refine step_copyX rfl _ _ 23 23 rfl (.slice (some ⟨A', (j + 1) * 6, none⟩) (n + 1 - (j + 1)) (c' - (j + 1))) (.slice (some ⟨g, j * 6, none⟩) (n - j) (c - j)) (by simp [Act.eval, Act.put]) (by simp [Act.eval, Act.put]) (hr3 _) ?_)
 go_wp2
 go_ret
 exact ⟨_, rfl, HO.out, fun k hk => .inr (by have hk : some A' = some k := hk; injection hk with hk; have := HA.out; omega), But.ofExt HX.out⟩
theorem pInsert_own (base b c4 n j : Nat) (v : Value) (l : List I6) (x : I6) (w : World) (hj : j ≤ n) (hn : n < 1099511627776) (h : OwnPos w base v n l) (hv : w.heap[b]? = some (.cells (posC x).toArray 82)) (hb : ∀ k, v.ownBlock = some k → ¬ b = k) (hbase : base ≤ w.heap.size) :
  Calls Tryz.prog 148 #[v, .int .i64 j, .slice (some ⟨b, 0, none⟩) 1 c4] w (InsR 82 6 base v (n + 1) ((l.take j ++ x :: l.drop j).flatMap posC) w) := by
 have h2 : ∀ u ∈ posC x, u.oneCell' = true := fun u hu => posC_one (l := [x]) u (by simpa using hu)
 have e : (l.take j ++ x :: l.drop j).flatMap posC = (l.flatMap posC).take (j * 6) ++ posC x ++ (l.flatMap posC).drop (j * 6) := by
  rw [fm_take posC_len, fm_drop posC_len, List.flatMap_append, List.flatMap_cons, List.append_assoc]
 rw [e]
 unfold OwnPos at h
 rcases Nat.lt_or_ge j n with hjn | hjn
 ·obtain ⟨g, c, rfl⟩ := own_form h (by omega)
  rcases Nat.lt_or_ge c (n + 1) with hc | hc
  ·exact pInsert_new base b c4 n j c g _ _ w hjn hc hn h posC_one h2 (posC_len x) hv hbase
  ·exact pInsert_room base b c4 n j c g _ _ w hjn hc hn h posC_one h2 (posC_len x) hv (hb g rfl)
 ·obtain rfl : j = n := by omega
  have e2 : (l.flatMap posC).take (j * 6) = l.flatMap posC := List.take_of_length_le (by rw [h.1]; exact Nat.le_refl _)
  have e3 : (l.flatMap posC).drop (j * 6) = [] := List.drop_eq_nil_of_le (by rw [h.1]; exact Nat.le_refl _)
  rw [e2, e3, List.append_nil]
  exact pInsert_end base b c4 j j v _ _ w (Nat.le_refl _) (Nat.le_refl _) hn h h2 (posC_len x) (by intro q u hq; simp [World.cell?, hv, hq]) hbase
theorem pDelete_own (base n j J N : Nat) (v : Value) (l : List I6) (w : World) (hJ : J = j + 1) (hN : n = N + 1) (hj : j < n) (hn : n < 1099511627776) (h : OwnPos w base v n l) :
  Calls Tryz.prog 147 #[v, .int .i64 j, .int .i64 J] w (InsR 82 6 base v N ((l.take j ++ l.drop J).flatMap posC) w) := by
 unfold OwnPos at h
 obtain ⟨g, c, rfl⟩ := own_form h (by omega)
 refine (pDelete_r base g n c j J N _ w hJ hN posC_one h hj hn).mono ?_
 rintro r w' ⟨rfl, ho, hx⟩
 refine ⟨_, rfl, ?_, fun k hk => .inl hk, hx.mono (fun k _ hk => by subst hk; rfl)⟩
 subst hJ
 rw [List.flatMap_append, ← fm_take posC_len, ← fm_drop posC_len]
 exact ho
end
section
open Go.RowKit Go.ChangeShapes Go.WideShapes Go.Deep Go.Joins
structure Bk (w : World) (q : Nat) (a0 a1 : Value) : Prop where
 c0 : w.cell? ⟨q, 0, none⟩ = some a0
 f0 : w.frozen? ⟨q, 0, none⟩ = false
 c1 : w.cell? ⟨q, 1, none⟩ = some a1
 f1 : w.frozen? ⟨q, 1, none⟩ = false
theorem Bk.but {S : Nat → Prop} {w w' : World} {q : Nat} {a0 a1 : Value} (h : Bk w q a0 a1) (hx : But S w w') (hq : ¬ S q) : Bk w' q a0 a1 :=
 ⟨hx.has hq h.c0, hx.froz hq h.c0 h.f0, hx.has hq h.c1, hx.froz hq h.c1 h.f1⟩
theorem Bk.ext {w w' : World} {q : Nat} {a0 a1 : Value} (h : Bk w q a0 a1) (hx : Ext w w') : Bk w' q a0 a1 :=
 ⟨hx.has h.c0, hx.froz h.c0 h.f0, hx.has h.c1, hx.froz h.c1 h.f1⟩
theorem Bk.set0 {w : World} {q : Nat} {a0 a1 : Value} (h : Bk w q a0 a1) (v : Value) : Bk (w.setCell ⟨q, 0, none⟩ v) q v a1 :=
 ⟨World.cell?_setCell_same _ _ _ h.c0, by rw [World.frozen?_setCell]; exact h.f0, by rw [World.cell?_setCell_other (h := by simp)]; exact h.c1, by rw [World.frozen?_setCell]; exact h.f1⟩
theorem Bk.set1 {w : World} {q : Nat} {a0 a1 : Value} (h : Bk w q a0 a1) (v : Value) : Bk (w.setCell ⟨q, 1, none⟩ v) q a0 v :=
 ⟨by rw [World.cell?_setCell_other (h := by simp)]; exact h.c0, by rw [World.frozen?_setCell]; exact h.f0, World.cell?_setCell_same _ _ _ h.c1, by rw [World.frozen?_setCell]; exact h.f1⟩
def SetR (e : TypeId) (base : Nat) (v : Value) (n : Nat) (xs : List Value) (q : Nat) (bk : World → Value → Prop) (w w' : World) : Prop := ∃ v', bk w' v' ∧ w'.ownsRow base e 6 v' n xs ∧ (∀ k, v'.ownBlock = some k → v.ownBlock = some k ∨ w.heap.size ≤ k) ∧ But (fun k => k = q ∨ v.ownBlock = some k) w w'
theorem fm_set {α : Type} {f : α → List Value} {k : Nat} (hf : ∀ x, (f x).length = k) : ∀ (l : List α) (m j : Nat) (x x' : α) (u : Value), l[m]? = some x → j < k → (f x).set j u = f x' → (l.flatMap f).set (m * k + j) u = (l.take m ++ x' :: l.drop (m + 1)).flatMap f
 | [], m, j, x, x', u, h, _, _ => by simp at h
 | y :: l, 0, j, x, x', u, h, hj, he => by
  obtain rfl : y = x := by simpa using h
  rw [List.flatMap_cons, Nat.zero_mul, Nat.zero_add, List.set_append_left _ _ (by rw [hf]; exact hj), he]
  simp
 | y :: l, m + 1, j, x, x', u, h, hj, he => by
  have e : (m + 1) * k + j = k + (m * k + j) := by rw [Nat.succ_mul]; omega
  have h' : l[m]? = some x := by simpa using h
  have := fm_set hf l m j x x' u h' hj he
  rw [List.flatMap_cons, e, List.set_append_right _ _ (by rw [hf]; omega), hf, show k + (m * k + j) - k = m * k + j from by omega, this]
  simp
theorem own_set_apart {w : World} {base n sz q o : Nat} {e : TypeId} {v u : Value} {xs : List Value} (h : w.ownsRow base e sz v n xs) (hq : ∀ k, v.ownBlock = some k → ¬ k = q) : (w.setCell ⟨q, o, none⟩ u).ownsRow base e sz v n xs :=
 h.kept (row := some q) ⟨rfl, rfl, rfl, by simp, fun k _ hk => heap_setCell_other w ⟨q, o, none⟩ k u (fun e => hk (by simp [e]))⟩ (by
  cases hv : v.ownBlock with
  | none => exact .inl rfl
  | some k => exact .inr (fun e => hq k hv (Option.some.inj e)))
theorem put_fin {base q n c g m : Nat} {a1 : Value} {l : List I6} {V S P Q t t' h h' : Int} {xw : I6} {w w1 : World} (ht : t' = t) (hh : h' = h) (X1 : Ext w w1) (B1 : Bk w1 q (.slice (some ⟨g, 0, none⟩) n c) a1) (O1 : OwnCls w1 base (.slice (some ⟨g, 0, none⟩) n c) n l) (hl : l[m]? = some xw) (hk : kC xw = [V, S, P, Q]) (hgq : ¬ g = q) :
  SetR 79 base (.slice (some ⟨g, 0, none⟩) n c) n ((l.take m ++ (V, S, P, Q, t, h) :: l.drop (m + 1)).flatMap clsC) q (fun w v => Bk w q v a1) w ((w1.setCell ⟨g, m * 6 + 4, none⟩ (.int .u64 t')).setCell ⟨g, m * 6 + 4 + 1, none⟩ (.int .u64 h')).drew := by
 subst ht
 subst hh
 obtain ⟨a, b, d, e, t0, h0⟩ := xw
 simp only [kC, List.cons.injEq, and_true] at hk
 obtain ⟨rfl, rfl, rfl, rfl⟩ := hk
 have hml : m < l.length := (List.getElem?_eq_some_iff.1 hl).1
 have hb := ((But.refl (fun k => k = q ∨ (Value.slice (some ⟨g, 0, none⟩) n c).ownBlock = some k) w1).setCell (p := ⟨g, m * 6 + 4, none⟩) (.inr rfl) (.int .u64 t')).setCell (p := ⟨g, m * 6 + 4 + 1, none⟩) (.inr rfl) (.int .u64 h')
 have hb2 : But (· = g) w1 ((w1.setCell ⟨g, m * 6 + 4, none⟩ (.int .u64 t')).setCell ⟨g, m * 6 + 4 + 1, none⟩ (.int .u64 h')).drew := ((((But.refl (· = g) w1).setCell (p := ⟨g, m * 6 + 4, none⟩) rfl (.int .u64 t')).setCell (p := ⟨g, m * 6 + 4 + 1, none⟩) rfl (.int .u64 h'))).drew
 refine ⟨_, B1.but hb2 (fun e => hgq e.symm), ?_, fun k hk => .inl hk, But.trans (But.ofExt X1) hb.drew⟩
 have o2 := (World.ownsRow.stored (World.ownsRow.stored O1 (m * 6 + 4) (.int .u64 t')).1 (m * 6 + 4 + 1) (.int .u64 h')).1
 have hl2 : (l.take m ++ (a, b, d, e, t', h0) :: l.drop (m + 1))[m]? = some (a, b, d, e, t', h0) := by
  rw [List.getElem?_append_right (by rw [List.length_take]; omega), List.length_take, Nat.min_eq_left (by omega), Nat.sub_self]
  rfl
 rw [fm_set clsC_len l m 4 _ (a, b, d, e, t', h0) _ hl (by decide) rfl, Nat.add_assoc, fm_set clsC_len _ m 5 _ (a, b, d, e, t', h') _ hl2 (by decide) rfl] at o2
 have e1 : (l.take m ++ (a, b, d, e, t', h0) :: l.drop (m + 1)).take m = l.take m := List.take_left' (by rw [List.length_take]; omega)
 have e2 : (l.take m ++ (a, b, d, e, t', h0) :: l.drop (m + 1)).drop (m + 1) = l.drop (m + 1) := by
  rw [List.drop_append, List.drop_of_length_le (by rw [List.length_take]; omega), List.length_take, Nat.min_eq_left (by omega), show m + 1 - m = 1 from by omega]
  simp
 rw [e1, e2] at o2
 exact o2.drew
theorem ins_fin {base q N n c c2 : Nat} {A A2 : Option Addr} {a0 a1 : Value} {xs : List Value} {w w2 : World} (B2 : Bk w2 q a0 a1) (ho : w2.ownsRow base 79 6 (.slice A2 N c2) N xs) (hk : ∀ k, (Value.slice A2 N c2).ownBlock = some k → (Value.slice A n c).ownBlock = some k ∨ w.heap.size ≤ k) (hx : But (fun k => k = q ∨ (Value.slice A n c).ownBlock = some k) w w2) (hq : ∀ k, (Value.slice A n c).ownBlock = some k → ¬ k = q) (hqw : q < w.heap.size) :
  SetR 79 base (.slice A n c) N xs q (fun w v => Bk w q v a1) w (w2.setCell ⟨q, 0, none⟩ (.slice A2 N c2)) :=
 ⟨_, B2.set0 _, own_set_apart ho (fun k h => by rcases hk k h with h2 | h2; exact hq k h2; omega), hk, hx.setCell (p := ⟨q, 0, none⟩) (.inl rfl) _⟩
theorem hv_of {w1 : World} {V S P Q t t' h : Int} (ht : t' = t) : ((w1.alloc (.cells #[.int .i64 V, .int .i64 S, .int .i64 P, .int .i64 Q, .int .u64 t', .int .u64 h] 79)).drew).heap[w1.heap.size]? = some (.cells (clsC (V, S, P, Q, t, h)).toArray 79) := by
 subst ht
 exact heap_alloc_new w1 _
theorem cDelete_int (base n m N : Nat) (v : Value) (l : List I6) (w : World) (hN : n = N + 1) (hj : m < n) (hn : n < 1099511627776) (h : OwnCls w base v n l) :
  Calls Tryz.prog 142 #[v, .int .i64 m, .int .i64 ((m : Int) + 1)] w (InsR 79 6 base v N ((l.take m ++ l.drop (m + 1)).flatMap clsC) w) := cDelete_own base n m (m + 1) N v l w rfl hN hj hn h
theorem hbpools_del (base q n c : Nat) (A : Option Addr) (a1 : Value) (l : List I6) (V S P Q : Int) (w : World) (hB : Bk w q (.slice A n c) a1) (hO : OwnCls w base (.slice A n c) n l) (hn : n < 1099511627776) (hs : SortK kC l) (hqo : ∀ k, (Value.slice A n c).ownBlock = some k → ¬ k = q) (hbase : base ≤ w.heap.size) (hg : (getK kC l [V, S, P, Q]).isSome = true) :
  Calls Tryz.prog 75 #[.pointer (some ⟨q, 0, none⟩), .agg #[.int .i64 V, .int .i64 S, .int .i64 P, .int .i64 Q], .agg #[.int .u64 0, .int .u64 0]] w fun r w' => r = .returned (.tuple #[]) ∧ SetR 79 base (.slice A n c) (n - 1) ((l.take (plcK kC l [V, S, P, Q]) ++ l.drop (plcK kC l [V, S, P, Q] + 1)).flatMap clsC) q (fun w v => Bk w q v a1) w w' := by
 have hll := hO.sl.rlen clsC_len (by decide)
 have hq := cell_lt hB.c0
 have q_0 := hB.c0
 have hqn : ¬ q = w.heap.size := by omega
 have hqm : ¬ q = w.heap.size + 1 := by omega
 have HB := Lib.hid hB
 have HO := Lib.hid hO
 have HQ := Lib.hid hqo
 obtain ⟨M, hM⟩ : ∃ M, M = plcK kC l [V, S, P, Q] := ⟨_, rfl⟩
 rw [← hM]
 have HG := Lib.hid (And.intro hs (And.intro hg hM))
 clear hB hO hqo hs hg hM
 go_enter Tryz.func75, Tryz.ntmps75
 go_wp2_with fail
 (with_reducible refine (hbclass_any q A n c l V S P Q _ (HO.out.sl.ext zSlTba2_1) hn (by first | exact q_0 | (simp [go_sem, World.cell?_alloc_past, q_0, hqn, hq]; done))).mono ?_)
 rintro e w1 ⟨m, b, rfl, hfo, hx⟩
 have X1 : Ext w w1 := Ext.trans zSlTba2_1 hx
 obtain ⟨hm, hb⟩ := hfo.sorted kC_len rfl HG.out.1
 rw [HG.out.2.1] at hb
 rw [← HG.out.2.2] at hm
 subst hb
 subst hm
 have hml := hfo.in_ rfl
 have s_0 : w1.cell? ⟨w.heap.size + 1, 0, none⟩ = some (.int .u64 0) := hx.has (by simp [go_sem])
 have s_1 : w1.cell? ⟨w.heap.size + 1, 1, none⟩ = some (.int .u64 0) := hx.has (by simp [go_sem])
 have hz := hx.size
 try simp at hz
 have B1 := HB.out.ext X1
 have O1 := HO.out.ext X1
 have b_0 := B1.c0
 have H1 := Lib.hid (And.intro X1 (And.intro B1 O1))
 clear X1 B1 O1 hx hfo q_0
 go_wp2_with fail
 (with_reducible refine (cDelete_int base n m (n - 1) (.slice A n c) l w1 (by omega) (by omega) hn H1.out.2.2).mono ?_)
 rintro e w2 ⟨v2, rfl, ho2, hk2, hx2⟩
 obtain ⟨A2, c2, rfl, _, _⟩ := own_parts2 ho2
 have hqs : ¬ (Value.slice A n c).ownBlock = some q := fun h => HQ.out q h rfl
 have B2 := H1.out.2.1.but hx2 hqs
 have b_1 := B2.c0
 have b_2 := B2.f0
 have H2 := Lib.hid (And.intro B2 (And.intro ho2 (And.intro hk2 hx2)))
 clear B2 ho2 hk2 hx2 b_0 s_0 s_1
 go_wp2
 refine bodyPost_end (v := .tuple #[]) (by (try simp [results]) <;> (try rfl)) rfl ?_
 refine ⟨rfl, _, H2.out.1.set0 _, ?_, ?_, ?_⟩
 ·exact own_set_apart H2.out.2.1 (fun k hk => by rcases H2.out.2.2.1 k hk with h | h; exact HQ.out k h; omega)
 ·intro k hk
  rcases H2.out.2.2.1 k hk with h | h
  ·exact .inl h
  ·exact .inr (by omega)
 ·exact (But.trans (But.ofExt H1.out.1) (H2.out.2.2.2.mono (fun k _ hk => .inr hk))).setCell (p := ⟨q, 0, none⟩) (.inl rfl) _
theorem hbpools_put (base q n c : Nat) (A : Option Addr) (a1 : Value) (l : List I6) (V S P Q t h : Int) (w : World) (hB : Bk w q (.slice A n c) a1) (hO : OwnCls w base (.slice A n c) n l) (hn : n < 1099511627776) (hs : SortK kC l) (hqo : ∀ k, (Value.slice A n c).ownBlock = some k → ¬ k = q) (hbase : base ≤ w.heap.size) (hz : ¬ (t = 0 ∧ h = 0)) (hg : (getK kC l [V, S, P, Q]).isSome = true) :
  Calls Tryz.prog 75 #[.pointer (some ⟨q, 0, none⟩), .agg #[.int .i64 V, .int .i64 S, .int .i64 P, .int .i64 Q], .agg #[.int .u64 t, .int .u64 h]] w fun r w' => r = .returned (.tuple #[]) ∧ SetR 79 base (.slice A n c) n ((l.take (plcK kC l [V, S, P, Q]) ++ (V, S, P, Q, t, h) :: l.drop (plcK kC l [V, S, P, Q] + 1)).flatMap clsC) q (fun w v => Bk w q v a1) w w' := by
 have hll := hO.sl.rlen clsC_len (by decide)
 have hq := cell_lt hB.c0
 have q_0 := hB.c0
 have hqn : ¬ q = w.heap.size := by omega
 have hqm : ¬ q = w.heap.size + 1 := by omega
 have HB := Lib.hid hB
 have HO := Lib.hid hO
 have HQ := Lib.hid hqo
 obtain ⟨M, hM⟩ : ∃ M, M = plcK kC l [V, S, P, Q] := ⟨_, rfl⟩
 rw [← hM]
 have HG := Lib.hid (And.intro hs (And.intro hg hM))
 clear hB hO hqo hs hg hM
 go_enter Tryz.func75, Tryz.ntmps75
 go_wp2_with fail
 (with_reducible refine (hbclass_any q A n c l V S P Q _ (HO.out.sl.ext zSlTba2_1) hn (by first | exact q_0 | (simp [go_sem, World.cell?_alloc_past, q_0, hqn, hq]; done))).mono ?_)
 rintro e w1 ⟨m, b, rfl, hfo, hx⟩
 have X1 : Ext w w1 := Ext.trans zSlTba2_1 hx
 obtain ⟨hm, hb⟩ := hfo.sorted kC_len rfl HG.out.1
 rw [HG.out.2.1] at hb
 rw [← HG.out.2.2] at hm
 subst hb
 subst hm
 have hml := hfo.in_ rfl
 obtain ⟨xw, hl_x, hkx⟩ := hfo.2.1.1 rfl
 have hkx : kC xw = [V, S, P, Q] := cmpK_zero rfl hkx
 have s_0 : w1.cell? ⟨w.heap.size + 1, 0, none⟩ = some (.int .u64 t) := hx.has (by simp [go_sem])
 have s_1 : w1.cell? ⟨w.heap.size + 1, 1, none⟩ = some (.int .u64 h) := hx.has (by simp [go_sem])
 have B1 := HB.out.ext X1
 have O1 := HO.out.ext X1
 obtain ⟨g, cg, hAg⟩ := own_form O1 (by omega)
 injection hAg with hAg hAn hAc
 subst hAg
 subst hAc
 obtain ⟨b9, o9, h9, _, hc_x⟩ := O1.sl.rec_ clsC_len (show 0 < n from by omega)
 injection h9 with h9
 injection h9 with h9 h10 _
 subst h9
 subst h10
 have x_4 := hc_x m xw hl_x 4 _ rfl
 have x_5 := hc_x m xw hl_x 5 _ rfl
 rw [Nat.zero_add] at x_4 x_5
 have f_4 := World.ownsRow.frozenAt O1 (m * 6 + 4)
 have f_5 := World.ownsRow.frozenAt O1 (m * 6 + 5)
 have b_0 := B1.c0
 have hsl := O1.sl.small
 have hgq : ¬ g = q := HQ.out g rfl
 have H1 := Lib.hid (And.intro X1 (And.intro B1 (And.intro O1 (And.intro hl_x hkx))))
 clear X1 B1 O1 hx hfo q_0 hc_x hl_x hkx
 have hqg : ¬ q = g := fun e => hgq e.symm
 have hgw : g < w.heap.size := (World.ownsRow.lt HO.out g rfl).2
 have hgp : ¬ g = w.heap.size + 1 := by omega
 have hpg : ¬ w.heap.size + 1 = g := by omega
 have hmn : (m : Int) < (n : Int) := by omega
 go_wp2_with fail
 all_goals (
  refine wp_region_held_drew (S := fun w' => w'.cell? ⟨q, 0, none⟩ = some (.slice (some ⟨g, 0, none⟩) n c) ∧ w'.cell? ⟨w.heap.size + 1, 0, none⟩ = some (.int .u64 t) ∧ w'.cell? ⟨w.heap.size + 1, 1, none⟩ = some (.int .u64 h)) (by kernel_rfl) (by exact ⟨b_0, s_0, s_1⟩) (fun hHeld => ?_)
  refine' zt 0 ?_
  refine' zt 1 ?_
  refine' zt 2 ?_
  refine' zt 3 ?_
  refine' zt 4 ?_
  refine' zt 5 ?_
  refine' zt 6 ?_
  refine' zt 7 ?_
  refine' zt 8 ?_
  refine' zn 9 (fun K hK => ?_)
  go_simp
  refine' zk hK ((by first | exact ⟨b_0, s_0, s_1⟩ | (simp [go_sem, b_0, s_0, s_1, hqg, hgp, hpg, hgq]; done))) (fun hHeld => ?_); clear hK K
  refine wpAnyH_done (by kernel_rfl) ?_ _
  go_wp2
  refine bodyPost_end (v := .tuple #[]) (by (try simp [results]) <;> (try rfl)) rfl ?_
  exact ⟨rfl, put_fin (by first | rfl | (symm; assumption)) (by first | rfl | (symm; assumption)) H1.out.1 H1.out.2.1 H1.out.2.2.1 H1.out.2.2.2.1 H1.out.2.2.2.2 hgq⟩)
theorem hbpools_none (base q n c : Nat) (A : Option Addr) (a1 : Value) (l : List I6) (V S P Q : Int) (w : World) (hB : Bk w q (.slice A n c) a1) (hO : OwnCls w base (.slice A n c) n l) (hn : n < 1099511627776) (hs : SortK kC l) (hqo : ∀ k, (Value.slice A n c).ownBlock = some k → ¬ k = q) (hbase : base ≤ w.heap.size) (hg : (getK kC l [V, S, P, Q]).isSome = false) :
  Calls Tryz.prog 75 #[.pointer (some ⟨q, 0, none⟩), .agg #[.int .i64 V, .int .i64 S, .int .i64 P, .int .i64 Q], .agg #[.int .u64 0, .int .u64 0]] w fun r w' => r = .returned (.tuple #[]) ∧ SetR 79 base (.slice A n c) n ((l.take (plcK kC l [V, S, P, Q]) ++ l.drop (plcK kC l [V, S, P, Q])).flatMap clsC) q (fun w v => Bk w q v a1) w w' := by
 have hll := hO.sl.rlen clsC_len (by decide)
 have hq := cell_lt hB.c0
 have q_0 := hB.c0
 have hqn : ¬ q = w.heap.size := by omega
 have hqm : ¬ q = w.heap.size + 1 := by omega
 have HB := Lib.hid hB
 have HO := Lib.hid hO
 have HQ := Lib.hid hqo
 obtain ⟨M, hM⟩ : ∃ M, M = plcK kC l [V, S, P, Q] := ⟨_, rfl⟩
 rw [← hM]
 have HG := Lib.hid (And.intro hs (And.intro hg hM))
 clear hB hO hqo hs hg hM
 go_enter Tryz.func75, Tryz.ntmps75
 go_wp2_with fail
 (with_reducible refine (hbclass_any q A n c l V S P Q _ (HO.out.sl.ext zSlTba2_1) hn (by first | exact q_0 | (simp [go_sem, World.cell?_alloc_past, q_0, hqn, hq]; done))).mono ?_)
 rintro e w1 ⟨m, b, rfl, hfo, hx⟩
 have X1 : Ext w w1 := Ext.trans zSlTba2_1 hx
 obtain ⟨hm, hb⟩ := hfo.sorted kC_len rfl HG.out.1
 rw [HG.out.2.1] at hb
 rw [← HG.out.2.2] at hm
 subst hb
 subst hm
 have s_0 : w1.cell? ⟨w.heap.size + 1, 0, none⟩ = some (.int .u64 0) := hx.has (by simp [go_sem])
 have s_1 : w1.cell? ⟨w.heap.size + 1, 1, none⟩ = some (.int .u64 0) := hx.has (by simp [go_sem])
 have H1 := Lib.hid (And.intro X1 (And.intro (HB.out.ext X1) (HO.out.ext X1)))
 clear X1 hx hfo q_0
 go_wp2
 refine bodyPost_end (v := .tuple #[]) (by (try simp [results]) <;> (try rfl)) rfl ?_
 refine ⟨rfl, _, H1.out.2.1, ?_, fun k hk => .inl hk, But.ofExt H1.out.1⟩
 rw [List.take_append_drop]
 exact H1.out.2.2
theorem hbpools_ins (base q n c : Nat) (A : Option Addr) (a1 : Value) (l : List I6) (V S P Q t h : Int) (w : World) (hB : Bk w q (.slice A n c) a1) (hO : OwnCls w base (.slice A n c) n l) (hn : n < 1099511627776) (hs : SortK kC l) (hqo : ∀ k, (Value.slice A n c).ownBlock = some k → ¬ k = q) (hbase : base ≤ w.heap.size) (hg : (getK kC l [V, S, P, Q]).isSome = false) (hz : ¬ (t = 0 ∧ h = 0)) :
  Calls Tryz.prog 75 #[.pointer (some ⟨q, 0, none⟩), .agg #[.int .i64 V, .int .i64 S, .int .i64 P, .int .i64 Q], .agg #[.int .u64 t, .int .u64 h]] w fun r w' => r = .returned (.tuple #[]) ∧ SetR 79 base (.slice A n c) (n + 1) ((l.take (plcK kC l [V, S, P, Q]) ++ (V, S, P, Q, t, h) :: l.drop (plcK kC l [V, S, P, Q])).flatMap clsC) q (fun w v => Bk w q v a1) w w' := by
 have hll := hO.sl.rlen clsC_len (by decide)
 have hq := cell_lt hB.c0
 have q_0 := hB.c0
 have hqn : ¬ q = w.heap.size := by omega
 have hqm : ¬ q = w.heap.size + 1 := by omega
 have HB := Lib.hid hB
 have HO := Lib.hid hO
 have HQ := Lib.hid hqo
 obtain ⟨M, hM⟩ : ∃ M, M = plcK kC l [V, S, P, Q] := ⟨_, rfl⟩
 rw [← hM]
 have HG := Lib.hid (And.intro hs (And.intro hg hM))
 clear hB hO hqo hs hg hM
 go_enter Tryz.func75, Tryz.ntmps75
 go_wp2_with fail
 (with_reducible refine (hbclass_any q A n c l V S P Q _ (HO.out.sl.ext zSlTba2_1) hn (by first | exact q_0 | (simp [go_sem, World.cell?_alloc_past, q_0, hqn, hq]; done))).mono ?_)
 rintro e w1 ⟨m, b, rfl, hfo, hx⟩
 have X1 : Ext w w1 := Ext.trans zSlTba2_1 hx
 obtain ⟨hm, hb⟩ := hfo.sorted kC_len rfl HG.out.1
 rw [HG.out.2.1] at hb
 rw [← HG.out.2.2] at hm
 subst hb
 subst hm
 have hml := hfo.1
 have s_0 : w1.cell? ⟨w.heap.size, 0, none⟩ = some (.int .i64 V) := hx.has (by simp [go_sem])
 have s_1 : w1.cell? ⟨w.heap.size, 1, none⟩ = some (.int .i64 S) := hx.has (by simp [go_sem])
 have s_2 : w1.cell? ⟨w.heap.size, 2, none⟩ = some (.int .i64 P) := hx.has (by simp [go_sem])
 have s_3 : w1.cell? ⟨w.heap.size, 3, none⟩ = some (.int .i64 Q) := hx.has (by simp [go_sem])
 have p_0 : w1.cell? ⟨w.heap.size + 1, 0, none⟩ = some (.int .u64 t) := hx.has (by simp [go_sem])
 have p_1 : w1.cell? ⟨w.heap.size + 1, 1, none⟩ = some (.int .u64 h) := hx.has (by simp [go_sem])
 have hz2 := hx.size
 try simp at hz2
 have B1 := HB.out.ext X1
 have O1 := HO.out.ext X1
 have b_0 := B1.c0
 have hO1 : ∀ k, (Value.slice A n c).ownBlock = some k → k < w.heap.size := fun k hk => (World.ownsRow.lt HO.out k hk).2
 have H1 := Lib.hid (And.intro X1 (And.intro B1 (And.intro O1 hO1)))
 have n_1 : w.heap.size < w1.heap.size := by omega
 have n_2 : w.heap.size + 1 < w1.heap.size := by omega
 have n_3 : ¬ w.heap.size = q := by omega
 have n_4 : ¬ w.heap.size + 1 = q := by omega
 have n_5 : ¬ q = w1.heap.size := by omega
 have n_6 : q < w1.heap.size := by omega
 clear X1 B1 O1 hx hfo q_0 hO1
 go_wp2_with fail
 all_goals (
  refine wp_region_held_drew (S := fun w' => w'.cell? ⟨w.heap.size, 0, none⟩ = some (.int .i64 V) ∧ w'.cell? ⟨w.heap.size, 1, none⟩ = some (.int .i64 S) ∧ w'.cell? ⟨w.heap.size, 2, none⟩ = some (.int .i64 P) ∧ w'.cell? ⟨w.heap.size, 3, none⟩ = some (.int .i64 Q) ∧ w'.cell? ⟨w.heap.size + 1, 0, none⟩ = some (.int .u64 t) ∧ w'.cell? ⟨w.heap.size + 1, 1, none⟩ = some (.int .u64 h)) (by kernel_rfl) (by exact ⟨s_0, s_1, s_2, s_3, p_0, p_1⟩) (fun hHeld => ?_)
  refine' zt 0 ?_
  refine' zt 1 ?_
  refine' zt 2 ?_
  refine' zt 3 ?_
  refine' zt 4 ?_
  refine' zt 6 ?_
  refine' zt 7 ?_
  refine' zt 8 ?_
  refine' zt 9 ?_
  refine' next2_in 5 10 rfl rfl (by kernel_rfl) (by rfl) (by rfl) (fun K hK => ?_) (fun K hK => ?_)
  ·go_simp
   refine' zk hK ((by exact ⟨s_0, s_1, s_2, s_3, p_0, p_1⟩)) (fun hHeld => ?_); clear hK K
   refine' zn 10 (fun K hK => ?_)
   go_simp
   refine' zk hK (zSlTba2_3) (fun hHeld => ?_); clear hK K
   refine' zn 11 (fun K hK => ?_)
   go_simp
   (with_reducible refine (cInsert_own base w1.heap.size 1 n m (.slice A n c) l (V, S, P, Q, t, h) _ (by omega) hn (OwnCls.ext H1.out.2.2.1 zSlTba2_0) (hv_of (by first | rfl | (symm; assumption))) (fun k hk => by have := H1.out.2.2.2 k hk; omega) (by first | omega | (simp; omega))).mono ?_)
   rintro e w2 ⟨v2, rfl, ho2, hk2, hx2⟩
   obtain ⟨A2, c2, rfl, _, _⟩ := own_parts2 ho2
   have hqs : ¬ (Value.slice A n c).ownBlock = some q := fun h => HQ.out q h rfl
   have hs1 : ¬ (Value.slice A n c).ownBlock = some w.heap.size := fun h => by have := H1.out.2.2.2 _ h; omega
   have hs2 : ¬ (Value.slice A n c).ownBlock = some (w.heap.size + 1) := fun h => by have := H1.out.2.2.2 _ h; omega
   have B2 := (Bk.ext H1.out.2.1 zSlTba2_0).but hx2 hqs
   have s2_0 : w2.cell? ⟨w.heap.size, 0, none⟩ = some (.int .i64 V) := hx2.has hs1 (by first | exact s_0 | (simp [go_sem, World.cell?_alloc_past, s_0, n_1, n_2]; done))
   have s2_1 : w2.cell? ⟨w.heap.size, 1, none⟩ = some (.int .i64 S) := hx2.has hs1 (by first | exact s_1 | (simp [go_sem, World.cell?_alloc_past, s_1, n_1, n_2]; done))
   have s2_2 : w2.cell? ⟨w.heap.size, 2, none⟩ = some (.int .i64 P) := hx2.has hs1 (by first | exact s_2 | (simp [go_sem, World.cell?_alloc_past, s_2, n_1, n_2]; done))
   have s2_3 : w2.cell? ⟨w.heap.size, 3, none⟩ = some (.int .i64 Q) := hx2.has hs1 (by first | exact s_3 | (simp [go_sem, World.cell?_alloc_past, s_3, n_1, n_2]; done))
   have p2_0 : w2.cell? ⟨w.heap.size + 1, 0, none⟩ = some (.int .u64 t) := hx2.has hs2 (by first | exact p_0 | (simp [go_sem, World.cell?_alloc_past, p_0, n_1, n_2]; done))
   have p2_1 : w2.cell? ⟨w.heap.size + 1, 1, none⟩ = some (.int .u64 h) := hx2.has hs2 (by first | exact p_1 | (simp [go_sem, World.cell?_alloc_past, p_1, n_1, n_2]; done))
   have b_1 := B2.c0
   have b_2 := B2.f0
   have hX2 : But (fun k => k = q ∨ (Value.slice A n c).ownBlock = some k) w w2 := But.trans (But.ofExt (Ext.trans H1.out.1 zSlTba2_0)) (hx2.mono (fun k _ hk => .inr hk))
   have hk3 : ∀ k, (Value.slice A2 (n + 1) c2).ownBlock = some k → (Value.slice A n c).ownBlock = some k ∨ w.heap.size ≤ k := fun k hk => by
    rcases hk2 k hk with hh | hh
    ·exact .inl hh
    ·exact .inr (by first | omega | (simp at hh; omega))
   have H2 := Lib.hid (And.intro B2 (And.intro ho2 (And.intro hk3 hX2)))
   clear B2 ho2 hk2 hx2 hX2 b_0
   refine' zk hK ((by exact ⟨s2_0, s2_1, s2_2, s2_3, p2_0, p2_1⟩)) (fun hHeld => ?_); clear hK K
   refine' zt 12 ?_
   refine' zt 13 ?_
   refine' zt 14 ?_
   refine' zn 15 (fun K hK => ?_)
   go_simp
   refine' zk hK ((by first | exact ⟨s2_0, s2_1, s2_2, s2_3, p2_0, p2_1⟩ | (simp [go_sem, s2_0, s2_1, s2_2, s2_3, p2_0, p2_1, n_3, n_4]; done))) (fun hHeld => ?_); clear hK K
   refine wpAnyH_done (by kernel_rfl) ?_ _
   go_wp2
   refine bodyPost_end (v := .tuple #[]) (by (try simp [results]) <;> (try rfl)) rfl ?_
   refine ⟨rfl, ins_fin H2.out.1 H2.out.2.1 H2.out.2.2.1 H2.out.2.2.2 (fun k hk => HQ.out k hk) hq⟩
  ·go_simp
   refine' zk hK (zSlTba2_3) (fun hHeld => ?_); clear hK K
   refine' zn 5 (fun K hK => ?_)
   go_simp
   refine' zk hK (zSlTba2_3) (fun hHeld => ?_); clear hK K
   refine' zn 11 (fun K hK => ?_)
   go_simp
   (with_reducible refine (cInsert_own base w1.heap.size 1 n m (.slice A n c) l (V, S, P, Q, t, h) _ (by omega) hn (OwnCls.ext H1.out.2.2.1 zSlTba2_0) (hv_of (by first | rfl | (symm; assumption))) (fun k hk => by have := H1.out.2.2.2 k hk; omega) (by first | omega | (simp; omega))).mono ?_)
   rintro e w2 ⟨v2, rfl, ho2, hk2, hx2⟩
   obtain ⟨A2, c2, rfl, _, _⟩ := own_parts2 ho2
   have hqs : ¬ (Value.slice A n c).ownBlock = some q := fun h => HQ.out q h rfl
   have hs1 : ¬ (Value.slice A n c).ownBlock = some w.heap.size := fun h => by have := H1.out.2.2.2 _ h; omega
   have hs2 : ¬ (Value.slice A n c).ownBlock = some (w.heap.size + 1) := fun h => by have := H1.out.2.2.2 _ h; omega
   have B2 := (Bk.ext H1.out.2.1 zSlTba2_0).but hx2 hqs
   have s2_0 : w2.cell? ⟨w.heap.size, 0, none⟩ = some (.int .i64 V) := hx2.has hs1 (by first | exact s_0 | (simp [go_sem, World.cell?_alloc_past, s_0, n_1, n_2]; done))
   have s2_1 : w2.cell? ⟨w.heap.size, 1, none⟩ = some (.int .i64 S) := hx2.has hs1 (by first | exact s_1 | (simp [go_sem, World.cell?_alloc_past, s_1, n_1, n_2]; done))
   have s2_2 : w2.cell? ⟨w.heap.size, 2, none⟩ = some (.int .i64 P) := hx2.has hs1 (by first | exact s_2 | (simp [go_sem, World.cell?_alloc_past, s_2, n_1, n_2]; done))
   have s2_3 : w2.cell? ⟨w.heap.size, 3, none⟩ = some (.int .i64 Q) := hx2.has hs1 (by first | exact s_3 | (simp [go_sem, World.cell?_alloc_past, s_3, n_1, n_2]; done))
   have p2_0 : w2.cell? ⟨w.heap.size + 1, 0, none⟩ = some (.int .u64 t) := hx2.has hs2 (by first | exact p_0 | (simp [go_sem, World.cell?_alloc_past, p_0, n_1, n_2]; done))
   have p2_1 : w2.cell? ⟨w.heap.size + 1, 1, none⟩ = some (.int .u64 h) := hx2.has hs2 (by first | exact p_1 | (simp [go_sem, World.cell?_alloc_past, p_1, n_1, n_2]; done))
   have b_1 := B2.c0
   have b_2 := B2.f0
   have hX2 : But (fun k => k = q ∨ (Value.slice A n c).ownBlock = some k) w w2 := But.trans (But.ofExt (Ext.trans H1.out.1 zSlTba2_0)) (hx2.mono (fun k _ hk => .inr hk))
   have hk3 : ∀ k, (Value.slice A2 (n + 1) c2).ownBlock = some k → (Value.slice A n c).ownBlock = some k ∨ w.heap.size ≤ k := fun k hk => by
    rcases hk2 k hk with hh | hh
    ·exact .inl hh
    ·exact .inr (by first | omega | (simp at hh; omega))
   have H2 := Lib.hid (And.intro B2 (And.intro ho2 (And.intro hk3 hX2)))
   clear B2 ho2 hk2 hx2 hX2 b_0
   refine' zk hK ((by exact ⟨s2_0, s2_1, s2_2, s2_3, p2_0, p2_1⟩)) (fun hHeld => ?_); clear hK K
   refine' zt 12 ?_
   refine' zt 13 ?_
   refine' zt 14 ?_
   refine' zn 15 (fun K hK => ?_)
   go_simp
   refine' zk hK ((by first | exact ⟨s2_0, s2_1, s2_2, s2_3, p2_0, p2_1⟩ | (simp [go_sem, s2_0, s2_1, s2_2, s2_3, p2_0, p2_1, n_3, n_4]; done))) (fun hHeld => ?_); clear hK K
   refine wpAnyH_done (by kernel_rfl) ?_ _
   go_wp2
   refine bodyPost_end (v := .tuple #[]) (by (try simp [results]) <;> (try rfl)) rfl ?_
   refine ⟨rfl, ins_fin H2.out.1 H2.out.2.1 H2.out.2.2.1 H2.out.2.2.2 (fun k hk => HQ.out k hk) hq⟩)
theorem hbpools_any (base q n c : Nat) (A : Option Addr) (a1 : Value) (l : List I6) (V S P Q t h : Int) (w : World) (hB : Bk w q (.slice A n c) a1) (hO : OwnCls w base (.slice A n c) n l) (hn : n < 1099511627776) (hs : SortK kC l) (hqo : ∀ k, (Value.slice A n c).ownBlock = some k → ¬ k = q) (hbase : base ≤ w.heap.size) :
  Calls Tryz.prog 75 #[.pointer (some ⟨q, 0, none⟩), .agg #[.int .i64 V, .int .i64 S, .int .i64 P, .int .i64 Q], .agg #[.int .u64 t, .int .u64 h]] w fun r w' => r = .returned (.tuple #[]) ∧ SetR 79 base (.slice A n c) (setK kC l [V, S, P, Q] (optC V S P Q t h)).length ((setK kC l [V, S, P, Q] (optC V S P Q t h)).flatMap clsC) q (fun w v => Bk w q v a1) w w' := by
 have hll := hO.sl.rlen clsC_len (by decide)
 have hle := plcK_le kC l [V, S, P, Q]
 by_cases hz : t = 0 ∧ h = 0
 ·have ho : optC V S P Q t h = none := if_pos hz
  rw [ho]
  obtain ⟨rfl, rfl⟩ := hz
  cases hg : (getK kC l [V, S, P, Q]).isSome with
  | true =>
   have hlt : plcK kC l [V, S, P, Q] < l.length := by
    obtain ⟨x, hx⟩ := Option.isSome_iff_exists.1 hg
    exact (List.getElem?_eq_some_iff.1 ((getK_plc kC_len rfl hs x).1 hx).1).1
   have e : setK kC l [V, S, P, Q] none = l.take (plcK kC l [V, S, P, Q]) ++ l.drop (plcK kC l [V, S, P, Q] + 1) := by rw [setK_some hg]; rfl
   rw [e, show (l.take (plcK kC l [V, S, P, Q]) ++ l.drop (plcK kC l [V, S, P, Q] + 1)).length = n - 1 from by simp only [List.length_append, List.length_take, List.length_drop]; omega]
   exact hbpools_del base q n c A a1 l V S P Q w hB hO hn hs hqo hbase hg
  | false =>
   have e : setK kC l [V, S, P, Q] none = l.take (plcK kC l [V, S, P, Q]) ++ l.drop (plcK kC l [V, S, P, Q]) := by rw [setK_none (by rw [hg]; decide)]; rfl
   rw [e, show (l.take (plcK kC l [V, S, P, Q]) ++ l.drop (plcK kC l [V, S, P, Q])).length = n from by rw [List.take_append_drop]; exact hll]
   exact hbpools_none base q n c A a1 l V S P Q w hB hO hn hs hqo hbase hg
 ·have ho : optC V S P Q t h = some (V, S, P, Q, t, h) := if_neg hz
  rw [ho]
  cases hg : (getK kC l [V, S, P, Q]).isSome with
  | true =>
   have hlt : plcK kC l [V, S, P, Q] < l.length := by
    obtain ⟨x, hx⟩ := Option.isSome_iff_exists.1 hg
    exact (List.getElem?_eq_some_iff.1 ((getK_plc kC_len rfl hs x).1 hx).1).1
   have e : setK kC l [V, S, P, Q] (some (V, S, P, Q, t, h)) = l.take (plcK kC l [V, S, P, Q]) ++ (V, S, P, Q, t, h) :: l.drop (plcK kC l [V, S, P, Q] + 1) := by rw [setK_some hg]; rfl
   rw [e, show (l.take (plcK kC l [V, S, P, Q]) ++ (V, S, P, Q, t, h) :: l.drop (plcK kC l [V, S, P, Q] + 1)).length = n from by simp only [List.length_append, List.length_take, List.length_drop, List.length_cons]; omega]
   exact hbpools_put base q n c A a1 l V S P Q t h w hB hO hn hs hqo hbase hz hg
  | false =>
   have e : setK kC l [V, S, P, Q] (some (V, S, P, Q, t, h)) = l.take (plcK kC l [V, S, P, Q]) ++ (V, S, P, Q, t, h) :: l.drop (plcK kC l [V, S, P, Q]) := by rw [setK_none (by rw [hg]; decide)]; rfl
   rw [e, show (l.take (plcK kC l [V, S, P, Q]) ++ (V, S, P, Q, t, h) :: l.drop (plcK kC l [V, S, P, Q])).length = n + 1 from by simp only [List.length_append, List.length_take, List.length_drop, List.length_cons]; omega]
   exact hbpools_ins base q n c A a1 l V S P Q t h w hB hO hn hs hqo hbase hg hz
end
section
open Go.RowKit Go.ChangeShapes Go.WideShapes Go.Deep Go.Joins
theorem pDelete_int (base n m N : Nat) (v : Value) (l : List I6) (w : World) (hN : n = N + 1) (hj : m < n) (hn : n < 1099511627776) (h : OwnPos w base v n l) :
  Calls Tryz.prog 147 #[v, .int .i64 m, .int .i64 ((m : Int) + 1)] w (InsR 82 6 base v N ((l.take m ++ l.drop (m + 1)).flatMap posC) w) := pDelete_own base n m (m + 1) N v l w rfl hN hj hn h
theorem hv_ofP {w1 : World} {O V S P Q h : Int} : ((w1.alloc (.cells #[.int .i64 O, .int .i64 V, .int .i64 S, .int .i64 P, .int .i64 Q, .int .u64 h] 82)).drew).heap[w1.heap.size]? = some (.cells (posC (O, V, S, P, Q, h)).toArray 82) := heap_alloc_new w1 _
theorem ins_finP {base q N n c c2 : Nat} {A A2 : Option Addr} {a0 a1 : Value} {xs : List Value} {w w2 : World} (B2 : Bk w2 q a0 a1) (ho : w2.ownsRow base 82 6 (.slice A2 N c2) N xs) (hk : ∀ k, (Value.slice A2 N c2).ownBlock = some k → (Value.slice A n c).ownBlock = some k ∨ w.heap.size ≤ k) (hx : But (fun k => k = q ∨ (Value.slice A n c).ownBlock = some k) w w2) (hq : ∀ k, (Value.slice A n c).ownBlock = some k → ¬ k = q) (hqw : q < w.heap.size) :
  SetR 82 base (.slice A n c) N xs q (fun w v => Bk w q a0 v) w (w2.setCell ⟨q, 1, none⟩ (.slice A2 N c2)) :=
 ⟨_, B2.set1 _, own_set_apart ho (fun k h => by rcases hk k h with h2 | h2; exact hq k h2; omega), hk, hx.setCell (p := ⟨q, 1, none⟩) (.inl rfl) _⟩
theorem put_finP {base q n c g m : Nat} {a0 : Value} {l : List I6} {O V S P Q h : Int} {xw : I6} {w w1 : World} (X1 : Ext w w1) (B1 : Bk w1 q a0 (.slice (some ⟨g, 0, none⟩) n c)) (O1 : OwnPos w1 base (.slice (some ⟨g, 0, none⟩) n c) n l) (hl : l[m]? = some xw) (hk : kP xw = [O, V, S, P, Q]) (hgq : ¬ g = q) :
  SetR 82 base (.slice (some ⟨g, 0, none⟩) n c) n ((l.take m ++ (O, V, S, P, Q, h) :: l.drop (m + 1)).flatMap posC) q (fun w v => Bk w q a0 v) w (w1.setCell ⟨g, m * 6 + 5, none⟩ (.int .u64 h)) := by
 obtain ⟨a, b, d, e, f, h0⟩ := xw
 simp only [kP, List.cons.injEq, and_true] at hk
 obtain ⟨rfl, rfl, rfl, rfl, rfl⟩ := hk
 have hb := (But.refl (fun k => k = q ∨ (Value.slice (some ⟨g, 0, none⟩) n c).ownBlock = some k) w1).setCell (p := ⟨g, m * 6 + 5, none⟩) (.inr rfl) (.int .u64 h)
 have hb2 : But (· = g) w1 (w1.setCell ⟨g, m * 6 + 5, none⟩ (.int .u64 h)) := (But.refl (· = g) w1).setCell (p := ⟨g, m * 6 + 5, none⟩) rfl (.int .u64 h)
 refine ⟨_, B1.but hb2 (fun e => hgq e.symm), ?_, fun k hk => .inl hk, But.trans (But.ofExt X1) hb⟩
 have o2 := (World.ownsRow.stored O1 (m * 6 + 5) (.int .u64 h)).1
 rw [fm_set posC_len l m 5 _ (a, b, d, e, f, h) _ hl (by decide) rfl] at o2
 exact o2
theorem hbholds_del (base q n c : Nat) (A : Option Addr) (a0 : Value) (l : List I6) (O V S P Q : Int) (w : World) (hB : Bk w q a0 (.slice A n c)) (hO : OwnPos w base (.slice A n c) n l) (hn : n < 1099511627776) (hs : SortK kP l) (hqo : ∀ k, (Value.slice A n c).ownBlock = some k → ¬ k = q) (hbase : base ≤ w.heap.size) (hg : (getK kP l [O, V, S, P, Q]).isSome = true) :
  Calls Tryz.prog 80 #[.pointer (some ⟨q, 0, none⟩), .int .i64 O, .agg #[.int .i64 V, .int .i64 S, .int .i64 P, .int .i64 Q], .int .u64 0] w fun r w' => r = .returned (.tuple #[]) ∧ SetR 82 base (.slice A n c) (n - 1) ((l.take (plcK kP l [O, V, S, P, Q]) ++ l.drop (plcK kP l [O, V, S, P, Q] + 1)).flatMap posC) q (fun w v => Bk w q a0 v) w w' := by
 have hll := hO.sl.rlen posC_len (by decide)
 have hq := cell_lt hB.c1
 have q_1 := hB.c1
 have hqn : ¬ q = w.heap.size := by omega
 have hqm : ¬ q = w.heap.size + 1 := by omega
 have HB := Lib.hid hB
 have HO := Lib.hid hO
 have HQ := Lib.hid hqo
 obtain ⟨M, hM⟩ : ∃ M, M = plcK kP l [O, V, S, P, Q] := ⟨_, rfl⟩
 rw [← hM]
 have HG := Lib.hid (And.intro hs (And.intro hg hM))
 clear hB hO hqo hs hg hM
 go_enter Tryz.func80, Tryz.ntmps80
 go_wp2_with fail
 (with_reducible refine (hbposition_any q A n c l O V S P Q _ (HO.out.sl.ext zSlTba2_1) hn zSlTba2_2).mono ?_)
 rintro e w1 ⟨m, b, rfl, hfo, hx⟩
 have X1 : Ext w w1 := Ext.trans zSlTba2_1 hx
 obtain ⟨hm, hb⟩ := hfo.sorted kP_len rfl HG.out.1
 rw [HG.out.2.1] at hb
 rw [← HG.out.2.2] at hm
 subst hb
 subst hm
 have hml := hfo.in_ rfl
 have hz := hx.size
 try simp at hz
 have B1 := HB.out.ext X1
 have O1 := HO.out.ext X1
 have b_0 := B1.c1
 have H1 := Lib.hid (And.intro X1 (And.intro B1 O1))
 clear X1 B1 O1 hx hfo q_1
 go_wp2_with fail
 (with_reducible refine (pDelete_int base n m (n - 1) (.slice A n c) l w1 (by omega) (by omega) hn H1.out.2.2).mono ?_)
 rintro e w2 ⟨v2, rfl, ho2, hk2, hx2⟩
 obtain ⟨A2, c2, rfl, _, _⟩ := own_parts2 ho2
 have hqs : ¬ (Value.slice A n c).ownBlock = some q := fun h => HQ.out q h rfl
 have B2 := H1.out.2.1.but hx2 hqs
 have b_1 := B2.c1
 have b_2 := B2.f1
 have H2 := Lib.hid (And.intro B2 (And.intro ho2 (And.intro hk2 hx2)))
 clear B2 ho2 hk2 hx2 b_0
 go_wp2
 refine bodyPost_end (v := .tuple #[]) (by (try simp [results]) <;> (try rfl)) rfl ?_
 refine ⟨rfl, _, H2.out.1.set1 _, ?_, ?_, ?_⟩
 ·exact own_set_apart H2.out.2.1 (fun k hk => by rcases H2.out.2.2.1 k hk with h | h; exact HQ.out k h; omega)
 ·intro k hk
  rcases H2.out.2.2.1 k hk with h | h
  ·exact .inl h
  ·exact .inr (by omega)
 ·exact (But.trans (But.ofExt H1.out.1) (H2.out.2.2.2.mono (fun k _ hk => .inr hk))).setCell (p := ⟨q, 1, none⟩) (.inl rfl) _
theorem hbholds_put (base q n c : Nat) (A : Option Addr) (a0 : Value) (l : List I6) (O V S P Q h : Int) (w : World) (hB : Bk w q a0 (.slice A n c)) (hO : OwnPos w base (.slice A n c) n l) (hn : n < 1099511627776) (hs : SortK kP l) (hqo : ∀ k, (Value.slice A n c).ownBlock = some k → ¬ k = q) (hbase : base ≤ w.heap.size) (hz : ¬ h = 0) (hg : (getK kP l [O, V, S, P, Q]).isSome = true) :
  Calls Tryz.prog 80 #[.pointer (some ⟨q, 0, none⟩), .int .i64 O, .agg #[.int .i64 V, .int .i64 S, .int .i64 P, .int .i64 Q], .int .u64 h] w fun r w' => r = .returned (.tuple #[]) ∧ SetR 82 base (.slice A n c) n ((l.take (plcK kP l [O, V, S, P, Q]) ++ (O, V, S, P, Q, h) :: l.drop (plcK kP l [O, V, S, P, Q] + 1)).flatMap posC) q (fun w v => Bk w q a0 v) w w' := by
 have hll := hO.sl.rlen posC_len (by decide)
 have hq := cell_lt hB.c1
 have q_1 := hB.c1
 have hqn : ¬ q = w.heap.size := by omega
 have hqm : ¬ q = w.heap.size + 1 := by omega
 have HB := Lib.hid hB
 have HO := Lib.hid hO
 have HQ := Lib.hid hqo
 obtain ⟨M, hM⟩ : ∃ M, M = plcK kP l [O, V, S, P, Q] := ⟨_, rfl⟩
 rw [← hM]
 have HG := Lib.hid (And.intro hs (And.intro hg hM))
 clear hB hO hqo hs hg hM
 go_enter Tryz.func80, Tryz.ntmps80
 go_wp2_with fail
 (with_reducible refine (hbposition_any q A n c l O V S P Q _ (HO.out.sl.ext zSlTba2_1) hn zSlTba2_2).mono ?_)
 rintro e w1 ⟨m, b, rfl, hfo, hx⟩
 have X1 : Ext w w1 := Ext.trans zSlTba2_1 hx
 obtain ⟨hm, hb⟩ := hfo.sorted kP_len rfl HG.out.1
 rw [HG.out.2.1] at hb
 rw [← HG.out.2.2] at hm
 subst hb
 subst hm
 have hml := hfo.in_ rfl
 obtain ⟨xw, hl_x, hkx⟩ := hfo.2.1.1 rfl
 have hkx : kP xw = [O, V, S, P, Q] := cmpK_zero rfl hkx
 have B1 := HB.out.ext X1
 have O1 := HO.out.ext X1
 obtain ⟨g, cg, hAg⟩ := own_form O1 (by omega)
 injection hAg with hAg hAn hAc
 subst hAg
 subst hAc
 obtain ⟨b9, o9, h9, _, hc_x⟩ := O1.sl.rec_ posC_len (show 0 < n from by omega)
 injection h9 with h9
 injection h9 with h9 h10 _
 subst h9
 subst h10
 have x_4 := hc_x m xw hl_x 4 _ rfl
 have x_5 := hc_x m xw hl_x 5 _ rfl
 rw [Nat.zero_add] at x_4 x_5
 have f_4 := World.ownsRow.frozenAt O1 (m * 6 + 4)
 have f_5 := World.ownsRow.frozenAt O1 (m * 6 + 5)
 have b_0 := B1.c1
 have hsl := O1.sl.small
 have hgq : ¬ g = q := HQ.out g rfl
 have H1 := Lib.hid (And.intro X1 (And.intro B1 (And.intro O1 (And.intro hl_x hkx))))
 clear X1 B1 O1 hx hfo q_1 hc_x hl_x hkx
 have hqg : ¬ q = g := fun e => hgq e.symm
 have hgw : g < w.heap.size := (World.ownsRow.lt HO.out g rfl).2
 have hgp : ¬ g = w.heap.size + 1 := by omega
 have hpg : ¬ w.heap.size + 1 = g := by omega
 have hmn : (m : Int) < (n : Int) := by omega
 go_wp2
 refine bodyPost_end (v := .tuple #[]) (by (try simp [results]) <;> (try rfl)) rfl ?_
 exact ⟨rfl, put_finP H1.out.1 H1.out.2.1 H1.out.2.2.1 H1.out.2.2.2.1 H1.out.2.2.2.2 hgq⟩
theorem hbholds_none (base q n c : Nat) (A : Option Addr) (a0 : Value) (l : List I6) (O V S P Q : Int) (w : World) (hB : Bk w q a0 (.slice A n c)) (hO : OwnPos w base (.slice A n c) n l) (hn : n < 1099511627776) (hs : SortK kP l) (hqo : ∀ k, (Value.slice A n c).ownBlock = some k → ¬ k = q) (hbase : base ≤ w.heap.size) (hg : (getK kP l [O, V, S, P, Q]).isSome = false) :
  Calls Tryz.prog 80 #[.pointer (some ⟨q, 0, none⟩), .int .i64 O, .agg #[.int .i64 V, .int .i64 S, .int .i64 P, .int .i64 Q], .int .u64 0] w fun r w' => r = .returned (.tuple #[]) ∧ SetR 82 base (.slice A n c) n ((l.take (plcK kP l [O, V, S, P, Q]) ++ l.drop (plcK kP l [O, V, S, P, Q])).flatMap posC) q (fun w v => Bk w q a0 v) w w' := by
 have hll := hO.sl.rlen posC_len (by decide)
 have hq := cell_lt hB.c1
 have q_1 := hB.c1
 have hqn : ¬ q = w.heap.size := by omega
 have hqm : ¬ q = w.heap.size + 1 := by omega
 have HB := Lib.hid hB
 have HO := Lib.hid hO
 have HQ := Lib.hid hqo
 obtain ⟨M, hM⟩ : ∃ M, M = plcK kP l [O, V, S, P, Q] := ⟨_, rfl⟩
 rw [← hM]
 have HG := Lib.hid (And.intro hs (And.intro hg hM))
 clear hB hO hqo hs hg hM
 go_enter Tryz.func80, Tryz.ntmps80
 go_wp2_with fail
 (with_reducible refine (hbposition_any q A n c l O V S P Q _ (HO.out.sl.ext zSlTba2_1) hn zSlTba2_2).mono ?_)
 rintro e w1 ⟨m, b, rfl, hfo, hx⟩
 have X1 : Ext w w1 := Ext.trans zSlTba2_1 hx
 obtain ⟨hm, hb⟩ := hfo.sorted kP_len rfl HG.out.1
 rw [HG.out.2.1] at hb
 rw [← HG.out.2.2] at hm
 subst hb
 subst hm
 have H1 := Lib.hid (And.intro X1 (And.intro (HB.out.ext X1) (HO.out.ext X1)))
 clear X1 hx hfo q_1
 go_wp2
 refine bodyPost_end (v := .tuple #[]) (by (try simp [results]) <;> (try rfl)) rfl ?_
 refine ⟨rfl, _, H1.out.2.1, ?_, fun k hk => .inl hk, But.ofExt H1.out.1⟩
 rw [List.take_append_drop]
 exact H1.out.2.2
theorem hbholds_ins (base q n c : Nat) (A : Option Addr) (a0 : Value) (l : List I6) (O V S P Q h : Int) (w : World) (hB : Bk w q a0 (.slice A n c)) (hO : OwnPos w base (.slice A n c) n l) (hn : n < 1099511627776) (hs : SortK kP l) (hqo : ∀ k, (Value.slice A n c).ownBlock = some k → ¬ k = q) (hbase : base ≤ w.heap.size) (hg : (getK kP l [O, V, S, P, Q]).isSome = false) (hz : ¬ h = 0) (hp : 0 ≤ h) :
  Calls Tryz.prog 80 #[.pointer (some ⟨q, 0, none⟩), .int .i64 O, .agg #[.int .i64 V, .int .i64 S, .int .i64 P, .int .i64 Q], .int .u64 h] w fun r w' => r = .returned (.tuple #[]) ∧ SetR 82 base (.slice A n c) (n + 1) ((l.take (plcK kP l [O, V, S, P, Q]) ++ (O, V, S, P, Q, h) :: l.drop (plcK kP l [O, V, S, P, Q])).flatMap posC) q (fun w v => Bk w q a0 v) w w' := by
 have hll := hO.sl.rlen posC_len (by decide)
 have hq := cell_lt hB.c1
 have q_1 := hB.c1
 have hqn : ¬ q = w.heap.size := by omega
 have hqm : ¬ q = w.heap.size + 1 := by omega
 have HB := Lib.hid hB
 have HO := Lib.hid hO
 have HQ := Lib.hid hqo
 obtain ⟨M, hM⟩ : ∃ M, M = plcK kP l [O, V, S, P, Q] := ⟨_, rfl⟩
 rw [← hM]
 have HG := Lib.hid (And.intro hs (And.intro hg hM))
 clear hB hO hqo hs hg hM
 go_enter Tryz.func80, Tryz.ntmps80
 go_wp2_with fail
 (with_reducible refine (hbposition_any q A n c l O V S P Q _ (HO.out.sl.ext zSlTba2_1) hn zSlTba2_2).mono ?_)
 rintro e w1 ⟨m, b, rfl, hfo, hx⟩
 have X1 : Ext w w1 := Ext.trans zSlTba2_1 hx
 obtain ⟨hm, hb⟩ := hfo.sorted kP_len rfl HG.out.1
 rw [HG.out.2.1] at hb
 rw [← HG.out.2.2] at hm
 subst hb
 subst hm
 have hml := hfo.1
 have s_0 : w1.cell? ⟨w.heap.size, 0, none⟩ = some (.int .i64 V) := hx.has (by simp [go_sem])
 have s_1 : w1.cell? ⟨w.heap.size, 1, none⟩ = some (.int .i64 S) := hx.has (by simp [go_sem])
 have s_2 : w1.cell? ⟨w.heap.size, 2, none⟩ = some (.int .i64 P) := hx.has (by simp [go_sem])
 have s_3 : w1.cell? ⟨w.heap.size, 3, none⟩ = some (.int .i64 Q) := hx.has (by simp [go_sem])
 have hz2 := hx.size
 try simp at hz2
 have B1 := HB.out.ext X1
 have O1 := HO.out.ext X1
 have b_0 := B1.c1
 have hO1 : ∀ k, (Value.slice A n c).ownBlock = some k → k < w.heap.size := fun k hk => (World.ownsRow.lt HO.out k hk).2
 have H1 := Lib.hid (And.intro X1 (And.intro B1 (And.intro O1 hO1)))
 have n_1 : w.heap.size < w1.heap.size := by omega
 have n_3 : ¬ w.heap.size = q := by omega
 have n_5 : ¬ q = w1.heap.size := by omega
 have n_6 : q < w1.heap.size := by omega
 clear X1 B1 O1 hx hfo q_1 hO1
 have h9 : 0 < h := by omega
 go_wp2_with fail
 all_goals (
  refine wp_region_held_drew (S := fun w' => w'.cell? ⟨w.heap.size, 0, none⟩ = some (.int .i64 V) ∧ w'.cell? ⟨w.heap.size, 1, none⟩ = some (.int .i64 S) ∧ w'.cell? ⟨w.heap.size, 2, none⟩ = some (.int .i64 P) ∧ w'.cell? ⟨w.heap.size, 3, none⟩ = some (.int .i64 Q)) (by kernel_rfl) (by exact ⟨s_0, s_1, s_2, s_3⟩) (fun hHeld => ?_)
  refine' zt 0 ?_
  refine' zt 1 ?_
  refine' zt 2 ?_
  refine' zt 3 ?_
  refine' zt 4 ?_
  refine' zt 6 ?_
  refine' zt 7 ?_
  refine' zt 8 ?_
  refine' zt 9 ?_
  refine' zt 10 ?_
  refine' next2_in 5 11 rfl rfl (by kernel_rfl) (by rfl) (by rfl) (fun K hK => ?_) (fun K hK => ?_)
  ·go_simp
   refine' zk hK ((by exact ⟨s_0, s_1, s_2, s_3⟩)) (fun hHeld => ?_); clear hK K
   refine' zn 11 (fun K hK => ?_)
   go_simp
   refine' zk hK ((by first | exact ⟨s_0, s_1, s_2, s_3⟩ | (simp [go_sem, World.cell?_alloc_past, s_0, s_1, s_2, s_3, n_1]; done))) (fun hHeld => ?_); clear hK K
   refine' zn 12 (fun K hK => ?_)
   go_simp
   (with_reducible refine (pInsert_own base w1.heap.size 1 n m (.slice A n c) l (O, V, S, P, Q, h) _ (by omega) hn (OwnPos.ext H1.out.2.2.1 zSlTba2_0) hv_ofP (fun k hk => by have := H1.out.2.2.2 k hk; omega) (by first | omega | (simp; omega))).mono ?_)
   rintro e w2 ⟨v2, rfl, ho2, hk2, hx2⟩
   obtain ⟨A2, c2, rfl, _, _⟩ := own_parts2 ho2
   have hqs : ¬ (Value.slice A n c).ownBlock = some q := fun h => HQ.out q h rfl
   have hs1 : ¬ (Value.slice A n c).ownBlock = some w.heap.size := fun h => by have := H1.out.2.2.2 _ h; omega
   have B2 := (Bk.ext H1.out.2.1 zSlTba2_0).but hx2 hqs
   have s2_0 : w2.cell? ⟨w.heap.size, 0, none⟩ = some (.int .i64 V) := hx2.has hs1 (by first | exact s_0 | (simp [go_sem, World.cell?_alloc_past, s_0, n_1]; done))
   have s2_1 : w2.cell? ⟨w.heap.size, 1, none⟩ = some (.int .i64 S) := hx2.has hs1 (by first | exact s_1 | (simp [go_sem, World.cell?_alloc_past, s_1, n_1]; done))
   have s2_2 : w2.cell? ⟨w.heap.size, 2, none⟩ = some (.int .i64 P) := hx2.has hs1 (by first | exact s_2 | (simp [go_sem, World.cell?_alloc_past, s_2, n_1]; done))
   have s2_3 : w2.cell? ⟨w.heap.size, 3, none⟩ = some (.int .i64 Q) := hx2.has hs1 (by first | exact s_3 | (simp [go_sem, World.cell?_alloc_past, s_3, n_1]; done))
   have b_1 := B2.c1
   have b_2 := B2.f1
   have hX2 : But (fun k => k = q ∨ (Value.slice A n c).ownBlock = some k) w w2 := But.trans (But.ofExt (Ext.trans H1.out.1 zSlTba2_0)) (hx2.mono (fun k _ hk => .inr hk))
   have hk3 : ∀ k, (Value.slice A2 (n + 1) c2).ownBlock = some k → (Value.slice A n c).ownBlock = some k ∨ w.heap.size ≤ k := fun k hk => by
    rcases hk2 k hk with hh | hh
    ·exact .inl hh
    ·exact .inr (by first | omega | (simp at hh; omega))
   have H2 := Lib.hid (And.intro B2 (And.intro ho2 (And.intro hk3 hX2)))
   clear B2 ho2 hk2 hx2 hX2 b_0
   refine' zk hK ((by exact ⟨s2_0, s2_1, s2_2, s2_3⟩)) (fun hHeld => ?_); clear hK K
   refine' zt 13 ?_
   refine' zt 14 ?_
   refine' zt 15 ?_
   refine' zn 16 (fun K hK => ?_)
   go_simp
   refine' zk hK ((by first | exact ⟨s2_0, s2_1, s2_2, s2_3⟩ | (simp [go_sem, s2_0, s2_1, s2_2, s2_3, n_3]; done))) (fun hHeld => ?_); clear hK K
   refine wpAnyH_done (by kernel_rfl) ?_ _
   go_wp2
   refine bodyPost_end (v := .tuple #[]) (by (try simp [results]) <;> (try rfl)) rfl ?_
   refine ⟨rfl, ins_finP H2.out.1 H2.out.2.1 H2.out.2.2.1 H2.out.2.2.2 (fun k hk => HQ.out k hk) hq⟩
  ·go_simp
   refine' zk hK ((by first | exact ⟨s_0, s_1, s_2, s_3⟩ | (simp [go_sem, World.cell?_alloc_past, s_0, s_1, s_2, s_3, n_1]; done))) (fun hHeld => ?_); clear hK K
   refine' zn 5 (fun K hK => ?_)
   go_simp
   refine' zk hK ((by first | exact ⟨s_0, s_1, s_2, s_3⟩ | (simp [go_sem, World.cell?_alloc_past, s_0, s_1, s_2, s_3, n_1]; done))) (fun hHeld => ?_); clear hK K
   refine' zn 12 (fun K hK => ?_)
   go_simp
   (with_reducible refine (pInsert_own base w1.heap.size 1 n m (.slice A n c) l (O, V, S, P, Q, h) _ (by omega) hn (OwnPos.ext H1.out.2.2.1 zSlTba2_0) hv_ofP (fun k hk => by have := H1.out.2.2.2 k hk; omega) (by first | omega | (simp; omega))).mono ?_)
   rintro e w2 ⟨v2, rfl, ho2, hk2, hx2⟩
   obtain ⟨A2, c2, rfl, _, _⟩ := own_parts2 ho2
   have hqs : ¬ (Value.slice A n c).ownBlock = some q := fun h => HQ.out q h rfl
   have hs1 : ¬ (Value.slice A n c).ownBlock = some w.heap.size := fun h => by have := H1.out.2.2.2 _ h; omega
   have B2 := (Bk.ext H1.out.2.1 zSlTba2_0).but hx2 hqs
   have s2_0 : w2.cell? ⟨w.heap.size, 0, none⟩ = some (.int .i64 V) := hx2.has hs1 (by first | exact s_0 | (simp [go_sem, World.cell?_alloc_past, s_0, n_1]; done))
   have s2_1 : w2.cell? ⟨w.heap.size, 1, none⟩ = some (.int .i64 S) := hx2.has hs1 (by first | exact s_1 | (simp [go_sem, World.cell?_alloc_past, s_1, n_1]; done))
   have s2_2 : w2.cell? ⟨w.heap.size, 2, none⟩ = some (.int .i64 P) := hx2.has hs1 (by first | exact s_2 | (simp [go_sem, World.cell?_alloc_past, s_2, n_1]; done))
   have s2_3 : w2.cell? ⟨w.heap.size, 3, none⟩ = some (.int .i64 Q) := hx2.has hs1 (by first | exact s_3 | (simp [go_sem, World.cell?_alloc_past, s_3, n_1]; done))
   have b_1 := B2.c1
   have b_2 := B2.f1
   have hX2 : But (fun k => k = q ∨ (Value.slice A n c).ownBlock = some k) w w2 := But.trans (But.ofExt (Ext.trans H1.out.1 zSlTba2_0)) (hx2.mono (fun k _ hk => .inr hk))
   have hk3 : ∀ k, (Value.slice A2 (n + 1) c2).ownBlock = some k → (Value.slice A n c).ownBlock = some k ∨ w.heap.size ≤ k := fun k hk => by
    rcases hk2 k hk with hh | hh
    ·exact .inl hh
    ·exact .inr (by first | omega | (simp at hh; omega))
   have H2 := Lib.hid (And.intro B2 (And.intro ho2 (And.intro hk3 hX2)))
   clear B2 ho2 hk2 hx2 hX2 b_0
   refine' zk hK ((by exact ⟨s2_0, s2_1, s2_2, s2_3⟩)) (fun hHeld => ?_); clear hK K
   refine' zt 13 ?_
   refine' zt 14 ?_
   refine' zt 15 ?_
   refine' zn 16 (fun K hK => ?_)
   go_simp
   refine' zk hK ((by first | exact ⟨s2_0, s2_1, s2_2, s2_3⟩ | (simp [go_sem, s2_0, s2_1, s2_2, s2_3, n_3]; done))) (fun hHeld => ?_); clear hK K
   refine wpAnyH_done (by kernel_rfl) ?_ _
   go_wp2
   refine bodyPost_end (v := .tuple #[]) (by (try simp [results]) <;> (try rfl)) rfl ?_
   refine ⟨rfl, ins_finP H2.out.1 H2.out.2.1 H2.out.2.2.1 H2.out.2.2.2 (fun k hk => HQ.out k hk) hq⟩)
theorem hbholds_any (base q n c : Nat) (A : Option Addr) (a0 : Value) (l : List I6) (O V S P Q h : Int) (w : World) (hB : Bk w q a0 (.slice A n c)) (hO : OwnPos w base (.slice A n c) n l) (hn : n < 1099511627776) (hp : 0 ≤ h) (hs : SortK kP l) (hqo : ∀ k, (Value.slice A n c).ownBlock = some k → ¬ k = q) (hbase : base ≤ w.heap.size) :
  Calls Tryz.prog 80 #[.pointer (some ⟨q, 0, none⟩), .int .i64 O, .agg #[.int .i64 V, .int .i64 S, .int .i64 P, .int .i64 Q], .int .u64 h] w fun r w' => r = .returned (.tuple #[]) ∧ SetR 82 base (.slice A n c) (setK kP l [O, V, S, P, Q] (optP O V S P Q h)).length ((setK kP l [O, V, S, P, Q] (optP O V S P Q h)).flatMap posC) q (fun w v => Bk w q a0 v) w w' := by
 have hll := hO.sl.rlen posC_len (by decide)
 have hle := plcK_le kP l [O, V, S, P, Q]
 by_cases hz : h = 0
 ·have ho : optP O V S P Q h = none := if_pos hz
  rw [ho]
  obtain rfl := hz
  cases hg : (getK kP l [O, V, S, P, Q]).isSome with
  | true =>
   have hlt : plcK kP l [O, V, S, P, Q] < l.length := by
    obtain ⟨x, hx⟩ := Option.isSome_iff_exists.1 hg
    exact (List.getElem?_eq_some_iff.1 ((getK_plc kP_len rfl hs x).1 hx).1).1
   have e : setK kP l [O, V, S, P, Q] none = l.take (plcK kP l [O, V, S, P, Q]) ++ l.drop (plcK kP l [O, V, S, P, Q] + 1) := by rw [setK_some hg]; rfl
   rw [e, show (l.take (plcK kP l [O, V, S, P, Q]) ++ l.drop (plcK kP l [O, V, S, P, Q] + 1)).length = n - 1 from by simp only [List.length_append, List.length_take, List.length_drop]; omega]
   exact hbholds_del base q n c A a0 l O V S P Q w hB hO hn hs hqo hbase hg
  | false =>
   have e : setK kP l [O, V, S, P, Q] none = l.take (plcK kP l [O, V, S, P, Q]) ++ l.drop (plcK kP l [O, V, S, P, Q]) := by rw [setK_none (by rw [hg]; decide)]; rfl
   rw [e, show (l.take (plcK kP l [O, V, S, P, Q]) ++ l.drop (plcK kP l [O, V, S, P, Q])).length = n from by rw [List.take_append_drop]; exact hll]
   exact hbholds_none base q n c A a0 l O V S P Q w hB hO hn hs hqo hbase hg
 ·have ho : optP O V S P Q h = some (O, V, S, P, Q, h) := if_neg hz
  rw [ho]
  cases hg : (getK kP l [O, V, S, P, Q]).isSome with
  | true =>
   have hlt : plcK kP l [O, V, S, P, Q] < l.length := by
    obtain ⟨x, hx⟩ := Option.isSome_iff_exists.1 hg
    exact (List.getElem?_eq_some_iff.1 ((getK_plc kP_len rfl hs x).1 hx).1).1
   have e : setK kP l [O, V, S, P, Q] (some (O, V, S, P, Q, h)) = l.take (plcK kP l [O, V, S, P, Q]) ++ (O, V, S, P, Q, h) :: l.drop (plcK kP l [O, V, S, P, Q] + 1) := by rw [setK_some hg]; rfl
   rw [e, show (l.take (plcK kP l [O, V, S, P, Q]) ++ (O, V, S, P, Q, h) :: l.drop (plcK kP l [O, V, S, P, Q] + 1)).length = n from by simp only [List.length_append, List.length_take, List.length_drop, List.length_cons]; omega]
   exact hbholds_put base q n c A a0 l O V S P Q h w hB hO hn hs hqo hbase hz hg
  | false =>
   have e : setK kP l [O, V, S, P, Q] (some (O, V, S, P, Q, h)) = l.take (plcK kP l [O, V, S, P, Q]) ++ (O, V, S, P, Q, h) :: l.drop (plcK kP l [O, V, S, P, Q]) := by rw [setK_none (by rw [hg]; decide)]; rfl
   rw [e, show (l.take (plcK kP l [O, V, S, P, Q]) ++ (O, V, S, P, Q, h) :: l.drop (plcK kP l [O, V, S, P, Q])).length = n + 1 from by simp only [List.length_append, List.length_take, List.length_drop, List.length_cons]; omega]
   exact hbholds_ins base q n c A a0 l O V S P Q h w hB hO hn hs hqo hbase hg hz hp
end
section
open Go.RowKit Go.ChangeShapes Go.WideShapes Go.Deep Go.Joins
theorem howner_any (x : Int) (w : World) : Calls Tryz.prog 127 #[.int .i64 x] w fun r w' => r = .returned (.bool (decide (0 ≤ x ∧ x < 64))) ∧ w' = w := by
 by_cases h1 : 0 ≤ x
 ·by_cases h2 : x < 64
  ·rw [decide_eq_true (And.intro h1 h2)]
   go_enter Tryz.func127, Tryz.ntmps127
   go_wp2
   go_ret
   exact ⟨by simp [*], rfl⟩
  ·rw [decide_eq_false (fun h => h2 h.2)]
   go_enter Tryz.func127, Tryz.ntmps127
   go_wp2
   go_ret
   exact ⟨by simp [*], rfl⟩
 ·rw [decide_eq_false (fun h => h1 h.1)]
  go_enter Tryz.func127, Tryz.ntmps127
  go_wp2
  go_ret
  exact ⟨by simp [*], rfl⟩
theorem hvalidator_any (x : Int) (w : World) : Calls Tryz.prog 71 #[.int .i64 x] w fun r w' => r = .returned (.bool (decide (0 ≤ x ∧ x < 32))) ∧ w' = w := by
 by_cases h1 : 0 ≤ x
 ·by_cases h2 : x < 32
  ·rw [decide_eq_true (And.intro h1 h2)]
   go_enter Tryz.func71, Tryz.ntmps71
   go_wp2
   go_ret
   exact ⟨by simp [*], rfl⟩
  ·rw [decide_eq_false (fun h => h2 h.2)]
   go_enter Tryz.func71, Tryz.ntmps71
   go_wp2
   go_ret
   exact ⟨by simp [*], rfl⟩
 ·rw [decide_eq_false (fun h => h1 h.1)]
  go_enter Tryz.func71, Tryz.ntmps71
  go_wp2
  go_ret
  exact ⟨by simp [*], rfl⟩
theorem hheight_any (x : Int) (w : World) : Calls Tryz.prog 72 #[.int .i64 x] w fun r w' => r = .returned (.bool (decide (1 ≤ x ∧ x ≤ 4294967296))) ∧ w' = w := by
 by_cases h1 : 1 ≤ x
 ·by_cases h2 : x ≤ 4294967296
  ·rw [decide_eq_true (And.intro h1 h2)]
   go_enter Tryz.func72, Tryz.ntmps72
   go_wp2
   go_ret
   exact ⟨by simp [*], rfl⟩
  ·rw [decide_eq_false (fun h => h2 h.2)]
   go_enter Tryz.func72, Tryz.ntmps72
   go_wp2
   go_ret
   exact ⟨by simp [*], rfl⟩
 ·rw [decide_eq_false (fun h => h1 h.1)]
  go_enter Tryz.func72, Tryz.ntmps72
  go_wp2
  go_ret
  exact ⟨by simp [*], rfl⟩
end
section
open Go.RowKit
def prK {α : Type} (key : α → List Int) (l : List α) (k : Nat) : Option (List Int) := if k = 0 then none else (l[k - 1]?).map key
theorem prK_succ {α : Type} {key : α → List Int} {l : List α} {k : Nat} {x : α} (h : l[k]? = some x) : prK key l (k + 1) = some (key x) := by
 unfold prK
 rw [if_neg (by omega), Nat.add_sub_cancel, h]
 rfl
theorem drop_at {α : Type} {l : List α} {k : Nat} {x : α} (h : l[k]? = some x) : l.drop k = x :: l.drop (k + 1) := by
 obtain ⟨hk, he⟩ := List.getElem?_eq_some_iff.1 h
 rw [List.drop_eq_getElem_cons hk, he]
def WdC (c : I6) : Prop := Word (toC c) ∧ Word (shC c)
def WdP (p : I6) : Prop := Word (shP p)
theorem addF_nn {α : Type} {f : α → Int} : ∀ {l : List α}, (∀ x ∈ l, 0 ≤ f x) → 0 ≤ addF f l
 | [], _ => by simp [addF]
 | x :: l, h => by
  rw [addF_cons]
  have := h x (List.mem_cons_self ..)
  have := addF_nn (l := l) (fun y hy => h y (List.mem_cons_of_mem _ hy))
  omega
theorem addF_take {α : Type} (f : α → Int) {l : List α} {k : Nat} {x : α} (h : l[k]? = some x) : addF f (l.take (k + 1)) = addF f (l.take k) + f x := by
 rw [List.take_add_one, h, addF_app]
 simp [addF]
theorem addF_le {α : Type} {f : α → Int} {l : List α} (h : ∀ x ∈ l, 0 ≤ f x) (k : Nat) : addF f (l.take k) ≤ addF f l := by
 have e : addF f l = addF f (l.take k) + addF f (l.drop k) := by rw [← addF_app, List.take_append_drop]
 have := addF_nn (f := f) (l := l.drop k) (fun x hx => h x (List.mem_of_mem_drop hx))
 omega
structure ClsI (l : List I6) (k : Nat) (o : Bool) (a : Int) : Prop where
 go : clsGo none l = clsGo (prK kC l k) (l.drop k)
 wa : Word a
 no : o = false → a = totC (l.take k) ∧ a ≤ 4611686018427387904
 yes : o = true → 4611686018427387904 < totC (l.take k)
theorem ClsI.start (l : List I6) : ClsI l 0 false 0 :=
 ⟨rfl, ⟨by decide, by decide⟩, fun _ => ⟨rfl, by decide⟩, fun h => by cases h⟩
theorem ClsI.next {l : List I6} {k : Nat} {o o' : Bool} {a : Int} {x : I6} (h : ClsI l k o a) (hx : l[k]? = some x) (hw : ∀ y ∈ l, WdC y) (h1 : clsOne (prK kC l k) x = 0) (ho : o' = true ↔ o = true ∨ addE a (toC x) ≠ 0 ∨ 4611686018427387904 < addN a (toC x)) : ClsI l (k + 1) o' (addN a (toC x)) := by
 have hxw := (hw x (List.mem_of_getElem? hx)).1
 have ht : totC (l.take (k + 1)) = totC (l.take k) + toC x := addF_take toC hx
 have hnn : 0 ≤ totC (l.take k) := addF_nn (fun y hy => (hw y (List.mem_of_mem_take hy)).1.1)
 have hwa := h.wa
 refine ⟨?_, ?_, ?_, ?_⟩
 ·rw [h.go, drop_at hx, prK_succ hx]
  show (if clsOne (prK kC l k) x ≠ 0 then _ else _) = _
  rw [if_neg (by simpa using h1)]
 ·unfold addN
  split
  ·exact ⟨by have := hwa.1; have := hxw.1; omega, by assumption⟩
  ·exact ⟨by decide, by decide⟩
 ·intro hf
  have hn : ¬ (o = true ∨ addE a (toC x) ≠ 0 ∨ 4611686018427387904 < addN a (toC x)) := fun hh => by rw [ho.2 hh] at hf; cases hf
  simp only [not_or] at hn
  obtain ⟨n1, n2, n3⟩ := hn
  have := (h.no (by simpa using n1)).1
  have h5 : a + toC x < 18446744073709551616 := by
   unfold addE at n2
   by_cases h6 : a + toC x < 18446744073709551616
   ·exact h6
   ·rw [if_neg h6] at n2; simp at n2
  have e : addN a (toC x) = a + toC x := if_pos h5
  rw [e] at n3 ⊢
  exact ⟨by omega, by omega⟩
 ·intro hf
  rcases ho.1 hf with h2 | h2
  ·have := h.yes h2
   have := hxw.1
   omega
  ·cases o with
   | true =>
    have := h.yes rfl
    have := hxw.1
    omega
   | false =>
    have h3 := (h.no rfl).1
    rcases h2 with h2 | h2
    ·unfold addE at h2
     split at h2
     ·simp at h2
     ·omega
    ·unfold addN at h2
     split at h2
     ·omega
     ·omega
theorem ClsI.fail {l : List I6} {k : Nat} {o : Bool} {a v : Int} {x : I6} (h : ClsI l k o a) (hn : l.length ≤ 1024) (hx : l[k]? = some x) (h1 : clsOne (prK kC l k) x = v) (hv : v ≠ 0) : v = clsV l := by
 have e : clsGo none l = v := by
  rw [h.go, drop_at hx]
  show (if clsOne (prK kC l k) x ≠ 0 then _ else _) = _
  rw [if_pos (by rw [h1]; exact hv), h1]
 unfold clsV
 rw [if_neg (by omega), e, if_pos hv]
theorem ClsI.done {l : List I6} {k : Nat} {o : Bool} {a : Int} (h : ClsI l k o a) (hn : l.length ≤ 1024) (hk : l.length ≤ k) : (if o = true then 12 else 0) = clsV l := by
 have e : clsGo none l = 0 := by
  rw [h.go, List.drop_of_length_le hk]
  unfold clsGo
  cases prK kC l k <;> rfl
 have ht : l.take k = l := List.take_of_length_le hk
 symm
 unfold clsV
 rw [if_neg (by omega), e, if_neg (by simp)]
 cases o with
 | true =>
  have := h.yes rfl
  rw [ht] at this
  rw [if_neg (by omega)]
  rfl
 | false =>
  have := h.no rfl
  rw [ht] at this
  rw [if_pos (by omega)]
  rfl
theorem clsOne_range {pr : Option (List Int)} {c : I6} (h : chkS c.1 c.2.1 c.2.2.1 c.2.2.2.1 ≠ 0) : clsOne pr c = 3 := if_pos h
theorem clsOne_order {pr : Option (List Int)} {c : I6} (h : chkS c.1 c.2.1 c.2.2.1 c.2.2.2.1 = 0) (h2 : prevGe pr (kC c) = true) : clsOne pr c = 9 := by
 unfold clsOne
 rw [if_neg (by simpa using h), if_pos h2]
theorem clsOne_pool {pr : Option (List Int)} {c : I6} (h : chkS c.1 c.2.1 c.2.2.1 c.2.2.2.1 = 0) (h2 : prevGe pr (kC c) = false) (h3 : chkE (toC c) (shC c) ≠ 0) : clsOne pr c = chkE (toC c) (shC c) := by
 unfold clsOne
 rw [if_neg (by simpa using h), if_neg (by simp [h2]), if_pos h3]
theorem clsOne_state {pr : Option (List Int)} {c : I6} (h : chkS c.1 c.2.1 c.2.2.1 c.2.2.2.1 = 0) (h2 : prevGe pr (kC c) = false) (h3 : chkE (toC c) (shC c) = 0) (h4 : toC c = 0 ∧ shC c = 0) : clsOne pr c = 11 := by
 unfold clsOne
 rw [if_neg (by simpa using h), if_neg (by simp [h2]), if_neg (by simpa using h3), if_pos h4]
theorem clsOne_ok {pr : Option (List Int)} {c : I6} (h : chkS c.1 c.2.1 c.2.2.1 c.2.2.2.1 = 0) (h2 : prevGe pr (kC c) = false) (h3 : chkE (toC c) (shC c) = 0) (h4 : ¬ (toC c = 0 ∧ shC c = 0)) : clsOne pr c = 0 := by
 unfold clsOne
 rw [if_neg (by simpa using h), if_neg (by simp [h2]), if_neg (by simpa using h3), if_neg h4]
theorem clsGo_sort : ∀ {l : List I6} {pr : Option (List Int)}, clsGo pr l = 0 → SortK kC l ∧ ∀ p, pr = some p → p.length = 4 → ∀ y ∈ l, cmpK p (kC y) < 0
 | [], _, _ => ⟨List.Pairwise.nil, fun _ _ _ y hy => by simp at hy⟩
 | x :: l, pr, h => by
  unfold clsGo at h
  by_cases h1 : clsOne pr x = 0
  ·rw [if_neg (by simpa using h1)] at h
   obtain ⟨hs, hp⟩ := clsGo_sort h
   have hx : ∀ y ∈ l, cmpK (kC x) (kC y) < 0 := hp _ rfl rfl
   refine ⟨List.pairwise_cons.2 ⟨hx, hs⟩, fun p hp4 hl y hy => ?_⟩
   have hpx : cmpK p (kC x) < 0 := by
    by_cases hlt : cmpK p (kC x) < 0
    ·exact hlt
    ·exfalso
     have : prevGe pr (kC x) = true := by rw [hp4]; exact decide_eq_true (by omega)
     unfold clsOne at h1
     by_cases hs : chkS x.1 x.2.1 x.2.2.1 x.2.2.2.1 ≠ 0
     ·rw [if_pos hs] at h1; omega
     ·rw [if_neg hs, if_pos this] at h1; omega
   rcases List.mem_cons.1 hy with rfl | hy
   ·exact hpx
   ·exact cmpK_trans (by rw [hl, kC_len]) (by rw [kC_len, kC_len]) hpx (hx y hy)
  ·rw [if_pos h1] at h
   exact absurd h h1
theorem clsV_sort {l : List I6} (h : clsV l = 0) : SortK kC l := by
 unfold clsV at h
 split at h
 ·omega
 ·by_cases h1 : clsGo none l = 0
  ·exact (clsGo_sort h1).1
  ·rw [if_pos h1] at h
   exact absurd h h1
structure PosI (cl ps : List I6) (k : Nat) (wr : Bool) (held : List Int) : Prop where
 len : held.length = cl.length
 wo : ∀ y ∈ held, Word y
 go : SortK kC cl → posGo cl none ps = posGo cl (prK kP ps k) (ps.drop k)
 no : SortK kC cl → wr = false → ∀ (i : Nat) c, cl[i]? = some c → held[i]? = some (shO (ps.take k) (kC c))
 yes : SortK kC cl → wr = true → ∃ c ∈ cl, 18446744073709551616 ≤ shO (ps.take k) (kC c)
theorem shO_take {ps : List I6} {k : Nat} {x : I6} (h : ps[k]? = some x) (q : List Int) : shO (ps.take (k + 1)) q = shO (ps.take k) q + if stP x = q then shP x else 0 := by
 unfold shO
 rw [List.take_add_one, h, List.filter_append, addF_app]
 congr 1
 by_cases h2 : stP x = q
 ·rw [if_pos h2]
  simp [h2, addF]
 ·rw [if_neg h2]
  simp [h2, addF]
theorem PosI.start (cl ps : List I6) : PosI cl ps 0 false (List.replicate cl.length 0) := by
 refine ⟨List.length_replicate, fun y hy => ?_, fun _ => rfl, fun _ _ i c hc => ?_, fun _ h => by cases h⟩
 ·rw [(List.mem_replicate.1 hy).2]; exact ⟨by decide, by decide⟩
 ·rw [List.getElem?_replicate, if_pos (List.getElem?_eq_some_iff.1 hc).1]
  rfl
theorem found_key {cl : List I6} {q : List Int} {m : Nat} (hf : Found cl (fun x => cmpK (kC x) q) m true) (hq : q.length = 4) : ∃ c, cl[m]? = some c ∧ kC c = q := by
 obtain ⟨c, hc, h0⟩ := hf.2.1.1 rfl
 exact ⟨c, hc, cmpK_zero (by rw [kC_len, hq]) h0⟩
theorem sort_inj {cl : List I6} (hs : SortK kC cl) {i j : Nat} {c d : I6} (hi : cl[i]? = some c) (hj : cl[j]? = some d) (h : kC c = kC d) : i = j := by
 obtain ⟨hi1, rfl⟩ := List.getElem?_eq_some_iff.1 hi
 obtain ⟨hj1, rfl⟩ := List.getElem?_eq_some_iff.1 hj
 rcases Nat.lt_trichotomy i j with hlt | heq | hgt
 ·have := List.pairwise_iff_getElem.1 hs i j hi1 hj1 hlt
  rw [h, cmpK_self] at this
  omega
 ·exact heq
 ·have := List.pairwise_iff_getElem.1 hs j i hj1 hi1 hgt
  rw [h, cmpK_self] at this
  omega
theorem PosI.next {cl ps : List I6} {k m : Nat} {wr wr' : Bool} {held : List Int} {y : Int} {x : I6} (h : PosI cl ps k wr held) (hx : ps[k]? = some x) (hw : ∀ z ∈ ps, WdP z) (h1 : SortK kC cl → posOne cl (prK kP ps k) x = 0) (hf : Found cl (fun c => cmpK (kC c) (stP x)) m true) (hy : held[m]? = some y) (ho : wr' = true ↔ wr = true ∨ addE y (shP x) ≠ 0) : PosI cl ps (k + 1) wr' (held.set m (addN y (shP x))) := by
 have hxw : Word (shP x) := hw x (List.mem_of_getElem? hx)
 have hyw := h.wo y (List.mem_of_getElem? hy)
 obtain ⟨c, hc, hk⟩ := found_key hf rfl
 refine ⟨by rw [List.length_set, h.len], fun z hz => ?_, fun hs => ?_, fun hs hf2 i d hd => ?_, fun hs hf2 => ?_⟩
 ·rcases List.mem_or_eq_of_mem_set hz with hz | rfl
  ·exact h.wo z hz
  ·unfold addN
   split
   ·exact ⟨by have := hyw.1; have := hxw.1; omega, by assumption⟩
   ·exact ⟨by decide, by decide⟩
 ·rw [h.go hs, drop_at hx, prK_succ hx]
  show (if posOne cl (prK kP ps k) x ≠ 0 then _ else _) = _
  rw [if_neg (by simpa using h1 hs)]
 ·have hn : ¬ (wr = true ∨ addE y (shP x) ≠ 0) := fun hh => by rw [ho.2 hh] at hf2; cases hf2
  simp only [not_or] at hn
  obtain ⟨n1, n2⟩ := hn
  have h5 : y + shP x < 18446744073709551616 := by
   unfold addE at n2
   by_cases h6 : y + shP x < 18446744073709551616
   ·exact h6
   ·rw [if_neg h6] at n2; simp at n2
  have e : addN y (shP x) = y + shP x := if_pos h5
  have hh := h.no hs (by simpa using n1)
  rw [shO_take hx]
  by_cases hi : i = m
  ·subst hi
   rw [hc] at hd
   obtain rfl : c = d := Option.some.inj hd
   rw [if_pos hk.symm, e, List.getElem?_set_self (List.getElem?_eq_some_iff.1 hy).1]
   have := hh i c hc
   rw [hy] at this
   rw [Option.some.inj this]
  ·rw [if_neg (fun e => hi (sort_inj hs hd hc (by rw [hk, e]))), Int.add_zero, List.getElem?_set_ne (fun e => hi e.symm)]
   exact hh i d hd
 ·rcases ho.1 hf2 with h2 | h2
  ·obtain ⟨d, hd, hdl⟩ := h.yes hs h2
   refine ⟨d, hd, ?_⟩
   rw [shO_take hx]
   split
   ·have := hxw.1; omega
   ·omega
  ·cases wr with
   | true =>
    obtain ⟨d, hd, hdl⟩ := h.yes hs rfl
    refine ⟨d, hd, ?_⟩
    rw [shO_take hx]
    split
    ·have := hxw.1; omega
    ·omega
   | false =>
    have hh := h.no hs rfl m c hc
    rw [hy] at hh
    have hy2 := Option.some.inj hh
    refine ⟨c, List.mem_of_getElem? hc, ?_⟩
    rw [shO_take hx, if_pos hk.symm, ← hy2]
    unfold addE at h2
    split at h2
    ·simp at h2
    ·omega
theorem PosI.fail {cl ps : List I6} {k : Nat} {wr : Bool} {held : List Int} {v : Int} {x : I6} (h : PosI cl ps k wr held) (hx : ps[k]? = some x) (h1 : SortK kC cl → posOne cl (prK kP ps k) x = v) (hv : v ≠ 0) : SortK kC cl → v = posV cl ps := by
 intro hs
 have e : posGo cl none ps = v := by
  rw [h.go hs, drop_at hx]
  show (if posOne cl (prK kP ps k) x ≠ 0 then _ else _) = _
  rw [if_pos (by rw [h1 hs]; exact hv), h1 hs]
 unfold posV
 rw [e, if_pos hv]
theorem posOne_range {cl : List I6} {pr : Option (List Int)} {p : I6} (h : ¬ (0 ≤ p.1 ∧ p.1 < 64)) : posOne cl pr p = 3 := if_pos (by omega)
theorem posOne_order {cl : List I6} {pr : Option (List Int)} {p : I6} (h : 0 ≤ p.1 ∧ p.1 < 64) (h2 : prevGe pr (kP p) = true) : posOne cl pr p = 9 := by
 unfold posOne
 rw [if_neg (by omega), if_pos h2]
theorem posOne_dust {cl : List I6} {pr : Option (List Int)} {p : I6} (h : 0 ≤ p.1 ∧ p.1 < 64) (h2 : prevGe pr (kP p) = false) (h3 : shP p = 0) : posOne cl pr p = 14 := by
 unfold posOne
 rw [if_neg (by omega), if_neg (by simp [h2]), if_pos h3]
theorem posOne_unknown {cl : List I6} {pr : Option (List Int)} {p : I6} {m : Nat} (hf : Found cl (fun c => cmpK (kC c) (stP p)) m false) (h : 0 ≤ p.1 ∧ p.1 < 64) (h2 : prevGe pr (kP p) = false) (h3 : shP p ≠ 0) : SortK kC cl → posOne cl pr p = 10 := by
 intro hs
 have hb := (hf.sorted kC_len rfl hs).2
 unfold posOne
 rw [if_neg (by omega), if_neg (by simp [h2]), if_neg h3, if_pos (by rw [← Option.not_isSome, ← hb]; rfl)]
theorem posOne_ok {cl : List I6} {pr : Option (List Int)} {p : I6} {m : Nat} (hf : Found cl (fun c => cmpK (kC c) (stP p)) m true) (h : 0 ≤ p.1 ∧ p.1 < 64) (h2 : prevGe pr (kP p) = false) (h3 : shP p ≠ 0) : SortK kC cl → posOne cl pr p = 0 := by
 intro hs
 have hb := (hf.sorted kC_len rfl hs).2
 unfold posOne
 rw [if_neg (by omega), if_neg (by simp [h2]), if_neg h3, if_neg (by rw [← Option.not_isSome, ← hb]; decide)]
def WrI (cl : List I6) (held : List Int) (wr : Bool) (k : Nat) (b : Bool) : Prop := b = true ↔ wr = true ∨ ∃ (j : Nat) (c : I6) (y : Int), j < k ∧ cl[j]? = some c ∧ held[j]? = some y ∧ y ≠ shC c
theorem WrI.start (cl : List I6) (held : List Int) (wr : Bool) : WrI cl held wr 0 wr := by
 unfold WrI
 constructor
 ·exact fun h => .inl h
 ·rintro (h | ⟨j, c, y, hj, _⟩)
  ·exact h
  ·omega
theorem WrI.next {cl : List I6} {held : List Int} {wr b b' : Bool} {k : Nat} {c : I6} {y : Int} (h : WrI cl held wr k b) (hc : cl[k]? = some c) (hy : held[k]? = some y) (hb : b' = true ↔ b = true ∨ y ≠ shC c) : WrI cl held wr (k + 1) b' := by
 unfold WrI at h ⊢
 rw [hb, h]
 constructor
 ·rintro ((h1 | ⟨j, d, z, hj, h2, h3, h4⟩) | h5)
  ·exact .inl h1
  ·exact .inr ⟨j, d, z, by omega, h2, h3, h4⟩
  ·exact .inr ⟨k, c, y, by omega, hc, hy, h5⟩
 ·rintro (h1 | ⟨j, d, z, hj, h2, h3, h4⟩)
  ·exact .inl (.inl h1)
  ·by_cases he : j = k
   ·subst he
    rw [hc] at h2
    rw [hy] at h3
    rw [Option.some.inj h2, Option.some.inj h3]
    exact .inr h4
   ·exact .inl (.inr ⟨j, d, z, by omega, h2, h3, h4⟩)
theorem PosI.done {cl ps : List I6} {k : Nat} {wr b : Bool} {held : List Int} (h : PosI cl ps k wr held) (hw : ∀ c ∈ cl, WdC c) (hk : ps.length ≤ k) (hb : WrI cl held wr cl.length b) : SortK kC cl → (if b = true then 11 else 0) = posV cl ps := by
 intro hs
 have ht : ps.take k = ps := List.take_of_length_le hk
 have e : posGo cl none ps = 0 := by
  rw [h.go hs, List.drop_of_length_le hk]
  unfold posGo
  cases prK kP ps k <;> rfl
 symm
 unfold posV
 rw [e, if_neg (by simp)]
 have key : b = true ↔ ¬ cl.all (fun c => decide (shO ps (kC c) = shC c)) = true := by
  rw [show _ ↔ _ from hb, List.all_eq_true]
  simp only [decide_eq_true_eq, Classical.not_forall]
  cases wr with
  | true =>
   obtain ⟨c, hc, hl⟩ := h.yes hs rfl
   rw [ht] at hl
   refine ⟨fun _ => ⟨c, hc, fun e => ?_⟩, fun _ => .inl rfl⟩
   have := (hw c hc).2.2
   omega
  | false =>
   have hh := h.no hs rfl
   rw [ht] at hh
   constructor
   ·rintro (h1 | ⟨j, c, y, hj, h2, h3, h4⟩)
    ·cases h1
    ·refine ⟨c, List.mem_of_getElem? h2, fun e => h4 ?_⟩
     have := hh j c h2
     rw [h3] at this
     rw [Option.some.inj this, e]
   ·rintro ⟨c, hc, hne⟩
    obtain ⟨j, hj⟩ := List.getElem?_of_mem hc
    exact .inr ⟨j, c, _, (List.getElem?_eq_some_iff.1 hj).1, hj, hh j c hj, hne⟩
 cases b with
 | true => rw [if_neg (key.1 rfl), if_pos rfl]
 | false =>
  rw [if_pos, if_neg (by simp)]
  by_cases hc : cl.all (fun c => decide (shO ps (kC c) = shC c)) = true
  ·exact hc
  ·exact absurd (key.2 hc) (by simp)
theorem chkH_of {cl ps : List I6} {v : Int} (h : SortK kC cl → v = posV cl ps) : (if clsV cl ≠ 0 then clsV cl else v) = chkH cl ps := by
 unfold chkH
 by_cases hc : clsV cl = 0
 ·rw [if_neg (by simpa using hc), if_neg (by simpa using hc), h (clsV_sort hc)]
 ·rw [if_pos hc, if_pos hc]
end
section
open Go.RowKit Go.ChangeShapes Go.WideShapes Go.Deep Go.Joins
theorem pol_eq (x0 x1 y0 y1 : Int) (w : World) : (binOp .eql 61 (.agg #[.int .u64 x0, .int .u64 x1]) (.agg #[.int .u64 y0, .int .u64 y1])).run Tryz.prog w = .ok (.bool (x0 == y0 && x1 == y1)) w := by
 have hS : Tryz.prog.underlying 61 = some (.struct (Tryz.prog.fieldsOf 61)) := by kernel_rfl
 have hp : Tryz.prog.stoodInHeld 61 = false := by kernel_rfl
 rw [run_eql_struct, show (10000 : Nat) = 9999 + 1 from rfl, run_equalIn_agg w 9999 61 _ _ hS hp]
 simp only [Program.fieldsOf, Tryz.underlying61]
 go_simp
 by_cases h0 : x0 = y0 <;> by_cases h1 : x1 = y1 <;> simp [h0, h1]
theorem pol_eqg (op : BinOp) (x y : Operand) (xs ys : Array Value) (w : World) : (eqGuard op 61 x y (.agg xs) (.agg ys)).run Tryz.prog w = .ok () w := run_eqGuard_agg w op 61 x y xs ys (by kernel_rfl)
theorem stm_eq (x0 x1 x2 x3 y0 y1 y2 y3 : Int) (w : World) : (binOp .eql 37 (.agg #[.int .i64 x0, .int .i64 x1, .int .i64 x2, .int .i64 x3]) (.agg #[.int .i64 y0, .int .i64 y1, .int .i64 y2, .int .i64 y3])).run Tryz.prog w = .ok (.bool (x0 == y0 && x1 == y1 && x2 == y2 && x3 == y3)) w := by
 have hS : Tryz.prog.underlying 37 = some (.struct (Tryz.prog.fieldsOf 37)) := by kernel_rfl
 have hp : Tryz.prog.stoodInHeld 37 = false := by kernel_rfl
 rw [run_eql_struct, show (10000 : Nat) = 9999 + 1 from rfl, run_equalIn_agg w 9999 37 _ _ hS hp]
 simp only [Program.fieldsOf, Tryz.underlying37]
 go_simp
 by_cases h0 : x0 = y0 <;> by_cases h1 : x1 = y1 <;> by_cases h2 : x2 = y2 <;> by_cases h3 : x3 = y3 <;> simp [h0, h1, h2, h3]
theorem stm_eqg (op : BinOp) (x y : Operand) (xs ys : Array Value) (w : World) : (eqGuard op 37 x y (.agg xs) (.agg ys)).run Tryz.prog w = .ok () w := run_eqGuard_agg w op 37 x y xs ys (by kernel_rfl)
theorem four_true {a b c d a' b' c' d' : Int} (h : a = a' ∧ b = b' ∧ c = c' ∧ d = d') : (a == a' && b == b' && c == c' && d == d') = true := by simp [h]
theorem four_false {a b c d a' b' c' d' : Int} (h : ¬ (a = a' ∧ b = b' ∧ c = c' ∧ d = d')) : (a == a' && b == b' && c == c' && d == d') = false := by
 cases hq : (a == a' && b == b' && c == c' && d == d')
 ·rfl
 ·exfalso; apply h; simpa [and_assoc] using hq
theorem two_true {a b a' b' : Int} (h : a = a' ∧ b = b') : (a == a' && b == b') = true := by simp [h]
theorem two_false {a b a' b' : Int} (h : ¬ (a = a' ∧ b = b')) : (a == a' && b == b') = false := by
 cases hq : (a == a' && b == b')
 ·rfl
 ·exfalso; apply h; simpa using hq
theorem hbclasses_any (q : Nat) (A : Option Addr) (n c : Nat) (l : List I6) (w : World) (h : Sl w 6 A n c (l.flatMap clsC)) (hn : n < 1099511627776) (hw : ∀ x ∈ l, WdC x) (q_0 : w.cell? ⟨q, 0, none⟩ = some (.slice A n c)) :
  Calls Tryz.prog 124 #[.pointer (some ⟨q, 0, none⟩)] w fun r w' => r = .returned (.int .i64 (clsV l)) ∧ Ext w w' := by
 have hll := h.rlen clsC_len (by decide)
 have hq := cell_lt q_0
 by_cases hL : 1024 < n
 ·have hV : 4 = clsV l := by unfold clsV; rw [if_pos (by omega)]
  rw [← hV]
  have hL2 : (1024 : Int) < (n : Int) := by omega
  clear h hll hw hV
  go_enter Tryz.func124, Tryz.ntmps124
  go_wp2
  go_ret
  exact ⟨rfl, Ext.refl _⟩
 have hL2 : ¬ (1024 : Int) < (n : Int) := by omega
 have HS := Lib.hid h
 have HW := Lib.hid hw
 have HLL := Lib.hid (And.intro hll hL)
 have Q0 := Lib.hid q_0
 have pq1 := pol_eq
 have pq2 := pol_eqg
 clear h hw hll hL
 go_enter Tryz.func124, Tryz.ntmps124
 go_wp2
 go_loopg [3, 4, 23] n (fun gh o a i wx => gh ≤ n ∧ i = .int .i64 ((n - gh : Nat) : Int) ∧ (∃ ov al, o = .bool ov ∧ a = .int .u64 al ∧ Hid (ClsI l (n - gh) ov al)) ∧ Hid (Ext w wx))
 case atStart => exact ⟨Nat.le_refl _, by simp, ⟨false, 0, rfl, rfl, by rw [Nat.sub_self]; exact Lib.hid (ClsI.start l)⟩, Lib.hid (Ext.refl _)⟩
 case round =>
  obtain ⟨hg, hi, ⟨ov, al, rfl, rfl, HI⟩, XR⟩ := hrel
  obtain ⟨k, hk⟩ : ∃ k, k = n - gk := ⟨_, rfl⟩
  rw [← hk] at hi HI
  subst hi
  clear q_0
  have q_0 := XR.out.has Q0.out
  by_cases hz : gk = 0
  ·have hkn : ¬ (k : Int) < (n : Int) := by omega
   have HD := Lib.hid (HI.out.done (by have := HLL.out; omega) (by have := HLL.out; omega))
   clear hk hg hz HI
   cases ov
   ·go_wp2
    go_ret
    exact ⟨ret_int HD.out, XR.out⟩
   ·go_wp2
    go_ret
    exact ⟨ret_int HD.out, XR.out⟩
  ·have hkn : (k : Int) < (n : Int) := by omega
   have hkl : k < l.length := by have := HLL.out; omega
   have HSr := Lib.hid (HS.out.ext XR.out)
   obtain ⟨b1, o1, rfl, hb1, hc_x⟩ := HSr.out.rec_ clsC_len (show 0 < n from by omega)
   obtain ⟨xw, hl_x⟩ : ∃ x, l[k]? = some x := ⟨_, List.getElem?_eq_getElem (by omega)⟩
   have x_0 := hc_x (k) xw hl_x 0 _ rfl
   have x_1 := hc_x (k) xw hl_x 1 _ rfl
   have x_2 := hc_x (k) xw hl_x 2 _ rfl
   have x_3 := hc_x (k) xw hl_x 3 _ rfl
   have x_4 := hc_x (k) xw hl_x 4 _ rfl
   have x_5 := hc_x (k) xw hl_x 5 _ rfl
   obtain ⟨xv, xs, xp, xf, xt, xh⟩ := xw
   simp only at x_0 x_1 x_2 x_3 x_4 x_5
   rw [Nat.add_zero] at x_0
   rw [← Nat.add_assoc] at x_1 x_2 x_3 x_4 x_5
   have hwx := HW.out _ (List.mem_of_getElem? hl_x)
   have CS := Lib.hid (fun w => SCheck_any xt xh hwx.1 hwx.2 w)
   obtain ⟨ES, hES⟩ : ∃ ES, ES = chkS xv xs xp xf := ⟨_, rfl⟩
   have CT := Lib.hid (fun w => tCheck_any xv xs xp xf w)
   rw [← hES] at CT
   obtain ⟨EP, hEP⟩ : ∃ EP, EP = chkE xt xh := ⟨_, rfl⟩
   rw [← hEP] at CS
   have CA := Lib.hid (fun w => fAdd_any al xt HI.out.wa hwx.1 w)
   obtain ⟨N, hN⟩ : ∃ N, N = addN al xt := ⟨_, rfl⟩
   obtain ⟨EA, hEA⟩ : ∃ EA, EA = addE al xt := ⟨_, rfl⟩
   rw [← hN, ← hEA] at CA
   have HK := Lib.hid (And.intro hk (And.intro hg hz))
   have HX := Lib.hid (And.intro hl_x (And.intro hES (And.intro hEP (And.intro hN hEA))))
   have hb1s : ¬ b1 = wr.heap.size := by omega
   have hqr : q < wr.heap.size := cell_lt q_0
   have hqs : ¬ q = wr.heap.size := by omega
   by_cases hk0 : k = 0
   ·subst hk0
    have HI := HI
    have HP := Lib.hid (show prevGe (prK kC l 0) [xv, xs, xp, xf] = false from rfl)
    clear hk hg hz hkl hl_x hwx hES hEP hN hEA hc_x HSr
    simp only [Nat.zero_mul, Nat.add_zero] at x_0 x_1 x_2 x_3 x_4 x_5
    simp only [Int.cast_ofNat_Int] at hkn ⊢
    go_wp2_with fail
    (with_reducible refine (CT.out _).mono ?_)
    rintro e w11 ⟨rfl, hx11⟩
    have c0_4 : w11.cell? ⟨wr.heap.size, 4, none⟩ = some (.int .u64 xt) := hx11.has zcv
    have c0_5 : w11.cell? ⟨wr.heap.size, 5, none⟩ = some (.int .u64 xh) := hx11.has zcv
    have z11 := hx11.size
    try simp at z11
    have rc0 := zr wr.heap.size w11
    have X11 : Hid (Ext w w11) := Lib.hid (Ext.trans zxt hx11)
    clear x_2 x_1 x_4 x_5 x_3 x_0 q_0 XR hx11 z11
    by_cases q3 : ¬ ES = 0
    ·have q3b : (ES != 0) = true := by simp [q3]
     have HV := Lib.hid (HI.out.fail (by have := HLL.out; omega) HX.out.1 (v := 3) (clsOne_range (show chkS xv xs xp xf ≠ 0 from by rw [← HX.out.2.1]; exact q3)) (by first | decide | assumption))
     go_wp2_with fail
     go_ret
     exact ⟨ret_int HV.out, zxt⟩
    ·have q3b : (ES != 0) = false := by simpa using q3
     have q3c : ES = 0 := by omega
     go_wp2_with fail
     refine wp_region_held_drew (S := fun w' => True) (by kernel_rfl) (by first | exact trivial | (simp [go_sem, World.cell?_alloc_past, *]; done)) (fun hHeld => ?_)
     refine' zt 0 ?_
     refine' zt 1 ?_
     refine' zt 2 ?_
     refine' zs 3 ?_
     refine' zs 4 ?_
     refine' zs 5 ?_
     refine' zs 6 ?_
     refine' zs 7 ?_
     refine' zs 8 ?_
     refine' zs 9 ?_
     refine' zs 10 ?_
     refine' zs 11 ?_
     refine' zs 12 ?_
     refine' zs 13 ?_
     refine' zs 14 ?_
     refine' zs 15 ?_
     refine' zs 16 ?_
     refine' zt 17 ?_
     refine' zt 18 ?_
     refine wpAnyH_done (by kernel_rfl) ?_ _
     go_wp2_with fail
     (with_reducible refine (CS.out _).mono ?_)
     rintro e w12 ⟨rfl, hx12⟩
     replace c0_4 := zh hx12 c0_4
     replace c0_5 := zh hx12 c0_5
     have z12 := hx12.size
     try simp at z12
     replace rc0 := zr wr.heap.size w12
     have X12 : Hid (Ext w w12) := Lib.hid (Ext.trans zxt hx12)
     clear X11 hx12 z12
     by_cases q5 : ¬ EP = 0
     ·have q5b : (EP != 0) = true := by simp [q5]
      have HV := Lib.hid (HI.out.fail (by have := HLL.out; omega) HX.out.1 (v := EP) ((clsOne_pool (c := (xv, xs, xp, xf, xt, xh)) (show chkS xv xs xp xf = 0 from by rw [← HX.out.2.1]; omega) HP.out (show chkE xt xh ≠ 0 from by rw [← HX.out.2.2.1]; exact q5)).trans HX.out.2.2.1.symm) (by first | decide | assumption))
      go_wp2_with fail
      go_ret
      exact ⟨ret_int HV.out, zxt⟩
     ·have q5b : (EP != 0) = false := by simpa using q5
      have q5c : EP = 0 := by omega
      by_cases q6 : xt = 0 ∧ xh = 0
      ·obtain ⟨q6a, q6b⟩ := q6
       have q6c : (xt == 0 && xh == 0) = true := two_true ⟨q6a, q6b⟩
       have HV := Lib.hid (HI.out.fail (by have := HLL.out; omega) HX.out.1 (v := 11) (clsOne_state (show chkS xv xs xp xf = 0 from by rw [← HX.out.2.1]; omega) HP.out (show chkE xt xh = 0 from by rw [← HX.out.2.2.1]; omega) ⟨q6a, q6b⟩) (by first | decide | assumption))
       go_wp2_with fail
       go_ret
       exact ⟨ret_int HV.out, zxt⟩
      ·have q6c : (xt == 0 && xh == 0) = false := two_false q6
       have HN := Lib.hid (fun o' (ho : o' = true ↔ ov = true ∨ EA ≠ 0 ∨ 4611686018427387904 < N) => (show ClsI l (0 + 1) o' N from by have hh := HI.out.next HX.out.1 HW.out (o' := o') (clsOne_ok (show chkS xv xs xp xf = 0 from by rw [← HX.out.2.1]; omega) HP.out (show chkE xt xh = 0 from by rw [← HX.out.2.2.1]; omega) q6) (by rw [show addE al (toC (xv, xs, xp, xf, xt, xh)) = EA from HX.out.2.2.2.2.symm, show addN al (toC (xv, xs, xp, xf, xt, xh)) = N from HX.out.2.2.2.1.symm]; exact ho); rw [show addN al (toC (xv, xs, xp, xf, xt, xh)) = N from HX.out.2.2.2.1.symm] at hh; exact hh))
       go_wp2_with fail
       (with_reducible refine (CA.out _).mono ?_)
       rintro e w13 ⟨rfl, hx13⟩
       have z13 := hx13.size
       try simp at z13
       have X13 : Hid (Ext w w13) := Lib.hid (Ext.trans zxt hx13)
       clear c0_5 c0_4 rc0 X12 hx13 z13
       rcases (show ov = true ∨ ov = false from by cases ov <;> simp) with rfl | rfl
       ·by_cases q7 : ¬ EA = 0
        ·have q7b : (EA != 0) = true := by simp [q7]
         go_wp2_with fail
         go_roundg (gk - 1)
         case measure => have := HK.out; omega
         case rel => exact ⟨by have := HK.out; omega, num_eq (by have := HK.out; omega), ⟨_, _, rfl, rfl, by rw [show n - (gk - 1) = 0 + 1 from by have := HK.out; omega]; exact Lib.hid (HN.out _ (by simp [*]))⟩, Lib.hid zxt⟩
        ·have q7b : (EA != 0) = false := by simpa using q7
         have q7c : EA = 0 := by omega
         go_wp2_with fail
         go_roundg (gk - 1)
         case measure => have := HK.out; omega
         case rel => exact ⟨by have := HK.out; omega, num_eq (by have := HK.out; omega), ⟨_, _, rfl, rfl, by rw [show n - (gk - 1) = 0 + 1 from by have := HK.out; omega]; exact Lib.hid (HN.out _ (by simp [*]))⟩, Lib.hid zxt⟩
       ·by_cases q7 : ¬ EA = 0
        ·have q7b : (EA != 0) = true := by simp [q7]
         go_wp2_with fail
         go_roundg (gk - 1)
         case measure => have := HK.out; omega
         case rel => exact ⟨by have := HK.out; omega, num_eq (by have := HK.out; omega), ⟨_, _, rfl, rfl, by rw [show n - (gk - 1) = 0 + 1 from by have := HK.out; omega]; exact Lib.hid (HN.out _ (by simp [*]))⟩, Lib.hid zxt⟩
        ·have q7b : (EA != 0) = false := by simpa using q7
         have q7c : EA = 0 := by omega
         go_wp2_with fail
         go_roundg (gk - 1)
         case measure => have := HK.out; omega
         case rel => exact ⟨by have := HK.out; omega, num_eq (by have := HK.out; omega), ⟨_, _, rfl, rfl, by rw [show n - (gk - 1) = 0 + 1 from by have := HK.out; omega]; exact Lib.hid (HN.out _ (by simp [*]))⟩, Lib.hid zxt⟩
   ·obtain ⟨m, rfl⟩ : ∃ m, k = m + 1 := ⟨k - 1, by omega⟩
    obtain ⟨yw, hl_y⟩ : ∃ x, l[m]? = some x := ⟨_, List.getElem?_eq_getElem (by omega)⟩
    have y_0 := hc_x m yw hl_y 0 _ rfl
    have y_1 := hc_x m yw hl_y 1 _ rfl
    have y_2 := hc_x m yw hl_y 2 _ rfl
    have y_3 := hc_x m yw hl_y 3 _ rfl
    obtain ⟨yv, ys, yp, yf, yt, yh⟩ := yw
    simp only at y_0 y_1 y_2 y_3
    rw [Nat.add_zero] at y_0
    rw [← Nat.add_assoc] at y_1 y_2 y_3
    obtain ⟨G, hG⟩ : ∃ G, G = cmpK [yv, ys, yp, yf] [xv, xs, xp, xf] := ⟨_, rfl⟩
    have HG := Lib.hid (show G = cmpL [(yv, xv), (ys, xs), (yp, xp), (yf, xf)] from hG)
    have HP := Lib.hid (show prevGe (prK kC l (m + 1)) [xv, xs, xp, xf] = decide (0 ≤ G) from by rw [prK_succ hl_y, hG]; rfl)
    have hm1 : (m : Int) + 1 - 1 = (m : Int) := by omega
    have hmd : decide ((0 : Int) < (m : Int) + 1) = true := decide_eq_true (by omega)
    have hmp : (0 : Int) < (m : Int) + 1 := by omega
    have hml : (m : Int) < (n : Int) := by omega
    have hmw : IntKind.i64.wrap (m : Int) = (m : Int) := IntWalk.i64_in _ (by omega)
    have hmw2 : IntKind.i64.wrap ((m : Int) + 1 - 1) = (m : Int) := by rw [hm1]; exact hmw
    have hms : m ≤ 9223372036854775806 := by omega
    clear hk hg hz hkl hl_x hl_y hwx hES hEP hN hEA hG hc_x HSr
    go_wp2_with fail
    (with_reducible refine (CT.out _).mono ?_)
    rintro e w11 ⟨rfl, hx11⟩
    replace y_0 := zh hx11 y_0
    replace y_1 := zh hx11 y_1
    replace y_2 := zh hx11 y_2
    replace y_3 := zh hx11 y_3
    replace q_0 := zh hx11 q_0
    have c0_0 : w11.cell? ⟨wr.heap.size, 0, none⟩ = some (.int .i64 xv) := hx11.has zcv
    have c0_1 : w11.cell? ⟨wr.heap.size, 1, none⟩ = some (.int .i64 xs) := hx11.has zcv
    have c0_2 : w11.cell? ⟨wr.heap.size, 2, none⟩ = some (.int .i64 xp) := hx11.has zcv
    have c0_3 : w11.cell? ⟨wr.heap.size, 3, none⟩ = some (.int .i64 xf) := hx11.has zcv
    have c0_4 : w11.cell? ⟨wr.heap.size, 4, none⟩ = some (.int .u64 xt) := hx11.has zcv
    have c0_5 : w11.cell? ⟨wr.heap.size, 5, none⟩ = some (.int .u64 xh) := hx11.has zcv
    have z11 := hx11.size
    try simp at z11
    have lt_y_c0 : b1 < wr.heap.size := by omega
    have ne_y_c0 : ¬ b1 = wr.heap.size := by omega
    have lt_q_c0 : q < wr.heap.size := by omega
    have ne_q_c0 : ¬ q = wr.heap.size := by omega
    have ne_c0_y : ¬ wr.heap.size = b1 := by omega
    have ne_c0_q : ¬ wr.heap.size = q := by omega
    have ry := zr b1 w11
    have rq := zr q w11
    have rc0 := zr wr.heap.size w11
    have X11 : Hid (Ext w w11) := Lib.hid (Ext.trans zxt hx11)
    clear x_2 x_1 x_4 x_5 x_3 x_0 XR hx11 z11
    by_cases q3 : ¬ ES = 0
    ·have q3b : (ES != 0) = true := by simp [q3]
     have HV := Lib.hid (HI.out.fail (by have := HLL.out; omega) HX.out.1 (v := 3) (clsOne_range (show chkS xv xs xp xf ≠ 0 from by rw [← HX.out.2.1]; exact q3)) (by first | decide | assumption))
     go_wp2_with fail
     go_ret
     exact ⟨ret_int HV.out, zxt⟩
    ·have q3b : (ES != 0) = false := by simpa using q3
     have q3c : ES = 0 := by omega
     go_wp2_with fail
     refine wp_region_held_drew (S := fun w' => w'.cell? ⟨wr.heap.size, 0, none⟩ = some (.int .i64 xv) ∧ w'.cell? ⟨wr.heap.size, 1, none⟩ = some (.int .i64 xs) ∧ w'.cell? ⟨wr.heap.size, 2, none⟩ = some (.int .i64 xp) ∧ w'.cell? ⟨wr.heap.size, 3, none⟩ = some (.int .i64 xf) ∧ w'.cell? ⟨q, 0, none⟩ = some (.slice (some ⟨b1, o1, none⟩) n c) ∧ w'.cell? ⟨b1, o1 + m * 6, none⟩ = some (.int .i64 yv) ∧ w'.cell? ⟨b1, o1 + m * 6 + 1, none⟩ = some (.int .i64 ys) ∧ w'.cell? ⟨b1, o1 + m * 6 + 2, none⟩ = some (.int .i64 yp) ∧ w'.cell? ⟨b1, o1 + m * 6 + 3, none⟩ = some (.int .i64 yf)) (by kernel_rfl) (by first | exact ⟨c0_0, c0_1, c0_2, c0_3, q_0, y_0, y_1, y_2, y_3⟩ | (simp [go_sem, World.cell?_alloc_past, *]; done)) (fun hHeld => ?_)
     refine' zt 0 ?_
     refine' zt 1 ?_
     refine' zt 2 ?_
     refine' zt 3 ?_
     refine' zt 4 ?_
     refine' zt 5 ?_
     refine' zt 6 ?_
     refine' zt 7 ?_
     refine' zt 8 ?_
     refine' zt 9 ?_
     refine' zt 10 ?_
     refine' zt 11 ?_
     refine' zt 12 ?_
     refine' zt 13 ?_
     refine' zt 14 ?_
     refine' zn 15 (fun K hK => ?_)
     go_simp
     (with_reducible refine (tCompare_at yv ys yp yf xv xs xp xf G _ HG.out).mono ?_)
     rintro e w12 ⟨rfl, hx12⟩
     replace y_0 := zh hx12 y_0
     replace y_1 := zh hx12 y_1
     replace y_2 := zh hx12 y_2
     replace y_3 := zh hx12 y_3
     replace q_0 := zh hx12 q_0
     replace c0_0 := zh hx12 c0_0
     replace c0_1 := zh hx12 c0_1
     replace c0_2 := zh hx12 c0_2
     replace c0_3 := zh hx12 c0_3
     replace c0_4 := zh hx12 c0_4
     replace c0_5 := zh hx12 c0_5
     have z12 := hx12.size
     try simp at z12
     replace ry := zr b1 w12
     replace rq := zr q w12
     replace rc0 := zr wr.heap.size w12
     have X12 : Hid (Ext w w12) := Lib.hid (Ext.trans zxt hx12)
     clear X11 hx12 z12
     refine' zk hK (by (first | exact ⟨c0_0, c0_1, c0_2, c0_3, q_0, y_0, y_1, y_2, y_3⟩ | (simp [go_sem, World.cell?_alloc_past, *]; done))) (fun hHeld => ?_); clear hK K
     refine' zt 16 ?_
     refine' zt 17 ?_
     refine' zt 18 ?_
     refine wpAnyH_done (by kernel_rfl) ?_ _
     by_cases q4 : 0 ≤ G
     ·have q4b : decide (0 ≤ G) = true := decide_eq_true q4
      have HV := Lib.hid (HI.out.fail (by have := HLL.out; omega) HX.out.1 (v := 9) (clsOne_order (show chkS xv xs xp xf = 0 from by rw [← HX.out.2.1]; omega) (HP.out.trans q4b)) (by first | decide | assumption))
      go_wp2_with fail
      go_ret
      exact ⟨ret_int HV.out, zxt⟩
     ·have q4b : decide (0 ≤ G) = false := decide_eq_false q4
      replace HP := Lib.hid (HP.out.trans q4b)
      go_wp2_with fail
      (with_reducible refine (CS.out _).mono ?_)
      rintro e w13 ⟨rfl, hx13⟩
      replace y_0 := zh hx13 y_0
      replace y_1 := zh hx13 y_1
      replace y_2 := zh hx13 y_2
      replace y_3 := zh hx13 y_3
      replace q_0 := zh hx13 q_0
      replace c0_0 := zh hx13 c0_0
      replace c0_1 := zh hx13 c0_1
      replace c0_2 := zh hx13 c0_2
      replace c0_3 := zh hx13 c0_3
      replace c0_4 := zh hx13 c0_4
      replace c0_5 := zh hx13 c0_5
      have z13 := hx13.size
      try simp at z13
      replace ry := zr b1 w13
      replace rq := zr q w13
      replace rc0 := zr wr.heap.size w13
      have X13 : Hid (Ext w w13) := Lib.hid (Ext.trans zxt hx13)
      clear X12 hx13 z13
      by_cases q5 : ¬ EP = 0
      ·have q5b : (EP != 0) = true := by simp [q5]
       have HV := Lib.hid (HI.out.fail (by have := HLL.out; omega) HX.out.1 (v := EP) ((clsOne_pool (c := (xv, xs, xp, xf, xt, xh)) (show chkS xv xs xp xf = 0 from by rw [← HX.out.2.1]; omega) HP.out (show chkE xt xh ≠ 0 from by rw [← HX.out.2.2.1]; exact q5)).trans HX.out.2.2.1.symm) (by first | decide | assumption))
       go_wp2_with fail
       go_ret
       exact ⟨ret_int HV.out, zxt⟩
      ·have q5b : (EP != 0) = false := by simpa using q5
       have q5c : EP = 0 := by omega
       by_cases q6 : xt = 0 ∧ xh = 0
       ·obtain ⟨q6a, q6b⟩ := q6
        have q6c : (xt == 0 && xh == 0) = true := two_true ⟨q6a, q6b⟩
        have HV := Lib.hid (HI.out.fail (by have := HLL.out; omega) HX.out.1 (v := 11) (clsOne_state (show chkS xv xs xp xf = 0 from by rw [← HX.out.2.1]; omega) HP.out (show chkE xt xh = 0 from by rw [← HX.out.2.2.1]; omega) ⟨q6a, q6b⟩) (by first | decide | assumption))
        go_wp2_with fail
        go_ret
        exact ⟨ret_int HV.out, zxt⟩
       ·have q6c : (xt == 0 && xh == 0) = false := two_false q6
        have HN := Lib.hid (fun o' (ho : o' = true ↔ ov = true ∨ EA ≠ 0 ∨ 4611686018427387904 < N) => (show ClsI l ((m + 1) + 1) o' N from by have hh := HI.out.next HX.out.1 HW.out (o' := o') (clsOne_ok (show chkS xv xs xp xf = 0 from by rw [← HX.out.2.1]; omega) HP.out (show chkE xt xh = 0 from by rw [← HX.out.2.2.1]; omega) q6) (by rw [show addE al (toC (xv, xs, xp, xf, xt, xh)) = EA from HX.out.2.2.2.2.symm, show addN al (toC (xv, xs, xp, xf, xt, xh)) = N from HX.out.2.2.2.1.symm]; exact ho); rw [show addN al (toC (xv, xs, xp, xf, xt, xh)) = N from HX.out.2.2.2.1.symm] at hh; exact hh))
        go_wp2_with fail
        (with_reducible refine (CA.out _).mono ?_)
        rintro e w14 ⟨rfl, hx14⟩
        have z14 := hx14.size
        try simp at z14
        have X14 : Hid (Ext w w14) := Lib.hid (Ext.trans zxt hx14)
        clear y_0 y_2 y_3 y_1 q_0 c0_0 c0_5 c0_4 c0_2 c0_3 c0_1 rq ry rc0 X13 hx14 z14
        rcases (show ov = true ∨ ov = false from by cases ov <;> simp) with rfl | rfl
        ·by_cases q7 : ¬ EA = 0
         ·have q7b : (EA != 0) = true := by simp [q7]
          go_wp2_with fail
          go_roundg (gk - 1)
          case measure => have := HK.out; omega
          case rel => exact ⟨by have := HK.out; omega, num_eq (by have := HK.out; omega), ⟨_, _, rfl, rfl, by rw [show n - (gk - 1) = (m + 1) + 1 from by have := HK.out; omega]; exact Lib.hid (HN.out _ (by simp [*]))⟩, Lib.hid zxt⟩
         ·have q7b : (EA != 0) = false := by simpa using q7
          have q7c : EA = 0 := by omega
          go_wp2_with fail
          go_roundg (gk - 1)
          case measure => have := HK.out; omega
          case rel => exact ⟨by have := HK.out; omega, num_eq (by have := HK.out; omega), ⟨_, _, rfl, rfl, by rw [show n - (gk - 1) = (m + 1) + 1 from by have := HK.out; omega]; exact Lib.hid (HN.out _ (by simp [*]))⟩, Lib.hid zxt⟩
        ·by_cases q7 : ¬ EA = 0
         ·have q7b : (EA != 0) = true := by simp [q7]
          go_wp2_with fail
          go_roundg (gk - 1)
          case measure => have := HK.out; omega
          case rel => exact ⟨by have := HK.out; omega, num_eq (by have := HK.out; omega), ⟨_, _, rfl, rfl, by rw [show n - (gk - 1) = (m + 1) + 1 from by have := HK.out; omega]; exact Lib.hid (HN.out _ (by simp [*]))⟩, Lib.hid zxt⟩
         ·have q7b : (EA != 0) = false := by simpa using q7
          have q7c : EA = 0 := by omega
          go_wp2_with fail
          go_roundg (gk - 1)
          case measure => have := HK.out; omega
          case rel => exact ⟨by have := HK.out; omega, num_eq (by have := HK.out; omega), ⟨_, _, rfl, rfl, by rw [show n - (gk - 1) = (m + 1) + 1 from by have := HK.out; omega]; exact Lib.hid (HN.out _ (by simp [*]))⟩, Lib.hid zxt⟩
end
section
open Go.RowKit Go.ChangeShapes Go.WideShapes Go.Deep
theorem infoWord : (Tryz.prog.info? 32).map (fun i => (i.zero, i.size, i.bytes)) = some (some (.int .u64 0), 1, 8) := by kernel_rfl
def OwnWord (w : World) (base : Nat) (v : Value) (n : Nat) (l : List Int) : Prop := w.ownsRow base 32 1 v n (iv .u64 l)
theorem OwnWord.ext {w w' : World} {base n : Nat} {v : Value} {l : List Int} (h : OwnWord w base v n l) (hx : Ext w w') : OwnWord w' base v n l := own_keep h hx
theorem OwnWord.sl {w : World} {base n c : Nat} {A : Option Addr} {l : List Int} (h : OwnWord w base (.slice A n c) n l) : Sl w 1 A n c (iv .u64 l) := Sl.own h
theorem OwnWord.in_ {w : World} {base n c : Nat} {A : Option Addr} {l : List Int} (h : OwnWord w base (.slice A n c) n l) : ∀ k o s, A = some ⟨k, o, s⟩ → base ≤ k ∧ k < w.heap.size := by
 intro k o s e'
 subst e'
 exact World.ownsRow.lt h k rfl
theorem OwnWord.nil (w : World) (base : Nat) : OwnWord w base (.slice none 0 0) 0 [] := World.ownsRow_nil _ _ _ _
def RetWord (l : List Int) (w : World) (e : Ending) (w' : World) : Prop := ∃ A c, e = .returned (.slice A l.length c) ∧ (A = none → c = 0) ∧ OwnWord w' w.heap.size (.slice A l.length c) l.length l ∧ Ext w w'
theorem RetWord.mk {l : List Int} {w w' : World} {v : Value} (h : w'.ownsRow w.heap.size 32 1 v l.length (iv .u64 l)) (hx : Ext w w') : RetWord l w (.returned v) w' := by
 obtain ⟨A, c, rfl, h1, h2⟩ := own_parts2 h
 exact ⟨A, c, rfl, h1, h, hx⟩
theorem own_but1Word {S : Nat → Prop} {w w' : World} {base sz n : Nat} {e : TypeId} {v : Value} {xs : List Value} (h : w.ownsRow base e sz v n xs) (hx : But S w w') (hS : ∀ j, v.ownBlock = some j → ¬ S j) : w'.ownsRow base e sz v n xs := by
 refine ⟨h.1, ?_⟩
 rcases h.2 with h2 | ⟨r, cap, cur, e', hr, hr2, rest⟩
 ·exact .inl h2
 ·refine .inr ⟨r, cap, cur, e', hr, ?_, rest⟩
  rw [← hr2]
  exact hx.block r (Array.getElem?_eq_some_iff.1 hr2).1 (hS r (by rw [e']; rfl))
theorem OwnWord.but {S : Nat → Prop} {w w' : World} {base n c m : Nat} {A : Option Addr} {l : List Int} (h : OwnWord w base (.slice A m c) n l) (hx : But S w w') (hS : ∀ k o s, A = some ⟨k, o, s⟩ → ¬ S k) : OwnWord w' base (.slice A m c) n l := by
  refine own_but1Word h hx (fun j hj => ?_)
  cases A with
  | none => cases hj
  | some a => obtain ⟨b, o, s⟩ := a
              injection hj with hj
              have hj2 : b = j := hj
              subst hj2
              exact hS b o s rfl
end
section
open Go.RowKit Go.ChangeShapes Go.WideShapes Go.Deep Go.Joins Go.Shelf
theorem make_words {i0 : TypeInfo} (hi0 : Tryz.prog.info? 32 = some i0) (hz0 : i0.zero = some (.int .u64 0)) (hz1 : i0.size = 1) (hz2 : i0.bytes = 8) (n : Nat) (hn : n < 1099511627776) (w : World) :
  ∃ w', (Instr.makeSlice 85 (.int .i64 (n : Int)) (.int .i64 (n : Int))).run Tryz.prog w = .ok (.slice (some ⟨w.heap.size, 0, none⟩) n n) w' ∧ OwnWord w' w.heap.size (.slice (some ⟨w.heap.size, 0, none⟩) n n) n (List.replicate n 0) ∧ Ext w w' := by
 obtain ⟨w', h1, h2, h3⟩ := run_make_full (P := Tryz.prog) w w.heap.size 85 32 i0 _ 1 Tryz.underlying85 hi0 hz0 hz1 .i64 .i64 n (by rw [hz2]; omega) (by simp [maxLen]; omega) (Nat.le_refl _)
 refine ⟨w', h1, ?_, (Ext.refl w).grown h3 (fun k e => by cases e)⟩
 have e : (madeCells (Value.int .u64 0).cells (n * 1)).toList = iv .u64 (List.replicate n 0) := by
  simp [madeCells, iv, Value.cells, Nat.mod_one, List.map_const']
 rw [e] at h2
 exact h2
theorem OwnWord.put {w : World} {base g n d : Nat} {l : List Int} (h : OwnWord w base (.slice (some ⟨g, 0, none⟩) n d) n l) (k : Nat) (x : Int) : OwnWord (w.setCell ⟨g, k, none⟩ (.int .u64 x)) base (.slice (some ⟨g, 0, none⟩) n d) n (l.set k x) := by
 have h4 := (World.ownsRow.stored h k (.int .u64 x)).1
 have h5 : (iv .u64 l).set k (.int .u64 x) = iv .u64 (l.set k x) := by simp [iv, List.map_set]
 rw [h5] at h4
 exact h4
theorem OwnWord.cel {w : World} {base g n d k : Nat} {y : Int} {l : List Int} (h : OwnWord w base (.slice (some ⟨g, 0, none⟩) n d) n l) (hk : k < n) (hy : l[k]? = some y) : w.cell? ⟨g, k, none⟩ = some (.int .u64 y) ∧ w.frozen? ⟨g, k, none⟩ = false :=
 ⟨(World.ownsRow.cellAt h k (by omega)).trans (by simp [iv, hy]), World.ownsRow.frozenAt h k⟩
theorem OwnWord.inb {w : World} {base g n d : Nat} {l : List Int} (h : OwnWord w base (.slice (some ⟨g, 0, none⟩) n d) n l) : base ≤ g ∧ g < w.heap.size := World.ownsRow.lt h g rfl
theorem found_len {cl : List I6} {q : List Int} {m : Nat} {n : Nat} (hf : Found cl (fun x => cmpK (kC x) q) m true) (hl : cl.length = n) : m < n := by have := hf.in_ rfl; omega
theorem hbpositions_any (q n c n2 c2 : Nat) (A A2 : Option Addr) (cl ps : List I6) (w : World) (h : Sl w 6 A n c (cl.flatMap clsC)) (h2 : Sl w 6 A2 n2 c2 (ps.flatMap posC)) (hn : n < 1099511627776) (hn2 : n2 < 1099511627776) (hw : ∀ x ∈ cl, WdC x) (hw2 : ∀ x ∈ ps, WdP x) (q_0 : w.cell? ⟨q, 0, none⟩ = some (.slice A n c)) (q_1 : w.cell? ⟨q, 1, none⟩ = some (.slice A2 n2 c2)) :
  Calls Tryz.prog 125 #[.pointer (some ⟨q, 0, none⟩)] w fun r w' => ∃ v, r = .returned (.int .i64 v) ∧ (SortK kC cl → v = posV cl ps) ∧ Ext w w' := by
 have hll := h.rlen clsC_len (by decide)
 have hll2 := h2.rlen posC_len (by decide)
 have hq := cell_lt q_0
 obtain ⟨i0, hi0, hz0, hz1, hz2⟩ := info_parts infoWord
 obtain ⟨w1, mk, hO0, hX0⟩ := make_words hi0 hz0 hz1 hz2 n hn w
 have HS := Lib.hid h
 have HT := Lib.hid h2
 have HW := Lib.hid (And.intro hw hw2)
 have HLL := Lib.hid (And.intro hll hll2)
 have Q0 := Lib.hid (And.intro q_0 q_1)
 have HO0 := Lib.hid hO0
 have X0 := Lib.hid hX0
 have q1_1 := X0.out.has q_1
 have hw1 := OwnWord.inb HO0.out
 clear h h2 hw hw2 hll hll2 hO0 hX0 q_1
 go_enter Tryz.func125, Tryz.ntmps125
 go_wp2
 go_loopg [4, 26] n2 (fun gh o i wx => gh ≤ n2 ∧ i = .int .i64 ((n2 - gh : Nat) : Int) ∧ (∃ wr held, o = .bool wr ∧ Hid (PosI cl ps (n2 - gh) wr held) ∧ Hid (OwnWord wx w.heap.size (.slice (some ⟨w.heap.size, 0, none⟩) n n) n held)) ∧ Hid (Ext w wx))
 case atStart => exact ⟨Nat.le_refl _, by simp, ⟨false, List.replicate n 0, rfl, by rw [Nat.sub_self, show n = cl.length from HLL.out.1.symm]; exact Lib.hid (PosI.start cl ps), HO0⟩, X0⟩
 case round =>
  obtain ⟨hg, hi, ⟨wv, held, rfl, HI, HO⟩, XR⟩ := hrel
  obtain ⟨k, hk⟩ : ∃ k, k = n2 - gk := ⟨_, rfl⟩
  rw [← hk] at hi HI
  subst hi
  clear q_0 q1_1 hw1 mk
  have q_0 := XR.out.has Q0.out.1
  have q_1 := XR.out.has Q0.out.2
  have hwr := OwnWord.inb HO.out
  by_cases hz : gk = 0
  ·have hkn : ¬ (k : Int) < (n2 : Int) := by omega
   have HD := Lib.hid (fun b hb => HI.out.done (b := b) HW.out.1 (by have := HLL.out; omega) hb)
   have HLH := Lib.hid HI.out.len
   clear hk hg hz HI
   obtain ⟨wp, hwp⟩ : ∃ wp, wp = wv := ⟨_, rfl⟩
   rw [← hwp]
   rw [← hwp] at HD
   have HW0 := Lib.hid (show WrI cl held wp 0 wv from by rw [hwp]; exact WrI.start cl held wv)
   go_wp2
   go_loopg [4, 93] n (fun gh o i wx => gh ≤ n ∧ i = .int .i64 ((n - gh : Nat) : Int) ∧ (∃ b, o = .bool b ∧ Hid (WrI cl held wp (n - gh) b)) ∧ Hid (OwnWord wx w.heap.size (.slice (some ⟨w.heap.size, 0, none⟩) n n) n held) ∧ Hid (Ext w wx))
   case atStart => exact ⟨Nat.le_refl _, by simp, ⟨_, rfl, by rw [Nat.sub_self]; exact HW0⟩, HO, XR⟩
   case round =>
    clear HO XR q_0 q_1 hwr hwp hkn HW0
    obtain ⟨hg, hi, ⟨wb, rfl, HI⟩, HO, XR⟩ := hrel
    obtain ⟨k2, hk2⟩ : ∃ k2, k2 = n - gk := ⟨_, rfl⟩
    rw [← hk2] at hi HI
    subst hi
    by_cases hz : gk = 0
    ·have hkn : ¬ (k2 : Int) < (n : Int) := by omega
     have HD2 := Lib.hid (HD.out wb (by rw [show cl.length = k2 from by have := HLL.out; omega]; exact HI.out))
     clear hk2 hg hz HI
     cases wb
     ·go_wp2
      go_ret
      exact ⟨_, rfl, HD2.out, XR.out⟩
     ·go_wp2
      go_ret
      exact ⟨_, rfl, HD2.out, XR.out⟩
    ·have hkn : (k2 : Int) < (n : Int) := by omega
     have hkl : k2 < cl.length := by have := HLL.out; omega
     have HSr := Lib.hid (HS.out.ext XR.out)
     obtain ⟨b1, o1, rfl, hb1, hc_x⟩ := HSr.out.rec_ clsC_len (show 0 < n from by omega)
     obtain ⟨xw, hl_x⟩ : ∃ x, cl[k2]? = some x := ⟨_, List.getElem?_eq_getElem (by omega)⟩
     have x_0 := hc_x (k2) xw hl_x 0 _ rfl
     have x_1 := hc_x (k2) xw hl_x 1 _ rfl
     have x_2 := hc_x (k2) xw hl_x 2 _ rfl
     have x_3 := hc_x (k2) xw hl_x 3 _ rfl
     have x_4 := hc_x (k2) xw hl_x 4 _ rfl
     have x_5 := hc_x (k2) xw hl_x 5 _ rfl
     obtain ⟨cv, cs, cp, cf, ct, ch⟩ := xw
     simp only at x_0 x_1 x_2 x_3 x_4 x_5
     rw [Nat.add_zero] at x_0
     rw [← Nat.add_assoc] at x_1 x_2 x_3 x_4 x_5
     obtain ⟨y, hy⟩ : ∃ y, held[k2]? = some y := ⟨_, List.getElem?_eq_getElem (by have := HLH.out; omega)⟩
     have hd_0 := (OwnWord.cel HO.out (show k2 < n from by omega) hy).1
     have HN := Lib.hid (fun b' hb => HI.out.next (b' := b') hl_x hy hb)
     have HK := Lib.hid (And.intro hk2 (And.intro hg hz))
     have hwr := OwnWord.inb HO.out
     have hb1s : ¬ b1 = wr.heap.size := by omega
     have hgs : ¬ w.heap.size = wr.heap.size := by omega
     have hgs2 : w.heap.size < wr.heap.size := hwr.2
     have hkn2 : k2 < n := by omega
     clear hk2 hg hz hkl hl_x hy hc_x HSr hwr
     rcases (show wb = true ∨ wb = false from by cases wb <;> simp) with rfl | rfl
     ·go_wp2_with fail
      refine wp_region_held_drew (S := fun w' => w'.cell? ⟨wr.heap.size, 5, none⟩ = some (.int .u64 ch) ∧ w'.cell? ⟨w.heap.size, k2, none⟩ = some (.int .u64 y)) (by kernel_rfl) (by first | exact ⟨c0_5, hd_0⟩ | (simp [go_sem, World.cell?_alloc_past, *]; done)) (fun hHeld => ?_)
      refine' zt 0 ?_
      refine' zt 1 ?_
      refine' zs 2 ?_
      refine' zs 3 ?_
      refine' zs 4 ?_
      refine' zs 5 ?_
      refine' zs 6 ?_
      refine' zs 7 ?_
      refine' zs 8 ?_
      refine' zs 9 ?_
      refine' zt 10 ?_
      refine' zt 11 ?_
      refine wpAnyH_done (by kernel_rfl) ?_ _
      go_wp2_with fail
      go_roundg (gk - 1)
      case measure => have := HK.out; omega
      case rel => exact ⟨by have := HK.out; omega, num_eq (by have := HK.out; omega), ⟨_, rfl, by rw [show n - (gk - 1) = k2 + 1 from by have := HK.out; omega]; exact Lib.hid (HN.out _ (by simp [shC]))⟩, Lib.hid (HO.out.ext zxt), Lib.hid zxt⟩
     ·go_wp2_with fail
      refine wp_region_held_drew (S := fun w' => w'.cell? ⟨wr.heap.size, 5, none⟩ = some (.int .u64 ch) ∧ w'.cell? ⟨w.heap.size, k2, none⟩ = some (.int .u64 y)) (by kernel_rfl) (by first | exact ⟨c0_5, hd_0⟩ | (simp [go_sem, World.cell?_alloc_past, *]; done)) (fun hHeld => ?_)
      refine' zt 0 ?_
      refine' zt 1 ?_
      refine' zt 2 ?_
      refine' zt 3 ?_
      refine' zt 4 ?_
      refine' zt 5 ?_
      refine' zt 6 ?_
      refine' zt 7 ?_
      refine' zt 8 ?_
      refine' zt 9 ?_
      refine' zt 10 ?_
      refine' zt 11 ?_
      refine wpAnyH_done (by kernel_rfl) ?_ _
      go_wp2_with fail
      go_roundg (gk - 1)
      case measure => have := HK.out; omega
      case rel => exact ⟨by have := HK.out; omega, num_eq (by have := HK.out; omega), ⟨_, rfl, by rw [show n - (gk - 1) = k2 + 1 from by have := HK.out; omega]; exact Lib.hid (HN.out _ (by simp [shC]))⟩, Lib.hid (HO.out.ext zxt), Lib.hid zxt⟩
  ·have hkn : (k : Int) < (n2 : Int) := by omega
   have hkl : k < ps.length := by have := HLL.out; omega
   have HSr := Lib.hid (HT.out.ext XR.out)
   obtain ⟨b1, o1, rfl, hb1, hc_x⟩ := HSr.out.rec_ posC_len (show 0 < n2 from by omega)
   obtain ⟨xw, hl_x⟩ : ∃ x, ps[k]? = some x := ⟨_, List.getElem?_eq_getElem (by omega)⟩
   have x_0 := hc_x (k) xw hl_x 0 _ rfl
   have x_1 := hc_x (k) xw hl_x 1 _ rfl
   have x_2 := hc_x (k) xw hl_x 2 _ rfl
   have x_3 := hc_x (k) xw hl_x 3 _ rfl
   have x_4 := hc_x (k) xw hl_x 4 _ rfl
   have x_5 := hc_x (k) xw hl_x 5 _ rfl
   obtain ⟨xo, xv, xs, xp, xf, xn⟩ := xw
   simp only at x_0 x_1 x_2 x_3 x_4 x_5
   rw [Nat.add_zero] at x_0
   rw [← Nat.add_assoc] at x_1 x_2 x_3 x_4 x_5
   have hwx : Word xn := HW.out.2 _ (List.mem_of_getElem? hl_x)
   replace HS := Lib.hid (HS.out.ext XR.out)
   have CO := Lib.hid (fun w => howner_any xo w)
   obtain ⟨OB, hOB⟩ : ∃ OB, OB = decide (0 ≤ xo ∧ xo < 64) := ⟨_, rfl⟩
   rw [← hOB] at CO
   have HOB := Lib.hid hOB
   have HWX := Lib.hid hwx
   have HX := Lib.hid hl_x
   have HK := Lib.hid (And.intro hk (And.intro hg hz))
   have hb1s : ¬ b1 = wr.heap.size := by omega
   have hqr : q < wr.heap.size := cell_lt q_0
   have hqs : ¬ q = wr.heap.size := by omega
   have hgs : ¬ w.heap.size = wr.heap.size := by omega
   have hgs2 : w.heap.size < wr.heap.size := hwr.2
   have hqg : ¬ q = w.heap.size := by omega
   by_cases hk0 : k = 0
   ·subst hk0
    have HP := Lib.hid (show prevGe (prK kP ps 0) [xo, xv, xs, xp, xf] = false from rfl)
    clear hk hg hz hkl hl_x hwx hOB hc_x HSr hwr
    simp only [Nat.zero_mul, Nat.add_zero] at x_0 x_1 x_2 x_3 x_4 x_5
    simp only [Int.cast_ofNat_Int] at hkn ⊢
    go_wp2_with fail
    (with_reducible refine (hbclass_any q A n c cl xv xs xp xf _ (HS.out.ext zxt) hn (by first | exact q_0 | (simp [go_sem, World.cell?_alloc_past, q_0, hqr, hqs, hqg]; done))).mono ?_)
    rintro e w11 ⟨z, b, rfl, hfo, hx11⟩
    replace q_0 := zh hx11 q_0
    have c0_0 : w11.cell? ⟨wr.heap.size, 0, none⟩ = some (.int .i64 xo) := hx11.has zcv
    have c0_5 : w11.cell? ⟨wr.heap.size, 5, none⟩ = some (.int .u64 xn) := hx11.has zcv
    have z11 := hx11.size
    try simp at z11
    have lt_q_c0 : q < wr.heap.size := by omega
    have ne_q_c0 : ¬ q = wr.heap.size := by omega
    have ne_c0_q : ¬ wr.heap.size = q := by omega
    have rq := zr q w11
    have rc0 := zr wr.heap.size w11
    replace HS := Lib.hid (HS.out.ext (Ext.trans zxt hx11))
    replace HO := Lib.hid (HO.out.ext (Ext.trans zxt hx11))
    have X11 : Hid (Ext w w11) := Lib.hid (Ext.trans zxt hx11)
    clear x_0 x_2 x_4 x_5 x_3 x_1 q_1 XR hx11 z11
    have HFo := Lib.hid hfo
    clear hfo
    go_wp2_with fail
    (with_reducible refine (CO.out _).mono ?_)
    rintro e w_1 ⟨rfl, rfl⟩
    rcases (show OB = false ∨ OB = true from by cases OB <;> simp) with rfl | rfl
    ·have HV := Lib.hid (HI.out.fail HX.out (v := 3) (fun _ => posOne_range (of_decide_eq_false HOB.out.symm)) (by decide))
     go_wp2_with fail
     go_ret
     exact ⟨_, rfl, HV.out, zxt⟩
    ·go_wp2_with fail
     refine wp_region_held_drew (S := fun w' => True) (by kernel_rfl) (by first | exact trivial | (simp [go_sem, World.cell?_alloc_past, *]; done)) (fun hHeld => ?_)
     refine' zt 0 ?_
     refine' zt 1 ?_
     refine' zt 2 ?_
     refine' zs 3 ?_
     refine' zs 4 ?_
     refine' zs 5 ?_
     refine' zs 6 ?_
     refine' zs 7 ?_
     refine' zs 8 ?_
     refine' zs 9 ?_
     refine' zs 10 ?_
     refine' zs 11 ?_
     refine' zs 12 ?_
     refine' zs 13 ?_
     refine' zs 14 ?_
     refine' zt 15 ?_
     refine' zt 16 ?_
     refine wpAnyH_done (by kernel_rfl) ?_ _
     by_cases q5 : xn = 0
     ·have q5b : (xn == 0) = true := by simpa using q5
      have HV := Lib.hid (HI.out.fail HX.out (v := 14) (fun _ => posOne_dust (show 0 ≤ xo ∧ xo < 64 from of_decide_eq_true HOB.out.symm) HP.out q5) (by decide))
      go_wp2_with fail
      go_ret
      exact ⟨_, rfl, HV.out, zxt⟩
     ·have q5b : (xn == 0) = false := by simpa using q5
      rcases (show b = false ∨ b = true from by cases b <;> simp) with rfl | rfl
      ·have HV := Lib.hid (HI.out.fail HX.out (v := 10) (posOne_unknown HFo.out (show 0 ≤ xo ∧ xo < 64 from of_decide_eq_true HOB.out.symm) HP.out q5) (by decide))
       go_wp2_with fail
       go_ret
       exact ⟨_, rfl, HV.out, zxt⟩
      ·have hzn := found_len HFo.out HLL.out.1
       have hzi : (z : Int) < (n : Int) := by omega
       have HOn := Lib.hid (show OwnWord _ w.heap.size (.slice (some ⟨w.heap.size, 0, none⟩) n n) n held from (HO.out.ext zxt))
       obtain ⟨y2, hy2⟩ : ∃ y2, held[z]? = some y2 := ⟨_, List.getElem?_eq_getElem (by have := HI.out.len; have := HLL.out; omega)⟩
       have hd_0 := (OwnWord.cel HOn.out hzn hy2).1
       have hd_0f := (OwnWord.cel HOn.out hzn hy2).2
       clear HOn
       have CA := Lib.hid (fun w => fAdd_any y2 xn (HI.out.wo _ (List.mem_of_getElem? hy2)) HWX.out w)
       obtain ⟨N, hN⟩ : ∃ N, N = addN y2 xn := ⟨_, rfl⟩
       obtain ⟨EA, hEA⟩ : ∃ EA, EA = addE y2 xn := ⟨_, rfl⟩
       rw [← hN, ← hEA] at CA
       have HN := Lib.hid (fun o' ho => (show PosI cl ps (0 + 1) o' (held.set z N) from by have hh := HI.out.next HX.out HW.out.2 (wr' := o') (posOne_ok HFo.out (show 0 ≤ xo ∧ xo < 64 from of_decide_eq_true HOB.out.symm) HP.out q5) HFo.out hy2 (by rw [show addE y2 (shP (xo, xv, xs, xp, xf, xn)) = EA from hEA.symm]; exact ho); rw [show addN y2 (shP (xo, xv, xs, xp, xf, xn)) = N from hN.symm] at hh; exact hh))
       clear hN hEA hy2
       go_wp2_with fail
       refine wp_region_held_drew (S := fun w' => w'.cell? ⟨wr.heap.size, 5, none⟩ = some (.int .u64 xn) ∧ w'.cell? ⟨w.heap.size, z, none⟩ = some (.int .u64 y2)) (by kernel_rfl) (by first | exact ⟨c0_5, hd_0⟩ | (simp [go_sem, World.cell?_alloc_past, *]; done)) (fun hHeld => ?_)
       refine' zt 0 ?_
       refine' zt 1 ?_
       refine' zt 2 ?_
       refine' zt 3 ?_
       refine' zt 4 ?_
       refine' zt 5 ?_
       refine' zn 6 (fun K hK => ?_)
       go_simp
       (with_reducible refine (CA.out _).mono ?_)
       rintro e w12 ⟨rfl, hx12⟩
       replace q_0 := zh hx12 q_0
       replace c0_5 := zh hx12 c0_5
       replace hd_0f := zf hx12 hd_0 hd_0f
       replace hd_0 := zh hx12 hd_0
       have z12 := hx12.size
       try simp at z12
       have ne_c0_hd : ¬ wr.heap.size = w.heap.size := by omega
       have ne_hd_c0 : ¬ w.heap.size = wr.heap.size := by omega
       replace rq := zr q w12
       replace rc0 := zr wr.heap.size w12
       have rhd := zr w.heap.size w12
       replace HS := Lib.hid (HS.out.ext (Ext.trans zxt hx12))
       replace HO := Lib.hid (HO.out.ext (Ext.trans zxt hx12))
       have X12 : Hid (Ext w w12) := Lib.hid (Ext.trans zxt hx12)
       clear c0_0 X11 hx12 z12
       refine' zk hK (by (first | exact ⟨c0_5, hd_0⟩ | (simp [go_sem, World.cell?_alloc_past, *]; done))) (fun hHeld => ?_); clear hK K
       refine' zt 7 ?_
       refine' zt 8 ?_
       refine' zt 9 ?_
       refine' zt 10 ?_
       refine' zt 11 ?_
       refine wpAnyH_done (by kernel_rfl) ?_ _
       rcases (show wv = true ∨ wv = false from by cases wv <;> simp) with rfl | rfl
       ·go_wp2_with fail
        go_roundg (gk - 1)
        case measure => have := HK.out; omega
        case rel => exact ⟨by have := HK.out; omega, num_eq (by have := HK.out; omega), ⟨_, _, rfl, by rw [show n2 - (gk - 1) = 0 + 1 from by have := HK.out; omega]; exact Lib.hid (HN.out _ (by simp [*])), Lib.hid (OwnWord.put (HO.out.ext zxt) z N)⟩, Lib.hid zxt⟩
       ·go_wp2_with fail
        go_roundg (gk - 1)
        case measure => have := HK.out; omega
        case rel => exact ⟨by have := HK.out; omega, num_eq (by have := HK.out; omega), ⟨_, _, rfl, by rw [show n2 - (gk - 1) = 0 + 1 from by have := HK.out; omega]; exact Lib.hid (HN.out _ (by simp [*])), Lib.hid (OwnWord.put (HO.out.ext zxt) z N)⟩, Lib.hid zxt⟩
   ·obtain ⟨m, rfl⟩ : ∃ m, k = m + 1 := ⟨k - 1, by omega⟩
    obtain ⟨yw, hl_y⟩ : ∃ x, ps[m]? = some x := ⟨_, List.getElem?_eq_getElem (by omega)⟩
    have y_0 := hc_x m yw hl_y 0 _ rfl
    have y_1 := hc_x m yw hl_y 1 _ rfl
    have y_2 := hc_x m yw hl_y 2 _ rfl
    have y_3 := hc_x m yw hl_y 3 _ rfl
    have y_4 := hc_x m yw hl_y 4 _ rfl
    have y_5 := hc_x m yw hl_y 5 _ rfl
    obtain ⟨yo, yv, ys, yp, yf, yn⟩ := yw
    simp only at y_0 y_1 y_2 y_3 y_4 y_5
    rw [Nat.add_zero] at y_0
    rw [← Nat.add_assoc] at y_1 y_2 y_3 y_4 y_5
    obtain ⟨G, hG⟩ : ∃ G, G = cmpK [yo, yv, ys, yp, yf] [xo, xv, xs, xp, xf] := ⟨_, rfl⟩
    have HG := Lib.hid hG
    have HP := Lib.hid (show prevGe (prK kP ps (m + 1)) [xo, xv, xs, xp, xf] = decide (0 ≤ G) from by rw [prK_succ hl_y, hG]; rfl)
    have hm1 : (m : Int) + 1 - 1 = (m : Int) := by omega
    have hmd : decide ((0 : Int) < (m : Int) + 1) = true := decide_eq_true (by omega)
    have hmp : (0 : Int) < (m : Int) + 1 := by omega
    have hml : (m : Int) < (n2 : Int) := by omega
    have hmw : IntKind.i64.wrap (m : Int) = (m : Int) := IntWalk.i64_in _ (by omega)
    have hmw2 : IntKind.i64.wrap ((m : Int) + 1 - 1) = (m : Int) := by rw [hm1]; exact hmw
    have hms : m ≤ 9223372036854775806 := by omega
    clear hk hg hz hkl hl_x hl_y hwx hOB hG hc_x HSr hwr
    go_wp2_with fail
    (with_reducible refine (hbclass_any q A n c cl xv xs xp xf _ (HS.out.ext zxt) hn (by first | exact q_0 | (simp [go_sem, World.cell?_alloc_past, q_0, hqr, hqs, hqg]; done))).mono ?_)
    rintro e w11 ⟨z, b, rfl, hfo, hx11⟩
    replace y_0 := zh hx11 y_0
    replace y_1 := zh hx11 y_1
    replace y_2 := zh hx11 y_2
    replace y_3 := zh hx11 y_3
    replace y_4 := zh hx11 y_4
    replace y_5 := zh hx11 y_5
    replace q_0 := zh hx11 q_0
    replace q_1 := zh hx11 q_1
    have c0_0 : w11.cell? ⟨wr.heap.size, 0, none⟩ = some (.int .i64 xo) := hx11.has zcv
    have c0_1 : w11.cell? ⟨wr.heap.size, 1, none⟩ = some (.int .i64 xv) := hx11.has zcv
    have c0_2 : w11.cell? ⟨wr.heap.size, 2, none⟩ = some (.int .i64 xs) := hx11.has zcv
    have c0_3 : w11.cell? ⟨wr.heap.size, 3, none⟩ = some (.int .i64 xp) := hx11.has zcv
    have c0_4 : w11.cell? ⟨wr.heap.size, 4, none⟩ = some (.int .i64 xf) := hx11.has zcv
    have c0_5 : w11.cell? ⟨wr.heap.size, 5, none⟩ = some (.int .u64 xn) := hx11.has zcv
    have z11 := hx11.size
    try simp at z11
    have lt_y_c0 : b1 < wr.heap.size := by omega
    have ne_y_c0 : ¬ b1 = wr.heap.size := by omega
    have lt_q_c0 : q < wr.heap.size := by omega
    have ne_q_c0 : ¬ q = wr.heap.size := by omega
    have ne_c0_y : ¬ wr.heap.size = b1 := by omega
    have ne_c0_q : ¬ wr.heap.size = q := by omega
    have ry := zr b1 w11
    have rq := zr q w11
    have rc0 := zr wr.heap.size w11
    replace HS := Lib.hid (HS.out.ext (Ext.trans zxt hx11))
    replace HO := Lib.hid (HO.out.ext (Ext.trans zxt hx11))
    have X11 : Hid (Ext w w11) := Lib.hid (Ext.trans zxt hx11)
    clear x_0 x_4 x_2 x_5 x_1 x_3 XR hx11 z11
    have HFo := Lib.hid hfo
    clear hfo
    go_wp2_with fail
    (with_reducible refine (CO.out _).mono ?_)
    rintro e w_1 ⟨rfl, rfl⟩
    rcases (show OB = false ∨ OB = true from by cases OB <;> simp) with rfl | rfl
    ·have HV := Lib.hid (HI.out.fail HX.out (v := 3) (fun _ => posOne_range (of_decide_eq_false HOB.out.symm)) (by decide))
     go_wp2_with fail
     go_ret
     exact ⟨_, rfl, HV.out, zxt⟩
    ·go_wp2_with fail
     refine wp_region_held_drew (S := fun w' => w'.cell? ⟨wr.heap.size, 0, none⟩ = some (.int .i64 xo) ∧ w'.cell? ⟨wr.heap.size, 1, none⟩ = some (.int .i64 xv) ∧ w'.cell? ⟨wr.heap.size, 2, none⟩ = some (.int .i64 xs) ∧ w'.cell? ⟨wr.heap.size, 3, none⟩ = some (.int .i64 xp) ∧ w'.cell? ⟨wr.heap.size, 4, none⟩ = some (.int .i64 xf) ∧ w'.cell? ⟨wr.heap.size, 5, none⟩ = some (.int .u64 xn) ∧ w'.cell? ⟨q, 1, none⟩ = some (.slice (some ⟨b1, o1, none⟩) n2 c2) ∧ w'.cell? ⟨b1, o1 + m * 6, none⟩ = some (.int .i64 yo) ∧ w'.cell? ⟨b1, o1 + m * 6 + 1, none⟩ = some (.int .i64 yv) ∧ w'.cell? ⟨b1, o1 + m * 6 + 2, none⟩ = some (.int .i64 ys) ∧ w'.cell? ⟨b1, o1 + m * 6 + 3, none⟩ = some (.int .i64 yp) ∧ w'.cell? ⟨b1, o1 + m * 6 + 4, none⟩ = some (.int .i64 yf) ∧ w'.cell? ⟨b1, o1 + m * 6 + 5, none⟩ = some (.int .u64 yn)) (by kernel_rfl) (by first | exact ⟨c0_0, c0_1, c0_2, c0_3, c0_4, c0_5, q_1, y_0, y_1, y_2, y_3, y_4, y_5⟩ | (simp [go_sem, World.cell?_alloc_past, *]; done)) (fun hHeld => ?_)
     refine' zt 0 ?_
     refine' zt 1 ?_
     refine' zt 2 ?_
     refine' zt 3 ?_
     refine' zt 4 ?_
     refine' zt 5 ?_
     refine' zt 6 ?_
     refine' zt 7 ?_
     refine' zt 8 ?_
     refine' zt 9 ?_
     refine' zt 10 ?_
     refine' zt 11 ?_
     refine' zt 12 ?_
     refine' zn 13 (fun K hK => ?_)
     go_simp
     (with_reducible refine (horder_at yo yv ys yp yf yn xo xv xs xp xf xn G _ HG.out).mono ?_)
     rintro e w12 ⟨rfl, hx12⟩
     replace y_0 := zh hx12 y_0
     replace y_1 := zh hx12 y_1
     replace y_2 := zh hx12 y_2
     replace y_3 := zh hx12 y_3
     replace y_4 := zh hx12 y_4
     replace y_5 := zh hx12 y_5
     replace q_0 := zh hx12 q_0
     replace q_1 := zh hx12 q_1
     replace c0_0 := zh hx12 c0_0
     replace c0_1 := zh hx12 c0_1
     replace c0_2 := zh hx12 c0_2
     replace c0_3 := zh hx12 c0_3
     replace c0_4 := zh hx12 c0_4
     replace c0_5 := zh hx12 c0_5
     have z12 := hx12.size
     try simp at z12
     replace ry := zr b1 w12
     replace rq := zr q w12
     replace rc0 := zr wr.heap.size w12
     replace HS := Lib.hid (HS.out.ext (Ext.trans zxt hx12))
     replace HO := Lib.hid (HO.out.ext (Ext.trans zxt hx12))
     have X12 : Hid (Ext w w12) := Lib.hid (Ext.trans zxt hx12)
     clear X11 hx12 z12
     refine' zk hK (by (first | exact ⟨c0_0, c0_1, c0_2, c0_3, c0_4, c0_5, q_1, y_0, y_1, y_2, y_3, y_4, y_5⟩ | (simp [go_sem, World.cell?_alloc_past, *]; done))) (fun hHeld => ?_); clear hK K
     refine' zt 14 ?_
     refine' zt 15 ?_
     refine' zt 16 ?_
     refine wpAnyH_done (by kernel_rfl) ?_ _
     by_cases q4 : 0 ≤ G
     ·have q4b : decide (0 ≤ G) = true := decide_eq_true q4
      have HV := Lib.hid (HI.out.fail HX.out (v := 9) (fun _ => posOne_order (show 0 ≤ xo ∧ xo < 64 from of_decide_eq_true HOB.out.symm) (HP.out.trans q4b)) (by decide))
      go_wp2_with fail
      go_ret
      exact ⟨_, rfl, HV.out, zxt⟩
     ·have q4b : decide (0 ≤ G) = false := decide_eq_false q4
      replace HP := Lib.hid (HP.out.trans q4b)
      by_cases q5 : xn = 0
      ·have q5b : (xn == 0) = true := by simpa using q5
       have HV := Lib.hid (HI.out.fail HX.out (v := 14) (fun _ => posOne_dust (show 0 ≤ xo ∧ xo < 64 from of_decide_eq_true HOB.out.symm) HP.out q5) (by decide))
       go_wp2_with fail
       go_ret
       exact ⟨_, rfl, HV.out, zxt⟩
      ·have q5b : (xn == 0) = false := by simpa using q5
       rcases (show b = false ∨ b = true from by cases b <;> simp) with rfl | rfl
       ·have HV := Lib.hid (HI.out.fail HX.out (v := 10) (posOne_unknown HFo.out (show 0 ≤ xo ∧ xo < 64 from of_decide_eq_true HOB.out.symm) HP.out q5) (by decide))
        go_wp2_with fail
        go_ret
        exact ⟨_, rfl, HV.out, zxt⟩
       ·have hzn := found_len HFo.out HLL.out.1
        have hzi : (z : Int) < (n : Int) := by omega
        have HOn := Lib.hid (show OwnWord _ w.heap.size (.slice (some ⟨w.heap.size, 0, none⟩) n n) n held from (HO.out.ext zxt))
        obtain ⟨y2, hy2⟩ : ∃ y2, held[z]? = some y2 := ⟨_, List.getElem?_eq_getElem (by have := HI.out.len; have := HLL.out; omega)⟩
        have hd_0 := (OwnWord.cel HOn.out hzn hy2).1
        have hd_0f := (OwnWord.cel HOn.out hzn hy2).2
        clear HOn
        have CA := Lib.hid (fun w => fAdd_any y2 xn (HI.out.wo _ (List.mem_of_getElem? hy2)) HWX.out w)
        obtain ⟨N, hN⟩ : ∃ N, N = addN y2 xn := ⟨_, rfl⟩
        obtain ⟨EA, hEA⟩ : ∃ EA, EA = addE y2 xn := ⟨_, rfl⟩
        rw [← hN, ← hEA] at CA
        have HN := Lib.hid (fun o' ho => (show PosI cl ps ((m + 1) + 1) o' (held.set z N) from by have hh := HI.out.next HX.out HW.out.2 (wr' := o') (posOne_ok HFo.out (show 0 ≤ xo ∧ xo < 64 from of_decide_eq_true HOB.out.symm) HP.out q5) HFo.out hy2 (by rw [show addE y2 (shP (xo, xv, xs, xp, xf, xn)) = EA from hEA.symm]; exact ho); rw [show addN y2 (shP (xo, xv, xs, xp, xf, xn)) = N from hN.symm] at hh; exact hh))
        clear hN hEA hy2
        go_wp2_with fail
        refine wp_region_held_drew (S := fun w' => w'.cell? ⟨wr.heap.size, 5, none⟩ = some (.int .u64 xn) ∧ w'.cell? ⟨w.heap.size, z, none⟩ = some (.int .u64 y2)) (by kernel_rfl) (by first | exact ⟨c0_5, hd_0⟩ | (simp [go_sem, World.cell?_alloc_past, *]; done)) (fun hHeld => ?_)
        refine' zt 0 ?_
        refine' zt 1 ?_
        refine' zt 2 ?_
        refine' zt 3 ?_
        refine' zt 4 ?_
        refine' zt 5 ?_
        refine' zn 6 (fun K hK => ?_)
        go_simp
        (with_reducible refine (CA.out _).mono ?_)
        rintro e w13 ⟨rfl, hx13⟩
        replace y_0 := zh hx13 y_0
        replace y_1 := zh hx13 y_1
        replace y_2 := zh hx13 y_2
        replace y_3 := zh hx13 y_3
        replace y_4 := zh hx13 y_4
        replace y_5 := zh hx13 y_5
        replace q_0 := zh hx13 q_0
        replace q_1 := zh hx13 q_1
        replace c0_0 := zh hx13 c0_0
        replace c0_1 := zh hx13 c0_1
        replace c0_2 := zh hx13 c0_2
        replace c0_3 := zh hx13 c0_3
        replace c0_4 := zh hx13 c0_4
        replace c0_5 := zh hx13 c0_5
        replace hd_0f := zf hx13 hd_0 hd_0f
        replace hd_0 := zh hx13 hd_0
        have z13 := hx13.size
        try simp at z13
        have ne_c0_hd : ¬ wr.heap.size = w.heap.size := by omega
        have ne_hd_c0 : ¬ w.heap.size = wr.heap.size := by omega
        replace ry := zr b1 w13
        replace rq := zr q w13
        replace rc0 := zr wr.heap.size w13
        have rhd := zr w.heap.size w13
        replace HS := Lib.hid (HS.out.ext (Ext.trans zxt hx13))
        replace HO := Lib.hid (HO.out.ext (Ext.trans zxt hx13))
        have X13 : Hid (Ext w w13) := Lib.hid (Ext.trans zxt hx13)
        clear X12 hx13 z13
        refine' zk hK (by (first | exact ⟨c0_5, hd_0⟩ | (simp [go_sem, World.cell?_alloc_past, *]; done))) (fun hHeld => ?_); clear hK K
        refine' zt 7 ?_
        refine' zt 8 ?_
        refine' zt 9 ?_
        refine' zt 10 ?_
        refine' zt 11 ?_
        refine wpAnyH_done (by kernel_rfl) ?_ _
        rcases (show wv = true ∨ wv = false from by cases wv <;> simp) with rfl | rfl
        ·go_wp2_with fail
         go_roundg (gk - 1)
         case measure => have := HK.out; omega
         case rel => exact ⟨by have := HK.out; omega, num_eq (by have := HK.out; omega), ⟨_, _, rfl, by rw [show n2 - (gk - 1) = (m + 1) + 1 from by have := HK.out; omega]; exact Lib.hid (HN.out _ (by simp [*])), Lib.hid (OwnWord.put (HO.out.ext zxt) z N)⟩, Lib.hid zxt⟩
        ·go_wp2_with fail
         go_roundg (gk - 1)
         case measure => have := HK.out; omega
         case rel => exact ⟨by have := HK.out; omega, num_eq (by have := HK.out; omega), ⟨_, _, rfl, by rw [show n2 - (gk - 1) = (m + 1) + 1 from by have := HK.out; omega]; exact Lib.hid (HN.out _ (by simp [*])), Lib.hid (OwnWord.put (HO.out.ext zxt) z N)⟩, Lib.hid zxt⟩
end
section
open Go.RowKit Go.ChangeShapes Go.WideShapes Go.Deep Go.Joins
theorem own_box {w : World} {base n sz q o : Nat} {e : TypeId} {v u : Value} {xs : List Value} (h : w.ownsRow base e sz v n xs) (hq : q < base) : (w.setCell ⟨q, o, none⟩ u).ownsRow base e sz v n xs :=
 own_set_apart h (fun k hk hh => by have := (World.ownsRow.lt h k hk).1; omega)
theorem own_apart {w : World} {b1 b2 n m s1 s2 : Nat} {e1 e2 : TypeId} {v1 v2 : Value} {xs ys : List Value} (h1 : w.ownsRow b1 e1 s1 v1 n xs) (h2 : w.ownsRow b2 e2 s2 v2 m ys) (he : e1 ≠ e2) : ∀ k, v1.ownBlock = some k → ¬ v2.ownBlock = some k := by
 intro k hk hk2
 rcases h1.2 with ⟨rfl, _⟩ | ⟨g, cap, cur, rfl, _, hg, _⟩
 ·cases hk
 rcases h2.2 with ⟨rfl, _⟩ | ⟨g2, cap2, cur2, rfl, _, hg2, _⟩
 ·cases hk2
 obtain rfl : g = k := by simpa [Value.ownBlock] using hk
 obtain rfl : g2 = g := by simpa [Value.ownBlock] using hk2
 rw [hg] at hg2
 injection hg2 with hg2
 injection hg2 with _ hg2
 exact he hg2
theorem cls_pos : 79 ≠ 82 := by decide
def HoldR (cl ps : List I6) (w : World) (v : Value) (w' : World) : Prop := ∃ B d B2 d2, v = .agg #[.slice B cl.length d, .slice B2 ps.length d2] ∧ (B = none → d = 0) ∧ (B2 = none → d2 = 0) ∧ OwnCls w' w.heap.size (.slice B cl.length d) cl.length cl ∧ OwnPos w' w.heap.size (.slice B2 ps.length d2) ps.length ps ∧ Ext w w'
theorem hbcheck_any (q n c n2 c2 : Nat) (A A2 : Option Addr) (cl ps : List I6) (w : World) (h : Sl w 6 A n c (cl.flatMap clsC)) (h2 : Sl w 6 A2 n2 c2 (ps.flatMap posC)) (hn : n < 1099511627776) (hn2 : n2 < 1099511627776) (hw : ∀ x ∈ cl, WdC x) (hw2 : ∀ x ∈ ps, WdP x) (q_0 : w.cell? ⟨q, 0, none⟩ = some (.slice A n c)) (q_1 : w.cell? ⟨q, 1, none⟩ = some (.slice A2 n2 c2)) :
  Calls Tryz.prog 62 #[.pointer (some ⟨q, 0, none⟩)] w fun r w' => r = .returned (.int .i64 (chkH cl ps)) ∧ Ext w w' := by
 have C1 := Lib.hid (hbclasses_any q A n c cl w h hn hw q_0)
 have C2 := Lib.hid (fun (w' : World) (hx : Ext w w') => hbpositions_any q n c n2 c2 A A2 cl ps w' (h.ext hx) (h2.ext hx) hn hn2 hw hw2 (hx.has q_0) (hx.has q_1))
 obtain ⟨E, hE⟩ : ∃ E, E = clsV cl := ⟨_, rfl⟩
 rw [← hE] at C1
 have HE := Lib.hid hE
 clear h h2 hw hw2 q_0 q_1 hE
 go_enter Tryz.func62, Tryz.ntmps62
 go_wp2_with fail
 (with_reducible refine (C1.out).mono ?_)
 rintro e w1 ⟨rfl, hx1⟩
 have z1 := hx1.size
 try simp at z1
 have X1 : Hid (Ext w w1) := Lib.hid (Ext.trans zxt hx1)
 clear hx1 z1
 go_wp2_with fail
 (with_reducible refine (C2.out _ X1.out).mono ?_)
 rintro e w2 ⟨v, rfl, hv, hx2⟩
 have z2 := hx2.size
 try simp at z2
 have X2 : Hid (Ext w w2) := Lib.hid (Ext.trans zxt hx2)
 clear X1 hx2 z2
 obtain ⟨Fv, hFv⟩ : ∃ F, F = (if E ≠ 0 then E else v) := ⟨_, rfl⟩
 have CF := Lib.hid (fun b o c w h0 h1 => cmpOrE_two E v b o c w h0 h1)
 rw [← hFv] at CF
 have HV := Lib.hid (show Fv = chkH cl ps from by rw [hFv, HE.out]; exact chkH_of hv)
 clear hv hFv
 go_wp2_with fail
 (with_reducible refine (CF.out w2.heap.size 0 2 _ (by simp [go_sem]) (by simp [go_sem])).mono ?_)
 rintro e w_1 ⟨rfl, rfl⟩
 go_wp2_with fail
 go_ret
 exact ⟨ret_int HV.out, zxt⟩
theorem hCheck_any (n c n2 c2 : Nat) (A A2 : Option Addr) (cl ps : List I6) (w : World) (h : Sl w 6 A n c (cl.flatMap clsC)) (h2 : Sl w 6 A2 n2 c2 (ps.flatMap posC)) (hn : n < 1099511627776) (hn2 : n2 < 1099511627776) (hw : ∀ x ∈ cl, WdC x) (hw2 : ∀ x ∈ ps, WdP x) :
  Calls Tryz.prog 14 #[.agg #[.slice A n c, .slice A2 n2 c2]] w fun r w' => r = .returned (.int .i64 (chkH cl ps)) ∧ Ext w w' := by
 have C1 := Lib.hid (fun (w' : World) (hx : Ext w w') (q : Nat) => hbcheck_any q n c n2 c2 A A2 cl ps w' (h.ext hx) (h2.ext hx) hn hn2 hw hw2)
 obtain ⟨E, hE⟩ : ∃ E, E = chkH cl ps := ⟨_, rfl⟩
 rw [← hE] at C1 ⊢
 clear h h2 hw hw2 hE
 go_enter Tryz.func14, Tryz.ntmps14
 go_wp2_with fail
 (with_reducible refine (C1.out _ zxt (w.heap.size + 1) (by simp [go_sem]) (by simp [go_sem])).mono ?_)
 rintro e w1 ⟨rfl, hx1⟩
 have z1 := hx1.size
 try simp at z1
 have X1 : Hid (Ext w w1) := Lib.hid (Ext.trans zxt hx1)
 clear hx1 z1
 go_wp2_with fail
 go_ret
 exact ⟨rfl, zxt⟩
theorem hcopied_any (c c2 : Nat) (A A2 : Option Addr) (cl ps : List I6) (w : World) (h : Sl w 6 A cl.length c (cl.flatMap clsC)) (h2 : Sl w 6 A2 ps.length c2 (ps.flatMap posC)) (hn : cl.length < 1099511627776) (hn2 : ps.length < 1099511627776) (hA : A = none → c = 0) (hA2 : A2 = none → c2 = 0) :
  Calls Tryz.prog 73 #[.agg #[.slice A cl.length c, .slice A2 ps.length c2]] w fun r w' => ∃ v, r = .returned v ∧ HoldR cl ps w v w' := by
 have HS := Lib.hid h
 have HT := Lib.hid h2
 clear h h2
 go_enter Tryz.func73, Tryz.ntmps73
 go_wp2_with fail
 refine wp_region_held_drew (S := fun w' => w'.cell? ⟨w.heap.size, 0, none⟩ = some (.slice A cl.length c) ∧ w'.cell? ⟨w.heap.size, 1, none⟩ = some (.slice A2 ps.length c2)) (by kernel_rfl) (by first | exact ⟨c0_0, c0_1⟩ | (simp [go_sem, World.cell?_alloc_past]; done)) (fun hHeld => ?_)
 refine' zt 0 ?_
 refine' zt 1 ?_
 refine' zt 3 ?_
 refine' zt 4 ?_
 refine' zn 2 (fun K hK => ?_)
 go_simp
 (with_reducible refine (hcClone_any A c cl _ (HS.out.ext zxt) hn hA).mono ?_)
 rintro e w1 ⟨B, d, rfl, hB, ho, hx1⟩
 have c0_0 : w1.cell? ⟨w.heap.size, 0, none⟩ = some (.slice A cl.length c) := hx1.has zcv
 have c0_1 : w1.cell? ⟨w.heap.size, 1, none⟩ = some (.slice A2 ps.length c2) := hx1.has zcv
 have c1_0f : w1.frozen? ⟨w.heap.size + 1, 0, none⟩ = false := hx1.froz (v := .slice none 0 0) zcv zcv
 have c1_1f : w1.frozen? ⟨w.heap.size + 1, 1, none⟩ = false := hx1.froz (v := .slice none 0 0) zcv zcv
 have c1_0 : w1.cell? ⟨w.heap.size + 1, 0, none⟩ = some (.slice none 0 0) := hx1.has zcv
 have c1_1 : w1.cell? ⟨w.heap.size + 1, 1, none⟩ = some (.slice none 0 0) := hx1.has zcv
 have z1 := hx1.size
 try simp at z1
 have lt_c0_c1 : w.heap.size < w.heap.size + 1 := by omega
 have ne_c0_c1 : ¬ w.heap.size = w.heap.size + 1 := by omega
 have ne_c1_c0 : ¬ w.heap.size + 1 = w.heap.size := by omega
 have rc0 := zr w.heap.size w1
 have rc1 := zr (w.heap.size + 1) w1
 replace HS := Lib.hid (HS.out.ext (Ext.trans zxt hx1))
 replace HT := Lib.hid (HT.out.ext (Ext.trans zxt hx1))
 have X1 : Hid (Ext w w1) := Lib.hid (Ext.trans zxt hx1)
 have HB := Lib.hid (show OwnCls _ (w.heap.size + 2) _ _ _ from own_lower ho (by first | omega | (simp; done) | (simp; omega)))
 clear hx1
 clear ho
 refine' zk hK (by (first | exact ⟨c0_0, c0_1⟩ | (simp [go_sem, World.cell?_alloc_past, *]; done))) (fun hHeld => ?_); clear hK K
 refine' zn 5 (fun K hK => ?_)
 go_simp
 (with_reducible refine (hpClone_any A2 c2 ps _ (HT.out.ext zxt) hn2 hA2).mono ?_)
 rintro e w2 ⟨B2, d2, rfl, hB2, ho, hx2⟩
 replace c0_0 := zh hx2 c0_0
 replace c0_1 := zh hx2 c0_1
 replace c1_0f := zf hx2 c1_0 c1_0f
 replace c1_1f := zf hx2 c1_1 c1_1f
 replace c1_0 := zh hx2 c1_0
 replace c1_1 := zh hx2 c1_1
 have z2 := hx2.size
 try simp at z2
 replace rc0 := zr w.heap.size w2
 replace rc1 := zr (w.heap.size + 1) w2
 replace HS := Lib.hid (HS.out.ext (Ext.trans zxt hx2))
 replace HT := Lib.hid (HT.out.ext (Ext.trans zxt hx2))
 replace HB := Lib.hid (HB.out.ext (Ext.trans zxt hx2))
 have X2 : Hid (Ext w w2) := Lib.hid (Ext.trans zxt hx2)
 have HP := Lib.hid (show OwnPos _ (w.heap.size + 2) _ _ _ from own_lower ho (by first | omega | (simp; done) | (simp; omega)))
 clear X1 hx2
 clear ho
 refine' zk hK (by (first | exact ⟨c0_0, c0_1⟩ | (simp [go_sem, World.cell?_alloc_past, *]; done))) (fun hHeld => ?_); clear hK K
 refine' zt 6 ?_
 refine' zt 7 ?_
 refine' zn 8 (fun K hK => ?_)
 go_simp
 refine' zk hK (by (first | exact ⟨c0_0, c0_1⟩ | (simp [go_sem, World.cell?_alloc_past, *]; done))) (fun hHeld => ?_); clear hK K
 refine wpAnyH_done (by kernel_rfl) ?_ _
 go_wp2_with fail
 refine bodyPost_ret (v := .agg #[.slice B cl.length d, .slice B2 ps.length d2]) (by simp [results, Tryz.results73, go_sem, World.cell?_alloc_past, *]; try rfl) rfl ⟨_, rfl, B, d, B2, d2, rfl, hB, hB2, own_lower (show World.ownsRow _ (w.heap.size + 2) _ _ _ _ _ from by repeat (first | with_reducible refine World.ownsRow.drew ?_ | with_reducible refine own_box ?_ (by omega) | exact HB.out)) (by omega), own_lower (show World.ownsRow _ (w.heap.size + 2) _ _ _ _ _ from by repeat (first | with_reducible refine World.ownsRow.drew ?_ | with_reducible refine own_box ?_ (by omega) | exact HP.out)) (by omega), ?_⟩
 exact zxt
end
end Go.Proofs.YtkinchgjidpjnaaGreat
