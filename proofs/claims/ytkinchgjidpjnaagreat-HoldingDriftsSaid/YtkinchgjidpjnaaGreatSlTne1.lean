/- Tne, part 1. Conditions stand in each lemma. -/
import Derived.WalkKit
import Derived.Deep.QuietTactic
import Derived.Deep.Draws
import Derived.Lib.Hide
import Derived.Laws.OwnMore
import Derived.Laws.AppendOwn
import Derived.OwnWalk
import Derived.Maps.AppendAt
import Derived.Deep.RegionHeld3
import Derived.RangeFuncBox
import Derived.RangeFuncLeaves
import Derived.Shelf.Abstract
import Derived.OwnWalkIn
import Derived.TacticsInMore
import Derived.LoopNIn
import Derived.LoopIn
import Derived.Test.YtkinchgjidpjnaaGreatRows
import Derived.Deep.Onto
import Derived.ProofKit
import Derived.ChangeOld
import Derived.OpenShut
import Derived.Deep.Slices
import Derived.BigQuiet
import Derived.IntWalk
import Derived.Lib.SliceRun
import Derived.Deep.LoopGhost
import Derived.WalkSpells
import Derived.WalkLawsBesides
import Derived.Lib.SmallJoins
import Derived.Test.YtkinchgjidpjnaaGreatShelf
import Derived.Test.YtkinchgjidpjnaaGreatDivNorm
import Derived.Deep.DeepCutAuto
import Derived.Deep.CutBlock
import Derived.Shelf.Spec.BitsCarry
import Derived.Test.YtkinchgjidpjnaaGreatFixRefMath
import Derived.Test.YtkinchgjidpjnaaGreatFixDivideMath
import Derived.Handy
import Derived.ArgAppend
import Derived.Laws.CopyRow
import Derived.Lib.AppendZerosOnto
import Derived.Laws.Externs
import Derived.Lib.Overlaps
import Derived.Shelf.RegionOpenPlain
import Derived.Lib.AppendZeros
import Derived.WalkMore
import Derived.Laws.IdiomCopy
import Derived.Laws.StructEq
import Derived.Laws.BytesArg
import Derived.RangeFuncNested
import Derived.Test.YtkinchgjidpjnaaGreatSlTba5
import Derived.Test.YtkinchgjidpjnaaGreatSlTkn2
set_option linter.unusedVariables false
set_option linter.unusedSimpArgs false
set_option maxRecDepth 100000
set_option maxHeartbeats 64000000
namespace Go.Proofs.YtkinchgjidpjnaaGreat
section
open Go.RowKit
theorem zSlTne1_0 {P : Prop} (h : P := by first | exact ⟨d0, d1, d2, d3, d4, d5, d6, d7, f0, f1, f2, f3⟩ | (simp [go_sem, World.cell?_alloc_past]; done) | (simp [go_sem, World.cell?_alloc_past, *]; done)) : P := h
theorem zSlTne1_1 {P : Prop} (h : P := by repeat (first | assumption | exact Ext.refl _ | refine Ext.drew ?_ | refine Ext.drewN ?_ _ | refine Ext.alloc ?_ _ | refine Ext.setCell ?_ (by first | omega | (simp; done) | (simp; omega)) _ | refine Ext.trans ?_ (by assumption))) : P := h
theorem zSlTne1_2 {P : Prop} (h : P := by simp [go_sem, World.cell?_alloc_past]) : P := h
theorem zSlTne1_3 {P : Prop} (h : P := by repeat (first | with_reducible exact Ext.refl _ | with_reducible refine Ext.drew ?_ | with_reducible refine Ext.alloc ?_ _)) : P := h
theorem chkS_of {V S P F : Int} (h : StampOk V S P F) : chkS V S P F = 0 := by
 obtain ⟨a1, a2, a3, a4, a5, a6, a7, a8, a9, a10, a11⟩ := h
 have o1 : outB V 0 31 = false := by unfold outB; simp; omega
 have o2 : outB S 1 4294967296 = false := by unfold outB; simp; omega
 have o3 : outB P (-1) 31 = false := by unfold outB; simp; omega
 have o4 : outB F 0 4294967296 = false := by unfold outB; simp; omega
 unfold chkS
 rw [o1, o2, o3, o4]
 have q1 : (P == V) = false := beq_false_of_ne a9
 have q2 : (P == -1) = (F == 0) := by
  rw [Bool.eq_iff_iff]; simp; exact a10
 have q3 : decide (S < F) = false := decide_eq_false (by omega)
 rw [q1, q2, q3]
 simp [firstR]
end
section
open Go.RowKit
section
variable {α : Type} {key : α → List Int} {d : Nat}
theorem mem_lay {l : List α} {q : List Int} {o : Option α} {z : α} (h : z ∈ layK key l q o) : z ∈ l ∨ o = some z := by
 induction l with
 | nil => right; unfold layK at h; simpa [Option.mem_toList] using h
 | cons x l ih =>
  unfold layK at h
  split at h
  ·rcases List.mem_cons.1 h with rfl | h
   ·exact .inl (List.mem_cons_self ..)
   rcases ih h with h | h
   ·exact .inl (List.mem_cons_of_mem _ h)
   exact .inr h
  split at h
  ·rcases List.mem_append.1 h with h | h
   ·exact .inr (by simpa [Option.mem_toList] using h)
   exact .inl (List.mem_cons_of_mem _ h)
  rcases List.mem_append.1 h with h | h
  ·exact .inr (by simpa [Option.mem_toList] using h)
  exact .inl h
theorem sort_lay (hd : ∀ x, (key x).length = d) {q : List Int} (hq : q.length = d) {o : Option α} (ho : ∀ y, o = some y → key y = q) : ∀ {l : List α}, SortK key l → SortK key (layK key l q o)
 | [], _ => by unfold layK; cases o <;> simp [SortK]
 | x :: l, hs => by
  have ih := sort_lay hd hq ho hs.tail
  unfold layK
  by_cases h1 : cmpK (key x) q < 0
  ·rw [if_pos h1]
   refine List.pairwise_cons.2 ⟨fun z hz => ?_, ih⟩
   rcases mem_lay hz with hz | hz
   ·exact hs.head z hz
   ·rw [ho z hz]; exact h1
  ·rw [if_neg h1]
   by_cases h2 : key x = q
   ·rw [if_pos h2]
    cases o with
    | none => exact hs.tail
    | some y => exact List.pairwise_cons.2 ⟨fun z hz => by rw [ho y rfl, ← h2]; exact hs.head z hz, hs.tail⟩
   ·rw [if_neg h2]
    cases o with
    | none => exact hs
    | some y =>
     have hg : cmpK q (key x) < 0 := cmpK_gt (by rw [hd, hq]) h1 h2
     refine List.pairwise_cons.2 ⟨fun z hz => ?_, hs⟩
     rw [ho y rfl]
     rcases List.mem_cons.1 hz with rfl | hz
     ·exact hg
     ·exact cmpK_trans (by rw [hd, hq]) (by rw [hd, hd]) hg (hs.head z hz)
theorem get_lay (hd : ∀ x, (key x).length = d) {q q' : List Int} (hq : q.length = d) {o : Option α} (ho : ∀ y, o = some y → key y = q) : ∀ {l : List α}, SortK key l → getK key (layK key l q o) q' = if q' = q then o else getK key l q'
 | [], _ => by
  unfold layK
  cases o with
  | none => simp [getK]
  | some y =>
   show getK key [y] q' = _
   rw [getK_cons, ho y rfl]
   by_cases h : q' = q
   ·rw [if_pos h, if_pos h.symm]
   ·rw [if_neg h, if_neg (fun e => h e.symm)]
 | x :: l, hs => by
  have ih := get_lay (q' := q') hd hq ho hs.tail
  unfold layK
  by_cases h1 : cmpK (key x) q < 0
  ·have hne : key x ≠ q := fun e => by rw [e, cmpK_self] at h1; omega
   rw [if_pos h1, getK_cons, getK_cons, ih]
   by_cases h : q' = q
   ·rw [if_pos h, if_pos h, if_neg (by rw [h]; exact hne)]
   ·rw [if_neg h, if_neg h]
  ·rw [if_neg h1]
   by_cases h2 : key x = q
   ·rw [if_pos h2, getK_cons]
    have hab : getK key l q = none := getK_above hd (fun y hy => by rw [← h2]; exact hs.head y hy)
    cases o with
    | none =>
     show getK key l q' = _
     by_cases h : q' = q
     ·rw [if_pos h, h, hab]
     ·rw [if_neg h, if_neg (by rw [h2]; exact fun e => h e.symm)]
    | some y =>
     show getK key (y :: l) q' = _
     rw [getK_cons, ho y rfl]
     by_cases h : q' = q
     ·rw [if_pos h, if_pos h.symm]
     ·rw [if_neg h, if_neg (fun e => h e.symm), if_neg (by rw [h2]; exact fun e => h e.symm)]
   ·rw [if_neg h2]
    have hg : cmpK q (key x) < 0 := cmpK_gt (by rw [hd, hq]) h1 h2
    have hab : getK key (x :: l) q = none := getK_above hd (fun y hy => by
     rcases List.mem_cons.1 hy with rfl | hy
     ·exact hg
     ·exact cmpK_trans (by rw [hd, hq]) (by rw [hd, hd]) hg (hs.head y hy))
    cases o with
    | none =>
     show getK key (x :: l) q' = _
     by_cases h : q' = q
     ·rw [if_pos h, h, hab]
     ·rw [if_neg h]
    | some y =>
     show getK key (y :: x :: l) q' = _
     rw [getK_cons, ho y rfl]
     by_cases h : q' = q
     ·rw [if_pos h, if_pos h.symm]
     ·rw [if_neg h, if_neg (fun e => h e.symm)]
theorem addF_opt (f : α → Int) (o : Option α) : addF f o.toList = optF f o := by cases o <;> simp [addF, optF]
theorem sum_lay (hd : ∀ x, (key x).length = d) (f : α → Int) {q : List Int} (hq : q.length = d) {o : Option α} : ∀ {l : List α}, SortK key l → addF f (layK key l q o) + optF f (getK key l q) = addF f l + optF f o
 | [], _ => by unfold layK; rw [addF_opt]; simp [getK, optF, addF]
 | x :: l, hs => by
  have ih := sum_lay hd f hq (o := o) hs.tail
  unfold layK
  by_cases h1 : cmpK (key x) q < 0
  ·have hne : key x ≠ q := fun e => by rw [e, cmpK_self] at h1; omega
   rw [if_pos h1, getK_cons, if_neg hne, addF_cons, addF_cons]
   omega
  ·rw [if_neg h1]
   by_cases h2 : key x = q
   ·rw [if_pos h2, getK_cons, if_pos h2, addF_app, addF_opt, addF_cons]
    show _ + f x = _
    omega
   ·have hg : cmpK q (key x) < 0 := cmpK_gt (by rw [hd, hq]) h1 h2
    have hab : getK key (x :: l) q = none := getK_above hd (fun y hy => by
     rcases List.mem_cons.1 hy with rfl | hy
     ·exact hg
     ·exact cmpK_trans (by rw [hd, hq]) (by rw [hd, hd]) hg (hs.head y hy))
    rw [if_neg h2, hab, addF_app, addF_opt]
    show _ + 0 = _
    omega
theorem len_lay (hd : ∀ x, (key x).length = d) {q : List Int} (hq : q.length = d) (o : Option α) {l : List α} (hs : SortK key l) : (layK key l q o).length + (getK key l q).toList.length = l.length + o.toList.length := by
 have h := sum_lay hd (fun _ => 1) hq (o := o) hs
 have e : ∀ l : List α, addF (fun _ => 1) l = l.length := fun l => by
  induction l with
  | nil => rfl
  | cons x l ih => rw [addF_cons, ih, List.length_cons]; omega
 rw [e, e] at h
 cases o <;> cases hg : getK key l q <;> rw [hg] at h <;> simp only [optF, Option.toList, List.length_nil, List.length_cons] at h ⊢ <;> omega
end
end
section
open Go.RowKit
theorem tNew_any (v h : Int) (b1 b2 : Bool) (h1 : outB v 0 31 = b1) (h2 : outB h 1 4294967296 = b2) (w : World) :
  Calls Tryz.prog 87 #[.int .i64 v, .int .i64 h] w fun r w' => r = .returned (.tuple #[.agg #[.int .i64 (if (b1 || b2) = true then 0 else v), .int .i64 (if (b1 || b2) = true then 0 else h), .int .i64 (if (b1 || b2) = true then 0 else -1), .int .i64 0], .int .i64 (if (b1 || b2) = true then 3 else 0)]) ∧ Ext w w' := by
 have C1 := fun w => tnoone_any v w
 have C2 := fun w => tnowhen_any h w
 rw [h1] at C1
 rw [h2] at C2
 clear h1 h2
 replace C1 := Lib.hid C1
 replace C2 := Lib.hid C2
 cases b1
 ·cases b2
  ·simp only [Bool.or_self, Bool.false_eq_true, if_false]
   go_enter Tryz.func87, Tryz.ntmps87
   go_wp2_with fail
   refine (C1.out _).mono ?_
   rintro r w1 ⟨rfl, rfl⟩
   go_wp2_with fail
   refine (C2.out _).mono ?_
   rintro r w1 ⟨rfl, rfl⟩
   go_wp2
   refine bodyPost_ret (v := .tuple #[.agg #[.int .i64 v, .int .i64 h, .int .i64 (-1), .int .i64 0], .int .i64 0]) (by simp [results, Tryz.results87, go_sem]; try rfl) rfl ⟨rfl, ?_⟩
   exact zSlTne1_1
  simp only [Bool.false_or, if_true]
  go_enter Tryz.func87, Tryz.ntmps87
  go_wp2_with fail
  refine (C1.out _).mono ?_
  rintro r w1 ⟨rfl, rfl⟩
  go_wp2_with fail
  refine (C2.out _).mono ?_
  rintro r w1 ⟨rfl, rfl⟩
  go_wp2
  refine bodyPost_ret (v := .tuple #[.agg #[.int .i64 0, .int .i64 0, .int .i64 0, .int .i64 0], .int .i64 3]) (by simp [results, Tryz.results87, go_sem]; try rfl) rfl ⟨rfl, ?_⟩
  exact zSlTne1_1
 simp only [Bool.true_or, if_true]
 go_enter Tryz.func87, Tryz.ntmps87
 go_wp2_with fail
 refine (C1.out _).mono ?_
 rintro r w1 ⟨rfl, rfl⟩
 go_wp2
 refine bodyPost_ret (v := .tuple #[.agg #[.int .i64 0, .int .i64 0, .int .i64 0, .int .i64 0], .int .i64 3]) (by simp [results, Tryz.results87, go_sem]; try rfl) rfl ⟨rfl, ?_⟩
 exact zSlTne1_1
theorem leave_ok {T S N : Int} (h : PoolOk T S) (hN : Word N) (he : leaE T S N = 0) :
  0 < N ∧ N ≤ S ∧ leaT T S N = T - leaN T S N ∧ leaS T S N = S - N ∧ 0 < leaN T S N ∧ leaN T S N ≤ N ∧ leaN T S N ≤ T ∧ PoolOk (T - leaN T S N) (S - N) ∧ 0 < S ∧ S * leaN T S N ≤ N * T ∧ N * T < S * leaN T S N + S := by
 have h1 : leaT T S N = T - worV T S N := if_pos he
 have h2 : leaS T S N = S - N := if_pos he
 have h3 : leaN T S N = worV T S N := if_pos he
 rw [h1, h2, h3]
 unfold leaE at he
 rw [if_pos h.chk] at he
 have c1 : ¬ S < N := by intro hh; rw [if_pos hh] at he; omega
 rw [if_neg c1] at he
 have c2 : ¬ worV T S N = 0 := by intro hh; rw [if_pos hh] at he; omega
 obtain ⟨w0, w1⟩ := worV_le h.wt h.ws hN (by omega)
 obtain ⟨N0, N1⟩ := hN
 obtain ⟨a1, a2, a3, a4, a5⟩ := h
 have hS : ¬ S = 0 := by intro hh; unfold worV at c2; rw [if_pos hh] at c2; exact c2 rfl
 have hSp : 0 < S := by omega
 have hT : 0 < T := by
  rcases Int.lt_or_le 0 T with h | h
  ·exact h
  exact absurd (a5 (by omega)) hS
 have hle : N * T / S ≤ T := by
  refine Int.ediv_le_of_le_mul hSp ?_
  rw [Int.mul_comm T S]
  exact Int.mul_le_mul_of_nonneg_right (by omega) a1
 have e : worV T S N = N * T / S := by
  unfold worV mdN; rw [if_neg hS, if_neg hS, if_pos (by omega)]
 have f1 : S * worV T S N ≤ N * T := by rw [e]; exact fl_le hSp
 have f2 : N * T < S * worV T S N + S := by rw [e]; exact fl_lt hSp
 generalize worV T S N = V at *
 have hVN : V ≤ N := by
  rcases Int.lt_or_le N V with hh | hh
  ·have g1 : S * (N + 1) ≤ S * V := Int.mul_le_mul_of_nonneg_left (by omega) (by omega)
   have g2 : N * T ≤ N * S := Int.mul_le_mul_of_nonneg_left a2 N0
   rw [Int.mul_add, Int.mul_one, Int.mul_comm S N] at g1
   omega
  exact hh
 have hlast : T - V ≤ S - N := by
  rcases Int.lt_or_le (S - N) (T - V) with hh | hh
  ·have g1 : S * (S - N + 1) ≤ S * (T - V) := Int.mul_le_mul_of_nonneg_left (by omega) (by omega)
   have g2 : (S - N) * T ≤ (S - N) * S := Int.mul_le_mul_of_nonneg_left a2 (by omega)
   rw [Int.mul_sub] at g1
   rw [Int.sub_mul, Int.sub_mul] at g2
   rw [Int.mul_add, Int.mul_sub, Int.mul_one, Int.mul_comm S N] at g1
   omega
  exact hh
 have hzero : T - V = 0 → S - N = 0 := by
  intro hh
  have hv : V = T := by omega
  subst hv
  rcases Int.lt_or_le N S with hlt | hge
  ·have g : (N + 1) * V ≤ S * V := Int.mul_le_mul_of_nonneg_right (by omega) (by omega)
   rw [Int.add_mul, Int.one_mul] at g
   omega
  omega
 have hN0 : 0 < N := by omega
 exact ⟨hN0, by omega, rfl, rfl, by omega, hVN, w1, ⟨by omega, hlast, by omega, by omega, hzero⟩, hSp, f1, f2⟩
theorem getK_self {l : List I6} {c : I6} (hs : SortK kC l) (hc : c ∈ l) : getK kC l (kC c) = some c := by
 obtain ⟨y, hy⟩ := Option.isSome_iff_exists.1 (getK_mem_some (key := kC) hc)
 obtain ⟨hm, hk⟩ := getK_mem hy
 obtain ⟨i, hi⟩ := List.getElem?_of_mem hc
 obtain ⟨j, hj⟩ := List.getElem?_of_mem hm
 have hij := sort_inj hs hi hj hk.symm
 subst hij
 rw [hi] at hj
 rw [hy, Option.some.inj hj]
theorem shO_if (q : List Int) : ∀ ps : List I6, shO ps q = addF (fun p => if stP p = q then shP p else 0) ps
 | [] => rfl
 | p :: ps => by
  have ih := shO_if q ps
  unfold shO at ih ⊢
  rw [List.filter_cons, addF_cons, ← ih]
  by_cases h : stP p = q
  ·rw [if_pos (by simpa using h), if_pos h, addF_cons]
  ·rw [if_neg (by simpa using h), if_neg h]
   omega
theorem stP_key {x : I6} {o V S P F : Int} (h : kP x = [o, V, S, P, F]) : x.1 = o ∧ stP x = [V, S, P, F] := by
 have e : kP x = x.1 :: stP x := rfl
 rw [e] at h
 injection h with h1 h2
 exact ⟨h1, h2⟩
theorem optP_sh (q : List Int) (o V S P F n : Int) : optF (fun p => if stP p = q then shP p else 0) (optP o V S P F n) = if q = [V, S, P, F] then n else 0 := by
 unfold optP
 by_cases hn : n = 0
 ·rw [if_pos hn, hn]
  show 0 = _
  split <;> rfl
 rw [if_neg hn]
 show (if [V, S, P, F] = q then n else 0) = _
 by_cases hq : q = [V, S, P, F]
 ·rw [if_pos hq, if_pos hq.symm]
 rw [if_neg hq, if_neg (fun h => hq h.symm)]
theorem posSet_sh {ps : List I6} (hs : SortK kP ps) (q : List Int) (o V S P F n : Int) : shO (posSet ps o V S P F n) q = shO ps q + if q = [V, S, P, F] then n - hasV ps [o, V, S, P, F] else 0 := by
 have h := sum_lay kP_len (fun p => if stP p = q then shP p else 0) (show [o, V, S, P, F].length = 5 from rfl) (o := optP o V S P F n) hs
 rw [optP_sh] at h
 rw [shO_if, shO_if]
 unfold posSet hasV
 cases hg : getK kP ps [o, V, S, P, F] with
 | none =>
  rw [hg] at h
  change _ + 0 = _ at h
  show _ = _ + if q = [V, S, P, F] then n - 0 else 0
  by_cases hq : q = [V, S, P, F]
  ·rw [if_pos hq] at h ⊢
   omega
  rw [if_neg hq] at h ⊢
  omega
 | some x =>
  rw [hg] at h
  obtain ⟨_, hk⟩ := getK_mem hg
  have hst := (stP_key hk).2
  change _ + (if stP x = q then shP x else 0) = _ at h
  show _ = _ + if q = [V, S, P, F] then n - shP x else 0
  rw [hst] at h
  by_cases hq : q = [V, S, P, F]
  ·rw [if_pos hq] at h ⊢
   rw [if_pos hq.symm] at h
   omega
  rw [if_neg hq] at h ⊢
  rw [if_neg (fun h => hq h.symm)] at h
  omega
theorem clsSet_get {cl : List I6} (hs : SortK kC cl) (V S P F T H : Int) (q' : List Int) : getK kC (clsSet cl V S P F T H) q' = if q' = [V, S, P, F] then optC V S P F T H else getK kC cl q' := by
 unfold clsSet
 refine get_lay kC_len rfl (fun y hy => ?_) hs
 unfold optC at hy
 split at hy
 ·cases hy
 rw [← Option.some.inj hy]
 rfl
theorem optC_to (V S P F T H : Int) : optF toC (optC V S P F T H) = if T = 0 ∧ H = 0 then 0 else T := by
 unfold optC
 split <;> rfl
theorem clsSet_tot {cl : List I6} (hs : SortK kC cl) (V S P F T H : Int) : totC (clsSet cl V S P F T H) = totC cl - fndT cl [V, S, P, F] + T := by
 have h := sum_lay kC_len toC (show [V, S, P, F].length = 4 from rfl) (o := optC V S P F T H) hs
 rw [optC_to] at h
 unfold totC fndT clsSet
 split at h <;> omega
theorem set_HOk {cl ps : List I6} {o V S P F T H n : Int} (hk : HOk cl ps) (hw : ∀ c ∈ cl, WdC c) (hw2 : ∀ p ∈ ps, WdP p) (ho : 0 ≤ o ∧ o < 64) (hst : chkS V S P F = 0) (hp : PoolOk T H) (hn : Word n)
  (hsum : H = fndS cl [V, S, P, F] + (n - hasV ps [o, V, S, P, F])) (hlen : (getK kC cl [V, S, P, F]).isNone = true → cl.length < 1024) (htot : totC cl - fndT cl [V, S, P, F] + T ≤ 4611686018427387904) :
  HOk (clsSet cl V S P F T H) (posSet ps o V S P F n) ∧ (∀ c ∈ clsSet cl V S P F T H, WdC c) ∧ (∀ p ∈ posSet ps o V S P F n, WdP p) := by
 have wC : ∀ c ∈ clsSet cl V S P F T H, c ∈ cl ∨ optC V S P F T H = some c := fun c hc => mem_lay hc
 have wP : ∀ p ∈ posSet ps o V S P F n, p ∈ ps ∨ optP o V S P F n = some p := fun p hc => mem_lay hc
 have oC : ∀ c, optC V S P F T H = some c → c = (V, S, P, F, T, H) ∧ ¬ (T = 0 ∧ H = 0) := fun c hc => by
  unfold optC at hc
  split at hc
  ·cases hc
  exact ⟨(Option.some.inj hc).symm, by assumption⟩
 have oP : ∀ p, optP o V S P F n = some p → p = (o, V, S, P, F, n) ∧ n ≠ 0 := fun p hc => by
  unfold optP at hc
  split at hc
  ·cases hc
  exact ⟨(Option.some.inj hc).symm, by assumption⟩
 have W1 : ∀ c ∈ clsSet cl V S P F T H, WdC c := fun c hc => by
  rcases wC c hc with h | h
  ·exact hw c h
  rw [(oC c h).1]; exact ⟨hp.wt, hp.ws⟩
 have W2 : ∀ p ∈ posSet ps o V S P F n, WdP p := fun p hc => by
  rcases wP p hc with h | h
  ·exact hw2 p h
  rw [(oP p h).1]; exact hn
 have sC : SortK kC (clsSet cl V S P F T H) := sort_lay kC_len rfl (fun y hy => by rw [(oC y hy).1]; rfl) hk.sc
 have sP : SortK kP (posSet ps o V S P F n) := sort_lay kP_len rfl (fun y hy => by rw [(oP y hy).1]; rfl) hk.sp
 have hS : ∀ q, shO (posSet ps o V S P F n) q = if q = [V, S, P, F] then H else shO ps q := fun q => by
  rw [posSet_sh hk.sp]
  by_cases hq : q = [V, S, P, F]
  ·rw [if_pos hq, if_pos hq, hq, hk.fnd]
   omega
  rw [if_neg hq, if_neg hq]
  omega
 have le : ∀ p ∈ posSet ps o V S P F n, shP p ≤ shO (posSet ps o V S P F n) (stP p) := fun p hc =>
  addF_mem (f := shP) (fun y hy => (W2 y (List.mem_filter.1 hy).1).1) (List.mem_filter.2 ⟨hc, by simp⟩)
 have nz : ∀ p ∈ posSet ps o V S P F n, shP p ≠ 0 := fun p hc => by
  rcases wP p hc with h | h
  ·exact (hk.pos p h).2.1
  rw [(oP p h).1]; exact (oP p h).2
 refine ⟨⟨sC, sP, ?_, ?_, ?_, ?_, ?_⟩, W1, W2⟩
 ·have h := len_lay kC_len (show [V, S, P, F].length = 4 from rfl) (optC V S P F T H) hk.sc
  have h1 : (optC V S P F T H).toList.length ≤ 1 := by cases optC V S P F T H <;> simp
  have h2 := hk.len
  unfold clsSet
  cases hg : getK kC cl [V, S, P, F] with
  | none =>
   have := hlen (by rw [hg]; rfl)
   rw [hg] at h
   simp only [Option.toList_none, List.length_nil] at h
   omega
  | some x =>
   rw [hg] at h
   simp only [Option.toList_some, List.length_cons, List.length_nil] at h
   omega
 ·rw [clsSet_tot hk.sc]; exact htot
 ·intro c hc
  rcases wC c hc with h | h
  ·exact hk.cls c h
  obtain ⟨rfl, hz⟩ := oC c h
  exact ⟨hst, hp.chk, hz⟩
 ·intro p hc
  refine ⟨?_, nz p hc, ?_⟩
  ·rcases wP p hc with h | h
   ·exact (hk.pos p h).1
   rw [(oP p h).1]; exact ho
  rw [clsSet_get hk.sc]
  have h1 := le p hc
  have h2 := nz p hc
  have h3 := (W2 p hc).1
  by_cases hq : stP p = [V, S, P, F]
  ·rw [if_pos hq]
   rw [hS, if_pos hq] at h1
   unfold optC
   rw [if_neg (by omega)]
   rfl
  rw [if_neg hq]
  rcases wP p hc with h | h
  ·exact (hk.pos p h).2.2
  exact absurd (by rw [(oP p h).1]; rfl) hq
 intro c hc
 rw [hS]
 have h1 := getK_self sC hc
 rw [clsSet_get hk.sc] at h1
 by_cases hq : kC c = [V, S, P, F]
 ·rw [if_pos hq] at h1 ⊢
  rw [(oC c h1).1]
  rfl
 rw [if_neg hq] at h1 ⊢
 exact hk.sum c (getK_mem h1).1
theorem join_HOk {cl ps : List I6} {o V S P F a : Int} (hw : ∀ c ∈ cl, WdC c) (hw2 : ∀ p ∈ ps, WdP p) (ha : Word a) (hE : hjoiE cl ps o V S P F a = 0) :
  HOk cl ps ∧ HOk (hjoiV cl ps o V S P F a).1 (hjoiV cl ps o V S P F a).2.1 ∧ (∀ c ∈ (hjoiV cl ps o V S P F a).1, WdC c) ∧ (∀ p ∈ (hjoiV cl ps o V S P F a).2.1, WdP p) ∧ (hjoiV cl ps o V S P F a).1.length ≤ cl.length + 1 ∧ (hjoiV cl ps o V S P F a).2.1.length ≤ ps.length + 1 ∧ totC (hjoiV cl ps o V S P F a).1 = totC cl + a := by
 have hV : hjoiV cl ps o V S P F a = _ := if_pos hE
 unfold hjoiE at hE
 by_cases h0 : chkH cl ps = 0
 ·rw [if_neg (by simpa using h0)] at hE
  have hk := (chkH_iff cl ps).1 h0
  split at hE
  ·omega
  rename_i h1
  split at hE
  ·omega
  rename_i h2
  by_cases h3 : joiE (fndT cl [V, S, P, F]) (fndS cl [V, S, P, F]) a = 0
  ·rw [if_neg (by simpa using h3)] at hE
   split at hE
   ·omega
   rename_i h4
   have hP := hk.pool hw [V, S, P, F]
   obtain ⟨j0, jT, jS, jN, jP, _⟩ := join_ok hP ha h3
   obtain ⟨hl, hh⟩ := hasV_le hw2 o V S P F
   rw [hk.fnd] at hh
   rw [hV]
   simp only
   have hS2 := jP.sm
   have ht := clsSet_tot hk.sc V S P F (joiT (fndT cl [V, S, P, F]) (fndS cl [V, S, P, F]) a) (joiS (fndT cl [V, S, P, F]) (fndS cl [V, S, P, F]) a)
   rw [jT] at ht ⊢
   rw [jS] at ht ⊢
   have h5 : chkS V S P F = 0 := by
    by_cases hc : chkS V S P F = 0
    ·exact hc
    exact absurd (.inr hc) h1
   obtain ⟨A, B, C⟩ := set_HOk (o := o) (n := hasV ps [o, V, S, P, F] + joiN (fndT cl [V, S, P, F]) (fndS cl [V, S, P, F]) a) hk hw hw2 (by omega) h5 jP ⟨by omega, by omega⟩ (by omega) (fun hn => by
    rcases Nat.lt_or_ge cl.length 1024 with h | h
    ·exact h
    exact absurd ⟨hn, h⟩ h2) (by omega)
   refine ⟨hk, A, B, C, ?_, ?_, by omega⟩
   ·have := len_lay kC_len (show [V, S, P, F].length = 4 from rfl) (optC V S P F (fndT cl [V, S, P, F] + a) (fndS cl [V, S, P, F] + joiN (fndT cl [V, S, P, F]) (fndS cl [V, S, P, F]) a)) hk.sc
    unfold clsSet
    have h2 : (optC V S P F (fndT cl [V, S, P, F] + a) (fndS cl [V, S, P, F] + joiN (fndT cl [V, S, P, F]) (fndS cl [V, S, P, F]) a)).toList.length ≤ 1 := by
     generalize optC V S P F (fndT cl [V, S, P, F] + a) (fndS cl [V, S, P, F] + joiN (fndT cl [V, S, P, F]) (fndS cl [V, S, P, F]) a) = x
     cases x <;> simp
    omega
   have := len_lay kP_len (show [o, V, S, P, F].length = 5 from rfl) (optP o V S P F (hasV ps [o, V, S, P, F] + joiN (fndT cl [V, S, P, F]) (fndS cl [V, S, P, F]) a)) hk.sp
   unfold posSet
   have h2 : (optP o V S P F (hasV ps [o, V, S, P, F] + joiN (fndT cl [V, S, P, F]) (fndS cl [V, S, P, F]) a)).toList.length ≤ 1 := by
    generalize optP o V S P F (hasV ps [o, V, S, P, F] + joiN (fndT cl [V, S, P, F]) (fndS cl [V, S, P, F]) a) = x
    cases x <;> simp
   omega
  rw [if_pos h3] at hE
  exact absurd hE h3
 rw [if_pos h0] at hE
 exact absurd hE h0
theorem leave_HOk {cl ps : List I6} {o V S P F x : Int} (hw : ∀ c ∈ cl, WdC c) (hw2 : ∀ p ∈ ps, WdP p) (ha : Word x) (hE : hleaE cl ps o V S P F x = 0) :
  HOk cl ps ∧ HOk (hleaV cl ps o V S P F x).1 (hleaV cl ps o V S P F x).2.1 ∧ (∀ c ∈ (hleaV cl ps o V S P F x).1, WdC c) ∧ (∀ p ∈ (hleaV cl ps o V S P F x).2.1, WdP p) ∧ (hleaV cl ps o V S P F x).1.length ≤ cl.length + 1 ∧ (hleaV cl ps o V S P F x).2.1.length ≤ ps.length + 1 ∧ totC (hleaV cl ps o V S P F x).1 + (hleaV cl ps o V S P F x).2.2.1 = totC cl ∧ 0 ≤ (hleaV cl ps o V S P F x).2.2.1 := by
 have hV : hleaV cl ps o V S P F x = _ := if_pos hE
 unfold hleaE at hE
 by_cases h0 : chkH cl ps = 0
 ·rw [if_neg (by simpa using h0)] at hE
  have hk := (chkH_iff cl ps).1 h0
  by_cases h1 : hasV ps [o, V, S, P, F] = 0
  ·rw [if_pos h1] at hE
   omega
  rw [if_neg h1] at hE
  by_cases h2 : hasV ps [o, V, S, P, F] < x
  ·rw [if_pos h2] at hE
   omega
  rw [if_neg h2] at hE
  have hP := hk.pool hw [V, S, P, F]
  obtain ⟨j0, j1, jT, jS, jn, jn2, jt, jP, _⟩ := leave_ok hP ha hE
  obtain ⟨hl, hh⟩ := hasV_le hw2 o V S P F
  rw [hk.fnd] at hh
  have hS2 := hP.sm
  have hm := hk.tot
  have ht := clsSet_tot hk.sc V S P F (leaT (fndT cl [V, S, P, F]) (fndS cl [V, S, P, F]) x) (leaS (fndT cl [V, S, P, F]) (fndS cl [V, S, P, F]) x)
  rw [hV]
  simp only
  rw [jT, jS] at ht ⊢
  obtain ⟨p, hg⟩ : ∃ p, getK kP ps [o, V, S, P, F] = some p := by
   cases hg : getK kP ps [o, V, S, P, F] with
   | none => exact absurd (by unfold hasV; rw [hg]; rfl) h1
   | some p => exact ⟨p, rfl⟩
  obtain ⟨hpm, hpk⟩ := getK_mem hg
  obtain ⟨ho, hst⟩ := stP_key hpk
  have hgp := hk.pos p hpm
  obtain ⟨c, hc⟩ := Option.isSome_iff_exists.1 hgp.2.2
  rw [hst] at hc
  obtain ⟨hcm, hck⟩ := getK_mem hc
  have hcs := (hk.cls c hcm).1
  have hk4 : c.1 = V ∧ c.2.1 = S ∧ c.2.2.1 = P ∧ c.2.2.2.1 = F := by
   unfold kC at hck
   simpa using hck
  rw [hk4.1, hk4.2.1, hk4.2.2.1, hk4.2.2.2] at hcs
  obtain ⟨A, B, C⟩ := set_HOk (o := o) (n := hasV ps [o, V, S, P, F] - x) hk hw hw2 (by rw [← ho]; exact hgp.1) hcs jP ⟨by omega, by have := ha.1; omega⟩ (by omega) (fun hn => by rw [hc] at hn; cases hn) (by omega)
  refine ⟨hk, A, B, C, ?_, ?_, by omega, by omega⟩
  ·have := len_lay kC_len (show [V, S, P, F].length = 4 from rfl) (optC V S P F (fndT cl [V, S, P, F] - leaN (fndT cl [V, S, P, F]) (fndS cl [V, S, P, F]) x) (fndS cl [V, S, P, F] - x)) hk.sc
   unfold clsSet
   have h2 : (optC V S P F (fndT cl [V, S, P, F] - leaN (fndT cl [V, S, P, F]) (fndS cl [V, S, P, F]) x) (fndS cl [V, S, P, F] - x)).toList.length ≤ 1 := by
    generalize optC V S P F (fndT cl [V, S, P, F] - leaN (fndT cl [V, S, P, F]) (fndS cl [V, S, P, F]) x) (fndS cl [V, S, P, F] - x) = x
    cases x <;> simp
   omega
  have := len_lay kP_len (show [o, V, S, P, F].length = 5 from rfl) (optP o V S P F (hasV ps [o, V, S, P, F] - x)) hk.sp
  unfold posSet
  have h2 : (optP o V S P F (hasV ps [o, V, S, P, F] - x)).toList.length ≤ 1 := by
   generalize optP o V S P F (hasV ps [o, V, S, P, F] - x) = x
   cases x <;> simp
  omega
 rw [if_pos h0] at hE
 exact absurd hE h0
theorem cutC_some {v h p : Int} {c y : I6} (hP : PoolOk (toC c) (shC c)) (hg : GoodC c) (p0 : 0 ≤ p) (p1 : p ≤ 1000000000) (hy : cutC v h p c = some y) : GoodC y ∧ WdC y ∧ kC y = kC c ∧ shC y = shC c := by
 rcases Bool.eq_false_or_eq_true (bkC c v h) with hb | hb
 ·rw [cutC_hit hb] at hy
  obtain ⟨_, c1, c2, c3, c4, _, c5⟩ := cut_ok hP p0 p1
  unfold optC at hy
  split at hy
  ·cases hy
  rename_i hz
  obtain rfl := Option.some.inj hy
  rw [c3, c4] at hz
  have hne : ¬ toC c - cutN (toC c) (shC c) p = 0 := fun h0 => hz ⟨h0, if_pos h0⟩
  rw [if_neg hne] at c4 c5
  refine ⟨⟨hg.1, ?_, ?_⟩, ?_, rfl, c4⟩
  ·show chkE (cutT (toC c) (shC c) p) (cutS (toC c) (shC c) p) = 0
   rw [c3, c4]; exact c5.chk
  ·show ¬ (cutT (toC c) (shC c) p = 0 ∧ _)
   rw [c3]; exact fun h0 => hne h0.1
  show Word (cutT (toC c) (shC c) p) ∧ Word (cutS (toC c) (shC c) p)
  rw [c3, c4]; exact ⟨c5.wt, c5.ws⟩
 rw [cutC_skip hb] at hy
 obtain rfl := Option.some.inj hy
 exact ⟨hg, ⟨hP.wt, hP.ws⟩, rfl, rfl⟩
theorem cut_tot {v h p : Int} {l : List I6} (hl : ∀ c ∈ l, PoolOk (toC c) (shC c)) (p0 : 0 ≤ p) (p1 : p ≤ 1000000000) : totC (cutCs v h p l) + losN (losCs v h p l) = totC l := by
 induction l with
 | nil => rfl
 | cons c l ih =>
  have i := ih (fun c hc => hl c (List.mem_cons_of_mem _ hc))
  have hP := hl c (List.mem_cons_self ..)
  obtain ⟨_, c1, c2, c3, c4, _⟩ := cut_ok hP p0 p1
  unfold totC cutCs losCs losN at i ⊢
  rw [List.filterMap_cons, List.filterMap_cons, addF_cons]
  rcases Bool.eq_false_or_eq_true (bkC c v h) with hb | hb
  ·rw [losC_hit hb, cutC_hit hb]
   unfold optC
   simp only
   rw [addF_cons]
   by_cases hz : cutT (toC c) (shC c) p = 0 ∧ cutS (toC c) (shC c) p = 0
   ·rw [if_pos hz]
    simp only
    omega
   rw [if_neg hz]
   simp only
   rw [addF_cons]
   show cutT (toC c) (shC c) p + _ + _ = _
   omega
  rw [losC_skip hb, cutC_skip hb]
  simp only
  rw [addF_cons]
  omega
theorem cut_HOk {cl ps : List I6} {v h p : Int} (hw : ∀ c ∈ cl, WdC c) (hw2 : ∀ x ∈ ps, WdP x) (hp : Word p) (hE : hcutE cl ps v h p = 0) :
  HOk cl ps ∧ HOk (hcutV cl ps v h p).1 (hcutV cl ps v h p).2.1 ∧ (∀ c ∈ (hcutV cl ps v h p).1, WdC c) ∧ (∀ x ∈ (hcutV cl ps v h p).2.1, WdP x) ∧ (hcutV cl ps v h p).1.length ≤ cl.length + 1 ∧ (hcutV cl ps v h p).2.1.length ≤ ps.length + 1 ∧ totC (hcutV cl ps v h p).1 + (hcutV cl ps v h p).2.2.2.1 = totC cl ∧ 0 ≤ (hcutV cl ps v h p).2.2.2.1 ∧ (hcutV cl ps v h p).2.2.2.1 = losN (hcutV cl ps v h p).2.2.1 := by
 have hV : hcutV cl ps v h p = _ := if_pos hE
 unfold hcutE at hE
 by_cases h0 : chkH cl ps = 0
 ·rw [if_neg (by simpa using h0)] at hE
  have hk := (chkH_iff cl ps).1 h0
  split at hE
  ·omega
  rename_i h1
  have p1 : p ≤ 1000000000 := by omega
  have hPs : ∀ c ∈ cl, PoolOk (toC c) (shC c) := fun c hc => good_pool (hk.cls c hc) (hw c hc)
  have hN := losN_nn (v := v) (h := h) hPs hp.1 p1
  have hT := cut_tot (v := v) (h := h) hPs hp.1 p1
  have hm := hk.tot
  rw [hV]
  simp only
  have hmem : ∀ y ∈ cutCs v h p cl, ∃ c ∈ cl, cutC v h p c = some y := fun y hy => by simpa using List.mem_filterMap.1 hy
  refine ⟨hk, ⟨sort_cut hk.sc, ?_, ?_, by omega, ?_, ?_, ?_⟩, ?_, ?_, ?_, ?_, hT, hN.1, trivial⟩
  ·exact List.Pairwise.sublist List.filter_sublist hk.sp
  ·exact Nat.le_trans (List.length_filterMap_le ..) hk.len
  ·intro y hy
   obtain ⟨c, hc, hcy⟩ := hmem y hy
   exact (cutC_some (hPs c hc) (hk.cls c hc) hp.1 p1 hcy).1
  ·intro x hx
   obtain ⟨hx1, hx2⟩ := List.mem_filter.1 hx
   exact ⟨(hk.pos x hx1).1, (hk.pos x hx1).2.1, hx2⟩
  ·intro y hy
   obtain ⟨c, hc, hcy⟩ := hmem y hy
   obtain ⟨_, _, g3, g4⟩ := cutC_some (hPs c hc) (hk.cls c hc) hp.1 p1 hcy
   rw [g4, ← hk.sum c hc, g3]
   unfold shO keepP
   rw [List.filter_filter]
   congr 1
   refine List.filter_congr (fun x hx => ?_)
   by_cases hq : stP x = kC c
   ·have := getK_mem_some (key := kC) hy
    rw [g3, ← hq] at this
    rw [this]
    simp
   simp [hq]
  ·intro y hy
   obtain ⟨c, hc, hcy⟩ := hmem y hy
   exact (cutC_some (hPs c hc) (hk.cls c hc) hp.1 p1 hcy).2.1
  ·intro x hx
   exact hw2 x (List.mem_filter.1 hx).1
  ·exact Nat.le_succ_of_le (List.length_filterMap_le ..)
  exact Nat.le_succ_of_le (List.length_filter_le ..)
 rw [if_pos h0] at hE
 exact absurd hE h0
theorem kPick_any (x n : Int) (hx : -9223372036854775808 ≤ x) (hx2 : x ≤ 9223372036854775807) (hn : 0 < n) (hn2 : n ≤ 9223372036854775807) (w : World) :
  Calls Tryz.prog 48 #[.int .i64 x, .int .i64 n] w fun e w' => e = .returned (.int .i64 (x % n)) ∧ w = w' := by
 have m0 := Int.emod_nonneg x (by omega : n ≠ 0)
 have m1 := Int.emod_lt_of_pos x hn
 obtain ⟨r, hr⟩ : ∃ r, r = x % n := ⟨_, rfl⟩
 rw [← hr] at m0 m1 ⊢
 by_cases h0 : 0 ≤ x
 ·have e : x % n = r := hr.symm
  clear hr
  go_enter Tryz.func48, Tryz.ntmps48
  go_wp2
  go_ret
  exact ⟨ret_int e, rfl⟩
 obtain ⟨t, ht⟩ : ∃ t, t = x.tmod n := ⟨_, rfl⟩
 have ht2 : t = -((-x) % n) := by
  rw [ht, show x = -(-x) from by omega, Int.neg_tmod, Int.tmod_eq_emod_of_nonneg (by omega)]
  simp
 have hd := Int.mul_ediv_add_emod (-x) n
 have q0 := Int.emod_nonneg (-x) (by omega : n ≠ 0)
 have q1 := Int.emod_lt_of_pos (-x) hn
 have hd2 := Int.mul_ediv_add_emod x n
 rw [← hr] at hd2
 have hcase : t < 0 ∧ r = t + n ∨ t = 0 ∧ r = 0 := by
  have key : n * ((-x) / n + x / n) = t - r := by rw [Int.mul_add]; omega
  rcases Int.lt_or_le t 0 with h | h
  ·left
   refine ⟨h, ?_⟩
   have h1 : (-x) / n + x / n = -1 := by
    rcases Int.lt_trichotomy ((-x) / n + x / n) (-1) with g | g | g
    ·have : n * ((-x) / n + x / n) ≤ n * (-2) := Int.mul_le_mul_of_nonneg_left (by omega) (by omega)
     omega
    ·exact g
    have : n * 0 ≤ n * ((-x) / n + x / n) := Int.mul_le_mul_of_nonneg_left (by omega) (by omega)
    omega
   rw [h1] at key
   omega
  right
  have h0 : t = 0 := by omega
  refine ⟨h0, ?_⟩
  rcases Int.lt_trichotomy ((-x) / n + x / n) 0 with g | g | g
  ·have : n * ((-x) / n + x / n) ≤ n * (-1) := Int.mul_le_mul_of_nonneg_left (by omega) (by omega)
   omega
  ·rw [g] at key; omega
  have : n * 1 ≤ n * ((-x) / n + x / n) := Int.mul_le_mul_of_nonneg_left (by omega) (by omega)
  omega
 have e : x.tmod n = t := ht.symm
 have t0 : -9223372036854775808 ≤ t ∧ t ≤ 0 := by omega
 obtain ⟨t0, t1⟩ := t0
 clear hr ht ht2 hd hd2 q0 q1 m0 m1
 rcases hcase with ⟨c1, c2⟩ | ⟨c1, c2⟩
 ·have C := Lib.hid c2
  have b1 : t + n ≤ 9223372036854775807 := by omega
  have b2 : -9223372036854775808 ≤ t + n := by omega
  clear c2
  go_enter Tryz.func48, Tryz.ntmps48
  go_wp2
  go_ret
  exact ⟨ret_int (by rw [C.out]), rfl⟩
 subst c1
 subst c2
 go_enter Tryz.func48, Tryz.ntmps48
 go_wp2
 go_ret
 exact ⟨rfl, rfl⟩
theorem sl_rules0 (w : World) (e : TypeId) (a b c d : Bool) (k l m n : Int) : Sl (w.alloc (.cells #[.bool a, .int .i64 k, .bool b, .int .i64 l, .bool c, .int .i64 m, .bool d, .int .i64 n] e)) 2 (some ⟨w.heap.size, 0, none⟩) 4 4 ([(a, k), (b, l), (c, m), (d, n)].flatMap rc) :=
 sl_new w e 2 #[.bool a, .int .i64 k, .bool b, .int .i64 l, .bool c, .int .i64 m, .bool d, .int .i64 n] 4 rfl (by decide)
theorem tHop_bad (V S P F tv t E R : Int) (w : World) (CK : Hid (∀ w, Calls Tryz.prog 89 #[.agg #[.int .i64 V, .int .i64 S, .int .i64 P, .int .i64 F]] w fun r w' => r = .returned (.int .i64 E) ∧ Ext w w'))
  (C1 : Hid (∀ w, Calls Tryz.prog 154 #[.int .i64 tv] w fun r w' => r = .returned (.bool true) ∧ w = w')) (HR : Hid (firstR [(E != 0, E), (true, 3), (tv == V, 2), (decide (t < S), 9)] = R)) (hR : (R == 0) = false) (hR2 : (R != 0) = true) :
  Calls Tryz.prog 88 #[.agg #[.int .i64 V, .int .i64 S, .int .i64 P, .int .i64 F], .int .i64 tv, .int .i64 t] w fun r w' => r = .returned (.tuple #[.agg #[.int .i64 0, .int .i64 0, .int .i64 0, .int .i64 0], .int .i64 R]) ∧ Ext w w' := by
 go_enter Tryz.func88, Tryz.ntmps88
 go_wp2_with fail
 refine wp_region_held_drew (S := fun w' => w'.cell? ⟨w.heap.size, 0, none⟩ = some (.int .i64 V) ∧ w'.cell? ⟨w.heap.size, 1, none⟩ = some (.int .i64 S) ∧ w'.cell? ⟨w.heap.size, 2, none⟩ = some (.int .i64 P) ∧ w'.cell? ⟨w.heap.size, 3, none⟩ = some (.int .i64 F) ∧ w'.cell? ⟨w.heap.size + 1, 0, none⟩ = some (.int .i64 0) ∧ w'.cell? ⟨w.heap.size + 1, 1, none⟩ = some (.int .i64 0) ∧ w'.cell? ⟨w.heap.size + 1, 2, none⟩ = some (.int .i64 0) ∧ w'.cell? ⟨w.heap.size + 1, 3, none⟩ = some (.int .i64 0) ∧ w'.frozen? ⟨w.heap.size + 1, 0, none⟩ = false ∧ w'.frozen? ⟨w.heap.size + 1, 1, none⟩ = false ∧ w'.frozen? ⟨w.heap.size + 1, 2, none⟩ = false ∧ w'.frozen? ⟨w.heap.size + 1, 3, none⟩ = false) (by kernel_rfl) (by simp [go_sem]) (fun hHeld => ?_)
 refine' zt 0 ?_
 refine' zt 3 ?_
 refine' zt 6 ?_
 refine' zt 13 ?_
 refine' zt 14 ?_
 refine' zt 15 ?_
 refine' zt 16 ?_
 refine' zt 17 ?_
 refine' zt 18 ?_
 refine' zt 19 ?_
 refine' zt 20 ?_
 refine' zt 21 ?_
 refine' zt 22 ?_
 refine' zn 1 (fun K hK => ?_)
 (go_simp; go_at_call 89; with_reducible refine (CK.out _).mono ?_; rintro e w1 ⟨rfl, hx1⟩)
 have hz1 := hx1.size
 simp at hz1
 have f0 : w1.frozen? ⟨w.heap.size + 1, 0, none⟩ = false := hx1.froz (v := .int .i64 0) (by simp [go_sem]) (by simp [go_sem])
 have f1 : w1.frozen? ⟨w.heap.size + 1, 1, none⟩ = false := hx1.froz (v := .int .i64 0) (by simp [go_sem]) (by simp [go_sem])
 have f2 : w1.frozen? ⟨w.heap.size + 1, 2, none⟩ = false := hx1.froz (v := .int .i64 0) (by simp [go_sem]) (by simp [go_sem])
 have f3 : w1.frozen? ⟨w.heap.size + 1, 3, none⟩ = false := hx1.froz (v := .int .i64 0) (by simp [go_sem]) (by simp [go_sem])
 have d0 : w1.cell? ⟨w.heap.size, 0, none⟩ = some (.int .i64 V) := hx1.has zSlTne1_2
 have d1 : w1.cell? ⟨w.heap.size, 1, none⟩ = some (.int .i64 S) := hx1.has zSlTne1_2
 have d2 : w1.cell? ⟨w.heap.size, 2, none⟩ = some (.int .i64 P) := hx1.has zSlTne1_2
 have d3 : w1.cell? ⟨w.heap.size, 3, none⟩ = some (.int .i64 F) := hx1.has zSlTne1_2
 have d4 : w1.cell? ⟨w.heap.size + 1, 0, none⟩ = some (.int .i64 0) := hx1.has zSlTne1_2
 have d5 : w1.cell? ⟨w.heap.size + 1, 1, none⟩ = some (.int .i64 0) := hx1.has zSlTne1_2
 have d6 : w1.cell? ⟨w.heap.size + 1, 2, none⟩ = some (.int .i64 0) := hx1.has zSlTne1_2
 have d7 : w1.cell? ⟨w.heap.size + 1, 3, none⟩ = some (.int .i64 0) := hx1.has zSlTne1_2
 have r0 : w.heap.size < w1.heap.size := by omega
 have r1 : w.heap.size + 1 < w1.heap.size := by omega
 try go_simp
 refine' zk hK zSlTne1_0 (fun hHeld => ?_); clear hK K
 refine' zt 2 ?_
 refine' zn 4 (fun K hK => ?_)
 (go_simp; go_at_call 89; with_reducible refine (CK.out _).mono ?_; rintro e w2 ⟨rfl, hx2⟩)
 have hxx : Ext w1 w2 := Ext.trans zSlTne1_3 hx2
 have hz := hxx.size
 replace f0 := hxx.froz d4 f0
 replace f1 := hxx.froz d5 f1
 replace f2 := hxx.froz d6 f2
 replace f3 := hxx.froz d7 f3
 replace d0 := hxx.has d0
 replace d1 := hxx.has d1
 replace d2 := hxx.has d2
 replace d3 := hxx.has d3
 replace d4 := hxx.has d4
 replace d5 := hxx.has d5
 replace d6 := hxx.has d6
 replace d7 := hxx.has d7
 replace r0 : w.heap.size < w2.heap.size := by omega
 replace r1 : w.heap.size + 1 < w2.heap.size := by omega
 clear hxx hz
 try go_simp
 refine' zk hK zSlTne1_0 (fun hHeld => ?_); clear hK K
 refine' zt 5 ?_
 refine' zn 7 (fun K hK => ?_)
 (go_simp; go_at_call 154; with_reducible refine (C1.out _).mono ?_; rintro e w9 ⟨rfl, rfl⟩; try go_simp)
 refine' zk hK zSlTne1_0 (fun hHeld => ?_); clear hK K
 refine' zt 8 ?_
 refine' zs 9 ?_
 refine' zs 10 ?_
 refine' zt 11 ?_
 refine' zt 12 ?_
 refine' zn 23 (fun K hK => ?_)
 go_simp
 refine' zk hK zSlTne1_0 (fun hHeld => ?_); clear hK K
 refine' zn 24 (fun K hK => ?_)
 (go_simp; go_at_call 156; with_reducible refine (tfirst_any (some ⟨w2.heap.size, 0, none⟩) 4 4 [(E != 0, E), (true, 3), (tv == V, 2), (decide (t < S), 9)] _ (sl_rules0 _ 191 _ _ _ _ _ _ _ _)).mono ?_; rintro e w3 ⟨rfl, hx3⟩)
 rw [HR.out]
 have hxx : Ext w2 w3 := Ext.trans zSlTne1_3 hx3
 have hz := hxx.size
 replace f0 := hxx.froz d4 f0
 replace f1 := hxx.froz d5 f1
 replace f2 := hxx.froz d6 f2
 replace f3 := hxx.froz d7 f3
 replace d0 := hxx.has d0
 replace d1 := hxx.has d1
 replace d2 := hxx.has d2
 replace d3 := hxx.has d3
 replace d4 := hxx.has d4
 replace d5 := hxx.has d5
 replace d6 := hxx.has d6
 replace d7 := hxx.has d7
 replace r0 : w.heap.size < w3.heap.size := by omega
 replace r1 : w.heap.size + 1 < w3.heap.size := by omega
 clear hxx hz
 try go_simp
 refine' zk hK zSlTne1_0 (fun hHeld => ?_); clear hK K
 refine' zt 25 ?_
 refine wpAnyH_done (by kernel_rfl) ?_ _
 go_wp2
 refine bodyPost_ret (v := .tuple #[.agg #[.int .i64 0, .int .i64 0, .int .i64 0, .int .i64 0], .int .i64 R]) (by simp [results, Tryz.results88, go_sem, d0, d1, d2, d3, d4, d5, d6, d7, f0, f1, f2, f3]; try rfl) rfl ⟨rfl, ?_⟩
 exact zSlTne1_1
theorem tHop_err (V S P F tv t E R : Int) (w : World) (CK : Hid (∀ w, Calls Tryz.prog 89 #[.agg #[.int .i64 V, .int .i64 S, .int .i64 P, .int .i64 F]] w fun r w' => r = .returned (.int .i64 E) ∧ Ext w w'))
  (C1 : Hid (∀ w, Calls Tryz.prog 154 #[.int .i64 tv] w fun r w' => r = .returned (.bool false) ∧ w = w')) (b2 : Bool) (C2 : Hid (∀ w, Calls Tryz.prog 155 #[.int .i64 t] w fun r w' => r = .returned (.bool b2) ∧ w = w')) (HR : Hid (firstR [(E != 0, E), (b2, 3), (tv == V, 2), (decide (t < S), 9)] = R)) (hR : (R == 0) = false) (hR2 : (R != 0) = true) :
  Calls Tryz.prog 88 #[.agg #[.int .i64 V, .int .i64 S, .int .i64 P, .int .i64 F], .int .i64 tv, .int .i64 t] w fun r w' => r = .returned (.tuple #[.agg #[.int .i64 0, .int .i64 0, .int .i64 0, .int .i64 0], .int .i64 R]) ∧ Ext w w' := by
 go_enter Tryz.func88, Tryz.ntmps88
 go_wp2_with fail
 refine wp_region_held_drew (S := fun w' => w'.cell? ⟨w.heap.size, 0, none⟩ = some (.int .i64 V) ∧ w'.cell? ⟨w.heap.size, 1, none⟩ = some (.int .i64 S) ∧ w'.cell? ⟨w.heap.size, 2, none⟩ = some (.int .i64 P) ∧ w'.cell? ⟨w.heap.size, 3, none⟩ = some (.int .i64 F) ∧ w'.cell? ⟨w.heap.size + 1, 0, none⟩ = some (.int .i64 0) ∧ w'.cell? ⟨w.heap.size + 1, 1, none⟩ = some (.int .i64 0) ∧ w'.cell? ⟨w.heap.size + 1, 2, none⟩ = some (.int .i64 0) ∧ w'.cell? ⟨w.heap.size + 1, 3, none⟩ = some (.int .i64 0) ∧ w'.frozen? ⟨w.heap.size + 1, 0, none⟩ = false ∧ w'.frozen? ⟨w.heap.size + 1, 1, none⟩ = false ∧ w'.frozen? ⟨w.heap.size + 1, 2, none⟩ = false ∧ w'.frozen? ⟨w.heap.size + 1, 3, none⟩ = false) (by kernel_rfl) (by simp [go_sem]) (fun hHeld => ?_)
 refine' zt 0 ?_
 refine' zt 3 ?_
 refine' zt 6 ?_
 refine' zt 13 ?_
 refine' zt 14 ?_
 refine' zt 15 ?_
 refine' zt 16 ?_
 refine' zt 17 ?_
 refine' zt 18 ?_
 refine' zt 19 ?_
 refine' zt 20 ?_
 refine' zt 21 ?_
 refine' zt 22 ?_
 refine' zn 1 (fun K hK => ?_)
 (go_simp; go_at_call 89; with_reducible refine (CK.out _).mono ?_; rintro e w1 ⟨rfl, hx1⟩)
 have hz1 := hx1.size
 simp at hz1
 have f0 : w1.frozen? ⟨w.heap.size + 1, 0, none⟩ = false := hx1.froz (v := .int .i64 0) (by simp [go_sem]) (by simp [go_sem])
 have f1 : w1.frozen? ⟨w.heap.size + 1, 1, none⟩ = false := hx1.froz (v := .int .i64 0) (by simp [go_sem]) (by simp [go_sem])
 have f2 : w1.frozen? ⟨w.heap.size + 1, 2, none⟩ = false := hx1.froz (v := .int .i64 0) (by simp [go_sem]) (by simp [go_sem])
 have f3 : w1.frozen? ⟨w.heap.size + 1, 3, none⟩ = false := hx1.froz (v := .int .i64 0) (by simp [go_sem]) (by simp [go_sem])
 have d0 : w1.cell? ⟨w.heap.size, 0, none⟩ = some (.int .i64 V) := hx1.has zSlTne1_2
 have d1 : w1.cell? ⟨w.heap.size, 1, none⟩ = some (.int .i64 S) := hx1.has zSlTne1_2
 have d2 : w1.cell? ⟨w.heap.size, 2, none⟩ = some (.int .i64 P) := hx1.has zSlTne1_2
 have d3 : w1.cell? ⟨w.heap.size, 3, none⟩ = some (.int .i64 F) := hx1.has zSlTne1_2
 have d4 : w1.cell? ⟨w.heap.size + 1, 0, none⟩ = some (.int .i64 0) := hx1.has zSlTne1_2
 have d5 : w1.cell? ⟨w.heap.size + 1, 1, none⟩ = some (.int .i64 0) := hx1.has zSlTne1_2
 have d6 : w1.cell? ⟨w.heap.size + 1, 2, none⟩ = some (.int .i64 0) := hx1.has zSlTne1_2
 have d7 : w1.cell? ⟨w.heap.size + 1, 3, none⟩ = some (.int .i64 0) := hx1.has zSlTne1_2
 have r0 : w.heap.size < w1.heap.size := by omega
 have r1 : w.heap.size + 1 < w1.heap.size := by omega
 try go_simp
 refine' zk hK zSlTne1_0 (fun hHeld => ?_); clear hK K
 refine' zt 2 ?_
 refine' zn 4 (fun K hK => ?_)
 (go_simp; go_at_call 89; with_reducible refine (CK.out _).mono ?_; rintro e w2 ⟨rfl, hx2⟩)
 have hxx : Ext w1 w2 := Ext.trans zSlTne1_3 hx2
 have hz := hxx.size
 replace f0 := hxx.froz d4 f0
 replace f1 := hxx.froz d5 f1
 replace f2 := hxx.froz d6 f2
 replace f3 := hxx.froz d7 f3
 replace d0 := hxx.has d0
 replace d1 := hxx.has d1
 replace d2 := hxx.has d2
 replace d3 := hxx.has d3
 replace d4 := hxx.has d4
 replace d5 := hxx.has d5
 replace d6 := hxx.has d6
 replace d7 := hxx.has d7
 replace r0 : w.heap.size < w2.heap.size := by omega
 replace r1 : w.heap.size + 1 < w2.heap.size := by omega
 clear hxx hz
 try go_simp
 refine' zk hK zSlTne1_0 (fun hHeld => ?_); clear hK K
 refine' zt 5 ?_
 refine' zn 7 (fun K hK => ?_)
 (go_simp; go_at_call 154; with_reducible refine (C1.out _).mono ?_; rintro e w9 ⟨rfl, rfl⟩; try go_simp)
 refine' zk hK zSlTne1_0 (fun hHeld => ?_); clear hK K
 refine' zt 8 ?_
 refine' zt 9 ?_
 refine' zn 10 (fun K hK => ?_)
 (go_simp; go_at_call 155; with_reducible refine (C2.out _).mono ?_; rintro e w9 ⟨rfl, rfl⟩; try go_simp)
 refine' zk hK zSlTne1_0 (fun hHeld => ?_); clear hK K
 refine' zt 11 ?_
 refine' zt 12 ?_
 refine' zn 23 (fun K hK => ?_)
 go_simp
 refine' zk hK zSlTne1_0 (fun hHeld => ?_); clear hK K
 refine' zn 24 (fun K hK => ?_)
 (go_simp; go_at_call 156; with_reducible refine (tfirst_any (some ⟨w2.heap.size, 0, none⟩) 4 4 [(E != 0, E), (b2, 3), (tv == V, 2), (decide (t < S), 9)] _ (sl_rules0 _ 191 _ _ _ _ _ _ _ _)).mono ?_; rintro e w3 ⟨rfl, hx3⟩)
 rw [HR.out]
 have hxx : Ext w2 w3 := Ext.trans zSlTne1_3 hx3
 have hz := hxx.size
 replace f0 := hxx.froz d4 f0
 replace f1 := hxx.froz d5 f1
 replace f2 := hxx.froz d6 f2
 replace f3 := hxx.froz d7 f3
 replace d0 := hxx.has d0
 replace d1 := hxx.has d1
 replace d2 := hxx.has d2
 replace d3 := hxx.has d3
 replace d4 := hxx.has d4
 replace d5 := hxx.has d5
 replace d6 := hxx.has d6
 replace d7 := hxx.has d7
 replace r0 : w.heap.size < w3.heap.size := by omega
 replace r1 : w.heap.size + 1 < w3.heap.size := by omega
 clear hxx hz
 try go_simp
 refine' zk hK zSlTne1_0 (fun hHeld => ?_); clear hK K
 refine' zt 25 ?_
 refine wpAnyH_done (by kernel_rfl) ?_ _
 go_wp2
 refine bodyPost_ret (v := .tuple #[.agg #[.int .i64 0, .int .i64 0, .int .i64 0, .int .i64 0], .int .i64 R]) (by simp [results, Tryz.results88, go_sem, d0, d1, d2, d3, d4, d5, d6, d7, f0, f1, f2, f3]; try rfl) rfl ⟨rfl, ?_⟩
 exact zSlTne1_1
theorem tHop_ok (V S P F tv t E R : Int) (w : World) (CK : Hid (∀ w, Calls Tryz.prog 89 #[.agg #[.int .i64 V, .int .i64 S, .int .i64 P, .int .i64 F]] w fun r w' => r = .returned (.int .i64 E) ∧ Ext w w'))
  (C1 : Hid (∀ w, Calls Tryz.prog 154 #[.int .i64 tv] w fun r w' => r = .returned (.bool false) ∧ w = w')) (b2 : Bool) (C2 : Hid (∀ w, Calls Tryz.prog 155 #[.int .i64 t] w fun r w' => r = .returned (.bool b2) ∧ w = w')) (HR : Hid (firstR [(E != 0, E), (b2, 3), (tv == V, 2), (decide (t < S), 9)] = 0)) :
  Calls Tryz.prog 88 #[.agg #[.int .i64 V, .int .i64 S, .int .i64 P, .int .i64 F], .int .i64 tv, .int .i64 t] w fun r w' => r = .returned (.tuple #[.agg #[.int .i64 tv, .int .i64 t, .int .i64 V, .int .i64 S], .int .i64 0]) ∧ Ext w w' := by
 go_enter Tryz.func88, Tryz.ntmps88
 go_wp2_with fail
 refine wp_region_held_drew (S := fun w' => w'.cell? ⟨w.heap.size, 0, none⟩ = some (.int .i64 V) ∧ w'.cell? ⟨w.heap.size, 1, none⟩ = some (.int .i64 S) ∧ w'.cell? ⟨w.heap.size, 2, none⟩ = some (.int .i64 P) ∧ w'.cell? ⟨w.heap.size, 3, none⟩ = some (.int .i64 F) ∧ w'.cell? ⟨w.heap.size + 1, 0, none⟩ = some (.int .i64 0) ∧ w'.cell? ⟨w.heap.size + 1, 1, none⟩ = some (.int .i64 0) ∧ w'.cell? ⟨w.heap.size + 1, 2, none⟩ = some (.int .i64 0) ∧ w'.cell? ⟨w.heap.size + 1, 3, none⟩ = some (.int .i64 0) ∧ w'.frozen? ⟨w.heap.size + 1, 0, none⟩ = false ∧ w'.frozen? ⟨w.heap.size + 1, 1, none⟩ = false ∧ w'.frozen? ⟨w.heap.size + 1, 2, none⟩ = false ∧ w'.frozen? ⟨w.heap.size + 1, 3, none⟩ = false) (by kernel_rfl) (by simp [go_sem]) (fun hHeld => ?_)
 refine' zt 0 ?_
 refine' zt 3 ?_
 refine' zt 6 ?_
 refine' zt 13 ?_
 refine' zt 14 ?_
 refine' zt 15 ?_
 refine' zt 16 ?_
 refine' zt 17 ?_
 refine' zt 18 ?_
 refine' zt 19 ?_
 refine' zt 20 ?_
 refine' zt 21 ?_
 refine' zt 22 ?_
 refine' zn 1 (fun K hK => ?_)
 (go_simp; go_at_call 89; with_reducible refine (CK.out _).mono ?_; rintro e w1 ⟨rfl, hx1⟩)
 have hz1 := hx1.size
 simp at hz1
 have f0 : w1.frozen? ⟨w.heap.size + 1, 0, none⟩ = false := hx1.froz (v := .int .i64 0) (by simp [go_sem]) (by simp [go_sem])
 have f1 : w1.frozen? ⟨w.heap.size + 1, 1, none⟩ = false := hx1.froz (v := .int .i64 0) (by simp [go_sem]) (by simp [go_sem])
 have f2 : w1.frozen? ⟨w.heap.size + 1, 2, none⟩ = false := hx1.froz (v := .int .i64 0) (by simp [go_sem]) (by simp [go_sem])
 have f3 : w1.frozen? ⟨w.heap.size + 1, 3, none⟩ = false := hx1.froz (v := .int .i64 0) (by simp [go_sem]) (by simp [go_sem])
 have d0 : w1.cell? ⟨w.heap.size, 0, none⟩ = some (.int .i64 V) := hx1.has zSlTne1_2
 have d1 : w1.cell? ⟨w.heap.size, 1, none⟩ = some (.int .i64 S) := hx1.has zSlTne1_2
 have d2 : w1.cell? ⟨w.heap.size, 2, none⟩ = some (.int .i64 P) := hx1.has zSlTne1_2
 have d3 : w1.cell? ⟨w.heap.size, 3, none⟩ = some (.int .i64 F) := hx1.has zSlTne1_2
 have d4 : w1.cell? ⟨w.heap.size + 1, 0, none⟩ = some (.int .i64 0) := hx1.has zSlTne1_2
 have d5 : w1.cell? ⟨w.heap.size + 1, 1, none⟩ = some (.int .i64 0) := hx1.has zSlTne1_2
 have d6 : w1.cell? ⟨w.heap.size + 1, 2, none⟩ = some (.int .i64 0) := hx1.has zSlTne1_2
 have d7 : w1.cell? ⟨w.heap.size + 1, 3, none⟩ = some (.int .i64 0) := hx1.has zSlTne1_2
 have r0 : w.heap.size < w1.heap.size := by omega
 have r1 : w.heap.size + 1 < w1.heap.size := by omega
 try go_simp
 refine' zk hK zSlTne1_0 (fun hHeld => ?_); clear hK K
 refine' zt 2 ?_
 refine' zn 4 (fun K hK => ?_)
 (go_simp; go_at_call 89; with_reducible refine (CK.out _).mono ?_; rintro e w2 ⟨rfl, hx2⟩)
 have hxx : Ext w1 w2 := Ext.trans zSlTne1_3 hx2
 have hz := hxx.size
 replace f0 := hxx.froz d4 f0
 replace f1 := hxx.froz d5 f1
 replace f2 := hxx.froz d6 f2
 replace f3 := hxx.froz d7 f3
 replace d0 := hxx.has d0
 replace d1 := hxx.has d1
 replace d2 := hxx.has d2
 replace d3 := hxx.has d3
 replace d4 := hxx.has d4
 replace d5 := hxx.has d5
 replace d6 := hxx.has d6
 replace d7 := hxx.has d7
 replace r0 : w.heap.size < w2.heap.size := by omega
 replace r1 : w.heap.size + 1 < w2.heap.size := by omega
 clear hxx hz
 try go_simp
 refine' zk hK zSlTne1_0 (fun hHeld => ?_); clear hK K
 refine' zt 5 ?_
 refine' zn 7 (fun K hK => ?_)
 (go_simp; go_at_call 154; with_reducible refine (C1.out _).mono ?_; rintro e w9 ⟨rfl, rfl⟩; try go_simp)
 refine' zk hK zSlTne1_0 (fun hHeld => ?_); clear hK K
 refine' zt 8 ?_
 refine' zt 9 ?_
 refine' zn 10 (fun K hK => ?_)
 (go_simp; go_at_call 155; with_reducible refine (C2.out _).mono ?_; rintro e w9 ⟨rfl, rfl⟩; try go_simp)
 refine' zk hK zSlTne1_0 (fun hHeld => ?_); clear hK K
 refine' zt 11 ?_
 refine' zt 12 ?_
 refine' zn 23 (fun K hK => ?_)
 go_simp
 refine' zk hK zSlTne1_0 (fun hHeld => ?_); clear hK K
 refine' zn 24 (fun K hK => ?_)
 (go_simp; go_at_call 156; with_reducible refine (tfirst_any (some ⟨w2.heap.size, 0, none⟩) 4 4 [(E != 0, E), (b2, 3), (tv == V, 2), (decide (t < S), 9)] _ (sl_rules0 _ 191 _ _ _ _ _ _ _ _)).mono ?_; rintro e w3 ⟨rfl, hx3⟩)
 rw [HR.out]
 have hxx : Ext w2 w3 := Ext.trans zSlTne1_3 hx3
 have hz := hxx.size
 replace f0 := hxx.froz d4 f0
 replace f1 := hxx.froz d5 f1
 replace f2 := hxx.froz d6 f2
 replace f3 := hxx.froz d7 f3
 replace d0 := hxx.has d0
 replace d1 := hxx.has d1
 replace d2 := hxx.has d2
 replace d3 := hxx.has d3
 replace d4 := hxx.has d4
 replace d5 := hxx.has d5
 replace d6 := hxx.has d6
 replace d7 := hxx.has d7
 replace r0 : w.heap.size < w3.heap.size := by omega
 replace r1 : w.heap.size + 1 < w3.heap.size := by omega
 clear hxx hz
 try go_simp
 refine' zk hK zSlTne1_0 (fun hHeld => ?_); clear hK K
 refine' zt 25 ?_
 refine wpAnyH_done (by kernel_rfl) ?_ _
 go_wp2
 refine bodyPost_ret (v := .tuple #[.agg #[.int .i64 tv, .int .i64 t, .int .i64 V, .int .i64 S], .int .i64 0]) (by simp [results, Tryz.results88, go_sem, d0, d1, d2, d3, d4, d5, d6, d7, f0, f1, f2, f3]; try rfl) rfl ⟨rfl, ?_⟩
 exact zSlTne1_1
def hopR (V S P F tv t : Int) : Int := firstR [(chkS V S P F != 0, chkS V S P F), (outB tv 0 31 || outB t 1 4294967296, 3), (tv == V, 2), (decide (t < S), 9)]
def hopZ (V S P F tv t x : Int) : Int := if hopR V S P F tv t = 0 then x else 0
theorem tHop_any (V S P F tv t : Int) (w : World) :
  Calls Tryz.prog 88 #[.agg #[.int .i64 V, .int .i64 S, .int .i64 P, .int .i64 F], .int .i64 tv, .int .i64 t] w fun r w' => r = .returned (.tuple #[.agg #[.int .i64 (hopZ V S P F tv t tv), .int .i64 (hopZ V S P F tv t t), .int .i64 (hopZ V S P F tv t V), .int .i64 (hopZ V S P F tv t S)], .int .i64 (hopR V S P F tv t)]) ∧ Ext w w' := by
 have CK := Lib.hid fun w => tCheck_any V S P F w
 have C1 := fun w => tnoone_any tv w
 have C2 := fun w => tnowhen_any t w
 obtain ⟨b1, h1⟩ : ∃ b, outB tv 0 31 = b := ⟨_, rfl⟩
 obtain ⟨b2, h2⟩ : ∃ b, outB t 1 4294967296 = b := ⟨_, rfl⟩
 obtain ⟨R, hR⟩ : ∃ R, R = hopR V S P F tv t := ⟨_, rfl⟩
 unfold hopZ
 rw [← hR]
 unfold hopR at hR
 rw [h1] at C1 hR
 rw [h2] at C2 hR
 by_cases he : R = 0
 ·subst he
  simp only [if_true]
  cases b1
  ·exact tHop_ok V S P F tv t _ 0 w CK (Lib.hid C1) b2 (Lib.hid C2) (Lib.hid (by simpa using hR.symm))
  exfalso
  simp [firstR] at hR
  split at hR <;> simp_all
 simp only [if_neg he]
 cases b1
 ·exact tHop_err V S P F tv t _ R w CK (Lib.hid C1) b2 (Lib.hid C2) (Lib.hid (by simpa using hR.symm)) (beq_false_of_ne he) (by simpa using he)
 exact tHop_bad V S P F tv t _ R w CK (Lib.hid C1) (Lib.hid (by simpa using hR.symm)) (beq_false_of_ne he) (by simpa using he)
end
section
open Go.RowKit Go.ChangeShapes Go.WideShapes Go.Deep Go.Joins
section
variable {H : Type} {enc : TypeId × Value → H} {w : World} {base : Nat} {spare : Nat → Bool} {held : Bool}
def actC (x : I9) : List Value := [.int .i64 x.1, .int .i64 x.2.1, .int .i64 x.2.2.1, .int .i64 x.2.2.2.1, .int .i64 x.2.2.2.2.1, .int .i64 x.2.2.2.2.2.1, .int .i64 x.2.2.2.2.2.2.1, .int .i64 x.2.2.2.2.2.2.2.1, .int .u64 x.2.2.2.2.2.2.2.2]
theorem actC_len (x : I9) : (actC x).length = 9 := rfl
def FitsA (x : I9) : Prop := Fits .i64 x.1 ∧ Fits .i64 x.2.1 ∧ Fits .i64 x.2.2.1 ∧ Fits .i64 x.2.2.2.1 ∧ Fits .i64 x.2.2.2.2.1 ∧ Fits .i64 x.2.2.2.2.2.1 ∧ Fits .i64 x.2.2.2.2.2.2.1 ∧ Fits .i64 x.2.2.2.2.2.2.2.1 ∧ Word x.2.2.2.2.2.2.2.2
end
end
section
open Go.RowKit Go.ChangeShapes Go.WideShapes Go.Deep Go.Joins
def RetC1 (L : List I6) (v2 : Value) (w : World) (e : Ending) (w' : World) : Prop := ∃ B d, e = .returned (.agg #[.slice B L.length d, v2]) ∧ (B = none → d = 0) ∧ OwnCls w' w.heap.size (.slice B L.length d) L.length L ∧ Ext w w'
def RetP1 (L : List I6) (v1 : Value) (w : World) (e : Ending) (w' : World) : Prop := ∃ B d, e = .returned (.agg #[v1, .slice B L.length d]) ∧ (B = none → d = 0) ∧ OwnPos w' w.heap.size (.slice B L.length d) L.length L ∧ Ext w w'
theorem RetC1.mk {L : List I6} {v2 : Value} {b d : Nat} {B : Option Addr} {w w' : World} (hb : w.heap.size ≤ b) (h : w'.ownsRow b 79 6 (.slice B L.length d) L.length (L.flatMap clsC)) (hx : Ext w w') : RetC1 L v2 w (.returned (.agg #[.slice B L.length d, v2])) w' := by
 obtain ⟨B', d', e, h1, _⟩ := own_parts2 h
 obtain ⟨rfl, rfl⟩ : B = B' ∧ d = d' := by simpa using e
 exact ⟨B, d, rfl, h1, own_lower h hb, hx⟩
theorem RetP1.mk {L : List I6} {v1 : Value} {b d : Nat} {B : Option Addr} {w w' : World} (hb : w.heap.size ≤ b) (h : w'.ownsRow b 82 6 (.slice B L.length d) L.length (L.flatMap posC)) (hx : Ext w w') : RetP1 L v1 w (.returned (.agg #[v1, .slice B L.length d])) w' := by
 obtain ⟨B', d', e, h1, _⟩ := own_parts2 h
 obtain ⟨rfl, rfl⟩ : B = B' ∧ d = d' := by simpa using e
 exact ⟨B, d, rfl, h1, own_lower h hb, hx⟩
end
section
open Go.RowKit Go.Shelf Go.ChangeShapes Go.WideShapes Go.Deep Go.Joins
attribute [local go_sem] Oper.semAt_some

def ofF (O : Int) (ps : List I6) : List I6 := ps.filter (fun x => decide (x.1 = O))
def RetPs (L : List I6) (E : Int) (w : World) (r : Ending) (w' : World) : Prop := ∃ A c, r = .returned (.tuple #[.slice A L.length c, .int .i64 E]) ∧ (A = none → c = 0) ∧ OwnPos w' w.heap.size (.slice A L.length c) L.length L ∧ Ext w w'
theorem RetPs.mk {L : List I6} {E : Int} {w w' : World} {A : Option Addr} {c b : Nat} (hb : w.heap.size ≤ b) (h : OwnPos w' b (.slice A L.length c) L.length L) (hx : Ext w w') : RetPs L E w (.returned (.tuple #[.slice A L.length c, .int .i64 E])) w' := by
 obtain ⟨A', c', e, h1, _⟩ := own_parts2 h
 obtain ⟨rfl, rfl⟩ : A = A' ∧ c = c' := by simpa using e
 exact ⟨A, c, rfl, h1, own_lower h hb, hx⟩
theorem ofF_snoc (O : Int) (ps : List I6) (x : I6) : ofF O (ps ++ [x]) = if x.1 = O then ofF O ps ++ [x] else ofF O ps := by
 unfold ofF
 rw [List.filter_append]
 by_cases h : x.1 = O
 ·rw [if_pos h]; simp [h]
 rw [if_neg h]; simp [h]
theorem own_put {w : World} {base n sz l : Nat} {e : TypeId} {v : Value} {xs : List Value} {ob o' : Obj} (h : w.ownsRow base e sz v n xs) (hl : w.heap[l]? = some ob) (hnc : ob.isCells = false) : (w.putObj l o').ownsRow base e sz v n xs := own_but1Word h (but_putObj (S := fun k => k = l) w l o' rfl) (fun j hj hh => by
 have h9 : j = l := hh
 obtain ⟨_, _, cs, h2⟩ := own_block h hj
 rw [h9, hl] at h2
 obtain rfl := Option.some.inj h2
 cases hnc)
theorem PI.put {b q B l : Nat} {O : Int} {L : List I6} {w W : World} {ob o' : Obj} (h : PI b q B O L w W) (hl : W.heap[l]? = some ob) (hnc : ob.isCells = false) (hw : w.heap.size ≤ l) : PI b q B O L w (W.putObj l o') := by
 obtain ⟨A, c, h1, h2⟩ := h.r
 refine ⟨cell_put2 h.o0 hl hnc, ⟨A, c, cell_put2 h1 hl hnc, own_put h2 hl hnc⟩, ?_, ext_put h.x hw⟩
 refine (but_putObj (S := fun k => k = l) W l o' rfl).froz (fun hh => ?_) h1 h.f0
 have h9 : q = l := hh
 obtain ⟨o2, h3, h4⟩ := cells_of_cell h1
 simp only at h3
 rw [h9, hl] at h3
 obtain rfl := Option.some.inj h3
 rw [hnc] at h4
 cases h4
theorem hOf_bad (n c n2 c2 : Nat) (A A2 : Option Addr) (cl ps : List I6) (O E : Int) (w : World) (C1 : Hid (∀ w', Ext w w' → Calls Tryz.prog 14 #[.agg #[.slice A n c, .slice A2 n2 c2]] w' fun r w'' => r = .returned (.int .i64 E) ∧ Ext w' w'')) (he : ¬ E = 0) :
  Calls Tryz.prog 40 #[.agg #[.slice A n c, .slice A2 n2 c2], .int .i64 O] w (RetPs [] E w) := by
 have heb : (E != 0) = true := by simpa using he
 refine (callsIn_wide (n := 6)).1 ?_
 refine callsIn_of_wp_marks Tryz.func40 rfl trivial ?_ rfl
 simp only [Tryz.ntmps40, List.size_toArray, List.length_cons, List.length_nil, Nat.reduceAdd, Nat.reduceSub, Array.replicate_succ, Array.replicate_zero, List.push_toArray, List.append_toArray, List.nil_append, List.cons_append]
 gi_wp2_with fail
 refine ⟨trivial, ?_⟩
 (with_reducible refine (callsIn_wide.2 (C1.out _ zxt)).mono ?_)
 rintro e w1 ⟨rfl, hx1⟩
 have z1 := hx1.size
 try simp at z1
 have X1 : Hid (Ext w w1) := Lib.hid (Ext.trans zxt hx1)
 clear hx1 z1
 gi_wp2_with fail
 exact ⟨.tuple #[.slice none 0 0, .int .i64 E], by simp [results, Tryz.results40, go_sem, World.cell?_alloc_past]; try rfl, RetPs.mk (L := []) (Nat.le_refl _) (OwnPos.nil _ _) zxt⟩
theorem hOf_ok (n c n2 c2 : Nat) (A A2 : Option Addr) (cl ps : List I6) (O : Int) (w : World) (h : Sl w 6 A n c (cl.flatMap clsC)) (h2 : Sl w 6 A2 n2 c2 (ps.flatMap posC)) (hw : ∀ x ∈ cl, WdC x) (hw2 : ∀ x ∈ ps, WdP x) (hn2 : n2 < 1099511000) (C1 : Hid (∀ w', Ext w w' → Calls Tryz.prog 14 #[.agg #[.slice A n c, .slice A2 n2 c2]] w' fun r w'' => r = .returned (.int .i64 0) ∧ Ext w' w'')) :
  Calls Tryz.prog 40 #[.agg #[.slice A n c, .slice A2 n2 c2], .int .i64 O] w (RetPs (ofF O ps) 0 w) := by
 have HS := Lib.hid h.low
 have HT := Lib.hid h2.low
 have HW := Lib.hid (And.intro hw hw2)
 have hll := h2.rlen posC_len (by decide)
 have HLL := Lib.hid hll
 have hlen := h2.rlen posC_len (by decide)
 have hsm2 := h2.small
 obtain ⟨iPos, iPos_0, iPos_1, iPos_2, iPos_3⟩ := info_parts pos_info
 obtain ⟨G, hG⟩ : ∃ G, G = ofF O ps := ⟨_, rfl⟩
 rw [← hG]
 have HG := Lib.hid hG
 clear hG hlen
 clear h h2 hw hw2 hll
 refine (callsIn_wide (n := 6)).1 ?_
 refine callsIn_of_wp_marks Tryz.func40 rfl trivial ?_ rfl
 simp only [Tryz.ntmps40, List.size_toArray, List.length_cons, List.length_nil, Nat.reduceAdd, Nat.reduceSub, Array.replicate_succ, Array.replicate_zero, List.push_toArray, List.append_toArray, List.nil_append, List.cons_append]
 gi_wp2_with fail
 refine ⟨trivial, ?_⟩
 (with_reducible refine (callsIn_wide.2 (C1.out _ zxt)).mono ?_)
 rintro e w1 ⟨rfl, hx1⟩
 have c0_0 : w1.cell? ⟨w.heap.size, 0, none⟩ = some (.slice A n c) := hx1.has zcv
 have c0_1 : w1.cell? ⟨w.heap.size, 1, none⟩ = some (.slice A2 n2 c2) := hx1.has zcv
 have c1_0 : w1.cell? ⟨w.heap.size + 1, 0, none⟩ = some (.int .i64 O) := hx1.has zcv
 have z1 := hx1.size
 try simp at z1
 have lt_c0_c1 := zl w.heap.size (w.heap.size + 1)
 have rc0 := zr w.heap.size w1
 have rc1 := zr (w.heap.size + 1) w1
 replace HS := Lib.hid (HS.out.ext (Ext.trans zxt hx1))
 replace HT := Lib.hid (HT.out.ext (Ext.trans zxt hx1))
 have X1 : Hid (Ext w w1) := Lib.hid (Ext.trans zxt hx1)
 clear hx1
 gi_wp2_with fail
 refine ⟨trivial, (hworths_in _ _ trivial rfl _ _ _ _ _ _ _).mono ?_⟩
 rintro e w0 ⟨rfl, hw0⟩
 have hx0 : Ext w1 w0 := by rw [hw0]; exact ((Ext.refl _).alloc _).alloc _
 have hz0 : w0.heap.size = w1.heap.size + 1 + 1 := by rw [hw0]; simp
 have hc0 : w0.cell? ⟨w1.heap.size + 1, 0, none⟩ = some (.slice A n c) := by rw [hw0]; simp [go_sem, World.cell?_alloc_past]
 have hc1 : w0.cell? ⟨w1.heap.size + 1, 1, none⟩ = some (.slice A2 n2 c2) := by rw [hw0]; simp [go_sem, World.cell?_alloc_past]
 have hs0 : w0.cell? ⟨w1.heap.size, 0, none⟩ = some (.slice none 0 0) := by rw [hw0]; simp [go_sem, World.cell?_alloc_past]
 have hf0 : w0.frozen? ⟨w1.heap.size, 0, none⟩ = false := by rw [hw0]; simp [go_sem, World.cell?_alloc_past]
 have HVI : PI (w.heap.size + 1) (w1.heap.size) w0.heap.size O (ofF O []) w w0 := ⟨hx0.has c1_0, ⟨none, 0, hs0, OwnPos.nil _ _⟩, hf0, Ext.trans X1.out hx0⟩
 have HS0 := SlB.ext HS.out hx0
 have HT0 := SlB.ext HT.out hx0
 have hzw : w.heap.size + 2 ≤ w1.heap.size := by omega
 clear hw0 hx0 hs0 hf0
 gi_wp2_with fail
 refine rangeFunc_stop rfl (by decide) (gf := 149) (lb := #[.pointer (some ⟨w1.heap.size + 1, 0, none⟩)]) rfl trivial (enters_of Tryz.func149 (by kernel_rfl) rfl) (enc := fun x : I6 => #[.agg #[.int .i64 x.1, .int .i64 x.2.1, .int .i64 x.2.2.1, .int .i64 x.2.2.2.1, .int .i64 x.2.2.2.2.1, .int .u64 x.2.2.2.2.2], .int .u64 (wvl cl x)]) (xs := ps) (S := fun k => k = w1.heap.size ∨ w0.heap.size ≤ k) (fun k hk => .inr hk)
  (fun q J Jx W hW hJ hX hY h0 => hworths1_in 5 (by decide) q (w1.heap.size + 1) n c n2 c2 w.heap.size (fun k => k = w1.heap.size ∨ w0.heap.size ≤ k) A A2 cl ps J Jx W HW.out.1 HW.out.2 hJ hY (fun k hk => by rcases hk with h9 | h9 <;> omega) (by intro hh; rcases hh with h9 | h9 <;> omega) (Ext.has hW hc0) (Ext.has hW hc1) (SlB.ext HS0 hW) (SlB.ext HT0 hW) h0)
  (fun _ => rfl)
  (fun pre W => PI (w.heap.size + 1) (w1.heap.size) w0.heap.size O (ofF O pre) w W)
  (fun pre W => False)
  (fun s A A' hs hx => hs) (fun s A A' hs hx => hs.ext hx) (fun s A q o o' hs hq ho hnc => hs.put ho hnc (by omega)) (fun s A q o o' hs hq ho hnc => hs) HVI
  (fun pre x a' W => ∃ p, a' = { tmps := #[.agg #[.slice A n c, .slice A2 n2 c2], .int .i64 O, .pointer (some ⟨w.heap.size, 0, none⟩), .pointer (some ⟨w.heap.size + 1, 0, none⟩), .slice none 0 0, .int .i64 0, .int .i64 0, .pointer (some ⟨w1.heap.size, 0, none⟩), .pointer (some ⟨p, 0, none⟩), .agg #[.slice A n c, .slice A2 n2 c2], .int .i64 0, .int .i64 0, .bool false, undef, .agg #[.slice A n c, .slice A2 n2 c2], .func (.func 149) #[] #[.pointer (some ⟨w1.heap.size + 1, 0, none⟩)], .agg #[.int .i64 x.1, .int .i64 x.2.1, .int .i64 x.2.2.1, .int .i64 x.2.2.2.1, .int .i64 x.2.2.2.2.1, .int .u64 x.2.2.2.2.2], .int .u64 (wvl cl x), undef, undef, undef, undef, undef, undef, undef, undef, undef], defers := [] } ∧ (W.cell? ⟨p, 0, none⟩ = some (.int .i64 x.1) ∧ W.cell? ⟨p, 1, none⟩ = some (.int .i64 x.2.1) ∧ W.cell? ⟨p, 2, none⟩ = some (.int .i64 x.2.2.1) ∧ W.cell? ⟨p, 3, none⟩ = some (.int .i64 x.2.2.2.1) ∧ W.cell? ⟨p, 4, none⟩ = some (.int .i64 x.2.2.2.2.1) ∧ W.cell? ⟨p, 5, none⟩ = some (.int .u64 x.2.2.2.2.2)) ∧ w0.heap.size ≤ p ∧ PI (w.heap.size + 1) (w1.heap.size) w0.heap.size O (ofF O pre) w W)
  (fun s x a A q o o' hs hq ho hnc => ?put) ?assign ?body ?done (fun D pre W hD hpre hf => hf.elim)
 case put =>
  obtain ⟨p, h1, ⟨h2, h3, h4, h5, h6, h7⟩, h8, h9⟩ := hs
  exact ⟨p, h1, ⟨cell_put2 h2 ho hnc, cell_put2 h3 ho hnc, cell_put2 h4 ho hnc, cell_put2 h5 ho hnc, cell_put2 h6 ho hnc, cell_put2 h7 ho hnc⟩, h8, h9.put ho hnc (by omega)⟩
 case assign =>
  intro q pre x W K hI hpre hzW hK
  gi_wp2
  refine hK _ _ (KeepsOthers.alloc _ _) ((But.refl _ _).alloc _) ⟨W.heap.size, rfl, ⟨by simp [go_sem, World.cell?_alloc_past], by simp [go_sem, World.cell?_alloc_past], by simp [go_sem, World.cell?_alloc_past], by simp [go_sem, World.cell?_alloc_past], by simp [go_sem, World.cell?_alloc_past], by simp [go_sem, World.cell?_alloc_past]⟩, hzW, hI.ext ((Ext.refl _).alloc _)⟩
 case body =>
  rintro q pre x a' W ⟨p, rfl, ⟨p_0, p_1, p_2, p_3, p_4, p_5⟩, hp, hV⟩ hpx hzW
  have HV := Lib.hid hV
  have o_0 := hV.o0
  obtain ⟨A9, c9, s_0, hown⟩ := hV.r
  have s_0f := hV.f0
  have hsn := ofF_snoc O pre x
  have hlb : (ofF O pre).length ≤ n2 := by
   have h1 : (ofF O pre).length ≤ pre.length := List.length_filter_le _ _
   have h2 := hpx.length_le
   rw [List.length_append] at h2
   have := HLL.out
   omega
  obtain ⟨L, hL⟩ : ∃ L, L = ofF O pre := ⟨_, rfl⟩
  rw [← hL] at s_0 hown hsn hlb
  have HL := Lib.hid hL
  have HO := Lib.hid hown
  obtain ⟨x1, x2, x3, x4, x5, x6⟩ := x
  simp only at p_0 p_1 p_2 p_3 p_4 p_5 hsn
  have HSN := Lib.hid hsn
  clear hV hpx hL hown hsn
  by_cases e0 : x1 = O
  ·have e0b : (x1 == O) = true := by simp [e0]
   have HE := Lib.hid (HSN.out.trans (if_pos e0))
   clear e0
   gi_wp2_with (gi_at_builtin; refine Hid.out ?_)
   refine Lib.hid ?_
   refine wpListIn_append_own _ rfl _ _ 23 rfl w0.heap.size 82 iPos (.agg #[.int .i64 0, .int .i64 0, .int .i64 0, .int .i64 0, .int .i64 0, .int .u64 0]) 6 48 Tryz.underlying23 iPos_0 iPos_1 iPos_2 iPos_3 rfl (by decide) _ L.length (L.flatMap posC) rfl (own_keep HO.out ((Ext.refl _).alloc _)) ⟨W.heap.size, 0, none⟩ 1 1 [.int .i64 x1, .int .i64 x2, .int .i64 x3, .int .i64 x4, .int .i64 x5, .int .u64 x6] rfl rfl (by intro j u hu; rw [addr_add, Nat.zero_add, cell_of_row _ _ j _ _ (0, 0) (heap_alloc_new _ _)]; simpa using hu) (by intro u hu; simp at hu; rcases hu with rfl | rfl | rfl | rfl | rfl | rfl <;> rfl) (by simp [maxLen]; omega) (by omega) (by simp; omega) ?_
   intro v' w9 hown' hgrow _
   have hrg := own_rng HO.out
   have hb := But.ofGrown hgrow
   have hsN : w9.cell? ⟨w1.heap.size, 0, none⟩ = some (.slice A9 L.length c9) := hb.has (by intro hh; have := hrg _ hh; omega) (Ext.has ((Ext.refl W).alloc _) s_0)
   have hfN : w9.frozen? ⟨w1.heap.size, 0, none⟩ = false := hb.froz (by intro hh; have := hrg _ hh; omega) (v := .slice A9 L.length c9) (Ext.has ((Ext.refl W).alloc _) s_0) (Ext.froz ((Ext.refl W).alloc _) s_0 s_0f)
   have hoN : w9.cell? ⟨w.heap.size + 1, 0, none⟩ = some (.int .i64 O) := hb.has (by intro hh; have := hrg _ hh; omega) (Ext.has ((Ext.refl W).alloc _) o_0)
   have hbW := Lib.hid ((But.ofExt ((Ext.refl W).alloc _)).trans hb)
   obtain ⟨A8, c8, rfl, hnil, hO8⟩ := own_app (f := posC) (x1, x2, x3, x4, x5, x6) hown' rfl rfl
   have HO8 := Lib.hid hO8
   have hko := Lib.hid ((KeepsOthers.alloc W _).trans (KeepsOthers.of_grownBy hgrow (fun j ob hj hob => by obtain ⟨_, _, cs, h2⟩ := own_block (own_keep HO.out ((Ext.refl _).alloc _)) hj; rw [hob] at h2; obtain rfl := Option.some.inj h2; rfl)))
   clear hown' hgrow hb hnil hO8 hrg
   gi_wp2
   refine ⟨hko.out.trans (KeepsOthers.setCell _ _ _), ((hbW.out).mono (fun k _ hk => by have := own_rng HO.out _ hk; right; omega)).setCell (p := ⟨w1.heap.size, 0, none⟩) (.inl rfl) _, ?_⟩
   have h := HV.out
   rw [HE.out]
   exact ⟨by simp [go_sem, hoN], ⟨A8, c8, by simp [go_sem, hsN], own_box HO8.out (by omega)⟩, by simp [go_sem, hsN, hfN], Below.setCell (p := ⟨w1.heap.size, 0, none⟩) (Below.trans h.x (hbW.out.below (Ext.size h.x) (fun k hk hh => by have := own_rng HO.out _ hh; omega))) (by simp; omega) _⟩
  have e0b : (x1 == O) = false := by simpa using e0
  have HE := Lib.hid (HSN.out.trans (if_neg e0))
  clear e0
  gi_wp2
  refine ⟨KeepsOthers.refl _, But.refl _ _, ?_⟩
  have h := HV.out
  rw [HE.out, HL.out]
  exact h
 case done =>
  rintro D W hD hV hK
  have HV := Lib.hid hV
  obtain ⟨A9, c9, s_0, hown⟩ := hV.r
  rw [← HG.out] at s_0 hown
  have HO := Lib.hid hown
  clear hV hown
  gi_wp2
  refine ⟨by simp, .inl ⟨_, _, rfl, run_takeDeferred hK, ?_⟩⟩
  exact ⟨.tuple #[.slice A9 G.length c9, .int .i64 0], by simp [results, Tryz.results40, go_sem]; try rfl, RetPs.mk (b := w0.heap.size) (by omega) (own_put HO.out hK rfl) (ext_put HV.out.x (by omega))⟩
theorem hOf_any (n c n2 c2 : Nat) (A A2 : Option Addr) (cl ps : List I6) (O : Int) (w : World) (h : Sl w 6 A n c (cl.flatMap clsC)) (h2 : Sl w 6 A2 n2 c2 (ps.flatMap posC)) (hn : n < 1099511627776) (hn2 : n2 < 1099511000) (hw : ∀ x ∈ cl, WdC x) (hw2 : ∀ x ∈ ps, WdP x) :
  Calls Tryz.prog 40 #[.agg #[.slice A n c, .slice A2 n2 c2], .int .i64 O] w (RetPs (if chkH cl ps ≠ 0 then [] else ofF O ps) (chkH cl ps) w) := by
 have C1 : ∀ w', Ext w w' → Calls Tryz.prog 14 #[.agg #[.slice A n c, .slice A2 n2 c2]] w' fun r w'' => r = .returned (.int .i64 (chkH cl ps)) ∧ Ext w' w'' := fun w' hx => hCheck_any n c n2 c2 A A2 cl ps w' (h.ext hx) (h2.ext hx) hn (by omega) hw hw2
 by_cases he : chkH cl ps = 0
 ·rw [if_neg (by simpa using he), he]
  rw [he] at C1
  exact hOf_ok n c n2 c2 A A2 cl ps O w h h2 hw hw2 hn2 (Lib.hid C1)
 rw [if_pos he]
 exact hOf_bad n c n2 c2 A A2 cl ps O _ w (Lib.hid C1) he
end
section
open Go.RowKit
theorem next3_in {P : Program} {md : Region.Mode} {l : List Oper} {Q : Exit → Act → World → Prop} {S : World → Prop} {oi oj ok_ : Oper} {fuel : Nat} {listed : Array Bool} {a : Act} {w : World} (i j k : Nat) (hi : l[i]? = some oi) (hj : l[j]? = some oj) (hk : l[k]? = some ok_)
  (hr : Region.ready md l.toArray listed = [i, j, k]) (hw : Region.wanted oi (yielded l.toArray a.tmps) = true) (hw2 : Region.wanted oj (yielded l.toArray a.tmps) = true) (hw3 : Region.wanted ok_ (yielded l.toArray a.tmps) = true)
  (h : ∀ K' : Act → World → Prop, Shut (∀ a w, S w → (S w → wpAnyH P md l.toArray Q S fuel (listed.setIfInBounds i true) a w) → K' a w) → Oper.wp P oi a w K' Q)
  (h2 : ∀ K' : Act → World → Prop, Shut (∀ a w, S w → (S w → wpAnyH P md l.toArray Q S fuel (listed.setIfInBounds j true) a w) → K' a w) → Oper.wp P oj a w K' Q)
  (h3 : ∀ K' : Act → World → Prop, Shut (∀ a w, S w → (S w → wpAnyH P md l.toArray Q S fuel (listed.setIfInBounds k true) a w) → K' a w) → Oper.wp P ok_ a w K' Q) : wpAnyH P md l.toArray Q S (fuel + 1) listed a w :=
 wpAnyH_ready hr (by simp) (AllReadyH.cons (o := oi) (by simpa using hi) (fun K' hK => by rw [if_pos hw]; exact h K' hK) (AllReadyH.cons (o := oj) (by simpa using hj) (fun K' hK => by rw [if_pos hw2]; exact h2 K' hK) (AllReadyH.cons (o := ok_) (by simpa using hk) (fun K' hK => by rw [if_pos hw3]; exact h3 K' hK) AllReadyH.nil)))
end
end Go.Proofs.YtkinchgjidpjnaaGreat
