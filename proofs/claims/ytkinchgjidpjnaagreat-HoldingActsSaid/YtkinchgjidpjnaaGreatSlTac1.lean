/- Tac, part 1. Conditions stand in each lemma. -/
import Derived.WalkKit
import Derived.Deep.QuietTactic
import Derived.Deep.Draws
import Derived.Lib.Hide
import Derived.Laws.OwnMore
import Derived.Laws.AppendOwn
import Derived.OwnWalk
import Derived.Maps.AppendAt
import Derived.Deep.RegionHeld3
import Derived.RangeFuncBox
import Derived.RangeFuncLeaves
import Derived.Shelf.Abstract
import Derived.OwnWalkIn
import Derived.TacticsInMore
import Derived.LoopNIn
import Derived.LoopIn
import Derived.Test.YtkinchgjidpjnaaGreatRows
import Derived.Deep.Onto
import Derived.ProofKit
import Derived.ChangeOld
import Derived.OpenShut
import Derived.Deep.Slices
import Derived.BigQuiet
import Derived.IntWalk
import Derived.Lib.SliceRun
import Derived.Deep.LoopGhost
import Derived.WalkSpells
import Derived.WalkLawsBesides
import Derived.Lib.SmallJoins
import Derived.Test.YtkinchgjidpjnaaGreatShelf
import Derived.Test.YtkinchgjidpjnaaGreatDivNorm
import Derived.Deep.DeepCutAuto
import Derived.Deep.CutBlock
import Derived.Shelf.Spec.BitsCarry
import Derived.Test.YtkinchgjidpjnaaGreatFixRefMath
import Derived.Test.YtkinchgjidpjnaaGreatFixDivideMath
import Derived.Handy
import Derived.ArgAppend
import Derived.Laws.CopyRow
import Derived.Lib.AppendZerosOnto
import Derived.Laws.Externs
import Derived.Lib.Overlaps
import Derived.Shelf.RegionOpenPlain
import Derived.Lib.AppendZeros
import Derived.WalkMore
import Derived.Laws.IdiomCopy
import Derived.Laws.StructEq
import Derived.RangeFuncNested
import Derived.Test.YtkinchgjidpjnaaGreatSlTba5
set_option linter.unusedVariables false
set_option linter.unusedSimpArgs false
set_option maxRecDepth 100000
set_option maxHeartbeats 64000000
namespace Go.Proofs.YtkinchgjidpjnaaGreat
section
open Go.RowKit
theorem zSlTac1_0 {P : Prop} (h : P := by repeat (first | assumption | exact Ext.refl _ | refine Ext.drew ?_ | refine Ext.drewN ?_ _ | refine Ext.alloc ?_ _ | refine Ext.setCell ?_ (by first | omega | (simp; done) | (simp; omega)) _ | refine Ext.trans ?_ (by assumption))) : P := h
theorem zSlTac1_1 {P : Prop} (h : P := by first | fail | (simp [go_sem, World.cell?_alloc_past]; done)) : P := h
theorem zSlTac1_2 {P : Prop} (h : P := by first | omega | (simp; done) | (simp; omega)) : P := h
theorem zSlTac1_3 {P : Prop} (h : P := by rw [clsGo_at HI.out HX.out.1 (v := EP) ((clsOne_pool (c := (xv, xs, xp, xf, xt, xh)) (show chkS xv xs xp xf = 0 from by rw [← HX.out.2.1]; omega) HP.out (show chkE xt xh ≠ 0 from by rw [← HX.out.2.2]; exact q5)).trans HX.out.2.2.symm) (by first | decide | assumption)]; first | decide | assumption) : P := h
theorem zSlTac1_4 {P : Prop} (h : P := by rw [clsGo_at HI.out HX.out.1 (v := 11) (clsOne_state (show chkS xv xs xp xf = 0 from by rw [← HX.out.2.1]; omega) HP.out (show chkE xt xh = 0 from by rw [← HX.out.2.2]; omega) ⟨q6a, q6b⟩) (by first | decide | assumption)]; first | decide | assumption) : P := h
theorem zSlTac1_5 {P : Prop} (h : P := by simp [results, Tryz.results129, go_sem, d3, d4]; try rfl) : P := h
theorem zl (a b : Nat) (h : a < b := by omega) : a < b ∧ ¬ a = b ∧ ¬ b = a := by omega
end
section
open Go.RowKit Go.ChangeShapes Go.WideShapes
section
variable {H : Type} {enc : TypeId × Value → H} {P : Program} {w : World} {base : Nat} {spare : Nat → Bool} {held : Bool}
theorem open_raw {t e : TypeId} {sz fuel n c : Nat} {A : Option Addr} {x : DataW H × List MemPlace} (ht : P.underlying t = some (.slice e)) (hsz : P.cellsOf e = sz) (hpos : 0 < sz)
  (h : DataW.trod enc P w base spare held fuel t [.slice A n c] = some x) :
  ∃ xs : List Value, Sl w sz A n c xs ∧ ∀ i, i < n → ∃ m y, DataW.trod enc P w base spare held m e ((xs.drop (i * sz)).take sz) = some y := by
 rcases Go.Deep.open_slice ht h with ⟨h0, _⟩ | ⟨a, len, cap, m, n', D, Pl, hcs, _, hl, hm, hmm, _, hi⟩
 ·simp at h0
  obtain ⟨rfl, rfl, rfl⟩ := h0
  exact ⟨[], Sl.nil _ _, fun i hi => absurd hi (by omega)⟩
 simp at hcs
 obtain ⟨rfl, rfl, rfl⟩ := hcs
 subst hsz
 have hnm : n ≤ m := by rw [hmm]; split <;> omega
 -- the cells, one by one
 have hcell : ∀ i, i < n → ∀ j, j < P.cellsOf e → ∃ v, w.cell? (a.add (i * P.cellsOf e + j)) = some v := by
  intro i hin j hj
  obtain ⟨cs', hc, ht'⟩ := hi i (by omega)
  obtain ⟨_, hcl, hat⟩ := World.cells?_some hc
  refine ⟨cs'[j]'(by omega), ?_⟩
  have := hat j hj
  rw [Go.Deep.add_add] at this
  rw [this, List.getElem?_eq_getElem (by omega)]
 obtain ⟨b, o, spot⟩ := a
 rcases Nat.eq_zero_or_pos n with hn0 | hnp
 ·subst hn0
  exact ⟨[], ⟨by simp, by omega, hm, fun h => absurd h (by omega)⟩, fun i hi => absurd hi (by omega)⟩
 have hspot : spot = none := by
  obtain ⟨v, hv⟩ := hcell 0 hnp 0 hpos
  simpa [Addr.add] using World.cell?_spot hv
 subst hspot
 let f : Nat → Value := fun j => (w.cell? ⟨b, o + j, none⟩).getD undef
 have hf : ∀ j, j < n * P.cellsOf e → w.cell? ⟨b, o + j, none⟩ = some (f j) := by
  intro j hj
  have h1 : j / P.cellsOf e < n := by rw [Nat.div_lt_iff_lt_mul hpos]; exact hj
  obtain ⟨v, hv⟩ := hcell (j / P.cellsOf e) h1 (j % P.cellsOf e) (Nat.mod_lt _ hpos)
  rw [Nat.div_add_mod', addr_add] at hv
  show _ = some ((w.cell? ⟨b, o + j, none⟩).getD undef)
  rw [hv]; rfl
 have hb : b < w.heap.size := by
  have h1 := hf 0 (by exact Nat.mul_pos hnp hpos)
  unfold World.cell? at h1
  rcases hx : w.heap[b]? with _ | ob
  ·simp [hx] at h1
  exact (Array.getElem?_eq_some_iff.1 hx).1
 refine ⟨(List.range (n * P.cellsOf e)).map f, ⟨by simp, by omega, hm, fun _ => ⟨b, o, rfl, hb, fun j u hu => ?_⟩⟩, fun i hin => ?_⟩
 ·rw [List.getElem?_map] at hu
  rcases Nat.lt_or_ge j (n * P.cellsOf e) with hj | hj
  ·rw [List.getElem?_range hj] at hu
   simp at hu
   rw [hf j hj, hu]
  rw [List.getElem?_eq_none (by simpa using hj)] at hu
  simp at hu
 obtain ⟨cs', hc, ht'⟩ := hi i (by omega)
 obtain ⟨_, hcl, hat⟩ := World.cells?_some hc
 have e1 : (((List.range (n * P.cellsOf e)).map f).drop (i * P.cellsOf e)).take (P.cellsOf e) = cs' := by
  apply List.ext_getElem?
  intro j
  rw [List.getElem?_take]
  have hle : (i + 1) * P.cellsOf e ≤ n * P.cellsOf e := Nat.mul_le_mul_right _ hin
  rw [Nat.add_mul, Nat.one_mul] at hle
  split
  ·rename_i hj
   rw [List.getElem?_drop, List.getElem?_map, List.getElem?_range (by omega)]
   have h2 := hat j hj
   rw [Go.Deep.add_add, addr_add] at h2
   rw [← h2, hf _ (by omega)]
   rfl
  rename_i hj
  rw [List.getElem?_eq_none (by omega)]
 exact ⟨n', (D i, Pl i), by rw [e1]; exact ht'⟩
end
end
section
open Go.RowKit Go.ChangeShapes Go.WideShapes Go.Deep Go.Joins
theorem chunks {α : Type} {f : α → List Value} {sz : Nat} (hpos : 0 < sz) {Good : α → Prop} : ∀ (n : Nat) (xs : List Value), xs.length = n * sz →
  (∀ i, i < n → ∃ x, (xs.drop (i * sz)).take sz = f x ∧ Good x) → ∃ l : List α, l.length = n ∧ l.flatMap f = xs ∧ ∀ x ∈ l, Good x
 | 0, xs, hl, _ => ⟨[], rfl, by rw [Nat.zero_mul] at hl; rw [List.eq_nil_of_length_eq_zero hl]; rfl, by simp⟩
 | n + 1, xs, hl, h => by
  obtain ⟨x, hx, gx⟩ := h 0 (by omega)
  rw [Nat.zero_mul, List.drop_zero] at hx
  obtain ⟨l, h1, h2, h3⟩ := chunks hpos n (xs.drop sz) (by rw [List.length_drop, hl, Nat.add_mul, Nat.one_mul]; omega) fun i hi => by
   obtain ⟨y, hy, gy⟩ := h (i + 1) (by omega)
   exact ⟨y, by rw [List.drop_drop]; rw [Nat.add_mul, Nat.one_mul, Nat.add_comm] at hy; exact hy, gy⟩
  exact ⟨x :: l, by simp [h1], by rw [List.flatMap_cons, h2, ← hx, List.take_append_drop], fun z hz => by
   rcases List.mem_cons.1 hz with rfl | hz
   ·exact gx
   ·exact h3 z hz⟩

section
variable {H : Type} {enc : TypeId × Value → H} {P : Program} {w : World} {base : Nat} {spare : Nat → Bool} {held : Bool}
theorem open_rec {α : Type} {f : α → List Value} {Good : α → Prop} {t e : TypeId} {sz n c : Nat} {A : Option Addr} {d : DataW H} {p : List MemPlace} (ht : P.underlying t = some (.slice e)) (hc : P.cellsOf e = sz) (hpos : 0 < sz)
  (hel : ∀ cs m y, DataW.trod enc P w base spare held m e cs = some y → cs.length = sz → ∃ x : α, cs = f x ∧ Good x)
  (h : DataW.Trod enc P w base spare held t (.slice A n c) d p) : ∃ l : List α, Sl w sz A n c (l.flatMap f) ∧ l.length = n ∧ ∀ x ∈ l, Good x := by
 obtain ⟨fuel, hf⟩ := h
 obtain ⟨xs, hs, hr⟩ := open_raw ht hc hpos (by simpa [Value.cells] using hf)
 have hlen := hs.len
 obtain ⟨l, h1, h2, h3⟩ := chunks (f := f) (Good := Good) hpos n xs hlen fun i hi => by
  obtain ⟨m, y, hy⟩ := hr i hi
  have hle : (i + 1) * sz ≤ n * sz := Nat.mul_le_mul_right _ hi
  rw [Nat.add_mul, Nat.one_mul] at hle
  exact hel _ m y hy (by rw [List.length_take, List.length_drop]; omega)
 exact ⟨l, by rw [h2]; exact hs, h1, h3⟩
theorem rec2 {t : TypeId} {k0 k1 : IntKind} {f0 f1 : Field} {cs : List Value} {m : Nat} {y : DataW H × List MemPlace} (ht : P.underlying t = some (.struct #[f0, f1])) (hone : oneCellFields P #[f0, f1] = true)
  (h0 : P.underlying f0.type = some (.int k0)) (h1 : P.underlying f1.type = some (.int k1))
  (h : DataW.trod enc P w base spare held m t cs = some y) (hl : cs.length = 2) : ∃ x : Int × Int, cs = [.int k0 x.1, .int k1 x.2] ∧ Fits k0 x.1 ∧ Fits k1 x.2 := by
 obtain ⟨y0, y1, m', _, _, g0, g1⟩ := trod_struct2 ht h
 obtain ⟨o0, c0⟩ := hone_of hone 0 f0 rfl
 obtain ⟨o1, c1⟩ := hone_of hone 1 f1 rfl
 match cs, hl with
 | [v0, v1], _ =>
  rw [o0, c0] at g0
  rw [o1, c1] at g1
  obtain ⟨a, ha, _, wa⟩ := DataW.trod_int h0 g0
  obtain ⟨b, hb, _, wb⟩ := DataW.trod_int h1 g1
  simp at ha hb
  subst ha; subst hb
  exact ⟨(a, b), rfl, wa, wb⟩
end
end
section
open Go.RowKit
section
variable {α : Type} {key : α → List Int} {d : Nat}
theorem mem_lay {l : List α} {q : List Int} {o : Option α} {z : α} (h : z ∈ layK key l q o) : z ∈ l ∨ o = some z := by
 induction l with
 | nil => right; unfold layK at h; simpa [Option.mem_toList] using h
 | cons x l ih =>
  unfold layK at h
  split at h
  ·rcases List.mem_cons.1 h with rfl | h
   ·exact .inl (List.mem_cons_self ..)
   rcases ih h with h | h
   ·exact .inl (List.mem_cons_of_mem _ h)
   exact .inr h
  split at h
  ·rcases List.mem_append.1 h with h | h
   ·exact .inr (by simpa [Option.mem_toList] using h)
   exact .inl (List.mem_cons_of_mem _ h)
  rcases List.mem_append.1 h with h | h
  ·exact .inr (by simpa [Option.mem_toList] using h)
  exact .inl h
theorem sort_lay (hd : ∀ x, (key x).length = d) {q : List Int} (hq : q.length = d) {o : Option α} (ho : ∀ y, o = some y → key y = q) : ∀ {l : List α}, SortK key l → SortK key (layK key l q o)
 | [], _ => by unfold layK; cases o <;> simp [SortK]
 | x :: l, hs => by
  have ih := sort_lay hd hq ho hs.tail
  unfold layK
  by_cases h1 : cmpK (key x) q < 0
  ·rw [if_pos h1]
   refine List.pairwise_cons.2 ⟨fun z hz => ?_, ih⟩
   rcases mem_lay hz with hz | hz
   ·exact hs.head z hz
   ·rw [ho z hz]; exact h1
  ·rw [if_neg h1]
   by_cases h2 : key x = q
   ·rw [if_pos h2]
    cases o with
    | none => exact hs.tail
    | some y => exact List.pairwise_cons.2 ⟨fun z hz => by rw [ho y rfl, ← h2]; exact hs.head z hz, hs.tail⟩
   ·rw [if_neg h2]
    cases o with
    | none => exact hs
    | some y =>
     have hg : cmpK q (key x) < 0 := cmpK_gt (by rw [hd, hq]) h1 h2
     refine List.pairwise_cons.2 ⟨fun z hz => ?_, hs⟩
     rw [ho y rfl]
     rcases List.mem_cons.1 hz with rfl | hz
     ·exact hg
     ·exact cmpK_trans (by rw [hd, hq]) (by rw [hd, hd]) hg (hs.head z hz)
theorem get_lay (hd : ∀ x, (key x).length = d) {q q' : List Int} (hq : q.length = d) {o : Option α} (ho : ∀ y, o = some y → key y = q) : ∀ {l : List α}, SortK key l → getK key (layK key l q o) q' = if q' = q then o else getK key l q'
 | [], _ => by
  unfold layK
  cases o with
  | none => simp [getK]
  | some y =>
   show getK key [y] q' = _
   rw [getK_cons, ho y rfl]
   by_cases h : q' = q
   ·rw [if_pos h, if_pos h.symm]
   ·rw [if_neg h, if_neg (fun e => h e.symm)]
 | x :: l, hs => by
  have ih := get_lay (q' := q') hd hq ho hs.tail
  unfold layK
  by_cases h1 : cmpK (key x) q < 0
  ·have hne : key x ≠ q := fun e => by rw [e, cmpK_self] at h1; omega
   rw [if_pos h1, getK_cons, getK_cons, ih]
   by_cases h : q' = q
   ·rw [if_pos h, if_pos h, if_neg (by rw [h]; exact hne)]
   ·rw [if_neg h, if_neg h]
  ·rw [if_neg h1]
   by_cases h2 : key x = q
   ·rw [if_pos h2, getK_cons]
    have hab : getK key l q = none := getK_above hd (fun y hy => by rw [← h2]; exact hs.head y hy)
    cases o with
    | none =>
     show getK key l q' = _
     by_cases h : q' = q
     ·rw [if_pos h, h, hab]
     ·rw [if_neg h, if_neg (by rw [h2]; exact fun e => h e.symm)]
    | some y =>
     show getK key (y :: l) q' = _
     rw [getK_cons, ho y rfl]
     by_cases h : q' = q
     ·rw [if_pos h, if_pos h.symm]
     ·rw [if_neg h, if_neg (fun e => h e.symm), if_neg (by rw [h2]; exact fun e => h e.symm)]
   ·rw [if_neg h2]
    have hg : cmpK q (key x) < 0 := cmpK_gt (by rw [hd, hq]) h1 h2
    have hab : getK key (x :: l) q = none := getK_above hd (fun y hy => by
     rcases List.mem_cons.1 hy with rfl | hy
     ·exact hg
     ·exact cmpK_trans (by rw [hd, hq]) (by rw [hd, hd]) hg (hs.head y hy))
    cases o with
    | none =>
     show getK key (x :: l) q' = _
     by_cases h : q' = q
     ·rw [if_pos h, h, hab]
     ·rw [if_neg h]
    | some y =>
     show getK key (y :: x :: l) q' = _
     rw [getK_cons, ho y rfl]
     by_cases h : q' = q
     ·rw [if_pos h, if_pos h.symm]
     ·rw [if_neg h, if_neg (fun e => h e.symm)]
theorem addF_opt (f : α → Int) (o : Option α) : addF f o.toList = optF f o := by cases o <;> simp [addF, optF]
theorem sum_lay (hd : ∀ x, (key x).length = d) (f : α → Int) {q : List Int} (hq : q.length = d) {o : Option α} : ∀ {l : List α}, SortK key l → addF f (layK key l q o) + optF f (getK key l q) = addF f l + optF f o
 | [], _ => by unfold layK; rw [addF_opt]; simp [getK, optF, addF]
 | x :: l, hs => by
  have ih := sum_lay hd f hq (o := o) hs.tail
  unfold layK
  by_cases h1 : cmpK (key x) q < 0
  ·have hne : key x ≠ q := fun e => by rw [e, cmpK_self] at h1; omega
   rw [if_pos h1, getK_cons, if_neg hne, addF_cons, addF_cons]
   omega
  ·rw [if_neg h1]
   by_cases h2 : key x = q
   ·rw [if_pos h2, getK_cons, if_pos h2, addF_app, addF_opt, addF_cons]
    show _ + f x = _
    omega
   ·have hg : cmpK q (key x) < 0 := cmpK_gt (by rw [hd, hq]) h1 h2
    have hab : getK key (x :: l) q = none := getK_above hd (fun y hy => by
     rcases List.mem_cons.1 hy with rfl | hy
     ·exact hg
     ·exact cmpK_trans (by rw [hd, hq]) (by rw [hd, hd]) hg (hs.head y hy))
    rw [if_neg h2, hab, addF_app, addF_opt]
    show _ + 0 = _
    omega
theorem len_lay (hd : ∀ x, (key x).length = d) {q : List Int} (hq : q.length = d) (o : Option α) {l : List α} (hs : SortK key l) : (layK key l q o).length + (getK key l q).toList.length = l.length + o.toList.length := by
 have h := sum_lay hd (fun _ => 1) hq (o := o) hs
 have e : ∀ l : List α, addF (fun _ => 1) l = l.length := fun l => by
  induction l with
  | nil => rfl
  | cons x l ih => rw [addF_cons, ih, List.length_cons]; omega
 rw [e, e] at h
 cases o <;> cases hg : getK key l q <;> rw [hg] at h <;> simp only [optF, Option.toList, List.length_nil, List.length_cons] at h ⊢ <;> omega
def refK (key : α → List Int) (q : List Int) (y : α) : Bool → List α → List α
 | done, [] => if done = true then [] else [y]
 | done, x :: l => (if done = false ∧ cmpK q (key x) ≤ 0 then [y] else []) ++ ((if key x = q then [] else [x]) ++ refK key q y (done || decide (cmpK q (key x) ≤ 0)) l)
theorem ref_done (q : List Int) (y : α) : ∀ l : List α, refK key q y true l = l.filter fun x => decide (key x ≠ q)
 | [] => rfl
 | x :: l => by
  unfold refK
  rw [if_neg (by simp), Bool.true_or, ref_done q y l, List.filter_cons]
  by_cases h : key x = q
  ·simp [h]
  ·simp [h]
theorem filter_above (hd : ∀ x, (key x).length = d) {l : List α} {q : List Int} (h : ∀ y ∈ l, cmpK q (key y) < 0) : l.filter (fun x => decide (key x ≠ q)) = l := by
 rw [List.filter_eq_self]
 intro x hx
 have := h x hx
 simp only [decide_eq_true_eq]
 intro e
 rw [e, cmpK_self] at this
 omega
theorem ref_strike (hd : ∀ x, (key x).length = d) {q : List Int} (hq : q.length = d) : ∀ {l : List α}, SortK key l → l.filter (fun x => decide (key x ≠ q)) = layK key l q none
 | [], _ => rfl
 | x :: l, hs => by
  have ih := ref_strike hd hq hs.tail
  unfold layK
  rw [List.filter_cons]
  by_cases h1 : cmpK (key x) q < 0
  ·have hne : key x ≠ q := fun e => by rw [e, cmpK_self] at h1; omega
   rw [if_pos h1, if_pos (by simpa using hne), ih]
  ·rw [if_neg h1]
   by_cases h2 : key x = q
   ·rw [if_pos h2, if_neg (by simp [h2])]
    exact filter_above hd (fun y hy => by rw [← h2]; exact hs.head y hy)
   ·have hg : cmpK q (key x) < 0 := cmpK_gt (by rw [hd, hq]) h1 h2
    rw [if_neg h2, if_pos (by simpa using h2), filter_above hd (fun y hy => cmpK_trans (by rw [hd, hq]) (by rw [hd, hd]) hg (hs.head y hy))]
    rfl
theorem ref_lay (hd : ∀ x, (key x).length = d) {q : List Int} (hq : q.length = d) (y : α) : ∀ {l : List α}, SortK key l → refK key q y false l = layK key l q (some y)
 | [], _ => rfl
 | x :: l, hs => by
  have ih := ref_lay hd hq y hs.tail
  have t := cmpK_turn (key x) q (by rw [hd, hq])
  unfold refK layK
  by_cases h1 : cmpK (key x) q < 0
  ·have hne : key x ≠ q := fun e => by rw [e, cmpK_self] at h1; omega
   rw [if_pos h1, if_neg (by omega), if_neg hne, decide_eq_false (by omega), Bool.false_or, ih]
   rfl
  ·rw [if_neg h1, if_pos ⟨rfl, by omega⟩, decide_eq_true (by omega), Bool.false_or, ref_done]
   by_cases h2 : key x = q
   ·rw [if_pos h2, if_pos h2, filter_above hd (fun z hz => by rw [← h2]; exact hs.head z hz)]
    rfl
   ·have hg : cmpK q (key x) < 0 := cmpK_gt (by rw [hd, hq]) h1 h2
    rw [if_neg h2, if_neg h2, filter_above hd (fun z hz => cmpK_trans (by rw [hd, hq]) (by rw [hd, hd]) hg (hs.head z hz))]
    rfl
end
end
section
open Go.RowKit RefMath
theorem rWide_nat (a b : Nat) (ha : a < 18446744073709551616) (hb : b < 18446744073709551616) (A B : Int) (hA : A = a) (hB : B = b) (w : World) :
  Calls Tryz.prog 214 #[.int .u64 A, .int .u64 B] w fun e w' => e = .returned (.tuple #[.int .u64 (hiN A B), .int .u64 (loN A B)]) ∧ w = w' := by
 have V0 := Lib.hid (WInv.start ha hb)
 have ha' : A < 18446744073709551616 := by omega
 have hb' : B < 18446744073709551616 := by omega
 have a0 : 0 ≤ A := by omega
 have b0 : 0 ≤ B := by omega
 have HA := Lib.hid hA
 have HB := Lib.hid hB
 clear ha hb hA hB
 go_enter Tryz.func214, Tryz.ntmps214
 go_wp2
 go_loopg [6, 7, 8] 64 (fun n h l i wx => ∃ (h' l' : Nat) (H L : Int), Hid (WInv a b n h' l' ∧ H = h' ∧ L = l') ∧ n ≤ 64 ∧ 0 ≤ H ∧ 0 ≤ L ∧ h = .int .u64 H ∧ l = .int .u64 L ∧ Hid (i = .int .i64 ((n : Int) - 1)) ∧ wx = w)
 case atStart => exact ⟨0, 0, 0, 0, ⟨V0, rfl, rfl⟩, by decide, by decide, by decide, rfl, rfl, rfl, rfl⟩
 obtain ⟨h, l, H, L, V, hn, h0, l0, rfl, rfl, hi, rfl⟩ := hrel
 rcases gk with _ | i
 ·obtain rfl := (hi.out : u8 = .int .i64 (-1))
  clear hi
  go_wp2
  go_ret2
  have h1 : (H * 18446744073709551616 + L) = A * B := by
   have := V.out.1.sum
   simp at this
   rw [V.out.2.1, V.out.2.2, HA.out, HB.out, ← Int.natCast_mul]
   omega
  have h2 : L < 18446744073709551616 := by have := V.out.1.hl; have := V.out.2.2; omega
  exact ⟨ret_two (by unfold hiN; omega) (by unfold loN; omega), rfl⟩
 obtain rfl : u8 = .int .i64 (i : Int) := by rw [hi.out]; exact num_eq (by omega)
 clear hi
 obtain ⟨v, v1, v2⟩ := V.out
 have V := Lib.hid v
 have V1 := Lib.hid v1
 have V2 := Lib.hid v2
 have hh' : 2 * H + L / 9223372036854775808 < 18446744073709551616 := by have := v.step.2; omega
 have hl : L < 18446744073709551616 := by have := v.hl; omega
 have m1 : min i 64 = i := by omega
 have hb1 := Nat.mod_two_eq_zero_or_one (a / 2 ^ i)
 obtain ⟨sh, hsh⟩ : ∃ sh, sh = a / 2 ^ i := ⟨_, rfl⟩
 obtain ⟨S, hS⟩ : ∃ S : Int, S = sh := ⟨_, rfl⟩
 have esh : A / 2 ^ i = S := by rw [hS, hsh, HA.out]; simp
 have s0 : 0 ≤ S := by omega
 obtain ⟨l2, hl2⟩ : ∃ l2, l2 = 2 * l % 18446744073709551616 := ⟨_, rfl⟩
 obtain ⟨L2, hL2⟩ : ∃ L2 : Int, L2 = l2 := ⟨_, rfl⟩
 have es : IntKind.u64.wrap (2 * L) = L2 := by rw [IntKind.wrap_u64, hL2, hl2]; omega
 have hl3 : L2 < 18446744073709551616 := by omega
 have hl4 : 0 ≤ L2 := by omega
 have Z := fun hbit => v.zero hbit
 have O := fun hbit ho => v.one hbit ho
 have R := fun hbit ho => v.over hbit ho
 rw [← hsh] at hb1 Z O R
 rw [← hl2] at Z O R
 rcases hb1 with hbit | hbit
 ·have hbit' : S % 2 = 0 := by omega
  have N := Lib.hid (Z hbit)
  have HL2 := Lib.hid hL2
  clear hbit v v1 v2 Z O R hl2 hsh hL2 hS
  go_wp2
  go_roundg i
  case measure => omega
  exact ⟨_, _, _, _, ⟨N, rfl, rfl⟩, by omega, by omega, by omega, num_eq (by have := V1.out; have := V2.out; omega), num_eq HL2.out, num_eq (by omega), rfl⟩
 have hbit' : S % 2 = 1 := by omega
 by_cases ho : L2 + B < 18446744073709551616
 ·have N := Lib.hid (O hbit (by have := HB.out; omega))
  have HL2 := Lib.hid hL2
  clear hbit v v1 v2 Z O R hl2 hsh hL2 hS
  go_wp2
  go_roundg i
  case measure => omega
  exact ⟨_, _, _, _, ⟨N, rfl, rfl⟩, by omega, by omega, by omega, num_eq (by have := V1.out; have := V2.out; omega), num_eq (by have := HL2.out; have := HB.out; omega), num_eq (by omega), rfl⟩
 obtain ⟨N1, N2⟩ := R hbit (by have := HB.out; omega)
 have N := Lib.hid N1
 have HL2 := Lib.hid hL2
 have hw : IntKind.u64.wrap (L2 + B) = L2 + B - 18446744073709551616 := by rw [IntKind.wrap_u64]; omega
 have N3 : 2 * H + L / 9223372036854775808 + 1 < 18446744073709551616 := by omega
 have ho' : 18446744073709551616 ≤ L2 + B := by omega
 clear hbit N1 N2 v v1 v2 Z O R hl2 hsh hL2 hS ho
 go_wp2
 go_roundg i
 case measure => omega
 exact ⟨_, _, _, _, ⟨N, rfl, rfl⟩, by omega, by omega, by omega, num_eq (by have := V1.out; have := V2.out; omega), num_eq (by have := HL2.out; have := HB.out; omega), num_eq (by omega), rfl⟩

theorem rWide_any (a b : Int) (ha : Word a) (hb : Word b) (w : World) :
  Calls Tryz.prog 214 #[.int .u64 a, .int .u64 b] w fun e w' => e = .returned (.tuple #[.int .u64 (hiN a b), .int .u64 (loN a b)]) ∧ w = w' := by
 obtain ⟨a', ea⟩ := Int.eq_ofNat_of_zero_le ha.1
 obtain ⟨b', eb⟩ := Int.eq_ofNat_of_zero_le hb.1
 exact rWide_nat a' b' (by have := ha.2; omega) (by have := hb.2; omega) a b ea eb w
theorem rDivide_nat (p c : Nat) (A B C : Int) (ha : Word A) (hb : Word B) (hC : C = c) (hc0 : 0 < C) (hc1 : C < 18446744073709551616) (hP : (p : Int) = A * B) (w : World) :
  Calls Tryz.prog 205 #[.int .u64 A, .int .u64 B, .int .u64 C] w fun e w' =>
   e = .returned (.tuple #[.int .u64 (A * B / C % 18446744073709551616), .bool (decide (18446744073709551616 ≤ A * B / C)), .int .u64 (A * B % C)]) ∧ w = w' := by
 have hp2 := prod_bounds ha hb
 obtain ⟨hh, ehh⟩ : ∃ x : Nat, (x : Int) = hiN A B := ⟨(hiN A B).toNat, by have := (word_hi ha hb).1; omega⟩
 obtain ⟨ll, ell⟩ : ∃ x : Nat, (x : Int) = loN A B := ⟨(loN A B).toNat, by have := (word_lo A B).1; omega⟩
 have hw1 := word_hi ha hb
 have hw2 := word_lo A B
 have esum : p = hh * 18446744073709551616 + ll := by have := hi_lo A B; omega
 have V0 := Lib.hid (DI.start p c (by omega) (by omega))
 have hll : ll < 18446744073709551616 := by have := hw2.2; omega
 have HS := Lib.hid (And.intro esum hll)
 have HC := Lib.hid (And.intro hC hP)
 obtain ⟨h1, h2⟩ := hw1
 obtain ⟨l1, l2⟩ := hw2
 have HH := Lib.hid ehh
 have HL := Lib.hid ell
 have HB := Lib.hid (And.intro ha hb)
 clear hp2 esum hll hC hP ehh ell
 go_enter Tryz.func205, Tryz.ntmps205
 go_wp2_with (go_at_call 214; refine (rWide_any A B HB.out.1 HB.out.2 _).mono ?_; rintro e w' ⟨rfl, rfl⟩)
 obtain ⟨hi, ehi⟩ : ∃ x, x = hiN A B := ⟨_, rfl⟩
 obtain ⟨lo, elo⟩ : ∃ x, x = loN A B := ⟨_, rfl⟩
 go_loopg [11, 12, 13, 14] 128 (fun n q o l i wx => ∃ (q' l' : Nat) (Q L : Int) (ov : Bool), Hid (DI p c n q' l' ov ∧ Q = q' ∧ L = l') ∧ n ≤ 128 ∧ 0 ≤ Q ∧ 0 ≤ L ∧ q = .int .u64 Q ∧ o = .bool ov ∧ l = .int .u64 L ∧ Hid (i = .int .i64 ((n : Int) - 1)) ∧ wx = w)
 case atStart => exact ⟨0, 0, 0, 0, false, ⟨V0, rfl, rfl⟩, by decide, by decide, by decide, rfl, rfl, rfl, rfl, rfl⟩
 obtain ⟨q, l, Q, L, ov, V, hn, q0, l0, rfl, rfl, rfl, hi, rfl⟩ := hrel
 rcases gk with _ | i
 ·obtain rfl := (hi.out : u14 = .int .i64 (-1))
  clear hi
  go_wp2
  go_ret3
  obtain ⟨d1, d2, d3⟩ := V.out.1.done
  have x1 := V.out.2.1
  have x2 := V.out.2.2
  obtain ⟨y1, y2⟩ := HC.out
  have e1 : Q = A * B / C % 18446744073709551616 := by rw [← y2, y1, x1, d1]; simp
  have e2 : L = A * B % C := by rw [← y2, y1, x2, d2]; simp
  have e3 : ov = decide (18446744073709551616 ≤ A * B / C) := by
   rw [← y2, y1, d3]; rw [Bool.eq_iff_iff]; simp only [decide_eq_true_eq]
   rw [← Int.natCast_ediv]; omega
  exact ⟨by rw [e1, e2, e3]; rfl, rfl⟩
 obtain rfl : u14 = .int .i64 (i : Int) := by rw [hi.out]; exact num_eq (by omega)
 clear hi
 obtain ⟨v, v1, v2⟩ := V.out
 clear V
 obtain ⟨bn, hbn⟩ : ∃ b, b = p / 2 ^ i % 2 := ⟨_, rfl⟩
 obtain ⟨bit, hbit⟩ : ∃ b : Int, b = bn := ⟨_, rfl⟩
 have b0 : 0 ≤ bit := by omega
 have b1 : bit ≤ 1 := by have := Nat.mod_lt (p / 2 ^ i) (by decide : 2 > 0); omega
 have e64 : min (i % 64) 64 = i % 64 := by omega
 obtain ⟨S1, hS1⟩ : ∃ S, loN A B / 2 ^ (i % 64) = S := ⟨_, rfl⟩
 obtain ⟨S2, hS2⟩ : ∃ S, hiN A B / 2 ^ (i % 64) = S := ⟨_, rfl⟩
 have s1 : 0 ≤ S1 := by rw [← hS1]; exact Int.ediv_nonneg l1 (Int.le_of_lt (Int.pow_pos (by decide)))
 have s2 : 0 ≤ S2 := by rw [← hS2]; exact Int.ediv_nonneg h1 (Int.le_of_lt (Int.pow_pos (by decide)))
 have hcase : (i : Int) ≤ 63 ∧ S1 % 2 = bit ∨ (63 : Int) < i ∧ S2 % 2 = bit := by
  obtain ⟨g1, g2⟩ := HS.out
  by_cases h6 : i < 64
  ·left
   refine ⟨by omega, ?_⟩
   have := bit_low hh ll i h6
   rw [← g1, ← hbn] at this
   rw [hbit, this, ← hS1, ← HL.out]
   simp
  right
  refine ⟨by omega, ?_⟩
  have := bit_high hh ll i (by omega) (by omega) g2
  rw [← g1] at this
  rw [this] at hbn
  rw [hbit, hbn, ← hS2, ← HH.out]
  simp
 have hcl := v.lt
 have hql := v.nlt
 have hC := HC.out.1
 obtain ⟨N2, hN2⟩ : ∃ N2, IntKind.u64.wrap (2 * Q) = N2 := ⟨_, rfl⟩
 have n20 : 0 ≤ N2 ∧ N2 < 18446744073709551615 ∧ N2 = ((2 * q % 18446744073709551616 : Nat) : Int) := by rw [← hN2, IntKind.wrap_u64]; omega
 obtain ⟨n20, n21, n22⟩ := n20
 obtain ⟨Y1, hY1⟩ : ∃ Y1, IntKind.u64.wrap (2 * L) = Y1 := ⟨_, rfl⟩
 have hov : ∃ ov2 : Bool, ov2 = (ov || decide (q / 9223372036854775808 = 1)) ∧ (ov = true ∧ ov2 = true ∨ ov = false ∧ Q / 9223372036854775808 = 1 ∧ ov2 = true ∨ ov = false ∧ Q / 9223372036854775808 = 0 ∧ ov2 = false) := by
  refine ⟨_, rfl, ?_⟩
  cases ov
  ·by_cases hq : q / 9223372036854775808 = 1
   ·right; left; exact ⟨rfl, by omega, by simp [hq]⟩
   right; right; exact ⟨rfl, by omega, by simp [hq]⟩
  left; simp
 obtain ⟨ov2, hov2, hov⟩ := hov
 have hlow := v.low
 have hhigh := v.high
 rw [← hbn, ← hov2] at hlow hhigh
 have hT : (L / 9223372036854775808 = 0 ∧ Y1 = 2 * L ∧ Y1 + bit < 18446744073709551616 ∧ Y1 + bit < C ∧ Hid (DI p c i (2 * q % 18446744073709551616) (2 * l + bn) ov2)) ∨
   (L / 9223372036854775808 = 0 ∧ Y1 = 2 * L ∧ Y1 + bit < 18446744073709551616 ∧ C ≤ Y1 + bit ∧ Hid (DI p c i (2 * q % 18446744073709551616 + 1) (2 * l + bn - c) ov2)) ∨
   (L / 9223372036854775808 = 1 ∧ 0 ≤ Y1 ∧ Y1 + bit < 18446744073709551616 ∧ IntKind.u64.wrap (Y1 + bit - C) = 2 * L + bit - C ∧ Hid (DI p c i (2 * q % 18446744073709551616 + 1) (2 * l + bn - c) ov2)) := by
  rw [IntKind.wrap_u64] at hY1 ⊢
  by_cases t1 : 2 * l + bn < c
  ·left; exact ⟨by omega, by omega, by omega, by omega, hlow t1⟩
  ·right
   by_cases t2 : 2 * L < 18446744073709551616
   ·left; exact ⟨by omega, by omega, by omega, by omega, hhigh (by omega)⟩
   ·right; exact ⟨by omega, by omega, by omega, by omega, hhigh (by omega)⟩
 have X := Lib.hid (And.intro hC (And.intro hbit (And.intro v1 (And.intro v2 n22))))
 have L0 : L < 18446744073709551616 := by omega
 clear hlow hhigh hov2 hbn v hcl hql hC hbit v1 v2 n22
 rcases hT with ⟨t1, t2, t3, t4, N⟩ | ⟨t1, t2, t3, t4, N⟩ | ⟨t1, t2, t3, t4, N⟩
 ·subst t2
  have t5 : 2 * L + bit < 18446744073709551616 := by omega
  rcases hov with ⟨rfl, rfl⟩ | ⟨rfl, o1, rfl⟩ | ⟨rfl, o1, rfl⟩ <;> rcases hcase with ⟨i1, i2⟩ | ⟨i1, i2⟩
  all_goals
   go_wp2
   go_roundg i
   case measure => omega
   case rel => exact ⟨_, _, _, _, _, ⟨N, rfl, rfl⟩, by omega, by omega, by omega, num_eq (by have := X.out; omega), rfl, num_eq (by have := X.out; omega), num_eq (by omega), rfl⟩
 ·subst t2
  rcases hov with ⟨rfl, rfl⟩ | ⟨rfl, o1, rfl⟩ | ⟨rfl, o1, rfl⟩ <;> rcases hcase with ⟨i1, i2⟩ | ⟨i1, i2⟩
  all_goals
   go_wp2
   go_roundg i
   case measure => omega
   case rel => exact ⟨_, _, _, _, _, ⟨N, rfl, rfl⟩, by omega, by omega, by omega, num_eq (by have := X.out; omega), rfl, num_eq (by have := X.out; omega), num_eq (by omega), rfl⟩
 rcases hov with ⟨rfl, rfl⟩ | ⟨rfl, o1, rfl⟩ | ⟨rfl, o1, rfl⟩ <;> rcases hcase with ⟨i1, i2⟩ | ⟨i1, i2⟩
 all_goals
  go_wp2
  go_roundg i
  case measure => omega
  case rel => exact ⟨_, _, _, _, _, ⟨N, rfl, rfl⟩, by omega, by omega, by omega, num_eq (by have := X.out; omega), rfl, num_eq (by have := X.out; omega), num_eq (by omega), rfl⟩
def dqN (a b c : Int) : Int := a * b / c % 18446744073709551616
def dqO (a b c : Int) : Bool := decide (18446744073709551616 ≤ a * b / c)
theorem rDivide_any (a b c : Int) (ha : Word a) (hb : Word b) (hc : Word c) (hz : c ≠ 0) (w : World) :
  Calls Tryz.prog 205 #[.int .u64 a, .int .u64 b, .int .u64 c] w fun e w' =>
   e = .returned (.tuple #[.int .u64 (dqN a b c), .bool (dqO a b c), .int .u64 (a * b % c)]) ∧ w = w' := by
 obtain ⟨h1, h2⟩ := prod_bounds ha hb
 exact rDivide_nat (a * b).toNat c.toNat a b c ha hb (by have := hc.1; omega) (by have := hc.1; omega) hc.2 (by omega) w

theorem rAdd_any (a b : Int) (ha : Word a) (hb : Word b) (w : World) :
  Calls Tryz.prog 152 #[.int .u64 a, .int .u64 b] w fun e w' => e = .returned (.tuple #[.int .u64 (addN a b), .int .i64 (addE a b)]) ∧ w = w' := by
 obtain ⟨a1, a2⟩ := ha
 obtain ⟨b1, b2⟩ := hb
 by_cases h : a + b < 18446744073709551616
 ·have e1 : addN a b = a + b := if_pos h
  have e2 : addE a b = 0 := if_pos h
  rw [e1, e2]
  clear e1 e2
  have h' : ¬ 18446744073709551615 - b < a := by omega
  go_enter Tryz.func152, Tryz.ntmps152
  go_wp2
  go_ret2
  exact ⟨rfl, rfl⟩
 have e1 : addN a b = 0 := if_neg h
 have e2 : addE a b = 12 := if_neg h
 rw [e1, e2]
 clear e1 e2
 have h' : 18446744073709551615 - b < a := by omega
 go_enter Tryz.func152, Tryz.ntmps152
 go_wp2
 go_ret2
 exact ⟨rfl, rfl⟩
theorem rMulDiv_any (a b c : Int) (ha : Word a) (hb : Word b) (hc : Word c) (w : World) :
  Calls Tryz.prog 191 #[.int .u64 a, .int .u64 b, .int .u64 c] w fun e w' => e = .returned (.tuple #[.int .u64 (mdN a b c), .int .i64 (mdE a b c)]) ∧ w = w' := by
 by_cases hz : c = 0
 ·subst hz
  go_enter Tryz.func191, Tryz.ntmps191
  go_wp2
  go_ret2
  exact ⟨rfl, rfl⟩
 have W := rDivide_any a b c ha hb hc hz w
 have q0 : 0 ≤ a * b / c := Int.ediv_nonneg (prod_bounds ha hb).1 hc.1
 have hz' : (c == 0) = false := by simpa using hz
 by_cases h : a * b / c < 18446744073709551616
 ·have e1 : mdN a b c = dqN a b c := by unfold mdN dqN; rw [if_neg hz, if_pos h]; omega
  have e2 : mdE a b c = 0 := by unfold mdE; rw [if_neg hz, if_pos h]
  have e3 : dqO a b c = false := by unfold dqO; simp; omega
  rw [e1, e2]
  rw [e3] at W
  have H := Lib.hid W
  clear W e1 e2 e3 h hz q0
  go_enter Tryz.func191, Tryz.ntmps191
  go_wp2_with (go_at_call 205; refine H.out.mono ?_; rintro e w' ⟨rfl, rfl⟩)
  go_ret2
  exact ⟨rfl, rfl⟩
 have e1 : mdN a b c = 0 := by unfold mdN; rw [if_neg hz, if_neg h]
 have e2 : mdE a b c = 12 := by unfold mdE; rw [if_neg hz, if_neg h]
 have e3 : dqO a b c = true := by unfold dqO; simp; omega
 rw [e1, e2]
 rw [e3] at W
 have H := Lib.hid W
 clear W e1 e2 e3 h hz q0
 go_enter Tryz.func191, Tryz.ntmps191
 go_wp2_with (go_at_call 205; refine H.out.mono ?_; rintro e w' ⟨rfl, rfl⟩)
 go_ret2
 exact ⟨rfl, rfl⟩
theorem rPart_any (a p : Int) (ha : Word a) (hp : Word p) (w : World) :
  Calls Tryz.prog 178 #[.int .u64 a, .int .u64 p] w fun e w' => e = .returned (.tuple #[.int .u64 (paN a p), .int .i64 (paE a p)]) ∧ w = w' := by
 by_cases h : 1000000000 < p
 ·have e1 : paN a p = 0 := if_pos h
  have e2 : paE a p = 3 := if_pos h
  rw [e1, e2]
  clear e1 e2
  go_enter Tryz.func178, Tryz.ntmps178
  go_wp2
  go_ret2
  exact ⟨rfl, rfl⟩
 have e1 : paN a p = mdN a p 1000000000 := if_neg h
 have e2 : paE a p = mdE a p 1000000000 := if_neg h
 rw [e1, e2]
 have W := Lib.hid (rMulDiv_any a p 1000000000 ha hp ⟨by decide, by decide⟩ w)
 clear e1 e2
 go_enter Tryz.func178, Tryz.ntmps178
 go_wp2_with (go_at_call 191; refine W.out.mono ?_; rintro e w' ⟨rfl, rfl⟩)
 go_ret2
 exact ⟨rfl, rfl⟩
end
section
open Go.RowKit
def pccE (t s a : Int) : Int := if chkE t s = 0 then priE t s a else chkE t s
def pccN (t s a : Int) : Int := if pccE t s a = 0 then priN t s a else 0
end
section
open Go.RowKit Go.ChangeShapes Go.WideShapes Go.Deep Go.Joins
section
variable {H : Type} {enc : TypeId × Value → H} {P : Program} {w : World} {base : Nat} {spare : Nat → Bool} {held : Bool}
theorem rec4 {t : TypeId} {k0 k1 k2 k3 : IntKind} {f0 f1 f2 f3 : Field} {cs : List Value} {m : Nat} {y : DataW H × List MemPlace} (ht : P.underlying t = some (.struct #[f0, f1, f2, f3])) (hone : oneCellFields P #[f0, f1, f2, f3] = true)
  (h0 : P.underlying f0.type = some (.int k0)) (h1 : P.underlying f1.type = some (.int k1)) (h2 : P.underlying f2.type = some (.int k2)) (h3 : P.underlying f3.type = some (.int k3))
  (h : DataW.trod enc P w base spare held m t cs = some y) (hl : cs.length = 4) : ∃ x : Int × Int × Int × Int, cs = [.int k0 x.1, .int k1 x.2.1, .int k2 x.2.2.1, .int k3 x.2.2.2] ∧ Fits k0 x.1 ∧ Fits k1 x.2.1 ∧ Fits k2 x.2.2.1 ∧ Fits k3 x.2.2.2 := by
 obtain ⟨y0, y1, y2, y3, m', _, _, g0, g1, g2, g3⟩ := trod_struct4 ht h
 obtain ⟨o0, c0⟩ := hone_of hone 0 f0 rfl
 obtain ⟨o1, c1⟩ := hone_of hone 1 f1 rfl
 obtain ⟨o2, c2⟩ := hone_of hone 2 f2 rfl
 obtain ⟨o3, c3⟩ := hone_of hone 3 f3 rfl
 match cs, hl with
 | [v0, v1, v2, v3], _ =>
  rw [o0, c0] at g0
  rw [o1, c1] at g1
  rw [o2, c2] at g2
  rw [o3, c3] at g3
  obtain ⟨a, ha, _, wa⟩ := DataW.trod_int h0 g0
  obtain ⟨b, hb, _, wb⟩ := DataW.trod_int h1 g1
  obtain ⟨c, hc, _, wc⟩ := DataW.trod_int h2 g2
  obtain ⟨d, hd, _, wd⟩ := DataW.trod_int h3 g3
  simp at ha hb hc hd
  subst ha; subst hb; subst hc; subst hd
  exact ⟨(a, b, c, d), rfl, wa, wb, wc, wd⟩
end
end
section
open Go.RowKit Go.ChangeShapes Go.WideShapes Go.Deep Go.Joins
theorem kOverClasses_own (A : Option Addr) (c : Nat) (l : List I6) (base : Nat) (w : World) (h : OwnCls w base (.slice A l.length c) l.length l) :
  Calls Tryz.prog 44 #[.slice A l.length c] w fun r w' => (∃ v, r = .returned v) ∧ But (fun k => ∃ o s, A = some ⟨k, o, s⟩) w w' := by
 rcases h.2 with ⟨h', h0⟩ | ⟨g, cap, cur, h', hbg, _⟩
 ·injection h' with h1 h2 h3
  subst h1; subst h3
  rw [h2]
  clear h
  go_enter Tryz.func44, Tryz.ntmps44
  go_wp2
  go_loopg [2] 0 (fun gh i wx => i = .int .i64 0 ∧ wx = w)
  case atStart => exact ⟨rfl, rfl⟩
  obtain ⟨rfl, rfl⟩ := hrel
  go_wp2
  go_end0
  exact ⟨⟨_, rfl⟩, But.refl _ _⟩
 injection h' with h1 h2 h3
 subst h1; subst h3
 have hs := (Sl.own h).small
 have HO := Lib.hid h
 clear h
 generalize hn : l.length = n at *
 replace hn := Lib.hid hn
 go_enter Tryz.func44, Tryz.ntmps44
 go_wp2
 go_loopg [2] n (fun gh i wx => gh ≤ n ∧ i = .int .i64 ((n - gh : Nat) : Int) ∧ ∃ xs, wx.ownsRow base 79 6 (.slice (some ⟨g, 0, none⟩) n c) n xs ∧ But (fun k => ∃ o s, some (⟨g, 0, none⟩ : Addr) = some ⟨k, o, s⟩) w wx)
 case atStart => exact ⟨Nat.le_refl _, by simp, _, HO.out, But.refl _ _⟩
 obtain ⟨hg, hi, xs, hw, hb⟩ := hrel
 have hl := hw.1
 have HW := Lib.hid hw
 have HBB := Lib.hid hb
 obtain ⟨k, hk⟩ : ∃ k, k = n - gk := ⟨_, rfl⟩
 rw [← hk] at hi
 subst hi
 by_cases hz : gk = 0
 ·have hkn : ¬ (k : Int) < n := by omega
  clear hw hb hl hg hk hz
  go_wp2
  go_end0
  exact ⟨⟨_, rfl⟩, by first | exact HBB.out | (have h := HBB.out; simpa using h)⟩
 have hkn : (k : Int) < n := by omega
 have c0 := (hw.cellAt (k * 6) (by omega)).trans (List.getElem?_eq_getElem (by omega))
 have f0 := hw.frozenAt (k * 6)
 have c1 := (hw.cellAt (k * 6 + 1) (by omega)).trans (List.getElem?_eq_getElem (by omega))
 have f1 := hw.frozenAt (k * 6 + 1)
 have c2 := (hw.cellAt (k * 6 + 2) (by omega)).trans (List.getElem?_eq_getElem (by omega))
 have f2 := hw.frozenAt (k * 6 + 2)
 have c3 := (hw.cellAt (k * 6 + 3) (by omega)).trans (List.getElem?_eq_getElem (by omega))
 have f3 := hw.frozenAt (k * 6 + 3)
 have c4 := (hw.cellAt (k * 6 + 4) (by omega)).trans (List.getElem?_eq_getElem (by omega))
 have f4 := hw.frozenAt (k * 6 + 4)
 have c5 := (hw.cellAt (k * 6 + 5) (by omega)).trans (List.getElem?_eq_getElem (by omega))
 have f5 := hw.frozenAt (k * 6 + 5)
 generalize xs[k * 6] = u0 at c0
 generalize xs[k * 6 + 1] = u1 at c1
 generalize xs[k * 6 + 2] = u2 at c2
 generalize xs[k * 6 + 3] = u3 at c3
 generalize xs[k * 6 + 4] = u4 at c4
 generalize xs[k * 6 + 5] = u5 at c5
 have HK := Lib.hid (And.intro hk (And.intro hg hz))
 clear hw hb hl hk hg hz
 go_wp2
 go_roundg (gk - 1)
 case measure => have := HK.out; omega
 exact ⟨by have := HK.out; omega, num_eq (by have := HK.out; omega), _, ((((((((((((HW.out).stored (k * 6) (.int .i64 (-77))).1).stored (k * 6 + 1) (.int .i64 0)).1).stored (k * 6 + 2) (.int .i64 0)).1).stored (k * 6 + 3) (.int .i64 0)).1).stored (k * 6 + 4) (.int .u64 0)).1).stored (k * 6 + 5) (.int .u64 0)).1, ((((((((((((HBB.out).setCell (p := ⟨g, k * 6, none⟩) ⟨0, none, rfl⟩ _)).setCell (p := ⟨g, k * 6 + 1, none⟩) ⟨0, none, rfl⟩ _)).setCell (p := ⟨g, k * 6 + 2, none⟩) ⟨0, none, rfl⟩ _)).setCell (p := ⟨g, k * 6 + 3, none⟩) ⟨0, none, rfl⟩ _)).setCell (p := ⟨g, k * 6 + 4, none⟩) ⟨0, none, rfl⟩ _)).setCell (p := ⟨g, k * 6 + 5, none⟩) ⟨0, none, rfl⟩ _)⟩
theorem kOverPositions_own (A : Option Addr) (c : Nat) (l : List I6) (base : Nat) (w : World) (h : OwnPos w base (.slice A l.length c) l.length l) :
  Calls Tryz.prog 42 #[.slice A l.length c] w fun r w' => (∃ v, r = .returned v) ∧ But (fun k => ∃ o s, A = some ⟨k, o, s⟩) w w' := by
 rcases h.2 with ⟨h', h0⟩ | ⟨g, cap, cur, h', hbg, _⟩
 ·injection h' with h1 h2 h3
  subst h1; subst h3
  rw [h2]
  clear h
  go_enter Tryz.func42, Tryz.ntmps42
  go_wp2
  go_loopg [2] 0 (fun gh i wx => i = .int .i64 0 ∧ wx = w)
  case atStart => exact ⟨rfl, rfl⟩
  obtain ⟨rfl, rfl⟩ := hrel
  go_wp2
  go_end0
  exact ⟨⟨_, rfl⟩, But.refl _ _⟩
 injection h' with h1 h2 h3
 subst h1; subst h3
 have hs := (Sl.own h).small
 have HO := Lib.hid h
 clear h
 generalize hn : l.length = n at *
 replace hn := Lib.hid hn
 go_enter Tryz.func42, Tryz.ntmps42
 go_wp2
 go_loopg [2] n (fun gh i wx => gh ≤ n ∧ i = .int .i64 ((n - gh : Nat) : Int) ∧ ∃ xs, wx.ownsRow base 82 6 (.slice (some ⟨g, 0, none⟩) n c) n xs ∧ But (fun k => ∃ o s, some (⟨g, 0, none⟩ : Addr) = some ⟨k, o, s⟩) w wx)
 case atStart => exact ⟨Nat.le_refl _, by simp, _, HO.out, But.refl _ _⟩
 obtain ⟨hg, hi, xs, hw, hb⟩ := hrel
 have hl := hw.1
 have HW := Lib.hid hw
 have HBB := Lib.hid hb
 obtain ⟨k, hk⟩ : ∃ k, k = n - gk := ⟨_, rfl⟩
 rw [← hk] at hi
 subst hi
 by_cases hz : gk = 0
 ·have hkn : ¬ (k : Int) < n := by omega
  clear hw hb hl hg hk hz
  go_wp2
  go_end0
  exact ⟨⟨_, rfl⟩, by first | exact HBB.out | (have h := HBB.out; simpa using h)⟩
 have hkn : (k : Int) < n := by omega
 have c0 := (hw.cellAt (k * 6) (by omega)).trans (List.getElem?_eq_getElem (by omega))
 have f0 := hw.frozenAt (k * 6)
 have c1 := (hw.cellAt (k * 6 + 1) (by omega)).trans (List.getElem?_eq_getElem (by omega))
 have f1 := hw.frozenAt (k * 6 + 1)
 have c2 := (hw.cellAt (k * 6 + 2) (by omega)).trans (List.getElem?_eq_getElem (by omega))
 have f2 := hw.frozenAt (k * 6 + 2)
 have c3 := (hw.cellAt (k * 6 + 3) (by omega)).trans (List.getElem?_eq_getElem (by omega))
 have f3 := hw.frozenAt (k * 6 + 3)
 have c4 := (hw.cellAt (k * 6 + 4) (by omega)).trans (List.getElem?_eq_getElem (by omega))
 have f4 := hw.frozenAt (k * 6 + 4)
 have c5 := (hw.cellAt (k * 6 + 5) (by omega)).trans (List.getElem?_eq_getElem (by omega))
 have f5 := hw.frozenAt (k * 6 + 5)
 generalize xs[k * 6] = u0 at c0
 generalize xs[k * 6 + 1] = u1 at c1
 generalize xs[k * 6 + 2] = u2 at c2
 generalize xs[k * 6 + 3] = u3 at c3
 generalize xs[k * 6 + 4] = u4 at c4
 generalize xs[k * 6 + 5] = u5 at c5
 have HK := Lib.hid (And.intro hk (And.intro hg hz))
 clear hw hb hl hk hg hz
 go_wp2
 go_roundg (gk - 1)
 case measure => have := HK.out; omega
 exact ⟨by have := HK.out; omega, num_eq (by have := HK.out; omega), _, ((((((((((((HW.out).stored (k * 6) (.int .i64 (-77))).1).stored (k * 6 + 1) (.int .i64 0)).1).stored (k * 6 + 2) (.int .i64 0)).1).stored (k * 6 + 3) (.int .i64 0)).1).stored (k * 6 + 4) (.int .i64 0)).1).stored (k * 6 + 5) (.int .u64 0)).1, ((((((((((((HBB.out).setCell (p := ⟨g, k * 6, none⟩) ⟨0, none, rfl⟩ _)).setCell (p := ⟨g, k * 6 + 1, none⟩) ⟨0, none, rfl⟩ _)).setCell (p := ⟨g, k * 6 + 2, none⟩) ⟨0, none, rfl⟩ _)).setCell (p := ⟨g, k * 6 + 3, none⟩) ⟨0, none, rfl⟩ _)).setCell (p := ⟨g, k * 6 + 4, none⟩) ⟨0, none, rfl⟩ _)).setCell (p := ⟨g, k * 6 + 5, none⟩) ⟨0, none, rfl⟩ _)⟩
end
section
open Go.RowKit
theorem leave_ok {T S N : Int} (h : PoolOk T S) (hN : Word N) (he : leaE T S N = 0) :
  0 < N ∧ N ≤ S ∧ leaT T S N = T - leaN T S N ∧ leaS T S N = S - N ∧ 0 < leaN T S N ∧ leaN T S N ≤ N ∧ leaN T S N ≤ T ∧ PoolOk (T - leaN T S N) (S - N) ∧ 0 < S ∧ S * leaN T S N ≤ N * T ∧ N * T < S * leaN T S N + S := by
 have h1 : leaT T S N = T - worV T S N := if_pos he
 have h2 : leaS T S N = S - N := if_pos he
 have h3 : leaN T S N = worV T S N := if_pos he
 rw [h1, h2, h3]
 unfold leaE at he
 rw [if_pos h.chk] at he
 have c1 : ¬ S < N := by intro hh; rw [if_pos hh] at he; omega
 rw [if_neg c1] at he
 have c2 : ¬ worV T S N = 0 := by intro hh; rw [if_pos hh] at he; omega
 obtain ⟨w0, w1⟩ := worV_le h.wt h.ws hN (by omega)
 obtain ⟨N0, N1⟩ := hN
 obtain ⟨a1, a2, a3, a4, a5⟩ := h
 have hS : ¬ S = 0 := by intro hh; unfold worV at c2; rw [if_pos hh] at c2; exact c2 rfl
 have hSp : 0 < S := by omega
 have hT : 0 < T := by
  rcases Int.lt_or_le 0 T with h | h
  ·exact h
  exact absurd (a5 (by omega)) hS
 have hle : N * T / S ≤ T := by
  refine Int.ediv_le_of_le_mul hSp ?_
  rw [Int.mul_comm T S]
  exact Int.mul_le_mul_of_nonneg_right (by omega) a1
 have e : worV T S N = N * T / S := by
  unfold worV mdN; rw [if_neg hS, if_neg hS, if_pos (by omega)]
 have f1 : S * worV T S N ≤ N * T := by rw [e]; exact fl_le hSp
 have f2 : N * T < S * worV T S N + S := by rw [e]; exact fl_lt hSp
 generalize worV T S N = V at *
 have hVN : V ≤ N := by
  rcases Int.lt_or_le N V with hh | hh
  ·have g1 : S * (N + 1) ≤ S * V := Int.mul_le_mul_of_nonneg_left (by omega) (by omega)
   have g2 : N * T ≤ N * S := Int.mul_le_mul_of_nonneg_left a2 N0
   rw [Int.mul_add, Int.mul_one, Int.mul_comm S N] at g1
   omega
  exact hh
 have hlast : T - V ≤ S - N := by
  rcases Int.lt_or_le (S - N) (T - V) with hh | hh
  ·have g1 : S * (S - N + 1) ≤ S * (T - V) := Int.mul_le_mul_of_nonneg_left (by omega) (by omega)
   have g2 : (S - N) * T ≤ (S - N) * S := Int.mul_le_mul_of_nonneg_left a2 (by omega)
   rw [Int.mul_sub] at g1
   rw [Int.sub_mul, Int.sub_mul] at g2
   rw [Int.mul_add, Int.mul_sub, Int.mul_one, Int.mul_comm S N] at g1
   omega
  exact hh
 have hzero : T - V = 0 → S - N = 0 := by
  intro hh
  have hv : V = T := by omega
  subst hv
  rcases Int.lt_or_le N S with hlt | hge
  ·have g : (N + 1) * V ≤ S * V := Int.mul_le_mul_of_nonneg_right (by omega) (by omega)
   rw [Int.add_mul, Int.one_mul] at g
   omega
  omega
 have hN0 : 0 < N := by omega
 exact ⟨hN0, by omega, rfl, rfl, by omega, hVN, w1, ⟨by omega, hlast, by omega, by omega, hzero⟩, hSp, f1, f2⟩
theorem Off.wf {w w' : World} {g o q : Nat} (h : Off w g o q) (hx : WF g o w w') : Off w' g o q :=
 ⟨by have := h.1; have := hx.but.size; omega, by have := h.2.1; have := hx.but.size; omega, fun hs => h.2.2 (hx.row q h.2.1 hs)⟩
theorem SlB.bel {B G : Nat} {w w' : World} {sz n c : Nat} {A : Option Addr} {xs : List Value} (h : SlB B w sz A n c xs) (hx : Below G w w') (hb : B ≤ G) : SlB B w' sz A n c xs := by
 refine ⟨⟨h.1.1, h.1.2.1, h.1.2.2.1, fun hn => ?_⟩, h.2⟩
 obtain ⟨b, o, e, hlt, hc⟩ := h.1.at_ hn
 have h2 := h.2 hn b o none e
 exact ⟨b, o, e, by have := hx.size; omega, fun j u hu => (hx.cell (p := ⟨b, o + j, none⟩) (show b < G by omega)).trans (hc j u hu)⟩
theorem Ext.bel {a b c : World} {g : Nat} (h : Ext a b) (k : Below g b c) (hg : a.heap.size ≤ g) : Ext a c := Below.trans h (k.mono hg)
end
section
open Go.RowKit Go.ChangeShapes Go.WideShapes Go.Deep Go.Joins
theorem kOverLosses_own (A : Option Addr) (c : Nat) (l : List I5) (base : Nat) (w : World) (h : OwnLoss w base (.slice A l.length c) l.length l) :
  Calls Tryz.prog 20 #[.slice A l.length c] w fun r w' => (∃ v, r = .returned v) ∧ But (fun k => ∃ o s, A = some ⟨k, o, s⟩) w w' := by
 rcases h.2 with ⟨h', h0⟩ | ⟨g, cap, cur, h', hbg, _⟩
 ·injection h' with h1 h2 h3
  subst h1; subst h3
  rw [h2]
  clear h
  go_enter Tryz.func20, Tryz.ntmps20
  go_wp2
  go_loopg [2] 0 (fun gh i wx => i = .int .i64 0 ∧ wx = w)
  case atStart => exact ⟨rfl, rfl⟩
  obtain ⟨rfl, rfl⟩ := hrel
  go_wp2
  go_end0
  exact ⟨⟨_, rfl⟩, But.refl _ _⟩
 injection h' with h1 h2 h3
 subst h1; subst h3
 have hs := (Sl.own h).small
 have HO := Lib.hid h
 clear h
 generalize hn : l.length = n at *
 replace hn := Lib.hid hn
 go_enter Tryz.func20, Tryz.ntmps20
 go_wp2
 go_loopg [2] n (fun gh i wx => gh ≤ n ∧ i = .int .i64 ((n - gh : Nat) : Int) ∧ ∃ xs, wx.ownsRow base 73 5 (.slice (some ⟨g, 0, none⟩) n c) n xs ∧ But (fun k => ∃ o s, some (⟨g, 0, none⟩ : Addr) = some ⟨k, o, s⟩) w wx)
 case atStart => exact ⟨Nat.le_refl _, by simp, _, HO.out, But.refl _ _⟩
 obtain ⟨hg, hi, xs, hw, hb⟩ := hrel
 have hl := hw.1
 have HW := Lib.hid hw
 have HBB := Lib.hid hb
 obtain ⟨k, hk⟩ : ∃ k, k = n - gk := ⟨_, rfl⟩
 rw [← hk] at hi
 subst hi
 by_cases hz : gk = 0
 ·have hkn : ¬ (k : Int) < n := by omega
  clear hw hb hl hg hk hz
  go_wp2
  go_end0
  exact ⟨⟨_, rfl⟩, by first | exact HBB.out | (have h := HBB.out; simpa using h)⟩
 have hkn : (k : Int) < n := by omega
 have c0 := (hw.cellAt (k * 5) (by omega)).trans (List.getElem?_eq_getElem (by omega))
 have f0 := hw.frozenAt (k * 5)
 have c1 := (hw.cellAt (k * 5 + 1) (by omega)).trans (List.getElem?_eq_getElem (by omega))
 have f1 := hw.frozenAt (k * 5 + 1)
 have c2 := (hw.cellAt (k * 5 + 2) (by omega)).trans (List.getElem?_eq_getElem (by omega))
 have f2 := hw.frozenAt (k * 5 + 2)
 have c3 := (hw.cellAt (k * 5 + 3) (by omega)).trans (List.getElem?_eq_getElem (by omega))
 have f3 := hw.frozenAt (k * 5 + 3)
 have c4 := (hw.cellAt (k * 5 + 4) (by omega)).trans (List.getElem?_eq_getElem (by omega))
 have f4 := hw.frozenAt (k * 5 + 4)
 generalize xs[k * 5] = u0 at c0
 generalize xs[k * 5 + 1] = u1 at c1
 generalize xs[k * 5 + 2] = u2 at c2
 generalize xs[k * 5 + 3] = u3 at c3
 generalize xs[k * 5 + 4] = u4 at c4
 have HK := Lib.hid (And.intro hk (And.intro hg hz))
 clear hw hb hl hk hg hz
 go_wp2
 go_roundg (gk - 1)
 case measure => have := HK.out; omega
 exact ⟨by have := HK.out; omega, num_eq (by have := HK.out; omega), _, ((((((((((HW.out).stored (k * 5) (.int .i64 0)).1).stored (k * 5 + 1) (.int .i64 0)).1).stored (k * 5 + 2) (.int .i64 0)).1).stored (k * 5 + 3) (.int .i64 0)).1).stored (k * 5 + 4) (.int .u64 777777777)).1, ((((((((((HBB.out).setCell (p := ⟨g, k * 5, none⟩) ⟨0, none, rfl⟩ _)).setCell (p := ⟨g, k * 5 + 1, none⟩) ⟨0, none, rfl⟩ _)).setCell (p := ⟨g, k * 5 + 2, none⟩) ⟨0, none, rfl⟩ _)).setCell (p := ⟨g, k * 5 + 3, none⟩) ⟨0, none, rfl⟩ _)).setCell (p := ⟨g, k * 5 + 4, none⟩) ⟨0, none, rfl⟩ _)⟩
end
section
open Go.RowKit
theorem run_app_sl {P : Program} (w : World) (base : Nat) (t ty e : TypeId) (i : TypeInfo) (z : Value) (size bytes : Nat) (ht : P.underlying t = some (.slice e)) (hi : P.info? e = some i) (hz : i.zero = some z)
  (hsize : i.size = size) (hby : i.bytes = bytes) (hzs : z.cells.size = size) (hsz : 0 < size)
  (v : Value) (n : Nat) (xs : List Value) (hown : w.ownsRow base e size v n xs) (A : Option Addr) (m c : Nat) (news : List Value) (hS : Sl w size A m c news) (h1 : ∀ u ∈ news, u.oneCell' = true)
  (hn : n + m < 1099511627776) (hb128 : bytes ≤ 127) (hbase : base ≤ w.heap.size) :
  ∃ v' w', (Builtin.append_ #[t, t] ty #[v, .slice A m c]).run P w = .ok v' w' ∧ w'.ownsRow base e size v' (n + m) (xs ++ news) ∧ But (fun k => v.ownBlock = some k) w w' ∧ (∀ k, v'.ownBlock = some k → v.ownBlock = some k ∨ w.heap.size ≤ k) := by
 have hby2 : (n + m) * bytes ≤ 140737488355328 := by
  have : (n + m) * bytes ≤ 1099511627776 * 127 := Nat.mul_le_mul (by omega) hb128
  omega
 have h63 : n + m ≤ maxLen := by simp [maxLen]; omega
 rcases A with _ | ad
 ·have hm : m = 0 := by
   rcases Nat.eq_zero_or_pos m with h0 | h0
   ·exact h0
   obtain ⟨_, _, hh, _⟩ := hS.at_ h0
   cases hh
  subst hm
  have hnw : news = [] := hS.drop0
  subst hnw
  exact ⟨v, w, run_append_none (P := P) w base t ty e i size ht hi v n xs hown c, by simpa using hown, But.refl _ _, fun k hk => .inl hk⟩
 have hcells : ∀ j u, news[j]? = some u → w.cell? (ad.add j) = some u := by
  intro j u hu
  rcases Nat.eq_zero_or_pos m with h0 | h0
  ·subst h0
   rw [hS.drop0] at hu
   simp at hu
  obtain ⟨b, o', hh, _, hc⟩ := hS.at_ h0
  injection hh with hh
  subst hh
  rw [addr_add]
  exact hc j u hu
 obtain ⟨v', w', hr, g2, g3, _, g5⟩ := run_append_own_at (P := P) w base t ty e i z size bytes ht hi hz hsize hby hzs hsz v n xs hown ad m c news hS.len hcells h1 h63 hby2 hbase
 refine ⟨v', w', hr, g2, But.ofGrown g3, fun k hk => ?_⟩
 rcases g5 with g5 | g5
 ·left; rw [← g5]; exact hk
 right; rw [g5] at hk; injection hk with hk; omega
theorem oper_app {P : Program} {o : Oper} {a : Act} (w : World) {K : Act → World → Prop} {Q : Exit → Act → World → Prop} (s x : Operand) (t : TypeId) (ho : o.op = .call { callee := .builtin .append, args := #[s, x], argTypes := #[t, t] })
  (base : Nat) (e : TypeId) (i : TypeInfo) (z : Value) (size bytes : Nat) (ht : P.underlying t = some (.slice e)) (hi : P.info? e = some i) (hz : i.zero = some z)
  (hsize : i.size = size) (hby : i.bytes = bytes) (hzs : z.cells.size = size) (hsz : 0 < size)
  (v : Value) (n : Nat) (xs : List Value) (hs : a.eval s = v) (hown : w.ownsRow base e size v n xs) (A : Option Addr) (m c : Nat) (news : List Value) (hx : a.eval x = .slice A m c) (hS : Sl w size A m c news) (h1 : ∀ u ∈ news, u.oneCell' = true)
  (hn : n + m < 1099511627776) (hb128 : bytes ≤ 127) (hbase : base ≤ w.heap.size)
  (h : ∀ v' w', w'.ownsRow base e size v' (n + m) (xs ++ news) → But (fun k => v.ownBlock = some k) w w' → (∀ k, v'.ownBlock = some k → v.ownBlock = some k ∨ w.heap.size ≤ k) → K (a.put o.dst v') w') : Oper.wp P o a w K Q := by
 obtain ⟨v', w', hr, h2, h3, h4⟩ := run_app_sl (P := P) w base t o.type e i z size bytes ht hi hz hsize hby hzs hsz v n xs hown A m c news hS h1 hn hb128 hbase
 unfold Oper.wp execOp
 simp only [ho, resolve, invoke, builtin, Sem.run_bind, Sem.run_pure, Result.andThen_ok, List.map_toArray, List.map_cons, List.map_nil, hs, hx, hr]
 exact h v' w' h2 h3 h4
end
section
open Go.RowKit Go.ChangeShapes Go.WideShapes Go.Deep Go.Joins
def doeV (cl ps : List I6) (k o V S P Q v h n : Int) : List I6 × List I6 × Int × List I5 × Int :=
 if k = 0 then ((hjoiV cl ps o V S P Q n).1, (hjoiV cl ps o V S P Q n).2.1, (hjoiV cl ps o V S P Q n).2.2.1, [], (hjoiV cl ps o V S P Q n).2.2.2)
 else if k = 1 then ((hleaV cl ps o V S P Q n).1, (hleaV cl ps o V S P Q n).2.1, (hleaV cl ps o V S P Q n).2.2.1, [], (hleaV cl ps o V S P Q n).2.2.2)
 else if k = 2 then ((hcutV cl ps v h n).1, (hcutV cl ps v h n).2.1, (hcutV cl ps v h n).2.2.2.1, (hcutV cl ps v h n).2.2.1, (hcutV cl ps v h n).2.2.2.2)
 else (cl, ps, 0, [], 0)
theorem does13_leave (c c2 : Nat) (A A2 : Option Addr) (cl ps : List I6) (k o V S P Q v h n : Int) (C P' : List I6) (N E : Int) (L : List I5) (w : World) (hs : Sl w 6 A cl.length c (cl.flatMap clsC)) (hs2 : Sl w 6 A2 ps.length c2 (ps.flatMap posC)) (hn : cl.length < 1099511627776) (hn2 : ps.length < 1099511000) (hA : A = none → c = 0) (hA2 : A2 = none → c2 = 0) (hw : ∀ x ∈ cl, WdC x) (hw2 : ∀ x ∈ ps, WdP x) (hwn : Word n) (hk : k = 1) (hR : (C, P', N, E) = hleaV cl ps o V S P Q n) (hL : L = []) :
  Calls Tryz.prog 16 #[.agg #[.slice A cl.length c, .slice A2 ps.length c2], .agg #[.int .i64 k, .int .i64 o, .int .i64 V, .int .i64 S, .int .i64 P, .int .i64 Q, .int .i64 v, .int .i64 h, .int .u64 n]] w (RetD C P' N L E w) := by
 have C1 := Lib.hid (fun (w' : World) (hx : Ext w w') => (hLeave_any c c2 A A2 cl ps o V S P Q n w' (hs.ext hx) (hs2.ext hx) hn (by omega) hA hA2 hw hw2 hwn).mono (fun e w'' H => RetJ.ex (C := C) (P := P') (N := N) (E := E) (by rw [hR]; exact H)))
 subst hk
 subst hL
 clear hs hs2 hw hw2 hwn hR
 go_enter Tryz.func16, Tryz.ntmps16
 go_wp2_with fail
 (with_reducible refine (C1.out _ zxt).mono ?_)
 rintro e w1 ⟨B, d, B2, d2, rfl, hO, hP, hx1⟩
 have c2_0f : w1.frozen? ⟨w.heap.size + 1 + 1, 0, none⟩ = false := hx1.froz (v := .slice none 0 0) zcv zcv
 have c2_1f : w1.frozen? ⟨w.heap.size + 1 + 1, 1, none⟩ = false := hx1.froz (v := .slice none 0 0) zcv zcv
 have c2_0 : w1.cell? ⟨w.heap.size + 1 + 1, 0, none⟩ = some (.slice none 0 0) := hx1.has zcv
 have c2_1 : w1.cell? ⟨w.heap.size + 1 + 1, 1, none⟩ = some (.slice none 0 0) := hx1.has zcv
 have z1 := hx1.size
 try simp at z1
 have rc2 := zr (w.heap.size + 1 + 1) w1
 have X1 : Hid (Ext w w1) := Lib.hid (Ext.trans zxt hx1)
 have HO := Lib.hid (show OwnCls _ w.heap.size _ _ _ from own_lower hO zSlTac1_2)
 have HP := Lib.hid (show OwnPos _ w.heap.size _ _ _ from own_lower hP zSlTac1_2)
 clear hx1
 have HOw := Lib.hid (own_lower hO (show w.heap.size + 3 ≤ _ from zSlTac1_2))
 have HPw := Lib.hid (own_lower hP (show w.heap.size + 3 ≤ _ from zSlTac1_2))
 clear hO hP
 go_wp2_with fail
 refine bodyPost_ret (v := .tuple #[.agg #[.slice B C.length d, .slice B2 P'.length d2], .int .u64 N, .slice none 0 0, .int .i64 E]) (by simp [results, Tryz.results16, go_sem, World.cell?_alloc_past, *]; try rfl) rfl (RetD.mk (L := []) (b := w.heap.size + 3) (by omega) (show World.ownsRow _ (w.heap.size + 3) _ _ _ _ _ from by repeat (first | exact HOw.out | with_reducible refine own_box ?_ (by omega) | refine own_keep ?_ (Ext.alloc (Ext.refl _) _))) (show World.ownsRow _ (w.heap.size + 3) _ _ _ _ _ from by repeat (first | exact HPw.out | with_reducible refine own_box ?_ (by omega) | refine own_keep ?_ (Ext.alloc (Ext.refl _) _))) (OwnLoss.nil _ _) zxt)
theorem does13_cut (c c2 : Nat) (A A2 : Option Addr) (cl ps : List I6) (k o V S P Q v h n : Int) (C P' : List I6) (N E : Int) (L : List I5) (w : World) (hs : Sl w 6 A cl.length c (cl.flatMap clsC)) (hs2 : Sl w 6 A2 ps.length c2 (ps.flatMap posC)) (hn : cl.length < 1099511627776) (hn2 : ps.length < 1099511000) (hA : A = none → c = 0) (hA2 : A2 = none → c2 = 0) (hw : ∀ x ∈ cl, WdC x) (hw2 : ∀ x ∈ ps, WdP x) (hwn : Word n) (hk : k = 2) (hR : (C, P', L, N, E) = hcutV cl ps v h n) :
  Calls Tryz.prog 16 #[.agg #[.slice A cl.length c, .slice A2 ps.length c2], .agg #[.int .i64 k, .int .i64 o, .int .i64 V, .int .i64 S, .int .i64 P, .int .i64 Q, .int .i64 v, .int .i64 h, .int .u64 n]] w (RetD C P' N L E w) := by
 have C1 := Lib.hid (fun (w' : World) (hx : Ext w w') => (hCut_any c c2 A A2 cl ps v h n w' (hs.ext hx) (hs2.ext hx) hn (by omega) hA hA2 hw hw2 hwn).mono (fun e w'' H => RetK.ex (C := C) (P := P') (N := N) (E := E) (by rw [hR]; exact H)))
 subst hk

 clear hs hs2 hw hw2 hwn hR
 go_enter Tryz.func16, Tryz.ntmps16
 go_wp2_with fail
 (with_reducible refine (C1.out _ zxt).mono ?_)
 rintro e w1 ⟨B, d, B2, d2, A9, c9, rfl, hO, hP, hL, hx1⟩
 have c2_0f : w1.frozen? ⟨w.heap.size + 1 + 1, 0, none⟩ = false := hx1.froz (v := .slice none 0 0) zcv zcv
 have c2_1f : w1.frozen? ⟨w.heap.size + 1 + 1, 1, none⟩ = false := hx1.froz (v := .slice none 0 0) zcv zcv
 have c2_0 : w1.cell? ⟨w.heap.size + 1 + 1, 0, none⟩ = some (.slice none 0 0) := hx1.has zcv
 have c2_1 : w1.cell? ⟨w.heap.size + 1 + 1, 1, none⟩ = some (.slice none 0 0) := hx1.has zcv
 have z1 := hx1.size
 try simp at z1
 have rc2 := zr (w.heap.size + 1 + 1) w1
 have X1 : Hid (Ext w w1) := Lib.hid (Ext.trans zxt hx1)
 have HO := Lib.hid (show OwnCls _ w.heap.size _ _ _ from own_lower hO zSlTac1_2)
 have HP := Lib.hid (show OwnPos _ w.heap.size _ _ _ from own_lower hP zSlTac1_2)
 have HL := Lib.hid (show OwnLoss _ w.heap.size _ _ _ from own_lower hL zSlTac1_2)
 clear hx1
 have HOw := Lib.hid (own_lower hO (show w.heap.size + 3 ≤ _ from zSlTac1_2))
 have HPw := Lib.hid (own_lower hP (show w.heap.size + 3 ≤ _ from zSlTac1_2))
 have HLw := Lib.hid (own_lower hL (show w.heap.size + 3 ≤ _ from zSlTac1_2))
 clear hO hP hL
 go_wp2_with fail
 refine bodyPost_ret (v := .tuple #[.agg #[.slice B C.length d, .slice B2 P'.length d2], .int .u64 N, .slice A9 L.length c9, .int .i64 E]) (by simp [results, Tryz.results16, go_sem, World.cell?_alloc_past, *]; try rfl) rfl (RetD.mk (L := L) (b := w.heap.size + 3) (by omega) (show World.ownsRow _ (w.heap.size + 3) _ _ _ _ _ from by repeat (first | exact HOw.out | with_reducible refine own_box ?_ (by omega) | refine own_keep ?_ (Ext.alloc (Ext.refl _) _))) (show World.ownsRow _ (w.heap.size + 3) _ _ _ _ _ from by repeat (first | exact HPw.out | with_reducible refine own_box ?_ (by omega) | refine own_keep ?_ (Ext.alloc (Ext.refl _) _))) (show World.ownsRow _ (w.heap.size + 3) _ _ _ _ _ from by repeat (first | exact HLw.out | with_reducible refine own_box ?_ (by omega) | refine own_keep ?_ (Ext.alloc (Ext.refl _) _))) zxt)
theorem does13_none (c c2 : Nat) (A A2 : Option Addr) (cl ps : List I6) (k o V S P Q v h n : Int) (C P' : List I6) (N E : Int) (L : List I5) (w : World) (hs : Sl w 6 A cl.length c (cl.flatMap clsC)) (hs2 : Sl w 6 A2 ps.length c2 (ps.flatMap posC)) (hn : cl.length < 1099511627776) (hn2 : ps.length < 1099511000) (hA : A = none → c = 0) (hA2 : A2 = none → c2 = 0) (hw : ∀ x ∈ cl, WdC x) (hw2 : ∀ x ∈ ps, WdP x) (hwn : Word n) (hk : k ≠ 0 ∧ k ≠ 1 ∧ k ≠ 2) :
  Calls Tryz.prog 16 #[.agg #[.slice A cl.length c, .slice A2 ps.length c2], .agg #[.int .i64 k, .int .i64 o, .int .i64 V, .int .i64 S, .int .i64 P, .int .i64 Q, .int .i64 v, .int .i64 h, .int .u64 n]] w fun r w' => r = .returned (.tuple #[.agg #[.slice A cl.length c, .slice A2 ps.length c2], .int .u64 0, .slice none 0 0, .int .i64 0]) ∧ Ext w w' := by
 have k0 : (k == 0) = false := by simpa using hk.1
 have k1 : (k == 1) = false := by simpa using hk.2.1
 have k2 : (k == 2) = false := by simpa using hk.2.2
 clear hs hs2 hw hw2 hwn
 go_enter Tryz.func16, Tryz.ntmps16
 go_wp2_with fail
 refine bodyPost_ret (v := .tuple #[.agg #[.slice A cl.length c, .slice A2 ps.length c2], .int .u64 0, .slice none 0 0, .int .i64 0]) (by simp [results, Tryz.results16, go_sem, World.cell?_alloc_past]; try rfl) rfl ⟨rfl, zxt⟩
end
section
open Go.RowKit
theorem getK_self {l : List I6} {c : I6} (hs : SortK kC l) (hc : c ∈ l) : getK kC l (kC c) = some c := by
 obtain ⟨y, hy⟩ := Option.isSome_iff_exists.1 (getK_mem_some (key := kC) hc)
 obtain ⟨hm, hk⟩ := getK_mem hy
 obtain ⟨i, hi⟩ := List.getElem?_of_mem hc
 obtain ⟨j, hj⟩ := List.getElem?_of_mem hm
 have hij := sort_inj hs hi hj hk.symm
 subst hij
 rw [hi] at hj
 rw [hy, Option.some.inj hj]
theorem shO_if (q : List Int) : ∀ ps : List I6, shO ps q = addF (fun p => if stP p = q then shP p else 0) ps
 | [] => rfl
 | p :: ps => by
  have ih := shO_if q ps
  unfold shO at ih ⊢
  rw [List.filter_cons, addF_cons, ← ih]
  by_cases h : stP p = q
  ·rw [if_pos (by simpa using h), if_pos h, addF_cons]
  ·rw [if_neg (by simpa using h), if_neg h]
   omega
theorem stP_key {x : I6} {o V S P F : Int} (h : kP x = [o, V, S, P, F]) : x.1 = o ∧ stP x = [V, S, P, F] := by
 have e : kP x = x.1 :: stP x := rfl
 rw [e] at h
 injection h with h1 h2
 exact ⟨h1, h2⟩
theorem optP_sh (q : List Int) (o V S P F n : Int) : optF (fun p => if stP p = q then shP p else 0) (optP o V S P F n) = if q = [V, S, P, F] then n else 0 := by
 unfold optP
 by_cases hn : n = 0
 ·rw [if_pos hn, hn]
  show 0 = _
  split <;> rfl
 rw [if_neg hn]
 show (if [V, S, P, F] = q then n else 0) = _
 by_cases hq : q = [V, S, P, F]
 ·rw [if_pos hq, if_pos hq.symm]
 rw [if_neg hq, if_neg (fun h => hq h.symm)]
theorem posSet_sh {ps : List I6} (hs : SortK kP ps) (q : List Int) (o V S P F n : Int) : shO (posSet ps o V S P F n) q = shO ps q + if q = [V, S, P, F] then n - hasV ps [o, V, S, P, F] else 0 := by
 have h := sum_lay kP_len (fun p => if stP p = q then shP p else 0) (show [o, V, S, P, F].length = 5 from rfl) (o := optP o V S P F n) hs
 rw [optP_sh] at h
 rw [shO_if, shO_if]
 unfold posSet hasV
 cases hg : getK kP ps [o, V, S, P, F] with
 | none =>
  rw [hg] at h
  change _ + 0 = _ at h
  show _ = _ + if q = [V, S, P, F] then n - 0 else 0
  by_cases hq : q = [V, S, P, F]
  ·rw [if_pos hq] at h ⊢
   omega
  rw [if_neg hq] at h ⊢
  omega
 | some x =>
  rw [hg] at h
  obtain ⟨_, hk⟩ := getK_mem hg
  have hst := (stP_key hk).2
  change _ + (if stP x = q then shP x else 0) = _ at h
  show _ = _ + if q = [V, S, P, F] then n - shP x else 0
  rw [hst] at h
  by_cases hq : q = [V, S, P, F]
  ·rw [if_pos hq] at h ⊢
   rw [if_pos hq.symm] at h
   omega
  rw [if_neg hq] at h ⊢
  rw [if_neg (fun h => hq h.symm)] at h
  omega
theorem clsSet_get {cl : List I6} (hs : SortK kC cl) (V S P F T H : Int) (q' : List Int) : getK kC (clsSet cl V S P F T H) q' = if q' = [V, S, P, F] then optC V S P F T H else getK kC cl q' := by
 unfold clsSet
 refine get_lay kC_len rfl (fun y hy => ?_) hs
 unfold optC at hy
 split at hy
 ·cases hy
 rw [← Option.some.inj hy]
 rfl
theorem optC_to (V S P F T H : Int) : optF toC (optC V S P F T H) = if T = 0 ∧ H = 0 then 0 else T := by
 unfold optC
 split <;> rfl
theorem clsSet_tot {cl : List I6} (hs : SortK kC cl) (V S P F T H : Int) : totC (clsSet cl V S P F T H) = totC cl - fndT cl [V, S, P, F] + T := by
 have h := sum_lay kC_len toC (show [V, S, P, F].length = 4 from rfl) (o := optC V S P F T H) hs
 rw [optC_to] at h
 unfold totC fndT clsSet
 split at h <;> omega
theorem set_HOk {cl ps : List I6} {o V S P F T H n : Int} (hk : HOk cl ps) (hw : ∀ c ∈ cl, WdC c) (hw2 : ∀ p ∈ ps, WdP p) (ho : 0 ≤ o ∧ o < 64) (hst : chkS V S P F = 0) (hp : PoolOk T H) (hn : Word n)
  (hsum : H = fndS cl [V, S, P, F] + (n - hasV ps [o, V, S, P, F])) (hlen : (getK kC cl [V, S, P, F]).isNone = true → cl.length < 1024) (htot : totC cl - fndT cl [V, S, P, F] + T ≤ 4611686018427387904) :
  HOk (clsSet cl V S P F T H) (posSet ps o V S P F n) ∧ (∀ c ∈ clsSet cl V S P F T H, WdC c) ∧ (∀ p ∈ posSet ps o V S P F n, WdP p) := by
 have wC : ∀ c ∈ clsSet cl V S P F T H, c ∈ cl ∨ optC V S P F T H = some c := fun c hc => mem_lay hc
 have wP : ∀ p ∈ posSet ps o V S P F n, p ∈ ps ∨ optP o V S P F n = some p := fun p hc => mem_lay hc
 have oC : ∀ c, optC V S P F T H = some c → c = (V, S, P, F, T, H) ∧ ¬ (T = 0 ∧ H = 0) := fun c hc => by
  unfold optC at hc
  split at hc
  ·cases hc
  exact ⟨(Option.some.inj hc).symm, by assumption⟩
 have oP : ∀ p, optP o V S P F n = some p → p = (o, V, S, P, F, n) ∧ n ≠ 0 := fun p hc => by
  unfold optP at hc
  split at hc
  ·cases hc
  exact ⟨(Option.some.inj hc).symm, by assumption⟩
 have W1 : ∀ c ∈ clsSet cl V S P F T H, WdC c := fun c hc => by
  rcases wC c hc with h | h
  ·exact hw c h
  rw [(oC c h).1]; exact ⟨hp.wt, hp.ws⟩
 have W2 : ∀ p ∈ posSet ps o V S P F n, WdP p := fun p hc => by
  rcases wP p hc with h | h
  ·exact hw2 p h
  rw [(oP p h).1]; exact hn
 have sC : SortK kC (clsSet cl V S P F T H) := sort_lay kC_len rfl (fun y hy => by rw [(oC y hy).1]; rfl) hk.sc
 have sP : SortK kP (posSet ps o V S P F n) := sort_lay kP_len rfl (fun y hy => by rw [(oP y hy).1]; rfl) hk.sp
 have hS : ∀ q, shO (posSet ps o V S P F n) q = if q = [V, S, P, F] then H else shO ps q := fun q => by
  rw [posSet_sh hk.sp]
  by_cases hq : q = [V, S, P, F]
  ·rw [if_pos hq, if_pos hq, hq, hk.fnd]
   omega
  rw [if_neg hq, if_neg hq]
  omega
 have le : ∀ p ∈ posSet ps o V S P F n, shP p ≤ shO (posSet ps o V S P F n) (stP p) := fun p hc =>
  addF_mem (f := shP) (fun y hy => (W2 y (List.mem_filter.1 hy).1).1) (List.mem_filter.2 ⟨hc, by simp⟩)
 have nz : ∀ p ∈ posSet ps o V S P F n, shP p ≠ 0 := fun p hc => by
  rcases wP p hc with h | h
  ·exact (hk.pos p h).2.1
  rw [(oP p h).1]; exact (oP p h).2
 refine ⟨⟨sC, sP, ?_, ?_, ?_, ?_, ?_⟩, W1, W2⟩
 ·have h := len_lay kC_len (show [V, S, P, F].length = 4 from rfl) (optC V S P F T H) hk.sc
  have h1 : (optC V S P F T H).toList.length ≤ 1 := by cases optC V S P F T H <;> simp
  have h2 := hk.len
  unfold clsSet
  cases hg : getK kC cl [V, S, P, F] with
  | none =>
   have := hlen (by rw [hg]; rfl)
   rw [hg] at h
   simp only [Option.toList_none, List.length_nil] at h
   omega
  | some x =>
   rw [hg] at h
   simp only [Option.toList_some, List.length_cons, List.length_nil] at h
   omega
 ·rw [clsSet_tot hk.sc]; exact htot
 ·intro c hc
  rcases wC c hc with h | h
  ·exact hk.cls c h
  obtain ⟨rfl, hz⟩ := oC c h
  exact ⟨hst, hp.chk, hz⟩
 ·intro p hc
  refine ⟨?_, nz p hc, ?_⟩
  ·rcases wP p hc with h | h
   ·exact (hk.pos p h).1
   rw [(oP p h).1]; exact ho
  rw [clsSet_get hk.sc]
  have h1 := le p hc
  have h2 := nz p hc
  have h3 := (W2 p hc).1
  by_cases hq : stP p = [V, S, P, F]
  ·rw [if_pos hq]
   rw [hS, if_pos hq] at h1
   unfold optC
   rw [if_neg (by omega)]
   rfl
  rw [if_neg hq]
  rcases wP p hc with h | h
  ·exact (hk.pos p h).2.2
  exact absurd (by rw [(oP p h).1]; rfl) hq
 intro c hc
 rw [hS]
 have h1 := getK_self sC hc
 rw [clsSet_get hk.sc] at h1
 by_cases hq : kC c = [V, S, P, F]
 ·rw [if_pos hq] at h1 ⊢
  rw [(oC c h1).1]
  rfl
 rw [if_neg hq] at h1 ⊢
 exact hk.sum c (getK_mem h1).1
theorem join_HOk {cl ps : List I6} {o V S P F a : Int} (hw : ∀ c ∈ cl, WdC c) (hw2 : ∀ p ∈ ps, WdP p) (ha : Word a) (hE : hjoiE cl ps o V S P F a = 0) :
  HOk cl ps ∧ HOk (hjoiV cl ps o V S P F a).1 (hjoiV cl ps o V S P F a).2.1 ∧ (∀ c ∈ (hjoiV cl ps o V S P F a).1, WdC c) ∧ (∀ p ∈ (hjoiV cl ps o V S P F a).2.1, WdP p) ∧ (hjoiV cl ps o V S P F a).1.length ≤ cl.length + 1 ∧ (hjoiV cl ps o V S P F a).2.1.length ≤ ps.length + 1 ∧ totC (hjoiV cl ps o V S P F a).1 = totC cl + a := by
 have hV : hjoiV cl ps o V S P F a = _ := if_pos hE
 unfold hjoiE at hE
 by_cases h0 : chkH cl ps = 0
 ·rw [if_neg (by simpa using h0)] at hE
  have hk := (chkH_iff cl ps).1 h0
  split at hE
  ·omega
  rename_i h1
  split at hE
  ·omega
  rename_i h2
  by_cases h3 : joiE (fndT cl [V, S, P, F]) (fndS cl [V, S, P, F]) a = 0
  ·rw [if_neg (by simpa using h3)] at hE
   split at hE
   ·omega
   rename_i h4
   have hP := hk.pool hw [V, S, P, F]
   obtain ⟨j0, jT, jS, jN, jP, _⟩ := join_ok hP ha h3
   obtain ⟨hl, hh⟩ := hasV_le hw2 o V S P F
   rw [hk.fnd] at hh
   rw [hV]
   simp only
   have hS2 := jP.sm
   have ht := clsSet_tot hk.sc V S P F (joiT (fndT cl [V, S, P, F]) (fndS cl [V, S, P, F]) a) (joiS (fndT cl [V, S, P, F]) (fndS cl [V, S, P, F]) a)
   rw [jT] at ht ⊢
   rw [jS] at ht ⊢
   have h5 : chkS V S P F = 0 := by
    by_cases hc : chkS V S P F = 0
    ·exact hc
    exact absurd (.inr hc) h1
   obtain ⟨A, B, C⟩ := set_HOk (o := o) (n := hasV ps [o, V, S, P, F] + joiN (fndT cl [V, S, P, F]) (fndS cl [V, S, P, F]) a) hk hw hw2 (by omega) h5 jP ⟨by omega, by omega⟩ (by omega) (fun hn => by
    rcases Nat.lt_or_ge cl.length 1024 with h | h
    ·exact h
    exact absurd ⟨hn, h⟩ h2) (by omega)
   refine ⟨hk, A, B, C, ?_, ?_, by omega⟩
   ·have := len_lay kC_len (show [V, S, P, F].length = 4 from rfl) (optC V S P F (fndT cl [V, S, P, F] + a) (fndS cl [V, S, P, F] + joiN (fndT cl [V, S, P, F]) (fndS cl [V, S, P, F]) a)) hk.sc
    unfold clsSet
    have h2 : (optC V S P F (fndT cl [V, S, P, F] + a) (fndS cl [V, S, P, F] + joiN (fndT cl [V, S, P, F]) (fndS cl [V, S, P, F]) a)).toList.length ≤ 1 := by
     generalize optC V S P F (fndT cl [V, S, P, F] + a) (fndS cl [V, S, P, F] + joiN (fndT cl [V, S, P, F]) (fndS cl [V, S, P, F]) a) = x
     cases x <;> simp
    omega
   have := len_lay kP_len (show [o, V, S, P, F].length = 5 from rfl) (optP o V S P F (hasV ps [o, V, S, P, F] + joiN (fndT cl [V, S, P, F]) (fndS cl [V, S, P, F]) a)) hk.sp
   unfold posSet
   have h2 : (optP o V S P F (hasV ps [o, V, S, P, F] + joiN (fndT cl [V, S, P, F]) (fndS cl [V, S, P, F]) a)).toList.length ≤ 1 := by
    generalize optP o V S P F (hasV ps [o, V, S, P, F] + joiN (fndT cl [V, S, P, F]) (fndS cl [V, S, P, F]) a) = x
    cases x <;> simp
   omega
  rw [if_pos h3] at hE
  exact absurd hE h3
 rw [if_pos h0] at hE
 exact absurd hE h0
theorem leave_HOk {cl ps : List I6} {o V S P F x : Int} (hw : ∀ c ∈ cl, WdC c) (hw2 : ∀ p ∈ ps, WdP p) (ha : Word x) (hE : hleaE cl ps o V S P F x = 0) :
  HOk cl ps ∧ HOk (hleaV cl ps o V S P F x).1 (hleaV cl ps o V S P F x).2.1 ∧ (∀ c ∈ (hleaV cl ps o V S P F x).1, WdC c) ∧ (∀ p ∈ (hleaV cl ps o V S P F x).2.1, WdP p) ∧ (hleaV cl ps o V S P F x).1.length ≤ cl.length + 1 ∧ (hleaV cl ps o V S P F x).2.1.length ≤ ps.length + 1 ∧ totC (hleaV cl ps o V S P F x).1 + (hleaV cl ps o V S P F x).2.2.1 = totC cl ∧ 0 ≤ (hleaV cl ps o V S P F x).2.2.1 := by
 have hV : hleaV cl ps o V S P F x = _ := if_pos hE
 unfold hleaE at hE
 by_cases h0 : chkH cl ps = 0
 ·rw [if_neg (by simpa using h0)] at hE
  have hk := (chkH_iff cl ps).1 h0
  by_cases h1 : hasV ps [o, V, S, P, F] = 0
  ·rw [if_pos h1] at hE
   omega
  rw [if_neg h1] at hE
  by_cases h2 : hasV ps [o, V, S, P, F] < x
  ·rw [if_pos h2] at hE
   omega
  rw [if_neg h2] at hE
  have hP := hk.pool hw [V, S, P, F]
  obtain ⟨j0, j1, jT, jS, jn, jn2, jt, jP, _⟩ := leave_ok hP ha hE
  obtain ⟨hl, hh⟩ := hasV_le hw2 o V S P F
  rw [hk.fnd] at hh
  have hS2 := hP.sm
  have hm := hk.tot
  have ht := clsSet_tot hk.sc V S P F (leaT (fndT cl [V, S, P, F]) (fndS cl [V, S, P, F]) x) (leaS (fndT cl [V, S, P, F]) (fndS cl [V, S, P, F]) x)
  rw [hV]
  simp only
  rw [jT, jS] at ht ⊢
  obtain ⟨p, hg⟩ : ∃ p, getK kP ps [o, V, S, P, F] = some p := by
   cases hg : getK kP ps [o, V, S, P, F] with
   | none => exact absurd (by unfold hasV; rw [hg]; rfl) h1
   | some p => exact ⟨p, rfl⟩
  obtain ⟨hpm, hpk⟩ := getK_mem hg
  obtain ⟨ho, hst⟩ := stP_key hpk
  have hgp := hk.pos p hpm
  obtain ⟨c, hc⟩ := Option.isSome_iff_exists.1 hgp.2.2
  rw [hst] at hc
  obtain ⟨hcm, hck⟩ := getK_mem hc
  have hcs := (hk.cls c hcm).1
  have hk4 : c.1 = V ∧ c.2.1 = S ∧ c.2.2.1 = P ∧ c.2.2.2.1 = F := by
   unfold kC at hck
   simpa using hck
  rw [hk4.1, hk4.2.1, hk4.2.2.1, hk4.2.2.2] at hcs
  obtain ⟨A, B, C⟩ := set_HOk (o := o) (n := hasV ps [o, V, S, P, F] - x) hk hw hw2 (by rw [← ho]; exact hgp.1) hcs jP ⟨by omega, by have := ha.1; omega⟩ (by omega) (fun hn => by rw [hc] at hn; cases hn) (by omega)
  refine ⟨hk, A, B, C, ?_, ?_, by omega, by omega⟩
  ·have := len_lay kC_len (show [V, S, P, F].length = 4 from rfl) (optC V S P F (fndT cl [V, S, P, F] - leaN (fndT cl [V, S, P, F]) (fndS cl [V, S, P, F]) x) (fndS cl [V, S, P, F] - x)) hk.sc
   unfold clsSet
   have h2 : (optC V S P F (fndT cl [V, S, P, F] - leaN (fndT cl [V, S, P, F]) (fndS cl [V, S, P, F]) x) (fndS cl [V, S, P, F] - x)).toList.length ≤ 1 := by
    generalize optC V S P F (fndT cl [V, S, P, F] - leaN (fndT cl [V, S, P, F]) (fndS cl [V, S, P, F]) x) (fndS cl [V, S, P, F] - x) = x
    cases x <;> simp
   omega
  have := len_lay kP_len (show [o, V, S, P, F].length = 5 from rfl) (optP o V S P F (hasV ps [o, V, S, P, F] - x)) hk.sp
  unfold posSet
  have h2 : (optP o V S P F (hasV ps [o, V, S, P, F] - x)).toList.length ≤ 1 := by
   generalize optP o V S P F (hasV ps [o, V, S, P, F] - x) = x
   cases x <;> simp
  omega
 rw [if_pos h0] at hE
 exact absurd hE h0
theorem cutC_some {v h p : Int} {c y : I6} (hP : PoolOk (toC c) (shC c)) (hg : GoodC c) (p0 : 0 ≤ p) (p1 : p ≤ 1000000000) (hy : cutC v h p c = some y) : GoodC y ∧ WdC y ∧ kC y = kC c ∧ shC y = shC c := by
 rcases Bool.eq_false_or_eq_true (bkC c v h) with hb | hb
 ·rw [cutC_hit hb] at hy
  obtain ⟨_, c1, c2, c3, c4, _, c5⟩ := cut_ok hP p0 p1
  unfold optC at hy
  split at hy
  ·cases hy
  rename_i hz
  obtain rfl := Option.some.inj hy
  rw [c3, c4] at hz
  have hne : ¬ toC c - cutN (toC c) (shC c) p = 0 := fun h0 => hz ⟨h0, if_pos h0⟩
  rw [if_neg hne] at c4 c5
  refine ⟨⟨hg.1, ?_, ?_⟩, ?_, rfl, c4⟩
  ·show chkE (cutT (toC c) (shC c) p) (cutS (toC c) (shC c) p) = 0
   rw [c3, c4]; exact c5.chk
  ·show ¬ (cutT (toC c) (shC c) p = 0 ∧ _)
   rw [c3]; exact fun h0 => hne h0.1
  show Word (cutT (toC c) (shC c) p) ∧ Word (cutS (toC c) (shC c) p)
  rw [c3, c4]; exact ⟨c5.wt, c5.ws⟩
 rw [cutC_skip hb] at hy
 obtain rfl := Option.some.inj hy
 exact ⟨hg, ⟨hP.wt, hP.ws⟩, rfl, rfl⟩
theorem cut_tot {v h p : Int} {l : List I6} (hl : ∀ c ∈ l, PoolOk (toC c) (shC c)) (p0 : 0 ≤ p) (p1 : p ≤ 1000000000) : totC (cutCs v h p l) + losN (losCs v h p l) = totC l := by
 induction l with
 | nil => rfl
 | cons c l ih =>
  have i := ih (fun c hc => hl c (List.mem_cons_of_mem _ hc))
  have hP := hl c (List.mem_cons_self ..)
  obtain ⟨_, c1, c2, c3, c4, _⟩ := cut_ok hP p0 p1
  unfold totC cutCs losCs losN at i ⊢
  rw [List.filterMap_cons, List.filterMap_cons, addF_cons]
  rcases Bool.eq_false_or_eq_true (bkC c v h) with hb | hb
  ·rw [losC_hit hb, cutC_hit hb]
   unfold optC
   simp only
   rw [addF_cons]
   by_cases hz : cutT (toC c) (shC c) p = 0 ∧ cutS (toC c) (shC c) p = 0
   ·rw [if_pos hz]
    simp only
    omega
   rw [if_neg hz]
   simp only
   rw [addF_cons]
   show cutT (toC c) (shC c) p + _ + _ = _
   omega
  rw [losC_skip hb, cutC_skip hb]
  simp only
  rw [addF_cons]
  omega
theorem cut_HOk {cl ps : List I6} {v h p : Int} (hw : ∀ c ∈ cl, WdC c) (hw2 : ∀ x ∈ ps, WdP x) (hp : Word p) (hE : hcutE cl ps v h p = 0) :
  HOk cl ps ∧ HOk (hcutV cl ps v h p).1 (hcutV cl ps v h p).2.1 ∧ (∀ c ∈ (hcutV cl ps v h p).1, WdC c) ∧ (∀ x ∈ (hcutV cl ps v h p).2.1, WdP x) ∧ (hcutV cl ps v h p).1.length ≤ cl.length + 1 ∧ (hcutV cl ps v h p).2.1.length ≤ ps.length + 1 ∧ totC (hcutV cl ps v h p).1 + (hcutV cl ps v h p).2.2.2.1 = totC cl ∧ 0 ≤ (hcutV cl ps v h p).2.2.2.1 ∧ (hcutV cl ps v h p).2.2.2.1 = losN (hcutV cl ps v h p).2.2.1 := by
 have hV : hcutV cl ps v h p = _ := if_pos hE
 unfold hcutE at hE
 by_cases h0 : chkH cl ps = 0
 ·rw [if_neg (by simpa using h0)] at hE
  have hk := (chkH_iff cl ps).1 h0
  split at hE
  ·omega
  rename_i h1
  have p1 : p ≤ 1000000000 := by omega
  have hPs : ∀ c ∈ cl, PoolOk (toC c) (shC c) := fun c hc => good_pool (hk.cls c hc) (hw c hc)
  have hN := losN_nn (v := v) (h := h) hPs hp.1 p1
  have hT := cut_tot (v := v) (h := h) hPs hp.1 p1
  have hm := hk.tot
  rw [hV]
  simp only
  have hmem : ∀ y ∈ cutCs v h p cl, ∃ c ∈ cl, cutC v h p c = some y := fun y hy => by simpa using List.mem_filterMap.1 hy
  refine ⟨hk, ⟨sort_cut hk.sc, ?_, ?_, by omega, ?_, ?_, ?_⟩, ?_, ?_, ?_, ?_, hT, hN.1, trivial⟩
  ·exact List.Pairwise.sublist List.filter_sublist hk.sp
  ·exact Nat.le_trans (List.length_filterMap_le ..) hk.len
  ·intro y hy
   obtain ⟨c, hc, hcy⟩ := hmem y hy
   exact (cutC_some (hPs c hc) (hk.cls c hc) hp.1 p1 hcy).1
  ·intro x hx
   obtain ⟨hx1, hx2⟩ := List.mem_filter.1 hx
   exact ⟨(hk.pos x hx1).1, (hk.pos x hx1).2.1, hx2⟩
  ·intro y hy
   obtain ⟨c, hc, hcy⟩ := hmem y hy
   obtain ⟨_, _, g3, g4⟩ := cutC_some (hPs c hc) (hk.cls c hc) hp.1 p1 hcy
   rw [g4, ← hk.sum c hc, g3]
   unfold shO keepP
   rw [List.filter_filter]
   congr 1
   refine List.filter_congr (fun x hx => ?_)
   by_cases hq : stP x = kC c
   ·have := getK_mem_some (key := kC) hy
    rw [g3, ← hq] at this
    rw [this]
    simp
   simp [hq]
  ·intro y hy
   obtain ⟨c, hc, hcy⟩ := hmem y hy
   exact (cutC_some (hPs c hc) (hk.cls c hc) hp.1 p1 hcy).2.1
  ·intro x hx
   exact hw2 x (List.mem_filter.1 hx).1
  ·exact Nat.le_succ_of_le (List.length_filterMap_le ..)
  exact Nat.le_succ_of_le (List.length_filter_le ..)
 rw [if_pos h0] at hE
 exact absurd hE h0
end
section
open Go.RowKit Go.ChangeShapes Go.WideShapes Go.Deep Go.Joins
theorem does13_in (c c2 : Nat) (A A2 : Option Addr) (cl ps : List I6) (k o V S P Q v h n : Int) (C P' : List I6) (N E : Int) (L : List I5) (w : World) (hs : Sl w 6 A cl.length c (cl.flatMap clsC)) (hs2 : Sl w 6 A2 ps.length c2 (ps.flatMap posC)) (hn : cl.length < 1099511627776) (hn2 : ps.length < 1099511000) (hA : A = none → c = 0) (hA2 : A2 = none → c2 = 0) (hw : ∀ x ∈ cl, WdC x) (hw2 : ∀ x ∈ ps, WdP x) (hwn : Word n) (k0 : 0 ≤ k) (k2 : k ≤ 2) (hD : (C, P', N, L, E) = doeV cl ps k o V S P Q v h n) :
  Calls Tryz.prog 16 #[.agg #[.slice A cl.length c, .slice A2 ps.length c2], .agg #[.int .i64 k, .int .i64 o, .int .i64 V, .int .i64 S, .int .i64 P, .int .i64 Q, .int .i64 v, .int .i64 h, .int .u64 n]] w (RetD C P' N L E w) := by
 have hk : k = 0 ∨ k = 1 ∨ k = 2 := by omega
 rcases hk with hk | hk | hk
 ·have e : doeV cl ps k o V S P Q v h n = _ := if_pos hk
  rw [e] at hD
  simp only [Prod.mk.injEq] at hD
  obtain ⟨e1, e2, e3, e4, e5⟩ := hD
  exact does13_join c c2 A A2 cl ps k o V S P Q v h n C P' N E L w hs hs2 hn hn2 hA hA2 hw hw2 hwn hk (by rw [e1, e2, e3, e5]) e4
 ·have e : doeV cl ps k o V S P Q v h n = _ := (if_neg (by omega)).trans (if_pos hk)
  rw [e] at hD
  simp only [Prod.mk.injEq] at hD
  obtain ⟨e1, e2, e3, e4, e5⟩ := hD
  exact does13_leave c c2 A A2 cl ps k o V S P Q v h n C P' N E L w hs hs2 hn hn2 hA hA2 hw hw2 hwn hk (by rw [e1, e2, e3, e5]) e4
 have e : doeV cl ps k o V S P Q v h n = _ := (if_neg (by omega)).trans ((if_neg (by omega)).trans (if_pos hk))
 rw [e] at hD
 simp only [Prod.mk.injEq] at hD
 obtain ⟨e1, e2, e3, e4, e5⟩ := hD
 exact does13_cut c c2 A A2 cl ps k o V S P Q v h n C P' N E L w hs hs2 hn hn2 hA hA2 hw hw2 hwn hk (by rw [e1, e2, e3, e4, e5])
theorem doeV_ok {cl ps C P' : List I6} {k o V S P Q v h n N E : Int} {L : List I5} (hw : ∀ x ∈ cl, WdC x) (hw2 : ∀ x ∈ ps, WdP x) (hwn : Word n) (k0 : 0 ≤ k) (k2 : k ≤ 2) (hD : (C, P', N, L, E) = doeV cl ps k o V S P Q v h n) (hE : E = 0) :
  HOk cl ps ∧ HOk C P' ∧ (∀ x ∈ C, WdC x) ∧ (∀ x ∈ P', WdP x) ∧ C.length ≤ cl.length + 1 ∧ P'.length ≤ ps.length + 1 ∧ (k = 0 → totC C = totC cl + n) ∧ (k ≠ 0 → totC C + N = totC cl ∧ 0 ≤ N) ∧ (k = 2 → N = losN L) := by
 have hk : k = 0 ∨ k = 1 ∨ k = 2 := by omega
 rcases hk with hk | hk | hk
 ·have e : doeV cl ps k o V S P Q v h n = _ := if_pos hk
  rw [e] at hD
  simp only [Prod.mk.injEq] at hD
  obtain ⟨e1, e2, e3, e4, e5⟩ := hD
  have hz : hjoiE cl ps o V S P Q n = 0 := by
   by_cases hz : hjoiE cl ps o V S P Q n = 0
   ·exact hz
   rw [hjoiV_err rfl hz] at e5
   exact e5.symm.trans hE
  obtain ⟨a1, a2, a3, a4, a5, a6, a7⟩ := join_HOk hw hw2 hwn hz
  rw [← e1, ← e2] at a2
  rw [← e1] at a3 a5 a7
  rw [← e2] at a4 a6
  exact ⟨a1, a2, a3, a4, a5, a6, fun _ => a7, fun hh => absurd hk hh, fun hh => by omega⟩
 ·have e : doeV cl ps k o V S P Q v h n = _ := (if_neg (by omega)).trans (if_pos hk)
  rw [e] at hD
  simp only [Prod.mk.injEq] at hD
  obtain ⟨e1, e2, e3, e4, e5⟩ := hD
  have hz : hleaE cl ps o V S P Q n = 0 := by
   by_cases hz : hleaE cl ps o V S P Q n = 0
   ·exact hz
   rw [hleaV_err rfl hz] at e5
   exact e5.symm.trans hE
  obtain ⟨a1, a2, a3, a4, a5, a6, a7, a8⟩ := leave_HOk hw hw2 hwn hz
  rw [← e1, ← e2] at a2
  rw [← e1] at a3 a5
  rw [← e1, ← e3] at a7
  rw [← e2] at a4 a6
  rw [← e3] at a8
  exact ⟨a1, a2, a3, a4, a5, a6, fun hh => by omega, fun _ => ⟨a7, a8⟩, fun hh => by omega⟩
 have e : doeV cl ps k o V S P Q v h n = _ := (if_neg (by omega)).trans ((if_neg (by omega)).trans (if_pos hk))
 rw [e] at hD
 simp only [Prod.mk.injEq] at hD
 obtain ⟨e1, e2, e3, e4, e5⟩ := hD
 have hz : hcutE cl ps v h n = 0 := by
  by_cases hz : hcutE cl ps v h n = 0
  ·exact hz
  rw [hcutV_err rfl hz] at e5
  exact e5.symm.trans hE
 obtain ⟨a1, a2, a3, a4, a5, a6, a7, a8, a9⟩ := cut_HOk hw hw2 hwn hz
 rw [← e1, ← e2] at a2
 rw [← e1] at a3 a5
 rw [← e1, ← e3] at a7
 rw [← e2] at a4 a6
 rw [← e3] at a8
 rw [← e3, ← e4] at a9
 exact ⟨a1, a2, a3, a4, a5, a6, fun hh => by omega, fun _ => ⟨a7, a8⟩, fun _ => a9⟩
end
section
open Go.RowKit
theorem rwithin_any (n lo hi : Int) (b : Bool) (hb : outB n lo hi = !b) (w : World) :
  Calls Tryz.prog 153 #[.int .i64 n, .int .i64 lo, .int .i64 hi] w fun r w' => r = .returned (.bool b) ∧ w = w' := by
 unfold outB at hb
 by_cases h1 : n < lo
 ·obtain rfl : b = false := by simp [h1] at hb; exact hb
  have h1' : decide (lo ≤ n) = false := decide_eq_false (by omega)
  clear h1 hb
  go_enter Tryz.func153, Tryz.ntmps153
  go_wp2
  go_ret
  exact ⟨rfl, rfl⟩
 obtain rfl : b = decide (n ≤ hi) := by
  have e : decide (hi < n) = !decide (n ≤ hi) := by rw [Bool.eq_iff_iff]; simp
  simp only [decide_eq_false h1, Bool.false_or, e] at hb
  cases b <;> simp_all
 have h1' : decide (lo ≤ n) = true := decide_eq_true (by omega)
 generalize hq : decide (n ≤ hi) = q
 clear h1 hb
 go_enter Tryz.func153, Tryz.ntmps153
 go_wp2
 go_ret
 exact ⟨rfl, rfl⟩
theorem rwithin_t (n lo hi : Int) (hb : outB n lo hi = false) (w : World) :
  Calls Tryz.prog 153 #[.int .i64 n, .int .i64 lo, .int .i64 hi] w fun r w' => r = .returned (.bool true) ∧ w = w' := rwithin_any n lo hi true hb w
theorem rwithin_f (n lo hi : Int) (hb : outB n lo hi = true) (w : World) :
  Calls Tryz.prog 153 #[.int .i64 n, .int .i64 lo, .int .i64 hi] w fun r w' => r = .returned (.bool false) ∧ w = w' := rwithin_any n lo hi false hb w
theorem rCheck12_o0 (V S P F : Int) (h0 : outB V 0 31 = true)  (w : World) :
  Calls Tryz.prog 126 #[.agg #[.int .i64 V, .int .i64 S, .int .i64 P, .int .i64 F]] w fun r w' => r = .returned (.int .i64 3) ∧ Ext w w' := by
 have H0 := Lib.hid h0
 clear h0
 go_enter Tryz.func126, Tryz.ntmps126
 go_wp2_with fail
 (with_reducible refine (rwithin_f V 0 31 H0.out _).mono ?_)
 rintro e w_1 ⟨rfl, rfl⟩
 go_wp2_with fail
 go_ret
 exact ⟨rfl, zxt⟩
theorem rCheck12_o1 (V S P F : Int) (h0 : outB V 0 31 = false) (h1 : outB S 1 4294967296 = true)  (w : World) :
  Calls Tryz.prog 126 #[.agg #[.int .i64 V, .int .i64 S, .int .i64 P, .int .i64 F]] w fun r w' => r = .returned (.int .i64 3) ∧ Ext w w' := by
 have H0 := Lib.hid h0
 have H1 := Lib.hid h1
 clear h0 h1
 go_enter Tryz.func126, Tryz.ntmps126
 go_wp2_with fail
 (with_reducible refine (rwithin_t V 0 31 H0.out _).mono ?_)
 rintro e w_1 ⟨rfl, rfl⟩
 go_wp2_with fail
 (with_reducible refine (rwithin_f S 1 4294967296 H1.out _).mono ?_)
 rintro e w_2 ⟨rfl, rfl⟩
 go_wp2_with fail
 go_ret
 exact ⟨rfl, zxt⟩
theorem rCheck12_o2 (V S P F : Int) (h0 : outB V 0 31 = false) (h1 : outB S 1 4294967296 = false) (h2 : outB P (-1) 31 = true)  (w : World) :
  Calls Tryz.prog 126 #[.agg #[.int .i64 V, .int .i64 S, .int .i64 P, .int .i64 F]] w fun r w' => r = .returned (.int .i64 3) ∧ Ext w w' := by
 have H0 := Lib.hid h0
 have H1 := Lib.hid h1
 have H2 := Lib.hid h2
 clear h0 h1 h2
 go_enter Tryz.func126, Tryz.ntmps126
 go_wp2_with fail
 (with_reducible refine (rwithin_t V 0 31 H0.out _).mono ?_)
 rintro e w_1 ⟨rfl, rfl⟩
 go_wp2_with fail
 (with_reducible refine (rwithin_t S 1 4294967296 H1.out _).mono ?_)
 rintro e w_2 ⟨rfl, rfl⟩
 go_wp2_with fail
 (with_reducible refine (rwithin_f P (-1) 31 H2.out _).mono ?_)
 rintro e w_3 ⟨rfl, rfl⟩
 go_wp2_with fail
 go_ret
 exact ⟨rfl, zxt⟩
theorem rCheck12_o3 (V S P F : Int) (h0 : outB V 0 31 = false) (h1 : outB S 1 4294967296 = false) (h2 : outB P (-1) 31 = false) (h3 : outB F 0 4294967296 = true)  (w : World) :
  Calls Tryz.prog 126 #[.agg #[.int .i64 V, .int .i64 S, .int .i64 P, .int .i64 F]] w fun r w' => r = .returned (.int .i64 3) ∧ Ext w w' := by
 have H0 := Lib.hid h0
 have H1 := Lib.hid h1
 have H2 := Lib.hid h2
 have H3 := Lib.hid h3
 clear h0 h1 h2 h3
 go_enter Tryz.func126, Tryz.ntmps126
 go_wp2_with fail
 (with_reducible refine (rwithin_t V 0 31 H0.out _).mono ?_)
 rintro e w_1 ⟨rfl, rfl⟩
 go_wp2_with fail
 (with_reducible refine (rwithin_t S 1 4294967296 H1.out _).mono ?_)
 rintro e w_2 ⟨rfl, rfl⟩
 go_wp2_with fail
 (with_reducible refine (rwithin_t P (-1) 31 H2.out _).mono ?_)
 rintro e w_3 ⟨rfl, rfl⟩
 go_wp2_with fail
 (with_reducible refine (rwithin_f F 0 4294967296 H3.out _).mono ?_)
 rintro e w_4 ⟨rfl, rfl⟩
 go_wp2_with fail
 go_ret
 exact ⟨rfl, zxt⟩
theorem rCheck12_arg (V S P F : Int) (h0 : outB V 0 31 = false) (h1 : outB S 1 4294967296 = false) (h2 : outB P (-1) 31 = false) (h3 : outB F 0 4294967296 = false) (q0 : (P == V) = true) (w : World) :
  Calls Tryz.prog 126 #[.agg #[.int .i64 V, .int .i64 S, .int .i64 P, .int .i64 F]] w fun r w' => r = .returned (.int .i64 2) ∧ Ext w w' := by
 have H0 := Lib.hid h0
 have H1 := Lib.hid h1
 have H2 := Lib.hid h2
 have H3 := Lib.hid h3
 clear h0 h1 h2 h3
 go_enter Tryz.func126, Tryz.ntmps126
 go_wp2_with fail
 (with_reducible refine (rwithin_t V 0 31 H0.out _).mono ?_)
 rintro e w_1 ⟨rfl, rfl⟩
 go_wp2_with fail
 (with_reducible refine (rwithin_t S 1 4294967296 H1.out _).mono ?_)
 rintro e w_2 ⟨rfl, rfl⟩
 go_wp2_with fail
 (with_reducible refine (rwithin_t P (-1) 31 H2.out _).mono ?_)
 rintro e w_3 ⟨rfl, rfl⟩
 go_wp2_with fail
 (with_reducible refine (rwithin_t F 0 4294967296 H3.out _).mono ?_)
 rintro e w_4 ⟨rfl, rfl⟩
 go_wp2_with fail
 go_ret
 exact ⟨rfl, zxt⟩
theorem rCheck12_st1 (V S P F : Int) (h0 : outB V 0 31 = false) (h1 : outB S 1 4294967296 = false) (h2 : outB P (-1) 31 = false) (h3 : outB F 0 4294967296 = false) (q0 : (P == V) = false) (q1 : (P == -1) = true) (q2 : (F == 0) = false) (w : World) :
  Calls Tryz.prog 126 #[.agg #[.int .i64 V, .int .i64 S, .int .i64 P, .int .i64 F]] w fun r w' => r = .returned (.int .i64 11) ∧ Ext w w' := by
 have H0 := Lib.hid h0
 have H1 := Lib.hid h1
 have H2 := Lib.hid h2
 have H3 := Lib.hid h3
 clear h0 h1 h2 h3
 go_enter Tryz.func126, Tryz.ntmps126
 go_wp2_with fail
 (with_reducible refine (rwithin_t V 0 31 H0.out _).mono ?_)
 rintro e w_1 ⟨rfl, rfl⟩
 go_wp2_with fail
 (with_reducible refine (rwithin_t S 1 4294967296 H1.out _).mono ?_)
 rintro e w_2 ⟨rfl, rfl⟩
 go_wp2_with fail
 (with_reducible refine (rwithin_t P (-1) 31 H2.out _).mono ?_)
 rintro e w_3 ⟨rfl, rfl⟩
 go_wp2_with fail
 (with_reducible refine (rwithin_t F 0 4294967296 H3.out _).mono ?_)
 rintro e w_4 ⟨rfl, rfl⟩
 go_wp2_with fail
 go_ret
 exact ⟨rfl, zxt⟩
theorem rCheck12_st0 (V S P F : Int) (h0 : outB V 0 31 = false) (h1 : outB S 1 4294967296 = false) (h2 : outB P (-1) 31 = false) (h3 : outB F 0 4294967296 = false) (q0 : (P == V) = false) (q1 : (P == -1) = false) (q2 : (F == 0) = true) (w : World) :
  Calls Tryz.prog 126 #[.agg #[.int .i64 V, .int .i64 S, .int .i64 P, .int .i64 F]] w fun r w' => r = .returned (.int .i64 11) ∧ Ext w w' := by
 have H0 := Lib.hid h0
 have H1 := Lib.hid h1
 have H2 := Lib.hid h2
 have H3 := Lib.hid h3
 clear h0 h1 h2 h3
 go_enter Tryz.func126, Tryz.ntmps126
 go_wp2_with fail
 (with_reducible refine (rwithin_t V 0 31 H0.out _).mono ?_)
 rintro e w_1 ⟨rfl, rfl⟩
 go_wp2_with fail
 (with_reducible refine (rwithin_t S 1 4294967296 H1.out _).mono ?_)
 rintro e w_2 ⟨rfl, rfl⟩
 go_wp2_with fail
 (with_reducible refine (rwithin_t P (-1) 31 H2.out _).mono ?_)
 rintro e w_3 ⟨rfl, rfl⟩
 go_wp2_with fail
 (with_reducible refine (rwithin_t F 0 4294967296 H3.out _).mono ?_)
 rintro e w_4 ⟨rfl, rfl⟩
 go_wp2_with fail
 go_ret
 exact ⟨rfl, zxt⟩
theorem rCheck12_or1 (V S P F : Int) (h0 : outB V 0 31 = false) (h1 : outB S 1 4294967296 = false) (h2 : outB P (-1) 31 = false) (h3 : outB F 0 4294967296 = false) (q0 : (P == V) = false) (q1 : (P == -1) = true) (q2 : (F == 0) = true) (q3 : decide (S < F) = true) (w : World) :
  Calls Tryz.prog 126 #[.agg #[.int .i64 V, .int .i64 S, .int .i64 P, .int .i64 F]] w fun r w' => r = .returned (.int .i64 9) ∧ Ext w w' := by
 have H0 := Lib.hid h0
 have H1 := Lib.hid h1
 have H2 := Lib.hid h2
 have H3 := Lib.hid h3
 clear h0 h1 h2 h3
 go_enter Tryz.func126, Tryz.ntmps126
 go_wp2_with fail
 (with_reducible refine (rwithin_t V 0 31 H0.out _).mono ?_)
 rintro e w_1 ⟨rfl, rfl⟩
 go_wp2_with fail
 (with_reducible refine (rwithin_t S 1 4294967296 H1.out _).mono ?_)
 rintro e w_2 ⟨rfl, rfl⟩
 go_wp2_with fail
 (with_reducible refine (rwithin_t P (-1) 31 H2.out _).mono ?_)
 rintro e w_3 ⟨rfl, rfl⟩
 go_wp2_with fail
 (with_reducible refine (rwithin_t F 0 4294967296 H3.out _).mono ?_)
 rintro e w_4 ⟨rfl, rfl⟩
 go_wp2_with fail
 go_ret
 exact ⟨rfl, zxt⟩
theorem rCheck12_ok1 (V S P F : Int) (h0 : outB V 0 31 = false) (h1 : outB S 1 4294967296 = false) (h2 : outB P (-1) 31 = false) (h3 : outB F 0 4294967296 = false) (q0 : (P == V) = false) (q1 : (P == -1) = true) (q2 : (F == 0) = true) (q3 : decide (S < F) = false) (w : World) :
  Calls Tryz.prog 126 #[.agg #[.int .i64 V, .int .i64 S, .int .i64 P, .int .i64 F]] w fun r w' => r = .returned (.int .i64 0) ∧ Ext w w' := by
 have H0 := Lib.hid h0
 have H1 := Lib.hid h1
 have H2 := Lib.hid h2
 have H3 := Lib.hid h3
 clear h0 h1 h2 h3
 go_enter Tryz.func126, Tryz.ntmps126
 go_wp2_with fail
 (with_reducible refine (rwithin_t V 0 31 H0.out _).mono ?_)
 rintro e w_1 ⟨rfl, rfl⟩
 go_wp2_with fail
 (with_reducible refine (rwithin_t S 1 4294967296 H1.out _).mono ?_)
 rintro e w_2 ⟨rfl, rfl⟩
 go_wp2_with fail
 (with_reducible refine (rwithin_t P (-1) 31 H2.out _).mono ?_)
 rintro e w_3 ⟨rfl, rfl⟩
 go_wp2_with fail
 (with_reducible refine (rwithin_t F 0 4294967296 H3.out _).mono ?_)
 rintro e w_4 ⟨rfl, rfl⟩
 go_wp2_with fail
 go_ret
 exact ⟨rfl, zxt⟩
theorem rCheck12_or0 (V S P F : Int) (h0 : outB V 0 31 = false) (h1 : outB S 1 4294967296 = false) (h2 : outB P (-1) 31 = false) (h3 : outB F 0 4294967296 = false) (q0 : (P == V) = false) (q1 : (P == -1) = false) (q2 : (F == 0) = false) (q3 : decide (S < F) = true) (w : World) :
  Calls Tryz.prog 126 #[.agg #[.int .i64 V, .int .i64 S, .int .i64 P, .int .i64 F]] w fun r w' => r = .returned (.int .i64 9) ∧ Ext w w' := by
 have H0 := Lib.hid h0
 have H1 := Lib.hid h1
 have H2 := Lib.hid h2
 have H3 := Lib.hid h3
 clear h0 h1 h2 h3
 go_enter Tryz.func126, Tryz.ntmps126
 go_wp2_with fail
 (with_reducible refine (rwithin_t V 0 31 H0.out _).mono ?_)
 rintro e w_1 ⟨rfl, rfl⟩
 go_wp2_with fail
 (with_reducible refine (rwithin_t S 1 4294967296 H1.out _).mono ?_)
 rintro e w_2 ⟨rfl, rfl⟩
 go_wp2_with fail
 (with_reducible refine (rwithin_t P (-1) 31 H2.out _).mono ?_)
 rintro e w_3 ⟨rfl, rfl⟩
 go_wp2_with fail
 (with_reducible refine (rwithin_t F 0 4294967296 H3.out _).mono ?_)
 rintro e w_4 ⟨rfl, rfl⟩
 go_wp2_with fail
 go_ret
 exact ⟨rfl, zxt⟩
theorem rCheck12_ok0 (V S P F : Int) (h0 : outB V 0 31 = false) (h1 : outB S 1 4294967296 = false) (h2 : outB P (-1) 31 = false) (h3 : outB F 0 4294967296 = false) (q0 : (P == V) = false) (q1 : (P == -1) = false) (q2 : (F == 0) = false) (q3 : decide (S < F) = false) (w : World) :
  Calls Tryz.prog 126 #[.agg #[.int .i64 V, .int .i64 S, .int .i64 P, .int .i64 F]] w fun r w' => r = .returned (.int .i64 0) ∧ Ext w w' := by
 have H0 := Lib.hid h0
 have H1 := Lib.hid h1
 have H2 := Lib.hid h2
 have H3 := Lib.hid h3
 clear h0 h1 h2 h3
 go_enter Tryz.func126, Tryz.ntmps126
 go_wp2_with fail
 (with_reducible refine (rwithin_t V 0 31 H0.out _).mono ?_)
 rintro e w_1 ⟨rfl, rfl⟩
 go_wp2_with fail
 (with_reducible refine (rwithin_t S 1 4294967296 H1.out _).mono ?_)
 rintro e w_2 ⟨rfl, rfl⟩
 go_wp2_with fail
 (with_reducible refine (rwithin_t P (-1) 31 H2.out _).mono ?_)
 rintro e w_3 ⟨rfl, rfl⟩
 go_wp2_with fail
 (with_reducible refine (rwithin_t F 0 4294967296 H3.out _).mono ?_)
 rintro e w_4 ⟨rfl, rfl⟩
 go_wp2_with fail
 go_ret
 exact ⟨rfl, zxt⟩
theorem rCheck12_any (V S P F : Int) (w : World) :
  Calls Tryz.prog 126 #[.agg #[.int .i64 V, .int .i64 S, .int .i64 P, .int .i64 F]] w fun r w' => r = .returned (.int .i64 (chkS V S P F)) ∧ Ext w w' := by
 unfold chkS
 cases h1 : outB V 0 31
 ·cases h2 : outB S 1 4294967296
  ·cases h3 : outB P (-1) 31
   ·cases h4 : outB F 0 4294967296
    ·cases q0 : (P == V)
     ·cases q1 : (P == -1)
      ·cases q2 : (F == 0)
       ·cases q3 : decide (S < F)
        ·exact rCheck12_ok0 V S P F h1 h2 h3 h4 q0 q1 q2 q3 w
        exact rCheck12_or0 V S P F h1 h2 h3 h4 q0 q1 q2 q3 w
       exact rCheck12_st0 V S P F h1 h2 h3 h4 q0 q1 q2 w
      cases q2 : (F == 0)
      ·exact rCheck12_st1 V S P F h1 h2 h3 h4 q0 q1 q2 w
      cases q3 : decide (S < F)
      ·exact rCheck12_ok1 V S P F h1 h2 h3 h4 q0 q1 q2 q3 w
      exact rCheck12_or1 V S P F h1 h2 h3 h4 q0 q1 q2 q3 w
     exact rCheck12_arg V S P F h1 h2 h3 h4 q0 w
    exact rCheck12_o3 V S P F h1 h2 h3 h4 w
   exact rCheck12_o2 V S P F h1 h2 h3 w
  exact rCheck12_o1 V S P F h1 h2 w
 exact rCheck12_o0 V S P F h1 w
theorem pCheck_any (t s : Int) (w : World) :
  Calls Tryz.prog 121 #[.agg #[.int .u64 t, .int .u64 s]] w fun r w' => r = .returned (.int .i64 (chkE t s)) ∧ Ext w w' := by
 by_cases h1 : s < t
 ·have e : chkE t s = 9 := if_pos h1
  rw [e]
  clear e
  go_enter Tryz.func121, Tryz.ntmps121
  go_wp2
  go_ret
  exact ⟨rfl, zSlTac1_0⟩
 by_cases h2 : 4611686018427387904 < t
 ·have e : chkE t s = 12 := by unfold chkE; rw [if_neg h1, if_pos h2]
  rw [e]
  clear e
  go_enter Tryz.func121, Tryz.ntmps121
  go_wp2
  go_ret
  exact ⟨rfl, zSlTac1_0⟩
 by_cases h3 : t = 0
 ·subst h3
  by_cases h4 : s = 0
  ·have e : chkE 0 s = 0 := by unfold chkE; rw [if_neg h1, if_neg h2, if_pos rfl, if_pos h4]
   rw [e]
   subst h4
   clear e
   go_enter Tryz.func121, Tryz.ntmps121
   go_wp2
   go_ret
   exact ⟨rfl, zSlTac1_0⟩
  have e : chkE 0 s = 11 := by unfold chkE; rw [if_neg h1, if_neg h2, if_pos rfl, if_neg h4]
  rw [e]
  have h5 : (s == 0) = false := by simpa using h4
  clear e
  go_enter Tryz.func121, Tryz.ntmps121
  go_wp2
  go_ret
  exact ⟨rfl, zSlTac1_0⟩
 have e : chkE t s = 0 := by unfold chkE; rw [if_neg h1, if_neg h2, if_neg h3]
 rw [e]
 have h5 : (t == 0) = false := by simpa using h3
 clear e
 go_enter Tryz.func121, Tryz.ntmps121
 go_wp2
 go_ret
 exact ⟨rfl, zSlTac1_0⟩
theorem pWorth_any (t s x : Int) (ht : Word t) (hs : Word s) (hx : Word x) (w : World) :
  Calls Tryz.prog 151 #[.agg #[.int .u64 t, .int .u64 s], .int .u64 x] w fun r w' => r = .returned (.int .u64 (worV t s x)) ∧ Ext w w' := by
 by_cases hz : s = 0
 ·have e : worV t s x = 0 := if_pos hz
  rw [e]
  subst hz
  clear e ht hs hx
  go_enter Tryz.func151, Tryz.ntmps151
  go_wp2
  go_ret
  exact ⟨rfl, zSlTac1_0⟩
 have e : worV t s x = mdN x t s := if_neg hz
 rw [e]
 clear e
 have C := Lib.hid (rMulDiv_any x t s hx ht hs)
 have hz' : (s == 0) = false := by simpa using hz
 clear ht hs hx hz
 go_enter Tryz.func151, Tryz.ntmps151
 go_wp2_with (go_at_call 191; refine (C.out _).mono ?_; rintro e w' ⟨rfl, rfl⟩)
 go_ret
 exact ⟨rfl, zSlTac1_0⟩
theorem pValue_bad (t s x c : Int) (hc : ¬ c = 0) (CK : Hid (∀ w, Calls Tryz.prog 121 #[.agg #[.int .u64 t, .int .u64 s]] w fun r w' => r = .returned (.int .i64 c) ∧ Ext w w')) (w : World) :
    Calls Tryz.prog 177 #[.agg #[.int .u64 t, .int .u64 s], .int .u64 x] w fun r w' => r = .returned (.tuple #[.int .u64 0, .int .i64 c]) ∧ Ext w w' := by
  go_enter Tryz.func177, Tryz.ntmps177
  go_wp2_with (first
    | (go_at_call 121; refine (CK.out _).mono ?_; rintro r w1 ⟨rfl, hx1⟩
       have hs1 := hx1.size
       simp at hs1
       have b1 : w1.cell? ⟨w.heap.size, 0, none⟩ = some (.int .u64 t) := hx1.has (by simp [go_sem])
       have b2 : w1.cell? ⟨w.heap.size, 1, none⟩ = some (.int .u64 s) := hx1.has (by simp [go_sem])))
  go_ret2
  exact ⟨rfl, zSlTac1_0⟩
theorem pValue_poor (t s x : Int) (h : s < x) (CK : Hid (∀ w, Calls Tryz.prog 121 #[.agg #[.int .u64 t, .int .u64 s]] w fun r w' => r = .returned (.int .i64 0) ∧ Ext w w')) (w : World) :
    Calls Tryz.prog 177 #[.agg #[.int .u64 t, .int .u64 s], .int .u64 x] w fun r w' => r = .returned (.tuple #[.int .u64 0, .int .i64 13]) ∧ Ext w w' := by
  go_enter Tryz.func177, Tryz.ntmps177
  go_wp2_with (first
    | (go_at_call 121; refine (CK.out _).mono ?_; rintro r w1 ⟨rfl, hx1⟩
       have hs1 := hx1.size
       simp at hs1
       have b1 : w1.cell? ⟨w.heap.size, 0, none⟩ = some (.int .u64 t) := hx1.has (by simp [go_sem])
       have b2 : w1.cell? ⟨w.heap.size, 1, none⟩ = some (.int .u64 s) := hx1.has (by simp [go_sem])))
  go_ret2
  exact ⟨rfl, zSlTac1_0⟩
theorem pValue_ok (t s x n : Int) (h : ¬ s < x) (CK : Hid (∀ w, Calls Tryz.prog 121 #[.agg #[.int .u64 t, .int .u64 s]] w fun r w' => r = .returned (.int .i64 0) ∧ Ext w w')) (C1 : Hid (∀ w, Calls Tryz.prog 151 #[.agg #[.int .u64 t, .int .u64 s], .int .u64 x] w fun r w' => r = .returned (.int .u64 n) ∧ Ext w w')) (w : World) :
    Calls Tryz.prog 177 #[.agg #[.int .u64 t, .int .u64 s], .int .u64 x] w fun r w' => r = .returned (.tuple #[.int .u64 n, .int .i64 0]) ∧ Ext w w' := by
  go_enter Tryz.func177, Tryz.ntmps177
  go_wp2_with (first
    | (go_at_call 121; refine (CK.out _).mono ?_; rintro r w1 ⟨rfl, hx1⟩
       have hs1 := hx1.size
       simp at hs1
       have b1 : w1.cell? ⟨w.heap.size, 0, none⟩ = some (.int .u64 t) := hx1.has (by simp [go_sem])
       have b2 : w1.cell? ⟨w.heap.size, 1, none⟩ = some (.int .u64 s) := hx1.has (by simp [go_sem]))
    | (go_at_call 151; refine (C1.out _).mono ?_; rintro r w2 ⟨rfl, hx2⟩))
  go_ret2
  exact ⟨rfl, zSlTac1_0⟩
theorem pPrice_bad (t s x c : Int) (hc : ¬ c = 0) (CK : Hid (∀ w, Calls Tryz.prog 121 #[.agg #[.int .u64 t, .int .u64 s]] w fun r w' => r = .returned (.int .i64 c) ∧ Ext w w')) (w : World) :
    Calls Tryz.prog 176 #[.agg #[.int .u64 t, .int .u64 s], .int .u64 x] w fun r w' => r = .returned (.tuple #[.int .u64 0, .int .i64 c]) ∧ Ext w w' := by
  go_enter Tryz.func176, Tryz.ntmps176
  go_wp2_with (first
    | (go_at_call 121; refine (CK.out _).mono ?_; rintro r w1 ⟨rfl, hx1⟩
       have hs1 := hx1.size
       simp at hs1
       have b1 : w1.cell? ⟨w.heap.size, 0, none⟩ = some (.int .u64 t) := hx1.has (by simp [go_sem])
       have b2 : w1.cell? ⟨w.heap.size, 1, none⟩ = some (.int .u64 s) := hx1.has (by simp [go_sem])))
  go_ret2
  exact ⟨rfl, zSlTac1_0⟩
theorem pPrice_one (t x : Int)  (CK : Hid (∀ w, Calls Tryz.prog 121 #[.agg #[.int .u64 t, .int .u64 0]] w fun r w' => r = .returned (.int .i64 0) ∧ Ext w w')) (w : World) :
    Calls Tryz.prog 176 #[.agg #[.int .u64 t, .int .u64 0], .int .u64 x] w fun r w' => r = .returned (.tuple #[.int .u64 x, .int .i64 0]) ∧ Ext w w' := by
  go_enter Tryz.func176, Tryz.ntmps176
  go_wp2_with (first
    | (go_at_call 121; refine (CK.out _).mono ?_; rintro r w1 ⟨rfl, hx1⟩
       have hs1 := hx1.size
       simp at hs1
       have b1 : w1.cell? ⟨w.heap.size, 0, none⟩ = some (.int .u64 t) := hx1.has (by simp [go_sem])
       have b2 : w1.cell? ⟨w.heap.size, 1, none⟩ = some (.int .u64 0) := hx1.has (by simp [go_sem])))
  go_ret2
  exact ⟨rfl, zSlTac1_0⟩
theorem pPrice_ok (t s x n e : Int) (h : (s == 0) = false) (CK : Hid (∀ w, Calls Tryz.prog 121 #[.agg #[.int .u64 t, .int .u64 s]] w fun r w' => r = .returned (.int .i64 0) ∧ Ext w w')) (C1 : Hid (∀ w, Calls Tryz.prog 191 #[.int .u64 x, .int .u64 s, .int .u64 t] w fun r w' => r = .returned (.tuple #[.int .u64 n, .int .i64 e]) ∧ w = w')) (w : World) :
    Calls Tryz.prog 176 #[.agg #[.int .u64 t, .int .u64 s], .int .u64 x] w fun r w' => r = .returned (.tuple #[.int .u64 n, .int .i64 e]) ∧ Ext w w' := by
  go_enter Tryz.func176, Tryz.ntmps176
  go_wp2_with (first
    | (go_at_call 121; refine (CK.out _).mono ?_; rintro r w1 ⟨rfl, hx1⟩
       have hs1 := hx1.size
       simp at hs1
       have b1 : w1.cell? ⟨w.heap.size, 0, none⟩ = some (.int .u64 t) := hx1.has (by simp [go_sem])
       have b2 : w1.cell? ⟨w.heap.size, 1, none⟩ = some (.int .u64 s) := hx1.has (by simp [go_sem]))
    | (go_at_call 191; refine (C1.out _).mono ?_; rintro r w2 ⟨rfl, rfl⟩))
  go_ret2
  exact ⟨rfl, zSlTac1_0⟩
theorem mdN_err {a b c : Int} (h : mdE a b c ≠ 0) : mdN a b c = 0 := by
 unfold mdE at h
 unfold mdN
 by_cases hc : c = 0
 ·rw [if_pos hc]
 rw [if_neg hc] at h ⊢
 by_cases h1 : a * b / c < 18446744073709551616
 ·rw [if_pos h1] at h; exact absurd rfl h
 rw [if_neg h1]
theorem pValue_any (t s x : Int) (ht : Word t) (hs : Word s) (hx : Word x) (w : World) :
  Calls Tryz.prog 177 #[.agg #[.int .u64 t, .int .u64 s], .int .u64 x] w fun r w' => r = .returned (.tuple #[.int .u64 (valN t s x), .int .i64 (valE t s x)]) ∧ Ext w w' := by
 have CK := pCheck_any t s
 unfold valN
 by_cases hc : chkE t s = 0
 ·rw [hc] at CK
  by_cases h : s < x
  ·have e : valE t s x = 13 := by unfold valE; rw [if_pos hc, if_pos (by simpa using h)]
   rw [e, if_neg (by decide)]
   exact pValue_poor t s x h CK w
  have e : valE t s x = 0 := by unfold valE; rw [if_pos hc, if_neg (by simpa using h)]
  rw [e, if_pos rfl]
  exact pValue_ok t s x _ h CK (pWorth_any t s x ht hs hx) w
 have e : valE t s x = chkE t s := if_neg hc
 rw [e, if_neg hc]
 exact pValue_bad t s x _ hc CK w
theorem pPrice_any (t s x : Int) (ht : Word t) (hs : Word s) (hx : Word x) (w : World) :
  Calls Tryz.prog 176 #[.agg #[.int .u64 t, .int .u64 s], .int .u64 x] w fun r w' => r = .returned (.tuple #[.int .u64 (pccN t s x), .int .i64 (pccE t s x)]) ∧ Ext w w' := by
 have CK := pCheck_any t s
 unfold pccN
 by_cases hc : chkE t s = 0
 ·obtain ⟨k1, k2, k3⟩ := chk_ok ht hs hc
  rw [hc] at CK
  have e : pccE t s x = priE t s x := if_pos hc
  rw [e]
  by_cases h : s = 0
  ·have h0 : t = 0 := by have := ht.1; omega
   have e1 : priE t s x = 0 := if_pos h0
   have e2 : priN t s x = x := if_pos h0
   rw [e1, e2, if_pos rfl]
   subst h
   exact pPrice_one t x CK w
  have h0 : ¬ t = 0 := fun h0 => h (k3 h0)
  have e1 : priE t s x = mdE x s t := if_neg h0
  have e2 : priN t s x = mdN x s t := if_neg h0
  have H := pPrice_ok t s x _ _ (by simpa using h) CK (rMulDiv_any x s t hx hs ht) w
  rw [e1, e2]
  by_cases h1 : mdE x s t = 0
  ·rw [if_pos h1]; exact H
  rw [if_neg h1]; rw [mdN_err h1] at H; exact H
 have e : pccE t s x = chkE t s := if_neg hc
 rw [e, if_neg hc]
 exact pPrice_bad t s x _ hc CK w
theorem pJoin_bad (t s x c : Int) (hc : ¬ c = 0)
    (CK : Hid (∀ w, Calls Tryz.prog 121 #[.agg #[.int .u64 t, .int .u64 s]] w fun r w' => r = .returned (.int .i64 c) ∧ Ext w w')) (w : World) :
    Calls Tryz.prog 129 #[.agg #[.int .u64 t, .int .u64 s], .int .u64 x] w fun r w' => r = .returned (.tuple #[.agg #[.int .u64 0, .int .u64 0], .int .u64 0, .int .i64 c]) ∧ Ext w w' := by
  go_enter Tryz.func129, Tryz.ntmps129
  go_wp2_with (first
    | (go_at_call 121; refine (CK.out _).mono ?_; rintro r w1 ⟨rfl, hx1⟩
       have hs1 := hx1.size
       simp at hs1
       have b1 : w1.cell? ⟨w.heap.size, 0, none⟩ = some (.int .u64 t) := hx1.has (by simp [go_sem])
       have b2 : w1.cell? ⟨w.heap.size, 1, none⟩ = some (.int .u64 s) := hx1.has (by simp [go_sem])
       have d3 : w1.cell? ⟨w.heap.size + 1, 0, none⟩ = some (.int .u64 0) := hx1.has (by simp [go_sem])
       have d4 : w1.cell? ⟨w.heap.size + 1, 1, none⟩ = some (.int .u64 0) := hx1.has (by simp [go_sem])
       have f3 : w1.frozen? ⟨w.heap.size + 1, 0, none⟩ = false := hx1.froz (v := .int .u64 0) (by simp [go_sem]) (by simp [go_sem])
       have f4 : w1.frozen? ⟨w.heap.size + 1, 1, none⟩ = false := hx1.froz (v := .int .u64 0) (by simp [go_sem]) (by simp [go_sem])))
  (try simp only [Exit.inBlock, Exit.then])
  refine bodyPost_ret zSlTac1_5 rfl ?_
  exact ⟨rfl, zSlTac1_0⟩
theorem pJoin_dust (t s x : Int) (h : x = 0)
    (CK : Hid (∀ w, Calls Tryz.prog 121 #[.agg #[.int .u64 t, .int .u64 s]] w fun r w' => r = .returned (.int .i64 0) ∧ Ext w w')) (w : World) :
    Calls Tryz.prog 129 #[.agg #[.int .u64 t, .int .u64 s], .int .u64 x] w fun r w' => r = .returned (.tuple #[.agg #[.int .u64 0, .int .u64 0], .int .u64 0, .int .i64 14]) ∧ Ext w w' := by
  subst h
  go_enter Tryz.func129, Tryz.ntmps129
  go_wp2_with (first
    | (go_at_call 121; refine (CK.out _).mono ?_; rintro r w1 ⟨rfl, hx1⟩
       have hs1 := hx1.size
       simp at hs1
       have b1 : w1.cell? ⟨w.heap.size, 0, none⟩ = some (.int .u64 t) := hx1.has (by simp [go_sem])
       have b2 : w1.cell? ⟨w.heap.size, 1, none⟩ = some (.int .u64 s) := hx1.has (by simp [go_sem])
       have d3 : w1.cell? ⟨w.heap.size + 1, 0, none⟩ = some (.int .u64 0) := hx1.has (by simp [go_sem])
       have d4 : w1.cell? ⟨w.heap.size + 1, 1, none⟩ = some (.int .u64 0) := hx1.has (by simp [go_sem])
       have f3 : w1.frozen? ⟨w.heap.size + 1, 0, none⟩ = false := hx1.froz (v := .int .u64 0) (by simp [go_sem]) (by simp [go_sem])
       have f4 : w1.frozen? ⟨w.heap.size + 1, 1, none⟩ = false := hx1.froz (v := .int .u64 0) (by simp [go_sem]) (by simp [go_sem])))
  (try simp only [Exit.inBlock, Exit.then])
  refine bodyPost_ret zSlTac1_5 rfl ?_
  exact ⟨rfl, zSlTac1_0⟩
theorem pJoin_e (t s x n e s' g : Int) (h : (x == 0) = false) (he : ¬ e = 0)
    (CK : Hid (∀ w, Calls Tryz.prog 121 #[.agg #[.int .u64 t, .int .u64 s]] w fun r w' => r = .returned (.int .i64 0) ∧ Ext w w'))
    (CP : Hid (∀ w, Calls Tryz.prog 176 #[.agg #[.int .u64 t, .int .u64 s], .int .u64 x] w fun r w' => r = .returned (.tuple #[.int .u64 n, .int .i64 e]) ∧ Ext w w'))
    (CA : Hid (∀ w, Calls Tryz.prog 152 #[.int .u64 s, .int .u64 n] w fun r w' => r = .returned (.tuple #[.int .u64 s', .int .i64 g]) ∧ w = w')) (w : World) :
    Calls Tryz.prog 129 #[.agg #[.int .u64 t, .int .u64 s], .int .u64 x] w fun r w' => r = .returned (.tuple #[.agg #[.int .u64 0, .int .u64 0], .int .u64 0, .int .i64 12]) ∧ Ext w w' := by
  go_enter Tryz.func129, Tryz.ntmps129
  go_wp2_with (first
    | (go_at_call 121; refine (CK.out _).mono ?_; rintro r w1 ⟨rfl, hx1⟩
       have hs1 := hx1.size
       simp at hs1
       have b1 : w1.cell? ⟨w.heap.size, 0, none⟩ = some (.int .u64 t) := hx1.has (by simp [go_sem])
       have b2 : w1.cell? ⟨w.heap.size, 1, none⟩ = some (.int .u64 s) := hx1.has (by simp [go_sem])
       have d3 : w1.cell? ⟨w.heap.size + 1, 0, none⟩ = some (.int .u64 0) := hx1.has (by simp [go_sem])
       have d4 : w1.cell? ⟨w.heap.size + 1, 1, none⟩ = some (.int .u64 0) := hx1.has (by simp [go_sem])
       have f3 : w1.frozen? ⟨w.heap.size + 1, 0, none⟩ = false := hx1.froz (v := .int .u64 0) (by simp [go_sem]) (by simp [go_sem])
       have f4 : w1.frozen? ⟨w.heap.size + 1, 1, none⟩ = false := hx1.froz (v := .int .u64 0) (by simp [go_sem]) (by simp [go_sem]))
    | (go_at_call 176; refine (CP.out _).mono ?_; rintro r w2 ⟨rfl, hx2⟩
       have b1 := hx2.has b1
       have b2 := hx2.has b2
       have f3 := hx2.froz d3 f3
       have f4 := hx2.froz d4 f4
       have d3 := hx2.has d3
       have d4 := hx2.has d4)
    | (go_at_call 152; refine (CA.out _).mono ?_; rintro r w3 ⟨rfl, rfl⟩))
  (try simp only [Exit.inBlock, Exit.then])
  refine bodyPost_ret zSlTac1_5 rfl ?_
  exact ⟨rfl, zSlTac1_0⟩
theorem pJoin_g (t s x n s' g : Int) (h : (x == 0) = false) (hg : ¬ g = 0)
    (CK : Hid (∀ w, Calls Tryz.prog 121 #[.agg #[.int .u64 t, .int .u64 s]] w fun r w' => r = .returned (.int .i64 0) ∧ Ext w w'))
    (CP : Hid (∀ w, Calls Tryz.prog 176 #[.agg #[.int .u64 t, .int .u64 s], .int .u64 x] w fun r w' => r = .returned (.tuple #[.int .u64 n, .int .i64 0]) ∧ Ext w w'))
    (CA : Hid (∀ w, Calls Tryz.prog 152 #[.int .u64 s, .int .u64 n] w fun r w' => r = .returned (.tuple #[.int .u64 s', .int .i64 g]) ∧ w = w')) (w : World) :
    Calls Tryz.prog 129 #[.agg #[.int .u64 t, .int .u64 s], .int .u64 x] w fun r w' => r = .returned (.tuple #[.agg #[.int .u64 0, .int .u64 0], .int .u64 0, .int .i64 12]) ∧ Ext w w' := by
  go_enter Tryz.func129, Tryz.ntmps129
  go_wp2_with (first
    | (go_at_call 121; refine (CK.out _).mono ?_; rintro r w1 ⟨rfl, hx1⟩
       have hs1 := hx1.size
       simp at hs1
       have b1 : w1.cell? ⟨w.heap.size, 0, none⟩ = some (.int .u64 t) := hx1.has (by simp [go_sem])
       have b2 : w1.cell? ⟨w.heap.size, 1, none⟩ = some (.int .u64 s) := hx1.has (by simp [go_sem])
       have d3 : w1.cell? ⟨w.heap.size + 1, 0, none⟩ = some (.int .u64 0) := hx1.has (by simp [go_sem])
       have d4 : w1.cell? ⟨w.heap.size + 1, 1, none⟩ = some (.int .u64 0) := hx1.has (by simp [go_sem])
       have f3 : w1.frozen? ⟨w.heap.size + 1, 0, none⟩ = false := hx1.froz (v := .int .u64 0) (by simp [go_sem]) (by simp [go_sem])
       have f4 : w1.frozen? ⟨w.heap.size + 1, 1, none⟩ = false := hx1.froz (v := .int .u64 0) (by simp [go_sem]) (by simp [go_sem]))
    | (go_at_call 176; refine (CP.out _).mono ?_; rintro r w2 ⟨rfl, hx2⟩
       have b1 := hx2.has b1
       have b2 := hx2.has b2
       have f3 := hx2.froz d3 f3
       have f4 := hx2.froz d4 f4
       have d3 := hx2.has d3
       have d4 := hx2.has d4)
    | (go_at_call 152; refine (CA.out _).mono ?_; rintro r w3 ⟨rfl, rfl⟩))
  (try simp only [Exit.inBlock, Exit.then])
  refine bodyPost_ret zSlTac1_5 rfl ?_
  exact ⟨rfl, zSlTac1_0⟩
theorem pJoin_max (t s x n s' : Int) (h : (x == 0) = false) (ht : 0 ≤ t ∧ t ≤ 4611686018427387904) (hm : 4611686018427387904 - t < x)
    (CK : Hid (∀ w, Calls Tryz.prog 121 #[.agg #[.int .u64 t, .int .u64 s]] w fun r w' => r = .returned (.int .i64 0) ∧ Ext w w'))
    (CP : Hid (∀ w, Calls Tryz.prog 176 #[.agg #[.int .u64 t, .int .u64 s], .int .u64 x] w fun r w' => r = .returned (.tuple #[.int .u64 n, .int .i64 0]) ∧ Ext w w'))
    (CA : Hid (∀ w, Calls Tryz.prog 152 #[.int .u64 s, .int .u64 n] w fun r w' => r = .returned (.tuple #[.int .u64 s', .int .i64 0]) ∧ w = w')) (w : World) :
    Calls Tryz.prog 129 #[.agg #[.int .u64 t, .int .u64 s], .int .u64 x] w fun r w' => r = .returned (.tuple #[.agg #[.int .u64 0, .int .u64 0], .int .u64 0, .int .i64 12]) ∧ Ext w w' := by
  have e1 : IntKind.u64.wrap (4611686018427387904 - t) = 4611686018427387904 - t := by rw [IntKind.wrap_u64]; omega
  go_enter Tryz.func129, Tryz.ntmps129
  go_wp2_with (first
    | (go_at_call 121; refine (CK.out _).mono ?_; rintro r w1 ⟨rfl, hx1⟩
       have hs1 := hx1.size
       simp at hs1
       have b1 : w1.cell? ⟨w.heap.size, 0, none⟩ = some (.int .u64 t) := hx1.has (by simp [go_sem])
       have b2 : w1.cell? ⟨w.heap.size, 1, none⟩ = some (.int .u64 s) := hx1.has (by simp [go_sem])
       have d3 : w1.cell? ⟨w.heap.size + 1, 0, none⟩ = some (.int .u64 0) := hx1.has (by simp [go_sem])
       have d4 : w1.cell? ⟨w.heap.size + 1, 1, none⟩ = some (.int .u64 0) := hx1.has (by simp [go_sem])
       have f3 : w1.frozen? ⟨w.heap.size + 1, 0, none⟩ = false := hx1.froz (v := .int .u64 0) (by simp [go_sem]) (by simp [go_sem])
       have f4 : w1.frozen? ⟨w.heap.size + 1, 1, none⟩ = false := hx1.froz (v := .int .u64 0) (by simp [go_sem]) (by simp [go_sem]))
    | (go_at_call 176; refine (CP.out _).mono ?_; rintro r w2 ⟨rfl, hx2⟩
       have b1 := hx2.has b1
       have b2 := hx2.has b2
       have f3 := hx2.froz d3 f3
       have f4 := hx2.froz d4 f4
       have d3 := hx2.has d3
       have d4 := hx2.has d4)
    | (go_at_call 152; refine (CA.out _).mono ?_; rintro r w3 ⟨rfl, rfl⟩))
  (try simp only [Exit.inBlock, Exit.then])
  refine bodyPost_ret zSlTac1_5 rfl ?_
  exact ⟨rfl, zSlTac1_0⟩
theorem pJoin_ok (t s x n s' : Int) (h : (x == 0) = false) (ht : 0 ≤ t ∧ t ≤ 4611686018427387904) (hm : ¬ 4611686018427387904 - t < x) (hx : 0 ≤ x)
    (CK : Hid (∀ w, Calls Tryz.prog 121 #[.agg #[.int .u64 t, .int .u64 s]] w fun r w' => r = .returned (.int .i64 0) ∧ Ext w w'))
    (CP : Hid (∀ w, Calls Tryz.prog 176 #[.agg #[.int .u64 t, .int .u64 s], .int .u64 x] w fun r w' => r = .returned (.tuple #[.int .u64 n, .int .i64 0]) ∧ Ext w w'))
    (CA : Hid (∀ w, Calls Tryz.prog 152 #[.int .u64 s, .int .u64 n] w fun r w' => r = .returned (.tuple #[.int .u64 s', .int .i64 0]) ∧ w = w')) (w : World) :
    Calls Tryz.prog 129 #[.agg #[.int .u64 t, .int .u64 s], .int .u64 x] w fun r w' => r = .returned (.tuple #[.agg #[.int .u64 (t + x), .int .u64 s'], .int .u64 n, .int .i64 0]) ∧ Ext w w' := by
  have e1 : IntKind.u64.wrap (4611686018427387904 - t) = 4611686018427387904 - t := by rw [IntKind.wrap_u64]; omega
  have e2 : IntKind.u64.wrap (t + x) = t + x := by rw [IntKind.wrap_u64]; omega
  go_enter Tryz.func129, Tryz.ntmps129
  go_wp2_with (first
    | (go_at_call 121; refine (CK.out _).mono ?_; rintro r w1 ⟨rfl, hx1⟩
       have hs1 := hx1.size
       simp at hs1
       have b1 : w1.cell? ⟨w.heap.size, 0, none⟩ = some (.int .u64 t) := hx1.has (by simp [go_sem])
       have b2 : w1.cell? ⟨w.heap.size, 1, none⟩ = some (.int .u64 s) := hx1.has (by simp [go_sem])
       have d3 : w1.cell? ⟨w.heap.size + 1, 0, none⟩ = some (.int .u64 0) := hx1.has (by simp [go_sem])
       have d4 : w1.cell? ⟨w.heap.size + 1, 1, none⟩ = some (.int .u64 0) := hx1.has (by simp [go_sem])
       have f3 : w1.frozen? ⟨w.heap.size + 1, 0, none⟩ = false := hx1.froz (v := .int .u64 0) (by simp [go_sem]) (by simp [go_sem])
       have f4 : w1.frozen? ⟨w.heap.size + 1, 1, none⟩ = false := hx1.froz (v := .int .u64 0) (by simp [go_sem]) (by simp [go_sem]))
    | (go_at_call 176; refine (CP.out _).mono ?_; rintro r w2 ⟨rfl, hx2⟩
       have b1 := hx2.has b1
       have b2 := hx2.has b2
       have f3 := hx2.froz d3 f3
       have f4 := hx2.froz d4 f4
       have d3 := hx2.has d3
       have d4 := hx2.has d4)
    | (go_at_call 152; refine (CA.out _).mono ?_; rintro r w3 ⟨rfl, rfl⟩))
  (try simp only [Exit.inBlock, Exit.then])
  refine bodyPost_ret zSlTac1_5 rfl ?_
  exact ⟨rfl, zSlTac1_0⟩
theorem pLeave_bad (t s x n e : Int) (he : ¬ e = 0)
    (CV : Hid (∀ w, Calls Tryz.prog 177 #[.agg #[.int .u64 t, .int .u64 s], .int .u64 x] w fun r w' => r = .returned (.tuple #[.int .u64 n, .int .i64 e]) ∧ Ext w w')) (w : World) :
    Calls Tryz.prog 133 #[.agg #[.int .u64 t, .int .u64 s], .int .u64 x] w fun r w' => r = .returned (.tuple #[.agg #[.int .u64 0, .int .u64 0], .int .u64 0, .int .i64 e]) ∧ Ext w w' := by
  go_enter Tryz.func133, Tryz.ntmps133
  go_wp2_with (first
    | (go_at_call 177; refine (CV.out _).mono ?_; rintro r w1 ⟨rfl, hx1⟩
       have hs1 := hx1.size
       simp at hs1
       have b1 : w1.cell? ⟨w.heap.size, 0, none⟩ = some (.int .u64 t) := hx1.has (by simp [go_sem])
       have b2 : w1.cell? ⟨w.heap.size, 1, none⟩ = some (.int .u64 s) := hx1.has (by simp [go_sem])
       have d3 : w1.cell? ⟨w.heap.size + 1, 0, none⟩ = some (.int .u64 0) := hx1.has (by simp [go_sem])
       have d4 : w1.cell? ⟨w.heap.size + 1, 1, none⟩ = some (.int .u64 0) := hx1.has (by simp [go_sem])
       have f3 : w1.frozen? ⟨w.heap.size + 1, 0, none⟩ = false := hx1.froz (v := .int .u64 0) (by simp [go_sem]) (by simp [go_sem])
       have f4 : w1.frozen? ⟨w.heap.size + 1, 1, none⟩ = false := hx1.froz (v := .int .u64 0) (by simp [go_sem]) (by simp [go_sem])))
  (try simp only [Exit.inBlock, Exit.then])
  refine bodyPost_ret (by simp [results, Tryz.results133, go_sem, d3, d4]; try rfl) rfl ?_
  exact ⟨rfl, zSlTac1_0⟩
theorem pLeave_dust (t s x : Int)
    (CV : Hid (∀ w, Calls Tryz.prog 177 #[.agg #[.int .u64 t, .int .u64 s], .int .u64 x] w fun r w' => r = .returned (.tuple #[.int .u64 0, .int .i64 0]) ∧ Ext w w')) (w : World) :
    Calls Tryz.prog 133 #[.agg #[.int .u64 t, .int .u64 s], .int .u64 x] w fun r w' => r = .returned (.tuple #[.agg #[.int .u64 0, .int .u64 0], .int .u64 0, .int .i64 14]) ∧ Ext w w' := by
  go_enter Tryz.func133, Tryz.ntmps133
  go_wp2_with (first
    | (go_at_call 177; refine (CV.out _).mono ?_; rintro r w1 ⟨rfl, hx1⟩
       have hs1 := hx1.size
       simp at hs1
       have b1 : w1.cell? ⟨w.heap.size, 0, none⟩ = some (.int .u64 t) := hx1.has (by simp [go_sem])
       have b2 : w1.cell? ⟨w.heap.size, 1, none⟩ = some (.int .u64 s) := hx1.has (by simp [go_sem])
       have d3 : w1.cell? ⟨w.heap.size + 1, 0, none⟩ = some (.int .u64 0) := hx1.has (by simp [go_sem])
       have d4 : w1.cell? ⟨w.heap.size + 1, 1, none⟩ = some (.int .u64 0) := hx1.has (by simp [go_sem])
       have f3 : w1.frozen? ⟨w.heap.size + 1, 0, none⟩ = false := hx1.froz (v := .int .u64 0) (by simp [go_sem]) (by simp [go_sem])
       have f4 : w1.frozen? ⟨w.heap.size + 1, 1, none⟩ = false := hx1.froz (v := .int .u64 0) (by simp [go_sem]) (by simp [go_sem])))
  (try simp only [Exit.inBlock, Exit.then])
  refine bodyPost_ret (by simp [results, Tryz.results133, go_sem, d3, d4]; try rfl) rfl ?_
  exact ⟨rfl, zSlTac1_0⟩
theorem pLeave_ok (t s x n : Int) (h : (n == 0) = false) (n0 : 0 ≤ n) (n1 : n ≤ t) (t1 : t < 18446744073709551616) (x0 : 0 ≤ x) (x1 : x ≤ s) (s1 : s < 18446744073709551616)
    (CV : Hid (∀ w, Calls Tryz.prog 177 #[.agg #[.int .u64 t, .int .u64 s], .int .u64 x] w fun r w' => r = .returned (.tuple #[.int .u64 n, .int .i64 0]) ∧ Ext w w')) (w : World) :
    Calls Tryz.prog 133 #[.agg #[.int .u64 t, .int .u64 s], .int .u64 x] w fun r w' => r = .returned (.tuple #[.agg #[.int .u64 (t - n), .int .u64 (s - x)], .int .u64 n, .int .i64 0]) ∧ Ext w w' := by
  have e1 : IntKind.u64.wrap (t - n) = t - n := by rw [IntKind.wrap_u64]; omega
  have e2 : IntKind.u64.wrap (s - x) = s - x := by rw [IntKind.wrap_u64]; omega
  go_enter Tryz.func133, Tryz.ntmps133
  go_wp2_with (first
    | (go_at_call 177; refine (CV.out _).mono ?_; rintro r w1 ⟨rfl, hx1⟩
       have hs1 := hx1.size
       simp at hs1
       have b1 : w1.cell? ⟨w.heap.size, 0, none⟩ = some (.int .u64 t) := hx1.has (by simp [go_sem])
       have b2 : w1.cell? ⟨w.heap.size, 1, none⟩ = some (.int .u64 s) := hx1.has (by simp [go_sem])
       have d3 : w1.cell? ⟨w.heap.size + 1, 0, none⟩ = some (.int .u64 0) := hx1.has (by simp [go_sem])
       have d4 : w1.cell? ⟨w.heap.size + 1, 1, none⟩ = some (.int .u64 0) := hx1.has (by simp [go_sem])
       have f3 : w1.frozen? ⟨w.heap.size + 1, 0, none⟩ = false := hx1.froz (v := .int .u64 0) (by simp [go_sem]) (by simp [go_sem])
       have f4 : w1.frozen? ⟨w.heap.size + 1, 1, none⟩ = false := hx1.froz (v := .int .u64 0) (by simp [go_sem]) (by simp [go_sem])))
  (try simp only [Exit.inBlock, Exit.then])
  refine bodyPost_ret (by simp [results, Tryz.results133, go_sem, d3, d4]; try rfl) rfl ?_
  exact ⟨rfl, zSlTac1_0⟩
theorem pCut_bad (t s x c : Int) (hc : ¬ c = 0)
    (CK : Hid (∀ w, Calls Tryz.prog 121 #[.agg #[.int .u64 t, .int .u64 s]] w fun r w' => r = .returned (.int .i64 c) ∧ Ext w w')) (w : World) :
    Calls Tryz.prog 134 #[.agg #[.int .u64 t, .int .u64 s], .int .u64 x] w fun r w' => r = .returned (.tuple #[.agg #[.int .u64 0, .int .u64 0], .int .u64 0, .int .i64 c]) ∧ Ext w w' := by
  go_enter Tryz.func134, Tryz.ntmps134
  go_wp2_with (first
    | (go_at_call 121; refine (CK.out _).mono ?_; rintro r w1 ⟨rfl, hx1⟩
       have hs1 := hx1.size
       simp at hs1
       have b1 : w1.cell? ⟨w.heap.size, 0, none⟩ = some (.int .u64 t) := hx1.has (by simp [go_sem])
       have b2 : w1.cell? ⟨w.heap.size, 1, none⟩ = some (.int .u64 s) := hx1.has (by simp [go_sem])
       have d3 : w1.cell? ⟨w.heap.size + 1, 0, none⟩ = some (.int .u64 0) := hx1.has (by simp [go_sem])
       have d4 : w1.cell? ⟨w.heap.size + 1, 1, none⟩ = some (.int .u64 0) := hx1.has (by simp [go_sem])
       have f3 : w1.frozen? ⟨w.heap.size + 1, 0, none⟩ = false := hx1.froz (v := .int .u64 0) (by simp [go_sem]) (by simp [go_sem])
       have f4 : w1.frozen? ⟨w.heap.size + 1, 1, none⟩ = false := hx1.froz (v := .int .u64 0) (by simp [go_sem]) (by simp [go_sem])))
  (try simp only [Exit.inBlock, Exit.then])
  refine bodyPost_ret (by simp [results, Tryz.results134, go_sem, d3, d4]; try rfl) rfl ?_
  exact ⟨rfl, zSlTac1_0⟩
theorem pCut_e (t s x n e : Int) (he : ¬ e = 0)
    (CK : Hid (∀ w, Calls Tryz.prog 121 #[.agg #[.int .u64 t, .int .u64 s]] w fun r w' => r = .returned (.int .i64 0) ∧ Ext w w'))
    (CR : Hid (∀ w, Calls Tryz.prog 178 #[.int .u64 t, .int .u64 x] w fun r w' => r = .returned (.tuple #[.int .u64 n, .int .i64 e]) ∧ w = w')) (w : World) :
    Calls Tryz.prog 134 #[.agg #[.int .u64 t, .int .u64 s], .int .u64 x] w fun r w' => r = .returned (.tuple #[.agg #[.int .u64 0, .int .u64 0], .int .u64 0, .int .i64 e]) ∧ Ext w w' := by
  go_enter Tryz.func134, Tryz.ntmps134
  go_wp2_with (first
    | (go_at_call 121; refine (CK.out _).mono ?_; rintro r w1 ⟨rfl, hx1⟩
       have hs1 := hx1.size
       simp at hs1
       have b1 : w1.cell? ⟨w.heap.size, 0, none⟩ = some (.int .u64 t) := hx1.has (by simp [go_sem])
       have b2 : w1.cell? ⟨w.heap.size, 1, none⟩ = some (.int .u64 s) := hx1.has (by simp [go_sem])
       have d3 : w1.cell? ⟨w.heap.size + 1, 0, none⟩ = some (.int .u64 0) := hx1.has (by simp [go_sem])
       have d4 : w1.cell? ⟨w.heap.size + 1, 1, none⟩ = some (.int .u64 0) := hx1.has (by simp [go_sem])
       have f3 : w1.frozen? ⟨w.heap.size + 1, 0, none⟩ = false := hx1.froz (v := .int .u64 0) (by simp [go_sem]) (by simp [go_sem])
       have f4 : w1.frozen? ⟨w.heap.size + 1, 1, none⟩ = false := hx1.froz (v := .int .u64 0) (by simp [go_sem]) (by simp [go_sem]))
    | (go_at_call 178; refine (CR.out _).mono ?_; rintro r w2 ⟨rfl, rfl⟩))
  (try simp only [Exit.inBlock, Exit.then])
  refine bodyPost_ret (by simp [results, Tryz.results134, go_sem, d3, d4]; try rfl) rfl ?_
  exact ⟨rfl, zSlTac1_0⟩
theorem pCut_all (t s x : Int)
    (CK : Hid (∀ w, Calls Tryz.prog 121 #[.agg #[.int .u64 t, .int .u64 s]] w fun r w' => r = .returned (.int .i64 0) ∧ Ext w w'))
    (CR : Hid (∀ w, Calls Tryz.prog 178 #[.int .u64 t, .int .u64 x] w fun r w' => r = .returned (.tuple #[.int .u64 t, .int .i64 0]) ∧ w = w')) (w : World) :
    Calls Tryz.prog 134 #[.agg #[.int .u64 t, .int .u64 s], .int .u64 x] w fun r w' => r = .returned (.tuple #[.agg #[.int .u64 0, .int .u64 0], .int .u64 t, .int .i64 0]) ∧ Ext w w' := by
  go_enter Tryz.func134, Tryz.ntmps134
  go_wp2_with (first
    | (go_at_call 121; refine (CK.out _).mono ?_; rintro r w1 ⟨rfl, hx1⟩
       have hs1 := hx1.size
       simp at hs1
       have b1 : w1.cell? ⟨w.heap.size, 0, none⟩ = some (.int .u64 t) := hx1.has (by simp [go_sem])
       have b2 : w1.cell? ⟨w.heap.size, 1, none⟩ = some (.int .u64 s) := hx1.has (by simp [go_sem])
       have d3 : w1.cell? ⟨w.heap.size + 1, 0, none⟩ = some (.int .u64 0) := hx1.has (by simp [go_sem])
       have d4 : w1.cell? ⟨w.heap.size + 1, 1, none⟩ = some (.int .u64 0) := hx1.has (by simp [go_sem])
       have f3 : w1.frozen? ⟨w.heap.size + 1, 0, none⟩ = false := hx1.froz (v := .int .u64 0) (by simp [go_sem]) (by simp [go_sem])
       have f4 : w1.frozen? ⟨w.heap.size + 1, 1, none⟩ = false := hx1.froz (v := .int .u64 0) (by simp [go_sem]) (by simp [go_sem]))
    | (go_at_call 178; refine (CR.out _).mono ?_; rintro r w2 ⟨rfl, rfl⟩))
  (try simp only [Exit.inBlock, Exit.then])
  refine bodyPost_ret (by simp [results, Tryz.results134, go_sem, d3, d4]; try rfl) rfl ?_
  exact ⟨rfl, zSlTac1_0⟩
theorem pCut_some (t s x n : Int) (h : (n == t) = false) (n0 : 0 ≤ n) (n1 : n ≤ t) (t1 : t < 18446744073709551616)
    (CK : Hid (∀ w, Calls Tryz.prog 121 #[.agg #[.int .u64 t, .int .u64 s]] w fun r w' => r = .returned (.int .i64 0) ∧ Ext w w'))
    (CR : Hid (∀ w, Calls Tryz.prog 178 #[.int .u64 t, .int .u64 x] w fun r w' => r = .returned (.tuple #[.int .u64 n, .int .i64 0]) ∧ w = w')) (w : World) :
    Calls Tryz.prog 134 #[.agg #[.int .u64 t, .int .u64 s], .int .u64 x] w fun r w' => r = .returned (.tuple #[.agg #[.int .u64 (t - n), .int .u64 s], .int .u64 n, .int .i64 0]) ∧ Ext w w' := by
  have e1 : IntKind.u64.wrap (t - n) = t - n := by rw [IntKind.wrap_u64]; omega
  go_enter Tryz.func134, Tryz.ntmps134
  go_wp2_with (first
    | (go_at_call 121; refine (CK.out _).mono ?_; rintro r w1 ⟨rfl, hx1⟩
       have hs1 := hx1.size
       simp at hs1
       have b1 : w1.cell? ⟨w.heap.size, 0, none⟩ = some (.int .u64 t) := hx1.has (by simp [go_sem])
       have b2 : w1.cell? ⟨w.heap.size, 1, none⟩ = some (.int .u64 s) := hx1.has (by simp [go_sem])
       have d3 : w1.cell? ⟨w.heap.size + 1, 0, none⟩ = some (.int .u64 0) := hx1.has (by simp [go_sem])
       have d4 : w1.cell? ⟨w.heap.size + 1, 1, none⟩ = some (.int .u64 0) := hx1.has (by simp [go_sem])
       have f3 : w1.frozen? ⟨w.heap.size + 1, 0, none⟩ = false := hx1.froz (v := .int .u64 0) (by simp [go_sem]) (by simp [go_sem])
       have f4 : w1.frozen? ⟨w.heap.size + 1, 1, none⟩ = false := hx1.froz (v := .int .u64 0) (by simp [go_sem]) (by simp [go_sem]))
    | (go_at_call 178; refine (CR.out _).mono ?_; rintro r w2 ⟨rfl, rfl⟩))
  (try simp only [Exit.inBlock, Exit.then])
  refine bodyPost_ret (by simp [results, Tryz.results134, go_sem, d3, d4]; try rfl) rfl ?_
  exact ⟨rfl, zSlTac1_0⟩
theorem addE_cases (a b : Int) : (addE a b = 0 ∧ a + b < 18446744073709551616 ∧ addN a b = a + b) ∨ (addE a b = 12 ∧ ¬ a + b < 18446744073709551616) := by
 unfold addE addN
 by_cases h : a + b < 18446744073709551616
 ·exact .inl ⟨if_pos h, h, if_pos h⟩
 exact .inr ⟨if_neg h, h⟩
theorem joE_over {t s a : Int} (ha : ¬ a = 0) (h : joB t s a = true) : joE t s a = 12 := by
 unfold joE
 simp [firstE, ha, h]
theorem joE_ok {t s a : Int} (ha : ¬ a = 0) (h : joB t s a = false) : joE t s a = 0 := by
 unfold joE
 simp [firstE, ha, h]
theorem pJoin_any (t s x : Int) (ht : Word t) (hs : Word s) (hx : Word x) (w : World) :
  Calls Tryz.prog 129 #[.agg #[.int .u64 t, .int .u64 s], .int .u64 x] w fun r w' => r = .returned (.tuple #[.agg #[.int .u64 (joiT t s x), .int .u64 (joiS t s x)], .int .u64 (joiN t s x), .int .i64 (joiE t s x)]) ∧ Ext w w' := by
 have CK := pCheck_any t s
 unfold joiT joiS joiN
 by_cases hc : chkE t s = 0
 ·obtain ⟨k1, k2, k3⟩ := chk_ok ht hs hc
  rw [hc] at CK
  have e : joiE t s x = joE t s x := if_pos hc
  rw [e]
  by_cases h0 : x = 0
  ·have e : joE t s x = 14 := by unfold joE; simp [firstE, h0]
   rw [e, if_neg (by decide), if_neg (by decide), if_neg (by decide)]
   exact pJoin_dust t s x h0 CK w
  have h0' : (x == 0) = false := by simpa using h0
  have CP := pPrice_any t s x ht hs hx
  have p1 : pccE t s x = priE t s x := if_pos hc
  have wn : Word (pccN t s x) := by
   unfold pccN
   split
   ·exact word_priN ht hs hx
   exact ⟨by decide, by decide⟩
  have CA := fun w => rAdd_any s (pccN t s x) hs wn w
  by_cases h1 : priE t s x = 0
  ·have p2 : pccN t s x = priN t s x := if_pos (p1.trans h1)
   rw [p2] at CP CA
   rw [p1, h1] at CP
   rcases addE_cases s (priN t s x) with ⟨q1, q2, q3⟩ | ⟨q1, q2⟩
   ·rw [q1] at CA
    by_cases hm : 4611686018427387904 - t < x
    ·have e : joE t s x = 12 := joE_over h0 (by
      unfold joB
      rcases addE_cases t x with ⟨r1, r2, r3⟩ | ⟨r1, r2⟩
      ·rw [h1, r1, q1, r3]; simp; omega
      rw [r1]; simp)
     rw [e, if_neg (by decide), if_neg (by decide), if_neg (by decide)]
     exact pJoin_max t s x _ _ h0' ⟨ht.1, k2⟩ hm CK CP CA w
    rcases addE_cases t x with ⟨r1, r2, r3⟩ | ⟨r1, r2⟩
    ·have e : joE t s x = 0 := joE_ok h0 (by
      unfold joB
      rw [h1, r1, q1, r3]; simp; omega)
     rw [e, if_pos rfl, if_pos rfl, if_pos rfl, r3]
     exact pJoin_ok t s x _ _ h0' ⟨ht.1, k2⟩ hm hx.1 CK CP CA w
    exact absurd r2 (by omega)
   have e : joE t s x = 12 := joE_over h0 (by unfold joB; rw [q1]; simp)
   rw [e, if_neg (by decide), if_neg (by decide), if_neg (by decide)]
   exact pJoin_g t s x (priN t s x) (addN s (priN t s x)) (addE s (priN t s x)) h0' (by rw [q1]; decide) CK CP CA w
  have e : joE t s x = 12 := joE_over h0 (by unfold joB; simp [h1])
  rw [e, if_neg (by decide), if_neg (by decide), if_neg (by decide)]
  rw [p1] at CP
  exact pJoin_e t s x _ _ _ _ h0' h1 CK CP CA w
 have e : joiE t s x = chkE t s := if_neg hc
 rw [e, if_neg hc, if_neg hc, if_neg hc]
 exact pJoin_bad t s x _ hc CK w
theorem pLeave_any (t s x : Int) (ht : Word t) (hs : Word s) (hx : Word x) (w : World) :
  Calls Tryz.prog 133 #[.agg #[.int .u64 t, .int .u64 s], .int .u64 x] w fun r w' => r = .returned (.tuple #[.agg #[.int .u64 (leaT t s x), .int .u64 (leaS t s x)], .int .u64 (leaN t s x), .int .i64 (leaE t s x)]) ∧ Ext w w' := by
 have CV := pValue_any t s x ht hs hx
 unfold leaT leaS leaN
 by_cases hc : chkE t s = 0
 ·by_cases h : s < x
  ·have e : leaE t s x = 13 := by unfold leaE; rw [if_pos hc, if_pos h]
   have e2 : valE t s x = 13 := by unfold valE; rw [if_pos hc, if_pos (by simpa using h)]
   rw [e, if_neg (by decide), if_neg (by decide), if_neg (by decide)]
   rw [e2] at CV
   exact pLeave_bad t s x _ 13 (by decide) CV w
  obtain ⟨n0, n1⟩ := worV_le ht hs hx (by omega)
  have e2 : valE t s x = 0 := by unfold valE; rw [if_pos hc, if_neg (by simpa using h)]
  have e3 : valN t s x = worV t s x := if_pos e2
  rw [e2, e3] at CV
  by_cases hz : worV t s x = 0
  ·have e : leaE t s x = 14 := by unfold leaE; rw [if_pos hc, if_neg h, if_pos hz]
   rw [e, if_neg (by decide), if_neg (by decide), if_neg (by decide)]
   rw [hz] at CV
   exact pLeave_dust t s x CV w
  have e : leaE t s x = 0 := by unfold leaE; rw [if_pos hc, if_neg h, if_neg hz]
  rw [e, if_pos rfl, if_pos rfl, if_pos rfl]
  exact pLeave_ok t s x _ (by simpa using hz) n0 n1 ht.2 hx.1 (by omega) hs.2 CV w
 have e : leaE t s x = chkE t s := if_neg hc
 have e2 : valE t s x = chkE t s := if_neg hc
 rw [e, if_neg hc, if_neg hc, if_neg hc]
 rw [e2] at CV
 exact pLeave_bad t s x _ _ hc CV w
theorem pCut_any (t s p : Int) (ht : Word t) (hs : Word s) (hp : Word p) (w : World) :
    Calls Tryz.prog 134 #[.agg #[.int .u64 t, .int .u64 s], .int .u64 p] w fun r w' => r = .returned (.tuple #[.agg #[.int .u64 (cutT t s p), .int .u64 (cutS t s p)], .int .u64 (cutN t s p), .int .i64 (cutE t s p)]) ∧ Ext w w' := by
  have CK := pCheck_any t s
  have CR := rPart_any t p ht hp
  obtain ⟨n0, n1⟩ := paN_le ht hp
  unfold cutT cutS cutN
  by_cases hc : chkE t s = 0
  · rw [hc] at CK
    have e : cutE t s p = paE t p := if_pos hc
    rw [e]
    by_cases h : paE t p = 0
    · rw [h] at CR
      rw [h, if_pos rfl, if_pos rfl, if_pos rfl]
      by_cases hz : t - paN t p = 0
      · rw [if_pos hz, hz]
        have e2 : paN t p = t := by omega
        rw [e2] at CR ⊢
        exact pCut_all t s p CK CR w
      rw [if_neg hz]
      exact pCut_some t s p _ (by have : ¬ paN t p = t := by omega
                                  simpa using this) n0 n1 ht.2 CK CR w
    rw [if_neg h, if_neg h, if_neg h]
    exact pCut_e t s p _ _ h CK CR w
  have e : cutE t s p = chkE t s := if_neg hc
  rw [e, if_neg hc, if_neg hc, if_neg hc]
  exact pCut_bad t s p _ hc CK w
end
section
open Go.RowKit Go.ChangeShapes Go.WideShapes Go.Deep Go.Joins
def bkR (E V S P F v h u : Int) : Bool := if E ≠ 0 then false else if v < 0 then false else if v = V then (decide (S ≤ h) && (decide (u < 1) || decide (h ≤ u))) else (decide (v = P) && (decide (F ≤ h) && decide (h ≤ S)))
theorem bkR_eq {V S P F v h u : Int} (hh : h ≤ 9223372036854775807) : bkR (chkS V S P F) V S P F v h u = bkdB V S P F v h u := by
 unfold bkR bkdB
 by_cases he : chkS V S P F = 0
 ·obtain ⟨q1, q2, q3, q4, q5, q6, q7, q8, q9, _⟩ := chkS_ok he
  rw [if_neg (by simpa using he), if_pos he]
  unfold hasB
  by_cases hv : v < 0
  ·rw [if_pos hv]
   have e1 : (V == v) = false := by simp; omega
   have e2 : (P < 0) ∨ (P == v) = false := by
    by_cases hP : P < 0
    ·exact .inl hP
    right; simp; omega
   rcases e2 with e2 | e2 <;> simp [e1, e2]
  rw [if_neg hv]
  by_cases hV : v = V
  ·rw [if_pos hV]
   have e1 : (V == v) = true := by simp [hV]
   have e2 : (P == v) = false := by simp; omega
   rw [e1, e2]
   by_cases hu : u < 1
   ·simp [hu, hh]
   simp [hu]
  rw [if_neg hV]
  have e1 : (V == v) = false := by simp; omega
  rw [e1]
  by_cases hP : P < 0
  ·have : ¬ v = P := by omega
   simp [hP, this]
  by_cases hvP : v = P
  ·simp [hP, hvP]
  have : ¬ P = v := fun e => hvP e.symm
  simp [hP, hvP, this]
 rw [if_pos (by simpa using he), if_neg he]
theorem rBacked12_any (V S P F v h u : Int) (hh : h ≤ 9223372036854775807) (w : World) :
  Calls Tryz.prog 86 #[.agg #[.int .i64 V, .int .i64 S, .int .i64 P, .int .i64 F], .int .i64 v, .int .i64 h, .int .i64 u] w fun r w' => r = .returned (.bool (bkdB V S P F v h u)) ∧ Ext w w' := by
 rw [← bkR_eq hh]
 have CE := Lib.hid (fun w => rCheck12_any V S P F w)
 obtain ⟨E, hE⟩ : ∃ E, E = chkS V S P F := ⟨_, rfl⟩
 rw [← hE] at CE ⊢
 obtain ⟨b, hb⟩ : ∃ b, b = (decide (F ≤ h) && decide (h ≤ S)) := ⟨_, rfl⟩
 have CW := Lib.hid (fun w => rwithin_any h F S b (by rw [hb]; unfold outB; by_cases h1 : F ≤ h <;> by_cases h2 : h ≤ S <;> simp [h1, h2] <;> omega) w)
 have HB := Lib.hid hb
 clear hE hb
 go_enter Tryz.func86, Tryz.ntmps86
 by_cases q1 : ¬ E = 0
 ·have q1b : (E != 0) = true := by simp [q1]
  go_wp2_with fail
  (with_reducible refine (CE.out _).mono ?_)
  rintro e w1 ⟨rfl, hx1⟩
  have c0_0 : w1.cell? ⟨w.heap.size, 0, none⟩ = some (.int .i64 V) := hx1.has zSlTac1_1
  have c0_1 : w1.cell? ⟨w.heap.size, 1, none⟩ = some (.int .i64 S) := hx1.has zSlTac1_1
  have c0_2 : w1.cell? ⟨w.heap.size, 2, none⟩ = some (.int .i64 P) := hx1.has zSlTac1_1
  have c0_3 : w1.cell? ⟨w.heap.size, 3, none⟩ = some (.int .i64 F) := hx1.has zSlTac1_1
  have z1 := hx1.size
  try simp at z1
  have rc0 := zr w.heap.size w1
  have X1 : Hid (Ext w w1) := Lib.hid (Ext.trans zxt hx1)
  clear hx1 z1
  go_wp2_with fail
  go_ret
  exact ⟨ret_bool (by unfold bkR; rw [if_pos (by omega)]), zxt⟩
 have q1b : (E != 0) = false := by simpa using q1
 go_wp2_with fail
 (with_reducible refine (CE.out _).mono ?_)
 rintro e w1 ⟨rfl, hx1⟩
 have c0_0 : w1.cell? ⟨w.heap.size, 0, none⟩ = some (.int .i64 V) := hx1.has zSlTac1_1
 have c0_1 : w1.cell? ⟨w.heap.size, 1, none⟩ = some (.int .i64 S) := hx1.has zSlTac1_1
 have c0_2 : w1.cell? ⟨w.heap.size, 2, none⟩ = some (.int .i64 P) := hx1.has zSlTac1_1
 have c0_3 : w1.cell? ⟨w.heap.size, 3, none⟩ = some (.int .i64 F) := hx1.has zSlTac1_1
 have z1 := hx1.size
 try simp at z1
 have rc0 := zr w.heap.size w1
 have X1 : Hid (Ext w w1) := Lib.hid (Ext.trans zxt hx1)
 clear hx1 z1
 by_cases q2 : v < 0
 ·go_wp2_with fail
  go_ret
  exact ⟨ret_bool (by unfold bkR; rw [if_neg (by omega)]; rw [if_pos (by omega)]), zxt⟩
 by_cases q3 : v = V
 ·have q3b : (v == V) = true := by simpa using q3
  clear q3
  have q3 := Lib.hid q3b
  by_cases q4 : S ≤ h
  ·by_cases q5 : u < 1
   ·go_wp2_with fail
    go_ret
    have q3' : v = V := by simpa using q3.out
    exact ⟨ret_bool (by unfold bkR; rw [if_neg (by omega)]; rw [if_neg (by omega)]; rw [if_pos q3']; rw [decide_eq_true (show S ≤ h by omega), Bool.true_and]; rw [decide_eq_true (show u < 1 by omega), Bool.true_or]), zxt⟩
   go_wp2_with fail
   go_ret
   have q3' : v = V := by simpa using q3.out
   exact ⟨ret_bool (by unfold bkR; rw [if_neg (by omega)]; rw [if_neg (by omega)]; rw [if_pos q3']; rw [decide_eq_true (show S ≤ h by omega), Bool.true_and]; try rw [decide_eq_false (show ¬ u < 1 by omega), Bool.false_or]), zxt⟩
  go_wp2_with fail
  go_ret
  have q3' : v = V := by simpa using q3.out
  exact ⟨ret_bool (by unfold bkR; rw [if_neg (by omega)]; rw [if_neg (by omega)]; rw [if_pos q3']; rw [decide_eq_false (show ¬ S ≤ h by omega), Bool.false_and]), zxt⟩
 have q3b : (v == V) = false := by simpa using q3
 by_cases q6 : v = P
 ·have q6b : (v == P) = true := by simpa using q6
  clear q6
  have q6 := Lib.hid q6b
  go_wp2_with fail
  (with_reducible refine (CW.out _).mono ?_)
  rintro e w_1 ⟨rfl, rfl⟩
  go_wp2_with fail
  go_ret
  have q6' : v = P := by simpa using q6.out
  exact ⟨ret_bool (by unfold bkR; rw [if_neg (by omega)]; rw [if_neg (by omega)]; rw [if_neg (by simpa using q3b)]; rw [HB.out, decide_eq_true q6', Bool.true_and]), zxt⟩
 have q6b : (v == P) = false := by simpa using q6
 go_wp2_with fail
 go_ret
 exact ⟨ret_bool (by unfold bkR; rw [if_neg (by omega)]; rw [if_neg (by omega)]; rw [if_neg (by simpa using q3b)]; rw [decide_eq_false (by simpa using q6b), Bool.false_and]), zxt⟩
theorem bkdB_neg (V S P F v h : Int) : bkdB V S P F v h (-1) = bkdB V S P F v h 0 := by unfold bkdB; simp
theorem rCompare12_any (a b c d a' b' c' d' : Int) (w : World) :
  Calls Tryz.prog 119 #[.agg #[.int .i64 a, .int .i64 b, .int .i64 c, .int .i64 d], .agg #[.int .i64 a', .int .i64 b', .int .i64 c', .int .i64 d']] w fun r w' => r = .returned (.int .i64 (cmpL [(a, a'), (b, b'), (c, c'), (d, d')])) ∧ Ext w w' := by
 obtain ⟨V, hV⟩ : ∃ V, V = cmpL [(a, a'), (b, b'), (c, c'), (d, d')] := ⟨_, rfl⟩
 rw [← hV]
 have HV := Lib.hid hV
 clear hV
 go_enter Tryz.func119, Tryz.ntmps119
 go_wp2
 go_loopg [7] 4 (fun gh i wx => gh ≤ 4 ∧ i = .int .i64 ((4 - gh : Nat) : Int) ∧ Hid (V = cmpL ([(a, a'), (b, b'), (c, c'), (d, d')].drop (4 - gh))) ∧ (wx.cell? ⟨w.heap.size + 1 + 1, 0, none⟩ = some (.int .i64 a) ∧ wx.cell? ⟨w.heap.size + 1 + 1, 1, none⟩ = some (.int .i64 b) ∧ wx.cell? ⟨w.heap.size + 1 + 1, 2, none⟩ = some (.int .i64 c) ∧ wx.cell? ⟨w.heap.size + 1 + 1, 3, none⟩ = some (.int .i64 d) ∧ wx.cell? ⟨w.heap.size + 1 + 1 + 1, 0, none⟩ = some (.int .i64 a') ∧ wx.cell? ⟨w.heap.size + 1 + 1 + 1, 1, none⟩ = some (.int .i64 b') ∧ wx.cell? ⟨w.heap.size + 1 + 1 + 1, 2, none⟩ = some (.int .i64 c') ∧ wx.cell? ⟨w.heap.size + 1 + 1 + 1, 3, none⟩ = some (.int .i64 d')) ∧ Ext w wx)
 case atStart => exact ⟨Nat.le_refl _, by simp, HV, ⟨by simp [go_sem, World.cell?_alloc_past], by simp [go_sem, World.cell?_alloc_past], by simp [go_sem, World.cell?_alloc_past], by simp [go_sem, World.cell?_alloc_past], by simp [go_sem, World.cell?_alloc_past], by simp [go_sem, World.cell?_alloc_past], by simp [go_sem, World.cell?_alloc_past], by simp [go_sem, World.cell?_alloc_past]⟩, (by repeat (first | with_reducible exact Ext.refl _ | with_reducible refine Ext.drew ?_ | with_reducible refine Ext.alloc ?_ _))⟩
 obtain ⟨hg, hi, H, ⟨x_0, x_1, x_2, x_3, y_0, y_1, y_2, y_3⟩, hx⟩ := hrel
 have XW := Lib.hid hx
 clear hx HV
 have hcase : gk = 0 ∨ gk = 4 ∨ gk = 3 ∨ gk = 2 ∨ gk = 1 := by omega
 rcases hcase with rfl | rfl | rfl | rfl | rfl
 ·change _ = Value.int .i64 4 at hi
  obtain rfl := hi
  have hv : V = 0 := H.out
  subst hv
  clear H
  go_wp2
  go_ret
  exact ⟨rfl, XW.out⟩
 ·change _ = Value.int .i64 0 at hi
  obtain rfl := hi
  have hd := H.out.trans (cmpL_drop (l := [(a, a'), (b, b'), (c, c'), (d, d')]) (k := 0) (x := (a, a')) rfl)
  clear H
  go_wp2_with fail
  refine wp_region_held_drew (S := fun w' => w'.cell? ⟨w.heap.size + 1 + 1, 0, none⟩ = some (.int .i64 a) ∧ w'.cell? ⟨w.heap.size + 1 + 1 + 1, 0, none⟩ = some (.int .i64 a')) (by kernel_rfl) (by first | with_reducible exact ⟨x_0, y_0⟩ | (simp [go_sem, World.cell?_alloc_past, x_0, y_0]; done)) (fun hHeld => ?_)
  refine' zt 0 ?_
  refine' zt 1 ?_
  refine' zt 2 ?_
  refine' zt 3 ?_
  refine' zt 4 ?_
  refine' zt 5 ?_
  refine' zt 6 ?_
  refine' zt 7 ?_
  refine' zt 8 ?_
  refine wpAnyH_done (by kernel_rfl) ?_ _
  by_cases h1 : a < a'
  ·have h1d : decide (a < a') = true := decide_eq_true h1
   rw [if_pos h1] at hd
   subst hd
   go_wp2_with fail
   go_ret
   exact ⟨rfl, zxt⟩
  have h1d : decide (a < a') = false := decide_eq_false h1
  go_wp2_with fail
  refine wp_region_held_drew (S := fun w' => w'.cell? ⟨w.heap.size + 1 + 1, 0, none⟩ = some (.int .i64 a) ∧ w'.cell? ⟨w.heap.size + 1 + 1 + 1, 0, none⟩ = some (.int .i64 a')) (by kernel_rfl) (by first | with_reducible exact ⟨x_0, y_0⟩ | (simp [go_sem, World.cell?_alloc_past, x_0, y_0]; done)) (fun hHeld => ?_)
  refine' zt 0 ?_
  refine' zt 1 ?_
  refine' zt 2 ?_
  refine' zt 3 ?_
  refine' zt 4 ?_
  refine' zt 5 ?_
  refine' zt 6 ?_
  refine' zt 7 ?_
  refine' zt 8 ?_
  refine wpAnyH_done (by kernel_rfl) ?_ _
  by_cases h2 : a' < a
  ·have h2d : decide (a' < a) = true := decide_eq_true h2
   rw [if_neg (by omega), if_pos (by omega)] at hd
   subst hd
   go_wp2_with fail
   go_ret
   exact ⟨rfl, zxt⟩
  have h2d : decide (a' < a) = false := decide_eq_false h2
  rw [if_neg (by omega), if_neg (by omega)] at hd
  have H := Lib.hid hd
  clear hd
  go_wp2_with fail
  go_roundg 3
  case measure => decide
  exact ⟨by decide, rfl, H, ⟨x_0, x_1, x_2, x_3, y_0, y_1, y_2, y_3⟩, zxt⟩
 ·change _ = Value.int .i64 1 at hi
  obtain rfl := hi
  have hd := H.out.trans (cmpL_drop (l := [(a, a'), (b, b'), (c, c'), (d, d')]) (k := 1) (x := (b, b')) rfl)
  clear H
  go_wp2_with fail
  refine wp_region_held_drew (S := fun w' => w'.cell? ⟨w.heap.size + 1 + 1, 1, none⟩ = some (.int .i64 b) ∧ w'.cell? ⟨w.heap.size + 1 + 1 + 1, 1, none⟩ = some (.int .i64 b')) (by kernel_rfl) (by first | with_reducible exact ⟨x_1, y_1⟩ | (simp [go_sem, World.cell?_alloc_past, x_1, y_1]; done)) (fun hHeld => ?_)
  refine' zt 0 ?_
  refine' zt 1 ?_
  refine' zt 2 ?_
  refine' zt 3 ?_
  refine' zt 4 ?_
  refine' zt 5 ?_
  refine' zt 6 ?_
  refine' zt 7 ?_
  refine' zt 8 ?_
  refine wpAnyH_done (by kernel_rfl) ?_ _
  by_cases h1 : b < b'
  ·have h1d : decide (b < b') = true := decide_eq_true h1
   rw [if_pos h1] at hd
   subst hd
   go_wp2_with fail
   go_ret
   exact ⟨rfl, zxt⟩
  have h1d : decide (b < b') = false := decide_eq_false h1
  go_wp2_with fail
  refine wp_region_held_drew (S := fun w' => w'.cell? ⟨w.heap.size + 1 + 1, 1, none⟩ = some (.int .i64 b) ∧ w'.cell? ⟨w.heap.size + 1 + 1 + 1, 1, none⟩ = some (.int .i64 b')) (by kernel_rfl) (by first | with_reducible exact ⟨x_1, y_1⟩ | (simp [go_sem, World.cell?_alloc_past, x_1, y_1]; done)) (fun hHeld => ?_)
  refine' zt 0 ?_
  refine' zt 1 ?_
  refine' zt 2 ?_
  refine' zt 3 ?_
  refine' zt 4 ?_
  refine' zt 5 ?_
  refine' zt 6 ?_
  refine' zt 7 ?_
  refine' zt 8 ?_
  refine wpAnyH_done (by kernel_rfl) ?_ _
  by_cases h2 : b' < b
  ·have h2d : decide (b' < b) = true := decide_eq_true h2
   rw [if_neg (by omega), if_pos (by omega)] at hd
   subst hd
   go_wp2_with fail
   go_ret
   exact ⟨rfl, zxt⟩
  have h2d : decide (b' < b) = false := decide_eq_false h2
  rw [if_neg (by omega), if_neg (by omega)] at hd
  have H := Lib.hid hd
  clear hd
  go_wp2_with fail
  go_roundg 2
  case measure => decide
  exact ⟨by decide, rfl, H, ⟨x_0, x_1, x_2, x_3, y_0, y_1, y_2, y_3⟩, zxt⟩
 ·change _ = Value.int .i64 2 at hi
  obtain rfl := hi
  have hd := H.out.trans (cmpL_drop (l := [(a, a'), (b, b'), (c, c'), (d, d')]) (k := 2) (x := (c, c')) rfl)
  clear H
  go_wp2_with fail
  refine wp_region_held_drew (S := fun w' => w'.cell? ⟨w.heap.size + 1 + 1, 2, none⟩ = some (.int .i64 c) ∧ w'.cell? ⟨w.heap.size + 1 + 1 + 1, 2, none⟩ = some (.int .i64 c')) (by kernel_rfl) (by first | with_reducible exact ⟨x_2, y_2⟩ | (simp [go_sem, World.cell?_alloc_past, x_2, y_2]; done)) (fun hHeld => ?_)
  refine' zt 0 ?_
  refine' zt 1 ?_
  refine' zt 2 ?_
  refine' zt 3 ?_
  refine' zt 4 ?_
  refine' zt 5 ?_
  refine' zt 6 ?_
  refine' zt 7 ?_
  refine' zt 8 ?_
  refine wpAnyH_done (by kernel_rfl) ?_ _
  by_cases h1 : c < c'
  ·have h1d : decide (c < c') = true := decide_eq_true h1
   rw [if_pos h1] at hd
   subst hd
   go_wp2_with fail
   go_ret
   exact ⟨rfl, zxt⟩
  have h1d : decide (c < c') = false := decide_eq_false h1
  go_wp2_with fail
  refine wp_region_held_drew (S := fun w' => w'.cell? ⟨w.heap.size + 1 + 1, 2, none⟩ = some (.int .i64 c) ∧ w'.cell? ⟨w.heap.size + 1 + 1 + 1, 2, none⟩ = some (.int .i64 c')) (by kernel_rfl) (by first | with_reducible exact ⟨x_2, y_2⟩ | (simp [go_sem, World.cell?_alloc_past, x_2, y_2]; done)) (fun hHeld => ?_)
  refine' zt 0 ?_
  refine' zt 1 ?_
  refine' zt 2 ?_
  refine' zt 3 ?_
  refine' zt 4 ?_
  refine' zt 5 ?_
  refine' zt 6 ?_
  refine' zt 7 ?_
  refine' zt 8 ?_
  refine wpAnyH_done (by kernel_rfl) ?_ _
  by_cases h2 : c' < c
  ·have h2d : decide (c' < c) = true := decide_eq_true h2
   rw [if_neg (by omega), if_pos (by omega)] at hd
   subst hd
   go_wp2_with fail
   go_ret
   exact ⟨rfl, zxt⟩
  have h2d : decide (c' < c) = false := decide_eq_false h2
  rw [if_neg (by omega), if_neg (by omega)] at hd
  have H := Lib.hid hd
  clear hd
  go_wp2_with fail
  go_roundg 1
  case measure => decide
  exact ⟨by decide, rfl, H, ⟨x_0, x_1, x_2, x_3, y_0, y_1, y_2, y_3⟩, zxt⟩
 change _ = Value.int .i64 3 at hi
 obtain rfl := hi
 have hd := H.out.trans (cmpL_drop (l := [(a, a'), (b, b'), (c, c'), (d, d')]) (k := 3) (x := (d, d')) rfl)
 clear H
 go_wp2_with fail
 refine wp_region_held_drew (S := fun w' => w'.cell? ⟨w.heap.size + 1 + 1, 3, none⟩ = some (.int .i64 d) ∧ w'.cell? ⟨w.heap.size + 1 + 1 + 1, 3, none⟩ = some (.int .i64 d')) (by kernel_rfl) (by first | with_reducible exact ⟨x_3, y_3⟩ | (simp [go_sem, World.cell?_alloc_past, x_3, y_3]; done)) (fun hHeld => ?_)
 refine' zt 0 ?_
 refine' zt 1 ?_
 refine' zt 2 ?_
 refine' zt 3 ?_
 refine' zt 4 ?_
 refine' zt 5 ?_
 refine' zt 6 ?_
 refine' zt 7 ?_
 refine' zt 8 ?_
 refine wpAnyH_done (by kernel_rfl) ?_ _
 by_cases h1 : d < d'
 ·have h1d : decide (d < d') = true := decide_eq_true h1
  rw [if_pos h1] at hd
  subst hd
  go_wp2_with fail
  go_ret
  exact ⟨rfl, zxt⟩
 have h1d : decide (d < d') = false := decide_eq_false h1
 go_wp2_with fail
 refine wp_region_held_drew (S := fun w' => w'.cell? ⟨w.heap.size + 1 + 1, 3, none⟩ = some (.int .i64 d) ∧ w'.cell? ⟨w.heap.size + 1 + 1 + 1, 3, none⟩ = some (.int .i64 d')) (by kernel_rfl) (by first | with_reducible exact ⟨x_3, y_3⟩ | (simp [go_sem, World.cell?_alloc_past, x_3, y_3]; done)) (fun hHeld => ?_)
 refine' zt 0 ?_
 refine' zt 1 ?_
 refine' zt 2 ?_
 refine' zt 3 ?_
 refine' zt 4 ?_
 refine' zt 5 ?_
 refine' zt 6 ?_
 refine' zt 7 ?_
 refine' zt 8 ?_
 refine wpAnyH_done (by kernel_rfl) ?_ _
 by_cases h2 : d' < d
 ·have h2d : decide (d' < d) = true := decide_eq_true h2
  rw [if_neg (by omega), if_pos (by omega)] at hd
  subst hd
  go_wp2_with fail
  go_ret
  exact ⟨rfl, zxt⟩
 have h2d : decide (d' < d) = false := decide_eq_false h2
 rw [if_neg (by omega), if_neg (by omega)] at hd
 have H := Lib.hid hd
 clear hd
 go_wp2_with fail
 go_roundg 0
 case measure => decide
 exact ⟨by decide, rfl, H, ⟨x_0, x_1, x_2, x_3, y_0, y_1, y_2, y_3⟩, zxt⟩
theorem rCompare12_at (a b c d a' b' c' d' V : Int) (w : World) (hV : V = cmpL [(a, a'), (b, b'), (c, c'), (d, d')]) :
  Calls Tryz.prog 119 #[.agg #[.int .i64 a, .int .i64 b, .int .i64 c, .int .i64 d], .agg #[.int .i64 a', .int .i64 b', .int .i64 c', .int .i64 d']] w fun r w' => r = .returned (.int .i64 V) ∧ Ext w w' := by
 subst hV
 exact rCompare12_any a b c d a' b' c' d' w
def FndI {α : Type} (key : α → List Int) (l : List α) (q : List Int) (i : Int) : Prop := (i = -1 ∧ getK key l q = none) ∨ ∃ (m : Nat) (x : α), i = (m : Int) ∧ l[m]? = some x ∧ getK key l q = some x
theorem getK_step_none {α : Type} {key : α → List Int} {l : List α} {q : List Int} {k : Nat} {x : α} (h : getK key (l.take k) q = none) (hx : l[k]? = some x) (hn : key x ≠ q) : getK key (l.take (k + 1)) q = none := by
 unfold getK at h ⊢
 rw [List.take_add_one, hx, List.find?_append, h]
 simp [hn]
theorem getK_step_some {α : Type} {key : α → List Int} {l : List α} {q : List Int} {k : Nat} {x : α} (h : getK key (l.take k) q = none) (hx : l[k]? = some x) (he : key x = q) : getK key l q = some x := by
 have e : l = l.take k ++ x :: l.drop (k + 1) := by rw [← drop_at hx, List.take_append_drop]
 unfold getK at h ⊢
 rw [e, List.find?_append, h]
 simp [he]
theorem r13owner_any (x : Int) (w : World) : Calls Tryz.prog 64 #[.int .i64 x] w fun r w' => r = .returned (.bool (decide (0 ≤ x ∧ x < 64))) ∧ w' = w := by
 by_cases h1 : 0 ≤ x
 ·by_cases h2 : x < 64
  ·rw [decide_eq_true (And.intro h1 h2)]
   go_enter Tryz.func64, Tryz.ntmps64
   go_wp2
   go_ret
   exact ⟨by simp [*], rfl⟩
  rw [decide_eq_false (fun h => h2 h.2)]
  go_enter Tryz.func64, Tryz.ntmps64
  go_wp2
  go_ret
  exact ⟨by simp [*], rfl⟩
 rw [decide_eq_false (fun h => h1 h.1)]
 go_enter Tryz.func64, Tryz.ntmps64
 go_wp2
 go_ret
 exact ⟨by simp [*], rfl⟩
theorem r13validator_any (x : Int) (w : World) : Calls Tryz.prog 85 #[.int .i64 x] w fun r w' => r = .returned (.bool (decide (0 ≤ x ∧ x < 32))) ∧ w' = w := by
 by_cases h1 : 0 ≤ x
 ·by_cases h2 : x < 32
  ·rw [decide_eq_true (And.intro h1 h2)]
   go_enter Tryz.func85, Tryz.ntmps85
   go_wp2
   go_ret
   exact ⟨by simp [*], rfl⟩
  rw [decide_eq_false (fun h => h2 h.2)]
  go_enter Tryz.func85, Tryz.ntmps85
  go_wp2
  go_ret
  exact ⟨by simp [*], rfl⟩
 rw [decide_eq_false (fun h => h1 h.1)]
 go_enter Tryz.func85, Tryz.ntmps85
 go_wp2
 go_ret
 exact ⟨by simp [*], rfl⟩
theorem r13class_any (n c n2 c2 : Nat) (A A2 : Option Addr) (cl : List I6) (V S P Q : Int) (w : World) (h : Sl w 6 A n c (cl.flatMap clsC)) :
  Calls Tryz.prog 66 #[.agg #[.slice A n c, .slice A2 n2 c2], .agg #[.int .i64 V, .int .i64 S, .int .i64 P, .int .i64 Q]] w fun r w' => ∃ i, r = .returned (.int .i64 i) ∧ FndI kC cl [V, S, P, Q] i ∧ Ext w w' := by
 have hll := h.rlen clsC_len (by decide)
 have hsm := h.small
 have HS := Lib.hid h
 have HLL := Lib.hid hll
 have pq1 := stm_eq
 have pq2 := stm_eqg
 clear h hll
 go_enter Tryz.func66, Tryz.ntmps66
 go_wp2
 go_loopg [5] n (fun gh i wx => gh ≤ n ∧ i = .int .i64 ((n - gh : Nat) : Int) ∧ Hid (getK kC (cl.take (n - gh)) [V, S, P, Q] = none) ∧ (wx.cell? ⟨w.heap.size, 0, none⟩ = some (.slice A n c) ∧ wx.cell? ⟨w.heap.size, 1, none⟩ = some (.slice A2 n2 c2) ∧ wx.cell? ⟨w.heap.size + 1, 0, none⟩ = some (.int .i64 V) ∧ wx.cell? ⟨w.heap.size + 1, 1, none⟩ = some (.int .i64 S) ∧ wx.cell? ⟨w.heap.size + 1, 2, none⟩ = some (.int .i64 P) ∧ wx.cell? ⟨w.heap.size + 1, 3, none⟩ = some (.int .i64 Q)) ∧ Ext w wx)
 case atStart => exact ⟨Nat.le_refl _, by simp, by rw [Nat.sub_self]; exact Lib.hid (by simp [getK]), ⟨by simp [go_sem, World.cell?_alloc_past], by simp [go_sem, World.cell?_alloc_past], by simp [go_sem, World.cell?_alloc_past], by simp [go_sem, World.cell?_alloc_past], by simp [go_sem, World.cell?_alloc_past], by simp [go_sem, World.cell?_alloc_past]⟩, zxt⟩
 obtain ⟨hg, hi, HI, ⟨b_0, b_1, s_0, s_1, s_2, s_3⟩, hx⟩ := hrel
 have XR := Lib.hid hx
 obtain ⟨k, hk⟩ : ∃ k, k = n - gk := ⟨_, rfl⟩
 rw [← hk] at hi HI
 subst hi
 by_cases hz : gk = 0
 ·have hkn : ¬ (k : Int) < (n : Int) := by omega
  have hN : getK kC cl [V, S, P, Q] = none := by have h := HI.out; rwa [List.take_of_length_le (by have := HLL.out; omega)] at h
  have HN := Lib.hid hN
  clear hk hg hz HI hx hN
  go_wp2
  go_ret
  exact ⟨_, rfl, .inl ⟨rfl, HN.out⟩, zxt⟩
 have hkn : (k : Int) < (n : Int) := by omega
 have hkl : k < cl.length := by have := HLL.out; omega
 have HSr := Lib.hid (HS.out.ext XR.out)
 obtain ⟨b1, o1, rfl, hb1, hc_x⟩ := HSr.out.rec_ clsC_len (show 0 < n from by omega)
 obtain ⟨xw, hl_x⟩ : ∃ x, cl[k]? = some x := ⟨_, List.getElem?_eq_getElem (by omega)⟩
 have x_0 := hc_x (k) xw hl_x 0 _ rfl
 have x_1 := hc_x (k) xw hl_x 1 _ rfl
 have x_2 := hc_x (k) xw hl_x 2 _ rfl
 have x_3 := hc_x (k) xw hl_x 3 _ rfl
 have x_4 := hc_x (k) xw hl_x 4 _ rfl
 have x_5 := hc_x (k) xw hl_x 5 _ rfl
 obtain ⟨xv, xs, xp, xf, xt, xh⟩ := xw
 simp only at x_0 x_1 x_2 x_3 x_4 x_5
 rw [Nat.add_zero] at x_0
 rw [← Nat.add_assoc] at x_1 x_2 x_3 x_4 x_5
 have HK := Lib.hid (And.intro hk (And.intro hg hz))
 have HX := Lib.hid hl_x
 clear hk hg hz hkl hl_x hc_x HSr hx
 by_cases hq : xv = V ∧ xs = S ∧ xp = P ∧ xf = Q
 ·have hqb := four_true hq
  have HQ := Lib.hid hq
  clear hq
  go_wp2_with fail
  refine wp_region_held_drew (S := fun w' => w'.cell? ⟨w.heap.size, 0, none⟩ = some (.slice (some ⟨b1, o1, none⟩) n c) ∧ w'.cell? ⟨w.heap.size + 1, 0, none⟩ = some (.int .i64 V) ∧ w'.cell? ⟨w.heap.size + 1, 1, none⟩ = some (.int .i64 S) ∧ w'.cell? ⟨w.heap.size + 1, 2, none⟩ = some (.int .i64 P) ∧ w'.cell? ⟨w.heap.size + 1, 3, none⟩ = some (.int .i64 Q) ∧ w'.cell? ⟨b1, o1 + k * 6, none⟩ = some (.int .i64 xv) ∧ w'.cell? ⟨b1, o1 + k * 6 + 1, none⟩ = some (.int .i64 xs) ∧ w'.cell? ⟨b1, o1 + k * 6 + 2, none⟩ = some (.int .i64 xp) ∧ w'.cell? ⟨b1, o1 + k * 6 + 3, none⟩ = some (.int .i64 xf)) (by kernel_rfl) (by first | with_reducible exact ⟨b_0, s_0, s_1, s_2, s_3, x_0, x_1, x_2, x_3⟩ | (simp [go_sem, World.cell?_alloc_past, *]; done)) (fun hHeld => ?_)
  refine' zt 0 ?_
  refine' zt 1 ?_
  refine' zt 2 ?_
  refine' zt 3 ?_
  refine' zt 4 ?_
  refine' zt 5 ?_
  refine' zt 6 ?_
  refine' zt 7 ?_
  refine wpAnyH_done (by kernel_rfl) ?_ _
  go_wp2_with fail
  go_ret
  exact ⟨_, rfl, .inr ⟨k, _, rfl, HX.out, getK_step_some HI.out HX.out (kC_eq HQ.out)⟩, zxt⟩
 have hqb := four_false hq
 have HQ := Lib.hid hq
 clear hq
 go_wp2_with fail
 refine wp_region_held_drew (S := fun w' => w'.cell? ⟨w.heap.size, 0, none⟩ = some (.slice (some ⟨b1, o1, none⟩) n c) ∧ w'.cell? ⟨w.heap.size + 1, 0, none⟩ = some (.int .i64 V) ∧ w'.cell? ⟨w.heap.size + 1, 1, none⟩ = some (.int .i64 S) ∧ w'.cell? ⟨w.heap.size + 1, 2, none⟩ = some (.int .i64 P) ∧ w'.cell? ⟨w.heap.size + 1, 3, none⟩ = some (.int .i64 Q) ∧ w'.cell? ⟨b1, o1 + k * 6, none⟩ = some (.int .i64 xv) ∧ w'.cell? ⟨b1, o1 + k * 6 + 1, none⟩ = some (.int .i64 xs) ∧ w'.cell? ⟨b1, o1 + k * 6 + 2, none⟩ = some (.int .i64 xp) ∧ w'.cell? ⟨b1, o1 + k * 6 + 3, none⟩ = some (.int .i64 xf)) (by kernel_rfl) (by first | with_reducible exact ⟨b_0, s_0, s_1, s_2, s_3, x_0, x_1, x_2, x_3⟩ | (simp [go_sem, World.cell?_alloc_past, *]; done)) (fun hHeld => ?_)
 refine' zt 0 ?_
 refine' zt 1 ?_
 refine' zt 2 ?_
 refine' zt 3 ?_
 refine' zt 4 ?_
 refine' zt 5 ?_
 refine' zt 6 ?_
 refine' zt 7 ?_
 refine wpAnyH_done (by kernel_rfl) ?_ _
 go_wp2_with fail
 go_roundg (gk - 1)
 case measure => have := HK.out; omega
 exact ⟨by have := HK.out; omega, num_eq (by have := HK.out; omega), by rw [show n - (gk - 1) = k + 1 from by have := HK.out; omega]; exact Lib.hid (getK_step_none HI.out HX.out (kC_ne (t := xt) (s := xh) HQ.out)), ⟨b_0, b_1, s_0, s_1, s_2, s_3⟩, zxt⟩
theorem r13position_any (n c n2 c2 : Nat) (A A2 : Option Addr) (ps : List I6) (O V S P Q : Int) (w : World) (h2 : Sl w 6 A2 n2 c2 (ps.flatMap posC)) :
  Calls Tryz.prog 82 #[.agg #[.slice A n c, .slice A2 n2 c2], .int .i64 O, .agg #[.int .i64 V, .int .i64 S, .int .i64 P, .int .i64 Q]] w fun r w' => ∃ i, r = .returned (.int .i64 i) ∧ FndI kP ps [O, V, S, P, Q] i ∧ Ext w w' := by
 have hll := h2.rlen posC_len (by decide)
 have hsm := h2.small
 have HS := Lib.hid h2
 have HLL := Lib.hid hll
 have pq1 := stm_eq
 have pq2 := stm_eqg
 clear h2 hll
 go_enter Tryz.func82, Tryz.ntmps82
 go_wp2
 go_loopg [7] n2 (fun gh i wx => gh ≤ n2 ∧ i = .int .i64 ((n2 - gh : Nat) : Int) ∧ Hid (getK kP (ps.take (n2 - gh)) [O, V, S, P, Q] = none) ∧ (wx.cell? ⟨w.heap.size, 0, none⟩ = some (.slice A n c) ∧ wx.cell? ⟨w.heap.size, 1, none⟩ = some (.slice A2 n2 c2) ∧ wx.cell? ⟨w.heap.size + 1, 0, none⟩ = some (.int .i64 V) ∧ wx.cell? ⟨w.heap.size + 1, 1, none⟩ = some (.int .i64 S) ∧ wx.cell? ⟨w.heap.size + 1, 2, none⟩ = some (.int .i64 P) ∧ wx.cell? ⟨w.heap.size + 1, 3, none⟩ = some (.int .i64 Q)) ∧ Ext w wx)
 case atStart => exact ⟨Nat.le_refl _, by simp, by rw [Nat.sub_self]; exact Lib.hid (by simp [getK]), ⟨by simp [go_sem, World.cell?_alloc_past], by simp [go_sem, World.cell?_alloc_past], by simp [go_sem, World.cell?_alloc_past], by simp [go_sem, World.cell?_alloc_past], by simp [go_sem, World.cell?_alloc_past], by simp [go_sem, World.cell?_alloc_past]⟩, zxt⟩
 obtain ⟨hg, hi, HI, ⟨b_0, b_1, s_0, s_1, s_2, s_3⟩, hx⟩ := hrel
 have XR := Lib.hid hx
 obtain ⟨k, hk⟩ : ∃ k, k = n2 - gk := ⟨_, rfl⟩
 rw [← hk] at hi HI
 subst hi
 by_cases hz : gk = 0
 ·have hkn : ¬ (k : Int) < (n2 : Int) := by omega
  have hN : getK kP ps [O, V, S, P, Q] = none := by have h := HI.out; rwa [List.take_of_length_le (by have := HLL.out; omega)] at h
  have HN := Lib.hid hN
  clear hk hg hz HI hx hN
  go_wp2
  go_ret
  exact ⟨_, rfl, .inl ⟨rfl, HN.out⟩, zxt⟩
 have hkn : (k : Int) < (n2 : Int) := by omega
 have hkl : k < ps.length := by have := HLL.out; omega
 have HSr := Lib.hid (HS.out.ext XR.out)
 obtain ⟨b1, o1, rfl, hb1, hc_x⟩ := HSr.out.rec_ posC_len (show 0 < n2 from by omega)
 obtain ⟨xw, hl_x⟩ : ∃ x, ps[k]? = some x := ⟨_, List.getElem?_eq_getElem (by omega)⟩
 have x_0 := hc_x (k) xw hl_x 0 _ rfl
 have x_1 := hc_x (k) xw hl_x 1 _ rfl
 have x_2 := hc_x (k) xw hl_x 2 _ rfl
 have x_3 := hc_x (k) xw hl_x 3 _ rfl
 have x_4 := hc_x (k) xw hl_x 4 _ rfl
 have x_5 := hc_x (k) xw hl_x 5 _ rfl
 obtain ⟨po, pv, ps_, pp, pf, ph⟩ := xw
 simp only at x_0 x_1 x_2 x_3 x_4 x_5
 rw [Nat.add_zero] at x_0
 rw [← Nat.add_assoc] at x_1 x_2 x_3 x_4 x_5
 have HK := Lib.hid (And.intro hk (And.intro hg hz))
 have HX := Lib.hid hl_x
 clear hk hg hz hkl hl_x hc_x HSr hx
 by_cases hq0 : po = O
 ·by_cases hq : pv = V ∧ ps_ = S ∧ pp = P ∧ pf = Q
  ·have hq0b : (po == O) = true := by simp [hq0]
   have hqb := four_true hq
   have HQ := Lib.hid (And.intro hq0 hq)
   clear hq hq0
   go_wp2_with fail
   refine wp_region_held_drew (S := fun w' => w'.cell? ⟨w.heap.size, 1, none⟩ = some (.slice (some ⟨b1, o1, none⟩) n2 c2) ∧ w'.cell? ⟨w.heap.size + 1, 0, none⟩ = some (.int .i64 V) ∧ w'.cell? ⟨w.heap.size + 1, 1, none⟩ = some (.int .i64 S) ∧ w'.cell? ⟨w.heap.size + 1, 2, none⟩ = some (.int .i64 P) ∧ w'.cell? ⟨w.heap.size + 1, 3, none⟩ = some (.int .i64 Q) ∧ w'.cell? ⟨b1, o1 + k * 6, none⟩ = some (.int .i64 po) ∧ w'.cell? ⟨b1, o1 + k * 6 + 1, none⟩ = some (.int .i64 pv) ∧ w'.cell? ⟨b1, o1 + k * 6 + 2, none⟩ = some (.int .i64 ps_) ∧ w'.cell? ⟨b1, o1 + k * 6 + 3, none⟩ = some (.int .i64 pp) ∧ w'.cell? ⟨b1, o1 + k * 6 + 4, none⟩ = some (.int .i64 pf)) (by kernel_rfl) (by first | with_reducible exact ⟨b_1, s_0, s_1, s_2, s_3, x_0, x_1, x_2, x_3, x_4⟩ | (simp [go_sem, World.cell?_alloc_past, *]; done)) (fun hHeld => ?_)
   refine' zt 0 ?_
   refine' zt 1 ?_
   refine' zt 2 ?_
   refine' zt 3 ?_
   refine' zt 4 ?_
   refine' zt 5 ?_
   refine' zt 6 ?_
   refine' zt 7 ?_
   refine' zt 8 ?_
   refine' zt 9 ?_
   refine' zt 10 ?_
   refine' zt 11 ?_
   refine' zt 12 ?_
   refine' zt 13 ?_
   refine' zt 14 ?_
   refine' zt 15 ?_
   refine' zt 16 ?_
   refine' zt 17 ?_
   refine wpAnyH_done (by kernel_rfl) ?_ _
   go_wp2_with fail
   go_ret
   exact ⟨_, rfl, .inr ⟨k, _, rfl, HX.out, getK_step_some HI.out HX.out (kP_eq HQ.out.1 HQ.out.2)⟩, zxt⟩
  have hq0b : (po == O) = true := by simp [hq0]
  have hqb := four_false hq
  have HQ := Lib.hid hq
  clear hq hq0
  go_wp2_with fail
  refine wp_region_held_drew (S := fun w' => w'.cell? ⟨w.heap.size, 1, none⟩ = some (.slice (some ⟨b1, o1, none⟩) n2 c2) ∧ w'.cell? ⟨w.heap.size + 1, 0, none⟩ = some (.int .i64 V) ∧ w'.cell? ⟨w.heap.size + 1, 1, none⟩ = some (.int .i64 S) ∧ w'.cell? ⟨w.heap.size + 1, 2, none⟩ = some (.int .i64 P) ∧ w'.cell? ⟨w.heap.size + 1, 3, none⟩ = some (.int .i64 Q) ∧ w'.cell? ⟨b1, o1 + k * 6, none⟩ = some (.int .i64 po) ∧ w'.cell? ⟨b1, o1 + k * 6 + 1, none⟩ = some (.int .i64 pv) ∧ w'.cell? ⟨b1, o1 + k * 6 + 2, none⟩ = some (.int .i64 ps_) ∧ w'.cell? ⟨b1, o1 + k * 6 + 3, none⟩ = some (.int .i64 pp) ∧ w'.cell? ⟨b1, o1 + k * 6 + 4, none⟩ = some (.int .i64 pf)) (by kernel_rfl) (by first | with_reducible exact ⟨b_1, s_0, s_1, s_2, s_3, x_0, x_1, x_2, x_3, x_4⟩ | (simp [go_sem, World.cell?_alloc_past, *]; done)) (fun hHeld => ?_)
  refine' zt 0 ?_
  refine' zt 1 ?_
  refine' zt 2 ?_
  refine' zt 3 ?_
  refine' zt 4 ?_
  refine' zt 5 ?_
  refine' zt 6 ?_
  refine' zt 7 ?_
  refine' zt 8 ?_
  refine' zt 9 ?_
  refine' zt 10 ?_
  refine' zt 11 ?_
  refine' zt 12 ?_
  refine' zt 13 ?_
  refine' zt 14 ?_
  refine' zt 15 ?_
  refine' zt 16 ?_
  refine' zt 17 ?_
  refine wpAnyH_done (by kernel_rfl) ?_ _
  go_wp2_with fail
  go_roundg (gk - 1)
  case measure => have := HK.out; omega
  exact ⟨by have := HK.out; omega, num_eq (by have := HK.out; omega), by rw [show n2 - (gk - 1) = k + 1 from by have := HK.out; omega]; exact Lib.hid (getK_step_none HI.out HX.out (kP_ne (t := ph) (fun hh => HQ.out hh.2))), ⟨b_0, b_1, s_0, s_1, s_2, s_3⟩, zxt⟩
 have hq0b : (po == O) = false := by simpa using hq0
 have HQ := Lib.hid hq0
 clear hq0
 go_wp2_with fail
 refine wp_region_held_drew (S := fun w' => w'.cell? ⟨w.heap.size, 1, none⟩ = some (.slice (some ⟨b1, o1, none⟩) n2 c2) ∧ w'.cell? ⟨b1, o1 + k * 6, none⟩ = some (.int .i64 po)) (by kernel_rfl) (by first | with_reducible exact ⟨b_1, x_0⟩ | (simp [go_sem, World.cell?_alloc_past, *]; done)) (fun hHeld => ?_)
 refine' zt 0 ?_
 refine' zt 1 ?_
 refine' zt 2 ?_
 refine' zt 3 ?_
 refine' zt 4 ?_
 refine' zt 5 ?_
 refine' zt 6 ?_
 refine' zt 7 ?_
 refine' zt 8 ?_
 refine' zs 9 ?_
 refine' zs 10 ?_
 refine' zs 11 ?_
 refine' zs 12 ?_
 refine' zs 13 ?_
 refine' zs 14 ?_
 refine' zs 15 ?_
 refine' zs 16 ?_
 refine' zt 17 ?_
 refine wpAnyH_done (by kernel_rfl) ?_ _
 go_wp2_with fail
 go_roundg (gk - 1)
 case measure => have := HK.out; omega
 exact ⟨by have := HK.out; omega, num_eq (by have := HK.out; omega), by rw [show n2 - (gk - 1) = k + 1 from by have := HK.out; omega]; exact Lib.hid (getK_step_none HI.out HX.out (kP_ne (t := ph) (fun hh => HQ.out hh.1))), ⟨b_0, b_1, s_0, s_1, s_2, s_3⟩, zxt⟩
theorem r13below_any (xo xv xs xp xf xh yo yv ys yp yf yh : Int) (w : World) :
  Calls Tryz.prog 65 #[.agg #[.int .i64 xo, .int .i64 xv, .int .i64 xs, .int .i64 xp, .int .i64 xf, .int .u64 xh], .agg #[.int .i64 yo, .int .i64 yv, .int .i64 ys, .int .i64 yp, .int .i64 yf, .int .u64 yh]] w fun r w' => r = .returned (.bool (decide (cmpK [xo, xv, xs, xp, xf] [yo, yv, ys, yp, yf] < 0))) ∧ Ext w w' := by
 obtain ⟨G, hG⟩ : ∃ G, G = cmpL [(xv, yv), (xs, ys), (xp, yp), (xf, yf)] := ⟨_, rfl⟩
 have CG := Lib.hid (fun w => rCompare12_at xv xs xp xf yv ys yp yf G w hG)
 obtain ⟨B, hB⟩ : ∃ B, B = decide (cmpK [xo, xv, xs, xp, xf] [yo, yv, ys, yp, yf] < 0) := ⟨_, rfl⟩
 have hBe : B = if xo < yo then true else if yo < xo then false else decide (G < 0) := by
  rw [hB, hG, cmpK_cons]
  by_cases h1 : xo < yo
  ·rw [if_pos h1, if_pos h1]; rfl
  rw [if_neg h1, if_neg h1]
  by_cases h2 : yo < xo
  ·rw [if_pos h2, if_pos h2]; rfl
  rw [if_neg h2, if_neg h2]; rfl
 rw [← hB]
 clear hG hB
 go_enter Tryz.func65, Tryz.ntmps65
 by_cases q1 : ¬ xo = yo
 ·have q1b : (xo != yo) = true := by simp [q1]
  obtain rfl : B = decide (xo < yo) := by rw [hBe]; by_cases h1 : xo < yo; rw [if_pos h1, decide_eq_true h1]; rw [if_neg h1, if_pos (by omega), decide_eq_false h1]
  clear hBe
  go_wp2_with fail
  go_ret
  exact ⟨by first | rfl | simp, zxt⟩
 have q1b : (xo != yo) = false := by simpa using q1
 obtain rfl : B = decide (G < 0) := by rw [hBe, if_neg (by omega), if_neg (by omega)]
 clear hBe
 go_wp2_with fail
 (with_reducible refine (CG.out _).mono ?_)
 rintro e w1 ⟨rfl, hx1⟩
 have z1 := hx1.size
 try simp at z1
 have X1 : Hid (Ext w w1) := Lib.hid (Ext.trans zxt hx1)
 clear hx1 z1
 go_wp2_with fail
 go_ret
 exact ⟨by first | rfl | simp, zxt⟩
theorem r13Find_any (n c n2 c2 : Nat) (A A2 : Option Addr) (cl : List I6) (V S P Q : Int) (w : World) (h : Sl w 6 A n c (cl.flatMap clsC)) :
  Calls Tryz.prog 33 #[.agg #[.slice A n c, .slice A2 n2 c2], .agg #[.int .i64 V, .int .i64 S, .int .i64 P, .int .i64 Q]] w fun r w' => r = .returned (.tuple #[.agg #[.int .u64 (fndT cl [V, S, P, Q]), .int .u64 (fndS cl [V, S, P, Q])], .bool (getK kC cl [V, S, P, Q]).isSome]) ∧ Ext w w' := by
 have hsm := h.small
 have HS := Lib.hid h
 have C1 := Lib.hid (fun (w' : World) (hx : Ext w w') => r13class_any n c n2 c2 A A2 cl V S P Q w' (h.ext hx))
 obtain ⟨T, hT⟩ : ∃ T, T = fndT cl [V, S, P, Q] := ⟨_, rfl⟩
 obtain ⟨U, hU⟩ : ∃ U, U = fndS cl [V, S, P, Q] := ⟨_, rfl⟩
 obtain ⟨BB, hBB⟩ : ∃ B, B = (getK kC cl [V, S, P, Q]).isSome := ⟨_, rfl⟩
 rw [← hT, ← hU, ← hBB]
 have HT := Lib.hid (And.intro hT (And.intro hU hBB))
 clear h hT hU hBB
 go_enter Tryz.func33, Tryz.ntmps33
 go_wp2_with fail
 (with_reducible refine (C1.out _ zxt).mono ?_)
 rintro e w1 ⟨ci, rfl, hfi, hx1⟩
 have c0_0 : w1.cell? ⟨w.heap.size, 0, none⟩ = some (.slice A n c) := hx1.has zcv
 have c2_0f : w1.frozen? ⟨w.heap.size + 1 + 1, 0, none⟩ = false := hx1.froz (v := .int .u64 0) zcv zcv
 have c2_1f : w1.frozen? ⟨w.heap.size + 1 + 1, 1, none⟩ = false := hx1.froz (v := .int .u64 0) zcv zcv
 have c2_0 : w1.cell? ⟨w.heap.size + 1 + 1, 0, none⟩ = some (.int .u64 0) := hx1.has zcv
 have c2_1 : w1.cell? ⟨w.heap.size + 1 + 1, 1, none⟩ = some (.int .u64 0) := hx1.has zcv
 have z1 := hx1.size
 try simp at z1
 have lt_c0_c2 := zl w.heap.size (w.heap.size + 1 + 1)
 have rc0 := zr w.heap.size w1
 have rc2 := zr (w.heap.size + 1 + 1) w1
 replace HS := Lib.hid (HS.out.ext (Ext.trans zxt hx1))
 have X1 : Hid (Ext w w1) := Lib.hid (Ext.trans zxt hx1)
 clear hx1 z1
 have HFI := Lib.hid hfi
 clear hfi
 rcases HFI.out with ⟨rfl, hN⟩ | ⟨m, xw, rfl, hM, hG⟩
 ·obtain rfl : T = 0 := by rw [HT.out.1]; unfold fndT; rw [hN]; rfl
  obtain rfl : U = 0 := by rw [HT.out.2.1]; unfold fndS; rw [hN]; rfl
  obtain rfl : BB = false := by rw [HT.out.2.2, hN]; rfl
  clear hN HFI HT
  go_wp2_with fail
  refine bodyPost_ret (v := .tuple #[.agg #[.int .u64 0, .int .u64 0], .bool false]) (by simp [results, Tryz.results33, go_sem, World.cell?_alloc_past, *]; try rfl) rfl ⟨rfl, ?_⟩
  exact zxt
 obtain ⟨xv, xs, xp, xf, xt, xh⟩ := xw
 obtain rfl : T = xt := by rw [HT.out.1]; unfold fndT; rw [hG]; rfl
 obtain rfl : U = xh := by rw [HT.out.2.1]; unfold fndS; rw [hG]; rfl
 obtain rfl : BB = true := by rw [HT.out.2.2, hG]; rfl
 have hll := HS.out.rlen clsC_len (by decide)
 have hml : m < cl.length := (List.getElem?_eq_some_iff.1 hM).1
 obtain ⟨b1, o1, rfl, hb1, hc_x⟩ := HS.out.rec_ clsC_len (show 0 < n from by omega)
 have x_4 := hc_x m _ hM 4 _ rfl
 have x_5 := hc_x m _ hM 5 _ rfl
 simp only at x_4 x_5
 rw [← Nat.add_assoc] at x_4 x_5
 have hmn : (m : Int) < (n : Int) := by omega
 have hm0 : ¬ (m : Int) < 0 := by omega
 clear HT hM hG hc_x HFI hll hml
 go_wp2_with fail
 refine bodyPost_ret (v := .tuple #[.agg #[.int .u64 T, .int .u64 U], .bool true]) (by simp [results, Tryz.results33, go_sem, World.cell?_alloc_past, *]; try rfl) rfl ⟨rfl, ?_⟩
 exact zxt
theorem r13has_any (n c n2 c2 : Nat) (A A2 : Option Addr) (ps : List I6) (O V S P Q : Int) (w : World) (h2 : Sl w 6 A2 n2 c2 (ps.flatMap posC)) :
  Calls Tryz.prog 132 #[.agg #[.slice A n c, .slice A2 n2 c2], .int .i64 O, .agg #[.int .i64 V, .int .i64 S, .int .i64 P, .int .i64 Q]] w fun r w' => r = .returned (.int .u64 (hasV ps [O, V, S, P, Q])) ∧ Ext w w' := by
 have hsm := h2.small
 have HS := Lib.hid h2
 have C1 := Lib.hid (fun (w' : World) (hx : Ext w w') => r13position_any n c n2 c2 A A2 ps O V S P Q w' (h2.ext hx))
 obtain ⟨HH, hHH⟩ : ∃ T, T = hasV ps [O, V, S, P, Q] := ⟨_, rfl⟩
 rw [← hHH]
 have HT := Lib.hid hHH
 clear h2 hHH
 go_enter Tryz.func132, Tryz.ntmps132
 go_wp2_with fail
 (with_reducible refine (C1.out _ zxt).mono ?_)
 rintro e w1 ⟨ci, rfl, hfi, hx1⟩
 have c0_1 : w1.cell? ⟨w.heap.size, 1, none⟩ = some (.slice A2 n2 c2) := hx1.has zcv
 have z1 := hx1.size
 try simp at z1
 have rc0 := zr w.heap.size w1
 replace HS := Lib.hid (HS.out.ext (Ext.trans zxt hx1))
 have X1 : Hid (Ext w w1) := Lib.hid (Ext.trans zxt hx1)
 clear hx1 z1
 have HFI := Lib.hid hfi
 clear hfi
 rcases HFI.out with ⟨rfl, hN⟩ | ⟨m, xw, rfl, hM, hG⟩
 ·obtain rfl : HH = 0 := by rw [HT.out]; unfold hasV; rw [hN]; rfl
  clear hN HFI HT
  go_wp2_with fail
  go_ret
  exact ⟨rfl, zxt⟩
 obtain ⟨po, pv, ps_, pp, pf, ph⟩ := xw
 obtain rfl : HH = ph := by rw [HT.out]; unfold hasV; rw [hG]; rfl
 have hll := HS.out.rlen posC_len (by decide)
 have hml : m < ps.length := (List.getElem?_eq_some_iff.1 hM).1
 obtain ⟨b1, o1, rfl, hb1, hc_x⟩ := HS.out.rec_ posC_len (show 0 < n2 from by omega)
 have x_5 := hc_x m _ hM 5 _ rfl
 simp only at x_5
 rw [← Nat.add_assoc] at x_5
 have hmn : (m : Int) < (n2 : Int) := by omega
 have hm0 : ¬ (m : Int) < 0 := by omega
 clear HT hM hG hc_x HFI hll hml
 go_wp2_with fail
 go_ret
 exact ⟨rfl, zxt⟩
def capT (cl : List I6) : Int := if totC cl < 18446744073709551616 then totC cl else 18446744073709551615
theorem clsV_long {cl : List I6} (h : 1024 < cl.length) : clsV cl = 4 := if_pos h
theorem clsV_go {cl : List I6} (h : ¬ 1024 < cl.length) (h2 : clsGo none cl ≠ 0) : clsV cl = clsGo none cl := by unfold clsV; rw [if_neg h, if_pos h2]
theorem clsV_tot {cl : List I6} (h : ¬ 1024 < cl.length) (h2 : clsGo none cl = 0) : clsV cl = if 4611686018427387904 < capT cl then 12 else 0 := by
 unfold clsV capT
 rw [if_neg h, if_neg (by simpa using h2)]
 by_cases h3 : totC cl < 18446744073709551616
 ·rw [if_pos h3]
  by_cases h4 : totC cl ≤ 4611686018427387904
  ·rw [if_pos h4, if_neg (by omega)]
  rw [if_neg h4, if_pos (by omega)]
 rw [if_neg h3, if_neg (by omega), if_pos (by decide)]
theorem clsGo_at {cl : List I6} {k : Nat} {x : I6} {v : Int} (h : clsGo none cl = clsGo (prK kC cl k) (cl.drop k)) (hx : cl[k]? = some x) (h1 : clsOne (prK kC cl k) x = v) (hv : v ≠ 0) : clsGo none cl = v := by
 rw [h, drop_at hx]
 show (if clsOne (prK kC cl k) x ≠ 0 then _ else _) = _
 rw [h1, if_pos hv]
theorem clsGo_next {cl : List I6} {k : Nat} {x : I6} (h : clsGo none cl = clsGo (prK kC cl k) (cl.drop k)) (hx : cl[k]? = some x) (h1 : clsOne (prK kC cl k) x = 0) : clsGo none cl = clsGo (prK kC cl (k + 1)) (cl.drop (k + 1)) := by
 rw [h, drop_at hx, prK_succ hx]
 show (if clsOne (prK kC cl k) x ≠ 0 then _ else _) = _
 rw [if_neg (by simpa using h1)]
theorem clsGo_end {cl : List I6} {k : Nat} (h : clsGo none cl = clsGo (prK kC cl k) (cl.drop k)) (hk : cl.length ≤ k) : clsGo none cl = 0 := by
 rw [h, List.drop_of_length_le hk]
 rfl
theorem r13all_any (n c n2 c2 : Nat) (A A2 : Option Addr) (cl : List I6) (w : World) (h : Sl w 6 A n c (cl.flatMap clsC)) (hw : ∀ x ∈ cl, WdC x) :
  Calls Tryz.prog 84 #[.agg #[.slice A n c, .slice A2 n2 c2]] w fun r w' => r = .returned (.int .u64 (capT cl)) ∧ Ext w w' := by
 have hll := h.rlen clsC_len (by decide)
 have hsm := h.small
 have HS := Lib.hid h
 have HLL := Lib.hid hll
 have HW := Lib.hid hw
 obtain ⟨R, hR⟩ : ∃ R, R = capT cl := ⟨_, rfl⟩
 rw [← hR]
 have HR := Lib.hid hR
 clear h hll hw hR
 go_enter Tryz.func84, Tryz.ntmps84
 go_wp2
 go_loopg [3, 4] n (fun gh a i wx => gh ≤ n ∧ i = .int .i64 ((n - gh : Nat) : Int) ∧ a = .int .u64 (totC (cl.take (n - gh))) ∧ Hid (totC (cl.take (n - gh)) < 18446744073709551616) ∧ (wx.cell? ⟨w.heap.size, 0, none⟩ = some (.slice A n c) ∧ wx.cell? ⟨w.heap.size, 1, none⟩ = some (.slice A2 n2 c2)) ∧ Hid (Ext w wx))
 case atStart => exact ⟨Nat.le_refl _, by simp, by rw [Nat.sub_self]; rfl, by rw [Nat.sub_self]; exact Lib.hid (show (0 : Int) < 18446744073709551616 from by decide), ⟨by simp [go_sem, World.cell?_alloc_past], by simp [go_sem, World.cell?_alloc_past]⟩, Lib.hid zxt⟩
 obtain ⟨hg, hi, ha, HB, ⟨b_0, b_1⟩, XR⟩ := hrel
 obtain ⟨k, hk⟩ : ∃ k, k = n - gk := ⟨_, rfl⟩
 rw [← hk] at hi ha HB
 subst hi
 obtain ⟨t, ht⟩ : ∃ t, t = totC (cl.take k) := ⟨_, rfl⟩
 rw [← ht] at ha HB
 subst ha
 by_cases hz : gk = 0
 ·have hkn : ¬ (k : Int) < (n : Int) := by omega
  have hT : t = R := by
   have e : t = totC cl := by rw [ht, List.take_of_length_le (by have := HLL.out; omega)]
   have hb := HB.out
   rw [HR.out]
   unfold capT
   rw [if_pos (by omega), e]
  clear hk hg hz ht HR HB
  subst hT
  go_wp2
  go_ret
  exact ⟨rfl, XR.out⟩
 have hkn : (k : Int) < (n : Int) := by omega
 have hkl : k < cl.length := by have := HLL.out; omega
 have HSr := Lib.hid (HS.out.ext XR.out)
 obtain ⟨b1, o1, rfl, hb1, hc_x⟩ := HSr.out.rec_ clsC_len (show 0 < n from by omega)
 obtain ⟨xw, hl_x⟩ : ∃ x, cl[k]? = some x := ⟨_, List.getElem?_eq_getElem (by omega)⟩
 have x_0 := hc_x (k) xw hl_x 0 _ rfl
 have x_1 := hc_x (k) xw hl_x 1 _ rfl
 have x_2 := hc_x (k) xw hl_x 2 _ rfl
 have x_3 := hc_x (k) xw hl_x 3 _ rfl
 have x_4 := hc_x (k) xw hl_x 4 _ rfl
 have x_5 := hc_x (k) xw hl_x 5 _ rfl
 obtain ⟨xv, xs, xp, xf, xt, xh⟩ := xw
 simp only at x_0 x_1 x_2 x_3 x_4 x_5
 rw [Nat.add_zero] at x_0
 rw [← Nat.add_assoc] at x_1 x_2 x_3 x_4 x_5
 have hst : totC (cl.take (k + 1)) = t + xt := by rw [ht]; exact addF_take toC hl_x
 have hb0 : 0 ≤ t := by rw [ht]; exact addF_nn (fun y hy => (HW.out y (List.mem_of_mem_take hy)).1.1)
 have hxw := (HW.out _ (List.mem_of_getElem? hl_x)).1
 have hle : totC (cl.take (k + 1)) ≤ totC cl := addF_le (fun y hy => (HW.out y hy).1.1) (k + 1)
 have CA := Lib.hid (fun w => rAdd_any t xt ⟨hb0, HB.out⟩ hxw w)
 have HT := Lib.hid hst
 have HLE := Lib.hid hle
 have HK := Lib.hid (And.intro hk (And.intro hg hz))
 obtain ⟨N, hN⟩ : ∃ N, N = addN t xt := ⟨_, rfl⟩
 obtain ⟨EA, hEA⟩ : ∃ EA, EA = addE t xt := ⟨_, rfl⟩
 rw [← hN, ← hEA] at CA
 have HN := Lib.hid (And.intro hN hEA)
 have hb1s : ¬ b1 = wr.heap.size := by omega
 clear hk hg hz hkl hl_x hc_x HSr ht hst hle hxw hb0 hN hEA
 go_wp2_with fail
 (with_reducible refine (CA.out _).mono ?_)
 rintro e w_1 ⟨rfl, rfl⟩
 by_cases q : ¬ t + xt < 18446744073709551616
 ·obtain rfl : EA = 12 := by rw [HN.out.2]; exact if_neg q
  obtain rfl : R = 18446744073709551615 := by rw [HR.out]; unfold capT; rw [if_neg (by have := HLE.out; rw [HT.out] at this; omega)]
  go_wp2_with fail
  go_ret
  exact ⟨rfl, zxt⟩
 replace q : t + xt < 18446744073709551616 := by omega
 obtain rfl : EA = 0 := by rw [HN.out.2]; exact if_pos q
 obtain rfl : N = t + xt := by rw [HN.out.1]; exact if_pos q
 go_wp2_with fail
 go_roundg (gk - 1)
 case measure => have := HK.out; omega
 exact ⟨by have := HK.out; omega, num_eq (by have := HK.out; omega), num_eq (by rw [show n - (gk - 1) = k + 1 from by have := HK.out; omega]; exact HT.out.symm), by rw [show n - (gk - 1) = k + 1 from by have := HK.out; omega, HT.out]; exact Lib.hid q, ⟨b_0, b_1⟩, Lib.hid zxt⟩
theorem r13classes_any (n c n2 c2 : Nat) (A A2 : Option Addr) (cl : List I6) (w : World) (h : Sl w 6 A n c (cl.flatMap clsC)) (hw : ∀ x ∈ cl, WdC x) :
  Calls Tryz.prog 63 #[.agg #[.slice A n c, .slice A2 n2 c2]] w fun r w' => r = .returned (.int .i64 (clsV cl)) ∧ Ext w w' := by
 have hll := h.rlen clsC_len (by decide)
 have hsm := h.small
 by_cases hL : 1024 < n
 ·have hV := clsV_long (cl := cl) (by omega)
  rw [hV]
  have hL2 : (1024 : Int) < (n : Int) := by omega
  clear h hll hw hV
  go_enter Tryz.func63, Tryz.ntmps63
  go_wp2
  go_ret
  exact ⟨rfl, zxt⟩
 have hL2 : ¬ (1024 : Int) < (n : Int) := by omega
 have HS := Lib.hid h
 have HW := Lib.hid hw
 have HLL := Lib.hid (And.intro hll hL)
 have pq1 := pol_eq
 have pq2 := pol_eqg
 obtain ⟨V, hV⟩ : ∃ V, V = clsV cl := ⟨_, rfl⟩
 rw [← hV]
 have HV := Lib.hid hV
 have C3 := Lib.hid (fun (w' : World) (hx : Ext w w') => r13all_any n c n2 c2 A A2 cl w' (h.ext hx) hw)
 obtain ⟨CT, hCT⟩ : ∃ t, t = capT cl := ⟨_, rfl⟩
 rw [← hCT] at C3
 have HCT := Lib.hid hCT
 clear h hw hll hL hV hCT
 go_enter Tryz.func63, Tryz.ntmps63
 go_wp2
 go_loopg [3] n (fun gh i wx => gh ≤ n ∧ i = .int .i64 ((n - gh : Nat) : Int) ∧ Hid (clsGo none cl = clsGo (prK kC cl (n - gh)) (cl.drop (n - gh))) ∧ (wx.cell? ⟨w.heap.size, 0, none⟩ = some (.slice A n c) ∧ wx.cell? ⟨w.heap.size, 1, none⟩ = some (.slice A2 n2 c2)) ∧ Hid (Ext w wx))
 case atStart => exact ⟨Nat.le_refl _, by simp, by rw [Nat.sub_self]; exact Lib.hid rfl, ⟨by simp [go_sem, World.cell?_alloc_past], by simp [go_sem, World.cell?_alloc_past]⟩, Lib.hid zxt⟩
 obtain ⟨hg, hi, HI, ⟨b_0, b_1⟩, XR⟩ := hrel
 obtain ⟨k, hk⟩ : ∃ k, k = n - gk := ⟨_, rfl⟩
 rw [← hk] at hi HI
 subst hi
 have hqr := cell_lt b_0
 by_cases hz : gk = 0
 ·have hkn : ¬ (k : Int) < (n : Int) := by omega
  have hG := clsGo_end HI.out (by have := HLL.out; omega)
  have HD := Lib.hid (clsV_tot (show ¬ 1024 < cl.length from by have := HLL.out; omega) hG)
  rw [← HV.out, ← HCT.out] at HD
  clear hk hg hz HI hG HV HCT
  go_wp2_with fail
  (with_reducible refine (C3.out _ zxt).mono ?_)
  rintro e w41 ⟨rfl, hx41⟩
  have z41 := hx41.size
  try simp at z41
  have X41 : Hid (Ext w w41) := Lib.hid (Ext.trans zxt hx41)
  clear b_0 b_1 XR hx41 z41
  by_cases q : 4611686018427387904 < CT
  ·obtain rfl : V = 12 := HD.out.trans (if_pos q)
   have qd : decide (4611686018427387904 < CT) = true := decide_eq_true q
   go_wp2_with fail
   go_ret
   exact ⟨rfl, zxt⟩
  obtain rfl : V = 0 := HD.out.trans (if_neg q)
  have qd : decide (4611686018427387904 < CT) = false := decide_eq_false q
  go_wp2_with fail
  go_ret
  exact ⟨rfl, zxt⟩
 have hkn : (k : Int) < (n : Int) := by omega
 have hkl : k < cl.length := by have := HLL.out; omega
 have HSr := Lib.hid (HS.out.ext XR.out)
 obtain ⟨b1, o1, rfl, hb1, hc_x⟩ := HSr.out.rec_ clsC_len (show 0 < n from by omega)
 obtain ⟨xw, hl_x⟩ : ∃ x, cl[k]? = some x := ⟨_, List.getElem?_eq_getElem (by omega)⟩
 have x_0 := hc_x (k) xw hl_x 0 _ rfl
 have x_1 := hc_x (k) xw hl_x 1 _ rfl
 have x_2 := hc_x (k) xw hl_x 2 _ rfl
 have x_3 := hc_x (k) xw hl_x 3 _ rfl
 have x_4 := hc_x (k) xw hl_x 4 _ rfl
 have x_5 := hc_x (k) xw hl_x 5 _ rfl
 obtain ⟨xv, xs, xp, xf, xt, xh⟩ := xw
 simp only at x_0 x_1 x_2 x_3 x_4 x_5
 rw [Nat.add_zero] at x_0
 rw [← Nat.add_assoc] at x_1 x_2 x_3 x_4 x_5
 have hwx := HW.out _ (List.mem_of_getElem? hl_x)
 have CS := Lib.hid (fun w => pCheck_any xt xh w)
 obtain ⟨ES, hES⟩ : ∃ ES, ES = chkS xv xs xp xf := ⟨_, rfl⟩
 have CT := Lib.hid (fun w => rCheck12_any xv xs xp xf w)
 rw [← hES] at CT
 obtain ⟨EP, hEP⟩ : ∃ EP, EP = chkE xt xh := ⟨_, rfl⟩
 rw [← hEP] at CS
 have HK := Lib.hid (And.intro hk (And.intro hg hz))
 have HX := Lib.hid (And.intro hl_x (And.intro hES hEP))
 have hb1s : ¬ b1 = wr.heap.size := by omega
 have hqs : ¬ w.heap.size = wr.heap.size := by omega
 by_cases hk0 : k = 0
 ·subst hk0
  have HP := Lib.hid (show prevGe (prK kC cl 0) [xv, xs, xp, xf] = false from rfl)
  clear hk hg hz hkl hl_x hwx hES hEP hc_x HSr
  simp only [Nat.zero_mul, Nat.add_zero] at x_0 x_1 x_2 x_3 x_4 x_5
  simp only [Int.cast_ofNat_Int] at hkn ⊢
  go_wp2_with fail
  (with_reducible refine (CT.out _).mono ?_)
  rintro e w11 ⟨rfl, hx11⟩
  replace b_0 := zh hx11 b_0
  replace b_1 := zh hx11 b_1
  have c0_4 : w11.cell? ⟨wr.heap.size, 4, none⟩ = some (.int .u64 xt) := hx11.has zcv
  have c0_5 : w11.cell? ⟨wr.heap.size, 5, none⟩ = some (.int .u64 xh) := hx11.has zcv
  have z11 := hx11.size
  try simp at z11
  have lt_b_c0 := zl w.heap.size wr.heap.size
  have rb := zr w.heap.size w11
  have rc0 := zr wr.heap.size w11
  have X11 : Hid (Ext w w11) := Lib.hid (Ext.trans zxt hx11)
  clear x_5 x_2 x_1 x_4 x_3 x_0 XR hx11 z11
  by_cases q3 : ¬ ES = 0
  ·have q3b : (ES != 0) = true := by simp [q3]
   obtain rfl : V = 3 := HV.out.trans ((clsV_go (show ¬ 1024 < cl.length from by have := HLL.out; omega) (by rw [clsGo_at HI.out HX.out.1 (v := 3) (clsOne_range (show chkS xv xs xp xf ≠ 0 from by rw [← HX.out.2.1]; exact q3)) (by first | decide | assumption)]; first | decide | assumption)).trans (clsGo_at HI.out HX.out.1 (clsOne_range (show chkS xv xs xp xf ≠ 0 from by rw [← HX.out.2.1]; exact q3)) (by first | decide | assumption)))
   go_wp2_with fail
   go_ret
   exact ⟨rfl, zxt⟩
  have q3b : (ES != 0) = false := by simpa using q3
  have q3c : ES = 0 := by omega
  go_wp2_with fail
  refine wp_region_held_drew (S := fun w' => True) (by kernel_rfl) (by first | exact trivial | (simp [go_sem, World.cell?_alloc_past, *]; done)) (fun hHeld => ?_)
  refine' zt 0 ?_
  refine' zt 1 ?_
  refine' zt 2 ?_
  refine' zs 3 ?_
  refine' zs 4 ?_
  refine' zs 5 ?_
  refine' zs 6 ?_
  refine' zs 7 ?_
  refine' zs 8 ?_
  refine' zs 9 ?_
  refine' zs 10 ?_
  refine' zs 11 ?_
  refine' zs 12 ?_
  refine' zs 13 ?_
  refine' zt 14 ?_
  refine wpAnyH_done (by kernel_rfl) ?_ _
  go_wp2_with fail
  (with_reducible refine (CS.out _).mono ?_)
  rintro e w12 ⟨rfl, hx12⟩
  replace b_0 := zh hx12 b_0
  replace b_1 := zh hx12 b_1
  replace c0_4 := zh hx12 c0_4
  replace c0_5 := zh hx12 c0_5
  have z12 := hx12.size
  try simp at z12
  replace rb := zr w.heap.size w12
  replace rc0 := zr wr.heap.size w12
  have X12 : Hid (Ext w w12) := Lib.hid (Ext.trans zxt hx12)
  clear X11 hx12 z12
  by_cases q5 : ¬ EP = 0
  ·have q5b : (EP != 0) = true := by simp [q5]
   obtain rfl : V = EP := HV.out.trans ((clsV_go (show ¬ 1024 < cl.length from by have := HLL.out; omega) zSlTac1_3).trans (clsGo_at HI.out HX.out.1 ((clsOne_pool (c := (xv, xs, xp, xf, xt, xh)) (show chkS xv xs xp xf = 0 from by rw [← HX.out.2.1]; omega) HP.out (show chkE xt xh ≠ 0 from by rw [← HX.out.2.2]; exact q5)).trans HX.out.2.2.symm) (by first | decide | assumption)))
   go_wp2_with fail
   go_ret
   exact ⟨rfl, zxt⟩
  have q5b : (EP != 0) = false := by simpa using q5
  have q5c : EP = 0 := by omega
  by_cases q6 : xt = 0 ∧ xh = 0
  ·obtain ⟨q6a, q6b⟩ := q6
   have q6c : (xt == 0 && xh == 0) = true := two_true ⟨q6a, q6b⟩
   obtain rfl : V = 11 := HV.out.trans ((clsV_go (show ¬ 1024 < cl.length from by have := HLL.out; omega) zSlTac1_4).trans (clsGo_at HI.out HX.out.1 (clsOne_state (show chkS xv xs xp xf = 0 from by rw [← HX.out.2.1]; omega) HP.out (show chkE xt xh = 0 from by rw [← HX.out.2.2]; omega) ⟨q6a, q6b⟩) (by first | decide | assumption)))
   go_wp2_with fail
   go_ret
   exact ⟨rfl, zxt⟩
  have q6c : (xt == 0 && xh == 0) = false := two_false q6
  have HN := Lib.hid (clsGo_next HI.out HX.out.1 (clsOne_ok (show chkS xv xs xp xf = 0 from by rw [← HX.out.2.1]; omega) HP.out (show chkE xt xh = 0 from by rw [← HX.out.2.2]; omega) q6))
  go_wp2_with fail
  go_roundg (gk - 1)
  case measure => have := HK.out; omega
  exact ⟨by have := HK.out; omega, num_eq (by have := HK.out; omega), by rw [show n - (gk - 1) = 0 + 1 from by have := HK.out; omega]; exact HN, ⟨b_0, b_1⟩, Lib.hid zxt⟩
 obtain ⟨m, rfl⟩ : ∃ m, k = m + 1 := ⟨k - 1, by omega⟩
 obtain ⟨yw, hl_y⟩ : ∃ x, cl[m]? = some x := ⟨_, List.getElem?_eq_getElem (by omega)⟩
 have y_0 := hc_x m yw hl_y 0 _ rfl
 have y_1 := hc_x m yw hl_y 1 _ rfl
 have y_2 := hc_x m yw hl_y 2 _ rfl
 have y_3 := hc_x m yw hl_y 3 _ rfl
 obtain ⟨yv, ys, yp, yf, yt, yh⟩ := yw
 simp only at y_0 y_1 y_2 y_3
 rw [Nat.add_zero] at y_0
 rw [← Nat.add_assoc] at y_1 y_2 y_3
 obtain ⟨G, hG⟩ : ∃ G, G = cmpK [yv, ys, yp, yf] [xv, xs, xp, xf] := ⟨_, rfl⟩
 have HG := Lib.hid (show G = cmpL [(yv, xv), (ys, xs), (yp, xp), (yf, xf)] from hG)
 have HP := Lib.hid (show prevGe (prK kC cl (m + 1)) [xv, xs, xp, xf] = decide (0 ≤ G) from by rw [prK_succ hl_y, hG]; rfl)
 have hm1 : (m : Int) + 1 - 1 = (m : Int) := by omega
 have hmd : decide ((0 : Int) < (m : Int) + 1) = true := decide_eq_true (by omega)
 have hmp : (0 : Int) < (m : Int) + 1 := by omega
 have hml : (m : Int) < (n : Int) := by omega
 have hmw : IntKind.i64.wrap (m : Int) = (m : Int) := IntWalk.i64_in _ (by omega)
 have hmw2 : IntKind.i64.wrap ((m : Int) + 1 - 1) = (m : Int) := by rw [hm1]; exact hmw
 have hms : m ≤ 9223372036854775806 := by omega
 clear hk hg hz hkl hl_x hl_y hwx hES hEP hG hc_x HSr
 go_wp2_with fail
 (with_reducible refine (CT.out _).mono ?_)
 rintro e w11 ⟨rfl, hx11⟩
 replace y_0 := zh hx11 y_0
 replace y_1 := zh hx11 y_1
 replace y_2 := zh hx11 y_2
 replace y_3 := zh hx11 y_3
 replace b_0 := zh hx11 b_0
 replace b_1 := zh hx11 b_1
 have c0_0 : w11.cell? ⟨wr.heap.size, 0, none⟩ = some (.int .i64 xv) := hx11.has zcv
 have c0_1 : w11.cell? ⟨wr.heap.size, 1, none⟩ = some (.int .i64 xs) := hx11.has zcv
 have c0_2 : w11.cell? ⟨wr.heap.size, 2, none⟩ = some (.int .i64 xp) := hx11.has zcv
 have c0_3 : w11.cell? ⟨wr.heap.size, 3, none⟩ = some (.int .i64 xf) := hx11.has zcv
 have c0_4 : w11.cell? ⟨wr.heap.size, 4, none⟩ = some (.int .u64 xt) := hx11.has zcv
 have c0_5 : w11.cell? ⟨wr.heap.size, 5, none⟩ = some (.int .u64 xh) := hx11.has zcv
 have z11 := hx11.size
 try simp at z11
 have lt_y_c0 := zl b1 wr.heap.size
 have lt_b_c0 := zl w.heap.size wr.heap.size
 have ry := zr b1 w11
 have rb := zr w.heap.size w11
 have rc0 := zr wr.heap.size w11
 have X11 : Hid (Ext w w11) := Lib.hid (Ext.trans zxt hx11)
 clear x_5 x_1 x_2 x_4 x_0 x_3 XR hx11 z11
 by_cases q3 : ¬ ES = 0
 ·have q3b : (ES != 0) = true := by simp [q3]
  obtain rfl : V = 3 := HV.out.trans ((clsV_go (show ¬ 1024 < cl.length from by have := HLL.out; omega) (by rw [clsGo_at HI.out HX.out.1 (v := 3) (clsOne_range (show chkS xv xs xp xf ≠ 0 from by rw [← HX.out.2.1]; exact q3)) (by first | decide | assumption)]; first | decide | assumption)).trans (clsGo_at HI.out HX.out.1 (clsOne_range (show chkS xv xs xp xf ≠ 0 from by rw [← HX.out.2.1]; exact q3)) (by first | decide | assumption)))
  go_wp2_with fail
  go_ret
  exact ⟨rfl, zxt⟩
 have q3b : (ES != 0) = false := by simpa using q3
 have q3c : ES = 0 := by omega
 go_wp2_with fail
 refine wp_region_held_drew (S := fun w' => w'.cell? ⟨w.heap.size, 0, none⟩ = some (.slice (some ⟨b1, o1, none⟩) n c) ∧ w'.cell? ⟨wr.heap.size, 0, none⟩ = some (.int .i64 xv) ∧ w'.cell? ⟨wr.heap.size, 1, none⟩ = some (.int .i64 xs) ∧ w'.cell? ⟨wr.heap.size, 2, none⟩ = some (.int .i64 xp) ∧ w'.cell? ⟨wr.heap.size, 3, none⟩ = some (.int .i64 xf) ∧ w'.cell? ⟨b1, o1 + m * 6, none⟩ = some (.int .i64 yv) ∧ w'.cell? ⟨b1, o1 + m * 6 + 1, none⟩ = some (.int .i64 ys) ∧ w'.cell? ⟨b1, o1 + m * 6 + 2, none⟩ = some (.int .i64 yp) ∧ w'.cell? ⟨b1, o1 + m * 6 + 3, none⟩ = some (.int .i64 yf)) (by kernel_rfl) (by first | with_reducible exact ⟨b_0, c0_0, c0_1, c0_2, c0_3, y_0, y_1, y_2, y_3⟩ | (simp [go_sem, World.cell?_alloc_past, *]; done)) (fun hHeld => ?_)
 refine' zt 0 ?_
 refine' zt 1 ?_
 refine' zt 2 ?_
 refine' zt 3 ?_
 refine' zt 4 ?_
 refine' zt 5 ?_
 refine' zt 6 ?_
 refine' zt 7 ?_
 refine' zt 8 ?_
 refine' zt 9 ?_
 refine' zt 10 ?_
 refine' zt 11 ?_
 refine' zn 12 (fun K hK => ?_)
 go_simp
 (with_reducible refine (rCompare12_at yv ys yp yf xv xs xp xf G _ HG.out).mono ?_)
 rintro e w12 ⟨rfl, hx12⟩
 replace y_0 := zh hx12 y_0
 replace y_1 := zh hx12 y_1
 replace y_2 := zh hx12 y_2
 replace y_3 := zh hx12 y_3
 replace b_0 := zh hx12 b_0
 replace b_1 := zh hx12 b_1
 replace c0_0 := zh hx12 c0_0
 replace c0_1 := zh hx12 c0_1
 replace c0_2 := zh hx12 c0_2
 replace c0_3 := zh hx12 c0_3
 replace c0_4 := zh hx12 c0_4
 replace c0_5 := zh hx12 c0_5
 have z12 := hx12.size
 try simp at z12
 replace ry := zr b1 w12
 replace rb := zr w.heap.size w12
 replace rc0 := zr wr.heap.size w12
 have X12 : Hid (Ext w w12) := Lib.hid (Ext.trans zxt hx12)
 clear X11 hx12 z12
 refine' zk hK (by (first | exact ⟨b_0, c0_0, c0_1, c0_2, c0_3, y_0, y_1, y_2, y_3⟩ | (simp [go_sem, World.cell?_alloc_past, *]; done))) (fun hHeld => ?_); clear hK K
 refine' zt 13 ?_
 refine' zt 14 ?_
 refine wpAnyH_done (by kernel_rfl) ?_ _
 by_cases q4 : 0 ≤ G
 ·have q4b : decide (0 ≤ G) = true := decide_eq_true q4
  obtain rfl : V = 9 := HV.out.trans ((clsV_go (show ¬ 1024 < cl.length from by have := HLL.out; omega) (by rw [clsGo_at HI.out HX.out.1 (v := 9) (clsOne_order (show chkS xv xs xp xf = 0 from by rw [← HX.out.2.1]; omega) (HP.out.trans q4b)) (by first | decide | assumption)]; first | decide | assumption)).trans (clsGo_at HI.out HX.out.1 (clsOne_order (show chkS xv xs xp xf = 0 from by rw [← HX.out.2.1]; omega) (HP.out.trans q4b)) (by first | decide | assumption)))
  go_wp2_with fail
  go_ret
  exact ⟨rfl, zxt⟩
 have q4b : decide (0 ≤ G) = false := decide_eq_false q4
 replace HP := Lib.hid (HP.out.trans q4b)
 go_wp2_with fail
 (with_reducible refine (CS.out _).mono ?_)
 rintro e w13 ⟨rfl, hx13⟩
 replace y_0 := zh hx13 y_0
 replace y_1 := zh hx13 y_1
 replace y_2 := zh hx13 y_2
 replace y_3 := zh hx13 y_3
 replace b_0 := zh hx13 b_0
 replace b_1 := zh hx13 b_1
 replace c0_0 := zh hx13 c0_0
 replace c0_1 := zh hx13 c0_1
 replace c0_2 := zh hx13 c0_2
 replace c0_3 := zh hx13 c0_3
 replace c0_4 := zh hx13 c0_4
 replace c0_5 := zh hx13 c0_5
 have z13 := hx13.size
 try simp at z13
 replace ry := zr b1 w13
 replace rb := zr w.heap.size w13
 replace rc0 := zr wr.heap.size w13
 have X13 : Hid (Ext w w13) := Lib.hid (Ext.trans zxt hx13)
 clear X12 hx13 z13
 by_cases q5 : ¬ EP = 0
 ·have q5b : (EP != 0) = true := by simp [q5]
  obtain rfl : V = EP := HV.out.trans ((clsV_go (show ¬ 1024 < cl.length from by have := HLL.out; omega) zSlTac1_3).trans (clsGo_at HI.out HX.out.1 ((clsOne_pool (c := (xv, xs, xp, xf, xt, xh)) (show chkS xv xs xp xf = 0 from by rw [← HX.out.2.1]; omega) HP.out (show chkE xt xh ≠ 0 from by rw [← HX.out.2.2]; exact q5)).trans HX.out.2.2.symm) (by first | decide | assumption)))
  go_wp2_with fail
  go_ret
  exact ⟨rfl, zxt⟩
 have q5b : (EP != 0) = false := by simpa using q5
 have q5c : EP = 0 := by omega
 by_cases q6 : xt = 0 ∧ xh = 0
 ·obtain ⟨q6a, q6b⟩ := q6
  have q6c : (xt == 0 && xh == 0) = true := two_true ⟨q6a, q6b⟩
  obtain rfl : V = 11 := HV.out.trans ((clsV_go (show ¬ 1024 < cl.length from by have := HLL.out; omega) zSlTac1_4).trans (clsGo_at HI.out HX.out.1 (clsOne_state (show chkS xv xs xp xf = 0 from by rw [← HX.out.2.1]; omega) HP.out (show chkE xt xh = 0 from by rw [← HX.out.2.2]; omega) ⟨q6a, q6b⟩) (by first | decide | assumption)))
  go_wp2_with fail
  go_ret
  exact ⟨rfl, zxt⟩
 have q6c : (xt == 0 && xh == 0) = false := two_false q6
 have HN := Lib.hid (clsGo_next HI.out HX.out.1 (clsOne_ok (show chkS xv xs xp xf = 0 from by rw [← HX.out.2.1]; omega) HP.out (show chkE xt xh = 0 from by rw [← HX.out.2.2]; omega) q6))
 go_wp2_with fail
 go_roundg (gk - 1)
 case measure => have := HK.out; omega
 exact ⟨by have := HK.out; omega, num_eq (by have := HK.out; omega), by rw [show n - (gk - 1) = (m + 1) + 1 from by have := HK.out; omega]; exact HN, ⟨b_0, b_1⟩, Lib.hid zxt⟩
end
end Go.Proofs.YtkinchgjidpjnaaGreat
