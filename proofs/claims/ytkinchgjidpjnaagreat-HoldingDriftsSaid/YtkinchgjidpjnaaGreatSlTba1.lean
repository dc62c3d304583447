/- Tba, part 1 of 5: Ext, Mem, Mem2, Held, HeldZ, Put, Open, Writer, Number, Has, Reader, Rec, Stamp1, StampC, StampB, StampM, Hd1, Hd2, Div, FixSpec, FixP, FixF, ShareP, ShareF, ShareG, ShareH, ShareJ, ShareV, ShareS, StampD, StampE, Hd3, Own, Held2, AppB, ListCls, ListPos, Hd5, Hd6. Conditions stand in each lemma. -/
import Derived.WalkKit
import Derived.Deep.QuietTactic
import Derived.Deep.Draws
import Derived.Lib.Hide
import Derived.Laws.OwnMore
import Derived.Laws.AppendOwn
import Derived.OwnWalk
import Derived.Maps.AppendAt
import Derived.Deep.RegionHeld3
import Derived.RangeFuncBox
import Derived.RangeFuncLeaves
import Derived.Shelf.Abstract
import Derived.OwnWalkIn
import Derived.TacticsInMore
import Derived.LoopNIn
import Derived.LoopIn
import Derived.Test.YtkinchgjidpjnaaGreatRows
import Derived.Deep.Onto
import Derived.ProofKit
import Derived.ChangeOld
import Derived.OpenShut
import Derived.Deep.Slices
import Derived.BigQuiet
import Derived.IntWalk
import Derived.Lib.SliceRun
import Derived.Deep.LoopGhost
import Derived.WalkSpells
import Derived.WalkLawsBesides
import Derived.Lib.SmallJoins
import Derived.Test.YtkinchgjidpjnaaGreatShelf
import Derived.Test.YtkinchgjidpjnaaGreatDivNorm
import Derived.Deep.DeepCutAuto
import Derived.Deep.CutBlock
import Derived.Shelf.Spec.BitsCarry
import Derived.Test.YtkinchgjidpjnaaGreatFixRefMath
import Derived.Test.YtkinchgjidpjnaaGreatFixDivideMath
import Derived.Handy
import Derived.ArgAppend
import Derived.Laws.CopyRow
import Derived.Lib.AppendZerosOnto
import Derived.Laws.Externs
import Derived.Lib.Overlaps
import Derived.Shelf.RegionOpenPlain
import Derived.Lib.AppendZeros
import Derived.WalkMore
import Derived.Laws.IdiomCopy
import Derived.Laws.StructEq
import Derived.RangeFuncNested
set_option linter.unusedVariables false
set_option linter.unusedSimpArgs false
set_option maxRecDepth 100000
set_option maxHeartbeats 64000000
namespace Go.Proofs.YtkinchgjidpjnaaGreat
abbrev I5 := Int × Int × Int × Int × Int
abbrev I6 := Int × Int × Int × Int × Int × Int
abbrev I9 := Int × Int × Int × Int × Int × Int × Int × Int × Int
section
open Go.RowKit
theorem zSlTba1_0 {P : Prop} (h : P := by repeat (first | assumption | exact Ext.refl _ | refine Ext.drew ?_ | refine Ext.drewN ?_ _ | refine Ext.alloc ?_ _ | refine Ext.setCell ?_ (by first | omega | (simp; done) | (simp; omega)) _ | refine Ext.trans ?_ (by assumption))) : P := h
theorem zSlTba1_1 {P : Prop} (h : P := by simp [go_sem, World.cell?_alloc_past, r1, r2, r3, r4, d3, d4, f3, f4]) : P := h
theorem zSlTba1_2 {P : Prop} (h : P := by simp [go_sem, World.frozen?_alloc_past, r1, r2, r3, r4, d3, d4, f3, f4]) : P := h
theorem zSlTba1_3 {P : Prop} (h : P := by simp [go_sem, World.cell?_alloc_past]) : P := h
theorem zSlTba1_4 {P : Prop} (h : P := by have X := XW.out; exact (by repeat (first | with_reducible exact X | with_reducible refine Ext.drew ?_ | with_reducible refine Ext.alloc ?_ _))) : P := h
theorem zSlTba1_5 {P : Prop} (h : P := by first | (simp; done) | (simp; omega)) : P := h
theorem zSlTba1_6 {P : Prop} (h : P := by simp [results, Tryz.results175, go_sem, p0, p1, p2, p3, p4, p5, d3, d4, World.cell?_alloc_past]; try rfl) : P := h
theorem zSlTba1_7 {P : Prop} (h : P := by (first | exact ⟨c0_0, c0_1, c0_2, c0_3, c0_4, c1_0, c1_1, c1_2, c1_3, c1_4⟩ | (simp [go_sem, World.cell?_alloc_past, *]; done))) : P := h
def Ext (w w' : World) : Prop := Below w.heap.size w w'
section
variable {a b c w w' : World}
theorem Ext.refl (w : World) : Ext w w := Below.refl _ _
theorem Ext.size (h : Ext a b) : a.heap.size ≤ b.heap.size := Below.size h
theorem Ext.trans (h : Ext a b) (k : Ext b c) : Ext a c := Below.trans h (Below.mono k (Ext.size h))
theorem Ext.drew (h : Ext a w) : Ext a w.drew := Below.drew h
theorem below_drewN {B : Nat} (h : Below B a w) (n : Nat) : Below B a (w.drewN n) := ⟨h.os, h.tape, h.output, h.size, h.block⟩
theorem Ext.drewN (h : Ext a w) (n : Nat) : Ext a (w.drewN n) := below_drewN h n
theorem Ext.alloc (h : Ext a w) (o : Obj) : Ext a (w.alloc o) := Below.alloc h (Ext.size h) o
theorem Ext.setCell (h : Ext a w) {p : Addr} (hp : a.heap.size ≤ p.block) (u : Value) : Ext a (w.setCell p u) := Below.setCell h hp u
theorem Ext.grown (h : Ext a w) {row : Option Nat} (hg : w.grownBy w' row) (hr : ∀ k, row = some k → a.heap.size ≤ k) : Ext a w' := Below.grown h hg (Ext.size h) hr
theorem Ext.cells (h : Ext a b) : (∀ k o, k < a.heap.size → b.cell? ⟨k, o, none⟩ = a.cell? ⟨k, o, none⟩) ∧ (∀ k o, k < a.heap.size → b.frozen? ⟨k, o, none⟩ = a.frozen? ⟨k, o, none⟩) :=
 ⟨fun k o hk => Below.cell h (p := ⟨k, o, none⟩) hk, fun k o hk => Below.frozen h (p := ⟨k, o, none⟩) hk⟩
theorem Ext.cell (h : Ext a b) {p : Addr} (hp : p.block < a.heap.size) : b.cell? p = a.cell? p := Below.cell h hp
theorem Ext.toGrown (h : Ext a b) : Below a.heap.size a b := h
end

def Drw (w w' : World) : Prop := ∃ n, w' = w.drewN n
theorem Drw.ext {w w' : World} (h : Drw w w') : Ext w w' := by
 obtain ⟨n, rfl⟩ := h
 exact (Ext.refl w).drewN n

theorem Drw.refl (w : World) : Drw w w := ⟨0, rfl⟩
theorem Drw.drewN {a w : World} (h : Drw a w) (n : Nat) : Drw a (w.drewN n) := by
 obtain ⟨m, rfl⟩ := h
 exact ⟨m + n, World.drewN_drewN _ _ _⟩
theorem Drw.trans {a b c : World} (h : Drw a b) (k : Drw b c) : Drw a c := by
 obtain ⟨n, rfl⟩ := k
 exact h.drewN n
theorem num_eq {k : IntKind} {a b : Int} (h : a = b) : Value.int k a = .int k b := by rw [h]
theorem ret_int {k : IntKind} {a b : Int} (h : a = b) : Ending.returned (.int k a) = .returned (.int k b) := by rw [h]
theorem ret_bool {a b : Bool} (h : a = b) : Ending.returned (.bool a) = .returned (.bool b) := by rw [h]
theorem ret_two {k l : IntKind} {a b c d : Int} (h : a = c) (h' : b = d) : Ending.returned (.tuple #[.int k a, .int l b]) = .returned (.tuple #[.int k c, .int l d]) := by rw [h, h']
theorem zcv {P : Prop} (h : P := by first | with_reducible assumption | (simp [go_sem, World.cell?_alloc_past, *]; done)) : P := h
theorem zxt {a b : World} (h : Ext a b := by repeat (first | with_reducible assumption | (with_reducible refine Hid.out ?_; with_reducible assumption) | with_reducible exact Ext.refl _ | with_reducible refine Ext.drew ?_ | with_reducible refine Ext.drewN ?_ _ | with_reducible refine Ext.alloc ?_ _ | with_reducible refine Ext.setCell ?_ (by first | omega | (simp; done) | (simp; omega)) _)) : Ext a b := h
end
section
open Go.RowKit
theorem addr_add (b o j : Nat) : (⟨b, o, none⟩ : Addr).add j = ⟨b, o + j, none⟩ := by unfold Addr.add; split <;> simp_all
def Sl (w : World) (sz : Nat) (A : Option Addr) (n c : Nat) (xs : List Value) : Prop :=
 xs.length = n * sz ∧ n ≤ c ∧ c ≤ maxLen ∧ (0 < n → ∃ b o, A = some ⟨b, o, none⟩ ∧ b < w.heap.size ∧ ∀ j u, xs[j]? = some u → w.cell? ⟨b, o + j, none⟩ = some u)
section
variable {w w' : World} {sz n c : Nat} {A : Option Addr} {xs : List Value}
theorem Sl.nil (w : World) (sz : Nat) : Sl w sz none 0 0 [] := ⟨by simp, Nat.le_refl _, by simp [maxLen], fun h => absurd h (by omega)⟩
theorem Sl.len (h : Sl w sz A n c xs) : xs.length = n * sz := h.1
theorem Sl.small (h : Sl w sz A n c xs) : n ≤ 9223372036854775807 := by have h1 := h.2.1; have h2 := h.2.2.1; simp [maxLen] at h2; omega
theorem Sl.at_ (h : Sl w sz A n c xs) (hn : 0 < n) : ∃ b o, A = some ⟨b, o, none⟩ ∧ b < w.heap.size ∧ ∀ j u, xs[j]? = some u → w.cell? ⟨b, o + j, none⟩ = some u := h.2.2.2 hn
theorem Sl.keep (h : Sl w sz A n c xs) (hs : w.heap.size ≤ w'.heap.size) (hk : ∀ b o, b < w.heap.size → w'.cell? ⟨b, o, none⟩ = w.cell? ⟨b, o, none⟩) : Sl w' sz A n c xs :=
 ⟨h.1, h.2.1, h.2.2.1, fun hn => by
  obtain ⟨b, o, e, hb, hc⟩ := h.2.2.2 hn
  exact ⟨b, o, e, by omega, fun j u hu => (hk _ _ hb).trans (hc j u hu)⟩⟩
theorem Sl.ext (h : Sl w sz A n c xs) (hx : Ext w w') : Sl w' sz A n c xs := h.keep hx.size fun b o hb => hx.cells.1 b o hb
theorem Sl.take (h : Sl w sz A n c xs) {m : Nat} (hm : m ≤ n) : Sl w sz A m c (xs.take (m * sz)) := by
 refine ⟨?_, by have := h.2.1; omega, h.2.2.1, fun hn => ?_⟩
 ·rw [List.length_take, h.1]
  exact Nat.min_eq_left (Nat.mul_le_mul_right _ hm)
 ·obtain ⟨b, o, e, hb, hc⟩ := h.2.2.2 (by omega)
  refine ⟨b, o, e, hb, fun j u hu => hc j u ?_⟩
  rw [List.getElem?_take] at hu
  split at hu
  ·exact hu
  ·cases hu
theorem Sl.drop (h : Sl w sz A n c xs) {k : Nat} (hk : k ≤ n) : Sl w sz (if c = k then A else A.map (·.add (k * sz))) (n - k) (c - k) (xs.drop (k * sz)) := by
 refine ⟨?_, by have := h.2.1; omega, by have := h.2.2.1; omega, fun hn => ?_⟩
 ·rw [List.length_drop, h.1, Nat.sub_mul]
 ·obtain ⟨b, o, rfl, hb, hc⟩ := h.2.2.2 (by omega)
  have := h.2.1
  rw [if_neg (by omega)]
  refine ⟨b, o + k * sz, by simp [addr_add], hb, fun j u hu => ?_⟩
  rw [List.getElem?_drop] at hu
  rw [Nat.add_assoc]
  exact hc _ u hu
theorem Sl.own {base : Nat} {e : TypeId} (h : w.ownsRow base e sz (.slice A n c) n xs) : Sl w sz A n c xs := by
 rcases h.2 with ⟨h', rfl⟩ | ⟨g, cap, cur, h', _, hg, hnc, hcm, hcs, htake⟩
 ·injection h' with h1 h2 h3
  subst h1; subst h3
  exact ⟨h.1, Nat.le_refl _, by simp [maxLen], fun hn => absurd hn (by omega)⟩
 ·injection h' with h1 h2 h3
  subst h1; subst h3
  refine ⟨h.1, hnc, hcm, fun hn => ⟨g, 0, rfl, (Array.getElem?_eq_some_iff.1 hg).1, fun j u hu => ?_⟩⟩
  rw [Nat.zero_add, cell_of_row w g j cur e (0, 0) hg]
  rw [← htake, List.getElem?_take] at hu
  split at hu
  ·simpa using hu
  ·cases hu
theorem Sl.drop0 (h : Sl w sz A 0 c xs) : xs = [] := List.eq_nil_of_length_eq_zero (by simpa using h.1)
end
def iv (k : IntKind) (l : List Int) : List Value := l.map (Value.int k)
theorem iv_len (k : IntKind) (l : List Int) : (iv k l).length = l.length := List.length_map _
theorem iv_get (k : IntKind) (l : List Int) (j : Nat) (h : j < l.length) : (iv k l)[j]? = some (.int k (l.getD j 0)) := by
 unfold iv
 rw [List.getElem?_map, List.getD_eq_getElem?_getD, List.getElem?_eq_getElem h]
 rfl
theorem Sl.cell {w : World} {A : Option Addr} {n c : Nat} {k : IntKind} {l : List Int} (h : Sl w 1 A n c (iv k l)) {j : Nat} (hj : j < n) :
  ∃ b o, A = some ⟨b, o, none⟩ ∧ b < w.heap.size ∧ ∀ j, j < n → w.cell? ⟨b, o + j, none⟩ = some (.int k (l.getD j 0)) := by
 obtain ⟨b, o, e, hb, hc⟩ := h.at_ (by omega)
 have hl := h.len
 rw [iv_len] at hl
 exact ⟨b, o, e, hb, fun j hj => hc j _ (iv_get k l j (by omega))⟩
theorem Ext.below {a w w' : World} (h : Ext a w) (k : Below a.heap.size w w') : Ext a w' := Below.trans h k
end
section
open Go.RowKit
theorem run_append_none {P : Program} (w : World) (base : Nat) (t ty e : TypeId) (i : TypeInfo) (size : Nat) (ht : P.underlying t = some (.slice e)) (hi : P.info? e = some i)
  (v : Value) (n : Nat) (xs : List Value) (hown : w.ownsRow base e size v n xs) (c : Nat) : (Builtin.append_ #[t, t] ty #[v, .slice none 0 c]).run P w = .ok v w := by
 rcases hown.2 with ⟨rfl, rfl⟩ | ⟨g, cap, cur, rfl, _, _, hnc, _⟩
 ·simp [Builtin.append_, run_underlying ht, sizeOf, typeInfo, hi, Builtin.lenOf, Builtin.firstCells]
 ·simp [Builtin.append_, run_underlying ht, sizeOf, typeInfo, hi, Builtin.lenOf, Builtin.firstCells, hnc, storeCells]

theorem wpList_append_sl {P : Program} (w : World) {ops : Array Oper} {rest : List Oper} {o : Oper} {a : Act} {Q : Exit → Act → World → Prop} (hgd : o.guard = none) (s x : Operand) (t : TypeId)
  (ho : o.op = .call { callee := .builtin .append, args := #[s, x], argTypes := #[t, t] })
  (base : Nat) (e : TypeId) (i : TypeInfo) (z : Value) (size bytes : Nat) (ht : P.underlying t = some (.slice e)) (hi : P.info? e = some i) (hz : i.zero = some z)
  (hsize : i.size = size) (hby : i.bytes = bytes) (hzs : z.cells.size = size) (hsz : 0 < size)
  (v : Value) (n : Nat) (xs : List Value) (hs : a.eval s = v) (hown : w.ownsRow base e size v n xs) (A : Option Addr) (m c : Nat) (news : List Value)
  (hx : a.eval x = .slice A m c) (hS : Sl w size A m c news) (h1 : ∀ u ∈ news, u.oneCell' = true)
  (hn : n + m < 1099511627776) (hb128 : bytes ≤ 127) (hbase : base ≤ w.heap.size)
  (h : ∀ v' w', w'.ownsRow base e size v' (n + m) (xs ++ news) → Below base w w' → wpList P ops Q rest (a.put o.dst v') w') :
  wpList P ops Q (o :: rest) a w := by
 have hby2 : (n + m) * bytes ≤ 140737488355328 := by
  have : (n + m) * bytes ≤ 1099511627776 * 127 := Nat.mul_le_mul (by omega) hb128
  omega
 rcases A with _ | ad
 ·have hm : m = 0 := by
   rcases Nat.eq_zero_or_pos m with h0 | h0
   ·exact h0
   ·obtain ⟨_, _, hh, _⟩ := hS.at_ h0
    cases hh
  subst hm
  have hnw : news = [] := hS.drop0
  subst hnw
  have hrun := run_append_none (P := P) w base t o.type e i size ht hi v n xs hown c
  have hk := h v w (by simpa using hown) (Below.refl _ _)
  refine wpList_plain hgd fun K hK => ?_
  unfold Oper.wp execOp
  simp only [ho, resolve, invoke, builtin, Sem.run_bind, Sem.run_pure, Result.andThen_ok, List.map_toArray, List.map_cons, List.map_nil, hs, hx, hrun]
  exact hK _ _ hk
 ·have hcells : ∀ j u, news[j]? = some u → w.cell? (ad.add j) = some u := by
   intro j u hu
   rcases Nat.eq_zero_or_pos m with h0 | h0
   ·subst h0
    rw [hS.drop0] at hu
    simp at hu
   ·obtain ⟨b, o', hh, _, hc⟩ := hS.at_ h0
    injection hh with hh
    subst hh
    rw [addr_add]
    exact hc j u hu
  refine wpList_append_own w hgd s x t ho base e i z size bytes ht hi hz hsize hby hzs hsz v n xs hs hown ad m c news hx hS.len hcells h1
   (by simp [maxLen]; omega) hby2 hbase ?_
  intro v' w' h2 h3 h4
  exact h v' w' h2 ((Below.refl base w).grown h3 hbase (fun k hk => (hown.lt k hk).1))

theorem sl_new (w : World) (e : TypeId) (sz : Nat) (cs : Array Value) (n : Nat) (h : cs.size = n * sz) (hn : n ≤ 1000000) : Sl (w.alloc (.cells cs e)) sz (some ⟨w.heap.size, 0, none⟩) n n cs.toList := by
 refine ⟨by simpa using h, Nat.le_refl _, by simp [maxLen]; omega, fun _ => ⟨w.heap.size, 0, rfl, by simp, fun j u hu => ?_⟩⟩
 rw [Nat.zero_add, cell_of_row _ _ j cs e (0, 0) (heap_alloc_new w _)]
 simpa using hu
theorem own_empty (w : World) (e : TypeId) (sz : Nat) : (w.alloc (.cells #[] e)).ownsRow w.heap.size e sz (.slice (some ⟨w.heap.size, 0, none⟩) 0 0) 0 [] :=
 World.ownsRow_lit w #[] 0 (Nat.le_refl _) (by simp [maxLen]) (by simp)
end
section
open Go.RowKit
theorem take_in {P : Program} {md : Region.Mode} {l : List Oper} {Q : Exit → Act → World → Prop} {S : World → Prop} {oi : Oper} {v : Value} {fuel : Nat} {listed : Array Bool} {a : Act} {w : World} (i : Nat) (hi : l[i]? = some oi)
  (hs : Region.noSelect l.toArray = true) (hf : Region.free md l.toArray listed i = true) (hr : (Region.ready md l.toArray listed).contains i = true)
  (hQ : ∀ c a w, Q (.panic c) (a.put oi.dst v) w → Q (.panic c) a w) (hw : Region.wanted oi (yielded l.toArray a.tmps) = true) (hS : S w) (hy : ∀ w, S w → (execOp a.eval oi).run P w = .ok (.value v) w)
  (h : wpAnyH P md l.toArray Q S fuel (listed.setIfInBounds i true) (a.put oi.dst v) w) : wpAnyH P md l.toArray Q S (fuel + 1) listed a w :=
 wpAnyH_take (ops := l.toArray) (i := i) (oi := oi) (v := v) (by simpa using hi) hs hf hr hQ (Or.inl ⟨hw, hy⟩) hS h
theorem skip_in {P : Program} {md : Region.Mode} {l : List Oper} {Q : Exit → Act → World → Prop} {S : World → Prop} {oi : Oper} {fuel : Nat} {listed : Array Bool} {a : Act} {w : World} (i : Nat) (hi : l[i]? = some oi)
  (hs : Region.noSelect l.toArray = true) (hf : Region.free md l.toArray listed i = true) (hr : (Region.ready md l.toArray listed).contains i = true)
  (hQ : ∀ c a w, Q (.panic c) (a.put oi.dst undef) w → Q (.panic c) a w) (hw : Region.wanted oi (yielded l.toArray a.tmps) = false) (hS : S w)
  (h : wpAnyH P md l.toArray Q S fuel (listed.setIfInBounds i true) (a.put oi.dst undef) w) : wpAnyH P md l.toArray Q S (fuel + 1) listed a w :=
 wpAnyH_take (ops := l.toArray) (i := i) (oi := oi) (v := undef) (by simpa using hi) hs hf hr hQ (Or.inr ⟨hw, rfl⟩) hS h
theorem next_in {P : Program} {md : Region.Mode} {l : List Oper} {Q : Exit → Act → World → Prop} {S : World → Prop} {oi : Oper} {fuel : Nat} {listed : Array Bool} {a : Act} {w : World} (i : Nat) (hi : l[i]? = some oi)
  (hr : Region.ready md l.toArray listed = [i]) (hw : Region.wanted oi (yielded l.toArray a.tmps) = true)
  (h : ∀ K' : Act → World → Prop, Shut (∀ a w, S w → (S w → wpAnyH P md l.toArray Q S fuel (listed.setIfInBounds i true) a w) → K' a w) → Oper.wp P oi a w K' Q) : wpAnyH P md l.toArray Q S (fuel + 1) listed a w :=
 wpAnyH_ready hr (by simp) (AllReadyH.cons (o := oi) (by simpa using hi) (fun K' hK => by rw [if_pos hw]; exact h K' hK) AllReadyH.nil)
end
section
open Go.RowKit
theorem zt {P : Program} {md : Region.Mode} {l : List Oper} {Q : Exit → Act → World → Prop} {S : World → Prop} {oi : Oper} {v : Value} {fuel : Nat} {listed listed' : Array Bool} {a a' : Act} {w : World} (i : Nat) (h : wpAnyH P md l.toArray Q S fuel listed' a' w) (hS : S w := by assumption) (hi : l[i]? = some oi := by rfl)
  (hs : Region.noSelect l.toArray = true := by kernel_rfl) (hf : Region.free md l.toArray listed i = true := by kernel_rfl) (hr : (Region.ready md l.toArray listed).contains i = true := by kernel_rfl)
  (hQ : ∀ c a w, Q (.panic c) (a.put oi.dst v) w → Q (.panic c) a w := by exact fun _ _ _ h => h) (hw : Region.wanted oi (yielded l.toArray a.tmps) = true := by rfl) (hy : ∀ w, S w → (execOp a.eval oi).run P w = .ok (.value v) w := by intro w hSw; (try dsimp only at hSw); go_simp; try with_reducible rfl)
  (hl : listed.setIfInBounds i true = listed' := by first | (simp only [List.setIfInBounds_toArray, List.set_cons_zero, List.set_cons_succ]; with_reducible rfl) | with_reducible rfl) (ha : a.put oi.dst v = a' := by first | (simp only [Act.put, List.setIfInBounds_toArray, List.set_cons_zero, List.set_cons_succ]; with_reducible rfl) | with_reducible rfl) : wpAnyH P md l.toArray Q S (fuel + 1) listed a w := by
 subst hl; subst ha
 exact take_in i hi hs hf hr hQ hw hS hy h
theorem zs {P : Program} {md : Region.Mode} {l : List Oper} {Q : Exit → Act → World → Prop} {S : World → Prop} {oi : Oper} {fuel : Nat} {listed listed' : Array Bool} {a a' : Act} {w : World} (i : Nat) (h : wpAnyH P md l.toArray Q S fuel listed' a' w) (hS : S w := by assumption) (hi : l[i]? = some oi := by rfl)
  (hs : Region.noSelect l.toArray = true := by kernel_rfl) (hf : Region.free md l.toArray listed i = true := by kernel_rfl) (hr : (Region.ready md l.toArray listed).contains i = true := by kernel_rfl)
  (hQ : ∀ c a w, Q (.panic c) (a.put oi.dst undef) w → Q (.panic c) a w := by exact fun _ _ _ h => h) (hw : Region.wanted oi (yielded l.toArray a.tmps) = false := by rfl)
  (hl : listed.setIfInBounds i true = listed' := by first | (simp only [List.setIfInBounds_toArray, List.set_cons_zero, List.set_cons_succ]; with_reducible rfl) | with_reducible rfl) (ha : a.put oi.dst undef = a' := by first | (simp only [Act.put, List.setIfInBounds_toArray, List.set_cons_zero, List.set_cons_succ]; with_reducible rfl) | with_reducible rfl) : wpAnyH P md l.toArray Q S (fuel + 1) listed a w := by
 subst hl; subst ha
 exact skip_in i hi hs hf hr hQ hw hS h
theorem zn {P : Program} {md : Region.Mode} {l : List Oper} {Q : Exit → Act → World → Prop} {S : World → Prop} {oi : Oper} {fuel : Nat} {listed : Array Bool} {a : Act} {w : World} (i : Nat)
  (h : ∀ K' : Act → World → Prop, Shut (∀ a w, S w → (S w → wpAnyH P md l.toArray Q S fuel (listed.setIfInBounds i true) a w) → K' a w) → Oper.wp P oi a w K' Q) (hi : l[i]? = some oi := by rfl)
  (hr : Region.ready md l.toArray listed = [i] := by kernel_rfl) (hw : Region.wanted oi (yielded l.toArray a.tmps) = true := by rfl) : wpAnyH P md l.toArray Q S (fuel + 1) listed a w := next_in i hi hr hw h
theorem zk {P : Program} {md : Region.Mode} {l : List Oper} {Q : Exit → Act → World → Prop} {S : World → Prop} {fuel : Nat} {listed listed' : Array Bool} {a a' : Act} {w : World} {K : Act → World → Prop}
  (hK : Shut (∀ a w, S w → (S w → wpAnyH P md l.toArray Q S fuel listed a w) → K a w)) (hS : S w) (h : S w → wpAnyH P md l.toArray Q S fuel listed' a' w)
  (hl : listed = listed' := by first | (simp only [List.setIfInBounds_toArray, List.set_cons_zero, List.set_cons_succ]; with_reducible rfl) | with_reducible rfl) (ha : a = a' := by first | (simp only [Act.put, List.setIfInBounds_toArray, List.set_cons_zero, List.set_cons_succ]; with_reducible rfl) | with_reducible rfl) : K a w := by
 subst hl; subst ha
 exact hK.out _ _ hS h
theorem zr (a : Nat) (W : World) (h : a < W.heap.size := by omega) : a < W.heap.size ∧ a < W.heap.size + 1 ∧ a < W.heap.size + 1 + 1 ∧ a < W.heap.size + 1 + 1 + 1 ∧ ¬ a = W.heap.size := by omega
end
section
open Go.RowKit Go.Shelf
attribute [local go_sem] Oper.semAt_some

def by_ (l : List Nat) : List Value := l.map fun (x : Nat) => Value.int .u8 (x : Int)
end
section
open Go.RowKit Go.ChangeShapes Go.WideShapes
def Fits (k : IntKind) (x : Int) : Prop := (Lit.int k x).wf = true
theorem Fits.u64 {x : Int} (h : Fits .u64 x) : 0 ≤ x ∧ x < 18446744073709551616 := by
 have := bounds_u64 (n := x) h
 omega
theorem Fits.i64 {x : Int} (h : Fits .i64 x) : -9223372036854775808 ≤ x ∧ x ≤ 9223372036854775807 := bounds_i64 (n := x) h

section
variable {H : Type} {enc : TypeId × Value → H} {P : Program} {w : World} {base : Nat} {spare : Nat → Bool} {held : Bool}
end
end
section
open Go.RowKit
structure Wr (w : World) (g : Nat) (lim err : Int) (L : List Nat) : Prop where
 b : ∃ A c, w.cell? ⟨g, 0, none⟩ = some (.slice A L.length c) ∧ w.ownsRow (g + 1) 5 1 (.slice A L.length c) L.length (by_ L)
 c1 : w.cell? ⟨g, 1, none⟩ = some (.int .i64 lim)
 c2 : w.cell? ⟨g, 2, none⟩ = some (.bool true)
 c3 : w.cell? ⟨g, 3, none⟩ = some (.int .i64 err)
 f0 : w.frozen? ⟨g, 0, none⟩ = false
 f3 : w.frozen? ⟨g, 3, none⟩ = false
 lt : g < w.heap.size
 short : L.length ≤ 1048576
 l0 : 0 ≤ lim
 l1 : lim ≤ 1048576
theorem Wr.keep {w w' : World} {g : Nat} {lim err : Int} {L : List Nat} (h : Wr w g lim err L) (hb : Below w.heap.size w w') : Wr w' g lim err L := by
 obtain ⟨A, c, h0, h1⟩ := h.b
 have cl : ∀ o, w'.cell? ⟨g, o, none⟩ = w.cell? ⟨g, o, none⟩ := fun o => hb.cell (p := ⟨g, o, none⟩) h.lt
 have fl : ∀ o, w'.frozen? ⟨g, o, none⟩ = w.frozen? ⟨g, o, none⟩ := fun o => hb.frozen (p := ⟨g, o, none⟩) h.lt
 have hs := hb.size
 refine ⟨⟨A, c, (cl 0).trans h0, ?_⟩, (cl 1).trans h.c1, (cl 2).trans h.c2, (cl 3).trans h.c3, (fl 0).trans h.f0, (fl 3).trans h.f3, by have := h.lt; omega, h.short, h.l0, h.l1⟩
 refine ⟨h1.1, ?_⟩
 rcases h1.2 with h2 | ⟨q, cap, cur, e, hq, hq2, rest⟩
 ·exact .inl h2
 ·exact .inr ⟨q, cap, cur, e, hq, (hb.block q (Array.getElem?_eq_some_iff.1 hq2).1).trans hq2, rest⟩
theorem Wr.drewN {w : World} {g : Nat} {lim err : Int} {L : List Nat} (h : Wr w g lim err L) (n : Nat) : Wr (w.drewN n) g lim err L := h.keep (below_drewN (Below.refl _ _) n)
end
section
open Go.RowKit
def Byt (L : List Nat) : Prop := ∀ x ∈ L, x < 256
theorem Byt.get {L : List Nat} (h : Byt L) (k : Nat) : L.getD k 0 < 256 := by
 rw [List.getD_eq_getElem?_getD]
 rcases Nat.lt_or_ge k L.length with hk | hk
 ·rw [List.getElem?_eq_getElem hk]; exact h _ (List.getElem_mem hk)
 ·rw [List.getElem?_eq_none hk]; decide
end
section
open Go.RowKit
theorem cell_lt {w : World} {b o : Nat} {v : Value} (h : w.cell? ⟨b, o, none⟩ = some v) : b < w.heap.size := by
 by_cases hb : b < w.heap.size
 ·exact hb
 ·simp [World.cell?, Array.getElem?_eq_none (show w.heap.size ≤ b from by omega)] at h
theorem Ext.has {a b : World} (h : Ext a b) {k o : Nat} {v : Value} (hc : a.cell? ⟨k, o, none⟩ = some v) : b.cell? ⟨k, o, none⟩ = some v := (h.cells.1 k o (cell_lt hc)).trans hc
theorem Ext.froz {a b : World} (h : Ext a b) {k o : Nat} {v : Value} (hc : a.cell? ⟨k, o, none⟩ = some v) (hf : a.frozen? ⟨k, o, none⟩ = false) : b.frozen? ⟨k, o, none⟩ = false := (h.cells.2 k o (cell_lt hc)).trans hf
structure But (S : Nat → Prop) (w w' : World) : Prop where
 os : w'.os = w.os
 tape : w'.tape = w.tape
 output : w'.output = w.output
 size : w.heap.size ≤ w'.heap.size
 block : ∀ k, k < w.heap.size → ¬ S k → w'.heap[k]? = w.heap[k]?
section
variable {S : Nat → Prop} {a b c w w' : World}
theorem But.refl (S : Nat → Prop) (w : World) : But S w w := ⟨rfl, rfl, rfl, Nat.le_refl _, fun _ _ _ => rfl⟩
theorem But.trans (h : But S a b) (k : But S b c) : But S a c :=
 ⟨k.os.trans h.os, k.tape.trans h.tape, k.output.trans h.output, Nat.le_trans h.size k.size, fun i hi hs => (k.block i (by have := h.size; omega) hs).trans (h.block i hi hs)⟩
theorem But.ofExt (h : Ext a b) : But S a b := ⟨h.os, h.tape, h.output, Ext.size h, fun k hk _ => Below.block h k hk⟩
theorem But.mono {S' : Nat → Prop} (h : But S a b) (hs : ∀ k, k < a.heap.size → S k → S' k) : But S' a b := ⟨h.os, h.tape, h.output, h.size, fun k hk hn => h.block k hk (fun hk' => hn (hs k hk hk'))⟩
theorem But.setCell (h : But S a b) {p : Addr} (hp : S p.block) (u : Value) : But S a (b.setCell p u) :=
 h.trans ⟨rfl, rfl, rfl, by simp [World.setCell], fun k _ hn => Below.heap_setCell _ _ _ _ (fun e => hn (e ▸ hp))⟩
theorem But.alloc (h : But S a b) (o : Obj) : But S a (b.alloc o) := h.trans (But.ofExt ((Ext.refl _).alloc o))
theorem But.drewN (h : But S a b) (n : Nat) : But S a (b.drewN n) := ⟨h.os, h.tape, h.output, h.size, h.block⟩
theorem But.below {B : Nat} (h : But S a b) (hB : B ≤ a.heap.size) (hs : ∀ k, k < B → ¬ S k) : Below B a b := ⟨h.os, h.tape, h.output, h.size, fun k hk => h.block k (by omega) (hs k hk)⟩
theorem But.cell (h : But S a b) {k o : Nat} (hk : k < a.heap.size) (hs : ¬ S k) : b.cell? ⟨k, o, none⟩ = a.cell? ⟨k, o, none⟩ := World.cell?_of_block (w := a) (a := ⟨k, o, none⟩) (h.block k hk hs)
theorem But.frozen (h : But S a b) {k o : Nat} (hk : k < a.heap.size) (hs : ¬ S k) : b.frozen? ⟨k, o, none⟩ = a.frozen? ⟨k, o, none⟩ := World.frozen?_of_block (w := a) (a := ⟨k, o, none⟩) (h.block k hk hs)
theorem But.has (h : But S a b) {k o : Nat} {v : Value} (hs : ¬ S k) (hc : a.cell? ⟨k, o, none⟩ = some v) : b.cell? ⟨k, o, none⟩ = some v := (h.cell (cell_lt hc) hs).trans hc
theorem But.froz (h : But S a b) {k o : Nat} {v : Value} (hs : ¬ S k) (hc : a.cell? ⟨k, o, none⟩ = some v) (hf : a.frozen? ⟨k, o, none⟩ = false) : b.frozen? ⟨k, o, none⟩ = false := (h.frozen (cell_lt hc) hs).trans hf
end
theorem heap_set_type {w : World} {p : Addr} {v : Value} {cs : Array Value} {t : TypeId} {z : Nat × Nat} (h : w.heap[p.block]? = some (.cells cs t z)) : ∃ cs', (w.setCell p v).heap[p.block]? = some (.cells cs' t z) := by
 simp only [World.setCell, Array.getElem?_modify, if_pos, h, Option.map_some]
 exact ⟨_, rfl⟩
theorem But.setNew {S : Nat → Prop} {a b : World} (h : But S a b) {p : Addr} (hp : a.heap.size ≤ p.block) (u : Value) : But S a (b.setCell p u) :=
 ⟨h.os, h.tape, h.output, by have := h.size; simpa using this, fun k hk hs => (Below.heap_setCell _ _ _ _ (by omega)).trans (h.block k hk hs)⟩
theorem But.drew {S : Nat → Prop} {a b : World} (h : But S a b) : But S a b.drew := ⟨h.os, h.tape, h.output, h.size, h.block⟩
theorem But.setG {g o : Nat} {a b : World} (h : But (· = g) a b) (u : Value) : But (· = g) a (b.setCell ⟨g, o, none⟩ u) := h.setCell (p := ⟨g, o, none⟩) rfl u
theorem zh {a a0 b : World} {k o : Nat} {v : Value} (hx : Ext a b) (c : a0.cell? ⟨k, o, none⟩ = some v) (h : a.cell? ⟨k, o, none⟩ = some v := by first | with_reducible assumption | (simp [go_sem, World.cell?_alloc_past, *]; done)) : b.cell? ⟨k, o, none⟩ = some v := hx.has h
theorem zf {a a0 a1 b : World} {k o : Nat} {v : Value} (hx : Ext a b) (c : a0.cell? ⟨k, o, none⟩ = some v) (f : a1.frozen? ⟨k, o, none⟩ = false) (h : a.cell? ⟨k, o, none⟩ = some v := by first | with_reducible assumption | (simp [go_sem, World.cell?_alloc_past, *]; done)) (h2 : a.frozen? ⟨k, o, none⟩ = false := by first | with_reducible assumption | (simp [go_sem, World.cell?_alloc_past, *]; done)) : b.frozen? ⟨k, o, none⟩ = false := hx.froz h h2
theorem zhb {S : Nat → Prop} {a a0 b : World} {k o : Nat} {v : Value} (hx : But S a b) (c : a0.cell? ⟨k, o, none⟩ = some v) (ne : ¬ S k := by show ¬ _ = _; first | assumption | omega) (h : a.cell? ⟨k, o, none⟩ = some v := by first | with_reducible assumption | (simp [go_sem, World.cell?_alloc_past, *]; done)) : b.cell? ⟨k, o, none⟩ = some v := hx.has ne h
theorem zfb {S : Nat → Prop} {a a0 a1 b : World} {k o : Nat} {v : Value} (hx : But S a b) (c : a0.cell? ⟨k, o, none⟩ = some v) (f : a1.frozen? ⟨k, o, none⟩ = false) (ne : ¬ S k := by show ¬ _ = _; first | assumption | omega) (h : a.cell? ⟨k, o, none⟩ = some v := by first | with_reducible assumption | (simp [go_sem, World.cell?_alloc_past, *]; done)) (h2 : a.frozen? ⟨k, o, none⟩ = false := by first | with_reducible assumption | (simp [go_sem, World.cell?_alloc_past, *]; done)) : b.frozen? ⟨k, o, none⟩ = false := hx.froz ne h h2
theorem zrc {a s : Nat} (h : a < s) : a < s ∧ a < s + 1 ∧ a < s + 1 + 1 ∧ a < s + 1 + 1 + 1 ∧ ¬ a = s := by omega
end
section
open Go.RowKit
def FltAt (w : World) (g : Nat) (v : Value) : Option (Int × Int) → Prop
 | none => v = .pointer none
 | some (e, a) => ∃ fb, v = .pointer (some ⟨fb, 0, none⟩) ∧ (g < fb ∧ fb < w.heap.size) ∧ w.cell? ⟨fb, 0, none⟩ = some (.int .i64 e) ∧ w.cell? ⟨fb, 1, none⟩ = some (.int .i64 a) ∧ ∃ cs z, w.heap[fb]? = some (.cells cs 95 z)
structure Rd (w : World) (g : Nat) (L : List Nat) (k : Nat) (flt : Option (Int × Int)) : Prop where
 b : ∃ A c, w.cell? ⟨g, 0, none⟩ = some (.slice A L.length c) ∧ Sl w 1 A L.length c (by_ L) ∧ ∀ b o s, A = some ⟨b, o, s⟩ → b < g
 c1 : w.cell? ⟨g, 1, none⟩ = some (.int .i64 (k : Int))
 c2 : w.cell? ⟨g, 2, none⟩ = some (.bool true)
 c3 : ∃ v, w.cell? ⟨g, 3, none⟩ = some v ∧ FltAt w g v flt
 f1 : w.frozen? ⟨g, 1, none⟩ = false
 f3 : w.frozen? ⟨g, 3, none⟩ = false
 lt : g < w.heap.size
 le : k ≤ L.length
 byt : Byt L
theorem FltAt.keep {w w' : World} {g : Nat} {v : Value} {flt : Option (Int × Int)} (h : FltAt w g v flt) (hb : Below w.heap.size w w') : FltAt w' g v flt := by
 match flt, h with
 | none, h => exact h
 | some (e, a), ⟨fb, h1, h2, h3, h4, cs, z, h5⟩ => exact ⟨fb, h1, ⟨h2.1, by have := hb.size; omega⟩, (hb.cell (p := ⟨fb, 0, none⟩) h2.2).trans h3, (hb.cell (p := ⟨fb, 1, none⟩) h2.2).trans h4, cs, z, (hb.block fb h2.2).trans h5⟩
theorem Rd.keep {w w' : World} {g k : Nat} {L : List Nat} {flt : Option (Int × Int)} (h : Rd w g L k flt) (hb : Below w.heap.size w w') : Rd w' g L k flt := by
 obtain ⟨A, c, h0, h1, h2⟩ := h.b
 obtain ⟨v, h3, h4⟩ := h.c3
 have cl : ∀ o, w'.cell? ⟨g, o, none⟩ = w.cell? ⟨g, o, none⟩ := fun o => hb.cell (p := ⟨g, o, none⟩) h.lt
 have fl : ∀ o, w'.frozen? ⟨g, o, none⟩ = w.frozen? ⟨g, o, none⟩ := fun o => hb.frozen (p := ⟨g, o, none⟩) h.lt
 exact ⟨⟨A, c, (cl 0).trans h0, h1.ext hb, h2⟩, (cl 1).trans h.c1, (cl 2).trans h.c2, ⟨v, (cl 3).trans h3, h4.keep hb⟩, (fl 1).trans h.f1, (fl 3).trans h.f3, by have := h.lt; have := hb.size; omega, h.le, h.byt⟩
theorem Rd.drewN {w : World} {g k : Nat} {L : List Nat} {flt : Option (Int × Int)} (h : Rd w g L k flt) (n : Nat) : Rd (w.drewN n) g L k flt := h.keep (below_drewN (Below.refl _ _) n)
theorem cell_set_other {w : World} {g o b o' : Nat} {v : Value} (h : b ≠ g ∨ o' ≠ o) : (w.setCell ⟨g, o, none⟩ v).cell? ⟨b, o', none⟩ = w.cell? ⟨b, o', none⟩ :=
 World.cell?_setCell_other _ _ _ _ (by intro e; simp at e; omega)
theorem Sl.setOther {w : World} {sz n c g o : Nat} {A : Option Addr} {xs : List Value} {v : Value} (h : Sl w sz A n c xs) (hg : ∀ b o s, A = some ⟨b, o, s⟩ → b < g) : Sl (w.setCell ⟨g, o, none⟩ v) sz A n c xs :=
 ⟨h.1, h.2.1, h.2.2.1, fun hn => by
  obtain ⟨b, o', e, hb, hc⟩ := h.2.2.2 hn
  have := hg _ _ _ e
  exact ⟨b, o', e, by simpa using hb, fun j u hu => (cell_set_other (.inl (by omega))).trans (hc j u hu)⟩⟩
def failF (flt : Option (Int × Int)) (e a : Int) : Option (Int × Int) := match flt with | some x => some x | none => if e = 0 then none else some (e, a)
theorem Rd.setOther {w : World} {g k : Nat} {L : List Nat} {flt : Option (Int × Int)} (h : Rd w g L k flt) {b o : Nat} {v : Value} (hg : g < b) (ht : ∃ cs t z, w.heap[b]? = some (.cells cs t z) ∧ t ≠ 95) : Rd (w.setCell ⟨b, o, none⟩ v) g L k flt := by
 obtain ⟨A, c, h0, h1, h2⟩ := h.b
 obtain ⟨v3, h3, h4⟩ := h.c3
 have ne : ∀ o', g ≠ b ∨ o' ≠ o := fun _ => .inl (by omega)
 refine ⟨⟨A, c, (cell_set_other (ne _)).trans h0, h1.setOther (fun b' o' s e => by have := h2 b' o' s e; omega), h2⟩, (cell_set_other (ne _)).trans h.c1, (cell_set_other (ne _)).trans h.c2, ⟨v3, (cell_set_other (ne _)).trans h3, ?_⟩, by rw [World.frozen?_setCell]; exact h.f1, by rw [World.frozen?_setCell]; exact h.f3, by simpa using h.lt, h.le, h.byt⟩
 match flt, h4 with
 | none, h4 => exact h4
 | some (e, a), ⟨fb, k1, k2, k3, k4, cs, z, k5⟩ =>
  have hne : fb ≠ b := by
   intro hh
   subst hh
   obtain ⟨cs', t', z', k6, k7⟩ := ht
   rw [k5] at k6
   injection k6 with k6
   injection k6 with _ k8
   exact k7 k8.symm
  exact ⟨fb, k1, ⟨k2.1, by simpa using k2.2⟩, (cell_set_other (.inl hne)).trans k3, (cell_set_other (.inl hne)).trans k4, cs, z, (Below.heap_setCell _ _ _ _ (by simpa using hne)).trans k5⟩
theorem Byt.drop {L : List Nat} (h : Byt L) (k : Nat) : Byt (L.drop k) := fun x hx => h x (List.mem_of_mem_drop hx)
end
section
open Go.RowKit Go.ChangeShapes Go.WideShapes Go.Deep Go.Joins
theorem flat_len {α : Type} {f : α → List Value} {sz : Nat} (hf : ∀ x, (f x).length = sz) (l : List α) : (l.flatMap f).length = l.length * sz := by
 induction l with
 | nil => simp
 | cons x l ih => rw [List.flatMap_cons, List.length_append, hf, ih, List.length_cons, Nat.add_mul, Nat.one_mul, Nat.add_comm]
theorem flat_get {α : Type} {f : α → List Value} {sz : Nat} (hf : ∀ x, (f x).length = sz) : ∀ (l : List α) (i j : Nat) (x : α), l[i]? = some x → j < sz → (l.flatMap f)[i * sz + j]? = (f x)[j]?
 | [], i, j, x, h, _ => by simp at h
 | y :: l, 0, j, x, h, hj => by
  simp at h
  subst h
  rw [List.flatMap_cons, Nat.zero_mul, Nat.zero_add, List.getElem?_append_left (by rw [hf]; exact hj)]
 | y :: l, i + 1, j, x, h, hj => by
  rw [List.flatMap_cons, Nat.add_mul, Nat.one_mul, List.getElem?_append_right (by rw [hf]; omega), hf]
  rw [show i * sz + sz + j - sz = i * sz + j from by omega]
  exact flat_get hf l i j x (by simpa using h) hj
section
variable {H : Type} {enc : TypeId × Value → H} {P : Program} {w : World} {base : Nat} {spare : Nat → Bool} {held : Bool}
end
theorem Sl.rec_ {α : Type} {f : α → List Value} {sz : Nat} (hf : ∀ x, (f x).length = sz) {w : World} {A : Option Addr} {n c : Nat} {l : List α} (h : Sl w sz A n c (l.flatMap f)) (hn : 0 < n) :
  ∃ b o, A = some ⟨b, o, none⟩ ∧ b < w.heap.size ∧ ∀ i x, l[i]? = some x → ∀ j v, (f x)[j]? = some v → w.cell? ⟨b, o + (i * sz + j), none⟩ = some v := by
 obtain ⟨b, o, e, hb, hc⟩ := h.at_ hn
 refine ⟨b, o, e, hb, fun i x hx j v hv => hc _ _ ?_⟩
 rw [flat_get hf l i j x hx (by have := hf x; have := (List.getElem?_eq_some_iff.1 hv).1; omega)]
 exact hv
theorem Sl.rlen {α : Type} {f : α → List Value} {sz : Nat} (hf : ∀ x, (f x).length = sz) (hp : 0 < sz) {w : World} {A : Option Addr} {n c : Nat} {l : List α} (h : Sl w sz A n c (l.flatMap f)) : l.length = n := by
 have h1 := h.len
 rw [flat_len hf] at h1
 exact Nat.eq_of_mul_eq_mul_right hp h1
end
section
open Go.RowKit
def outB (n lo hi : Int) : Bool := decide (n < lo) || decide (hi < n)
theorem tout_any (n lo hi : Int) (w : World) :
  Calls Tryz.prog 157 #[.int .i64 n, .int .i64 lo, .int .i64 hi] w fun r w' => r = .returned (.bool (outB n lo hi)) ∧ w = w' := by
 unfold outB
 by_cases h1 : n < lo
 ·have e : (decide (n < lo) || decide (hi < n)) = true := by simp [h1]
  rw [e]
  go_enter Tryz.func157, Tryz.ntmps157
  go_wp2
  go_ret
  exact ⟨rfl, rfl⟩
 ·obtain ⟨b, hb⟩ : ∃ b, decide (hi < n) = b := ⟨_, rfl⟩
  have e : (decide (n < lo) || decide (hi < n)) = b := by simp [h1, hb]
  rw [e]
  have h1' : decide (n < lo) = false := decide_eq_false h1
  clear h1 e
  go_enter Tryz.func157, Tryz.ntmps157
  go_wp2
  go_ret
  exact ⟨rfl, rfl⟩
theorem tnoone_any (n : Int) (w : World) :
  Calls Tryz.prog 154 #[.int .i64 n] w fun r w' => r = .returned (.bool (outB n 0 31)) ∧ w = w' := by
 go_enter Tryz.func154, Tryz.ntmps154
 go_wp2_with fail
 refine (tout_any n 0 31 _).mono ?_
 rintro r w1 ⟨rfl, rfl⟩
 go_wp2
 go_ret
 exact ⟨rfl, rfl⟩
theorem tnowhen_any (n : Int) (w : World) :
  Calls Tryz.prog 155 #[.int .i64 n] w fun r w' => r = .returned (.bool (outB n 1 4294967296)) ∧ w = w' := by
 go_enter Tryz.func155, Tryz.ntmps155
 go_wp2_with fail
 refine (tout_any n 1 4294967296 _).mono ?_
 rintro r w1 ⟨rfl, rfl⟩
 go_wp2
 go_ret
 exact ⟨rfl, rfl⟩
def rc (x : Bool × Int) : List Value := [.bool x.1, .int .i64 x.2]
theorem rc_len (x : Bool × Int) : (rc x).length = 2 := rfl
def firstR : List (Bool × Int) → Int
 | [] => 0
 | x :: l => if x.1 = true then x.2 else firstR l
theorem firstR_drop {l : List (Bool × Int)} {k : Nat} {x : Bool × Int} (h : l[k]? = some x) : firstR (l.drop k) = if x.1 = true then x.2 else firstR (l.drop (k + 1)) := by
 obtain ⟨hk, rfl⟩ := List.getElem?_eq_some_iff.1 h
 rw [List.drop_eq_getElem_cons hk]
 rfl
theorem tfirst_any (A : Option Addr) (n c : Nat) (l : List (Bool × Int)) (w : World) (h : Sl w 2 A n c (l.flatMap rc)) :
  Calls Tryz.prog 156 #[.slice A n c] w fun r w' => r = .returned (.int .i64 (firstR l)) ∧ Ext w w' := by
 have hs := h.small
 obtain ⟨V, hV⟩ : ∃ V, V = firstR l := ⟨_, rfl⟩
 rw [← hV]
 have HV := Lib.hid hV
 have HL := Lib.hid (h.rlen rc_len (by decide))
 have HH := Lib.hid h
 clear hV h
 go_enter Tryz.func156, Tryz.ntmps156
 go_wp2
 go_loopg [7] n (fun g i wx => g ≤ n ∧ Hid (V = firstR (l.drop (n - g))) ∧ i = .int .i64 ((n - g : Nat) : Int) ∧ Ext w wx)
 case atStart => exact ⟨Nat.le_refl _, by show V = firstR (l.drop (n - n)); rw [Nat.sub_self]; exact HV.out, by simp, Ext.refl _⟩
 case round =>
  obtain ⟨hg, H, hi, hx⟩ := hrel
  obtain ⟨k, hk⟩ : ∃ k, k = n - gk := ⟨_, rfl⟩
  rw [← hk] at H hi
  subst hi
  have XW := Lib.hid hx
  by_cases hz : gk = 0
  ·have hkn : ¬ (k : Int) < n := by omega
   have e : V = 0 := by
    rw [H.out, List.drop_eq_nil_of_le (by have := HL.out; omega)]; rfl
   subst e
   clear H hz hg hk hx
   go_wp2
   go_ret
   exact ⟨rfl, XW.out⟩
  ·have hkn : (k : Int) < n := by omega
   have hkl : k < l.length := by have := HL.out; omega
   obtain ⟨b1, o1, rfl, hb1, hc1⟩ := (HH.out.ext hx).rec_ rc_len (show 0 < n from by omega)
   have e0 := hc1 k _ (List.getElem?_eq_getElem hkl) 0 _ rfl
   have e1 := hc1 k _ (List.getElem?_eq_getElem hkl) 1 _ rfl
   have hd := firstR_drop (List.getElem?_eq_getElem hkl)
   obtain ⟨x, hxx⟩ : ∃ x, x = l[k] := ⟨_, rfl⟩
   rw [← hxx] at e0 e1 hd
   obtain ⟨bx, ex⟩ := x
   simp only at e0 e1 hd
   rw [Nat.add_zero] at e0
   rw [← Nat.add_assoc] at e1
   rw [← H.out] at hd
   have HD := Lib.hid hd
   have HK := Lib.hid (And.intro hk (And.intro hg hz))
   have g1 : ¬ b1 = wr.heap.size := by omega
   have g2 : b1 < wr.heap.size := hb1
   clear hc1 hxx hkl hk hg hz hd H hx
   cases bx
   ·have hd := HD.out
    rw [if_neg (by decide)] at hd
    have HD2 := Lib.hid hd
    clear hd HD
    go_wp2
    go_roundg (gk - 1)
    case measure => have := HK.out; omega
    case rel => exact ⟨by have := HK.out; omega, by rw [show n - (gk - 1) = k + 1 from by have := HK.out; omega]; exact HD2, num_eq (by have := HK.out; omega), by have X := XW.out; exact zSlTba1_0⟩
   ·have hd := HD.out
    rw [if_pos rfl] at hd
    subst hd
    clear HD
    go_wp2
    go_ret
    exact ⟨rfl, by have X := XW.out; exact zSlTba1_0⟩
end
section
open Go.RowKit
theorem sl_rules (w : World) (e : TypeId) (z : Nat) (hz : w.heap.size = z) (a b c d : Bool) (k l m n : Int) : Sl (w.alloc (.cells #[.bool a, .int .i64 k, .bool b, .int .i64 l, .bool c, .int .i64 m, .bool d, .int .i64 n] e)).drew 2 (some ⟨z, 0, none⟩) 4 4 ([(a, k), (b, l), (c, m), (d, n)].flatMap rc) := by
 subst hz
 exact (sl_new w e 2 #[.bool a, .int .i64 k, .bool b, .int .i64 l, .bool c, .int .i64 m, .bool d, .int .i64 n] 4 rfl (by decide)).ext (Ext.drew (Ext.refl _))
def chkS (V S P F : Int) : Int := firstR [(outB V 0 31 || outB S 1 4294967296 || outB P (-1) 31 || outB F 0 4294967296, 3), (P == V, 2), (!((P == -1) == (F == 0)), 11), (decide (S < F), 9)]
theorem tCheck_1 (V S P F : Int) (w : World) (C1 : ∀ w, Calls Tryz.prog 154 #[.int .i64 V] w fun r w' => r = .returned (.bool true) ∧ w = w') :
  Calls Tryz.prog 89 #[.agg #[.int .i64 V, .int .i64 S, .int .i64 P, .int .i64 F]] w fun r w' => r = .returned (.int .i64 (firstR [(true, 3), (P == V, 2), (!((P == -1) == (F == 0)), 11), (decide (S < F), 9)])) ∧ Ext w w' := by
 go_enter Tryz.func89, Tryz.ntmps89
 go_wp2_with fail
 refine wp_region_held_drew (S := fun w' => w'.cell? ⟨w.heap.size, 0, none⟩ = some (.int .i64 V) ∧ w'.cell? ⟨w.heap.size, 1, none⟩ = some (.int .i64 S) ∧ w'.cell? ⟨w.heap.size, 2, none⟩ = some (.int .i64 P) ∧ w'.cell? ⟨w.heap.size, 3, none⟩ = some (.int .i64 F)) (by kernel_rfl) (by simp [go_sem]) (fun hHeld => ?_)
 refine' zt 0 ?_
 refine' zt 1 ?_
 refine' zt 19 ?_
 refine' zt 20 ?_
 refine' zt 21 ?_
 refine' zt 22 ?_
 refine' zt 23 ?_
 refine' zt 24 ?_
 refine' zt 25 ?_
 refine' zt 26 ?_
 refine' zt 27 ?_
 refine' zt 28 ?_
 refine' zt 29 ?_
 refine' zt 30 ?_
 refine' zt 31 ?_
 refine' zt 32 ?_
 refine' zt 33 ?_
 refine' zt 34 ?_
 refine' zt 35 ?_
 refine' zt 36 ?_
 refine' zt 37 ?_
 refine' zt 38 ?_
 refine' zn 2 (fun K hK => ?_)
 (go_simp; go_at_call 154; refine (C1 _).mono ?_; rintro e w1 ⟨rfl, rfl⟩; try go_simp)
 refine' zk hK zSlTba1_3 (fun hHeld => ?_); clear hK K
 refine' zt 3 ?_
 refine' zs 4 ?_
 refine' zs 5 ?_
 refine' zs 6 ?_
 refine' zt 7 ?_
 refine' zt 8 ?_
 refine' zs 9 ?_
 refine' zs 10 ?_
 refine' zs 11 ?_
 refine' zt 12 ?_
 refine' zt 13 ?_
 refine' zs 14 ?_
 refine' zs 15 ?_
 refine' zs 16 ?_
 refine' zt 17 ?_
 refine' zt 18 ?_
 refine' zn 39 (fun K hK => ?_)
 go_simp
 refine' zk hK zSlTba1_3 (fun hHeld => ?_); clear hK K
 refine' zn 40 (fun K hK => ?_)
 (go_simp; go_at_call 156; (with_reducible refine (tfirst_any (some ⟨w.heap.size + 1, 0, none⟩) 4 4 [(true, 3), (P == V, 2), (!((P == -1) == (F == 0)), 11), (decide (S < F), 9)] _ (sl_rules _ 191 _ (by simp) _ _ _ _ _ _ _ _)).mono ?_); rintro e w2 ⟨rfl, hx2⟩)
 have d0 : w2.cell? ⟨w.heap.size, 0, none⟩ = some (.int .i64 V) := hx2.has zSlTba1_3
 have d1 : w2.cell? ⟨w.heap.size, 1, none⟩ = some (.int .i64 S) := hx2.has zSlTba1_3
 have d2 : w2.cell? ⟨w.heap.size, 2, none⟩ = some (.int .i64 P) := hx2.has zSlTba1_3
 have d3 : w2.cell? ⟨w.heap.size, 3, none⟩ = some (.int .i64 F) := hx2.has zSlTba1_3
 try go_simp
 refine' zk hK (⟨d0, d1, d2, d3⟩) (fun hHeld => ?_); clear hK K
 refine' zt 41 ?_
 refine wpAnyH_done (by kernel_rfl) ?_ _
 go_wp2
 go_ret
 exact ⟨rfl, zSlTba1_0⟩
theorem tCheck_2 (V S P F : Int) (w : World) (C1 : ∀ w, Calls Tryz.prog 154 #[.int .i64 V] w fun r w' => r = .returned (.bool false) ∧ w = w') (C2 : ∀ w, Calls Tryz.prog 155 #[.int .i64 S] w fun r w' => r = .returned (.bool true) ∧ w = w') :
  Calls Tryz.prog 89 #[.agg #[.int .i64 V, .int .i64 S, .int .i64 P, .int .i64 F]] w fun r w' => r = .returned (.int .i64 (firstR [(true, 3), (P == V, 2), (!((P == -1) == (F == 0)), 11), (decide (S < F), 9)])) ∧ Ext w w' := by
 go_enter Tryz.func89, Tryz.ntmps89
 go_wp2_with fail
 refine wp_region_held_drew (S := fun w' => w'.cell? ⟨w.heap.size, 0, none⟩ = some (.int .i64 V) ∧ w'.cell? ⟨w.heap.size, 1, none⟩ = some (.int .i64 S) ∧ w'.cell? ⟨w.heap.size, 2, none⟩ = some (.int .i64 P) ∧ w'.cell? ⟨w.heap.size, 3, none⟩ = some (.int .i64 F)) (by kernel_rfl) (by simp [go_sem]) (fun hHeld => ?_)
 refine' zt 0 ?_
 refine' zt 1 ?_
 refine' zt 19 ?_
 refine' zt 20 ?_
 refine' zt 21 ?_
 refine' zt 22 ?_
 refine' zt 23 ?_
 refine' zt 24 ?_
 refine' zt 25 ?_
 refine' zt 26 ?_
 refine' zt 27 ?_
 refine' zt 28 ?_
 refine' zt 29 ?_
 refine' zt 30 ?_
 refine' zt 31 ?_
 refine' zt 32 ?_
 refine' zt 33 ?_
 refine' zt 34 ?_
 refine' zt 35 ?_
 refine' zt 36 ?_
 refine' zt 37 ?_
 refine' zt 38 ?_
 refine' zn 2 (fun K hK => ?_)
 (go_simp; go_at_call 154; refine (C1 _).mono ?_; rintro e w1 ⟨rfl, rfl⟩; try go_simp)
 refine' zk hK zSlTba1_3 (fun hHeld => ?_); clear hK K
 refine' zt 3 ?_
 refine' zt 4 ?_
 refine' zt 5 ?_
 refine' zn 6 (fun K hK => ?_)
 (go_simp; go_at_call 155; refine (C2 _).mono ?_; rintro e w1 ⟨rfl, rfl⟩; try go_simp)
 refine' zk hK zSlTba1_3 (fun hHeld => ?_); clear hK K
 refine' zt 7 ?_
 refine' zt 8 ?_
 refine' zs 9 ?_
 refine' zs 10 ?_
 refine' zs 11 ?_
 refine' zt 12 ?_
 refine' zt 13 ?_
 refine' zs 14 ?_
 refine' zs 15 ?_
 refine' zs 16 ?_
 refine' zt 17 ?_
 refine' zt 18 ?_
 refine' zn 39 (fun K hK => ?_)
 go_simp
 refine' zk hK zSlTba1_3 (fun hHeld => ?_); clear hK K
 refine' zn 40 (fun K hK => ?_)
 (go_simp; go_at_call 156; (with_reducible refine (tfirst_any (some ⟨w.heap.size + 1, 0, none⟩) 4 4 [(true, 3), (P == V, 2), (!((P == -1) == (F == 0)), 11), (decide (S < F), 9)] _ (sl_rules _ 191 _ (by simp) _ _ _ _ _ _ _ _)).mono ?_); rintro e w2 ⟨rfl, hx2⟩)
 have d0 : w2.cell? ⟨w.heap.size, 0, none⟩ = some (.int .i64 V) := hx2.has zSlTba1_3
 have d1 : w2.cell? ⟨w.heap.size, 1, none⟩ = some (.int .i64 S) := hx2.has zSlTba1_3
 have d2 : w2.cell? ⟨w.heap.size, 2, none⟩ = some (.int .i64 P) := hx2.has zSlTba1_3
 have d3 : w2.cell? ⟨w.heap.size, 3, none⟩ = some (.int .i64 F) := hx2.has zSlTba1_3
 try go_simp
 refine' zk hK (⟨d0, d1, d2, d3⟩) (fun hHeld => ?_); clear hK K
 refine' zt 41 ?_
 refine wpAnyH_done (by kernel_rfl) ?_ _
 go_wp2
 go_ret
 exact ⟨rfl, zSlTba1_0⟩
theorem tCheck_3 (V S P F : Int) (w : World) (C1 : ∀ w, Calls Tryz.prog 154 #[.int .i64 V] w fun r w' => r = .returned (.bool false) ∧ w = w') (C2 : ∀ w, Calls Tryz.prog 155 #[.int .i64 S] w fun r w' => r = .returned (.bool false) ∧ w = w') (C3 : ∀ w, Calls Tryz.prog 157 #[.int .i64 P, .int .i64 (-1), .int .i64 31] w fun r w' => r = .returned (.bool true) ∧ w = w') :
  Calls Tryz.prog 89 #[.agg #[.int .i64 V, .int .i64 S, .int .i64 P, .int .i64 F]] w fun r w' => r = .returned (.int .i64 (firstR [(true, 3), (P == V, 2), (!((P == -1) == (F == 0)), 11), (decide (S < F), 9)])) ∧ Ext w w' := by
 go_enter Tryz.func89, Tryz.ntmps89
 go_wp2_with fail
 refine wp_region_held_drew (S := fun w' => w'.cell? ⟨w.heap.size, 0, none⟩ = some (.int .i64 V) ∧ w'.cell? ⟨w.heap.size, 1, none⟩ = some (.int .i64 S) ∧ w'.cell? ⟨w.heap.size, 2, none⟩ = some (.int .i64 P) ∧ w'.cell? ⟨w.heap.size, 3, none⟩ = some (.int .i64 F)) (by kernel_rfl) (by simp [go_sem]) (fun hHeld => ?_)
 refine' zt 0 ?_
 refine' zt 1 ?_
 refine' zt 19 ?_
 refine' zt 20 ?_
 refine' zt 21 ?_
 refine' zt 22 ?_
 refine' zt 23 ?_
 refine' zt 24 ?_
 refine' zt 25 ?_
 refine' zt 26 ?_
 refine' zt 27 ?_
 refine' zt 28 ?_
 refine' zt 29 ?_
 refine' zt 30 ?_
 refine' zt 31 ?_
 refine' zt 32 ?_
 refine' zt 33 ?_
 refine' zt 34 ?_
 refine' zt 35 ?_
 refine' zt 36 ?_
 refine' zt 37 ?_
 refine' zt 38 ?_
 refine' zn 2 (fun K hK => ?_)
 (go_simp; go_at_call 154; refine (C1 _).mono ?_; rintro e w1 ⟨rfl, rfl⟩; try go_simp)
 refine' zk hK zSlTba1_3 (fun hHeld => ?_); clear hK K
 refine' zt 3 ?_
 refine' zt 4 ?_
 refine' zt 5 ?_
 refine' zn 6 (fun K hK => ?_)
 (go_simp; go_at_call 155; refine (C2 _).mono ?_; rintro e w1 ⟨rfl, rfl⟩; try go_simp)
 refine' zk hK zSlTba1_3 (fun hHeld => ?_); clear hK K
 refine' zt 7 ?_
 refine' zt 8 ?_
 refine' zt 9 ?_
 refine' zt 10 ?_
 refine' zn 11 (fun K hK => ?_)
 (go_simp; go_at_call 157; refine (C3 _).mono ?_; rintro e w1 ⟨rfl, rfl⟩; try go_simp)
 refine' zk hK zSlTba1_3 (fun hHeld => ?_); clear hK K
 refine' zt 12 ?_
 refine' zt 13 ?_
 refine' zs 14 ?_
 refine' zs 15 ?_
 refine' zs 16 ?_
 refine' zt 17 ?_
 refine' zt 18 ?_
 refine' zn 39 (fun K hK => ?_)
 go_simp
 refine' zk hK zSlTba1_3 (fun hHeld => ?_); clear hK K
 refine' zn 40 (fun K hK => ?_)
 (go_simp; go_at_call 156; (with_reducible refine (tfirst_any (some ⟨w.heap.size + 1, 0, none⟩) 4 4 [(true, 3), (P == V, 2), (!((P == -1) == (F == 0)), 11), (decide (S < F), 9)] _ (sl_rules _ 191 _ (by simp) _ _ _ _ _ _ _ _)).mono ?_); rintro e w2 ⟨rfl, hx2⟩)
 have d0 : w2.cell? ⟨w.heap.size, 0, none⟩ = some (.int .i64 V) := hx2.has zSlTba1_3
 have d1 : w2.cell? ⟨w.heap.size, 1, none⟩ = some (.int .i64 S) := hx2.has zSlTba1_3
 have d2 : w2.cell? ⟨w.heap.size, 2, none⟩ = some (.int .i64 P) := hx2.has zSlTba1_3
 have d3 : w2.cell? ⟨w.heap.size, 3, none⟩ = some (.int .i64 F) := hx2.has zSlTba1_3
 try go_simp
 refine' zk hK (⟨d0, d1, d2, d3⟩) (fun hHeld => ?_); clear hK K
 refine' zt 41 ?_
 refine wpAnyH_done (by kernel_rfl) ?_ _
 go_wp2
 go_ret
 exact ⟨rfl, zSlTba1_0⟩
theorem tCheck_4 (V S P F : Int) (w : World) (C1 : ∀ w, Calls Tryz.prog 154 #[.int .i64 V] w fun r w' => r = .returned (.bool false) ∧ w = w') (C2 : ∀ w, Calls Tryz.prog 155 #[.int .i64 S] w fun r w' => r = .returned (.bool false) ∧ w = w') (C3 : ∀ w, Calls Tryz.prog 157 #[.int .i64 P, .int .i64 (-1), .int .i64 31] w fun r w' => r = .returned (.bool false) ∧ w = w') (C4 : ∀ w, Calls Tryz.prog 157 #[.int .i64 F, .int .i64 0, .int .i64 4294967296] w fun r w' => r = .returned (.bool true) ∧ w = w') :
  Calls Tryz.prog 89 #[.agg #[.int .i64 V, .int .i64 S, .int .i64 P, .int .i64 F]] w fun r w' => r = .returned (.int .i64 (firstR [(true, 3), (P == V, 2), (!((P == -1) == (F == 0)), 11), (decide (S < F), 9)])) ∧ Ext w w' := by
 go_enter Tryz.func89, Tryz.ntmps89
 go_wp2_with fail
 refine wp_region_held_drew (S := fun w' => w'.cell? ⟨w.heap.size, 0, none⟩ = some (.int .i64 V) ∧ w'.cell? ⟨w.heap.size, 1, none⟩ = some (.int .i64 S) ∧ w'.cell? ⟨w.heap.size, 2, none⟩ = some (.int .i64 P) ∧ w'.cell? ⟨w.heap.size, 3, none⟩ = some (.int .i64 F)) (by kernel_rfl) (by simp [go_sem]) (fun hHeld => ?_)
 refine' zt 0 ?_
 refine' zt 1 ?_
 refine' zt 19 ?_
 refine' zt 20 ?_
 refine' zt 21 ?_
 refine' zt 22 ?_
 refine' zt 23 ?_
 refine' zt 24 ?_
 refine' zt 25 ?_
 refine' zt 26 ?_
 refine' zt 27 ?_
 refine' zt 28 ?_
 refine' zt 29 ?_
 refine' zt 30 ?_
 refine' zt 31 ?_
 refine' zt 32 ?_
 refine' zt 33 ?_
 refine' zt 34 ?_
 refine' zt 35 ?_
 refine' zt 36 ?_
 refine' zt 37 ?_
 refine' zt 38 ?_
 refine' zn 2 (fun K hK => ?_)
 (go_simp; go_at_call 154; refine (C1 _).mono ?_; rintro e w1 ⟨rfl, rfl⟩; try go_simp)
 refine' zk hK zSlTba1_3 (fun hHeld => ?_); clear hK K
 refine' zt 3 ?_
 refine' zt 4 ?_
 refine' zt 5 ?_
 refine' zn 6 (fun K hK => ?_)
 (go_simp; go_at_call 155; refine (C2 _).mono ?_; rintro e w1 ⟨rfl, rfl⟩; try go_simp)
 refine' zk hK zSlTba1_3 (fun hHeld => ?_); clear hK K
 refine' zt 7 ?_
 refine' zt 8 ?_
 refine' zt 9 ?_
 refine' zt 10 ?_
 refine' zn 11 (fun K hK => ?_)
 (go_simp; go_at_call 157; refine (C3 _).mono ?_; rintro e w1 ⟨rfl, rfl⟩; try go_simp)
 refine' zk hK zSlTba1_3 (fun hHeld => ?_); clear hK K
 refine' zt 12 ?_
 refine' zt 13 ?_
 refine' zt 14 ?_
 refine' zt 15 ?_
 refine' zn 16 (fun K hK => ?_)
 (go_simp; go_at_call 157; refine (C4 _).mono ?_; rintro e w1 ⟨rfl, rfl⟩; try go_simp)
 refine' zk hK zSlTba1_3 (fun hHeld => ?_); clear hK K
 refine' zt 17 ?_
 refine' zt 18 ?_
 refine' zn 39 (fun K hK => ?_)
 go_simp
 refine' zk hK zSlTba1_3 (fun hHeld => ?_); clear hK K
 refine' zn 40 (fun K hK => ?_)
 (go_simp; go_at_call 156; (with_reducible refine (tfirst_any (some ⟨w.heap.size + 1, 0, none⟩) 4 4 [(true, 3), (P == V, 2), (!((P == -1) == (F == 0)), 11), (decide (S < F), 9)] _ (sl_rules _ 191 _ (by simp) _ _ _ _ _ _ _ _)).mono ?_); rintro e w2 ⟨rfl, hx2⟩)
 have d0 : w2.cell? ⟨w.heap.size, 0, none⟩ = some (.int .i64 V) := hx2.has zSlTba1_3
 have d1 : w2.cell? ⟨w.heap.size, 1, none⟩ = some (.int .i64 S) := hx2.has zSlTba1_3
 have d2 : w2.cell? ⟨w.heap.size, 2, none⟩ = some (.int .i64 P) := hx2.has zSlTba1_3
 have d3 : w2.cell? ⟨w.heap.size, 3, none⟩ = some (.int .i64 F) := hx2.has zSlTba1_3
 try go_simp
 refine' zk hK (⟨d0, d1, d2, d3⟩) (fun hHeld => ?_); clear hK K
 refine' zt 41 ?_
 refine wpAnyH_done (by kernel_rfl) ?_ _
 go_wp2
 go_ret
 exact ⟨rfl, zSlTba1_0⟩
theorem tCheck_0 (V S P F : Int) (w : World) (C1 : ∀ w, Calls Tryz.prog 154 #[.int .i64 V] w fun r w' => r = .returned (.bool false) ∧ w = w') (C2 : ∀ w, Calls Tryz.prog 155 #[.int .i64 S] w fun r w' => r = .returned (.bool false) ∧ w = w') (C3 : ∀ w, Calls Tryz.prog 157 #[.int .i64 P, .int .i64 (-1), .int .i64 31] w fun r w' => r = .returned (.bool false) ∧ w = w') (C4 : ∀ w, Calls Tryz.prog 157 #[.int .i64 F, .int .i64 0, .int .i64 4294967296] w fun r w' => r = .returned (.bool false) ∧ w = w') :
  Calls Tryz.prog 89 #[.agg #[.int .i64 V, .int .i64 S, .int .i64 P, .int .i64 F]] w fun r w' => r = .returned (.int .i64 (firstR [(false, 3), (P == V, 2), (!((P == -1) == (F == 0)), 11), (decide (S < F), 9)])) ∧ Ext w w' := by
 go_enter Tryz.func89, Tryz.ntmps89
 go_wp2_with fail
 refine wp_region_held_drew (S := fun w' => w'.cell? ⟨w.heap.size, 0, none⟩ = some (.int .i64 V) ∧ w'.cell? ⟨w.heap.size, 1, none⟩ = some (.int .i64 S) ∧ w'.cell? ⟨w.heap.size, 2, none⟩ = some (.int .i64 P) ∧ w'.cell? ⟨w.heap.size, 3, none⟩ = some (.int .i64 F)) (by kernel_rfl) (by simp [go_sem]) (fun hHeld => ?_)
 refine' zt 0 ?_
 refine' zt 1 ?_
 refine' zt 19 ?_
 refine' zt 20 ?_
 refine' zt 21 ?_
 refine' zt 22 ?_
 refine' zt 23 ?_
 refine' zt 24 ?_
 refine' zt 25 ?_
 refine' zt 26 ?_
 refine' zt 27 ?_
 refine' zt 28 ?_
 refine' zt 29 ?_
 refine' zt 30 ?_
 refine' zt 31 ?_
 refine' zt 32 ?_
 refine' zt 33 ?_
 refine' zt 34 ?_
 refine' zt 35 ?_
 refine' zt 36 ?_
 refine' zt 37 ?_
 refine' zt 38 ?_
 refine' zn 2 (fun K hK => ?_)
 (go_simp; go_at_call 154; refine (C1 _).mono ?_; rintro e w1 ⟨rfl, rfl⟩; try go_simp)
 refine' zk hK zSlTba1_3 (fun hHeld => ?_); clear hK K
 refine' zt 3 ?_
 refine' zt 4 ?_
 refine' zt 5 ?_
 refine' zn 6 (fun K hK => ?_)
 (go_simp; go_at_call 155; refine (C2 _).mono ?_; rintro e w1 ⟨rfl, rfl⟩; try go_simp)
 refine' zk hK zSlTba1_3 (fun hHeld => ?_); clear hK K
 refine' zt 7 ?_
 refine' zt 8 ?_
 refine' zt 9 ?_
 refine' zt 10 ?_
 refine' zn 11 (fun K hK => ?_)
 (go_simp; go_at_call 157; refine (C3 _).mono ?_; rintro e w1 ⟨rfl, rfl⟩; try go_simp)
 refine' zk hK zSlTba1_3 (fun hHeld => ?_); clear hK K
 refine' zt 12 ?_
 refine' zt 13 ?_
 refine' zt 14 ?_
 refine' zt 15 ?_
 refine' zn 16 (fun K hK => ?_)
 (go_simp; go_at_call 157; refine (C4 _).mono ?_; rintro e w1 ⟨rfl, rfl⟩; try go_simp)
 refine' zk hK zSlTba1_3 (fun hHeld => ?_); clear hK K
 refine' zt 17 ?_
 refine' zt 18 ?_
 refine' zn 39 (fun K hK => ?_)
 go_simp
 refine' zk hK zSlTba1_3 (fun hHeld => ?_); clear hK K
 refine' zn 40 (fun K hK => ?_)
 (go_simp; go_at_call 156; (with_reducible refine (tfirst_any (some ⟨w.heap.size + 1, 0, none⟩) 4 4 [(false, 3), (P == V, 2), (!((P == -1) == (F == 0)), 11), (decide (S < F), 9)] _ (sl_rules _ 191 _ (by simp) _ _ _ _ _ _ _ _)).mono ?_); rintro e w2 ⟨rfl, hx2⟩)
 have d0 : w2.cell? ⟨w.heap.size, 0, none⟩ = some (.int .i64 V) := hx2.has zSlTba1_3
 have d1 : w2.cell? ⟨w.heap.size, 1, none⟩ = some (.int .i64 S) := hx2.has zSlTba1_3
 have d2 : w2.cell? ⟨w.heap.size, 2, none⟩ = some (.int .i64 P) := hx2.has zSlTba1_3
 have d3 : w2.cell? ⟨w.heap.size, 3, none⟩ = some (.int .i64 F) := hx2.has zSlTba1_3
 try go_simp
 refine' zk hK (⟨d0, d1, d2, d3⟩) (fun hHeld => ?_); clear hK K
 refine' zt 41 ?_
 refine wpAnyH_done (by kernel_rfl) ?_ _
 go_wp2
 go_ret
 exact ⟨rfl, zSlTba1_0⟩
theorem tCheck_any (V S P F : Int) (w : World) :
  Calls Tryz.prog 89 #[.agg #[.int .i64 V, .int .i64 S, .int .i64 P, .int .i64 F]] w fun r w' => r = .returned (.int .i64 (chkS V S P F)) ∧ Ext w w' := by
 have C1 := fun w => tnoone_any V w
 have C2 := fun w => tnowhen_any S w
 have C3 := fun w => tout_any P (-1) 31 w
 have C4 := fun w => tout_any F 0 4294967296 w
 unfold chkS
 generalize outB V 0 31 = b1 at *
 generalize outB S 1 4294967296 = b2 at *
 generalize outB P (-1) 31 = b3 at *
 generalize outB F 0 4294967296 = b4 at *
 cases b1
 ·cases b2
  ·cases b3
   ·cases b4
    ·exact tCheck_0 V S P F w C1 C2 C3 C4
    ·exact tCheck_4 V S P F w C1 C2 C3 C4
   ·exact tCheck_3 V S P F w C1 C2 C3
  ·exact tCheck_2 V S P F w C1 C2
 ·exact tCheck_1 V S P F w C1
end
section
open Go.RowKit
theorem outB_no {n lo hi : Int} (h : outB n lo hi = false) : lo ≤ n ∧ n ≤ hi := by
 unfold outB at h
 simp at h
 omega
structure StampOk (V S P F : Int) : Prop where
 v0 : 0 ≤ V
 v1 : V ≤ 31
 s0 : 1 ≤ S
 s1 : S ≤ 4294967296
 p0 : -1 ≤ P
 p1 : P ≤ 31
 f0 : 0 ≤ F
 f1 : F ≤ 4294967296
 ne : P ≠ V
 pf : (P = -1 ↔ F = 0)
 fs : F ≤ S
theorem chkS_ok {V S P F : Int} (h : chkS V S P F = 0) : StampOk V S P F := by
 cases h1 : outB V 0 31 <;> cases h2 : outB S 1 4294967296 <;> cases h3 : outB P (-1) 31 <;> cases h4 : outB F 0 4294967296 <;> (try (exfalso; unfold chkS at h; simp [h1, h2, h3, h4, firstR] at h; done))
 have a1 := outB_no h1
 have a2 := outB_no h2
 have a3 := outB_no h3
 have a4 := outB_no h4
 have e : chkS V S P F = if (P == V) = true then 2 else if (!((P == -1) == (F == 0))) = true then 11 else if decide (S < F) = true then 9 else 0 := by
  unfold chkS
  rw [h1, h2, h3, h4]
  rfl
 rw [e] at h
 split at h
 ·omega
 ·rename_i b1
  split at h
  ·omega
  ·rename_i b2
   split at h
   ·omega
   ·rename_i b3
    simp at b1 b2 b3
    refine ⟨a1.1, a1.2, a2.1, a2.2, a3.1, a3.2, a4.1, a4.2, b1, ?_, by omega⟩
    rw [Bool.eq_iff_iff] at b2
    simpa using b2
end
section
open Go.RowKit
def cmpL : List (Int × Int) → Int
 | [] => 0
 | x :: l => if x.1 < x.2 then -1 else if x.2 < x.1 then 1 else cmpL l
theorem cmpL_drop {l : List (Int × Int)} {k : Nat} {x : Int × Int} (h : l[k]? = some x) : cmpL (l.drop k) = if x.1 < x.2 then -1 else if x.2 < x.1 then 1 else cmpL (l.drop (k + 1)) := by
 obtain ⟨hk, rfl⟩ := List.getElem?_eq_some_iff.1 h
 rw [List.drop_eq_getElem_cons hk]
 rfl
theorem tCompare_any (a b c d a' b' c' d' : Int) (w : World) :
  Calls Tryz.prog 110 #[.agg #[.int .i64 a, .int .i64 b, .int .i64 c, .int .i64 d], .agg #[.int .i64 a', .int .i64 b', .int .i64 c', .int .i64 d']] w fun r w' => r = .returned (.int .i64 (cmpL [(a, a'), (b, b'), (c, c'), (d, d')])) ∧ Ext w w' := by
 obtain ⟨V, hV⟩ : ∃ V, V = cmpL [(a, a'), (b, b'), (c, c'), (d, d')] := ⟨_, rfl⟩
 rw [← hV]
 have HV := Lib.hid hV
 clear hV
 have i0 : ∀ w : World, (Instr.index 211 (.agg #[.int .i64 a, .int .i64 a', .int .i64 b, .int .i64 b', .int .i64 c, .int .i64 c', .int .i64 d, .int .i64 d']) (.int .i64 0)).run Tryz.prog w = .ok (.agg #[.int .i64 a, .int .i64 a']) w := fun _ => by kernel_rfl
 have i1 : ∀ w : World, (Instr.index 211 (.agg #[.int .i64 a, .int .i64 a', .int .i64 b, .int .i64 b', .int .i64 c, .int .i64 c', .int .i64 d, .int .i64 d']) (.int .i64 1)).run Tryz.prog w = .ok (.agg #[.int .i64 b, .int .i64 b']) w := fun _ => by kernel_rfl
 have i2 : ∀ w : World, (Instr.index 211 (.agg #[.int .i64 a, .int .i64 a', .int .i64 b, .int .i64 b', .int .i64 c, .int .i64 c', .int .i64 d, .int .i64 d']) (.int .i64 2)).run Tryz.prog w = .ok (.agg #[.int .i64 c, .int .i64 c']) w := fun _ => by kernel_rfl
 have i3 : ∀ w : World, (Instr.index 211 (.agg #[.int .i64 a, .int .i64 a', .int .i64 b, .int .i64 b', .int .i64 c, .int .i64 c', .int .i64 d, .int .i64 d']) (.int .i64 3)).run Tryz.prog w = .ok (.agg #[.int .i64 d, .int .i64 d']) w := fun _ => by kernel_rfl
 go_enter Tryz.func110, Tryz.ntmps110
 go_wp2
 go_step3
 go_wp2
 go_step3
 go_wp2
 go_loopg [5, 29] 4 (fun gh s i wx => gh ≤ 4 ∧ s = .int .i64 0 ∧ i = .int .i64 ((4 - gh : Nat) : Int) ∧ Hid (V = cmpL ([(a, a'), (b, b'), (c, c'), (d, d')].drop (4 - gh))) ∧ Ext w wx)
 case atStart => exact ⟨Nat.le_refl _, rfl, by simp, HV, zSlTba1_0⟩
 case round =>
  obtain ⟨hg, rfl, hi, H, hx⟩ := hrel
  have XW := Lib.hid hx
  clear hx HV
  have hcase : gk = 0 ∨ gk = 4 ∨ gk = 3 ∨ gk = 2 ∨ gk = 1 := by omega
  rcases hcase with rfl | rfl | rfl | rfl | rfl
  ·change _ = Value.int .i64 4 at hi
   obtain rfl := hi
   have hv : V = 0 := H.out
   subst hv
   clear H
   go_wp2
   try rw [Exit.noGoto_ret]
   go_ret
   exact ⟨rfl, XW.out⟩
  ·change _ = Value.int .i64 0 at hi
   obtain rfl := hi
   have hd := H.out.trans (cmpL_drop (l := [(a, a'), (b, b'), (c, c'), (d, d')]) (k := 0) (x := (a, a')) rfl)
   clear H
   by_cases h1 : a < a'
   ·rw [if_pos h1] at hd
    subst hd
    go_wp2
    try rw [Exit.noGoto_ret]
    go_ret
    exact ⟨rfl, zSlTba1_4⟩
   ·by_cases h2 : a' < a
    ·rw [if_neg h1, if_pos h2] at hd
     subst hd
     go_wp2
     try rw [Exit.noGoto_ret]
     go_ret
     exact ⟨rfl, zSlTba1_4⟩
    ·rw [if_neg h1, if_neg h2] at hd
     have H := Lib.hid hd
     clear hd
     go_wp2
     go_roundg 3
     case measure => decide
     case rel => exact ⟨by decide, rfl, rfl, H, zSlTba1_4⟩
  ·change _ = Value.int .i64 1 at hi
   obtain rfl := hi
   have hd := H.out.trans (cmpL_drop (l := [(a, a'), (b, b'), (c, c'), (d, d')]) (k := 1) (x := (b, b')) rfl)
   clear H
   by_cases h1 : b < b'
   ·rw [if_pos h1] at hd
    subst hd
    go_wp2
    try rw [Exit.noGoto_ret]
    go_ret
    exact ⟨rfl, zSlTba1_4⟩
   ·by_cases h2 : b' < b
    ·rw [if_neg h1, if_pos h2] at hd
     subst hd
     go_wp2
     try rw [Exit.noGoto_ret]
     go_ret
     exact ⟨rfl, zSlTba1_4⟩
    ·rw [if_neg h1, if_neg h2] at hd
     have H := Lib.hid hd
     clear hd
     go_wp2
     go_roundg 2
     case measure => decide
     case rel => exact ⟨by decide, rfl, rfl, H, zSlTba1_4⟩
  ·change _ = Value.int .i64 2 at hi
   obtain rfl := hi
   have hd := H.out.trans (cmpL_drop (l := [(a, a'), (b, b'), (c, c'), (d, d')]) (k := 2) (x := (c, c')) rfl)
   clear H
   by_cases h1 : c < c'
   ·rw [if_pos h1] at hd
    subst hd
    go_wp2
    try rw [Exit.noGoto_ret]
    go_ret
    exact ⟨rfl, zSlTba1_4⟩
   ·by_cases h2 : c' < c
    ·rw [if_neg h1, if_pos h2] at hd
     subst hd
     go_wp2
     try rw [Exit.noGoto_ret]
     go_ret
     exact ⟨rfl, zSlTba1_4⟩
    ·rw [if_neg h1, if_neg h2] at hd
     have H := Lib.hid hd
     clear hd
     go_wp2
     go_roundg 1
     case measure => decide
     case rel => exact ⟨by decide, rfl, rfl, H, zSlTba1_4⟩
  ·change _ = Value.int .i64 3 at hi
   obtain rfl := hi
   have hd := H.out.trans (cmpL_drop (l := [(a, a'), (b, b'), (c, c'), (d, d')]) (k := 3) (x := (d, d')) rfl)
   clear H
   by_cases h1 : d < d'
   ·rw [if_pos h1] at hd
    subst hd
    go_wp2
    try rw [Exit.noGoto_ret]
    go_ret
    exact ⟨rfl, zSlTba1_4⟩
   ·by_cases h2 : d' < d
    ·rw [if_neg h1, if_pos h2] at hd
     subst hd
     go_wp2
     try rw [Exit.noGoto_ret]
     go_ret
     exact ⟨rfl, zSlTba1_4⟩
    ·rw [if_neg h1, if_neg h2] at hd
     have H := Lib.hid hd
     clear hd
     go_wp2
     go_roundg 0
     case measure => decide
     case rel => exact ⟨by decide, rfl, rfl, H, zSlTba1_4⟩
end
section
open Go.RowKit
def cmpK (a b : List Int) : Int := cmpL (a.zip b)
theorem cmpK_cons (x y : Int) (a b : List Int) : cmpK (x :: a) (y :: b) = if x < y then -1 else if y < x then 1 else cmpK a b := rfl
theorem cmpK_self : ∀ a : List Int, cmpK a a = 0
 | [] => rfl
 | x :: a => by rw [cmpK_cons, if_neg (by omega), if_neg (by omega)]; exact cmpK_self a
theorem cmpK_turn : ∀ a b : List Int, a.length = b.length → cmpK a b = -cmpK b a
 | [], [], _ => rfl
 | x :: a, y :: b, h => by
  have ih := cmpK_turn a b (by simpa using h)
  rw [cmpK_cons, cmpK_cons]
  split
  ·rw [if_neg (by omega)]
  ·split
   ·rfl
   ·exact ih
theorem cmpK_zero : ∀ {a b : List Int}, a.length = b.length → cmpK a b = 0 → a = b
 | [], [], _, _ => rfl
 | x :: a, y :: b, h, hz => by
  rw [cmpK_cons] at hz
  split at hz
  ·omega
  ·split at hz
   ·omega
   ·have : x = y := by omega
    subst this
    rw [cmpK_zero (by simpa using h) hz]
theorem cmpK_trans : ∀ {a b c : List Int}, a.length = b.length → b.length = c.length → cmpK a b < 0 → cmpK b c < 0 → cmpK a c < 0
 | [], [], [], _, _, h, _ => by exact absurd h (by decide)
 | x :: a, y :: b, z :: c, h1, h2, h, h' => by
  have ih := @cmpK_trans a b c (by simpa using h1) (by simpa using h2)
  rw [cmpK_cons] at h h' ⊢
  split at h
  ·split at h'
   ·rw [if_pos (by omega)]; decide
   ·split at h'
    ·omega
    ·rw [if_pos (by omega)]; decide
  ·split at h
   ·omega
   ·split at h'
    ·rw [if_pos (by omega)]; decide
    ·split at h'
     ·omega
     ·rw [if_neg (by omega), if_neg (by omega)]
      exact ih h h'
section
variable {α : Type} (key : α → List Int) (d : Nat)
def SortK (l : List α) : Prop := l.Pairwise fun x y => cmpK (key x) (key y) < 0
def plcK (l : List α) (q : List Int) : Nat := l.countP fun x => decide (cmpK (key x) q < 0)
def getK (l : List α) (q : List Int) : Option α := l.find? fun x => key x == q
theorem plcK_le (l : List α) (q : List Int) : plcK key l q ≤ l.length := List.countP_le_length
variable {key d}
theorem SortK.tail {x : α} {l : List α} (h : SortK key (x :: l)) : SortK key l := (List.pairwise_cons.1 h).2
theorem SortK.head {x : α} {l : List α} (h : SortK key (x :: l)) : ∀ y ∈ l, cmpK (key x) (key y) < 0 := (List.pairwise_cons.1 h).1
theorem plcK_lt (hd : ∀ x, (key x).length = d) : ∀ {l : List α} {q : List Int}, q.length = d → SortK key l → ∀ (i : Nat) x, l[i]? = some x → (cmpK (key x) q < 0 ↔ i < plcK key l q)
 | [], _, _, _, i, x, h => by simp at h
 | y :: l, q, hq, hs, i, x, h => by
  have ih := plcK_lt hd hq hs.tail
  unfold plcK at ih ⊢
  rw [List.countP_cons]
  cases i with
  | zero =>
   obtain rfl : y = x := by simpa using h
   constructor
   ·intro hl; rw [if_pos (by simpa using hl)]; omega
   ·intro hl
    by_cases hy : cmpK (key y) q < 0
    ·exact hy
    ·exfalso
     rw [if_neg (by simpa using hy)] at hl
     obtain ⟨z, hz, hzq⟩ := List.countP_pos_iff.1 (show 0 < List.countP (fun x => decide (cmpK (key x) q < 0)) l by omega)
     have h1 := hs.head z hz
     exact hy (cmpK_trans (by rw [hd, hd]) (by rw [hd, hq]) h1 (by simpa using hzq))
  | succ i =>
   have hx : l[i]? = some x := by simpa using h
   have := ih i x hx
   by_cases hy : cmpK (key y) q < 0
   ·rw [if_pos (by simpa using hy)]
    omega
   ·rw [if_neg (by simpa using hy)]
    have hn : ¬ cmpK (key x) q < 0 := by
     intro hxq
     exact hy (cmpK_trans (by rw [hd, hd]) (by rw [hd, hq]) (hs.head x (List.mem_of_getElem? hx)) hxq)
    constructor
    ·intro h; exact absurd h hn
    ·intro h; exact absurd (this.2 (by omega)) hn
theorem getK_plc (hd : ∀ x, (key x).length = d) {l : List α} {q : List Int} (hq : q.length = d) (hs : SortK key l) (x : α) : getK key l q = some x ↔ l[plcK key l q]? = some x ∧ key x = q := by
 unfold getK
 constructor
 ·intro h
  have hk : key x = q := by simpa using List.find?_some h
  have hm := List.mem_of_find?_eq_some h
  obtain ⟨i, hi⟩ := List.getElem?_of_mem hm
  have h0 : ¬ cmpK (key x) q < 0 := by rw [hk, cmpK_self]; omega
  have h1 : ¬ i < plcK key l q := fun h => h0 ((plcK_lt hd hq hs i x hi).2 h)
  refine ⟨?_, hk⟩
  rcases Nat.lt_or_ge (plcK key l q) i with hlt | hge
  ·exfalso
   obtain ⟨y, hy⟩ : ∃ y, l[plcK key l q]? = some y := ⟨_, List.getElem?_eq_getElem (by have := (List.getElem?_eq_some_iff.1 hi).1; omega)⟩
   have h2 : ¬ cmpK (key y) q < 0 := fun h => absurd ((plcK_lt hd hq hs _ y hy).1 h) (by omega)
   have h3 : cmpK (key y) (key x) < 0 := by
    have hpl := hs
    unfold SortK at hpl
    rw [List.pairwise_iff_getElem] at hpl
    obtain ⟨a1, rfl⟩ := List.getElem?_eq_some_iff.1 hy
    obtain ⟨a2, rfl⟩ := List.getElem?_eq_some_iff.1 hi
    exact hpl _ _ a1 a2 hlt
   rw [hk] at h3
   exact h2 h3
  ·have : i = plcK key l q := by omega
   rw [← this]
   exact hi
 ·rintro ⟨h, hk⟩
  rcases hf : l.find? (fun x => key x == q) with _ | y
  ·have := List.find?_eq_none.1 hf x (List.mem_of_getElem? h)
   simp [hk] at this
  ·have hky : key y = q := by simpa using List.find?_some hf
   obtain ⟨j, hj⟩ := List.getElem?_of_mem (List.mem_of_find?_eq_some hf)
   have hij : j = plcK key l q := by
    have hpl := hs
    unfold SortK at hpl
    rw [List.pairwise_iff_getElem] at hpl
    obtain ⟨a1, e1⟩ := List.getElem?_eq_some_iff.1 h
    obtain ⟨a2, e2⟩ := List.getElem?_eq_some_iff.1 hj
    rcases Nat.lt_trichotomy j (plcK key l q) with hlt | heq | hgt
    ·have := hpl _ _ a2 a1 hlt
     rw [e1, e2, hk, hky, cmpK_self] at this
     omega
    ·exact heq
    ·have := hpl _ _ a1 a2 hgt
     rw [e1, e2, hk, hky, cmpK_self] at this
     omega
   rw [← hij, hj] at h
   exact h
def setK (key : α → List Int) (l : List α) (q : List Int) (o : Option α) : List α := l.take (plcK key l q) ++ (o.toList ++ l.drop (plcK key l q + if (getK key l q).isSome = true then 1 else 0))
end
end
section
open Go.RowKit
section
variable {α : Type} {key : α → List Int} {d : Nat}
def layK (key : α → List Int) : List α → List Int → Option α → List α
 | [], _, o => o.toList
 | x :: l, q, o => if cmpK (key x) q < 0 then x :: layK key l q o else if key x = q then o.toList ++ l else o.toList ++ x :: l
theorem cmpK_gt {a b : List Int} (h : a.length = b.length) (h1 : ¬ cmpK a b < 0) (h2 : a ≠ b) : cmpK b a < 0 := by
 have t := cmpK_turn a b h
 have z : cmpK a b ≠ 0 := fun hz => h2 (cmpK_zero h hz)
 omega
theorem getK_cons {x : α} {l : List α} {q : List Int} : getK key (x :: l) q = if key x = q then some x else getK key l q := by
 unfold getK
 rw [List.find?_cons]
 by_cases h : key x = q
 ·rw [if_pos h, show (key x == q) = true from by simpa using h]
 ·rw [if_neg h, show (key x == q) = false from by simpa using h]
theorem getK_above (hd : ∀ x, (key x).length = d) {l : List α} {q : List Int} (h : ∀ y ∈ l, cmpK q (key y) < 0) : getK key l q = none := by
 unfold getK
 rw [List.find?_eq_none]
 intro x hx hk
 have := h x hx
 rw [show key x = q by simpa using hk, cmpK_self] at this
 omega
theorem setK_lay (hd : ∀ x, (key x).length = d) {q : List Int} (hq : q.length = d) (o : Option α) : ∀ {l : List α}, SortK key l → setK key l q o = layK key l q o
 | [], _ => by cases o <;> simp [setK, layK, plcK, getK]
 | x :: l, hs => by
  have ih := setK_lay hd hq o hs.tail
  unfold layK
  by_cases h1 : cmpK (key x) q < 0
  ·rw [if_pos h1, ← ih]
   have hne : key x ≠ q := fun e => by rw [e, cmpK_self] at h1; omega
   have e1 : plcK key (x :: l) q = plcK key l q + 1 := by unfold plcK; rw [List.countP_cons, if_pos (by simpa using h1)]
   have e2 : getK key (x :: l) q = getK key l q := by rw [getK_cons, if_neg hne]
   unfold setK
   rw [e1, e2, List.take_succ_cons, Nat.add_right_comm, List.drop_succ_cons]
   rfl
  ·have e1 : plcK key (x :: l) q = 0 := by
    unfold plcK
    rw [List.countP_eq_zero]
    intro y hy hlt
    have hlt2 : cmpK (key y) q < 0 := by simpa using hlt
    rcases List.mem_cons.1 hy with rfl | hy
    ·exact h1 hlt2
    ·exact h1 (cmpK_trans (by rw [hd, hd]) (by rw [hd, hq]) (hs.head y hy) hlt2)
   rw [if_neg h1]
   unfold setK
   rw [e1]
   by_cases h2 : key x = q
   ·rw [if_pos h2, getK_cons, if_pos h2]
    rfl
   ·have hg : cmpK q (key x) < 0 := cmpK_gt (by rw [hd, hq]) h1 h2
    rw [if_neg h2, getK_cons, if_neg h2, getK_above hd (fun y hy => cmpK_trans (by rw [hd, hq]) (by rw [hd, hd]) hg (hs.head y hy))]
    rfl
def addF (f : α → Int) (l : List α) : Int := (l.map f).sum
theorem addF_cons (f : α → Int) (x : α) (l : List α) : addF f (x :: l) = f x + addF f l := by simp [addF]
theorem addF_app (f : α → Int) (l r : List α) : addF f (l ++ r) = addF f l + addF f r := by simp [addF]
def optF (f : α → Int) : Option α → Int
 | none => 0
 | some x => f x
end
end
section
open Go.RowKit DivMath
theorem lz_any (y k : Nat) (hy : y < 18446744073709551616) (hk : Lib.bitLen y + k = 64) (w : World) :
  Calls Tryz.prog 217 #[.int .u64 y] w fun e w' => e = .returned (.int .i64 k) ∧ w = w' := by
 refine (Tryz.bits_LeadingZeros64 y w (by omega) (by omega)).mono fun e w' ⟨he, hw⟩ => ⟨?_, hw.symm⟩
 rw [he, Int.toNat_natCast, show (64 : Int) - (Lib.bitLen y : Int) = (k : Int) from by omega]

theorem div64_zero (lo y : Int) (hy : 0 < y) (hy1 : y < 18446744073709551616) (l0 : 0 ≤ lo) (l1 : lo < 18446744073709551616) (w : World) :
  Calls Tryz.prog 216 #[.int .u64 0, .int .u64 lo, .int .u64 y] w fun e w' => e = .returned (.tuple #[.int .u64 (lo / y), .int .u64 (lo % y)]) ∧ ∃ n, w' = w.drewN n := by
 have e1 : (y == 0) = false := by simp; omega
 have e2 : ¬ y ≤ 0 := by omega
 go_enter Tryz.func216, Tryz.ntmps216
 go_wp2
 go_quiet (fail)
 go_wp2
 go_ret2
 exact ⟨rfl, _, rfl⟩

theorem div64_some (hi lo y k Y yn1 yn0 u un1 un0 : Nat) (h0 : 0 < hi) (hlt : hi < y) (hy1 : y < 18446744073709551616) (hlo : lo < 18446744073709551616)
  (N : Norm hi lo y k Y yn1 yn0 u un1 un0) (w : World) :
  Calls Tryz.prog 216 #[.int .u64 hi, .int .u64 lo, .int .u64 y] w fun e w' => e = .returned (.tuple #[.int .u64 (((hi * 18446744073709551616 + lo) / y : Nat) : Int), .int .u64 (((hi * 18446744073709551616 + lo) % y : Nat) : Int)]) ∧ w = w' := by
 have e1 : ((y : Int) == 0) = false := by simp; omega
 have e2 : ¬ (y : Int) ≤ hi := by omega
 have e3 : ((hi : Int) == 0) = false := by simp; omega
 have n1 := N.k63
 have n2 := N.yn1lo
 have n3 := N.yn1hi
 have n4 := N.yn0hi
 have n5 := N.ult
 have n6 := N.hYlt
 have n7 := N.un1hi
 have n8 := N.un0hi
 have eY := N.eY
 have ey1 := N.eyn1
 have ey0 := N.eyn0
 have eu := N.eu hlo
 have e10 := N.eun10
 have e11 := N.eun1'
 have e12 := N.eun0'
 have m1 : min k 64 = k := by omega
 have m2 : min (64 - k) 64 = 64 - k := by omega
 obtain ⟨q1, hq1⟩ : ∃ q, q = u / yn1 := ⟨_, rfl⟩
 obtain ⟨r1, hr1⟩ : ∃ q, q = u % yn1 := ⟨_, rfl⟩
 obtain ⟨b1, b2⟩ := est_eqs u Y yn1 yn0 N.split n2 n4 n5 n6
 have I1 := Lib.hid (Inv.start N.split n2 n3 n4 n5 n7)
 rw [← hq1, ← hr1] at I1
 rw [← hq1] at b1 b2
 rw [← hr1] at b2
 clear hq1 hr1
 have H := Lib.hid N
 clear N
 go_enter Tryz.func216, Tryz.ntmps216
 go_upto_block 0 with (go_at_call 217; refine (lz_any y k hy1 H.out.len _).mono ?_; rintro e w' ⟨rfl, rfl⟩)
 go_cut [15] (fun q wx => q = .int .u64 (((u * 4294967296 + un1) / Y : Nat) : Int) ∧ wx = w)
 case first =>
  go_wp2_with fail
  go_loopg [15, 16] q1 (fun n q r wx => ∃ r' : Nat, Hid (Inv u un1 Y yn1 yn0 n r') ∧ (n : Int) ≤ 4294967297 ∧ (r' : Int) < 4294967296 ∧ q = .int .u64 n ∧ r = .int .u64 r' ∧ wx = w)
  case atStart => exact ⟨r1, I1, by have := I1.out.hi; omega, by have := I1.out.rhi; omega, rfl, rfl, rfl⟩
  case round =>
   obtain ⟨r', I, hn, hr, rfl, rfl, rfl⟩ := hrel
   by_cases hq : (4294967296 : Int) ≤ (gk : Int)
   ·have J := Lib.hid (I.out.next (.inl (by omega)))
    have hg : (1 : Int) ≤ (gk : Int) := by omega
    by_cases hb : (4294967296 : Int) ≤ (r' : Int) + (yn1 : Int)
    ·go_wp2_with fail
     go_meet
     exact ⟨num_eq (by rw [← J.out.2.2.2.2 (by omega)]; omega), rfl⟩
    ·go_wp2_with fail
     go_roundg (gk - 1)
     case measure => omega
     case rel => exact ⟨r' + yn1, J.out.2.2.2.1 (by omega), by omega, by omega, num_eq (by omega), num_eq (by omega), rfl⟩
   ·obtain ⟨p1, p2, p3⟩ := I.out.prod (by omega)
    by_cases ht : (4294967296 : Int) * (r' : Int) + (un1 : Int) < (gk : Int) * (yn0 : Int)
    ·have J := Lib.hid (I.out.next (.inr (by rw [← Int.natCast_mul] at ht; omega)))
     have hg : (1 : Int) ≤ (gk : Int) := by have := J.out.1; omega
     by_cases hb : (4294967296 : Int) ≤ (r' : Int) + (yn1 : Int)
     ·go_wp2_with fail
      go_meet
      exact ⟨num_eq (by rw [← J.out.2.2.2.2 (by omega)]; omega), rfl⟩
     ·go_wp2_with fail
      go_roundg (gk - 1)
      case measure => omega
      case rel => exact ⟨r' + yn1, J.out.2.2.2.1 (by omega), by omega, by omega, num_eq (by omega), num_eq (by omega), rfl⟩
    ·have J := Lib.hid (I.out.done (by rw [← Int.natCast_mul] at ht; omega))
     go_wp2_with fail
     go_meet
     exact ⟨num_eq (by rw [← J.out]), rfl⟩
 case rest =>
  obtain ⟨rfl, rfl⟩ := hcut
  clear I1 b1 b2
  obtain ⟨Q1, HQ1⟩ : ∃ Q, Hid (Q = (u * 4294967296 + un1) / Y) := ⟨_, rfl⟩
  obtain ⟨v, Hv⟩ : ∃ v, Hid (v = (u * 4294967296 + un1) % Y) := ⟨_, rfl⟩
  have l1 := left_eq u un1 Y Q1 (by omega) n6 HQ1.out
  rw [← HQ1.out]
  rw [← Hv.out] at l1
  have n9 : v < Y := by rw [Hv.out]; exact Nat.mod_lt _ (by omega)
  obtain ⟨q0, hq0⟩ : ∃ q, q = v / yn1 := ⟨_, rfl⟩
  obtain ⟨r0, hr0⟩ : ∃ q, q = v % yn1 := ⟨_, rfl⟩
  obtain ⟨b1, b2⟩ := est_eqs v Y yn1 yn0 H.out.split n2 n4 n9 n6
  have I0 := Lib.hid (Inv.start H.out.split n2 n3 n4 n9 n8)
  rw [← hq0, ← hr0] at I0
  rw [← hq0] at b1 b2
  rw [← hr0] at b2
  clear hq0 hr0
  go_upto_block 2 with (fail)
  go_cut [18] (fun q wx => q = .int .u64 (((v * 4294967296 + un0) / Y : Nat) : Int) ∧ wx = wc)
  case first =>
   go_wp2_with fail
   go_loopg [18, 16] q0 (fun n q r wx => ∃ r' : Nat, Hid (Inv v un0 Y yn1 yn0 n r') ∧ (n : Int) ≤ 4294967297 ∧ (r' : Int) < 4294967296 ∧ q = .int .u64 n ∧ r = .int .u64 r' ∧ wx = wc)
   case atStart => exact ⟨r0, I0, by have := I0.out.hi; omega, by have := I0.out.rhi; omega, rfl, rfl, rfl⟩
   case round =>
    obtain ⟨r', I, hn, hr, rfl, rfl, rfl⟩ := hrel
    by_cases hq : (4294967296 : Int) ≤ (gk : Int)
    ·have J := Lib.hid (I.out.next (.inl (by omega)))
     have hg : (1 : Int) ≤ (gk : Int) := by omega
     by_cases hb : (4294967296 : Int) ≤ (r' : Int) + (yn1 : Int)
     ·go_wp2_with fail
      go_meet
      exact ⟨num_eq (by rw [← J.out.2.2.2.2 (by omega)]; omega), rfl⟩
     ·go_wp2_with fail
      go_roundg (gk - 1)
      case measure => omega
      case rel => exact ⟨r' + yn1, J.out.2.2.2.1 (by omega), by omega, by omega, num_eq (by omega), num_eq (by omega), rfl⟩
    ·obtain ⟨p1, p2, p3⟩ := I.out.prod (by omega)
     by_cases ht : (4294967296 : Int) * (r' : Int) + (un0 : Int) < (gk : Int) * (yn0 : Int)
     ·have J := Lib.hid (I.out.next (.inr (by rw [← Int.natCast_mul] at ht; omega)))
      have hg : (1 : Int) ≤ (gk : Int) := by have := J.out.1; omega
      by_cases hb : (4294967296 : Int) ≤ (r' : Int) + (yn1 : Int)
      ·go_wp2_with fail
       go_meet
       exact ⟨num_eq (by rw [← J.out.2.2.2.2 (by omega)]; omega), rfl⟩
      ·go_wp2_with fail
       go_roundg (gk - 1)
       case measure => omega
       case rel => exact ⟨r' + yn1, J.out.2.2.2.1 (by omega), by omega, by omega, num_eq (by omega), num_eq (by omega), rfl⟩
     ·have J := Lib.hid (I.out.done (by rw [← Int.natCast_mul] at ht; omega))
      go_wp2_with fail
      go_meet
      exact ⟨num_eq (by rw [← J.out]), rfl⟩
  case rest =>
   obtain ⟨rfl, rfl⟩ := hcut
   obtain ⟨Q0, HQ0⟩ : ∃ Q, Hid (Q = (v * 4294967296 + un0) / Y) := ⟨_, rfl⟩
   obtain ⟨z, Hz⟩ : ∃ v', Hid (v' = (v * 4294967296 + un0) % Y) := ⟨_, rfl⟩
   have l0 := left_eq v un0 Y Q0 (by omega) n6 HQ0.out
   rw [← HQ0.out]
   rw [← Hz.out] at l0
   have c1 : Q1 < 4294967296 := by rw [HQ1.out]; exact q_lt u un1 Y n5 n7
   have c0 : Q0 < 4294967296 := by rw [HQ0.out]; exact q_lt v un0 Y n9 n8
   obtain ⟨t1, t2⟩ := two_steps u un1 un0 Y (by omega)
   have F1 : Hid ((hi * 18446744073709551616 + lo) / y = Q1 * 4294967296 + Q0) := by
    show _ = _
    rw [H.out.quo, t1, ← HQ1.out, ← Hv.out, ← HQ0.out]
   have F2 : Hid ((hi * 18446744073709551616 + lo) % y = z / 2 ^ k) := by
    show _ = _
    rw [H.out.rem, t2, ← Hv.out, ← Hz.out]
   clear t1 t2
   go_wp2_with fail
   go_ret2
   exact ⟨by rw [F1.out, F2.out]; simp, rfl⟩

theorem div64_any (hi lo y : Int) (h0 : 0 ≤ hi) (hlt : hi < y) (hy1 : y < 18446744073709551616) (l0 : 0 ≤ lo) (l1 : lo < 18446744073709551616) (w : World) :
  Calls Tryz.prog 216 #[.int .u64 hi, .int .u64 lo, .int .u64 y] w fun e w' => e = .returned (.tuple #[.int .u64 ((hi * 18446744073709551616 + lo) / y), .int .u64 ((hi * 18446744073709551616 + lo) % y)]) ∧ ∃ n, w' = w.drewN n := by
 by_cases hz : hi = 0
 ·subst hz
  have e := div64_zero lo y hlt hy1 l0 l1 w
  rw [show (0 : Int) * 18446744073709551616 + lo = lo from by omega]
  exact e
 ·obtain ⟨hi, rfl⟩ := Int.eq_ofNat_of_zero_le h0
  obtain ⟨lo, rfl⟩ := Int.eq_ofNat_of_zero_le l0
  obtain ⟨y, rfl⟩ := Int.eq_ofNat_of_zero_le (by omega : 0 ≤ y)
  obtain ⟨k, Y, yn1, yn0, u, un1, un0, N⟩ := norm hi lo y (by omega) (by omega) (by omega)
  refine (div64_some hi lo y k Y yn1 yn0 u un1 un0 (by omega) (by omega) (by omega) (by omega) N w).mono fun e w' ⟨he, hw⟩ => ⟨?_, 0, ?_⟩
  ·rw [he]; simp
  ·rw [← hw]; rfl
end
section

def addN (a b : Int) : Int := if a + b < 18446744073709551616 then a + b else 0
def addE (a b : Int) : Int := if a + b < 18446744073709551616 then 0 else 12
def hiN (a b : Int) : Int := a * b / 18446744073709551616
def loN (a b : Int) : Int := a * b % 18446744073709551616
def mdN (a b c : Int) : Int := if c = 0 then 0 else if a * b / c < 18446744073709551616 then a * b / c else 0
def mdE (a b c : Int) : Int := if c = 0 then 2 else if a * b / c < 18446744073709551616 then 0 else 12
def paN (a p : Int) : Int := if 1000000000 < p then 0 else mdN a p 1000000000
def paE (a p : Int) : Int := if 1000000000 < p then 3 else mdE a p 1000000000
def Word (x : Int) : Prop := 0 ≤ x ∧ x < 18446744073709551616
theorem Word.lo {x : Int} (h : Word x) : 0 ≤ x := h.1
theorem Word.hi {x : Int} (h : Word x) : x < 18446744073709551616 := h.2

theorem prod_bounds {a b : Int} (ha : Word a) (hb : Word b) : 0 ≤ a * b ∧ a * b ≤ 340282366920938463426481119284349108225 := by
 refine ⟨Int.mul_nonneg ha.1 hb.1, ?_⟩
 have h1 : a * b ≤ 18446744073709551615 * b := Int.mul_le_mul_of_nonneg_right (by have := ha.2; omega) hb.1
 have := hb.2
 omega
theorem word_hi {a b : Int} (ha : Word a) (hb : Word b) : Word (hiN a b) := by
 obtain ⟨h1, h2⟩ := prod_bounds ha hb
 unfold hiN Word
 omega
theorem word_lo (a b : Int) : Word (loN a b) := by unfold loN Word; omega
theorem hi_lo (a b : Int) : hiN a b * 18446744073709551616 + loN a b = a * b := by unfold hiN loN; omega
theorem word_add {a b : Int} (ha : Word a) (hb : Word b) : Word (addN a b) := by
 unfold addN Word; have := ha.1; have := hb.1; split <;> omega
theorem quo_hi {h l c : Int} (hc : 0 < c) (hh : 0 ≤ h) (hl : Word l) :
  (h * 18446744073709551616 + l) / c = h / c * 18446744073709551616 + (h % c * 18446744073709551616 + l) / c ∧
  (h * 18446744073709551616 + l) % c = (h % c * 18446744073709551616 + l) % c ∧ Word ((h % c * 18446744073709551616 + l) / c) := by
 have hd := Int.mul_ediv_add_emod h c
 have hm := Int.emod_nonneg h (by omega : c ≠ 0)
 have hm2 := Int.emod_lt_of_pos h hc
 have e : h * 18446744073709551616 + l = (h % c * 18446744073709551616 + l) + c * (h / c * 18446744073709551616) := by
  have : c * (h / c * 18446744073709551616) = c * (h / c) * 18446744073709551616 := by rw [Int.mul_assoc]
  omega
 refine ⟨?_, ?_, ?_⟩
 ·rw [e, Int.add_mul_ediv_left _ _ (by omega)]; omega
 ·rw [e, Int.add_mul_emod_self_left]
 ·have := hl.1
  have := hl.2
  constructor
  ·exact Int.ediv_nonneg (by omega) (by omega)
  ·refine Int.ediv_lt_of_lt_mul hc ?_
   have h3 : (h % c + 1) * 18446744073709551616 ≤ c * 18446744073709551616 := Int.mul_le_mul_of_nonneg_right (by omega) (by omega)
   omega
end
section
open Go.RowKit
theorem mul64_any (a b : Int) (ha : Word a) (hb : Word b) (w : World) :
  Calls Tryz.prog 215 #[.int .u64 a, .int .u64 b] w fun e w' => e = .returned (.tuple #[.int .u64 (hiN a b), .int .u64 (loN a b)]) ∧ w = w' := by
 obtain ⟨a, rfl⟩ := Int.eq_ofNat_of_zero_le ha.1
 obtain ⟨b, rfl⟩ := Int.eq_ofNat_of_zero_le hb.1
 refine (Tryz.bits_Mul64 a b (by have := ha.2; omega) (by have := hb.2; omega) w).mono fun e w' ⟨he, hw⟩ => ⟨?_, hw.symm⟩
 rw [he]; unfold hiN loN; simp

theorem times_any (a b : Int) (ha : Word a) (hb : Word b) (w : World) :
  Calls Tryz.prog 209 #[.int .u64 a, .int .u64 b] w fun e w' => e = .returned (.agg #[.int .u64 (hiN a b), .int .u64 (loN a b)]) ∧ Ext w w' := by
 go_enter Tryz.func209, Tryz.ntmps209
 go_wp2_with (go_at_call 215; refine (mul64_any a b ha hb _).mono ?_; rintro e w' ⟨rfl, rfl⟩)
 simp [bodyPost, results, Tryz.results209, go_sem]
 exact zSlTba1_0
theorem word_ok (l : Int) (w : World) :
  Calls Tryz.prog 211 #[.agg #[.int .u64 0, .int .u64 l]] w fun e w' => e = .returned (.tuple #[.int .u64 l, .int .i64 0]) ∧ Ext w w' := by
 go_enter Tryz.func211, Tryz.ntmps211
 go_wp2
 go_ret2
 exact ⟨rfl, zSlTba1_0⟩
theorem word_no (h l : Int) (w : World) (hz : (h == 0) = false) :
  Calls Tryz.prog 211 #[.agg #[.int .u64 h, .int .u64 l]] w fun e w' => e = .returned (.tuple #[.int .u64 0, .int .i64 12]) ∧ Ext w w' := by
 go_enter Tryz.func211, Tryz.ntmps211
 go_wp2
 go_ret2
 exact ⟨rfl, zSlTba1_0⟩
theorem word_any (h l : Int) (hh : 0 ≤ h) (hl : Word l) (w : World) :
  Calls Tryz.prog 211 #[.agg #[.int .u64 h, .int .u64 l]] w fun e w' =>
   e = .returned (.tuple #[.int .u64 (if h * 18446744073709551616 + l < 18446744073709551616 then h * 18446744073709551616 + l else 0), .int .i64 (if h * 18446744073709551616 + l < 18446744073709551616 then 0 else 12)]) ∧ Ext w w' := by
 have := hl.1
 have := hl.2
 by_cases hz : h = 0
 ·subst hz
  refine (word_ok l w).mono fun e w' ⟨he, hw⟩ => ⟨?_, hw⟩
  rw [he, if_pos (by omega), if_pos (by omega)]
  exact ret_two (by omega) rfl
 ·refine (word_no h l w (by simpa using hz)).mono fun e w' ⟨he, hw⟩ => ⟨?_, hw⟩
  rw [he, if_neg (by omega), if_neg (by omega)]
theorem over_any (h l c : Int) (hh : Word h) (hl : Word l) (hc : 0 < c) (hc1 : c < 18446744073709551616) (w : World) :
  Calls Tryz.prog 210 #[.agg #[.int .u64 h, .int .u64 l], .int .u64 c] w fun e w' =>
   e = .returned (.tuple #[.agg #[.int .u64 (h / c), .int .u64 ((h % c * 18446744073709551616 + l) / c)], .int .u64 ((h % c * 18446744073709551616 + l) % c)]) ∧ Ext w w' := by
 obtain ⟨h1, h2⟩ := hh
 obtain ⟨l1, l2⟩ := hl
 have m1 := Int.emod_nonneg h (by omega : c ≠ 0)
 have m2 := Int.emod_lt_of_pos h hc
 have q1 : 0 ≤ h / c := Int.ediv_nonneg h1 (by omega)
 have q2 : h / c ≤ h := Int.ediv_le_self c h1
 go_enter Tryz.func210, Tryz.ntmps210
 go_wp2
 go_quiet ((go_at_call 216; refine Calls.quiet_of (div64_any (h % c) l c m1 m2 hc1 l1 l2 _)))
 go_wp2
 simp [bodyPost, results, Tryz.results210, go_sem]
 exact zSlTba1_0

theorem add64_run (x y c : Int) (hx : 0 ≤ x) (hy : 0 ≤ y) (hc0 : 0 ≤ c) (hc : c ≤ 1) (w : World) : (callFunc 196 #[.int .u64 x, .int .u64 y, .int .u64 c]).run Tryz.prog w =
  .ok (.value (.tuple #[.int .u64 ((x + y + c) % 18446744073709551616), .int .u64 ((x + y + c) / 18446744073709551616)])) w := by
 obtain ⟨x, rfl⟩ := Int.eq_ofNat_of_zero_le hx
 obtain ⟨y, rfl⟩ := Int.eq_ofNat_of_zero_le hy
 obtain ⟨c, rfl⟩ := Int.eq_ofNat_of_zero_le hc0
 have h : c = 0 ∨ c = 1 := by omega
 rw [run_callFunc_extern Tryz.func196 (by kernel_rfl) (by kernel_rfl) (by kernel_rfl) (e := add64Entry) (by kernel_rfl), run_add64 x y c (by omega) (by omega) (by omega) (by omega)]
 simp only [Result.andThen]
 try (congr 5 <;> omega)
theorem add64_0 (x y : Int) (hx : 0 ≤ x) (hy : 0 ≤ y) (w : World) : (callFunc 196 #[.int .u64 x, .int .u64 y, .int .u64 0]).run Tryz.prog w =
  .ok (.value (.tuple #[.int .u64 ((x + y) % 18446744073709551616), .int .u64 ((x + y) / 18446744073709551616)])) w := by
 simpa using add64_run x y 0 hx hy (Int.le_refl 0) (by decide) w
end
section
open Go.RowKit
theorem fAdd_any (a b : Int) (ha : Word a) (hb : Word b) (w : World) :
  Calls Tryz.prog 174 #[.int .u64 a, .int .u64 b] w fun e w' => e = .returned (.tuple #[.int .u64 (addN a b), .int .i64 (addE a b)]) ∧ Ext w w' := by
 obtain ⟨a1, a2⟩ := ha
 obtain ⟨b1, b2⟩ := hb
 by_cases h : a + b < 18446744073709551616
 ·have e1 : addN a b = a + b := if_pos h
  have e2 : addE a b = 0 := if_pos h
  rw [e1, e2]
  have d1 : (a + b) / 18446744073709551616 = 0 := by omega
  have d2 : (a + b) % 18446744073709551616 = a + b := by omega
  clear e1 e2
  go_enter Tryz.func174, Tryz.ntmps174
  go_wp2_with (simp only [add64_0 a b a1 b1, d1, d2])
  go_ret2
  exact ⟨rfl, zSlTba1_0⟩
 ·have e1 : addN a b = 0 := if_neg h
  have e2 : addE a b = 12 := if_neg h
  rw [e1, e2]
  have d1 : (a + b) / 18446744073709551616 = 1 := by omega
  clear e1 e2
  go_enter Tryz.func174, Tryz.ntmps174
  go_wp2_with (simp only [add64_0 a b a1 b1, d1])
  go_ret2
  exact ⟨rfl, zSlTba1_0⟩
theorem fMulDiv_any (a b c : Int) (ha : Word a) (hb : Word b) (hc : Word c) (w : World) :
  Calls Tryz.prog 201 #[.int .u64 a, .int .u64 b, .int .u64 c] w fun e w' => e = .returned (.tuple #[.int .u64 (mdN a b c), .int .i64 (mdE a b c)]) ∧ Ext w w' := by
 by_cases hz : c = 0
 ·subst hz
  go_enter Tryz.func201, Tryz.ntmps201
  go_wp2
  go_ret2
  exact ⟨rfl, zSlTba1_0⟩
 ·have hc0 : 0 < c := by have := hc.1; omega
  obtain ⟨q1, q2, q3⟩ := quo_hi (h := hiN a b) hc0 (word_hi ha hb).1 (word_lo a b)
  rw [hi_lo] at q1
  have q4 : 0 ≤ hiN a b / c := Int.ediv_nonneg (word_hi ha hb).1 (by omega)
  have W := word_any (hiN a b / c) _ q4 q3
  rw [← q1] at W
  have e1 : mdN a b c = if a * b / c < 18446744073709551616 then a * b / c else 0 := if_neg hz
  have e2 : mdE a b c = if a * b / c < 18446744073709551616 then 0 else 12 := if_neg hz
  rw [← e1, ← e2] at W
  have H := Lib.hid W
  clear e1 e2 W q1 q2 q3 q4
  go_enter Tryz.func201, Tryz.ntmps201
  go_wp2_with (first
   | (go_at_call 209; refine (times_any a b ha hb _).mono ?_; rintro e w' ⟨rfl, hx1⟩)
   | (go_at_call 210; refine (over_any _ _ c (word_hi ha hb) (word_lo a b) hc0 hc.2 _).mono ?_; rintro e w' ⟨rfl, hx2⟩)
   | (go_at_call 211; refine (H.out _).mono ?_; rintro e w' ⟨rfl, hx3⟩))
  go_ret2
  exact ⟨rfl, zSlTba1_0⟩
theorem fPart_any (a p : Int) (ha : Word a) (hp : Word p) (w : World) :
  Calls Tryz.prog 181 #[.int .u64 a, .int .u64 p] w fun e w' => e = .returned (.tuple #[.int .u64 (paN a p), .int .i64 (paE a p)]) ∧ Ext w w' := by
 by_cases h : 1000000000 < p
 ·have e1 : paN a p = 0 := if_pos h
  have e2 : paE a p = 3 := if_pos h
  rw [e1, e2]
  clear e1 e2
  go_enter Tryz.func181, Tryz.ntmps181
  go_wp2
  go_ret2
  exact ⟨rfl, zSlTba1_0⟩
 ·have e1 : paN a p = mdN a p 1000000000 := if_neg h
  have e2 : paE a p = mdE a p 1000000000 := if_neg h
  rw [e1, e2]
  clear e1 e2
  go_enter Tryz.func181, Tryz.ntmps181
  go_wp2_with ((go_at_call 201; refine (fMulDiv_any a p 1000000000 ha hp ⟨by decide, by decide⟩ _).mono ?_; rintro e w1 ⟨rfl, hx1⟩; (have hs1 := hx1.size); (try simp at hs1)))
  go_ret2
  exact ⟨rfl, zSlTba1_0⟩
end
section
open Go.RowKit
theorem sso_any (b : Bool) (e : Int) (w : World) :
  Calls Tryz.prog 180 #[.bool b, .int .i64 e] w fun r w' => r = .returned (.func (.func 200) #[] #[.pointer (some ⟨w.heap.size, 0, none⟩), .pointer (some ⟨w.heap.size + 1, 0, none⟩)]) ∧
   w' = (w.alloc (.cells #[.bool b] 4)).alloc (.cells #[.int .i64 e] 30) := by
 have hmf : ∀ (fn : Fn) (first cap : Array Value) (w : World), (Instr.makeFunc fn first cap).run Tryz.prog w = .ok (.func fn first cap) w := fun _ _ _ _ => rfl
 go_enter Tryz.func180, Tryz.ntmps180
 go_wp2
 go_ret
 exact ⟨rfl, rfl⟩
theorem sso1_any (a b : Addr) (is : Bool) (e : Int) (w : World) (h1 : w.cell? a = some (.bool is)) (h2 : w.cell? b = some (.int .i64 e)) :
  Calls Tryz.prog 200 #[.pointer (some a), .pointer (some b)] w fun r w' => r = .returned (.int .i64 (if is = true then e else 0)) ∧ w = w' := by
 cases is
 ·go_enter Tryz.func200, Tryz.ntmps200
  go_wp2
  go_ret
  exact ⟨rfl, rfl⟩
 ·go_enter Tryz.func200, Tryz.ntmps200
  go_wp2
  go_ret
  exact ⟨rfl, rfl⟩
def firstE : List Int → Int
 | [] => 0
 | r :: l => if r = 0 then firstE l else r
theorem firstE_drop {l : List Int} {k : Nat} (hk : k < l.length) : firstE (l.drop k) = if l.getD k 0 = 0 then firstE (l.drop (k + 1)) else l.getD k 0 := by
 rw [List.drop_eq_getElem_cons hk, List.getD_eq_getElem?_getD, List.getElem?_eq_getElem hk]
 rfl
def AskS (w : World) (v : Value) (r : Int) : Prop :=
 ∃ (a b : Nat) (is : Bool) (e : Int), v = .func (.func 200) #[] #[.pointer (some ⟨a, 0, none⟩), .pointer (some ⟨b, 0, none⟩)] ∧ a < w.heap.size ∧ b < w.heap.size ∧ w.cell? ⟨a, 0, none⟩ = some (.bool is) ∧ w.cell? ⟨b, 0, none⟩ = some (.int .i64 e) ∧ r = if is = true then e else 0
theorem AskS.ext {w w' : World} {v : Value} {r : Int} (h : AskS w v r) (hx : Ext w w') : AskS w' v r := by
 obtain ⟨a, b, is, e, h1, h2, h3, h4, h5, h6⟩ := h
 have hs := hx.size
 exact ⟨a, b, is, e, h1, by omega, by omega, (hx.cells.1 a 0 h2).trans h4, (hx.cells.1 b 0 h3).trans h5, h6⟩
theorem sfirst_any (A : Option Addr) (n c : Nat) (vs : List Value) (rs : List Int) (w : World) (h : Sl w 1 A n c vs) (hl : rs.length = n) (ha : ∀ i v, vs[i]? = some v → AskS w v (rs.getD i 0)) :
  Calls Tryz.prog 179 #[.slice A n c] w fun r w' => r = .returned (.int .i64 (firstE rs)) ∧ w = w' := by
 have hs := h.small
 have hvl := h.len
 obtain ⟨V, hV⟩ : ∃ V, V = firstE rs := ⟨_, rfl⟩
 rw [← hV]
 have HV := Lib.hid hV
 have HL := Lib.hid (And.intro hl hvl)
 have HA := Lib.hid ha
 have HH := Lib.hid h
 clear hV hl ha h hvl
 go_enter Tryz.func179, Tryz.ntmps179
 go_wp2
 go_loopg [8] n (fun g i wx => g ≤ n ∧ Hid (V = firstE (rs.drop (n - g))) ∧ i = .int .i64 ((n - g : Nat) : Int) ∧ wx = w)
 case atStart => exact ⟨Nat.le_refl _, by show V = firstE (rs.drop (n - n)); rw [Nat.sub_self]; exact HV.out, by simp, rfl⟩
 case round =>
  obtain ⟨hg, H, hi, rfl⟩ := hrel
  obtain ⟨k, hk⟩ : ∃ k, k = n - gk := ⟨_, rfl⟩
  rw [← hk] at H hi
  subst hi
  by_cases hz : gk = 0
  ·have hkn : ¬ (k : Int) < n := by omega
   have e : V = 0 := by
    rw [H.out, List.drop_eq_nil_of_le (by have := HL.out; omega)]; rfl
   subst e
   clear H hz hg hk
   go_wp2
   go_ret
   exact ⟨rfl, rfl⟩
  ·have hkn : (k : Int) < n := by omega
   obtain ⟨b, o, rfl, hb, hc⟩ := HH.out.at_ (show 0 < n from by omega)
   have hkl : k < vs.length := by have := HL.out; omega
   have hc1 := hc k _ (List.getElem?_eq_getElem hkl)
   obtain ⟨p, q, is, e, h1, h2, h3, h4, h5, h6⟩ := HA.out k _ (List.getElem?_eq_getElem hkl)
   rw [h1] at hc1
   have hd := H.out
   rw [firstE_drop (by have := HL.out; omega)] at hd
   have C := Lib.hid (sso1_any ⟨p, 0, none⟩ ⟨q, 0, none⟩ is e wr h4 h5)
   rw [← h6] at C
   obtain ⟨r, hr⟩ : ∃ r, r = rs.getD k 0 := ⟨_, rfl⟩
   rw [← hr] at hd C
   have HK := Lib.hid (And.intro hk (And.intro hg hz))
   by_cases hr0 : r = 0
   ·rw [if_pos hr0] at hd
    have HD := Lib.hid hd
    subst hr0
    clear hd hr h1 h2 h3 h4 h5 h6 hc hb hkl hk hg hz H
    go_wp2_with fail
    refine C.out.mono ?_
    rintro e w1 ⟨rfl, rfl⟩
    go_wp2_with fail
    go_roundg (gk - 1)
    case measure => have := HK.out; omega
    case rel => exact ⟨by have := HK.out; omega, by rw [show n - (gk - 1) = k + 1 from by have := HK.out; omega]; exact HD, num_eq (by have := HK.out; omega), rfl⟩
   ·rw [if_neg hr0] at hd
    obtain rfl : V = r := hd
    have hr1 : (V == 0) = false := by simpa using hr0
    clear hr h1 h2 h3 h4 h5 h6 hc hb hkl hk hg hz H hr0
    go_wp2_with fail
    refine C.out.mono ?_
    rintro e w1 ⟨rfl, rfl⟩
    go_wp2_with fail
    go_ret
    exact ⟨rfl, rfl⟩
theorem ask3 {w : World} {v1 v2 v3 : Value} {r1 r2 r3 : Int} (h1 : AskS w v1 r1) (h2 : AskS w v2 r2) (h3 : AskS w v3 r3) : ∀ i v, [v1, v2, v3][i]? = some v → AskS w v ([r1, r2, r3].getD i 0) := by
 intro i v h
 match i with
 | 0 => simp at h; subst h; exact h1
 | 1 => simp at h; subst h; exact h2
 | 2 => simp at h; subst h; exact h3
 | i + 3 => simp at h
abbrev clo (p q : Nat) : Value := .func (.func 200) #[] #[.pointer (some ⟨p, 0, none⟩), .pointer (some ⟨q, 0, none⟩)]
theorem sfirst_three {w : World} (b p1 q1 p2 q2 p3 q3 : Nat) (i1 i2 i3 : Bool) (e1 e2 e3 : Int)
  (c1 : w.cell? ⟨b, 0, none⟩ = some (clo p1 q1)) (c2 : w.cell? ⟨b, 1, none⟩ = some (clo p2 q2)) (c3 : w.cell? ⟨b, 2, none⟩ = some (clo p3 q3))
  (h1 : w.cell? ⟨p1, 0, none⟩ = some (.bool i1)) (g1 : w.cell? ⟨q1, 0, none⟩ = some (.int .i64 e1)) (h2 : w.cell? ⟨p2, 0, none⟩ = some (.bool i2)) (g2 : w.cell? ⟨q2, 0, none⟩ = some (.int .i64 e2)) (h3 : w.cell? ⟨p3, 0, none⟩ = some (.bool i3)) (g3 : w.cell? ⟨q3, 0, none⟩ = some (.int .i64 e3)) {V : Int} (hV : V = firstE [if i1 = true then e1 else 0, if i2 = true then e2 else 0, if i3 = true then e3 else 0]) :
  Calls Tryz.prog 179 #[.slice (some ⟨b, 0, none⟩) 3 3] w fun r w' => r = .returned (.int .i64 V) ∧ w = w' :=
 hV ▸ sfirst_any (some ⟨b, 0, none⟩) 3 3 [clo p1 q1, clo p2 q2, clo p3 q3] [if i1 = true then e1 else 0, if i2 = true then e2 else 0, if i3 = true then e3 else 0] w
  ⟨rfl, by omega, by simp [maxLen], fun _ => ⟨b, 0, rfl, cell_lt c1, fun j u hu => by
   match j with
   | 0 => simp at hu; subst hu; exact c1
   | 1 => simp at hu; subst hu; exact c2
   | 2 => simp at hu; subst hu; exact c3
   | j + 3 => simp at hu⟩⟩ rfl
  (ask3 ⟨_, _, _, _, rfl, cell_lt h1, cell_lt g1, h1, g1, rfl⟩ ⟨_, _, _, _, rfl, cell_lt h2, cell_lt g2, h2, g2, rfl⟩ ⟨_, _, _, _, rfl, cell_lt h3, cell_lt g3, h3, g3, rfl⟩)
theorem sfirst_two {w : World} (b p1 q1 p2 q2 : Nat) (i1 i2 : Bool) (e1 e2 : Int)
  (c1 : w.cell? ⟨b, 0, none⟩ = some (clo p1 q1)) (c2 : w.cell? ⟨b, 1, none⟩ = some (clo p2 q2))
  (h1 : w.cell? ⟨p1, 0, none⟩ = some (.bool i1)) (g1 : w.cell? ⟨q1, 0, none⟩ = some (.int .i64 e1)) (h2 : w.cell? ⟨p2, 0, none⟩ = some (.bool i2)) (g2 : w.cell? ⟨q2, 0, none⟩ = some (.int .i64 e2)) {V : Int} (hV : V = firstE [if i1 = true then e1 else 0, if i2 = true then e2 else 0]) :
  Calls Tryz.prog 179 #[.slice (some ⟨b, 0, none⟩) 2 2] w fun r w' => r = .returned (.int .i64 V) ∧ w = w' :=
 hV ▸ sfirst_any (some ⟨b, 0, none⟩) 2 2 [clo p1 q1, clo p2 q2] [if i1 = true then e1 else 0, if i2 = true then e2 else 0] w
  ⟨rfl, by omega, by simp [maxLen], fun _ => ⟨b, 0, rfl, cell_lt c1, fun j u hu => by
   match j with
   | 0 => simp at hu; subst hu; exact c1
   | 1 => simp at hu; subst hu; exact c2
   | j + 2 => simp at hu⟩⟩ rfl
  (by
   intro i v h
   match i with
   | 0 => simp at h; subst h; exact ⟨_, _, _, _, rfl, cell_lt h1, cell_lt g1, h1, g1, rfl⟩
   | 1 => simp at h; subst h; exact ⟨_, _, _, _, rfl, cell_lt h2, cell_lt g2, h2, g2, rfl⟩
   | i + 2 => simp at h)
theorem sfirst_one {w : World} (b p1 q1 : Nat) (i1 : Bool) (e1 : Int)
  (c1 : w.cell? ⟨b, 0, none⟩ = some (clo p1 q1))
  (h1 : w.cell? ⟨p1, 0, none⟩ = some (.bool i1)) (g1 : w.cell? ⟨q1, 0, none⟩ = some (.int .i64 e1)) {V : Int} (hV : V = firstE [if i1 = true then e1 else 0]) :
  Calls Tryz.prog 179 #[.slice (some ⟨b, 0, none⟩) 1 1] w fun r w' => r = .returned (.int .i64 V) ∧ w = w' :=
 hV ▸ sfirst_any (some ⟨b, 0, none⟩) 1 1 [clo p1 q1] [if i1 = true then e1 else 0] w
  ⟨rfl, by omega, by simp [maxLen], fun _ => ⟨b, 0, rfl, cell_lt c1, fun j u hu => by
   match j with
   | 0 => simp at hu; subst hu; exact c1
   | j + 1 => simp at hu⟩⟩ rfl
  (by
   intro i v h
   match i with
   | 0 => simp at h; subst h; exact ⟨_, _, _, _, rfl, cell_lt h1, cell_lt g1, h1, g1, rfl⟩
   | i + 1 => simp at h)
def chkE (t s : Int) : Int := if s < t then 9 else if 4611686018427387904 < t then 12 else if t = 0 then (if s = 0 then 0 else 11) else 0
theorem scheck_some (t s : Int) (t0 : 0 ≤ t) (t1 : t < 18446744073709551616) (s0 : 0 ≤ s) (s1 : s < 18446744073709551616) (hz' : (t == 0) = false) (w : World) :
  Calls Tryz.prog 138 #[.agg #[.int .u64 t, .int .u64 s]] w fun r w' => r = .returned (.int .i64 (firstE [if decide (s < t) = true then 9 else 0, if decide (4611686018427387904 < t) = true then 12 else 0, if false = true then 11 else 0])) ∧ Ext w w' := by
  obtain ⟨V, hV⟩ : ∃ V, V = firstE [if decide (s < t) = true then 9 else 0, if decide (4611686018427387904 < t) = true then 12 else 0, if false = true then 11 else 0] := ⟨_, rfl⟩
  rw [← hV]
  have HV := Lib.hid hV
  clear hV
  go_enter Tryz.func138, Tryz.ntmps138
  go_wp2
  refine wp_region_held_drew (S := fun w' => w'.cell? ⟨w.heap.size, 0, none⟩ = some (.int .u64 t) ∧ w'.cell? ⟨w.heap.size, 1, none⟩ = some (.int .u64 s)) (by kernel_rfl) (by simp [go_sem]) (fun hHeld => ?_)
  refine' zt 0 ?_
  refine' zt 1 ?_
  refine' zt 2 ?_
  refine' zt 3 ?_
  refine' zt 4 ?_
  refine' zt 6 ?_
  refine' zt 7 ?_
  refine' zt 8 ?_
  refine' zt 10 ?_
  refine' zt 11 ?_
  refine' zt 12 ?_
  refine' zn 5 (fun K hK => ?_)
  (go_simp; go_at_call 180; refine (sso_any _ _ _).mono ?_; rintro e w1 ⟨rfl, rfl⟩; try go_simp)
  refine' zk hK zSlTba1_3 (fun hHeld => ?_); clear hK K
  refine' zn 9 (fun K hK => ?_)
  (go_simp; go_at_call 180; refine (sso_any _ _ _).mono ?_; rintro e w1 ⟨rfl, rfl⟩; try go_simp)
  refine' zk hK zSlTba1_3 (fun hHeld => ?_); clear hK K
  refine' zt 13 ?_
  refine' zs 14 ?_
  refine' zs 15 ?_
  refine' zs 16 ?_
  refine' zt 17 ?_
  refine' zn 18 (fun K hK => ?_)
  (go_simp; go_at_call 180; refine (sso_any _ _ _).mono ?_; rintro e w1 ⟨rfl, rfl⟩; try go_simp)
  refine' zk hK zSlTba1_3 (fun hHeld => ?_); clear hK K
  refine' zn 19 (fun K hK => ?_)
  go_simp
  refine' zk hK zSlTba1_3 (fun hHeld => ?_); clear hK K
  refine' zn 20 (fun K hK => ?_)
  go_simp
  go_at_call 179
  refine (sfirst_three _ (w.heap.size + 1) (w.heap.size + 1 + 1) (w.heap.size + 1 + 1 + 1) (w.heap.size + 1 + 1 + 1 + 1) (w.heap.size + 1 + 1 + 1 + 1 + 1) (w.heap.size + 1 + 1 + 1 + 1 + 1 + 1) (decide (s < t)) (decide (4611686018427387904 < t)) false 9 12 11
   (by simp [go_sem]) (by simp [go_sem]) (by simp [go_sem]) (by simp [go_sem]) (by simp [go_sem]) (by simp [go_sem]) (by simp [go_sem]) (by simp [go_sem]) (by simp [go_sem]) HV.out).mono ?_
  rintro e w1 ⟨rfl, rfl⟩
  try go_simp
  refine' zk hK zSlTba1_3 (fun hHeld => ?_); clear hK K
  refine' zn 21 (fun K hK => ?_)
  go_simp
  refine' zk hK zSlTba1_3 (fun hHeld => ?_); clear hK K
  refine wpAnyH_done (by kernel_rfl) ?_ _
  go_wp2
  go_ret
  refine ⟨rfl, ?_⟩
  repeat (first | exact Ext.refl _ | refine Ext.drew ?_ | refine Ext.alloc ?_ _)
theorem scheck_none (s : Int) (s0 : 0 ≤ s) (s1 : s < 18446744073709551616) (w : World) :
  Calls Tryz.prog 138 #[.agg #[.int .u64 0, .int .u64 s]] w fun r w' => r = .returned (.int .i64 (firstE [if decide (s < 0) = true then 9 else 0, if decide (4611686018427387904 < (0 : Int)) = true then 12 else 0, if (s != 0) = true then 11 else 0])) ∧ Ext w w' := by
  obtain ⟨V, hV⟩ : ∃ V, V = firstE [if decide (s < 0) = true then 9 else 0, if decide (4611686018427387904 < (0 : Int)) = true then 12 else 0, if (s != 0) = true then 11 else 0] := ⟨_, rfl⟩
  rw [← hV]
  have HV := Lib.hid hV
  clear hV
  go_enter Tryz.func138, Tryz.ntmps138
  go_wp2
  refine wp_region_held_drew (S := fun w' => w'.cell? ⟨w.heap.size, 0, none⟩ = some (.int .u64 0) ∧ w'.cell? ⟨w.heap.size, 1, none⟩ = some (.int .u64 s)) (by kernel_rfl) (by simp [go_sem]) (fun hHeld => ?_)
  refine' zt 0 ?_
  refine' zt 1 ?_
  refine' zt 2 ?_
  refine' zt 3 ?_
  refine' zt 4 ?_
  refine' zt 6 ?_
  refine' zt 7 ?_
  refine' zt 8 ?_
  refine' zt 10 ?_
  refine' zt 11 ?_
  refine' zt 12 ?_
  refine' zn 5 (fun K hK => ?_)
  (go_simp; go_at_call 180; refine (sso_any _ _ _).mono ?_; rintro e w1 ⟨rfl, rfl⟩; try go_simp)
  refine' zk hK zSlTba1_3 (fun hHeld => ?_); clear hK K
  refine' zn 9 (fun K hK => ?_)
  (go_simp; go_at_call 180; refine (sso_any _ _ _).mono ?_; rintro e w1 ⟨rfl, rfl⟩; try go_simp)
  refine' zk hK zSlTba1_3 (fun hHeld => ?_); clear hK K
  refine' zt 13 ?_
  refine' zt 14 ?_
  refine' zt 15 ?_
  refine' zt 16 ?_
  refine' zt 17 ?_
  refine' zn 18 (fun K hK => ?_)
  (go_simp; go_at_call 180; refine (sso_any _ _ _).mono ?_; rintro e w1 ⟨rfl, rfl⟩; try go_simp)
  refine' zk hK zSlTba1_3 (fun hHeld => ?_); clear hK K
  refine' zn 19 (fun K hK => ?_)
  go_simp
  refine' zk hK zSlTba1_3 (fun hHeld => ?_); clear hK K
  refine' zn 20 (fun K hK => ?_)
  go_simp
  go_at_call 179
  refine (sfirst_three _ (w.heap.size + 1) (w.heap.size + 1 + 1) (w.heap.size + 1 + 1 + 1) (w.heap.size + 1 + 1 + 1 + 1) (w.heap.size + 1 + 1 + 1 + 1 + 1) (w.heap.size + 1 + 1 + 1 + 1 + 1 + 1) (decide (s < 0)) (decide (4611686018427387904 < 0)) (s != 0) 9 12 11
   (by simp [go_sem]) (by simp [go_sem]) (by simp [go_sem]) (by simp [go_sem]) (by simp [go_sem]) (by simp [go_sem]) (by simp [go_sem]) (by simp [go_sem]) (by simp [go_sem]) HV.out).mono ?_
  rintro e w1 ⟨rfl, rfl⟩
  try go_simp
  refine' zk hK zSlTba1_3 (fun hHeld => ?_); clear hK K
  refine' zn 21 (fun K hK => ?_)
  go_simp
  refine' zk hK zSlTba1_3 (fun hHeld => ?_); clear hK K
  refine wpAnyH_done (by kernel_rfl) ?_ _
  go_wp2
  go_ret
  refine ⟨rfl, ?_⟩
  repeat (first | exact Ext.refl _ | refine Ext.drew ?_ | refine Ext.alloc ?_ _)
theorem scheck_any (t s : Int) (ht : Word t) (hs : Word s) (w : World) :
  Calls Tryz.prog 138 #[.agg #[.int .u64 t, .int .u64 s]] w fun r w' => r = .returned (.int .i64 (chkE t s)) ∧ Ext w w' := by
 obtain ⟨t0, t1⟩ := ht
 obtain ⟨s0, s1⟩ := hs
 by_cases hz : t = 0
 ·subst hz
  refine (scheck_none s s0 s1 w).mono ?_
  rintro e w1 ⟨rfl, h⟩
  refine ⟨ret_int ?_, h⟩
  have h1 : ¬ s < 0 := by omega
  by_cases h2 : s = 0
  ·subst h2; rfl
  ·simp [firstE, chkE, h1, h2]
 ·refine (scheck_some t s t0 t1 s0 s1 (by simpa using hz) w).mono ?_
  rintro e w1 ⟨rfl, h⟩
  refine ⟨ret_int ?_, h⟩
  by_cases h1 : s < t <;> by_cases h2 : 4611686018427387904 < t <;> simp [firstE, chkE, h1, h2, hz]
end
section
open Go.RowKit
theorem word_mdN {a b c : Int} (ha : Word a) (hb : Word b) (hc : Word c) : Word (mdN a b c) := by
 have h1 := (prod_bounds ha hb).1
 have h2 : 0 ≤ a * b / c := Int.ediv_nonneg h1 hc.1
 unfold mdN Word
 split <;> try split
 all_goals omega
theorem word_paN {a p : Int} (ha : Word a) (hp : Word p) : Word (paN a p) := by
 unfold paN
 split
 ·exact ⟨by decide, by decide⟩
 ·exact word_mdN ha hp ⟨by decide, by decide⟩
def worV (t s x : Int) : Int := if s = 0 then 0 else mdN x t s
def priN (t s a : Int) : Int := if t = 0 then a else mdN a s t
def priE (t s a : Int) : Int := if t = 0 then 0 else mdE a s t
theorem word_worV {t s x : Int} (ht : Word t) (hs : Word s) (hx : Word x) : Word (worV t s x) := by
 unfold worV
 split
 ·exact ⟨by decide, by decide⟩
 ·exact word_mdN hx ht hs
theorem word_priN {t s x : Int} (ht : Word t) (hs : Word s) (hx : Word x) : Word (priN t s x) := by
 unfold priN
 split
 ·exact hx
 ·exact word_mdN hx hs ht
theorem sof_any (t s : Int) (w : World) :
  Calls Tryz.prog 137 #[.agg #[.int .u64 t, .int .u64 s]] w fun e w' => e = .returned (.agg #[.int .u64 t, .int .u64 s]) ∧ Ext w w' := by
 go_enter Tryz.func137, Tryz.ntmps137
 go_wp2
 go_returns
 exact ⟨rfl, zSlTba1_0⟩
theorem stold_any (t s : Int) (w : World) :
  Calls Tryz.prog 140 #[.agg #[.int .u64 t, .int .u64 s]] w fun e w' => e = .returned (.agg #[.int .u64 t, .int .u64 s]) ∧ Ext w w' := by
 go_enter Tryz.func140, Tryz.ntmps140
 go_wp2
 go_returns
 exact ⟨rfl, zSlTba1_0⟩
theorem shareST_any (a b c : Int) (ha : Word a) (hb : Word b) (hc : Word c) (w : World) :
  Calls Tryz.prog 203 #[.int .u64 a, .int .u64 b, .int .u64 c] w fun e w' => e = .returned (.tuple #[.int .u64 (mdN a b c), .int .i64 (mdE a b c)]) ∧ Ext w w' := by
 have C := fMulDiv_any a b c ha hb hc
 obtain ⟨x, hx⟩ : ∃ x, x = mdN a b c := ⟨_, rfl⟩
 have HX := hx ▸ word_mdN ha hb hc
 obtain ⟨y, hy⟩ : ∃ x, x = mdE a b c := ⟨_, rfl⟩
 rw [← hx, ← hy]
 simp only [← hx, ← hy] at C
 replace C := Lib.hid C
 clear hx hy
 obtain ⟨a1, a2⟩ := ha
 obtain ⟨b1, b2⟩ := hb
 obtain ⟨c1, c2⟩ := hc
 obtain ⟨x1, x2⟩ := HX
 go_enter Tryz.func203, Tryz.ntmps203
 go_wp2_with ((go_at_call 201; refine (C.out _).mono ?_; rintro e w1 ⟨rfl, hx1⟩; (have hs1 := hx1.size); (try simp at hs1)))
 go_ret2
 exact ⟨rfl, zSlTba1_0⟩
theorem shareTS_any (a b c : Int) (ha : Word a) (hb : Word b) (hc : Word c) (w : World) :
  Calls Tryz.prog 208 #[.int .u64 a, .int .u64 b, .int .u64 c] w fun e w' => e = .returned (.tuple #[.int .u64 (mdN a b c), .int .i64 (mdE a b c)]) ∧ Ext w w' := by
 have C := fMulDiv_any a b c ha hb hc
 obtain ⟨x, hx⟩ : ∃ x, x = mdN a b c := ⟨_, rfl⟩
 have HX := hx ▸ word_mdN ha hb hc
 obtain ⟨y, hy⟩ : ∃ x, x = mdE a b c := ⟨_, rfl⟩
 rw [← hx, ← hy]
 simp only [← hx, ← hy] at C
 replace C := Lib.hid C
 clear hx hy
 obtain ⟨a1, a2⟩ := ha
 obtain ⟨b1, b2⟩ := hb
 obtain ⟨c1, c2⟩ := hc
 obtain ⟨x1, x2⟩ := HX
 go_enter Tryz.func208, Tryz.ntmps208
 go_wp2_with ((go_at_call 201; refine (C.out _).mono ?_; rintro e w1 ⟨rfl, hx1⟩; (have hs1 := hx1.size); (try simp at hs1)))
 go_ret2
 exact ⟨rfl, zSlTba1_0⟩
theorem sumT_any (a b : Int) (ha : Word a) (hb : Word b) (w : World) :
  Calls Tryz.prog 198 #[.int .u64 a, .int .u64 b] w fun e w' => e = .returned (.tuple #[.int .u64 (addN a b), .int .i64 (addE a b)]) ∧ Ext w w' := by
 have C := fAdd_any a b ha hb
 obtain ⟨x, hx⟩ : ∃ x, x = addN a b := ⟨_, rfl⟩
 have HX := hx ▸ word_add ha hb
 obtain ⟨y, hy⟩ : ∃ x, x = addE a b := ⟨_, rfl⟩
 rw [← hx, ← hy]
 simp only [← hx, ← hy] at C
 replace C := Lib.hid C
 clear hx hy
 obtain ⟨a1, a2⟩ := ha
 obtain ⟨b1, b2⟩ := hb
 obtain ⟨x1, x2⟩ := HX
 go_enter Tryz.func198, Tryz.ntmps198
 go_wp2_with ((go_at_call 174; refine (C.out _).mono ?_; rintro e w1 ⟨rfl, hx1⟩; (have hs1 := hx1.size); (try simp at hs1)))
 go_ret2
 exact ⟨rfl, zSlTba1_0⟩
theorem sumS_any (a b : Int) (ha : Word a) (hb : Word b) (w : World) :
  Calls Tryz.prog 199 #[.int .u64 a, .int .u64 b] w fun e w' => e = .returned (.tuple #[.int .u64 (addN a b), .int .i64 (addE a b)]) ∧ Ext w w' := by
 have C := fAdd_any a b ha hb
 obtain ⟨x, hx⟩ : ∃ x, x = addN a b := ⟨_, rfl⟩
 have HX := hx ▸ word_add ha hb
 obtain ⟨y, hy⟩ : ∃ x, x = addE a b := ⟨_, rfl⟩
 rw [← hx, ← hy]
 simp only [← hx, ← hy] at C
 replace C := Lib.hid C
 clear hx hy
 obtain ⟨a1, a2⟩ := ha
 obtain ⟨b1, b2⟩ := hb
 obtain ⟨x1, x2⟩ := HX
 go_enter Tryz.func199, Tryz.ntmps199
 go_wp2_with ((go_at_call 174; refine (C.out _).mono ?_; rintro e w1 ⟨rfl, hx1⟩; (have hs1 := hx1.size); (try simp at hs1)))
 go_ret2
 exact ⟨rfl, zSlTba1_0⟩
theorem sworth_any (t s x : Int) (ht : Word t) (hs : Word s) (hx : Word x) (w : World) :
  Calls Tryz.prog 188 #[.agg #[.int .u64 t, .int .u64 s], .int .u64 x] w fun e w' => e = .returned (.int .u64 (worV t s x)) ∧ Ext w w' := by
 by_cases hz : s = 0
 ·have e : worV t s x = 0 := if_pos hz
  rw [e]
  subst hz
  clear e ht hs hx
  go_enter Tryz.func188, Tryz.ntmps188
  go_wp2
  go_ret
  exact ⟨rfl, zSlTba1_0⟩
 ·have e : worV t s x = mdN x t s := if_neg hz
  rw [e]
  clear e
  have C := Lib.hid (shareST_any x t s hx ht hs)
  have hz' : (s == 0) = false := by simpa using hz
  clear ht hs hx hz
  go_enter Tryz.func188, Tryz.ntmps188
  go_wp2_with ((go_at_call 203; refine (C.out _).mono ?_; rintro e w1 ⟨rfl, hx1⟩; (have hs1 := hx1.size); (try simp at hs1)))
  go_ret
  exact ⟨rfl, zSlTba1_0⟩
theorem sprice_any (t s a : Int) (ht : Word t) (hs : Word s) (ha : Word a) (w : World) :
  Calls Tryz.prog 197 #[.agg #[.int .u64 t, .int .u64 s], .int .u64 a] w fun e w' => e = .returned (.tuple #[.int .u64 (priN t s a), .int .i64 (priE t s a)]) ∧ Ext w w' := by
 by_cases hz : t = 0
 ·have e : priN t s a = a := if_pos hz
  have e' : priE t s a = 0 := if_pos hz
  rw [e, e']
  subst hz
  obtain ⟨a1, a2⟩ := ha
  clear e e' ht hs
  go_enter Tryz.func197, Tryz.ntmps197
  go_wp2
  go_ret2
  exact ⟨rfl, zSlTba1_0⟩
 ·have e : priN t s a = mdN a s t := if_neg hz
  have e' : priE t s a = mdE a s t := if_neg hz
  rw [e, e']
  clear e e'
  have C := Lib.hid (shareTS_any a s t ha hs ht)
  have hz' : (t == 0) = false := by simpa using hz
  obtain ⟨a1, a2⟩ := ha
  clear ht hs hz
  go_enter Tryz.func197, Tryz.ntmps197
  go_wp2_with ((go_at_call 208; refine (C.out _).mono ?_; rintro e w1 ⟨rfl, hx1⟩; (have hs1 := hx1.size); (try simp at hs1)))
  go_ret2
  exact ⟨rfl, zSlTba1_0⟩
end
section
open Go.RowKit
theorem sjoined_at (t s a n e t' f s' g V : Int) (B : Bool) (w : World)
    (C1 : Hid (∀ w, Calls Tryz.prog 197 #[.agg #[.int .u64 t, .int .u64 s], .int .u64 a] w fun r w' => r = .returned (.tuple #[.int .u64 n, .int .i64 e]) ∧ Ext w w'))
    (C2 : Hid (∀ w, Calls Tryz.prog 198 #[.int .u64 t, .int .u64 a] w fun r w' => r = .returned (.tuple #[.int .u64 t', .int .i64 f]) ∧ Ext w w'))
    (C3 : Hid (∀ w, Calls Tryz.prog 199 #[.int .u64 s, .int .u64 n] w fun r w' => r = .returned (.tuple #[.int .u64 s', .int .i64 g]) ∧ Ext w w'))
    (HV : Hid (V = firstE [if (a == 0) = true then 14 else 0, if B = true then 12 else 0]))
    (hB : (¬ e = 0 ∧ B = true) ∨ (e = 0 ∧ ¬ f = 0 ∧ B = true) ∨ (e = 0 ∧ f = 0 ∧ ¬ g = 0 ∧ B = true) ∨ (e = 0 ∧ f = 0 ∧ g = 0 ∧ B = decide (4611686018427387904 < t'))) :
    Calls Tryz.prog 175 #[.agg #[.int .u64 t, .int .u64 s], .int .u64 a] w fun r w' =>
      r = .returned (.tuple #[.agg #[.int .u64 t', .int .u64 s'], .int .u64 n, .int .i64 V]) ∧ Ext w w' := by
  rcases hB with ⟨h1, rfl⟩ | ⟨rfl, h2, rfl⟩ | ⟨rfl, rfl, h3, rfl⟩ | ⟨rfl, rfl, rfl, rfl⟩
  · go_enter Tryz.func175, Tryz.ntmps175
    go_wp2_with (first
      | (go_at_call 197; refine (C1.out _).mono ?_; rintro r w1 ⟨rfl, hx1⟩
         have hs1 := hx1.size
         simp at hs1
         have d1 : w1.cell? ⟨w.heap.size, 0, none⟩ = some (.int .u64 t) := by rw [hx1.cells.1 _ _ (by simp; omega)]; simp [go_sem]
         have d2 : w1.cell? ⟨w.heap.size, 1, none⟩ = some (.int .u64 s) := by rw [hx1.cells.1 _ _ (by simp; omega)]; simp [go_sem]
         have d3 : w1.cell? ⟨w.heap.size + 1, 0, none⟩ = some (.int .u64 0) := by rw [hx1.cells.1 _ _ (by simp)]; simp [go_sem]
         have d4 : w1.cell? ⟨w.heap.size + 1, 1, none⟩ = some (.int .u64 0) := by rw [hx1.cells.1 _ _ (by simp)]; simp [go_sem]
         have f3 : w1.frozen? ⟨w.heap.size + 1, 0, none⟩ = false := by rw [hx1.cells.2 _ _ (by simp)]; simp [go_sem]
         have f4 : w1.frozen? ⟨w.heap.size + 1, 1, none⟩ = false := by rw [hx1.cells.2 _ _ (by simp)]; simp [go_sem])
      | (go_at_call 198; refine (C2.out _).mono ?_; rintro r w2 ⟨rfl, hx2⟩
         have hs2 := hx2.size
         have d1 := (hx2.cells.1 _ _ (by omega)).trans d1
         have d2 := (hx2.cells.1 _ _ (by omega)).trans d2
         have d3 := (hx2.cells.1 _ _ (by omega)).trans d3
         have d4 := (hx2.cells.1 _ _ (by omega)).trans d4
         have f3 := (hx2.cells.2 _ _ (by omega)).trans f3
         have f4 := (hx2.cells.2 _ _ (by omega)).trans f4)
      | (go_at_call 199; refine (C3.out _).mono ?_; rintro r w3 ⟨rfl, hx3⟩
         have hs3 := hx3.size
         have q0 : w.heap.size < w3.heap.size := by omega
         have p0 : w.heap.size + 1 < w3.heap.size := by omega
         have q1 : w.heap.size < w3.heap.size + 1 := by omega
         have p1 : w.heap.size + 1 < w3.heap.size + 1 := by omega
         have q2 : w.heap.size < w3.heap.size + 1 + 1 := by omega
         have p2 : w.heap.size + 1 < w3.heap.size + 1 + 1 := by omega
         have q3 : w.heap.size < w3.heap.size + 1 + 1 + 1 := by omega
         have p3 : w.heap.size + 1 < w3.heap.size + 1 + 1 + 1 := by omega
         have q4 : w.heap.size < w3.heap.size + 1 + 1 + 1 + 1 := by omega
         have p4 : w.heap.size + 1 < w3.heap.size + 1 + 1 + 1 + 1 := by omega
         have q5 : w.heap.size < w3.heap.size + 1 + 1 + 1 + 1 + 1 := by omega
         have p5 : w.heap.size + 1 < w3.heap.size + 1 + 1 + 1 + 1 + 1 := by omega
         have d1 := (hx3.cells.1 _ _ (by omega)).trans d1
         have d2 := (hx3.cells.1 _ _ (by omega)).trans d2
         have d3 := (hx3.cells.1 _ _ (by omega)).trans d3
         have d4 := (hx3.cells.1 _ _ (by omega)).trans d4
         have f3 := (hx3.cells.2 _ _ (by omega)).trans f3
         have f4 := (hx3.cells.2 _ _ (by omega)).trans f4)
      | (go_at_call 180; refine (sso_any _ _ _).mono ?_; rintro r w4 ⟨rfl, rfl⟩)
      | (go_at_call 179
         refine (sfirst_two _ (w3.heap.size) (w3.heap.size + 1) (w3.heap.size + 1 + 1) (w3.heap.size + 1 + 1 + 1) (a == 0) true 14 12
           (by simp [go_sem]) (by simp [go_sem]) (by simp [go_sem]) (by simp [go_sem]) (by simp [go_sem]) (by simp [go_sem]) (V := V) (by have := HV.out; simpa using this)).mono ?_
         rintro r w5 ⟨rfl, rfl⟩))
    (try simp only [Exit.inBlock, Exit.then])
    refine bodyPost_ret zSlTba1_6 rfl ?_
    exact ⟨rfl, zSlTba1_0⟩
  · go_enter Tryz.func175, Tryz.ntmps175
    go_wp2_with (first
      | (go_at_call 197; refine (C1.out _).mono ?_; rintro r w1 ⟨rfl, hx1⟩
         have hs1 := hx1.size
         simp at hs1
         have d1 : w1.cell? ⟨w.heap.size, 0, none⟩ = some (.int .u64 t) := by rw [hx1.cells.1 _ _ (by simp; omega)]; simp [go_sem]
         have d2 : w1.cell? ⟨w.heap.size, 1, none⟩ = some (.int .u64 s) := by rw [hx1.cells.1 _ _ (by simp; omega)]; simp [go_sem]
         have d3 : w1.cell? ⟨w.heap.size + 1, 0, none⟩ = some (.int .u64 0) := by rw [hx1.cells.1 _ _ (by simp)]; simp [go_sem]
         have d4 : w1.cell? ⟨w.heap.size + 1, 1, none⟩ = some (.int .u64 0) := by rw [hx1.cells.1 _ _ (by simp)]; simp [go_sem]
         have f3 : w1.frozen? ⟨w.heap.size + 1, 0, none⟩ = false := by rw [hx1.cells.2 _ _ (by simp)]; simp [go_sem]
         have f4 : w1.frozen? ⟨w.heap.size + 1, 1, none⟩ = false := by rw [hx1.cells.2 _ _ (by simp)]; simp [go_sem])
      | (go_at_call 198; refine (C2.out _).mono ?_; rintro r w2 ⟨rfl, hx2⟩
         have hs2 := hx2.size
         have d1 := (hx2.cells.1 _ _ (by omega)).trans d1
         have d2 := (hx2.cells.1 _ _ (by omega)).trans d2
         have d3 := (hx2.cells.1 _ _ (by omega)).trans d3
         have d4 := (hx2.cells.1 _ _ (by omega)).trans d4
         have f3 := (hx2.cells.2 _ _ (by omega)).trans f3
         have f4 := (hx2.cells.2 _ _ (by omega)).trans f4)
      | (go_at_call 199; refine (C3.out _).mono ?_; rintro r w3 ⟨rfl, hx3⟩
         have hs3 := hx3.size
         have q0 : w.heap.size < w3.heap.size := by omega
         have p0 : w.heap.size + 1 < w3.heap.size := by omega
         have q1 : w.heap.size < w3.heap.size + 1 := by omega
         have p1 : w.heap.size + 1 < w3.heap.size + 1 := by omega
         have q2 : w.heap.size < w3.heap.size + 1 + 1 := by omega
         have p2 : w.heap.size + 1 < w3.heap.size + 1 + 1 := by omega
         have q3 : w.heap.size < w3.heap.size + 1 + 1 + 1 := by omega
         have p3 : w.heap.size + 1 < w3.heap.size + 1 + 1 + 1 := by omega
         have q4 : w.heap.size < w3.heap.size + 1 + 1 + 1 + 1 := by omega
         have p4 : w.heap.size + 1 < w3.heap.size + 1 + 1 + 1 + 1 := by omega
         have q5 : w.heap.size < w3.heap.size + 1 + 1 + 1 + 1 + 1 := by omega
         have p5 : w.heap.size + 1 < w3.heap.size + 1 + 1 + 1 + 1 + 1 := by omega
         have d1 := (hx3.cells.1 _ _ (by omega)).trans d1
         have d2 := (hx3.cells.1 _ _ (by omega)).trans d2
         have d3 := (hx3.cells.1 _ _ (by omega)).trans d3
         have d4 := (hx3.cells.1 _ _ (by omega)).trans d4
         have f3 := (hx3.cells.2 _ _ (by omega)).trans f3
         have f4 := (hx3.cells.2 _ _ (by omega)).trans f4)
      | (go_at_call 180; refine (sso_any _ _ _).mono ?_; rintro r w4 ⟨rfl, rfl⟩)
      | (go_at_call 179
         refine (sfirst_two _ (w3.heap.size) (w3.heap.size + 1) (w3.heap.size + 1 + 1) (w3.heap.size + 1 + 1 + 1) (a == 0) true 14 12
           (by simp [go_sem]) (by simp [go_sem]) (by simp [go_sem]) (by simp [go_sem]) (by simp [go_sem]) (by simp [go_sem]) (V := V) (by have := HV.out; simpa using this)).mono ?_
         rintro r w5 ⟨rfl, rfl⟩))
    (try simp only [Exit.inBlock, Exit.then])
    refine bodyPost_ret zSlTba1_6 rfl ?_
    exact ⟨rfl, zSlTba1_0⟩
  · go_enter Tryz.func175, Tryz.ntmps175
    go_wp2_with (first
      | (go_at_call 197; refine (C1.out _).mono ?_; rintro r w1 ⟨rfl, hx1⟩
         have hs1 := hx1.size
         simp at hs1
         have d1 : w1.cell? ⟨w.heap.size, 0, none⟩ = some (.int .u64 t) := by rw [hx1.cells.1 _ _ (by simp; omega)]; simp [go_sem]
         have d2 : w1.cell? ⟨w.heap.size, 1, none⟩ = some (.int .u64 s) := by rw [hx1.cells.1 _ _ (by simp; omega)]; simp [go_sem]
         have d3 : w1.cell? ⟨w.heap.size + 1, 0, none⟩ = some (.int .u64 0) := by rw [hx1.cells.1 _ _ (by simp)]; simp [go_sem]
         have d4 : w1.cell? ⟨w.heap.size + 1, 1, none⟩ = some (.int .u64 0) := by rw [hx1.cells.1 _ _ (by simp)]; simp [go_sem]
         have f3 : w1.frozen? ⟨w.heap.size + 1, 0, none⟩ = false := by rw [hx1.cells.2 _ _ (by simp)]; simp [go_sem]
         have f4 : w1.frozen? ⟨w.heap.size + 1, 1, none⟩ = false := by rw [hx1.cells.2 _ _ (by simp)]; simp [go_sem])
      | (go_at_call 198; refine (C2.out _).mono ?_; rintro r w2 ⟨rfl, hx2⟩
         have hs2 := hx2.size
         have d1 := (hx2.cells.1 _ _ (by omega)).trans d1
         have d2 := (hx2.cells.1 _ _ (by omega)).trans d2
         have d3 := (hx2.cells.1 _ _ (by omega)).trans d3
         have d4 := (hx2.cells.1 _ _ (by omega)).trans d4
         have f3 := (hx2.cells.2 _ _ (by omega)).trans f3
         have f4 := (hx2.cells.2 _ _ (by omega)).trans f4)
      | (go_at_call 199; refine (C3.out _).mono ?_; rintro r w3 ⟨rfl, hx3⟩
         have hs3 := hx3.size
         have q0 : w.heap.size < w3.heap.size := by omega
         have p0 : w.heap.size + 1 < w3.heap.size := by omega
         have q1 : w.heap.size < w3.heap.size + 1 := by omega
         have p1 : w.heap.size + 1 < w3.heap.size + 1 := by omega
         have q2 : w.heap.size < w3.heap.size + 1 + 1 := by omega
         have p2 : w.heap.size + 1 < w3.heap.size + 1 + 1 := by omega
         have q3 : w.heap.size < w3.heap.size + 1 + 1 + 1 := by omega
         have p3 : w.heap.size + 1 < w3.heap.size + 1 + 1 + 1 := by omega
         have q4 : w.heap.size < w3.heap.size + 1 + 1 + 1 + 1 := by omega
         have p4 : w.heap.size + 1 < w3.heap.size + 1 + 1 + 1 + 1 := by omega
         have q5 : w.heap.size < w3.heap.size + 1 + 1 + 1 + 1 + 1 := by omega
         have p5 : w.heap.size + 1 < w3.heap.size + 1 + 1 + 1 + 1 + 1 := by omega
         have d1 := (hx3.cells.1 _ _ (by omega)).trans d1
         have d2 := (hx3.cells.1 _ _ (by omega)).trans d2
         have d3 := (hx3.cells.1 _ _ (by omega)).trans d3
         have d4 := (hx3.cells.1 _ _ (by omega)).trans d4
         have f3 := (hx3.cells.2 _ _ (by omega)).trans f3
         have f4 := (hx3.cells.2 _ _ (by omega)).trans f4)
      | (go_at_call 180; refine (sso_any _ _ _).mono ?_; rintro r w4 ⟨rfl, rfl⟩)
      | (go_at_call 179
         refine (sfirst_two _ (w3.heap.size) (w3.heap.size + 1) (w3.heap.size + 1 + 1) (w3.heap.size + 1 + 1 + 1) (a == 0) true 14 12
           (by simp [go_sem]) (by simp [go_sem]) (by simp [go_sem]) (by simp [go_sem]) (by simp [go_sem]) (by simp [go_sem]) (V := V) (by have := HV.out; simpa using this)).mono ?_
         rintro r w5 ⟨rfl, rfl⟩))
    (try simp only [Exit.inBlock, Exit.then])
    refine bodyPost_ret zSlTba1_6 rfl ?_
    exact ⟨rfl, zSlTba1_0⟩
  · go_enter Tryz.func175, Tryz.ntmps175
    go_wp2_with (first
      | (go_at_call 197; refine (C1.out _).mono ?_; rintro r w1 ⟨rfl, hx1⟩
         have hs1 := hx1.size
         simp at hs1
         have d1 : w1.cell? ⟨w.heap.size, 0, none⟩ = some (.int .u64 t) := by rw [hx1.cells.1 _ _ (by simp; omega)]; simp [go_sem]
         have d2 : w1.cell? ⟨w.heap.size, 1, none⟩ = some (.int .u64 s) := by rw [hx1.cells.1 _ _ (by simp; omega)]; simp [go_sem]
         have d3 : w1.cell? ⟨w.heap.size + 1, 0, none⟩ = some (.int .u64 0) := by rw [hx1.cells.1 _ _ (by simp)]; simp [go_sem]
         have d4 : w1.cell? ⟨w.heap.size + 1, 1, none⟩ = some (.int .u64 0) := by rw [hx1.cells.1 _ _ (by simp)]; simp [go_sem]
         have f3 : w1.frozen? ⟨w.heap.size + 1, 0, none⟩ = false := by rw [hx1.cells.2 _ _ (by simp)]; simp [go_sem]
         have f4 : w1.frozen? ⟨w.heap.size + 1, 1, none⟩ = false := by rw [hx1.cells.2 _ _ (by simp)]; simp [go_sem])
      | (go_at_call 198; refine (C2.out _).mono ?_; rintro r w2 ⟨rfl, hx2⟩
         have hs2 := hx2.size
         have d1 := (hx2.cells.1 _ _ (by omega)).trans d1
         have d2 := (hx2.cells.1 _ _ (by omega)).trans d2
         have d3 := (hx2.cells.1 _ _ (by omega)).trans d3
         have d4 := (hx2.cells.1 _ _ (by omega)).trans d4
         have f3 := (hx2.cells.2 _ _ (by omega)).trans f3
         have f4 := (hx2.cells.2 _ _ (by omega)).trans f4)
      | (go_at_call 199; refine (C3.out _).mono ?_; rintro r w3 ⟨rfl, hx3⟩
         have hs3 := hx3.size
         have q0 : w.heap.size < w3.heap.size := by omega
         have p0 : w.heap.size + 1 < w3.heap.size := by omega
         have q1 : w.heap.size < w3.heap.size + 1 := by omega
         have p1 : w.heap.size + 1 < w3.heap.size + 1 := by omega
         have q2 : w.heap.size < w3.heap.size + 1 + 1 := by omega
         have p2 : w.heap.size + 1 < w3.heap.size + 1 + 1 := by omega
         have q3 : w.heap.size < w3.heap.size + 1 + 1 + 1 := by omega
         have p3 : w.heap.size + 1 < w3.heap.size + 1 + 1 + 1 := by omega
         have q4 : w.heap.size < w3.heap.size + 1 + 1 + 1 + 1 := by omega
         have p4 : w.heap.size + 1 < w3.heap.size + 1 + 1 + 1 + 1 := by omega
         have q5 : w.heap.size < w3.heap.size + 1 + 1 + 1 + 1 + 1 := by omega
         have p5 : w.heap.size + 1 < w3.heap.size + 1 + 1 + 1 + 1 + 1 := by omega
         have d1 := (hx3.cells.1 _ _ (by omega)).trans d1
         have d2 := (hx3.cells.1 _ _ (by omega)).trans d2
         have d3 := (hx3.cells.1 _ _ (by omega)).trans d3
         have d4 := (hx3.cells.1 _ _ (by omega)).trans d4
         have f3 := (hx3.cells.2 _ _ (by omega)).trans f3
         have f4 := (hx3.cells.2 _ _ (by omega)).trans f4)
      | (go_at_call 180; refine (sso_any _ _ _).mono ?_; rintro r w4 ⟨rfl, rfl⟩)
      | (go_at_call 179
         refine (sfirst_two _ (w3.heap.size) (w3.heap.size + 1) (w3.heap.size + 1 + 1) (w3.heap.size + 1 + 1 + 1) (a == 0) (decide (4611686018427387904 < t')) 14 12
           (by simp [go_sem]) (by simp [go_sem]) (by simp [go_sem]) (by simp [go_sem]) (by simp [go_sem]) (by simp [go_sem]) (V := V) (by have := HV.out; simpa using this)).mono ?_
         rintro r w5 ⟨rfl, rfl⟩))
    (try simp only [Exit.inBlock, Exit.then])
    refine bodyPost_ret zSlTba1_6 rfl ?_
    exact ⟨rfl, zSlTba1_0⟩
end
section
open Go.RowKit
theorem sleft_poor (t s x : Int) (h : s < x) (w : World) :
    Calls Tryz.prog 146 #[.agg #[.int .u64 t, .int .u64 s], .int .u64 x] w fun r w' => r = .returned (.tuple #[.agg #[.int .u64 t, .int .u64 s], .int .u64 0, .int .i64 13]) ∧ Ext w w' := by
  have F : (13 : Int) = firstE [if true = true then 13 else 0] := rfl
  have HF := Lib.hid F
  clear F
  go_enter Tryz.func146, Tryz.ntmps146
  go_wp2_with (first
      | (go_at_call 180; refine (sso_any _ _ _).mono ?_; rintro r w4 ⟨rfl, rfl⟩)
      | (go_at_call 179
         refine (sfirst_one _ (w.heap.size + 1 + 1) (w.heap.size + 1 + 1 + 1) true 13
           (by simp [go_sem]) (by simp [go_sem]) (by simp [go_sem]) HF.out).mono ?_
         rintro r w5 ⟨rfl, rfl⟩))
  (try simp only [Exit.inBlock, Exit.then])
  refine bodyPost_ret (by simp [results, Tryz.results146, go_sem]; try rfl) rfl ?_
  exact ⟨rfl, zSlTba1_0⟩
theorem sleft_at (t s x n V : Int) (w : World) (x0 : 0 ≤ x) (x1 : x ≤ s) (s1 : s < 18446744073709551616) (n0 : 0 ≤ n) (n1 : n ≤ t) (t1 : t < 18446744073709551616)
    (C1 : Hid (∀ w, Calls Tryz.prog 188 #[.agg #[.int .u64 t, .int .u64 s], .int .u64 x] w fun r w' => r = .returned (.int .u64 n) ∧ Ext w w'))
    (HV : Hid (V = firstE [if (n == 0) = true then 14 else 0])) :
    Calls Tryz.prog 146 #[.agg #[.int .u64 t, .int .u64 s], .int .u64 x] w fun r w' => r = .returned (.tuple #[.agg #[.int .u64 (t - n), .int .u64 (s - x)], .int .u64 n, .int .i64 V]) ∧ Ext w w' := by
  have F : (0 : Int) = firstE [if false = true then 13 else 0] := rfl
  have HF := Lib.hid F
  clear F
  have nx : ¬ s < x := by omega
  have q1 : 0 ≤ s - x := by omega
  have q2 : s - x < 18446744073709551616 := by omega
  have q3 : 0 ≤ t - n := by omega
  have e1 : IntKind.u64.wrap (t - n) = t - n := by rw [IntKind.wrap_u64]; omega
  have e2 : IntKind.u64.wrap (s - x) = s - x := by rw [IntKind.wrap_u64]; omega
  have q4 : t - n < 18446744073709551616 := by omega
  go_enter Tryz.func146, Tryz.ntmps146
  go_wp2_with (first
      | (go_at_call 180; refine (sso_any _ _ _).mono ?_; rintro r w4 ⟨rfl, rfl⟩)
      | (go_at_call 179
         refine (sfirst_one _ (w.heap.size + 1 + 1) (w.heap.size + 1 + 1 + 1) false 13
           (by simp [go_sem]) (by simp [go_sem]) (by simp [go_sem]) HF.out).mono ?_
         rintro r w5 ⟨rfl, rfl⟩)
      | (go_at_call 188; refine (C1.out _).mono ?_; rintro r w1 ⟨rfl, hx1⟩
         have hs1 := hx1.size
         simp at hs1
         have d1 : w1.cell? ⟨w.heap.size, 0, none⟩ = some (.int .u64 t) := by rw [hx1.cells.1 _ _ zSlTba1_5]; simp [go_sem]
         have d2 : w1.cell? ⟨w.heap.size, 1, none⟩ = some (.int .u64 s) := by rw [hx1.cells.1 _ _ zSlTba1_5]; simp [go_sem]
         have d3 : w1.cell? ⟨w.heap.size + 1, 0, none⟩ = some (.int .u64 0) := by rw [hx1.cells.1 _ _ zSlTba1_5]; simp [go_sem]
         have d4 : w1.cell? ⟨w.heap.size + 1, 1, none⟩ = some (.int .u64 0) := by rw [hx1.cells.1 _ _ zSlTba1_5]; simp [go_sem]
         have f3 : w1.frozen? ⟨w.heap.size + 1, 0, none⟩ = false := by rw [hx1.cells.2 _ _ zSlTba1_5]; simp [go_sem]
         have f4 : w1.frozen? ⟨w.heap.size + 1, 1, none⟩ = false := by rw [hx1.cells.2 _ _ zSlTba1_5]; simp [go_sem]))
  have q0 : w.heap.size < w1.heap.size := by omega
  have q1 : w.heap.size < w1.heap.size + 1 := by omega
  have q2 : w.heap.size < w1.heap.size + 1 + 1 := by omega
  have p0 : w.heap.size + 1 < w1.heap.size := by omega
  have p1 : w.heap.size + 1 < w1.heap.size + 1 := by omega
  have p2 : w.heap.size + 1 < w1.heap.size + 1 + 1 := by omega
  go_region_held3 (fun w' => w'.cell? ⟨w.heap.size, 0, none⟩ = some (.int .u64 t) ∧ w'.cell? ⟨w.heap.size, 1, none⟩ = some (.int .u64 s)) (first | (simp [go_sem, World.cell?_alloc_past, *]; done) | (go_split_ands <;> simp [go_sem, World.cell?_alloc_past, *]))
    (first
      | (go_at_call 180; refine (sso_any _ _ _).mono ?_; rintro r w4 ⟨rfl, rfl⟩)
      | (go_at_call 179
         refine (sfirst_one _ (w1.heap.size) (w1.heap.size + 1) (n == 0) 14
           (by simp [go_sem]) (by simp [go_sem]) (by simp [go_sem]) HV.out).mono ?_
         rintro r w5 ⟨rfl, rfl⟩))
  go_wp2
  (try simp only [Exit.inBlock, Exit.then])
  refine bodyPost_ret (by simp [results, Tryz.results146, go_sem, p0, p1, p2, d3, d4, World.cell?_alloc_past]; try rfl) rfl ?_
  exact ⟨rfl, zSlTba1_0⟩
theorem scut_bad (t s p n e : Int) (he : ¬ e = 0) (w : World)
  (C1 : Hid (∀ w, Calls Tryz.prog 181 #[.int .u64 t, .int .u64 p] w fun r w' => r = .returned (.tuple #[.int .u64 n, .int .i64 e]) ∧ Ext w w')) :
  Calls Tryz.prog 139 #[.agg #[.int .u64 t, .int .u64 s], .int .u64 p] w fun r w' => r = .returned (.tuple #[.agg #[.int .u64 t, .int .u64 s], .int .u64 0, .int .i64 e]) ∧ Ext w w' := by
 go_enter Tryz.func139, Tryz.ntmps139
 go_wp2_with (
   go_at_call 181; refine (C1.out _).mono ?_; rintro r w1 ⟨rfl, hx1⟩
   have hs1 := hx1.size
   simp at hs1
   have d1 : w1.cell? ⟨w.heap.size, 0, none⟩ = some (.int .u64 t) := by rw [hx1.cells.1 _ _ zSlTba1_5]; simp [go_sem]
   have d2 : w1.cell? ⟨w.heap.size, 1, none⟩ = some (.int .u64 s) := by rw [hx1.cells.1 _ _ zSlTba1_5]; simp [go_sem]
   have d3 : w1.cell? ⟨w.heap.size + 1, 0, none⟩ = some (.int .u64 0) := by rw [hx1.cells.1 _ _ zSlTba1_5]; simp [go_sem]
   have d4 : w1.cell? ⟨w.heap.size + 1, 1, none⟩ = some (.int .u64 0) := by rw [hx1.cells.1 _ _ zSlTba1_5]; simp [go_sem]
   have f3 : w1.frozen? ⟨w.heap.size + 1, 0, none⟩ = false := by rw [hx1.cells.2 _ _ zSlTba1_5]; simp [go_sem]
   have f4 : w1.frozen? ⟨w.heap.size + 1, 1, none⟩ = false := by rw [hx1.cells.2 _ _ zSlTba1_5]; simp [go_sem]
   have q0 : w.heap.size < w1.heap.size := by omega
   have q1 : w.heap.size < w1.heap.size + 1 := by omega
   have q2 : w.heap.size < w1.heap.size + 1 + 1 := by omega
   have p0 : w.heap.size + 1 < w1.heap.size := by omega
   have p1 : w.heap.size + 1 < w1.heap.size + 1 := by omega
   have p2 : w.heap.size + 1 < w1.heap.size + 1 + 1 := by omega
   have r0 : ¬ w.heap.size + 1 = w1.heap.size := by omega
   have r1 : ¬ w1.heap.size = w.heap.size + 1 := by omega)
 (try simp only [Exit.inBlock, Exit.then])
 refine bodyPost_ret (by simp [results, Tryz.results139, go_sem, p0, p1, p2, d1, d2, d3, d4, World.cell?_alloc_past]; try rfl) rfl ?_
 exact ⟨rfl, zSlTba1_0⟩
theorem scut_some (t s p n : Int) (w : World) (n0 : 0 ≤ n) (n1 : n ≤ t) (t1 : t < 18446744073709551616) (hz : ¬ t - n = 0)
  (C1 : Hid (∀ w, Calls Tryz.prog 181 #[.int .u64 t, .int .u64 p] w fun r w' => r = .returned (.tuple #[.int .u64 n, .int .i64 0]) ∧ Ext w w')) :
  Calls Tryz.prog 139 #[.agg #[.int .u64 t, .int .u64 s], .int .u64 p] w fun r w' => r = .returned (.tuple #[.agg #[.int .u64 (t - n), .int .u64 s], .int .u64 n, .int .i64 0]) ∧ Ext w w' := by
 have e1 : IntKind.u64.wrap (t - n) = t - n := by rw [IntKind.wrap_u64]; omega
 have hz' : (t - n == 0) = false := by simpa using hz
 go_enter Tryz.func139, Tryz.ntmps139
 go_wp2_with (
   go_at_call 181; refine (C1.out _).mono ?_; rintro r w1 ⟨rfl, hx1⟩
   have hs1 := hx1.size
   simp at hs1
   have d1 : w1.cell? ⟨w.heap.size, 0, none⟩ = some (.int .u64 t) := by rw [hx1.cells.1 _ _ zSlTba1_5]; simp [go_sem]
   have d2 : w1.cell? ⟨w.heap.size, 1, none⟩ = some (.int .u64 s) := by rw [hx1.cells.1 _ _ zSlTba1_5]; simp [go_sem]
   have d3 : w1.cell? ⟨w.heap.size + 1, 0, none⟩ = some (.int .u64 0) := by rw [hx1.cells.1 _ _ zSlTba1_5]; simp [go_sem]
   have d4 : w1.cell? ⟨w.heap.size + 1, 1, none⟩ = some (.int .u64 0) := by rw [hx1.cells.1 _ _ zSlTba1_5]; simp [go_sem]
   have f3 : w1.frozen? ⟨w.heap.size + 1, 0, none⟩ = false := by rw [hx1.cells.2 _ _ zSlTba1_5]; simp [go_sem]
   have f4 : w1.frozen? ⟨w.heap.size + 1, 1, none⟩ = false := by rw [hx1.cells.2 _ _ zSlTba1_5]; simp [go_sem]
   have q0 : w.heap.size < w1.heap.size := by omega
   have q1 : w.heap.size < w1.heap.size + 1 := by omega
   have q2 : w.heap.size < w1.heap.size + 1 + 1 := by omega
   have p0 : w.heap.size + 1 < w1.heap.size := by omega
   have p1 : w.heap.size + 1 < w1.heap.size + 1 := by omega
   have p2 : w.heap.size + 1 < w1.heap.size + 1 + 1 := by omega
   have r0 : ¬ w.heap.size + 1 = w1.heap.size := by omega
   have r1 : ¬ w1.heap.size = w.heap.size + 1 := by omega)
 (try simp only [Exit.inBlock, Exit.then])
 refine bodyPost_ret (by simp [results, Tryz.results139, go_sem, p0, p1, p2, d1, d2, d3, d4, World.cell?_alloc_past]; try rfl) rfl ?_
 exact ⟨rfl, zSlTba1_0⟩
theorem scut_all (t s p : Int) (w : World)
  (C1 : Hid (∀ w, Calls Tryz.prog 181 #[.int .u64 t, .int .u64 p] w fun r w' => r = .returned (.tuple #[.int .u64 t, .int .i64 0]) ∧ Ext w w')) :
  Calls Tryz.prog 139 #[.agg #[.int .u64 t, .int .u64 s], .int .u64 p] w fun r w' => r = .returned (.tuple #[.agg #[.int .u64 0, .int .u64 0], .int .u64 t, .int .i64 0]) ∧ Ext w w' := by
 have e1 : IntKind.u64.wrap (t - t) = 0 := by rw [IntKind.wrap_u64]; omega
 have e2 : t - t = 0 := by omega
 go_enter Tryz.func139, Tryz.ntmps139
 go_wp2_with (
   go_at_call 181; refine (C1.out _).mono ?_; rintro r w1 ⟨rfl, hx1⟩
   have hs1 := hx1.size
   simp at hs1
   have d1 : w1.cell? ⟨w.heap.size, 0, none⟩ = some (.int .u64 t) := by rw [hx1.cells.1 _ _ zSlTba1_5]; simp [go_sem]
   have d2 : w1.cell? ⟨w.heap.size, 1, none⟩ = some (.int .u64 s) := by rw [hx1.cells.1 _ _ zSlTba1_5]; simp [go_sem]
   have d3 : w1.cell? ⟨w.heap.size + 1, 0, none⟩ = some (.int .u64 0) := by rw [hx1.cells.1 _ _ zSlTba1_5]; simp [go_sem]
   have d4 : w1.cell? ⟨w.heap.size + 1, 1, none⟩ = some (.int .u64 0) := by rw [hx1.cells.1 _ _ zSlTba1_5]; simp [go_sem]
   have f3 : w1.frozen? ⟨w.heap.size + 1, 0, none⟩ = false := by rw [hx1.cells.2 _ _ zSlTba1_5]; simp [go_sem]
   have f4 : w1.frozen? ⟨w.heap.size + 1, 1, none⟩ = false := by rw [hx1.cells.2 _ _ zSlTba1_5]; simp [go_sem]
   have q0 : w.heap.size < w1.heap.size := by omega
   have q1 : w.heap.size < w1.heap.size + 1 := by omega
   have q2 : w.heap.size < w1.heap.size + 1 + 1 := by omega
   have p0 : w.heap.size + 1 < w1.heap.size := by omega
   have p1 : w.heap.size + 1 < w1.heap.size + 1 := by omega
   have p2 : w.heap.size + 1 < w1.heap.size + 1 + 1 := by omega
   have r0 : ¬ w.heap.size + 1 = w1.heap.size := by omega
   have r1 : ¬ w1.heap.size = w.heap.size + 1 := by omega)
 (try simp only [Exit.inBlock, Exit.then])
 refine bodyPost_ret (by simp [results, Tryz.results139, go_sem, p0, p1, p2, d1, d2, d3, d4, World.cell?_alloc_past]; try rfl) rfl ?_
 exact ⟨rfl, zSlTba1_0⟩
end
section
open Go.RowKit
theorem SCheck_any (t s : Int) (ht : Word t) (hs : Word s) (w : World) :
  Calls Tryz.prog 112 #[.agg #[.int .u64 t, .int .u64 s]] w fun r w' => r = .returned (.int .i64 (chkE t s)) ∧ Ext w w' := by
 have C := Lib.hid (scheck_any t s ht hs)
 clear ht hs
 go_enter Tryz.func112, Tryz.ntmps112
 go_wp2_with (first
  | (go_at_call 137; refine (sof_any _ _ _).mono ?_; rintro e w1 ⟨rfl, hx1⟩; (have hs1 := hx1.size); (try simp at hs1))
  | (go_at_call 138; refine (C.out _).mono ?_; rintro e w2 ⟨rfl, hx2⟩; (have hs2 := hx2.size); (try simp at hs2)))
 go_ret
 exact ⟨rfl, zSlTba1_0⟩
theorem SJoin_bad (t s a c : Int) (hc : ¬ c = 0) (w : World)
    (CK : Hid (∀ w, Calls Tryz.prog 138 #[.agg #[.int .u64 t, .int .u64 s]] w fun r w' => r = .returned (.int .i64 c) ∧ Ext w w')) :
    Calls Tryz.prog 128 #[.agg #[.int .u64 t, .int .u64 s], .int .u64 a] w fun r w' => r = .returned (.tuple #[.agg #[.int .u64 0, .int .u64 0], .int .u64 0, .int .i64 c]) ∧ Ext w w' := by
  go_enter Tryz.func128, Tryz.ntmps128
  go_wp2_with (first
    | (go_at_call 137; refine (sof_any _ _ _).mono ?_; rintro r w1 ⟨rfl, hx1⟩
       have hs1 := hx1.size
       simp at hs1
       have b1 : w1.cell? ⟨w.heap.size, 0, none⟩ = some (.int .u64 t) := hx1.has (by simp [go_sem])
       have b2 : w1.cell? ⟨w.heap.size, 1, none⟩ = some (.int .u64 s) := hx1.has (by simp [go_sem])
       have d3 : w1.cell? ⟨w.heap.size + 1, 0, none⟩ = some (.int .u64 0) := hx1.has (by simp [go_sem])
       have d4 : w1.cell? ⟨w.heap.size + 1, 1, none⟩ = some (.int .u64 0) := hx1.has (by simp [go_sem])
       have f3 : w1.frozen? ⟨w.heap.size + 1, 0, none⟩ = false := hx1.froz (v := .int .u64 0) (by simp [go_sem]) (by simp [go_sem])
       have f4 : w1.frozen? ⟨w.heap.size + 1, 1, none⟩ = false := hx1.froz (v := .int .u64 0) (by simp [go_sem]) (by simp [go_sem])
       have r1 : w.heap.size + 1 < w1.heap.size := by omega
       have r2 : w.heap.size + 1 < w1.heap.size + 1 := by omega
       have r3 : w.heap.size < w1.heap.size + 1 := by omega
       have r4 : w.heap.size < w1.heap.size := by omega)
    | (go_at_call 138; refine (CK.out _).mono ?_; rintro r w2 ⟨rfl, hx2⟩
       have hs2 := hx2.size
       simp at hs2
       have c1 : w2.cell? ⟨w1.heap.size, 0, none⟩ = some (.int .u64 t) := hx2.has (by simp [go_sem])
       have c2 : w2.cell? ⟨w1.heap.size, 1, none⟩ = some (.int .u64 s) := hx2.has (by simp [go_sem])
       have d3' : w2.cell? ⟨w.heap.size + 1, 0, none⟩ = some (.int .u64 0) := hx2.has zSlTba1_1
       have d4' : w2.cell? ⟨w.heap.size + 1, 1, none⟩ = some (.int .u64 0) := hx2.has zSlTba1_1
       have f3 : w2.frozen? ⟨w.heap.size + 1, 0, none⟩ = false := hx2.froz (v := .int .u64 0) zSlTba1_1 zSlTba1_2
       have f4 : w2.frozen? ⟨w.heap.size + 1, 1, none⟩ = false := hx2.froz (v := .int .u64 0) zSlTba1_1 zSlTba1_2
       have d3 := d3'
       have d4 := d4'
       clear d3' d4'
       have r1 : w.heap.size + 1 < w2.heap.size := by omega
       have r2 : w.heap.size + 1 < w2.heap.size + 1 := by omega
       have r3 : w.heap.size < w2.heap.size + 1 := by omega
       have r4 : w.heap.size < w2.heap.size := by omega))
  (try simp only [Exit.inBlock, Exit.then])
  refine bodyPost_ret (by simp [results, Tryz.results128, go_sem, r1, r2, r3, r4, d3, d4, World.cell?_alloc_past]; try rfl) rfl ?_
  exact ⟨rfl, zSlTba1_0⟩
theorem SJoin_err (t s a t' s' n e : Int) (he : ¬ e = 0) (w : World)
    (CK : Hid (∀ w, Calls Tryz.prog 138 #[.agg #[.int .u64 t, .int .u64 s]] w fun r w' => r = .returned (.int .i64 0) ∧ Ext w w'))
    (C1 : Hid (∀ w, Calls Tryz.prog 175 #[.agg #[.int .u64 t, .int .u64 s], .int .u64 a] w fun r w' => r = .returned (.tuple #[.agg #[.int .u64 t', .int .u64 s'], .int .u64 n, .int .i64 e]) ∧ Ext w w')) :
    Calls Tryz.prog 128 #[.agg #[.int .u64 t, .int .u64 s], .int .u64 a] w fun r w' => r = .returned (.tuple #[.agg #[.int .u64 0, .int .u64 0], .int .u64 0, .int .i64 e]) ∧ Ext w w' := by
  go_enter Tryz.func128, Tryz.ntmps128
  go_wp2_with (first
    | (go_at_call 137; refine (sof_any _ _ _).mono ?_; rintro r w1 ⟨rfl, hx1⟩
       have hs1 := hx1.size
       simp at hs1
       have b1 : w1.cell? ⟨w.heap.size, 0, none⟩ = some (.int .u64 t) := hx1.has (by simp [go_sem])
       have b2 : w1.cell? ⟨w.heap.size, 1, none⟩ = some (.int .u64 s) := hx1.has (by simp [go_sem])
       have d3 : w1.cell? ⟨w.heap.size + 1, 0, none⟩ = some (.int .u64 0) := hx1.has (by simp [go_sem])
       have d4 : w1.cell? ⟨w.heap.size + 1, 1, none⟩ = some (.int .u64 0) := hx1.has (by simp [go_sem])
       have f3 : w1.frozen? ⟨w.heap.size + 1, 0, none⟩ = false := hx1.froz (v := .int .u64 0) (by simp [go_sem]) (by simp [go_sem])
       have f4 : w1.frozen? ⟨w.heap.size + 1, 1, none⟩ = false := hx1.froz (v := .int .u64 0) (by simp [go_sem]) (by simp [go_sem])
       have r1 : w.heap.size + 1 < w1.heap.size := by omega
       have r2 : w.heap.size + 1 < w1.heap.size + 1 := by omega
       have r3 : w.heap.size < w1.heap.size + 1 := by omega
       have r4 : w.heap.size < w1.heap.size := by omega)
    | (go_at_call 138; refine (CK.out _).mono ?_; rintro r w2 ⟨rfl, hx2⟩
       have hs2 := hx2.size
       simp at hs2
       have c1 : w2.cell? ⟨w1.heap.size, 0, none⟩ = some (.int .u64 t) := hx2.has (by simp [go_sem])
       have c2 : w2.cell? ⟨w1.heap.size, 1, none⟩ = some (.int .u64 s) := hx2.has (by simp [go_sem])
       have d3' : w2.cell? ⟨w.heap.size + 1, 0, none⟩ = some (.int .u64 0) := hx2.has zSlTba1_1
       have d4' : w2.cell? ⟨w.heap.size + 1, 1, none⟩ = some (.int .u64 0) := hx2.has zSlTba1_1
       have f3 : w2.frozen? ⟨w.heap.size + 1, 0, none⟩ = false := hx2.froz (v := .int .u64 0) zSlTba1_1 zSlTba1_2
       have f4 : w2.frozen? ⟨w.heap.size + 1, 1, none⟩ = false := hx2.froz (v := .int .u64 0) zSlTba1_1 zSlTba1_2
       have d3 := d3'
       have d4 := d4'
       clear d3' d4'
       have r1 : w.heap.size + 1 < w2.heap.size := by omega
       have r2 : w.heap.size + 1 < w2.heap.size + 1 := by omega
       have r3 : w.heap.size < w2.heap.size + 1 := by omega
       have r4 : w.heap.size < w2.heap.size := by omega)
    | (go_at_call 175; refine (C1.out _).mono ?_; rintro r w3 ⟨rfl, hx3⟩
       have hs3 := hx3.size
       have d3' : w3.cell? ⟨w.heap.size + 1, 0, none⟩ = some (.int .u64 0) := hx3.has zSlTba1_1
       have d4' : w3.cell? ⟨w.heap.size + 1, 1, none⟩ = some (.int .u64 0) := hx3.has zSlTba1_1
       have f3 : w3.frozen? ⟨w.heap.size + 1, 0, none⟩ = false := hx3.froz (v := .int .u64 0) zSlTba1_1 zSlTba1_2
       have f4 : w3.frozen? ⟨w.heap.size + 1, 1, none⟩ = false := hx3.froz (v := .int .u64 0) zSlTba1_1 zSlTba1_2
       have d3 := d3'
       have d4 := d4'
       clear d3' d4'
       have r1 : w.heap.size + 1 < w3.heap.size := by omega
       have r2 : w.heap.size + 1 < w3.heap.size + 1 := by omega
       have r3 : w.heap.size < w3.heap.size + 1 := by omega
       have r4 : w.heap.size < w3.heap.size := by omega)
    | (go_at_call 140; refine (stold_any _ _ _).mono ?_; rintro r w4 ⟨rfl, hx4⟩
       have hs4 := hx4.size
       simp at hs4
       have d3' : w4.cell? ⟨w.heap.size + 1, 0, none⟩ = some (.int .u64 0) := hx4.has zSlTba1_1
       have d4' : w4.cell? ⟨w.heap.size + 1, 1, none⟩ = some (.int .u64 0) := hx4.has zSlTba1_1
       have f3 : w4.frozen? ⟨w.heap.size + 1, 0, none⟩ = false := hx4.froz (v := .int .u64 0) zSlTba1_1 zSlTba1_2
       have f4 : w4.frozen? ⟨w.heap.size + 1, 1, none⟩ = false := hx4.froz (v := .int .u64 0) zSlTba1_1 zSlTba1_2
       have d3 := d3'
       have d4 := d4'
       clear d3' d4'
       have r1 : w.heap.size + 1 < w4.heap.size := by omega
       have r2 : w.heap.size + 1 < w4.heap.size + 1 := by omega
       have r3 : w.heap.size < w4.heap.size + 1 := by omega
       have r4 : w.heap.size < w4.heap.size := by omega))
  (try simp only [Exit.inBlock, Exit.then])
  refine bodyPost_ret (by simp [results, Tryz.results128, go_sem, r1, r2, r3, r4, d3, d4, World.cell?_alloc_past]; try rfl) rfl ?_
  exact ⟨rfl, zSlTba1_0⟩
theorem SJoin_ok (t s a t' s' n : Int) (w : World)
    (CK : Hid (∀ w, Calls Tryz.prog 138 #[.agg #[.int .u64 t, .int .u64 s]] w fun r w' => r = .returned (.int .i64 0) ∧ Ext w w'))
    (C1 : Hid (∀ w, Calls Tryz.prog 175 #[.agg #[.int .u64 t, .int .u64 s], .int .u64 a] w fun r w' => r = .returned (.tuple #[.agg #[.int .u64 t', .int .u64 s'], .int .u64 n, .int .i64 0]) ∧ Ext w w')) :
    Calls Tryz.prog 128 #[.agg #[.int .u64 t, .int .u64 s], .int .u64 a] w fun r w' => r = .returned (.tuple #[.agg #[.int .u64 t', .int .u64 s'], .int .u64 n, .int .i64 0]) ∧ Ext w w' := by
  go_enter Tryz.func128, Tryz.ntmps128
  go_wp2_with (first
    | (go_at_call 137; refine (sof_any _ _ _).mono ?_; rintro r w1 ⟨rfl, hx1⟩
       have hs1 := hx1.size
       simp at hs1
       have b1 : w1.cell? ⟨w.heap.size, 0, none⟩ = some (.int .u64 t) := hx1.has (by simp [go_sem])
       have b2 : w1.cell? ⟨w.heap.size, 1, none⟩ = some (.int .u64 s) := hx1.has (by simp [go_sem])
       have d3 : w1.cell? ⟨w.heap.size + 1, 0, none⟩ = some (.int .u64 0) := hx1.has (by simp [go_sem])
       have d4 : w1.cell? ⟨w.heap.size + 1, 1, none⟩ = some (.int .u64 0) := hx1.has (by simp [go_sem])
       have f3 : w1.frozen? ⟨w.heap.size + 1, 0, none⟩ = false := hx1.froz (v := .int .u64 0) (by simp [go_sem]) (by simp [go_sem])
       have f4 : w1.frozen? ⟨w.heap.size + 1, 1, none⟩ = false := hx1.froz (v := .int .u64 0) (by simp [go_sem]) (by simp [go_sem])
       have r1 : w.heap.size + 1 < w1.heap.size := by omega
       have r2 : w.heap.size + 1 < w1.heap.size + 1 := by omega
       have r3 : w.heap.size < w1.heap.size + 1 := by omega
       have r4 : w.heap.size < w1.heap.size := by omega)
    | (go_at_call 138; refine (CK.out _).mono ?_; rintro r w2 ⟨rfl, hx2⟩
       have hs2 := hx2.size
       simp at hs2
       have c1 : w2.cell? ⟨w1.heap.size, 0, none⟩ = some (.int .u64 t) := hx2.has (by simp [go_sem])
       have c2 : w2.cell? ⟨w1.heap.size, 1, none⟩ = some (.int .u64 s) := hx2.has (by simp [go_sem])
       have d3' : w2.cell? ⟨w.heap.size + 1, 0, none⟩ = some (.int .u64 0) := hx2.has zSlTba1_1
       have d4' : w2.cell? ⟨w.heap.size + 1, 1, none⟩ = some (.int .u64 0) := hx2.has zSlTba1_1
       have f3 : w2.frozen? ⟨w.heap.size + 1, 0, none⟩ = false := hx2.froz (v := .int .u64 0) zSlTba1_1 zSlTba1_2
       have f4 : w2.frozen? ⟨w.heap.size + 1, 1, none⟩ = false := hx2.froz (v := .int .u64 0) zSlTba1_1 zSlTba1_2
       have d3 := d3'
       have d4 := d4'
       clear d3' d4'
       have r1 : w.heap.size + 1 < w2.heap.size := by omega
       have r2 : w.heap.size + 1 < w2.heap.size + 1 := by omega
       have r3 : w.heap.size < w2.heap.size + 1 := by omega
       have r4 : w.heap.size < w2.heap.size := by omega)
    | (go_at_call 175; refine (C1.out _).mono ?_; rintro r w3 ⟨rfl, hx3⟩
       have hs3 := hx3.size
       have d3' : w3.cell? ⟨w.heap.size + 1, 0, none⟩ = some (.int .u64 0) := hx3.has zSlTba1_1
       have d4' : w3.cell? ⟨w.heap.size + 1, 1, none⟩ = some (.int .u64 0) := hx3.has zSlTba1_1
       have f3 : w3.frozen? ⟨w.heap.size + 1, 0, none⟩ = false := hx3.froz (v := .int .u64 0) zSlTba1_1 zSlTba1_2
       have f4 : w3.frozen? ⟨w.heap.size + 1, 1, none⟩ = false := hx3.froz (v := .int .u64 0) zSlTba1_1 zSlTba1_2
       have d3 := d3'
       have d4 := d4'
       clear d3' d4'
       have r1 : w.heap.size + 1 < w3.heap.size := by omega
       have r2 : w.heap.size + 1 < w3.heap.size + 1 := by omega
       have r3 : w.heap.size < w3.heap.size + 1 := by omega
       have r4 : w.heap.size < w3.heap.size := by omega)
    | (go_at_call 140; refine (stold_any _ _ _).mono ?_; rintro r w4 ⟨rfl, hx4⟩
       have hs4 := hx4.size
       simp at hs4
       have d3' : w4.cell? ⟨w.heap.size + 1, 0, none⟩ = some (.int .u64 0) := hx4.has zSlTba1_1
       have d4' : w4.cell? ⟨w.heap.size + 1, 1, none⟩ = some (.int .u64 0) := hx4.has zSlTba1_1
       have f3 : w4.frozen? ⟨w.heap.size + 1, 0, none⟩ = false := hx4.froz (v := .int .u64 0) zSlTba1_1 zSlTba1_2
       have f4 : w4.frozen? ⟨w.heap.size + 1, 1, none⟩ = false := hx4.froz (v := .int .u64 0) zSlTba1_1 zSlTba1_2
       have d3 := d3'
       have d4 := d4'
       clear d3' d4'
       have r1 : w.heap.size + 1 < w4.heap.size := by omega
       have r2 : w.heap.size + 1 < w4.heap.size + 1 := by omega
       have r3 : w.heap.size < w4.heap.size + 1 := by omega
       have r4 : w.heap.size < w4.heap.size := by omega))
  (try simp only [Exit.inBlock, Exit.then])
  refine bodyPost_ret (by simp [results, Tryz.results128, go_sem, r1, r2, r3, r4, d3, d4, World.cell?_alloc_past]; try rfl) rfl ?_
  exact ⟨rfl, zSlTba1_0⟩
theorem SLeave_bad (t s a c : Int) (hc : ¬ c = 0) (w : World)
    (CK : Hid (∀ w, Calls Tryz.prog 138 #[.agg #[.int .u64 t, .int .u64 s]] w fun r w' => r = .returned (.int .i64 c) ∧ Ext w w')) :
    Calls Tryz.prog 79 #[.agg #[.int .u64 t, .int .u64 s], .int .u64 a] w fun r w' => r = .returned (.tuple #[.agg #[.int .u64 0, .int .u64 0], .int .u64 0, .int .i64 c]) ∧ Ext w w' := by
  go_enter Tryz.func79, Tryz.ntmps79
  go_wp2_with (first
    | (go_at_call 137; refine (sof_any _ _ _).mono ?_; rintro r w1 ⟨rfl, hx1⟩
       have hs1 := hx1.size
       simp at hs1
       have b1 : w1.cell? ⟨w.heap.size, 0, none⟩ = some (.int .u64 t) := hx1.has (by simp [go_sem])
       have b2 : w1.cell? ⟨w.heap.size, 1, none⟩ = some (.int .u64 s) := hx1.has (by simp [go_sem])
       have d3 : w1.cell? ⟨w.heap.size + 1, 0, none⟩ = some (.int .u64 0) := hx1.has (by simp [go_sem])
       have d4 : w1.cell? ⟨w.heap.size + 1, 1, none⟩ = some (.int .u64 0) := hx1.has (by simp [go_sem])
       have f3 : w1.frozen? ⟨w.heap.size + 1, 0, none⟩ = false := hx1.froz (v := .int .u64 0) (by simp [go_sem]) (by simp [go_sem])
       have f4 : w1.frozen? ⟨w.heap.size + 1, 1, none⟩ = false := hx1.froz (v := .int .u64 0) (by simp [go_sem]) (by simp [go_sem])
       have r1 : w.heap.size + 1 < w1.heap.size := by omega
       have r2 : w.heap.size + 1 < w1.heap.size + 1 := by omega
       have r3 : w.heap.size < w1.heap.size + 1 := by omega
       have r4 : w.heap.size < w1.heap.size := by omega)
    | (go_at_call 138; refine (CK.out _).mono ?_; rintro r w2 ⟨rfl, hx2⟩
       have hs2 := hx2.size
       simp at hs2
       have c1 : w2.cell? ⟨w1.heap.size, 0, none⟩ = some (.int .u64 t) := hx2.has (by simp [go_sem])
       have c2 : w2.cell? ⟨w1.heap.size, 1, none⟩ = some (.int .u64 s) := hx2.has (by simp [go_sem])
       have d3' : w2.cell? ⟨w.heap.size + 1, 0, none⟩ = some (.int .u64 0) := hx2.has zSlTba1_1
       have d4' : w2.cell? ⟨w.heap.size + 1, 1, none⟩ = some (.int .u64 0) := hx2.has zSlTba1_1
       have f3 : w2.frozen? ⟨w.heap.size + 1, 0, none⟩ = false := hx2.froz (v := .int .u64 0) zSlTba1_1 zSlTba1_2
       have f4 : w2.frozen? ⟨w.heap.size + 1, 1, none⟩ = false := hx2.froz (v := .int .u64 0) zSlTba1_1 zSlTba1_2
       have d3 := d3'
       have d4 := d4'
       clear d3' d4'
       have r1 : w.heap.size + 1 < w2.heap.size := by omega
       have r2 : w.heap.size + 1 < w2.heap.size + 1 := by omega
       have r3 : w.heap.size < w2.heap.size + 1 := by omega
       have r4 : w.heap.size < w2.heap.size := by omega))
  (try simp only [Exit.inBlock, Exit.then])
  refine bodyPost_ret (by simp [results, Tryz.results79, go_sem, r1, r2, r3, r4, d3, d4, World.cell?_alloc_past]; try rfl) rfl ?_
  exact ⟨rfl, zSlTba1_0⟩
theorem SLeave_err (t s a t' s' n e : Int) (he : ¬ e = 0) (w : World)
    (CK : Hid (∀ w, Calls Tryz.prog 138 #[.agg #[.int .u64 t, .int .u64 s]] w fun r w' => r = .returned (.int .i64 0) ∧ Ext w w'))
    (C1 : Hid (∀ w, Calls Tryz.prog 146 #[.agg #[.int .u64 t, .int .u64 s], .int .u64 a] w fun r w' => r = .returned (.tuple #[.agg #[.int .u64 t', .int .u64 s'], .int .u64 n, .int .i64 e]) ∧ Ext w w')) :
    Calls Tryz.prog 79 #[.agg #[.int .u64 t, .int .u64 s], .int .u64 a] w fun r w' => r = .returned (.tuple #[.agg #[.int .u64 0, .int .u64 0], .int .u64 0, .int .i64 e]) ∧ Ext w w' := by
  go_enter Tryz.func79, Tryz.ntmps79
  go_wp2_with (first
    | (go_at_call 137; refine (sof_any _ _ _).mono ?_; rintro r w1 ⟨rfl, hx1⟩
       have hs1 := hx1.size
       simp at hs1
       have b1 : w1.cell? ⟨w.heap.size, 0, none⟩ = some (.int .u64 t) := hx1.has (by simp [go_sem])
       have b2 : w1.cell? ⟨w.heap.size, 1, none⟩ = some (.int .u64 s) := hx1.has (by simp [go_sem])
       have d3 : w1.cell? ⟨w.heap.size + 1, 0, none⟩ = some (.int .u64 0) := hx1.has (by simp [go_sem])
       have d4 : w1.cell? ⟨w.heap.size + 1, 1, none⟩ = some (.int .u64 0) := hx1.has (by simp [go_sem])
       have f3 : w1.frozen? ⟨w.heap.size + 1, 0, none⟩ = false := hx1.froz (v := .int .u64 0) (by simp [go_sem]) (by simp [go_sem])
       have f4 : w1.frozen? ⟨w.heap.size + 1, 1, none⟩ = false := hx1.froz (v := .int .u64 0) (by simp [go_sem]) (by simp [go_sem])
       have r1 : w.heap.size + 1 < w1.heap.size := by omega
       have r2 : w.heap.size + 1 < w1.heap.size + 1 := by omega
       have r3 : w.heap.size < w1.heap.size + 1 := by omega
       have r4 : w.heap.size < w1.heap.size := by omega)
    | (go_at_call 138; refine (CK.out _).mono ?_; rintro r w2 ⟨rfl, hx2⟩
       have hs2 := hx2.size
       simp at hs2
       have c1 : w2.cell? ⟨w1.heap.size, 0, none⟩ = some (.int .u64 t) := hx2.has (by simp [go_sem])
       have c2 : w2.cell? ⟨w1.heap.size, 1, none⟩ = some (.int .u64 s) := hx2.has (by simp [go_sem])
       have d3' : w2.cell? ⟨w.heap.size + 1, 0, none⟩ = some (.int .u64 0) := hx2.has zSlTba1_1
       have d4' : w2.cell? ⟨w.heap.size + 1, 1, none⟩ = some (.int .u64 0) := hx2.has zSlTba1_1
       have f3 : w2.frozen? ⟨w.heap.size + 1, 0, none⟩ = false := hx2.froz (v := .int .u64 0) zSlTba1_1 zSlTba1_2
       have f4 : w2.frozen? ⟨w.heap.size + 1, 1, none⟩ = false := hx2.froz (v := .int .u64 0) zSlTba1_1 zSlTba1_2
       have d3 := d3'
       have d4 := d4'
       clear d3' d4'
       have r1 : w.heap.size + 1 < w2.heap.size := by omega
       have r2 : w.heap.size + 1 < w2.heap.size + 1 := by omega
       have r3 : w.heap.size < w2.heap.size + 1 := by omega
       have r4 : w.heap.size < w2.heap.size := by omega)
    | (go_at_call 146; refine (C1.out _).mono ?_; rintro r w3 ⟨rfl, hx3⟩
       have hs3 := hx3.size
       have d3' : w3.cell? ⟨w.heap.size + 1, 0, none⟩ = some (.int .u64 0) := hx3.has zSlTba1_1
       have d4' : w3.cell? ⟨w.heap.size + 1, 1, none⟩ = some (.int .u64 0) := hx3.has zSlTba1_1
       have f3 : w3.frozen? ⟨w.heap.size + 1, 0, none⟩ = false := hx3.froz (v := .int .u64 0) zSlTba1_1 zSlTba1_2
       have f4 : w3.frozen? ⟨w.heap.size + 1, 1, none⟩ = false := hx3.froz (v := .int .u64 0) zSlTba1_1 zSlTba1_2
       have d3 := d3'
       have d4 := d4'
       clear d3' d4'
       have r1 : w.heap.size + 1 < w3.heap.size := by omega
       have r2 : w.heap.size + 1 < w3.heap.size + 1 := by omega
       have r3 : w.heap.size < w3.heap.size + 1 := by omega
       have r4 : w.heap.size < w3.heap.size := by omega)
    | (go_at_call 140; refine (stold_any _ _ _).mono ?_; rintro r w4 ⟨rfl, hx4⟩
       have hs4 := hx4.size
       simp at hs4
       have d3' : w4.cell? ⟨w.heap.size + 1, 0, none⟩ = some (.int .u64 0) := hx4.has zSlTba1_1
       have d4' : w4.cell? ⟨w.heap.size + 1, 1, none⟩ = some (.int .u64 0) := hx4.has zSlTba1_1
       have f3 : w4.frozen? ⟨w.heap.size + 1, 0, none⟩ = false := hx4.froz (v := .int .u64 0) zSlTba1_1 zSlTba1_2
       have f4 : w4.frozen? ⟨w.heap.size + 1, 1, none⟩ = false := hx4.froz (v := .int .u64 0) zSlTba1_1 zSlTba1_2
       have d3 := d3'
       have d4 := d4'
       clear d3' d4'
       have r1 : w.heap.size + 1 < w4.heap.size := by omega
       have r2 : w.heap.size + 1 < w4.heap.size + 1 := by omega
       have r3 : w.heap.size < w4.heap.size + 1 := by omega
       have r4 : w.heap.size < w4.heap.size := by omega))
  (try simp only [Exit.inBlock, Exit.then])
  refine bodyPost_ret (by simp [results, Tryz.results79, go_sem, r1, r2, r3, r4, d3, d4, World.cell?_alloc_past]; try rfl) rfl ?_
  exact ⟨rfl, zSlTba1_0⟩
theorem SLeave_ok (t s a t' s' n : Int) (w : World)
    (CK : Hid (∀ w, Calls Tryz.prog 138 #[.agg #[.int .u64 t, .int .u64 s]] w fun r w' => r = .returned (.int .i64 0) ∧ Ext w w'))
    (C1 : Hid (∀ w, Calls Tryz.prog 146 #[.agg #[.int .u64 t, .int .u64 s], .int .u64 a] w fun r w' => r = .returned (.tuple #[.agg #[.int .u64 t', .int .u64 s'], .int .u64 n, .int .i64 0]) ∧ Ext w w')) :
    Calls Tryz.prog 79 #[.agg #[.int .u64 t, .int .u64 s], .int .u64 a] w fun r w' => r = .returned (.tuple #[.agg #[.int .u64 t', .int .u64 s'], .int .u64 n, .int .i64 0]) ∧ Ext w w' := by
  go_enter Tryz.func79, Tryz.ntmps79
  go_wp2_with (first
    | (go_at_call 137; refine (sof_any _ _ _).mono ?_; rintro r w1 ⟨rfl, hx1⟩
       have hs1 := hx1.size
       simp at hs1
       have b1 : w1.cell? ⟨w.heap.size, 0, none⟩ = some (.int .u64 t) := hx1.has (by simp [go_sem])
       have b2 : w1.cell? ⟨w.heap.size, 1, none⟩ = some (.int .u64 s) := hx1.has (by simp [go_sem])
       have d3 : w1.cell? ⟨w.heap.size + 1, 0, none⟩ = some (.int .u64 0) := hx1.has (by simp [go_sem])
       have d4 : w1.cell? ⟨w.heap.size + 1, 1, none⟩ = some (.int .u64 0) := hx1.has (by simp [go_sem])
       have f3 : w1.frozen? ⟨w.heap.size + 1, 0, none⟩ = false := hx1.froz (v := .int .u64 0) (by simp [go_sem]) (by simp [go_sem])
       have f4 : w1.frozen? ⟨w.heap.size + 1, 1, none⟩ = false := hx1.froz (v := .int .u64 0) (by simp [go_sem]) (by simp [go_sem])
       have r1 : w.heap.size + 1 < w1.heap.size := by omega
       have r2 : w.heap.size + 1 < w1.heap.size + 1 := by omega
       have r3 : w.heap.size < w1.heap.size + 1 := by omega
       have r4 : w.heap.size < w1.heap.size := by omega)
    | (go_at_call 138; refine (CK.out _).mono ?_; rintro r w2 ⟨rfl, hx2⟩
       have hs2 := hx2.size
       simp at hs2
       have c1 : w2.cell? ⟨w1.heap.size, 0, none⟩ = some (.int .u64 t) := hx2.has (by simp [go_sem])
       have c2 : w2.cell? ⟨w1.heap.size, 1, none⟩ = some (.int .u64 s) := hx2.has (by simp [go_sem])
       have d3' : w2.cell? ⟨w.heap.size + 1, 0, none⟩ = some (.int .u64 0) := hx2.has zSlTba1_1
       have d4' : w2.cell? ⟨w.heap.size + 1, 1, none⟩ = some (.int .u64 0) := hx2.has zSlTba1_1
       have f3 : w2.frozen? ⟨w.heap.size + 1, 0, none⟩ = false := hx2.froz (v := .int .u64 0) zSlTba1_1 zSlTba1_2
       have f4 : w2.frozen? ⟨w.heap.size + 1, 1, none⟩ = false := hx2.froz (v := .int .u64 0) zSlTba1_1 zSlTba1_2
       have d3 := d3'
       have d4 := d4'
       clear d3' d4'
       have r1 : w.heap.size + 1 < w2.heap.size := by omega
       have r2 : w.heap.size + 1 < w2.heap.size + 1 := by omega
       have r3 : w.heap.size < w2.heap.size + 1 := by omega
       have r4 : w.heap.size < w2.heap.size := by omega)
    | (go_at_call 146; refine (C1.out _).mono ?_; rintro r w3 ⟨rfl, hx3⟩
       have hs3 := hx3.size
       have d3' : w3.cell? ⟨w.heap.size + 1, 0, none⟩ = some (.int .u64 0) := hx3.has zSlTba1_1
       have d4' : w3.cell? ⟨w.heap.size + 1, 1, none⟩ = some (.int .u64 0) := hx3.has zSlTba1_1
       have f3 : w3.frozen? ⟨w.heap.size + 1, 0, none⟩ = false := hx3.froz (v := .int .u64 0) zSlTba1_1 zSlTba1_2
       have f4 : w3.frozen? ⟨w.heap.size + 1, 1, none⟩ = false := hx3.froz (v := .int .u64 0) zSlTba1_1 zSlTba1_2
       have d3 := d3'
       have d4 := d4'
       clear d3' d4'
       have r1 : w.heap.size + 1 < w3.heap.size := by omega
       have r2 : w.heap.size + 1 < w3.heap.size + 1 := by omega
       have r3 : w.heap.size < w3.heap.size + 1 := by omega
       have r4 : w.heap.size < w3.heap.size := by omega)
    | (go_at_call 140; refine (stold_any _ _ _).mono ?_; rintro r w4 ⟨rfl, hx4⟩
       have hs4 := hx4.size
       simp at hs4
       have d3' : w4.cell? ⟨w.heap.size + 1, 0, none⟩ = some (.int .u64 0) := hx4.has zSlTba1_1
       have d4' : w4.cell? ⟨w.heap.size + 1, 1, none⟩ = some (.int .u64 0) := hx4.has zSlTba1_1
       have f3 : w4.frozen? ⟨w.heap.size + 1, 0, none⟩ = false := hx4.froz (v := .int .u64 0) zSlTba1_1 zSlTba1_2
       have f4 : w4.frozen? ⟨w.heap.size + 1, 1, none⟩ = false := hx4.froz (v := .int .u64 0) zSlTba1_1 zSlTba1_2
       have d3 := d3'
       have d4 := d4'
       clear d3' d4'
       have r1 : w.heap.size + 1 < w4.heap.size := by omega
       have r2 : w.heap.size + 1 < w4.heap.size + 1 := by omega
       have r3 : w.heap.size < w4.heap.size + 1 := by omega
       have r4 : w.heap.size < w4.heap.size := by omega))
  (try simp only [Exit.inBlock, Exit.then])
  refine bodyPost_ret (by simp [results, Tryz.results79, go_sem, r1, r2, r3, r4, d3, d4, World.cell?_alloc_past]; try rfl) rfl ?_
  exact ⟨rfl, zSlTba1_0⟩
theorem SCut_bad (t s a c : Int) (hc : ¬ c = 0) (w : World)
    (CK : Hid (∀ w, Calls Tryz.prog 138 #[.agg #[.int .u64 t, .int .u64 s]] w fun r w' => r = .returned (.int .i64 c) ∧ Ext w w')) :
    Calls Tryz.prog 74 #[.agg #[.int .u64 t, .int .u64 s], .int .u64 a] w fun r w' => r = .returned (.tuple #[.agg #[.int .u64 0, .int .u64 0], .int .u64 0, .int .i64 c]) ∧ Ext w w' := by
  go_enter Tryz.func74, Tryz.ntmps74
  go_wp2_with (first
    | (go_at_call 137; refine (sof_any _ _ _).mono ?_; rintro r w1 ⟨rfl, hx1⟩
       have hs1 := hx1.size
       simp at hs1
       have b1 : w1.cell? ⟨w.heap.size, 0, none⟩ = some (.int .u64 t) := hx1.has (by simp [go_sem])
       have b2 : w1.cell? ⟨w.heap.size, 1, none⟩ = some (.int .u64 s) := hx1.has (by simp [go_sem])
       have d3 : w1.cell? ⟨w.heap.size + 1, 0, none⟩ = some (.int .u64 0) := hx1.has (by simp [go_sem])
       have d4 : w1.cell? ⟨w.heap.size + 1, 1, none⟩ = some (.int .u64 0) := hx1.has (by simp [go_sem])
       have f3 : w1.frozen? ⟨w.heap.size + 1, 0, none⟩ = false := hx1.froz (v := .int .u64 0) (by simp [go_sem]) (by simp [go_sem])
       have f4 : w1.frozen? ⟨w.heap.size + 1, 1, none⟩ = false := hx1.froz (v := .int .u64 0) (by simp [go_sem]) (by simp [go_sem])
       have r1 : w.heap.size + 1 < w1.heap.size := by omega
       have r2 : w.heap.size + 1 < w1.heap.size + 1 := by omega
       have r3 : w.heap.size < w1.heap.size + 1 := by omega
       have r4 : w.heap.size < w1.heap.size := by omega)
    | (go_at_call 138; refine (CK.out _).mono ?_; rintro r w2 ⟨rfl, hx2⟩
       have hs2 := hx2.size
       simp at hs2
       have c1 : w2.cell? ⟨w1.heap.size, 0, none⟩ = some (.int .u64 t) := hx2.has (by simp [go_sem])
       have c2 : w2.cell? ⟨w1.heap.size, 1, none⟩ = some (.int .u64 s) := hx2.has (by simp [go_sem])
       have d3' : w2.cell? ⟨w.heap.size + 1, 0, none⟩ = some (.int .u64 0) := hx2.has zSlTba1_1
       have d4' : w2.cell? ⟨w.heap.size + 1, 1, none⟩ = some (.int .u64 0) := hx2.has zSlTba1_1
       have f3 : w2.frozen? ⟨w.heap.size + 1, 0, none⟩ = false := hx2.froz (v := .int .u64 0) zSlTba1_1 zSlTba1_2
       have f4 : w2.frozen? ⟨w.heap.size + 1, 1, none⟩ = false := hx2.froz (v := .int .u64 0) zSlTba1_1 zSlTba1_2
       have d3 := d3'
       have d4 := d4'
       clear d3' d4'
       have r1 : w.heap.size + 1 < w2.heap.size := by omega
       have r2 : w.heap.size + 1 < w2.heap.size + 1 := by omega
       have r3 : w.heap.size < w2.heap.size + 1 := by omega
       have r4 : w.heap.size < w2.heap.size := by omega))
  (try simp only [Exit.inBlock, Exit.then])
  refine bodyPost_ret (by simp [results, Tryz.results74, go_sem, r1, r2, r3, r4, d3, d4, World.cell?_alloc_past]; try rfl) rfl ?_
  exact ⟨rfl, zSlTba1_0⟩
theorem SCut_err (t s a t' s' n e : Int) (he : ¬ e = 0) (w : World)
    (CK : Hid (∀ w, Calls Tryz.prog 138 #[.agg #[.int .u64 t, .int .u64 s]] w fun r w' => r = .returned (.int .i64 0) ∧ Ext w w'))
    (C1 : Hid (∀ w, Calls Tryz.prog 139 #[.agg #[.int .u64 t, .int .u64 s], .int .u64 a] w fun r w' => r = .returned (.tuple #[.agg #[.int .u64 t', .int .u64 s'], .int .u64 n, .int .i64 e]) ∧ Ext w w')) :
    Calls Tryz.prog 74 #[.agg #[.int .u64 t, .int .u64 s], .int .u64 a] w fun r w' => r = .returned (.tuple #[.agg #[.int .u64 0, .int .u64 0], .int .u64 0, .int .i64 e]) ∧ Ext w w' := by
  go_enter Tryz.func74, Tryz.ntmps74
  go_wp2_with (first
    | (go_at_call 137; refine (sof_any _ _ _).mono ?_; rintro r w1 ⟨rfl, hx1⟩
       have hs1 := hx1.size
       simp at hs1
       have b1 : w1.cell? ⟨w.heap.size, 0, none⟩ = some (.int .u64 t) := hx1.has (by simp [go_sem])
       have b2 : w1.cell? ⟨w.heap.size, 1, none⟩ = some (.int .u64 s) := hx1.has (by simp [go_sem])
       have d3 : w1.cell? ⟨w.heap.size + 1, 0, none⟩ = some (.int .u64 0) := hx1.has (by simp [go_sem])
       have d4 : w1.cell? ⟨w.heap.size + 1, 1, none⟩ = some (.int .u64 0) := hx1.has (by simp [go_sem])
       have f3 : w1.frozen? ⟨w.heap.size + 1, 0, none⟩ = false := hx1.froz (v := .int .u64 0) (by simp [go_sem]) (by simp [go_sem])
       have f4 : w1.frozen? ⟨w.heap.size + 1, 1, none⟩ = false := hx1.froz (v := .int .u64 0) (by simp [go_sem]) (by simp [go_sem])
       have r1 : w.heap.size + 1 < w1.heap.size := by omega
       have r2 : w.heap.size + 1 < w1.heap.size + 1 := by omega
       have r3 : w.heap.size < w1.heap.size + 1 := by omega
       have r4 : w.heap.size < w1.heap.size := by omega)
    | (go_at_call 138; refine (CK.out _).mono ?_; rintro r w2 ⟨rfl, hx2⟩
       have hs2 := hx2.size
       simp at hs2
       have c1 : w2.cell? ⟨w1.heap.size, 0, none⟩ = some (.int .u64 t) := hx2.has (by simp [go_sem])
       have c2 : w2.cell? ⟨w1.heap.size, 1, none⟩ = some (.int .u64 s) := hx2.has (by simp [go_sem])
       have d3' : w2.cell? ⟨w.heap.size + 1, 0, none⟩ = some (.int .u64 0) := hx2.has zSlTba1_1
       have d4' : w2.cell? ⟨w.heap.size + 1, 1, none⟩ = some (.int .u64 0) := hx2.has zSlTba1_1
       have f3 : w2.frozen? ⟨w.heap.size + 1, 0, none⟩ = false := hx2.froz (v := .int .u64 0) zSlTba1_1 zSlTba1_2
       have f4 : w2.frozen? ⟨w.heap.size + 1, 1, none⟩ = false := hx2.froz (v := .int .u64 0) zSlTba1_1 zSlTba1_2
       have d3 := d3'
       have d4 := d4'
       clear d3' d4'
       have r1 : w.heap.size + 1 < w2.heap.size := by omega
       have r2 : w.heap.size + 1 < w2.heap.size + 1 := by omega
       have r3 : w.heap.size < w2.heap.size + 1 := by omega
       have r4 : w.heap.size < w2.heap.size := by omega)
    | (go_at_call 139; refine (C1.out _).mono ?_; rintro r w3 ⟨rfl, hx3⟩
       have hs3 := hx3.size
       have d3' : w3.cell? ⟨w.heap.size + 1, 0, none⟩ = some (.int .u64 0) := hx3.has zSlTba1_1
       have d4' : w3.cell? ⟨w.heap.size + 1, 1, none⟩ = some (.int .u64 0) := hx3.has zSlTba1_1
       have f3 : w3.frozen? ⟨w.heap.size + 1, 0, none⟩ = false := hx3.froz (v := .int .u64 0) zSlTba1_1 zSlTba1_2
       have f4 : w3.frozen? ⟨w.heap.size + 1, 1, none⟩ = false := hx3.froz (v := .int .u64 0) zSlTba1_1 zSlTba1_2
       have d3 := d3'
       have d4 := d4'
       clear d3' d4'
       have r1 : w.heap.size + 1 < w3.heap.size := by omega
       have r2 : w.heap.size + 1 < w3.heap.size + 1 := by omega
       have r3 : w.heap.size < w3.heap.size + 1 := by omega
       have r4 : w.heap.size < w3.heap.size := by omega)
    | (go_at_call 140; refine (stold_any _ _ _).mono ?_; rintro r w4 ⟨rfl, hx4⟩
       have hs4 := hx4.size
       simp at hs4
       have d3' : w4.cell? ⟨w.heap.size + 1, 0, none⟩ = some (.int .u64 0) := hx4.has zSlTba1_1
       have d4' : w4.cell? ⟨w.heap.size + 1, 1, none⟩ = some (.int .u64 0) := hx4.has zSlTba1_1
       have f3 : w4.frozen? ⟨w.heap.size + 1, 0, none⟩ = false := hx4.froz (v := .int .u64 0) zSlTba1_1 zSlTba1_2
       have f4 : w4.frozen? ⟨w.heap.size + 1, 1, none⟩ = false := hx4.froz (v := .int .u64 0) zSlTba1_1 zSlTba1_2
       have d3 := d3'
       have d4 := d4'
       clear d3' d4'
       have r1 : w.heap.size + 1 < w4.heap.size := by omega
       have r2 : w.heap.size + 1 < w4.heap.size + 1 := by omega
       have r3 : w.heap.size < w4.heap.size + 1 := by omega
       have r4 : w.heap.size < w4.heap.size := by omega))
  (try simp only [Exit.inBlock, Exit.then])
  refine bodyPost_ret (by simp [results, Tryz.results74, go_sem, r1, r2, r3, r4, d3, d4, World.cell?_alloc_past]; try rfl) rfl ?_
  exact ⟨rfl, zSlTba1_0⟩
theorem SCut_ok (t s a t' s' n : Int) (w : World)
    (CK : Hid (∀ w, Calls Tryz.prog 138 #[.agg #[.int .u64 t, .int .u64 s]] w fun r w' => r = .returned (.int .i64 0) ∧ Ext w w'))
    (C1 : Hid (∀ w, Calls Tryz.prog 139 #[.agg #[.int .u64 t, .int .u64 s], .int .u64 a] w fun r w' => r = .returned (.tuple #[.agg #[.int .u64 t', .int .u64 s'], .int .u64 n, .int .i64 0]) ∧ Ext w w')) :
    Calls Tryz.prog 74 #[.agg #[.int .u64 t, .int .u64 s], .int .u64 a] w fun r w' => r = .returned (.tuple #[.agg #[.int .u64 t', .int .u64 s'], .int .u64 n, .int .i64 0]) ∧ Ext w w' := by
  go_enter Tryz.func74, Tryz.ntmps74
  go_wp2_with (first
    | (go_at_call 137; refine (sof_any _ _ _).mono ?_; rintro r w1 ⟨rfl, hx1⟩
       have hs1 := hx1.size
       simp at hs1
       have b1 : w1.cell? ⟨w.heap.size, 0, none⟩ = some (.int .u64 t) := hx1.has (by simp [go_sem])
       have b2 : w1.cell? ⟨w.heap.size, 1, none⟩ = some (.int .u64 s) := hx1.has (by simp [go_sem])
       have d3 : w1.cell? ⟨w.heap.size + 1, 0, none⟩ = some (.int .u64 0) := hx1.has (by simp [go_sem])
       have d4 : w1.cell? ⟨w.heap.size + 1, 1, none⟩ = some (.int .u64 0) := hx1.has (by simp [go_sem])
       have f3 : w1.frozen? ⟨w.heap.size + 1, 0, none⟩ = false := hx1.froz (v := .int .u64 0) (by simp [go_sem]) (by simp [go_sem])
       have f4 : w1.frozen? ⟨w.heap.size + 1, 1, none⟩ = false := hx1.froz (v := .int .u64 0) (by simp [go_sem]) (by simp [go_sem])
       have r1 : w.heap.size + 1 < w1.heap.size := by omega
       have r2 : w.heap.size + 1 < w1.heap.size + 1 := by omega
       have r3 : w.heap.size < w1.heap.size + 1 := by omega
       have r4 : w.heap.size < w1.heap.size := by omega)
    | (go_at_call 138; refine (CK.out _).mono ?_; rintro r w2 ⟨rfl, hx2⟩
       have hs2 := hx2.size
       simp at hs2
       have c1 : w2.cell? ⟨w1.heap.size, 0, none⟩ = some (.int .u64 t) := hx2.has (by simp [go_sem])
       have c2 : w2.cell? ⟨w1.heap.size, 1, none⟩ = some (.int .u64 s) := hx2.has (by simp [go_sem])
       have d3' : w2.cell? ⟨w.heap.size + 1, 0, none⟩ = some (.int .u64 0) := hx2.has zSlTba1_1
       have d4' : w2.cell? ⟨w.heap.size + 1, 1, none⟩ = some (.int .u64 0) := hx2.has zSlTba1_1
       have f3 : w2.frozen? ⟨w.heap.size + 1, 0, none⟩ = false := hx2.froz (v := .int .u64 0) zSlTba1_1 zSlTba1_2
       have f4 : w2.frozen? ⟨w.heap.size + 1, 1, none⟩ = false := hx2.froz (v := .int .u64 0) zSlTba1_1 zSlTba1_2
       have d3 := d3'
       have d4 := d4'
       clear d3' d4'
       have r1 : w.heap.size + 1 < w2.heap.size := by omega
       have r2 : w.heap.size + 1 < w2.heap.size + 1 := by omega
       have r3 : w.heap.size < w2.heap.size + 1 := by omega
       have r4 : w.heap.size < w2.heap.size := by omega)
    | (go_at_call 139; refine (C1.out _).mono ?_; rintro r w3 ⟨rfl, hx3⟩
       have hs3 := hx3.size
       have d3' : w3.cell? ⟨w.heap.size + 1, 0, none⟩ = some (.int .u64 0) := hx3.has zSlTba1_1
       have d4' : w3.cell? ⟨w.heap.size + 1, 1, none⟩ = some (.int .u64 0) := hx3.has zSlTba1_1
       have f3 : w3.frozen? ⟨w.heap.size + 1, 0, none⟩ = false := hx3.froz (v := .int .u64 0) zSlTba1_1 zSlTba1_2
       have f4 : w3.frozen? ⟨w.heap.size + 1, 1, none⟩ = false := hx3.froz (v := .int .u64 0) zSlTba1_1 zSlTba1_2
       have d3 := d3'
       have d4 := d4'
       clear d3' d4'
       have r1 : w.heap.size + 1 < w3.heap.size := by omega
       have r2 : w.heap.size + 1 < w3.heap.size + 1 := by omega
       have r3 : w.heap.size < w3.heap.size + 1 := by omega
       have r4 : w.heap.size < w3.heap.size := by omega)
    | (go_at_call 140; refine (stold_any _ _ _).mono ?_; rintro r w4 ⟨rfl, hx4⟩
       have hs4 := hx4.size
       simp at hs4
       have d3' : w4.cell? ⟨w.heap.size + 1, 0, none⟩ = some (.int .u64 0) := hx4.has zSlTba1_1
       have d4' : w4.cell? ⟨w.heap.size + 1, 1, none⟩ = some (.int .u64 0) := hx4.has zSlTba1_1
       have f3 : w4.frozen? ⟨w.heap.size + 1, 0, none⟩ = false := hx4.froz (v := .int .u64 0) zSlTba1_1 zSlTba1_2
       have f4 : w4.frozen? ⟨w.heap.size + 1, 1, none⟩ = false := hx4.froz (v := .int .u64 0) zSlTba1_1 zSlTba1_2
       have d3 := d3'
       have d4 := d4'
       clear d3' d4'
       have r1 : w.heap.size + 1 < w4.heap.size := by omega
       have r2 : w.heap.size + 1 < w4.heap.size + 1 := by omega
       have r3 : w.heap.size < w4.heap.size + 1 := by omega
       have r4 : w.heap.size < w4.heap.size := by omega))
  (try simp only [Exit.inBlock, Exit.then])
  refine bodyPost_ret (by simp [results, Tryz.results74, go_sem, r1, r2, r3, r4, d3, d4, World.cell?_alloc_past]; try rfl) rfl ?_
  exact ⟨rfl, zSlTba1_0⟩
end
section
open Go.RowKit
theorem sfirst_check (t s : Int) (ht : Word t) (hs : Word s) (b p q : Nat) (is : Bool) (e : Int) (w : World)
  (c1 : w.cell? ⟨b, 0, none⟩ = some (.func (.func 138) #[.agg #[.int .u64 t, .int .u64 s]] #[])) (c2 : w.cell? ⟨b, 1, none⟩ = some (clo p q))
  (h1 : w.cell? ⟨p, 0, none⟩ = some (.bool is)) (g1 : w.cell? ⟨q, 0, none⟩ = some (.int .i64 e)) :
  Calls Tryz.prog 179 #[.slice (some ⟨b, 0, none⟩) 2 2] w fun r w' => r = .returned (.int .i64 (if chkE t s = 0 then (if is = true then e else 0) else chkE t s)) ∧ Ext w w' := by
 have CK := scheck_any t s ht hs
 obtain ⟨c, hc⟩ : ∃ c, c = chkE t s := ⟨_, rfl⟩
 rw [← hc]
 simp only [← hc] at CK
 replace CK := Lib.hid CK
 have C := Lib.hid (fun w h1 h2 => sso1_any ⟨p, 0, none⟩ ⟨q, 0, none⟩ is e w h1 h2)
 obtain ⟨E, hE⟩ : ∃ c, c = if is = true then e else 0 := ⟨_, rfl⟩
 rw [← hE]
 simp only [← hE] at C
 replace C := Lib.hid C
 obtain ⟨V, hV⟩ : ∃ V, V = if c = 0 then E else c := ⟨_, rfl⟩
 rw [← hV]
 have HV := Lib.hid hV
 have H1 := Lib.hid h1
 have G1 := Lib.hid g1
 have C2 := Lib.hid c2
 clear hV hE hc ht hs h1 g1 c2
 go_enter Tryz.func179, Tryz.ntmps179
 go_wp2
 go_loopg [8] 2 (fun g i wx => g ≤ 2 ∧ Hid ((g = 1 → V = E) ∧ (g = 0 → V = 0)) ∧ i = .int .i64 ((2 - g : Nat) : Int) ∧ Ext w wx)
 case atStart => exact ⟨Nat.le_refl _, ⟨fun h => absurd h (by omega), fun h => absurd h (by omega)⟩, by simp, Ext.refl _⟩
 case round =>
  obtain ⟨hg, H, hi, hx⟩ := hrel
  subst hi
  match gk, hg with
  | 2, _ =>
   have d1 := hx.has c1
   clear c1
   by_cases hc : c = 0
   ·subst hc
    have hv := Lib.hid (show V = E from HV.out)
    go_wp2_with fail
    refine (CK.out _).mono ?_
    rintro r w1 ⟨rfl, hx1⟩
    go_wp2_with fail
    go_roundg 1
    case measure => omega
    case rel => exact ⟨by omega, ⟨fun _ => hv.out, fun h => absurd h (by omega)⟩, rfl, hx.trans hx1⟩
   ·obtain rfl : V = c := HV.out.trans (if_neg hc)
    have hc' : (V == 0) = false := by simpa using hc
    clear hc
    go_wp2_with fail
    refine (CK.out _).mono ?_
    rintro r w1 ⟨rfl, hx1⟩
    go_wp2_with fail
    go_ret
    exact ⟨rfl, hx.trans hx1⟩
  | 1, _ =>
   obtain rfl : V = E := H.out.1 rfl
   have d1 := hx.has C2.out
   have C3 := Lib.hid (C.out wr (hx.has H1.out) (hx.has G1.out))
   clear c1
   by_cases hc : V = 0
   ·subst hc
    clear H HV C
    go_wp2_with fail
    refine C3.out.mono ?_
    rintro r w1 ⟨rfl, rfl⟩
    go_wp2_with fail
    go_roundg 0
    case measure => omega
    case rel => exact ⟨by omega, ⟨fun h => absurd h (by omega), fun _ => by first | rfl | trivial⟩, rfl, hx⟩
   ·have hc' : (V == 0) = false := by simpa using hc
    clear hc H HV C
    go_wp2_with fail
    refine C3.out.mono ?_
    rintro r w1 ⟨rfl, rfl⟩
    go_wp2_with fail
    go_ret
    exact ⟨rfl, hx⟩
  | 0, _ =>
   obtain rfl : V = 0 := H.out.2 rfl
   clear c1
   go_wp2
   go_ret
   exact ⟨rfl, hx⟩
theorem sfirst_check' (t s : Int) (ht : Word t) (hs : Word s) (b p q : Nat) (is : Bool) (e : Int) {V : Int} (hV : Hid (V = if chkE t s = 0 then (if is = true then e else 0) else chkE t s)) (w : World)
  (c1 : w.cell? ⟨b, 0, none⟩ = some (.func (.func 138) #[.agg #[.int .u64 t, .int .u64 s]] #[])) (c2 : w.cell? ⟨b, 1, none⟩ = some (clo p q))
  (h1 : w.cell? ⟨p, 0, none⟩ = some (.bool is)) (g1 : w.cell? ⟨q, 0, none⟩ = some (.int .i64 e)) :
  Calls Tryz.prog 179 #[.slice (some ⟨b, 0, none⟩) 2 2] w fun r w' => r = .returned (.int .i64 V) ∧ Ext w w' := by
 rw [hV.out]
 exact sfirst_check t s ht hs b p q is e w c1 c2 h1 g1
theorem SValue_bad (t s x V : Int) (HW : Hid (Word t ∧ Word s)) (HV : Hid (V = if chkE t s = 0 then (if decide (s < x) = true then 13 else 0) else chkE t s)) (hc : ¬ V = 0) (w : World) :
    Calls Tryz.prog 150 #[.agg #[.int .u64 t, .int .u64 s], .int .u64 x] w fun r w' => r = .returned (.tuple #[.int .u64 0, .int .i64 V]) ∧ Ext w w' := by
  go_enter Tryz.func150, Tryz.ntmps150
  go_wp2_with
    (go_at_call 137; refine (sof_any _ _ _).mono ?_; rintro r w1 ⟨rfl, hx1⟩
     have hs1 := hx1.size
     simp at hs1
     have b1 : w1.cell? ⟨w.heap.size, 0, none⟩ = some (.int .u64 t) := hx1.has (by simp [go_sem])
     have b2 : w1.cell? ⟨w.heap.size, 1, none⟩ = some (.int .u64 s) := hx1.has (by simp [go_sem])
     have r1 : w.heap.size < w1.heap.size := by omega
     have r2 : w.heap.size < w1.heap.size + 1 := by omega
     have r3 : w.heap.size < w1.heap.size + 1 + 1 := by omega)
  go_region_held3 (fun w' => w'.cell? ⟨w.heap.size, 0, none⟩ = some (.int .u64 t) ∧ w'.cell? ⟨w.heap.size, 1, none⟩ = some (.int .u64 s) ∧ w'.cell? ⟨w1.heap.size, 0, none⟩ = some (.int .u64 t) ∧ w'.cell? ⟨w1.heap.size, 1, none⟩ = some (.int .u64 s))
    (first | assumption | (simp [go_sem, World.cell?_alloc_past, r1, r2, r3, b1, b2]; done) | (refine ⟨?_, ?_, ?_, ?_⟩ <;> first | assumption | (simp [go_sem, World.cell?_alloc_past, r1, r2, r3, b1, b2]; done)))
    (first
      | (go_at_call 180; refine (sso_any _ _ _).mono ?_; rintro r w4 ⟨rfl, rfl⟩)
      | (go_at_call 179
         refine (sfirst_check' t s HW.out.1 HW.out.2 _ (w1.heap.size + 1) (w1.heap.size + 1 + 1) (decide (s < x)) 13 HV _
           (by simp [go_sem]) (by simp [go_sem]) (by simp [go_sem]) (by simp [go_sem])).mono ?_
         rintro r w5 ⟨rfl, hx5⟩
         have hs5 := hx5.size
         simp at hs5
         have g1 : w5.cell? ⟨w1.heap.size, 0, none⟩ = some (.int .u64 t) := hx5.has zSlTba1_3
         have g2 : w5.cell? ⟨w1.heap.size, 1, none⟩ = some (.int .u64 s) := hx5.has zSlTba1_3
         have g3 : w5.cell? ⟨w.heap.size, 0, none⟩ = some (.int .u64 t) := hx5.has (by simp [go_sem, World.cell?_alloc_past, r1, r2, r3, b1, b2])
         have g4 : w5.cell? ⟨w.heap.size, 1, none⟩ = some (.int .u64 s) := hx5.has (by simp [go_sem, World.cell?_alloc_past, r1, r2, r3, b1, b2])))
  all_goals (go_wp2; go_ret2; exact ⟨rfl, zSlTba1_0⟩)
theorem SValue_ok (t s x n V : Int) (HW : Hid (Word t ∧ Word s)) (HV : Hid (V = if chkE t s = 0 then (if decide (s < x) = true then 13 else 0) else chkE t s)) (hc : V = 0) (w : World)
    (C1 : Hid (∀ w, Calls Tryz.prog 188 #[.agg #[.int .u64 t, .int .u64 s], .int .u64 x] w fun r w' => r = .returned (.int .u64 n) ∧ Ext w w')) :
    Calls Tryz.prog 150 #[.agg #[.int .u64 t, .int .u64 s], .int .u64 x] w fun r w' => r = .returned (.tuple #[.int .u64 n, .int .i64 0]) ∧ Ext w w' := by
  subst hc
  go_enter Tryz.func150, Tryz.ntmps150
  go_wp2_with
    (go_at_call 137; refine (sof_any _ _ _).mono ?_; rintro r w1 ⟨rfl, hx1⟩
     have hs1 := hx1.size
     simp at hs1
     have b1 : w1.cell? ⟨w.heap.size, 0, none⟩ = some (.int .u64 t) := hx1.has (by simp [go_sem])
     have b2 : w1.cell? ⟨w.heap.size, 1, none⟩ = some (.int .u64 s) := hx1.has (by simp [go_sem])
     have r1 : w.heap.size < w1.heap.size := by omega
     have r2 : w.heap.size < w1.heap.size + 1 := by omega
     have r3 : w.heap.size < w1.heap.size + 1 + 1 := by omega)
  go_region_held3 (fun w' => w'.cell? ⟨w.heap.size, 0, none⟩ = some (.int .u64 t) ∧ w'.cell? ⟨w.heap.size, 1, none⟩ = some (.int .u64 s) ∧ w'.cell? ⟨w1.heap.size, 0, none⟩ = some (.int .u64 t) ∧ w'.cell? ⟨w1.heap.size, 1, none⟩ = some (.int .u64 s))
    (first | assumption | (simp [go_sem, World.cell?_alloc_past, r1, r2, r3, b1, b2]; done) | (refine ⟨?_, ?_, ?_, ?_⟩ <;> first | assumption | (simp [go_sem, World.cell?_alloc_past, r1, r2, r3, b1, b2]; done)))
    (first
      | (go_at_call 180; refine (sso_any _ _ _).mono ?_; rintro r w4 ⟨rfl, rfl⟩)
      | (go_at_call 179
         refine (sfirst_check' t s HW.out.1 HW.out.2 _ (w1.heap.size + 1) (w1.heap.size + 1 + 1) (decide (s < x)) 13 HV _
           (by simp [go_sem]) (by simp [go_sem]) (by simp [go_sem]) (by simp [go_sem])).mono ?_
         rintro r w5 ⟨rfl, hx5⟩
         have hs5 := hx5.size
         simp at hs5
         have g1 : w5.cell? ⟨w1.heap.size, 0, none⟩ = some (.int .u64 t) := hx5.has zSlTba1_3
         have g2 : w5.cell? ⟨w1.heap.size, 1, none⟩ = some (.int .u64 s) := hx5.has zSlTba1_3
         have g3 : w5.cell? ⟨w.heap.size, 0, none⟩ = some (.int .u64 t) := hx5.has (by simp [go_sem, World.cell?_alloc_past, r1, r2, r3, b1, b2])
         have g4 : w5.cell? ⟨w.heap.size, 1, none⟩ = some (.int .u64 s) := hx5.has (by simp [go_sem, World.cell?_alloc_past, r1, r2, r3, b1, b2])))
  all_goals (go_wp2_with (go_at_call 188; refine (C1.out _).mono ?_; rintro r w6 ⟨rfl, hx6⟩); go_ret2; exact ⟨rfl, zSlTba1_0⟩)
end
section
open Go.RowKit
def joB (t s a : Int) : Bool := decide (priE t s a ≠ 0 ∨ addE t a ≠ 0 ∨ addE s (priN t s a) ≠ 0 ∨ 4611686018427387904 < addN t a)
def joE (t s a : Int) : Int := firstE [if (a == 0) = true then 14 else 0, if joB t s a = true then 12 else 0]
def valE (t s x : Int) : Int := if chkE t s = 0 then (if decide (s < x) = true then 13 else 0) else chkE t s
def valN (t s x : Int) : Int := if valE t s x = 0 then worV t s x else 0
def joiE (t s a : Int) : Int := if chkE t s = 0 then joE t s a else chkE t s
def joiT (t s a : Int) : Int := if joiE t s a = 0 then addN t a else 0
def joiS (t s a : Int) : Int := if joiE t s a = 0 then addN s (priN t s a) else 0
def joiN (t s a : Int) : Int := if joiE t s a = 0 then priN t s a else 0
def leaE (t s x : Int) : Int := if chkE t s = 0 then (if s < x then 13 else if worV t s x = 0 then 14 else 0) else chkE t s
def leaT (t s x : Int) : Int := if leaE t s x = 0 then t - worV t s x else 0
def leaS (t s x : Int) : Int := if leaE t s x = 0 then s - x else 0
def leaN (t s x : Int) : Int := if leaE t s x = 0 then worV t s x else 0
def cutE (t s p : Int) : Int := if chkE t s = 0 then paE t p else chkE t s
def cutN (t s p : Int) : Int := if cutE t s p = 0 then paN t p else 0
def cutT (t s p : Int) : Int := if cutE t s p = 0 then t - paN t p else 0
def cutS (t s p : Int) : Int := if cutE t s p = 0 then (if t - paN t p = 0 then 0 else s) else 0

theorem SValue_any (t s x : Int) (ht : Word t) (hs : Word s) (hx : Word x) (w : World) :
  Calls Tryz.prog 150 #[.agg #[.int .u64 t, .int .u64 s], .int .u64 x] w fun r w' => r = .returned (.tuple #[.int .u64 (valN t s x), .int .i64 (valE t s x)]) ∧ Ext w w' := by
 by_cases h : valE t s x = 0
 ·have e : valN t s x = worV t s x := if_pos h
  have H := SValue_ok t s x (worV t s x) (valE t s x) ⟨ht, hs⟩ rfl h w (sworth_any t s x ht hs hx)
  rw [e, h]; exact H
 ·have e : valN t s x = 0 := if_neg h
  rw [e]
  exact SValue_bad t s x (valE t s x) ⟨ht, hs⟩ rfl h w
theorem sjoined_any (t s a : Int) (ht : Word t) (hs : Word s) (ha : Word a) (w : World) :
  Calls Tryz.prog 175 #[.agg #[.int .u64 t, .int .u64 s], .int .u64 a] w fun r w' =>
   r = .returned (.tuple #[.agg #[.int .u64 (addN t a), .int .u64 (addN s (priN t s a))], .int .u64 (priN t s a), .int .i64 (joE t s a)]) ∧ Ext w w' := by
 refine sjoined_at t s a (priN t s a) (priE t s a) (addN t a) (addE t a) (addN s (priN t s a)) (addE s (priN t s a)) (joE t s a) (joB t s a) w (sprice_any t s a ht hs ha) (sumT_any t a ht ha) (sumS_any s _ hs (word_priN ht hs ha)) rfl ?_
 unfold joB
 by_cases h1 : priE t s a = 0 <;> by_cases h2 : addE t a = 0 <;> by_cases h3 : addE s (priN t s a) = 0 <;> simp [h1, h2, h3]
theorem SJoin_any (t s a : Int) (ht : Word t) (hs : Word s) (ha : Word a) (w : World) :
  Calls Tryz.prog 128 #[.agg #[.int .u64 t, .int .u64 s], .int .u64 a] w fun r w' => r = .returned (.tuple #[.agg #[.int .u64 (joiT t s a), .int .u64 (joiS t s a)], .int .u64 (joiN t s a), .int .i64 (joiE t s a)]) ∧ Ext w w' := by
 have CK := scheck_any t s ht hs
 have C1 := sjoined_any t s a ht hs ha
 unfold joiT joiS joiN
 by_cases hc : chkE t s = 0
 ·have e1 : joiE t s a = joE t s a := if_pos hc
  rw [hc] at CK
  rw [e1]
  by_cases h : joE t s a = 0
  ·rw [h] at C1
   rw [if_pos h, if_pos h, if_pos h, h]
   exact SJoin_ok t s a _ _ _ w CK C1
  ·rw [if_neg h, if_neg h, if_neg h]
   exact SJoin_err t s a _ _ _ _ h w CK C1
 ·have e1 : joiE t s a = chkE t s := if_neg hc
  rw [e1, if_neg hc, if_neg hc, if_neg hc]
  exact SJoin_bad t s a _ hc w CK
theorem chk_ok {t s : Int} (ht : Word t) (hs : Word s) (h : chkE t s = 0) : t ≤ s ∧ t ≤ 4611686018427387904 ∧ (t = 0 → s = 0) := by
 unfold chkE at h
 split at h
 ·omega
 ·split at h
  ·omega
  ·refine ⟨by omega, by omega, fun h0 => ?_⟩
   rw [if_pos h0] at h
   split at h
   ·assumption
   ·omega
theorem worV_le {t s x : Int} (ht : Word t) (hs : Word s) (hx : Word x) (h : x ≤ s) : 0 ≤ worV t s x ∧ worV t s x ≤ t := by
 refine ⟨(word_worV ht hs hx).1, ?_⟩
 unfold worV
 split
 ·exact ht.1
 ·rename_i h0
  have hp : 0 < s := by have := hs.1; omega
  have h1 : x * t / s ≤ t := by
   refine Int.ediv_le_of_le_mul hp ?_
   rw [Int.mul_comm t s]
   exact Int.mul_le_mul_of_nonneg_right h ht.1
  unfold mdN
  rw [if_neg h0]
  split
  ·exact h1
  ·exact ht.1
theorem SLeave_any (t s x : Int) (ht : Word t) (hs : Word s) (hx : Word x) (w : World) :
  Calls Tryz.prog 79 #[.agg #[.int .u64 t, .int .u64 s], .int .u64 x] w fun r w' => r = .returned (.tuple #[.agg #[.int .u64 (leaT t s x), .int .u64 (leaS t s x)], .int .u64 (leaN t s x), .int .i64 (leaE t s x)]) ∧ Ext w w' := by
 have CK := scheck_any t s ht hs
 unfold leaT leaS leaN
 by_cases hc : chkE t s = 0
 ·rw [hc] at CK
  by_cases h : s < x
  ·have e : leaE t s x = 13 := by unfold leaE; rw [if_pos hc, if_pos h]
   rw [e, if_neg (by decide), if_neg (by decide), if_neg (by decide)]
   exact SLeave_err t s x _ _ _ 13 (by decide) w CK (sleft_poor t s x h)
  ·obtain ⟨n0, n1⟩ := worV_le ht hs hx (by omega)
   have C1 := fun w => sleft_at t s x (worV t s x) _ w hx.1 (by omega) hs.2 n0 n1 ht.2 (sworth_any t s x ht hs hx) rfl
   by_cases hz : worV t s x = 0
   ·have e : leaE t s x = 14 := by unfold leaE; rw [if_pos hc, if_neg h, if_pos hz]
    rw [e, if_neg (by decide), if_neg (by decide), if_neg (by decide)]
    have ef : firstE [if (worV t s x == 0) = true then 14 else 0] = 14 := by rw [hz]; rfl
    rw [ef] at C1
    exact SLeave_err t s x _ _ _ 14 (by decide) w CK C1
   ·have e : leaE t s x = 0 := by unfold leaE; rw [if_pos hc, if_neg h, if_neg hz]
    rw [e, if_pos rfl, if_pos rfl, if_pos rfl]
    have ef : firstE [if (worV t s x == 0) = true then 14 else 0] = 0 := by simp [hz, firstE]
    rw [ef] at C1
    exact SLeave_ok t s x _ _ _ w CK C1
 ·have e : leaE t s x = chkE t s := if_neg hc
  rw [e, if_neg hc, if_neg hc, if_neg hc]
  exact SLeave_bad t s x _ hc w CK
theorem paN_le {t p : Int} (ht : Word t) (hp : Word p) : 0 ≤ paN t p ∧ paN t p ≤ t := by
 refine ⟨(word_paN ht hp).1, ?_⟩
 unfold paN
 split
 ·exact ht.1
 ·have h1 : t * p / 1000000000 ≤ t := by
   refine Int.ediv_le_of_le_mul (by decide) ?_
   exact Int.mul_le_mul_of_nonneg_left (by omega) ht.1
  unfold mdN
  rw [if_neg (by decide)]
  split
  ·exact h1
  ·exact ht.1
theorem SCut_any (t s p : Int) (ht : Word t) (hs : Word s) (hp : Word p) (w : World) :
  Calls Tryz.prog 74 #[.agg #[.int .u64 t, .int .u64 s], .int .u64 p] w fun r w' => r = .returned (.tuple #[.agg #[.int .u64 (cutT t s p), .int .u64 (cutS t s p)], .int .u64 (cutN t s p), .int .i64 (cutE t s p)]) ∧ Ext w w' := by
 have CK := scheck_any t s ht hs
 have C := fPart_any t p ht hp
 obtain ⟨n0, n1⟩ := paN_le ht hp
 unfold cutT cutS cutN
 by_cases hc : chkE t s = 0
 ·rw [hc] at CK
  have e : cutE t s p = paE t p := if_pos hc
  rw [e]
  by_cases h : paE t p = 0
  ·rw [h] at C
   rw [h, if_pos rfl, if_pos rfl, if_pos rfl]
   by_cases hz : t - paN t p = 0
   ·rw [if_pos hz, hz]
    have e2 : paN t p = t := by omega
    rw [e2] at C ⊢
    exact SCut_ok t s p _ _ _ w CK (fun w => scut_all t s p w C)
   ·rw [if_neg hz]
    exact SCut_ok t s p _ _ _ w CK (fun w => scut_some t s p _ w n0 n1 ht.2 hz C)
  ·rw [if_neg h, if_neg h, if_neg h]
   exact SCut_err t s p _ _ _ _ h w CK (fun w => scut_bad t s p _ _ h w C)
 ·have e : cutE t s p = chkE t s := if_neg hc
  rw [e, if_neg hc, if_neg hc, if_neg hc]
  exact SCut_bad t s p _ hc w CK
end
section
open Go.RowKit
def hasB (a b c v h : Int) : Bool := a == v && (decide (b ≤ h) && decide (h ≤ c))
theorem thas_zero (v h : Int) (w : World) :
  Calls Tryz.prog 91 #[.agg #[.int .i64 0, .int .i64 0, .int .i64 0], .int .i64 v, .int .i64 h] w fun r w' => r = .returned (.bool false) ∧ Ext w w' := by
 go_enter Tryz.func91, Tryz.ntmps91
 go_wp2
 go_ret
 exact ⟨rfl, zSlTba1_0⟩
theorem thas_nz (a b c v h : Int) (hz : (b == 0) = false ∨ (c == 0) = false) (w : World) :
  Calls Tryz.prog 91 #[.agg #[.int .i64 a, .int .i64 b, .int .i64 c], .int .i64 v, .int .i64 h] w fun r w' => r = .returned (.bool (hasB a b c v h)) ∧ Ext w w' := by
 unfold hasB
 obtain ⟨q, hq⟩ : ∃ p, decide (b ≤ h) = p := ⟨_, rfl⟩
 obtain ⟨s, hs⟩ : ∃ p, decide (h ≤ c) = p := ⟨_, rfl⟩
 rw [hq, hs]
 rcases hz with hz | hz
 all_goals
  by_cases ha : a = v
  ·subst ha
   have e : (a == a && (q && s)) = (q && s) := by simp
   rw [e]
   cases q
   all_goals
    go_enter Tryz.func91, Tryz.ntmps91
    go_wp2
    all_goals (go_ret; exact ⟨by simp_all, zSlTba1_0⟩)
  ·have e : (a == v && (q && s)) = false := by simp [ha]
   rw [e]
   have hf : (a == v) = false := beq_false_of_ne ha
   clear ha
   go_enter Tryz.func91, Tryz.ntmps91
   go_wp2
   all_goals (go_ret; exact ⟨by simp_all, zSlTba1_0⟩)
theorem tspans_neg (V S P F u t : Int) (hP : P < 0) (ht : (if u < 1 then 9223372036854775807 else u) = t) (w : World) :
  Calls Tryz.prog 90 #[.agg #[.int .i64 V, .int .i64 S, .int .i64 P, .int .i64 F], .int .i64 u] w fun r w' => r = .returned (.tuple #[.agg #[.int .i64 V, .int .i64 S, .int .i64 t], .agg #[.int .i64 0, .int .i64 0, .int .i64 0]]) ∧ Ext w w' := by
 by_cases hu : u < 1
 ·rw [if_pos hu] at ht
  subst ht
  go_enter Tryz.func90, Tryz.ntmps90
  go_wp2
  refine bodyPost_ret (v := .tuple #[.agg #[.int .i64 V, .int .i64 S, .int .i64 9223372036854775807], .agg #[.int .i64 0, .int .i64 0, .int .i64 0]]) (by simp [results, Tryz.results90, go_sem]; try rfl) rfl ⟨rfl, ?_⟩
  exact zSlTba1_0
 ·rw [if_neg hu] at ht
  subst ht
  go_enter Tryz.func90, Tryz.ntmps90
  go_wp2
  refine bodyPost_ret (v := .tuple #[.agg #[.int .i64 V, .int .i64 S, .int .i64 u], .agg #[.int .i64 0, .int .i64 0, .int .i64 0]]) (by simp [results, Tryz.results90, go_sem]; try rfl) rfl ⟨rfl, ?_⟩
  exact zSlTba1_0
theorem tspans_pos (V S P F u t : Int) (hP : ¬ P < 0) (ht : (if u < 1 then 9223372036854775807 else u) = t) (w : World) :
  Calls Tryz.prog 90 #[.agg #[.int .i64 V, .int .i64 S, .int .i64 P, .int .i64 F], .int .i64 u] w fun r w' => r = .returned (.tuple #[.agg #[.int .i64 V, .int .i64 S, .int .i64 t], .agg #[.int .i64 P, .int .i64 F, .int .i64 S]]) ∧ Ext w w' := by
 by_cases hu : u < 1
 ·rw [if_pos hu] at ht
  subst ht
  go_enter Tryz.func90, Tryz.ntmps90
  go_wp2
  refine wp_region_held_drew (S := fun w' => w'.cell? ⟨w.heap.size, 0, none⟩ = some (.int .i64 V) ∧ w'.cell? ⟨w.heap.size, 1, none⟩ = some (.int .i64 S) ∧ w'.cell? ⟨w.heap.size, 2, none⟩ = some (.int .i64 P) ∧ w'.cell? ⟨w.heap.size, 3, none⟩ = some (.int .i64 F)) (by kernel_rfl) zSlTba1_3 (fun hHeld => ?_)
  refine' zt 0 ?_
  refine' zt 1 ?_
  refine' zt 2 ?_
  refine' zt 3 ?_
  refine' zt 4 ?_
  refine' zt 5 ?_
  refine' zt 6 ?_
  refine' zt 7 ?_
  refine' zt 8 ?_
  refine' zt 9 ?_
  refine' zt 10 ?_
  refine' zt 11 ?_
  refine' zt 12 ?_
  refine' zn 13 (fun K hK => ?_)
  go_simp
  refine' zk hK zSlTba1_3 (fun hHeld => ?_); clear hK K
  refine' zn 14 (fun K hK => ?_)
  go_simp
  refine' zk hK zSlTba1_3 (fun hHeld => ?_); clear hK K
  refine wpAnyH_done (by kernel_rfl) ?_ _
  go_wp2
  refine bodyPost_ret (v := .tuple #[.agg #[.int .i64 V, .int .i64 S, .int .i64 9223372036854775807], .agg #[.int .i64 P, .int .i64 F, .int .i64 S]]) (by simp [results, Tryz.results90, go_sem]; try rfl) rfl ⟨rfl, ?_⟩
  exact zSlTba1_0
 ·rw [if_neg hu] at ht
  subst ht
  go_enter Tryz.func90, Tryz.ntmps90
  go_wp2
  refine wp_region_held_drew (S := fun w' => w'.cell? ⟨w.heap.size, 0, none⟩ = some (.int .i64 V) ∧ w'.cell? ⟨w.heap.size, 1, none⟩ = some (.int .i64 S) ∧ w'.cell? ⟨w.heap.size, 2, none⟩ = some (.int .i64 P) ∧ w'.cell? ⟨w.heap.size, 3, none⟩ = some (.int .i64 F)) (by kernel_rfl) zSlTba1_3 (fun hHeld => ?_)
  refine' zt 0 ?_
  refine' zt 1 ?_
  refine' zt 2 ?_
  refine' zt 3 ?_
  refine' zt 4 ?_
  refine' zt 5 ?_
  refine' zt 6 ?_
  refine' zt 7 ?_
  refine' zt 8 ?_
  refine' zt 9 ?_
  refine' zt 10 ?_
  refine' zt 11 ?_
  refine' zt 12 ?_
  refine' zn 13 (fun K hK => ?_)
  go_simp
  refine' zk hK zSlTba1_3 (fun hHeld => ?_); clear hK K
  refine' zn 14 (fun K hK => ?_)
  go_simp
  refine' zk hK zSlTba1_3 (fun hHeld => ?_); clear hK K
  refine wpAnyH_done (by kernel_rfl) ?_ _
  go_wp2
  refine bodyPost_ret (v := .tuple #[.agg #[.int .i64 V, .int .i64 S, .int .i64 u], .agg #[.int .i64 P, .int .i64 F, .int .i64 S]]) (by simp [results, Tryz.results90, go_sem]; try rfl) rfl ⟨rfl, ?_⟩
  exact zSlTba1_0
end
section
open Go.RowKit
def bkdB (V S P F v h u : Int) : Bool := if chkS V S P F = 0 then (hasB V S (if u < 1 then 9223372036854775807 else u) v h || (if P < 0 then false else hasB P F S v h)) else false
theorem tBacked_bad (V S P F v h u E : Int) (hE : chkS V S P F = E) (he : ¬ E = 0) (w : World) :
  Calls Tryz.prog 49 #[.agg #[.int .i64 V, .int .i64 S, .int .i64 P, .int .i64 F], .int .i64 v, .int .i64 h, .int .i64 u] w fun r w' => r = .returned (.bool false) ∧ Ext w w' := by
 have CK := fun w => tCheck_any V S P F w
 rw [hE] at CK
 replace CK := Lib.hid CK
 have hef : (E == 0) = false := beq_false_of_ne he
 clear he hE
 go_enter Tryz.func49, Tryz.ntmps49
 go_wp2_with fail
 refine (CK.out _).mono ?_
 rintro r w1 ⟨rfl, hx1⟩
 have X1 := Lib.hid (show Ext w w1 from Ext.trans ((Ext.refl w).alloc _) hx1)
 clear hx1 CK
 go_wp2_with fail
 go_ret
 exact ⟨rfl, X1.out⟩
theorem tBacked_neg (V S P F v h u t : Int) (p : Bool) (hE : chkS V S P F = 0) 
    (CS : Hid (∀ w, Calls Tryz.prog 90 #[.agg #[.int .i64 V, .int .i64 S, .int .i64 P, .int .i64 F], .int .i64 u] w fun r w' => r = .returned (.tuple #[.agg #[.int .i64 V, .int .i64 S, .int .i64 t], .agg #[.int .i64 0, .int .i64 0, .int .i64 0]]) ∧ Ext w w'))
    (HN : Hid (∀ w, Calls Tryz.prog 91 #[.agg #[.int .i64 V, .int .i64 S, .int .i64 t], .int .i64 v, .int .i64 h] w fun r w' => r = .returned (.bool p) ∧ Ext w w')) (w : World) :
    Calls Tryz.prog 49 #[.agg #[.int .i64 V, .int .i64 S, .int .i64 P, .int .i64 F], .int .i64 v, .int .i64 h, .int .i64 u] w fun r w' => r = .returned (.bool p) ∧ Ext w w' := by
  have CK := fun w => tCheck_any V S P F w
  rw [hE] at CK
  replace CK := Lib.hid CK
  clear hE
  cases p
  all_goals
    go_enter Tryz.func49, Tryz.ntmps49
    go_wp2_with fail
    refine (CK.out _).mono ?_
    rintro r w1 ⟨rfl, hx1⟩
    have d0 : w1.cell? ⟨w.heap.size, 0, none⟩ = some (.int .i64 V) := hx1.has (by simp [go_sem])
    have d1 : w1.cell? ⟨w.heap.size, 1, none⟩ = some (.int .i64 S) := hx1.has (by simp [go_sem])
    have d2 : w1.cell? ⟨w.heap.size, 2, none⟩ = some (.int .i64 P) := hx1.has (by simp [go_sem])
    have d3 : w1.cell? ⟨w.heap.size, 3, none⟩ = some (.int .i64 F) := hx1.has (by simp [go_sem])
    have X1 := Lib.hid (show Ext w w1 from Ext.trans ((Ext.refl w).alloc _) hx1)
    clear hx1 CK
    go_wp2_with fail
    refine (CS.out _).mono ?_
    rintro r w2 ⟨rfl, hx2⟩
    have X2 := Lib.hid (show Ext w w2 from X1.out.trans hx2)
    clear hx2 CS X1 d0 d1 d2 d3
    go_wp2_with fail
    refine (HN.out _).mono ?_
    rintro r w3 ⟨rfl, hx3⟩
    have e0 : w3.cell? ⟨w2.heap.size + 1, 0, none⟩ = some (.int .i64 0) := hx3.has zSlTba1_3
    have e1 : w3.cell? ⟨w2.heap.size + 1, 1, none⟩ = some (.int .i64 0) := hx3.has zSlTba1_3
    have e2 : w3.cell? ⟨w2.heap.size + 1, 2, none⟩ = some (.int .i64 0) := hx3.has zSlTba1_3
    have X3 := Lib.hid (show Ext w w3 from X2.out.trans (Ext.trans (((Ext.refl w2).alloc _).alloc _) hx3))
    clear hx3 HN X2
    go_wp2_with fail
    first
      | (go_ret; exact ⟨by simp, X3.out⟩)
      | (refine (thas_zero v h _).mono ?_
         rintro r w4 ⟨rfl, hx4⟩
         have X4 := Lib.hid (X3.out.trans hx4)
         clear hx4 X3
         go_wp2_with fail
         go_ret
         exact ⟨by simp, X4.out⟩)
theorem tBacked_pos (V S P F v h u t : Int) (p : Bool) (hE : chkS V S P F = 0) (q : Bool) (HP : Hid (∀ w, Calls Tryz.prog 91 #[.agg #[.int .i64 P, .int .i64 F, .int .i64 S], .int .i64 v, .int .i64 h] w fun r w' => r = .returned (.bool q) ∧ Ext w w')) 
    (CS : Hid (∀ w, Calls Tryz.prog 90 #[.agg #[.int .i64 V, .int .i64 S, .int .i64 P, .int .i64 F], .int .i64 u] w fun r w' => r = .returned (.tuple #[.agg #[.int .i64 V, .int .i64 S, .int .i64 t], .agg #[.int .i64 P, .int .i64 F, .int .i64 S]]) ∧ Ext w w'))
    (HN : Hid (∀ w, Calls Tryz.prog 91 #[.agg #[.int .i64 V, .int .i64 S, .int .i64 t], .int .i64 v, .int .i64 h] w fun r w' => r = .returned (.bool p) ∧ Ext w w')) (w : World) :
    Calls Tryz.prog 49 #[.agg #[.int .i64 V, .int .i64 S, .int .i64 P, .int .i64 F], .int .i64 v, .int .i64 h, .int .i64 u] w fun r w' => r = .returned (.bool (p || q)) ∧ Ext w w' := by
  have CK := fun w => tCheck_any V S P F w
  rw [hE] at CK
  replace CK := Lib.hid CK
  clear hE
  cases p
  all_goals
    go_enter Tryz.func49, Tryz.ntmps49
    go_wp2_with fail
    refine (CK.out _).mono ?_
    rintro r w1 ⟨rfl, hx1⟩
    have d0 : w1.cell? ⟨w.heap.size, 0, none⟩ = some (.int .i64 V) := hx1.has (by simp [go_sem])
    have d1 : w1.cell? ⟨w.heap.size, 1, none⟩ = some (.int .i64 S) := hx1.has (by simp [go_sem])
    have d2 : w1.cell? ⟨w.heap.size, 2, none⟩ = some (.int .i64 P) := hx1.has (by simp [go_sem])
    have d3 : w1.cell? ⟨w.heap.size, 3, none⟩ = some (.int .i64 F) := hx1.has (by simp [go_sem])
    have X1 := Lib.hid (show Ext w w1 from Ext.trans ((Ext.refl w).alloc _) hx1)
    clear hx1 CK
    go_wp2_with fail
    refine (CS.out _).mono ?_
    rintro r w2 ⟨rfl, hx2⟩
    have X2 := Lib.hid (show Ext w w2 from X1.out.trans hx2)
    clear hx2 CS X1 d0 d1 d2 d3
    go_wp2_with fail
    refine (HN.out _).mono ?_
    rintro r w3 ⟨rfl, hx3⟩
    have e0 : w3.cell? ⟨w2.heap.size + 1, 0, none⟩ = some (.int .i64 P) := hx3.has zSlTba1_3
    have e1 : w3.cell? ⟨w2.heap.size + 1, 1, none⟩ = some (.int .i64 F) := hx3.has zSlTba1_3
    have e2 : w3.cell? ⟨w2.heap.size + 1, 2, none⟩ = some (.int .i64 S) := hx3.has zSlTba1_3
    have X3 := Lib.hid (show Ext w w3 from X2.out.trans (Ext.trans (((Ext.refl w2).alloc _).alloc _) hx3))
    clear hx3 HN X2
    go_wp2_with fail
    first
      | (go_ret; exact ⟨by simp, X3.out⟩)
      | (refine (HP.out _).mono ?_
         rintro r w4 ⟨rfl, hx4⟩
         have X4 := Lib.hid (X3.out.trans hx4)
         clear hx4 X3
         go_wp2_with fail
         go_ret
         exact ⟨by simp, X4.out⟩)
theorem tBacked_any (V S P F v h u : Int) (w : World) :
  Calls Tryz.prog 49 #[.agg #[.int .i64 V, .int .i64 S, .int .i64 P, .int .i64 F], .int .i64 v, .int .i64 h, .int .i64 u] w fun r w' => r = .returned (.bool (bkdB V S P F v h u)) ∧ Ext w w' := by
 unfold bkdB
 by_cases he : chkS V S P F = 0
 ·rw [if_pos he]
  have hk := chkS_ok he
  have hs0 := hk.s0
  have hsz : (S == 0) = false := beq_false_of_ne (by omega)
  by_cases hP : P < 0
  ·rw [if_pos hP, Bool.or_false]
   exact tBacked_neg V S P F v h u _ _ he (Lib.hid fun w => tspans_neg V S P F u _ hP rfl w) (Lib.hid fun w => thas_nz V S _ v h (.inl hsz) w) w
  ·rw [if_neg hP]
   exact tBacked_pos V S P F v h u _ _ he _ (Lib.hid fun w => thas_nz P F S v h (.inr hsz) w) (Lib.hid fun w => tspans_pos V S P F u _ hP rfl w) (Lib.hid fun w => thas_nz V S _ v h (.inl hsz) w) w
 ·rw [if_neg he]
  exact tBacked_bad V S P F v h u _ rfl he w
end
section
open Go.RowKit
def kC (c : I6) : List Int := [c.1, c.2.1, c.2.2.1, c.2.2.2.1]
def toC (c : I6) : Int := c.2.2.2.2.1
def shC (c : I6) : Int := c.2.2.2.2.2
def kP (p : I6) : List Int := [p.1, p.2.1, p.2.2.1, p.2.2.2.1, p.2.2.2.2.1]
def stP (p : I6) : List Int := [p.2.1, p.2.2.1, p.2.2.2.1, p.2.2.2.2.1]
def shP (p : I6) : Int := p.2.2.2.2.2
theorem kC_len (c : I6) : (kC c).length = 4 := rfl
theorem kP_len (p : I6) : (kP p).length = 5 := rfl
def prevGe (pr : Option (List Int)) (q : List Int) : Bool := match pr with
 | none => false
 | some p => decide (0 ≤ cmpK p q)
def clsOne (pr : Option (List Int)) (c : I6) : Int := if chkS c.1 c.2.1 c.2.2.1 c.2.2.2.1 ≠ 0 then 3 else if prevGe pr (kC c) = true then 9 else if chkE (toC c) (shC c) ≠ 0 then chkE (toC c) (shC c) else if toC c = 0 ∧ shC c = 0 then 11 else 0
def clsGo : Option (List Int) → List I6 → Int
 | _, [] => 0
 | pr, c :: l => if clsOne pr c ≠ 0 then clsOne pr c else clsGo (some (kC c)) l
def totC (l : List I6) : Int := addF toC l
def clsV (l : List I6) : Int := if 1024 < l.length then 4 else if clsGo none l ≠ 0 then clsGo none l else if totC l ≤ 4611686018427387904 then 0 else 12
def posOne (cl : List I6) (pr : Option (List Int)) (p : I6) : Int := if p.1 < 0 ∨ 64 ≤ p.1 then 3 else if prevGe pr (kP p) = true then 9 else if shP p = 0 then 14 else if (getK kC cl (stP p)).isNone = true then 10 else 0
def posGo (cl : List I6) : Option (List Int) → List I6 → Int
 | _, [] => 0
 | pr, p :: l => if posOne cl pr p ≠ 0 then posOne cl pr p else posGo cl (some (kP p)) l
def shO (ps : List I6) (q : List Int) : Int := addF shP (ps.filter fun p => decide (stP p = q))
def posV (cl ps : List I6) : Int := if posGo cl none ps ≠ 0 then posGo cl none ps else if cl.all (fun c => decide (shO ps (kC c) = shC c)) = true then 0 else 11
def chkH (cl ps : List I6) : Int := if clsV cl ≠ 0 then clsV cl else posV cl ps
def fndT (cl : List I6) (q : List Int) : Int := optF toC (getK kC cl q)
def fndS (cl : List I6) (q : List Int) : Int := optF shC (getK kC cl q)
def hasV (ps : List I6) (k : List Int) : Int := optF shP (getK kP ps k)
def optC (V S P F T H : Int) : Option I6 := if T = 0 ∧ H = 0 then none else some (V, S, P, F, T, H)
def optP (o V S P F n : Int) : Option I6 := if n = 0 then none else some (o, V, S, P, F, n)
def clsSet (cl : List I6) (V S P F T H : Int) : List I6 := layK kC cl [V, S, P, F] (optC V S P F T H)
def posSet (ps : List I6) (o V S P F n : Int) : List I6 := layK kP ps [o, V, S, P, F] (optP o V S P F n)
def hjoiE (cl ps : List I6) (o V S P F a : Int) : Int := if chkH cl ps ≠ 0 then chkH cl ps else if (o < 0 ∨ 64 ≤ o) ∨ chkS V S P F ≠ 0 then 3 else if (getK kC cl [V, S, P, F]).isNone = true ∧ 1024 ≤ cl.length then 7 else if joiE (fndT cl [V, S, P, F]) (fndS cl [V, S, P, F]) a ≠ 0 then joiE (fndT cl [V, S, P, F]) (fndS cl [V, S, P, F]) a else if 4611686018427387904 < totC cl + a then 12 else 0
def hjoiV (cl ps : List I6) (o V S P F a : Int) : List I6 × List I6 × Int × Int :=
 if hjoiE cl ps o V S P F a = 0 then (clsSet cl V S P F (joiT (fndT cl [V, S, P, F]) (fndS cl [V, S, P, F]) a) (joiS (fndT cl [V, S, P, F]) (fndS cl [V, S, P, F]) a), posSet ps o V S P F (hasV ps [o, V, S, P, F] + joiN (fndT cl [V, S, P, F]) (fndS cl [V, S, P, F]) a), joiN (fndT cl [V, S, P, F]) (fndS cl [V, S, P, F]) a, 0) else ([], [], 0, hjoiE cl ps o V S P F a)
def hleaE (cl ps : List I6) (o V S P F x : Int) : Int := if chkH cl ps ≠ 0 then chkH cl ps else if hasV ps [o, V, S, P, F] = 0 then 10 else if hasV ps [o, V, S, P, F] < x then 13 else leaE (fndT cl [V, S, P, F]) (fndS cl [V, S, P, F]) x
def hleaV (cl ps : List I6) (o V S P F x : Int) : List I6 × List I6 × Int × Int :=
 if hleaE cl ps o V S P F x = 0 then (clsSet cl V S P F (leaT (fndT cl [V, S, P, F]) (fndS cl [V, S, P, F]) x) (leaS (fndT cl [V, S, P, F]) (fndS cl [V, S, P, F]) x), posSet ps o V S P F (hasV ps [o, V, S, P, F] - x), leaN (fndT cl [V, S, P, F]) (fndS cl [V, S, P, F]) x, 0) else ([], [], 0, hleaE cl ps o V S P F x)
def bkC (c : I6) (v h : Int) : Bool := bkdB c.1 c.2.1 c.2.2.1 c.2.2.2.1 v h 0
def cutC (v h p : Int) (c : I6) : Option I6 := if bkC c v h = true then optC c.1 c.2.1 c.2.2.1 c.2.2.2.1 (cutT (toC c) (shC c) p) (cutS (toC c) (shC c) p) else some c
def cutCs (v h p : Int) (cl : List I6) : List I6 := cl.filterMap (cutC v h p)
def keepP (cl ps : List I6) : List I6 := ps.filter fun p => (getK kC cl (stP p)).isSome
def losC (v h p : Int) (c : I6) : Option I5 := if bkC c v h = true then some (c.1, c.2.1, c.2.2.1, c.2.2.2.1, cutN (toC c) (shC c) p) else none
def losCs (v h p : Int) (cl : List I6) : List I5 := cl.filterMap (losC v h p)
def losN (l : List I5) : Int := addF (fun x => x.2.2.2.2) l
def hcutE (cl ps : List I6) (v h p : Int) : Int := if chkH cl ps ≠ 0 then chkH cl ps else if (v < 0 ∨ 32 ≤ v) ∨ (h < 1 ∨ 4294967296 < h) ∨ 1000000000 < p then 3 else 0
def hcutV (cl ps : List I6) (v h p : Int) : List I6 × List I6 × List I5 × Int × Int :=
 if hcutE cl ps v h p = 0 then (cutCs v h p cl, keepP (cutCs v h p cl) ps, losCs v h p cl, losN (losCs v h p cl), 0) else ([], [], [], 0, hcutE cl ps v h p)
end
section
open Go.RowKit
theorem own_keep {w w' : World} {base : Nat} {e : TypeId} {sz n : Nat} {v : Value} {xs : List Value} (h : w.ownsRow base e sz v n xs) (hb : Ext w w') : w'.ownsRow base e sz v n xs := by
 refine ⟨h.1, ?_⟩
 rcases h.2 with h2 | ⟨q, cap, cur, e', hq, hq2, rest⟩
 ·exact .inl h2
 ·exact .inr ⟨q, cap, cur, e', hq, (Below.block hb q (Array.getElem?_eq_some_iff.1 hq2).1).trans hq2, rest⟩
theorem own_parts2 {w : World} {base : Nat} {e : TypeId} {sz n : Nat} {v : Value} {xs : List Value} (h : w.ownsRow base e sz v n xs) : ∃ A c, v = .slice A n c ∧ (A = none → c = 0) ∧ Sl w sz A n c xs := by
 rcases h.2 with ⟨rfl, rfl⟩ | ⟨g, cap, cur, rfl, rest⟩
 ·exact ⟨_, _, rfl, fun _ => rfl, Sl.own h⟩
 ·refine ⟨_, _, rfl, ?_, Sl.own h⟩
  intro hh
  cases hh
end
section
open Go.RowKit
theorem next2_in {P : Program} {md : Region.Mode} {l : List Oper} {Q : Exit → Act → World → Prop} {S : World → Prop} {oi oj : Oper} {fuel : Nat} {listed : Array Bool} {a : Act} {w : World} (i j : Nat) (hi : l[i]? = some oi) (hj : l[j]? = some oj)
  (hr : Region.ready md l.toArray listed = [i, j]) (hw : Region.wanted oi (yielded l.toArray a.tmps) = true) (hw2 : Region.wanted oj (yielded l.toArray a.tmps) = true)
  (h : ∀ K' : Act → World → Prop, Shut (∀ a w, S w → (S w → wpAnyH P md l.toArray Q S fuel (listed.setIfInBounds i true) a w) → K' a w) → Oper.wp P oi a w K' Q)
  (h2 : ∀ K' : Act → World → Prop, Shut (∀ a w, S w → (S w → wpAnyH P md l.toArray Q S fuel (listed.setIfInBounds j true) a w) → K' a w) → Oper.wp P oj a w K' Q) : wpAnyH P md l.toArray Q S (fuel + 1) listed a w :=
 wpAnyH_ready hr (by simp) (AllReadyH.cons (o := oi) (by simpa using hi) (fun K' hK => by rw [if_pos hw]; exact h K' hK) (AllReadyH.cons (o := oj) (by simpa using hj) (fun K' hK => by rw [if_pos hw2]; exact h2 K' hK) AllReadyH.nil))
end
section
open Go.RowKit
theorem But.ofGrown {w w' : World} {row : Option Nat} (h : w.grownBy w' row) : But (fun k => row = some k) w w' :=
 ⟨h.os, h.tape, h.output, h.size, fun k hk hn => h.block k hk (fun e => hn e.symm)⟩
theorem own_lower {w : World} {base b : Nat} {e : TypeId} {sz n : Nat} {v : Value} {xs : List Value} (h : w.ownsRow base e sz v n xs) (hb : b ≤ base) : w.ownsRow b e sz v n xs := by
 refine ⟨h.1, ?_⟩
 rcases h.2 with h2 | ⟨q, cap, cur, e', hq, rest⟩
 ·exact .inl h2
 ·exact .inr ⟨q, cap, cur, e', Nat.le_trans hb hq, rest⟩
theorem wpList_append_slB {P : Program} (w : World) {ops : Array Oper} {rest : List Oper} {o : Oper} {a : Act} {Q : Exit → Act → World → Prop} (hgd : o.guard = none) (s x : Operand) (t : TypeId)
  (ho : o.op = .call { callee := .builtin .append, args := #[s, x], argTypes := #[t, t] })
  (base : Nat) (e : TypeId) (i : TypeInfo) (z : Value) (size bytes : Nat) (ht : P.underlying t = some (.slice e)) (hi : P.info? e = some i) (hz : i.zero = some z)
  (hsize : i.size = size) (hby : i.bytes = bytes) (hzs : z.cells.size = size) (hsz : 0 < size)
  (v : Value) (n : Nat) (xs : List Value) (hs : a.eval s = v) (hown : w.ownsRow base e size v n xs) (A : Option Addr) (m c : Nat) (news : List Value)
  (hx : a.eval x = .slice A m c) (hS : Sl w size A m c news) (h1 : ∀ u ∈ news, u.oneCell' = true)
  (hn : n + m < 1099511627776) (hb128 : bytes ≤ 127) (hbase : base ≤ w.heap.size)
  (h : ∀ v' w', w'.ownsRow base e size v' (n + m) (xs ++ news) → But (fun k => v.ownBlock = some k) w w' → (∀ k, v'.ownBlock = some k → v.ownBlock = some k ∨ w.heap.size ≤ k) → wpList P ops Q rest (a.put o.dst v') w') :
  wpList P ops Q (o :: rest) a w := by
 have hby2 : (n + m) * bytes ≤ 140737488355328 := by
  have : (n + m) * bytes ≤ 1099511627776 * 127 := Nat.mul_le_mul (by omega) hb128
  omega
 have h63 : n + m ≤ maxLen := by simp [maxLen]; omega
 rcases A with _ | ad
 ·have hm : m = 0 := by
   rcases Nat.eq_zero_or_pos m with h0 | h0
   ·exact h0
   ·obtain ⟨_, _, hh, _⟩ := hS.at_ h0
    cases hh
  subst hm
  have hnw : news = [] := hS.drop0
  subst hnw
  have hrun := run_append_none (P := P) w base t o.type e i size ht hi v n xs hown c
  have hk := h v w (by simpa using hown) (But.refl _ _) (fun k hk => .inl hk)
  refine wpList_plain hgd fun K hK => ?_
  unfold Oper.wp execOp
  simp only [ho, resolve, invoke, builtin, Sem.run_bind, Sem.run_pure, Result.andThen_ok, List.map_toArray, List.map_cons, List.map_nil, hs, hx, hrun]
  exact hK _ _ hk
 ·have hcells : ∀ j u, news[j]? = some u → w.cell? (ad.add j) = some u := by
   intro j u hu
   rcases Nat.eq_zero_or_pos m with h0 | h0
   ·subst h0
    rw [hS.drop0] at hu
    simp at hu
   ·obtain ⟨b, o', hh, _, hc⟩ := hS.at_ h0
    injection hh with hh
    subst hh
    rw [addr_add]
    exact hc j u hu
  have hown0 := hown
  rcases hown.2 with ⟨rfl, h0⟩ | ⟨g, cap, cur, rfl, hbg, hg, hnc, hcm, hcs, htake⟩
  ·subst h0
   have hxs : xs = [] := List.eq_nil_of_length_eq_zero (by simpa using hown.1)
   subst hxs
   refine wpList_append_own w hgd s x t ho w.heap.size e i z size bytes ht hi hz hsize hby hzs hsz _ 0 [] hs (World.ownsRow_nil _ _ _ _) ad m c news hx hS.len hcells h1 h63 hby2 (Nat.le_refl _) ?_
   intro v' w' h2 h3 _
   exact h v' w' (own_lower h2 hbase) (But.ofGrown h3) (fun k hk => .inr (h2.lt k hk).1)
  ·by_cases hfit : n + m ≤ cap
   ·refine wpList_append_fits w hgd s x t ho base e i size ht hi hsize g n cap xs hs hown0 ad m c news hx hS.len hcells h1 hfit ?_
    intro w' h2 h3
    exact h _ w' h2 (But.ofGrown h3) (fun k hk => .inl hk)
   ·refine wpList_append_grows w hgd s x t ho e i z size bytes ht hi hz hsize hby hzs hsz (some ⟨g, 0, none⟩) n cap xs hs (by intro hh; cases hh) hown.1 ?_ ad m c news hx hS.len hcells h1 (by omega) h63 hby2 ?_
    ·intro b hb j u hj
     injection hb with hb
     subst hb
     exact hown0.cells rfl j u hj
    ·intro v' w' h2 h3
     exact h v' w' (own_lower h2 hbase) ((But.ofGrown h3).mono fun k _ hk => by cases hk) (fun k hk => .inr (h2.lt k hk).1)
end
section
open Go.RowKit Go.ChangeShapes Go.WideShapes Go.Deep Go.Joins
def clsC (x : I6) : List Value := [.int .i64 x.1, .int .i64 x.2.1, .int .i64 x.2.2.1, .int .i64 x.2.2.2.1, .int .u64 x.2.2.2.2.1, .int .u64 x.2.2.2.2.2]
theorem clsC_len (x : I6) : (clsC x).length = 6 := rfl
theorem clsC_one {l : List I6} : ∀ u ∈ l.flatMap clsC, u.oneCell' = true := by
 intro u hu
 obtain ⟨x, _, hx⟩ := List.mem_flatMap.1 hu
 unfold clsC at hx
 simp at hx
 rcases hx with rfl | rfl | rfl | rfl | rfl | rfl <;> rfl
theorem cls_info : (Tryz.prog.info? 79).map (fun i => (i.zero, i.size, i.bytes)) = some (some (.agg #[.int .i64 0, .int .i64 0, .int .i64 0, .int .i64 0, .int .u64 0, .int .u64 0]), 6, 48) := by kernel_rfl
def OwnCls (w : World) (base : Nat) (v : Value) (n : Nat) (l : List I6) : Prop := w.ownsRow base 79 6 v n (l.flatMap clsC)
theorem OwnCls.ext {w w' : World} {base n : Nat} {v : Value} {l : List I6} (h : OwnCls w base v n l) (hx : Ext w w') : OwnCls w' base v n l := own_keep h hx
theorem OwnCls.sl {w : World} {base n c : Nat} {A : Option Addr} {l : List I6} (h : OwnCls w base (.slice A n c) n l) : Sl w 6 A n c (l.flatMap clsC) := Sl.own h
theorem OwnCls.in_ {w : World} {base n c : Nat} {A : Option Addr} {l : List I6} (h : OwnCls w base (.slice A n c) n l) : ∀ k o s, A = some ⟨k, o, s⟩ → base ≤ k ∧ k < w.heap.size := by
 intro k o s e'
 subst e'
 exact World.ownsRow.lt h k rfl
theorem OwnCls.nil (w : World) (base : Nat) : OwnCls w base (.slice none 0 0) 0 [] := World.ownsRow_nil _ _ _ _
def RetCls (l : List I6) (w : World) (e : Ending) (w' : World) : Prop := ∃ A c, e = .returned (.slice A l.length c) ∧ (A = none → c = 0) ∧ OwnCls w' w.heap.size (.slice A l.length c) l.length l ∧ Ext w w'
theorem RetCls.mk {l : List I6} {w w' : World} {v : Value} (h : w'.ownsRow w.heap.size 79 6 v l.length (l.flatMap clsC)) (hx : Ext w w') : RetCls l w (.returned v) w' := by
 obtain ⟨A, c, rfl, h1, h2⟩ := own_parts2 h
 exact ⟨A, c, rfl, h1, h, hx⟩
theorem hcClone_any (A : Option Addr) (c : Nat) (l : List I6) (w : World) (h : Sl w 6 A l.length c (l.flatMap clsC)) (hn : l.length < 1099511627776) (hnil : A = none → c = 0) :
  Calls Tryz.prog 135 #[.slice A l.length c] w (RetCls l w) := by
 have q22 : ∀ (w : World) (a : Option Addr) (n c n' c' : Nat), (binOp .eql 22 (.slice a n c) (.slice none n' c')).run Tryz.prog w = .ok (.bool a.isNone) w := fun w a n c n' c' => Go.Lib.run_eql_slice_nil w _ _ a n c n' c' Tryz.underlying22
 rcases A with _ | a
 ·have hc := hnil rfl
  subst hc
  have h0 : l.length = 0 := by
   rcases Nat.eq_zero_or_pos l.length with h0 | h0
   ·exact h0
   ·obtain ⟨_, _, hh, _⟩ := h.at_ h0; cases hh
  have hL : l = [] := List.eq_nil_of_length_eq_zero h0
  subst hL
  clear h h0 hnil hn
  change Calls Tryz.prog 135 #[.slice none 0 0] w _
  go_enter Tryz.func135, Tryz.ntmps135
  go_wp2
  go_ret
  exact RetCls.mk (l := []) (World.ownsRow_nil _ _ _ _) (Ext.refl _)
 ·obtain ⟨i0, hi, hz0, hz1, hz2⟩ := info_parts cls_info
  have HS := Lib.hid h
  clear h hnil
  generalize hL : l.length = n at *
  replace hL := Lib.hid hL
  go_enter Tryz.func135, Tryz.ntmps135
  go_wp2_with (at_builtin; refine wpList_append_sl (w.alloc (.cells #[] 79)) rfl _ _ 22 rfl w.heap.size 79 i0 (.agg #[.int .i64 0, .int .i64 0, .int .i64 0, .int .i64 0, .int .u64 0, .int .u64 0]) 6 48 Tryz.underlying22 hi hz0 hz1 hz2 rfl (by decide) _ 0 [] (by rfl) (own_empty w _ _) (some a) n c (l.flatMap clsC) (by rfl) (HS.out.ext ((Ext.refl _).alloc _)) clsC_one (by omega) (by decide) (by simp) ?_; intro v1 w1 hown1 hb1; simp only [Nat.zero_add, List.nil_append] at hown1; have H := Lib.hid (show RetCls l w (.returned v1) w1 from RetCls.mk (by rw [hL.out]; exact hown1) (((Ext.refl w).alloc (.cells #[] 79)).below hb1)); clear hown1 hb1)
  go_ret
  exact H.out
theorem clsC_take {l : List I6} {k : Nat} {x : I6} (h : l[k]? = some x) : l.take (k + 1) = l.take k ++ [x] := by
 obtain ⟨hk, rfl⟩ := List.getElem?_eq_some_iff.1 h
 rw [List.take_succ_eq_append_getElem hk]
theorem clsC_eqIn0 (x0 y0 x1 y1 x2 y2 x3 y3 : Int) (w : World) : (Op.equalIn 9999 37 (.agg #[.int .i64 x0, .int .i64 x1, .int .i64 x2, .int .i64 x3]) (.agg #[.int .i64 y0, .int .i64 y1, .int .i64 y2, .int .i64 y3])).run Tryz.prog w = .ok (x0 == y0 && x1 == y1 && x2 == y2 && x3 == y3) w := by
 have hS : Tryz.prog.underlying 37 = some (.struct (Tryz.prog.fieldsOf 37)) := by kernel_rfl
 have hp : Tryz.prog.stoodInHeld 37 = false := by kernel_rfl
 rw [show (9999 : Nat) = 9998 + 1 from rfl, run_equalIn_agg w 9998 37 _ _ hS hp]
 simp only [Program.fieldsOf, Tryz.underlying37]
 go_simp
 by_cases h0 : x0 = y0 <;> by_cases h1 : x1 = y1 <;> by_cases h2 : x2 = y2 <;> by_cases h3 : x3 = y3 <;> simp [h0, h1, h2, h3]
theorem clsC_eqIn1 (x0 y0 x1 y1 : Int) (w : World) : (Op.equalIn 9999 61 (.agg #[.int .u64 x0, .int .u64 x1]) (.agg #[.int .u64 y0, .int .u64 y1])).run Tryz.prog w = .ok (x0 == y0 && x1 == y1) w := by
 have hS : Tryz.prog.underlying 61 = some (.struct (Tryz.prog.fieldsOf 61)) := by kernel_rfl
 have hp : Tryz.prog.stoodInHeld 61 = false := by kernel_rfl
 rw [show (9999 : Nat) = 9998 + 1 from rfl, run_equalIn_agg w 9998 61 _ _ hS hp]
 simp only [Program.fieldsOf, Tryz.underlying61]
 go_simp
 by_cases h0 : x0 = y0 <;> by_cases h1 : x1 = y1 <;> simp [h0, h1]
theorem clsC_eq (x0 y0 x1 y1 x2 y2 x3 y3 x4 y4 x5 y5 : Int) (w : World) : (binOp .eql 79 (.agg #[.int .i64 x0, .int .i64 x1, .int .i64 x2, .int .i64 x3, .int .u64 x4, .int .u64 x5]) (.agg #[.int .i64 y0, .int .i64 y1, .int .i64 y2, .int .i64 y3, .int .u64 y4, .int .u64 y5])).run Tryz.prog w = .ok (.bool (x0 == y0 && x1 == y1 && x2 == y2 && x3 == y3 && x4 == y4 && x5 == y5)) w := by
 have hS : Tryz.prog.underlying 79 = some (.struct (Tryz.prog.fieldsOf 79)) := by kernel_rfl
 have hp : Tryz.prog.stoodInHeld 79 = false := by kernel_rfl
 rw [run_eql_struct, show (10000 : Nat) = 9999 + 1 from rfl, run_equalIn_agg w 9999 79 _ _ hS hp]
 simp only [Program.fieldsOf, Tryz.underlying79]
 simp [go_sem, clsC_eqIn0, clsC_eqIn1, Op.eqFields]
 by_cases h0 : x0 = y0 <;> by_cases h1 : x1 = y1 <;> by_cases h2 : x2 = y2 <;> by_cases h3 : x3 = y3 <;> by_cases h4 : x4 = y4 <;> by_cases h5 : x5 = y5 <;> simp [h0, h1, h2, h3, h4, h5]
theorem clsC_eqg (op : BinOp) (x y : Operand) (xs ys : Array Value) (w : World) : (eqGuard op 79 x y (.agg xs) (.agg ys)).run Tryz.prog w = .ok () w := run_eqGuard_agg w op 79 x y xs ys (by kernel_rfl)
theorem kSameClasses_any (A B : Option Addr) (n c m d : Nat) (l r : List I6) (w : World) (h1 : Sl w 6 A n c (l.flatMap clsC)) (h2 : Sl w 6 B m d (r.flatMap clsC)) :
  Calls Tryz.prog 28 #[.slice A n c, .slice B m d] w fun e w' => e = .returned (.bool (decide (l = r))) ∧ Ext w w' := by
 have hl := h1.rlen clsC_len (by decide)
 have hr := h2.rlen clsC_len (by decide)
 have s1 := h1.small
 have s2 := h2.small
 by_cases hnm : n = m
 ·subst hnm
  have H1 := Lib.hid h1
  have H2 := Lib.hid h2
  have HL := Lib.hid (And.intro hl hr)
  have e0 : ((n : Int) == (n : Int)) = true := by simp
  have q1 := clsC_eq
  have q2 := clsC_eqg
  obtain ⟨bb, hbb⟩ : ∃ b, b = decide (l = r) := ⟨_, rfl⟩
  rw [← hbb]
  have HBB := Lib.hid hbb
  clear h1 h2 hl hr hbb
  go_enter Tryz.func28, Tryz.ntmps28
  go_wp2
  go_loopg [5, 6] n (fun gh q i wx => gh ≤ n ∧ i = .int .i64 ((n - gh : Nat) : Int) ∧ (∃ b : Bool, q = .bool b ∧ Hid (b = decide (l.take (n - gh) = r.take (n - gh)))) ∧ Ext w wx)
  case atStart => exact ⟨Nat.le_refl _, by simp, ⟨true, rfl, by rw [Nat.sub_self]; exact Lib.hid (by simp)⟩, Ext.refl _⟩
  case round =>
   obtain ⟨hg, hi, ⟨b, rfl, hb⟩, hx⟩ := hrel
   obtain ⟨k, hk⟩ : ∃ k, k = n - gk := ⟨_, rfl⟩
   rw [← hk] at hi hb
   subst hi
   have XR := Lib.hid hx
   cases b
   ·have hne : bb = false := by
     have h := hb.out
     rw [HBB.out]
     by_cases hlr : l = r
     ·subst hlr; simp at h
     ·exact decide_eq_false hlr
    subst hne
    clear hx hk hg hb
    go_wp2
    go_ret
    exact ⟨rfl, XR.out⟩
   ·by_cases hz : gk = 0
    ·have hkn : ¬ (k : Int) < n := by omega
     have hne : bb = true := by
      have h := hb.out
      rw [HBB.out]
      rw [List.take_of_length_le (by have := HL.out; omega), List.take_of_length_le (by have := HL.out; omega)] at h
      exact h.symm
     subst hne
     clear hx hk hg hb hz
     go_wp2
     go_ret
     exact ⟨rfl, XR.out⟩
    ·have hkn : (k : Int) < n := by omega
     have hk1 : k < l.length := by have := HL.out; omega
     have hk2 : k < r.length := by have := HL.out; omega
     obtain ⟨b1, o1, rfl, hb1, hc1⟩ := H1.out.rec_ clsC_len (show 0 < n from by omega)
     obtain ⟨b2, o2, rfl, hb2, hc2⟩ := H2.out.rec_ clsC_len (show 0 < n from by omega)
     have x_0 := XR.out.has (hc1 k _ (List.getElem?_eq_getElem hk1) 0 _ rfl)
     have x_1 := XR.out.has (hc1 k _ (List.getElem?_eq_getElem hk1) 1 _ rfl)
     have x_2 := XR.out.has (hc1 k _ (List.getElem?_eq_getElem hk1) 2 _ rfl)
     have x_3 := XR.out.has (hc1 k _ (List.getElem?_eq_getElem hk1) 3 _ rfl)
     have x_4 := XR.out.has (hc1 k _ (List.getElem?_eq_getElem hk1) 4 _ rfl)
     have x_5 := XR.out.has (hc1 k _ (List.getElem?_eq_getElem hk1) 5 _ rfl)
     have y_0 := XR.out.has (hc2 k _ (List.getElem?_eq_getElem hk2) 0 _ rfl)
     have y_1 := XR.out.has (hc2 k _ (List.getElem?_eq_getElem hk2) 1 _ rfl)
     have y_2 := XR.out.has (hc2 k _ (List.getElem?_eq_getElem hk2) 2 _ rfl)
     have y_3 := XR.out.has (hc2 k _ (List.getElem?_eq_getElem hk2) 3 _ rfl)
     have y_4 := XR.out.has (hc2 k _ (List.getElem?_eq_getElem hk2) 4 _ rfl)
     have y_5 := XR.out.has (hc2 k _ (List.getElem?_eq_getElem hk2) 5 _ rfl)
     have t1 := clsC_take (List.getElem?_eq_getElem hk1)
     have t2 := clsC_take (List.getElem?_eq_getElem hk2)
     obtain ⟨x, hxx⟩ : ∃ x, x = l[k] := ⟨_, rfl⟩
     obtain ⟨y, hyy⟩ : ∃ y, y = r[k] := ⟨_, rfl⟩
     rw [← hxx] at x_0 x_1 x_2 x_3 x_4 x_5 t1
     rw [← hyy] at y_0 y_1 y_2 y_3 y_4 y_5 t2
     have hstep : Hid (decide (x = y) = decide (l.take (k + 1) = r.take (k + 1))) := Lib.hid (by
      rw [t1, t2]
      have h := hb.out
      have h3 : l.take k = r.take k := by simpa using h.symm
      rw [h3]
      by_cases hxy : x = y
      ·subst hxy; simp
      ·rw [decide_eq_false hxy]
       exact (decide_eq_false (fun e => hxy (by simpa using e))).symm)
     obtain ⟨x0, x1, x2, x3, x4, x5⟩ := x
     obtain ⟨y0, y1, y2, y3, y4, y5⟩ := y
     simp only at x_0 y_0 x_1 y_1 x_2 y_2 x_3 y_3 x_4 y_4 x_5 y_5
     rw [Nat.add_zero] at x_0 y_0
     rw [← Nat.add_assoc] at x_1 y_1 x_2 y_2 x_3 y_3 x_4 y_4 x_5 y_5
     have HK := Lib.hid (And.intro hk (And.intro hg hz))
     clear hx hk hg hb hz hc1 hc2 t1 t2 hxx hyy hk1 hk2
     go_wp2_with fail
     refine wp_region_held_drew (S := fun w' => w'.cell? ⟨b1, o1 + k * 6, none⟩ = some (.int .i64 x0) ∧ w'.cell? ⟨b1, o1 + k * 6 + 1, none⟩ = some (.int .i64 x1) ∧ w'.cell? ⟨b1, o1 + k * 6 + 2, none⟩ = some (.int .i64 x2) ∧ w'.cell? ⟨b1, o1 + k * 6 + 3, none⟩ = some (.int .i64 x3) ∧ w'.cell? ⟨b1, o1 + k * 6 + 4, none⟩ = some (.int .u64 x4) ∧ w'.cell? ⟨b1, o1 + k * 6 + 5, none⟩ = some (.int .u64 x5) ∧ w'.cell? ⟨b2, o2 + k * 6, none⟩ = some (.int .i64 y0) ∧ w'.cell? ⟨b2, o2 + k * 6 + 1, none⟩ = some (.int .i64 y1) ∧ w'.cell? ⟨b2, o2 + k * 6 + 2, none⟩ = some (.int .i64 y2) ∧ w'.cell? ⟨b2, o2 + k * 6 + 3, none⟩ = some (.int .i64 y3) ∧ w'.cell? ⟨b2, o2 + k * 6 + 4, none⟩ = some (.int .u64 y4) ∧ w'.cell? ⟨b2, o2 + k * 6 + 5, none⟩ = some (.int .u64 y5)) (by kernel_rfl) (by first | exact ⟨x_0, x_1, x_2, x_3, x_4, x_5, y_0, y_1, y_2, y_3, y_4, y_5⟩ | (simp [go_sem, World.cell?_alloc_past, *]; done)) (fun hHeld => ?_)
     refine' zt 0 ?_
     refine' zt 1 ?_
     refine' zt 2 ?_
     refine' zt 3 ?_
     refine' zt 4 ?_
     refine' zt 5 ?_
     refine' zt 6 ?_
     refine' zt 7 ?_
     refine' zt 8 ?_
     refine' zt 9 ?_
     refine wpAnyH_done (by kernel_rfl) ?_ _
     go_wp2_with fail
     go_roundg (gk - 1)
     case measure => have := HK.out; omega
     case rel => exact ⟨by have := HK.out; omega, num_eq (by have := HK.out; omega), ⟨_, rfl, Lib.hid (by rw [show n - (gk - 1) = k + 1 from by have := HK.out; omega, ← hstep.out]; simp [Bool.and_assoc, Prod.ext_iff]; try (first | rfl | (apply Bool.eq_iff_iff.2; simp; done)))⟩, zxt⟩
 ·have hne : ¬ l = r := by rintro rfl; omega
  rw [decide_eq_false hne]
  have e0 : ((n : Int) == (m : Int)) = false := by simp; omega
  clear h1 h2 hl hr hne
  go_enter Tryz.func28, Tryz.ntmps28
  go_wp2
  go_loopg [5, 6] 0 (fun gh q i wx => q = .bool false ∧ i = .int .i64 0 ∧ wx = w)
  case atStart => exact ⟨rfl, rfl, rfl⟩
  case round =>
   obtain ⟨rfl, rfl, rfl⟩ := hrel
   go_wp2
   go_ret
   exact ⟨rfl, Ext.refl _⟩
end
section
open Go.RowKit Go.ChangeShapes Go.WideShapes Go.Deep Go.Joins
def posC (x : I6) : List Value := [.int .i64 x.1, .int .i64 x.2.1, .int .i64 x.2.2.1, .int .i64 x.2.2.2.1, .int .i64 x.2.2.2.2.1, .int .u64 x.2.2.2.2.2]
theorem posC_len (x : I6) : (posC x).length = 6 := rfl
theorem posC_one {l : List I6} : ∀ u ∈ l.flatMap posC, u.oneCell' = true := by
 intro u hu
 obtain ⟨x, _, hx⟩ := List.mem_flatMap.1 hu
 unfold posC at hx
 simp at hx
 rcases hx with rfl | rfl | rfl | rfl | rfl | rfl <;> rfl
theorem pos_info : (Tryz.prog.info? 82).map (fun i => (i.zero, i.size, i.bytes)) = some (some (.agg #[.int .i64 0, .int .i64 0, .int .i64 0, .int .i64 0, .int .i64 0, .int .u64 0]), 6, 48) := by kernel_rfl
def OwnPos (w : World) (base : Nat) (v : Value) (n : Nat) (l : List I6) : Prop := w.ownsRow base 82 6 v n (l.flatMap posC)
theorem OwnPos.ext {w w' : World} {base n : Nat} {v : Value} {l : List I6} (h : OwnPos w base v n l) (hx : Ext w w') : OwnPos w' base v n l := own_keep h hx
theorem OwnPos.sl {w : World} {base n c : Nat} {A : Option Addr} {l : List I6} (h : OwnPos w base (.slice A n c) n l) : Sl w 6 A n c (l.flatMap posC) := Sl.own h
theorem OwnPos.in_ {w : World} {base n c : Nat} {A : Option Addr} {l : List I6} (h : OwnPos w base (.slice A n c) n l) : ∀ k o s, A = some ⟨k, o, s⟩ → base ≤ k ∧ k < w.heap.size := by
 intro k o s e'
 subst e'
 exact World.ownsRow.lt h k rfl
theorem OwnPos.nil (w : World) (base : Nat) : OwnPos w base (.slice none 0 0) 0 [] := World.ownsRow_nil _ _ _ _
def RetPos (l : List I6) (w : World) (e : Ending) (w' : World) : Prop := ∃ A c, e = .returned (.slice A l.length c) ∧ (A = none → c = 0) ∧ OwnPos w' w.heap.size (.slice A l.length c) l.length l ∧ Ext w w'
theorem RetPos.mk {l : List I6} {w w' : World} {v : Value} (h : w'.ownsRow w.heap.size 82 6 v l.length (l.flatMap posC)) (hx : Ext w w') : RetPos l w (.returned v) w' := by
 obtain ⟨A, c, rfl, h1, h2⟩ := own_parts2 h
 exact ⟨A, c, rfl, h1, h, hx⟩
theorem hpClone_any (A : Option Addr) (c : Nat) (l : List I6) (w : World) (h : Sl w 6 A l.length c (l.flatMap posC)) (hn : l.length < 1099511627776) (hnil : A = none → c = 0) :
  Calls Tryz.prog 136 #[.slice A l.length c] w (RetPos l w) := by
 have q22 : ∀ (w : World) (a : Option Addr) (n c n' c' : Nat), (binOp .eql 23 (.slice a n c) (.slice none n' c')).run Tryz.prog w = .ok (.bool a.isNone) w := fun w a n c n' c' => Go.Lib.run_eql_slice_nil w _ _ a n c n' c' Tryz.underlying23
 rcases A with _ | a
 ·have hc := hnil rfl
  subst hc
  have h0 : l.length = 0 := by
   rcases Nat.eq_zero_or_pos l.length with h0 | h0
   ·exact h0
   ·obtain ⟨_, _, hh, _⟩ := h.at_ h0; cases hh
  have hL : l = [] := List.eq_nil_of_length_eq_zero h0
  subst hL
  clear h h0 hnil hn
  change Calls Tryz.prog 136 #[.slice none 0 0] w _
  go_enter Tryz.func136, Tryz.ntmps136
  go_wp2
  go_ret
  exact RetPos.mk (l := []) (World.ownsRow_nil _ _ _ _) (Ext.refl _)
 ·obtain ⟨i0, hi, hz0, hz1, hz2⟩ := info_parts pos_info
  have HS := Lib.hid h
  clear h hnil
  generalize hL : l.length = n at *
  replace hL := Lib.hid hL
  go_enter Tryz.func136, Tryz.ntmps136
  go_wp2_with (at_builtin; refine wpList_append_sl (w.alloc (.cells #[] 82)) rfl _ _ 23 rfl w.heap.size 82 i0 (.agg #[.int .i64 0, .int .i64 0, .int .i64 0, .int .i64 0, .int .i64 0, .int .u64 0]) 6 48 Tryz.underlying23 hi hz0 hz1 hz2 rfl (by decide) _ 0 [] (by rfl) (own_empty w _ _) (some a) n c (l.flatMap posC) (by rfl) (HS.out.ext ((Ext.refl _).alloc _)) posC_one (by omega) (by decide) (by simp) ?_; intro v1 w1 hown1 hb1; simp only [Nat.zero_add, List.nil_append] at hown1; have H := Lib.hid (show RetPos l w (.returned v1) w1 from RetPos.mk (by rw [hL.out]; exact hown1) (((Ext.refl w).alloc (.cells #[] 82)).below hb1)); clear hown1 hb1)
  go_ret
  exact H.out
theorem posC_take {l : List I6} {k : Nat} {x : I6} (h : l[k]? = some x) : l.take (k + 1) = l.take k ++ [x] := by
 obtain ⟨hk, rfl⟩ := List.getElem?_eq_some_iff.1 h
 rw [List.take_succ_eq_append_getElem hk]
theorem posC_eqIn (x0 y0 x1 y1 x2 y2 x3 y3 : Int) (w : World) : (Op.equalIn 9999 37 (.agg #[.int .i64 x0, .int .i64 x1, .int .i64 x2, .int .i64 x3]) (.agg #[.int .i64 y0, .int .i64 y1, .int .i64 y2, .int .i64 y3])).run Tryz.prog w = .ok (x0 == y0 && x1 == y1 && x2 == y2 && x3 == y3) w := by
 have hS : Tryz.prog.underlying 37 = some (.struct (Tryz.prog.fieldsOf 37)) := by kernel_rfl
 have hp : Tryz.prog.stoodInHeld 37 = false := by kernel_rfl
 rw [show (9999 : Nat) = 9998 + 1 from rfl, run_equalIn_agg w 9998 37 _ _ hS hp]
 simp only [Program.fieldsOf, Tryz.underlying37]
 go_simp
 by_cases h0 : x0 = y0 <;> by_cases h1 : x1 = y1 <;> by_cases h2 : x2 = y2 <;> by_cases h3 : x3 = y3 <;> simp [h0, h1, h2, h3]
theorem posC_eq (x0 y0 x1 y1 x2 y2 x3 y3 x4 y4 x5 y5 : Int) (w : World) : (binOp .eql 82 (.agg #[.int .i64 x0, .int .i64 x1, .int .i64 x2, .int .i64 x3, .int .i64 x4, .int .u64 x5]) (.agg #[.int .i64 y0, .int .i64 y1, .int .i64 y2, .int .i64 y3, .int .i64 y4, .int .u64 y5])).run Tryz.prog w = .ok (.bool (x0 == y0 && x1 == y1 && x2 == y2 && x3 == y3 && x4 == y4 && x5 == y5)) w := by
 have hS : Tryz.prog.underlying 82 = some (.struct (Tryz.prog.fieldsOf 82)) := by kernel_rfl
 have hp : Tryz.prog.stoodInHeld 82 = false := by kernel_rfl
 rw [run_eql_struct, show (10000 : Nat) = 9999 + 1 from rfl, run_equalIn_agg w 9999 82 _ _ hS hp]
 simp only [Program.fieldsOf, Tryz.underlying82]
 simp [go_sem, posC_eqIn, Op.eqFields]
 by_cases h0 : x0 = y0 <;> by_cases h1 : x1 = y1 <;> by_cases h2 : x2 = y2 <;> by_cases h3 : x3 = y3 <;> by_cases h4 : x4 = y4 <;> by_cases h5 : x5 = y5 <;> simp [h0, h1, h2, h3, h4, h5]
theorem posC_eqg (op : BinOp) (x y : Operand) (xs ys : Array Value) (w : World) : (eqGuard op 82 x y (.agg xs) (.agg ys)).run Tryz.prog w = .ok () w := run_eqGuard_agg w op 82 x y xs ys (by kernel_rfl)
theorem kSamePositions_any (A B : Option Addr) (n c m d : Nat) (l r : List I6) (w : World) (h1 : Sl w 6 A n c (l.flatMap posC)) (h2 : Sl w 6 B m d (r.flatMap posC)) :
  Calls Tryz.prog 24 #[.slice A n c, .slice B m d] w fun e w' => e = .returned (.bool (decide (l = r))) ∧ Ext w w' := by
 have hl := h1.rlen posC_len (by decide)
 have hr := h2.rlen posC_len (by decide)
 have s1 := h1.small
 have s2 := h2.small
 by_cases hnm : n = m
 ·subst hnm
  have H1 := Lib.hid h1
  have H2 := Lib.hid h2
  have HL := Lib.hid (And.intro hl hr)
  have e0 : ((n : Int) == (n : Int)) = true := by simp
  have q1 := posC_eq
  have q2 := posC_eqg
  obtain ⟨bb, hbb⟩ : ∃ b, b = decide (l = r) := ⟨_, rfl⟩
  rw [← hbb]
  have HBB := Lib.hid hbb
  clear h1 h2 hl hr hbb
  go_enter Tryz.func24, Tryz.ntmps24
  go_wp2
  go_loopg [5, 6] n (fun gh q i wx => gh ≤ n ∧ i = .int .i64 ((n - gh : Nat) : Int) ∧ (∃ b : Bool, q = .bool b ∧ Hid (b = decide (l.take (n - gh) = r.take (n - gh)))) ∧ Ext w wx)
  case atStart => exact ⟨Nat.le_refl _, by simp, ⟨true, rfl, by rw [Nat.sub_self]; exact Lib.hid (by simp)⟩, Ext.refl _⟩
  case round =>
   obtain ⟨hg, hi, ⟨b, rfl, hb⟩, hx⟩ := hrel
   obtain ⟨k, hk⟩ : ∃ k, k = n - gk := ⟨_, rfl⟩
   rw [← hk] at hi hb
   subst hi
   have XR := Lib.hid hx
   cases b
   ·have hne : bb = false := by
     have h := hb.out
     rw [HBB.out]
     by_cases hlr : l = r
     ·subst hlr; simp at h
     ·exact decide_eq_false hlr
    subst hne
    clear hx hk hg hb
    go_wp2
    go_ret
    exact ⟨rfl, XR.out⟩
   ·by_cases hz : gk = 0
    ·have hkn : ¬ (k : Int) < n := by omega
     have hne : bb = true := by
      have h := hb.out
      rw [HBB.out]
      rw [List.take_of_length_le (by have := HL.out; omega), List.take_of_length_le (by have := HL.out; omega)] at h
      exact h.symm
     subst hne
     clear hx hk hg hb hz
     go_wp2
     go_ret
     exact ⟨rfl, XR.out⟩
    ·have hkn : (k : Int) < n := by omega
     have hk1 : k < l.length := by have := HL.out; omega
     have hk2 : k < r.length := by have := HL.out; omega
     obtain ⟨b1, o1, rfl, hb1, hc1⟩ := H1.out.rec_ posC_len (show 0 < n from by omega)
     obtain ⟨b2, o2, rfl, hb2, hc2⟩ := H2.out.rec_ posC_len (show 0 < n from by omega)
     have x_0 := XR.out.has (hc1 k _ (List.getElem?_eq_getElem hk1) 0 _ rfl)
     have x_1 := XR.out.has (hc1 k _ (List.getElem?_eq_getElem hk1) 1 _ rfl)
     have x_2 := XR.out.has (hc1 k _ (List.getElem?_eq_getElem hk1) 2 _ rfl)
     have x_3 := XR.out.has (hc1 k _ (List.getElem?_eq_getElem hk1) 3 _ rfl)
     have x_4 := XR.out.has (hc1 k _ (List.getElem?_eq_getElem hk1) 4 _ rfl)
     have x_5 := XR.out.has (hc1 k _ (List.getElem?_eq_getElem hk1) 5 _ rfl)
     have y_0 := XR.out.has (hc2 k _ (List.getElem?_eq_getElem hk2) 0 _ rfl)
     have y_1 := XR.out.has (hc2 k _ (List.getElem?_eq_getElem hk2) 1 _ rfl)
     have y_2 := XR.out.has (hc2 k _ (List.getElem?_eq_getElem hk2) 2 _ rfl)
     have y_3 := XR.out.has (hc2 k _ (List.getElem?_eq_getElem hk2) 3 _ rfl)
     have y_4 := XR.out.has (hc2 k _ (List.getElem?_eq_getElem hk2) 4 _ rfl)
     have y_5 := XR.out.has (hc2 k _ (List.getElem?_eq_getElem hk2) 5 _ rfl)
     have t1 := posC_take (List.getElem?_eq_getElem hk1)
     have t2 := posC_take (List.getElem?_eq_getElem hk2)
     obtain ⟨x, hxx⟩ : ∃ x, x = l[k] := ⟨_, rfl⟩
     obtain ⟨y, hyy⟩ : ∃ y, y = r[k] := ⟨_, rfl⟩
     rw [← hxx] at x_0 x_1 x_2 x_3 x_4 x_5 t1
     rw [← hyy] at y_0 y_1 y_2 y_3 y_4 y_5 t2
     have hstep : Hid (decide (x = y) = decide (l.take (k + 1) = r.take (k + 1))) := Lib.hid (by
      rw [t1, t2]
      have h := hb.out
      have h3 : l.take k = r.take k := by simpa using h.symm
      rw [h3]
      by_cases hxy : x = y
      ·subst hxy; simp
      ·rw [decide_eq_false hxy]
       exact (decide_eq_false (fun e => hxy (by simpa using e))).symm)
     obtain ⟨x0, x1, x2, x3, x4, x5⟩ := x
     obtain ⟨y0, y1, y2, y3, y4, y5⟩ := y
     simp only at x_0 y_0 x_1 y_1 x_2 y_2 x_3 y_3 x_4 y_4 x_5 y_5
     rw [Nat.add_zero] at x_0 y_0
     rw [← Nat.add_assoc] at x_1 y_1 x_2 y_2 x_3 y_3 x_4 y_4 x_5 y_5
     have HK := Lib.hid (And.intro hk (And.intro hg hz))
     clear hx hk hg hb hz hc1 hc2 t1 t2 hxx hyy hk1 hk2
     go_wp2_with fail
     refine wp_region_held_drew (S := fun w' => w'.cell? ⟨b1, o1 + k * 6, none⟩ = some (.int .i64 x0) ∧ w'.cell? ⟨b1, o1 + k * 6 + 1, none⟩ = some (.int .i64 x1) ∧ w'.cell? ⟨b1, o1 + k * 6 + 2, none⟩ = some (.int .i64 x2) ∧ w'.cell? ⟨b1, o1 + k * 6 + 3, none⟩ = some (.int .i64 x3) ∧ w'.cell? ⟨b1, o1 + k * 6 + 4, none⟩ = some (.int .i64 x4) ∧ w'.cell? ⟨b1, o1 + k * 6 + 5, none⟩ = some (.int .u64 x5) ∧ w'.cell? ⟨b2, o2 + k * 6, none⟩ = some (.int .i64 y0) ∧ w'.cell? ⟨b2, o2 + k * 6 + 1, none⟩ = some (.int .i64 y1) ∧ w'.cell? ⟨b2, o2 + k * 6 + 2, none⟩ = some (.int .i64 y2) ∧ w'.cell? ⟨b2, o2 + k * 6 + 3, none⟩ = some (.int .i64 y3) ∧ w'.cell? ⟨b2, o2 + k * 6 + 4, none⟩ = some (.int .i64 y4) ∧ w'.cell? ⟨b2, o2 + k * 6 + 5, none⟩ = some (.int .u64 y5)) (by kernel_rfl) (by first | exact ⟨x_0, x_1, x_2, x_3, x_4, x_5, y_0, y_1, y_2, y_3, y_4, y_5⟩ | (simp [go_sem, World.cell?_alloc_past, *]; done)) (fun hHeld => ?_)
     refine' zt 0 ?_
     refine' zt 1 ?_
     refine' zt 2 ?_
     refine' zt 3 ?_
     refine' zt 4 ?_
     refine' zt 5 ?_
     refine' zt 6 ?_
     refine' zt 7 ?_
     refine' zt 8 ?_
     refine' zt 9 ?_
     refine wpAnyH_done (by kernel_rfl) ?_ _
     go_wp2_with fail
     go_roundg (gk - 1)
     case measure => have := HK.out; omega
     case rel => exact ⟨by have := HK.out; omega, num_eq (by have := HK.out; omega), ⟨_, rfl, Lib.hid (by rw [show n - (gk - 1) = k + 1 from by have := HK.out; omega, ← hstep.out]; simp [Bool.and_assoc, Prod.ext_iff]; try (first | rfl | (apply Bool.eq_iff_iff.2; simp; done)))⟩, zxt⟩
 ·have hne : ¬ l = r := by rintro rfl; omega
  rw [decide_eq_false hne]
  have e0 : ((n : Int) == (m : Int)) = false := by simp; omega
  clear h1 h2 hl hr hne
  go_enter Tryz.func24, Tryz.ntmps24
  go_wp2
  go_loopg [5, 6] 0 (fun gh q i wx => q = .bool false ∧ i = .int .i64 0 ∧ wx = w)
  case atStart => exact ⟨rfl, rfl, rfl⟩
  case round =>
   obtain ⟨rfl, rfl, rfl⟩ := hrel
   go_wp2
   go_ret
   exact ⟨rfl, Ext.refl _⟩
end
section
open Go.RowKit Go.ChangeShapes Go.WideShapes Go.Deep Go.Joins
def Found {α : Type} (l : List α) (f : α → Int) (m : Nat) (b : Bool) : Prop := m ≤ l.length ∧ (b = true ↔ ∃ x, l[m]? = some x ∧ f x = 0) ∧ (∀ M, M ≤ l.length → (∀ (k : Nat) x, l[k]? = some x → (f x < 0 ↔ k < M)) → m = M)
theorem cSearch_at (g : Nat) (bd cp : Array Value) (A : Option Addr) (n c : Nat) (l : List I6) (f : I6 → Int) (w : World) (eg : ∀ args w, (callFunc g args).run Tryz.prog w = .ok (.enter g args) w) (h : Sl w 6 A n c (l.flatMap clsC)) (hn : n < 1099511627776)
  (hf : ∀ (wx : World) (x : I6), x ∈ l → Ext w wx → Calls Tryz.prog g (bd ++ #[.agg #[.int .i64 x.1, .int .i64 x.2.1, .int .i64 x.2.2.1, .int .i64 x.2.2.2.1, .int .u64 x.2.2.2.2.1, .int .u64 x.2.2.2.2.2]] ++ cp) wx fun e w' => e = .returned (.int .i64 (f x)) ∧ Ext wx w') :
  Calls Tryz.prog 182 #[.slice A n c, .func (.func g) bd cp] w fun e w' => ∃ (m : Nat) (b : Bool), e = .returned (.tuple #[.int .i64 m, .bool b]) ∧ Found l f m b ∧ Ext w w' := by
 have hll := h.rlen clsC_len (by decide)
 have HF := Lib.hid hf
 have HS := Lib.hid h
 clear hf h
 go_enter Tryz.func182, Tryz.ntmps182
 go_wp2
 go_loopg [6, 7] n (fun gh s6 s7 wr => ∃ (lo hi : Nat), s6 = .int .i64 lo ∧ s7 = .int .i64 hi ∧ lo ≤ hi ∧ hi ≤ n ∧ hi - lo ≤ gh ∧ Hid (Ext w wr) ∧ Hid (∀ M, M ≤ l.length → (∀ (k : Nat) x, l[k]? = some x → (f x < 0 ↔ k < M)) → lo ≤ M ∧ M ≤ hi))
 case atStart => exact ⟨0, n, rfl, rfl, Nat.zero_le _, Nat.le_refl _, by omega, Lib.hid (Ext.refl _), Lib.hid (fun M hM _ => ⟨Nat.zero_le _, by omega⟩)⟩
 case round =>
  obtain ⟨lo, hi, rfl, rfl, h2, h3, h4, X, HM⟩ := hrel
  by_cases hlt : lo < hi
  ·obtain ⟨mid, hmid, hm1, hm2⟩ : ∃ mid : Nat, ((lo : Int) + (hi : Int)) / 2 = (mid : Int) ∧ lo ≤ mid ∧ mid < hi := ⟨(lo + hi) / 2, by omega, by omega, by omega⟩
   obtain ⟨b1, o1, hA1, hb1, hc_x⟩ := HS.out.rec_ clsC_len (show 0 < n from by omega)
   obtain ⟨xw, hl_x⟩ : ∃ x, l[mid]? = some x := ⟨_, List.getElem?_eq_getElem (by omega)⟩
   have x_0 := X.out.has (hc_x mid xw hl_x 0 _ rfl)
   have x_1 := X.out.has (hc_x mid xw hl_x 1 _ rfl)
   have x_2 := X.out.has (hc_x mid xw hl_x 2 _ rfl)
   have x_3 := X.out.has (hc_x mid xw hl_x 3 _ rfl)
   have x_4 := X.out.has (hc_x mid xw hl_x 4 _ rfl)
   have x_5 := X.out.has (hc_x mid xw hl_x 5 _ rfl)
   rw [Nat.add_zero] at x_0
   rw [← Nat.add_assoc] at x_1 x_2 x_3 x_4 x_5
   clear hc_x
   have hc := HF.out wr xw (List.mem_of_getElem? hl_x) X.out
   obtain rfl := hA1
   by_cases hneg : f xw < 0
   ·have HM2 : Hid (∀ M, M ≤ l.length → (∀ (k : Nat) x, l[k]? = some x → (f x < 0 ↔ k < M)) → mid + 1 ≤ M ∧ M ≤ hi) := Lib.hid (fun M hM hk => ⟨(hk mid xw hl_x).1 hneg, (HM.out M hM hk).2⟩)
    go_wp2_with (go_at_fn g; refine hc.mono ?_; rintro e w' ⟨rfl, hx⟩; have X2 := Lib.hid (Ext.trans X.out hx); clear hx hc x_0 x_1 x_2 x_3 x_4 x_5)
    go_roundg (hi - (mid + 1))
    case measure => omega
    case rel => exact ⟨mid + 1, hi, by go_num, rfl, by omega, h3, by omega, X2, HM2⟩
   ·have HM2 : Hid (∀ M, M ≤ l.length → (∀ (k : Nat) x, l[k]? = some x → (f x < 0 ↔ k < M)) → lo ≤ M ∧ M ≤ mid) := Lib.hid (fun M hM hk => ⟨(HM.out M hM hk).1, by have := (hk mid xw hl_x).2; omega⟩)
    go_wp2_with (go_at_fn g; refine hc.mono ?_; rintro e w' ⟨rfl, hx⟩; have X2 := Lib.hid (Ext.trans X.out hx); clear hx hc x_0 x_1 x_2 x_3 x_4 x_5)
    go_roundg (mid - lo)
    case measure => omega
    case rel => exact ⟨lo, mid, rfl, by first | rfl | rw [hmid], hm1, by omega, by omega, X2, HM2⟩
  ·obtain rfl : hi = lo := by omega
   have HF2 : ∀ b, (b = true ↔ ∃ x, l[hi]? = some x ∧ f x = 0) → Found l f hi b := fun b hb => ⟨by omega, hb, fun M hM hk => by have := HM.out M hM hk; omega⟩
   by_cases hn2 : hi < n
   ·skip
    obtain ⟨b1, o1, hA1, hb1, hc_x⟩ := HS.out.rec_ clsC_len (show 0 < n from by omega)
    obtain ⟨xw, hl_x⟩ : ∃ x, l[hi]? = some x := ⟨_, List.getElem?_eq_getElem (by omega)⟩
    have x_0 := X.out.has (hc_x hi xw hl_x 0 _ rfl)
    have x_1 := X.out.has (hc_x hi xw hl_x 1 _ rfl)
    have x_2 := X.out.has (hc_x hi xw hl_x 2 _ rfl)
    have x_3 := X.out.has (hc_x hi xw hl_x 3 _ rfl)
    have x_4 := X.out.has (hc_x hi xw hl_x 4 _ rfl)
    have x_5 := X.out.has (hc_x hi xw hl_x 5 _ rfl)
    rw [Nat.add_zero] at x_0
    rw [← Nat.add_assoc] at x_1 x_2 x_3 x_4 x_5
    clear hc_x
    have hc := HF.out wr xw (List.mem_of_getElem? hl_x) X.out
    obtain rfl := hA1
    go_wp2_with (go_at_fn g; refine hc.mono ?_; rintro e w' ⟨rfl, hx⟩; have X2 := Lib.hid (Ext.trans X.out hx); clear hx hc x_0 x_1 x_2 x_3 x_4 x_5)
    refine bodyPost_ret (v := .tuple #[.int .i64 hi, .bool (decide (f xw = 0))]) (by simp [results, Tryz.results182, go_sem]; try rfl) rfl ?_
    refine ⟨hi, decide (f xw = 0), rfl, HF2 _ ?_, X2.out⟩
    rw [hl_x]
    constructor
    ·intro hd; exact ⟨xw, rfl, of_decide_eq_true hd⟩
    ·rintro ⟨x, hx, h0⟩; obtain rfl := Option.some.inj hx; exact decide_eq_true h0
   ·go_wp2
    refine bodyPost_ret (v := .tuple #[.int .i64 hi, .bool false]) (by simp [results, Tryz.results182, go_sem]; try rfl) rfl ?_
    refine ⟨hi, false, rfl, HF2 _ ?_, X.out⟩
    rw [List.getElem?_eq_none (by omega)]
    constructor
    ·intro hd; cases hd
    ·rintro ⟨x, hx, h0⟩; cases hx
theorem pSearch_at (g : Nat) (bd cp : Array Value) (A : Option Addr) (n c : Nat) (l : List I6) (f : I6 → Int) (w : World) (eg : ∀ args w, (callFunc g args).run Tryz.prog w = .ok (.enter g args) w) (h : Sl w 6 A n c (l.flatMap posC)) (hn : n < 1099511627776)
  (hf : ∀ (wx : World) (x : I6), x ∈ l → Ext w wx → Calls Tryz.prog g (bd ++ #[.agg #[.int .i64 x.1, .int .i64 x.2.1, .int .i64 x.2.2.1, .int .i64 x.2.2.2.1, .int .i64 x.2.2.2.2.1, .int .u64 x.2.2.2.2.2]] ++ cp) wx fun e w' => e = .returned (.int .i64 (f x)) ∧ Ext wx w') :
  Calls Tryz.prog 186 #[.slice A n c, .func (.func g) bd cp] w fun e w' => ∃ (m : Nat) (b : Bool), e = .returned (.tuple #[.int .i64 m, .bool b]) ∧ Found l f m b ∧ Ext w w' := by
 have hll := h.rlen posC_len (by decide)
 have HF := Lib.hid hf
 have HS := Lib.hid h
 clear hf h
 go_enter Tryz.func186, Tryz.ntmps186
 go_wp2
 go_loopg [6, 7] n (fun gh s6 s7 wr => ∃ (lo hi : Nat), s6 = .int .i64 lo ∧ s7 = .int .i64 hi ∧ lo ≤ hi ∧ hi ≤ n ∧ hi - lo ≤ gh ∧ Hid (Ext w wr) ∧ Hid (∀ M, M ≤ l.length → (∀ (k : Nat) x, l[k]? = some x → (f x < 0 ↔ k < M)) → lo ≤ M ∧ M ≤ hi))
 case atStart => exact ⟨0, n, rfl, rfl, Nat.zero_le _, Nat.le_refl _, by omega, Lib.hid (Ext.refl _), Lib.hid (fun M hM _ => ⟨Nat.zero_le _, by omega⟩)⟩
 case round =>
  obtain ⟨lo, hi, rfl, rfl, h2, h3, h4, X, HM⟩ := hrel
  by_cases hlt : lo < hi
  ·obtain ⟨mid, hmid, hm1, hm2⟩ : ∃ mid : Nat, ((lo : Int) + (hi : Int)) / 2 = (mid : Int) ∧ lo ≤ mid ∧ mid < hi := ⟨(lo + hi) / 2, by omega, by omega, by omega⟩
   obtain ⟨b1, o1, hA1, hb1, hc_x⟩ := HS.out.rec_ posC_len (show 0 < n from by omega)
   obtain ⟨xw, hl_x⟩ : ∃ x, l[mid]? = some x := ⟨_, List.getElem?_eq_getElem (by omega)⟩
   have x_0 := X.out.has (hc_x mid xw hl_x 0 _ rfl)
   have x_1 := X.out.has (hc_x mid xw hl_x 1 _ rfl)
   have x_2 := X.out.has (hc_x mid xw hl_x 2 _ rfl)
   have x_3 := X.out.has (hc_x mid xw hl_x 3 _ rfl)
   have x_4 := X.out.has (hc_x mid xw hl_x 4 _ rfl)
   have x_5 := X.out.has (hc_x mid xw hl_x 5 _ rfl)
   rw [Nat.add_zero] at x_0
   rw [← Nat.add_assoc] at x_1 x_2 x_3 x_4 x_5
   clear hc_x
   have hc := HF.out wr xw (List.mem_of_getElem? hl_x) X.out
   obtain rfl := hA1
   by_cases hneg : f xw < 0
   ·have HM2 : Hid (∀ M, M ≤ l.length → (∀ (k : Nat) x, l[k]? = some x → (f x < 0 ↔ k < M)) → mid + 1 ≤ M ∧ M ≤ hi) := Lib.hid (fun M hM hk => ⟨(hk mid xw hl_x).1 hneg, (HM.out M hM hk).2⟩)
    go_wp2_with (go_at_fn g; refine hc.mono ?_; rintro e w' ⟨rfl, hx⟩; have X2 := Lib.hid (Ext.trans X.out hx); clear hx hc x_0 x_1 x_2 x_3 x_4 x_5)
    go_roundg (hi - (mid + 1))
    case measure => omega
    case rel => exact ⟨mid + 1, hi, by go_num, rfl, by omega, h3, by omega, X2, HM2⟩
   ·have HM2 : Hid (∀ M, M ≤ l.length → (∀ (k : Nat) x, l[k]? = some x → (f x < 0 ↔ k < M)) → lo ≤ M ∧ M ≤ mid) := Lib.hid (fun M hM hk => ⟨(HM.out M hM hk).1, by have := (hk mid xw hl_x).2; omega⟩)
    go_wp2_with (go_at_fn g; refine hc.mono ?_; rintro e w' ⟨rfl, hx⟩; have X2 := Lib.hid (Ext.trans X.out hx); clear hx hc x_0 x_1 x_2 x_3 x_4 x_5)
    go_roundg (mid - lo)
    case measure => omega
    case rel => exact ⟨lo, mid, rfl, by first | rfl | rw [hmid], hm1, by omega, by omega, X2, HM2⟩
  ·obtain rfl : hi = lo := by omega
   have HF2 : ∀ b, (b = true ↔ ∃ x, l[hi]? = some x ∧ f x = 0) → Found l f hi b := fun b hb => ⟨by omega, hb, fun M hM hk => by have := HM.out M hM hk; omega⟩
   by_cases hn2 : hi < n
   ·skip
    obtain ⟨b1, o1, hA1, hb1, hc_x⟩ := HS.out.rec_ posC_len (show 0 < n from by omega)
    obtain ⟨xw, hl_x⟩ : ∃ x, l[hi]? = some x := ⟨_, List.getElem?_eq_getElem (by omega)⟩
    have x_0 := X.out.has (hc_x hi xw hl_x 0 _ rfl)
    have x_1 := X.out.has (hc_x hi xw hl_x 1 _ rfl)
    have x_2 := X.out.has (hc_x hi xw hl_x 2 _ rfl)
    have x_3 := X.out.has (hc_x hi xw hl_x 3 _ rfl)
    have x_4 := X.out.has (hc_x hi xw hl_x 4 _ rfl)
    have x_5 := X.out.has (hc_x hi xw hl_x 5 _ rfl)
    rw [Nat.add_zero] at x_0
    rw [← Nat.add_assoc] at x_1 x_2 x_3 x_4 x_5
    clear hc_x
    have hc := HF.out wr xw (List.mem_of_getElem? hl_x) X.out
    obtain rfl := hA1
    go_wp2_with (go_at_fn g; refine hc.mono ?_; rintro e w' ⟨rfl, hx⟩; have X2 := Lib.hid (Ext.trans X.out hx); clear hx hc x_0 x_1 x_2 x_3 x_4 x_5)
    refine bodyPost_ret (v := .tuple #[.int .i64 hi, .bool (decide (f xw = 0))]) (by simp [results, Tryz.results186, go_sem]; try rfl) rfl ?_
    refine ⟨hi, decide (f xw = 0), rfl, HF2 _ ?_, X2.out⟩
    rw [hl_x]
    constructor
    ·intro hd; exact ⟨xw, rfl, of_decide_eq_true hd⟩
    ·rintro ⟨x, hx, h0⟩; obtain rfl := Option.some.inj hx; exact decide_eq_true h0
   ·go_wp2
    refine bodyPost_ret (v := .tuple #[.int .i64 hi, .bool false]) (by simp [results, Tryz.results186, go_sem]; try rfl) rfl ?_
    refine ⟨hi, false, rfl, HF2 _ ?_, X.out⟩
    rw [List.getElem?_eq_none (by omega)]
    constructor
    ·intro hd; cases hd
    ·rintro ⟨x, hx, h0⟩; cases hx
end
section
open Go.RowKit Go.ChangeShapes Go.WideShapes Go.Deep Go.Joins
def cmpI (x y : Int) : Int := if x < y then -1 else if y < x then 1 else 0
theorem cmpNaN_any (x : Int) (w : World) : Calls Tryz.prog 195 #[.int .i64 x] w fun r w' => r = .returned (.bool false) ∧ w' = w := by
 go_enter Tryz.func195, Tryz.ntmps195
 go_wp2
 go_ret
 exact ⟨by first | rfl | (simp; done), rfl⟩
theorem cmpCompare_any (x y : Int) (w : World) : Calls Tryz.prog 171 #[.int .i64 x, .int .i64 y] w fun r w' => r = .returned (.int .i64 (cmpI x y)) ∧ w' = w := by
 unfold cmpI
 by_cases h1 : x < y
 ·rw [if_pos h1]
  go_enter Tryz.func171, Tryz.ntmps171
  go_wp2_with fail
  (with_reducible refine (cmpNaN_any _ _).mono ?_)
  rintro e w' ⟨rfl, rfl⟩
  go_wp2_with fail
  (with_reducible refine (cmpNaN_any _ _).mono ?_)
  rintro e w' ⟨rfl, rfl⟩
  go_wp2_with fail
  go_ret
  exact ⟨rfl, rfl⟩
 ·rw [if_neg h1]
  by_cases h2 : y < x
  ·rw [if_pos h2]
   go_enter Tryz.func171, Tryz.ntmps171
   go_wp2_with fail
   (with_reducible refine (cmpNaN_any _ _).mono ?_)
   rintro e w' ⟨rfl, rfl⟩
   go_wp2_with fail
   (with_reducible refine (cmpNaN_any _ _).mono ?_)
   rintro e w' ⟨rfl, rfl⟩
   go_wp2_with fail
   go_ret
   exact ⟨rfl, rfl⟩
  ·rw [if_neg h2]
   go_enter Tryz.func171, Tryz.ntmps171
   go_wp2_with fail
   (with_reducible refine (cmpNaN_any _ _).mono ?_)
   rintro e w' ⟨rfl, rfl⟩
   go_wp2_with fail
   (with_reducible refine (cmpNaN_any _ _).mono ?_)
   rintro e w' ⟨rfl, rfl⟩
   go_wp2_with fail
   go_ret
   exact ⟨rfl, rfl⟩
theorem cmpOr_two (x y : Int) (b o c : Nat) (w : World) (h0 : w.cell? ⟨b, o, none⟩ = some (.int .i64 x)) (h1 : w.cell? ⟨b, o + 1, none⟩ = some (.int .i64 y)) :
  Calls Tryz.prog 170 #[.slice (some ⟨b, o, none⟩) 2 c] w fun r w' => r = .returned (.int .i64 (if x ≠ 0 then x else y)) ∧ w' = w := by
 go_enter Tryz.func170, Tryz.ntmps170
 go_wp2
 go_loopg [8] 2 (fun gh s8 wr => ∃ (k : Nat), s8 = .int .i64 k ∧ k ≤ 2 ∧ 2 - k ≤ gh ∧ wr = w ∧ (0 < k → x = 0) ∧ (1 < k → y = 0))
 case atStart => exact ⟨0, rfl, by omega, by omega, rfl, by omega, by omega⟩
 case round =>
  obtain ⟨k, rfl, h2, h3, rfl, h4, h5⟩ := hrel
  rcases (show k = 0 ∨ k = 1 ∨ k = 2 from by omega) with rfl | rfl | rfl
  ·by_cases hx : x = 0
   ·go_wp2
    go_roundg 1
    case measure => omega
    case rel => exact ⟨1, by go_num, by omega, by omega, rfl, fun _ => hx, by omega⟩
   ·go_wp2
    go_ret
    exact ⟨rfl, rfl⟩
  ·obtain rfl := h4 (by omega)
   by_cases hy : y = 0
   ·go_wp2
    go_roundg 0
    case measure => omega
    case rel => exact ⟨2, by go_num, by omega, by omega, rfl, fun _ => by first | rfl | trivial, fun _ => hy⟩
   ·go_wp2
    go_ret
    exact ⟨by simp, rfl⟩
  ·obtain rfl := h4 (by omega)
   obtain rfl := h5 (by omega)
   go_wp2
   go_ret
   exact ⟨by simp, rfl⟩
theorem cmpOrE_two (x y : Int) (b o c : Nat) (w : World) (h0 : w.cell? ⟨b, o, none⟩ = some (.int .i64 x)) (h1 : w.cell? ⟨b, o + 1, none⟩ = some (.int .i64 y)) :
  Calls Tryz.prog 123 #[.slice (some ⟨b, o, none⟩) 2 c] w fun r w' => r = .returned (.int .i64 (if x ≠ 0 then x else y)) ∧ w' = w := by
 go_enter Tryz.func123, Tryz.ntmps123
 go_wp2
 go_loopg [8] 2 (fun gh s8 wr => ∃ (k : Nat), s8 = .int .i64 k ∧ k ≤ 2 ∧ 2 - k ≤ gh ∧ wr = w ∧ (0 < k → x = 0) ∧ (1 < k → y = 0))
 case atStart => exact ⟨0, rfl, by omega, by omega, rfl, by omega, by omega⟩
 case round =>
  obtain ⟨k, rfl, h2, h3, rfl, h4, h5⟩ := hrel
  rcases (show k = 0 ∨ k = 1 ∨ k = 2 from by omega) with rfl | rfl | rfl
  ·by_cases hx : x = 0
   ·go_wp2
    go_roundg 1
    case measure => omega
    case rel => exact ⟨1, by go_num, by omega, by omega, rfl, fun _ => hx, by omega⟩
   ·go_wp2
    go_ret
    exact ⟨rfl, rfl⟩
  ·obtain rfl := h4 (by omega)
   by_cases hy : y = 0
   ·go_wp2
    go_roundg 0
    case measure => omega
    case rel => exact ⟨2, by go_num, by omega, by omega, rfl, fun _ => by first | rfl | trivial, fun _ => hy⟩
   ·go_wp2
    go_ret
    exact ⟨by simp, rfl⟩
  ·obtain rfl := h4 (by omega)
   obtain rfl := h5 (by omega)
   go_wp2
   go_ret
   exact ⟨by simp, rfl⟩
theorem cmpOr_at (x y V : Int) (b o c : Nat) (w : World) (h0 : w.cell? ⟨b, o, none⟩ = some (.int .i64 x)) (h1 : w.cell? ⟨b, o + 1, none⟩ = some (.int .i64 y)) (hV : V = if x ≠ 0 then x else y) :
  Calls Tryz.prog 170 #[.slice (some ⟨b, o, none⟩) 2 c] w fun r w' => r = .returned (.int .i64 V) ∧ w' = w := by
 subst hV
 exact cmpOr_two x y b o c w h0 h1
theorem tCompare_at (a b c d a' b' c' d' V : Int) (w : World) (hV : V = cmpL [(a, a'), (b, b'), (c, c'), (d, d')]) :
  Calls Tryz.prog 110 #[.agg #[.int .i64 a, .int .i64 b, .int .i64 c, .int .i64 d], .agg #[.int .i64 a', .int .i64 b', .int .i64 c', .int .i64 d']] w fun r w' => r = .returned (.int .i64 V) ∧ Ext w w' := by
 subst hV
 exact tCompare_any a b c d a' b' c' d' w
theorem cmpCompare_at (x y V : Int) (w : World) (hV : V = cmpI x y) : Calls Tryz.prog 171 #[.int .i64 x, .int .i64 y] w fun r w' => r = .returned (.int .i64 V) ∧ w' = w := by
 subst hV
 exact cmpCompare_any x y w
theorem horder_at (xo xv xs xp xf xn yo yv ys yp yf yn V : Int) (w : World) (hV : V = cmpK [xo, xv, xs, xp, xf] [yo, yv, ys, yp, yf]) :
  Calls Tryz.prog 113 #[.agg #[.int .i64 xo, .int .i64 xv, .int .i64 xs, .int .i64 xp, .int .i64 xf, .int .u64 xn], .agg #[.int .i64 yo, .int .i64 yv, .int .i64 ys, .int .i64 yp, .int .i64 yf, .int .u64 yn]] w fun r w' => r = .returned (.int .i64 V) ∧ Ext w w' := by
 obtain ⟨C1, h1⟩ : ∃ C1, C1 = cmpI xo yo := ⟨_, rfl⟩
 obtain ⟨C2, h2⟩ : ∃ C2, C2 = cmpL [(xv, yv), (xs, ys), (xp, yp), (xf, yf)] := ⟨_, rfl⟩
 have hV2 : V = if C1 ≠ 0 then C1 else C2 := by
  rw [hV, h1, h2, cmpK_cons]
  unfold cmpI
  (repeat' split) <;> first | rfl | omega | contradiction | (simp_all [cmpK]; done)
 have H1 := Lib.hid h1
 have H2 := Lib.hid h2
 have HV := Lib.hid hV2
 clear h1 h2 hV hV2
 go_enter Tryz.func113, Tryz.ntmps113
 go_wp2_with fail
 refine wp_region_held_drew (S := fun w' => w'.cell? ⟨w.heap.size, 0, none⟩ = some (.int .i64 xo) ∧ w'.cell? ⟨w.heap.size, 1, none⟩ = some (.int .i64 xv) ∧ w'.cell? ⟨w.heap.size, 2, none⟩ = some (.int .i64 xs) ∧ w'.cell? ⟨w.heap.size, 3, none⟩ = some (.int .i64 xp) ∧ w'.cell? ⟨w.heap.size, 4, none⟩ = some (.int .i64 xf) ∧ w'.cell? ⟨w.heap.size + 1, 0, none⟩ = some (.int .i64 yo) ∧ w'.cell? ⟨w.heap.size + 1, 1, none⟩ = some (.int .i64 yv) ∧ w'.cell? ⟨w.heap.size + 1, 2, none⟩ = some (.int .i64 ys) ∧ w'.cell? ⟨w.heap.size + 1, 3, none⟩ = some (.int .i64 yp) ∧ w'.cell? ⟨w.heap.size + 1, 4, none⟩ = some (.int .i64 yf)) (by kernel_rfl) (by first | exact ⟨c0_0, c0_1, c0_2, c0_3, c0_4, c1_0, c1_1, c1_2, c1_3, c1_4⟩ | (simp [go_sem, World.cell?_alloc_past]; done)) (fun hHeld => ?_)
 refine' zt 0 ?_
 refine' zt 1 ?_
 refine' zt 2 ?_
 refine' zt 3 ?_
 refine' zt 5 ?_
 refine' zt 6 ?_
 refine' zt 7 ?_
 refine' zt 8 ?_
 refine' zn 4 (fun K hK => ?_)
 go_simp
 (with_reducible refine (cmpCompare_at xo yo C1 _ H1.out).mono ?_)
 rintro e w_1 ⟨rfl, rfl⟩
 refine' zk hK (by (first | exact ⟨c0_0, c0_1, c0_2, c0_3, c0_4, c1_0, c1_1, c1_2, c1_3, c1_4⟩ | (simp [go_sem, World.cell?_alloc_past]; done))) (fun hHeld => ?_); clear hK K
 refine' zn 9 (fun K hK => ?_)
 go_simp
 (with_reducible refine (tCompare_at xv xs xp xf yv ys yp yf C2 _ H2.out).mono ?_)
 rintro e w1 ⟨rfl, hx1⟩
 have c0_0 : w1.cell? ⟨w.heap.size, 0, none⟩ = some (.int .i64 xo) := hx1.has zcv
 have c0_1 : w1.cell? ⟨w.heap.size, 1, none⟩ = some (.int .i64 xv) := hx1.has zcv
 have c0_2 : w1.cell? ⟨w.heap.size, 2, none⟩ = some (.int .i64 xs) := hx1.has zcv
 have c0_3 : w1.cell? ⟨w.heap.size, 3, none⟩ = some (.int .i64 xp) := hx1.has zcv
 have c0_4 : w1.cell? ⟨w.heap.size, 4, none⟩ = some (.int .i64 xf) := hx1.has zcv
 have c1_0 : w1.cell? ⟨w.heap.size + 1, 0, none⟩ = some (.int .i64 yo) := hx1.has zcv
 have c1_1 : w1.cell? ⟨w.heap.size + 1, 1, none⟩ = some (.int .i64 yv) := hx1.has zcv
 have c1_2 : w1.cell? ⟨w.heap.size + 1, 2, none⟩ = some (.int .i64 ys) := hx1.has zcv
 have c1_3 : w1.cell? ⟨w.heap.size + 1, 3, none⟩ = some (.int .i64 yp) := hx1.has zcv
 have c1_4 : w1.cell? ⟨w.heap.size + 1, 4, none⟩ = some (.int .i64 yf) := hx1.has zcv
 have z1 := hx1.size
 try simp at z1
 have lt_c0_c1 : w.heap.size < w.heap.size + 1 := by omega
 have ne_c0_c1 : ¬ w.heap.size = w.heap.size + 1 := by omega
 have ne_c1_c0 : ¬ w.heap.size + 1 = w.heap.size := by omega
 have rc0 := zr w.heap.size w1
 have rc1 := zr (w.heap.size + 1) w1
 have X1 : Hid (Ext w w1) := Lib.hid (Ext.trans zxt hx1)
 clear hx1 z1
 refine' zk hK zSlTba1_7 (fun hHeld => ?_); clear hK K
 refine' zn 10 (fun K hK => ?_)
 go_simp
 refine' zk hK zSlTba1_7 (fun hHeld => ?_); clear hK K
 refine' zn 11 (fun K hK => ?_)
 go_simp
 (with_reducible refine (cmpOr_at C1 C2 V _ _ _ _ (by simp [go_sem]) (by simp [go_sem]) HV.out).mono ?_)
 rintro e w_2 ⟨rfl, rfl⟩
 refine' zk hK zSlTba1_7 (fun hHeld => ?_); clear hK K
 refine' zt 12 ?_
 refine wpAnyH_done (by kernel_rfl) ?_ _
 go_wp2_with fail
 go_ret
 exact ⟨rfl, zxt⟩
end
end Go.Proofs.YtkinchgjidpjnaaGreat
