/- Tdr, part 1. Conditions stand in each lemma. -/
import Derived.WalkKit
import Derived.Deep.QuietTactic
import Derived.Deep.Draws
import Derived.Lib.Hide
import Derived.Laws.OwnMore
import Derived.Laws.AppendOwn
import Derived.OwnWalk
import Derived.Maps.AppendAt
import Derived.Deep.RegionHeld3
import Derived.RangeFuncBox
import Derived.RangeFuncLeaves
import Derived.Shelf.Abstract
import Derived.OwnWalkIn
import Derived.TacticsInMore
import Derived.LoopNIn
import Derived.LoopIn
import Derived.Test.YtkinchgjidpjnaaGreatRows
import Derived.Deep.Onto
import Derived.ProofKit
import Derived.ChangeOld
import Derived.OpenShut
import Derived.Deep.Slices
import Derived.BigQuiet
import Derived.IntWalk
import Derived.Lib.SliceRun
import Derived.Deep.LoopGhost
import Derived.WalkSpells
import Derived.WalkLawsBesides
import Derived.Lib.SmallJoins
import Derived.Test.YtkinchgjidpjnaaGreatShelf
import Derived.Test.YtkinchgjidpjnaaGreatDivNorm
import Derived.Deep.DeepCutAuto
import Derived.Deep.CutBlock
import Derived.Shelf.Spec.BitsCarry
import Derived.Test.YtkinchgjidpjnaaGreatFixRefMath
import Derived.Test.YtkinchgjidpjnaaGreatFixDivideMath
import Derived.Handy
import Derived.ArgAppend
import Derived.Laws.CopyRow
import Derived.Lib.AppendZerosOnto
import Derived.Laws.Externs
import Derived.Lib.Overlaps
import Derived.Shelf.RegionOpenPlain
import Derived.Lib.AppendZeros
import Derived.WalkMore
import Derived.Laws.IdiomCopy
import Derived.Laws.StructEq
import Derived.Laws.BytesArg
import Derived.RangeFuncNested
import Derived.Test.YtkinchgjidpjnaaGreatGreatMath
import Derived.Laws.MakeOwn
import Derived.Test.YtkinchgjidpjnaaGreatSlTba5
import Derived.Test.YtkinchgjidpjnaaGreatSlTkn2
import Derived.Test.YtkinchgjidpjnaaGreatSlTne3
set_option linter.unusedVariables false
set_option linter.unusedSimpArgs false
set_option maxRecDepth 100000
set_option maxHeartbeats 64000000
namespace Go.Proofs.YtkinchgjidpjnaaGreat
section
open Go.RowKit
theorem zSlTdr1_0 {P : Prop} (h : P := by (first | with_reducible exact ⟨c0_1, u_0, u_1, u_2, u_3, u_4, u_5⟩ | (simp [go_sem, World.cell?_alloc_past, u_0, u_1, u_2, u_3, u_4, u_5, hb5, hb5n]; done) | exact ⟨c0_1, u_0, u_1, u_2, u_3, u_4, u_5⟩)) : P := h
theorem zSlTdr1_1 {P : Prop} (h : P := by (first | with_reducible exact ⟨a_0, a_1, a_2, a_3, a_4, a_5, a_6, a_7, a_8, i_0, i_1⟩ | (simp [go_sem, World.cell?_alloc_past, *]; done) | exact ⟨a_0, a_1, a_2, a_3, a_4, a_5, a_6, a_7, a_8, i_0, i_1⟩)) : P := h
theorem zSlTdr1_2 {P : Prop} (h : P := by unfold OwnPos; repeat (first | exact HB.out | refine own_set_ne ?_ (fun j hj hh => by have h9 := RB.out j hj; (try simp only [World.size_alloc] at h9); first | omega | (simp at h9; omega) | (simp [go_sem] at h9; omega)) | refine own_keep (base := wr.heap.size) ?_ (Ext.alloc (Ext.refl _) _) | with_reducible refine World.ownsRow.drew ?_)) : P := h
theorem zSlTdr1_3 {P : Prop} (h : P := by unfold OwnCls; repeat (first | exact HA.out | refine own_set_ne ?_ (fun j hj hh => by have h9 := RA.out j hj; (try simp only [World.size_alloc] at h9); first | omega | (simp at h9; omega) | (simp [go_sem] at h9; omega)) | refine own_keep (base := wr.heap.size) ?_ (Ext.alloc (Ext.refl _) _) | with_reducible refine World.ownsRow.drew ?_)) : P := h
theorem zSlTdr1_4 {P : Prop} (h : P := by repeat (first | with_reducible exact But.ofExt X71.out | with_reducible refine But.drew ?_ | with_reducible refine But.drewN ?_ _ | with_reducible refine But.alloc ?_ _ | with_reducible refine But.setG ?_ _ | with_reducible refine But.setNew ?_ (by first | omega | (simp; done) | (simp; omega)) _)) : P := h
theorem zSlTdr1_5 {P : Prop} (h : P := by repeat (first | with_reducible exact (Ext.trans XW.out X71.out) | with_reducible refine Ext.drew ?_ | with_reducible refine Ext.drewN ?_ _ | with_reducible refine Ext.alloc ?_ _ | with_reducible refine Ext.setCell ?_ (by first | omega | (simp; done) | (simp; omega)) _)) : P := h
theorem zSlTdr1_6 {P : Prop} (h : P := by (first | with_reducible exact ⟨c0_1, k_0, y_5⟩ | (simp [go_sem, World.cell?_alloc_past, *]; done) | exact ⟨c0_1, k_0, y_5⟩)) : P := h
theorem zSlTdr1_7 {P : Prop} (h : P := by (first | with_reducible exact ⟨c0_0, k_1, y_5⟩ | (simp [go_sem, World.cell?_alloc_past, *]; done) | exact ⟨c0_0, k_1, y_5⟩)) : P := h
theorem zSlTdr1_8 {P : Prop} (h : P := by (first | with_reducible exact ⟨c0_1, k_1⟩ | (simp [go_sem, World.cell?_alloc_past, *]; done) | exact ⟨c0_1, k_1⟩)) : P := h
theorem zSlTdr1_9 {P : Prop} (h : P := by first | exact Nat.le_refl _ | omega | (simp; done) | (simp; omega)) : P := h
theorem zSlTdr1_10 {P : Prop} (h : P := by unfold OwnPos; repeat (first | exact HP.out | refine own_set_ne ?_ (fun j hj hh => by have h9 := RP.out j hj; (try simp only [World.size_alloc] at h9); first | omega | (simp at h9; omega) | (simp [go_sem] at h9; omega)) | refine own_keep (base := w.heap.size) ?_ (Ext.alloc (Ext.refl _) _) | with_reducible refine World.ownsRow.drew ?_)) : P := h
theorem zSlTdr1_11 {P : Prop} (h : P := by unfold OwnCls; repeat (first | exact HO.out | refine own_set_ne ?_ (fun j hj hh => by have h9 := RO.out j hj; (try simp only [World.size_alloc] at h9); first | omega | (simp at h9; omega) | (simp [go_sem] at h9; omega)) | refine own_keep (base := w.heap.size) ?_ (Ext.alloc (Ext.refl _) _) | with_reducible refine World.ownsRow.drew ?_)) : P := h
section
variable {w w' : World} {sz n c : Nat} {A : Option Addr} {xs : List Value}
end
theorem own_nil (w : World) (base : Nat) (e : TypeId) (sz : Nat) : w.ownsRow base e sz (.slice none 0 0) 0 [] := World.ownsRow_nil w base e sz
theorem own_parts {w : World} {base : Nat} {e : TypeId} {sz n : Nat} {v : Value} {xs : List Value} (h : w.ownsRow base e sz v n xs) : ∃ A c, v = .slice A n c ∧ Sl w sz A n c xs := by
 rcases h.2 with ⟨rfl, rfl⟩ | ⟨g, cap, cur, rfl, rest⟩
 ·exact ⟨_, _, rfl, Sl.own h⟩
 exact ⟨_, _, rfl, Sl.own h⟩

theorem Sl.ilen {w : World} {A : Option Addr} {n c : Nat} {k : IntKind} {l : List Int} (h : Sl w 1 A n c (iv k l)) : l.length = n := by
 have := h.len; rw [iv_len] at this; omega
theorem Sl.itake {w : World} {A : Option Addr} {n c m : Nat} {k : IntKind} {l : List Int} (h : Sl w 1 A n c (iv k l)) (hm : m ≤ n) : Sl w 1 A m c (iv k (l.take m)) := by
 have := h.take hm
 unfold iv at *
 rwa [Nat.mul_one, ← List.map_take] at this

theorem wpList_append_new {P : Program} (w : World) {ops : Array Oper} {rest : List Oper} {o : Oper} {a : Act} {Q : Exit → Act → World → Prop} (hgd : o.guard = none) (s x : Operand) (t : TypeId)
  (ho : o.op = .call { callee := .builtin .append, args := #[s, x], argTypes := #[t, t] })
  (base : Nat) (e : TypeId) (i : TypeInfo) (z : Value) (size bytes : Nat) (ht : P.underlying t = some (.slice e)) (hi : P.info? e = some i) (hz : i.zero = some z)
  (hsize : i.size = size) (hby : i.bytes = bytes) (hzs : z.cells.size = size) (hsz : 0 < size)
  (v : Value) (n : Nat) (xs : List Value) (hs : a.eval s = v) (hown : w.ownsRow base e size v n xs) (news : Array Value) (c : Nat)
  (hx : a.eval x = .slice (some ⟨w.heap.size, 0, none⟩) 1 c) (hl : news.size = size) (h1 : ∀ u ∈ news.toList, u.oneCell' = true)
  (hn : n < 1099511627776) (hb128 : bytes ≤ 127) (hbase : base ≤ w.heap.size)
  (h : ∀ v' w', w'.ownsRow base e size v' (n + 1) (xs ++ news.toList) → Below base w w' → wpList P ops Q rest (a.put o.dst v') w') :
  wpList P ops Q (o :: rest) a (w.alloc (.cells news e)) := by
 have hcells : ∀ j u, news.toList[j]? = some u → (w.alloc (.cells news e)).cell? ((⟨w.heap.size, 0, none⟩ : Addr).add j) = some u := by
  intro j u hu
  rw [addr_add, Nat.zero_add, cell_of_row _ _ j news e (0, 0) (heap_alloc_new w _)]
  simpa using hu
 have hby2 : (n + 1) * bytes ≤ 140737488355328 := by
  have : (n + 1) * bytes ≤ 1099511627776 * 127 := Nat.mul_le_mul (by omega) hb128
  omega
 refine wpList_append_own (w.alloc (.cells news e)) hgd s x t ho base e i z size bytes ht hi hz hsize hby hzs hsz v n xs hs (hown.alloc _) ⟨w.heap.size, 0, none⟩ 1 c news.toList hx (by simpa using hl) hcells h1
  (by simp [maxLen]; omega) hby2 (by simp; omega) ?_
 intro v' w' h2 h3 h4
 refine h v' w' h2 ?_
 exact ((Below.refl base w).alloc hbase _).grown h3 (by simp; omega) (fun k hk => (hown.lt k hk).1)
theorem iv_snoc (k : IntKind) (l : List Int) (x : Int) : iv k l ++ [Value.int k x] = iv k (l ++ [x]) := by simp [iv]
end
section
open Go.RowKit Go.ChangeShapes Go.WideShapes
theorem fits_of {k : IntKind} {x : Int} (h : (Lit.int k x).wf = true) : Fits k x := h
section
variable {H : Type} {enc : TypeId × Value → H} {P : Program} {w : World} {base : Nat} {spare : Nat → Bool} {held : Bool}
theorem open_raw {t e : TypeId} {sz fuel n c : Nat} {A : Option Addr} {x : DataW H × List MemPlace} (ht : P.underlying t = some (.slice e)) (hsz : P.cellsOf e = sz) (hpos : 0 < sz)
  (h : DataW.trod enc P w base spare held fuel t [.slice A n c] = some x) :
  ∃ xs : List Value, Sl w sz A n c xs ∧ ∀ i, i < n → ∃ m y, DataW.trod enc P w base spare held m e ((xs.drop (i * sz)).take sz) = some y := by
 rcases Go.Deep.open_slice ht h with ⟨h0, _⟩ | ⟨a, len, cap, m, n', D, Pl, hcs, _, hl, hm, hmm, _, hi⟩
 ·simp at h0
  obtain ⟨rfl, rfl, rfl⟩ := h0
  exact ⟨[], Sl.nil _ _, fun i hi => absurd hi (by omega)⟩
 simp at hcs
 obtain ⟨rfl, rfl, rfl⟩ := hcs
 subst hsz
 have hnm : n ≤ m := by rw [hmm]; split <;> omega
 -- the cells, one by one
 have hcell : ∀ i, i < n → ∀ j, j < P.cellsOf e → ∃ v, w.cell? (a.add (i * P.cellsOf e + j)) = some v := by
  intro i hin j hj
  obtain ⟨cs', hc, ht'⟩ := hi i (by omega)
  obtain ⟨_, hcl, hat⟩ := World.cells?_some hc
  refine ⟨cs'[j]'(by omega), ?_⟩
  have := hat j hj
  rw [Go.Deep.add_add] at this
  rw [this, List.getElem?_eq_getElem (by omega)]
 obtain ⟨b, o, spot⟩ := a
 rcases Nat.eq_zero_or_pos n with hn0 | hnp
 ·subst hn0
  exact ⟨[], ⟨by simp, by omega, hm, fun h => absurd h (by omega)⟩, fun i hi => absurd hi (by omega)⟩
 have hspot : spot = none := by
  obtain ⟨v, hv⟩ := hcell 0 hnp 0 hpos
  simpa [Addr.add] using World.cell?_spot hv
 subst hspot
 let f : Nat → Value := fun j => (w.cell? ⟨b, o + j, none⟩).getD undef
 have hf : ∀ j, j < n * P.cellsOf e → w.cell? ⟨b, o + j, none⟩ = some (f j) := by
  intro j hj
  have h1 : j / P.cellsOf e < n := by rw [Nat.div_lt_iff_lt_mul hpos]; exact hj
  obtain ⟨v, hv⟩ := hcell (j / P.cellsOf e) h1 (j % P.cellsOf e) (Nat.mod_lt _ hpos)
  rw [Nat.div_add_mod', addr_add] at hv
  show _ = some ((w.cell? ⟨b, o + j, none⟩).getD undef)
  rw [hv]; rfl
 have hb : b < w.heap.size := by
  have h1 := hf 0 (by exact Nat.mul_pos hnp hpos)
  unfold World.cell? at h1
  rcases hx : w.heap[b]? with _ | ob
  ·simp [hx] at h1
  exact (Array.getElem?_eq_some_iff.1 hx).1
 refine ⟨(List.range (n * P.cellsOf e)).map f, ⟨by simp, by omega, hm, fun _ => ⟨b, o, rfl, hb, fun j u hu => ?_⟩⟩, fun i hin => ?_⟩
 ·rw [List.getElem?_map] at hu
  rcases Nat.lt_or_ge j (n * P.cellsOf e) with hj | hj
  ·rw [List.getElem?_range hj] at hu
   simp at hu
   rw [hf j hj, hu]
  rw [List.getElem?_eq_none (by simpa using hj)] at hu
  simp at hu
 obtain ⟨cs', hc, ht'⟩ := hi i (by omega)
 obtain ⟨_, hcl, hat⟩ := World.cells?_some hc
 have e1 : (((List.range (n * P.cellsOf e)).map f).drop (i * P.cellsOf e)).take (P.cellsOf e) = cs' := by
  apply List.ext_getElem?
  intro j
  rw [List.getElem?_take]
  have hle : (i + 1) * P.cellsOf e ≤ n * P.cellsOf e := Nat.mul_le_mul_right _ hin
  rw [Nat.add_mul, Nat.one_mul] at hle
  split
  ·rename_i hj
   rw [List.getElem?_drop, List.getElem?_map, List.getElem?_range (by omega)]
   have h2 := hat j hj
   rw [Go.Deep.add_add, addr_add] at h2
   rw [← h2, hf _ (by omega)]
   rfl
  rename_i hj
  rw [List.getElem?_eq_none (by omega)]
 exact ⟨n', (D i, Pl i), by rw [e1]; exact ht'⟩
end
end
section
open Go.RowKit Go.ChangeShapes Go.WideShapes Go.Deep Go.Joins
theorem chunks {α : Type} {f : α → List Value} {sz : Nat} (hpos : 0 < sz) {Good : α → Prop} : ∀ (n : Nat) (xs : List Value), xs.length = n * sz →
  (∀ i, i < n → ∃ x, (xs.drop (i * sz)).take sz = f x ∧ Good x) → ∃ l : List α, l.length = n ∧ l.flatMap f = xs ∧ ∀ x ∈ l, Good x
 | 0, xs, hl, _ => ⟨[], rfl, by rw [Nat.zero_mul] at hl; rw [List.eq_nil_of_length_eq_zero hl]; rfl, by simp⟩
 | n + 1, xs, hl, h => by
  obtain ⟨x, hx, gx⟩ := h 0 (by omega)
  rw [Nat.zero_mul, List.drop_zero] at hx
  obtain ⟨l, h1, h2, h3⟩ := chunks hpos n (xs.drop sz) (by rw [List.length_drop, hl, Nat.add_mul, Nat.one_mul]; omega) fun i hi => by
   obtain ⟨y, hy, gy⟩ := h (i + 1) (by omega)
   exact ⟨y, by rw [List.drop_drop]; rw [Nat.add_mul, Nat.one_mul, Nat.add_comm] at hy; exact hy, gy⟩
  exact ⟨x :: l, by simp [h1], by rw [List.flatMap_cons, h2, ← hx, List.take_append_drop], fun z hz => by
   rcases List.mem_cons.1 hz with rfl | hz
   ·exact gx
   ·exact h3 z hz⟩

section
variable {H : Type} {enc : TypeId × Value → H} {P : Program} {w : World} {base : Nat} {spare : Nat → Bool} {held : Bool}
theorem open_rec {α : Type} {f : α → List Value} {Good : α → Prop} {t e : TypeId} {sz n c : Nat} {A : Option Addr} {d : DataW H} {p : List MemPlace} (ht : P.underlying t = some (.slice e)) (hc : P.cellsOf e = sz) (hpos : 0 < sz)
  (hel : ∀ cs m y, DataW.trod enc P w base spare held m e cs = some y → cs.length = sz → ∃ x : α, cs = f x ∧ Good x)
  (h : DataW.Trod enc P w base spare held t (.slice A n c) d p) : ∃ l : List α, Sl w sz A n c (l.flatMap f) ∧ l.length = n ∧ ∀ x ∈ l, Good x := by
 obtain ⟨fuel, hf⟩ := h
 obtain ⟨xs, hs, hr⟩ := open_raw ht hc hpos (by simpa [Value.cells] using hf)
 have hlen := hs.len
 obtain ⟨l, h1, h2, h3⟩ := chunks (f := f) (Good := Good) hpos n xs hlen fun i hi => by
  obtain ⟨m, y, hy⟩ := hr i hi
  have hle : (i + 1) * sz ≤ n * sz := Nat.mul_le_mul_right _ hi
  rw [Nat.add_mul, Nat.one_mul] at hle
  exact hel _ m y hy (by rw [List.length_take, List.length_drop]; omega)
 exact ⟨l, by rw [h2]; exact hs, h1, h3⟩
end
end
section
open Go.RowKit Go.ChangeShapes Go.WideShapes Go.Deep Go.Joins
section
variable {H : Type} {enc : TypeId × Value → H} {P : Program} {w : World} {base : Nat} {spare : Nat → Bool} {held : Bool}
theorem rec4 {t : TypeId} {k0 k1 k2 k3 : IntKind} {f0 f1 f2 f3 : Field} {cs : List Value} {m : Nat} {y : DataW H × List MemPlace} (ht : P.underlying t = some (.struct #[f0, f1, f2, f3])) (hone : oneCellFields P #[f0, f1, f2, f3] = true)
  (h0 : P.underlying f0.type = some (.int k0)) (h1 : P.underlying f1.type = some (.int k1)) (h2 : P.underlying f2.type = some (.int k2)) (h3 : P.underlying f3.type = some (.int k3))
  (h : DataW.trod enc P w base spare held m t cs = some y) (hl : cs.length = 4) : ∃ x : Int × Int × Int × Int, cs = [.int k0 x.1, .int k1 x.2.1, .int k2 x.2.2.1, .int k3 x.2.2.2] ∧ Fits k0 x.1 ∧ Fits k1 x.2.1 ∧ Fits k2 x.2.2.1 ∧ Fits k3 x.2.2.2 := by
 obtain ⟨y0, y1, y2, y3, m', _, _, g0, g1, g2, g3⟩ := trod_struct4 ht h
 obtain ⟨o0, c0⟩ := hone_of hone 0 f0 rfl
 obtain ⟨o1, c1⟩ := hone_of hone 1 f1 rfl
 obtain ⟨o2, c2⟩ := hone_of hone 2 f2 rfl
 obtain ⟨o3, c3⟩ := hone_of hone 3 f3 rfl
 match cs, hl with
 | [v0, v1, v2, v3], _ =>
  rw [o0, c0] at g0
  rw [o1, c1] at g1
  rw [o2, c2] at g2
  rw [o3, c3] at g3
  obtain ⟨a, ha, _, wa⟩ := DataW.trod_int h0 g0
  obtain ⟨b, hb, _, wb⟩ := DataW.trod_int h1 g1
  obtain ⟨c, hc, _, wc⟩ := DataW.trod_int h2 g2
  obtain ⟨d, hd, _, wd⟩ := DataW.trod_int h3 g3
  simp at ha hb hc hd
  subst ha; subst hb; subst hc; subst hd
  exact ⟨(a, b, c, d), rfl, wa, wb, wc, wd⟩
end
end
section
open Go.RowKit
theorem Off.wf {w w' : World} {g o q : Nat} (h : Off w g o q) (hx : WF g o w w') : Off w' g o q :=
 ⟨by have := h.1; have := hx.but.size; omega, by have := h.2.1; have := hx.but.size; omega, fun hs => h.2.2 (hx.row q h.2.1 hs)⟩
theorem SlB.bel {B G : Nat} {w w' : World} {sz n c : Nat} {A : Option Addr} {xs : List Value} (h : SlB B w sz A n c xs) (hx : Below G w w') (hb : B ≤ G) : SlB B w' sz A n c xs := by
 refine ⟨⟨h.1.1, h.1.2.1, h.1.2.2.1, fun hn => ?_⟩, h.2⟩
 obtain ⟨b, o, e, hlt, hc⟩ := h.1.at_ hn
 have h2 := h.2 hn b o none e
 exact ⟨b, o, e, by have := hx.size; omega, fun j u hu => (hx.cell (p := ⟨b, o + j, none⟩) (show b < G by omega)).trans (hc j u hu)⟩
theorem Ext.bel {a b c : World} {g : Nat} (h : Ext a b) (k : Below g b c) (hg : a.heap.size ≤ g) : Ext a c := Below.trans h (k.mono hg)
end
section
open Go.RowKit Go.ChangeShapes Go.WideShapes Go.Deep Go.Joins
section
variable {H : Type} {enc : TypeId × Value → H} {w : World} {base : Nat} {spare : Nat → Bool} {held : Bool}
theorem none_capH {P : Program} {t e : TypeId} {n c : Nat} {A : Option Addr} {x : DataW H × List MemPlace} {fuel : Nat} (ht : P.underlying t = some (.slice e)) (hf : DataW.trod enc P w base spare held fuel t [.slice A n c] = some x) : A = none → c = 0 := by
 intro hA
 subst hA
 rcases Go.Deep.open_slice ht hf with ⟨h0, _⟩ | ⟨a, len, cap, m, n', D, Pl, hcs, _⟩
 ·simp at h0; exact h0.2
 simp at hcs
theorem word_fitsH {x : Int} (h : Fits .u64 x) : Word x := by
 unfold Fits at h
 simp [Lit.wf, IntKind.min, IntKind.max, IntKind.bits, IntKind.signed] at h
 unfold Word
 omega
theorem act_rec {cs : List Value} {m : Nat} {y : DataW H × List MemPlace} (h : DataW.trod enc Tryz.prog w base spare held m 39 cs = some y) (hl : cs.length = 9) : ∃ x : I9, cs = actC x ∧ FitsA x := by
 obtain ⟨xs, n, _, rfl, _, hlen, hf⟩ := DataW.trod_struct Tryz.underlying39 h
 have ci : Tryz.prog.cellsOf 3 = 1 := by kernel_rfl
 have cu : Tryz.prog.cellsOf 32 = 1 := by kernel_rfl
 have ct : Tryz.prog.cellsOf 37 = 4 := by kernel_rfl
 have g0 := hf 0 _ rfl
 have g1 := hf 1 _ rfl
 have g2 := hf 2 _ rfl
 have g3 := hf 3 _ rfl
 have g4 := hf 4 _ rfl
 have g5 := hf 5 _ rfl
 match cs, hl with
 | [v0, v1, v2, v3, v4, v5, v6, v7, v8], _ =>
  match xs, hlen with
  | [y0, y1, y2, y3, y4, y5], _ =>
   simp [ci, cu, ct] at g0 g1 g2 g3 g4 g5
   obtain ⟨a, ha, _, wa⟩ := DataW.trod_int Tryz.underlying3 g0
   obtain ⟨o, ho, _, wo⟩ := DataW.trod_int Tryz.underlying3 g1
   obtain ⟨b, hb, w1, w2, w3, w4⟩ := rec4 (k0 := .i64) (k1 := .i64) (k2 := .i64) (k3 := .i64) Tryz.underlying37 (by kernel_rfl) Tryz.underlying3 Tryz.underlying3 Tryz.underlying3 Tryz.underlying3 g2 rfl
   obtain ⟨c, hc, _, wc⟩ := DataW.trod_int Tryz.underlying3 g3
   obtain ⟨d, hd, _, wd⟩ := DataW.trod_int Tryz.underlying3 g4
   obtain ⟨e, he, _, we⟩ := DataW.trod_int Tryz.underlying32 g5
   simp at ha ho hb hc hd he
   obtain ⟨rfl, rfl, rfl, rfl⟩ := hb
   subst ha; subst ho; subst hc; subst hd; subst he
   exact ⟨(a, o, b.1, b.2.1, b.2.2.1, b.2.2.2, c, d, e), rfl, wa, wo, w1, w2, w3, w4, wc, wd, word_fitsH we⟩
theorem open_hacts {n c : Nat} {A : Option Addr} {d : DataW H} {p : List MemPlace}
  (h : DataW.Trod enc Tryz.prog w base spare held 26 (.slice A n c) d p) : ∃ l : List I9, n = l.length ∧ Sl w 9 A l.length c (l.flatMap actC) ∧ (∀ x ∈ l, FitsA x) ∧ (A = none → c = 0) := by
 have h' := h
 obtain ⟨fuel, hf⟩ := h'
 obtain ⟨l, h1, h2, h3⟩ := open_rec (f := actC) (sz := 9) (Good := FitsA) Tryz.underlying26 (by kernel_rfl) (by decide) (fun cs m y h hl => act_rec h hl) h
 subst h2
 exact ⟨l, rfl, h1, h3, none_capH Tryz.underlying26 (show DataW.trod enc Tryz.prog w base spare held fuel 26 [.slice A l.length c] = some (d, p) by simpa [Value.cells] using hf)⟩
end
end
section
open Go.RowKit Go.ChangeShapes Go.WideShapes Go.Deep Go.Joins
theorem CutJ.start (cl : List I6) (v h p : Int) : CutJ cl v h p 0 [] [] 0 := ⟨by simp [cutCs], by simp [losCs], by simp [losN, addF]⟩
theorem CutJ.skip {cl CL : List I6} {v h p N : Int} {k : Nat} {LS : List I5} {c : I6} (H : CutJ cl v h p k CL LS N) (hc : cl[k]? = some c) (hb : bkC c v h = false) : CutJ cl v h p (k + 1) (CL ++ [c]) LS N := by
 refine ⟨?_, ?_, H.en⟩
 ·rw [H.ecl, take_one hc]; unfold cutCs; rw [List.filterMap_append]; simp [cutC_skip hb]
 rw [H.els, take_one hc]; unfold losCs; rw [List.filterMap_append]; simp [losC_skip hb]
theorem CutJ.sum {cl CL ps : List I6} {v h p N : Int} {k : Nat} {LS : List I5} {a b d e t s : Int} (H : CutJ cl v h p k CL LS N) (hk : HOk cl ps) (hw : ∀ c ∈ cl, WdC c) (p0 : 0 ≤ p) (p1 : p ≤ 1000000000) (hc : cl[k]? = some (a, b, d, e, t, s)) : 0 ≤ N ∧ N + cutN t s p < 18446744073709551616 ∧ 0 ≤ cutN t s p :=
 CutI.sum (CL := CL ++ cl.drop k) (PS := ps.filter (fun x => !goneB v h p (cl.take k) x)) ⟨by rw [H.ecl], rfl, H.els, H.en⟩ hk hw p0 p1 hc
end
section
open Go.RowKit
structure DrI (x T0 S0 T S n : Int) : Prop where
 x0 : 0 < x
 s0 : 0 < S0
 xs : x ≤ S
 lo : x * T0 * S ≤ x * T * S0
 hi : 0 < n → x * T * S0 < x * T0 * S + S0 * S * n
 z : n = 0 → T = T0 ∧ S = S0
 n0 : 0 ≤ n
theorem DrI.start {x T S : Int} (x0 : 0 < x) (xs : x ≤ S) : DrI x T S T S 0 := ⟨x0, by omega, xs, Int.le_refl _, fun h => by omega, fun _ => ⟨rfl, rfl⟩, Int.le_refl _⟩
theorem DrI.step {x T0 S0 T S n T' S' : Int} (h : DrI x T0 S0 T S n) (xs : x ≤ S') (lo : x * T * S' ≤ x * T' * S) (hi : x * T' * S < x * T * S' + S * S') : DrI x T0 S0 T' S' (n + 1) := by
 have hS : 0 < S := by have := h.x0; have := h.xs; omega
 have hS' : 0 < S' := by have := h.x0; omega
 have hup : x * T * S0 ≤ x * T0 * S + S0 * S * n := by
  rcases Int.lt_or_le 0 n with hn | hn
  ·have := h.hi hn; omega
  have hn0 : n = 0 := by have := h.n0; omega
  obtain ⟨e1, e2⟩ := h.z hn0
  rw [e1, e2, hn0, Int.mul_zero]
  omega
 have e1 : x * T' * S0 * S = S0 * (x * T' * S) := by rw [Int.mul_right_comm, Int.mul_comm]
 have e2 : S0 * (x * T * S') = x * T * S0 * S' := by rw [Int.mul_comm, Int.mul_right_comm]
 refine ⟨h.x0, h.s0, xs, ?_, fun _ => ?_, fun hh => by have := h.n0; omega, by have := h.n0; omega⟩
 ·refine Int.le_of_mul_le_mul_right ?_ hS
  have m1 : S0 * (x * T * S') ≤ S0 * (x * T' * S) := Int.mul_le_mul_of_nonneg_left lo (by have := h.s0; omega)
  have m2 : x * T0 * S * S' ≤ x * T * S0 * S' := Int.mul_le_mul_of_nonneg_right h.lo (by omega)
  rw [e1]
  rw [e2] at m1
  rw [Int.mul_right_comm] at m2
  omega
 refine Int.lt_of_mul_lt_mul_right ?_ (show 0 ≤ S by omega)
 have m1 : S0 * (x * T' * S) < S0 * (x * T * S' + S * S') := Int.mul_lt_mul_of_pos_left hi h.s0
 have m2 : x * T * S0 * S' ≤ (x * T0 * S + S0 * S * n) * S' := Int.mul_le_mul_of_nonneg_right hup (by omega)
 rw [Int.mul_add, e2] at m1
 rw [Int.add_mul, Int.mul_right_comm (x * T0)] at m2
 rw [e1, Int.add_mul, Int.mul_add, Int.mul_one, Int.add_mul]
 have e3 : S0 * (S * S') = S0 * S' * S := by rw [Int.mul_comm S S', ← Int.mul_assoc]
 have e4 : S0 * S * n * S' = S0 * S' * n * S := by rw [Int.mul_right_comm (S0 * S) n S', Int.mul_right_comm S0 S S', Int.mul_right_comm (S0 * S') S n]
 omega
theorem DrI.same {x T0 S0 T S n : Int} (h : DrI x T0 S0 T S n) : DrI x T0 S0 T S (n + 1) :=
 h.step h.xs (Int.le_refl _) (by have := Int.mul_pos (show 0 < S by have := h.x0; have := h.xs; omega) (show 0 < S by have := h.x0; have := h.xs; omega); omega)
theorem DrI.join {x T0 S0 T S n N F : Int} (h : DrI x T0 S0 T S n) (hP : PoolOk T S) (hN : 0 < N) (hF : N ≤ F) (h1 : T * F ≤ N * S) (h2 : N * S < T * F + T) : DrI x T0 S0 (T + N) (S + F) (n + 1) := by
 have x0 := h.x0
 have xs := h.xs
 have hT : 0 < T := by
  rcases Int.lt_or_le 0 T with hh | hh
  ·exact hh
  have := hP.z (by have := hP.t0; omega); omega
 have ex : x * T * (S + F) = x * T * S + x * (T * F) := by rw [Int.mul_add, Int.mul_assoc x T F]
 have ey : x * (T + N) * S = x * T * S + x * (N * S) := by rw [Int.mul_add, Int.add_mul, Int.mul_assoc x N S]
 have m1 : x * (T * F) ≤ x * (N * S) := Int.mul_le_mul_of_nonneg_left h1 (by omega)
 have m2 : x * (N * S) < x * (T * F + T) := Int.mul_lt_mul_of_pos_left h2 x0
 rw [Int.mul_add] at m2
 have m3 : x * T ≤ S * S := Int.le_trans (Int.mul_le_mul_of_nonneg_right xs (by omega)) (Int.mul_le_mul_of_nonneg_left hP.ts (by omega))
 have m6 : S * (S + F) = S * S + S * F := Int.mul_add _ _ _
 have m7 : 0 ≤ S * F := Int.mul_nonneg (by omega) (by omega)
 exact h.step (by omega) (by rw [ex, ey]; omega) (by rw [ex, ey, m6]; omega)
theorem DrI.leave {x T0 S0 T S n N V : Int} (h : DrI x T0 S0 T S n) (hN : 0 < N) (h1 : S * V ≤ N * T) (h2 : N * T < S * V + S) (hx : x ≤ S - N) : DrI x T0 S0 (T - V) (S - N) (n + 1) := by
 have x0 := h.x0
 have xs := h.xs
 have ex : x * T * (S - N) = x * T * S - x * (N * T) := by rw [Int.mul_sub, Int.mul_comm N T, ← Int.mul_assoc x T N]
 have ey : x * (T - V) * S = x * T * S - x * (S * V) := by rw [Int.mul_sub, Int.sub_mul, Int.mul_comm S V, ← Int.mul_assoc x V S]
 have m1 : x * (S * V) ≤ x * (N * T) := Int.mul_le_mul_of_nonneg_left h1 (by omega)
 have m2 : x * (N * T) < x * (S * V + S) := Int.mul_lt_mul_of_pos_left h2 x0
 rw [Int.mul_add] at m2
 have m5 : x * S ≤ (S - N) * S := Int.mul_le_mul_of_nonneg_right hx (by omega)
 rw [Int.mul_comm (S - N) S] at m5
 exact h.step hx (by rw [ex, ey]; omega) (by rw [ex, ey]; omega)
theorem pos_le {cl ps : List I6} {p : I6} (hk : HOk cl ps) (hw2 : ∀ x ∈ ps, WdP x) (hp : p ∈ ps) : shP p ≤ fndS cl (stP p) := by
 rw [← hk.fnd]
 exact addF_mem (f := shP) (fun y hy => (hw2 y (List.mem_filter.1 hy).1).1) (List.mem_filter.2 ⟨hp, by simp⟩)
theorem pos_pos {cl ps : List I6} {p : I6} (hk : HOk cl ps) (hw2 : ∀ x ∈ ps, WdP x) (hp : p ∈ ps) : 0 < shP p := by
 have h1 := (hk.pos p hp).2.1
 have h2 := (hw2 p hp).1
 omega
theorem DrI.of {cl ps : List I6} {p : I6} (hk : HOk cl ps) (hw2 : ∀ x ∈ ps, WdP x) (hp : p ∈ ps) : DrI (shP p) (fndT cl (stP p)) (fndS cl (stP p)) (fndT cl (stP p)) (fndS cl (stP p)) 0 :=
 DrI.start (pos_pos hk hw2 hp) (pos_le hk hw2 hp)
theorem sortK_inj {α : Type} {key : α → List Int} {l : List α} (hs : SortK key l) {i j : Nat} {x y : α} (hi : l[i]? = some x) (hj : l[j]? = some y) (hk : key x = key y) : x = y := by
 have hpl := hs
 unfold SortK at hpl
 rw [List.pairwise_iff_getElem] at hpl
 obtain ⟨a1, e1⟩ := List.getElem?_eq_some_iff.1 hi
 obtain ⟨a2, e2⟩ := List.getElem?_eq_some_iff.1 hj
 rcases Nat.lt_trichotomy i j with hlt | heq | hgt
 ·have := hpl _ _ a1 a2 hlt
  rw [e1, e2, hk, cmpK_self] at this
  omega
 ·subst heq
  rw [← e1, ← e2]
 have := hpl _ _ a2 a1 hgt
 rw [e1, e2, hk, cmpK_self] at this
 omega
theorem posSet_mem {ps : List I6} {p : I6} (hs : SortK kP ps) (hp : p ∈ ps) (o V S P F n : Int) (ho : ¬ o = p.1) : p ∈ posSet ps o V S P F n := by
 have h1 : (getK kP ps (kP p)).isSome = true := getK_mem_some hp
 have h2 : getK kP (posSet ps o V S P F n) (kP p) = getK kP ps (kP p) := by
  unfold posSet
  rw [get_lay kP_len rfl (fun y hy => ?_) hs, if_neg]
  ·intro hh
   have e : kP p = p.1 :: stP p := rfl
   rw [e] at hh
   injection hh with hh _
   exact ho hh.symm
  unfold optP at hy
  split at hy
  ·cases hy
  rw [← Option.some.inj hy]; rfl
 obtain ⟨y, hy⟩ := Option.isSome_iff_exists.1 h1
 obtain ⟨hm, hky⟩ := getK_mem hy
 obtain ⟨i, hi⟩ := List.getElem?_of_mem hm
 obtain ⟨j, hj⟩ := List.getElem?_of_mem hp
 have hij := sortK_inj hs hi hj hky
 subst hij
 rw [← h2] at hy
 exact (getK_mem hy).1
theorem clsSet_fnd {cl : List I6} (hs : SortK kC cl) (V S P F T H : Int) (q : List Int) (hne : ¬ (T = 0 ∧ H = 0)) : fndT (clsSet cl V S P F T H) q = (if q = [V, S, P, F] then T else fndT cl q) ∧ fndS (clsSet cl V S P F T H) q = (if q = [V, S, P, F] then H else fndS cl q) := by
 unfold fndT fndS
 rw [clsSet_get hs]
 by_cases hq : q = [V, S, P, F]
 ·rw [if_pos hq, if_pos hq, if_pos hq]
  unfold optC
  rw [if_neg hne]
  exact ⟨rfl, rfl⟩
 rw [if_neg hq, if_neg hq, if_neg hq]
 exact ⟨rfl, rfl⟩
theorem clsSet_fnd_ne {cl : List I6} (hs : SortK kC cl) (V S P F T H : Int) (q : List Int) (hq : ¬ q = [V, S, P, F]) : fndT (clsSet cl V S P F T H) q = fndT cl q ∧ fndS (clsSet cl V S P F T H) q = fndS cl q := by
 unfold fndT fndS
 rw [clsSet_get hs, if_neg hq]
 exact ⟨rfl, rfl⟩
theorem DrI.act {cl ps C P' : List I6} {p : I6} {k o V S P Q v h n N E T0 S0 m : Int} {L : List I5} (hk : HOk cl ps) (hw : ∀ x ∈ cl, WdC x) (hw2 : ∀ x ∈ ps, WdP x) (hp : p ∈ ps) (hwn : Word n) (k01 : k = 0 ∨ k = 1) (ho : ¬ o = p.1) (hD : (C, P', N, L, E) = doeV cl ps k o V S P Q v h n) (hE : E = 0)
  (H : DrI (shP p) T0 S0 (fndT cl (stP p)) (fndS cl (stP p)) m) : p ∈ P' ∧ DrI (shP p) T0 S0 (fndT C (stP p)) (fndS C (stP p)) (m + 1) := by
 have hP := hk.pool hw [V, S, P, Q]
 have hc := (chkH_iff cl ps).2 hk
 rcases k01 with hq | hq
 ·obtain ⟨a1, a2, a3, a4, _⟩ := doeV_ok hw hw2 hwn (by omega) (by omega) hD hE
  have e : doeV cl ps k o V S P Q v h n = _ := if_pos hq
  rw [e] at hD
  simp only [Prod.mk.injEq] at hD
  obtain ⟨e1, e2, e3, e4, e5⟩ := hD
  have hz : hjoiE cl ps o V S P Q n = 0 := by
   by_cases hz : hjoiE cl ps o V S P Q n = 0
   ·exact hz
   rw [hjoiV_err rfl hz] at e5
   exact e5.symm.trans hE
  have hj : joiE (fndT cl [V, S, P, Q]) (fndS cl [V, S, P, Q]) n = 0 := by
   by_cases hj : joiE (fndT cl [V, S, P, Q]) (fndS cl [V, S, P, Q]) n = 0
   ·exact hj
   exfalso
   unfold hjoiE at hz
   rw [if_neg (by simpa using hc)] at hz
   split at hz
   ·omega
   split at hz
   ·omega
   first
    | exact hj hz
    | (rw [if_pos hj] at hz; exact hj hz)
  obtain ⟨j0, jT, jS, jN, jP, jz, jp⟩ := join_ok hP hwn hj
  have hV : hjoiV cl ps o V S P Q n = _ := if_pos hz
  rw [hV] at e1 e2
  simp only at e1 e2
  have hm : p ∈ P' := by rw [e2]; exact posSet_mem hk.sp hp _ _ _ _ _ _ ho
  refine ⟨hm, ?_⟩
  rw [e1]
  by_cases hst : stP p = [V, S, P, Q]
  ·obtain ⟨f1, f2⟩ := clsSet_fnd hk.sc V S P Q (joiT (fndT cl [V, S, P, Q]) (fndS cl [V, S, P, Q]) n) (joiS (fndT cl [V, S, P, Q]) (fndS cl [V, S, P, Q]) n) (stP p) (by rw [jT]; have := hP.t0; omega)
   rw [f1, f2, if_pos hst, if_pos hst, jT, jS]
   rw [hst] at H
   have hT : 0 < fndT cl [V, S, P, Q] := by
    rcases Int.lt_or_le 0 (fndT cl [V, S, P, Q]) with hh | hh
    ·exact hh
    have := hP.z (by have := hP.t0; omega); have := H.x0; have := H.xs; omega
   obtain ⟨h1, h2⟩ := jp hT
   exact H.join hP j0 jN h1 h2
  obtain ⟨f1, f2⟩ := clsSet_fnd_ne hk.sc V S P Q (joiT (fndT cl [V, S, P, Q]) (fndS cl [V, S, P, Q]) n) (joiS (fndT cl [V, S, P, Q]) (fndS cl [V, S, P, Q]) n) (stP p) hst
  rw [f1, f2]
  exact H.same
 obtain ⟨a1, a2, a3, a4, _⟩ := doeV_ok hw hw2 hwn (by omega) (by omega) hD hE
 have e : doeV cl ps k o V S P Q v h n = _ := (if_neg (by omega)).trans (if_pos hq)
 rw [e] at hD
 simp only [Prod.mk.injEq] at hD
 obtain ⟨e1, e2, e3, e4, e5⟩ := hD
 have hz : hleaE cl ps o V S P Q n = 0 := by
  by_cases hz : hleaE cl ps o V S P Q n = 0
  ·exact hz
  rw [hleaV_err rfl hz] at e5
  exact e5.symm.trans hE
 have hj : leaE (fndT cl [V, S, P, Q]) (fndS cl [V, S, P, Q]) n = 0 := by
  unfold hleaE at hz
  rw [if_neg (by simpa using hc)] at hz
  split at hz
  ·omega
  split at hz
  ·omega
  exact hz
 obtain ⟨j0, j1, jT, jS, jn, jn2, jt, jP, jS0, jl, jh⟩ := leave_ok hP hwn hj
 have hV : hleaV cl ps o V S P Q n = _ := if_pos hz
 rw [hV] at e1 e2
 simp only at e1 e2
 have hm : p ∈ P' := by rw [e2]; exact posSet_mem hk.sp hp _ _ _ _ _ _ ho
 refine ⟨hm, ?_⟩
 by_cases hst : stP p = [V, S, P, Q]
 ·have hle := pos_le a2 a4 hm
  have h0 := pos_pos a2 a4 hm
  rw [e1] at hle ⊢
  rw [hst] at H hle ⊢
  have hne : ¬ (leaT (fndT cl [V, S, P, Q]) (fndS cl [V, S, P, Q]) n = 0 ∧ leaS (fndT cl [V, S, P, Q]) (fndS cl [V, S, P, Q]) n = 0) := by
   rintro ⟨h1, h2⟩
   unfold fndS at hle
   rw [clsSet_get hk.sc, if_pos rfl] at hle
   unfold optC at hle
   rw [if_pos ⟨h1, h2⟩] at hle
   change _ ≤ 0 at hle
   omega
  obtain ⟨f1, f2⟩ := clsSet_fnd hk.sc V S P Q (leaT (fndT cl [V, S, P, Q]) (fndS cl [V, S, P, Q]) n) (leaS (fndT cl [V, S, P, Q]) (fndS cl [V, S, P, Q]) n) [V, S, P, Q] hne
  rw [if_pos rfl] at f1 f2
  rw [f2, jS] at hle
  rw [f1, f2, jT, jS]
  exact H.leave j0 jl jh hle
 obtain ⟨f1, f2⟩ := clsSet_fnd_ne hk.sc V S P Q (leaT (fndT cl [V, S, P, Q]) (fndS cl [V, S, P, Q]) n) (leaS (fndT cl [V, S, P, Q]) (fndS cl [V, S, P, Q]) n) (stP p) hst
 rw [e1, f1, f2]
 exact H.same
end
section
open Go.RowKit Gr
theorem u64_info : (Tryz.prog.info? 32).map (fun i => (i.zero, i.size, i.bytes)) = some (some (.int .u64 0), 1, 8) := by kernel_rfl

structure IsGr (w : World) (A : Option Addr) (n c : Nat) (l : List Int) (N : Int) : Prop where
 sl : Sl w 1 A n c (iv .u64 l)
 dig : Dig l
 nor : Nor l
 eq : val l = N
def GrRet (N : Int) (w : World) (e : Ending) (w' : World) : Prop := ∃ A n c l, e = .returned (.slice A n c) ∧ IsGr w' A n c l N ∧ Ext w w'

theorem kGreat_any (n : Int) (hn : Word n) (w : World) :
  Calls Tryz.prog 52 #[.int .u64 n] w (GrRet n w) := by
 obtain ⟨i0, hi0, hz0, hz1, hz2⟩ := info_parts u64_info
 go_enter Tryz.func52, Tryz.ntmps52
 go_wp2
 go_loopg [0, 3] n.toNat (fun g x v wx => ∃ (x' : Int) (l : List Int), 0 ≤ x' ∧ x' < 18446744073709551616 ∧ Hid (g = x'.toNat ∧ GInv n l x') ∧ x = .int .u64 x' ∧ wx.ownsRow w.heap.size 32 1 v l.length (iv .u64 l) ∧ Ext w wx)
 case atStart => exact ⟨n, [], hn.1, hn.2, ⟨rfl, hn.2, Dig.nil, fun _ => nor_nil, by simp [val, pw]⟩, rfl, own_nil _ _ _ _, Ext.refl _⟩
 obtain ⟨x, l, x0, x1, H, rfl, hown, hx⟩ := hrel
 by_cases hz : 0 < x
 ·have hs := hx.size
  have hlen : l.length < 1099511627776 := by have := cap_step hz H.out.2.cp; omega
  have hlen2 := Lib.hid hlen
  clear hlen
  go_wp2_with (at_builtin; refine wpList_append_new wr rfl _ _ 85 rfl _ 32 i0 (.int .u64 0) 1 8 Tryz.underlying85 hi0 hz0 hz1 hz2 rfl (by decide) _ _ _ (by rfl) hown #[.int .u64 (x % 65536)] 1 (by rfl) rfl (by intro u hu; simp at hu; subst hu; rfl) hlen2.out (by decide) hs ?_; intro v1 w1 hown1 hb1)
  go_roundg (x / 65536).toNat
  case measure => have := H.out.1; omega
  exact ⟨x / 65536, l ++ [x % 65536], by omega, by omega, ⟨rfl, H.out.2.step hz⟩, rfl, by rw [← iv_snoc, List.length_append]; exact hown1, hx.below hb1⟩
 obtain ⟨h1, h2⟩ := H.out
 obtain rfl : x = 0 := by omega
 have h3 := h2.sum
 have h4 := h2.nor rfl
 have h5 := h2.dig
 obtain ⟨A, c, rfl, hsl⟩ := own_parts hown
 have h6 := Lib.hid (show GrRet n w (.returned (.slice A l.length c)) wr from ⟨A, _, c, l, rfl, ⟨hsl, h5, h4, by omega⟩, hx⟩)
 clear h1 h2 h3 h4 h5 H
 go_wp2
 go_ret
 exact h6.out

theorem kdigit_any (A : Option Addr) (n c : Nat) (l : List Int) (i : Nat) (w : World) (h : Sl w 1 A n c (iv .u64 l)) :
  Calls Tryz.prog 93 #[.slice A n c, .int .i64 i] w fun e w' => e = .returned (.int .u64 (l.getD i 0)) ∧ w = w' := by
 have hs := h.small
 have hl := h.ilen
 by_cases hi : i < n
 ·obtain ⟨b, o, rfl, hb, hc⟩ := h.cell hi
  have hc1 := hc i hi
  obtain ⟨x, hx⟩ : ∃ x, x = l.getD i 0 := ⟨_, rfl⟩
  rw [← hx] at hc1 ⊢
  clear hc hx h hl
  go_enter Tryz.func93, Tryz.ntmps93
  go_wp2
  go_ret
  exact ⟨rfl, rfl⟩
 have e : l.getD i 0 = 0 := by
  rw [List.getD_eq_getElem?_getD, List.getElem?_eq_none (by omega)]; rfl
 rw [e]
 clear e h hl
 go_enter Tryz.func93, Tryz.ntmps93
 go_wp2
 go_ret
 exact ⟨rfl, rfl⟩

def TrimRet (A : Option Addr) (c : Nat) (l : List Int) (w : World) (e : Ending) (w' : World) : Prop :=
 ∃ m, e = .returned (.slice A m c) ∧ m ≤ l.length ∧ Nor (l.take m) ∧ val (l.take m) = val l ∧ w = w'
theorem ktrim_any (A : Option Addr) (n c : Nat) (l : List Int) (w : World) (h : Sl w 1 A n c (iv .u64 l)) :
  Calls Tryz.prog 94 #[.slice A n c] w (TrimRet A c l w) := by
 have hs := h.small
 have hl := h.ilen
 have hnc := h.2.1
 have hcm : c ≤ 9223372036854775807 := by have := h.2.2.1; simpa [maxLen] using this
 go_enter Tryz.func94, Tryz.ntmps94
 go_wp2
 go_loopg [3] n (fun g m wx => g ≤ n ∧ Hid (val (l.take g) = val l) ∧ m = .int .i64 g ∧ wx = w)
 case atStart => exact ⟨Nat.le_refl _, by show val (l.take n) = val l; rw [List.take_of_length_le (by omega)], rfl, rfl⟩
 obtain ⟨hg, hv, rfl, rfl⟩ := hrel
 rcases gk with _ | m
 ·have H := Lib.hid (show TrimRet A c l wr (.returned (.slice A 0 c)) wr from ⟨0, rfl, by omega, by simpa using nor_nil, hv.out, rfl⟩)
  clear hv
  go_wp2
  go_ret
  exact H.out
 obtain ⟨b, o, rfl, hb, hc⟩ := h.cell (show m < n from by omega)
 have hc1 := hc m (by omega)
 obtain ⟨x, hx⟩ : ∃ x, x = l.getD m 0 := ⟨_, rfl⟩
 rw [← hx] at hc1
 by_cases hz : x = 0
 ·subst hz
  have hv2 := Lib.hid (show val (l.take m) = val l from (take_val (by omega) hx.symm).symm.trans hv.out)
  clear hv hc hx h hl
  go_wp2
  go_roundg m
  case measure => omega
  exact ⟨by omega, hv2, num_eq (by omega), rfl⟩
 have hz' : (x == 0) = false := by simpa using hz
 have H := Lib.hid (show TrimRet (some ⟨b, o, none⟩) c l wr (.returned (.slice (some ⟨b, o, none⟩) (m + 1) c)) wr from ⟨m + 1, rfl, by omega, nor_take (by omega) (by rw [← hx]; exact hz), hv.out, rfl⟩)
 clear hv hc hx h hz hl
 go_wp2
 go_ret
 exact H.out
theorem trim_gr {w : World} {A : Option Addr} {n c : Nat} {l : List Int} {N : Int} (h : Sl w 1 A n c (iv .u64 l)) (hd : Dig l) (hv : val l = N) :
  Calls Tryz.prog 94 #[.slice A n c] w (GrRet N w) := by
 refine (ktrim_any A n c l w h).mono fun e w' ⟨m, he, hm, hn, hv2, hw⟩ => ?_
 subst hw
 have hl := h.ilen
 exact ⟨A, m, c, l.take m, he, ⟨h.itake (by omega), hd.take m, hn, hv2.trans hv⟩, Ext.refl _⟩

theorem kLessGreat_any (A B : Option Addr) (n m c d : Nat) (a b : List Int) (N M : Int) (w : World) (ha : IsGr w A n c a N) (hb : IsGr w B m d b M) :
  Calls Tryz.prog 53 #[.slice A n c, .slice B m d] w fun e w' => e = .returned (.bool (decide (N < M))) ∧ Drw w w' := by
 obtain ⟨sa, da, na, ea⟩ := ha
 obtain ⟨sb, db, nb, eb⟩ := hb
 have hsa := sa.small
 have hsb := sb.small
 have hla := sa.ilen
 have hlb := sb.ilen
 obtain ⟨V, hV⟩ : ∃ V, V = decide (N < M) := ⟨_, rfl⟩
 rw [← hV]
 have HV := Lib.hid hV
 clear hV
 by_cases hl : n = m
 ·subst hl
  go_enter Tryz.func53, Tryz.ntmps53
  go_wp2
  go_loopg [5] n (fun g i wx => g ≤ n ∧ Hid (a.drop g = b.drop g) ∧ Hid (i = .int .i64 ((g : Int) - 1)) ∧ Drw w wx)
  case atStart => exact ⟨Nat.le_refl _, by show a.drop n = b.drop n; rw [List.drop_eq_nil_of_le (by omega), List.drop_eq_nil_of_le (by omega)], rfl, 0, rfl⟩
  obtain ⟨hg, hd, hi, hw⟩ := hrel
  rcases gk with _ | i
  ·have h5 : u5 = .int .i64 (-1) := hi.out.trans (num_eq (by simp))
   subst h5
   have e : V = false := by
    rw [HV.out]
    have h1 : a = b := by simpa using hd.out
    subst h1
    have : N = M := ea.symm.trans eb
    subst this
    simp
   subst e
   clear hi hd
   have HW := Lib.hid hw
   clear hw
   go_wp2
   go_ret
   exact ⟨rfl, HW.out⟩
  obtain rfl : u5 = .int .i64 (i : Int) := by rw [hi.out]; exact num_eq (by omega)
  clear hi
  obtain ⟨b1, o1, rfl, hb1, hc1⟩ := sa.cell (show i < n from by omega)
  obtain ⟨b2, o2, rfl, hb2, hc2⟩ := sb.cell (show i < n from by omega)
  obtain ⟨nq, rfl⟩ := hw
  have g1 := hc1 i (by omega)
  have g2 := hc2 i (by omega)
  obtain ⟨x, hx⟩ : ∃ x, x = a.getD i 0 := ⟨_, rfl⟩
  obtain ⟨y, hy⟩ : ∃ y, y = b.getD i 0 := ⟨_, rfl⟩
  rw [← hx] at g1
  rw [← hy] at g2
  have i0 : (i : Int) < n := by omega
  by_cases hxy : x = y
  ·have hd2 := Lib.hid (drop_eq (by omega) i (by omega) hd.out (by rw [← hx, ← hy, hxy]))
   subst hxy
   clear hc1 hc2 hx hy hd sa sb da db na nb ea eb hla hlb
   go_wp2
   go_quiet (fail)
   go_wp2
   go_roundg i
   case measure => omega
   exact ⟨by omega, hd2, rfl, _, rfl⟩
  have hne : (x == y) = false := by simpa using hxy
  have e : V = decide (x < y) := by
   rw [HV.out, Bool.eq_iff_iff, decide_eq_true_eq, decide_eq_true_eq, hx, hy, ← ea, ← eb]
   constructor
   ·intro h
    rcases Int.lt_or_gt_of_ne (by rw [← hx, ← hy]; exact hxy : a.getD i 0 ≠ b.getD i 0) with h1 | h1
    ·exact h1
    have := less_at db da (by omega) i (by omega) hd.out.symm h1
    omega
   exact less_at da db (by omega) i (by omega) hd.out
  have E := Lib.hid e
  clear hc1 hc2 hx hy hd sa sb da db na nb ea eb hla hlb e hxy
  go_wp2
  go_quiet (fail)
  go_wp2
  go_quiet (fail)
  go_wp2
  go_ret
  exact ⟨ret_bool E.out.symm, by repeat (first | exact Drw.refl _ | refine Drw.drewN ?_ _ | exact ⟨_, rfl⟩)⟩
 have hne : ((n : Int) == m) = false := by simp; omega
 have e : V = decide (n < m) := by
  rw [HV.out, Bool.eq_iff_iff, decide_eq_true_eq, decide_eq_true_eq, ← ea, ← eb]
  constructor
  ·intro h
   rcases Nat.lt_or_gt_of_ne hl with h1 | h1
   ·omega
   have := less_len db da na (by omega)
   omega
  intro h
  exact less_len da db nb (by omega)
 have E := Lib.hid e
 clear sa sb da db na nb ea eb hla hlb e hl
 go_enter Tryz.func53, Tryz.ntmps53
 go_wp2
 go_ret
 exact ⟨ret_bool E.out.symm, Drw.refl _⟩
theorem IsGr.ext {w w' : World} {A : Option Addr} {n c : Nat} {l : List Int} {N : Int} (h : IsGr w A n c l N) (hd : Ext w w') : IsGr w' A n c l N := ⟨h.sl.ext hd, h.dig, h.nor, h.eq⟩
def zer (n : Nat) : Array Value := madeCells (Value.int .u64 0).cells n
theorem iv_set (k : IntKind) (l : List Int) (j : Nat) (x : Int) : (iv k l).set j (.int k x) = iv k (l.set j x) := by simp [iv, List.map_set]
theorem zer_eq (n : Nat) : (zer n).toList = iv .u64 (List.replicate n 0) ∧ (zer n).size = n := by
 unfold zer
 refine ⟨?_, size_madeCells _ _⟩
 rw [show (Value.int .u64 0).cells = #[Value.int .u64 0] from rfl, toList_madeCells_one]
 simp [iv]
theorem own_zer (w : World) (n : Nat) (hn : n < 1099511627776) : (w.alloc (.cells (zer n) 32)).ownsRow w.heap.size 32 1 (.slice (some ⟨w.heap.size, 0, none⟩) n n) n (iv .u64 (List.replicate n 0)) := by
 rw [← (zer_eq n).1]
 exact World.ownsRow_lit w (zer n) n (Nat.le_refl _) (by simp [maxLen]; omega) (by rw [(zer_eq n).2, Nat.mul_one])
theorem own_store {w : World} {base g n c : Nat} {e : TypeId} {k : IntKind} {O : List Int} (h : w.ownsRow base e 1 (.slice (some ⟨g, 0, none⟩) n c) n (iv k O)) (j : Nat) (x : Int) :
  (w.setCell ⟨g, j, none⟩ (.int k x)).ownsRow base e 1 (.slice (some ⟨g, 0, none⟩) n c) n (iv k (O.set j x)) := by
 rw [← iv_set]
 exact (h.stored j (.int k x)).1
theorem own_cell {w : World} {base g n c : Nat} {e : TypeId} {k : IntKind} {O : List Int} (h : w.ownsRow base e 1 (.slice (some ⟨g, 0, none⟩) n c) n (iv k O)) {j : Nat} (hj : j < n) (hl : O.length = n) :
  w.cell? ⟨g, j, none⟩ = some (.int k (O.getD j 0)) := by
 rw [h.cellAt j (by omega)]
 exact iv_get k O j (by omega)
theorem own_base {w : World} {base g n c : Nat} {e : TypeId} {sz : Nat} {xs : List Value} (h : w.ownsRow base e sz (.slice (some ⟨g, 0, none⟩) n c) n xs) : base ≤ g ∧ g < w.heap.size := h.lt g rfl
theorem kdigit_q (A : Option Addr) (n c : Nat) (l : List Int) (i : Nat) (w : World) (k : Nat) (h : Sl w 1 A n c (iv .u64 l)) :
  Calls Tryz.prog 93 #[.slice A n c, .int .i64 i] (w.drewN k) fun e w'' => e = .returned (.int .u64 (l.getD i 0)) ∧ ∃ m, w'' = w.drewN m :=
 (kdigit_any A n c l i (w.drewN k) (h.ext ((Ext.refl w).drewN k))).mono fun e w' ⟨he, hw⟩ => ⟨he, k, hw.symm⟩
theorem make_u64 {i0 : TypeInfo} (hi0 : Tryz.prog.info? 32 = some i0) (hz0 : i0.zero = some (.int .u64 0)) (hz1 : i0.size = 1) (hz2 : i0.bytes = 8) (N : Int) (n : Nat) (hN : N = n) (hn : n < 1099511627776) (w : World) :
  (Instr.makeSlice 85 (.int .i64 N) (.int .i64 N)).run Tryz.prog w = .ok (.slice (some ⟨w.heap.size, 0, none⟩) n n) (w.alloc (.cells (zer n) 32)) := by
 subst hN
 have h := run_make (P := Tryz.prog) w 85 32 i0 _ Tryz.underlying85 hi0 hz0 .i64 .i64 n n (by omega) (Int.le_refl _) (by rw [hz2]; omega) (by omega)
 rw [Int.toNat_natCast, hz1, Nat.mul_one] at h
 exact h

theorem kTimesGreat_any (A B : Option Addr) (n m c d : Nat) (a b : List Int) (N M : Int) (w : World) (ha : IsGr w A n c a N) (hb : IsGr w B m d b M) (hn : n ≤ 100) (hm : m ≤ 100) :
  Calls Tryz.prog 51 #[.slice A n c, .slice B m d] w (GrRet (N * M) w) := by
 obtain ⟨sa, da, na, ea⟩ := ha
 obtain ⟨sb, db, nb, eb⟩ := hb
 have hla := sa.ilen
 have hlb := sb.ilen
 obtain ⟨i0, hi0, hz0, hz1, hz2⟩ := info_parts u64_info
 have hmk := fun W => make_u64 hi0 hz0 hz1 hz2 ((n : Int) + m + 1) (n + m + 1) (by omega) (by omega) W
 have hmk2 : ∀ W, (Instr.makeSlice 85 (.int .i64 ((n : Int) + m + 1)) (.int .i64 ((n : Int) + m + 1))).run Tryz.prog W = .ok (.slice (some ⟨W.heap.size, 0, none⟩) (n + m + 1) (n + m + 1)) (W.alloc (.cells (zer (n + m + 1)) 32)) := hmk
 clear hmk
 go_enter Tryz.func51, Tryz.ntmps51
 go_wp2
 have O0 := Lib.hid (own_zer w (n + m + 1) (by omega))
 have X0 := Lib.hid ((Ext.refl w).alloc (.cells (zer (n + m + 1)) 32))
 clear hmk2
 have HA := Lib.hid sa
 have HB := Lib.hid sb
 clear sa sb
 go_loopg [6] n (fun g i wx => g ≤ n ∧ ∃ O, Hid (Prd a b (n - g) O ∧ wx.ownsRow w.heap.size 32 1 (.slice (some ⟨w.heap.size, 0, none⟩) (n + m + 1) (n + m + 1)) (n + m + 1) (iv .u64 O)) ∧ Ext w wx ∧ i = .int .i64 ((n - g : Nat) : Int))
 case atStart => exact ⟨Nat.le_refl _, _, ⟨by rw [Nat.sub_self]; exact Prd.start a b, by rw [hla, hlb]; exact O0.out⟩, X0.out, by simp⟩
 obtain ⟨hg, O, H, hx, rfl⟩ := hrel
 obtain ⟨gk2, hgk2⟩ : ∃ g : Nat, g = gk := ⟨_, rfl⟩
 subst hgk2
 obtain ⟨i, hi⟩ : ∃ i, i = n - gk2 := ⟨_, rfl⟩
 rw [← hi] at H ⊢
 obtain ⟨wo, rfl⟩ : ∃ wo : World, wo = wr := ⟨_, rfl⟩
 by_cases hz : gk2 = 0
 ·have hin : i = n := by omega
  subst hin
  obtain ⟨P, own⟩ := H.out
  have T := Lib.hid (trim_gr (N := N * M) (Sl.own own) P.dig (by rw [← hla] at P; rw [P.done, ea, eb]))
  clear P own H hz hg hi
  go_wp2_with (go_at_call 94; refine T.out.mono ?_; rintro e w1 ⟨A', n', c', l', rfl, hgr, hx1⟩)
  go_ret
  exact ⟨A', n', c', l', rfl, hgr, hx.trans hx1⟩
 have hi1 : (i : Int) < n := by omega
 obtain ⟨P, own⟩ := H.out
 have hb0 := (own_base own).2
 have R0 := Lib.hid (And.intro P.row own)
 have P0 := Lib.hid P
 have hin : i < n := by omega
 have hgk := Lib.hid (And.intro hi (And.intro hg hz))
 clear P own H hz hg hi hin
 go_wp2
 go_loopg [7, 8] (m + 1) (fun g y i2 wx => g ≤ m + 1 ∧ ∃ (O2 : List Int) (cy : Int), Hid (Row a b O i O2 cy (m + 1 - g) ∧ wx.ownsRow w.heap.size 32 1 (.slice (some ⟨w.heap.size, 0, none⟩) (n + m + 1) (n + m + 1)) (n + m + 1) (iv .u64 O2)) ∧
  0 ≤ cy ∧ cy < 65536 ∧ Ext w wx ∧ y = .int .u64 cy ∧ i2 = .int .i64 ((m + 1 - g : Nat) : Int))
 case atStart => exact ⟨Nat.le_refl _, O, 0, ⟨by rw [Nat.sub_self]; exact R0.out.1, R0.out.2⟩, by decide, by decide, hx, rfl, by simp⟩
 obtain ⟨hg, O2, cy, R, c0, c1, hx2, rfl, rfl⟩ := hrel
 obtain ⟨k, hk⟩ : ∃ k, k = m + 1 - gk := ⟨_, rfl⟩
 rw [← hk] at R ⊢
 by_cases hz : gk = 0
 ·obtain ⟨Rr, own2⟩ := R.out
  have hkm : k = m + 1 := by omega
  have P2 := Lib.hid (P0.out.next da db (by have := hgk.out; omega) (by rw [hlb, ← hkm]; exact Rr))
  have W2 := Lib.hid own2
  have hkm2 : ¬ (k : Int) ≤ m := by omega
  clear Rr own2 R hz hg hk hkm
  go_wp2
  go_roundg (gk2 - 1)
  case measure => have := hgk.out; omega
  exact ⟨by have := hgk.out; omega, O2, ⟨by rw [show n - (gk2 - 1) = i + 1 from by have := hgk.out; omega]; exact P2.out, W2.out⟩, hx2, num_eq (by have := hgk.out; omega)⟩
 obtain ⟨Rr, own2⟩ := R.out
 have hkm : k ≤ m := by omega
 obtain ⟨t0, t1, R2⟩ := Rr.step da db (by have := hgk.out; omega) (by omega)
 have hcell := own_cell own2 (show i + k < n + m + 1 from by omega) (by rw [Rr.len, hla, hlb])
 have hfr := own2.frozenAt (i + k)
 obtain ⟨b1, o1, rfl, hb1, hc1⟩ := HA.out.cell (show i < n from by have := hgk.out; omega)
 have hcell2 : wr.cell? ⟨b1, o1 + i, none⟩ = some (.int .u64 (a.getD i 0)) := (hx2.cells.1 _ _ hb1).trans (hc1 i (by have := hgk.out; omega))
 have HD := Lib.hid (fun j => kdigit_q B m d b k wr j (HB.out.ext hx2))
 obtain ⟨x1, x2⟩ := Rr.dig.getD (i + k)
 obtain ⟨y1, y2⟩ := da.getD i
 obtain ⟨z1, z2⟩ := db.getD k
 obtain ⟨x, hx⟩ : ∃ x, x = O2.getD (i + k) 0 := ⟨_, rfl⟩
 obtain ⟨y, hy⟩ : ∃ x, x = a.getD i 0 := ⟨_, rfl⟩
 obtain ⟨z, hz⟩ : ∃ x, x = b.getD k 0 := ⟨_, rfl⟩
 rw [← hx] at hcell x1 x2 t0 t1 R2
 rw [← hy] at hcell2 y1 y2 t0 t1 R2
 rw [← hz] at HD z1 z2 t0 t1 R2
 have p1 : 0 ≤ y * z := Int.mul_nonneg y1 z1
 have p2 : y * z < 4294967296 := by omega
 have N2 := Lib.hid (And.intro R2 (own_store own2 (i + k) ((cy + x + y * z) % 65536)))
 have HK := Lib.hid (And.intro hk (And.intro hg hkm))
 have i1 : (i : Int) + (k : Int) < (n : Int) + (m : Int) + 1 := by omega
 have k1 : (k : Int) ≤ m := by omega
 clear Rr own2 R hg hk hx hy hz R2 hc1 hb1 hkm
 go_wp2
 have w1 : IntKind.i64.wrap ((i : Int) + (k : Int)) = (i : Int) + (k : Int) := IntWalk.i64_in _ (by omega)
 have w2 : ((i : Int) + (k : Int)).toNat = i + k := by omega
 have w3 : (0 : Int) ≤ (i : Int) + (k : Int) := by omega
 go_quiet ((go_at_call 93; exact HD.out _))
 clear w1 w2 w3
 go_wp2
 go_roundg (gk - 1)
 case measure => have := HK.out; omega
 obtain ⟨R2, own3⟩ := N2.out
 have hkk : m + 1 - (gk - 1) = k + 1 := by have := HK.out; omega
 exact ⟨by have := HK.out; omega, _, _, ⟨by rw [hkk]; exact R2, own3⟩, by omega, by omega, (hx2.drewN _).setCell (Nat.le_refl _) _, rfl, num_eq (by rw [hkk]; omega)⟩
end
section

namespace Gr
structure SG (a b O : List Int) (cy : Int) (i : Nat) : Prop where
 dig : Dig O
 len : O.length = i
 c0 : 0 ≤ cy
 c1 : cy ≤ 1
 sum : val O + pw i * cy = val (a.take i) + val (b.take i)
theorem SG.start (a b : List Int) : SG a b [] 0 0 := ⟨Dig.nil, rfl, by decide, by decide, by simp [val]⟩
theorem SG.step {a b O : List Int} {cy : Int} {i : Nat} (h : SG a b O cy i) (da : Dig a) (db : Dig b) :
  let t := cy + a.getD i 0 + b.getD i 0
  0 ≤ t ∧ t < 131072 ∧ SG a b (O ++ [t % 65536]) (t / 65536) (i + 1) := by
 intro t
 obtain ⟨a1, a2⟩ := da.getD i
 obtain ⟨b1, b2⟩ := db.getD i
 have c0 := h.c0
 have c1 := h.c1
 have t0 : 0 ≤ t := by show 0 ≤ cy + a.getD i 0 + b.getD i 0; omega
 have t1 : t < 131072 := by show cy + a.getD i 0 + b.getD i 0 < 131072; omega
 refine ⟨t0, t1, h.dig.append (Dig.nil.cons (by omega) (by omega)), by rw [List.length_append, h.len]; rfl, by omega, by omega, ?_⟩
 rw [val_append, h.len, val_take_succ, val_take_succ]
 have e := h.sum
 show val O + pw i * (t % 65536 + 65536 * 0) + 65536 * pw i * (t / 65536) = _
 have e2 : pw i * (t % 65536 + 65536 * 0) + 65536 * pw i * (t / 65536) = pw i * t := by
  rw [show t % 65536 + 65536 * 0 = t % 65536 from by omega, Int.mul_comm 65536 (pw i), Int.mul_assoc, ← Int.mul_add]
  congr 1; omega
 have e3 : pw i * t = pw i * cy + (pw i * a.getD i 0 + pw i * b.getD i 0) := by
  show pw i * (cy + a.getD i 0 + b.getD i 0) = _
  rw [Int.mul_add, Int.mul_add]; omega
 omega
theorem SG.done {a b O : List Int} {i : Nat} (h : SG a b O 0 i) (ha : a.length ≤ i) (hb : b.length ≤ i) : val O = val a + val b := by
 have e := h.sum
 rw [List.take_of_length_le ha, List.take_of_length_le hb] at e
 omega
end Gr
open Go.RowKit Gr

theorem kSumGreat_any (A B : Option Addr) (n m c d : Nat) (a b : List Int) (N M : Int) (w : World) (ha : IsGr w A n c a N) (hb : IsGr w B m d b M) (hn : n ≤ 100) (hm : m ≤ 100) :
  Calls Tryz.prog 54 #[.slice A n c, .slice B m d] w (GrRet (N + M) w) := by
 obtain ⟨sa, da, na, ea⟩ := ha
 obtain ⟨sb, db, nb, eb⟩ := hb
 have hla := Lib.hid sa.ilen
 have hlb := Lib.hid sb.ilen
 have HA := Lib.hid sa
 have HB := Lib.hid sb
 have HD := Lib.hid (And.intro da db)
 have HE := Lib.hid (And.intro ea eb)
 clear sa sb da na ea db nb eb
 obtain ⟨mx, hmx⟩ : ∃ mx : Nat, (if (n : Int) < m then (m : Int) else n) = mx ∧ n ≤ mx ∧ m ≤ mx := by
  by_cases h : (n : Int) < m
  ·exact ⟨m, by rw [if_pos h], by omega, Nat.le_refl _⟩
  exact ⟨n, by rw [if_neg h], Nat.le_refl _, by omega⟩
 obtain ⟨hmx, hmx1, hmx2⟩ := hmx
 have hmax : ∀ (ts : Array TypeId) (t : TypeId) (w : World), (Builtin.max_ ts t #[.int .i64 n, .int .i64 m]).run Tryz.prog w = .ok (.int .i64 mx) w := by
  intro ts t w
  rw [run_max_int2, hmx]
 have hmx3 : mx ≤ 100 := by
  by_cases h : (n : Int) < m
  ·rw [if_pos h] at hmx; omega
  rw [if_neg h] at hmx; omega
 clear hmx
 obtain ⟨i0, hi0, hz0, hz1, hz2⟩ := info_parts u64_info
 go_enter Tryz.func54, Tryz.ntmps54
 go_wp2
 go_loopg [5, 6, 7] (mx + 1) (fun g v y i wx => g ≤ mx + 1 ∧ ∃ (O : List Int) (cy : Int), Hid (SG a b O cy (mx + 1 - g) ∧ wx.ownsRow w.heap.size 32 1 v (mx + 1 - g) (iv .u64 O)) ∧ Hid (g = 0 → cy = 0) ∧ 0 ≤ cy ∧ cy ≤ 1 ∧ y = .int .u64 cy ∧ i = .int .i64 ((mx + 1 - g : Nat) : Int) ∧ Ext w wx)
 case atStart => exact ⟨Nat.le_refl _, [], 0, ⟨by rw [Nat.sub_self]; exact SG.start a b, by rw [Nat.sub_self]; exact own_nil _ _ _ _⟩, fun _ => rfl, by decide, by decide, rfl, by simp, Ext.refl _⟩
 obtain ⟨hg, O, cy, H, H0, c0, c1, rfl, hi, hx⟩ := hrel
 obtain ⟨k, hk⟩ : ∃ k, k = mx + 1 - gk := ⟨_, rfl⟩
 rw [← hk] at H hi
 subst hi
 have XW := Lib.hid hx
 have hs := hx.size
 clear hx
 obtain ⟨G, own⟩ := H.out
 have HG := Lib.hid G
 have HO := Lib.hid own
 clear H G own
 by_cases hz : ¬ (k : Int) < mx ∧ cy = 0
 ·obtain ⟨hkn, rfl⟩ := hz
  obtain ⟨A', c', rfl, so⟩ := own_parts HO.out
  have T := Lib.hid (trim_gr (N := N + M) so HG.out.dig (by rw [HG.out.done (by have := hla.out; omega) (by have := hlb.out; omega), HE.out.1, HE.out.2]))
  clear so hk hg
  go_wp2_with (go_at_call 94; refine T.out.mono ?_; rintro e w1 ⟨A2, n2, c2, l2, rfl, hgr, hx1⟩)
  go_ret
  exact ⟨A2, n2, c2, l2, rfl, hgr, XW.out.trans hx1⟩
 obtain ⟨t0, t1, G2⟩ := HG.out.step HD.out.1 HD.out.2
 have C1 := Lib.hid (kdigit_any A n c a k wr (HA.out.ext XW.out))
 have C2 := Lib.hid (kdigit_any B m d b k wr (HB.out.ext XW.out))
 obtain ⟨y1, y2⟩ := HD.out.1.getD k
 obtain ⟨z1, z2⟩ := HD.out.2.getD k
 obtain ⟨y, hy⟩ : ∃ x, x = a.getD k 0 := ⟨_, rfl⟩
 obtain ⟨z, hzz⟩ : ∃ x, x = b.getD k 0 := ⟨_, rfl⟩
 have hlast : gk = 1 → (cy + y + z) / 65536 = 0 := by
  intro h1
  have e1 : y = 0 := by rw [hy, List.getD_eq_getElem?_getD, List.getElem?_eq_none (by have := hla.out; omega)]; rfl
  have e2 : z = 0 := by rw [hzz, List.getD_eq_getElem?_getD, List.getElem?_eq_none (by have := hlb.out; omega)]; rfl
  omega
 have HLAST := Lib.hid hlast
 rw [← hy] at y1 y2 t0 t1 G2 C1
 rw [← hzz] at z1 z2 t0 t1 G2 C2
 have GG := Lib.hid G2
 have hgk : gk ≠ 0 := by
  intro h
  have := H0.out h
  exact hz ⟨by omega, this⟩
 have HK := Lib.hid (And.intro hk (And.intro hg hgk))
 have hk1 : k ≤ 1000 := by omega
 have hkk : (k : Int) < mx ∨ ¬ (k : Int) < mx ∧ 0 < cy := by
  by_cases h : (k : Int) < mx
  ·exact .inl h
  exact .inr ⟨h, by have : ¬ cy = 0 := fun e => hz ⟨h, e⟩; omega⟩
 have hkb := Lib.hid (show k < 1099511627776 by omega)
 clear hlast hy hzz G2 hz hk hg hgk
 rcases hkk with hkk | ⟨hkk, hcy⟩
 all_goals
  go_wp2_with fail
  refine C1.out.mono ?_
  rintro e w1 ⟨rfl, rfl⟩
  go_wp2_with fail
  refine C2.out.mono ?_
  rintro e w1 ⟨rfl, rfl⟩
  go_wp2_with (at_builtin; refine wpList_append_new wr rfl _ _ 85 rfl _ 32 i0 (.int .u64 0) 1 8 Tryz.underlying85 hi0 hz0 hz1 hz2 rfl (by decide) _ _ _ (by rfl) HO.out #[.int .u64 ((cy + y + z) % 65536)] 1 (by rfl) rfl (by intro u hu; simp at hu; subst hu; rfl) hkb.out (by decide) hs ?_; intro v1 w1 hown1 hb1)
  go_roundg (gk - 1)
  case measure => have := HK.out; omega
  case rel =>
   have e5 : mx + 1 - (gk - 1) = k + 1 := by have := HK.out; omega
   exact ⟨by have := HK.out; omega, O ++ [(cy + y + z) % 65536], (cy + y + z) / 65536, ⟨by rw [e5]; exact GG.out, by rw [e5, ← iv_snoc]; exact hown1⟩, fun h => HLAST.out (by have := HK.out; omega), by omega, by omega, rfl, num_eq (by rw [e5]; omega), XW.out.below hb1⟩
end
section
open Go.RowKit Gr
theorem gr_short {w : World} {A : Option Addr} {n c : Nat} {l : List Int} {N : Int} (h : IsGr w A n c l N) {k : Nat} (hN : N < pw k) : n ≤ k := by
 have := len_of h.dig h.nor (by rw [h.eq]; exact hN)
 rw [h.sl.ilen] at this
 exact this
def GV (w : World) (v : Value) (N : Int) : Prop := ∃ A n c l, v = .slice A n c ∧ IsGr w A n c l N
theorem GV.ext {w w' : World} {v : Value} {N : Int} (h : GV w v N) (hx : Ext w w') : GV w' v N := by
 obtain ⟨A, n, c, l, h1, h2⟩ := h
 exact ⟨A, n, c, l, h1, h2.ext hx⟩
theorem pw16 : pw 16 = 115792089237316195423570985008687907853269984665640564039457584007913129639936 := by decide
def B1 (N : Int) : Prop := 0 ≤ N ∧ N < 18446744073709551616
def B2 (N : Int) : Prop := 0 ≤ N ∧ N < 340282366920938463463374607431768211456
def B3 (N : Int) : Prop := 0 ≤ N ∧ N < 6277101735386680763835789423207666416102355444464034512896
theorem mul_lt {a b A B : Int} (h1 : 0 ≤ a) (h2 : a < A) (h3 : 0 ≤ b) (h4 : b < B) : 0 ≤ a * b ∧ a * b < A * B := by
 refine ⟨Int.mul_nonneg h1 h3, ?_⟩
 have m1 : a * b ≤ a * B := Int.mul_le_mul_of_nonneg_left (by omega) h1
 have m2 : a * B < A * B := Int.mul_lt_mul_of_pos_right h2 (by omega)
 omega
theorem B1.mul {a b : Int} (h : B1 a) (k : B1 b) : B2 (a * b) := mul_lt h.1 h.2 k.1 k.2
theorem B2.mul {a b : Int} (h : B2 a) (k : B1 b) : B3 (a * b) := mul_lt h.1 h.2 k.1 k.2
theorem B1.small {N : Int} (h : B1 N) : N < pw 16 := by rw [pw16]; have := h.2; omega
theorem B2.small {N : Int} (h : B2 N) : N < pw 16 := by rw [pw16]; have := h.2; omega
theorem B3.small {N : Int} (h : B3 N) : N < pw 16 := by rw [pw16]; have := h.2; omega
theorem gGreat (n : Int) (hn : B1 n) (w : World) : Calls Tryz.prog 52 #[.int .u64 n] w fun e w' => ∃ v, e = .returned v ∧ GV w' v n ∧ Ext w w' := by
 refine (kGreat_any n hn w).mono ?_
 rintro e w' ⟨A, m, c, l, rfl, g, hx⟩
 exact ⟨_, rfl, ⟨A, m, c, l, rfl, g⟩, hx⟩
theorem gTimes (v u : Value) (N M : Int) (hN : N < pw 16) (hM : M < pw 16) (w : World) (h1 : GV w v N) (h2 : GV w u M) :
  Calls Tryz.prog 51 #[v, u] w fun e w' => ∃ x, e = .returned x ∧ GV w' x (N * M) ∧ Ext w w' := by
 obtain ⟨A, n, c, l, rfl, g⟩ := h1
 obtain ⟨B, m, d, k, rfl, f⟩ := h2
 refine (kTimesGreat_any A B n m c d l k N M w g f (by have := gr_short g hN; omega) (by have := gr_short f hM; omega)).mono ?_
 rintro e w' ⟨A, m, c, l, rfl, g, hx⟩
 exact ⟨_, rfl, ⟨A, m, c, l, rfl, g⟩, hx⟩
theorem gSum (v u : Value) (N M : Int) (hN : N < pw 16) (hM : M < pw 16) (w : World) (h1 : GV w v N) (h2 : GV w u M) :
  Calls Tryz.prog 54 #[v, u] w fun e w' => ∃ x, e = .returned x ∧ GV w' x (N + M) ∧ Ext w w' := by
 obtain ⟨A, n, c, l, rfl, g⟩ := h1
 obtain ⟨B, m, d, k, rfl, f⟩ := h2
 refine (kSumGreat_any A B n m c d l k N M w g f (by have := gr_short g hN; omega) (by have := gr_short f hM; omega)).mono ?_
 rintro e w' ⟨A, m, c, l, rfl, g, hx⟩
 exact ⟨_, rfl, ⟨A, m, c, l, rfl, g⟩, hx⟩
theorem gLess (v u : Value) (N M : Int) (V : Bool) (hV : decide (N < M) = V) (w : World) (h1 : GV w v N) (h2 : GV w u M) :
  Calls Tryz.prog 53 #[v, u] w fun e w' => e = .returned (.bool V) ∧ Ext w w' := by
 obtain ⟨A, n, c, l, rfl, g⟩ := h1
 obtain ⟨B, m, d, k, rfl, f⟩ := h2
 subst hV
 exact (kLessGreat_any A B n m c d l k N M w g f).mono fun e w' h => ⟨h.1, h.2.ext⟩
end
section
open Go.RowKit Go.ChangeShapes Go.WideShapes Go.Deep Go.Joins
structure DrW (w : World) (base qi qp qw : Nat) (G G2 : Option Addr) (m1 m2 : Nat) (CC PP : List I6) (pO pV pS pP pF pn t0 s0 : Int) : Prop where
 bi : Bk w qi (.slice G CC.length m1) (.slice G2 PP.length m2)
 y0 : w.cell? ⟨qp, 0, none⟩ = some (.int .i64 pO)
 y1 : w.cell? ⟨qp, 1, none⟩ = some (.int .i64 pV)
 y2 : w.cell? ⟨qp, 2, none⟩ = some (.int .i64 pS)
 y3 : w.cell? ⟨qp, 3, none⟩ = some (.int .i64 pP)
 y4 : w.cell? ⟨qp, 4, none⟩ = some (.int .i64 pF)
 y5 : w.cell? ⟨qp, 5, none⟩ = some (.int .u64 pn)
 k0 : w.cell? ⟨qw, 0, none⟩ = some (.int .u64 t0)
 k1 : w.cell? ⟨qw, 1, none⟩ = some (.int .u64 s0)
 n1 : G = none → m1 = 0
 n2 : G2 = none → m2 = 0
 oc : OwnCls w base (.slice G CC.length m1) CC.length CC
 op : OwnPos w base (.slice G2 PP.length m2) PP.length PP
 q1 : ∀ j, (Value.slice G CC.length m1).ownBlock = some j → ¬ j = qi
 q2 : ∀ j, (Value.slice G2 PP.length m2).ownBlock = some j → ¬ j = qi
theorem DrW.ext {w w' : World} {base qi qp qw : Nat} {G G2 : Option Addr} {m1 m2 : Nat} {CC PP : List I6} {pO pV pS pP pF pn t0 s0 : Int} (h : DrW w base qi qp qw G G2 m1 m2 CC PP pO pV pS pP pF pn t0 s0) (hx : Ext w w') : DrW w' base qi qp qw G G2 m1 m2 CC PP pO pV pS pP pF pn t0 s0 :=
 ⟨h.bi.ext hx, hx.has h.y0, hx.has h.y1, hx.has h.y2, hx.has h.y3, hx.has h.y4, hx.has h.y5, hx.has h.k0, hx.has h.k1, h.n1, h.n2, OwnCls.ext h.oc hx, OwnPos.ext h.op hx, h.q1, h.q2⟩
theorem DrW.turn {w w' : World} {base qi qp qw : Nat} {G G2 H H2 : Option Addr} {m1 m2 l1 l2 : Nat} {CC PP CN PN : List I6} {pO pV pS pP pF pn t0 s0 : Int} (h : DrW w base qi qp qw G G2 m1 m2 CC PP pO pV pS pP pF pn t0 s0) (hx : But (· = qi) w w') (e1 : ¬ qp = qi) (e2 : ¬ qw = qi) (bi : Bk w' qi (.slice H CN.length l1) (.slice H2 PN.length l2)) (n1 : H = none → l1 = 0) (n2 : H2 = none → l2 = 0) (oc : OwnCls w' base (.slice H CN.length l1) CN.length CN) (op : OwnPos w' base (.slice H2 PN.length l2) PN.length PN) (q1 : ∀ j, (Value.slice H CN.length l1).ownBlock = some j → ¬ j = qi) (q2 : ∀ j, (Value.slice H2 PN.length l2).ownBlock = some j → ¬ j = qi) : DrW w' base qi qp qw H H2 l1 l2 CN PN pO pV pS pP pF pn t0 s0 :=
 ⟨bi, hx.has e1 h.y0, hx.has e1 h.y1, hx.has e1 h.y2, hx.has e1 h.y3, hx.has e1 h.y4, hx.has e1 h.y5, hx.has e2 h.k0, hx.has e2 h.k1, n1, n2, oc, op, q1, q2⟩
def NearCut (w0 wc : World) (q : Value) : Prop := ∃ (qx : Nat) (yk yo yV yS yP yQ yv yh yn : Int), q = .pointer (some ⟨qx, 0, none⟩) ∧ wc.cell? ⟨qx, 0, none⟩ = some (.int .i64 yk) ∧ wc.cell? ⟨qx, 1, none⟩ = some (.int .i64 yo) ∧ wc.cell? ⟨qx, 2, none⟩ = some (.int .i64 yV) ∧ wc.cell? ⟨qx, 3, none⟩ = some (.int .i64 yS) ∧ wc.cell? ⟨qx, 4, none⟩ = some (.int .i64 yP) ∧ wc.cell? ⟨qx, 5, none⟩ = some (.int .i64 yQ) ∧ wc.cell? ⟨qx, 6, none⟩ = some (.int .i64 yv) ∧ wc.cell? ⟨qx, 7, none⟩ = some (.int .i64 yh) ∧ wc.cell? ⟨qx, 8, none⟩ = some (.int .u64 yn) ∧ wc.frozen? ⟨qx, 2, none⟩ = false ∧ wc.frozen? ⟨qx, 3, none⟩ = false ∧ wc.frozen? ⟨qx, 4, none⟩ = false ∧ wc.frozen? ⟨qx, 5, none⟩ = false ∧ NearA yk yo yV yS yP yQ yv yh yn ∧ w0.heap.size ≤ qx ∧ qx < wc.heap.size ∧ Ext w0 wc
theorem HoldingDrifts_main (AL : Option Addr) (cL : Nat) (acts : List I9) (AM : Option Addr) (cM : Nat) (more : List I9) (x3 : Int) (f3 : Fits .i64 x3) (w : World) (hL : Sl w 9 AL acts.length cL (acts.flatMap actC)) (fA : ∀ x ∈ acts, FitsA x) (hL2 : Sl w 9 AM more.length cM (more.flatMap actC)) (fA2 : ∀ x ∈ more, FitsA x) (hl : acts.length ≤ 30) (hl2 : more.length ≤ 20) :
  Calls Tryz.prog 8 #[.slice AL acts.length cL, .slice AM more.length cM, .int .i64 x3] w fun r w' => r = .returned (.bool true) ∧ Ext w w' := by
 have hMd : ¬ (30 : Int) < (acts.length : Int) := by omega
 have hMe : ¬ (20 : Int) < (more.length : Int) := by omega
 have HL := Lib.hid hL
 have HF := Lib.hid fA
 have HL2 := Lib.hid hL2
 have HF2 := Lib.hid fA2
 have HF3 := Lib.hid f3
 have hl9 : acts.length ≤ 100 := by omega
 clear hL fA hL2 fA2 f3
 go_enter Tryz.func8, Tryz.ntmps8
 go_wp2_with fail
 (with_reducible refine (known13_any _).mono ?_)
 rintro e w1 ⟨rfl, hx1⟩
 have z1 := hx1.size
 try simp at z1
 replace HL := Lib.hid (HL.out.ext (Ext.trans zxt hx1))
 have X1 : Hid (Ext w w1) := Lib.hid (Ext.trans zxt hx1)
 clear hx1
 go_wp2_with fail
 (with_reducible refine (made13_any AL cL acts _ (HL.out.ext zxt) HF.out hl9).mono ?_)
 rintro e w2 ⟨cl, ps, B, B2, d, d2, rfl, ⟨hok, hwd, hwd2⟩, hlC, hlP, nB, nB2, hO, hP, hx2⟩
 have z2 := hx2.size
 try simp at z2
 have X2 : Hid (Ext w w2) := Lib.hid (Ext.trans zxt hx2)
 have HO := Lib.hid (show OwnCls _ w.heap.size _ _ _ from own_lower hO zSlTdr1_9)
 have HP := Lib.hid (show OwnPos _ w.heap.size _ _ _ from own_lower hP zSlTdr1_9)
 clear HL X1 hx2
 have RO := Lib.hid (own_rng hO)
 have RP := Lib.hid (own_rng hP)
 have hlC2 : cl.length ≤ 30 := by omega
 have hlP2 : ps.length ≤ 30 := by omega
 have HK := Lib.hid (And.intro hok (And.intro hwd hwd2))
 clear hok hwd hwd2 hlC hlP hO hP
 by_cases q0 : ps.length = 0
 ·have q0b : (((ps.length : Nat) : Int) == 0) = true := by simp [q0]
  go_wp2_with fail
  go_ret
  exact ⟨rfl, zxt⟩
 have q0b : (((ps.length : Nat) : Int) == 0) = false := by simp [q0]
 have hps : 0 < ps.length := by omega
 obtain ⟨j9, hj9⟩ : ∃ j : Nat, (j : Int) = x3 % (ps.length : Int) := ⟨(x3 % (ps.length : Int)).toNat, by rw [Int.toNat_of_nonneg (Int.emod_nonneg _ (by omega))]⟩
 have hj8 : (j9 : Int) < (ps.length : Int) := by rw [hj9]; exact Int.emod_lt_of_pos _ (by omega)
 have hj7 : j9 < ps.length := by omega
 have P9 : Hid (∀ w, Calls Tryz.prog 48 #[.int .i64 x3, .int .i64 (ps.length : Int)] w fun e w' => e = .returned (.int .i64 (j9 : Int)) ∧ w = w') := Lib.hid (fun w => by rw [hj9]; exact kPick_any x3 _ HF3.out.i64.1 HF3.out.i64.2 (by omega) (by omega) w)
 obtain ⟨b5, o5, rfl, hb5, hc5⟩ := (OwnPos.sl HP.out).rec_ posC_len (show 0 < ps.length from by omega)
 obtain ⟨y9, hy9⟩ : ∃ x, ps[j9]? = some x := ⟨_, List.getElem?_eq_getElem hj7⟩
 have u_0 := hc5 j9 y9 hy9 0 _ rfl
 have u_1 := hc5 j9 y9 hy9 1 _ rfl
 have u_2 := hc5 j9 y9 hy9 2 _ rfl
 have u_3 := hc5 j9 y9 hy9 3 _ rfl
 have u_4 := hc5 j9 y9 hy9 4 _ rfl
 have u_5 := hc5 j9 y9 hy9 5 _ rfl
 obtain ⟨pO, pV, pS, pP, pF, pn⟩ := y9
 simp only at u_0 u_1 u_2 u_3 u_4 u_5
 rw [Nat.add_zero] at u_0
 rw [← Nat.add_assoc] at u_1 u_2 u_3 u_4 u_5
 have HMem := Lib.hid (List.mem_of_getElem? hy9)
 have hb5n : ¬ b5 = w2.heap.size := by omega
 clear hc5 hy9 hj9
 go_upto_region 9 with (fail)
 go_cut [10] (fun q wc => ∃ qp : Nat, q = .pointer (some ⟨qp, 0, none⟩) ∧ Hid (Bk wc w2.heap.size (.slice B cl.length d) (.slice (some ⟨b5, o5, none⟩) ps.length d2)) ∧ wc.cell? ⟨qp, 0, none⟩ = some (.int .i64 pO) ∧ wc.cell? ⟨qp, 1, none⟩ = some (.int .i64 pV) ∧ wc.cell? ⟨qp, 2, none⟩ = some (.int .i64 pS) ∧ wc.cell? ⟨qp, 3, none⟩ = some (.int .i64 pP) ∧ wc.cell? ⟨qp, 4, none⟩ = some (.int .i64 pF) ∧ wc.cell? ⟨qp, 5, none⟩ = some (.int .u64 pn) ∧ Hid (OwnCls wc w.heap.size (.slice B cl.length d) cl.length cl) ∧ Hid (OwnPos wc w.heap.size (.slice (some ⟨b5, o5, none⟩) ps.length d2) ps.length ps) ∧ w2.heap.size < qp ∧ qp < wc.heap.size ∧ Hid (Ext w wc))
 case first =>
  go_wp2_with fail
  refine wp_region_held_drew (S := fun w' => w'.cell? ⟨w2.heap.size, 1, none⟩ = some (.slice (some ⟨b5, o5, none⟩) ps.length d2) ∧ w'.cell? ⟨b5, o5 + j9 * 6, none⟩ = some (.int .i64 pO) ∧ w'.cell? ⟨b5, o5 + j9 * 6 + 1, none⟩ = some (.int .i64 pV) ∧ w'.cell? ⟨b5, o5 + j9 * 6 + 2, none⟩ = some (.int .i64 pS) ∧ w'.cell? ⟨b5, o5 + j9 * 6 + 3, none⟩ = some (.int .i64 pP) ∧ w'.cell? ⟨b5, o5 + j9 * 6 + 4, none⟩ = some (.int .i64 pF) ∧ w'.cell? ⟨b5, o5 + j9 * 6 + 5, none⟩ = some (.int .u64 pn)) (by kernel_rfl) (by first | with_reducible exact ⟨c0_1, u_0, u_1, u_2, u_3, u_4, u_5⟩ | (simp [go_sem, World.cell?_alloc_past, u_0, u_1, u_2, u_3, u_4, u_5, hb5, hb5n]; done)) (fun hHeld => ?_)
  refine' zt 0 ?_
  refine' zt 1 ?_
  refine' zt 2 ?_
  refine' zt 3 ?_
  refine' zt 4 ?_
  refine' zt 5 ?_
  refine' next2_in 6 9 rfl rfl (by kernel_rfl) (by rfl) (by rfl) (fun K hK => ?_) (fun K hK => ?_)
  ·go_simp
   (with_reducible refine (P9.out _).mono ?_)
   rintro e w_1 ⟨rfl, rfl⟩
   refine' zk hK zSlTdr1_0 (fun hHeld => ?_); clear hK K
   refine' zt 7 ?_
   refine' zt 8 ?_
   refine' zn 9 (fun K hK => ?_)
   go_simp
   refine' zk hK zSlTdr1_0 (fun hHeld => ?_); clear hK K
   refine' zn 10 (fun K hK => ?_)
   go_simp
   refine' zk hK zSlTdr1_0 (fun hHeld => ?_); clear hK K
   refine wpAnyH_done (by kernel_rfl) ?_ _
   go_wp2_with fail
   go_meet
   exact ⟨_, rfl, Lib.hid (show Bk _ w2.heap.size (.slice B cl.length d) (.slice (some ⟨b5, o5, none⟩) ps.length d2) from ⟨zcv, zcv, zcv, zcv⟩), zcv, zcv, zcv, zcv, zcv, zcv, Lib.hid (show OwnCls _ w.heap.size (.slice B cl.length d) cl.length cl from zSlTdr1_11), Lib.hid (show OwnPos _ w.heap.size (.slice (some ⟨b5, o5, none⟩) ps.length d2) ps.length ps from zSlTdr1_10), by first | omega | (simp; done) | (simp; omega), by first | omega | (simp; done) | (simp; omega), Lib.hid zxt⟩
  go_simp
  refine' zk hK zSlTdr1_0 (fun hHeld => ?_); clear hK K
  refine' zn 6 (fun K hK => ?_)
  go_simp
  (with_reducible refine (P9.out _).mono ?_)
  rintro e w_1 ⟨rfl, rfl⟩
  refine' zk hK zSlTdr1_0 (fun hHeld => ?_); clear hK K
  refine' zt 7 ?_
  refine' zt 8 ?_
  refine' zn 10 (fun K hK => ?_)
  go_simp
  refine' zk hK zSlTdr1_0 (fun hHeld => ?_); clear hK K
  refine wpAnyH_done (by kernel_rfl) ?_ _
  go_wp2_with fail
  go_meet
  exact ⟨_, rfl, Lib.hid (show Bk _ w2.heap.size (.slice B cl.length d) (.slice (some ⟨b5, o5, none⟩) ps.length d2) from ⟨zcv, zcv, zcv, zcv⟩), zcv, zcv, zcv, zcv, zcv, zcv, Lib.hid (show OwnCls _ w.heap.size (.slice B cl.length d) cl.length cl from zSlTdr1_11), Lib.hid (show OwnPos _ w.heap.size (.slice (some ⟨b5, o5, none⟩) ps.length d2) ps.length ps from zSlTdr1_10), by first | omega | (simp; done) | (simp; omega), by first | omega | (simp; done) | (simp; omega), Lib.hid zxt⟩
 obtain ⟨qp, rfl, BI, y_0, y_1, y_2, y_3, y_4, y_5, HO, HP, hqi, hqp, X70⟩ := hcut
 clear u_0 u_1 u_2 u_3 u_4 u_5 P9 hb5 hb5n hj7 hj8
 obtain ⟨wd, hwd⟩ : ∃ x, x = wc := ⟨_, rfl⟩
 subst hwd
 have i_0 := BI.out.c0
 have i_1 := BI.out.c1
 have i_0f := BI.out.f0
 have i_1f := BI.out.f1
 have hqis : w2.heap.size < wd.heap.size := by omega
 have hni : ¬ w2.heap.size = wd.heap.size := by omega
 have hnp : ¬ qp = wd.heap.size := by omega
 obtain ⟨t0, ht0⟩ : ∃ z, z = fndT cl [pV, pS, pP, pF] := ⟨_, rfl⟩
 obtain ⟨s0, hs0⟩ : ∃ z, z = fndS cl [pV, pS, pP, pF] := ⟨_, rfl⟩
 obtain ⟨bq, hbq⟩ : ∃ z, z = (getK kC cl [pV, pS, pP, pF]).isSome := ⟨_, rfl⟩
 have CF := Lib.hid (fun (w' : World) (h1 : Sl w' 6 B cl.length d (cl.flatMap clsC)) => hFind_any cl.length d ps.length d2 B (some ⟨b5, o5, none⟩) cl pV pS pP pF w' h1)
 rw [← ht0, ← hs0, ← hbq] at CF
 have HW0 := Lib.hid (show Word t0 ∧ Word s0 from by rw [ht0, hs0]; exact fnd_word HK.out.2.1 _)
 have HD0 := Lib.hid (show (pO, pV, pS, pP, pF, pn) ∈ ps ∧ DrI pn t0 s0 (fndT cl [pV, pS, pP, pF]) (fndS cl [pV, pS, pP, pF]) ((0 : Nat) : Int) from ⟨HMem.out, by rw [ht0, hs0]; exact DrI.of HK.out.1 HK.out.2.2 HMem.out⟩)
 have HWn := Lib.hid (show Word pn from HK.out.2.2 _ HMem.out)
 clear ht0 hs0 hbq BI
 go_wp2_with fail
 (with_reducible refine (CF.out _ (OwnCls.sl (HO.out.ext zxt))).mono ?_)
 rintro e w71 ⟨rfl, hx71⟩
 replace i_0f := zf hx71 i_0 i_0f
 replace i_1f := zf hx71 i_1 i_1f
 replace i_0 := zh hx71 i_0
 replace i_1 := zh hx71 i_1
 replace y_0 := zh hx71 y_0
 replace y_1 := zh hx71 y_1
 replace y_2 := zh hx71 y_2
 replace y_3 := zh hx71 y_3
 replace y_4 := zh hx71 y_4
 replace y_5 := zh hx71 y_5
 have z71 := hx71.size
 try simp at z71
 have ri := zr w2.heap.size w71
 have ry := zr qp w71
 replace HO := Lib.hid (HO.out.ext (Ext.trans zxt hx71))
 replace HP := Lib.hid (HP.out.ext (Ext.trans zxt hx71))
 have X71 : Hid (Ext w w71) := Lib.hid (Ext.trans zxt hx71)
 clear X70 hx71
 go_wp2_with fail
 have hwi : w2.heap.size < w71.heap.size := by omega
 have hwp : qp < w71.heap.size := by omega
 have hwz : w.heap.size ≤ w2.heap.size := by omega
 go_loopg [13, 14] more.length (fun gh n i wx => gh ≤ more.length ∧ i = .int .i64 ((more.length - gh : Nat) : Int) ∧ ∃ (CC PP : List I6) (G G2 : Option Addr) (m1 m2 nn : Nat), n = .int .u64 (nn : Int) ∧ nn ≤ (more.length - gh) ∧ Hid (DrW wx w.heap.size w2.heap.size qp w71.heap.size G G2 m1 m2 CC PP pO pV pS pP pF pn t0 s0) ∧ Hid (HOk CC PP ∧ (∀ x ∈ CC, WdC x) ∧ (∀ x ∈ PP, WdP x)) ∧ CC.length ≤ 30 + (more.length - gh) ∧ PP.length ≤ 30 + (more.length - gh) ∧ Hid ((pO, pV, pS, pP, pF, pn) ∈ PP ∧ DrI pn t0 s0 (fndT CC [pV, pS, pP, pF]) (fndS CC [pV, pS, pP, pF]) (nn : Int)) ∧ Hid (Ext w wx))
 case atStart => exact ⟨Nat.le_refl _, by simp, cl, ps, B, _, d, d2, 0, rfl, Nat.zero_le _, Lib.hid (DrW.mk (show Bk _ w2.heap.size (.slice B cl.length d) (.slice (some ⟨b5, o5, none⟩) ps.length d2) from ⟨zcv, zcv, zcv, zcv⟩) zcv zcv zcv zcv zcv zcv zcv zcv nB nB2 (HO.out.ext zxt) (HP.out.ext zxt) (fun j hj hh => by have h9 := RO.out j hj; omega) (fun j hj hh => by have h9 := RP.out j hj; omega)), HK, by omega, by omega, HD0, Lib.hid zxt⟩
 clear i_0 i_1 i_0f i_1f y_0 y_1 y_2 y_3 y_4 y_5 HO HP HD0
 obtain ⟨hg, hi, CC, PP, G, G2, m1, m2, nn, hn, hnn, DW, HK_, hlC, hlP, HD, XW⟩ := hrel
 subst hn
 have i_0 := DW.out.bi.c0
 have i_1 := DW.out.bi.c1
 have i_0f := DW.out.bi.f0
 have i_1f := DW.out.bi.f1
 have y_0 := DW.out.y0
 have y_1 := DW.out.y1
 have y_2 := DW.out.y2
 have y_3 := DW.out.y3
 have y_4 := DW.out.y4
 have y_5 := DW.out.y5
 have k_0 := DW.out.k0
 have k_1 := DW.out.k1
 have hli := cell_lt i_0
 have hly := cell_lt y_0
 have hlk := cell_lt k_0
 have hni : ¬ w2.heap.size = wr.heap.size := by omega
 have hnp : ¬ qp = wr.heap.size := by omega
 have hnk : ¬ w71.heap.size = wr.heap.size := by omega
 obtain ⟨ix, hix⟩ : ∃ k, k = more.length - gk := ⟨_, rfl⟩
 rw [← hix] at hi hlC hlP hnn
 subst hi
 by_cases hz : gk = 0
 ·have hkn : ¬ (ix : Int) < ((more.length : Nat) : Int) := by omega
  have hnz : nn ≤ 20 := by omega
  clear hg hix hz hnn
  have hpos := HK_.out.1.pos _ HD.out.1
  obtain ⟨TT, hTT⟩ : ∃ z, z = fndT CC [pV, pS, pP, pF] := ⟨_, rfl⟩
  obtain ⟨SS, hSS⟩ : ∃ z, z = fndS CC [pV, pS, pP, pF] := ⟨_, rfl⟩
  have CF2 := Lib.hid (fun (w' : World) (hx : Ext wr w') => hFind_any CC.length m1 PP.length m2 G G2 CC pV pS pP pF w' ((OwnCls.sl DW.out.oc).ext hx))
  rw [show (getK kC CC [pV, pS, pP, pF]).isSome = true from hpos.2.2, ← hTT, ← hSS] at CF2
  have HW1 := Lib.hid (show Word TT ∧ Word SS from by rw [hTT, hSS]; exact fnd_word HK_.out.2.1 _)
  have hDI : DrI pn t0 s0 TT SS (nn : Int) := by rw [hTT, hSS]; exact HD.out.2
  have HLo := Lib.hid (show decide (pn * TT * s0 < pn * t0 * SS) = false from decide_eq_false (by have h9 := hDI.lo; omega))
  have HHi := Lib.hid (show 0 < nn → decide (pn * TT * s0 < pn * t0 * SS + s0 * SS * (nn : Int)) = true from fun hh => decide_eq_true (hDI.hi (by omega)))
  have HZe := Lib.hid (show nn = 0 → (TT == t0 && SS == s0) = true from fun hh => two_true (hDI.z (by omega)))
  have BX := Lib.hid (show B1 pn from HWn.out)
  have BT := Lib.hid (show B1 TT from HW1.out.1)
  have BS := Lib.hid (show B1 SS from HW1.out.2)
  have BT0 := Lib.hid (show B1 t0 from HW0.out.1)
  have BS0 := Lib.hid (show B1 s0 from HW0.out.2)
  have BN := Lib.hid (show B1 (nn : Int) from ⟨by omega, by omega⟩)
  have pg1 := pol_eqg
  have pe1 := pol_eq
  clear hpos hTT hSS hDI
  go_wp2_with fail
  (with_reducible refine (CF2.out _ zxt).mono ?_)
  rintro e w11 ⟨rfl, hx11⟩
  replace y_5 := zh hx11 y_5
  replace k_0 := zh hx11 k_0
  replace k_1 := zh hx11 k_1
  have z11 := hx11.size
  try simp at z11
  have ry := zr qp w11
  have rk := zr w71.heap.size w11
  have X11 : Hid (Ext w w11) := Lib.hid (Ext.trans zxt hx11)
  clear i_1 i_1f i_0f i_0 y_1 y_0 y_3 y_2 y_4 XW hx11
  go_wp2_with fail
  refine wp_region_held_drew (S := fun w' => w'.cell? ⟨w11.heap.size, 0, none⟩ = some (.int .u64 TT) ∧ w'.cell? ⟨w71.heap.size, 1, none⟩ = some (.int .u64 s0) ∧ w'.cell? ⟨qp, 5, none⟩ = some (.int .u64 pn)) (by kernel_rfl) (by first | with_reducible exact ⟨c0_0, k_1, y_5⟩ | (simp [go_sem, World.cell?_alloc_past, *]; done)) (fun hHeld => ?_)
  refine' zt 0 ?_
  refine' zt 1 ?_
  refine' zt 3 ?_
  refine' zt 4 ?_
  refine' zt 7 ?_
  refine' zt 8 ?_
  refine' zn 2 (fun K hK => ?_)
  go_simp
  (with_reducible refine (gGreat (pn) BX.out _).mono ?_)
  rintro e w12 ⟨va1, rfl, gva1, hx12⟩
  replace y_5 := zh hx12 y_5
  replace k_0 := zh hx12 k_0
  replace k_1 := zh hx12 k_1
  have c0_0 : w12.cell? ⟨w11.heap.size, 0, none⟩ = some (.int .u64 TT) := hx12.has zcv
  have c0_1 : w12.cell? ⟨w11.heap.size, 1, none⟩ = some (.int .u64 SS) := hx12.has zcv
  have z12 := hx12.size
  try simp at z12
  have lt_y_c0 := zl qp w11.heap.size
  have lt_k_c0 := zl w71.heap.size w11.heap.size
  replace ry := zr qp w12
  replace rk := zr w71.heap.size w12
  have rc0 := zr w11.heap.size w12
  have X12 : Hid (Ext w w12) := Lib.hid (Ext.trans zxt hx12)
  have Ga1 := Lib.hid gva1
  clear X11 hx12 gva1
  refine' zk hK zSlTdr1_7 (fun hHeld => ?_); clear hK K
  refine' zn 5 (fun K hK => ?_)
  go_simp
  (with_reducible refine (gGreat (TT) BT.out _).mono ?_)
  rintro e w13 ⟨va2, rfl, gva2, hx13⟩
  replace y_5 := zh hx13 y_5
  replace k_0 := zh hx13 k_0
  replace k_1 := zh hx13 k_1
  replace c0_0 := zh hx13 c0_0
  replace c0_1 := zh hx13 c0_1
  have z13 := hx13.size
  try simp at z13
  replace ry := zr qp w13
  replace rk := zr w71.heap.size w13
  replace rc0 := zr w11.heap.size w13
  replace Ga1 := Lib.hid (Ga1.out.ext (Ext.trans zxt hx13))
  have X13 : Hid (Ext w w13) := Lib.hid (Ext.trans zxt hx13)
  have Ga2 := Lib.hid gva2
  clear X12 hx13 gva2
  refine' zk hK zSlTdr1_7 (fun hHeld => ?_); clear hK K
  refine' zn 6 (fun K hK => ?_)
  go_simp
  (with_reducible refine (gTimes va1 va2 (pn) (TT) (B1.small BX.out) (B1.small BT.out) _ (Ga1.out.ext zxt) (Ga2.out.ext zxt)).mono ?_)
  rintro e w14 ⟨va3, rfl, gva3, hx14⟩
  replace y_5 := zh hx14 y_5
  replace k_0 := zh hx14 k_0
  replace k_1 := zh hx14 k_1
  replace c0_0 := zh hx14 c0_0
  replace c0_1 := zh hx14 c0_1
  have z14 := hx14.size
  try simp at z14
  replace ry := zr qp w14
  replace rk := zr w71.heap.size w14
  replace rc0 := zr w11.heap.size w14
  have X14 : Hid (Ext w w14) := Lib.hid (Ext.trans zxt hx14)
  have Ga3 := Lib.hid gva3
  clear Ga1 Ga2 X13 hx14 gva3
  refine' zk hK zSlTdr1_7 (fun hHeld => ?_); clear hK K
  refine' zn 9 (fun K hK => ?_)
  go_simp
  (with_reducible refine (gGreat (s0) BS0.out _).mono ?_)
  rintro e w15 ⟨va4, rfl, gva4, hx15⟩
  replace y_5 := zh hx15 y_5
  replace k_0 := zh hx15 k_0
  replace k_1 := zh hx15 k_1
  replace c0_0 := zh hx15 c0_0
  replace c0_1 := zh hx15 c0_1
  have z15 := hx15.size
  try simp at z15
  replace ry := zr qp w15
  replace rk := zr w71.heap.size w15
  replace rc0 := zr w11.heap.size w15
  replace Ga3 := Lib.hid (Ga3.out.ext (Ext.trans zxt hx15))
  have X15 : Hid (Ext w w15) := Lib.hid (Ext.trans zxt hx15)
  have Ga4 := Lib.hid gva4
  clear X14 hx15 gva4
  refine' zk hK zSlTdr1_7 (fun hHeld => ?_); clear hK K
  refine' zn 10 (fun K hK => ?_)
  go_simp
  (with_reducible refine (gTimes va3 va4 (pn * TT) (s0) (B2.small (B1.mul BX.out BT.out)) (B1.small BS0.out) _ (Ga3.out.ext zxt) (Ga4.out.ext zxt)).mono ?_)
  rintro e w16 ⟨vl, rfl, gvl, hx16⟩
  replace y_5 := zh hx16 y_5
  replace k_0 := zh hx16 k_0
  replace k_1 := zh hx16 k_1
  replace c0_0 := zh hx16 c0_0
  replace c0_1 := zh hx16 c0_1
  have z16 := hx16.size
  try simp at z16
  replace ry := zr qp w16
  replace rk := zr w71.heap.size w16
  replace rc0 := zr w11.heap.size w16
  have X16 : Hid (Ext w w16) := Lib.hid (Ext.trans zxt hx16)
  have Ha := Lib.hid gvl
  clear Ga3 Ga4 X15 hx16 gvl
  refine' zk hK zSlTdr1_7 (fun hHeld => ?_); clear hK K
  refine' zt 11 ?_
  refine wpAnyH_done (by kernel_rfl) ?_ _
  go_wp2_with fail
  refine wp_region_held_drew (S := fun w' => w'.cell? ⟨w11.heap.size, 1, none⟩ = some (.int .u64 SS) ∧ w'.cell? ⟨w71.heap.size, 0, none⟩ = some (.int .u64 t0) ∧ w'.cell? ⟨qp, 5, none⟩ = some (.int .u64 pn)) (by kernel_rfl) (by first | with_reducible exact ⟨c0_1, k_0, y_5⟩ | (simp [go_sem, World.cell?_alloc_past, *]; done)) (fun hHeld => ?_)
  refine' zt 0 ?_
  refine' zt 1 ?_
  refine' zt 3 ?_
  refine' zt 4 ?_
  refine' zt 7 ?_
  refine' zt 8 ?_
  refine' zn 2 (fun K hK => ?_)
  go_simp
  (with_reducible refine (gGreat (pn) BX.out _).mono ?_)
  rintro e w17 ⟨vb1, rfl, gvb1, hx17⟩
  replace y_5 := zh hx17 y_5
  replace k_0 := zh hx17 k_0
  replace k_1 := zh hx17 k_1
  replace c0_0 := zh hx17 c0_0
  replace c0_1 := zh hx17 c0_1
  have z17 := hx17.size
  try simp at z17
  replace ry := zr qp w17
  replace rk := zr w71.heap.size w17
  replace rc0 := zr w11.heap.size w17
  replace Ha := Lib.hid (Ha.out.ext (Ext.trans zxt hx17))
  have X17 : Hid (Ext w w17) := Lib.hid (Ext.trans zxt hx17)
  have Gb1 := Lib.hid gvb1
  clear X16 hx17 gvb1
  refine' zk hK zSlTdr1_6 (fun hHeld => ?_); clear hK K
  refine' zn 5 (fun K hK => ?_)
  go_simp
  (with_reducible refine (gGreat (t0) BT0.out _).mono ?_)
  rintro e w18 ⟨vb2, rfl, gvb2, hx18⟩
  replace y_5 := zh hx18 y_5
  replace k_0 := zh hx18 k_0
  replace k_1 := zh hx18 k_1
  replace c0_0 := zh hx18 c0_0
  replace c0_1 := zh hx18 c0_1
  have z18 := hx18.size
  try simp at z18
  replace ry := zr qp w18
  replace rk := zr w71.heap.size w18
  replace rc0 := zr w11.heap.size w18
  replace Ha := Lib.hid (Ha.out.ext (Ext.trans zxt hx18))
  replace Gb1 := Lib.hid (Gb1.out.ext (Ext.trans zxt hx18))
  have X18 : Hid (Ext w w18) := Lib.hid (Ext.trans zxt hx18)
  have Gb2 := Lib.hid gvb2
  clear X17 hx18 gvb2
  refine' zk hK zSlTdr1_6 (fun hHeld => ?_); clear hK K
  refine' zn 6 (fun K hK => ?_)
  go_simp
  (with_reducible refine (gTimes vb1 vb2 (pn) (t0) (B1.small BX.out) (B1.small BT0.out) _ (Gb1.out.ext zxt) (Gb2.out.ext zxt)).mono ?_)
  rintro e w19 ⟨vb3, rfl, gvb3, hx19⟩
  replace y_5 := zh hx19 y_5
  replace k_0 := zh hx19 k_0
  replace k_1 := zh hx19 k_1
  replace c0_0 := zh hx19 c0_0
  replace c0_1 := zh hx19 c0_1
  have z19 := hx19.size
  try simp at z19
  replace ry := zr qp w19
  replace rk := zr w71.heap.size w19
  replace rc0 := zr w11.heap.size w19
  replace Ha := Lib.hid (Ha.out.ext (Ext.trans zxt hx19))
  have X19 : Hid (Ext w w19) := Lib.hid (Ext.trans zxt hx19)
  have Gb3 := Lib.hid gvb3
  clear Gb1 Gb2 X18 hx19 gvb3
  refine' zk hK zSlTdr1_6 (fun hHeld => ?_); clear hK K
  refine' zn 9 (fun K hK => ?_)
  go_simp
  (with_reducible refine (gGreat (SS) BS.out _).mono ?_)
  rintro e w20 ⟨vb4, rfl, gvb4, hx20⟩
  replace y_5 := zh hx20 y_5
  replace k_0 := zh hx20 k_0
  replace k_1 := zh hx20 k_1
  replace c0_0 := zh hx20 c0_0
  replace c0_1 := zh hx20 c0_1
  have z20 := hx20.size
  try simp at z20
  replace ry := zr qp w20
  replace rk := zr w71.heap.size w20
  replace rc0 := zr w11.heap.size w20
  replace Ha := Lib.hid (Ha.out.ext (Ext.trans zxt hx20))
  replace Gb3 := Lib.hid (Gb3.out.ext (Ext.trans zxt hx20))
  have X20 : Hid (Ext w w20) := Lib.hid (Ext.trans zxt hx20)
  have Gb4 := Lib.hid gvb4
  clear X19 hx20 gvb4
  refine' zk hK zSlTdr1_6 (fun hHeld => ?_); clear hK K
  refine' zn 10 (fun K hK => ?_)
  go_simp
  (with_reducible refine (gTimes vb3 vb4 (pn * t0) (SS) (B2.small (B1.mul BX.out BT0.out)) (B1.small BS.out) _ (Gb3.out.ext zxt) (Gb4.out.ext zxt)).mono ?_)
  rintro e w21 ⟨vr, rfl, gvr, hx21⟩
  replace y_5 := zh hx21 y_5
  replace k_0 := zh hx21 k_0
  replace k_1 := zh hx21 k_1
  replace c0_0 := zh hx21 c0_0
  replace c0_1 := zh hx21 c0_1
  have z21 := hx21.size
  try simp at z21
  replace ry := zr qp w21
  replace rk := zr w71.heap.size w21
  replace rc0 := zr w11.heap.size w21
  replace Ha := Lib.hid (Ha.out.ext (Ext.trans zxt hx21))
  have X21 : Hid (Ext w w21) := Lib.hid (Ext.trans zxt hx21)
  have Hb := Lib.hid gvr
  clear Gb3 Gb4 X20 hx21 gvr
  refine' zk hK zSlTdr1_6 (fun hHeld => ?_); clear hK K
  refine' zt 11 ?_
  refine wpAnyH_done (by kernel_rfl) ?_ _
  go_wp2_with fail
  refine wp_region_held_drew (S := fun w' => w'.cell? ⟨w11.heap.size, 1, none⟩ = some (.int .u64 SS) ∧ w'.cell? ⟨w71.heap.size, 1, none⟩ = some (.int .u64 s0)) (by kernel_rfl) (by first | with_reducible exact ⟨c0_1, k_1⟩ | (simp [go_sem, World.cell?_alloc_past, *]; done)) (fun hHeld => ?_)
  refine' zt 0 ?_
  refine' zt 1 ?_
  refine' zt 3 ?_
  refine' zt 4 ?_
  refine' zt 7 ?_
  refine' zn 2 (fun K hK => ?_)
  go_simp
  (with_reducible refine (gGreat (s0) BS0.out _).mono ?_)
  rintro e w22 ⟨vc1, rfl, gvc1, hx22⟩
  replace y_5 := zh hx22 y_5
  replace k_0 := zh hx22 k_0
  replace k_1 := zh hx22 k_1
  replace c0_0 := zh hx22 c0_0
  replace c0_1 := zh hx22 c0_1
  have z22 := hx22.size
  try simp at z22
  replace ry := zr qp w22
  replace rk := zr w71.heap.size w22
  replace rc0 := zr w11.heap.size w22
  replace Ha := Lib.hid (Ha.out.ext (Ext.trans zxt hx22))
  replace Hb := Lib.hid (Hb.out.ext (Ext.trans zxt hx22))
  have X22 : Hid (Ext w w22) := Lib.hid (Ext.trans zxt hx22)
  have Gc1 := Lib.hid gvc1
  clear X21 hx22 gvc1
  refine' zk hK zSlTdr1_8 (fun hHeld => ?_); clear hK K
  refine' zn 5 (fun K hK => ?_)
  go_simp
  (with_reducible refine (gGreat (SS) BS.out _).mono ?_)
  rintro e w23 ⟨vc2, rfl, gvc2, hx23⟩
  replace k_0 := zh hx23 k_0
  replace k_1 := zh hx23 k_1
  replace c0_0 := zh hx23 c0_0
  replace c0_1 := zh hx23 c0_1
  have z23 := hx23.size
  try simp at z23
  replace rk := zr w71.heap.size w23
  replace rc0 := zr w11.heap.size w23
  replace Ha := Lib.hid (Ha.out.ext (Ext.trans zxt hx23))
  replace Hb := Lib.hid (Hb.out.ext (Ext.trans zxt hx23))
  replace Gc1 := Lib.hid (Gc1.out.ext (Ext.trans zxt hx23))
  have X23 : Hid (Ext w w23) := Lib.hid (Ext.trans zxt hx23)
  have Gc2 := Lib.hid gvc2
  clear y_5 ry X22 hx23 gvc2
  refine' zk hK zSlTdr1_8 (fun hHeld => ?_); clear hK K
  refine' zn 6 (fun K hK => ?_)
  go_simp
  (with_reducible refine (gTimes vc1 vc2 (s0) (SS) (B1.small BS0.out) (B1.small BS.out) _ (Gc1.out.ext zxt) (Gc2.out.ext zxt)).mono ?_)
  rintro e w24 ⟨vc3, rfl, gvc3, hx24⟩
  replace k_0 := zh hx24 k_0
  replace k_1 := zh hx24 k_1
  replace c0_0 := zh hx24 c0_0
  replace c0_1 := zh hx24 c0_1
  have z24 := hx24.size
  try simp at z24
  replace rk := zr w71.heap.size w24
  replace rc0 := zr w11.heap.size w24
  replace Ha := Lib.hid (Ha.out.ext (Ext.trans zxt hx24))
  replace Hb := Lib.hid (Hb.out.ext (Ext.trans zxt hx24))
  have X24 : Hid (Ext w w24) := Lib.hid (Ext.trans zxt hx24)
  have Gc3 := Lib.hid gvc3
  clear Gc1 Gc2 X23 hx24 gvc3
  refine' zk hK zSlTdr1_8 (fun hHeld => ?_); clear hK K
  refine' zn 8 (fun K hK => ?_)
  go_simp
  (with_reducible refine (gGreat ((nn : Int)) BN.out _).mono ?_)
  rintro e w25 ⟨vc4, rfl, gvc4, hx25⟩
  replace k_0 := zh hx25 k_0
  replace k_1 := zh hx25 k_1
  replace c0_0 := zh hx25 c0_0
  replace c0_1 := zh hx25 c0_1
  have z25 := hx25.size
  try simp at z25
  replace rk := zr w71.heap.size w25
  replace rc0 := zr w11.heap.size w25
  replace Ha := Lib.hid (Ha.out.ext (Ext.trans zxt hx25))
  replace Hb := Lib.hid (Hb.out.ext (Ext.trans zxt hx25))
  replace Gc3 := Lib.hid (Gc3.out.ext (Ext.trans zxt hx25))
  have X25 : Hid (Ext w w25) := Lib.hid (Ext.trans zxt hx25)
  have Gc4 := Lib.hid gvc4
  clear X24 hx25 gvc4
  refine' zk hK zSlTdr1_8 (fun hHeld => ?_); clear hK K
  refine' zn 9 (fun K hK => ?_)
  go_simp
  (with_reducible refine (gTimes vc3 vc4 (s0 * SS) ((nn : Int)) (B2.small (B1.mul BS0.out BS.out)) (B1.small BN.out) _ (Gc3.out.ext zxt) (Gc4.out.ext zxt)).mono ?_)
  rintro e w26 ⟨vu, rfl, gvu, hx26⟩
  replace k_0 := zh hx26 k_0
  replace k_1 := zh hx26 k_1
  replace c0_0 := zh hx26 c0_0
  replace c0_1 := zh hx26 c0_1
  have z26 := hx26.size
  try simp at z26
  replace rk := zr w71.heap.size w26
  replace rc0 := zr w11.heap.size w26
  replace Ha := Lib.hid (Ha.out.ext (Ext.trans zxt hx26))
  replace Hb := Lib.hid (Hb.out.ext (Ext.trans zxt hx26))
  have X26 : Hid (Ext w w26) := Lib.hid (Ext.trans zxt hx26)
  have Hc := Lib.hid gvu
  clear Gc3 Gc4 X25 hx26 gvu
  refine' zk hK zSlTdr1_8 (fun hHeld => ?_); clear hK K
  refine' zt 10 ?_
  refine wpAnyH_done (by kernel_rfl) ?_ _
  by_cases qn : nn = 0
  ·have qnb : (((nn : Nat) : Int) == 0) = true := by simp [qn]
   have qz := HZe.out qn
   go_wp2_with fail
   go_ret
   exact ⟨rfl, zxt⟩
  have qnb : (((nn : Nat) : Int) == 0) = false := by simp [qn]
  go_wp2_with fail
  (with_reducible refine (gLess vl vr (pn * TT * s0) (pn * t0 * SS) false HLo.out _ (Ha.out.ext zxt) (Hb.out.ext zxt)).mono ?_)
  rintro e w27 ⟨rfl, hx27⟩
  replace k_1 := zh hx27 k_1
  replace c0_1 := zh hx27 c0_1
  have z27 := hx27.size
  try simp at z27
  replace rk := zr w71.heap.size w27
  replace rc0 := zr w11.heap.size w27
  replace Ha := Lib.hid (Ha.out.ext (Ext.trans zxt hx27))
  replace Hb := Lib.hid (Hb.out.ext (Ext.trans zxt hx27))
  replace Hc := Lib.hid (Hc.out.ext (Ext.trans zxt hx27))
  have X27 : Hid (Ext w w27) := Lib.hid (Ext.trans zxt hx27)
  clear k_0 c0_0 X26 hx27
  go_wp2_with fail
  (with_reducible refine (gSum vr vu (pn * t0 * SS) (s0 * SS * (nn : Int)) (B3.small (B2.mul (B1.mul BX.out BT0.out) BS.out)) (B3.small (B2.mul (B1.mul BS0.out BS.out) BN.out)) _ (Hb.out.ext zxt) (Hc.out.ext zxt)).mono ?_)
  rintro e w28 ⟨vs, rfl, gvs, hx28⟩
  have z28 := hx28.size
  try simp at z28
  replace Ha := Lib.hid (Ha.out.ext (Ext.trans zxt hx28))
  have X28 : Hid (Ext w w28) := Lib.hid (Ext.trans zxt hx28)
  have Hs := Lib.hid gvs
  clear k_1 c0_1 rc0 rk Hb Hc X27 hx28 gvs
  go_wp2_with fail
  (with_reducible refine (gLess vl vs (pn * TT * s0) (pn * t0 * SS + s0 * SS * (nn : Int)) true (HHi.out (by omega)) _ (Ha.out.ext zxt) (Hs.out.ext zxt)).mono ?_)
  rintro e w29 ⟨rfl, hx29⟩
  have z29 := hx29.size
  try simp at z29
  replace Ha := Lib.hid (Ha.out.ext (Ext.trans zxt hx29))
  replace Hs := Lib.hid (Hs.out.ext (Ext.trans zxt hx29))
  have X29 : Hid (Ext w w29) := Lib.hid (Ext.trans zxt hx29)
  clear X28 hx29
  go_wp2_with fail
  go_ret
  exact ⟨rfl, zxt⟩
 have hkn : (ix : Int) < ((more.length : Nat) : Int) := by omega
 have hkl : ix < more.length := by omega
 have hl1 : CC.length < 1000 := by omega
 have hl2 : PP.length < 1000 := by omega
 have HNW := Lib.hid (show IntKind.u64.wrap ((nn : Int) + 1) = (nn : Int) + 1 from IntWalk.u64_in _ (by omega))
 obtain ⟨b9, o9, rfl, hb9, hc9⟩ := HL2.out.rec_ actC_len (show 0 < more.length from by omega)
 obtain ⟨y9, hy9⟩ : ∃ x, more[ix]? = some x := ⟨_, List.getElem?_eq_getElem hkl⟩
 have a_0 := XW.out.has (hc9 ix y9 hy9 0 _ rfl)
 have a_1 := XW.out.has (hc9 ix y9 hy9 1 _ rfl)
 have a_2 := XW.out.has (hc9 ix y9 hy9 2 _ rfl)
 have a_3 := XW.out.has (hc9 ix y9 hy9 3 _ rfl)
 have a_4 := XW.out.has (hc9 ix y9 hy9 4 _ rfl)
 have a_5 := XW.out.has (hc9 ix y9 hy9 5 _ rfl)
 have a_6 := XW.out.has (hc9 ix y9 hy9 6 _ rfl)
 have a_7 := XW.out.has (hc9 ix y9 hy9 7 _ rfl)
 have a_8 := XW.out.has (hc9 ix y9 hy9 8 _ rfl)
 have hf9 := HF2.out y9 (List.mem_of_getElem? hy9)
 obtain ⟨aw, ao, aV, aS, aP, aQ, av, ah, an⟩ := y9
 simp only at a_0 a_1 a_2 a_3 a_4 a_5 a_6 a_7 a_8
 rw [Nat.add_zero] at a_0
 rw [← Nat.add_assoc] at a_1 a_2 a_3 a_4 a_5 a_6 a_7 a_8
 have hzw := XW.out.size
 have hb9s : ¬ b9 = wr.heap.size := by omega
 have hb9w : b9 < wr.heap.size := by omega
 have SLs := Lib.hid (fun (w' : World) (hx : Ext wr w') => (And.intro ((OwnCls.sl DW.out.oc).ext hx) ((OwnPos.sl DW.out.op).ext hx)))
 have CNA := Lib.hid (fun (w' : World) (hx : Ext wr w') => near13_any CC.length m1 PP.length m2 G G2 CC PP aw ao aV aS aP aQ av ah an w' hf9 (SLs.out w' hx).1 (SLs.out w' hx).2 (by omega) (by omega) HK_.out.2.1 HK_.out.2.2 HK_.out.1)
 have HK1 := Lib.hid (And.intro hix (And.intro hg (And.intro hz hnn)))
 clear hf9 hc9 hkl hy9 hix hg hz hnn
 go_wp2_with fail
 go_cut [15] (fun q wx => NearCut wr wx q)
 case first =>
  go_wp2_with fail
  refine wp_region_held_drew (S := fun w' => w'.cell? ⟨b9, o9 + ix * 9, none⟩ = some (.int .i64 aw) ∧ w'.cell? ⟨b9, o9 + ix * 9 + 1, none⟩ = some (.int .i64 ao) ∧ w'.cell? ⟨b9, o9 + ix * 9 + 2, none⟩ = some (.int .i64 aV) ∧ w'.cell? ⟨b9, o9 + ix * 9 + 3, none⟩ = some (.int .i64 aS) ∧ w'.cell? ⟨b9, o9 + ix * 9 + 4, none⟩ = some (.int .i64 aP) ∧ w'.cell? ⟨b9, o9 + ix * 9 + 5, none⟩ = some (.int .i64 aQ) ∧ w'.cell? ⟨b9, o9 + ix * 9 + 6, none⟩ = some (.int .i64 av) ∧ w'.cell? ⟨b9, o9 + ix * 9 + 7, none⟩ = some (.int .i64 ah) ∧ w'.cell? ⟨b9, o9 + ix * 9 + 8, none⟩ = some (.int .u64 an) ∧ w'.cell? ⟨w2.heap.size, 0, none⟩ = some (.slice G CC.length m1) ∧ w'.cell? ⟨w2.heap.size, 1, none⟩ = some (.slice G2 PP.length m2)) (by kernel_rfl) (by first | with_reducible exact ⟨a_0, a_1, a_2, a_3, a_4, a_5, a_6, a_7, a_8, i_0, i_1⟩ | (simp [go_sem, World.cell?_alloc_past, *]; done)) (fun hHeld => ?_)
  refine' zt 0 ?_
  refine' zt 1 ?_
  refine' zt 2 ?_
  refine' zt 3 ?_
  refine' zt 4 ?_
  refine' next2_in 5 6 rfl rfl (by kernel_rfl) (by rfl) (by rfl) (fun K hK => ?_) (fun K hK => ?_)
  ·go_simp
   (with_reducible refine (CNA.out _ zxt).mono ?_)
   rintro e w11 ⟨⟨yk, yo, yV, yS, yP, yQ, yv, yh, yn, rfl, hN⟩, hx11⟩
   replace i_0 := zh hx11 i_0
   replace i_1 := zh hx11 i_1
   replace a_0 := zh hx11 a_0
   replace a_1 := zh hx11 a_1
   replace a_2 := zh hx11 a_2
   replace a_3 := zh hx11 a_3
   replace a_4 := zh hx11 a_4
   replace a_5 := zh hx11 a_5
   replace a_6 := zh hx11 a_6
   replace a_7 := zh hx11 a_7
   replace a_8 := zh hx11 a_8
   have z11 := hx11.size
   try simp at z11
   have ri := zr w2.heap.size w11
   have ra := zr b9 w11
   have X11 : Hid (Ext wr w11) := Lib.hid (Ext.trans zxt hx11)
   clear i_1f i_0f y_5 y_2 y_4 y_0 y_3 y_1 k_0 k_1 hx11
   refine' zk hK zSlTdr1_1 (fun hHeld => ?_); clear hK K
   refine' zn 6 (fun K hK => ?_)
   go_simp
   refine' zk hK zSlTdr1_1 (fun hHeld => ?_); clear hK K
   refine' zn 7 (fun K hK => ?_)
   go_simp
   refine' zk hK zSlTdr1_1 (fun hHeld => ?_); clear hK K
   refine wpAnyH_done (by kernel_rfl) ?_ _
   go_wp2_with fail
   go_meet
   exact ⟨_, yk, yo, yV, yS, yP, yQ, yv, yh, yn, rfl, zcv, zcv, zcv, zcv, zcv, zcv, zcv, zcv, zcv, zcv, zcv, zcv, zcv, hN, by first | omega | (simp; done) | (simp; omega), by first | omega | (simp; done) | (simp; omega), zxt⟩
  go_simp
  refine' zk hK zSlTdr1_1 (fun hHeld => ?_); clear hK K
  refine' zn 5 (fun K hK => ?_)
  go_simp
  (with_reducible refine (CNA.out _ zxt).mono ?_)
  rintro e w11 ⟨⟨yk, yo, yV, yS, yP, yQ, yv, yh, yn, rfl, hN⟩, hx11⟩
  replace i_0 := zh hx11 i_0
  replace i_1 := zh hx11 i_1
  replace a_0 := zh hx11 a_0
  replace a_1 := zh hx11 a_1
  replace a_2 := zh hx11 a_2
  replace a_3 := zh hx11 a_3
  replace a_4 := zh hx11 a_4
  replace a_5 := zh hx11 a_5
  replace a_6 := zh hx11 a_6
  replace a_7 := zh hx11 a_7
  replace a_8 := zh hx11 a_8
  have c0_0f : w11.frozen? ⟨wr.heap.size, 0, none⟩ = false := hx11.froz (v := .int .i64 0) zcv zcv
  have c0_1f : w11.frozen? ⟨wr.heap.size, 1, none⟩ = false := hx11.froz (v := .int .i64 0) zcv zcv
  have c0_2f : w11.frozen? ⟨wr.heap.size, 2, none⟩ = false := hx11.froz (v := .int .i64 0) zcv zcv
  have c0_3f : w11.frozen? ⟨wr.heap.size, 3, none⟩ = false := hx11.froz (v := .int .i64 0) zcv zcv
  have c0_4f : w11.frozen? ⟨wr.heap.size, 4, none⟩ = false := hx11.froz (v := .int .i64 0) zcv zcv
  have c0_5f : w11.frozen? ⟨wr.heap.size, 5, none⟩ = false := hx11.froz (v := .int .i64 0) zcv zcv
  have c0_6f : w11.frozen? ⟨wr.heap.size, 6, none⟩ = false := hx11.froz (v := .int .i64 0) zcv zcv
  have c0_7f : w11.frozen? ⟨wr.heap.size, 7, none⟩ = false := hx11.froz (v := .int .i64 0) zcv zcv
  have c0_8f : w11.frozen? ⟨wr.heap.size, 8, none⟩ = false := hx11.froz (v := .int .u64 0) zcv zcv
  have c0_0 : w11.cell? ⟨wr.heap.size, 0, none⟩ = some (.int .i64 0) := hx11.has zcv
  have c0_1 : w11.cell? ⟨wr.heap.size, 1, none⟩ = some (.int .i64 0) := hx11.has zcv
  have c0_2 : w11.cell? ⟨wr.heap.size, 2, none⟩ = some (.int .i64 0) := hx11.has zcv
  have c0_3 : w11.cell? ⟨wr.heap.size, 3, none⟩ = some (.int .i64 0) := hx11.has zcv
  have c0_4 : w11.cell? ⟨wr.heap.size, 4, none⟩ = some (.int .i64 0) := hx11.has zcv
  have c0_5 : w11.cell? ⟨wr.heap.size, 5, none⟩ = some (.int .i64 0) := hx11.has zcv
  have c0_6 : w11.cell? ⟨wr.heap.size, 6, none⟩ = some (.int .i64 0) := hx11.has zcv
  have c0_7 : w11.cell? ⟨wr.heap.size, 7, none⟩ = some (.int .i64 0) := hx11.has zcv
  have c0_8 : w11.cell? ⟨wr.heap.size, 8, none⟩ = some (.int .u64 0) := hx11.has zcv
  have z11 := hx11.size
  try simp at z11
  have lt_i_c0 := zl w2.heap.size wr.heap.size
  have lt_a_c0 := zl b9 wr.heap.size
  have ri := zr w2.heap.size w11
  have ra := zr b9 w11
  have rc0 := zr wr.heap.size w11
  have X11 : Hid (Ext wr w11) := Lib.hid (Ext.trans zxt hx11)
  clear i_1f i_0f y_5 y_2 y_4 y_0 y_3 y_1 k_0 k_1 hx11
  refine' zk hK zSlTdr1_1 (fun hHeld => ?_); clear hK K
  refine' zn 7 (fun K hK => ?_)
  go_simp
  refine' zk hK zSlTdr1_1 (fun hHeld => ?_); clear hK K
  refine wpAnyH_done (by kernel_rfl) ?_ _
  go_wp2_with fail
  go_meet
  exact ⟨_, yk, yo, yV, yS, yP, yQ, yv, yh, yn, rfl, zcv, zcv, zcv, zcv, zcv, zcv, zcv, zcv, zcv, zcv, zcv, zcv, zcv, hN, by first | omega | (simp; done) | (simp; omega), by first | omega | (simp; done) | (simp; omega), zxt⟩
 obtain ⟨qx, yk, yo, yV, yS, yP, yQ, yv, yh, yn, rfl, x_0, x_1, x_2, x_3, x_4, x_5, x_6, x_7, x_8, x_2f, x_3f, x_4f, x_5f, hN, hqx, hqw, hX⟩ := hcut
 obtain ⟨wd, hwd⟩ : ∃ x, x = wc := ⟨_, rfl⟩
 subst hwd
 have X70 := Lib.hid hX
 have hzd := hX.size
 replace i_0f := hX.froz i_0 i_0f
 replace i_0 := hX.has i_0
 replace i_1f := hX.froz i_1 i_1f
 replace i_1 := hX.has i_1
 replace y_0 := hX.has y_0
 replace y_1 := hX.has y_1
 replace y_2 := hX.has y_2
 replace y_3 := hX.has y_3
 replace y_4 := hX.has y_4
 replace y_5 := hX.has y_5
 have hix1 : ¬ qx = wd.heap.size := by omega
 have hix2 : ¬ w2.heap.size = wd.heap.size := by omega
 have hix3 : w2.heap.size < wd.heap.size := by omega
 have hix4 : ¬ w2.heap.size = qx := by omega
 have hix5 : ¬ qx = w2.heap.size := by omega
 have hix6 : ¬ qp = wd.heap.size := by omega
 have hix7 : qp < wd.heap.size := by omega
 have hix8 : ¬ qp = qx := by omega
 have hix9 : ¬ qx = qp := by omega
 have HN := Lib.hid hN
 clear hX hN CNA k_0 k_1 hni hnp hnk a_0 a_1 a_2 a_3 a_4 a_5 a_6 a_7 a_8
 by_cases qk : yk = 2 ∨ yo = pO
 ·rcases (show yk = 2 ∨ ¬ yk = 2 ∧ yo = pO from by omega) with hq | ⟨hq, hq2⟩
  ·have hqb : (yk == 2) = true := by simp [hq]
   go_wp2_with fail
   go_roundg (gk - 1)
   case measure => have := HK1.out; omega
   exact ⟨by have := HK1.out; omega, num_eq (by have := HK1.out; omega), CC, PP, G, G2, m1, m2, nn, rfl, by have := HK1.out; omega, Lib.hid (DW.out.ext zxt), HK_, by have := HK1.out; omega, by have := HK1.out; omega, HD, Lib.hid (Ext.trans XW.out zxt)⟩
  have hqb : (yk == 2) = false := by simpa using hq
  have hqc : (yo == pO) = true := by simp [hq2]
  go_wp2_with fail
  go_roundg (gk - 1)
  case measure => have := HK1.out; omega
  exact ⟨by have := HK1.out; omega, num_eq (by have := HK1.out; omega), CC, PP, G, G2, m1, m2, nn, rfl, by have := HK1.out; omega, Lib.hid (DW.out.ext zxt), HK_, by have := HK1.out; omega, by have := HK1.out; omega, HD, Lib.hid (Ext.trans XW.out zxt)⟩
 have hqb : (yk == 2) = false := by simp; omega
 have hqc : (yo == pO) = false := by simp; omega
 have hk01 : yk = 0 ∨ yk = 1 := by have := HN.out.k0; have := HN.out.k2; omega
 rcases (show (yk = 0 ∧ (ix : Int).tmod 2 = 0) ∨ (yk = 0 ∧ ¬ (ix : Int).tmod 2 = 0) ∨ ¬ yk = 0 from by omega) with hy | hy | hy
 ·obtain ⟨hy1, hy2⟩ := hy
  have hyb : (yk == 0) = true := by simp [hy1]
  have hyc : ((ix : Int).tmod 2 == 0) = true := by simp [hy2]
  clear hy1
  obtain ⟨⟨CN, PN, NN, LL, EE⟩, hD⟩ : ∃ z, z = doeV CC PP yk yo pV pS pP pF yv yh yn := ⟨_, rfl⟩
  have HD9 := Lib.hid (fun hE => doeV_ok HK_.out.2.1 HK_.out.2.2 HN.out.wn HN.out.k0 HN.out.k2 hD hE)
  have HDR := Lib.hid (fun hE => DrI.act HK_.out.1 HK_.out.2.1 HK_.out.2.2 HD.out.1 HN.out.wn hk01 (fun hh => qk (.inr hh)) hD hE HD.out.2)
  have CD := Lib.hid (fun (w' : World) (hx : Ext wr w') => does13_in m1 m2 G G2 CC PP yk yo pV pS pP pF yv yh yn CN PN NN EE LL w' (SLs.out w' hx).1 (SLs.out w' hx).2 (by omega) (by omega) DW.out.n1 DW.out.n2 HK_.out.2.1 HK_.out.2.2 HN.out.wn HN.out.k0 HN.out.k2 hD)
  clear hD qk hk01
  go_wp2_with fail
  (with_reducible refine (CD.out _ zxt).mono ?_)
  rintro e w71 ⟨B3, d3, B4, d4, A9, c9, rfl, nB3, nB4, hO3, hO4, hO9, hx71⟩
  replace i_0f := zf hx71 i_0 i_0f
  replace i_1f := zf hx71 i_1 i_1f
  replace i_0 := zh hx71 i_0
  replace i_1 := zh hx71 i_1
  have z71 := hx71.size
  try simp at z71
  have ri := zr w2.heap.size w71
  have X71 : Hid (Ext wr w71) := Lib.hid (Ext.trans zxt hx71)
  have HA := Lib.hid (show OwnCls _ wr.heap.size _ _ _ from own_lower hO3 zSlTdr1_9)
  have HB := Lib.hid (show OwnPos _ wr.heap.size _ _ _ from own_lower hO4 zSlTdr1_9)
  clear y_5 y_2 y_4 y_0 y_3 y_1 x_8 x_3f x_4 x_5 x_4f x_0 x_7 x_5f x_6 x_2f x_2 x_1 x_3 X70 hx71
  have RA := Lib.hid (own_rng hO3)
  have RB := Lib.hid (own_rng hO4)
  clear hO3 hO4 hO9
  by_cases hE : ¬ EE = 0
  ·have hEb : (EE == 0) = false := by simpa using hE
   go_wp2_with fail
   go_roundg (gk - 1)
   case measure => have := HK1.out; omega
   exact ⟨by have := HK1.out; omega, num_eq (by have := HK1.out; omega), CC, PP, G, G2, m1, m2, nn, rfl, by have := HK1.out; omega, Lib.hid (DW.out.ext zxt), HK_, by have := HK1.out; omega, by have := HK1.out; omega, HD, Lib.hid (Ext.trans XW.out zxt)⟩
  replace hE : EE = 0 := by omega
  subst hE
  go_wp2_with fail
  obtain ⟨_, ok2, wd1, wd2, ln1, ln2, _⟩ := HD9.out (by trivial)
  have hdr := HDR.out (by trivial)
  go_roundg (gk - 1)
  case measure => have := HK1.out; omega
  exact ⟨by have := HK1.out; omega, num_eq (by have := HK1.out; omega), CN, PN, B3, B4, d3, d4, nn + 1, num_eq (by first | omega | (rw [HNW.out]; omega)), by have := HK1.out; omega, Lib.hid (DrW.turn DW.out zSlTdr1_4 (by omega) (by omega) (show Bk _ _ (.slice B3 CN.length d3) (.slice B4 PN.length d4) from ⟨zcv, zcv, zcv, zcv⟩) nB3 nB4 (show OwnCls _ w.heap.size _ _ _ from own_lower (show OwnCls _ wr.heap.size (.slice B3 CN.length d3) CN.length CN from zSlTdr1_3) (by omega)) (show OwnPos _ w.heap.size _ _ _ from own_lower (show OwnPos _ wr.heap.size (.slice B4 PN.length d4) PN.length PN from zSlTdr1_2) (by omega)) (fun j hj hh => by have h9 := (RA.out j hj).1; first | omega | (simp at h9; omega) | (simp [go_sem] at h9; omega)) (fun j hj hh => by have h9 := (RB.out j hj).1; first | omega | (simp at h9; omega) | (simp [go_sem] at h9; omega))), Lib.hid ⟨ok2, wd1, wd2⟩, by have := HK1.out; omega, by have := HK1.out; omega, Lib.hid (show _ ∧ DrI _ _ _ _ _ ((nn + 1 : Nat) : Int) from ⟨hdr.1, by have h9 := hdr.2; rw [show ((nn + 1 : Nat) : Int) = (nn : Int) + 1 from by omega]; exact h9⟩), Lib.hid zSlTdr1_5⟩
 ·obtain ⟨hy1, hy2⟩ := hy
  have hyb : (yk == 0) = true := by simp [hy1]
  have hyc : (ix : Int).tmod 2 = 1 := by have h9 : (ix : Int).tmod 2 = (ix : Int) % 2 := Int.tmod_eq_emod_of_nonneg (by omega); rw [h9] at hy2 ⊢; omega
  clear hy1 hy2
  obtain ⟨⟨CN, PN, NN, LL, EE⟩, hD⟩ : ∃ z, z = doeV CC PP yk yo yV yS yP yQ yv yh yn := ⟨_, rfl⟩
  have HD9 := Lib.hid (fun hE => doeV_ok HK_.out.2.1 HK_.out.2.2 HN.out.wn HN.out.k0 HN.out.k2 hD hE)
  have HDR := Lib.hid (fun hE => DrI.act HK_.out.1 HK_.out.2.1 HK_.out.2.2 HD.out.1 HN.out.wn hk01 (fun hh => qk (.inr hh)) hD hE HD.out.2)
  have CD := Lib.hid (fun (w' : World) (hx : Ext wr w') => does13_in m1 m2 G G2 CC PP yk yo yV yS yP yQ yv yh yn CN PN NN EE LL w' (SLs.out w' hx).1 (SLs.out w' hx).2 (by omega) (by omega) DW.out.n1 DW.out.n2 HK_.out.2.1 HK_.out.2.2 HN.out.wn HN.out.k0 HN.out.k2 hD)
  clear hD qk hk01
  go_wp2_with fail
  (with_reducible refine (CD.out _ zxt).mono ?_)
  rintro e w71 ⟨B3, d3, B4, d4, A9, c9, rfl, nB3, nB4, hO3, hO4, hO9, hx71⟩
  replace i_0f := zf hx71 i_0 i_0f
  replace i_1f := zf hx71 i_1 i_1f
  replace i_0 := zh hx71 i_0
  replace i_1 := zh hx71 i_1
  have z71 := hx71.size
  try simp at z71
  have ri := zr w2.heap.size w71
  have X71 : Hid (Ext wr w71) := Lib.hid (Ext.trans zxt hx71)
  have HA := Lib.hid (show OwnCls _ wr.heap.size _ _ _ from own_lower hO3 zSlTdr1_9)
  have HB := Lib.hid (show OwnPos _ wr.heap.size _ _ _ from own_lower hO4 zSlTdr1_9)
  clear y_5 y_2 y_4 y_0 y_3 y_1 x_8 x_3f x_4 x_5 x_4f x_0 x_7 x_5f x_6 x_2f x_2 x_1 x_3 X70 hx71
  have RA := Lib.hid (own_rng hO3)
  have RB := Lib.hid (own_rng hO4)
  clear hO3 hO4 hO9
  by_cases hE : ¬ EE = 0
  ·have hEb : (EE == 0) = false := by simpa using hE
   go_wp2_with fail
   go_roundg (gk - 1)
   case measure => have := HK1.out; omega
   exact ⟨by have := HK1.out; omega, num_eq (by have := HK1.out; omega), CC, PP, G, G2, m1, m2, nn, rfl, by have := HK1.out; omega, Lib.hid (DW.out.ext zxt), HK_, by have := HK1.out; omega, by have := HK1.out; omega, HD, Lib.hid (Ext.trans XW.out zxt)⟩
  replace hE : EE = 0 := by omega
  subst hE
  go_wp2_with fail
  obtain ⟨_, ok2, wd1, wd2, ln1, ln2, _⟩ := HD9.out (by trivial)
  have hdr := HDR.out (by trivial)
  go_roundg (gk - 1)
  case measure => have := HK1.out; omega
  exact ⟨by have := HK1.out; omega, num_eq (by have := HK1.out; omega), CN, PN, B3, B4, d3, d4, nn + 1, num_eq (by first | omega | (rw [HNW.out]; omega)), by have := HK1.out; omega, Lib.hid (DrW.turn DW.out zSlTdr1_4 (by omega) (by omega) (show Bk _ _ (.slice B3 CN.length d3) (.slice B4 PN.length d4) from ⟨zcv, zcv, zcv, zcv⟩) nB3 nB4 (show OwnCls _ w.heap.size _ _ _ from own_lower (show OwnCls _ wr.heap.size (.slice B3 CN.length d3) CN.length CN from zSlTdr1_3) (by omega)) (show OwnPos _ w.heap.size _ _ _ from own_lower (show OwnPos _ wr.heap.size (.slice B4 PN.length d4) PN.length PN from zSlTdr1_2) (by omega)) (fun j hj hh => by have h9 := (RA.out j hj).1; first | omega | (simp at h9; omega) | (simp [go_sem] at h9; omega)) (fun j hj hh => by have h9 := (RB.out j hj).1; first | omega | (simp at h9; omega) | (simp [go_sem] at h9; omega))), Lib.hid ⟨ok2, wd1, wd2⟩, by have := HK1.out; omega, by have := HK1.out; omega, Lib.hid (show _ ∧ DrI _ _ _ _ _ ((nn + 1 : Nat) : Int) from ⟨hdr.1, by have h9 := hdr.2; rw [show ((nn + 1 : Nat) : Int) = (nn : Int) + 1 from by omega]; exact h9⟩), Lib.hid zSlTdr1_5⟩
 have hyb : (yk == 0) = false := by simpa using hy
 obtain ⟨⟨CN, PN, NN, LL, EE⟩, hD⟩ : ∃ z, z = doeV CC PP yk yo yV yS yP yQ yv yh yn := ⟨_, rfl⟩
 have HD9 := Lib.hid (fun hE => doeV_ok HK_.out.2.1 HK_.out.2.2 HN.out.wn HN.out.k0 HN.out.k2 hD hE)
 have HDR := Lib.hid (fun hE => DrI.act HK_.out.1 HK_.out.2.1 HK_.out.2.2 HD.out.1 HN.out.wn hk01 (fun hh => qk (.inr hh)) hD hE HD.out.2)
 have CD := Lib.hid (fun (w' : World) (hx : Ext wr w') => does13_in m1 m2 G G2 CC PP yk yo yV yS yP yQ yv yh yn CN PN NN EE LL w' (SLs.out w' hx).1 (SLs.out w' hx).2 (by omega) (by omega) DW.out.n1 DW.out.n2 HK_.out.2.1 HK_.out.2.2 HN.out.wn HN.out.k0 HN.out.k2 hD)
 clear hD qk hk01
 go_wp2_with fail
 (with_reducible refine (CD.out _ zxt).mono ?_)
 rintro e w71 ⟨B3, d3, B4, d4, A9, c9, rfl, nB3, nB4, hO3, hO4, hO9, hx71⟩
 replace i_0f := zf hx71 i_0 i_0f
 replace i_1f := zf hx71 i_1 i_1f
 replace i_0 := zh hx71 i_0
 replace i_1 := zh hx71 i_1
 have z71 := hx71.size
 try simp at z71
 have ri := zr w2.heap.size w71
 have X71 : Hid (Ext wr w71) := Lib.hid (Ext.trans zxt hx71)
 have HA := Lib.hid (show OwnCls _ wr.heap.size _ _ _ from own_lower hO3 zSlTdr1_9)
 have HB := Lib.hid (show OwnPos _ wr.heap.size _ _ _ from own_lower hO4 zSlTdr1_9)
 clear y_5 y_2 y_4 y_0 y_3 y_1 x_8 x_3f x_4 x_5 x_4f x_0 x_7 x_5f x_6 x_2f x_2 x_1 x_3 X70 hx71
 have RA := Lib.hid (own_rng hO3)
 have RB := Lib.hid (own_rng hO4)
 clear hO3 hO4 hO9
 by_cases hE : ¬ EE = 0
 ·have hEb : (EE == 0) = false := by simpa using hE
  go_wp2_with fail
  go_roundg (gk - 1)
  case measure => have := HK1.out; omega
  exact ⟨by have := HK1.out; omega, num_eq (by have := HK1.out; omega), CC, PP, G, G2, m1, m2, nn, rfl, by have := HK1.out; omega, Lib.hid (DW.out.ext zxt), HK_, by have := HK1.out; omega, by have := HK1.out; omega, HD, Lib.hid (Ext.trans XW.out zxt)⟩
 replace hE : EE = 0 := by omega
 subst hE
 go_wp2_with fail
 obtain ⟨_, ok2, wd1, wd2, ln1, ln2, _⟩ := HD9.out (by trivial)
 have hdr := HDR.out (by trivial)
 go_roundg (gk - 1)
 case measure => have := HK1.out; omega
 exact ⟨by have := HK1.out; omega, num_eq (by have := HK1.out; omega), CN, PN, B3, B4, d3, d4, nn + 1, num_eq (by first | omega | (rw [HNW.out]; omega)), by have := HK1.out; omega, Lib.hid (DrW.turn DW.out zSlTdr1_4 (by omega) (by omega) (show Bk _ _ (.slice B3 CN.length d3) (.slice B4 PN.length d4) from ⟨zcv, zcv, zcv, zcv⟩) nB3 nB4 (show OwnCls _ w.heap.size _ _ _ from own_lower (show OwnCls _ wr.heap.size (.slice B3 CN.length d3) CN.length CN from zSlTdr1_3) (by omega)) (show OwnPos _ w.heap.size _ _ _ from own_lower (show OwnPos _ wr.heap.size (.slice B4 PN.length d4) PN.length PN from zSlTdr1_2) (by omega)) (fun j hj hh => by have h9 := (RA.out j hj).1; first | omega | (simp at h9; omega) | (simp [go_sem] at h9; omega)) (fun j hj hh => by have h9 := (RB.out j hj).1; first | omega | (simp at h9; omega) | (simp [go_sem] at h9; omega))), Lib.hid ⟨ok2, wd1, wd2⟩, by have := HK1.out; omega, by have := HK1.out; omega, Lib.hid (show _ ∧ DrI _ _ _ _ _ ((nn + 1 : Nat) : Int) from ⟨hdr.1, by have h9 := hdr.2; rw [show ((nn + 1 : Nat) : Int) = (nn : Int) + 1 from by omega]; exact h9⟩), Lib.hid zSlTdr1_5⟩
theorem HoldingDrifts_long (A A1 : Option Addr) (c n c1 m : Nat) (x3 : Int) (w : World) (hl : ¬ n ≤ 30 ∨ ¬ m ≤ 20) (hs : n ≤ 9223372036854775807) (hs2 : m ≤ 9223372036854775807) :
  Calls Tryz.prog 8 #[.slice A n c, .slice A1 m c1, .int .i64 x3] w fun r w' => r = .returned (.bool true) ∧ Ext w w' := by
 go_enter Tryz.func8, Tryz.ntmps8
 go_wp2_with fail
 (with_reducible refine (known13_any _).mono ?_)
 rintro e w1 ⟨rfl, hx1⟩
 have z1 := hx1.size
 try simp at z1
 have X1 : Hid (Ext w w1) := Lib.hid (Ext.trans zxt hx1)
 clear hx1 z1
 by_cases h0 : (30 : Int) < (n : Int)
 ·skip
  go_wp2_with fail
  go_ret
  exact ⟨rfl, zxt⟩
 have h1 : (20 : Int) < (m : Int) := by omega
 go_wp2_with fail
 go_ret
 exact ⟨rfl, zxt⟩
theorem HoldingDrifts_any (AL : Option Addr) (cL : Nat) (acts : List I9) (AM : Option Addr) (cM : Nat) (more : List I9) (x3 : Int) (f3 : Fits .i64 x3) (w : World) (hL : Sl w 9 AL acts.length cL (acts.flatMap actC)) (fA : ∀ x ∈ acts, FitsA x) (gA : AL = none → cL = 0) (hL2 : Sl w 9 AM more.length cM (more.flatMap actC)) (fA2 : ∀ x ∈ more, FitsA x) (gA2 : AM = none → cM = 0) :
  Calls Tryz.prog 8 #[.slice AL acts.length cL, .slice AM more.length cM, .int .i64 x3] w fun r w' => r = .returned (.bool true) ∧ Ext w w' := by
 by_cases hl : acts.length ≤ 30 ∧ more.length ≤ 20
 ·exact HoldingDrifts_main AL cL acts AM cM more x3 f3 w hL fA hL2 fA2 hl.1 hl.2
 exact HoldingDrifts_long AL AM cL acts.length cM more.length x3 w (by omega) hL.small hL2.small
end
end Go.Proofs.YtkinchgjidpjnaaGreat
